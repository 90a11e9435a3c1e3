/- Part 1 of 6 of the proof. -/
import Derived.WalkKit
import Derived.OwnWalkIn
import Derived.TacticsInMore
import Derived.OrdersIn
import Derived.RangeFuncCalls
import Derived.Below
import Derived.Laws.AppendOwn
import Derived.Laws.OwnMore
import Derived.Laws.CopyRow
import Derived.Laws.BitsAllLaws
import Derived.OrdersHeld
import Derived.MapKept
import Derived.Laws.StructEq
import Derived.Laws.IdiomCopy
import Derived.Laws.MakeOwn
import Derived.RangeFuncNested
import Derived.RangeFuncLeaves
import Derived.RangeFuncBound
import Derived.Laws.IdiomStrings
import Derived.ProofKit
import Derived.Deep.Slices
set_option linter.unusedSimpArgs false
set_option linter.unusedVariables false
set_option maxRecDepth 100000
namespace Go.Proofs.YtldjgdggcodgeaaGreat
open Go.RowKit
section
def WF(r:Option Nat):Fence:={ Fence.wide with round:=r }
structure c2(n:Nat) (D:List Deferred) (L:List (Nat×Value)) (a:Act):Prop where
 size:a.tmps.size=n
 defs:a.defers=D
 has:∀ s v,L.lookup s=some v->a.tmps[s]?=some v
def aE(L:List (Nat×Value)):Operand->Option Value
 | .tmp s=>L.lookup s
 | .const v=>some v
 | .global g=>some (.pointer (some ⟨g,0,none⟩))
 | .func f=>some (.func (.func f) #[] #[])
def iq(L:List (Nat×Value)):List Operand->Option (List Value)
 | []=>some []
 | x :: xs=>match aE L x,iq L xs with
  | some v,some l=>some (v :: l)
  | _,_=>none
section
variable {n:Nat} {D:List Deferred} {L:List (Nat×Value)} {a:Act}
theorem c2.aE(h:c2 n D L a) {x:Operand} {v:Value} (ah:aE L x=some v):a.eval x=v:=by
 cases x with
 | tmp s=>
  have J:=h.has s v ah;show a.tmps.getD s undef=v;rw[Array.getD_eq_getD_getElem?,J]; rfl
 | const u=>exact Option.some.inj ah
 | global g=>exact Option.some.inj ah
 | func f=>exact Option.some.inj ah
theorem c2.iq(h:c2 n D L a):∀ {xs:List Operand} {vs:List Value},iq L xs=some vs->xs.map a.eval=vs
 | [],vs,ah=>by cases ah; rfl
 | x :: xs,vs,ah=>by
  unfold YtldjgdggcodgeaaGreat.iq at ah;cases J:YtldjgdggcodgeaaGreat.aE L x with
  | none=>rw[J]at ah; cases ah
  | some v=>
   cases U:YtldjgdggcodgeaaGreat.iq L xs with
   | none=>rw[J,U]at ah; cases ah
   | some l=>
    rw[J,U]at ah;cases ah;rw[List.map_cons,h.aE J,h.iq U]
theorem c2.put(h:c2 n D L a) (d:Nat) (v:Value) (ax:d < n):c2 n D ((d,v) :: L) (a.put (some d) v):=by
 refine⟨?_,h.defs,fun s u aj=>?_⟩
 ·simpa [Act.put] using h.size
 ·by_cases e:s=d
  ·subst e
   simp at aj
   subst aj
   simp[Act.put,h.size,ax]
  ·have:(s == d)=false:=by simpa using e
   rw[List.lookup_cons,this]at aj;simp only[Act.put];rw[Array.getElem?_setIfInBounds_ne (fun cu=>e cu.symm)];exact h.has s u aj
end
/-! ### One operation -/
section
variable {r:Option Nat} {P:Program} {ops:Array Oper} {Q:Exit->Act->World->Prop} {o:Oper} {KK:Act->World->Prop}
variable {n:Nat} {D:List Deferred} {L:List (Nat×Value)} {a:Act} {w:World}
abbrev pF (r:Option Nat) (P:Program) (ops:Array Oper) (Q:Exit->Act->World->Prop) (l:List Oper) (a:Act) (w:World):Prop:=wpListIn (WF r) 0 P ops Q l a w
def w7(P:Program) (o:Oper) (a:Act) (w:World) (D6:Value->World->Prop):Prop:=
 (∃ v w',(execOp a.eval o).run P w=.ok (.value v) w'/\D6 v w')\/(∃ w',(execOp a.eval o).run P w=.ok .skip w'/\D6 undef w') \/
 (∃ f args b0,(execOp a.eval o).run P w=.ok (.enter f args) b0/\Calls P f args b0 fun e w'=>∃ v,e=.returned v/\D6 v w')
def eW(P:Program) (ops:Array Oper) (o:Oper) (KK:Act->World->Prop) (a:Act) (w:World):Prop:=
 (Region.wanted o (yielded ops a.tmps)=true/\w7 P o a w fun v w'=>KK (a.put o.dst v) w')\/(Region.wanted o (yielded ops a.tmps)=false/\KK (a.put o.dst undef) w)
theorem D7{x:Next} {w':World} (h:(execOp a.eval o).run P w=.ok x w') (ah:∀ d,x≠.defer d) (c:Call):o.op≠.defer c:=by
 intro aA;simp only[execOp,aA,Sem.run_bind]at h;cases au:(resolve a.eval c o.type).run P w with
 | ok d b0=>
  rw[au]at h
  simp at h
  exact ah d h.1.symm
 | halt y b0=>rw[au]at h; simp[Result.andThen]at h
theorem D8(h:∀ c,o.op≠.defer c):o.semAt r a.eval=execOp a.eval o:=by
 cases r with
 | none=>rfl
 | some l=>exact Oper.semAt_some l _ _ h
theorem eW.fenced(h:eW P ops o KK a w) :
  if Region.wanted o (yielded ops a.tmps)=true then Oper.wpIn (WF r) 0 P o a w KK Q else(∀ f,o.about P w a.eval=some f->(WF r).fn f)/\KK (a.put o.dst undef) w:=by
 rcases h with⟨hw,h⟩ | ⟨hw,h⟩
 ·rw[if_pos hw]
  refine⟨fun _ _=>trivial,?_⟩;show Oper.uponIn _ _ _ _ _ _ _ ((o.semAt r a.eval).run P w)
  rcases h with⟨v,w',au,ab⟩ | ⟨w',au,ab⟩ | ⟨f,args,b0,au,aa⟩
  ·rw[D8 (D7 au (fun _ h=>by cases h)),au]; exact ab
  ·rw[D8 (D7 au (fun _ h=>by cases h)),au]; exact ab
  ·rw[D8 (D7 au (fun _ h=>by cases h)),au]
   refine⟨(fun h=>by cases h),?_⟩;have Rj:=(callsIn_wide (n:=0)).2 aa;refine CallsIn.mono (F:=WF r) Rj ?_;rintro e w' ⟨v,rfl,aw⟩;exact aw
 ·rw[if_neg (by rw[hw]; simp)]
  exact⟨fun _ _=>trivial,h⟩
theorem D9{rest:List Oper} (h:eW P ops o (pF r P ops Q rest) a w):pF r P ops Q (o :: rest) a w:=eW.fenced h
theorem hv{v:Value} {w':World} {d:Nat} (aJ:c2 n D L a) (dx:o.guard=none) (dU:o.dst=some d) (ax:d < n)
  (dW:(execOp a.eval o).run P w=.ok (.value v) w') (h:∀ aW,c2 n D ((d,v) :: L) aW->KK aW w'):eW P ops o KK a w:=
 .inl ⟨by simp[Region.wanted,dx],.inl ⟨v,w',dW,h _ (by rw[dU]; exact aJ.put d v ax)⟩⟩
theorem Ea{w':World} (aJ:c2 n D L a) (dx:o.guard=none) (dU:o.dst=none)
  (dW:(execOp a.eval o).run P w=.ok .skip w') (h:∀ aW,c2 n D L aW->KK aW w'):eW P ops o KK a w:=
 .inl ⟨by simp[Region.wanted,dx],.inr (.inl ⟨w',dW,h _ (by rw[dU]; exact aJ)⟩)⟩
theorem J4(h:Q .normal a w):pF r P ops Q [] a w:=h
end
end

section
structure bC where
  desc:TypeDesc
  size:Nat
  bytes:Nat
  zero:Value
def bC.ok(P:Program) (t:TypeId) (i:bC):Prop:=
  P.underlying t=some i.desc/\(P.info? t).map (fun x=>(x.size,x.bytes,x.zero))=some (i.size,i.bytes,some i.zero)
def gg(P:Program) (T:List (TypeId×bC)):Prop:=∀ t i,T.lookup t=some i->bC.ok P t i
theorem gg.nil(P:Program):gg P []:=fun _ _ h=>by cases h
theorem gg.cons{P:Program} {T:List (TypeId×bC)} {t:TypeId} {i:bC} (h:bC.ok P t i) (ca:gg P T):gg P ((t,i) :: T):=fun s j aj=>by
  rw[List.lookup_cons]at aj
  by_cases e:(s == t)=true
  · rw[e]at aj
    have aC:s=t:=by simpa using e
    have a1:i=j:=Option.some.inj aj;subst aC; subst a1; exact h
  · have cu:(s == t)=false:=by simpa using e
    rw[cu]at aj;exact ca s j aj
theorem bC.info{P:Program} {t:TypeId} {i:bC} (h:bC.ok P t i):∃ x,P.info? t=some x/\x.size=i.size/\x.bytes=i.bytes/\x.zero=some i.zero:=by
  have U:=h.2;cases ah:P.info? t with
  | none=>rw[ah]at U; cases U
  | some x=>
    rw[ah]at U;simp only[Option.map_some,Option.some.injEq,Prod.mk.injEq]at U;exact⟨x,rfl,U.1,U.2.1,U.2.2⟩
def jO:TypeDesc->Bool
  | .struct _ | .array _ _=>true
  | _=>false
section
variable {P:Program} {t:TypeId} {i:bC} (h:bC.ok P t i) (w:World)
include h
theorem bC.w8:(isAgg t).run P w=.ok (jO i.desc) w:=by
  have ax:=h.1;unfold isAgg;simp only[Sem.run_bind,run_underlying ax,Result.andThen_ok];cases i.desc<;>simp[jO]
theorem bC.run_sizeOf:(sizeOf t).run P w=.ok i.size w:=by
  obtain⟨x,ah,J,_⟩:=bC.info h
  simp[sizeOf,typeInfo,ah,J]
theorem bC.sf:(zeroValue t).run P w=.ok i.zero w:=by
  obtain⟨x,ah,_,_,ag⟩:=bC.info h
  simp[zeroValue,typeInfo,ah,ag]
end
structure dm(B:Nat->Prop) (w w':World):Prop where
  os:w'.os=w.os
  tape:w'.tape=w.tape
  output:w'.output=w.output
  size:w.heap.size<=w'.heap.size
  block:∀ k,B k->w'.heap[k]?=w.heap[k]?
theorem dm.refl(B:Nat->Prop) (w:World):dm B w w:=⟨rfl,rfl,rfl,Nat.le_refl _,fun _ _=>rfl⟩
theorem dm.trans{B:Nat->Prop} {a b c:World} (h:dm B a b) (k:dm B b c):dm B a c:=
  ⟨k.os.trans h.os,k.tape.trans h.tape,k.output.trans h.output,Nat.le_trans h.size k.size,fun i hi=>(k.block i hi).trans (h.block i hi)⟩
theorem dm.cell{B:Nat->Prop} {w w':World} (h:dm B w w') {p:Addr} (an:B p.block):w'.cell? p=w.cell? p:=World.cell?_of_block (w:=w) (h.block p.block an)
theorem dm.Rk{w w':World} {B:Nat->Prop} (h:Below w.heap.size w w') (cH:∀ k,B k->k < w.heap.size):dm B w w':=⟨h.os,h.tape,h.output,h.size,fun k ab=>h.block k (cH k ab)⟩
def ey(w:World) (B:Nat->Prop) (e:TypeId) (size:Nat) (A:Option Addr) (c n:Nat) (xs:List Value):Prop:=
  xs.length=n * size/\((A=none/\n=0/\c=0)\/∃ g cur de,A=some ⟨g,0,none⟩/\¬ B g/\w.heap[g]?=some (.cells cur e de)/\(de.1=de.2\/cur.size<=de.1)/\n<=c/\c<=maxLen/\cur.size=c * size/\cur.toList.take (n * size)=xs)
theorem ey.lt{w:World} {B:Nat->Prop} {e:TypeId} {size c n:Nat} {A:Option Addr} {xs:List Value} (h:ey w B e size A c n xs) {b:Nat} (ae:A.map (·.block)=some b):¬ B b/\b < w.heap.size:=by
  rcases h.2 with⟨rfl,_⟩ | ⟨g,cur,de,rfl,aV,b1,_⟩
  · cases ae
  · have:g=b:=Option.some.inj ae
    subst this;exact⟨aV,(Array.getElem?_eq_some_iff.1 b1).1⟩
theorem ey.e6{w w':World} {B:Nat->Prop} {e:TypeId} {size c n:Nat} {A:Option Addr} {xs:List Value} (h:ey w B e size A c n xs) (ab:∀ b,A.map (·.block)=some b->w'.heap[b]?=w.heap[b]?):ey w' B e size A c n xs:=by
  refine⟨h.1,?_⟩
  rcases h.2 with a6 | ⟨g,cur,de,rfl,ae,Eb,rest⟩
  · exact .inl a6
  · exact .inr ⟨g,cur,de,rfl,ae,(ab g rfl).trans Eb,rest⟩
theorem ey.base{w:World} {B B':Nat->Prop} {e:TypeId} {size c n:Nat} {A:Option Addr} {xs:List Value} (h:ey w B e size A c n xs) (cH:∀ b,A.map (·.block)=some b->¬ B' b):ey w B' e size A c n xs:=by
  refine⟨h.1,?_⟩
  rcases h.2 with a6 | ⟨g,cur,de,rfl,ae,rest⟩
  · exact .inl a6
  · exact .inr ⟨g,cur,de,rfl,cH g rfl,rest⟩
structure fY where
  A:Option Addr
  c:Nat
  e:TypeId
  size:Nat
  n:Nat
  xs:List Value
def fY.has(r:fY) (b:Nat):Prop:=r.A.map (·.block)=some b
def fY.ok(B:Nat->Prop) (w:World) (r:fY):Prop:=ey w B r.e r.size r.A r.c r.n r.xs
def fY.off(r s:fY):Prop:=∀ b,r.has b->¬ s.has b
inductive bc where
  | obj (b:Nat) (o:Obj)
  | gu (b:Nat) (cs:List Value) (e:TypeId)
  | row (A:Option Addr) (c:Nat) (e:TypeId) (size n:Nat) (xs:List Value)
  | tree (rs:List fY)
def bc.has:bc->Nat->Prop
  | .obj b _,k=>some b=some k
  | .gu b _ _,k=>some b=some k
  | .row A _ _ _ _ _,k=>A.map (·.block)=some k
  | .tree rs,k=>∃ r∈rs,r.has k
def bc.ok(B:Nat->Prop) (w:World):bc->Prop
  | .obj b o=>¬ B b/\w.heap[b]?=some o
  | .gu b cs e=>¬ B b/\w.heap[b]?=some (.cells cs.toArray e)
  | .row A c e size n xs=>ey w B e size A c n xs
  | .tree rs=>(∀ r∈rs,r.ok B w)/\rs.Pairwise fY.off
def bc.off(c d:bc):Prop:=∀ b,c.has b->¬ d.has b
structure bK(B:Nat->Prop) (ai:World) (H:List bc) (w:World):Prop where
  below:dm B ai w
  base:∀ k,B k->k < w.heap.size
  ok:∀ c∈H,c.ok B w
  apart:H.Pairwise bc.off
abbrev Rl (W:World) (H:List bc) (w:World):Prop:=bK (fun k=>k < W.heap.size) W H w
theorem bc.ok.lt{B:Nat->Prop} {w:World} {c:bc} (h:c.ok B w) {b:Nat} (ae:c.has b):¬ B b/\b < w.heap.size:=by
  cases c with
  | obj b' o=>
    have:b'=b:=Option.some.inj ae
    subst this;exact⟨h.1,(Array.getElem?_eq_some_iff.1 h.2).1⟩
  | gu b' cs e=>
    have:b'=b:=Option.some.inj ae
    subst this;exact⟨h.1,(Array.getElem?_eq_some_iff.1 h.2).1⟩
  | row A c e size n xs=>exact ey.lt h ae
  | tree rs=>
    obtain⟨r,au,ae⟩:=ae;exact ey.lt (h.1 r au) ae
theorem bc.ok.e6{B:Nat->Prop} {w w':World} {c:bc} (h:c.ok B w) (ab:∀ b,c.has b->w'.heap[b]?=w.heap[b]?):c.ok B w':=by
  cases c with
  | obj b o=>exact⟨h.1,(ab b rfl).trans h.2⟩
  | gu b cs e=>exact⟨h.1,(ab b rfl).trans h.2⟩
  | row A c e size n xs=>exact ey.e6 h ab
  | tree rs=>exact⟨fun r au=>ey.e6 (h.1 r au) fun b ae=>ab b ⟨r,au,ae⟩,h.2⟩
theorem bc.ok.base{B B':Nat->Prop} {w:World} {c:bc} (h:c.ok B w) (cH:∀ b,c.has b->¬ B' b):c.ok B' w:=by
  cases c with
  | obj b o=>exact⟨cH b rfl,h.2⟩
  | gu b cs e=>exact⟨cH b rfl,h.2⟩
  | row A c e size n xs=>exact ey.base h cH
  | tree rs=>exact⟨fun r au=>ey.base (h.1 r au) fun b ae=>cH b ⟨r,au,ae⟩,h.2⟩
section
variable {B:Nat->Prop} {ai w w':World} {H:List bc}
theorem bK.start(w:World):Rl w [] w:=⟨dm.refl _ _,fun _ h=>h,(fun _ h=>by cases h),List.Pairwise.nil⟩
theorem bK.Rm(h:bK B ai H w) (ae:Below w.heap.size w w'):bK B ai H w':=
  ⟨h.below.trans (dm.Rk ae h.base),fun k ab=>Nat.lt_of_lt_of_le (h.base k ab) ae.size,fun c aa=>(h.ok c aa).e6 fun b e=>ae.block b ((h.ok c aa).lt e).2,h.apart⟩
theorem bK.drew(h:bK B ai H w):bK B ai H w.drew:=⟨⟨h.below.os,h.below.tape,h.below.output,h.below.size,h.below.block⟩,h.base,fun c aa=>(h.ok c aa).e6 fun _ _=>rfl,h.apart⟩
theorem bK.fresh(h:bK B ai H w):¬ B w.heap.size:=fun ae=>Nat.lt_irrefl _ (h.base _ ae)
theorem bK.alloc(h:bK B ai H w) (o:Obj):bK B ai (.obj w.heap.size o :: H) (w.alloc o):=by
  have ae:=h.Rm ((Below.refl w.heap.size w).alloc (Nat.le_refl _) o);exact⟨ae.below,ae.base,fun c aa=>by
    rcases List.mem_cons.1 aa with rfl | aa
    · exact⟨h.fresh,heap_alloc_new w o⟩
    · exact ae.ok c aa,
   List.Pairwise.cons (fun c aa b e cu=>by have:=((h.ok c aa).lt cu).2; have e:w.heap.size=b:=Option.some.inj e; omega) h.apart⟩
theorem bK.AA(h:bK B ai H w) (cs:List Value) (e:TypeId):bK B ai (.gu w.heap.size cs e :: H) (w.alloc (.cells cs.toArray e)):=by
  have J:=h.alloc (.cells cs.toArray e);exact⟨J.below,J.base,fun c aa=>by
    rcases List.mem_cons.1 aa with rfl | aa
    · exact J.ok (.obj w.heap.size (.cells cs.toArray e)) (by simp)
    · exact J.ok c (List.mem_cons_of_mem _ aa),by
    obtain⟨U,ag⟩:=List.pairwise_cons.1 J.apart;exact List.Pairwise.cons (fun c aa b e=>U c aa b e) ag⟩
theorem bK.en(h:bK B ai H w) {H':List bc} (aj:H'.Sublist H):bK B ai H' w:=
  ⟨h.below,h.base,fun c aa=>h.ok c (aj.subset aa),h.apart.sublist aj⟩
theorem bK.perm(h:bK B ai H w) {H':List bc} (an:H.Perm H'):bK B ai H' w:=
  ⟨h.below,h.base,fun c aa=>h.ok c (an.mem_iff.2 aa),(List.Perm.pairwise_iff (fun {c d} Rn b e cu=>Rn b cu e) an).1 h.apart⟩
end
def Rest(w:World) (H:List bc) (k:Nat):Prop:=k < w.heap.size/\∀ c∈H,¬ c.has k
theorem bK.rest{B:Nat->Prop} {ai w:World} {H:List bc} (h:bK B ai H w):bK (Rest w H) w H w:=
  ⟨dm.refl _ _,fun _ ab=>ab.1,fun c aa=>(h.ok c aa).base fun b e au=>au.2 c aa e,h.apart⟩
theorem bK.back{B:Nat->Prop} {ai w w':World} {H H':List bc} (h:bK B ai H w) (a8:bK (Rest w H) w H' w'):bK B ai H' w':=by
  have au:∀ k,B k->Rest w H k:=fun k ab=>⟨h.base k ab,fun c aa e=>((h.ok c aa).lt e).1 ab⟩
  exact⟨h.below.trans ⟨a8.below.os,a8.below.tape,a8.below.output,a8.below.size,fun k ab=>a8.below.block k (au k ab)⟩,fun k ab=>a8.base k (au k ab),
    fun c aa=>(a8.ok c aa).base fun b e cH=>((a8.ok c aa).lt e).1 (au b cH),a8.apart⟩
def iK(H:List bc) (c:bc) (K:bc->List bc):Prop:=∃ X Y,H=X++c :: Y/\K=fun c'=>X++c' :: Y
theorem uo{c:bc} {H:List bc}:iK (c :: H) c (fun c'=>c' :: H):=⟨[],H,rfl,rfl⟩
section
variable {B:Nat->Prop} {ai w w':World} {H:List bc} {c:bc} {K:bc->List bc}
theorem iK.mem(h:iK H c K):c∈H:=by obtain⟨X,Y,rfl,_⟩:=h; simp
theorem bK.sg(h:bK B ai H w) (az:iK H c K) {c':bc} (ae:dm B w w') (aa:c'.ok B w')
    (jP:∀ b,c'.has b->c.has b\/w.heap.size<=b) (ab:∀ b,b < w.heap.size->¬ c.has b->w'.heap[b]?=w.heap[b]?):bK B ai (K c') w':=by
  obtain⟨X,Y,rfl,rfl⟩:=az;have an:=h.apart;have e6:∀ d∈X++c :: Y,bc.off c d->d.ok B w':=fun d ax bb=>(h.ok d ax).e6 fun b e=>ab b ((h.ok d ax).lt e).2 (fun cu=>bb b cu e)
  rw[List.pairwise_append,List.pairwise_cons]at an;obtain⟨av,⟨J5,ck⟩,Ec⟩:=an;refine⟨h.below.trans ae,fun k ab=>Nat.lt_of_lt_of_le (h.base k ab) ae.size,fun d ax=>?_,?_⟩
  · rcases List.mem_append.1 ax with ax | ax
    · exact e6 d (by simp[ax]) (fun b e cu=>Ec d ax c (by simp) b cu e)
    · rcases List.mem_cons.1 ax with rfl | ax
      · exact aa
      · exact e6 d (by simp[ax]) (J5 d ax)
  · rw[List.pairwise_append,List.pairwise_cons]
    refine⟨av,⟨fun d ax b e cu=>?_,ck⟩,fun d ax x ah b e cu=>?_⟩
    · rcases jP b e with a1 | a1
      · exact J5 d ax b a1 cu
      · have:=((h.ok d (by simp[ax])).lt cu).2; omega
    · rcases List.mem_cons.1 ah with rfl | ah
      · rcases jP b cu with a1 | a1
        · exact Ec d ax c (by simp) b e a1
        · have:=((h.ok d (by simp[ax])).lt e).2; omega
      · exact Ec d ax x (by simp[ah]) b e cu
end
theorem ey.at{w:World} {B:Nat->Prop} {e:TypeId} {size c n:Nat} {A:Option Addr} {xs:List Value} (h:ey w B e size A c n xs) (a6:0 < n):∃ b,A=some ⟨b,0,none⟩:=by
  rcases h.2 with⟨_,h0,_⟩ | ⟨g,cur,de,al,_⟩
  · omega
  · exact⟨g,al⟩
def fY.dz(r:fY):bc:=.row r.A r.c r.e r.size r.n r.xs
section
variable {B:Nat->Prop} {ai w:World} {H X Y:List bc} {r:fY} {I eJ:List fY}
theorem bK.Ro(h:bK B ai (.tree (r :: I) :: H) w):bK B ai (r.dz :: .tree I :: H) w:=by
  obtain⟨J,U⟩:=h.ok _ List.mem_cons_self;obtain⟨ag,ay⟩:=List.pairwise_cons.1 U;obtain⟨aO,aK⟩:=List.pairwise_cons.1 h.apart;refine⟨h.below,h.base,fun c aa=>?_,List.Pairwise.cons (fun c aa b ae eX=>?_) (List.Pairwise.cons (fun c aa b ae eX=>?_) aK)⟩
  · rcases List.mem_cons.1 aa with rfl | aa
    · exact J r List.mem_cons_self
    · rcases List.mem_cons.1 aa with rfl | aa
      · exact⟨fun s aj=>J s (List.mem_cons_of_mem _ aj),ay⟩
      · exact h.ok c (List.mem_cons_of_mem _ aa)
  · rcases List.mem_cons.1 aa with rfl | aa
    · obtain⟨s,aj,hd⟩:=eX
      exact ag s aj b ae hd
    · exact aO c aa b ⟨r,List.mem_cons_self,ae⟩ eX
  · obtain⟨s,aj,hd⟩:=ae
    exact aO c aa b ⟨s,List.mem_cons_of_mem _ aj,hd⟩ eX
theorem bK.Ed(h:bK B ai (r.dz :: .tree I :: H) w):bK B ai (.tree (r :: I) :: H) w:=by
  have J:=h.ok _ List.mem_cons_self;obtain⟨U,w9⟩:=h.ok (.tree I) (by simp);obtain⟨ag,ay⟩:=List.pairwise_cons.1 h.apart;obtain⟨aO,aK⟩:=List.pairwise_cons.1 ay;refine⟨h.below,h.base,fun c aa=>?_,List.Pairwise.cons (fun c aa b ae eX=>?_) aK⟩
  · rcases List.mem_cons.1 aa with rfl | aa
    · refine⟨fun s aj=>?_,List.Pairwise.cons (fun s aj b ae eX=>ag (.tree I) List.mem_cons_self b ae ⟨s,aj,eX⟩) w9⟩
      rcases List.mem_cons.1 aj with rfl | aj
      · exact J
      · exact U s aj
    · exact h.ok c (by simp[aa])
  · obtain⟨s,aj,hd⟩:=ae
    rcases List.mem_cons.1 aj with rfl | aj
    · exact ag c (List.mem_cons_of_mem _ aa) b hd eX
    · exact aO c aa b ⟨s,aj,hd⟩ eX
theorem oG{c:bc}:(X++c :: Y).Perm (c :: (X++Y)):=List.perm_middle
theorem bK.AB(h:bK B ai (X++.tree (r :: I) :: Y) w):bK B ai (r.dz :: (X++.tree I :: Y)) w:=
  ((h.perm oG).Ro).perm (List.Perm.cons _ oG.symm)
theorem bK.J6(h:bK B ai (r.dz :: (X++.tree I :: Y)) w):bK B ai (X++.tree (r :: I) :: Y) w:=
  ((h.perm (List.Perm.cons _ oG)).Ed).perm oG.symm
theorem fY.Rp{r s:fY} (h:r.off s):s.off r:=fun b J U=>h b U J
theorem bK.xa(h:bK B ai (X++.tree I :: Y) w) (aj:∃ eE,I.Perm eE/\eJ.Sublist eE):bK B ai (X++.tree eJ :: Y) w:=by
  obtain⟨eE,an,aj⟩:=aj;have hm:∀ s∈eJ,s∈I:=fun s hd=>an.mem_iff.2 (aj.subset hd)
  have a8:=h.perm oG;obtain⟨J,U⟩:=a8.ok _ List.mem_cons_self;obtain⟨aO,aK⟩:=List.pairwise_cons.1 a8.apart;refine bK.perm (H:=.tree eJ :: (X++Y)) ⟨h.below,h.base,fun c aa=>?_,List.Pairwise.cons (fun c aa b ae eX=>?_) aK⟩ oG.symm
  · rcases List.mem_cons.1 aa with rfl | aa
    · exact⟨fun s aj=>J s (hm s aj),((List.Perm.pairwise_iff (fun h=>fY.Rp h) an).1 U).sublist aj⟩
    · exact a8.ok c (List.mem_cons_of_mem _ aa)
  · obtain⟨s,aj,hd⟩:=ae
    exact aO c aa b ⟨s,hm s aj,hd⟩ eX
end
end

section
structure Sym(n:Nat) (D:List Deferred) (L:List (Nat×Value)) (B:Nat->Prop) (ai:World) (H:List bc) (a:Act) (w:World):Prop where
 st:c2 n D L a
 aU:bK B ai H w
theorem dK{a b:Nat} (h:Nat.blt a b=true):a < b:=Nat.le_of_ble_eq_true h
section
variable {r:Option Nat} {P:Program} {ops:Array Oper} {Q:Exit->Act->World->Prop} {o:Oper} {KK:Act->World->Prop}
variable {n:Nat} {D:List Deferred} {L:List (Nat×Value)} {B:Nat->Prop} {ai:World} {H:List bc} {a:Act} {w:World}
variable {T:List (TypeId×bC)} {d:Nat}
def fg(P:Program) (o:Oper) (a:Act) (v:Value):Prop:=∀ w,(execOp a.eval o).run P w=.ok (.value v) w
theorem Sym.aE(av:Sym n D L B ai H a w) {x:Operand} {v:Value} (ah:aE L x=some v):a.eval x=v:=av.st.aE ah
theorem pG{v:Value} {w':World} {H':List bc} (av:Sym n D L B ai H a w) (bb:o.guard=none/\o.dst=some d) (ax:Nat.blt d n=true)
  (dW:(execOp a.eval o).run P w=.ok (.value v) w') (ec:bK B ai H' w') (h:∀ aW w',Sym n D ((d,v) :: L) B ai H' aW w'->KK aW w'):eW P ops o KK a w:=
 hv av.st bb.1 bb.2 (dK ax) dW fun aW aJ=>h aW w' ⟨aJ,ec⟩
theorem J7{w':World} {H':List bc} (av:Sym n D L B ai H a w) (bb:o.guard=none/\o.dst=none)
  (dW:(execOp a.eval o).run P w=.ok .skip w') (ec:bK B ai H' w') (h:∀ aW w',Sym n D L B ai H' aW w'->KK aW w'):eW P ops o KK a w:=
 Ea av.st bb.1 bb.2 dW fun aW aJ=>h aW w' ⟨aJ,ec⟩
theorem J8{x:Operand} {v:Value} (aJ:c2 n D L a) (aA:o.op=.move x)
  (ah:aE L x=some v):fg P o a (v):=fun w=>by simp only[execOp,aA,Sem.run_pure,aJ.aE ah]
theorem J9{x:Operand} {v:Value} (aJ:c2 n D L a) (aA:o.op=.assign x)
  (ah:aE L x=some v):fg P o a (v):=fun w=>by simp only[execOp,aA,Sem.run_pure,aJ.aE ah]
theorem Ka{c x y:Operand} {g:Bool} {v:Value} (aJ:c2 n D L a) (aA:o.op=.pick c x y)
  (aa:aE L c=some (.bool g)) (aV:g=true) (ah:aE L x=some v):fg P o a (v):=fun w=>by subst aV; simp[execOp,aA,aJ.aE aa,aJ.aE ah,asBool]
theorem Kb{c x y:Operand} {g:Bool} {v:Value} (aJ:c2 n D L a) (aA:o.op=.pick c x y)
  (aa:aE L c=some (.bool g)) (aV:g=false) (ah:aE L y=some v):fg P o a (v):=fun w=>by subst aV; simp[execOp,aA,aJ.aE aa,aJ.aE ah,asBool]
theorem Rq{x:Operand} {t:TypeId} {g:Bool} (aJ:c2 n D L a) (aA:o.op=.unOp .not t x)
  (ah:aE L x=some (.bool g)):fg P o a (.bool (!g)):=fun w=>by simp[execOp,aA,aJ.aE ah,Op.unary]
theorem Kc{x:Operand} {k:Nat} {vs:List Value} {v:Value} (aJ:c2 n D L a) (aA:o.op=.extract x k)
  (ah:aE L x=some (.tuple vs.toArray)) (aw:vs[k]?=some v):fg P o a (v):=fun w=>by simp[execOp,aA,aJ.aE ah,Instr.extract,aw]
theorem Rr{fn:Fn} {xs:List Operand} {vs:List Value} (aJ:c2 n D L a) (aA:o.op=.makeFunc fn #[] xs.toArray) (aw:iq L xs=some vs):fg P o a (.func fn #[] vs.toArray):=fun w=>by
 simp[execOp,aA,Instr.makeFunc,aJ.iq aw]
theorem Kd{k:IntKind} {u v:Operand} {t bR:TypeId} {x y z:Int} (aJ:c2 n D L a) (aA:o.op=.binOp .add t u v bR)
  (hu:aE L u=some (.int k x)) (aw:aE L v=some (.int k y)) (bk:k.wrap (x+y)=z):fg P o a (.int k z):=fun w=>by simp[execOp,aA,aJ.aE hu,aJ.aE aw,eqGuard,binOp,Op.intArith,bk]
theorem Rs{k:IntKind} {u v:Operand} {t bR:TypeId} {x y z:Int} (aJ:c2 n D L a) (aA:o.op=.binOp .sub t u v bR)
  (hu:aE L u=some (.int k x)) (aw:aE L v=some (.int k y)) (bk:k.wrap (x - y)=z):fg P o a (.int k z):=fun w=>by simp[execOp,aA,aJ.aE hu,aJ.aE aw,eqGuard,binOp,Op.intArith,bk]
theorem Rt{k:IntKind} {u v:Operand} {t bR:TypeId} {x y z:Int} (aJ:c2 n D L a) (aA:o.op=.binOp .mul t u v bR)
  (hu:aE L u=some (.int k x)) (aw:aE L v=some (.int k y)) (bk:k.wrap (x * y)=z):fg P o a (.int k z):=fun w=>by simp[execOp,aA,aJ.aE hu,aJ.aE aw,eqGuard,binOp,Op.intArith,bk]
theorem Ru{k:IntKind} {u v:Operand} {t bR:TypeId} {x y z:Int} (aJ:c2 n D L a) (aA:o.op=.binOp .quo t u v bR)
  (hu:aE L u=some (.int k x)) (aw:aE L v=some (.int k y)) (h0:y≠0) (bk:k.wrap (x.tdiv y)=z):fg P o a (.int k z):=fun w=>by simp[execOp,aA,aJ.aE hu,aJ.aE aw,eqGuard,binOp,Op.intDiv,h0,bk]
theorem Rv{k:IntKind} {u v:Operand} {t bR:TypeId} {x y z:Int} (aJ:c2 n D L a) (aA:o.op=.binOp .rem t u v bR)
  (hu:aE L u=some (.int k x)) (aw:aE L v=some (.int k y)) (h0:y≠0) (bk:x.tmod y=z):fg P o a (.int k z):=fun w=>by simp[execOp,aA,aJ.aE hu,aJ.aE aw,eqGuard,binOp,Op.intDiv,h0,bk]
theorem Rw{k:IntKind} {u v:Operand} {t bR:TypeId} {x y:Int} (aJ:c2 n D L a) (aA:o.op=.binOp .lss t u v bR)
  (hu:aE L u=some (.int k x)) (aw:aE L v=some (.int k y)):fg P o a (.bool (decide (x < y))):=fun w=>by simp[execOp,aA,aJ.aE hu,aJ.aE aw,eqGuard,binOp,Op.intCmp]
theorem Rx{k:IntKind} {u v:Operand} {t bR:TypeId} {x y:Int} (aJ:c2 n D L a) (aA:o.op=.binOp .leq t u v bR)
  (hu:aE L u=some (.int k x)) (aw:aE L v=some (.int k y)):fg P o a (.bool (decide (x<=y))):=fun w=>by simp[execOp,aA,aJ.aE hu,aJ.aE aw,eqGuard,binOp,Op.intCmp]
theorem Ry{k:IntKind} {u v:Operand} {t bR:TypeId} {x y:Int} (aJ:c2 n D L a) (aA:o.op=.binOp .gtr t u v bR)
  (hu:aE L u=some (.int k x)) (aw:aE L v=some (.int k y)):fg P o a (.bool (decide (x > y))):=fun w=>by simp[execOp,aA,aJ.aE hu,aJ.aE aw,eqGuard,binOp,Op.intCmp]
theorem Rz{k:IntKind} {u v:Operand} {t bR:TypeId} {x y:Int} (aJ:c2 n D L a) (aA:o.op=.binOp .geq t u v bR)
  (hu:aE L u=some (.int k x)) (aw:aE L v=some (.int k y)):fg P o a (.bool (decide (x ≥ y))):=fun w=>by simp[execOp,aA,aJ.aE hu,aJ.aE aw,eqGuard,binOp,Op.intCmp]
theorem RA{k:IntKind} {u v:Operand} {t bR:TypeId} {x y:Int} (aJ:c2 n D L a) (aA:o.op=.binOp .eql t u v bR)
  (hu:aE L u=some (.int k x)) (aw:aE L v=some (.int k y)):fg P o a (.bool (x == y)):=fun w=>by simp[execOp,aA,aJ.aE hu,aJ.aE aw,eqGuard,binOp,Op.intCmp]
theorem RB{k:IntKind} {u v:Operand} {t bR:TypeId} {x y:Int} (aJ:c2 n D L a) (aA:o.op=.binOp .neq t u v bR)
  (hu:aE L u=some (.int k x)) (aw:aE L v=some (.int k y)):fg P o a (.bool (x != y)):=fun w=>by simp[execOp,aA,aJ.aE hu,aJ.aE aw,eqGuard,binOp,Op.intCmp]
theorem RC{k:IntKind} {u v:Operand} {t bR:TypeId} {x y z:Int} (aJ:c2 n D L a) (aA:o.op=.binOp .and t u v bR)
  (hu:aE L u=some (.int k x)) (aw:aE L v=some (.int k y)) (bk:bits .and k x y=z):fg P o a (.int k z):=fun w=>by simp only[<- bk]; simp[execOp,aA,aJ.aE hu,aJ.aE aw,eqGuard,binOp,Op.intBits,bits]
theorem RD{k:IntKind} {u v:Operand} {t bR:TypeId} {x y z:Int} (aJ:c2 n D L a) (aA:o.op=.binOp .or t u v bR)
  (hu:aE L u=some (.int k x)) (aw:aE L v=some (.int k y)) (bk:bits .or k x y=z):fg P o a (.int k z):=fun w=>by simp only[<- bk]; simp[execOp,aA,aJ.aE hu,aJ.aE aw,eqGuard,binOp,Op.intBits,bits]
theorem RE{k:IntKind} {u v:Operand} {t bR:TypeId} {x y z:Int} (aJ:c2 n D L a) (aA:o.op=.binOp .xor t u v bR)
  (hu:aE L u=some (.int k x)) (aw:aE L v=some (.int k y)) (bk:bits .xor k x y=z):fg P o a (.int k z):=fun w=>by simp only[<- bk]; simp[execOp,aA,aJ.aE hu,aJ.aE aw,eqGuard,binOp,Op.intBits,bits]
theorem RF{k k':IntKind} {u v:Operand} {t bR:TypeId} {x z:Int} {y:Nat} (aJ:c2 n D L a) (aA:o.op=.binOp .shl t u v bR)
  (hu:aE L u=some (.int k x)) (aw:aE L v=some (.int k' (y:Int))) (bk:k.wrap (x * 2 ^ (min y k.bits))=z):fg P o a (.int k z):=fun w=>by simp only[<- bk]; simp[execOp,aA,aJ.aE hu,aJ.aE aw,eqGuard,binOp,Op.shift]; omega
theorem RG{k k':IntKind} {u v:Operand} {t bR:TypeId} {x z:Int} {y:Nat} (aJ:c2 n D L a) (aA:o.op=.binOp .shr t u v bR)
  (hu:aE L u=some (.int k x)) (aw:aE L v=some (.int k' (y:Int))) (bk:x.fdiv (2 ^ (min y k.bits))=z):fg P o a (.int k z):=fun w=>by simp only[<- bk]; simp[execOp,aA,aJ.aE hu,aJ.aE aw,eqGuard,binOp,Op.shift]; omega
theorem RH{k k':IntKind} {u:Operand} {t bR:TypeId} {i i':bC} {x z:Int} (aJ:c2 n D L a) (aA:o.op=.convert t bR u)
  (ca:gg P T) (J:T.lookup t=some i) (U:T.lookup bR=some i') (ag:i'.desc=.int k') (hu:aE L u=some (.int k x)) (bk:k'.wrap x=z):fg P o a (.int k' z):=fun w=>by have aC:=(ca _ _ J).1; have a1:=(ca _ _ U).1; rw[ag]at a1; simp[execOp,aA,aJ.aE hu,convert,run_underlying aC,run_underlying a1,Conv.intToInt,bk]
theorem uq{u:Operand} {t:TypeId} {i:bC} {e:TypeId} {A:Option Addr} {m c:Nat} (aJ:c2 n D L a) (aA:o.op=.call { callee:=.builtin .len,args:=#[u],argTypes:=#[t] })
  (ca:gg P T) (J:T.lookup t=some i) (U:i.desc=.slice e) (hu:aE L u=some (.slice A m c)):fg P o a (.int .i64 (m:Int)):=fun w=>by have aC:=(ca _ _ J).1; rw[U]at aC; simp[execOp,aA,resolve,invoke,builtin,Builtin.len_,aJ.aE hu,run_underlying aC,goInt]
theorem Ee{u:Operand} {t:TypeId} {i:bC} {e:TypeId} {A:Option Addr} {m c:Nat} (aJ:c2 n D L a) (aA:o.op=.call { callee:=.builtin .cap,args:=#[u],argTypes:=#[t] })
  (ca:gg P T) (J:T.lookup t=some i) (U:i.desc=.slice e) (hu:aE L u=some (.slice A m c)):fg P o a (.int .i64 (c:Int)):=fun w=>by have aC:=(ca _ _ J).1; rw[U]at aC; simp[execOp,aA,resolve,invoke,builtin,Builtin.cap_,aJ.aE hu,run_underlying aC,goInt]
theorem Ef{u:Operand} {t:TypeId} {k:Nat} {i i':bC} {du:Array Field} {Ke pH RI:String} {ty:TypeId} {off RJ:Nat} {em:Bool} {b p:Nat} (aJ:c2 n D L a) (aA:o.op=.fieldAddr t u k)
  (ca:gg P T) (J:T.lookup t=some i) (U:i.desc=.struct du) (ag:du[k]?=some ⟨Ke,ty,off,em,pH,RI,RJ⟩) (ay:T.lookup ty=some i') (aO:Nat.blt 0 i'.size=true) (hu:aE L u=some (.pointer (some ⟨b,p,none⟩))) :
  fg P o a (.pointer (some ⟨b,p+off,none⟩)):=fun w=>by
 have aC:=(ca _ _ J).1;rw[U]at aC;have a1:=bC.run_sizeOf (ca _ _ ay);have cq:i'.size≠0:=(Nat.pos_iff_ne_zero.1 (dK aO))
 simp[execOp,aA,aJ.aE hu,Instr.fieldAt,run_underlying aC,ag,Instr.sureAddr,fieldPlace,a1,cq,Addr.add_lit]
theorem AD{u x:Operand} {t e:TypeId} {i i':bC} {b p m c j:Nat} {k:IntKind} {z:Int} (aJ:c2 n D L a) (aA:o.op=.indexAddr t u x)
  (ca:gg P T) (J:T.lookup t=some i) (U:i.desc=.slice e) (ay:T.lookup e=some i') (hu:aE L u=some (.slice (some ⟨b,p,none⟩) m c)) (ah:aE L x=some (.int k z)) (bk:z=(j:Int)) (aF:j < m):fg P o a (.pointer (some ⟨b,p+j * i'.size,none⟩)):=fun w=>by subst bk; have aC:=(ca _ _ J).1; rw[U]at aC; have a1:=bC.run_sizeOf (ca _ _ ay); simp[execOp,aA,aJ.aE hu,aJ.aE ah,Instr.indexAt,asIntOf,run_underlying aC,a1,Addr.add_lit,aF]
end
end

section
section
variable {r:Option Nat} {P:Program} {ops:Array Oper} {Q:Exit->Act->World->Prop} {o:Oper} {KK:Act->World->Prop}
variable {n:Nat} {D:List Deferred} {L:List (Nat×Value)} {B:Nat->Prop} {ai:World} {H:List bc} {a:Act} {w:World}
variable {T:List (TypeId×bC)} {d:Nat} {K:bc->List bc}
theorem Eg(ec:bK B ai H w) {b:Nat} {cs:List Value} {e:TypeId} (az:iK H (.gu b cs e) K):w.heap[b]?=some (.cells cs.toArray e):=(ec.ok _ az.mem).2
theorem Eh(ec:bK B ai H w) {b:Nat} {cs:List Value} {e:TypeId} (az:iK H (.gu b cs e) K) (j:Nat):w.cell? ⟨b,j,none⟩=cs[j]?:=by
 simp[World.cell?,Eg ec az]
theorem bK.Kf(ec:bK B ai H w) {b:Nat} {cs jx:List Value} {e:TypeId} (az:iK H (.gu b cs e) K) {w':World}
  (hw:w'.os=w.os/\w'.tape=w.tape/\w'.output=w.output/\w'.heap.size=w.heap.size) (ae:w'.heap[b]?=some (.cells jx.toArray e)) (bb:∀ k,k≠b->w'.heap[k]?=w.heap[k]?) :
  bK B ai (K (.gu b jx e)) w':=by
 have aa:=ec.ok _ az.mem;refine ec.sg az ⟨hw.1,hw.2.1,hw.2.2.1,Nat.le_of_eq hw.2.2.2.symm,fun k ab=>bb k (fun cu=>by subst cu; exact aa.1 ab)⟩ ⟨aa.1,ae⟩ (fun b' cu=>.inl cu) fun b' _ cG=>bb b' (fun cu=>cG (by subst cu; rfl))
theorem RK{t:TypeId} {i:bC} (hi:bC.ok P t i) (U:jO i.desc=true) {b p:Nat} {vs:List Value} (ad:vs.length=i.size) (aa:∀ j v,vs[j]?=some v->w.cell? ⟨b,p+j,none⟩=some v) :
  (loadVar t ⟨b,p,none⟩).run P w=.ok (.agg vs.toArray) w:=by
 have:=run_loadCells_list (P:=P) w ⟨b,p,none⟩ vs (fun j v aF=>by rw[Addr.add_lit]; exact aa j v aF)
 rw[ad]at this
 simp[loadVar,bC.w8 hi,U,bC.run_sizeOf hi,this]
theorem RL{t:TypeId} {i:bC} (hi:bC.ok P t i) {b p:Nat} {v:Value} {cs:List Value} {e:TypeId} (ae:w.heap[b]?=some (.cells cs.toArray e)) (aj:v.cells.size=i.size)
  (J:∀ u∈v.cells.toList,u.oneCell'=true) (an:p+v.cells.size<=cs.length) :
  (storeVar t ⟨b,p,none⟩ v).run P w=.ok () (w.setRow b (cs.take p++v.cells.toList++cs.drop (p+v.cells.size)).toArray):=by
 have U:=run_storeCells_at P b p e v.cells.toList 0 cs.toArray w ae (by simpa using an) J;simp only[Nat.add_zero]at U;unfold storeVar
 simp[bC.run_sizeOf hi,aj,U]
end
end

section
theorem RM{z:Int} (J:-9223372036854775808<=z) (U:z<=9223372036854775807):IntKind.i64.wrap z=z:=by rw[IntKind.wrap_i64]; omega
def oH(P:Program) (f:FuncId) (args:Array Value) (w:World) (R:Value->World->Prop):Prop:=
 Calls P f args w fun e w'=>∃ v,e=.returned v/\R v w'
theorem oH.mono{P:Program} {f:FuncId} {args:Array Value} {w:World} {R xb:Value->World->Prop} (h:oH P f args w R) (au:∀ v w',R v w'->xb v w'):oH P f args w xb:=
 Calls.mono h fun _ _ ⟨v,e,aw⟩=>⟨v,e,au v _ aw⟩
section
variable {r:Option Nat} {P:Program} {ops:Array Oper} {Q:Exit->Act->World->Prop} {o:Oper} {KK:Act->World->Prop}
variable {n:Nat} {D:List Deferred} {L:List (Nat×Value)} {B:Nat->Prop} {ai:World} {H:List bc} {a:Act} {w:World}
variable {T:List (TypeId×bC)} {d:Nat}
theorem qV(av:Sym n D L B ai H a w) {j s:Nat} {want g:Bool} (aV:o.guard=some (j,want)) (aF:(ops[j]?).bind (·.dst)=some s) (aj:L.lookup s=some (.bool g)) :
  Region.wanted o (yielded ops a.tmps)=(g == want):=by
 have J:=av.st.has s _ aj;have U:yielded ops a.tmps j=some g:=by simp[yielded,aF,J]
 simp only[Region.wanted,aV,U];cases g<;>cases want<;>rfl
theorem AE(av:Sym n D L B ai H a w) {j s:Nat} {want:Bool} (aV:o.guard=some (j,want)) (aF:(ops[j]?).bind (·.dst)=some s) (aj:L.lookup s=some undef) :
  Region.wanted o (yielded ops a.tmps)=false:=by
 have J:=av.st.has s _ aj;have U:yielded ops a.tmps j=none:=by simp[yielded,aF,J,undef]
 simp only[Region.wanted,aV,U]
 rfl
theorem RN{f:FuncId} {fn:Func} {xs:List Operand} {fo:Array TypeId} {vs:List Value} (aA:o.op=.call { callee:=.value (.func f),args:=xs.toArray,argTypes:=fo }) (ir:P.funcs[f]?=some fn)
  (a6 : (fn.name == "runtime.NumGoroutine") = false) (ae : fn.body.isNone = false) (aw : xs.map a.eval = vs) : (execOp a.eval o).run P w = .ok (.enter f vs.toArray) w := by
 have e:a.eval (.func f)=.func (.func f) #[] #[]:=rfl
 have hJ : fn.name ≠ "runtime.NumGoroutine" := by simpa using a6
 have eX:fn.body≠none:=by intro h; rw[h]at ae; cases ae
 simp[execOp,aA,resolve,e,Deferred.ofValue,invoke,callFunc,program,Sem.run,ir,hJ,eX,aw]
theorem RO{f:FuncId} {fn:Func} {xs:List Operand} {fo:Array TypeId} {vs:List Value} {R:Value->World->Prop} (av:Sym n D L B ai H a w)
  (aA:o.op=.call { callee:=.value (.func f),args:=xs.toArray,argTypes:=fo }) (bb:o.guard=none/\o.dst=some d) (ax:Nat.blt d n=true)
  (ir : P.funcs[f]? = some fn) (a6 : (fn.name == "runtime.NumGoroutine") = false) (ae : fn.body.isNone = false) (aw : iq L xs = some vs) (c5 : oH P f vs.toArray w R)
  (h:∀ v aW w',R v w'->c2 n D ((d,v) :: L) aW->KK aW w'):eW P ops o KK a w:=by
 refine .inl ⟨by simp[Region.wanted,bb.1],.inr (.inr ⟨f,vs.toArray,w,RN aA ir a6 ae (av.st.iq aw),?_⟩)⟩;refine Calls.mono c5 ?_;rintro e w' ⟨v,rfl,dO⟩;exact⟨v,rfl,h v _ w' dO (by rw[bb.2]; exact av.st.put d v (dK ax))⟩
/-! ### Control -/
variable {c ft cR:Code}
abbrev kv (r:Option Nat) (P:Program) (c:Code) (Q:Exit->Act->World->Prop) (a:Act) (w:World):Prop:=c.wpIn (WF r) 0 P Q a w
theorem Ei{id:Nat} {l:List Oper} (h:pF r P l.toArray Q l a w):kv r P (.region id l.toArray false) Q a w:=wpIn_region_lit h
theorem Kg(h:Q .normal a w):kv r P .skip Q a w:=wpIn_skip h
theorem Kh{id:Nat} (h:Q (.exit id) a w):kv r P (.exit id) Q a w:=wpIn_exit h
theorem RP(h:Q .ret a w):kv r P .ret Q a w:=wpIn_ret h
theorem RQ{id:Nat} (h:kv r P c (Exit.inBlock id Q) a w):kv r P (.block id c) Q a w:=wpIn_block h
theorem RR{x:Operand} {g:Bool} (av:Sym n D L B ai H a w) (ah:aE L x=some (.bool g)) (J:g=true->kv r P ft Q a w) (h0:g=false->kv r P cR Q a w):kv r P (.cond x ft cR) Q a w:=
 wpIn_cond_split (av.aE ah) J h0
theorem least(S:Nat->Prop) (h:∃ k,S k):∃ k,S k/\∀ j,S j->k<=j:=by
 obtain⟨k,ab⟩:=h
 induction k using Nat.strongRecOn with
 | _ k bJ=>
  by_cases e:∃ j,j < k/\S j
  ·obtain⟨j,aF,aj⟩:=e; exact bJ j aF aj
  ·exact⟨k,ab,fun j aF=>Nat.le_of_not_lt fun aL=>e ⟨j,aL,aF⟩⟩
noncomputable def ur (S:Nat->Prop):Nat:=by
 classical
 exact if h:∃ k,S k then Classical.choose (least S h)else 0
theorem RS{S:Nat->Prop} {k:Nat} (h:S k):ur S<=k:=by
 unfold ur; rw[dif_pos ⟨k,h⟩]; exact(Classical.choose_spec (least S ⟨k,h⟩)).2 k h
theorem RT{S:Nat->Prop} {k:Nat} (h:S k):S (ur S):=by
 unfold ur; rw[dif_pos ⟨k,h⟩]; exact(Classical.choose_spec (least S ⟨k,h⟩)).1
theorem RU{α:Type} (M:α->Act->World->Prop) (m:α->Nat) (x:α) (h0:M x a w)
  (au:∀ x a w,M x a w->kv r P c (Exit.then (fun aW w'=>∃ y,M y aW w'/\m y < m x) Q) a w):kv r P (.loop c) Q a w:=by
 refine wpIn_loop (fun a w=>∃ x,M x a w) (fun a w=>ur fun k=>∃ x,M x a w/\m x=k) ⟨x,h0⟩ ?_;rintro a w ⟨y,aH⟩;obtain⟨z,bk,hm⟩:=RT (S:=fun k=>∃ x,M x a w/\m x=k) (k:=m y) ⟨y,aH,rfl⟩;refine wpIn_mono (au z a w bk) ?_;intro e aW w' ao;cases e with
 | normal=>
  obtain⟨u,hu,aL⟩:=ao;refine⟨⟨u,hu⟩,?_⟩
  have:=RS (S:=fun k=>∃ x,M x aW w'/\m x=k) (k:=m u) ⟨u,hu,rfl⟩
  show _ < ur _;rw[<- hm];omega
 | _=>exact ao
/-! ### Beginning and end -/
theorem RV{N:Nat} (vs:List Value) (aT:vs.length<=N):(vs.toArray++Array.replicate (N - vs.toArray.size) undef).size=N:=by simp; omega
end
end

section
section
variable {P:Program} {ops:Array Oper} {Q:Exit->Act->World->Prop} {o:Oper} {KK:Act->World->Prop}
variable {n:Nat} {D:List Deferred} {L:List (Nat×Value)} {B:Nat->Prop} {ai:World} {H:List bc} {a:Act} {w:World}
variable {d:Nat} {S:World->Prop} {listed Ki:Array Bool} {fuel:Nat}
end
end

end Go.Proofs.YtldjgdggcodgeaaGreat
namespace Go.Proofs.YtldjgdggcodgeaaGreat
open Go.RowKit
section
variable {r:Option Nat} {P:Program} {ops:Array Oper} {Q:Exit->Act->World->Prop} {o:Oper} {KK:Act->World->Prop}
variable {n:Nat} {D:List Deferred} {L cY:List (Nat×Value)} {B:Nat->Prop} {ai:World} {H H':List bc} {a:Act} {w:World}
variable {d:Nat} {c:Code}
end
end Go.Proofs.YtldjgdggcodgeaaGreat
namespace Go.Proofs.YtldjgdggcodgeaaGreat
end Go.Proofs.YtldjgdggcodgeaaGreat
namespace Go.Proofs.YtldjgdggcodgeaaGreat
end Go.Proofs.YtldjgdggcodgeaaGreat
namespace Go.Proofs.YtldjgdggcodgeaaGreat
end Go.Proofs.YtldjgdggcodgeaaGreat
namespace Go.Proofs.YtldjgdggcodgeaaGreat
end Go.Proofs.YtldjgdggcodgeaaGreat
namespace Go.Proofs.YtldjgdggcodgeaaGreat
open Go.RowKit

section
section
variable {P:Program} {ops:Array Oper} {o:Oper} {KK:Act->World->Prop}
variable {n:Nat} {D:List Deferred} {L:List (Nat×Value)} {B:Nat->Prop} {ai:World} {H:List bc} {a:Act} {w:World}
variable {T:List (TypeId×bC)} {d:Nat} {K:bc->List bc}
theorem bK.xc(ec:bK B ai H w) {b:Nat} {x x':Obj} (az:iK H (.obj b x) K) :
  bK B ai (K (.obj b x')) { w with heap:=w.heap.setIfInBounds b x' }:=by
 have aa:=ec.ok _ az.mem;have aL:=(Array.getElem?_eq_some_iff.1 aa.2).1;have bb:∀ k,k≠b->(w.heap.setIfInBounds b x')[k]?=w.heap[k]?:=fun k ab=>Array.getElem?_setIfInBounds_ne (Ne.symm ab)
 refine ec.sg az ⟨rfl,rfl,rfl,by simp,fun k ab=>bb k (fun cu=>by subst cu; exact aa.1 ab)⟩ ⟨aa.1,by simp[aL]⟩ (fun b' cu=>.inl cu) fun b' _ cG=>bb b' (fun cu=>cG (by subst cu; rfl))
end
end

end Go.Proofs.YtldjgdggcodgeaaGreat
namespace Go.Proofs.YtldjgdggcodgeaaGreat
open Go.RowKit
section
variable {P:Program} {o:Oper} {n:Nat} {D:List Deferred} {L:List (Nat×Value)} {a:Act} {T:List (TypeId×bC)}
theorem RW{u v:Operand} {t bR:TypeId} {i:bC} {x y:Bool} (aJ:c2 n D L a) (aA:o.op=.binOp .eql t u v bR) (ca:gg P T) (J:T.lookup t=some i) (U:i.desc=.bool) (hu:aE L u=some (.bool x)) (aw:aE L v=some (.bool y)):fg P o a (.bool (x == y)):=fun w=>by
 have aC:=(ca _ _ J).1;rw[U]at aC
 have:(Op.equal t (.bool x) (.bool y)).run P w=.ok (x == y) w:=run_equalIn_bool w 9999 t x y aC
 simp[execOp,aA,aJ.aE hu,aJ.aE aw,eqGuard,binOp,this]
theorem RX{u v:Operand} {t bR:TypeId} {i:bC} {x y:Bool} (aJ:c2 n D L a) (aA:o.op=.binOp .neq t u v bR) (ca:gg P T) (J:T.lookup t=some i) (U:i.desc=.bool) (hu:aE L u=some (.bool x)) (aw:aE L v=some (.bool y)):fg P o a (.bool (x != y)):=fun w=>by
 have aC:=(ca _ _ J).1;rw[U]at aC
 have:(Op.equal t (.bool x) (.bool y)).run P w=.ok (x == y) w:=run_equalIn_bool w 9999 t x y aC
 simp[execOp,aA,aJ.aE hu,aJ.aE aw,eqGuard,binOp,this,bne]
theorem RY{u v:Operand} {t bR:TypeId} {x y:ByteArray} (aJ:c2 n D L a) (aA:o.op=.binOp .eql t u v bR) (hu:aE L u=some (.string x)) (aw:aE L v=some (.string y)):fg P o a (.bool (x.toList == y.toList)):=fun w=>by
 simp[execOp,aA,aJ.aE hu,aJ.aE aw,eqGuard,binOp,Op.stringOp]
theorem RZ{u v:Operand} {t bR:TypeId} {x y:ByteArray} (aJ:c2 n D L a) (aA:o.op=.binOp .neq t u v bR) (hu:aE L u=some (.string x)) (aw:aE L v=some (.string y)):fg P o a (.bool (!(x.toList == y.toList))):=fun w=>by
 simp[execOp,aA,aJ.aE hu,aJ.aE aw,eqGuard,binOp,Op.stringOp]
theorem R0{u v:Operand} {t bR:TypeId} {x y:Array Value} {r:Bool} (aJ:c2 n D L a) (aA:o.op=.binOp .eql t u v bR) (hu:aE L u=some (.agg x)) (aw:aE L v=some (.agg y)) (hm:P.eqGuardType P.depth t=false)
  (he:∀ w,(Op.equalIn 10000 t (.agg x) (.agg y)).run P w=.ok r w):fg P o a (.bool r):=fun w=>by
 simp[execOp,aA,aJ.aE hu,aJ.aE aw,run_eqGuard_agg w .eql t u v x y hm,run_eql_struct,he w]
theorem R1{u v:Operand} {t bR:TypeId} {x y:Array Value} {r:Bool} (aJ:c2 n D L a) (aA:o.op=.binOp .neq t u v bR) (hu:aE L u=some (.agg x)) (aw:aE L v=some (.agg y)) (hm:P.eqGuardType P.depth t=false)
  (he:∀ w,(Op.equalIn 10000 t (.agg x) (.agg y)).run P w=.ok r w):fg P o a (.bool (!r)):=fun w=>by
 simp[execOp,aA,aJ.aE hu,aJ.aE aw,run_eqGuard_agg w .neq t u v x y hm,run_neq_struct,he w]
end
end Go.Proofs.YtldjgdggcodgeaaGreat
namespace Go.Proofs.YtldjgdggcodgeaaGreat
theorem R2{P:Program} (w:World) (d:Nat) (t:TypeId) (xs bn:Array Value) {du:List Field} (h:P.underlying t=some (.struct du.toArray)) (an:P.stoodInHeld t=false) :
  (Op.equalIn (d+1) t (.agg xs) (.agg bn)).run P w=(Op.eqFields d xs bn du).run P w:=by
 have az:P.fieldsOf t=du.toArray:=by simp[Program.fieldsOf,h]
 rw[run_equalIn_struct w d t xs bn (by rw[az]; exact h) an,az]
end Go.Proofs.YtldjgdggcodgeaaGreat
namespace Go.Proofs.YtldjgdggcodgeaaGreat
open Go.RowKit
/-! ### The memory xK a row -/
section
variable {w:World} {B:Nat->Prop} {e:TypeId} {size n c:Nat} {A:Option Addr} {xs:List Value}
theorem xd(g:Nat) (e:TypeId) (de:Nat×Nat):∀ (vs:List Value) (o:Nat) (w:World) (cur:Array Value),w.heap[g]?=some (.cells cur e de)->o+vs.length<=cur.size ->
  w.setCells g o vs=w.setRow g (cur.toList.take o++vs++cur.toList.drop (o+vs.length)).toArray
 | [],o,w,cur,aV,_=>by
  simp only[World.setCells,List.append_nil,List.length_nil,Nat.add_zero,List.take_append_drop,Array.toArray_toList];exact(setRow_self w g cur e de aV).symm
 | v :: vs,o,w,cur,aV,ad=>by
  simp only[List.length_cons]at ad;have J:w.setCell ⟨g,o,none⟩ v=w.setRow g (cur.setIfInBounds o v):=by
   unfold World.setCell World.setRow
   congr 1
   apply Array.ext
   ·simp
   ·intro i J U
    simp only[Array.getElem_modify]
    split
    ·rename_i hi
     subst hi;rw[(Array.getElem?_eq_some_iff.1 aV).2]
     simp
    ·rfl
  have U:=setRow_heap w g cur (cur.setIfInBounds o v) e de aV;rw[World.setCells,J,xd g e de vs (o+1) _ _ U (by simp; omega),setRow_setRow]
  congr 1
  apply congrArg List.toArray
  rw[Array.toList_setIfInBounds,List.take_succ_eq_append_getElem (by simp; omega)];simp only[List.getElem_set_self,List.append_assoc,List.length_cons];rw[List.take_set_of_le (by omega),List.drop_set_of_lt (by omega)]
  simp[Nat.add_comm,Nat.add_left_comm]
theorem ey.cells(h:ey w B e size A c n xs) {g:Nat} (al:A=some ⟨g,0,none⟩) (j:Nat) (aF:j < n * size):w.cell? ⟨g,j,none⟩=xs[j]?:=by
 rcases h.2 with⟨J,_⟩ | ⟨cr,cur,de,J,_,b1,_,_,_,_,aY⟩
 ·rw[al]at J; cases J
 ·rw[al]at J
  have:g=cr:=by injection J with J; injection J
  subst this;rw[<- aY,List.getElem?_take,if_pos aF]
  simp[World.cell?,b1]
theorem ey.le(h:ey w B e size A c n xs):n<=c/\c<=maxLen:=by
 rcases h.2 with⟨_,J,U⟩ | ⟨cr,cur,de,J,_,b1,_,J,U,_,aY⟩
 ·subst J; subst U; exact⟨Nat.le_refl _,Nat.zero_le _⟩
 ·exact⟨J,U⟩
end
section
variable {P:Program} {w:World}
theorem R3{B:Nat->Prop} {t ty e:TypeId} {i:bC} (aY:P.underlying t=some (.slice e)) (hi:bC.ok P e i) (c6:0 < i.size) (nb:i.zero.cells.size=i.size)
  {A:Option Addr} {c n:Nat} {xs:List Value} (e7:ey w B e i.size A c n xs)
  {b:Nat} {p m cc:Nat} {news:List Value} (ad:news.length=m * i.size) (R4:∀ j u,news[j]?=some u->w.cell? ⟨b,p+j,none⟩=some u) (J:∀ u∈news,u.oneCell'=true)
  (Kj:(n+m) * i.bytes<=140737488355328) (hm:n+m<=140737488355328) (qW:¬ B w.heap.size) :
  ∃ cm c' w',(Builtin.append_ #[t,t] ty #[.slice A n c,.slice (some ⟨b,p,none⟩) m cc]).run P w=.ok (.slice cm (n+m) c') w'/\ey w' B e i.size cm c' (n+m) (xs++news) /\
   w'.os=w.os/\w'.tape=w.tape/\w'.output=w.output/\w.heap.size<=w'.heap.size /\
   (∀ k,k < w.heap.size->A.map (·.block)≠some k->w'.heap[k]?=w.heap[k]?)/\(∀ k,cm.map (·.block)=some k->A.map (·.block)=some k\/w.heap.size<=k)/\(n+m<=c->c'=c):=by
 obtain⟨inf,oI,fu,hx,lH⟩:=bC.info hi;have hlen:(xs++news).length=(n+m) * i.size:=by rw[List.length_append,e7.1,ad,Nat.add_mul]
 have Ej:∀ j v,news[j]?=some v->w.cell? ((⟨b,p,none⟩:Addr).add j)=some v:=fun j v aF=>by rw[Addr.add_lit]; exact R4 j v aF
 have Ek:n+m<=maxLen:=by simp only[maxLen]; omega
 have grown:∀ (gv:Nat),gv < n+m ->
   ey (w.drew.alloc (.cells (xs.toArray++news.toArray++Builtin.zeroCells i.zero.cells (grownCap w (n+m) gv e - (n+m))) e)) B e i.size (some ⟨w.heap.size,0,none⟩) (grownCap w (n+m) gv e) (n+m) (xs++news):=by
  intro gv _;have pI:=grownCap_ge w (n+m) gv e;have h1:grownCap w (n+m) gv e<=maxLen:=grownCap_le_maxLen w (n+m) gv e Ek;refine⟨hlen,.inr ⟨w.heap.size,_,(0,0),rfl,qW,heap_alloc_new w.drew _,.inl rfl,pI,h1,?_,?_⟩⟩
  ·simp only[Array.size_append,List.size_toArray,size_zeroCells,nb,e7.1,ad,<- Nat.add_mul]
   congr 1
   omega
  ·simp only[Array.toList_append,List.append_assoc]
   rw[<- List.append_assoc,<- hlen];exact List.take_left
 have blk:∀ o k,k < w.heap.size->(w.drew.alloc o).heap[k]?=w.heap[k]?:=fun o k ab=>Below.heap_alloc w.drew o k ab
 rcases e7.2 with⟨rfl,rfl,rfl⟩ | ⟨g,cur,de,rfl,oJ,aV,je,nR,h1,fZ,oK⟩
 ·have ah:xs=[]:=List.eq_nil_of_length_eq_zero (by simpa using e7.1)
  subst ah
  by_cases pJ:m=0
  ·subst pJ
   have a6:news=[]:=List.eq_nil_of_length_eq_zero (by simpa using ad);subst a6;refine⟨none,0,w,?_,by simpa using e7,rfl,rfl,rfl,Nat.le_refl _,fun _ _ _=>rfl,(fun k h=>by cases h),fun _=>rfl⟩
   simp[Builtin.append_,run_underlying aY,sizeOf,typeInfo,oI,Builtin.lenOf,Builtin.firstCells,loadCells,loadCellsFrom]
  ·have au:=run_append_nil (P:=P) w t ty e inf i.zero aY oI lH ⟨b,p,none⟩ m cc news (by rw[ad,fu]) Ej (by omega) (by omega) (by rw[hx]; have:=Kj; simp only[Nat.zero_add]at this; omega)
   have j7:=grown 0 (by omega);simp only[Nat.zero_add,List.nil_append,Array.empty_append]at j7 ⊢;exact⟨_,_,_,au,j7,rfl,rfl,rfl,by simp,fun k ab _=>blk _ k ab,fun k ab=>.inr (by simp at ab; omega),fun aa=>by omega⟩
 ·have holds:∀ j u,xs[j]?=some u->w.cell? ((⟨g,0,none⟩:Addr).add j)=some u:=fun j u hu=>by
   rw[Addr.add_lit,Nat.zero_add];have aF:j < n * i.size:=by have:=(List.getElem?_eq_some_iff.1 hu).1; rw[e7.1]at this; exact this
   rw[e7.cells rfl j aF];exact hu
  by_cases uu:n+m<=c
  ·have sh:n * i.size+news.length<=cur.size:=by rw[ad,fZ,<- Nat.add_mul]; exact Nat.mul_le_mul_right _ uu
   have az:=run_firstCells_some (P:=P) w i.size m ⟨b,p,none⟩ m cc news ad Ej;have di:=run_storeCells_cells (P:=P) g (n * i.size) news 0 w (fun j aF=>by
     simp only[World.cell?,aV]
     simp; omega) (fun j aF=>by
     simp only[World.frozen?,aV]
     rcases je with h | h
     ·simp; omega
     ·simp; omega) J
   rw[Nat.add_zero,xd g e de news _ w cur aV sh]at di;have dW:(Builtin.append_ #[t,t] ty #[.slice (some ⟨g,0,none⟩) n c,.slice (some ⟨b,p,none⟩) m cc]).run P w =
     .ok (.slice (some ⟨g,0,none⟩) (n+m) c) (w.setRow g (cur.toList.take (n * i.size)++news++cur.toList.drop (n * i.size+news.length)).toArray):=by
    simp[Builtin.append_,run_underlying aY,sizeOf,typeInfo,oI,fu,Builtin.lenOf,uu,az,Addr.add_lit,di]
   refine⟨some ⟨g,0,none⟩,c,_,dW,⟨hlen,.inr ⟨g,_,de,rfl,oJ,setRow_heap w g cur _ e _ aV,?_,uu,h1,?_,?_⟩⟩,rfl,rfl,rfl,by simp,fun k _ ab=>setRow_other w g k _ (fun cu=>ab (by simp[cu])),fun k ab=>.inl ab,fun _=>rfl⟩
   ·rcases je with h | h
    ·exact .inl h
    ·exact .inr (by simp; omega)
   ·simp only[List.size_toArray,List.length_append,List.length_take,List.length_drop,Array.length_toList]
    omega
   ·rw[oK,<- hlen]
    exact List.take_left
  ·have au:=run_append_grow (P:=P) w t ty e inf i.zero aY oI lH ⟨g,0,none⟩ n c xs (by rw[e7.1,fu]) holds ⟨b,p,none⟩ m cc news (by rw[ad,fu]) Ej (by omega) (by omega) (growslice_fits (by omega) (by rw[hx]; exact Kj))
   exact⟨_,_,_,au,grown c (by omega),rfl,rfl,rfl,by simp,fun k ab _=>blk _ k ab,fun k ab=>.inr (by simp at ab; omega),fun aa=>absurd aa uu⟩
end
end Go.Proofs.YtldjgdggcodgeaaGreat
namespace Go.Proofs.YtldjgdggcodgeaaGreat
open Go.RowKit
def Reads(w:World) (A:Option Addr) (m size:Nat) (news:List Value):Prop:=
 news.length=m * size/\(0 < m->∃ b p,A=some ⟨b,p,none⟩/\∀ j u,news[j]?=some u->w.cell? ⟨b,p+j,none⟩=some u)
def j8(A:Option Addr) (l size m:Nat):Option Addr:=if m=l then A else A.map (·.add (l * size))
theorem Reads.nil(w:World) (A:Option Addr) (size:Nat):Reads w A 0 size []:=⟨by simp,fun h=>absurd h (by omega)⟩
theorem Reads.cut{w:World} {A:Option Addr} {m size l h c:Nat} {news:List Value} (au:Reads w A m size news) (ad:l<=h) (b1:h<=m) (aa:h<=c) :
  Reads w (j8 A l size c) (h - l) size ((news.drop (l * size)).take ((h - l) * size)):=by
 have c6:h * size<=m * size:=Nat.mul_le_mul_right _ b1;have mD:l * size<=h * size:=Nat.mul_le_mul_right _ ad;refine⟨by rw[List.length_take,List.length_drop,au.1,Nat.sub_mul]; omega,fun an=>?_⟩;obtain⟨b,p,rfl,jy⟩:=au.2 (by omega);refine⟨b,p+l * size,?_,fun j u hu=>?_⟩
 ·unfold j8
  rw[if_neg (by omega)]
  simp[Addr.add_lit]
 ·rw[List.getElem?_take]at hu
  split at hu
  ·rw[List.getElem?_drop]at hu
   have:=jy _ u hu
   rw[Nat.add_assoc];exact this
  ·cases hu
section
variable {w ai:World} {B:Nat->Prop} {H:List bc} {K:bc->List bc}
theorem Reads.row(ec:bK B ai H w) {A:Option Addr} {c:Nat} {e:TypeId} {size n:Nat} {xs:List Value} (az:iK H (.row A c e size n xs) K):Reads w A n size xs:=by
 have bb:ey w B e size A c n xs:=ec.ok _ az.mem;refine⟨bb.1,fun a6=>?_⟩
 rcases bb.2 with⟨_,J,_⟩ | ⟨g,cur,de,J,_⟩
 ·omega
 ·refine⟨g,0,J,fun j u hu=>?_⟩
  rw[Nat.zero_add,bb.cells J j (by have:=(List.getElem?_eq_some_iff.1 hu).1; rw[bb.1]at this; exact this)];exact hu
theorem bK.oL(ec:bK B ai H w) (e:TypeId) (size:Nat):bK B ai (.row none 0 e size 0 [] :: H) w:=
 ⟨ec.below,ec.base,fun c aa=>by
  rcases List.mem_cons.1 aa with rfl | aa
  ·exact⟨by simp,.inl ⟨rfl,rfl,rfl⟩⟩
  ·exact ec.ok c aa,List.Pairwise.cons (fun c aa b e=>by cases e) ec.apart⟩
end
section
variable {P:Program} {ops:Array Oper} {o:Oper} {KK:Act->World->Prop}
variable {n:Nat} {D:List Deferred} {L:List (Nat×Value)} {B:Nat->Prop} {ai:World} {H:List bc} {a:Act} {w:World}
variable {T:List (TypeId×bC)} {d:Nat} {K:bc->List bc}
theorem R5{s x:Operand} {t e:TypeId} {i i':bC} {A c7:Option Addr} {c k m cc:Nat} {xs news:List Value} (av:Sym n D L B ai H a w)
  (aA:o.op=.call { callee:=.builtin .append,args:=#[s,x],argTypes:=#[t,t] }) (bb:o.guard=none/\o.dst=some d) (ax:Nat.blt d n=true)
  (ca:gg P T) (J:T.lookup t=some i) (U:i.desc=.slice e) (ag:T.lookup e=some i') (ay:Nat.blt 0 i'.size=true) (aO:i'.zero.cells.size=i'.size) (aj:aE L s=some (.slice A k c)) (ah:aE L x=some (.slice c7 m cc))
  (az:iK H (.row A c e i'.size k xs) K) (au:Reads w c7 m i'.size news) (iL:∀ u∈news,u.oneCell'=true) (fE:(k+m) * i'.bytes<=140737488355328) (gm:k+m<=140737488355328)
  (h:∀ cm c' aW w',(k+m<=c->c'=c)->Sym n D ((d,.slice cm (k+m) c') :: L) B ai (K (.row cm c' e i'.size (k+m) (xs++news))) aW w'->KK aW w'):eW P ops o KK a w:=by
 have aC:=(ca _ _ J).1;rw[U]at aC;have cq:=ca _ _ ag;have e7:ey w B e i'.size A c k xs:=av.aU.ok _ az.mem
 by_cases hm:m=0
 ·subst hm
  have a6:news=[]:=List.eq_nil_of_length_eq_zero (by simpa using au.1);subst a6;have dW:(execOp a.eval o).run P w=.ok (.value (.slice A (k+0) c)) w:=by
   have hle:=e7.le.1;have nS:(Builtin.append_ #[t,t] o.type #[.slice A k c,.slice c7 0 cc]).run P w=.ok (.slice A k c) w:=by
    have ep:=bC.run_sizeOf cq w;have nT:(Builtin.firstCells i'.size 0 (.slice c7 0 cc)).run P w=.ok #[] w:=by
     cases c7<;>simp[Builtin.firstCells,loadCells,loadCellsFrom]
    simp only[Builtin.append_,Sem.run_bind,run_underlying aC,Result.andThen_ok,ep]
    simp[run_underlying aC,Builtin.lenOf,hle,nT]
    cases A<;>simp[storeCells,ep,nT]
   simp[execOp,aA,resolve,invoke,builtin,av.aE aj,av.aE ah,nS]
  refine pG av bb ax dW ?_ (fun aW w'=>h A c aW w' fun _=>rfl)
  have:=av.aU
  obtain⟨X,Y,rfl,rfl⟩:=az
  simpa using this
 ·obtain⟨b,p,rfl,aa⟩:=au.2 (by omega)
  obtain⟨cm,c',w',dW,R6,uv,AF,si,c6,l8,jP,uu⟩:=R3 (P:=P) (ty:=o.type) aC cq (dK ay) aO e7 (cc:=cc) au.1 aa iL fE gm av.aU.fresh;refine pG av bb ax (w':=w') (v:=.slice cm (k+m) c') (by simp[execOp,aA,resolve,invoke,builtin,av.aE aj,av.aE ah,dW]) ?_ (fun aW w'=>h cm c' aW w' uu);exact av.aU.sg az ⟨uv,AF,si,c6,fun q ao=>l8 q (av.aU.base q ao) (fun cu=>(bc.ok.lt (c:=.row A c e i'.size k xs) e7 cu).1 ao)⟩ R6 jP l8
theorem AG{s x:Operand} {t e:TypeId} {i i':bC} {A c7:Option Addr} {c k m cc:Nat} {xs news:List Value} (av:Sym n D L B ai H a w)
  (aA:o.op=.call { callee:=.builtin .append,args:=#[s,x],argTypes:=#[t,t] }) (bb:o.guard=none/\o.dst=some d) (ax:Nat.blt d n=true)
  (ca:gg P T) (J:T.lookup t=some i) (U:i.desc=.slice e) (ag:T.lookup e=some i') (ay:Nat.blt 0 i'.size=true) (aO:i'.zero.cells.size=i'.size) (aj:aE L s=some (.slice A k c)) (ah:aE L x=some (.slice c7 m cc))
  (az:iK H (.row A c e i'.size k xs) K) (au:Reads w c7 m i'.size news) (iL:∀ u∈news,u.oneCell'=true) (fE:(k+m) * i'.bytes<=140737488355328) (gm:k+m<=140737488355328)
  (h:∀ cm c' aW w',Sym n D ((d,.slice cm (k+m) c') :: L) B ai (K (.row cm c' e i'.size (k+m) (xs++news))) aW w'->KK aW w'):eW P ops o KK a w:=
 R5 av aA bb ax ca J U ag ay aO aj ah az au iL fE gm fun cm c' aW w' _=>h cm c' aW w'
/-! ### Slices put together out of values -/
end
end Go.Proofs.YtldjgdggcodgeaaGreat
namespace Go.Proofs.YtldjgdggcodgeaaGreat
open Go.RowKit
section
variable {P:Program} {ops:Array Oper} {o:Oper} {KK:Act->World->Prop}
variable {n:Nat} {D:List Deferred} {L:List (Nat×Value)} {B:Nat->Prop} {ai:World} {H:List bc} {a:Act} {w:World}
variable {T:List (TypeId×bC)} {d:Nat} {K:bc->List bc}
theorem Kk{u x:Operand} {t e:TypeId} {i i':bC} {A:Option Addr} {m c l:Nat} {k:IntKind} {z:Int} (aJ:c2 n D L a) (aA:o.op=.slice t u (some x) none none)
  (ca:gg P T) (J:T.lookup t=some i) (U:i.desc=.slice e) (ag:T.lookup e=some i') (hu:aE L u=some (.slice A m c)) (ah:aE L x=some (.int k z)) (bk:z=(l:Int)) (ad:l<=m) :
  fg P o a (.slice (j8 A l i'.size c) (m - l) (c - l)):=fun w=>by
 subst bk;have aC:=(ca _ _ J).1;rw[U]at aC;have ag7:(l:Int)<=(m:Int):=by omega
 simp[execOp,aA,aJ.aE hu,aJ.aE ah,Instr.sliceAt,Instr.slice,Instr.sliceBounds,Instr.sliceBound,asIntOf,run_underlying aC,bC.run_sizeOf (ca _ _ ag),ad,j8]
theorem R7{u x:Operand} {t e:TypeId} {i i':bC} {A:Option Addr} {m c h:Nat} {k:IntKind} {z:Int} (aJ:c2 n D L a) (aA:o.op=.slice t u none (some x) none)
  (ca:gg P T) (J:T.lookup t=some i) (U:i.desc=.slice e) (ag:T.lookup e=some i') (hu:aE L u=some (.slice A m c)) (ah:aE L x=some (.int k z)) (bk:z=(h:Int)) (ad:h<=c) :
  fg P o a (.slice A h c):=fun w=>by
 subst bk;have aC:=(ca _ _ J).1;rw[U]at aC
 simp[execOp,aA,aJ.aE hu,aJ.aE ah,Instr.sliceAt,Instr.slice,Instr.sliceBounds,Instr.sliceBound,asIntOf,run_underlying aC,bC.run_sizeOf (ca _ _ ag),ad]
 by_cases aa:c=0
 ·simp[aa]
 ·cases A with
  | none=>simp
  | some qX=>simp[Addr.add]
theorem R8{u x y:Operand} {t e:TypeId} {i i':bC} {A:Option Addr} {m c l h:Nat} {k k':IntKind} {z nU:Int} (aJ:c2 n D L a) (aA:o.op=.slice t u (some x) (some y) none)
  (ca:gg P T) (J:T.lookup t=some i) (U:i.desc=.slice e) (ag:T.lookup e=some i') (hu:aE L u=some (.slice A m c)) (ah:aE L x=some (.int k z)) (aH:aE L y=some (.int k' nU)) (bk:z=(l:Int)) (xe:nU=(h:Int)) (ad:l<=h) (b1:h<=c) :
  fg P o a (.slice (j8 A l i'.size c) (h - l) (c - l)):=fun w=>by
 subst bk; subst xe;have aC:=(ca _ _ J).1;rw[U]at aC
 simp[execOp,aA,aJ.aE hu,aJ.aE ah,aJ.aE aH,Instr.sliceAt,Instr.slice,Instr.sliceBounds,Instr.sliceBound,asIntOf,run_underlying aC,bC.run_sizeOf (ca _ _ ag),ad,b1,j8]
def eh(z:List Value) (k:Nat):List Value:=(List.replicate k z).flatten
theorem xf(z:List Value) (k:Nat):(eh z k).length=k * z.length:=by simp[eh]
theorem Kl(z:List Value) (bk:0 < z.length):∀ k:Nat,(Array.range (k * z.length)).map (fun j=>z.toArray[j % z.toArray.size]!)=(eh z k).toArray:=by
 intro k
 apply Array.ext
 ·simp[eh]
 ·intro j J U
  simp only[Array.size_map,Array.size_range]at J;simp only[Array.getElem_map,Array.getElem_range,List.size_toArray];have hm:=Nat.mod_lt j bk;have hlen:j < (eh z k).length:=by rw[xf]; exact J
  have key:∀ (k j:Nat),j < k * z.length->(eh z k)[j]?=z[j % z.length]?:=by
   intro k
   induction k with
   | zero=>intro j aF; simp at aF
   | succ k bJ=>
    intro j aF
    have:eh z (k+1)=z++eh z k:=by simp[eh,List.replicate_succ]
    rw[this]
    by_cases aL:j < z.length
    ·rw[List.getElem?_append_left aL,Nat.mod_eq_of_lt aL]
    ·rw[List.getElem?_append_right (by omega),bJ (j - z.length) (by rw[Nat.add_mul]at aF; omega)]
     congr 1
     exact(Nat.mod_eq_sub_mod (by omega)).symm
  have ag:=key k j J;have ay:(eh z k)[j]?=some (eh z k)[j]:=List.getElem?_eq_getElem hlen;rw[ay,List.getElem?_eq_getElem hm]at ag;have aO:(eh z k).toArray[j]=(eh z k)[j]:=by simp
  rw[aO,Option.some.inj ag]
  simp[hm]
theorem R9{s x:Operand} {t e:TypeId} {i i':bC} {A c7:Option Addr} {c k cc:Nat} {xs news:List Value} (av:Sym n D L B ai H a w)
  (aA:o.op=.call { callee:=.builtin .copy,args:=#[s,x],argTypes:=#[t,t] }) (bb:o.guard=none/\o.dst=some d) (ax:Nat.blt d n=true)
  (ca:gg P T) (J:T.lookup t=some i) (U:i.desc=.slice e) (ag:T.lookup e=some i') (aj:aE L s=some (.slice A k c)) (ah:aE L x=some (.slice c7 k cc))
  (az:iK H (.row A c e i'.size k xs) K) (au:Reads w c7 k i'.size news) (iL:∀ u∈news,u.oneCell'=true)
  (h:∀ aW w',Sym n D ((d,.int .i64 (k:Int)) :: L) B ai (K (.row A c e i'.size k news)) aW w'->KK aW w'):eW P ops o KK a w:=by
 have aC:=(ca _ _ J).1;rw[U]at aC;have cq:=ca _ _ ag;have e7:ey w B e i'.size A c k xs:=av.aU.ok _ az.mem
 by_cases ab:k=0
 ·subst ab
  have a6:news=[]:=List.eq_nil_of_length_eq_zero (by simpa using au.1);have hJ:xs=[]:=List.eq_nil_of_length_eq_zero (by simpa using e7.1);subst a6; subst hJ;have nS:(Builtin.copy_ #[t,t] o.type #[.slice A 0 c,.slice c7 0 cc]).run P w=.ok (.int .i64 0) w:=by
   have nT:(Builtin.firstCells i'.size 0 (.slice c7 0 cc)).run P w=.ok #[] w:=by
    cases c7<;>simp[Builtin.firstCells,loadCells,loadCellsFrom]
   cases A<;>simp[Builtin.copy_,run_underlying aC,Builtin.lenOf,bC.run_sizeOf cq,nT,storeCells,goInt]
  refine pG av bb ax (w':=w) (v:=.int .i64 ((0:Nat):Int)) (by simp[execOp,aA,resolve,invoke,builtin,av.aE aj,av.aE ah,nS]) ?_ h
  have:=av.aU
  obtain⟨X,Y,rfl,rfl⟩:=az;exact this
 ·obtain⟨b,p,rfl,aa⟩:=au.2 (by omega)
  rcases e7.2 with⟨_,h0,_⟩ | ⟨g,cur,de,rfl,oJ,aV,je,nR,h1,fZ,oK⟩
  ·omega
  ·have sh:0+news.length<=cur.size:=by rw[au.1,fZ,Nat.zero_add]; exact Nat.mul_le_mul_right _ nR
   have mE:=run_firstCells_some (P:=P) w i'.size k ⟨b,p,none⟩ k cc news au.1 (fun j v aF=>by rw[Addr.add_lit]; exact aa j v aF);have di:=run_storeCells_cells (P:=P) g 0 news 0 w (fun j aF=>by
     simp only[World.cell?,aV]
     simp; omega) (fun j aF=>by
     simp only[World.frozen?,aV]
     rcases je with h | h
     ·simp; omega
     ·simp; omega) iL
   rw[Nat.add_zero,xd g e de news _ w cur aV sh]at di;have nS:(Builtin.copy_ #[t,t] o.type #[.slice (some ⟨g,0,none⟩) k c,.slice (some ⟨b,p,none⟩) k cc]).run P w=.ok (.int .i64 (k:Int)) (w.setRow g (cur.toList.take 0++news++cur.toList.drop (0+news.length)).toArray):=by
    have El:Nat.min k k=k:=Nat.min_self k;simp only[Builtin.copy_,Sem.run_bind]
    simp[run_underlying aC,Builtin.lenOf,bC.run_sizeOf cq,El,mE,di,goInt]
   refine pG av bb ax (w':=w.setRow g (cur.toList.take 0++news++cur.toList.drop (0+news.length)).toArray) (v:=.int .i64 (k:Int)) (by simp only[execOp,aA,resolve,invoke,builtin,Sem.run_bind,Sem.run_pure,Result.andThen_ok,List.map_toArray,List.map_cons,List.map_nil,av.aE aj,av.aE ah,nS]) ?_ h;refine av.aU.sg az ⟨rfl,rfl,rfl,by simp,fun q ao=>setRow_other w g q _ (fun cu=>by subst cu; exact oJ ao)⟩ (c':=.row (some ⟨g,0,none⟩) c e i'.size k news) ?_ (fun q ao=>.inl ao) fun q _ ao=>setRow_other w g q _ (fun cu=>ao (by subst cu; rfl))
   refine⟨au.1,.inr ⟨g,_,de,rfl,oJ,setRow_heap w g cur _ e _ aV,?_,nR,h1,?_,?_⟩⟩
   ·rcases je with h | h
    ·exact .inl h
    ·exact .inr (by simp; omega)
   ·simp only[List.size_toArray,List.length_append,List.length_take,List.length_drop,Array.length_toList]
    omega
   ·simp only[List.take_zero,List.nil_append,<- au.1]
    exact List.take_left
theorem Sa{s x:Operand} {t e:TypeId} {i i':bC} {A c7:Option Addr} {c k bj m cc:Nat} {xs news:List Value} (av:Sym n D L B ai H a w)
  (aA:o.op=.call { callee:=.builtin .copy,args:=#[s,x],argTypes:=#[t,t] }) (bb:o.guard=none/\o.dst=some d) (ax:Nat.blt d n=true)
  (ca:gg P T) (J:T.lookup t=some i) (U:i.desc=.slice e) (ag:T.lookup e=some i') (aj:aE L s=some (.slice (j8 A bj i'.size c) (k - bj) (c - bj))) (ah:aE L x=some (.slice c7 m cc))
  (az:iK H (.row A c e i'.size k xs) K) (au:Reads w c7 m i'.size news) (iL:∀ u∈news,u.oneCell'=true) (c6:0 < i'.size) (hm:bj+m<=k)
  (h:∀ aW w',Sym n D ((d,.int .i64 (m:Int)) :: L) B ai (K (.row A c e i'.size k (xs.take (bj * i'.size)++news++xs.drop (bj * i'.size+news.length)))) aW w'->KK aW w'):eW P ops o KK a w:=by
 have aC:=(ca _ _ J).1;rw[U]at aC;have cq:=ca _ _ ag;have e7:ey w B e i'.size A c k xs:=av.aU.ok _ az.mem
 by_cases ab:m=0
 ·subst ab
  have a6:news=[]:=List.eq_nil_of_length_eq_zero (by simpa using au.1);subst a6;have nS:(Builtin.copy_ #[t,t] o.type #[.slice (j8 A bj i'.size c) (k - bj) (c - bj),.slice c7 0 cc]).run P w=.ok (.int .i64 0) w:=by
   have nT:(Builtin.firstCells i'.size 0 (.slice c7 0 cc)).run P w=.ok #[] w:=by
    cases c7<;>simp[Builtin.firstCells,loadCells,loadCellsFrom]
   generalize j8 A bj i'.size c=cm
   cases cm<;>simp[Builtin.copy_,run_underlying aC,Builtin.lenOf,bC.run_sizeOf cq,nT,storeCells,goInt]
  refine pG av bb ax (w':=w) (v:=.int .i64 ((0:Nat):Int)) (by simp[execOp,aA,resolve,invoke,builtin,av.aE aj,av.aE ah,nS]) ?_ h
  have:=av.aU
  obtain⟨X,Y,rfl,rfl⟩:=az;rw[List.append_nil,List.length_nil,Nat.add_zero,List.take_append_drop];exact this
 ·obtain⟨b,p,rfl,aa⟩:=au.2 (by omega)
  rcases e7.2 with⟨_,h0,_⟩ | ⟨g,cur,de,rfl,oJ,aV,je,nR,h1,fZ,oK⟩
  ·omega
  ·have Sb:bj≠c:=by omega
   have Sc:j8 (some ⟨g,0,none⟩) bj i'.size c=some ⟨g,bj * i'.size,none⟩:=by
    unfold j8;rw[if_neg (fun e=>Sb e.symm)]
    by_cases h0:bj * i'.size=0
    ·simp[Addr.add,h0]
    ·simp[Addr.add,h0]
   rw[Sc]at aj;have uw:(bj+m) * i'.size<=k * i'.size:=Nat.mul_le_mul_right _ hm;have ag8:k * i'.size<=c * i'.size:=Nat.mul_le_mul_right _ nR;have sh:bj * i'.size+news.length<=cur.size:=by
    rw[au.1,fZ,<- Nat.add_mul];omega
   have mE:=run_firstCells_some (P:=P) w i'.size m ⟨b,p,none⟩ m cc news au.1 (fun j v aF=>by rw[Addr.add_lit]; exact aa j v aF);have di:=run_storeCells_cells (P:=P) g (bj * i'.size) news 0 w (fun j aF=>by
     simp only[World.cell?,aV]
     simp; omega) (fun j aF=>by
     simp only[World.frozen?,aV]
     rcases je with h | h
     ·simp; omega
     ·simp; omega) iL
   rw[Nat.add_zero,xd g e de news _ w cur aV sh]at di;have nS:(Builtin.copy_ #[t,t] o.type #[.slice (some ⟨g,bj * i'.size,none⟩) (k - bj) (c - bj),.slice (some ⟨b,p,none⟩) m cc]).run P w=.ok (.int .i64 (m:Int)) (w.setRow g (cur.toList.take (bj * i'.size)++news++cur.toList.drop (bj * i'.size+news.length)).toArray):=by
    have El:Nat.min (k - bj) m=m:=Nat.min_eq_right (by omega);have Sd:Nat.min m (k - bj)=m:=Nat.min_eq_left (by omega);simp only[Builtin.copy_,Sem.run_bind]
    simp[run_underlying aC,Builtin.lenOf,bC.run_sizeOf cq,El,Sd,mE,di,goInt]
   refine pG av bb ax (w':=w.setRow g (cur.toList.take (bj * i'.size)++news++cur.toList.drop (bj * i'.size+news.length)).toArray) (v:=.int .i64 (m:Int)) (by simp only[execOp,aA,resolve,invoke,builtin,Sem.run_bind,Sem.run_pure,Result.andThen_ok,List.map_toArray,List.map_cons,List.map_nil,av.aE aj,av.aE ah,nS]) ?_ h;refine av.aU.sg az ⟨rfl,rfl,rfl,by simp,fun q ao=>setRow_other w g q _ (fun cu=>by subst cu; exact oJ ao)⟩ (c':=.row (some ⟨g,0,none⟩) c e i'.size k (xs.take (bj * i'.size)++news++xs.drop (bj * i'.size+news.length))) ?_ (fun q ao=>.inl ao) fun q _ ao=>setRow_other w g q _ (fun cu=>ao (by subst cu; rfl))
   have kx:=e7.1;have mF:m * i'.size=news.length:=au.1.symm;have Se:bj * i'.size+news.length<=k * i'.size:=by rw[<- mF,<- Nat.add_mul]; exact uw
   refine⟨?_,.inr ⟨g,_,de,rfl,oJ,setRow_heap w g cur _ e _ aV,?_,nR,h1,?_,?_⟩⟩
   ·simp only[List.length_append,List.length_take,List.length_drop,kx]
    omega
   ·rcases je with h | h
    ·exact .inl h
    ·exact .inr (by simp only[List.size_toArray,List.length_append,List.length_take,List.length_drop,Array.length_toList]; omega)
   ·simp only[List.size_toArray,List.length_append,List.length_take,List.length_drop,Array.length_toList]
    omega
   ·show(cur.toList.take (bj * i'.size)++news++cur.toList.drop (bj * i'.size+news.length)).take (k * i'.size)=_
    have ep:(cur.toList.take (bj * i'.size)++news).length=bj * i'.size+news.length:=by
     simp only[List.length_append,List.length_take,Array.length_toList];omega
    rw[List.take_append,List.take_of_length_le (by rw[ep]; exact Se),ep,<- oK,List.take_take,Nat.min_eq_left (by omega),List.drop_take]
end
end Go.Proofs.YtldjgdggcodgeaaGreat
namespace Go.Proofs.YtldjgdggcodgeaaGreat
end Go.Proofs.YtldjgdggcodgeaaGreat
namespace Go.Proofs.YtldjgdggcodgeaaGreat
open Go.RowKit

section
def bc.Sf:bc->Bool
 | .obj _ _=>false
 | _=>true
theorem ey.isCells{w:World} {B:Nat->Prop} {e:TypeId} {size c n:Nat} {A:Option Addr} {xs:List Value} (h:ey w B e size A c n xs) {b:Nat} (ae:A.map (·.block)=some b):∃ cs e de,w.heap[b]?=some (.cells cs e de):=by
 rcases h.2 with⟨rfl,_⟩ | ⟨g,cur,de,rfl,aV,b1,_⟩
 ·cases ae
 ·have:g=b:=Option.some.inj ae
  subst this;exact⟨_,_,_,b1⟩
theorem bc.ok.cells{B:Nat->Prop} {w:World} {c:bc} (h:c.ok B w) (aa:c.Sf=true) {b:Nat} (ae:c.has b):∃ cs e de,w.heap[b]?=some (.cells cs e de):=by
 cases c with
 | obj b' o=>cases aa
 | gu b' cs e=>
  have:b'=b:=Option.some.inj ae
  subst this;exact⟨_,_,_,h.2⟩
 | row A c e size n xs=>exact ey.isCells h ae
 | tree rs=>
  obtain⟨r,au,ae⟩:=ae;exact ey.isCells (h.1 r au) ae
section
variable {B:Nat->Prop} {ai w:World}
end
def ux(k:Nat):Deferred:={ target:=.collected k,args:=#[] }
end

end Go.Proofs.YtldjgdggcodgeaaGreat
namespace Go.Proofs.YtldjgdggcodgeaaGreat
open Go.RowKit
section
variable {r:Option Nat} {P:Program} {ops:Array Oper} {Q:Exit->Act->World->Prop} {o:Oper} {KK:Act->World->Prop} {c:Code}
variable {n:Nat} {D:List Deferred} {L:List (Nat×Value)} {B:Nat->Prop} {ai:World} {H:List bc} {a:Act} {w:World} {d:Nat}
theorem Em{N:Nat} {vs:List Value} {fn:Func} (aT:fn.ntmps=N) (hle:vs.length<=N) (pK:List (Nat×Value)) (dJ:pK=vs.zipIdx.map fun p=>(p.2,p.1)) :
  c2 N [] pK { tmps:=vs.toArray++Array.replicate (fn.ntmps - vs.toArray.size) undef,defers:=[] }:=by
 refine⟨by rw[aT]; exact RV vs hle,rfl,fun s v aj=>?_⟩;have key:∀ (vs:List Value) (k:Nat),((vs.zipIdx k).map fun p=>(p.2,p.1)).lookup s=some v->k<=s/\vs[s - k]?=some v:=by
  intro vs
  induction vs with
  | nil=>intro k h; cases h
  | cons u vs bJ=>
   intro k h;simp only[List.zipIdx_cons,List.map_cons,List.lookup_cons]at h
   by_cases e:s=k
   ·subst e
    simp at h
    subst h
    simp
   ·have cu:(s == k)=false:=by simpa using e
    rw[cu]at h;obtain⟨J,U⟩:=bJ (k+1) h;refine⟨by omega,?_⟩;rw[show s - k=(s - (k+1))+1 by omega,List.getElem?_cons_succ];exact U
 have J:=(key vs 0 (by rw[<- dJ]; exact aj)).2;simp only[Nat.sub_zero]at J;have aL:s < vs.length:=(List.getElem?_eq_some_iff.1 J).1;show(vs.toArray++_)[s]?=some v;rw[Array.getElem?_append_left (by simpa using aL)]
 simpa using J
theorem Km{fn:Func} {tmps:Array Value} {R:Value->World->Prop} {v:Value} (l9:∀ w,bK B ai H w->(results fn tmps).run P w=.ok v w) (h:∀ w,bK B ai H w->R v w) :
  ∀ (ks:List Nat) (w:World),bK B ai (ks.map (fun k=>bc.obj k (.deferred (some [])))++H) w->LeavesInM Fence.wide 0 P fn tmps (fun e w'=>∃ v,e=.returned v/\R v w') (ks.map ux) .returning w
 | [],w,aj=>⟨v,l9 w aj,v,rfl,h w aj⟩
 | k :: ks,w,aj=>by
  have ab:=(aj.ok (.obj k (.deferred (some []))) (by simp)).2;refine⟨by simp,.inl ⟨k,_,rfl,run_takeDeferred ab,?_⟩⟩;refine Km l9 h ks _ ?_
  have:=(aj.xc (x':=.deferred none) (K:=fun c=>c :: (ks.map (fun k=>bc.obj k (.deferred (some [])))++H)) uo).en (List.sublist_cons_self _ _)
  exact this
theorem Kn{fn:Func} {R:Value->World->Prop} {v:Value} (ks:List Nat) (av:Sym n (ks.map ux) L B ai (ks.map (fun k=>bc.obj k (.deferred (some [])))++H) a w)
  (l9:∀ w,bK B ai H w->(results fn a.tmps).run P w=.ok v w) (h:∀ w,bK B ai H w->R v w):bodyPostM Fence.wide 0 P fn (fun e w'=>∃ v,e=.returned v/\R v w') .ret a w:=by
 show LeavesInM _ _ _ _ _ _ a.defers _ _;rw[av.st.defs];exact Km l9 h ks w av.aU
end
end Go.Proofs.YtldjgdggcodgeaaGreat
namespace Go.Proofs.YtldjgdggcodgeaaGreat
theorem bK.Sg{B:Nat->Prop} {ai w:World} {H:List bc} (h:bK B ai H w) {k:Nat} (ab:B k):Rest w H k:=⟨h.base k ab,fun c aa e=>((h.ok c aa).lt e).1 ab⟩
theorem bK.frame{B:Nat->Prop} {ai w w':World} {H1 H Ko:List bc} (h:bK B ai (H1++H) w) (a8:bK (Rest w H1) w Ko w'):bK B ai (Ko++H) w':=by
 have J:bK B ai H1 w:=h.en (List.sublist_append_left _ _);have U:bK B ai H w:=h.en (List.sublist_append_right _ _);have ab:=J.back a8;have mG:=(List.pairwise_append.1 h.apart).2.2;have au:∀ c∈H,∀ b,c.has b->Rest w H1 b:=fun c aa b e=>⟨((U.ok c aa).lt e).2,fun d ax cu=>mG d ax c aa b cu e⟩
 refine⟨ab.below,ab.base,fun c hm=>?_,List.pairwise_append.2 ⟨ab.apart,U.apart,fun c hm d ax b e cu=>?_⟩⟩
 ·rcases List.mem_append.1 hm with hm | hm
  ·exact ab.ok c hm
  ·exact(U.ok c hm).e6 fun b e=>a8.below.block b (au c hm b e)
 ·exact((a8.ok c hm).lt e).1 (au d ax b cu)
theorem Sh {P : Program} {f : FuncId} {fn : Func} {args : Array Value} {w : World} (ir : P.funcs[f]? = some fn) (a6 : (fn.name == "runtime.NumGoroutine") = false) (ae : fn.body.isNone = false) : (callFunc f args).run P w = .ok (.enter f args) w := by
 have hJ : fn.name ≠ "runtime.NumGoroutine" := by simpa using a6
 have eX:fn.body≠none:=by intro h; rw[h]at ae; cases ae
 simp[callFunc,program,Sem.run,ir,hJ,eX]
end Go.Proofs.YtldjgdggcodgeaaGreat
namespace Go.Proofs.YtldjgdggcodgeaaGreat
end Go.Proofs.YtldjgdggcodgeaaGreat
namespace Go.Proofs.YtldjgdggcodgeaaGreat
open Go.RowKit

section
section
variable {P:Program} {ops:Array Oper} {o:Oper} {KK:Act->World->Prop} {n:Nat} {D:List Deferred} {L:List (Nat×Value)} {B:Nat->Prop} {ai:World} {H:List bc} {a:Act} {w:World} {d:Nat} {T:List (TypeId×bC)}
theorem Si{f:FuncId} {fn:Func} {s:Nat} {lb:List Value} {xs:List Operand} {fo:Array TypeId} {vs:List Value} (av:Sym n D L B ai H a w) (aA:o.op=.call { callee:=.value (.tmp s),args:=xs.toArray,argTypes:=fo })
  (aj:L.lookup s=some (.func (.func f) #[] lb.toArray)) (ir:P.funcs[f]?=some fn)
  (a6 : (fn.name == "runtime.NumGoroutine") = false) (ae : fn.body.isNone = false) (aw : iq L xs = some vs) : (execOp a.eval o).run P w = .ok (.enter f (vs ++ lb).toArray) w := by
 have e:a.eval (.tmp s)=.func (.func f) #[] lb.toArray:=av.aE (x:=.tmp s) aj
 have hJ : fn.name ≠ "runtime.NumGoroutine" := by simpa using a6
 have eX:fn.body≠none:=by intro h; rw[h]at ae; cases ae
 simp[execOp,aA,resolve,e,Deferred.ofValue,invoke,callFunc,program,Sem.run,ir,hJ,eX,av.st.iq aw]
theorem Sj{f:FuncId} {fn:Func} {s:Nat} {lb:List Value} {xs:List Operand} {fo:Array TypeId} {vs:List Value} {R:Value->World->Prop} (av:Sym n D L B ai H a w)
  (aA:o.op=.call { callee:=.value (.tmp s),args:=xs.toArray,argTypes:=fo }) (bb:o.guard=none/\o.dst=some d) (ax:Nat.blt d n=true) (aj:L.lookup s=some (.func (.func f) #[] lb.toArray))
  (ir : P.funcs[f]? = some fn) (a6 : (fn.name == "runtime.NumGoroutine") = false) (ae : fn.body.isNone = false) (aw : iq L xs = some vs) (c5 : oH P f (vs ++ lb).toArray w R)
  (h:∀ v aW w',R v w'->c2 n D ((d,v) :: L) aW->KK aW w'):eW P ops o KK a w:=by
 refine .inl ⟨by simp[Region.wanted,bb.1],.inr (.inr ⟨f,(vs++lb).toArray,w,Si av aA aj ir a6 ae aw,?_⟩)⟩;refine Calls.mono c5 ?_;rintro e w' ⟨v,rfl,dO⟩;exact⟨v,rfl,h v _ w' dO (by rw[bb.2]; exact av.st.put d v (dK ax))⟩
theorem bK.En{b:Nat} {cs:List Value} {e:TypeId} {size m:Nat} (ec:bK B ai (.gu b cs e :: H) w) (ad:cs.length=m * size) (hm:m<=140737488355328):bK B ai (.row (some ⟨b,0,none⟩) m e size m cs :: H) w:=by
 refine⟨ec.below,ec.base,fun c aa=>?_,?_⟩
 ·rcases List.mem_cons.1 aa with rfl | aa
  ·have:=ec.ok _ (List.mem_cons_self)
   exact⟨ad,.inr ⟨b,cs.toArray,(0,0),rfl,this.1,this.2,.inl rfl,Nat.le_refl _,by unfold maxLen; omega,by simpa using ad,by simp[<- ad]⟩⟩
  ·exact ec.ok c (List.mem_cons_of_mem _ aa)
 ·have:=List.pairwise_cons.1 ec.apart
  exact List.Pairwise.cons (fun c aa b cu=>this.1 c aa b (by simpa [bc.has] using cu)) this.2
inductive oM:List Value->Nat->List Value->List Value->Prop where
 | nil {l:List Value}:oM l 0 [] l
 | cons {c v:Value} {l l' vs:List Value} (h:oM l 0 vs l'):oM (c :: l) 0 (v :: vs) (v :: l')
 | skip {c:Value} {l l' vs:List Value} {k:Nat} (h:oM l k vs l'):oM (c :: l) (k+1) vs (c :: l')
theorem oM.eq{l l' vs:List Value} {k:Nat} (h:oM l k vs l'):l'=l.take k++vs++l.drop (k+vs.length)/\k+vs.length<=l.length:=by
 induction h with
 | nil=>simp
 | cons _ bJ=>exact⟨by simp only[Nat.zero_add,List.take_zero,List.nil_append]at bJ; rw[bJ.1]; simp,by simp only[List.length_cons]at *; omega⟩
 | skip _ bJ=>exact⟨by rw[bJ.1,show ∀ a b:Nat,a+1+b=(a+b)+1 by omega]; simp,by simp only[List.length_cons]at *; omega⟩
theorem Eo:∀ (vs:List Value) (l:List Value) (k j:Nat),k+j+vs.length<=l.length ->
  ((vs.zipIdx j).foldl (fun(cs:Array Value) (p:Value×Nat)=>cs.setIfInBounds (k+p.2) p.1) l.toArray)=(l.take (k+j)++vs++l.drop (k+j+vs.length)).toArray
 | [],l,k,j,h=>by simp
 | v :: vs,l,k,j,h=>by
  simp only[List.length_cons]at h;simp only[List.zipIdx_cons,List.foldl_cons];rw[show l.toArray.setIfInBounds (k+j) v=(l.set (k+j) v).toArray by simp];rw[Eo vs _ k (j+1) (by simp; omega)]
  congr 1
  rw[show k+(j+1)=k+j+1 by omega,List.take_succ_eq_append_getElem (by simp; omega)];simp only[List.getElem_set_self,List.append_assoc,List.length_cons];rw[List.take_set_of_le (by omega),List.drop_set_of_lt (by omega)]
  simp[Nat.add_comm,Nat.add_left_comm]
theorem Sk{pl:Nat->Option (Nat×Nat)} {z nU:List Value} {i off size:Nat} {v:Value} {rest:List (Nat×Value)} (an:pl i=some (off,size)) (ad:v.cells.size=size) (h:oM z off v.cells.toList nU) :
  Instr.fill pl z.toArray ((i,v) :: rest)=Instr.fill pl nU.toArray rest:=by
 obtain⟨J,U⟩:=h.eq;rw[Instr.fill];simp only[an];simp only[Array.length_toList]at U J;rw[if_neg (by simp[ad]; simp[ad]at U; omega)]
 congr 1
 have:=Eo v.cells.toList z off 0 (by simp only[Array.length_toList]; omega)
 rw[J,<- Array.foldl_toList];simp only[Nat.add_zero,Array.toList_zipIdx,Array.length_toList]at this ⊢;exact this
end
end

end Go.Proofs.YtldjgdggcodgeaaGreat
namespace Go.Proofs.YtldjgdggcodgeaaGreat
open Go.RowKit
theorem Sl(fv:ByteArray):∀ (k i:Nat) (r:List UInt8),fv.size - i=k->ByteArray.toList.loop fv i r=r.reverse++fv.data.toList.drop i:=by
 intro k
 induction k with
 | zero=>
  intro i r h;unfold ByteArray.toList.loop;rw[if_neg (by omega),List.drop_of_length_le (by simp; show fv.size<=i; omega),List.append_nil]
 | succ k bJ=>
  intro i r h;have hi:i < fv.size:=by omega
  unfold ByteArray.toList.loop;rw[if_pos hi,bJ (i+1) _ (by omega)];have nc:i < fv.data.toList.length:=by simpa using hi
  rw[List.drop_eq_getElem_cons nc]
  have:fv.get! i=fv.data.toList[i]:=by
   simp only[ByteArray.get!,Array.getElem_toList];exact getElem!_pos fv.data i (by simpa using hi)
  simp[this]
theorem xg(l:List UInt8):(ByteArray.mk l.toArray).toList=l:=by
 unfold ByteArray.toList;rw[Sl _ _ 0 [] rfl]
 simp
def fi(l:List UInt8):Value:=.string ⟨l.toArray⟩
section
variable {P:Program} {ops:Array Oper} {Q:Exit->Act->World->Prop} {o:Oper} {KK:Act->World->Prop} {n:Nat} {D:List Deferred} {L:List (Nat×Value)} {B:Nat->Prop} {ai:World} {H:List bc} {a:Act} {w:World} {d:Nat} {T:List (TypeId×bC)} {r:Option Nat} {c:Code}
theorem Sm{u v:Operand} {t bR:TypeId} {x y:List UInt8} (aJ:c2 n D L a) (aA:o.op=.binOp .eql t u v bR) (hu:aE L u=some (fi x)) (aw:aE L v=some (fi y)):fg P o a (.bool (x == y)):=by
 have:=RY (P:=P) aJ aA hu aw
 rw[xg,xg]at this;exact this
theorem Sn{u v:Operand} {t bR:TypeId} {x y:List UInt8} (aJ:c2 n D L a) (aA:o.op=.binOp .neq t u v bR) (hu:aE L u=some (fi x)) (aw:aE L v=some (fi y)):fg P o a (.bool (!(x == y))):=by
 have:=RZ (P:=P) aJ aA hu aw
 rw[xg,xg]at this;exact this
theorem So{u:Operand} {t bR e:TypeId} {i i' Kp:bC} {A:Option Addr} {m c:Nat} {l:List UInt8} (aJ:c2 n D L a) (aA:o.op=.convert t bR u) (ca:gg P T) (J:T.lookup t=some i) (U:T.lookup bR=some i') (ag:i.desc=.slice e) (ay:i'.desc=.string)
  (aO:T.lookup e=some Kp) (aK:Kp.desc=.int .u8) (hu:aE L u=some (.slice A m c)) (w:World) (au:Reads w A m 1 (l.map fun c=>Value.int .u8 c.toNat)) :
  (execOp a.eval o).run P w=.ok (.value (fi l)) w:=by
 have aC:=(ca _ _ J).1;rw[ag]at aC;have a1:=(ca _ _ U).1;rw[ay]at a1;have gh:=(ca _ _ aO).1;rw[aK]at gh;have hm:l.length=m:=by simpa using au.1
 subst hm
 have:(convert t bR (.slice A l.length c)).run P w=.ok (fi l) w:=by
  by_cases h0:l.length=0
  ·have ad:l=[]:=List.eq_nil_of_length_eq_zero h0
   subst ad;cases A with
   | none=>simp[convert,run_underlying aC,run_underlying a1,run_underlying gh,Conv.bytesToString,fi]; rfl
   | some qX=>exact run_convert_bytes_back w t bR e qX c [] aC gh a1 (fun j aF=>by simp at aF)
  ·obtain⟨b,p,rfl,aa⟩:=au.2 (by omega)
   exact run_convert_bytes_back w t bR e ⟨b,p,none⟩ c l aC gh a1 (fun j aF=>by rw[Addr.add_lit]; exact aa j _ (by simp[aF]))
 simp[execOp,aA,aJ.aE hu,this]
end
end Go.Proofs.YtldjgdggcodgeaaGreat
namespace Go.Proofs.YtldjgdggcodgeaaGreat
end Go.Proofs.YtldjgdggcodgeaaGreat
namespace Go.Proofs.YtldjgdggcodgeaaGreat
open Go.RowKit

section
section
variable {P:Program} {ops:Array Oper} {Q:Exit->Act->World->Prop} {o:Oper} {KK:Act->World->Prop} {n:Nat} {D:List Deferred} {L:List (Nat×Value)} {B:Nat->Prop} {ai:World} {H:List bc} {a:Act} {w:World} {d:Nat} {T:List (TypeId×bC)} {K:bc->List bc}
theorem bK.rowAt(ec:bK B ai H w) {A:Option Addr} {c:Nat} {e:TypeId} {size m:Nat} {xs:List Value} (az:iK H (.row A c e size m xs) K) (hm:0 < m):∃ g,A=some ⟨g,0,none⟩:=by
 rcases (ec.ok _ az.mem).2 with⟨_,h,_⟩ | ⟨g,_,_,h,_⟩
 ·omega
 ·exact⟨g,h⟩
end
end

section
open Go.ChangeShapes Go.WideShapes Go.ChangeAt Go.RowKit
section
variable {H:Type} {enc:TypeId×Value->H} {P:Program}
theorem Kq(ad:laidOutB P=true) {W dZ:World} (ae:Below W.heap.size W dZ) {sp:Nat->Bool} :
  ∀ (fo:List TypeId) (vs:List Value) (aI:List (DataW H)) (ps:List MemPlace),(∀ t∈fo,P.readableRec t=true/\t < P.types.size)->(∀ x∈ps,x.block < W.heap.size)->(∀ x∈ps,sp x.block=true) ->
   DataW.TrodAll enc P W 0 (fun _=>true) true fo vs aI ps->DataW.TrodAll enc P dZ 0 sp true fo vs aI ps
 | [],[],[],ps,_,_,_,h=>h
 | t :: fo,v :: vs,d :: aI,ps,au,aL,xh,h=>by
  obtain⟨p,q,J,U,rfl⟩:=h;refine⟨p,q,WideElems.Trod_stays ad (au t (by simp)).1 (au t (by simp)).2 J (fun x ah=>ae.same (aL x (by simp[ah]))) (fun x ah=>xh x (by simp[ah])),?_,rfl⟩;exact Kq ad ae fo vs aI q (fun bR aY=>au bR (by simp[aY])) (fun x ah=>aL x (by simp[ah])) (fun x ah=>xh x (by simp[ah])) U
 | [],[],_ :: _,_,_,_,_,h=>h.elim
 | [],_ :: _,_,_,_,_,_,h=>h.elim
 | _ :: _,[],_,_,_,_,_,h=>h.elim
 | _ :: _,_ :: _,[],_,_,_,_,h=>h.elim
theorem Sp{f:Func} {s:ChangeSpec} {apart fresh handsOn:Bool} {t:TypeId} {W dZ:World} {args:Array Value} {aI gs:List (DataW H)} {before:List MemPlace}
  (oN:DataW.Whole enc P f.params.toList s.vars apart W args.toList aI gs before) (aw:s.vars=[]) (ir:s.fn H (aI++gs)={ results:=[.lit (.bool true)],args:=aI }) (Kr:f.resultTypes=#[t]) (aY:P.underlying t=some .bool)
  (ad:laidOutB P=true) (Sq:∀ t∈f.params.toList,P.readableRec t=true/\t < P.types.size) (ae:Below W.heap.size W dZ):s.post enc P f apart fresh handsOn false W args (.bool true) dZ:=by
 have aL:∀ p∈before,p.block < W.heap.size:=fun p an=>oN.lt p an
 have AH:=oN;obtain⟨p,q,J,U,rfl,_,_⟩:=oN;rw[aw]at U;obtain⟨rfl,rfl⟩:=trodVars_none U;simp only[List.append_nil]at aL AH ir;refine⟨aI,[],p,[],p,[],AH,?_,?_,?_,World.keptBut_mono (fun x ah=>⟨ah,Or.inr (Or.inl ah)⟩) (ae.frame (·∈p)),fun h=>by cases h⟩
 ·simp only[List.append_nil,ir,Kr]
  exact trodAll_mk1 (shut_bool aY true)
 ·simp only[List.append_nil,ir]
  exact Kq ad ae _ _ _ _ Sq aL (fun x ah=>by simpa using aL x ah) J
 ·simp only[List.append_nil,ir,aw]
  rfl
end
end

section
section
variable {P:Program} {ops:Array Oper} {Q:Exit->Act->World->Prop} {o:Oper} {KK:Act->World->Prop} {n:Nat} {D:List Deferred} {L:List (Nat×Value)} {B:Nat->Prop} {ai:World} {H:List bc} {a:Act} {w:World} {d:Nat} {T:List (TypeId×bC)} {K:bc->List bc}
end
theorem ln{α:Type} (f:α->List Value) (s:Nat) (az:∀ x,(f x).length=s) (l:List α):(l.flatMap f).length=l.length * s:=by
 induction l with
 | nil=>simp
 | cons x l bJ=>rw[List.flatMap_cons,List.length_append,bJ,az,List.length_cons,Nat.add_mul]; omega
theorem Sr{α:Type} (f:α->List Value) (s:Nat) (az:∀ x,(f x).length=s) (l:List α) (k j:Nat) (ab:k < l.length) (v:Value) (aw:(f l[k])[j]?=some v):(l.flatMap f)[k * s+j]?=some v:=by
 induction l generalizing k with
 | nil=>simp at ab
 | cons x l bJ=>
  have ah:=az x;cases k with
  | zero=>
   have aF:=(List.getElem?_eq_some_iff.1 aw).1;rw[List.flatMap_cons,List.getElem?_append_left (by simp only[List.getElem_cons_zero]at aF; omega)]
   simpa using aw
  | succ k=>
   have:=bJ k (by simpa using ab) (by simpa using aw)
   rw[List.flatMap_cons,List.getElem?_append_right (by rw[ah,Nat.add_mul]; omega),ah,show(k+1) * s+j - s=k * s+j by rw[Nat.add_mul]; omega];exact this
theorem Reads.AI{B:Nat->Prop} {ai w:World} {H:List bc} (ec:bK B ai H w) {A:Option Addr} {c:Nat} {e:TypeId} {size n:Nat} {xs:List Value} (hm:bc.row A c e size n xs∈H):Reads w A n size xs:=by
 obtain⟨X,Y,rfl⟩:=List.append_of_mem hm;exact Reads.row ec (K:=fun c=>X++c :: Y) ⟨X,Y,rfl,rfl⟩
end

section
open Go.ChangeShapes Go.WideShapes Go.ChangeAt Go.RowKit
section
variable {H:Type} {enc:TypeId×Value->H} {P:Program} {W:World}
theorem Ss{a:Addr} {v:Value} (h:W.cell? a=some v):a=⟨a.block,a.off,none⟩:=by
 obtain⟨b,p,s⟩:=a;cases s with
 | none=>rfl
 | some s=>
  exfalso
  simp only[World.cell?]at h
  split at h<;>simp at h
theorem Ks{α:Type} {Q:Nat->α->Prop}:∀ n:Nat,(∀ i,i < n->∃ x,Q i x)->∃ l:List α,l.length=n/\∀ i (hi:i < l.length),Q i l[i]
 | 0,_=>⟨[],rfl,fun i hi=>by simp at hi⟩
 | n+1,h=>by
  obtain⟨l,ad,ao⟩:=Ks n (fun i hi=>h i (by omega));obtain⟨x,ah⟩:=h n (by omega);refine⟨l++[x],by simp[ad],fun i hi=>?_⟩
  by_cases nc:i < l.length
  ·rw[List.getElem_append_left nc]; exact ao i nc
  ·have:i=n:=by simp at hi; omega
   subst this;rw[List.getElem_append_right (by omega)]
   simpa [ad] using ah
end
end

section
section
variable {P:Program} {ops:Array Oper} {Q:Exit->Act->World->Prop} {o:Oper} {KK:Act->World->Prop} {n:Nat} {D:List Deferred} {L:List (Nat×Value)} {B:Nat->Prop} {ai:World} {H:List bc} {a:Act} {w:World} {d:Nat} {T:List (TypeId×bC)} {K:bc->List bc}
theorem Kt{u y v:Operand} {t e:TypeId} {i i':bC} {A:Option Addr} {m c h q:Nat} {k' St:IntKind} {nU Ku:Int} (aJ:c2 n D L a) (aA:o.op=.slice t u none (some y) (some v))
  (ca:gg P T) (J:T.lookup t=some i) (U:i.desc=.slice e) (ag:T.lookup e=some i') (hu:aE L u=some (.slice A m c)) (aH:aE L y=some (.int k' nU)) (aw:aE L v=some (.int St Ku)) (xe:nU=(h:Int)) (Su:Ku=(q:Int)) (b1:h<=q) (ao:q<=c) :
  fg P o a (.slice A h q):=fun w=>by
 subst xe; subst Su;have aC:=(ca _ _ J).1;rw[U]at aC
 simp[execOp,aA,aJ.aE hu,aJ.aE aH,aJ.aE aw,Instr.sliceAt,Instr.slice,Instr.sliceBounds,Instr.sliceBound,asIntOf,run_underlying aC,bC.run_sizeOf (ca _ _ ag),b1,ao]
 by_cases aa:q=0
 ·simp[aa]
 ·cases A with
  | none=>simp
  | some qX=>simp[Addr.add]
theorem Sv{s x:Operand} {t e:TypeId} {i i':bC} {b p iM hK c k m cc:Nat} {xs news:List Value} (av:Sym n D L B ai H a w)
  (aA:o.op=.call { callee:=.builtin .append,args:=#[s,x],argTypes:=#[t,t] }) (bb:o.guard=none/\o.dst=some d) (ax:Nat.blt d n=true)
  (ca:gg P T) (J:T.lookup t=some i) (U:i.desc=.slice e) (ag:T.lookup e=some i') (ay:Nat.blt 0 i'.size=true) (aO:i'.zero.cells.size=i'.size) (aj:aE L s=some (.slice (some ⟨b,p,none⟩) k c)) (ah:aE L x=some (.slice (some ⟨iM,hK,none⟩) m cc))
  (ab:0 < k) (hm:0 < m) (gw:Reads w (some ⟨b,p,none⟩) k i'.size xs) (au:Reads w (some ⟨iM,hK,none⟩) m i'.size news) (ag9:c < k+m) (fE:(k+m) * i'.bytes<=140737488355328) (gm:k+m<=140737488355328)
  (h:∀ g c' aW w',Sym n D ((d,.slice (some ⟨g,0,none⟩) (k+m) c') :: L) B ai (.row (some ⟨g,0,none⟩) c' e i'.size (k+m) (xs++news) :: H) aW w'->KK aW w'):eW P ops o KK a w:=by
 have aC:=(ca _ _ J).1;rw[U]at aC;have cq:=ca _ _ ag;obtain⟨inf,oI,fu,hx,lH⟩:=bC.info cq;obtain⟨b',p',cu,jf⟩:=gw.2 ab;cases cu;obtain⟨b',p',cu,jg⟩:=au.2 hm;cases cu;have hlen:(xs++news).length=(k+m) * i'.size:=by rw[List.length_append,gw.1,au.1,Nat.add_mul]
 have dW:=run_append_grow (P:=P) w t o.type e inf i'.zero aC oI lH ⟨b,p,none⟩ k c xs (by rw[gw.1,fu]) (fun j u hu=>by rw[Addr.add_lit]; exact jf j u hu) ⟨iM,hK,none⟩ m cc news (by rw[au.1,fu]) (fun j u hu=>by rw[Addr.add_lit]; exact jg j u hu) (by omega) (by omega) (growslice_fits (by omega) (by rw[hx]; exact fE));have pI:=grownCap_ge w (k+m) c e;have h1:grownCap w (k+m) c e<=maxLen:=grownCap_le_maxLen w (k+m) c e (by simp only[maxLen]; omega);refine pG av bb ax (v:=.slice (some ⟨w.heap.size,0,none⟩) (k+m) (grownCap w (k+m) c e)) (w':=w.drew.alloc (.cells (xs.toArray++news.toArray++Builtin.zeroCells i'.zero.cells (grownCap w (k+m) c e - (k+m))) e)) (by simp[execOp,aA,resolve,invoke,builtin,av.aE aj,av.aE ah,dW]) ?_ (h w.heap.size (grownCap w (k+m) c e));have lI:=av.aU.drew;have aS:=lI.alloc (.cells (xs.toArray++news.toArray++Builtin.zeroCells i'.zero.cells (grownCap w (k+m) c e - (k+m))) e);have an:=List.pairwise_cons.1 aS.apart;refine⟨aS.below,aS.base,fun dz kN=>?_,List.Pairwise.cons (fun dz kN q cu=>an.1 dz kN q (by simpa [bc.has] using cu)) an.2⟩
 rcases List.mem_cons.1 kN with rfl | kN
 ·refine⟨hlen,.inr ⟨w.heap.size,_,(0,0),rfl,av.aU.fresh,heap_alloc_new w.drew _,.inl rfl,pI,h1,?_,?_⟩⟩
  ·simp only[Array.size_append,List.size_toArray,size_zeroCells,aO,gw.1,au.1,<- Nat.add_mul]
   congr 1
   omega
  ·simp only[Array.toList_append,List.append_assoc]
   rw[<- List.append_assoc,<- hlen];exact List.take_left
 ·exact aS.ok dz (List.mem_cons_of_mem _ kN)
end
end

inductive ba where
 | int (k:IntKind)
 | bool
 | str
 | ak (g:ba)
 | gM (g:ba)
 | unit
 | pair (g h:ba)
 deriving DecidableEq
abbrev ba.D:ba->Type
 | .int _=>Int
 | .bool=>Bool
 | .str=>List UInt8
 | .ak g=>List g.D
 | .gM g=>List g.D
 | .unit=>Unit
 | .pair g h=>g.D×h.D
def ba.size:ba->Nat
 | .pair g h=>g.size+h.size
 | .unit=>0
 | _=>1
abbrev ba.zero:(g:ba)->g.D
 | .int _=>(0:Int)
 | .bool=>false
 | .str=>([]:List UInt8)
 | .ak g=>([]:List g.D)
 | .gM g=>([]:List g.D)
 | .unit=>()
 | .pair g h=>(g.zero,h.zero)
def Flat{α:Type} (R:α->List Value->Prop):List α->List Value->Prop
 | [],vs=>vs=[]
 | x :: l,vs=>∃ v1 v2,vs=v1++v2/\R x v1/\Flat R l v2
def ma(B:Nat->Prop) (w:World) (A:Option Addr) (m size:Nat) (vs:List Value):Prop:=Reads w A m size vs/\∀ b p,0 < m->A=some ⟨b,p,none⟩->B b
def bP(B:Nat->Prop) (w:World):(g:ba)->g.D->List Value->Prop
 | .int k=>fun(x:Int) vs=>vs=[.int k x]
 | .bool=>fun(x:Bool) vs=>vs=[.bool x]
 | .str=>fun(x:List UInt8) vs=>vs=[fi x]
 | .ak g=>fun(l:List g.D) vs=>∃ A c xs,vs=[.slice A l.length c]/\l.length<=c/\c<=maxLen/\Flat (bP B w g) l xs/\ma B w A l.length g.size xs
 | .gM g=>fun(l:List g.D) vs=>∃ A xs,vs=[.slice A l.length l.length]/\l.length<=maxLen/\Flat (bP B w g) l xs/\ma B w A l.length g.size xs
 | .unit=>fun _ vs=>vs=[]
 | .pair g h=>fun(x:g.D×h.D) vs=>∃ v1 v2,vs=v1++v2/\bP B w g x.1 v1/\bP B w h x.2 v2
theorem Flat.mono{α:Type} {R xb:α->List Value->Prop} (h:∀ x vs,R x vs->xb x vs):∀ {l:List α} {vs:List Value},Flat R l vs->Flat xb l vs
 | [],_,az=>az
 | _ :: _,_,⟨v1,v2,e,J,U⟩=>⟨v1,v2,e,h _ _ J,Flat.mono h U⟩
theorem Flat.length{α:Type} {R:α->List Value->Prop} {k:Nat} (h:∀ x vs,R x vs->vs.length=k):∀ {l:List α} {vs:List Value},Flat R l vs->vs.length=l.length * k
 | [],_,az=>by rw[show _=[] from az]; simp
 | _ :: l,_,⟨v1,v2,e,J,U⟩=>by
  rw[e,List.length_append,h _ _ J,Flat.length h U,List.length_cons,Nat.add_mul,Nat.one_mul,Nat.add_comm]
theorem Flat.append{α:Type} {R:α->List Value->Prop}:∀ {l l':List α} {vs mb:List Value},Flat R l vs->Flat R l' mb->Flat R (l++l') (vs++mb)
 | [],_,_,_,h,a8=>by rw[show _=[] from h]; exact a8
 | _ :: l,_,_,_,⟨v1,v2,e,J,U⟩,a8=>⟨v1,_,by rw[e,List.append_assoc],J,Flat.append U a8⟩
theorem Flat.split{α:Type} {R:α->List Value->Prop} {k:Nat} (h:∀ x vs,R x vs->vs.length=k):∀ {l:List α} {vs:List Value} (n:Nat),Flat R l vs->Flat R (l.take n) (vs.take (n * k))/\Flat R (l.drop n) (vs.drop (n * k))
 | [],vs,n,az=>by rw[show vs=[] from az]; simp[Flat]
 | x :: l,vs,0,az=>by simp only[List.take_zero,Nat.zero_mul,List.drop_zero]; exact⟨rfl,az⟩
 | x :: l,vs,n+1,⟨v1,v2,e,J,U⟩=>by
  obtain⟨aS,ae⟩:=Flat.split h n U;have ab:=h _ _ J;have aC:(v1++v2).take ((n+1) * k)=v1++v2.take (n * k):=by
   rw[List.take_append,List.take_of_length_le (by rw[ab,Nat.add_mul]; omega),ab]
   congr 2
   rw[Nat.add_mul]; omega
  have a1:(v1++v2).drop ((n+1) * k)=v2.drop (n * k):=by
   rw[List.drop_append,List.drop_of_length_le (by rw[ab,Nat.add_mul]; omega),ab,List.nil_append]
   congr 1
   rw[Nat.add_mul]; omega
  rw[e,aC,a1];exact⟨⟨v1,_,rfl,J,aS⟩,ae⟩
theorem Flat.get{α:Type} {R:α->List Value->Prop} {k:Nat} (h:∀ x vs,R x vs->vs.length=k) {l:List α} {vs:List Value} (az:Flat R l vs) {i:Nat} {x:α} (hi:l[i]?=some x):R x ((vs.drop (i * k)).take k):=by
 obtain⟨_,U⟩:=Flat.split h i az;have aL:i < l.length:=(List.getElem?_eq_some_iff.1 hi).1;have e:l.drop i=x :: l.drop (i+1):=by
  rw[List.drop_eq_getElem_cons aL,(List.getElem?_eq_some_iff.1 hi).2]
 rw[e]at U;obtain⟨v1,v2,a1,ag,_⟩:=U;rw[a1,List.take_append,List.take_of_length_le (by rw[h _ _ ag]; exact Nat.le_refl _),h _ _ ag,Nat.sub_self,List.take_zero,List.append_nil];exact ag
theorem Flat.set{α:Type} {R:α->List Value->Prop} {k:Nat} (h:∀ x vs,R x vs->vs.length=k) {l:List α} {vs:List Value} (az:Flat R l vs) {i:Nat} (hi:i < l.length) {x:α} {us:List Value} (ah:R x us) :
  Flat R (l.set i x) (vs.take (i * k)++us++vs.drop (i * k+k)):=by
 obtain⟨J,_⟩:=Flat.split h i az;obtain⟨_,U⟩:=Flat.split h (i+1) az;rw[List.set_eq_take_append_cons_drop,if_pos hi,List.append_assoc];refine J.append ⟨us,_,rfl,ah,?_⟩;rw[Nat.add_mul,Nat.one_mul]at U;exact U
theorem bP.length{B:Nat->Prop} {w:World}:∀ {g:ba} {x:g.D} {vs:List Value},bP B w g x vs->vs.length=g.size
 | .int _,_,_,h=>by rw[show _=[_] from h]; rfl
 | .bool,_,_,h=>by rw[show _=[_] from h]; rfl
 | .str,_,_,h=>by rw[show _=[_] from h]; rfl
 | .ak _,_,_,⟨_,_,_,h,_⟩=>by rw[h]; rfl
 | .gM _,_,_,⟨_,_,h,_⟩=>by rw[h]; rfl
 | .unit,_,_,h=>by rw[show _=[] from h]; rfl
 | .pair g h,_,_,⟨v1,v2,e,J,U⟩=>by rw[e,List.length_append,bP.length J,bP.length U]; rfl
theorem bP.ln{B:Nat->Prop} {w:World} {g:ba} {l:List g.D} {vs:List Value} (h:Flat (bP B w g) l vs):vs.length=l.length * g.size:=Flat.length (fun _ _=>bP.length) h
def nd(el:Bool) (B:Nat->Prop) (w:World) (g:ba) (x:List g.D) (vs:List Value):Prop:=match el with
 | true=>bP B w (.gM g) x vs
 | false=>bP B w (.ak g) x vs
theorem nd.length{el:Bool} {B:Nat->Prop} {w:World} {g:ba} {x:List g.D} {vs:List Value} (h:nd el B w g x vs):vs.length=1:=by
 cases el with
 | true=>exact bP.length (g:=.gM g) h
 | false=>exact bP.length (g:=.ak g) h
theorem nd.ln{el:Bool} {B:Nat->Prop} {w:World} {g:ba} {l:List (List g.D)} {vs:List Value} (h:Flat (nd el B w g) l vs):vs.length=l.length:=by
 have:=Flat.length (fun _ _=>nd.length) h
 omega
structure fJ(B:Nat->Prop) (w:World) (B':Nat->Prop) (w':World):Prop where
 sub:∀ k,B k->B' k
 same:∀ k,B k->w'.heap[k]?=w.heap[k]?
theorem fJ.cell{B B':Nat->Prop} {w w':World} (h:fJ B w B' w') {b o:Nat} (ae:B b):w'.cell? ⟨b,o,none⟩=w.cell? ⟨b,o,none⟩:=World.cell?_of_block (h.same b ae)
theorem ma.up{B B':Nat->Prop} {w w':World} (h:fJ B w B' w') {A:Option Addr} {m size:Nat} {vs:List Value} (au:ma B w A m size vs):ma B' w' A m size vs:=by
 refine⟨⟨au.1.1,fun hm=>?_⟩,fun b p hm e=>h.sub b (au.2 b p hm e)⟩;obtain⟨b,p,e,aa⟩:=au.1.2 hm;exact⟨b,p,e,fun j u hu=>by rw[h.cell (au.2 b p hm e)]; exact aa j u hu⟩
theorem bP.up{B B':Nat->Prop} {w w':World} (h:fJ B w B' w'):∀ {g:ba} {x:g.D} {vs:List Value},bP B w g x vs->bP B' w' g x vs
 | .int _,_,_,az=>az
 | .bool,_,_,az=>az
 | .str,_,_,az=>az
 | .ak _,_,_,⟨A,c,xs,e,J,U,ag,ay⟩=>⟨A,c,xs,e,J,U,Flat.mono (fun _ _=>bP.up h) ag,ay.up h⟩
 | .gM _,_,_,⟨A,xs,e,U,ag,ay⟩=>⟨A,xs,e,U,Flat.mono (fun _ _=>bP.up h) ag,ay.up h⟩
 | .unit,_,_,az=>az
 | .pair _ _,_,_,⟨v1,v2,e,J,U⟩=>⟨v1,v2,e,bP.up h J,bP.up h U⟩
theorem nd.up{B B':Nat->Prop} {w w':World} (h:fJ B w B' w') {el:Bool} {g:ba} {x:List g.D} {vs:List Value} (az:nd el B w g x vs):nd el B' w' g x vs:=by
 cases el with
 | true=>exact bP.up (g:=.gM g) h az
 | false=>exact bP.up (g:=.ak g) h az
inductive e2 where
 | id (i:Nat)
 | cL (g:ba) (x:g.D)
inductive bg where
 | val (v:Value)
 | str (s:List UInt8)
 | dead
 | ptr (id off:Nat)
 | dV (id cP i off:Nat)
 | fK (g:ba) (x:g.D) (off:Nat)
 | par (g:ba) (l:List g.D)
 | ak (id:Nat)
 | bd (g:ba) (l:List g.D) (cap:Option Nat)
 | fn (f:FuncId) (ids:List e2)
 | eP (id:Nat)
 | iu (f:FuncId) (id:Nat)
 | hy (id o:Nat)
 | iv (id s o:Nat)
 | iN (id:Nat)
 | fR (b:Bool) (id:Nat)
inductive bh where
 | c (x:bg)
 | agg (cs:List bg)
 | arr (g:ba) (l:List g.D)
inductive b5 where
 | a (x:bh)
 | may (g:Bool) (x:bh)
 | dj (vs:List bh)
abbrev b5.c (x:bg):b5:=.a (.c x)
inductive Loc where
 | no
 | blk (b:Nat)
 | row (A:Option Addr) (c n:Nat)
def qY(B:Nat->Prop) (w:World) (g:ba) (x:g.D) (b o:Nat):Prop:=B b/\∃ vs,bP B w g x vs/\∀ j u,vs[j]?=some u->w.cell? ⟨b,o+j,none⟩=some u
def Sw(env:Nat->Loc) (B:Nat->Prop) (w:World):e2->Value->Prop
 | .id i,v=>∃ b,env i=.blk b/\v=.pointer (some ⟨b,0,none⟩)
 | .cL g x,v=>∃ b o,v=.pointer (some ⟨b,o,none⟩)/\qY B w g x b o
def eN(env:Nat->Loc) (B:Nat->Prop) (w:World):List e2->List Value->Prop
 | [],vs=>vs=[]
 | c :: cs,vs=>∃ v r,vs=v :: r/\Sw env B w c v/\eN env B w cs r
def dy(env:Nat->Loc) (B:Nat->Prop) (w:World):bg->Value->Prop
 | .val v,u=>u=v
 | .str s,u=>u=fi s
 | .dead,_=>True
 | .ptr id off,u=>∃ b,env id=.blk b/\u=.pointer (some ⟨b,off,none⟩)
 | .dV id cP i off,u=>∃ b c n,env id=.row (some ⟨b,0,none⟩) c n/\u=.pointer (some ⟨b,i * cP+off,none⟩)
 | .fK g x off,u=>∃ b o,u=.pointer (some ⟨b,o+off,none⟩)/\qY B w g x b o
 | .par g l,u=>∃ b o vs,u=.pointer (some ⟨b,o,none⟩)/\B b/\Flat (bP B w g) l vs/\∀ j u,vs[j]?=some u->w.cell? ⟨b,o+j,none⟩=some u
 | .ak id,u=>∃ A c n,env id=.row A c n/\u=.slice A n c
 | .bd g l cap,u=>∃ A c xs,u=.slice A l.length c/\l.length<=c/\c<=maxLen/\(∀ k,cap=some k->c=k)/\Flat (bP B w g) l xs/\ma B w A l.length g.size xs
 | .fn f ids,u=>∃ vs,u=.func (.func f) #[] vs.toArray/\eN env B w ids vs
 | .eP id,u=>∃ b,env id=.blk b/\u=.map (some b)
 | .iu f id,u=>∃ b,env id=.blk b/\u=.func (.func f) #[.pointer (some ⟨b,0,none⟩)] #[]
 | .iv id s o,u=>∃ A c n,env id=.row A c n/\o<=n/\u=.slice (j8 A o s c) (n - o) (c - o)
 | .iN id,u=>∃ A c n,env id=.row A c n/\u=.int .i64 (c:Int)
 | .hy id o,u=>∃ b c n,env id=.row (some ⟨b,0,none⟩) c n/\u=.pointer (some ⟨b,o,none⟩)
 | .fR b id,u=>∃ k,(b=true->env id=.blk k)/\u=.pointer (if b then some ⟨k,0,none⟩else none)
def cC(env:Nat->Loc) (B:Nat->Prop) (w:World):List bg->List Value->Prop
 | [],vs=>vs=[]
 | c :: cs,vs=>∃ v r,vs=v :: r/\dy env B w c v/\cC env B w cs r
def dH(env:Nat->Loc) (B:Nat->Prop) (w:World):bh->Value->Prop
 | .c x,v=>dy env B w x v
 | .agg cs,v=>∃ vs,v=.agg vs.toArray/\cC env B w cs vs
 | .arr g l,v=>∃ vs,v=.agg vs.toArray/\Flat (bP B w g) l vs
def dF(env:Nat->Loc) (B:Nat->Prop) (w:World):List bh->List Value->Prop
 | [],vs=>vs=[]
 | c :: cs,vs=>∃ v r,vs=v :: r/\dH env B w c v/\dF env B w cs r
def ei(env:Nat->Loc) (B:Nat->Prop) (w:World):b5->Value->Prop
 | .a x,v=>dH env B w x v
 | .may g x,v=>(g=true->dH env B w x v)/\(g=false->v=undef)
 | .dj xs,v=>∃ vs,v=.tuple vs.toArray/\dF env B w xs vs
theorem qY.up{B B':Nat->Prop} {w w':World} (h:fJ B w B' w') {g:ba} {x:g.D} {b o:Nat} (aS:qY B w g x b o):qY B' w' g x b o:=by
 obtain⟨ae,vs,J,U⟩:=aS;exact⟨h.sub b ae,vs,bP.up h J,fun j u hu=>by rw[h.cell ae]; exact U j u hu⟩
theorem eN.up{env:Nat->Loc} {B B':Nat->Prop} {w w':World} (h:fJ B w B' w'):∀ {cs:List e2} {vs:List Value},eN env B w cs vs->eN env B' w' cs vs
 | [],_,aa=>aa
 | .id _ :: _,_,⟨v,r,e,J,U⟩=>⟨v,r,e,J,eN.up h U⟩
 | .cL _ _ :: _,_,⟨v,r,e,⟨b,o,J,ag⟩,U⟩=>⟨v,r,e,⟨b,o,J,ag.up h⟩,eN.up h U⟩
theorem dy.up{env:Nat->Loc} {B B':Nat->Prop} {w w':World} (h:fJ B w B' w'):∀ {c:bg} {v:Value},dy env B w c v->dy env B' w' c v
 | .val _,_,aa=>aa
 | .str _,_,aa=>aa
 | .dead,_,aa=>aa
 | .ptr _ _,_,aa=>aa
 | .dV _ _ _ _,_,aa=>aa
 | .fK _ _ _,_,⟨b,o,e,aS⟩=>⟨b,o,e,aS.up h⟩
 | .par _ _,_,⟨b,o,vs,e,ae,J,U⟩=>⟨b,o,vs,e,h.sub b ae,Flat.mono (fun _ _=>bP.up h) J,fun j u hu=>by rw[h.cell ae]; exact U j u hu⟩
 | .ak _,_,aa=>aa
 | .bd _ _ _,_,⟨A,c,xs,e,J,U,ag,ay,aO⟩=>⟨A,c,xs,e,J,U,ag,Flat.mono (fun _ _=>bP.up h) ay,aO.up h⟩
 | .fn _ _,_,⟨vs,e,an⟩=>⟨vs,e,an.up h⟩
 | .eP _,_,aa=>aa
 | .iu _ _,_,aa=>aa
 | .hy _ _,_,aa=>aa
 | .iv _ _ _,_,aa=>aa
 | .iN _,_,aa=>aa
 | .fR _ _,_,aa=>aa
theorem cC.up{env:Nat->Loc} {B B':Nat->Prop} {w w':World} (h:fJ B w B' w'):∀ {c:List bg} {v:List Value},cC env B w c v->cC env B' w' c v
 | [],_,aa=>aa
 | _ :: _,_,⟨v,r,e,J,U⟩=>⟨v,r,e,J.up h,cC.up h U⟩
theorem dH.up{env:Nat->Loc} {B B':Nat->Prop} {w w':World} (h:fJ B w B' w'):∀ {c:bh} {v:Value},dH env B w c v->dH env B' w' c v
 | .c _,_,aa=>dy.up h aa
 | .agg _,_,⟨vs,e,J⟩=>⟨vs,e,J.up h⟩
 | .arr _ _,_,⟨vs,e,J⟩=>⟨vs,e,Flat.mono (fun _ _=>bP.up h) J⟩
theorem dF.up{env:Nat->Loc} {B B':Nat->Prop} {w w':World} (h:fJ B w B' w'):∀ {c:List bh} {v:List Value},dF env B w c v->dF env B' w' c v
 | [],_,aa=>aa
 | _ :: _,_,⟨v,r,e,J,U⟩=>⟨v,r,e,J.up h,dF.up h U⟩
theorem ei.up{env:Nat->Loc} {B B':Nat->Prop} {w w':World} (h:fJ B w B' w'):∀ {c:b5} {v:Value},ei env B w c v->ei env B' w' c v
 | .a _,_,aa=>dH.up h aa
 | .may _ _,_,aa=>⟨fun aV=>(aa.1 aV).up h,aa.2⟩
 | .dj _,_,⟨vs,e,J⟩=>⟨vs,e,J.up h⟩

section
structure bo where
 bs:bC
 g:Option ba
def ba.eh:ba->List Value
 | .int k=>[.int k 0]
 | .bool=>[.bool false]
 | .str=>[fi []]
 | .ak _=>[.slice none 0 0]
 | .gM _=>[.slice none 0 0]
 | .unit=>[]
 | .pair g h=>g.eh++h.eh
structure bo.ok(P:Program) (t:TypeId) (e:bo):Prop where
 bs:bC.ok P t e.bs
 g:∀ g,e.g=some g->g.size=e.bs.size/\e.bs.zero.cells.toList=g.eh/\0 < g.size
inductive cj where
 | leaf
 | node (l:cj) (k:TypeId) (e:bo) (r:cj)
def cj.find:cj->TypeId->Option bo
 | .leaf,_=>none
 | .node l k e r,t=>match Nat.blt t k with
  | true=>l.find t
  | false=>match Nat.beq t k with
   | true=>some e
   | false=>r.find t
def cj.ok(P:Program):cj->Prop
 | .leaf=>True
 | .node l k e r=>l.ok P/\bo.ok P k e/\r.ok P
theorem cj.get{P:Program}:∀ {a7:cj} {t:TypeId} {e:bo},a7.ok P->a7.find t=some e->bo.ok P t e
 | .leaf,_,_,_,h=>by cases h
 | .node l k cu r,t,e,⟨J,U,ag⟩,h=>by
  unfold cj.find at h
  split at h
  ·exact cj.get J h
  ·split at h
   ·rename_i ab
    have:t=k:=Nat.eq_of_beq_eq_true ab
    subst this;cases h;exact U
   ·exact cj.get ag h
theorem bC.uniq{P:Program} {t:TypeId} {i j:bC} (h:bC.ok P t i) (k:bC.ok P t j):i=j:=by
 obtain⟨i1,i2,i3,i4⟩:=i;obtain⟨aha,sj,ahb,ahc⟩:=j;have J:=h.1.symm.trans k.1;have U:=h.2.symm.trans k.2;simp only[Option.some.injEq,Prod.mk.injEq]at J U;obtain⟨rfl,rfl,rfl⟩:=U;subst J
 rfl
theorem AJ{P:Program} {t:TypeId} {i:bC} (h:bC.ok P t i):∃ T,gg P T/\T.lookup t=some i:=⟨[(t,i)],gg.cons h (gg.nil _),by simp⟩
theorem mH{P:Program} {t e:TypeId} {i j:bC} (h:bC.ok P t i) (k:bC.ok P e j):∃ T,gg P T/\T.lookup t=some i/\T.lookup e=some j:=by
 refine⟨[(t,i),(e,j)],gg.cons h (gg.cons k (gg.nil _)),by simp,?_⟩
 by_cases he:e=t
 ·subst he
  rw[bC.uniq h k]
  simp
 ·simp[List.lookup_cons,beq_false_of_ne he]
theorem Sx{P:Program} {t e f:TypeId} {i j l:bC} (h:bC.ok P t i) (k:bC.ok P e j) (m:bC.ok P f l):∃ T,gg P T/\T.lookup t=some i/\T.lookup e=some j/\T.lookup f=some l:=by
 refine⟨[(t,i),(e,j),(f,l)],gg.cons h (gg.cons k (gg.cons m (gg.nil _))),by simp,?_,?_⟩
 ·by_cases he:e=t
  ·subst he
   rw[bC.uniq h k]
   simp
  ·simp[List.lookup_cons,beq_false_of_ne he]
 ·by_cases az:f=t
  ·subst az
   rw[bC.uniq h m]
   simp
  ·by_cases jQ:f=e
   ·subst jQ
    rw[bC.uniq k m]
    simp[List.lookup_cons,beq_false_of_ne az]
   ·simp[List.lookup_cons,beq_false_of_ne az,beq_false_of_ne jQ]
inductive cA where
 | cells (t:TypeId) (cs:List bg)
 | row (t:TypeId) (g:ba) (l:List g.D) (cap:Option Nat)
 | hf (s:ByteArray) (pos:Nat)
 | mp (gk bO:ba) (l:List (gk.D×bO.D)) (o:Option (List MapEntry×Nat))
 | it (jh:Nat) (es:List MapEntry) (clock:Nat) (ps:List Nat)
 | kO
 | bX (el:Bool) (t:TypeId) (g:ba) (l:List (List g.D)) (cap:Option Nat) (i d:Nat)
 | j9
 | fw (t:TypeId) (g:ba) (l:List g.D)
 | bQ (t bR:TypeId) (g:ba) (l:List (Bool×List g.D)) (cap:Option Nat) (h:Option (Nat×Option Nat))
abbrev bE:=List (Nat×cA)
abbrev cQ:=List (Nat×b5)
structure aM where
 L:cQ
 H:bE
def aZ{α:Type}:List (Nat×α)->Nat->Option α
 | [],_=>none
 | (k,v) :: r,s=>match Nat.beq s k with
  | true=>some v
  | false=>aZ r s
theorem cn{α:Type} {k:Nat} {v:α} {r:List (Nat×α)} {s:Nat}:aZ ((k,v) :: r) s=if s=k then some v else aZ r s:=by
 show(match Nat.beq s k with | true=>some v | false=>aZ r s)=_
 split
 ·rename_i h
  rw[if_pos (Nat.eq_of_beq_eq_true h)]
 ·rename_i h
  rw[if_neg (Nat.ne_of_beq_eq_false h)]
def eQ(B:Nat->Prop) (w:World):(g:ba)->g.D->Value->Prop
 | .pair g h=>fun x v=>∃ vs,v=.agg vs.toArray/\bP B w (.pair g h) x vs
 | g=>fun x v=>bP B w g x [v]
theorem eQ.up{B B':Nat->Prop} {w w':World} (h:fJ B w B' w'):∀ {g:ba} {x:g.D} {v:Value},eQ B w g x v->eQ B' w' g x v
 | .pair _ _,_,_,⟨vs,e,J⟩=>⟨vs,e,bP.up h J⟩
 | .int _,_,_,J=>bP.up h J
 | .bool,_,_,J=>bP.up h J
 | .str,_,_,J=>bP.up h J
 | .ak _,_,_,J=>bP.up h J
 | .gM _,_,_,J=>bP.up h J
 | .unit,_,_,J=>bP.up h J
def h7(B:Nat->Prop) (w:World) (gk bO:ba):List (gk.D×bO.D)->List MapEntry->Prop
 | [],es=>es=[]
 | x :: l,es=>∃ e r,es=e :: r/\eQ B w gk x.1 e.key/\eQ B w bO x.2 e.val/\h7 B w gk bO l r
theorem h7.up{B B':Nat->Prop} {w w':World} (h:fJ B w B' w') {gk bO:ba}:∀ {l:List (gk.D×bO.D)} {es:List MapEntry},h7 B w gk bO l es->h7 B' w' gk bO l es
 | [],_,b1=>b1
 | _ :: _,_,⟨e,r,aC,J,U,ag⟩=>⟨e,r,aC,J.up h,U.up h,h7.up h ag⟩
def Stamped(es:List MapEntry) (clock:Nat):Prop:=(es.map (·.born)).Pairwise (· < ·)/\∀ b∈es.map (·.born),b < clock
def Sy(es:List MapEntry) (ps:List Nat):List Nat:=ps.map fun j=>((es[j]?).map (·.born)).getD 0
def dA(B:Nat->Prop) (w:World) (bR:TypeId) (g:ba):List (Bool×List g.D)->List Value->List fY->Prop
 | [],vs,I=>vs=[]/\I=[]
 | x :: r,vs,I=>∃ v eY,vs=v :: eY/\match x.1 with
  | true=>∃ A k xs eJ,v=.slice A x.2.length k/\I=⟨A,k,bR,g.size,x.2.length,xs⟩ :: eJ/\Flat (bP B w g) x.2 xs/\dA B w bR g r eY eJ
  | false=>bP B w (.ak g) x.2 [v]/\dA B w bR g r eY I
theorem dA.length{B:Nat->Prop} {w:World} {bR:TypeId} {g:ba}:∀ {l:List (Bool×List g.D)} {vs:List Value} {I:List fY},dA B w bR g l vs I->vs.length=l.length
 | [],_,_,⟨e,_⟩=>by rw[e]; rfl
 | (true,_) :: _,_,_,⟨v,eY,e,_,_,_,_,_,_,_,h⟩=>by rw[e,List.length_cons,List.length_cons,dA.length h]
 | (false,_) :: _,_,_,⟨v,eY,e,_,h⟩=>by rw[e,List.length_cons,List.length_cons,dA.length h]
theorem dA.up{B B':Nat->Prop} {w w':World} (h:fJ B w B' w') {bR:TypeId} {g:ba}:∀ {l:List (Bool×List g.D)} {vs:List Value} {I:List fY},dA B w bR g l vs I->dA B' w' bR g l vs I
 | [],_,_,J=>J
 | (true,_) :: _,_,_,⟨v,eY,e,A,k,xs,eJ,J,U,ag,ay⟩=>⟨v,eY,e,A,k,xs,eJ,J,U,Flat.mono (fun _ _=>bP.up h) ag,dA.up h ay⟩
 | (false,_) :: _,_,_,⟨v,eY,e,J,U⟩=>⟨v,eY,e,bP.up h J,dA.up h U⟩
def Kv{α:Type} (l:List (Bool×List α)):Option (Nat×Option Nat)->List (Bool×List α)
 | none=>l
 | some (i,_)=>l.set i (false,[])
def xi(env:Nat->Loc) (n:Nat) (bn cM:List Value):Option (Nat×Option Nat)->Prop
 | none=>cM=bn
 | some (i,qZ)=>i < n/\∃ v,cM=bn.set i v/\∀ d,qZ=some d->∃ A c m,env d=.row A c m/\v=.slice A m c
def ej(env:Nat->Loc) (B:Nat->Prop) (w:World) (id:Nat):cA->bc->Prop
 | .cells t cs,c=>∃ b vs,env id=.blk b/\c=.gu b vs t/\cC env B w cs vs
 | .row t g l cap,c=>∃ A k xs,env id=.row A k l.length/\c=.row A k t g.size l.length xs/\Flat (bP B w g) l xs/\∀ q,cap=some q->k=q
 | .hf s p,c=>∃ b,env id=.blk b/\c=.obj b (.stringIter s p)
 | .mp gk bO l o,c=>∃ b es clock,env id=.blk b/\c=.obj b (.map es.toArray clock)/\h7 B w gk bO l es/\Stamped es clock/\∀ q,o=some q->q=(es,clock)
 | .it jh es clock ps,c=>∃ b m,env id=.blk b/\env jh=.blk m/\c=.obj b (.mapIter (some m) clock (Sy es ps).toArray clock)
 | .kO,c=>∃ b o,env id=.blk b/\c=.obj b o
 | .bX el t g l cap i d,c=>∃ A k bn cm c' m,env id=.row A k l.length/\c=.row A k t 1 l.length (bn.set i (.slice cm m c'))/\Flat (nd el B w g) l bn/\i < l.length/\env d=.row cm c' m/\(∀ q,cap=some q->k=q)/\(el=true->c'=m)
 | .j9,c=>∃ A k n t s m xs,env id=.row A k n/\c=.row A k t s m xs
 | .fw t g l,c=>∃ A k,env id=.row A k l.length/\((∃ xs,c=.row A k t g.size l.length xs/\Flat (bP B w g) l xs)\/(c=.row none 0 t g.size 0 []/\k=l.length/\k<=maxLen/\∃ xs,Flat (bP B w g) l xs/\ma B w A l.length g.size xs))
 | .bQ t bR g l cap h,c=>∃ A k bn cM I,env id=.row A k l.length/\c=.tree (⟨A,k,t,1,l.length,cM⟩ :: I)/\dA B w bR g (Kv l h) bn I/\xi env l.length bn cM h/\∀ q,cap=some q->k=q
def bt(env:Nat->Loc) (B:Nat->Prop) (w:World):bE->List bc->Prop
 | [],H=>H=[]
 | (id,b) :: h,H=>∃ c H',H=c :: H'/\ej env B w id b c/\bt env B w h H'
theorem ej.up{env:Nat->Loc} {B B':Nat->Prop} {w w':World} (h:fJ B w B' w') {id:Nat}:∀ {b:cA} {c:bc},ej env B w id b c->ej env B' w' id b c
 | .cells _ _,_,⟨b,vs,e,aa,J⟩=>⟨b,vs,e,aa,J.up h⟩
 | .row _ _ _ _,_,⟨A,k,xs,e,aa,J,U⟩=>⟨A,k,xs,e,aa,Flat.mono (fun _ _=>bP.up h) J,U⟩
 | .hf _ _,_,ae=>ae
 | .mp _ _ _ _,_,⟨b,es,k,e,aa,J,U⟩=>⟨b,es,k,e,aa,J.up h,U⟩
 | .it _ _ _ _,_,ae=>ae
 | .kO,_,ae=>ae
 | .bX _ _ _ _ _ _ _,_,⟨A,k,bn,cm,c',m,e,aa,J,U⟩=>⟨A,k,bn,cm,c',m,e,aa,Flat.mono (fun _ _=>nd.up h) J,U⟩
 | .j9,_,ae=>ae
 | .bQ _ _ _ _ _ _,_,⟨A,k,bn,cM,I,e,aa,J,U⟩=>⟨A,k,bn,cM,I,e,aa,J.up h,U⟩
 | .fw _ _ _,_,⟨A,k,e,J⟩=>⟨A,k,e,J.imp (fun⟨xs,a,b⟩=>⟨xs,a,Flat.mono (fun _ _=>bP.up h) b⟩) fun⟨a,b,c,xs,d,r⟩=>⟨a,b,c,xs,Flat.mono (fun _ _=>bP.up h) d,r.up h⟩⟩
theorem bt.up{env:Nat->Loc} {B B':Nat->Prop} {w w':World} (h:fJ B w B' w'):∀ {l:bE} {H:List bc},bt env B w l H->bt env B' w' l H
 | [],_,b1=>b1
 | _ :: _,_,⟨c,H',e,J,U⟩=>⟨c,H',e,J.up h,bt.up h U⟩
theorem bt.gx{env:Nat->Loc} {B:Nat->Prop} {w:World}:∀ {l:bE} {H:List bc} {id:Nat} {b:cA},bt env B w l H->aZ l id=some b->∃ c K,ej env B w id b c/\iK H c K
 | [],_,_,_,_,h=>by cases h
 | (k,b') :: l,H,id,b,⟨c,H',e,J,U⟩,h=>by
  rw[cn]at h;subst e
  split at h
  ·rename_i e
   subst e;cases h;exact⟨c,_,J,uo⟩
  ·obtain⟨c',K,ag,X,Y,ay,aO⟩:=bt.gx U h
   exact⟨c',fun z=>c :: K z,ag,c :: X,Y,by rw[ay]; rfl,by rw[aO]; rfl⟩
def eO(id:Nat) (b:cA):bE->bE
 | []=>[]
 | (k,b') :: r=>match Nat.beq k id with
  | true=>(k,b) :: r
  | false=>(k,b') :: eO id b r
theorem bt.put{env:Nat->Loc} {B:Nat->Prop} {w:World}:∀ {l:bE} {H:List bc} {id:Nat} {b:cA},bt env B w l H->aZ l id=some b->∃ c K,ej env B w id b c/\iK H c K/\∀ b' c',ej env B w id b' c'->bt env B w (eO id b' l) (K c')
 | [],_,_,_,_,h=>by cases h
 | (k,b') :: l,H,id,b,⟨c,H',e,J,U⟩,h=>by
  rw[cn]at h;subst e
  split at h
  ·rename_i e
   subst e;cases h;refine⟨c,_,J,uo,fun iM cR ae=>?_⟩;unfold eO;rw[Nat.beq_refl];exact⟨cR,H',rfl,ae,U⟩
  ·rename_i cG
   obtain⟨c',K,ag,⟨X,Y,ay,aO⟩,aK⟩:=bt.put U h;refine⟨c',fun z=>c :: K z,ag,⟨c :: X,Y,by rw[ay]; rfl,by rw[aO]; rfl⟩,fun iM cR ae=>?_⟩;unfold eO
   have:Nat.beq k id=false:=by
    cases ab:Nat.beq k id with
    | false=>rfl
    | true=>exact absurd (Nat.eq_of_beq_eq_true ab).symm cG
   rw[this];exact⟨c,_,rfl,J,aK iM cR ae⟩
def sk(i:Nat):List e2->Bool
 | []=>false
 | .id j :: r=>Nat.beq j i || sk i r
 | .cL _ _ :: r=>sk i r
def bg.sub:bg->Nat->bg->bg
 | .ptr i o,id,_=>match Nat.beq i id with
  | true=>.dead
  | false=>.ptr i o
 | .dV i cP j o,id,_=>match Nat.beq i id with
  | true=>.dead
  | false=>.dV i cP j o
 | .ak i,id,z=>match Nat.beq i id with
  | true=>z
  | false=>.ak i
 | .fn f ids,id,_=>match sk id ids with
  | true=>.dead
  | false=>.fn f ids
 | .eP i,id,_=>match Nat.beq i id with
  | true=>.dead
  | false=>.eP i
 | .iu f i,id,_=>match Nat.beq i id with
  | true=>.dead
  | false=>.iu f i
 | .hy i o,id,_=>match Nat.beq i id with
  | true=>.dead
  | false=>.hy i o
 | .iN i,id,_=>match Nat.beq i id with
  | true=>.dead
  | false=>.iN i
 | .iv i s o,id,_=>match Nat.beq i id with
  | true=>.dead
  | false=>.iv i s o
 | .fR b i,id,_=>match Nat.beq i id with
  | true=>.dead
  | false=>.fR b i
 | c,_,_=>c
def pL(id:Nat) (z:bg):List bg->List bg
 | []=>[]
 | c :: r=>c.sub id z :: pL id z r
def bh.sub:bh->Nat->bg->bh
 | .c x,id,z=>.c (x.sub id z)
 | .agg cs,id,z=>.agg (pL id z cs)
 | .arr g l,_,_=>.arr g l
def xj(id:Nat) (z:bg):List bh->List bh
 | []=>[]
 | c :: r=>c.sub id z :: xj id z r
def b5.sub:b5->Nat->bg->b5
 | .a x,id,z=>.a (x.sub id z)
 | .may g x,id,z=>.may g (x.sub id z)
 | .dj xs,id,z=>.dj (xj id z xs)
def fe(id:Nat) (z:bg):cQ->cQ
 | []=>[]
 | (k,v) :: r=>(k,v.sub id z) :: fe id z r
def cA.sub:cA->Nat->bg->cA
 | .cells t cs,id,z=>.cells t (pL id z cs)
 | .it jh es k ps,id,_=>match Nat.beq jh id with
  | true=>.kO
  | false=>.it jh es k ps
 | .bX el t g l cap i d,id,z=>match Nat.beq d id with
  | true=>match z with
   | .bd cr ct _=>match decEq cr g with
    | isTrue h=>match el with
     | true=>.row t (.gM g) (l.set i (h ▸ ct)) cap
     | false=>.row t (.ak g) (l.set i (h ▸ ct)) cap
    | isFalse _=>.j9
   | _=>.j9
  | false=>.bX el t g l cap i d
 | .bQ t bR g l cap (some (i,some d)),id,_=>match Nat.beq d id with
  | true=>.bQ t bR g l cap (some (i,none))
  | false=>.bQ t bR g l cap (some (i,some d))
 | b,_,_=>b
def dG(id:Nat) (z:bg):bE->bE
 | []=>[]
 | (k,b) :: r=>match Nat.beq k id with
  | true=>dG id z r
  | false=>(k,b.sub id z) :: dG id z r
section
variable {env env':Nat->Loc} {B:Nat->Prop} {w:World} {id:Nat} {z:bg}
theorem eN.Ep(he:∀ j,j≠id->env' j=env j):∀ {ids:List e2} {vs:List Value},sk id ids=false->eN env B w ids vs->eN env' B w ids vs
 | [],_,_,h=>h
 | .id i :: ids,_,a6,⟨v,r,e,⟨b,ae,aw⟩,h⟩=>by
  simp only[sk,Bool.or_eq_false_iff]at a6;exact⟨v,r,e,⟨b,by rw[he i (Nat.ne_of_beq_eq_false a6.1)]; exact ae,aw⟩,eN.Ep he a6.2 h⟩
 | .cL g x :: ids,_,a6,⟨v,r,e,J,h⟩=>⟨v,r,e,J,eN.Ep he (by simpa [sk] using a6) h⟩
theorem dy.sub(he:∀ j,j≠id->env' j=env j) (bk:∀ v,dy env B w (.ak id) v->dy env' B w z v):∀ {c:bg} {v:Value},dy env B w c v->dy env' B w (c.sub id z) v
 | .val _,_,aa=>aa
 | .str _,_,aa=>aa
 | .dead,_,aa=>aa
 | .ptr i o,v,aa=>by
  simp only[bg.sub]
  split
  ·trivial
  ·rename_i h
   obtain⟨b,e,aw⟩:=aa;exact⟨b,by rw[he i (Nat.ne_of_beq_eq_false h)]; exact e,aw⟩
 | .dV i cP j o,v,aa=>by
  simp only[bg.sub]
  split
  ·trivial
  ·rename_i h
   obtain⟨b,c,n,e,aw⟩:=aa;exact⟨b,c,n,by rw[he i (Nat.ne_of_beq_eq_false h)]; exact e,aw⟩
 | .fR b i,v,aa=>by
  simp only[bg.sub]
  split
  ·trivial
  ·rename_i h
   obtain⟨k,e,aw⟩:=aa;exact⟨k,fun ae=>by rw[he i (Nat.ne_of_beq_eq_false h)]; exact e ae,aw⟩
 | .iN i,v,aa=>by
  simp only[bg.sub]
  split
  ·trivial
  ·rename_i h
   obtain⟨b,c,n,e,aw⟩:=aa;exact⟨b,c,n,by rw[he i (Nat.ne_of_beq_eq_false h)]; exact e,aw⟩
 | .iv i s o,v,aa=>by
  simp only[bg.sub]
  split
  ·trivial
  ·rename_i h
   obtain⟨b,c,n,e,aw⟩:=aa;exact⟨b,c,n,by rw[he i (Nat.ne_of_beq_eq_false h)]; exact e,aw⟩
 | .hy i o,v,aa=>by
  simp only[bg.sub]
  split
  ·trivial
  ·rename_i h
   obtain⟨b,c,n,e,aw⟩:=aa;exact⟨b,c,n,by rw[he i (Nat.ne_of_beq_eq_false h)]; exact e,aw⟩
 | .fK _ _ _,_,aa=>aa
 | .par _ _,_,aa=>aa
 | .ak i,v,aa=>by
  simp only[bg.sub]
  split
  ·rename_i h
   have:i=id:=Nat.eq_of_beq_eq_true h
   subst this;exact bk v aa
  ·rename_i h
   obtain⟨A,c,n,e,aw⟩:=aa;exact⟨A,c,n,by rw[he i (Nat.ne_of_beq_eq_false h)]; exact e,aw⟩
 | .bd _ _ _,_,aa=>aa
 | .fn f ids,v,aa=>by
  simp only[bg.sub]
  split
  ·trivial
  ·rename_i h
   obtain⟨vs,aw,an⟩:=aa;exact⟨vs,aw,an.Ep he h⟩
 | .eP i,v,aa=>by
  simp only[bg.sub]
  split
  ·trivial
  ·rename_i h
   obtain⟨b,e,aw⟩:=aa;exact⟨b,by rw[he i (Nat.ne_of_beq_eq_false h)]; exact e,aw⟩
 | .iu f i,v,aa=>by
  simp only[bg.sub]
  split
  ·trivial
  ·rename_i h
   obtain⟨b,e,aw⟩:=aa;exact⟨b,by rw[he i (Nat.ne_of_beq_eq_false h)]; exact e,aw⟩
variable (he:∀ j,j≠id->env' j=env j) (bk:∀ v,dy env B w (.ak id) v->dy env' B w z v)
include he bk
theorem cC.sub:∀ {c:List bg} {v:List Value},cC env B w c v->cC env' B w (pL id z c) v
 | [],_,aa=>aa
 | _ :: _,_,⟨v,r,e,J,U⟩=>⟨v,r,e,J.sub he bk,cC.sub U⟩
theorem dH.sub:∀ {c:bh} {v:Value},dH env B w c v->dH env' B w (c.sub id z) v
 | .c _,_,aa=>dy.sub he bk aa
 | .agg _,_,⟨vs,e,J⟩=>⟨vs,e,J.sub he bk⟩
 | .arr _ _,_,h=>h
theorem dF.sub:∀ {c:List bh} {v:List Value},dF env B w c v->dF env' B w (xj id z c) v
 | [],_,aa=>aa
 | _ :: _,_,⟨v,r,e,J,U⟩=>⟨v,r,e,J.sub he bk,dF.sub U⟩
theorem ei.sub:∀ {c:b5} {v:Value},ei env B w c v->ei env' B w (c.sub id z) v
 | .a _,_,aa=>dH.sub he bk aa
 | .may _ _,_,aa=>⟨fun aV=>(aa.1 aV).sub he bk,aa.2⟩
 | .dj _,_,⟨vs,e,J⟩=>⟨vs,e,J.sub he bk⟩
theorem ej.sub{k:Nat} (ab:k≠id):∀ {b:cA} {c:bc},ej env B w k b c->ej env' B w k (b.sub id z) c
 | .cells _ _,_,⟨b,vs,e,aa,J⟩=>⟨b,vs,by rw[he k ab]; exact e,aa,J.sub he bk⟩
 | .row _ _ _ _,_,⟨A,c,xs,e,aa,J⟩=>⟨A,c,xs,by rw[he k ab]; exact e,aa,J⟩
 | .hf _ _,_,⟨b,e,aa⟩=>⟨b,by rw[he k ab]; exact e,aa⟩
 | .mp _ _ _ _,_,⟨b,es,q,e,aa⟩=>⟨b,es,q,by rw[he k ab]; exact e,aa⟩
 | .it jh _ _ _,_,⟨b,m,e,hm,aa⟩=>by
  simp only[cA.sub]
  split
  ·exact⟨b,_,by rw[he k ab]; exact e,aa⟩
  ·rename_i h
   exact⟨b,m,by rw[he k ab]; exact e,by rw[he jh (Nat.ne_of_beq_eq_false h)]; exact hm,aa⟩
 | .kO,_,⟨b,o,e,aa⟩=>⟨b,o,by rw[he k ab]; exact e,aa⟩
 | .bX el t g l cap i d,_,⟨A,c,bn,cm,c',m,e,aa,J,hi,U,ag⟩=>by
  simp only[cA.sub]
  split
  ·rename_i h
   have ax:d=id:=Nat.eq_of_beq_eq_true h;subst ax
   split
   ·rename_i cr ct nV
    split
    ·rename_i aV _
     subst aV;obtain⟨c7,cR,xs,a1,c8,dL,_,hg,lJ⟩:=bk _ ⟨cm,c',m,U,rfl⟩;have ad:bn.length=l.length:=nd.ln J;have cq:bn.set i (.slice cm m c')=bn.take i++([.slice cm m c']++bn.drop (i+1)):=by
      rw[List.set_eq_take_append_cons_drop,if_pos (by omega)]
      rfl
     split
     ·refine⟨A,c,_,by rw[he k ab,List.length_set]; exact e,by rw[List.length_set]; exact aa,?_,ag.1⟩
      have h1:=ag.2 rfl;have aj:=Flat.set (k:=1) (fun _ _=>bP.length) (show Flat (bP B w (.gM cr)) l bn from J) hi (x:=ct) (us:=[.slice cm m c']) ⟨c7,xs,by
       subst h1;rw[show c'=ct.length by injection a1]
       injection a1 with q _ _
       rw[q],by
       subst h1
       have:c'=ct.length:=by injection a1
       omega,hg,lJ⟩
      rw[cq];rw[Nat.mul_one,List.append_assoc]at aj;exact aj
     ·refine⟨A,c,_,by rw[he k ab,List.length_set]; exact e,by rw[List.length_set]; exact aa,?_,ag.1⟩
      have aj:=Flat.set (k:=1) (fun _ _=>bP.length) (show Flat (bP B w (.ak cr)) l bn from J) hi (x:=ct) (us:=[.slice cm m c']) ⟨c7,cR,xs,by rw[a1],c8,dL,hg,lJ⟩;rw[cq];rw[Nat.mul_one,List.append_assoc]at aj;exact aj
    ·exact⟨A,c,_,_,_,_,_,by rw[he k ab]; exact e,aa⟩
   ·exact⟨A,c,_,_,_,_,_,by rw[he k ab]; exact e,aa⟩
  ·rename_i h
   exact⟨A,c,bn,cm,c',m,by rw[he k ab]; exact e,aa,J,hi,by rw[he d (Nat.ne_of_beq_eq_false h)]; exact U,ag⟩
 | .j9,_,⟨A,c,n,t,s,m,xs,e,aa⟩=>⟨A,c,n,t,s,m,xs,by rw[he k ab]; exact e,aa⟩
 | .fw _ _ _,_,⟨A,c,e,J⟩=>⟨A,c,by rw[he k ab]; exact e,J⟩
 | .bQ _ _ _ _ _ none,_,⟨A,q,bn,cM,I,e,aa,J,U,ag⟩=>⟨A,q,bn,cM,I,by rw[he k ab]; exact e,aa,J,U,ag⟩
 | .bQ _ _ _ _ _ (some (i,none)),_,⟨A,q,bn,cM,I,e,aa,J,⟨U,v,ay,_⟩,ag⟩=>⟨A,q,bn,cM,I,by rw[he k ab]; exact e,aa,J,⟨U,v,ay,fun _ h=>by cases h⟩,ag⟩
 | .bQ _ _ _ _ _ (some (i,some d)),_,⟨A,q,bn,cM,I,e,aa,J,⟨U,v,ay,aO⟩,ag⟩=>by
  simp only[cA.sub]
  split
  ·exact⟨A,q,bn,cM,I,by rw[he k ab]; exact e,aa,J,⟨U,v,ay,fun _ h=>by cases h⟩,ag⟩
  ·rename_i h
   exact⟨A,q,bn,cM,I,by rw[he k ab]; exact e,aa,J,⟨U,v,ay,fun ga ax=>by cases ax; rw[he d (Nat.ne_of_beq_eq_false h)]; exact aO d rfl⟩,ag⟩
theorem bt.del:∀ {l:bE} {H:List bc},bt env B w l H->∃ H',H'.Sublist H/\bt env' B w (dG id z l) H'
 | [],_,b1=>⟨[],by rw[show _=[] from b1]; exact List.Sublist.refl _,rfl⟩
 | (k,b) :: l,_,⟨c,H',e,J,U⟩=>by
  obtain⟨H2,aj,ag⟩:=bt.del U;subst e;unfold dG
  split
  ·exact⟨H2,aj.cons _,ag⟩
  ·rename_i h
   exact⟨c :: H2,aj.cons_cons _,c,H2,rfl,J.sub he bk (Nat.ne_of_beq_eq_false h),ag⟩
def iw:bc->Bool
 | .gu _ _ _=>true
 | _=>false
omit he bk in
theorem ej.nf{k:Nat}:∀ {b:cA} {c:bc},ej env B w k b c->(∀ t cs,b≠.cells t cs)->iw c=false
 | .cells t cs,_,_,h=>absurd rfl (h t cs)
 | .row _ _ _ _,_,⟨_,_,_,_,e,_⟩,_=>by rw[e]; rfl
 | .hf _ _,_,⟨_,_,e⟩,_=>by rw[e]; rfl
 | .mp _ _ _ _,_,⟨_,_,_,_,e,_⟩,_=>by rw[e]; rfl
 | .it _ _ _ _,_,⟨_,_,_,_,e⟩,_=>by rw[e]; rfl
 | .kO,_,⟨_,_,_,e⟩,_=>by rw[e]; rfl
 | .bX _ _ _ _ _ _ _,_,⟨_,_,_,_,_,_,_,e,_⟩,_=>by rw[e]; rfl
 | .j9,_,⟨_,_,_,_,_,_,_,_,e⟩,_=>by rw[e]; rfl
 | .bQ _ _ _ _ _ _,_,⟨_,_,_,_,_,_,e,_⟩,_=>by rw[e]; rfl
 | .fw _ _ _,_,⟨_,_,_,h⟩,_=>by
  rcases h with⟨_,e,_⟩ | ⟨e,_⟩
  ·rw[e]; rfl
  ·rw[e]; rfl
theorem bt.Er:∀ {l:bE} {H:List bc},bt env B w l H->(∀ b c,(id,b)∈l->ej env B w id b c->iw c=false)->∃ H',H'.Sublist H/\bt env' B w (dG id z l) H'/\∀ c∈H,iw c=true->c∈H'
 | [],_,b1,_=>⟨[],by rw[show _=[] from b1]; exact List.Sublist.refl _,rfl,fun c aa _=>by rw[show _=[] from b1]at aa; exact aa⟩
 | (k,b) :: l,_,⟨c,H',e,J,U⟩,ab=>by
  obtain⟨H2,aj,ag,ay⟩:=bt.Er U (fun b c ae=>ab b c (List.mem_cons_of_mem _ ae));subst e;unfold dG
  split
  ·rename_i ji
   have Sz:=Nat.eq_of_beq_eq_true ji;subst Sz;refine⟨H2,aj.cons _,ag,fun c' e3 jz=>?_⟩
   rcases List.mem_cons.1 e3 with rfl | e3
   ·rw[ab b c' (List.mem_cons_self ..) J]at jz; cases jz
   ·exact ay c' e3 jz
  ·rename_i h
   refine⟨c :: H2,aj.cons_cons _,⟨c,H2,rfl,J.sub he bk (Nat.ne_of_beq_eq_false h),ag⟩,fun c' e3 jz=>?_⟩
   rcases List.mem_cons.1 e3 with rfl | e3
   ·exact List.mem_cons_self ..
   ·exact List.mem_cons_of_mem _ (ay c' e3 jz)
omit he bk in
theorem lK:∀ {l:cQ} {s:Nat} {v:b5},aZ (fe id z l) s=some v->∃ u,aZ l s=some u/\v=u.sub id z
 | [],_,_,h=>by cases h
 | (k,u) :: l,s,v,h=>by
  unfold fe at h;rw[cn]at h ⊢
  split at h
  ·rename_i e
   cases h;rw[if_pos e];exact⟨u,rfl,rfl⟩
  ·rename_i e
   rw[if_neg e];exact lK h
end
end

section
structure AK where
 g:ba
 l:List g.D
structure bq where
 P:Program
 a7:cj
 AL:Nat->Option AK
def dC(k:Nat):bc:=.obj k (.deferred (some []))
structure eT where
 b:Nat->Prop
 p:Nat->Loc->Prop
 d:List Deferred
def jR(ks:List Nat) (aD:eT):List Deferred:=ks.map ux++aD.d
def uy(w:World) (k:Nat):Prop:=∃ cs e de,w.heap[k]?=some (.cells cs e de)
theorem uy.e6{w w':World} {k:Nat} (h:uy w k) (e:w'.heap[k]?=w.heap[k]?):uy w' k:=by
 obtain⟨cs,t,de,h⟩:=h;exact⟨cs,t,de,e.trans h⟩
def ix:Nat:=1000000
def h2:Nat:=2000000
def xk(B:Nat->Prop) (w:World) (i:Nat) (x:AK):Prop:=dy (fun _=>.no) B w (.par x.g x.l) (.pointer (some ⟨i,0,none⟩))/\∃ cs e de,w.heap[i]?=some (.cells cs e de)/\cs.size=x.l.length * x.g.size
theorem xk.up{B B':Nat->Prop} {w w':World} (h:fJ B w B' w') {i:Nat} {x:AK} (aV:xk B w i x):xk B' w' i x:=by
 refine⟨aV.1.up h,?_⟩;obtain⟨⟨b,o,vs,e,ae,_⟩,cs,t,de,J,U⟩:=aV;cases e;exact⟨cs,t,de,by rw[h.same _ ae]; exact J,U⟩
structure bI(X:bq) (R:Nat->Prop) (W:World) (aD:eT) (n:Nat) (ks:List Nat) (env:Nat->Loc) (B:Nat->Prop) (ai:World) (H:List bc) (st:aM) (a:Act) (w:World):Prop where
 size:a.tmps.size=n
 defs:a.defers=jR ks aD
 has:∀ s sv,aZ st.L s=some sv->∃ v,a.tmps[s]?=some v/\ei env B ai sv v
 heap:bt env B ai st.H H
 aU:bK (fun k=>R k\/B k) ai (H++ks.map dC) w
 sub:∀ k,aD.b k->B k
 new:∀ k,B k->aD.b k\/(¬ R k/\uy ai k)
 dt:∀ id l,aD.p id l->n<=id/\env id=l/\((∃ b,l=.blk b)\/h2<=id)
 base:dm R W ai
 dX:∀ i x,X.AL i=some x->xk B ai i x
def Es(M:Bool) (ks:List Nat) (aD:eT):Prop:=(M=false->ks=[])/\(M=true->∀ id l,aD.p id l->ix<=id)
def lL(X:bq) (R:Nat->Prop) (W:World) (aD:eT) (M:Bool) (n:Nat) (st:aM) (a:Act) (w:World):Prop:=
 ∃ ks env B ai H,Es M ks aD/\bI X R W aD n ks env B ai H st a w
def gn(a:Act):List (Nat×Value):=a.tmps.toList.zipIdx.map fun p=>(p.2,p.1)
theorem SA{s:Nat} {v:Value}:∀ (vs:List Value) (k:Nat),((vs.zipIdx k).map fun p=>(p.2,p.1)).lookup s=some v->k<=s/\vs[s - k]?=some v:=by
 intro vs
 induction vs with
 | nil=>intro k h; cases h
 | cons u vs bJ=>
  intro k h;simp only[List.zipIdx_cons,List.map_cons,List.lookup_cons]at h
  by_cases e:s=k
  ·subst e
   simp at h
   subst h
   simp
  ·have cu:(s == k)=false:=by simpa using e
   rw[cu]at h;obtain⟨J,U⟩:=bJ (k+1) h;refine⟨by omega,?_⟩;rw[show s - k=(s - (k+1))+1 by omega,List.getElem?_cons_succ];exact U
theorem SB{s:Nat} {v:Value}:∀ (vs:List Value) (k:Nat),vs[s]?=some v->((vs.zipIdx k).map fun p=>(p.2,p.1)).lookup (k+s)=some v:=by
 intro vs
 induction vs generalizing s with
 | nil=>intro k h; simp at h
 | cons u vs bJ=>
  intro k h;simp only[List.zipIdx_cons,List.map_cons,List.lookup_cons];cases s with
  | zero=>simp at h; simp[h]
  | succ s=>
   have e:(k+(s+1) == k)=false:=by simp
   rw[e]
   have:=bJ (k+1) (by simpa using h)
   rw[show k+1+s=k+(s+1) by omega]at this;exact this
theorem SC(a:Act):c2 a.tmps.size a.defers (gn a) a:=⟨rfl,rfl,fun s v h=>by
 have:=(SA a.tmps.toList 0 h).2
 simpa using this⟩
theorem hQ{a:Act} {s:Nat} {v:Value} (h:a.tmps[s]?=some v):(gn a).lookup s=some v:=by
 have:=SB a.tmps.toList 0 (s:=s) (v:=v) (by simpa using h)
 simpa [gn] using this
def Kw:Value->bg
 | .string s=>.str s.data.toList
 | v=>.val v
def q0:List Value->List bg
 | []=>[]
 | v :: r=>Kw v :: q0 r
def bw(X:bq) (L:cQ):Operand->Option (Bool×bh)
 | .tmp s=>match aZ L s with
  | some (.a x)=>some (true,x)
  | some (.may g x)=>some (g,x)
  | _=>none
 | .const v=>match v with
  | .string s=>some (true,.c (.str s.data.toList))
  | .agg cs=>some (true,.agg (q0 cs.toList))
  | .tuple _=>none
  | v=>some (true,.c (.val v))
 | .global i=>match X.AL i with
  | some x=>some (true,.c (.par x.g x.l))
  | none=>none
 | .func f=>some (true,.c (.fn f []))
section
variable {X:bq} {R:Nat->Prop} {W:World} {aD:eT} {n:Nat} {ks:List Nat} {env:Nat->Loc} {B:Nat->Prop} {ai:World} {H:List bc} {st:aM} {a:Act} {w:World}
theorem SD(s:ByteArray):fi s.data.toList=.string s:=rfl
theorem SE:∀ v:Value,dy env B ai (Kw v) v
 | .string _=>rfl
 | .bool _=>rfl
 | .int _ _=>rfl
 | .float _ _=>rfl
 | .complex _ _ _=>rfl
 | .pointer _=>rfl
 | .slice _ _ _=>rfl
 | .map _=>rfl
 | .chan _=>rfl
 | .func _ _ _=>rfl
 | .nilFunc=>rfl
 | .iface _ _=>rfl
 | .nilIface=>rfl
 | .agg _=>rfl
 | .tuple _=>rfl
theorem xl:∀ vs:List Value,cC env B ai (q0 vs) vs
 | []=>rfl
 | v :: r=>⟨v,r,rfl,SE v,xl r⟩
theorem bI.aE(h:bI X R W aD n ks env B ai H st a w) {x:Operand} {g:Bool} {bx:bh} (ah:bw X st.L x=some (g,bx)) (aV:g=true):∃ v,aE (gn a) x=some v/\dH env B ai bx v:=by
 cases x with
 | tmp s=>
  simp only[bw]at ah;cases J:aZ st.L s with
  | none=>rw[J]at ah; cases ah
  | some sv=>
   obtain⟨v,U,ag⟩:=h.has s sv J;rw[J]at ah;cases sv with
   | a x=>cases ah; exact⟨v,hQ U,ag⟩
   | may cr x=>cases ah; exact⟨v,hQ U,ag.1 aV⟩
   | dj xs=>cases ah
 | const v=>
  refine⟨v,rfl,?_⟩;cases v with
  | string s=>cases ah; exact SD s
  | agg cs=>cases ah; exact⟨cs.toList,by simp,xl _⟩
  | tuple vs=>cases ah
  | _=>cases ah; rfl
 | global i=>
  simp only[bw]at ah;cases J:X.AL i with
  | none=>rw[J]at ah; cases ah
  | some x=>
   rw[J]at ah;cases ah;exact⟨_,rfl,(h.dX i x J).1⟩
 | func f=>cases ah; exact⟨_,rfl,[],rfl,rfl⟩
theorem bI.cb(h:bI X R W aD n ks env B ai H st a w):c2 n (jR ks aD) (gn a) a:=by
 have:=SC a
 rw[h.size,h.defs]at this;exact this
end
def oO:Op->Bool
 | .load _ _=>true
 | _=>false
def hh(X:bq) (st:aM) (o:Oper) (bx:bh):Prop:=
 ∀ {R:Nat->Prop} {W:World} {aD:eT} {n:Nat} {ks:List Nat} {env:Nat->Loc} {B:Nat->Prop} {ai:World} {H:List bc} {a:Act} {b0:World},bI X R W aD n ks env B ai H st a b0 ->
  ∃ v,dH env B ai bx v/\∀ w,(oO o.op=true->bK (fun k=>R k\/B k) ai (H++ks.map dC) w)->(execOp a.eval o).run X.P w=.ok (.value v) w
def bl(x:Int):Bool:=Nat.ble (-x).toNat 9223372036854775808&&Nat.ble x.toNat 9223372036854775807
theorem AM{x:Int}:bl x=true ↔ -9223372036854775808<=x/\x<=9223372036854775807:=by
 unfold bl;rw[Bool.and_eq_true,Nat.ble_eq,Nat.ble_eq];omega
def eo(b:Nat) (z:Int):Bool:=Nat.ble (b * z.toNat) 140737488355328&&Nat.ble z.toNat 140737488355328
theorem kP{b:Nat} {z:Int} (bk:0<=z):eo b z=true ↔ (b:Int) * z<=140737488355328/\z<=140737488355328:=by
 unfold eo;rw[Bool.and_eq_true,Nat.ble_eq,Nat.ble_eq]
 have:((b * z.toNat:Nat):Int)=(b:Int) * z:=by rw[Int.natCast_mul,Int.toNat_of_nonneg bk]
 omega
theorem Kx{x:Int} (h:bl x=true):IntKind.i64.wrap x=x:=by
 rw[AM]at h;exact RM h.1 h.2
def mc:IntKind->Int->Bool×Int
 | .i64,x=>(bl x,x)
 | k,x=>(true,k.wrap x)
theorem uz{k:IntKind} {x z:Int} (h:mc k x=(true,z)):k.wrap x=z:=by
 cases k<;>simp only[mc,Prod.mk.injEq,true_and]at h
 case i64=>obtain⟨J,rfl⟩:=h; exact Kx J
 all_goals exact h
def uA(op:BinOp) (k k':IntKind) (x y:Int):Option (Bool×bg):=
 match op with
 | .shl=>some (decide (0<=y),.val (.int k (k.wrap (x * 2 ^ (min y.toNat k.bits)))))
 | .shr=>some (decide (0<=y),.val (.int k (x.fdiv (2 ^ (min y.toNat k.bits)))))
 | _=>match decide (k=k')with
  | false=>none
  | true=>match op with
   | .add=>match mc k (x+y)with
    | (c,z)=>some (c,.val (.int k z))
   | .sub=>match mc k (x - y)with
    | (c,z)=>some (c,.val (.int k z))
   | .mul=>match mc k (x * y)with
    | (c,z)=>some (c,.val (.int k z))
   | .quo=>match mc k (x.tdiv y)with
    | (c,z)=>some (c&&decide (y≠0),.val (.int k z))
   | .rem=>some (decide (y≠0),.val (.int k (x.tmod y)))
   | .and=>some (true,.val (.int k (bits .and k x y)))
   | .or=>some (true,.val (.int k (bits .or k x y)))
   | .xor=>some (true,.val (.int k (bits .xor k x y)))
   | .lss=>some (true,.val (.bool (decide (x < y))))
   | .leq=>some (true,.val (.bool (decide (x<=y))))
   | .gtr=>some (true,.val (.bool (decide (y < x))))
   | .geq=>some (true,.val (.bool (decide (y<=x))))
   | .eql=>some (true,.val (.bool (decide (x=y))))
   | .neq=>some (true,.val (.bool (!decide (x=y))))
   | _=>none
def Et(op:BinOp) (x y:List UInt8):Option (Bool×bg):=
 match op with
 | .eql=>some (true,.val (.bool (x == y)))
 | .neq=>some (true,.val (.bool (!(x == y))))
 | .add=>some (decide (x.length+y.length<=140737488355328),.str (x++y))
 | _=>none
def Ky(op:BinOp) (x y:Bool):Option (Bool×bg):=
 match op with
 | .eql=>some (true,.val (.bool (x == y)))
 | .neq=>some (true,.val (.bool (x != y)))
 | _=>none
def Kz:List bg->List bg->Option Bool
 | [],[]=>some true
 | .val (.int k x) :: r,.val (.int k' y) :: s=>match decide (k=k'),Kz r s with
  | true,some b=>some (decide (x=y)&&b)
  | _,_=>none
 | .val (.bool x) :: r,.val (.bool y) :: s=>match Kz r s with
  | some b=>some ((x == y)&&b)
  | _=>none
 | _,_=>none
def Eu(X:bq) (op:BinOp) (t:TypeId) (x y:bh):Option (Bool×bg):=
 match x,y with
 | .c (.val (.int k x)),.c (.val (.int k' y))=>uA op k k' x y
 | .c (.str x),.c (.str y)=>Et op x y
 | .c (.val (.bool x)),.c (.val (.bool y))=>match X.a7.find t with
  | some ⟨⟨.bool,_,_,_⟩,_⟩=>Ky op x y
  | _=>none
 | .c (.bd _ l _),.c (.val (.slice none 0 0))=>match X.a7.find t,op with
  | some ⟨⟨.slice _,_,_,_⟩,_⟩,.eql=>some (decide (0 < l.length),.val (.bool false))
  | some ⟨⟨.slice _,_,_,_⟩,_⟩,.neq=>some (decide (0 < l.length),.val (.bool true))
  | _,_=>none
 | .c (.val (.slice none 0 0)),.c (.val (.slice none 0 0))=>match X.a7.find t,op with
  | some ⟨⟨.slice _,_,_,_⟩,_⟩,.eql=>some (true,.val (.bool true))
  | some ⟨⟨.slice _,_,_,_⟩,_⟩,.neq=>some (true,.val (.bool false))
  | _,_=>none
 | _,_=>none
section
variable {P:Program} {o:Oper} {n:Nat} {D:List Deferred} {L:List (Nat×Value)} {a:Act}
theorem SF{op:BinOp} {t bR:TypeId} {u v:Operand} {k k':IntKind} {x y:Int} {bV:bg} (aJ:c2 n D L a) (aA:o.op=.binOp op t u v bR) (hu:aE L u=some (.int k x)) (aw:aE L v=some (.int k' y))
  (h:uA op k k' x y=some (true,bV)):∃ r,bV=.val r/\fg P o a r:=by
 cases op
 case shl=>
  simp only[uA,Option.some.injEq,Prod.mk.injEq,decide_eq_true_eq]at h;obtain⟨h0,rfl⟩:=h;exact⟨_,rfl,RF aJ aA hu (by rw[aw,Int.toNat_of_nonneg h0]) rfl⟩
 case shr=>
  simp only[uA,Option.some.injEq,Prod.mk.injEq,decide_eq_true_eq]at h;obtain⟨h0,rfl⟩:=h;exact⟨_,rfl,RG aJ aA hu (by rw[aw,Int.toNat_of_nonneg h0]) rfl⟩
 all_goals
  have e:k=k':=by
   cases ab:decide (k=k')with
   | true=>exact of_decide_eq_true ab
   | false=>simp only[uA,ab]at h; cases h
  subst e;simp only[uA,decide_true]at h
 case add=>generalize hw:mc k (x+y)=q at h; obtain⟨c,z⟩:=q; cases h; exact⟨_,rfl,Kd aJ aA hu aw (uz hw)⟩
 case sub=>generalize hw:mc k (x - y)=q at h; obtain⟨c,z⟩:=q; cases h; exact⟨_,rfl,Rs aJ aA hu aw (uz hw)⟩
 case mul=>generalize hw:mc k (x * y)=q at h; obtain⟨c,z⟩:=q; cases h; exact⟨_,rfl,Rt aJ aA hu aw (uz hw)⟩
 case quo=>
  generalize hw:mc k (x.tdiv y)=q at h; obtain⟨c,z⟩:=q
  simp only[Option.some.injEq,Prod.mk.injEq,Bool.and_eq_true,decide_eq_true_eq]at h;obtain⟨⟨rfl,h0⟩,rfl⟩:=h;exact⟨_,rfl,Ru aJ aA hu aw h0 (uz hw)⟩
 case rem=>
  simp only[Option.some.injEq,Prod.mk.injEq,decide_eq_true_eq]at h;obtain⟨h0,rfl⟩:=h;exact⟨_,rfl,Rv aJ aA hu aw h0 rfl⟩
 case and=>cases h; exact⟨_,rfl,RC aJ aA hu aw rfl⟩
 case or=>cases h; exact⟨_,rfl,RD aJ aA hu aw rfl⟩
 case xor=>cases h; exact⟨_,rfl,RE aJ aA hu aw rfl⟩
 case lss=>cases h; exact⟨_,rfl,Rw aJ aA hu aw⟩
 case leq=>cases h; exact⟨_,rfl,Rx aJ aA hu aw⟩
 case gtr=>cases h; exact⟨_,rfl,Ry aJ aA hu aw⟩
 case geq=>cases h; exact⟨_,rfl,Rz aJ aA hu aw⟩
 case eql=>cases h; exact⟨_,rfl,RA aJ aA hu aw⟩
 case neq=>cases h; exact⟨_,rfl,RB aJ aA hu aw⟩
 case andNot=>cases h
theorem SG{u v:Operand} {t bR:TypeId} {x y:List UInt8} (aJ:c2 n D L a) (aA:o.op=.binOp .add t u v bR) (hu:aE L u=some (fi x)) (aw:aE L v=some (fi y)) (ad:x.length+y.length<=140737488355328):fg P o a (fi (x++y)):=fun w=>by
 have aC:((ByteArray.mk x.toArray).size+(ByteArray.mk y.toArray).size:Nat)=x.length+y.length:=by simp[ByteArray.size]
 have a1:(ByteArray.mk x.toArray)++(ByteArray.mk y.toArray)=ByteArray.mk (x++y).toArray:=by
  apply ByteArray.ext
  simp[ByteArray.data_append]
 have cq:¬ (((ByteArray.mk x.toArray).size+(ByteArray.mk y.toArray).size:Nat):Int) > IntKind.i64.max:=by
  rw[aC,show IntKind.i64.max=9223372036854775807 from rfl]; omega
 have ep:(Op.stringOp .add (ByteArray.mk x.toArray) (ByteArray.mk y.toArray)).run P w=.ok (fi (x++y)) w:=by
  unfold Op.stringOp;simp only[if_neg cq];rw[a1]
  rfl
 simp only[execOp,aA,aJ.aE hu,aJ.aE aw,fi,eqGuard,binOp];simp only[fi]at ep
 simp[ep]
theorem SH{op:BinOp} {t bR:TypeId} {u v:Operand} {x y:List UInt8} {bV:bg} (aJ:c2 n D L a) (aA:o.op=.binOp op t u v bR) (hu:aE L u=some (fi x)) (aw:aE L v=some (fi y))
  (h:Et op x y=some (true,bV)) {env:Nat->Loc} {B:Nat->Prop} {ai:World}:∃ r,dy env B ai bV r/\fg P o a r:=by
 cases op<;>simp only[Et,Option.some.injEq,Prod.mk.injEq,true_and,decide_eq_true_eq,reduceCtorEq]at h
 case eql=>subst h; exact⟨_,rfl,Sm aJ aA hu aw⟩
 case neq=>subst h; exact⟨_,rfl,Sn aJ aA hu aw⟩
 case add=>obtain⟨ad,rfl⟩:=h; exact⟨_,rfl,SG aJ aA hu aw ad⟩
theorem KA{P:Program} {t e:TypeId} (h:P.underlying t=some (.slice e)) (d:Nat) (a:Addr) (m c:Nat) (w:World):(Op.equalIn (d+1) t (.slice (some a) m c) (.slice none 0 0)).run P w=.ok false w:=by
 unfold Op.equalIn
 simp[run_underlying h]
theorem KB{P:Program} {t e:TypeId} (h:P.underlying t=some (.slice e)) (d:Nat) (w:World):(Op.equalIn (d+1) t (.slice none 0 0) (.slice none 0 0)).run P w=.ok true w:=by
 unfold Op.equalIn
 simp[run_underlying h]
theorem SI{X:bq} (av:X.a7.ok X.P) {op:BinOp} {t bR:TypeId} {u v:Operand} {x y:bh} {vx vy:Value} {bV:bg} {env:Nat->Loc} {B:Nat->Prop} {ai:World} (aJ:c2 n D L a) (aA:o.op=.binOp op t u v bR) (hu:aE L u=some vx) (aw:aE L v=some vy)
  (ah:dH env B ai x vx) (aH:dH env B ai y vy) (h:Eu X op t x y=some (true,bV)):∃ r,dy env B ai bV r/\fg X.P o a r:=by
 unfold Eu at h
 split at h
 ·rw[show vx=_ from ah]at hu
  rw[show vy=_ from aH]at aw;obtain⟨r,rfl,au⟩:=SF aJ aA hu aw h;exact⟨r,rfl,au⟩
 ·rw[show vx=_ from ah]at hu
  rw[show vy=_ from aH]at aw;exact SH aJ aA hu aw h
 ·rw[show vx=_ from ah]at hu
  rw[show vy=_ from aH]at aw
  split at h
  ·rename_i az
   obtain⟨T,ca,J⟩:=AJ (cj.get av az).bs;cases op<;>simp only[Ky,Option.some.injEq,Prod.mk.injEq,true_and,reduceCtorEq]at h
   case eql=>subst h; exact⟨_,rfl,RW aJ aA ca J rfl hu aw⟩
   case neq=>subst h; exact⟨_,rfl,RX aJ aA ca J rfl hu aw⟩
  ·cases h
 ·rename_i g l cap
  obtain⟨A,c,xs,rfl,_,_,_,_,hj⟩:=ah;rw[show vy=_ from aH]at aw
  split at h
  ·rename_i e s b z ka az
   have aC:=(cj.get av az).bs.1;simp only[Option.some.injEq,Prod.mk.injEq,decide_eq_true_eq]at h;obtain⟨ad,rfl⟩:=h;obtain⟨b,p,rfl,_⟩:=hj.1.2 ad;have he:∀ w,(Op.equal t _ _).run X.P w=.ok _ w:=fun w=>KA aC 9999 ⟨b,p,none⟩ l.length c w
   exact⟨_,rfl,fun w=>by simp[execOp,aA,aJ.aE hu,aJ.aE aw,eqGuard,binOp,he]⟩
  ·rename_i e s b z ka az
   have aC:=(cj.get av az).bs.1;simp only[Option.some.injEq,Prod.mk.injEq,decide_eq_true_eq]at h;obtain⟨ad,rfl⟩:=h;obtain⟨b,p,rfl,_⟩:=hj.1.2 ad;have he:∀ w,(Op.equal t _ _).run X.P w=.ok _ w:=fun w=>KA aC 9999 ⟨b,p,none⟩ l.length c w
   exact⟨_,rfl,fun w=>by simp[execOp,aA,aJ.aE hu,aJ.aE aw,eqGuard,binOp,he]⟩
  ·cases h
 ·rw[show vx=_ from ah]at hu
  rw[show vy=_ from aH]at aw
  split at h
  ·rename_i e s b z ka az
   have aC:=(cj.get av az).bs.1;cases h;have he:∀ w,(Op.equal t _ _).run X.P w=.ok _ w:=fun w=>KB aC 9999 w
   exact⟨_,rfl,fun w=>by simp[execOp,aA,aJ.aE hu,aJ.aE aw,eqGuard,binOp,he]⟩
  ·rename_i e s b z ka az
   have aC:=(cj.get av az).bs.1;cases h;have he:∀ w,(Op.equal t _ _).run X.P w=.ok _ w:=fun w=>KB aC 9999 w
   exact⟨_,rfl,fun w=>by simp[execOp,aA,aJ.aE hu,aJ.aE aw,eqGuard,binOp,he]⟩
  ·cases h
 ·cases h
end
end

section
section
variable {P:Program} {T:List (TypeId×bC)} {n:Nat} {D:List Deferred} {L:List (Nat×Value)} {a:Act} {o:Oper}
theorem uB{u x:Operand} {t e:TypeId} {i i':bC} {b m j p q:Nat} {k:IntKind} {z:Int} (aJ:c2 n D L a) (aA:o.op=.indexAddr t u x)
  (ca:gg P T) (J:T.lookup t=some i) (U:i.desc=.array m e) (ay:T.lookup e=some i') (hu:aE L u=some (.pointer (some ⟨b,p,none⟩))) (ah:aE L x=some (.int k z)) (bk:z=(j:Int)) (aF:j < m) (ao:p+j * i'.size=q):fg P o a (.pointer (some ⟨b,q,none⟩)):=fun w=>by subst bk; subst ao; have aC:=(ca _ _ J).1; rw[U]at aC; have a1:=bC.run_sizeOf (ca _ _ ay); simp[execOp,aA,aJ.aE hu,aJ.aE ah,Instr.indexAt,Instr.sureAddr,asIntOf,run_underlying aC,a1,Addr.add_lit,aF]
end
end

section
def nth{α:Type}:List α->Nat->Option α
 | [],_=>none
 | x :: _,0=>some x
 | _ :: r,n+1=>nth r n
def oP:List bg->Nat->Nat->Option (List bg)
 | _ :: r,o+1,n=>oP r o n
 | _,0,0=>some []
 | x :: r,0,n+1=>match oP r 0 n with
  | some l=>some (x :: l)
  | none=>none
 | [],_,_=>none
def lM:(g:ba)->g.D->Nat->Option bg
 | .int k,x,0=>some (.val (.int k x))
 | .bool,x,0=>some (.val (.bool x))
 | .str,x,0=>some (.str x)
 | .ak g,x,0=>some (.bd g x none)
 | .gM g,x,0=>some (.bd g x (some (List.length x)))
 | .pair g h,x,o=>match Nat.blt o g.size with
  | true=>lM g x.1 o
  | false=>lM h x.2 (o - g.size)
 | _,_,_=>none
def kQ(g:ba) (x:g.D):Nat->Nat->Option (List bg)
 | _,0=>some []
 | o,n+1=>match lM g x o,kQ g x (o+1) n with
  | some c,some l=>some (c :: l)
  | _,_=>none
def Part(vs us:List Value) (o n:Nat):Prop:=us.length=n/\∀ j u,us[j]?=some u->vs[o+j]?=some u
section
variable {env:Nat->Loc} {B:Nat->Prop} {w:World}
theorem cC.nth:∀ {cs:List bg} {vs:List Value} {o:Nat} {c:bg},cC env B w cs vs->nth cs o=some c->∃ v,vs[o]?=some v/\dy env B w c v
 | [],_,_,_,_,h=>by cases h
 | c' :: cs,vs,0,c,⟨v,r,e,J,_⟩,h=>by cases h; subst e; exact⟨v,rfl,J⟩
 | c' :: cs,vs,o+1,c,⟨v,r,e,_,U⟩,h=>by
  obtain⟨u,ag,ay⟩:=cC.nth U h;subst e;exact⟨u,ag,ay⟩
theorem cC.length:∀ {cs:List bg} {vs:List Value},cC env B w cs vs->vs.length=cs.length
 | [],_,h=>by rw[show _=[] from h]; rfl
 | _ :: _,_,⟨v,r,e,_,U⟩=>by rw[e,List.length_cons,List.length_cons,cC.length U]
theorem cC.cut:∀ {cs:List bg} {vs:List Value} {o n:Nat} {aI:List bg},cC env B w cs vs->oP cs o n=some aI->∃ us,Part vs us o n/\cC env B w aI us
 | c :: cs,vs,o+1,n,aI,⟨v,r,e,_,U⟩,h=>by
  obtain⟨us,⟨ag,ay⟩,aO⟩:=cC.cut (o:=o) U (by simpa [oP] using h);subst e;exact⟨us,⟨ag,fun j u aF=>by rw[show o+1+j=(o+j)+1 by omega,List.getElem?_cons_succ]; exact ay j u aF⟩,aO⟩
 | [],vs,0,0,aI,J,h=>by
  simp only[oP,Option.some.injEq]at h;subst h;exact⟨[],⟨rfl,fun j u aF=>by simp at aF⟩,rfl⟩
 | c :: cs,vs,0,0,aI,J,h=>by
  simp only[oP,Option.some.injEq]at h;subst h;exact⟨[],⟨rfl,fun j u aF=>by simp at aF⟩,rfl⟩
 | c :: cs,vs,0,n+1,aI,⟨v,r,e,J,U⟩,h=>by
  simp only[oP]at h
  split at h
  ·rename_i l ad
   cases h;obtain⟨us,⟨ag,ay⟩,aO⟩:=cC.cut U ad;subst e;refine⟨v :: us,⟨by rw[List.length_cons,ag],fun j u aF=>?_⟩,v,us,rfl,J,aO⟩;cases j with
   | zero=>simpa using aF
   | succ j=>
    rw[show 0+(j+1)=(0+j)+1 by omega,List.getElem?_cons_succ];exact ay j u (by simpa using aF)
  ·cases h
 | [],_,0,_+1,_,_,h=>by simp[oP]at h
 | [],_,_+1,_,_,_,h=>by simp[oP]at h
theorem bP.cell:∀ {g:ba} {x:g.D} {vs:List Value} {o:Nat} {c:bg},bP B w g x vs->lM g x o=some c->∃ v,vs[o]?=some v/\dy env B w c v
 | .int k,x,vs,0,c,az,h=>by cases h; rw[show vs=[_] from az]; exact⟨_,rfl,rfl⟩
 | .bool,x,vs,0,c,az,h=>by cases h; rw[show vs=[_] from az]; exact⟨_,rfl,rfl⟩
 | .str,x,vs,0,c,az,h=>by cases h; rw[show vs=[_] from az]; exact⟨_,rfl,rfl⟩
 | .ak g,x,vs,0,c,⟨A,k,xs,e,J,U,ag,ay⟩,h=>by cases h; rw[e]; exact⟨_,rfl,A,k,xs,rfl,J,U,(fun _ aa=>by cases aa),ag,ay⟩
 | .gM g,x,vs,0,c,⟨A,xs,e,U,ag,ay⟩,h=>by cases h; rw[e]; exact⟨_,rfl,A,_,xs,rfl,Nat.le_refl _,U,(fun _ aa=>by cases aa; rfl),ag,ay⟩
 | .pair g h,x,vs,o,c,⟨v1,v2,e,J,U⟩,aa=>by
  simp only[lM]at aa;have ad:=bP.length J
  split at aa
  ·rename_i ae
   have aL:o < g.size:=dK ae;obtain⟨v,ag,ay⟩:=bP.cell J aa;exact⟨v,by rw[e,List.getElem?_append_left (by omega)]; exact ag,ay⟩
  ·rename_i ae
   have pI:¬ o < g.size:=fun aL=>by
    have:Nat.blt o g.size=true:=Nat.ble_eq_true_of_le aL
    rw[this]at ae; cases ae
   obtain⟨v,ag,ay⟩:=bP.cell U aa;exact⟨v,by rw[e,List.getElem?_append_right (by omega),ad]; exact ag,ay⟩
 | .int _,_,_,_+1,_,_,h=>by simp[lM]at h
 | .bool,_,_,_+1,_,_,h=>by simp[lM]at h
 | .str,_,_,_+1,_,_,h=>by simp[lM]at h
 | .ak _,_,_,_+1,_,_,h=>by simp[lM]at h
 | .gM _,_,_,_+1,_,_,h=>by simp[lM]at h
 | .unit,_,_,_,_,_,h=>by simp[lM]at h
theorem bP.cells{g:ba} {x:g.D} {vs:List Value} (az:bP B w g x vs):∀ {n o:Nat} {aI:List bg},kQ g x o n=some aI->∃ us,Part vs us o n/\cC env B w aI us
 | 0,o,aI,h=>by
  simp only[kQ,Option.some.injEq]at h;subst h;exact⟨[],⟨rfl,fun j u aF=>by simp at aF⟩,rfl⟩
 | n+1,o,aI,h=>by
  simp only[kQ]at h
  split at h
  ·rename_i c l aa ad
   cases h;obtain⟨v,J,U⟩:=bP.cell (env:=env) az aa;obtain⟨us,⟨ag,ay⟩,aO⟩:=bP.cells az ad;refine⟨v :: us,⟨by rw[List.length_cons,ag],fun j u aF=>?_⟩,v,us,rfl,U,aO⟩;cases j with
   | zero=>simp at aF; subst aF; exact J
   | succ j=>
    rw[show o+(j+1)=o+1+j by omega];exact ay j u (by simpa using aF)
  ·cases h
end
def AN(X:bq) (st:aM) (t:TypeId) (x:bh):Option (Bool×bh):=
 match X.a7.find t with
 | none=>none
 | some bp=>match jO bp.bs.desc with
  | false=>match x with
   | .c (.ptr id o)=>match aZ st.H id with
    | some (.cells _ cs)=>match nth cs o with
     | some c=>some (true,.c c)
     | none=>none
    | _=>none
   | .c (.dV id cP i o)=>match aZ st.H id with
    | some (.row _ g l _)=>match Nat.beq cP g.size,lM g (l.getD i g.zero) o with
     | true,some c=>some (decide (i < l.length),.c c)
     | _,_=>none
    | _=>none
   | .c (.fK g x o)=>match lM g x o with
    | some c=>some (true,.c c)
    | none=>none
   | _=>none
  | true=>match x with
   | .c (.ptr id o)=>match aZ st.H id with
    | some (.cells _ cs)=>match oP cs o bp.bs.size with
     | some c=>some (true,.agg c)
     | none=>none
    | _=>none
   | .c (.dV id cP i o)=>match aZ st.H id with
    | some (.row _ g l _)=>match Nat.beq cP g.size,kQ g (l.getD i g.zero) o bp.bs.size with
     | true,some c=>some (decide (i < l.length),.agg c)
     | _,_=>none
    | _=>none
   | .c (.fK g x o)=>match kQ g x o bp.bs.size with
    | some c=>some (true,.agg c)
    | none=>none
   | _=>none
section
variable {X:bq} {R:Nat->Prop} {W:World} {aD:eT} {n:Nat} {ks:List Nat} {env:Nat->Loc} {B:Nat->Prop} {ai:World} {H:List bc} {st:aM} {a:Act} {w b0:World} {o:Oper}
theorem iK.more{H H2:List bc} {c:bc} {K:bc->List bc} (h:iK H c K):iK (H++H2) c (fun z=>K z++H2):=by
 obtain⟨A,Y,J,U⟩:=h;exact⟨A,Y++H2,by rw[J]; simp,by rw[U]; funext z; simp⟩
theorem sl{t:TypeId} {i:bC} {x:Operand} {b p:Nat} {v:Value} {D:List Deferred} {L:List (Nat×Value)} (aJ:c2 n D L a) (aA:o.op=.load t x) (hi:bC.ok X.P t i) (U:jO i.desc=false) (ah:Go.Proofs.YtldjgdggcodgeaaGreat.aE L x=some (.pointer (some ⟨b,p,none⟩)))
  (aa:w.cell? ⟨b,p,none⟩=some v):(execOp a.eval o).run X.P w=.ok (.value v) w:=by
 simp[execOp,aA,aJ.aE ah,Instr.loadAt,Instr.sureAddr,loadVar,bC.w8 hi,U,aa]
theorem xm{t:TypeId} {i:bC} {x:Operand} {b p:Nat} {vs:List Value} {D:List Deferred} {L:List (Nat×Value)} (aJ:c2 n D L a) (aA:o.op=.load t x) (hi:bC.ok X.P t i) (U:jO i.desc=true) (ah:Go.Proofs.YtldjgdggcodgeaaGreat.aE L x=some (.pointer (some ⟨b,p,none⟩)))
  (ad:vs.length=i.size) (aa:∀ j v,vs[j]?=some v->w.cell? ⟨b,p+j,none⟩=some v):(execOp a.eval o).run X.P w=.ok (.value (.agg vs.toArray)) w:=by
 have:=RK (w:=w) hi U (b:=b) (p:=p) ad aa
 simp[execOp,aA,aJ.aE ah,Instr.loadAt,Instr.sureAddr,this]
theorem AO{b p:Nat} {v:Value} (ae:B b) (aa:ai.cell? ⟨b,p,none⟩=some v) (aj:bK (fun k=>R k\/B k) ai H w):w.cell? ⟨b,p,none⟩=some v:=by
 rw[aj.below.cell (p:=⟨b,p,none⟩) (.inr ae)]; exact aa
theorem KC(h:bI X R W aD n ks env B ai H st a b0) {id:Nat} {t:TypeId} {g:ba} {l:List g.D} {cap:Option Nat} (ad:aZ st.H id=some (.row t g l cap)) {i:Nat} (hi:i < l.length) {b c m:Nat} (he:env id=.row (some ⟨b,0,none⟩) c m) :
  ∃ vs,bP B ai g (l.getD i g.zero) vs/\∀ w,bK (fun k=>R k\/B k) ai (H++ks.map dC) w->∀ q v,vs[q]?=some v->w.cell? ⟨b,i * g.size+q,none⟩=some v:=by
 obtain⟨dz,K,⟨A,k,xs,cV,rfl,az,_⟩,fp⟩:=h.heap.gx ad;rw[he]at cV;cases cV;have ah:l[i]?=some (l.getD i g.zero):=by rw[List.getD_eq_getElem?_getD,List.getElem?_eq_getElem hi]; rfl
 have J:=Flat.get (fun _ _=>bP.length) az ah;refine⟨_,J,fun w aj q v ao=>?_⟩;have e7:ey w (fun k=>R k\/B k) t g.size (some ⟨b,0,none⟩) c l.length xs:=aj.ok _ fp.more.mem;rw[List.getElem?_take]at ao
 split at ao
 ·rename_i aL
  rw[List.getElem?_drop]at ao;have hbound:i * g.size+q < l.length * g.size:=by
   have U:(i+1) * g.size<=l.length * g.size:=Nat.mul_le_mul_right _ hi;rw[Nat.add_mul]at U;omega
  rw[e7.cells rfl _ hbound];exact ao
 ·cases ao
theorem KD(av:X.a7.ok X.P) {t:TypeId} {u:Operand} {g:Bool} {x bx:bh} (aA:o.op=.load t u) (hu:bw X st.L u=some (g,x)) (aV:g=true) (ad:AN X st t x=some (true,bx)):hh X st o bx:=by
 intro R W aD n ks env B ai H a b0 h;obtain⟨v,aw,au⟩:=h.aE hu aV;have aJ:=h.cb;unfold AN at ad
 split at ad
 ·cases ad
 ·rename_i bp dv
  have hi:=(cj.get av dv).bs
  split at ad
  ·rename_i U
   split at ad
   ·split at ad
    ·rename_i b8
     split at ad
     ·rename_i a6
      cases ad;obtain⟨b,he,rfl⟩:=au;obtain⟨dz,K,⟨b',vs,cV,rfl,fZ⟩,az⟩:=h.heap.gx b8;rw[he]at cV;cases cV;obtain⟨v,ag,ay⟩:=fZ.nth a6;exact⟨v,ay,fun w hd=>have aj:=hd (by rw[aA]; rfl); sl aJ aA hi U aw (by rw[Eh aj az.more]; exact ag)⟩
     ·cases ad
    ·cases ad
   ·split at ad
    ·rename_i b8
     split at ad
     ·rename_i c6 a6
      simp only[Option.some.injEq,Prod.mk.injEq,decide_eq_true_eq]at ad;obtain⟨aL,rfl⟩:=ad;obtain⟨b,c,m,he,rfl⟩:=au;obtain⟨vs,ag,ay⟩:=KC h b8 aL he;obtain⟨v,aO,aK⟩:=bP.cell ag a6;have hk:=Nat.eq_of_beq_eq_true c6;subst hk;exact⟨v,aK,fun w hd=>have aj:=hd (by rw[aA]; rfl); sl aJ aA hi U aw (ay w aj _ _ aO)⟩
     ·cases ad
    ·cases ad
   ·split at ad
    ·rename_i a6
     cases ad;obtain⟨b,p,rfl,ae,vs,ag,ay⟩:=au;obtain⟨v,aO,aK⟩:=bP.cell ag a6;exact⟨v,aK,fun w hd=>have aj:=hd (by rw[aA]; rfl); sl aJ aA hi U aw (AO ae (ay _ _ aO) aj)⟩
    ·cases ad
   ·cases ad
  ·rename_i U
   split at ad
   ·split at ad
    ·rename_i b8
     split at ad
     ·rename_i a6
      cases ad;obtain⟨b,he,rfl⟩:=au;obtain⟨dz,K,⟨b',vs,cV,rfl,fZ⟩,az⟩:=h.heap.gx b8;rw[he]at cV;cases cV;obtain⟨us,⟨ag,ay⟩,aO⟩:=fZ.cut a6;exact⟨_,⟨us,rfl,aO⟩,fun w hd=>have aj:=hd (by rw[aA]; rfl); xm aJ aA hi U aw ag (fun j v aF=>by rw[Eh aj az.more]; exact ay j v aF)⟩
     ·cases ad
    ·cases ad
   ·split at ad
    ·rename_i b8
     split at ad
     ·rename_i c6 a6
      simp only[Option.some.injEq,Prod.mk.injEq,decide_eq_true_eq]at ad;obtain⟨aL,rfl⟩:=ad;obtain⟨b,c,m,he,rfl⟩:=au;obtain⟨vs,ag,ay⟩:=KC h b8 aL he;obtain⟨us,⟨aO,aK⟩,bY⟩:=bP.cells ag a6;have hk:=Nat.eq_of_beq_eq_true c6;subst hk;exact⟨_,⟨us,rfl,bY⟩,fun w hd=>have aj:=hd (by rw[aA]; rfl); xm aJ aA hi U aw aO (fun j v aF=>by rw[Nat.add_assoc]; exact ay w aj _ _ (aK j v aF))⟩
     ·cases ad
    ·cases ad
   ·split at ad
    ·rename_i a6
     cases ad;obtain⟨b,p,rfl,ae,vs,ag,ay⟩:=au;obtain⟨us,⟨aO,aK⟩,bY⟩:=bP.cells ag a6;exact⟨_,⟨us,rfl,bY⟩,fun w hd=>have aj:=hd (by rw[aA]; rfl); xm aJ aA hi U aw aO (fun j v aF=>by rw[Nat.add_assoc]; exact AO ae (ay _ _ (aK j v aF)) aj)⟩
    ·cases ad
   ·cases ad
end
end

section
def Ev(X:bq) (t:TypeId) (x:bh) (k:Nat):Option (Bool×bh):=
 match X.a7.find t with
 | some ⟨⟨.struct du,_,_,_⟩,_⟩=>match nth du.toList k with
  | some f=>match X.a7.find f.type with
   | some bp=>match Nat.blt 0 bp.bs.size,x with
    | true,.c (.ptr id o)=>some (true,.c (.ptr id (o+f.offset)))
    | true,.c (.dV id cP i o)=>some (true,.c (.dV id cP i (o+f.offset)))
    | true,.c (.fK g x o)=>some (true,.c (.fK g x (o+f.offset)))
    | _,_=>none
   | none=>none
  | none=>none
 | _=>none
def aR(z:Int) (n:Nat):Bool:=decide (0<=z)&&decide (z < (n:Int))
def Ew(X:bq) (st:aM) (t:TypeId) (x:bh) (i:bh):Option (Bool×bh):=
 match X.a7.find t with
 | some ⟨⟨.slice e,_,_,_⟩,_⟩=>match X.a7.find e with
  | some bp=>match x,i with
   | .c (.bd g l _),.c (.val (.int _ z))=>match Nat.beq g.size bp.bs.size with
    | true=>some (aR z l.length,.c (.fK g (l.getD z.toNat g.zero) 0))
    | false=>none
   | .c (.ak id),.c (.val (.int _ z))=>match aZ st.H id with
    | some (.row _ g l _)=>match Nat.beq g.size bp.bs.size with
     | true=>some (aR z l.length,.c (.dV id g.size z.toNat 0))
     | false=>none
    | some (.bX _ _ _ l _ _ _)=>match Nat.beq 1 bp.bs.size with
     | true=>some (aR z l.length,.c (.dV id 1 z.toNat 0))
     | false=>none
    | some (.bQ _ _ _ l _ _)=>match Nat.beq 1 bp.bs.size with
     | true=>some (aR z l.length,.c (.dV id 1 z.toNat 0))
     | false=>none
    | _=>none
   | _,_=>none
  | none=>none
 | some ⟨⟨.array m e,_,_,_⟩,_⟩=>match X.a7.find e with
  | some bp=>match x,i with
   | .c (.ptr id o),.c (.val (.int _ z))=>some (aR z m,.c (.ptr id (o+z.toNat * bp.bs.size)))
   | .c (.fK g x o),.c (.val (.int _ z))=>some (aR z m,.c (.fK g x (o+z.toNat * bp.bs.size)))
   | .c (.par g l),.c (.val (.int _ z))=>match Nat.beq g.size bp.bs.size with
    | true=>some (aR z m&&aR z l.length,.c (.fK g (l.getD z.toNat g.zero) 0))
    | false=>none
   | .c (.dV id cP 0 0),.c (.val (.int _ z))=>match Nat.beq cP bp.bs.size with
    | true=>some (aR z m,.c (.dV id cP z.toNat 0))
    | false=>none
   | .c (.hy id o),.c (.val (.int _ z))=>match Nat.beq bp.bs.size 1 with
    | true=>some (aR z m,.c (.dV id 1 (o+z.toNat) 0))
    | false=>some (aR z m,.c (.hy id (o+z.toNat * bp.bs.size)))
   | _,_=>none
  | none=>none
 | _=>none
def Ex:Option Nat->Nat->Option Nat
 | some c,k=>some (c - k)
 | none,_=>none
def uC(X:bq) (t:TypeId) (x:bh) (lo hi xn:Option bh):Option (Bool×bh):=
 match X.a7.find t with
 | some ⟨⟨.slice e,_,_,_⟩,_⟩=>match X.a7.find e with
  | some bp=>match x with
   | .c (.bd g l cap)=>match Nat.beq g.size bp.bs.size with
    | true=>match lo,hi,xn with
     | some (.c (.val (.int _ z))),none,none=>some (decide (0<=z)&&decide (z<=(l.length:Int)),.c (.bd g (l.drop z.toNat) (Ex cap z.toNat)))
     | none,some (.c (.val (.int _ y))),none=>some (decide (0<=y)&&decide (y<=(l.length:Int)),.c (.bd g (l.take y.toNat) cap))
     | some (.c (.val (.int _ z))),some (.c (.val (.int _ y))),none=>some (decide (0<=z)&&decide (z<=y)&&decide (y<=(l.length:Int)),.c (.bd g ((l.take y.toNat).drop z.toNat) (Ex cap z.toNat)))
     | none,some (.c (.val (.int _ y))),some (.c (.val (.int _ q)))=>some (decide (0<=y)&&decide (y<=q)&&decide (q<=(l.length:Int)),.c (.bd g (l.take y.toNat) (some q.toNat)))
     | _,_,_=>none
    | false=>none
   | _=>none
  | none=>none
 | _=>none
def Ey(X:bq) (st:aM) (t:TypeId) (x:bh):Option (Bool×bh):=
 match X.a7.find t with
 | some ⟨⟨.slice _,_,_,_⟩,_⟩=>match x with
  | .c (.bd _ l _)=>some (true,.c (.val (.int .i64 (l.length:Int))))
  | .c (.ak id)=>match aZ st.H id with
   | some (.row _ _ l _)=>some (true,.c (.val (.int .i64 (l.length:Int))))
   | some (.bX _ _ _ l _ _ _)=>some (true,.c (.val (.int .i64 (l.length:Int))))
   | some (.fw _ _ l)=>some (true,.c (.val (.int .i64 (l.length:Int))))
   | some (.bQ _ _ _ l _ _)=>some (true,.c (.val (.int .i64 (l.length:Int))))
   | _=>none
  | .c (.val (.slice none 0 0))=>some (true,.c (.val (.int .i64 0)))
  | _=>none
 | some ⟨⟨.string,_,_,_⟩,_⟩=>match x with
  | .c (.str s)=>some (true,.c (.val (.int .i64 (s.length:Int))))
  | _=>none
 | _=>none
def Ez(X:bq) (t:TypeId) (x:bh):Option (Bool×bh):=
 match X.a7.find t with
 | some ⟨⟨.slice _,_,_,_⟩,_⟩=>match x with
  | .c (.bd _ _ c)=>some (c.isSome,.c (.val (.int .i64 ((c.getD 0:Nat):Int))))
  | .c (.val (.slice none 0 0))=>some (true,.c (.val (.int .i64 0)))
  | _=>none
 | _=>none
def EA(X:bq) (t bR:TypeId) (x:bh):Option (Bool×bh):=
 match X.a7.find t,X.a7.find bR with
 | some _,some ⟨⟨.int k',_,_,_⟩,_⟩=>match x with
  | .c (.val (.int _ z))=>match mc k' z with
   | (c,r)=>some (c,.c (.val (.int k' r)))
  | _=>none
 | some _,some ⟨⟨.string,_,_,_⟩,_⟩=>match x with
  | .c (.str s)=>some (true,.c (.str s))
  | _=>none
 | _,_=>none
section
variable {X:bq} {R:Nat->Prop} {W:World} {aD:eT} {n:Nat} {ks:List Nat} {env:Nat->Loc} {B:Nat->Prop} {ai:World} {H:List bc} {st:aM} {a:Act} {w b0:World} {o:Oper}
theorem EB{α:Type}:∀ {l:List α} {k:Nat} {x:α},nth l k=some x->l[k]?=some x
 | [],_,_,h=>by cases h
 | _ :: _,0,_,h=>h
 | _ :: r,k+1,_,h=>by rw[List.getElem?_cons_succ]; exact EB (l:=r) h
theorem SJ(av:X.a7.ok X.P) {t:TypeId} {u:Operand} {g:Bool} {x bx:bh} {k:Nat} (aA:o.op=.fieldAddr t u k) (hu:bw X st.L u=some (g,x)) (aV:g=true) (ad:Ev X t x k=some (true,bx)):hh X st o bx:=by
 intro R W aD n ks env B ai H a b0 h;obtain⟨v,aw,au⟩:=h.aE hu aV;have aJ:=h.cb;unfold Ev at ad
 split at ad
 ·rename_i du s b z ka az
  split at ad
  ·rename_i f ab
   split at ad
   ·rename_i bp dv
    obtain⟨T,ca,J,ay⟩:=mH (cj.get av az).bs (cj.get av dv).bs;have ag:du[k]?=some ⟨f.name,f.type,f.offset,f.embedded,f.tag,f.pkgPath,f.byteOffset⟩:=by have:=EB ab; simpa using this
    split at ad
    ·rename_i aO
     cases ad;obtain⟨b,he,rfl⟩:=au;exact⟨_,⟨b,he,rfl⟩,fun w _=>Ef aJ aA ca J rfl ag ay aO aw w⟩
    ·rename_i aO
     cases ad;obtain⟨b,c,m,he,rfl⟩:=au;exact⟨_,⟨b,c,m,he,rfl⟩,fun w _=>by have:=Ef aJ aA ca J rfl ag ay aO aw w; rw[Nat.add_assoc]at this; exact this⟩
    ·rename_i aO
     cases ad;obtain⟨b,p,rfl,jP⟩:=au;exact⟨_,⟨b,p,rfl,jP⟩,fun w _=>by have:=Ef aJ aA ca J rfl ag ay aO aw w; rw[Nat.add_assoc]at this; exact this⟩
    ·cases ad
   ·cases ad
  ·cases ad
 ·cases ad
theorem lN{z:Int} {n:Nat} (h:aR z n=true):∃ j:Nat,z=(j:Int)/\j < n/\z.toNat=j:=by
 simp only[aR,Bool.and_eq_true,decide_eq_true_eq]at h;exact⟨z.toNat,by omega,by omega,rfl⟩
theorem KE(g:ba) (l:List g.D) {xs:List Value} (az:Flat (bP B ai g) l xs) {b p j:Nat} (ae:B b) (aa:∀ i u,xs[i]?=some u->ai.cell? ⟨b,p+i,none⟩=some u) (aF:j < l.length):qY B ai g (l.getD j g.zero) b (p+j * g.size):=by
 have ah:l[j]?=some (l.getD j g.zero):=by rw[List.getD_eq_getElem?_getD,List.getElem?_eq_getElem aF]; rfl
 have J:=Flat.get (fun _ _=>bP.length) az ah;refine⟨ae,_,J,fun q v ao=>?_⟩;rw[List.getElem?_take]at ao
 split at ao
 ·rw[List.getElem?_drop]at ao
  rw[Nat.add_assoc];exact aa _ _ ao
 ·cases ao
theorem SK(av:X.a7.ok X.P) {t:TypeId} {u y:Operand} {g cr:Bool} {x i bx:bh} (aA:o.op=.indexAddr t u y) (hu:bw X st.L u=some (g,x)) (aV:g=true) (aH:bw X st.L y=some (cr,i)) (fL:cr=true) (ad:Ew X st t x i=some (true,bx)):hh X st o bx:=by
 intro R W aD n ks env B ai H a b0 h;obtain⟨v,aw,au⟩:=h.aE hu aV;obtain⟨eY,fM,hR⟩:=h.aE aH fL;have aJ:=h.cb;unfold Ew at ad
 split at ad
 ·rename_i e s b z ka az
  split at ad
  ·rename_i bp dv
   obtain⟨T,ca,J,ay⟩:=mH (cj.get av az).bs (cj.get av dv).bs
   split at ad
   ·rename_i g l cap k z
    split at ad
    ·rename_i c6
     simp only[Option.some.injEq,Prod.mk.injEq]at ad;obtain⟨ae,rfl⟩:=ad;obtain⟨j,rfl,aF,jA⟩:=lN ae;obtain⟨A,c,xs,rfl,jf,jg,_,cS,hj⟩:=au;rw[show eY=_ from hR]at fM;have q1:0 < l.length:=by omega
     obtain⟨b,p,rfl,jy⟩:=hj.1.2 q1;have cH:=hj.2 b p q1 rfl;rw[jA];refine⟨_,⟨b,p+j * g.size,rfl,KE g l cS cH jy aF⟩,fun w _=>?_⟩
     have:=AD aJ aA ca J rfl ay aw fM rfl aF w
     rw[<- Nat.eq_of_beq_eq_true c6]at this;exact this
    ·cases ad
   ·rename_i id k z
    split at ad
    ·rename_i t2 g l cap b8
     split at ad
     ·rename_i c6
      simp only[Option.some.injEq,Prod.mk.injEq]at ad;obtain⟨ae,rfl⟩:=ad;obtain⟨j,rfl,aF,jA⟩:=lN ae;obtain⟨A,c,m,he,rfl⟩:=au;rw[show eY=_ from hR]at fM;obtain⟨dz,K,⟨cm,k',xs,cV,rfl,cS,_⟩,fp⟩:=h.heap.gx b8;rw[he]at cV;cases cV;obtain⟨b,rfl⟩:=h.aU.rowAt fp.more (by omega);rw[jA];refine⟨_,⟨b,_,_,he,rfl⟩,fun w _=>?_⟩
      have:=AD aJ aA ca J rfl ay aw fM rfl aF w
      rw[<- Nat.eq_of_beq_eq_true c6,Nat.zero_add]at this;exact this
     ·cases ad
    ·rename_i t2 g l cap c8 dL b8
     split at ad
     ·rename_i c6
      simp only[Option.some.injEq,Prod.mk.injEq]at ad;obtain⟨ae,rfl⟩:=ad;obtain⟨j,rfl,aF,jA⟩:=lN ae;obtain⟨A,c,m,he,rfl⟩:=au;rw[show eY=_ from hR]at fM;obtain⟨dz,K,⟨cm,k',bn,c7,cR,fS,cV,rfl,cS,_⟩,fp⟩:=h.heap.gx b8;rw[he]at cV;cases cV;obtain⟨b,rfl⟩:=h.aU.rowAt fp.more (by omega);rw[jA];refine⟨_,⟨b,_,_,he,rfl⟩,fun w _=>?_⟩
      have:=AD aJ aA ca J rfl ay aw fM rfl aF w
      rw[<- Nat.eq_of_beq_eq_true c6,Nat.zero_add]at this;exact this
     ·cases ad
    ·rename_i t2 t3 g l cap c8 b8
     split at ad
     ·rename_i c6
      simp only[Option.some.injEq,Prod.mk.injEq]at ad;obtain⟨ae,rfl⟩:=ad;obtain⟨j,rfl,aF,jA⟩:=lN ae;obtain⟨A,c,m,he,rfl⟩:=au;rw[show eY=_ from hR]at fM;obtain⟨dz,K,⟨cm,k',bn,cM,I,cV,rfl,_⟩,fp⟩:=h.heap.gx b8;rw[he]at cV;cases cV;obtain⟨b,rfl⟩:=ey.at ((h.aU.ok _ fp.more.mem).1 _ List.mem_cons_self) (by show 0 < l.length; omega);rw[jA];refine⟨_,⟨b,_,_,he,rfl⟩,fun w _=>?_⟩
      have:=AD aJ aA ca J rfl ay aw fM rfl aF w
      rw[<- Nat.eq_of_beq_eq_true c6,Nat.zero_add]at this;exact this
     ·cases ad
    ·cases ad
   ·cases ad
  ·cases ad
 ·rename_i m e s b z ka az
  split at ad
  ·rename_i bp dv
   obtain⟨T,ca,J,ay⟩:=mH (cj.get av az).bs (cj.get av dv).bs
   split at ad
   ·rename_i id p k z
    simp only[Option.some.injEq,Prod.mk.injEq]at ad;obtain⟨ae,rfl⟩:=ad;obtain⟨j,rfl,aF,jA⟩:=lN ae;obtain⟨b,he,rfl⟩:=au;rw[show eY=_ from hR]at fM;rw[jA];exact⟨_,⟨b,he,rfl⟩,fun w _=>uB aJ aA ca J rfl ay aw fM rfl aF rfl w⟩
   ·rename_i g x p k z
    simp only[Option.some.injEq,Prod.mk.injEq]at ad;obtain⟨ae,rfl⟩:=ad;obtain⟨j,rfl,aF,jA⟩:=lN ae;obtain⟨b,q,rfl,jP⟩:=au;rw[show eY=_ from hR]at fM;rw[jA];exact⟨_,⟨b,q,rfl,jP⟩,fun w _=>uB aJ aA ca J rfl ay aw fM rfl aF (by omega) w⟩
   ·rename_i g l k z
    split at ad
    ·rename_i c6
     simp only[Option.some.injEq,Prod.mk.injEq,Bool.and_eq_true]at ad;obtain⟨⟨ng,ae⟩,rfl⟩:=ad;obtain⟨j,rfl,aF,jA⟩:=lN ae;obtain⟨kR,SL,lO,_⟩:=lN ng;obtain⟨b,p,vs,rfl,cH,cS,jy⟩:=au;rw[show eY=_ from hR]at fM;rw[jA];refine⟨_,⟨b,p+j * g.size,rfl,KE g l cS cH jy aF⟩,fun w _=>?_⟩;exact uB aJ aA ca J rfl ay aw fM rfl (by omega) (by rw[Nat.eq_of_beq_eq_true c6]; rfl) w
    ·cases ad
   ·rename_i id cP k z
    split at ad
    ·rename_i c6
     simp only[Option.some.injEq,Prod.mk.injEq]at ad;obtain⟨ae,rfl⟩:=ad;obtain⟨j,rfl,aF,jA⟩:=lN ae;obtain⟨b,c,q,he,rfl⟩:=au;rw[show eY=_ from hR]at fM;rw[jA];exact⟨_,⟨b,c,q,he,rfl⟩,fun w _=>uB aJ aA ca J rfl ay aw fM rfl aF (by rw[Nat.eq_of_beq_eq_true c6]; simp) w⟩
    ·cases ad
   ·rename_i id p k z
    split at ad
    ·rename_i c6
     simp only[Option.some.injEq,Prod.mk.injEq]at ad;obtain⟨ae,rfl⟩:=ad;obtain⟨j,rfl,aF,jA⟩:=lN ae;obtain⟨b,c,q,he,rfl⟩:=au;rw[show eY=_ from hR]at fM;rw[jA];have xo:=Nat.eq_of_beq_eq_true c6;exact⟨_,⟨b,c,q,he,rfl⟩,fun w _=>uB aJ aA ca J rfl ay aw fM rfl aF (by rw[xo]; omega) w⟩
    ·simp only[Option.some.injEq,Prod.mk.injEq]at ad
     obtain⟨ae,rfl⟩:=ad;obtain⟨j,rfl,aF,jA⟩:=lN ae;obtain⟨b,c,q,he,rfl⟩:=au;rw[show eY=_ from hR]at fM;rw[jA];exact⟨_,⟨b,c,q,he,rfl⟩,fun w _=>uB aJ aA ca J rfl ay aw fM rfl aF rfl w⟩
   ·cases ad
  ·cases ad
 ·cases ad
theorem Flat.cut{g:ba} {l:List g.D} {xs:List Value} (az:Flat (bP B ai g) l xs) (lo hi:Nat):Flat (bP B ai g) ((l.take hi).drop lo) ((xs.drop (lo * g.size)).take ((hi - lo) * g.size)):=by
 have J:=(Flat.split (fun _ _=>bP.length) hi az).1;have U:=(Flat.split (fun _ _=>bP.length) lo J).2;have e:(xs.take (hi * g.size)).drop (lo * g.size)=(xs.drop (lo * g.size)).take ((hi - lo) * g.size):=by
  rw[List.drop_take,Nat.sub_mul]
 rw[e]at U;exact U
theorem ma.cut{A:Option Addr} {m size l h c:Nat} {xs:List Value} (au:ma B ai A m size xs) (ad:l<=h) (b1:h<=m) (aa:h<=c):ma B ai (j8 A l size c) (h - l) size ((xs.drop (l * size)).take ((h - l) * size)):=by
 refine⟨au.1.cut ad b1 aa,fun b p an e=>?_⟩;obtain⟨sn,SM,rfl,_⟩:=au.1.2 (by omega);unfold j8 at e
 split at e
 ·cases e; exact au.2 _ _ (by omega) rfl
 ·simp only[Option.map_some,Option.some.injEq,Addr.add_lit]at e
  cases e;exact au.2 _ _ (by omega) rfl
theorem KF{g:ba} {l:List g.D} {A:Option Addr} {c:Nat} {xs:List Value} {cap:Option Nat} (cS:Flat (bP B ai g) l xs) (hj:ma B ai A l.length g.size xs) (jg:c<=maxLen) (lo hi q:Nat) (J:lo<=hi) (U:hi<=l.length) (ag:hi<=q) (ay:q<=c) (fq:∀ k,cap=some k->q - lo=k) :
  dy env B ai (.bd g ((l.take hi).drop lo) cap) (.slice (j8 A lo g.size q) (hi - lo) (q - lo)):=by
 have hlen:((l.take hi).drop lo).length=hi - lo:=by simp; omega
 refine⟨_,q - lo,_,by rw[hlen],by rw[hlen]; omega,by omega,fq,cS.cut lo hi,?_⟩;rw[hlen];exact hj.cut J U ag
theorem AP(av:X.a7.ok X.P) {t:TypeId} {u:Operand} {lo hi xn:Option Operand} {g:Bool} {x bx:bh} {EC ED EE:Option bh} (aA:o.op=.slice t u lo hi xn) (hu:bw X st.L u=some (g,x)) (aV:g=true)
  (KG:∀ s,EC=some s->∃ y,lo=some y/\∃ cr,bw X st.L y=some (cr,s)/\cr=true) (KH:EC=none->lo=none) (EF:∀ s,ED=some s->∃ y,hi=some y/\∃ cr,bw X st.L y=some (cr,s)/\cr=true) (SN:ED=none->hi=none)
  (SO:∀ s,EE=some s->∃ y,xn=some y/\∃ cr,bw X st.L y=some (cr,s)/\cr=true) (EG:EE=none->xn=none) (ad:uC X t x EC ED EE=some (true,bx)):hh X st o bx:=by
 intro R W aD n ks env B ai H a b0 h;obtain⟨v,aw,au⟩:=h.aE hu aV;have aJ:=h.cb;unfold uC at ad
 split at ad
 ·rename_i e s b z ka az
  split at ad
  ·rename_i bp dv
   obtain⟨T,ca,J,ay⟩:=mH (cj.get av az).bs (cj.get av dv).bs
   split at ad
   ·rename_i g l cap
    obtain⟨A,c,xs,rfl,jf,jg,fq,cS,hj⟩:=au
    split at ad
    ·rename_i c6
     have hk:=Nat.eq_of_beq_eq_true c6
     split at ad
     ·rename_i k z
      simp only[Option.some.injEq,Prod.mk.injEq,Bool.and_eq_true,decide_eq_true_eq]at ad;obtain⟨⟨pM,so⟩,rfl⟩:=ad;obtain⟨y,rfl,cr,aH,fL⟩:=KG _ rfl;rw[SN rfl,EG rfl]at aA;obtain⟨eY,fM,hR⟩:=h.aE aH fL;rw[show eY=_ from hR]at fM;refine⟨_,?_,fun w _=>Kk aJ aA ca J rfl ay aw fM (l:=z.toNat) (by omega) (by omega) w⟩;rw[<- hk]
      have:=KF (env:=env) (cap:=Ex cap z.toNat) cS hj jg z.toNat l.length c (by omega) (Nat.le_refl _) jf (Nat.le_refl _) (by
       intro k ab;cases cap with
       | none=>cases ab
       | some c'=>have:=fq c' rfl; cases ab; rw[this])
      rw[List.take_length]at this;exact this
     ·rename_i k y
      simp only[Option.some.injEq,Prod.mk.injEq,Bool.and_eq_true,decide_eq_true_eq]at ad;obtain⟨⟨pM,so⟩,rfl⟩:=ad;obtain⟨q,rfl,cr,aH,fL⟩:=EF _ rfl;rw[KH rfl,EG rfl]at aA;obtain⟨eY,fM,hR⟩:=h.aE aH fL;rw[show eY=_ from hR]at fM;refine⟨_,?_,fun w _=>R7 aJ aA ca J rfl ay aw fM (h:=y.toNat) (by omega) (by omega) w⟩;have hlen:(l.take y.toNat).length=y.toNat:=by simp; omega
      have aO:=cS.cut 0 y.toNat;have aK:=hj.1.cut (l:=0) (h:=y.toNat) (c:=c) (by omega) (by omega) (by omega);have al:j8 A 0 g.size c=A:=by
       unfold j8
       split
       ·rfl
       ·cases A with
        | none=>rfl
        | some qX=>simp[Addr.add]
      rw[al]at aK;refine⟨A,c,_,by rw[hlen],by rw[hlen]; omega,jg,fq,by simpa using aO,?_⟩;rw[hlen];refine⟨by simpa using aK,fun b p an e=>hj.2 b p (by omega) e⟩
     ·rename_i k z k' y
      simp only[Option.some.injEq,Prod.mk.injEq,Bool.and_eq_true,decide_eq_true_eq]at ad;obtain⟨⟨⟨pM,so⟩,nW⟩,rfl⟩:=ad;obtain⟨q,rfl,cr,aH,fL⟩:=KG _ rfl;obtain⟨pN,rfl,SP,iy,EH⟩:=EF _ rfl;rw[EG rfl]at aA;obtain⟨eY,fM,hR⟩:=h.aE aH fL;rw[show eY=_ from hR]at fM;obtain⟨EI,xp,EJ⟩:=h.aE iy EH;rw[show EI=_ from EJ]at xp;refine⟨_,?_,fun w _=>R8 aJ aA ca J rfl ay aw fM xp (l:=z.toNat) (h:=y.toNat) (by omega) (by omega) (by omega) (by omega) w⟩;rw[<- hk];exact KF (env:=env) cS hj jg z.toNat y.toNat c (by omega) (by omega) (by omega) (Nat.le_refl _) (by
       intro k ab;cases cap with
       | none=>cases ab
       | some c'=>have:=fq c' rfl; cases ab; rw[this])
     ·rename_i k y k' q
      simp only[Option.some.injEq,Prod.mk.injEq,Bool.and_eq_true,decide_eq_true_eq]at ad;obtain⟨⟨⟨pM,so⟩,nW⟩,rfl⟩:=ad;obtain⟨c8,rfl,cr,aH,fL⟩:=EF _ rfl;obtain⟨dL,rfl,SP,iy,EH⟩:=SO _ rfl;rw[KH rfl]at aA;obtain⟨eY,fM,hR⟩:=h.aE aH fL;rw[show eY=_ from hR]at fM;obtain⟨EI,xp,EJ⟩:=h.aE iy EH;rw[show EI=_ from EJ]at xp;refine⟨_,?_,fun w _=>Kt aJ aA ca J rfl ay aw fM xp (h:=y.toNat) (q:=q.toNat) (by omega) (by omega) (by omega) (by omega) w⟩;have hlen:(l.take y.toNat).length=y.toNat:=by simp; omega
      have aO:=cS.cut 0 y.toNat;have aK:=hj.1.cut (l:=0) (h:=y.toNat) (c:=c) (by omega) (by omega) (by omega);have al:j8 A 0 g.size c=A:=by
       unfold j8
       split
       ·rfl
       ·cases A with
        | none=>rfl
        | some qX=>simp[Addr.add]
      rw[al]at aK;refine⟨A,q.toNat,_,by rw[hlen],by rw[hlen]; omega,by omega,(fun _ ab=>by cases ab; rfl),by simpa using aO,?_⟩;rw[hlen];refine⟨by simpa using aK,fun b p an e=>hj.2 b p (by omega) e⟩
     ·cases ad
    ·cases ad
   ·cases ad
  ·cases ad
 ·cases ad
end
end

def nh:List bg->Nat->List bg->Option (List bg)
 | l,0,[]=>some l
 | _ :: l,0,v :: vs=>match nh l 0 vs with
  | some r=>some (v :: r)
  | none=>none
 | c :: l,k+1,vs=>match nh l k vs with
  | some r=>some (c :: r)
  | none=>none
 | [],_,_=>none
def bh.cells:bh->List bg
 | .c x=>[x]
 | .agg cs=>cs
 | .arr g l=>List.replicate (l.length * g.size) .dead
def bg.live:bg->Bool
 | .dead=>false
 | .val v=>v.oneCell'
 | _=>true
def ni:List bg->Bool
 | []=>true
 | c :: r=>c.live&&ni r
def fieldAt(X:bq):List Field->Nat->Option (Nat×Nat)
 | du,k=>match nth du k with
  | some f=>match X.a7.find f.type with
   | some bp=>some (f.offset,bp.bs.size)
   | none=>none
  | none=>none
def pO(X:bq) (L:cQ) (pl:Nat->Option (Nat×Nat)):List (Nat×Operand)->Bool->List bg->Option (Bool×List bg)
 | [],c,z=>some (c,z)
 | (k,u) :: r,c,z=>match pl k,bw X L u with
  | some (off,size),some (g,x)=>match Nat.beq x.cells.length size,ni x.cells,nh z off x.cells with
   | true,true,some nU=>pO X L pl r (c&&g) nU
   | _,_,_=>none
  | _,_=>none
def AQ(X:bq):List Field->Bool
 | []=>true
 | f :: r=>(X.a7.find f.type).isSome&&AQ X r
def EK(X:bq) (L:cQ) (t:TypeId) (ps:List (Nat×Operand)):Option (Bool×bh):=
 match X.a7.find t with
 | some ⟨⟨.struct du,_,_,.agg z⟩,_⟩=>match AQ X du.toList with
  | true=>match pO X L (fieldAt X du.toList) ps true (q0 z.toList)with
   | some (c,r)=>some (c,.agg r)
   | none=>none
  | false=>none
 | some ⟨⟨.array _ e,_,_,.agg z⟩,_⟩=>match X.a7.find e with
  | some bp=>match pO X L (fun i=>some (i * bp.bs.size,bp.bs.size)) ps true (q0 z.toList)with
   | some (c,r)=>some (c,.agg r)
   | none=>none
  | none=>none
 | _=>none
def xq(b:Bool):bh->bh->Option bh
 | .c (.val (.int k x)),.c (.val (.int k' y))=>match decide (k=k')with
  | true=>some (.c (.val (.int k (cond b x y))))
  | false=>none
 | .c (.val (.bool x)),.c (.val (.bool y))=>some (.c (.val (.bool (cond b x y))))
 | .c (.str x),.c (.str y)=>some (.c (.str (cond b x y)))
 | _,_=>none
def h3(X:bq) (L:cQ):List Operand->Option (List e2)
 | []=>some []
 | u :: r=>match bw X L u,h3 X L r with
  | some (true,.c (.ptr id 0)),some l=>some (.id id :: l)
  | some (true,.c (.fK g x 0)),some l=>some (.cL g x :: l)
  | _,_=>none
def sq(isMax:Bool) (k:IntKind) (acc:Int) (X:bq) (L:cQ):List Operand->Bool->Option (Bool×bg)
 | [],c=>some (c,.val (.int k acc))
 | u :: r,c=>match bw X L u with
  | some (g,.c (.val (.int k' y)))=>match decide (k=k'),isMax with
   | true,true=>sq true k (if acc < y then y else acc) X L r (c&&g)
   | true,false=>sq false k (if y < acc then y else acc) X L r (c&&g)
   | false,_=>none
  | _=>none
def sr(X:bq) (st:aM):Op->Option (Bool×bh)
 | .move u=>bw X st.L u
 | .assign u=>bw X st.L u
 | .pick c u v=>match bw X st.L c,bw X st.L u,bw X st.L v with
  | some (gc,.c (.val (.bool b))),some (xr,x),some (bO,y)=>match xq b x y with
   | some r=>some (gc&&(!b || xr)&&(b || bO),r)
   | none=>none
  | _,_,_=>none
 | .unOp .not _ u=>match bw X st.L u with
  | some (g,.c (.val (.bool b)))=>some (g,.c (.val (.bool (!b))))
  | _=>none
 | .unOp .neg _ u=>match bw X st.L u with
  | some (g,.c (.val (.int k x)))=>match mc k (0 - x)with
   | (c,z)=>some (g&&c,.c (.val (.int k z)))
  | _=>none
 | .binOp op t u v _=>match bw X st.L u,bw X st.L v with
  | some (g,x),some (cr,y)=>match Eu X op t x y with
   | some (c,r)=>some (g&&cr&&c,.c r)
   | none=>none
  | _,_=>none
 | .load t u=>match bw X st.L u with
  | some (g,x)=>match AN X st t x with
   | some (c,r)=>some (g&&c,r)
   | none=>none
  | none=>none
 | .fieldAddr t u k=>match bw X st.L u with
  | some (g,x)=>match Ev X t x k with
   | some (c,r)=>some (g&&c,r)
   | none=>none
  | none=>none
 | .indexAddr t u v=>match bw X st.L u,bw X st.L v with
  | some (g,x),some (cr,y)=>match Ew X st t x y with
   | some (c,r)=>some (g&&cr&&c,r)
   | none=>none
  | _,_=>none
 | .slice t u none none none=>none
 | .slice t u (some l) none none=>match bw X st.L u,bw X st.L l with
  | some (g,x),some (g1,lP)=>match uC X t x (some lP) none none with
   | some (c,r)=>some (g&&g1&&c,r)
   | none=>none
  | _,_=>none
 | .slice t u none (some l) none=>match bw X st.L u,bw X st.L l with
  | some (g,x),some (g1,lP)=>match uC X t x none (some lP) none with
   | some (c,r)=>some (g&&g1&&c,r)
   | none=>none
  | _,_=>none
 | .slice t u (some l) (some h) none=>match bw X st.L u,bw X st.L l,bw X st.L h with
  | some (g,x),some (g1,lP),some (g2,ss)=>match uC X t x (some lP) (some ss) none with
   | some (c,r)=>some (g&&g1&&g2&&c,r)
   | none=>none
  | _,_,_=>none
 | .slice t u none (some l) (some h)=>match bw X st.L u,bw X st.L l,bw X st.L h with
  | some (g,x),some (g1,lP),some (g2,ss)=>match uC X t x none (some lP) (some ss)with
   | some (c,r)=>some (g&&g1&&g2&&c,r)
   | none=>none
  | _,_,_=>none
 | .convert t bR u=>match bw X st.L u with
  | some (g,x)=>match EA X t bR x with
   | some (c,r)=>some (g&&c,r)
   | none=>none
  | none=>none
 | .build t ps=>EK X st.L t ps.toList
 | .makeFunc (.func f) ⟨[]⟩ cs=>match h3 X st.L cs.toList with
  | some ids=>some (true,.c (.fn f ids))
  | none=>none
 | .makeFunc (.func f) ⟨[u]⟩ ⟨[]⟩=>match bw X st.L u with
  | some (true,.c (.ptr id 0))=>some (true,.c (.iu f id))
  | _=>none
 | .nilCheck u=>match bw X st.L u with
  | some (g,.c (.ptr id o))=>some (g,.c (.ptr id o))
  | some (g,.c (.dV id s i o))=>some (g,.c (.dV id s i o))
  | some (g,.c (.fK t x o))=>some (g,.c (.fK t x o))
  | some (g,.c (.par t x))=>some (g,.c (.par t x))
  | _=>none
 | .extract (.tmp s) k=>match aZ st.L s with
  | some (.dj vs)=>match nth vs k with
   | some x=>some (true,x)
   | none=>none
  | _=>none
 | .call ⟨.builtin .len,⟨[u]⟩,⟨[t]⟩⟩=>match bw X st.L u with
  | some (g,x)=>match Ey X st t x with
   | some (c,r)=>some (g&&c,r)
   | none=>none
  | none=>none
 | .call ⟨.builtin .cap,⟨[u]⟩,⟨[t]⟩⟩=>match bw X st.L u with
  | some (g,x)=>match Ez X t x with
   | some (c,r)=>some (g&&c,r)
   | none=>none
  | none=>none
 | .call ⟨.builtin .min,⟨u :: r⟩,_⟩=>match bw X st.L u with
  | some (g,.c (.val (.int k x)))=>match sq false k x X st.L r g with
   | some (c,y)=>some (c,.c y)
   | none=>none
  | _=>none
 | .call ⟨.builtin .max,⟨u :: r⟩,_⟩=>match bw X st.L u with
  | some (g,.c (.val (.int k x)))=>match sq true k x X st.L r g with
   | some (c,y)=>some (c,.c y)
   | none=>none
  | _=>none
 | .index t u v=>match X.a7.find t with
  | some ⟨⟨.string,_,_,_⟩,_⟩=>match bw X st.L u,bw X st.L v with
   | some (g,.c (.str s)),some (cr,.c (.val (.int _ z)))=>some (g&&cr&&aR z s.length,.c (.val (.int .u8 ((s.getD z.toNat 0).toNat:Int))))
   | _,_=>none
  | _=>none
 | _=>none

section
section
variable {X:bq} {R:Nat->Prop} {W:World} {aD:eT} {n:Nat} {ks:List Nat} {env:Nat->Loc} {B:Nat->Prop} {ai:World} {H:List bc} {st:aM} {a:Act} {w b0:World} {o:Oper}
theorem xt:∀ {cs:List bg} {vs:List Value} {k:Nat} {xs:List bg} {us:List Value} {r:List bg},cC env B w cs vs->cC env B w xs us->nh cs k xs=some r->∃ rs,oM vs k us rs/\cC env B w r rs
 | cs,vs,0,[],us,r,J,U,h=>by
  have e:us=[]:=U;subst e;cases cs with
  | nil=>simp only[nh,Option.some.injEq]at h; subst h; exact⟨vs,.nil,J⟩
  | cons c cs=>simp only[nh,Option.some.injEq]at h; subst h; exact⟨vs,.nil,J⟩
 | c :: cs,vs,0,x :: xs,us,r,⟨v,SQ,e,_,J⟩,⟨u,ahd,a1,U,ag⟩,h=>by
  simp only[nh]at h
  split at h
  ·rename_i q ao
   cases h;obtain⟨rs,ay,aO⟩:=xt J ag ao;subst e; subst a1;exact⟨u :: rs,.cons ay,u,rs,rfl,U,aO⟩
  ·cases h
 | c :: cs,vs,k+1,xs,us,r,⟨v,SQ,e,h0,J⟩,U,h=>by
  simp only[nh]at h
  split at h
  ·rename_i q ao
   cases h;obtain⟨rs,ay,aO⟩:=xt J U ao;subst e;exact⟨v :: rs,.skip ay,v,rs,rfl,h0,aO⟩
  ·cases h
 | [],_,0,_ :: _,_,_,_,_,h=>by simp[nh]at h
 | [],_,_+1,_,_,_,_,_,h=>by simp[nh]at h
theorem cC.KI:∀ vs:List Value,cC env B w (List.replicate vs.length .dead) vs
 | []=>rfl
 | v :: r=>⟨v,r,rfl,trivial,cC.KI r⟩
theorem dH.cells:∀ {x:bh} {v:Value},dH env B w x v->(∀ c,x=.c c->v.oneCell'=true)->cC env B w x.cells v.cells.toList
 | .c x,v,h,bb=>by
  have aw:=bb x rfl;have SR:v.cells=#[v]:=by cases v<;>first | rfl | (simp[Value.oneCell']at aw)
  rw[SR];exact⟨v,[],rfl,h,rfl⟩
 | .agg cs,v,⟨vs,e,h⟩,_=>by subst e; simpa [Value.cells,bh.cells] using h
 | .arr g l,v,⟨vs,e,h⟩,_=>by
  subst e;have J:=cC.KI (env:=env) (B:=B) (w:=w) vs;rw[bP.ln h]at J
  simpa [Value.cells,bh.cells] using J
theorem dy.one:∀ {c:bg} {v:Value},c.live=true->dy env B w c v->v.oneCell'=true
 | .val _,_,h,e=>by rw[show _=_ from e]; exact h
 | .str _,_,_,e=>by rw[show _=fi _ from e]; rfl
 | .dead,_,h,_=>by cases h
 | .ptr _ _,_,_,⟨_,_,e⟩=>by rw[e]; rfl
 | .dV _ _ _ _,_,_,⟨_,_,_,_,e⟩=>by rw[e]; rfl
 | .fK _ _ _,_,_,⟨_,_,e,_⟩=>by rw[e]; rfl
 | .par _ _,_,_,⟨_,_,_,e,_⟩=>by rw[e]; rfl
 | .ak _,_,_,⟨_,_,_,_,e⟩=>by rw[e]; rfl
 | .bd _ _ _,_,_,⟨_,_,_,e,_⟩=>by rw[e]; rfl
 | .fn _ _,_,_,⟨_,e,_⟩=>by rw[e]; rfl
 | .eP _,_,_,⟨_,_,e⟩=>by rw[e]; rfl
 | .iu _ _,_,_,⟨_,_,e⟩=>by rw[e]; rfl
 | .hy _ _,_,_,⟨_,_,_,_,e⟩=>by rw[e]; rfl
 | .iv _ _ _,_,_,⟨_,_,_,_,_,e⟩=>by rw[e]; rfl
 | .iN _,_,_,⟨_,_,_,_,e⟩=>by rw[e]; rfl
 | .fR b _,_,_,⟨_,_,e⟩=>by rw[e]; cases b<;>rfl
theorem cC.jB:∀ {cs:List bg} {vs:List Value},ni cs=true->cC env B w cs vs->∀ u∈vs,u.oneCell'=true
 | [],_,_,h,u,hu=>by rw[show _=[] from h]at hu; cases hu
 | c :: cs,_,ad,⟨v,r,e,J,U⟩,u,hu=>by
  simp only[ni,Bool.and_eq_true]at ad;subst e
  rcases List.mem_cons.1 hu with rfl | hu
  ·exact dy.one ad.1 J
  ·exact cC.jB ad.2 U u hu
theorem SS{P:Program} {o:Oper} {a:Act} {n:Nat} {D:List Deferred} {L:List (Nat×Value)} {f:Fn} {x:Operand} {v:Value} (aJ:c2 n D L a) (aA:o.op=.makeFunc f #[x] #[]) (aw:aE L x=some v):fg P o a (.func f #[v] #[]):=fun w=>by
 simp[execOp,aA,Instr.makeFunc,aJ.aE aw]
theorem EL(h:bI X R W aD n ks env B ai H st a b0):∀ {us:List Operand} {ids:List e2},h3 X st.L us=some ids->∃ vs,iq (gn a) us=some vs/\eN env B ai ids vs
 | [],ids,aa=>by cases aa; exact⟨[],rfl,rfl⟩
 | u :: us,ids,aa=>by
  simp only[h3]at aa
  split at aa
  ·rename_i id l hu ad
   cases aa;obtain⟨v,J,b,he,rfl⟩:=h.aE hu rfl;obtain⟨vs,U,ag⟩:=EL h ad;refine⟨_ :: vs,?_,_,vs,rfl,⟨b,he,rfl⟩,ag⟩;unfold iq;rw[J,U]
  ·rename_i g x l hu ad
   cases aa;obtain⟨v,J,b,o,rfl,jP⟩:=h.aE hu rfl;obtain⟨vs,U,ag⟩:=EL h ad;refine⟨_ :: vs,?_,_,vs,rfl,⟨b,o,rfl,jP⟩,ag⟩;unfold iq;rw[J,U]
   rfl
  ·cases aa
theorem AR(h:bI X R W aD n ks env B ai H st a b0) {k:IntKind}:∀ {m:Bool} {us:List Operand} {acc:Int} {c:Bool} {bV:bg},sq m k acc X st.L us c=some (true,bV) ->
  c=true/\∃ z,bV=.val (.int k z)/\∀ w,((us.map a.eval).foldlM (if m then Builtin.max2 else Builtin.min2) (.int k acc)).run X.P w=.ok (.int k z) w
 | m,[],acc,c,bV,hm=>by
  simp only[sq,Option.some.injEq,Prod.mk.injEq]at hm;obtain⟨rfl,rfl⟩:=hm;exact⟨rfl,acc,rfl,fun w=>by simp⟩
 | m,u :: us,acc,c,bV,hm=>by
  simp only[sq]at hm
  split at hm
  ·rename_i g k' y hu
   have kS:k=k':=by
    split at hm
    ·rename_i ab; exact of_decide_eq_true ab
    ·rename_i ab; exact of_decide_eq_true ab
    ·cases hm
   subst kS;rw[decide_eq_true rfl]at hm;cases m with
   | true=>
    obtain⟨aa,z,rfl,bk⟩:=AR (m:=true) h hm;simp only[Bool.and_eq_true]at aa;obtain⟨v,J,U⟩:=h.aE hu aa.2;have ag:=h.cb.aE J;rw[show v=_ from U]at ag;refine⟨aa.1,z,rfl,fun w=>?_⟩
    have:=bk w
    simp[ag,Builtin.max2]at this ⊢
    exact this
   | false=>
    obtain⟨aa,z,rfl,bk⟩:=AR (m:=false) h hm;simp only[Bool.and_eq_true]at aa;obtain⟨v,J,U⟩:=h.aE hu aa.2;have ag:=h.cb.aE J;rw[show v=_ from U]at ag;refine⟨aa.1,z,rfl,fun w=>?_⟩
    have:=bk w
    simp[ag,Builtin.min2]at this ⊢
    exact this
  ·cases hm
theorem KJ(av:X.a7.ok X.P):∀ (du:List Field),AQ X du=true->∃ l:List (Nat×Nat),(∀ w,(du.mapM fun f=>Prod.mk f.offset <$> sizeOf f.type:Sem (List (Nat×Nat))).run X.P w=.ok l w)/\∀ k p,fieldAt X du k=some p->l[k]?=some p
 | [],_=>⟨[],fun w=>by simp,fun k p h=>by simp[fieldAt,nth]at h⟩
 | f :: du,hS=>by
  simp only[AQ,Bool.and_eq_true]at hS;obtain⟨l,J,U⟩:=KJ av du hS.2;cases az:X.a7.find f.type with
  | none=>rw[az]at hS; simp at hS
  | some bp=>
   refine⟨(f.offset,bp.bs.size) :: l,fun w=>?_,fun k p h=>?_⟩
   ·simp[bC.run_sizeOf (cj.get av az).bs,J]
   ·cases k with
    | zero=>
     simp only[fieldAt,nth,az,Option.some.injEq]at h
     simp[h]
    | succ k=>
     rw[List.getElem?_cons_succ];exact U k p (by simpa [fieldAt,nth] using h)
theorem SU{pl:Nat->Option (Nat×Nat)}:∀ (ps:List (Nat×Operand)) (c:Bool) (z:List bg) (c':Bool) (r:List bg),pO X st.L pl ps c z=some (c',r)->c'=true->c=true:=by
 intro ps
 induction ps with
 | nil=>intro c z c' r J U; simp only[pO,Option.some.injEq,Prod.mk.injEq]at J; rw[J.1]; exact U
 | cons p ps bJ=>
  intro c z c' r J U;obtain⟨k,u⟩:=p;simp only[pO]at J
  split at J
  ·split at J
   ·have:=bJ _ _ _ _ J U
    simp only[Bool.and_eq_true]at this;exact this.1
   ·cases J
  ·cases J
theorem EM(h:bI X R W aD n ks env B ai H st a b0) {pl l:Nat->Option (Nat×Nat)} (ad:∀ k p,pl k=some p->l k=some p):∀ {ps:List (Nat×Operand)} {c c':Bool} {z r:List bg} {vs:List Value},cC env B ai z vs ->
  pO X st.L pl ps c z=some (c',r)->c'=true->∃ rs:List Value,Instr.fill l vs.toArray (ps.map fun p=>(p.1,a.eval p.2))=some rs.toArray/\cC env B ai r rs
 | [],c,c',z,r,vs,bk,az,aa=>by
  simp only[pO,Option.some.injEq,Prod.mk.injEq]at az;obtain⟨rfl,rfl⟩:=az;exact⟨vs,rfl,bk⟩
 | (k,u) :: ps,c,c',z,r,vs,bk,az,aa=>by
  simp only[pO]at az
  split at az
  ·rename_i off size g x EN hu
   split at az
   ·rename_i nU c6 pP an
    have hk:=Nat.eq_of_beq_eq_true c6;have KL:=SU _ _ _ _ _ az aa;simp only[Bool.and_eq_true]at KL;obtain⟨v,J,U⟩:=h.aE hu KL.2;have fZ:cC env B ai x.cells v.cells.toList:=U.cells fun c e=>by
     subst e;simp only[bh.cells,ni,Bool.and_true]at pP;exact dy.one pP U
    obtain⟨rs,ag,ay⟩:=xt bk fZ an;obtain⟨SV,aO,aK⟩:=EM h ad ay az aa;refine⟨SV,?_,aK⟩;rw[List.map_cons,h.cb.aE J];rw[Sk (ad _ _ EN) (by rw[<- hk,<- fZ.length]; simp) ag];exact aO
   ·cases az
  ·cases az
theorem SW(av:X.a7.ok X.P) {t:TypeId} {ps:Array (Nat×Operand)} {bx:bh} (aA:o.op=.build t ps) (ad:EK X st.L t ps.toList=some (true,bx)):hh X st o bx:=by
 intro R W aD n ks env B ai H a b0 h;unfold EK at ad
 split at ad
 ·rename_i du s b z ka az
  obtain⟨nX,rfl⟩:∃ nX:List Field,du=nX.toArray:=⟨du.toList,by simp⟩
  split at ad
  ·rename_i hS
   split at ad
   ·rename_i c r uD
    cases ad;obtain⟨l,J,U⟩:=KJ av _ hS;obtain⟨rs,ag,ay⟩:=EM h (l:=fun k=>l[k]?) U (xl z.toList) uD rfl;refine⟨_,⟨rs,rfl,ay⟩,fun w _=>?_⟩;have aC:=(cj.get av az).bs.1;have a1:=bC.sf (cj.get av az).bs w;have cq:=J w
    have:(Instr.build t (ps.map fun p=>(p.1,a.eval p.2))).run X.P w=.ok (.agg rs.toArray) w:=by
     unfold Instr.build;simp only[Array.toArray_toList]at ag
     simp[a1,run_underlying aC,cq,Value.cells,ag]
    simp only[execOp,aA]
    simp[this]
   ·cases ad
  ·cases ad
 ·rename_i m e s b z ka az
  split at ad
  ·rename_i bp dv
   split at ad
   ·rename_i c r uD
    cases ad;obtain⟨rs,ag,ay⟩:=EM h (l:=fun i=>some (i * bp.bs.size,bp.bs.size)) (fun _ _ h=>h) (xl z.toList) uD rfl;refine⟨_,⟨rs,rfl,ay⟩,fun w _=>?_⟩;have aC:=(cj.get av az).bs.1;have a1:=bC.sf (cj.get av az).bs w;have cq:=bC.run_sizeOf (cj.get av dv).bs w
    have:(Instr.build t (ps.map fun p=>(p.1,a.eval p.2))).run X.P w=.ok (.agg rs.toArray) w:=by
     unfold Instr.build;simp only[Array.toArray_toList]at ag
     simp[a1,run_underlying aC,cq,Value.cells,ag]
    simp only[execOp,aA]
    simp[this]
   ·cases ad
  ·cases ad
 ·cases ad
theorem SX(av:X.a7.ok X.P) {t:TypeId} {u:Operand} {g:Bool} {x bx:bh} (aA:o.op=.call ⟨.builtin .len,⟨[u]⟩,⟨[t]⟩⟩) (hu:bw X st.L u=some (g,x)) (aV:g=true) (ad:Ey X st t x=some (true,bx)):hh X st o bx:=by
 intro R W aD n ks env B ai H a b0 h;obtain⟨v,aw,au⟩:=h.aE hu aV;have aJ:=h.cb;unfold Ey at ad
 split at ad
 ·rename_i e s b z ka az
  obtain⟨T,ca,J⟩:=AJ (cj.get av az).bs
  split at ad
  ·cases ad
   obtain⟨A,c,xs,rfl,_⟩:=au;exact⟨_,rfl,fun w _=>uq aJ aA ca J rfl aw w⟩
  ·split at ad
   ·rename_i b8
    cases ad;obtain⟨A,c,m,he,rfl⟩:=au;obtain⟨dz,K,⟨cm,k',xs,cV,rfl,cS,_⟩,fp⟩:=h.heap.gx b8;rw[he]at cV;cases cV;exact⟨_,rfl,fun w _=>uq aJ aA ca J rfl aw w⟩
   ·rename_i b8
    cases ad;obtain⟨A,c,m,he,rfl⟩:=au;obtain⟨dz,K,⟨cm,k',bn,c7,cR,fS,cV,rfl,_⟩,fp⟩:=h.heap.gx b8;rw[he]at cV;cases cV;exact⟨_,rfl,fun w _=>uq aJ aA ca J rfl aw w⟩
   ·rename_i b8
    cases ad;obtain⟨A,c,m,he,rfl⟩:=au;obtain⟨dz,K,⟨cm,k',cV,_⟩,fp⟩:=h.heap.gx b8;rw[he]at cV;cases cV;exact⟨_,rfl,fun w _=>uq aJ aA ca J rfl aw w⟩
   ·rename_i b8
    cases ad;obtain⟨A,c,m,he,rfl⟩:=au;obtain⟨dz,K,⟨cm,k',bn,cM,I,cV,_⟩,fp⟩:=h.heap.gx b8;rw[he]at cV;cases cV;exact⟨_,rfl,fun w _=>uq aJ aA ca J rfl aw w⟩
   ·cases ad
  ·cases ad
   rw[show v=_ from au]at aw;exact⟨_,rfl,fun w _=>uq aJ aA ca J rfl aw w⟩
  ·cases ad
 ·rename_i s b z ka az
  have aC:=(cj.get av az).bs.1
  split at ad
  ·rename_i ak
   cases ad;rw[show v=_ from au]at aw;refine⟨_,rfl,fun w _=>?_⟩;have a1:(ByteArray.mk ak.toArray).size=ak.length:=by show ak.toArray.size=_; simp
   simp[execOp,aA,resolve,invoke,builtin,Builtin.len_,aJ.aE aw,fi,run_underlying aC,goInt,a1]
  ·cases ad
 ·cases ad
theorem SY(av:X.a7.ok X.P) {t:TypeId} {u:Operand} {g:Bool} {x bx:bh} (aA:o.op=.call ⟨.builtin .cap,⟨[u]⟩,⟨[t]⟩⟩) (hu:bw X st.L u=some (g,x)) (aV:g=true) (ad:Ez X t x=some (true,bx)):hh X st o bx:=by
 intro R W aD n ks env B ai H a b0 h;obtain⟨v,aw,au⟩:=h.aE hu aV;have aJ:=h.cb;unfold Ez at ad
 split at ad
 ·rename_i e s b z ka az
  obtain⟨T,ca,J⟩:=AJ (cj.get av az).bs
  split at ad
  ·rename_i cc
   cases cc with
   | none=>cases ad
   | some cc=>
    cases ad;obtain⟨A,c,xs,rfl,_,_,aa,_⟩:=au
    have:=aa _ rfl
    subst this;exact⟨_,rfl,fun w _=>Ee aJ aA ca J rfl aw w⟩
  ·cases ad
   rw[show v=_ from au]at aw;exact⟨_,rfl,fun w _=>Ee aJ aA ca J rfl aw w⟩
  ·cases ad
 ·cases ad
theorem SZ(av:X.a7.ok X.P) {t bR:TypeId} {u:Operand} {g:Bool} {x bx:bh} (aA:o.op=.convert t bR u) (hu:bw X st.L u=some (g,x)) (aV:g=true) (ad:EA X t bR x=some (true,bx)):hh X st o bx:=by
 intro R W aD n ks env B ai H a b0 h;obtain⟨v,aw,au⟩:=h.aE hu aV;have aJ:=h.cb;unfold EA at ad
 split at ad
 ·rename_i bp k' s b z ka az mE
  obtain⟨T,ca,J,U⟩:=mH (cj.get av az).bs (cj.get av mE).bs
  split at ad
  ·rename_i k z
   generalize hw:mc k' z=q at ad
   obtain⟨c,r⟩:=q;cases ad;rw[show v=_ from au]at aw;exact⟨_,rfl,fun w _=>RH aJ aA ca J U rfl aw (uz hw) w⟩
  ·cases ad
 ·rename_i bp s b z ka az mE
  split at ad
  ·cases ad
   rw[show v=_ from au]at aw;refine⟨_,rfl,fun w _=>?_⟩;have aC:=(cj.get av az).bs.1;have a1:=(cj.get av mE).bs.1
   simp[execOp,aA,aJ.aE aw,convert,run_underlying aC,run_underlying a1,fi]
  ·cases ad
 ·cases ad
theorem AS(av:X.a7.ok X.P) {c:Bool} {bx:bh} (ad:sr X st o.op=some (c,bx)) (aa:c=true):hh X st o bx:=by
 unfold sr at ad
 split at ad
 ·rename_i u aA
  intro R W aD n ks env B ai H a b0 h;obtain⟨v,J,U⟩:=h.aE ad aa;exact⟨v,U,fun w _=>J8 h.cb aA J w⟩
 ·rename_i u aA
  intro R W aD n ks env B ai H a b0 h;obtain⟨v,J,U⟩:=h.aE ad aa;exact⟨v,U,fun w _=>J9 h.cb aA J w⟩
 ·rename_i uc u v aA
  split at ad
  ·rename_i gc b xr x bO y aC a1 cq
   split at ad
   ·rename_i r an
    cases ad;simp only[Bool.and_eq_true,Bool.or_eq_true,Bool.not_eq_true']at aa;obtain⟨⟨EO,fE⟩,ng⟩:=aa;intro R W aD n ks env B ai H a b0 h;obtain⟨S0,J,U⟩:=h.aE aC EO;rw[show S0=_ from U]at J;have KM:∀ vx vy,(b=true->dH env B ai x vx)->(b=false->dH env B ai y vy)->dH env B ai bx (if b then vx else vy):=by
     intro vx vy ah aH;unfold xq at an
     split at an
     ·split at an
      ·rename_i ab
       have kS:=of_decide_eq_true ab;subst kS;cases an;cases b
       ·exact aH rfl
       ·exact ah rfl
      ·cases an
     ·cases an
      cases b
      ·exact aH rfl
      ·exact ah rfl
     ·cases an
      cases b
      ·exact aH rfl
      ·exact ah rfl
     ·cases an
    cases b with
    | true=>
     obtain⟨vx,ag,ay⟩:=h.aE a1 (by simpa using fE);exact⟨vx,KM vx vx (fun _=>ay) (fun h=>by cases h),fun w _=>Ka h.cb aA J rfl ag w⟩
    | false=>
     obtain⟨vy,ag,ay⟩:=h.aE cq (by simpa using ng);exact⟨vy,KM vy vy (fun h=>by cases h) (fun _=>ay),fun w _=>Kb h.cb aA J rfl ag w⟩
   ·cases ad
  ·cases ad
 ·rename_i t u aA
  split at ad
  ·rename_i g b aC
   cases ad;intro R W aD n ks env B ai H a b0 h;obtain⟨v,J,U⟩:=h.aE aC aa;rw[show v=_ from U]at J;exact⟨_,rfl,fun w _=>Rq h.cb aA J w⟩
  ·cases ad
 ·rename_i t u aA
  split at ad
  ·rename_i g k x aC
   generalize hw:mc k (0 - x)=q at ad
   obtain⟨c',z⟩:=q;simp only[Option.some.injEq,Prod.mk.injEq]at ad;obtain⟨rfl,rfl⟩:=ad;simp only[Bool.and_eq_true]at aa;obtain⟨aV,rfl⟩:=aa;intro R W aD n ks env B ai H a b0 h;obtain⟨v,J,U⟩:=h.aE aC aV;rw[show v=_ from U]at J;exact⟨_,rfl,fun w _=>by have mI:=uz hw; simp only[Int.zero_sub]at mI; simp[execOp,aA,h.cb.aE J,Op.unary,Op.intArith,mI]⟩
  ·cases ad
 ·rename_i op t u v bR aA
  split at ad
  ·rename_i g x cr y aC a1
   split at ad
   ·rename_i c' r ae
    cases ad;simp only[Bool.and_eq_true]at aa;obtain⟨⟨aV,fL⟩,rfl⟩:=aa;intro R W aD n ks env B ai H a b0 h;obtain⟨vx,J,U⟩:=h.aE aC aV;obtain⟨vy,ag,ay⟩:=h.aE a1 fL;obtain⟨r,aO,aK⟩:=SI av h.cb aA J ag U ay ae;exact⟨r,aO,fun w _=>aK w⟩
   ·cases ad
  ·cases ad
 ·rename_i t u aA
  split at ad
  ·rename_i g x aC
   split at ad
   ·rename_i c' r ae
    cases ad;simp only[Bool.and_eq_true]at aa;obtain⟨aV,rfl⟩:=aa;exact KD av aA aC aV ae
   ·cases ad
  ·cases ad
 ·rename_i t u k aA
  split at ad
  ·rename_i g x aC
   split at ad
   ·rename_i c' r ae
    cases ad;simp only[Bool.and_eq_true]at aa;obtain⟨aV,rfl⟩:=aa;exact SJ av aA aC aV ae
   ·cases ad
  ·cases ad
 ·rename_i t u v aA
  split at ad
  ·rename_i g x cr y aC a1
   split at ad
   ·rename_i c' r ae
    cases ad;simp only[Bool.and_eq_true]at aa;obtain⟨⟨aV,fL⟩,rfl⟩:=aa;exact SK av aA aC aV a1 fL ae
   ·cases ad
  ·cases ad
 ·cases ad
 ·rename_i t u l aA
  split at ad
  ·rename_i g x g1 lP aC a1
   split at ad
   ·rename_i c' r ae
    cases ad;simp only[Bool.and_eq_true]at aa;obtain⟨⟨aV,fL⟩,rfl⟩:=aa;exact AP av aA aC aV (fun s aj=>by cases aj; exact⟨_,rfl,_,a1,fL⟩) (fun h=>by cases h) (fun s aj=>by cases aj) (fun _=>rfl) (fun s aj=>by cases aj) (fun _=>rfl) ae
   ·cases ad
  ·cases ad
 ·rename_i t u l aA
  split at ad
  ·rename_i g x g1 lP aC a1
   split at ad
   ·rename_i c' r ae
    cases ad;simp only[Bool.and_eq_true]at aa;obtain⟨⟨aV,fL⟩,rfl⟩:=aa;exact AP av aA aC aV (fun s aj=>by cases aj) (fun _=>rfl) (fun s aj=>by cases aj; exact⟨_,rfl,_,a1,fL⟩) (fun h=>by cases h) (fun s aj=>by cases aj) (fun _=>rfl) ae
   ·cases ad
  ·cases ad
 ·rename_i t u l b1 aA
  split at ad
  ·rename_i g x g1 lP g2 ss aC a1 cq
   split at ad
   ·rename_i c' r ae
    cases ad;simp only[Bool.and_eq_true]at aa;obtain⟨⟨⟨aV,fL⟩,dP⟩,rfl⟩:=aa;exact AP av aA aC aV (fun s aj=>by cases aj; exact⟨_,rfl,_,a1,fL⟩) (fun h=>by cases h) (fun s aj=>by cases aj; exact⟨_,rfl,_,cq,dP⟩) (fun h=>by cases h) (fun s aj=>by cases aj) (fun _=>rfl) ae
   ·cases ad
  ·cases ad
 ·rename_i t u l b1 aA
  split at ad
  ·rename_i g x g1 lP g2 ss aC a1 cq
   split at ad
   ·rename_i c' r ae
    cases ad;simp only[Bool.and_eq_true]at aa;obtain⟨⟨⟨aV,fL⟩,dP⟩,rfl⟩:=aa;exact AP av aA aC aV (fun s aj=>by cases aj) (fun _=>rfl) (fun s aj=>by cases aj; exact⟨_,rfl,_,a1,fL⟩) (fun h=>by cases h) (fun s aj=>by cases aj; exact⟨_,rfl,_,cq,dP⟩) (fun h=>by cases h) ae
   ·cases ad
  ·cases ad
 ·rename_i t bR u aA
  split at ad
  ·rename_i g x aC
   split at ad
   ·rename_i c' r ae
    cases ad;simp only[Bool.and_eq_true]at aa;obtain⟨aV,rfl⟩:=aa;exact SZ av aA aC aV ae
   ·cases ad
  ·cases ad
 ·rename_i t ps aA
  subst aa;exact SW av aA ad
 ·rename_i f cs aA
  split at ad
  ·rename_i ids hcp
   cases ad;intro R W aD n ks env B ai H a b0 h;obtain⟨vs,J,U⟩:=EL h hcp;exact⟨_,⟨vs,rfl,U⟩,fun w _=>Rr (xs:=cs.toList) h.cb (by rw[aA]) J w⟩
  ·cases ad
 ·rename_i f u aA
  split at ad
  ·rename_i id aC
   cases ad;intro R W aD n ks env B ai H a b0 h;obtain⟨v,J,b,ae,rfl⟩:=h.aE aC rfl;exact⟨_,⟨b,ae,rfl⟩,fun w _=>SS h.cb (by rw[aA]) J w⟩
  ·cases ad
 ·rename_i u aA
  intro R W aD n ks env B ai H a b0 h
  split at ad
  ·rename_i aC
   cases ad;obtain⟨v,J,U⟩:=h.aE aC aa;have ag:=h.cb.aE J;obtain⟨b,he,rfl⟩:=U;exact⟨_,⟨b,he,rfl⟩,fun w _=>by simp[execOp,aA,ag]⟩
  ·rename_i aC
   cases ad;obtain⟨v,J,U⟩:=h.aE aC aa;have ag:=h.cb.aE J;obtain⟨b,c,m,he,rfl⟩:=U;exact⟨_,⟨b,c,m,he,rfl⟩,fun w _=>by simp[execOp,aA,ag]⟩
  ·rename_i aC
   cases ad;obtain⟨v,J,U⟩:=h.aE aC aa;have ag:=h.cb.aE J;obtain⟨b,p,rfl,jP⟩:=U;exact⟨_,⟨b,p,rfl,jP⟩,fun w _=>by simp[execOp,aA,ag]⟩
  ·rename_i aC
   cases ad;obtain⟨v,J,U⟩:=h.aE aC aa;have ag:=h.cb.aE J;obtain⟨b,p,vs,rfl,jP⟩:=U;exact⟨_,⟨b,p,vs,rfl,jP⟩,fun w _=>by simp[execOp,aA,ag]⟩
  ·cases ad
 ·rename_i s k aA
  split at ad
  ·rename_i vs aC
   split at ad
   ·rename_i x a1
    cases ad;intro R W aD n ks env B ai H a b0 h;obtain⟨v,J,us,rfl,U⟩:=h.has _ _ aC;have key:∀ {xs:List bh} {us:List Value} {k:Nat} {x:bh},dF env B ai xs us->nth xs k=some x->∃ u,us[k]?=some u/\dH env B ai x u:=by
     intro xs
     induction xs with
     | nil=>intro us k x _ h; cases h
     | cons y bn bJ=>
      intro us k x aj a6;obtain⟨v,r,rfl,ag,ay⟩:=aj;cases k with
      | zero=>cases a6; exact⟨v,rfl,ag⟩
      | succ k=>obtain⟨u,aO,aK⟩:=bJ ay a6; exact⟨u,by rw[List.getElem?_cons_succ]; exact aO,aK⟩
    obtain⟨u,ag,ay⟩:=key U a1;exact⟨u,ay,fun w _=>Kc h.cb aA (hQ J) ag w⟩
   ·cases ad
  ·cases ad
 ·rename_i u t aA
  split at ad
  ·rename_i g x aC
   split at ad
   ·rename_i c' r ae
    cases ad;simp only[Bool.and_eq_true]at aa;obtain⟨aV,rfl⟩:=aa;exact SX av aA aC aV ae
   ·cases ad
  ·cases ad
 ·rename_i u t aA
  split at ad
  ·rename_i g x aC
   split at ad
   ·rename_i c' r ae
    cases ad;simp only[Bool.and_eq_true]at aa;obtain⟨aV,rfl⟩:=aa;exact SY av aA aC aV ae
   ·cases ad
  ·cases ad
 ·rename_i u r fo aA
  split at ad
  ·rename_i g k x aC
   split at ad
   ·rename_i c' y hm
    cases ad;subst aa;intro R W aD n ks env B ai H a b0 h;obtain⟨aV,z,rfl,bk⟩:=AR h hm;obtain⟨v,J,U⟩:=h.aE aC aV;have ag:=h.cb.aE J;rw[show v=_ from U]at ag;refine⟨_,rfl,fun w _=>?_⟩
    have:=bk w
    simp only[Bool.false_eq_true,if_false]at this
    simp[execOp,aA,resolve,invoke,builtin,Builtin.min_,ag,this]
   ·cases ad
  ·cases ad
 ·rename_i u r fo aA
  split at ad
  ·rename_i g k x aC
   split at ad
   ·rename_i c' y hm
    cases ad;subst aa;intro R W aD n ks env B ai H a b0 h;obtain⟨aV,z,rfl,bk⟩:=AR h hm;obtain⟨v,J,U⟩:=h.aE aC aV;have ag:=h.cb.aE J;rw[show v=_ from U]at ag;refine⟨_,rfl,fun w _=>?_⟩
    have:=bk w
    simp only[if_true]at this
    simp[execOp,aA,resolve,invoke,builtin,Builtin.max_,ag,this]
   ·cases ad
  ·cases ad
 ·rename_i t u v aA
  split at ad
  ·rename_i cP b z0 ka az
   split at ad
   ·rename_i g s cr k z aC a1
    simp only[Option.some.injEq,Prod.mk.injEq]at ad;obtain⟨rfl,rfl⟩:=ad;simp only[Bool.and_eq_true]at aa;obtain⟨⟨aV,fL⟩,ae⟩:=aa;intro R W aD n ks env B ai H a b0 h;obtain⟨jj,J,U⟩:=h.aE aC aV;rw[show jj=fi s from U]at J;obtain⟨vx,ag,ay⟩:=h.aE a1 fL;rw[show vx=_ from ay]at ag;obtain⟨j,rfl,aF,jA⟩:=lN ae;have c8:=(cj.get av az).bs.1;have mJ:(ByteArray.mk s.toArray)[j]?=some (s.getD j 0):=by
     have aL:j < (ByteArray.mk s.toArray).size:=by simpa [ByteArray.size] using aF
     have a1:(ByteArray.mk s.toArray)[j]?=some ((ByteArray.mk s.toArray)[j]'aL):=by
      exact getElem?_pos (ByteArray.mk s.toArray) j aL
     rw[a1,List.getD_eq_getElem?_getD,List.getElem?_eq_getElem aF]
     rfl
    refine⟨_,rfl,fun w _=>?_⟩;have h0:(0:Int)<=(j:Int):=Int.natCast_nonneg j;have dW:(Instr.index t (fi s) (.int k (j:Int))).run X.P w=.ok (.int .u8 ((s.getD j 0).toNat:Int)) w:=by
     simp only[Instr.index,fi,asIntOf,Sem.run_bind,Sem.run_pure,Result.andThen_ok,run_underlying c8,h0,if_true,Int.toNat_natCast,mJ]
    rw[Int.toNat_natCast]
    simp[execOp,aA,h.cb.aE J,h.cb.aE ag,dW]
   ·cases ad
  ·cases ad
 ·cases ad
end
end

section
def uE:Op->Bool
 | .store _ _ _=>false
 | .call ⟨.builtin .len,_,_⟩=>true
 | .call ⟨.builtin .cap,_,_⟩=>true
 | .call ⟨.builtin .min,_,_⟩=>true
 | .call ⟨.builtin .max,_,_⟩=>true
 | .call _=>false
 | _=>true
def AT:Op->Bool
 | .store _ _ _=>false
 | .call ⟨.builtin .append,_,_⟩=>true
 | o=>uE o
def oQ(d:Nat):bE->Bool
 | []=>true
 | (k,b) :: r=>(match Nat.beq k d,b with
  | true,.cells _ _=>false
  | _,_=>true)&&oQ d r
def oR(o:Oper) (H:bE):Bool:=match o.dst with
 | some d=>oQ d H
 | none=>true
def su(d:Nat):bE->Bool
 | []=>true
 | (k,_) :: r=>match Nat.beq k d with
  | true=>false
  | false=>su d r
def q2(o:Oper) (H:bE):Bool:=match o.dst with
 | some d=>su d H
 | none=>true
theorem KN{d:Nat}:∀ {l:bE} {b:cA},oQ d l=true->(d,b)∈l->∀ t cs,b≠.cells t cs
 | (k,b') :: r,b,h,ae,t,cs=>by
  simp only[oQ,Bool.and_eq_true]at h
  rcases List.mem_cons.1 ae with e | ae
  ·injection e with aC a1
   subst aC; subst a1;intro e;rw[e,Nat.beq_refl]at h
   simp at h
  ·exact KN h.2 ae t cs
structure AU(o:Oper) (st:aM) (H:List bc) (w:World) (H':List bc) (w':World):Prop where
 new:uE o.op=true->Below w.heap.size w w'
 e6:AT o.op=true->oR o st.H=true->∀ c∈H,iw c=true->c∈H'
 all:uE o.op=true->q2 o st.H=true->∀ c∈H,c∈H'
def sw(X:bq) (n:Nat) (st:aM) (o:Oper) (st':aM):Prop:=
 ∀ {R:Nat->Prop} {W:World} {aD:eT} {ks:List Nat} {env:Nat->Loc} {B:Nat->Prop} {ai:World} {H:List bc} {a:Act} {w:World} (ops:Array Oper) (KK:Act->World->Prop),bI X R W aD n ks env B ai H st a w ->
  (∀ aW w' env' H',AU o st H w H' w'->bI X R W aD n ks env' B ai H' st' aW w'->KK aW w')->eW X.P ops o KK a w
def KO(k:IntKind):List bg->Option (Bool×Int×List bg)
 | .val (.int k' x) :: r=>match decide (k=k')with
  | true=>some (true,x,r)
  | false=>none
 | _=>none
def KP:List bg->Option (Bool×Bool×List bg)
 | .val (.bool x) :: r=>some (true,x,r)
 | _=>none
def KQ:List bg->Option (Bool×List UInt8×List bg)
 | .str x :: r=>some (true,x,r)
 | _=>none
def KR(g:ba):List bg->Option (Bool×List g.D×List bg)
 | .val (.slice none 0 0) :: r=>some (true,[],r)
 | .bd cr l _ :: r=>match decEq cr g with
  | isTrue h=>some (true,h ▸ l,r)
  | isFalse _=>none
 | _=>none
def KS(g:ba):List bg->Option (Bool×List g.D×List bg)
 | .val (.slice none 0 0) :: r=>some (true,[],r)
 | .bd cr l (some c) :: r=>match decEq cr g with
  | isTrue h=>some (decide (c=l.length),h ▸ l,r)
  | isFalse _=>none
 | _=>none
def dec:(g:ba)->List bg->Option (Bool×g.D×List bg)
 | .int k,r=>KO k r
 | .bool,r=>KP r
 | .str,r=>KQ r
 | .ak g,r=>KR g r
 | .gM g,r=>KS g r
 | .unit,r=>some (true,(),r)
 | .pair g h,r=>match dec g r with
  | some (ft,x,aP)=>match dec h aP with
   | some (cR,y,aX)=>some (ft&&cR,(x,y),aX)
   | none=>none
  | none=>none
section
variable {env:Nat->Loc} {B:Nat->Prop} {w:World}
theorem oS:∀ {g:ba} {cs:List bg} {c:Bool} {x:g.D} {r:List bg} {vs:List Value},cC env B w cs vs->dec g cs=some (c,x,r)->c=true->∃ v1 v2,vs=v1++v2/\bP B w g x v1/\cC env B w r v2
 | .int k,cs,c,x,r,vs,h,ax,aa=>by
  simp only[dec,KO]at ax
  split at ax
  ·split at ax
   ·rename_i ab
    have kS:=of_decide_eq_true ab;subst kS;cases ax;obtain⟨v,rr,rfl,J,U⟩:=h;exact⟨[v],rr,rfl,by rw[show v=_ from J]; exact rfl,U⟩
   ·cases ax
  ·cases ax
 | .bool,cs,c,x,r,vs,h,ax,aa=>by
  simp only[dec,KP]at ax
  split at ax
  ·cases ax
   obtain⟨v,rr,rfl,J,U⟩:=h;exact⟨[v],rr,rfl,by rw[show v=_ from J]; exact rfl,U⟩
  ·cases ax
 | .str,cs,c,x,r,vs,h,ax,aa=>by
  simp only[dec,KQ]at ax
  split at ax
  ·cases ax
   obtain⟨v,rr,rfl,J,U⟩:=h;exact⟨[v],rr,rfl,by rw[show v=_ from J]; exact rfl,U⟩
  ·cases ax
 | .ak g,cs,c,x,r,vs,h,ax,aa=>by
  simp only[dec,KR]at ax
  split at ax
  ·cases ax
   obtain⟨v,rr,rfl,J,U⟩:=h;exact⟨[v],rr,rfl,⟨none,0,[],by rw[show v=_ from J]; rfl,Nat.le_refl _,Nat.zero_le _,rfl,Reads.nil _ _ _,(fun _ _ h=>absurd h (Nat.lt_irrefl 0))⟩,U⟩
  ·split at ax
   ·rename_i aV _
    subst aV;cases ax;obtain⟨v,rr,rfl,⟨A,c,xs,rfl,ag,ay,aO,aK,bY⟩,U⟩:=h;exact⟨[_],rr,rfl,⟨A,c,xs,rfl,ag,ay,aK,bY⟩,U⟩
   ·cases ax
  ·cases ax
 | .gM g,cs,c,x,r,vs,h,ax,aa=>by
  simp only[dec,KS]at ax
  split at ax
  ·cases ax
   obtain⟨v,rr,rfl,J,U⟩:=h;exact⟨[v],rr,rfl,⟨none,[],by rw[show v=_ from J]; rfl,Nat.zero_le _,rfl,Reads.nil _ _ _,(fun _ _ h=>absurd h (Nat.lt_irrefl 0))⟩,U⟩
  ·split at ax
   ·rename_i aV _
    subst aV;simp only[Option.some.injEq,Prod.mk.injEq]at ax;obtain⟨rfl,rfl,rfl⟩:=ax;have e3:=of_decide_eq_true aa;obtain⟨v,rr,rfl,⟨A,c,xs,rfl,ag,ay,aO,aK,bY⟩,U⟩:=h
    have:=aO _ rfl
    subst this;rw[e3];exact⟨[_],rr,rfl,⟨A,xs,rfl,by rw[e3]at ay; exact ay,aK,bY⟩,U⟩
   ·cases ax
  ·cases ax
 | .unit,cs,c,x,r,vs,h,ax,aa=>by
  simp only[dec]at ax;cases ax;exact⟨[],vs,rfl,rfl,h⟩
 | .pair g a8,cs,c,x,r,vs,h,ax,aa=>by
  simp only[dec]at ax
  split at ax
  ·rename_i ft pQ aP J
   split at ax
   ·rename_i cR ahe aX U
    cases ax;simp only[Bool.and_eq_true]at aa;obtain⟨v1,v2,rfl,ag,ay⟩:=oS h J aa.1;obtain⟨v3,v4,rfl,aO,aK⟩:=oS ay U aa.2;exact⟨v1++v3,v4,by rw[List.append_assoc],⟨v1,v3,rfl,ag,aO⟩,aK⟩
   ·cases ax
  ·cases ax
end
section
variable {X:bq} {R:Nat->Prop} {W:World} {aD:eT} {n:Nat} {ks:List Nat} {env:Nat->Loc} {B:Nat->Prop} {ai:World} {H:List bc} {st:aM} {a aW:Act} {w w':World} {o:Oper} {d:Nat}
theorem bI.sym(h:bI X R W aD n ks env B ai H st a w):Sym n (jR ks aD) (gn a) (fun k=>R k\/B k) ai (H++ks.map dC) a w:=⟨h.cb,h.aU⟩
theorem c2.same{D:List Deferred} (aJ:c2 n D (gn a) aW) {s:Nat} {u:Value} (hu:a.tmps[s]?=some u):aW.tmps[s]?=some u:=aJ.has s u (hQ hu)
theorem c2.other{D:List Deferred} {v:Value} (aJ:c2 n D ((d,v) :: gn a) aW) {s:Nat} (aj:s≠d) {u:Value} (hu:a.tmps[s]?=some u):aW.tmps[s]?=some u:=
 aJ.has s u (by rw[List.lookup_cons,beq_false_of_ne aj]; exact hQ hu)
theorem c2.this{D:List Deferred} {v:Value} (aJ:c2 n D ((d,v) :: gn a) aW):aW.tmps[d]?=some v:=aJ.has d v (by simp)
theorem bI.set(h:bI X R W aD n ks env B ai H st a w) {sv:b5} {v:Value} (aw:ei env B ai sv v) (aJ:c2 n (jR ks aD) ((d,v) :: gn a) aW):bI X R W aD n ks env B ai H ⟨(d,sv) :: st.L,st.H⟩ aW w:=
 ⟨aJ.size,aJ.defs,fun s u aj=>by
  rw[cn]at aj
  split at aj
  ·rename_i e; subst e; cases aj; exact⟨v,aJ.this,aw⟩
  ·rename_i e; obtain⟨eF,J,U⟩:=h.has s u aj; exact⟨eF,aJ.other e J,U⟩,h.heap,h.aU,h.sub,h.new,h.dt,h.base,h.dX⟩
def h8(env:Nat->Loc) (id:Nat) (l:Loc):Nat->Loc:=fun j=>if j=id then l else env j
theorem e8{id:Nat} {l:Loc}:h8 env id l id=l:=if_pos rfl
theorem h4{id:Nat} {l:Loc}:∀ j,j≠id->h8 env id l j=env j:=fun _ h=>if_neg h
theorem nY{id:Nat} {l:Loc} {p:Nat->Loc->Prop} (h:∀ id l,p id l->n<=id/\env id=l/\((∃ b,l=.blk b)\/h2<=id)) (ax:∀ l,¬ p id l):∀ j q,p j q->n<=j/\h8 env id l j=q/\((∃ b,q=.blk b)\/h2<=j):=fun j q an=>
 ⟨(h j q an).1,by rw[h4 j (fun e=>ax q (by rw[<- e]; exact an))]; exact(h j q an).2.1,(h j q an).2.2⟩
theorem bt.KT{d:Nat} {l:Loc}:∀ {L:bE} {H:List bc},su d L=true->bt env B ai L H->bt (h8 env d l) B ai (dG d .dead L) H
 | [],_,_,h=>h
 | (k,b) :: L,_,a6,⟨c,H',e,J,U⟩=>by
  unfold su at a6
  split at a6
  ·cases a6
  ·rename_i ab
   unfold dG;rw[ab];exact⟨c,H',e,J.sub (z:=.dead) (h4 (env:=env)) (fun _ _=>trivial) (Nat.ne_of_beq_eq_false ab),bt.KT a6 U⟩
theorem bI.nZ(h:bI X R W aD n ks env B ai H st a w) (ax:Nat.blt d n=true) {l:Loc} {c:bc} {blk:cA} {sv:b5} {v:Value} (aj:bK (fun k=>R k\/B k) ai (c :: (H++ks.map dC)) w') (ae:ej (h8 env d l) B ai d blk c) (aw:ei (h8 env d l) B ai sv v)
  (aJ:c2 n (jR ks aD) ((d,v) :: gn a) aW):∃ H',((oQ d st.H=true->∀ c∈H,iw c=true->c∈H')/\(su d st.H=true->∀ c∈H,c∈H'))/\bI X R W aD n ks (h8 env d l) B ai H' ⟨(d,sv) :: fe d .dead st.L,(d,blk) :: dG d .dead st.H⟩ aW w':=by
 have EP:∃ H2,H2.Sublist H/\bt (h8 env d l) B ai (dG d .dead st.H) H2/\(oQ d st.H=true->∀ c∈H,iw c=true->c∈H2)/\(su d st.H=true->∀ c∈H,c∈H2):=by
  cases ab:su d st.H with
  | true=>exact⟨H,List.Sublist.refl _,bt.KT ab h.heap,fun _ c aa _=>aa,fun _ c aa=>aa⟩
  | false=>
  cases a6:oQ d st.H with
  | true=>
   obtain⟨H2,J,U,ag⟩:=h.heap.Er (z:=.dead) (h4 (env:=env) (id:=d) (l:=l)) (fun _ _=>trivial) (fun b c ae oT=>oT.nf (KN a6 ae));exact⟨H2,J,U,fun _=>ag,fun h=>by cases h⟩
  | false=>
   obtain⟨H2,J,U⟩:=h.heap.del (z:=.dead) (h4 (env:=env) (id:=d) (l:=l)) (fun _ _=>trivial);exact⟨H2,J,U,(fun h=>by cases h),fun h=>by cases h⟩
 obtain⟨H2,J,U,ag,xu⟩:=EP;refine⟨c :: H2,⟨fun a6 c aa jz=>List.mem_cons_of_mem _ (ag a6 c aa jz),fun a6 c aa=>List.mem_cons_of_mem _ (xu a6 c aa)⟩,aJ.size,aJ.defs,fun s u aj=>?_,⟨c,H2,rfl,ae,U⟩,aj.en ((J.append_right _).cons_cons _),h.sub,h.new,nY h.dt (fun q an=>by have J:=(h.dt _ _ an).1; have U:=dK ax; omega),h.base,fun i x ah=>h.dX i x ah⟩;rw[cn]at aj
 split at aj
 ·rename_i e; subst e; cases aj; exact⟨v,aJ.this,aw⟩
 ·rename_i e
  obtain⟨hz,hA,rfl⟩:=lK aj;obtain⟨eF,ag,ay⟩:=h.has s hz hA;exact⟨eF,aJ.other e ag,ei.sub (z:=.dead) (h4 (env:=env)) (fun _ _=>trivial) ay⟩
def q3(X:bq) (n:Nat) (st:aM) (t:TypeId) (d:Nat) (cs:List bg):Option (Bool×aM):=
 match Nat.blt d n with
 | true=>some (true,⟨(d,.c (.ptr d 0)) :: fe d .dead st.L,(d,.cells t (pL d .dead cs)) :: dG d .dead st.H⟩)
 | false=>none
theorem S1{x:Operand} {t:TypeId} {g:Bool} {bx:bh} {st':aM} {c:Bool} (aA:o.op=.box t x) (dx:o.guard=none) (dU:o.dst=some d) (ah:bw X st.L x=some (g,bx)) (aV:g=true) (ad:ni bx.cells=true)
  (ae:q3 X n st t d bx.cells=some (c,st')):sw X n st o st':=by
 intro R W aD ks env B ai H a w ops KK h bZ;unfold q3 at ae
 split at ae
 ·rename_i ax
  cases ae;obtain⟨v,J,U⟩:=h.aE ah aV;have fZ:cC env B ai bx.cells v.cells.toList:=U.cells fun c e=>by
   subst e;simp only[bh.cells,ni,Bool.and_true]at ad;exact dy.one ad U
  have aw:=h.cb.aE J;refine hv h.cb dx dU (dK ax) (v:=.pointer (some ⟨w.heap.size,0,none⟩)) (w':=w.alloc (.cells v.cells.toList.toArray t)) (by simp[execOp,aA,aw,Instr.box,newVar,newRow,newObj,Sem.run]) fun aW aJ=>?_
  obtain⟨H',kT,ag⟩:=h.nZ (d:=d) ax (l:=.blk w.heap.size) (blk:=.cells t (pL d .dead bx.cells)) (sv:=.c (.ptr d 0)) (h.aU.AA _ t) ⟨_,_,e8,rfl,cC.sub (z:=.dead) h4 (fun _ _=>trivial) fZ⟩ ⟨_,e8,rfl⟩ aJ;exact bZ _ _ _ _ ⟨fun _=>(Below.refl _ _).alloc (Nat.le_refl _) _,fun _ a6=>kT.1 (by simpa [oR,dU] using a6),fun _ a6=>kT.2 (by simpa [q2,dU] using a6)⟩ ag
 ·cases ae
theorem S2(av:X.a7.ok X.P) {t:TypeId} {bp:bo} {st':aM} {c:Bool} (aA:o.op=.alloc t) (dx:o.guard=none) (dU:o.dst=some d) (dv:X.a7.find t=some bp)
  (ae:q3 X n st t d (q0 bp.bs.zero.cells.toList)=some (c,st')):sw X n st o st':=by
 intro R W aD ks env B ai H a w ops KK h bZ;unfold q3 at ae
 split at ae
 ·rename_i ax
  cases ae;have bk:=bC.sf (cj.get av dv).bs;refine hv h.cb dx dU (dK ax) (v:=.pointer (some ⟨w.heap.size,0,none⟩)) (w':=w.alloc (.cells bp.bs.zero.cells.toList.toArray t)) (by simp[execOp,aA,Instr.alloc,bk,newVar,newRow,newObj,Sem.run]) fun aW aJ=>?_
  obtain⟨H',kT,ag⟩:=h.nZ (d:=d) ax (l:=.blk w.heap.size) (blk:=.cells t (pL d .dead (q0 bp.bs.zero.cells.toList))) (sv:=.c (.ptr d 0)) (h.aU.AA _ t) ⟨_,_,e8,rfl,cC.sub (z:=.dead) (env:=env) h4 (fun _ _=>trivial) (xl _)⟩ ⟨_,e8,rfl⟩ aJ;exact bZ _ _ _ _ ⟨fun _=>(Below.refl _ _).alloc (Nat.le_refl _) _,fun _ a6=>kT.1 (by simpa [oR,dU] using a6),fun _ a6=>kT.2 (by simpa [q2,dU] using a6)⟩ ag
 ·cases ae
theorem bI.mK(h:bI X R W aD n ks env B ai H st a w) {id:Nat} {b b':cA} (b8:aZ st.H id=some b):∃ c K,ej env B ai id b c/\iK (H++ks.map dC) c K/\∀ c' aW w',ej env B ai id b' c'->bK (fun k=>R k\/B k) ai (K c') w'->c2 n (jR ks aD) (gn a) aW->∃ H',bI X R W aD n ks env B ai H' ⟨st.L,eO id b' st.H⟩ aW w':=by
 obtain⟨c,K,J,U,ag⟩:=h.heap.put b8;refine⟨c,_,J,U.more,fun c' aW w' ae aj aJ=>⟨K c',aJ.size,aJ.defs,fun s u hu=>?_,ag b' c' ae,aj,h.sub,h.new,h.dt,h.base,h.dX⟩⟩;obtain⟨eF,ay,aO⟩:=h.has s u hu;exact⟨eF,aJ.same ay,aO⟩
def xv(X:bq) (st:aM) (t:TypeId) (x y:bh):Option (Bool×aM):=
 match X.a7.find t,ni y.cells with
 | some bp,true=>match Nat.beq y.cells.length bp.bs.size,x with
  | true,.c (.ptr id o)=>match aZ st.H id with
   | some (.cells bR cs)=>match nh cs o y.cells with
    | some r=>some (true,⟨st.L,eO id (.cells bR r) st.H⟩)
    | none=>none
   | _=>none
  | true,.c (.dV id cP i o)=>match aZ st.H id with
   | some (.row bR g l cap)=>match Nat.beq cP g.size,kQ g (l.getD i g.zero) 0 g.size with
    | true,some cs=>match nh cs o y.cells with
     | some r=>match dec g r with
      | some (c,z,_)=>some (decide (i < l.length)&&c,⟨st.L,eO id (.row bR g (l.set i z) cap) st.H⟩)
      | none=>none
     | none=>none
    | _,_=>none
   | _=>none
  | _,_=>none
 | _,_=>none
theorem S3{t e:TypeId} {i:bC} {x y:Operand} {b p:Nat} {cs jx:List Value} {v:Value} {D:List Deferred} {L:List (Nat×Value)} {K:bc->List bc} {ops:Array Oper} {KK:Act->World->Prop} (av:Sym n D L B ai H a w) (aA:o.op=.store t x y) (bb:o.guard=none/\o.dst=none)
  (hi:bC.ok X.P t i) (ah:Go.Proofs.YtldjgdggcodgeaaGreat.aE L x=some (.pointer (some ⟨b,p,none⟩))) (aH:Go.Proofs.YtldjgdggcodgeaaGreat.aE L y=some v) (c6:v.cells.size=i.size) (U:∀ u∈v.cells.toList,u.oneCell'=true) (az:iK H (.gu b cs e) K) (aj:oM cs p v.cells.toList jx)
  (h:∀ aW w',Sym n D L B ai (K (.gu b jx e)) aW w'->KK aW w'):eW X.P ops o KK a w:=by
 obtain⟨ag,ay⟩:=aj.eq;have ad:v.cells.toList.length=v.cells.size:=by simp
 have dW:=RL (w:=w) (v:=v) (p:=p) hi (Eg av.aU az) c6 U (by omega);refine J7 av bb (w':=_) (by simp[execOp,aA,av.aE ah,av.aE aH,Instr.storeAt,Instr.sureAddr,dW]; rfl) (H':=K (.gu b jx e)) ?_ h;refine av.aU.Kf az ⟨rfl,rfl,rfl,by simp⟩ ?_ fun k ab=>setRow_other w b k _ ab
 rw[setRow_heap w b cs.toArray _ e _ (Eg av.aU az),ag,ad];simp only[List.append_assoc]
theorem AV{t e:TypeId} {i:bC} {x y:Operand} {g j c m size:Nat} {xs:List Value} {v:Value} {D:List Deferred} {L:List (Nat×Value)} {K:bc->List bc} {ops:Array Oper} {KK:Act->World->Prop} (av:Sym n D L B ai H a w) (aA:o.op=.store t x y) (bb:o.guard=none/\o.dst=none)
  (hi:bC.ok X.P t i) (ah:Go.Proofs.YtldjgdggcodgeaaGreat.aE L x=some (.pointer (some ⟨g,j,none⟩))) (aH:Go.Proofs.YtldjgdggcodgeaaGreat.aE L y=some v) (c6:v.cells.size=i.size) (U:∀ u∈v.cells.toList,u.oneCell'=true) (az:iK H (.row (some ⟨g,0,none⟩) c e size m xs) K) (aF:j+v.cells.toList.length<=m * size)
  (h:∀ aW w',Sym n D L B ai (K (.row (some ⟨g,0,none⟩) c e size m (xs.take j++v.cells.toList++xs.drop (j+v.cells.toList.length)))) aW w'->KK aW w'):eW X.P ops o KK a w:=by
 have e7:ey w B e size (some ⟨g,0,none⟩) c m xs:=av.aU.ok _ az.mem;have kx:=e7.1
 generalize AW:v.cells.toList=vs at U aF h
 have hk:vs.length=i.size:=by rw[<- AW]; simpa using c6
 rcases e7.2 with⟨h0,_⟩ | ⟨cr,cur,de,al,oJ,aV,je,nR,h1,fZ,oK⟩
 ·cases h0
 ·have:g=cr:=by injection al with al; injection al
  subst this;have sx:m * size<=cur.size:=by rw[fZ]; exact Nat.mul_le_mul_right _ nR
  have S4:j+vs.length<=cur.size:=Nat.le_trans aF sx;have di:=run_storeCells_cells (P:=X.P) g j vs 0 w (fun q ao=>by
    simp only[World.cell?,aV]
    simp; omega) (fun q ao=>by
    simp only[World.frozen?,aV]
    rcases je with h | h
    ·simp; omega
    ·simp; omega) U
  simp only[Nat.add_zero]at di;rw[xd g e de vs j w cur aV S4]at di;have dW:(storeVar t ⟨g,j,none⟩ v).run X.P w=.ok () (w.setRow g (cur.toList.take j++vs++cur.toList.drop (j+vs.length)).toArray):=by
   unfold storeVar
   simp[bC.run_sizeOf hi,c6]
   rw[AW];rw[List.append_assoc]at di;exact di
  refine J7 av bb (w':=w.setRow g (cur.toList.take j++vs++cur.toList.drop (j+vs.length)).toArray) (by simp only[execOp,aA,av.aE ah,av.aE aH,Instr.storeAt,Instr.sureAddr,Sem.run_bind,Sem.run_pure,Result.andThen_ok,dW]) ?_ h;refine av.aU.sg az ⟨rfl,rfl,rfl,by simp,fun q ao=>setRow_other w g q _ (fun cu=>by subst cu; exact oJ ao)⟩ (c':=.row (some ⟨g,0,none⟩) c e size m (xs.take j++vs++xs.drop (j+vs.length))) ?_ (fun q ao=>.inl ao) fun q _ ao=>setRow_other w g q _ (fun cu=>ao (by subst cu; rfl))
  have hlen:(cur.toList.take j++vs++cur.toList.drop (j+vs.length)).length=cur.size:=by simp; omega
  refine⟨by simp; omega,.inr ⟨g,_,de,rfl,oJ,setRow_heap w g cur _ e _ aV,?_,nR,h1,?_,?_⟩⟩
  ·rcases je with h | h
   ·exact .inl h
   ·exact .inr (by rw[List.size_toArray,hlen]; exact h)
  ·rw[List.size_toArray,hlen]; exact fZ
  ·show(cur.toList.take j++vs++cur.toList.drop (j+vs.length)).take (m * size)=_
   rw[<- oK,List.take_take,Nat.min_eq_left (by omega),List.take_append,List.take_of_length_le (by simp; omega),List.drop_take]
   congr 2
   simp; omega
theorem S5(av:X.a7.ok X.P) {x y:Operand} {t:TypeId} {g cr c:Bool} {fx eZ:bh} {st':aM} (aA:o.op=.store t x y) (dx:o.guard=none) (dU:o.dst=none) (ah:bw X st.L x=some (g,fx)) (aV:g=true) (aH:bw X st.L y=some (cr,eZ)) (fL:cr=true)
  (ae:xv X st t fx eZ=some (c,st')) (aa:c=true):sw X n st o st':=by
 intro R W aD ks env B ai H a w ops KK h bZ;obtain⟨vx,hl,lp⟩:=h.aE ah aV;obtain⟨vy,fN,ky⟩:=h.aE aH fL;unfold xv at ae
 split at ae
 ·rename_i bp dv pP
  have hi:=(cj.get av dv).bs;have fZ:cC env B ai eZ.cells vy.cells.toList:=ky.cells fun c e=>by
   subst e;simp only[bh.cells,ni,Bool.and_true]at pP;exact dy.one pP ky
  have iL:=fZ.jB pP;have hlen:=fZ.length
  split at ae
  ·rename_i id p c6
   split at ae
   ·rename_i bR cs b8
    split at ae
    ·rename_i r an
     cases ae;obtain⟨b,he,rfl⟩:=lp;obtain⟨dz,K,⟨b',vs,cV,rfl,S6⟩,az,gN⟩:=h.mK (b':=.cells bR r) b8;rw[he]at cV;cases cV;obtain⟨rs,J,U⟩:=xt S6 fZ an;refine S3 h.sym aA ⟨dx,dU⟩ hi hl fN (by rw[<- Nat.eq_of_beq_eq_true c6,<- hlen]; simp) iL az J fun aW w' ck=>?_
     obtain⟨H',ag⟩:=gN _ aW w' ⟨b,rs,he,rfl,U⟩ ck.aU ck.st;exact bZ _ _ _ _ ⟨fun h=>(by rw[aA]at h; cases h),fun h=>(by rw[aA]at h; cases h),fun h=>(by rw[aA]at h; cases h)⟩ ag
    ·cases ae
   ·cases ae
  ·rename_i id cP i p c6
   split at ae
   ·rename_i bR g l cap b8
    split at ae
    ·rename_i cs S7 hcells
     split at ae
     ·rename_i r an
      split at ae
      ·rename_i c' z rr ax
       cases ae;simp only[Bool.and_eq_true,decide_eq_true_eq]at aa;obtain⟨aL,e3⟩:=aa;obtain⟨b,cc,m,he,rfl⟩:=lp;have S8:=Nat.eq_of_beq_eq_true S7;subst S8;obtain⟨dz,K,⟨A,k,xs,cV,rfl,cS,fq⟩,az,gN⟩:=h.mK (b':=.row bR g (l.set i z) cap) b8;rw[he]at cV;cases cV;have KU:l[i]?=some (l.getD i g.zero):=by rw[List.getD_eq_getElem?_getD,List.getElem?_eq_getElem aL]; rfl
       have S9:=Flat.get (fun _ _=>bP.length) cS KU;obtain⟨us,⟨ahf,Ta⟩,Tb⟩:=bP.cells (env:=env) S9 hcells;have ahg:=bP.ln cS;have hmul:(i+1) * g.size<=l.length * g.size:=Nat.mul_le_mul_right _ aL;rw[Nat.add_mul,Nat.one_mul]at hmul;have Tc:us=(xs.drop (i * g.size)).take g.size:=by
        apply List.ext_getElem?
        intro j
        by_cases aF:j < us.length
        ·have:=Ta j us[j] (List.getElem?_eq_getElem aF)
         rw[Nat.zero_add]at this;rw[this,List.getElem?_eq_getElem aF]
        ·rw[List.getElem?_eq_none (by omega),List.getElem?_eq_none (by simp; omega)]
       obtain⟨rs,J,U⟩:=xt Tb fZ an;obtain⟨v1,v2,ER,ag,ay⟩:=oS U ax e3;obtain⟨aO,aK⟩:=J.eq;have kU:=bP.length ag;have iO:rs.length=g.size:=by rw[aO]; simp only[List.length_append,List.length_take,List.length_drop]; omega
       have iz:v2=[]:=by
        have:=congrArg List.length ER
        rw[List.length_append]at this;exact List.eq_nil_of_length_eq_zero (by omega)
       rw[iz,List.append_nil]at ER;subst ER;have xw:=Flat.set (fun _ _=>bP.length) cS aL ag;refine AV h.sym aA ⟨dx,dU⟩ hi hl fN (by rw[<- Nat.eq_of_beq_eq_true c6,<- hlen]; simp) iL az (by omega) fun aW w' ck=>?_
       have KV:(l.set i z).length=l.length:=by simp
       obtain⟨H',bY⟩:=gN _ aW w' ⟨some ⟨b,0,none⟩,cc,_,by rw[KV]; exact he,by rw[KV],xw,fq⟩ (by
        have e:xs.take (i * g.size+p)++vy.cells.toList++xs.drop (i * g.size+p+vy.cells.toList.length)=xs.take (i * g.size)++rs++xs.drop (i * g.size+g.size):=by
         have aC:xs.drop (i * g.size+g.size)=(xs.drop (i * g.size+(p+vy.cells.toList.length))).drop (g.size - (p+vy.cells.toList.length)):=by rw[List.drop_drop]; congr 1; omega
         have a1:xs.drop (i * g.size+p+vy.cells.toList.length)=xs.drop (i * g.size+(p+vy.cells.toList.length)):=by rw[Nat.add_assoc]
         rw[aO,Tc,List.take_take,Nat.min_eq_left (by omega),List.drop_take,List.drop_drop,List.take_add,aC,a1];simp only[List.append_assoc];rw[List.take_append_drop]
        rw[e]at ck;exact ck.aU) ck.st
       exact bZ _ _ _ _ ⟨fun h=>(by rw[aA]at h; cases h),fun h=>(by rw[aA]at h; cases h),fun h=>(by rw[aA]at h; cases h)⟩ bY
      ·cases ae
     ·cases ae
    ·cases ae
   ·cases ae
  ·cases ae
 ·cases ae
end
end

section
section
variable {env env':Nat->Loc} {B:Nat->Prop} {w:World}
theorem bP.jB:∀ {g:ba} {x:g.D} {vs:List Value},bP B w g x vs->∀ u∈vs,u.oneCell'=true
 | .int _,_,_,h,u,hu=>by rw[show _=[_] from h]at hu; simp at hu; subst hu; rfl
 | .bool,_,_,h,u,hu=>by rw[show _=[_] from h]at hu; simp at hu; subst hu; rfl
 | .str,_,_,h,u,hu=>by rw[show _=[_] from h]at hu; simp at hu; subst hu; rfl
 | .ak _,_,_,⟨_,_,_,h,_⟩,u,hu=>by rw[h]at hu; simp at hu; subst hu; rfl
 | .gM _,_,_,⟨_,_,h,_⟩,u,hu=>by rw[h]at hu; simp at hu; subst hu; rfl
 | .unit,_,_,h,u,hu=>by rw[show _=[] from h]at hu; cases hu
 | .pair _ _,_,_,⟨v1,v2,e,J,U⟩,u,hu=>by
  rw[e]at hu
  rcases List.mem_append.1 hu with hu | hu
  ·exact bP.jB J u hu
  ·exact bP.jB U u hu
theorem Flat.jB{α:Type} {R:α->List Value->Prop} (dO:∀ x vs,R x vs->∀ u∈vs,u.oneCell'=true):∀ {l:List α} {vs:List Value},Flat R l vs->∀ u∈vs,u.oneCell'=true
 | [],_,h,u,hu=>by rw[show _=[] from h]at hu; cases hu
 | _ :: _,_,⟨v1,v2,e,J,U⟩,u,hu=>by
  rw[e]at hu
  rcases List.mem_append.1 hu with hu | hu
  ·exact dO _ _ J u hu
  ·exact Flat.jB dO U u hu
theorem bP.eh:∀ g:ba,bP B w g g.zero g.eh
 | .int _=>rfl
 | .bool=>rfl
 | .str=>rfl
 | .ak _=>⟨none,0,[],rfl,Nat.le_refl _,Nat.zero_le _,rfl,Reads.nil _ _ _,fun _ _ h=>absurd h (Nat.lt_irrefl 0)⟩
 | .gM _=>⟨none,[],rfl,Nat.zero_le _,rfl,Reads.nil _ _ _,fun _ _ h=>absurd h (Nat.lt_irrefl 0)⟩
 | .unit=>rfl
 | .pair g h=>⟨_,_,rfl,bP.eh g,bP.eh h⟩
theorem Flat.eh(g:ba):∀ k:Nat,Flat (bP B w g) (List.replicate k g.zero) (eh g.eh k)
 | 0=>rfl
 | k+1=>⟨g.eh,_,rfl,bP.eh g,Flat.eh g k⟩
theorem bt.take{id:Nat}:∀ {l:bE} {H:List bc} {b:cA},bt env B w l H->aZ l id=some b ->
  ∃ c Y Z,ej env B w id b c/\H=Y++c :: Z/\∀ (env':Nat->Loc) (z:bg),(∀ j,j≠id->env' j=env j)->(∀ v,dy env B w (.ak id) v->dy env' B w z v)->∃ H2,H2.Sublist (Y++Z)/\bt env' B w (dG id z l) H2/\((∀ b,env id≠.blk b)->∀ c∈Y++Z,iw c=true->c∈H2)
 | [],_,_,_,h=>by cases h
 | (k,b') :: l,H,b,⟨c,H',e,J,U⟩,h=>by
  rw[cn]at h;subst e
  split at h
  ·rename_i e
   subst e;cases h;refine⟨c,[],H',J,rfl,fun env' z he bk=>?_⟩;have EP:∃ H2,H2.Sublist H'/\bt env' B w (dG id z l) H2/\((∀ b,env id≠.blk b)->∀ c∈H',iw c=true->c∈H2):=by
    by_cases ae:∀ b,env id≠.blk b
    ·obtain⟨H2,ag,ay,aO⟩:=bt.Er he bk U (fun b c _ oT=>oT.nf fun t cs e=>by
      subst e;obtain⟨b',_,e,_⟩:=oT;exact ae _ e)
     exact⟨H2,ag,ay,fun _=>aO⟩
    ·obtain⟨H2,ag,ay⟩:=bt.del he bk U
     exact⟨H2,ag,ay,fun h=>absurd h ae⟩
   obtain⟨H2,ag,ay,aO⟩:=EP;refine⟨H2,ag,?_,aO⟩;unfold dG;rw[Nat.beq_refl];exact ay
  ·rename_i e
   obtain⟨c',Y,Z,ag,ay,aO⟩:=bt.take U h;have ab:Nat.beq k id=false:=by
    cases ae:Nat.beq k id with
    | false=>rfl
    | true=>exact absurd (Nat.eq_of_beq_eq_true ae).symm e
   refine⟨c',c :: Y,Z,ag,by rw[ay]; rfl,fun env' z he bk=>?_⟩;obtain⟨H2,aK,bY,c3⟩:=aO env' z he bk;refine⟨c :: H2,aK.cons_cons _,?_,fun ae c' e3 jz=>?_⟩
   ·unfold dG
    rw[ab];exact⟨c,H2,rfl,J.sub he bk (Nat.ne_of_beq_eq_false ab),bY⟩
   ·rw[List.cons_append]at e3
    rcases List.mem_cons.1 e3 with rfl | e3
    ·exact List.mem_cons_self ..
    ·exact List.mem_cons_of_mem _ (c3 ae c' e3 jz)
end
section
variable {X:bq} {R:Nat->Prop} {W:World} {aD:eT} {n:Nat} {ks:List Nat} {env:Nat->Loc} {B:Nat->Prop} {ai:World} {H:List bc} {st:aM} {a aW:Act} {w w':World} {o:Oper} {d:Nat}
theorem bI.ES(h:bI X R W aD n ks env B ai H st a w) {id:Nat} {b b':cA} (b8:aZ st.H id=some b) (bX:∀ q,¬ aD.p id q):∃ c K,ej env B ai id b c/\iK (H++ks.map dC) c K /\
  ∀ (l:Loc) c' aW w' sv v,ej (h8 env id l) B ai id b' c'->ei (h8 env id l) B ai sv v->bK (fun k=>R k\/B k) ai (K c') w'->c2 n (jR ks aD) ((d,v) :: gn a) aW ->
   ∃ H',((∀ b,env id≠.blk b)->∀ c'∈H,iw c'=true->c'≠c->c'∈H')/\bI X R W aD n ks (h8 env id l) B ai H' ⟨(d,sv) :: fe id .dead st.L,(id,b') :: dG id .dead st.H⟩ aW w':=by
 obtain⟨c,Y,Z,J,U,ag⟩:=h.heap.take b8;refine⟨c,fun z=>Y++z :: (Z++ks.map dC),J,⟨Y,Z++ks.map dC,by rw[U]; simp,rfl⟩,fun l c' aW w' sv v ae aw aj aJ=>?_⟩;obtain⟨H2,ay,aO,hB⟩:=ag (h8 env id l) .dead h4 (fun _ _=>trivial);refine⟨c' :: H2,fun ae q ao jz cG=>List.mem_cons_of_mem _ (hB ae q (by
  rw[U]at ao
  rcases List.mem_append.1 ao with ao | ao
  ·exact List.mem_append_left _ ao
  ·rcases List.mem_cons.1 ao with e | ao
   ·exact absurd e cG
   ·exact List.mem_append_right _ ao) jz),aJ.size,aJ.defs,fun s u hu=>?_,⟨c',H2,rfl,ae,aO⟩,?_,h.sub,h.new,nY h.dt bX,h.base,h.dX⟩
 ·rw[cn]at hu
  split at hu
  ·rename_i e; subst e; cases hu; exact⟨v,aJ.this,aw⟩
  ·rename_i e
   obtain⟨hz,hA,rfl⟩:=lK hu;obtain⟨eF,aK,bY⟩:=h.has s hz hA;exact⟨eF,aJ.other e aK,ei.sub (z:=.dead) h4 (fun _ _=>trivial) bY⟩
 ·have an:(Y++c' :: (Z++ks.map dC)).Perm (c' :: (Y++Z++ks.map dC)):=by
   rw[List.append_assoc];exact List.perm_middle
  exact(aj.perm an).en ((ay.append_right _).cons_cons _)
def xx(X:bq) (L:cQ) (size:Nat):List (Nat×Operand)->Nat->Option (Bool×List bg)
 | [],_=>some (true,[])
 | (j,u) :: r,k=>match Nat.beq j k,bw X L u,xx X L size r (k+1)with
  | true,some (g,x),some (c,l)=>match Nat.beq x.cells.length size,ni x.cells with
   | true,true=>some (g&&c,x.cells++l)
   | _,_=>none
  | _,_,_=>none
def xy(g:ba):Nat->List bg->Option (Bool×List g.D)
 | 0,_=>some (true,[])
 | k+1,cs=>match dec g cs with
  | some (c,x,r)=>match xy g k r with
   | some (c',l)=>some (c&&c',x :: l)
   | none=>none
  | none=>none
def newRow(n:Nat) (st:aM) (d:Nat) (t:TypeId) (g:ba) (l:List g.D) (cap:Option Nat):Option aM:=
 match Nat.blt d n with
 | true=>some ⟨(d,.c (.ak d)) :: fe d .dead st.L,(d,.row t g l cap) :: dG d .dead st.H⟩
 | false=>none
def xz(X:bq) (n:Nat) (st:aM) (t:TypeId) (N:Nat) (ps:List (Nat×Operand)) (d:Nat):Option (Bool×aM):=
 match X.a7.find t with
 | some ⟨⟨.slice e,_,_,_⟩,_⟩=>match X.a7.find e with
  | some ⟨bp,some g⟩=>match Nat.ble (N * bp.size) 16777216,Nat.beq ps.length N,xx X st.L bp.size ps 0 with
   | true,true,some (c,cs)=>match xy g N cs with
    | some (c',l)=>match newRow n st d e g l (some N)with
     | some st'=>some (c&&c',st')
     | none=>none
    | none=>none
   | _,_,_=>none
  | _=>none
 | _=>none
theorem ET{env:Nat->Loc} {B:Nat->Prop} {w:World} {g:ba}:∀ {k:Nat} {cs:List bg} {c:Bool} {l:List g.D} {vs:List Value},cC env B w cs vs->xy g k cs=some (c,l)->c=true->l.length=k/\∃ v1 v2,vs=v1++v2/\Flat (bP B w g) l v1
 | 0,cs,c,l,vs,_,ax,_=>by cases ax; exact⟨rfl,[],vs,rfl,rfl⟩
 | k+1,cs,c,l,vs,h,ax,aa=>by
  simp only[xy]at ax
  split at ax
  ·rename_i ft x r J
   split at ax
   ·rename_i cR ct U
    cases ax;simp only[Bool.and_eq_true]at aa;obtain⟨v1,v2,rfl,ag,ay⟩:=oS h J aa.1;obtain⟨aO,v3,v4,rfl,aK⟩:=ET ay U aa.2;exact⟨by rw[List.length_cons,aO],v1++v3,v4,by rw[List.append_assoc],v1,v3,rfl,ag,aK⟩
   ·cases ax
  ·cases ax
theorem cC.append{env:Nat->Loc} {B:Nat->Prop} {w:World}:∀ {cs aI:List bg} {vs us:List Value},cC env B w cs vs->cC env B w aI us->cC env B w (cs++aI) (vs++us)
 | [],_,_,_,h,a8=>by rw[show _=[] from h]; exact a8
 | _ :: _,_,_,_,⟨v,r,e,J,U⟩,a8=>⟨v,_,by rw[e]; rfl,J,cC.append U a8⟩
theorem EU(h:bI X R W aD n ks env B ai H st a w) {size:Nat}:∀ {ps:List (Nat×Operand)} {k:Nat} {c:Bool} {cs:List bg},xx X st.L size ps k=some (c,cs)->c=true ->
  ∃ vs:List Value,(ps.map fun p=>(p.1,a.eval p.2))=(vs.zipIdx k).map (fun p=>(p.2,p.1))/\(∀ v∈vs,v.cells.size=size)/\cC env B ai cs (vs.flatMap fun v=>v.cells.toList)
 | [],k,c,cs,an,_=>by cases an; exact⟨[],rfl,(fun _ h=>by cases h),rfl⟩
 | (j,u) :: ps,k,c,cs,an,aa=>by
  simp only[xx]at an
  split at an
  ·rename_i g x c' l aF hu au
   split at an
   ·rename_i c6 pP
    cases an;simp only[Bool.and_eq_true]at aa;obtain⟨v,J,U⟩:=h.aE hu aa.1;have fZ:cC env B ai x.cells v.cells.toList:=U.cells fun c e=>by
     subst e;simp only[bh.cells,ni,Bool.and_true]at pP;exact dy.one pP U
    obtain⟨vs,ag,ay,aO⟩:=EU h au aa.2;refine⟨v :: vs,?_,fun u hu=>?_,?_⟩
    ·rw[List.map_cons,ag,List.zipIdx_cons,List.map_cons,h.cb.aE J,Nat.eq_of_beq_eq_true aF]
    ·rcases List.mem_cons.1 hu with rfl | hu
     ·rw[<- Nat.eq_of_beq_eq_true c6,<- fZ.length]; simp
     ·exact ay u hu
    ·rw[List.flatMap_cons]
     exact fZ.append aO
   ·cases an
  ·cases an
theorem KW(size:Nat):∀ (vs:List Value) (k:Nat) (done iP:List Value),(∀ v∈vs,v.cells.size=size)->done.length=k * size->iP.length=vs.length * size ->
  Instr.fill (fun i=>some (i * size,size)) (done++iP).toArray ((vs.zipIdx k).map fun p=>(p.2,p.1))=some (done++vs.flatMap fun v=>v.cells.toList).toArray
 | [],k,done,iP,_,_,ad=>by
  have:iP=[]:=List.eq_nil_of_length_eq_zero (by simpa using ad)
  subst this; simp[Instr.fill]
 | v :: vs,k,done,iP,aw,ax,ad=>by
  have nj:=aw v (by simp);have EV:v.cells.toList.length=size:=by simpa using nj
  have bk:size<=iP.length:=by rw[ad,List.length_cons,Nat.add_mul]; omega
  have bJ:=KW size vs (k+1) (done++v.cells.toList) (iP.drop size) (fun u hu=>aw u (List.mem_cons_of_mem _ hu)) (by rw[List.length_append,ax,EV,Nat.add_mul]; omega) (by rw[List.length_drop,ad,List.length_cons,Nat.add_mul]; omega);have an:=Eo v.cells.toList (done++iP) (k * size) 0 (by rw[List.length_append,ax,EV]; omega);simp only[List.zipIdx_cons,List.map_cons,Instr.fill];rw[if_neg (by simp[nj,ax]; omega)];rw[<- Array.foldl_toList];simp only[Array.toList_zipIdx];simp only[Nat.add_zero]at an;rw[an,<- ax,List.take_left,EV];have a1:(done++iP).drop (done.length+size)=iP.drop size:=by rw[List.drop_append]; simp
  rw[a1]
  simpa using bJ
theorem range_zero(z:List Value) (k:Nat) (size:Nat) (aj:z.length=size) (h0:0 < size):(Array.range (k * size)).map (fun j=>z.toArray[j % z.toArray.size]!)=(eh z k).toArray:=by
 subst aj; exact Kl z h0 k
theorem KX{P:Program} {t e:TypeId} {i:bC} {N:Nat} {vs:List Value} {z:List Value} {w:World} (aY:P.underlying t=some (.slice e)) (hi:bC.ok P e i) (bk:i.zero.cells.toList=z) (AX:z.length=i.size) (h0:0 < i.size) (aT:vs.length=N) (hle:N * i.size<=16777216) (aw:∀ v∈vs,v.cells.size=i.size) :
  (Instr.buildSlice t N ((vs.zipIdx.map fun p=>(p.2,p.1)).toArray)).run P w=.ok (.slice (some ⟨w.heap.size,0,none⟩) N N) (w.alloc (.cells (vs.flatMap fun v=>v.cells.toList).toArray e)):=by
 have uD:=KW i.size vs 0 [] (eh z N) aw (by simp) (by rw[xf,AX,aT]);simp only[List.nil_append]at uD;have so:=range_zero z N i.size AX h0;have nW:i.zero.cells=z.toArray:=by rw[<- bk]
 unfold Instr.buildSlice;simp only[Sem.run_bind,run_underlying aY,Result.andThen_ok,bC.run_sizeOf hi];rw[if_neg (by omega)]
 by_cases cG:N * i.size=0
 ·have Td:N=0:=by
   rcases Nat.mul_eq_zero.1 cG with h | h
   ·exact h
   ·omega
  subst Td
  have:vs=[]:=List.eq_nil_of_length_eq_zero aT
  subst this;have ez:(Array.range 0)=#[]:=rfl
  simp[Instr.fill,newObj,Sem.run,Go.newRow,ez]
 ·simp only[cG,if_false,Sem.run_bind,bC.sf hi,Result.andThen_ok,Sem.run_pure,nW]
  rw[so]
  simp[uD,Go.newRow,newObj,Sem.run]
theorem Te(av:X.a7.ok X.P) {t:TypeId} {N:Nat} {ps:Array (Nat×Operand)} {c:Bool} {st':aM} (aA:o.op=.buildSlice t N ps) (dx:o.guard=none) (dU:o.dst=some d) (ae:xz X n st t N ps.toList d=some (c,st')) (aa:c=true):sw X n st o st':=by
 intro R W aD ks env B ai H a w ops KK h bZ;unfold xz at ae
 split at ae
 ·rename_i e s1 s2 xA s4 az
  split at ae
  ·rename_i bp g dv
   split at ae
   ·rename_i ft cs hle gH hpc
    split at ae
    ·rename_i cR l hdn
     split at ae
     ·rename_i eG kb
      cases ae;simp only[Bool.and_eq_true]at aa;unfold Go.Proofs.YtldjgdggcodgeaaGreat.newRow at kb
      split at kb
      ·rename_i ax
       cases kb;obtain⟨dw,dP,iQ⟩:=(cj.get av dv).g g rfl;have me:=(cj.get av dv).bs;dsimp only at dw dP me;obtain⟨vs,J,U,ag⟩:=EU h hpc aa.1;obtain⟨ay,v1,v2,aO,aK⟩:=ET ag hdn aa.2;have nj:vs.length=N:=by
        have:=congrArg List.length J
        simp only[List.length_map,List.length_zipIdx]at this;rw[<- this];exact Nat.eq_of_beq_eq_true gH
       have sy:(vs.flatMap fun v=>v.cells.toList).length=N * bp.size:=by
        rw[<- nj]
        clear J ag aO nj
        induction vs with
        | nil=>simp
        | cons v vs bJ=>rw[List.flatMap_cons,List.length_append,bJ (fun u hu=>U u (List.mem_cons_of_mem _ hu)),List.length_cons,Nat.add_mul,Nat.one_mul,Array.length_toList,U v (by simp),Nat.add_comm]
       have iz:v2=[]:=by
        have aC:=congrArg List.length aO;rw[List.length_append,bP.ln aK,ay,sy,dw]at aC;exact List.eq_nil_of_length_eq_zero (by omega)
       subst iz;rw[List.append_nil]at aO;have dW:=KX (w:=w) (N:=N) (vs:=vs) (cj.get av az).bs.1 me (z:=g.eh) dP (by rw[<- bP.length (bP.eh (B:=B) (w:=ai) g)]at dw; exact dw) (by rw[<- dw]; exact iQ) nj (Nat.le_of_ble_eq_true hle) U;have kz:ps.map (fun p=>(p.1,a.eval p.2))=((vs.zipIdx.map fun p=>(p.2,p.1)).toArray):=by
        rw[<- J,<- List.map_toArray]
       refine hv h.cb dx dU (dK ax) (v:=.slice (some ⟨w.heap.size,0,none⟩) N N) (w':=w.alloc (.cells (vs.flatMap fun v=>v.cells.toList).toArray e)) (by
        simp only[execOp,aA];rw[kz]
        simp[dW]) fun aW aJ=>?_
       have bX:=bK.En (size:=g.size) (m:=N) (h.aU.AA (vs.flatMap fun v=>v.cells.toList) e) (by rw[sy,dw]) (by
        have:=Nat.le_of_ble_eq_true hle
        have bY:N<=N * bp.size:=Nat.le_mul_of_pos_right _ (by rw[<- dw]; exact iQ);omega)
       obtain⟨H',kT,c3⟩:=h.nZ (d:=d) ax (l:=.row (some ⟨w.heap.size,0,none⟩) N l.length) (blk:=.row e g l (some N)) (sv:=.c (.ak d)) bX ⟨_,_,_,e8,by rw[ay],by rw[aO]; exact aK,fun q ao=>by cases ao; rfl⟩ ⟨_,_,_,e8,by rw[ay]⟩ aJ;exact bZ _ _ _ _ ⟨fun _=>(Below.refl _ _).alloc (Nat.le_refl _) _,fun _ a6=>kT.1 (by simpa [oR,dU] using a6),fun _ a6=>kT.2 (by simpa [q2,dU] using a6)⟩ c3
      ·cases kb
     ·cases ae
    ·cases ae
   ·cases ae
  ·cases ae
 ·cases ae
theorem KY{P:Program} {B:Nat->Prop} {ai w:World} {H:List bc} {t e:TypeId} {i':bC} {z:List Value} {m c:Nat} {k k':IntKind} (ec:bK B ai H w) (aC:P.underlying t=some (.slice e)) (cq:bC.ok P e i') (ay:i'.zero.cells=z.toArray) (aO:z.length=i'.size) (c6:0 < i'.size)
  (Tf:m<=c) (ae:i'.bytes * c<=140737488355328) (aa:c<=140737488355328) :
  (Instr.makeSlice t (.int k (m:Int)) (.int k' (c:Int))).run P w=.ok (.slice (some ⟨w.heap.size,0,none⟩) m c) (w.alloc (.cells (eh z c).toArray e))/\bK B ai (.row (some ⟨w.heap.size,0,none⟩) c e i'.size m (eh z m) :: H) (w.alloc (.cells (eh z c).toArray e)):=by
 obtain⟨inf,oI,fu,hx,lH⟩:=bC.info cq;have eX:(inf.bytes:Int) * (c:Int)<=281474976710656:=by
  have:((inf.bytes * c:Nat):Int)<=140737488355328:=by rw[hx]; omega
  rw[Int.natCast_mul]at this;omega
 constructor
 ·have au:=run_make (P:=P) w t e inf i'.zero aC oI lH k k' m c (by omega) (by omega) eX (by omega)
  simp only[Int.toNat_natCast]at au;rw[au];have bk:madeCells i'.zero.cells (c * inf.size)=(eh z c).toArray:=by
   rw[fu,ay,<- aO];unfold madeCells;exact Kl z (by omega) c
  rw[bk]
 ·have aS:=ec.alloc (.cells (eh z c).toArray e)
  have an:=List.pairwise_cons.1 aS.apart;refine⟨aS.below,aS.base,fun dz kN=>?_,List.Pairwise.cons (fun dz kN b cu=>an.1 dz kN b (by simpa [bc.has] using cu)) an.2⟩
  rcases List.mem_cons.1 kN with rfl | kN
  ·refine⟨by rw[xf,aO],.inr ⟨w.heap.size,_,(0,0),rfl,ec.fresh,heap_alloc_new w _,.inl rfl,Tf,by unfold maxLen; omega,by simp[xf,aO],?_⟩⟩
   have:eh z c=eh z m++eh z (c - m):=by
    unfold eh;rw[<- List.flatten_append,List.replicate_append_replicate]
    congr 2
    omega
   show(eh z c).take _=_;rw[this,List.take_left' (by rw[xf,aO])]
  ·exact aS.ok dz (List.mem_cons_of_mem _ kN)
def uF:Option ba->ba->ba
 | some (.ak (.gM h)),.ak _=>.gM h
 | _,g=>g
theorem Tg(pH:Option ba) (g:ba):(uF pH g).size=g.size/\(uF pH g).eh=g.eh:=by
 unfold uF
 split<;>exact⟨rfl,rfl⟩
def xB(X:bq) (n:Nat) (st:aM) (t:TypeId) (x y:bh) (d:Nat):Option (Bool×aM):=
 match X.a7.find t with
 | some ⟨⟨.slice e,_,_,_⟩,pH⟩=>match X.a7.find e with
  | some ⟨⟨_,_,gW,_⟩,some g⟩=>match x,y with
   | .c (.val (.int _ hT)),.c (.val (.int _ hn))=>match newRow n st d e (uF pH g) (List.replicate hT.toNat (uF pH g).zero) (some hn.toNat)with
    | some st'=>some (decide (0<=hT)&&decide (hT<=hn)&&eo gW hn,st')
    | none=>none
   | _,_=>none
  | _=>none
 | _=>none
theorem Th(av:X.a7.ok X.P) {t:TypeId} {x y:Operand} {g cr c:Bool} {fx eZ:bh} {st':aM} (aA:o.op=.makeSlice t x y) (dx:o.guard=none) (dU:o.dst=some d) (ah:bw X st.L x=some (g,fx)) (aV:g=true) (aH:bw X st.L y=some (cr,eZ)) (fL:cr=true)
  (ae:xB X n st t fx eZ d=some (c,st')) (aa:c=true):sw X n st o st':=by
 intro R W aD ks env B ai H a w ops KK h bZ;obtain⟨vx,hl,lp⟩:=h.aE ah aV;obtain⟨vy,fN,ky⟩:=h.aE aH fL;unfold xB at ae
 split at ae
 ·rename_i e s1 s2 xA s4 az
  split at ae
  ·rename_i aI cP gW kA g dv
   split at ae
   ·rename_i k hT k' hn
    split at ae
    ·rename_i eG kb
     cases ae;simp only[Bool.and_eq_true,decide_eq_true_eq]at aa;obtain⟨⟨pM,so⟩,nW⟩:=aa;obtain⟨nW,Ti⟩:=(kP (by omega)).1 nW;unfold Go.Proofs.YtldjgdggcodgeaaGreat.newRow at kb
     split at kb
     ·rename_i ax
      cases kb;rw[show vx=_ from lp]at hl;rw[show vy=_ from ky]at fN;obtain⟨dw,dP,iQ⟩:=(cj.get av dv).g g rfl;obtain⟨T,ca,J,ay⟩:=mH (cj.get av az).bs (cj.get av dv).bs;dsimp only at dw dP ay;obtain⟨jk,e0⟩:=Tg s4 g;rw[<- jk]at dw iQ;rw[<- e0]at dP
      clear jk e0
      generalize uF s4 g=g at dw dP iQ bZ ⊢
      have AX:g.eh.length=cP:=by rw[<- dw]; exact bP.length (bP.eh (B:=B) (w:=ai) g)
      obtain⟨dW,bX⟩:=KY (i':=⟨aI,cP,gW,kA⟩) h.aU (cj.get av az).bs.1 (cj.get av dv).bs (z:=g.eh) (by rw[<- dP]) AX (by rw[<- dw]; exact iQ) (k:=k) (k':=k') (m:=hT.toNat) (c:=hn.toNat) (by omega) (by
       have:((gW * hn.toNat:Nat):Int)=(gW:Int) * hn:=by rw[Int.natCast_mul,Int.toNat_of_nonneg (by omega)]
       show gW * hn.toNat<=_;omega) (by omega)
      rw[Int.toNat_of_nonneg pM,Int.toNat_of_nonneg (by omega)]at dW;refine hv h.cb dx dU (dK ax) (v:=.slice (some ⟨w.heap.size,0,none⟩) hT.toNat hn.toNat) (w':=w.alloc (.cells (eh g.eh hn.toNat).toArray e)) (by simp[execOp,aA,h.cb.aE hl,h.cb.aE fN,dW]) fun aW aJ=>?_
      obtain⟨H',kT,c3⟩:=h.nZ (d:=d) ax (l:=.row (some ⟨w.heap.size,0,none⟩) hn.toNat (List.replicate hT.toNat g.zero).length) (blk:=.row e g (List.replicate hT.toNat g.zero) (some hn.toNat)) (sv:=.c (.ak d)) bX ⟨_,_,_,e8,by rw[List.length_replicate,dw],Flat.eh g _,fun q ao=>by cases ao; rfl⟩ ⟨_,_,_,e8,by rw[List.length_replicate]⟩ aJ;exact bZ _ _ _ _ ⟨fun _=>(Below.refl _ _).alloc (Nat.le_refl _) _,fun _ a6=>kT.1 (by simpa [oR,dU] using a6),fun _ a6=>kT.2 (by simpa [q2,dU] using a6)⟩ c3
     ·cases kb
    ·cases ae
   ·cases ae
  ·cases ae
 ·cases ae
end
end

section
def lQ(st:aM) (g:ba):bh->Option (List g.D)
 | .c (.val (.slice none 0 0))=>some []
 | .c (.bd cr l _)=>match decEq cr g with
  | isTrue h=>some (h ▸ l)
  | isFalse _=>none
 | .c (.ak id)=>match aZ st.H id with
  | some (.row _ cr l _)=>match decEq cr g with
   | isTrue h=>some (h ▸ l)
   | isFalse _=>none
  | _=>none
 | _=>none
def ee(gW k:Nat):Bool:=decide (k * gW<=140737488355328)&&decide (k<=140737488355328)
def xC(X:bq) (n:Nat) (st:aM) (t:TypeId) (x y:bh) (d:Nat):Option (Bool×aM):=
 match X.a7.find t with
 | some ⟨⟨.slice e,_,_,_⟩,_⟩=>match X.a7.find e with
  | some ⟨⟨_,cP,gW,_⟩,some ge⟩=>match x with
   | .c (.ak id)=>match aZ st.H id with
    | some (.row cu g l _)=>match Nat.blt d n&&Nat.blt id h2,Nat.beq cu e,Nat.beq g.size cP,lQ st g y with
     | true,true,true,some ct=>some (ee gW (l.length+ct.length),⟨(d,.c (.ak id)) :: fe id .dead st.L,(id,.row e g (l++ct) none) :: dG id .dead st.H⟩)
     | _,_,_,_=>none
    | _=>none
   | .c (.val (.slice none 0 0))=>match lQ st ge y with
    | some ct=>match newRow n st d e ge ct none with
     | some st'=>some (ee gW ct.length,st')
     | none=>none
    | none=>none
   | .c (.bd g l (some c))=>match Nat.beq g.size cP,lQ st g y with
    | true,some ct=>match newRow n st d e g (l++ct) none with
     | some st'=>some (ee gW (l.length+ct.length)&&decide (c=l.length)&&decide (0 < l.length)&&decide (0 < ct.length),st')
     | none=>none
    | _,_=>none
   | _=>none
  | _=>none
 | _=>none
section
variable {X:bq} {R:Nat->Prop} {W:World} {aD:eT} {n:Nat} {ks:List Nat} {env:Nat->Loc} {B:Nat->Prop} {ai:World} {H:List bc} {st:aM} {a aW:Act} {w w':World} {o:Oper} {d:Nat}
theorem ma.gv{A:Option Addr} {m size:Nat} {xs:List Value} (au:ma B ai A m size xs) (aj:bK (fun k=>R k\/B k) ai H w):Reads w A m size xs:=by
 refine⟨au.1.1,fun hm=>?_⟩;obtain⟨b,p,e,aa⟩:=au.1.2 hm;exact⟨b,p,e,fun j u hu=>AO (au.2 b p hm e) (aa j u hu) aj⟩
theorem q4(h:bI X R W aD n ks env B ai H st a w) {g:ba} {y:bh} {l:List g.D} {v:Value} (aj:lQ st g y=some l) (au:dH env B ai y v):∃ A c xs,v=.slice A l.length c/\Flat (bP B ai g) l xs/\Reads w A l.length g.size xs:=by
 unfold lQ at aj
 split at aj
 ·cases aj
  exact⟨none,0,[],au,rfl,Reads.nil _ _ _⟩
 ·split at aj
  ·rename_i aV _
   subst aV;cases aj;obtain⟨A,c,xs,rfl,_,_,_,cS,hj⟩:=au;exact⟨A,c,xs,rfl,cS,hj.gv h.aU⟩
  ·cases aj
 ·split at aj
  ·rename_i b8
   split at aj
   ·rename_i aV _
    subst aV;cases aj;obtain⟨A,c,m,he,rfl⟩:=au;obtain⟨dz,K,⟨cm,k',xs,cV,rfl,cS,_⟩,fp⟩:=h.heap.gx b8;rw[he]at cV;cases cV;exact⟨A,c,xs,rfl,cS,Reads.AI h.aU fp.more.mem⟩
   ·cases aj
  ·cases aj
 ·cases aj
theorem Tj(av:X.a7.ok X.P) {t:TypeId} {x y:Operand} {g cr c:Bool} {fx eZ:bh} {st':aM} (aA:o.op=.call ⟨.builtin .append,⟨[x,y]⟩,⟨[t,t]⟩⟩) (dx:o.guard=none) (dU:o.dst=some d) (ah:bw X st.L x=some (g,fx)) (aV:g=true) (aH:bw X st.L y=some (cr,eZ)) (fL:cr=true)
  (ae:xC X n st t fx eZ d=some (c,st')) (aa:c=true):sw X n st o st':=by
 intro R W aD ks env B ai H a w ops KK h bZ;obtain⟨vx,hl,lp⟩:=h.aE ah aV;obtain⟨vy,fN,ky⟩:=h.aE aH fL;unfold xC at ae
 split at ae
 ·rename_i e s1 s2 xA s4 az
  split at ae
  ·rename_i aI cP gW kA ge dv
   obtain⟨dw,dP,iQ⟩:=(cj.get av dv).g ge rfl;obtain⟨T,ca,J,ay⟩:=mH (cj.get av az).bs (cj.get av dv).bs;dsimp only at dw dP ay;have nb:kA.cells.size=cP:=by
    have:kA.cells.toList.length=cP:=by rw[dP,<- dw]; exact bP.length (bP.eh (B:=B) (w:=ai) ge)
    simpa using this
   split at ae
   ·rename_i id
    split at ae
    ·rename_i cu g l cap b8
     split at ae
     ·rename_i ct kV he c6 mL
      cases ae;simp only[Bool.and_eq_true]at kV;obtain⟨ax,sz⟩:=kV;have cV:=Nat.eq_of_beq_eq_true he;subst cV;have hk:=Nat.eq_of_beq_eq_true c6;simp only[ee,Bool.and_eq_true,decide_eq_true_eq]at aa;obtain⟨c7,cR,gy,rfl,jC,iA⟩:=q4 h mL ky;obtain⟨A,c,m,jD,rfl⟩:=lp;obtain⟨dz,K,⟨cm,k',xs,n0,rfl,cS,_⟩,fp,n1⟩:=h.ES (d:=d) (b':=.row cu g (l++ct) none) b8 (fun q an=>by
       obtain⟨_,aO,aK⟩:=h.dt _ _ an;rw[jD]at aO
       rcases aK with⟨b,aK⟩ | aK
       ·rw[<- aO]at aK; cases aK
       ·have:=dK sz; omega)
      rw[jD]at n0;cases n0;rw[hk]at fp iA;refine AG h.sym aA ⟨dx,dU⟩ ax ca J rfl ay (by rw[<- dw]; exact Nat.ble_eq_true_of_le iQ) nb hl fN fp iA (Flat.jB (fun _ _=>bP.jB) jC) aa.1 aa.2 fun cm c' aW w' ck=>?_
      obtain⟨H',kT,c3⟩:=n1 (.row cm c' (l.length+ct.length)) _ aW w' (.c (.ak id)) _ ⟨cm,c',xs++gy,by rw[e8,List.length_append],by rw[List.length_append],cS.append jC,fun q ao=>by cases ao⟩ ⟨cm,c',_,e8,rfl⟩ (by rw[hk]; exact ck.aU) ck.st;exact bZ _ _ _ _ ⟨fun h=>(by rw[aA]at h; cases h),fun _ _ c aa jz=>kT (fun b=>by rw[jD]; simp) c aa jz (fun e=>by rw[e]at jz; cases jz),fun h=>(by rw[aA]at h; cases h)⟩ c3
     ·cases ae
    ·cases ae
   ·split at ae
    ·rename_i ct mL
     split at ae
     ·rename_i eG kb
      cases ae;simp only[ee,Bool.and_eq_true,decide_eq_true_eq]at aa;unfold Go.Proofs.YtldjgdggcodgeaaGreat.newRow at kb
      split at kb
      ·rename_i ax
       cases kb;obtain⟨c7,cR,gy,rfl,jC,iA⟩:=q4 h mL ky;rw[show vx=_ from lp]at hl;rw[dw]at iA;have sA:Sym n (jR ks aD) (gn a) (fun k=>R k\/B k) ai (.row none 0 e cP 0 [] :: (H++ks.map dC)) a w:=⟨h.cb,h.aU.oL e cP⟩
       refine AG sA aA ⟨dx,dU⟩ ax ca J rfl ay (by rw[<- dw]; exact Nat.ble_eq_true_of_le iQ) nb hl fN uo iA (Flat.jB (fun _ _=>bP.jB) jC) (by rw[Nat.zero_add]; exact aa.1) (by rw[Nat.zero_add]; exact aa.2) fun cm c' aW w' ck=>?_
       rw[Nat.zero_add,List.nil_append,<- dw]at ck;obtain⟨H',kT,c3⟩:=h.nZ (d:=d) ax (l:=.row cm c' ct.length) (blk:=.row e ge ct none) (sv:=.c (.ak d)) ck.aU ⟨_,_,_,e8,rfl,jC,fun q ao=>by cases ao⟩ ⟨_,_,_,e8,rfl⟩ ck.st;exact bZ _ _ _ _ ⟨fun h=>(by rw[aA]at h; cases h),fun _ a6=>kT.1 (by simpa [oR,dU] using a6),fun h=>(by rw[aA]at h; cases h)⟩ c3
      ·cases kb
     ·cases ae
    ·cases ae
   ·rename_i g l cc
    split at ae
    ·rename_i ct c6 mL
     split at ae
     ·rename_i eG kb
      cases ae;simp only[ee,Bool.and_eq_true,decide_eq_true_eq]at aa;obtain⟨⟨⟨jf,jg⟩,KZ⟩,K0⟩:=aa;unfold Go.Proofs.YtldjgdggcodgeaaGreat.newRow at kb
      split at kb
      ·rename_i ax
       cases kb;have hk:=Nat.eq_of_beq_eq_true c6;obtain⟨c7,cR,gy,rfl,jC,iA⟩:=q4 h mL ky;obtain⟨A,c,xs,rfl,_,_,fq,cS,hj⟩:=lp;have AY:=fq _ rfl;have pR:=hj.gv h.aU;rw[hk]at iA pR;obtain⟨EW,h9,rfl,_⟩:=pR.2 KZ;obtain⟨iM,hK,rfl,_⟩:=iA.2 K0;refine Sv h.sym aA ⟨dx,dU⟩ ax ca J rfl ay (by rw[<- dw]; exact Nat.ble_eq_true_of_le iQ) nb hl fN KZ K0 pR iA (by omega) jf.1 jf.2 fun ka c' aW w' ck=>?_
       rw[<- hk]at ck;obtain⟨H',kT,c3⟩:=h.nZ (d:=d) ax (l:=.row (some ⟨ka,0,none⟩) c' (l++ct).length) (blk:=.row e g (l++ct) none) (sv:=.c (.ak d)) ck.aU ⟨_,_,_,e8,by rw[List.length_append],cS.append jC,fun q ao=>by cases ao⟩ ⟨_,_,_,e8,by rw[List.length_append]⟩ ck.st;exact bZ _ _ _ _ ⟨fun h=>(by rw[aA]at h; cases h),fun _ a6=>kT.1 (by simpa [oR,dU] using a6),fun h=>(by rw[aA]at h; cases h)⟩ c3
      ·cases kb
     ·cases ae
    ·cases ae
   ·cases ae
  ·cases ae
 ·cases ae
/-! ### Freezing -/
def dn(id:Nat) (st:aM):Option aM:=
 match aZ st.H id with
 | some (.row _ g l cap)=>some ⟨fe id (.bd g l cap) st.L,dG id (.bd g l cap) st.H⟩
 | _=>none
theorem bI.dn(h:bI X R W aD n ks env B ai H st a w) {id:Nat} {st':aM} (az:dn id st=some st'):∃ env' B' cJ H',bI X R W aD n ks env' B' cJ H' st' a w/\(∀ k,B k->B' k)/\dm (fun k=>R k\/B k) ai cJ/\∀ c∈H,iw c=true->c∈H':=by
 unfold Go.Proofs.YtldjgdggcodgeaaGreat.dn at az
 split at az
 ·rename_i t g l cap b8
  cases az;obtain⟨c0,_,⟨A,k,xD,he,rfl,_,fq⟩,mf⟩:=h.heap.gx b8;have dp:fJ B ai (fun q=>B q\/A.map (·.block)=some q) w:=⟨fun q ao=>.inl ao,fun q ao=>h.aU.below.block q (.inr ao)⟩
  obtain⟨c,Y,Z,⟨cm,k',xs,cV,rfl,cS,_⟩,U,ag⟩:=(h.heap.up dp).take b8;rw[he]at cV;cases cV;have jS:bc.row A k t g.size l.length xs∈H++ks.map dC:=by rw[U]; simp
  have e7:ey w (fun k=>R k\/B k) t g.size A k l.length xs:=h.aU.ok _ jS;have hU:∀ q,A.map (·.block)=some q->¬ (R q\/B q)/\q < w.heap.size:=fun q ao=>(h.aU.ok _ jS).lt ao
  have q5:∀ v,dy env (fun q=>B q\/A.map (·.block)=some q) w (.ak id) v->dy env (fun q=>B q\/A.map (·.block)=some q) w (.bd g l cap) v:=by
   rintro v ⟨cm,c',m,cV,rfl⟩;rw[he]at cV;cases cV;exact⟨A,k,xs,rfl,e7.le.1,e7.le.2,fq,cS,Reads.AI h.aU jS,fun b p _ e=>.inr (by rw[e]; rfl)⟩
  obtain⟨H2,ay,aO,K1⟩:=ag env (.bd g l cap) (fun _ _=>rfl) q5;have jT:=h.aU.apart;rw[U,List.append_assoc,List.cons_append]at jT;refine⟨env,_,w,H2,⟨h.size,h.defs,fun s u hu=>?_,aO,?_,fun q ao=>.inl (h.sub q ao),fun q ao=>?_,h.dt,h.base.trans ⟨h.aU.below.os,h.aU.below.tape,h.aU.below.output,h.aU.below.size,fun q ao=>h.aU.below.block q (.inl ao)⟩,fun i x ah=>(h.dX i x ah).up dp⟩,fun q ao=>.inl ao,h.aU.below,fun c aa jz=>K1 (fun b=>by rw[he]; simp) c ?_ jz⟩
  ·obtain⟨hz,hA,rfl⟩:=lK hu
   obtain⟨eF,aK,bY⟩:=h.has s hz hA;exact⟨eF,aK,ei.sub (fun _ _=>rfl) q5 (bY.up dp)⟩
  ·have aj:bK (fun k=>R k\/B k) ai (H2++ks.map dC) w:=by
    have aK:=h.aU;rw[U]at aK;have an:(Y++bc.row A k t g.size l.length xs :: Z++ks.map dC).Perm (bc.row A k t g.size l.length xs :: (Y++Z++ks.map dC)):=by
     simp only[List.append_assoc,List.cons_append];exact List.perm_middle
    exact(aK.perm an).en (((ay.append_right _)).cons _)
   refine⟨dm.refl _ _,fun q ao=>?_,fun c aa=>(aj.ok c aa).base fun b ae cH=>?_,aj.apart⟩
   ·rcases ao with ao | ao | ao
    ·exact h.aU.base q (.inl ao)
    ·exact h.aU.base q (.inr ao)
    ·exact(hU q ao).2
   ·rcases cH with cH | cH | cH
    ·exact((aj.ok c aa).lt ae).1 (.inl cH)
    ·exact((aj.ok c aa).lt ae).1 (.inr cH)
    ·have h1:c∈Y++(Z++ks.map dC):=by
      rcases List.mem_append.1 aa with aa | aa
      ·have:=ay.subset aa
       rcases List.mem_append.1 this with bY | bY
       ·exact List.mem_append_left _ bY
       ·exact List.mem_append_right _ (List.mem_append_left _ bY)
      ·exact List.mem_append_right _ (List.mem_append_right _ aa)
     rw[List.pairwise_append,List.pairwise_cons]at jT;obtain⟨_,⟨c3,_⟩,hB⟩:=jT
     rcases List.mem_append.1 h1 with bY | bY
     ·exact hB c bY _ List.mem_cons_self b ae cH
     ·exact c3 c bY b cH ae
  ·rcases ao with ao | ao
   ·exact(h.new q ao).imp_right fun a8=>⟨a8.1,a8.2.e6 (h.aU.below.block q (.inr ao))⟩
   ·exact .inr ⟨fun dO=>(hU q ao).1 (.inl dO),(h.aU.ok _ jS).cells rfl ao⟩
  ·rw[U]at aa
   rcases List.mem_append.1 aa with aa | aa
   ·exact List.mem_append_left _ aa
   ·rcases List.mem_cons.1 aa with aa | aa
    ·rw[aa]at jz; cases jz
    ·exact List.mem_append_right _ aa
 ·cases az
/-! ### Forgetting -/
inductive q6 (L:cQ):cQ->Prop where
 | nil:q6 L []
 | cons {k:Nat} {v:b5} {cY:cQ} (ab:aZ L k=some v) (h:q6 L cY):q6 L ((k,v) :: cY)
inductive iR (h:bE):bE->Prop where
 | nil:iR h []
 | cons {k:Nat} {b:cA} {a8:bE} (ab:aZ h k=some b) (a6:aZ a8 k=none) (au:iR h a8):iR h ((k,b) :: a8)
theorem q6.look{L cY:cQ} (h:q6 L cY):∀ s v,aZ cY s=some v->aZ L s=some v:=by
 induction h with
 | nil=>intro s v h; cases h
 | cons ab _ bJ=>
  intro s v h;rw[cn]at h
  split at h
  ·rename_i e; subst e; cases h; exact ab
  ·exact bJ s v h
def lR(id:Nat):bE->bE
 | []=>[]
 | (k,b) :: r=>match Nat.beq k id with
  | true=>r
  | false=>(k,b) :: lR id r
theorem bt.erase{id:Nat}:∀ {l:bE} {H:List bc} {b:cA},bt env B w l H->aZ l id=some b->∃ c H2,ej env B w id b c/\H.Perm (c :: H2)/\bt env B w (lR id l) H2
 | [],_,_,_,h=>by cases h
 | (k,b') :: l,H,b,⟨c,H',e,J,U⟩,h=>by
  rw[cn]at h;subst e
  split at h
  ·rename_i e
   subst e;cases h;refine⟨c,H',J,List.Perm.refl _,?_⟩;unfold lR;rw[Nat.beq_refl];exact U
  ·rename_i e
   obtain⟨c',H2,ag,ay,aO⟩:=bt.erase U h;have ab:Nat.beq k id=false:=by
    cases ae:Nat.beq k id with
    | false=>rfl
    | true=>exact absurd (Nat.eq_of_beq_eq_true ae).symm e
   refine⟨c',c :: H2,ag,(List.Perm.cons _ ay).trans (List.Perm.swap _ _ _),?_⟩;unfold lR;rw[ab];exact⟨c,H2,rfl,J,aO⟩
theorem K2{id k:Nat} (ab:k≠id):∀ {l:bE},aZ (lR id l) k=aZ l k
 | []=>rfl
 | (j,b) :: l=>by
  unfold lR
  split
  ·rename_i h
   have:j=id:=Nat.eq_of_beq_eq_true h
   subst this;rw[cn,if_neg ab]
  ·rw[cn,cn,K2 ab]
theorem iR.AZ{l l':bE} (aj:iR l l'):∀ {H:List bc},bt env B w l H->∃ H' Y,H.Perm (H'++Y)/\bt env B w l' H':=by
 have key:∀ {l l':bE},(∀ k b,aZ l' k=some b->aZ l k=some b)->(∀ (p:Nat×cA) (Y Z:bE),l'=Y++p :: Z->aZ Z p.1=none)->∀ {H:List bc},bt env B w l H->∃ H' Y,H.Perm (H'++Y)/\bt env B w l' H':=by
  intro l l'
  induction l' generalizing l with
  | nil=>intro _ _ H h; exact⟨[],H,List.Perm.refl _,rfl⟩
  | cons p r bJ=>
   obtain⟨k,b⟩:=p;intro J U H h;have ab:=J k b (by rw[cn,if_pos rfl]);have a6:=U (k,b) [] r rfl;obtain⟨c,H2,ag,ay,aO⟩:=h.erase ab;obtain⟨H',Y,aK,bY⟩:=bJ (l:=lR k l) (fun j b' aF=>by
    have cG:j≠k:=fun e=>by subst e; rw[a6]at aF; cases aF
    rw[K2 cG];exact J j b' (by rw[cn,if_neg cG]; exact aF)) (fun p Y Z e=>U p ((k,b) :: Y) Z (by rw[e]; rfl)) aO
   exact⟨c :: H',Y,ay.trans (List.Perm.cons _ aK),c,H',rfl,ag,bY⟩
 intro H h;refine key (l:=l) (l':=l') ?_ ?_ h
 ·clear h
  induction aj with
  | nil=>intro k b h; cases h
  | cons ab _ _ bJ=>
   intro j b' h;rw[cn]at h
   split at h
   ·rename_i e; subst e; cases h; exact ab
   ·exact bJ j b' h
 ·clear h
  induction aj with
  | nil=>intro p Y Z e; cases Y<;>cases e
  | cons _ a6 _ bJ=>
   intro p Y Z e;cases Y with
   | nil=>cases e; exact a6
   | cons q Y=>cases e; exact bJ p Y Z rfl
theorem bI.en(h:bI X R W aD n ks env B ai H st a w) {st':aM} (dJ:q6 st.L st'.L) (ec:iR st.H st'.H):∃ H',bI X R W aD n ks env B ai H' st' a w:=by
 obtain⟨H',Y,J,U⟩:=ec.AZ h.heap;refine⟨H',h.size,h.defs,fun s u hu=>h.has s u (dJ.look s u hu),U,?_,h.sub,h.new,h.dt,h.base,h.dX⟩;have an:(H++ks.map dC).Perm ((H'++ks.map dC)++Y):=by
  refine(J.append_right _).trans ?_;rw[List.append_assoc,List.append_assoc];exact(List.perm_append_comm).append_left _
 exact(h.aU.perm an).en (List.sublist_append_left _ _)
theorem bI.oL(h:bI X R W aD n ks env B ai H st a w) {s id:Nat} {t:TypeId} {g:ba} (ji:∀ q,¬ aD.p id q) (aj:aZ st.L s=some (.c (.val (.slice none 0 0)))):∃ env' H',bI X R W aD n ks env' B ai H' ⟨(s,.c (.ak id)) :: fe id .dead st.L,(id,.row t g [] none) :: dG id .dead st.H⟩ a w:=by
 obtain⟨H2,J,U⟩:=h.heap.del (z:=.dead) (h4 (env:=env) (id:=id) (l:=.row none 0 0)) (fun _ _=>trivial);obtain⟨v,ag,ay⟩:=h.has _ _ aj;refine⟨h8 env id (.row none 0 0),.row none 0 t g.size 0 [] :: H2,h.size,h.defs,fun q u hu=>?_,⟨_,H2,rfl,⟨none,0,[],e8,rfl,rfl,fun _ ao=>by cases ao⟩,U⟩,(h.aU.oL t g.size).en ((J.append_right _).cons_cons _),h.sub,h.new,nY h.dt ji,h.base,h.dX⟩;rw[cn]at hu
 split at hu
 ·rename_i e; subst e; cases hu; exact⟨v,ag,none,0,0,e8,ay⟩
 ·obtain⟨hz,hA,rfl⟩:=lK hu
  obtain⟨eF,aK,bY⟩:=h.has q hz hA;exact⟨eF,aK,ei.sub (z:=.dead) h4 (fun _ _=>trivial) bY⟩
end
end

section
inductive K3 where
 | ok (c:Bool) (st:aM)
 | stop
def xE(X:bq) (n:Nat) (st:aM) (d:Option Nat):Op->Option (Bool×aM)
 | .alloc t=>match d,X.a7.find t with
  | some d,some bp=>q3 X n st t d (q0 bp.bs.zero.cells.toList)
  | _,_=>none
 | .box t u=>match d,bw X st.L u with
  | some d,some (g,x)=>match ni x.cells,q3 X n st t d x.cells with
   | true,some (c,st')=>some (g&&c,st')
   | _,_=>none
  | _,_=>none
 | .store t u v=>match d,bw X st.L u,bw X st.L v with
  | none,some (g,x),some (cr,y)=>match xv X st t x y with
   | some (c,st')=>some (g&&cr&&c,st')
   | none=>none
  | _,_,_=>none
 | .buildSlice t N ps=>match d with
  | some d=>xz X n st t N ps.toList d
  | none=>none
 | .makeSlice t u v=>match d,bw X st.L u,bw X st.L v with
  | some d,some (g,x),some (cr,y)=>match xB X n st t x y d with
   | some (c,st')=>some (g&&cr&&c,st')
   | none=>none
  | _,_,_=>none
 | .call ⟨.builtin .append,⟨[u,v]⟩,⟨[t,bR]⟩⟩=>match d,Nat.beq t bR,bw X st.L u,bw X st.L v with
  | some d,true,some (g,x),some (cr,y)=>match xC X n st t x y d with
   | some (c,st')=>some (g&&cr&&c,st')
   | none=>none
  | _,_,_,_=>none
 | _=>none
def uG(X:bq) (n:Nat) (L:cQ) (H:bE) (o:Oper) (g:Bool):K3:=
 match sr X ⟨L,H⟩ o.op,o.dst with
 | some (c,bx),some d=>match Nat.blt d n with
  | true=>.ok (!g || c) ⟨(d,.may g bx) :: L,H⟩
  | false=>.stop
 | _,_=>.stop
def A0(L:cQ):Op->Option (List bh)
 | .move (.tmp s)=>match aZ L s with
  | some (.dj xs)=>some xs
  | _=>none
 | .assign (.tmp s)=>match aZ L s with
  | some (.dj xs)=>some xs
  | _=>none
 | _=>none
def nk(X:bq) (n:Nat) (cB:List (Option Nat)):aM->Oper->K3
 | ⟨L,H⟩,o=>match o.guard with
  | none=>match sr X ⟨L,H⟩ o.op with
   | some (c,bx)=>match o.dst with
    | some d=>match Nat.blt d n with
     | true=>.ok c ⟨(d,.a bx) :: L,H⟩
     | false=>.stop
    | none=>.stop
   | none=>match A0 L o.op with
    | some xs=>match o.dst with
     | some d=>match Nat.blt d n with
      | true=>.ok true ⟨(d,.dj xs) :: L,H⟩
      | false=>.stop
     | none=>.stop
    | none=>match xE X n ⟨L,H⟩ o.dst o.op with
     | some (c,st')=>.ok c st'
     | none=>.stop
  | some (j,want)=>match nth cB j with
   | some (some s)=>match aZ L s,want with
    | some (.a (.c (.val (.bool b)))),true=>uG X n L H o b
    | some (.a (.c (.val (.bool b)))),false=>uG X n L H o (!b)
    | some (.may g (.c (.val (.bool b)))),true=>uG X n L H o (g&&b)
    | some (.may g (.c (.val (.bool b)))),false=>uG X n L H o (g&&!b)
    | _,_=>.stop
   | _=>.stop
def ef(l:List Oper):List (Option Nat):=l.map (·.dst)
section
variable {X:bq} {R:Nat->Prop} {W:World} {aD:eT} {n:Nat} {ks:List Nat} {env:Nat->Loc} {B:Nat->Prop} {ai:World} {H:List bc} {st st':aM} {a aW:Act} {w w':World} {o:Oper} {d:Nat}
theorem Tk(av:X.a7.ok X.P) {c:Bool} (dx:o.guard=none) (ae:xE X n st o.dst o.op=some (c,st')) (aa:c=true):sw X n st o st':=by
 unfold xE at ae
 split at ae
 ·rename_i t aA
  split at ae
  ·rename_i d bp ax dv
   exact S2 av aA dx ax dv ae
  ·cases ae
 ·rename_i t u aA
  split at ae
  ·rename_i d g x ax hu
   split at ae
   ·rename_i c' eG ad U
    cases ae;simp only[Bool.and_eq_true]at aa;exact S1 aA dx ax hu aa.1 ad U
   ·cases ae
  ·cases ae
 ·rename_i t u v aA
  split at ae
  ·rename_i g x cr y ax hu aw
   split at ae
   ·rename_i c' eG U
    cases ae;simp only[Bool.and_eq_true]at aa;exact S5 av aA dx ax hu aa.1.1 aw aa.1.2 U aa.2
   ·cases ae
  ·cases ae
 ·rename_i t N ps aA
  split at ae
  ·rename_i d ax
   exact Te av aA dx ax ae aa
  ·cases ae
 ·rename_i t u v aA
  split at ae
  ·rename_i d g x cr y ax hu aw
   split at ae
   ·rename_i c' eG U
    cases ae;simp only[Bool.and_eq_true]at aa;exact Th av aA dx ax hu aa.1.1 aw aa.1.2 U aa.2
   ·cases ae
  ·cases ae
 ·rename_i u v t bR aA
  split at ae
  ·rename_i d g x cr y ax aY hu aw
   split at ae
   ·rename_i c' eG U
    cases ae;simp only[Bool.and_eq_true]at aa;have xF:=Nat.eq_of_beq_eq_true aY;subst xF;intro R W aD ks env B ai H a w ops KK h bZ;exact Tj av aA dx ax hu aa.1.1 aw aa.1.2 U aa.2 ops KK h bZ
   ·cases ae
  ·cases ae
 ·cases ae
theorem Tl(h:bI X R W aD n ks env B ai H st a w) {ops:Array Oper} {KK:Act->World->Prop} {bx:bh} {g:Bool} (an:g=true->hh X st o bx) (hw:Region.wanted o (yielded ops a.tmps)=g) (dU:o.dst=some d) (ax:Nat.blt d n=true)
  (bZ:∀ aW w' env' H',AU o st H w H' w'->bI X R W aD n ks env' B ai H' ⟨(d,.may g bx) :: st.L,st.H⟩ aW w'->KK aW w'):eW X.P ops o KK a w:=by
 have put:∀ v,c2 n (jR ks aD) ((d,v) :: gn a) (a.put o.dst v):=fun v=>by rw[dU]; exact h.cb.put d v (dK ax)
 cases g with
 | true=>
  obtain⟨v,J,U⟩:=an rfl h;exact .inl ⟨hw,.inl ⟨v,w,U w (fun _=>h.aU),bZ _ _ _ _ ⟨fun _=>Below.refl _ _,fun _ _ c aa _=>aa,fun _ _ c aa=>aa⟩ (h.set ⟨fun _=>J,fun h=>by cases h⟩ (put v))⟩⟩
 | false=>exact .inr ⟨hw,bZ _ _ _ _ ⟨fun _=>Below.refl _ _,fun _ _ c aa _=>aa,fun _ _ c aa=>aa⟩ (h.set ⟨(fun h=>by cases h),fun _=>rfl⟩ (put undef))⟩
theorem EX{α β:Type} {f:α->β}:∀ {l:List α} {k:Nat} {y:β},nth (l.map f) k=some y->∃ x,l[k]?=some x/\y=f x
 | [],_,_,h=>by cases h
 | x :: _,0,_,h=>by cases h; exact⟨x,rfl,rfl⟩
 | _ :: r,k+1,_,h=>by obtain⟨x,J,U⟩:=EX (l:=r) h; exact⟨x,by rw[List.getElem?_cons_succ]; exact J,U⟩
theorem A1(av:X.a7.ok X.P) {ops:Array Oper} {c g:Bool} (aj:uG X n st.L st.H o g=.ok c st') (aa:c=true) (h:bI X R W aD n ks env B ai H st a w) (hw:Region.wanted o (yielded ops a.tmps)=g) {KK:Act->World->Prop}
  (bZ:∀ aW w' env' H',AU o st H w H' w'->bI X R W aD n ks env' B ai H' st' aW w'->KK aW w'):eW X.P ops o KK a w:=by
 unfold uG at aj
 split at aj
 ·rename_i c' bx d an dU
  split at aj
  ·rename_i ax
   cases aj;exact Tl h (g:=g) (fun aV=>AS (st:=st) av an (by rw[aV]at aa; simpa using aa)) hw dU ax bZ
  ·cases aj
 ·cases aj
theorem K4(h:bI X R W aD n ks env B ai H st a w) {xs:List bh} (hm:A0 st.L o.op=some xs):∃ v,ei env B ai (.dj xs) v/\∀ w,(execOp a.eval o).run X.P w=.ok (.value v) w:=by
 unfold A0 at hm
 split at hm
 ·rename_i s aA
  split at hm
  ·rename_i bn b8
   cases hm;obtain⟨v,J,U⟩:=h.has _ _ b8;exact⟨v,U,J8 h.cb aA (hQ J)⟩
  ·cases hm
 ·rename_i s aA
  split at hm
  ·rename_i bn b8
   cases hm;obtain⟨v,J,U⟩:=h.has _ _ b8;exact⟨v,U,J9 h.cb aA (hQ J)⟩
  ·cases hm
 ·cases hm
theorem A2(av:X.a7.ok X.P) {l:List Oper} {c:Bool} (aj:nk X n (ef l) st o=.ok c st') (aa:c=true) (h:bI X R W aD n ks env B ai H st a w) {KK:Act->World->Prop}
  (bZ:∀ aW w' env' H',AU o st H w H' w'->bI X R W aD n ks env' B ai H' st' aW w'->KK aW w'):eW X.P l.toArray o KK a w:=by
 obtain⟨L,q7⟩:=st;simp only[nk]at aj
 split at aj
 ·rename_i dx
  split at aj
  ·rename_i c' bx an
   split at aj
   ·rename_i d dU
    split at aj
    ·rename_i ax
     cases aj;obtain⟨v,J,U⟩:=AS av an aa h;exact hv h.cb dx dU (dK ax) (U w (fun _=>h.aU)) fun aW aJ=>bZ _ _ _ _ ⟨fun _=>Below.refl _ _,fun _ _ c aa _=>aa,fun _ _ c aa=>aa⟩ (h.set J aJ)
    ·cases aj
   ·cases aj
  ·split at aj
   ·rename_i xs hm
    split at aj
    ·rename_i d dU
     split at aj
     ·rename_i ax
      cases aj;obtain⟨v,J,U⟩:=K4 h hm;exact hv h.cb dx dU (dK ax) (U w) fun aW aJ=>bZ _ _ _ _ ⟨fun _=>Below.refl _ _,fun _ _ c aa _=>aa,fun _ _ c aa=>aa⟩ (h.set J aJ)
     ·cases aj
    ·cases aj
   ·split at aj
    ·rename_i c' eG he
     cases aj;exact Tk av dx he aa _ _ h bZ
    ·cases aj
 ·rename_i j want dx
  split at aj
  ·rename_i s aF
   obtain⟨fF,kc,q8⟩:=EX aF;have lO:(l.toArray[j]?).bind (·.dst)=some s:=by simp[kc,<- q8]
   split at aj
   ·rename_i b b8
    obtain⟨v,J,U⟩:=h.has _ _ b8;rw[show v=_ from U]at J;refine A1 (st:=⟨L,q7⟩) av aj aa h ?_ bZ;rw[qV h.sym dx lO (hQ J)];cases b<;>rfl
   ·rename_i b b8
    obtain⟨v,J,U⟩:=h.has _ _ b8;rw[show v=_ from U]at J;refine A1 (st:=⟨L,q7⟩) av aj aa h ?_ bZ;rw[qV h.sym dx lO (hQ J)];cases b<;>rfl
   ·rename_i g b b8
    obtain⟨v,J,U,ag⟩:=h.has _ _ b8;refine A1 (st:=⟨L,q7⟩) av aj aa h ?_ bZ;cases g with
    | true=>
     rw[show v=_ from U rfl]at J;rw[qV h.sym dx lO (hQ J)];cases b<;>rfl
    | false=>
     rw[ag rfl]at J;rw[AE h.sym dx lO (hQ J)]
     rfl
   ·rename_i g b b8
    obtain⟨v,J,U,ag⟩:=h.has _ _ b8;refine A1 (st:=⟨L,q7⟩) av aj aa h ?_ bZ;cases g with
    | true=>
     rw[show v=_ from U rfl]at J;rw[qV h.sym dx lO (hQ J)];cases b<;>rfl
    | false=>
     rw[ag rfl]at J;rw[AE h.sym dx lO (hQ J)]
     rfl
   ·cases aj
  ·cases aj
end
def Tm(X:bq) (R:Nat->Prop) (W:World) (aD:eT) (M:Bool) (n:Nat) (Q:Exit->aM->Prop):Exit->Act->World->Prop:=fun e a w=>∃ st,Q e st/\lL X R W aD M n st a w
def mg(X:bq) (M:Bool) (n:Nat) (r:Option Nat) (c:Code) (st:aM) (Q:Exit->aM->Prop):Prop:=
 ∀ R W aD a w,lL X R W aD M n st a w->kv r X.P c (Tm X R W aD M n Q) a w
section
variable {X:bq} {M:Bool} {n:Nat} {r:Option Nat} {st st':aM} {Q xG:Exit->aM->Prop} {ft cR c:Code} {ops l l':List Oper}
theorem EY(h:mg X M n r c st Q) (ao:∀ e st,Q e st->xG e st):mg X M n r c st xG:=fun R W aD a w al=>wpIn_mono (h R W aD a w al) fun e a w ⟨st,J,U⟩=>⟨st,ao e st J,U⟩
theorem Tn(h:Q .normal st):mg X M n r .skip st Q:=fun R W aD a w al=>Kg ⟨st,h,al⟩
theorem To{id:Nat} (h:Q (.exit id) st):mg X M n r (.exit id) st Q:=fun R W aD a w al=>Kh ⟨st,h,al⟩
theorem Tp(h:Q .ret st):mg X M n r .ret st Q:=fun R W aD a w al=>RP ⟨st,h,al⟩
def dk(X:bq) (n:Nat) (st st':aM):Prop:=∀ R W aD M a w,lL X R W aD M n st a w->lL X R W aD M n st' a w
theorem dk.refl(st:aM):dk X n st st:=fun _ _ _ _ _ _ h=>h
theorem dk.trans{a b c:aM} (h:dk X n a b) (k:dk X n b c):dk X n a c:=fun _ _ _ _ _ _ al=>k _ _ _ _ _ _ (h _ _ _ _ _ _ al)
theorem dk.sub(dJ:q6 st.L st'.L) (ec:iR st.H st'.H):dk X n st st':=fun _ _ _ _ _ _ ⟨ks,env,B,ai,H,cp,al⟩=>by
 obtain⟨H',h⟩:=al.en dJ ec;exact⟨ks,env,B,ai,H',cp,h⟩
def uH(L:cQ):List Nat->Option cQ
 | []=>some []
 | k :: ks=>match aZ L k,uH L ks with
  | some v,some r=>some ((k,v) :: r)
  | _,_=>none
def pS(h:bE):List Nat->Option bE
 | []=>some []
 | k :: ks=>match aZ h k,pS h ks with
  | some b,some r=>match aZ r k with
   | none=>some ((k,b) :: r)
   | some _=>none
  | _,_=>none
theorem EZ{L:cQ}:∀ {ks:List Nat} {cY:cQ},uH L ks=some cY->q6 L cY
 | [],_,h=>by cases h; exact .nil
 | k :: ks,cY,h=>by
  unfold uH at h
  split at h
  ·rename_i v r J U
   cases h;exact .cons J (EZ U)
  ·cases h
theorem sB{h0:bE}:∀ {ks:List Nat} {a8:bE},pS h0 ks=some a8->iR h0 a8
 | [],_,h=>by cases h; exact .nil
 | k :: ks,a8,h=>by
  unfold pS at h
  split at h
  ·rename_i b r J U
   split at h
   ·rename_i ag
    cases h;exact .cons J ag (sB U)
   ·cases h
  ·cases h
theorem dk.pick(ks aj:List Nat) {cY:cQ} {H':bE} (J:uH st.L ks=some cY) (U:pS st.H aj=some H'):dk X n st ⟨cY,H'⟩:=dk.sub (EZ J) (sB U)
theorem dk.dn{id:Nat} (h:dn id st=some st'):dk X n st st':=fun _ _ _ _ _ _ ⟨ks,env,B,ai,H,cp,al⟩=>by
 obtain⟨env',B',cJ,H',h,_⟩:=al.dn h;exact⟨ks,env',B',cJ,H',cp,h⟩
theorem dk.nil(s id:Nat) (t:TypeId) (g:ba) (ji:Nat.blt id n=true) (aj:aZ st.L s=some (.c (.val (.slice none 0 0)))):dk X n st ⟨(s,.c (.ak id)) :: fe id .dead st.L,(id,.row t g [] none) :: dG id .dead st.H⟩:=fun _ _ _ _ _ _ ⟨ks,env,B,ai,H,cp,al⟩=>by
 obtain⟨env',H',h⟩:=al.oL (s:=s) (id:=id) (t:=t) (g:=g) (fun q an=>by have J:=(al.dt _ _ an).1; have U:=dK ji; omega) aj;exact⟨ks,env',B,ai,H',cp,h⟩
end
end

section
def uI(X:bq) (B:Nat->Prop) (w:World):Prop:=∀ i x,X.AL i=some x->xk B w i x
def nm(X:bq) (env:Nat->Loc) (B:Nat->Prop) (H:List bc) (W:World) (Q:b5->bE->Prop) (v:Value) (w':World):Prop:=
 ∃ env' B' cJ H' sv a8,Q sv a8/\(∀ k,B k->B' k)/\(∀ k,B' k->B k\/(¬ Rest W H k/\uy cJ k))/\dm (Rest W H) W cJ/\ei env' B' cJ sv v/\bt env' B' cJ a8 H'/\bK (fun k=>Rest W H k\/B' k) cJ H' w'/\∀ id l,(ix<=id/\∃ b,l=.blk b)\/h2<=id->env id=l->env' id=l
def AC(X:bq) (f:FuncId) (args:List bh) (h:bE) (Q:b5->bE->Prop):Prop:=
 ∀ (B:Nat->Prop) (ai:World) (env:Nat->Loc) (vs:List Value) (H:List bc) (W:World),uI X B ai->dF env B ai args vs->bt env B ai h H->bK B ai H W->oH X.P f vs.toArray W (nm X env B H W Q)
def E0(X:bq) (st:aM):ResultVar->Option (Bool×bh)
 | .tmp s=>bw X st.L (.tmp s)
 | .cell s t=>match bw X st.L (.tmp s)with
  | some (g,.c (.ptr id 0))=>match AN X st t (.c (.ptr id 0))with
   | some (c,x)=>some (g&&c,x)
   | none=>none
  | _=>none
def A3(X:bq) (st:aM):List ResultVar->Option (Bool×List bh)
 | []=>some (true,[])
 | r :: l=>match E0 X st r,A3 X st l with
  | some (c,x),some (c',xs)=>some (c&&c',x :: xs)
  | _,_=>none
def n2(X:bq) (st:aM) (l:List ResultVar):Option (Bool×b5):=
 match A3 X st l with
 | some (c,[x])=>some (c,.a x)
 | some (c,xs)=>some (c,.dj xs)
 | none=>none
def lq:Nat->List bh->cQ
 | _,[]=>[]
 | k,x :: r=>(k,.a x) :: lq (k+1) r
section
variable {X:bq} {R:Nat->Prop} {W:World} {aD:eT} {n:Nat} {ks:List Nat} {env:Nat->Loc} {B:Nat->Prop} {ai:World} {H:List bc} {st st':aM} {a aW:Act} {w w':World}
theorem dF.length:∀ {xs:List bh} {vs:List Value},dF env B w xs vs->vs.length=xs.length
 | [],_,h=>by rw[show _=[] from h]; rfl
 | _ :: _,_,⟨v,r,e,_,U⟩=>by rw[e,List.length_cons,List.length_cons,dF.length U]
theorem A4:∀ {xs:List bh} {vs:List Value} {k s:Nat} {sv:b5},dF env B w xs vs->aZ (lq k xs) s=some sv->k<=s/\∃ v,vs[s - k]?=some v/\ei env B w sv v
 | [],_,_,_,_,_,h=>by cases h
 | x :: xs,vs,k,s,sv,⟨v,r,e,J,U⟩,h=>by
  unfold lq at h;rw[cn]at h;subst e
  split at h
  ·rename_i e
   subst e;cases h;exact⟨Nat.le_refl _,v,by simp,J⟩
  ·obtain⟨ag,u,ay,aO⟩:=A4 U h
   exact⟨by omega,u,by rw[show s - k=(s - (k+1))+1 by omega,List.getElem?_cons_succ]; exact ay,aO⟩
def A5(tmps:Array Value):ResultVar->Sem Value
 | .tmp t=>pure (tmps.getD t undef)
 | .cell s t=>do loadVar t (<- asAddr (tmps.getD s undef))
theorem K5(fn:Func) (tmps:Array Value):results fn tmps=(do let vs <- fn.results.mapM (A5 tmps); pure (if h:vs.size=1 then vs[0] else .tuple vs)):=by
 unfold results
 congr 1
theorem Tq(av:X.a7.ok X.P) (h:bI X R W aD n ks env B ai H st a w) {r:ResultVar} {c:Bool} {x:bh} (au:E0 X st r=some (c,x)) (aa:c=true) :
  ∃ v,dH env B ai x v/\∀ w,bK (fun k=>R k\/B k) ai (H++ks.map dC) w->(A5 a.tmps r).run X.P w=.ok v w:=by
 cases r with
 | tmp s=>
  obtain⟨v,J,U⟩:=h.aE (x:=.tmp s) au aa;refine⟨v,U,fun w _=>?_⟩
  have:=h.cb.aE J
  show(pure (a.eval (.tmp s)):Sem Value).run X.P w=_;rw[this]
  rfl
 | cell s t=>
  simp only[E0]at au
  split at au
  ·rename_i g id aj
   split at au
   ·rename_i c' y ad
    cases au;simp only[Bool.and_eq_true]at aa;obtain⟨v,J,b,he,rfl⟩:=h.aE aj aa.1;have U:=h.cb.aE J
    obtain ⟨u, ag, ay⟩ := KD (o := { dst := none, op := .load t (.tmp s), type := 0, pos := "", after := #[], guard := none }) av rfl aj aa.1 (by rw [aa.2] at ad; exact ad) h
    refine⟨u,ag,fun w hw=>?_⟩;have aO:=ay w (fun _=>hw);have aK:a.tmps.getD s undef=.pointer (some ⟨b,0,none⟩):=U;simp only[execOp,U,Instr.loadAt,Instr.sureAddr]at aO;simp only[A5,aK,asAddr];simp only[Sem.run_bind,Sem.run_pure,Result.andThen_ok]at aO ⊢;cases ao:(loadVar t ⟨b,0,none⟩).run X.P w with
    | ok q w2=>
     rw[ao]at aO;simp only[Result.andThen_ok]at aO;cases aO
     rfl
    | halt q w2=>rw[ao]at aO; simp[Result.andThen]at aO
   ·cases au
  ·cases au
theorem E1(av:X.a7.ok X.P) (h:bI X R W aD n ks env B ai H st a w):∀ {l:List ResultVar} {c:Bool} {xs:List bh},A3 X st l=some (c,xs)->c=true ->
  ∃ vs,dF env B ai xs vs/\∀ w,bK (fun k=>R k\/B k) ai (H++ks.map dC) w->(l.mapM (A5 a.tmps)).run X.P w=.ok vs w
 | [],c,xs,au,_=>by cases au; exact⟨[],rfl,fun w _=>by simp⟩
 | r :: l,c,xs,au,aa=>by
  simp only[A3]at au
  split at au
  ·rename_i ft x cR bn J U
   cases au;simp only[Bool.and_eq_true]at aa;obtain⟨v,ag,ay⟩:=Tq av h J aa.1;obtain⟨vs,aO,aK⟩:=E1 av h U aa.2;refine⟨v :: vs,⟨v,vs,rfl,ag,aO⟩,fun w hw=>?_⟩;rw[List.mapM_cons];simp only[Sem.run_bind,ay w hw,Result.andThen_ok,aK w hw,Sem.run_pure]
  ·cases au
theorem A6(av:X.a7.ok X.P) (h:bI X R W aD n ks env B ai H st a w) {fn:Func} {l:List ResultVar} {c:Bool} {sv:b5} (az:fn.results=l.toArray) (au:n2 X st l=some (c,sv)) (aa:c=true) :
  ∃ v,ei env B ai sv v/\∀ w,bK (fun k=>R k\/B k) ai (H++ks.map dC) w->(results fn a.tmps).run X.P w=.ok v w:=by
 unfold n2 at au
 split at au
 ·rename_i c' x J
  cases au;obtain⟨vs,U,ag⟩:=E1 av h J aa;obtain⟨v,r,rfl,ay,aO⟩:=U
  have:r=[]:=aO
  subst this;refine⟨v,ay,fun w hw=>?_⟩;rw[K5,az]
  have:=ag w hw
  simp[this]
 ·rename_i c' xs cG J
  cases au;obtain⟨vs,U,ag⟩:=E1 av h J aa;refine⟨.tuple vs.toArray,⟨vs,rfl,U⟩,fun w hw=>?_⟩;rw[K5,az];have ad:=U.length
  have:¬ vs.length=1:=fun e=>by
   rw[e]at ad
   match xs,ad,cG with
   | [x],_,cG=>exact cG x rfl
  simp[ag w hw,this]
 ·cases au
end
end
end Go.Proofs.YtldjgdggcodgeaaGreat
