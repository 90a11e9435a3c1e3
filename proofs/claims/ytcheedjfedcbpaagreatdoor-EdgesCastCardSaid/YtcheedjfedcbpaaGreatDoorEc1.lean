/- Part 1 of 6 of the proof. -/
import Derived.WalkKit
import Derived.OwnWalkIn
import Derived.TacticsInMore
import Derived.OrdersIn
import Derived.RangeFuncCalls
import Derived.Below
import Derived.Laws.AppendOwn
import Derived.Laws.OwnMore
import Derived.Laws.CopyRow
import Derived.Laws.BitsAllLaws
import Derived.OrdersHeld
import Derived.MapKept
import Derived.Laws.StructEq
import Derived.Laws.IdiomCopy
import Derived.Laws.MakeOwn
import Derived.RangeFuncNested
import Derived.RangeFuncLeaves
import Derived.RangeFuncBound
import Derived.Laws.IdiomStrings
import Derived.ProofKit
import Derived.Deep.Slices
set_option linter.unusedSimpArgs false
set_option linter.unusedVariables false
set_option maxRecDepth 100000
namespace Go.Proofs.YtcheedjfedcbpaaGreatDoor
open Go.RowKit
section
def WF(r:Option Nat):Fence:={ Fence.wide with round:=r }
structure c9(n:Nat) (D:List Deferred) (L:List (Nat×Value)) (a:Act):Prop where
 size:a.tmps.size=n
 defs:a.defers=D
 has:∀ s v,L.lookup s=some v->a.tmps[s]?=some v
def aB(L:List (Nat×Value)):Operand->Option Value
 | .tmp s=>L.lookup s
 | .const v=>some v
 | .global g=>some (.pointer (some ⟨g,0,none⟩))
 | .func f=>some (.func (.func f) #[] #[])
def iA(L:List (Nat×Value)):List Operand->Option (List Value)
 | []=>some []
 | x :: xs=>match aB L x,iA L xs with
  | some v,some l=>some (v :: l)
  | _,_=>none
section
variable {n:Nat} {D:List Deferred} {L:List (Nat×Value)} {a:Act}
theorem c9.aB(h:c9 n D L a) {x:Operand} {v:Value} (ao:aB L x=some v):a.eval x=v:=by
 cases x with
 | tmp s=>
  have J:=h.has s v ao;show a.tmps.getD s undef=v;rw[Array.getD_eq_getD_getElem?,J]; rfl
 | const u=>exact Option.some.inj ao
 | global g=>exact Option.some.inj ao
 | func f=>exact Option.some.inj ao
theorem c9.iA(h:c9 n D L a):∀ {xs:List Operand} {vs:List Value},iA L xs=some vs->xs.map a.eval=vs
 | [],vs,ao=>by cases ao; rfl
 | x :: xs,vs,ao=>by
  unfold YtcheedjfedcbpaaGreatDoor.iA at ao;cases J:YtcheedjfedcbpaaGreatDoor.aB L x with
  | none=>rw[J]at ao; cases ao
  | some v=>
   cases U:YtcheedjfedcbpaaGreatDoor.iA L xs with
   | none=>rw[J,U]at ao; cases ao
   | some l=>
    rw[J,U]at ao;cases ao;rw[List.map_cons,h.aB J,h.iA U]
theorem c9.put(h:c9 n D L a) (d:Nat) (v:Value) (ax:d < n):c9 n D ((d,v) :: L) (a.put (some d) v):=by
 refine⟨?_,h.defs,fun s u al=>?_⟩
 ·simpa [Act.put] using h.size
 ·by_cases e:s=d
  ·subst e
   simp at al
   subst al
   simp[Act.put,h.size,ax]
  ·have:(s == d)=false:=by simpa using e
   rw[List.lookup_cons,this]at al;simp only[Act.put];rw[Array.getElem?_setIfInBounds_ne (fun cv=>e cv.symm)];exact h.has s u al
end
/-! ### One operation -/
section
variable {r:Option Nat} {P:Program} {ops:Array Oper} {Q:Exit->Act->World->Prop} {o:Oper} {KK:Act->World->Prop}
variable {n:Nat} {D:List Deferred} {L:List (Nat×Value)} {a:Act} {w:World}
abbrev pU (r:Option Nat) (P:Program) (ops:Array Oper) (Q:Exit->Act->World->Prop) (l:List Oper) (a:Act) (w:World):Prop:=wpListIn (WF r) 0 P ops Q l a w
def wR(P:Program) (o:Oper) (a:Act) (w:World) (DC:Value->World->Prop):Prop:=
 (∃ v w',(execOp a.eval o).run P w=.ok (.value v) w'/\DC v w')\/(∃ w',(execOp a.eval o).run P w=.ok .skip w'/\DC undef w') \/
 (∃ f args b7,(execOp a.eval o).run P w=.ok (.enter f args) b7/\Calls P f args b7 fun e w'=>∃ v,e=.returned v/\DC v w')
def e3(P:Program) (ops:Array Oper) (o:Oper) (KK:Act->World->Prop) (a:Act) (w:World):Prop:=
 (Region.wanted o (yielded ops a.tmps)=true/\wR P o a w fun v w'=>KK (a.put o.dst v) w')\/(Region.wanted o (yielded ops a.tmps)=false/\KK (a.put o.dst undef) w)
theorem DD{x:Next} {w':World} (h:(execOp a.eval o).run P w=.ok x w') (ao:∀ d,x≠.defer d) (c:Call):o.op≠.defer c:=by
 intro az;simp only[execOp,az,Sem.run_bind]at h;cases aH:(resolve a.eval c o.type).run P w with
 | ok d b7=>
  rw[aH]at h
  simp at h
  exact ao d h.1.symm
 | halt y b7=>rw[aH]at h; simp[Result.andThen]at h
theorem DE(h:∀ c,o.op≠.defer c):o.semAt r a.eval=execOp a.eval o:=by
 cases r with
 | none=>rfl
 | some l=>exact Oper.semAt_some l _ _ h
theorem e3.fenced(h:e3 P ops o KK a w) :
  if Region.wanted o (yielded ops a.tmps)=true then Oper.wpIn (WF r) 0 P o a w KK Q else(∀ f,o.about P w a.eval=some f->(WF r).fn f)/\KK (a.put o.dst undef) w:=by
 rcases h with⟨hw,h⟩ | ⟨hw,h⟩
 ·rw[if_pos hw]
  refine⟨fun _ _=>trivial,?_⟩;show Oper.uponIn _ _ _ _ _ _ _ ((o.semAt r a.eval).run P w)
  rcases h with⟨v,w',aH,ab⟩ | ⟨w',aH,ab⟩ | ⟨f,args,b7,aH,aa⟩
  ·rw[DE (DD aH (fun _ h=>by cases h)),aH]; exact ab
  ·rw[DE (DD aH (fun _ h=>by cases h)),aH]; exact ab
  ·rw[DE (DD aH (fun _ h=>by cases h)),aH]
   refine⟨(fun h=>by cases h),?_⟩;have RA:=(callsIn_wide (n:=0)).2 aa;refine CallsIn.mono (F:=WF r) RA ?_;rintro e w' ⟨v,rfl,aE⟩;exact aE
 ·rw[if_neg (by rw[hw]; simp)]
  exact⟨fun _ _=>trivial,h⟩
theorem q0{rest:List Oper} (h:e3 P ops o (pU r P ops Q rest) a w):pU r P ops Q (o :: rest) a w:=e3.fenced h
theorem fT{v:Value} {w':World} {d:Nat} (aI:c9 n D L a) (dG:o.guard=none) (ef:o.dst=some d) (ax:d < n)
  (dw:(execOp a.eval o).run P w=.ok (.value v) w') (h:∀ aQ,c9 n D ((d,v) :: L) aQ->KK aQ w'):e3 P ops o KK a w:=
 .inl ⟨by simp[Region.wanted,dG],.inl ⟨v,w',dw,h _ (by rw[ef]; exact aI.put d v ax)⟩⟩
theorem wS{w':World} (aI:c9 n D L a) (dG:o.guard=none) (ef:o.dst=none)
  (dw:(execOp a.eval o).run P w=.ok .skip w') (h:∀ aQ,c9 n D L aQ->KK aQ w'):e3 P ops o KK a w:=
 .inl ⟨by simp[Region.wanted,dG],.inr (.inl ⟨w',dw,h _ (by rw[ef]; exact aI)⟩)⟩
theorem DF(h:Q .normal a w):pU r P ops Q [] a w:=h
end
end
section
structure bz where
  desc:TypeDesc
  size:Nat
  bytes:Nat
  zero:Value
def bz.ok(P:Program) (t:TypeId) (i:bz):Prop:=
  P.underlying t=some i.desc/\(P.info? t).map (fun x=>(x.size,x.bytes,x.zero))=some (i.size,i.bytes,some i.zero)
def gd(P:Program) (T:List (TypeId×bz)):Prop:=∀ t i,T.lookup t=some i->bz.ok P t i
theorem gd.nil(P:Program):gd P []:=fun _ _ h=>by cases h
theorem gd.cons{P:Program} {T:List (TypeId×bz)} {t:TypeId} {i:bz} (h:bz.ok P t i) (ca:gd P T):gd P ((t,i) :: T):=fun s j al=>by
  rw[List.lookup_cons]at al
  by_cases e:(s == t)=true
  · rw[e]at al
    have aC:s=t:=by simpa using e
    have a7:i=j:=Option.some.inj al;subst aC; subst a7; exact h
  · have cv:(s == t)=false:=by simpa using e
    rw[cv]at al;exact ca s j al
theorem bz.info{P:Program} {t:TypeId} {i:bz} (h:bz.ok P t i):∃ x,P.info? t=some x/\x.size=i.size/\x.bytes=i.bytes/\x.zero=some i.zero:=by
  have U:=h.2;cases ao:P.info? t with
  | none=>rw[ao]at U; cases U
  | some x=>
    rw[ao]at U;simp only[Option.map_some,Option.some.injEq,Prod.mk.injEq]at U;exact⟨x,rfl,U.1,U.2.1,U.2.2⟩
def jq:TypeDesc->Bool
  | .struct _ | .array _ _=>true
  | _=>false
section
variable {P:Program} {t:TypeId} {i:bz} (h:bz.ok P t i) (w:World)
include h
theorem bz.wT:(isAgg t).run P w=.ok (jq i.desc) w:=by
  have ax:=h.1;unfold isAgg;simp only[Sem.run_bind,run_underlying ax,Result.andThen_ok];cases i.desc<;>simp[jq]
theorem bz.run_sizeOf:(sizeOf t).run P w=.ok i.size w:=by
  obtain⟨x,ao,J,_⟩:=bz.info h
  simp[sizeOf,typeInfo,ao,J]
theorem bz.o0:(zeroValue t).run P w=.ok i.zero w:=by
  obtain⟨x,ao,_,_,ae⟩:=bz.info h
  simp[zeroValue,typeInfo,ao,ae]
end
structure da(B:Nat->Prop) (w w':World):Prop where
  os:w'.os=w.os
  tape:w'.tape=w.tape
  output:w'.output=w.output
  size:w.heap.size<=w'.heap.size
  block:∀ k,B k->w'.heap[k]?=w.heap[k]?
theorem da.refl(B:Nat->Prop) (w:World):da B w w:=⟨rfl,rfl,rfl,Nat.le_refl _,fun _ _=>rfl⟩
theorem da.trans{B:Nat->Prop} {a b c:World} (h:da B a b) (k:da B b c):da B a c:=
  ⟨k.os.trans h.os,k.tape.trans h.tape,k.output.trans h.output,Nat.le_trans h.size k.size,fun i hi=>(k.block i hi).trans (h.block i hi)⟩
theorem da.cell{B:Nat->Prop} {w w':World} (h:da B w w') {p:Addr} (ar:B p.block):w'.cell? p=w.cell? p:=World.cell?_of_block (w:=w) (h.block p.block ar)
theorem da.RB{w w':World} {B:Nat->Prop} (h:Below w.heap.size w w') (cI:∀ k,B k->k < w.heap.size):da B w w':=⟨h.os,h.tape,h.output,h.size,fun k ab=>h.block k (cI k ab)⟩
def eG(w:World) (B:Nat->Prop) (e:TypeId) (size:Nat) (A:Option Addr) (c n:Nat) (xs:List Value):Prop:=
  xs.length=n * size/\((A=none/\n=0/\c=0)\/∃ g cur dH,A=some ⟨g,0,none⟩/\¬ B g/\w.heap[g]?=some (.cells cur e dH)/\(dH.1=dH.2\/cur.size<=dH.1)/\n<=c/\c<=maxLen/\cur.size=c * size/\cur.toList.take (n * size)=xs)
theorem eG.lt{w:World} {B:Nat->Prop} {e:TypeId} {size c n:Nat} {A:Option Addr} {xs:List Value} (h:eG w B e size A c n xs) {b:Nat} (ai:A.map (·.block)=some b):¬ B b/\b < w.heap.size:=by
  rcases h.2 with⟨rfl,_⟩ | ⟨g,cur,dH,rfl,aM,cB,_⟩
  · cases ai
  · have:g=b:=Option.some.inj ai
    subst this;exact⟨aM,(Array.getElem?_eq_some_iff.1 cB).1⟩
theorem eG.dY{w w':World} {B:Nat->Prop} {e:TypeId} {size c n:Nat} {A:Option Addr} {xs:List Value} (h:eG w B e size A c n xs) (ab:∀ b,A.map (·.block)=some b->w'.heap[b]?=w.heap[b]?):eG w' B e size A c n xs:=by
  refine⟨h.1,?_⟩
  rcases h.2 with bk | ⟨g,cur,dH,rfl,ai,RC,rest⟩
  · exact .inl bk
  · exact .inr ⟨g,cur,dH,rfl,ai,(ab g rfl).trans RC,rest⟩
theorem eG.base{w:World} {B B':Nat->Prop} {e:TypeId} {size c n:Nat} {A:Option Addr} {xs:List Value} (h:eG w B e size A c n xs) (cI:∀ b,A.map (·.block)=some b->¬ B' b):eG w B' e size A c n xs:=by
  refine⟨h.1,?_⟩
  rcases h.2 with bk | ⟨g,cur,dH,rfl,ai,rest⟩
  · exact .inl bk
  · exact .inr ⟨g,cur,dH,rfl,cI g rfl,rest⟩
structure fU where
  A:Option Addr
  c:Nat
  e:TypeId
  size:Nat
  n:Nat
  xs:List Value
def fU.has(r:fU) (b:Nat):Prop:=r.A.map (·.block)=some b
def fU.ok(B:Nat->Prop) (w:World) (r:fU):Prop:=eG w B r.e r.size r.A r.c r.n r.xs
def fU.off(r s:fU):Prop:=∀ b,r.has b->¬ s.has b
inductive bd where
  | obj (b:Nat) (o:Obj)
  | gv (b:Nat) (cs:List Value) (e:TypeId)
  | row (A:Option Addr) (c:Nat) (e:TypeId) (size n:Nat) (xs:List Value)
  | tree (rs:List fU)
def bd.has:bd->Nat->Prop
  | .obj b _,k=>some b=some k
  | .gv b _ _,k=>some b=some k
  | .row A _ _ _ _ _,k=>A.map (·.block)=some k
  | .tree rs,k=>∃ r∈rs,r.has k
def bd.ok(B:Nat->Prop) (w:World):bd->Prop
  | .obj b o=>¬ B b/\w.heap[b]?=some o
  | .gv b cs e=>¬ B b/\w.heap[b]?=some (.cells cs.toArray e)
  | .row A c e size n xs=>eG w B e size A c n xs
  | .tree rs=>(∀ r∈rs,r.ok B w)/\rs.Pairwise fU.off
def bd.off(c d:bd):Prop:=∀ b,c.has b->¬ d.has b
structure bA(B:Nat->Prop) (ak:World) (H:List bd) (w:World):Prop where
  below:da B ak w
  base:∀ k,B k->k < w.heap.size
  ok:∀ c∈H,c.ok B w
  apart:H.Pairwise bd.off
abbrev RD (W:World) (H:List bd) (w:World):Prop:=bA (fun k=>k < W.heap.size) W H w
theorem bd.ok.lt{B:Nat->Prop} {w:World} {c:bd} (h:c.ok B w) {b:Nat} (ai:c.has b):¬ B b/\b < w.heap.size:=by
  cases c with
  | obj b' o=>
    have:b'=b:=Option.some.inj ai
    subst this;exact⟨h.1,(Array.getElem?_eq_some_iff.1 h.2).1⟩
  | gv b' cs e=>
    have:b'=b:=Option.some.inj ai
    subst this;exact⟨h.1,(Array.getElem?_eq_some_iff.1 h.2).1⟩
  | row A c e size n xs=>exact eG.lt h ai
  | tree rs=>
    obtain⟨r,aH,ai⟩:=ai;exact eG.lt (h.1 r aH) ai
theorem bd.ok.dY{B:Nat->Prop} {w w':World} {c:bd} (h:c.ok B w) (ab:∀ b,c.has b->w'.heap[b]?=w.heap[b]?):c.ok B w':=by
  cases c with
  | obj b o=>exact⟨h.1,(ab b rfl).trans h.2⟩
  | gv b cs e=>exact⟨h.1,(ab b rfl).trans h.2⟩
  | row A c e size n xs=>exact eG.dY h ab
  | tree rs=>exact⟨fun r aH=>eG.dY (h.1 r aH) fun b ai=>ab b ⟨r,aH,ai⟩,h.2⟩
theorem bd.ok.base{B B':Nat->Prop} {w:World} {c:bd} (h:c.ok B w) (cI:∀ b,c.has b->¬ B' b):c.ok B' w:=by
  cases c with
  | obj b o=>exact⟨cI b rfl,h.2⟩
  | gv b cs e=>exact⟨cI b rfl,h.2⟩
  | row A c e size n xs=>exact eG.base h cI
  | tree rs=>exact⟨fun r aH=>eG.base (h.1 r aH) fun b ai=>cI b ⟨r,aH,ai⟩,h.2⟩
section
variable {B:Nat->Prop} {ak w w':World} {H:List bd}
theorem bA.start(w:World):RD w [] w:=⟨da.refl _ _,fun _ h=>h,(fun _ h=>by cases h),List.Pairwise.nil⟩
theorem bA.RE(h:bA B ak H w) (ai:Below w.heap.size w w'):bA B ak H w':=
  ⟨h.below.trans (da.RB ai h.base),fun k ab=>Nat.lt_of_lt_of_le (h.base k ab) ai.size,fun c aa=>(h.ok c aa).dY fun b e=>ai.block b ((h.ok c aa).lt e).2,h.apart⟩
theorem bA.drew(h:bA B ak H w):bA B ak H w.drew:=⟨⟨h.below.os,h.below.tape,h.below.output,h.below.size,h.below.block⟩,h.base,fun c aa=>(h.ok c aa).dY fun _ _=>rfl,h.apart⟩
theorem bA.fresh(h:bA B ak H w):¬ B w.heap.size:=fun ai=>Nat.lt_irrefl _ (h.base _ ai)
theorem bA.alloc(h:bA B ak H w) (o:Obj):bA B ak (.obj w.heap.size o :: H) (w.alloc o):=by
  have ai:=h.RE ((Below.refl w.heap.size w).alloc (Nat.le_refl _) o);exact⟨ai.below,ai.base,fun c aa=>by
    rcases List.mem_cons.1 aa with rfl | aa
    · exact⟨h.fresh,heap_alloc_new w o⟩
    · exact ai.ok c aa,
   List.Pairwise.cons (fun c aa b e cv=>by have:=((h.ok c aa).lt cv).2; have e:w.heap.size=b:=Option.some.inj e; omega) h.apart⟩
theorem bA.wU(h:bA B ak H w) (cs:List Value) (e:TypeId):bA B ak (.gv w.heap.size cs e :: H) (w.alloc (.cells cs.toArray e)):=by
  have J:=h.alloc (.cells cs.toArray e);exact⟨J.below,J.base,fun c aa=>by
    rcases List.mem_cons.1 aa with rfl | aa
    · exact J.ok (.obj w.heap.size (.cells cs.toArray e)) (by simp)
    · exact J.ok c (List.mem_cons_of_mem _ aa),by
    obtain⟨U,ae⟩:=List.pairwise_cons.1 J.apart;exact List.Pairwise.cons (fun c aa b e=>U c aa b e) ae⟩
theorem bA.er(h:bA B ak H w) {H':List bd} (al:H'.Sublist H):bA B ak H' w:=
  ⟨h.below,h.base,fun c aa=>h.ok c (al.subset aa),h.apart.sublist al⟩
theorem bA.perm(h:bA B ak H w) {H':List bd} (ar:H.Perm H'):bA B ak H' w:=
  ⟨h.below,h.base,fun c aa=>h.ok c (ar.mem_iff.2 aa),(List.Perm.pairwise_iff (fun {c d} RF b e cv=>RF b cv e) ar).1 h.apart⟩
end
def fO(w:World) (H:List bd) (k:Nat):Prop:=k < w.heap.size/\∀ c∈H,¬ c.has k
theorem bA.rest{B:Nat->Prop} {ak w:World} {H:List bd} (h:bA B ak H w):bA (fO w H) w H w:=
  ⟨da.refl _ _,fun _ ab=>ab.1,fun c aa=>(h.ok c aa).base fun b e aH=>aH.2 c aa e,h.apart⟩
theorem bA.back{B:Nat->Prop} {ak w w':World} {H H':List bd} (h:bA B ak H w) (aN:bA (fO w H) w H' w'):bA B ak H' w':=by
  have aH:∀ k,B k->fO w H k:=fun k ab=>⟨h.base k ab,fun c aa e=>((h.ok c aa).lt e).1 ab⟩
  exact⟨h.below.trans ⟨aN.below.os,aN.below.tape,aN.below.output,aN.below.size,fun k ab=>aN.below.block k (aH k ab)⟩,fun k ab=>aN.base k (aH k ab),
    fun c aa=>(aN.ok c aa).base fun b e cI=>((aN.ok c aa).lt e).1 (aH b cI),aN.apart⟩
def iN(H:List bd) (c:bd) (K:bd->List bd):Prop:=∃ X Y,H=X++c :: Y/\K=fun c'=>X++c' :: Y
theorem uG{c:bd} {H:List bd}:iN (c :: H) c (fun c'=>c' :: H):=⟨[],H,rfl,rfl⟩
section
variable {B:Nat->Prop} {ak w w':World} {H:List bd} {c:bd} {K:bd->List bd}
theorem iN.mem(h:iN H c K):c∈H:=by obtain⟨X,Y,rfl,_⟩:=h; simp
theorem bA.so(h:bA B ak H w) (aA:iN H c K) {c':bd} (ai:da B w w') (aa:c'.ok B w')
    (jd:∀ b,c'.has b->c.has b\/w.heap.size<=b) (ab:∀ b,b < w.heap.size->¬ c.has b->w'.heap[b]?=w.heap[b]?):bA B ak (K c') w':=by
  obtain⟨X,Y,rfl,rfl⟩:=aA;have ar:=h.apart;have dY:∀ d∈X++c :: Y,bd.off c d->d.ok B w':=fun d ax bb=>(h.ok d ax).dY fun b e=>ab b ((h.ok d ax).lt e).2 (fun cv=>bb b cv e)
  rw[List.pairwise_append,List.pairwise_cons]at ar;obtain⟨av,⟨JV,cS⟩,DG⟩:=ar;refine⟨h.below.trans ai,fun k ab=>Nat.lt_of_lt_of_le (h.base k ab) ai.size,fun d ax=>?_,?_⟩
  · rcases List.mem_append.1 ax with ax | ax
    · exact dY d (by simp[ax]) (fun b e cv=>DG d ax c (by simp) b cv e)
    · rcases List.mem_cons.1 ax with rfl | ax
      · exact aa
      · exact dY d (by simp[ax]) (JV d ax)
  · rw[List.pairwise_append,List.pairwise_cons]
    refine⟨av,⟨fun d ax b e cv=>?_,cS⟩,fun d ax x ao b e cv=>?_⟩
    · rcases jd b e with a7 | a7
      · exact JV d ax b a7 cv
      · have:=((h.ok d (by simp[ax])).lt cv).2; omega
    · rcases List.mem_cons.1 ao with rfl | ao
      · rcases jd b cv with a7 | a7
        · exact DG d ax c (by simp) b e a7
        · have:=((h.ok d (by simp[ax])).lt e).2; omega
      · exact DG d ax x (by simp[ao]) b e cv
end
theorem eG.at{w:World} {B:Nat->Prop} {e:TypeId} {size c n:Nat} {A:Option Addr} {xs:List Value} (h:eG w B e size A c n xs) (bk:0 < n):∃ b,A=some ⟨b,0,none⟩:=by
  rcases h.2 with⟨_,aP,_⟩ | ⟨g,cur,dH,ad,_⟩
  · omega
  · exact⟨g,ad⟩
def fU.ds(r:fU):bd:=.row r.A r.c r.e r.size r.n r.xs
section
variable {B:Nat->Prop} {ak w:World} {H X Y:List bd} {r:fU} {I eM:List fU}
theorem bA.RG(h:bA B ak (.tree (r :: I) :: H) w):bA B ak (r.ds :: .tree I :: H) w:=by
  obtain⟨J,U⟩:=h.ok _ List.mem_cons_self;obtain⟨ae,aw⟩:=List.pairwise_cons.1 U;obtain⟨aF,aW⟩:=List.pairwise_cons.1 h.apart;refine⟨h.below,h.base,fun c aa=>?_,List.Pairwise.cons (fun c aa b ai dN=>?_) (List.Pairwise.cons (fun c aa b ai dN=>?_) aW)⟩
  · rcases List.mem_cons.1 aa with rfl | aa
    · exact J r List.mem_cons_self
    · rcases List.mem_cons.1 aa with rfl | aa
      · exact⟨fun s al=>J s (List.mem_cons_of_mem _ al),aw⟩
      · exact h.ok c (List.mem_cons_of_mem _ aa)
  · rcases List.mem_cons.1 aa with rfl | aa
    · obtain⟨s,al,hs⟩:=dN
      exact ae s al b ai hs
    · exact aF c aa b ⟨r,List.mem_cons_self,ai⟩ dN
  · obtain⟨s,al,hs⟩:=ai
    exact aF c aa b ⟨s,List.mem_cons_of_mem _ al,hs⟩ dN
theorem bA.DH(h:bA B ak (r.ds :: .tree I :: H) w):bA B ak (.tree (r :: I) :: H) w:=by
  have J:=h.ok _ List.mem_cons_self;obtain⟨U,DI⟩:=h.ok (.tree I) (by simp);obtain⟨ae,aw⟩:=List.pairwise_cons.1 h.apart;obtain⟨aF,aW⟩:=List.pairwise_cons.1 aw;refine⟨h.below,h.base,fun c aa=>?_,List.Pairwise.cons (fun c aa b ai dN=>?_) aW⟩
  · rcases List.mem_cons.1 aa with rfl | aa
    · refine⟨fun s al=>?_,List.Pairwise.cons (fun s al b ai dN=>ae (.tree I) List.mem_cons_self b ai ⟨s,al,dN⟩) DI⟩
      rcases List.mem_cons.1 al with rfl | al
      · exact J
      · exact U s al
    · exact h.ok c (by simp[aa])
  · obtain⟨s,al,hs⟩:=ai
    rcases List.mem_cons.1 al with rfl | al
    · exact ae c (List.mem_cons_of_mem _ aa) b hs dN
    · exact aF c aa b ⟨s,al,hs⟩ dN
theorem o1{c:bd}:(X++c :: Y).Perm (c :: (X++Y)):=List.perm_middle
theorem bA.zK(h:bA B ak (X++.tree (r :: I) :: Y) w):bA B ak (r.ds :: (X++.tree I :: Y)) w:=
  ((h.perm o1).RG).perm (List.Perm.cons _ o1.symm)
theorem bA.JW(h:bA B ak (r.ds :: (X++.tree I :: Y)) w):bA B ak (X++.tree (r :: I) :: Y) w:=
  ((h.perm (List.Perm.cons _ o1)).DH).perm o1.symm
theorem fU.RH{r s:fU} (h:r.off s):s.off r:=fun b J U=>h b U J
theorem bA.wV(h:bA B ak (X++.tree I :: Y) w) (al:∃ eJ,I.Perm eJ/\eM.Sublist eJ):bA B ak (X++.tree eM :: Y) w:=by
  obtain⟨eJ,ar,al⟩:=al;have hm:∀ s∈eM,s∈I:=fun s hs=>ar.mem_iff.2 (al.subset hs)
  have aN:=h.perm o1;obtain⟨J,U⟩:=aN.ok _ List.mem_cons_self;obtain⟨aF,aW⟩:=List.pairwise_cons.1 aN.apart;refine bA.perm (H:=.tree eM :: (X++Y)) ⟨h.below,h.base,fun c aa=>?_,List.Pairwise.cons (fun c aa b ai dN=>?_) aW⟩ o1.symm
  · rcases List.mem_cons.1 aa with rfl | aa
    · exact⟨fun s al=>J s (hm s al),((List.Perm.pairwise_iff (fun h=>fU.RH h) ar).1 U).sublist al⟩
    · exact aN.ok c (List.mem_cons_of_mem _ aa)
  · obtain⟨s,al,hs⟩:=ai
    exact aF c aa b ⟨s,hm s al,hs⟩ dN
end
end
section
structure Sym(n:Nat) (D:List Deferred) (L:List (Nat×Value)) (B:Nat->Prop) (ak:World) (H:List bd) (a:Act) (w:World):Prop where
 st:c9 n D L a
 aJ:bA B ak H w
theorem dB{a b:Nat} (h:Nat.blt a b=true):a < b:=Nat.le_of_ble_eq_true h
section
variable {r:Option Nat} {P:Program} {ops:Array Oper} {Q:Exit->Act->World->Prop} {o:Oper} {KK:Act->World->Prop}
variable {n:Nat} {D:List Deferred} {L:List (Nat×Value)} {B:Nat->Prop} {ak:World} {H:List bd} {a:Act} {w:World}
variable {T:List (TypeId×bz)} {d:Nat}
def fj(P:Program) (o:Oper) (a:Act) (v:Value):Prop:=∀ w,(execOp a.eval o).run P w=.ok (.value v) w
theorem Sym.aB(av:Sym n D L B ak H a w) {x:Operand} {v:Value} (ao:aB L x=some v):a.eval x=v:=av.st.aB ao
theorem pV{v:Value} {w':World} {H':List bd} (av:Sym n D L B ak H a w) (bb:o.guard=none/\o.dst=some d) (ax:Nat.blt d n=true)
  (dw:(execOp a.eval o).run P w=.ok (.value v) w') (dO:bA B ak H' w') (h:∀ aQ w',Sym n D ((d,v) :: L) B ak H' aQ w'->KK aQ w'):e3 P ops o KK a w:=
 fT av.st bb.1 bb.2 (dB ax) dw fun aQ aI=>h aQ w' ⟨aI,dO⟩
theorem JX{w':World} {H':List bd} (av:Sym n D L B ak H a w) (bb:o.guard=none/\o.dst=none)
  (dw:(execOp a.eval o).run P w=.ok .skip w') (dO:bA B ak H' w') (h:∀ aQ w',Sym n D L B ak H' aQ w'->KK aQ w'):e3 P ops o KK a w:=
 wS av.st bb.1 bb.2 dw fun aQ aI=>h aQ w' ⟨aI,dO⟩
theorem JY{x:Operand} {v:Value} (aI:c9 n D L a) (az:o.op=.move x)
  (ao:aB L x=some v):fj P o a (v):=fun w=>by simp only[execOp,az,Sem.run_pure,aI.aB ao]
theorem JZ{x:Operand} {v:Value} (aI:c9 n D L a) (az:o.op=.assign x)
  (ao:aB L x=some v):fj P o a (v):=fun w=>by simp only[execOp,az,Sem.run_pure,aI.aB ao]
theorem J0{c x y:Operand} {g:Bool} {v:Value} (aI:c9 n D L a) (az:o.op=.pick c x y)
  (aa:aB L c=some (.bool g)) (aM:g=true) (ao:aB L x=some v):fj P o a (v):=fun w=>by subst aM; simp[execOp,az,aI.aB aa,aI.aB ao,asBool]
theorem J1{c x y:Operand} {g:Bool} {v:Value} (aI:c9 n D L a) (az:o.op=.pick c x y)
  (aa:aB L c=some (.bool g)) (aM:g=false) (ao:aB L y=some v):fj P o a (v):=fun w=>by subst aM; simp[execOp,az,aI.aB aa,aI.aB ao,asBool]
theorem RI{x:Operand} {t:TypeId} {g:Bool} (aI:c9 n D L a) (az:o.op=.unOp .not t x)
  (ao:aB L x=some (.bool g)):fj P o a (.bool (!g)):=fun w=>by simp[execOp,az,aI.aB ao,Op.unary]
theorem J2{x:Operand} {k:Nat} {vs:List Value} {v:Value} (aI:c9 n D L a) (az:o.op=.extract x k)
  (ao:aB L x=some (.tuple vs.toArray)) (aE:vs[k]?=some v):fj P o a (v):=fun w=>by simp[execOp,az,aI.aB ao,Instr.extract,aE]
theorem RJ{fn:Fn} {xs:List Operand} {vs:List Value} (aI:c9 n D L a) (az:o.op=.makeFunc fn #[] xs.toArray) (aE:iA L xs=some vs):fj P o a (.func fn #[] vs.toArray):=fun w=>by
 simp[execOp,az,Instr.makeFunc,aI.iA aE]
theorem J3{k:IntKind} {u v:Operand} {t bR:TypeId} {x y z:Int} (aI:c9 n D L a) (az:o.op=.binOp .add t u v bR)
  (hu:aB L u=some (.int k x)) (aE:aB L v=some (.int k y)) (bP:k.wrap (x+y)=z):fj P o a (.int k z):=fun w=>by simp[execOp,az,aI.aB hu,aI.aB aE,eqGuard,binOp,Op.intArith,bP]
theorem RK{k:IntKind} {u v:Operand} {t bR:TypeId} {x y z:Int} (aI:c9 n D L a) (az:o.op=.binOp .sub t u v bR)
  (hu:aB L u=some (.int k x)) (aE:aB L v=some (.int k y)) (bP:k.wrap (x - y)=z):fj P o a (.int k z):=fun w=>by simp[execOp,az,aI.aB hu,aI.aB aE,eqGuard,binOp,Op.intArith,bP]
theorem RL{k:IntKind} {u v:Operand} {t bR:TypeId} {x y z:Int} (aI:c9 n D L a) (az:o.op=.binOp .mul t u v bR)
  (hu:aB L u=some (.int k x)) (aE:aB L v=some (.int k y)) (bP:k.wrap (x * y)=z):fj P o a (.int k z):=fun w=>by simp[execOp,az,aI.aB hu,aI.aB aE,eqGuard,binOp,Op.intArith,bP]
theorem RM{k:IntKind} {u v:Operand} {t bR:TypeId} {x y z:Int} (aI:c9 n D L a) (az:o.op=.binOp .quo t u v bR)
  (hu:aB L u=some (.int k x)) (aE:aB L v=some (.int k y)) (aP:y≠0) (bP:k.wrap (x.tdiv y)=z):fj P o a (.int k z):=fun w=>by simp[execOp,az,aI.aB hu,aI.aB aE,eqGuard,binOp,Op.intDiv,aP,bP]
theorem RN{k:IntKind} {u v:Operand} {t bR:TypeId} {x y z:Int} (aI:c9 n D L a) (az:o.op=.binOp .rem t u v bR)
  (hu:aB L u=some (.int k x)) (aE:aB L v=some (.int k y)) (aP:y≠0) (bP:x.tmod y=z):fj P o a (.int k z):=fun w=>by simp[execOp,az,aI.aB hu,aI.aB aE,eqGuard,binOp,Op.intDiv,aP,bP]
theorem RO{k:IntKind} {u v:Operand} {t bR:TypeId} {x y:Int} (aI:c9 n D L a) (az:o.op=.binOp .lss t u v bR)
  (hu:aB L u=some (.int k x)) (aE:aB L v=some (.int k y)):fj P o a (.bool (decide (x < y))):=fun w=>by simp[execOp,az,aI.aB hu,aI.aB aE,eqGuard,binOp,Op.intCmp]
theorem RP{k:IntKind} {u v:Operand} {t bR:TypeId} {x y:Int} (aI:c9 n D L a) (az:o.op=.binOp .leq t u v bR)
  (hu:aB L u=some (.int k x)) (aE:aB L v=some (.int k y)):fj P o a (.bool (decide (x<=y))):=fun w=>by simp[execOp,az,aI.aB hu,aI.aB aE,eqGuard,binOp,Op.intCmp]
theorem RQ{k:IntKind} {u v:Operand} {t bR:TypeId} {x y:Int} (aI:c9 n D L a) (az:o.op=.binOp .gtr t u v bR)
  (hu:aB L u=some (.int k x)) (aE:aB L v=some (.int k y)):fj P o a (.bool (decide (x > y))):=fun w=>by simp[execOp,az,aI.aB hu,aI.aB aE,eqGuard,binOp,Op.intCmp]
theorem RR{k:IntKind} {u v:Operand} {t bR:TypeId} {x y:Int} (aI:c9 n D L a) (az:o.op=.binOp .geq t u v bR)
  (hu:aB L u=some (.int k x)) (aE:aB L v=some (.int k y)):fj P o a (.bool (decide (x ≥ y))):=fun w=>by simp[execOp,az,aI.aB hu,aI.aB aE,eqGuard,binOp,Op.intCmp]
theorem RS{k:IntKind} {u v:Operand} {t bR:TypeId} {x y:Int} (aI:c9 n D L a) (az:o.op=.binOp .eql t u v bR)
  (hu:aB L u=some (.int k x)) (aE:aB L v=some (.int k y)):fj P o a (.bool (x == y)):=fun w=>by simp[execOp,az,aI.aB hu,aI.aB aE,eqGuard,binOp,Op.intCmp]
theorem RT{k:IntKind} {u v:Operand} {t bR:TypeId} {x y:Int} (aI:c9 n D L a) (az:o.op=.binOp .neq t u v bR)
  (hu:aB L u=some (.int k x)) (aE:aB L v=some (.int k y)):fj P o a (.bool (x != y)):=fun w=>by simp[execOp,az,aI.aB hu,aI.aB aE,eqGuard,binOp,Op.intCmp]
theorem RU{k:IntKind} {u v:Operand} {t bR:TypeId} {x y z:Int} (aI:c9 n D L a) (az:o.op=.binOp .and t u v bR)
  (hu:aB L u=some (.int k x)) (aE:aB L v=some (.int k y)) (bP:bits .and k x y=z):fj P o a (.int k z):=fun w=>by simp only[<- bP]; simp[execOp,az,aI.aB hu,aI.aB aE,eqGuard,binOp,Op.intBits,bits]
theorem RV{k:IntKind} {u v:Operand} {t bR:TypeId} {x y z:Int} (aI:c9 n D L a) (az:o.op=.binOp .or t u v bR)
  (hu:aB L u=some (.int k x)) (aE:aB L v=some (.int k y)) (bP:bits .or k x y=z):fj P o a (.int k z):=fun w=>by simp only[<- bP]; simp[execOp,az,aI.aB hu,aI.aB aE,eqGuard,binOp,Op.intBits,bits]
theorem RW{k:IntKind} {u v:Operand} {t bR:TypeId} {x y z:Int} (aI:c9 n D L a) (az:o.op=.binOp .xor t u v bR)
  (hu:aB L u=some (.int k x)) (aE:aB L v=some (.int k y)) (bP:bits .xor k x y=z):fj P o a (.int k z):=fun w=>by simp only[<- bP]; simp[execOp,az,aI.aB hu,aI.aB aE,eqGuard,binOp,Op.intBits,bits]
theorem RX{k k':IntKind} {u v:Operand} {t bR:TypeId} {x z:Int} {y:Nat} (aI:c9 n D L a) (az:o.op=.binOp .shl t u v bR)
  (hu:aB L u=some (.int k x)) (aE:aB L v=some (.int k' (y:Int))) (bP:k.wrap (x * 2 ^ (min y k.bits))=z):fj P o a (.int k z):=fun w=>by simp only[<- bP]; simp[execOp,az,aI.aB hu,aI.aB aE,eqGuard,binOp,Op.shift]; omega
theorem RY{k k':IntKind} {u v:Operand} {t bR:TypeId} {x z:Int} {y:Nat} (aI:c9 n D L a) (az:o.op=.binOp .shr t u v bR)
  (hu:aB L u=some (.int k x)) (aE:aB L v=some (.int k' (y:Int))) (bP:x.fdiv (2 ^ (min y k.bits))=z):fj P o a (.int k z):=fun w=>by simp only[<- bP]; simp[execOp,az,aI.aB hu,aI.aB aE,eqGuard,binOp,Op.shift]; omega
theorem RZ{k k':IntKind} {u:Operand} {t bR:TypeId} {i i':bz} {x z:Int} (aI:c9 n D L a) (az:o.op=.convert t bR u)
  (ca:gd P T) (J:T.lookup t=some i) (U:T.lookup bR=some i') (ae:i'.desc=.int k') (hu:aB L u=some (.int k x)) (bP:k'.wrap x=z):fj P o a (.int k' z):=fun w=>by have aC:=(ca _ _ J).1; have a7:=(ca _ _ U).1; rw[ae]at a7; simp[execOp,az,aI.aB hu,convert,run_underlying aC,run_underlying a7,Conv.intToInt,bP]
theorem uH{u:Operand} {t:TypeId} {i:bz} {e:TypeId} {A:Option Addr} {m c:Nat} (aI:c9 n D L a) (az:o.op=.call { callee:=.builtin .len,args:=#[u],argTypes:=#[t] })
  (ca:gd P T) (J:T.lookup t=some i) (U:i.desc=.slice e) (hu:aB L u=some (.slice A m c)):fj P o a (.int .i64 (m:Int)):=fun w=>by have aC:=(ca _ _ J).1; rw[U]at aC; simp[execOp,az,resolve,invoke,builtin,Builtin.len_,aI.aB hu,run_underlying aC,goInt]
theorem DJ{u:Operand} {t:TypeId} {i:bz} {e:TypeId} {A:Option Addr} {m c:Nat} (aI:c9 n D L a) (az:o.op=.call { callee:=.builtin .cap,args:=#[u],argTypes:=#[t] })
  (ca:gd P T) (J:T.lookup t=some i) (U:i.desc=.slice e) (hu:aB L u=some (.slice A m c)):fj P o a (.int .i64 (c:Int)):=fun w=>by have aC:=(ca _ _ J).1; rw[U]at aC; simp[execOp,az,resolve,invoke,builtin,Builtin.cap_,aI.aB hu,run_underlying aC,goInt]
theorem DK{u:Operand} {t:TypeId} {k:Nat} {i i':bz} {dD:Array Field} {J4 pW R0:String} {ty:TypeId} {off R1:Nat} {em:Bool} {b p:Nat} (aI:c9 n D L a) (az:o.op=.fieldAddr t u k)
  (ca:gd P T) (J:T.lookup t=some i) (U:i.desc=.struct dD) (ae:dD[k]?=some ⟨J4,ty,off,em,pW,R0,R1⟩) (aw:T.lookup ty=some i') (aF:Nat.blt 0 i'.size=true) (hu:aB L u=some (.pointer (some ⟨b,p,none⟩))) :
  fj P o a (.pointer (some ⟨b,p+off,none⟩)):=fun w=>by
 have aC:=(ca _ _ J).1;rw[U]at aC;have a7:=bz.run_sizeOf (ca _ _ aw);have cC:i'.size≠0:=(Nat.pos_iff_ne_zero.1 (dB aF))
 simp[execOp,az,aI.aB hu,Instr.fieldAt,run_underlying aC,ae,Instr.sureAddr,fieldPlace,a7,cC,Addr.add_lit]
theorem zL{u x:Operand} {t e:TypeId} {i i':bz} {b p m c j:Nat} {k:IntKind} {z:Int} (aI:c9 n D L a) (az:o.op=.indexAddr t u x)
  (ca:gd P T) (J:T.lookup t=some i) (U:i.desc=.slice e) (aw:T.lookup e=some i') (hu:aB L u=some (.slice (some ⟨b,p,none⟩) m c)) (ao:aB L x=some (.int k z)) (bP:z=(j:Int)) (aX:j < m):fj P o a (.pointer (some ⟨b,p+j * i'.size,none⟩)):=fun w=>by subst bP; have aC:=(ca _ _ J).1; rw[U]at aC; have a7:=bz.run_sizeOf (ca _ _ aw); simp[execOp,az,aI.aB hu,aI.aB ao,Instr.indexAt,asIntOf,run_underlying aC,a7,Addr.add_lit,aX]
end
end
section
section
variable {r:Option Nat} {P:Program} {ops:Array Oper} {Q:Exit->Act->World->Prop} {o:Oper} {KK:Act->World->Prop}
variable {n:Nat} {D:List Deferred} {L:List (Nat×Value)} {B:Nat->Prop} {ak:World} {H:List bd} {a:Act} {w:World}
variable {T:List (TypeId×bz)} {d:Nat} {K:bd->List bd}
theorem DL(dO:bA B ak H w) {b:Nat} {cs:List Value} {e:TypeId} (aA:iN H (.gv b cs e) K):w.heap[b]?=some (.cells cs.toArray e):=(dO.ok _ aA.mem).2
theorem zM(dO:bA B ak H w) {b:Nat} {cs:List Value} {e:TypeId} (aA:iN H (.gv b cs e) K) (j:Nat):w.cell? ⟨b,j,none⟩=cs[j]?:=by
 simp[World.cell?,DL dO aA]
theorem bA.o2(dO:bA B ak H w) {b:Nat} {cs hI:List Value} {e:TypeId} (aA:iN H (.gv b cs e) K) {w':World}
  (hw:w'.os=w.os/\w'.tape=w.tape/\w'.output=w.output/\w'.heap.size=w.heap.size) (ai:w'.heap[b]?=some (.cells hI.toArray e)) (bb:∀ k,k≠b->w'.heap[k]?=w.heap[k]?) :
  bA B ak (K (.gv b hI e)) w':=by
 have aa:=dO.ok _ aA.mem;refine dO.so aA ⟨hw.1,hw.2.1,hw.2.2.1,Nat.le_of_eq hw.2.2.2.symm,fun k ab=>bb k (fun cv=>by subst cv; exact aa.1 ab)⟩ ⟨aa.1,ai⟩ (fun b' cv=>.inl cv) fun b' _ cL=>bb b' (fun cv=>cL (by subst cv; rfl))
theorem R2{t:TypeId} {i:bz} (hi:bz.ok P t i) (U:jq i.desc=true) {b p:Nat} {vs:List Value} (ag:vs.length=i.size) (aa:∀ j v,vs[j]?=some v->w.cell? ⟨b,p+j,none⟩=some v) :
  (loadVar t ⟨b,p,none⟩).run P w=.ok (.agg vs.toArray) w:=by
 have:=run_loadCells_list (P:=P) w ⟨b,p,none⟩ vs (fun j v aX=>by rw[Addr.add_lit]; exact aa j v aX)
 rw[ag]at this
 simp[loadVar,bz.wT hi,U,bz.run_sizeOf hi,this]
theorem R3{t:TypeId} {i:bz} (hi:bz.ok P t i) {b p:Nat} {v:Value} {cs:List Value} {e:TypeId} (ai:w.heap[b]?=some (.cells cs.toArray e)) (al:v.cells.size=i.size)
  (J:∀ u∈v.cells.toList,u.oneCell'=true) (ar:p+v.cells.size<=cs.length) :
  (storeVar t ⟨b,p,none⟩ v).run P w=.ok () (w.setRow b (cs.take p++v.cells.toList++cs.drop (p+v.cells.size)).toArray):=by
 have U:=run_storeCells_at P b p e v.cells.toList 0 cs.toArray w ai (by simpa using ar) J;simp only[Nat.add_zero]at U;unfold storeVar
 simp[bz.run_sizeOf hi,al,U]
end
end
section
theorem R4{z:Int} (J:-9223372036854775808<=z) (U:z<=9223372036854775807):IntKind.i64.wrap z=z:=by rw[IntKind.wrap_i64]; omega
def oh(P:Program) (f:FuncId) (args:Array Value) (w:World) (R:Value->World->Prop):Prop:=
 Calls P f args w fun e w'=>∃ v,e=.returned v/\R v w'
theorem oh.mono{P:Program} {f:FuncId} {args:Array Value} {w:World} {R pX:Value->World->Prop} (h:oh P f args w R) (aH:∀ v w',R v w'->pX v w'):oh P f args w pX:=
 Calls.mono h fun _ _ ⟨v,e,aE⟩=>⟨v,e,aH v _ aE⟩
section
variable {r:Option Nat} {P:Program} {ops:Array Oper} {Q:Exit->Act->World->Prop} {o:Oper} {KK:Act->World->Prop}
variable {n:Nat} {D:List Deferred} {L:List (Nat×Value)} {B:Nat->Prop} {ak:World} {H:List bd} {a:Act} {w:World}
variable {T:List (TypeId×bz)} {d:Nat}
theorem q1(av:Sym n D L B ak H a w) {j s:Nat} {want g:Bool} (aM:o.guard=some (j,want)) (aX:(ops[j]?).bind (·.dst)=some s) (al:L.lookup s=some (.bool g)) :
  Region.wanted o (yielded ops a.tmps)=(g == want):=by
 have J:=av.st.has s _ al;have U:yielded ops a.tmps j=some g:=by simp[yielded,aX,J]
 simp only[Region.wanted,aM,U];cases g<;>cases want<;>rfl
theorem zN(av:Sym n D L B ak H a w) {j s:Nat} {want:Bool} (aM:o.guard=some (j,want)) (aX:(ops[j]?).bind (·.dst)=some s) (al:L.lookup s=some undef) :
  Region.wanted o (yielded ops a.tmps)=false:=by
 have J:=av.st.has s _ al;have U:yielded ops a.tmps j=none:=by simp[yielded,aX,J,undef]
 simp only[Region.wanted,aM,U]
 rfl
theorem R5{f:FuncId} {fn:Func} {xs:List Operand} {fc:Array TypeId} {vs:List Value} (az:o.op=.call { callee:=.value (.func f),args:=xs.toArray,argTypes:=fc }) (fP:P.funcs[f]?=some fn)
  (bk : (fn.name == "runtime.NumGoroutine") = false) (ai : fn.body.isNone = false) (aE : xs.map a.eval = vs) : (execOp a.eval o).run P w = .ok (.enter f vs.toArray) w := by
 have e:a.eval (.func f)=.func (.func f) #[] #[]:=rfl
 have hj : fn.name ≠ "runtime.NumGoroutine" := by simpa using bk
 have dN:fn.body≠none:=by intro h; rw[h]at ai; cases ai
 simp[execOp,az,resolve,e,Deferred.ofValue,invoke,callFunc,program,Sem.run,fP,hj,dN,aE]
theorem J5{f:FuncId} {fn:Func} {xs:List Operand} {fc:Array TypeId} {vs:List Value} {R:Value->World->Prop} (av:Sym n D L B ak H a w)
  (az:o.op=.call { callee:=.value (.func f),args:=xs.toArray,argTypes:=fc }) (bb:o.guard=none/\o.dst=some d) (ax:Nat.blt d n=true)
  (fP : P.funcs[f]? = some fn) (bk : (fn.name == "runtime.NumGoroutine") = false) (ai : fn.body.isNone = false) (aE : iA L xs = some vs) (dt : oh P f vs.toArray w R)
  (h:∀ v aQ w',R v w'->c9 n D ((d,v) :: L) aQ->KK aQ w'):e3 P ops o KK a w:=by
 refine .inl ⟨by simp[Region.wanted,bb.1],.inr (.inr ⟨f,vs.toArray,w,R5 az fP bk ai (av.st.iA aE),?_⟩)⟩;refine Calls.mono dt ?_;rintro e w' ⟨v,rfl,fV⟩;exact⟨v,rfl,h v _ w' fV (by rw[bb.2]; exact av.st.put d v (dB ax))⟩
/-! ### Control -/
variable {c fe cz:Code}
abbrev ky (r:Option Nat) (P:Program) (c:Code) (Q:Exit->Act->World->Prop) (a:Act) (w:World):Prop:=c.wpIn (WF r) 0 P Q a w
theorem R6(h:∀ K:Act->World->Prop,(∀ a w,ky r P cz Q a w->K a w)->ky r P fe (Exit.then K Q) a w):ky r P (.seq fe cz) Q a w:=wpIn_seq_k h
theorem DM{id:Nat} {l:List Oper} (h:pU r P l.toArray Q l a w):ky r P (.region id l.toArray false) Q a w:=wpIn_region_lit h
theorem J6(h:Q .normal a w):ky r P .skip Q a w:=wpIn_skip h
theorem DN{id:Nat} (h:Q (.exit id) a w):ky r P (.exit id) Q a w:=wpIn_exit h
theorem R7(h:Q .ret a w):ky r P .ret Q a w:=wpIn_ret h
theorem J7{id:Nat} (h:ky r P c (Exit.inBlock id Q) a w):ky r P (.block id c) Q a w:=wpIn_block h
theorem J8{x:Operand} {g:Bool} (av:Sym n D L B ak H a w) (ao:aB L x=some (.bool g)) (J:g=true->ky r P fe Q a w) (aP:g=false->ky r P cz Q a w):ky r P (.cond x fe cz) Q a w:=
 wpIn_cond_split (av.aB ao) J aP
theorem R8{id:Nat} (h:Q .normal a w):Exit.inBlock id Q (.exit id) a w:=by simpa [Exit.inBlock] using h
theorem R9{id jr:Nat} (cL:Nat.beq jr id=false) (h:Q (.exit jr) a w):Exit.inBlock id Q (.exit jr) a w:=by
 have:jr≠id:=Nat.ne_of_beq_eq_false cL
 simpa [Exit.inBlock,this] using h
theorem least(S:Nat->Prop) (h:∃ k,S k):∃ k,S k/\∀ j,S j->k<=j:=by
 obtain⟨k,ab⟩:=h
 induction k using Nat.strongRecOn with
 | _ k bx=>
  by_cases e:∃ j,j < k/\S j
  ·obtain⟨j,aX,al⟩:=e; exact bx j aX al
  ·exact⟨k,ab,fun j aX=>Nat.le_of_not_lt fun br=>e ⟨j,br,aX⟩⟩
noncomputable def uI (S:Nat->Prop):Nat:=by
 classical
 exact if h:∃ k,S k then Classical.choose (least S h)else 0
theorem Sa{S:Nat->Prop} {k:Nat} (h:S k):uI S<=k:=by
 unfold uI; rw[dif_pos ⟨k,h⟩]; exact(Classical.choose_spec (least S ⟨k,h⟩)).2 k h
theorem Sb{S:Nat->Prop} {k:Nat} (h:S k):S (uI S):=by
 unfold uI; rw[dif_pos ⟨k,h⟩]; exact(Classical.choose_spec (least S ⟨k,h⟩)).1
theorem J9{α:Type} (M:α->Act->World->Prop) (m:α->Nat) (x:α) (aP:M x a w)
  (aH:∀ x a w,M x a w->ky r P c (Exit.then (fun aQ w'=>∃ y,M y aQ w'/\m y < m x) Q) a w):ky r P (.loop c) Q a w:=by
 refine wpIn_loop (fun a w=>∃ x,M x a w) (fun a w=>uI fun k=>∃ x,M x a w/\m x=k) ⟨x,aP⟩ ?_;rintro a w ⟨y,aV⟩;obtain⟨z,bP,hm⟩:=Sb (S:=fun k=>∃ x,M x a w/\m x=k) (k:=m y) ⟨y,aV,rfl⟩;refine wpIn_mono (aH z a w bP) ?_;intro e aQ w' au;cases e with
 | normal=>
  obtain⟨u,hu,br⟩:=au;refine⟨⟨u,hu⟩,?_⟩
  have:=Sa (S:=fun k=>∃ x,M x aQ w'/\m x=k) (k:=m u) ⟨u,hu,rfl⟩
  show _ < uI _;rw[<- hm];omega
 | _=>exact au
/-! ### Beginning and end -/
theorem Sc{N:Nat} (vs:List Value) (bF:vs.length<=N):(vs.toArray++Array.replicate (N - vs.toArray.size) undef).size=N:=by simp; omega
end
end
section
section
variable {P:Program} {ops:Array Oper} {Q:Exit->Act->World->Prop} {o:Oper} {KK:Act->World->Prop}
variable {n:Nat} {D:List Deferred} {L:List (Nat×Value)} {B:Nat->Prop} {ak:World} {H:List bd} {a:Act} {w:World}
variable {d:Nat} {S:World->Prop} {listed Ka:Array Bool} {fuel:Nat}
end
end
end Go.Proofs.YtcheedjfedcbpaaGreatDoor
namespace Go.Proofs.YtcheedjfedcbpaaGreatDoor
open Go.RowKit
section
variable {r:Option Nat} {P:Program} {ops:Array Oper} {Q:Exit->Act->World->Prop} {o:Oper} {KK:Act->World->Prop}
variable {n:Nat} {D:List Deferred} {L dR:List (Nat×Value)} {B:Nat->Prop} {ak:World} {H H':List bd} {a:Act} {w:World}
variable {d:Nat} {c:Code}
end
end Go.Proofs.YtcheedjfedcbpaaGreatDoor
namespace Go.Proofs.YtcheedjfedcbpaaGreatDoor
end Go.Proofs.YtcheedjfedcbpaaGreatDoor
namespace Go.Proofs.YtcheedjfedcbpaaGreatDoor
end Go.Proofs.YtcheedjfedcbpaaGreatDoor
namespace Go.Proofs.YtcheedjfedcbpaaGreatDoor
end Go.Proofs.YtcheedjfedcbpaaGreatDoor
namespace Go.Proofs.YtcheedjfedcbpaaGreatDoor
end Go.Proofs.YtcheedjfedcbpaaGreatDoor
namespace Go.Proofs.YtcheedjfedcbpaaGreatDoor
open Go.RowKit
section
theorem zO{P:Program} {t:TypeId} {k:IntKind} (h:P.underlying t=some (.int k)) (b:Bool) (n:Nat) (x:Int) (w:World) :
  (Instr.checkKey b (n+1) t (.int k x)).run P w=.ok () w:=by
 simp[Instr.checkKey,run_underlying h]
section
variable {P:Program} {ops:Array Oper} {o:Oper} {KK:Act->World->Prop}
variable {n:Nat} {D:List Deferred} {L:List (Nat×Value)} {B:Nat->Prop} {ak:World} {H:List bd} {a:Act} {w:World}
variable {T:List (TypeId×bz)} {d:Nat} {K:bd->List bd}
theorem bA.sq(dO:bA B ak H w) {b:Nat} {x x':Obj} (aA:iN H (.obj b x) K) :
  bA B ak (K (.obj b x')) { w with heap:=w.heap.setIfInBounds b x' }:=by
 have aa:=dO.ok _ aA.mem;have br:=(Array.getElem?_eq_some_iff.1 aa.2).1;have bb:∀ k,k≠b->(w.heap.setIfInBounds b x')[k]?=w.heap[k]?:=fun k ab=>Array.getElem?_setIfInBounds_ne (Ne.symm ab)
 refine dO.so aA ⟨rfl,rfl,rfl,by simp,fun k ab=>bb k (fun cv=>by subst cv; exact aa.1 ab)⟩ ⟨aa.1,by simp[br]⟩ (fun b' cv=>.inl cv) fun b' _ cL=>bb b' (fun cv=>cL (by subst cv; rfl))
end
end
end Go.Proofs.YtcheedjfedcbpaaGreatDoor
namespace Go.Proofs.YtcheedjfedcbpaaGreatDoor
open Go.RowKit
section
variable {P:Program} {o:Oper} {n:Nat} {D:List Deferred} {L:List (Nat×Value)} {a:Act} {T:List (TypeId×bz)}
theorem Sd{u v:Operand} {t bR:TypeId} {i:bz} {x y:Bool} (aI:c9 n D L a) (az:o.op=.binOp .eql t u v bR) (ca:gd P T) (J:T.lookup t=some i) (U:i.desc=.bool) (hu:aB L u=some (.bool x)) (aE:aB L v=some (.bool y)):fj P o a (.bool (x == y)):=fun w=>by
 have aC:=(ca _ _ J).1;rw[U]at aC
 have:(Op.equal t (.bool x) (.bool y)).run P w=.ok (x == y) w:=run_equalIn_bool w 9999 t x y aC
 simp[execOp,az,aI.aB hu,aI.aB aE,eqGuard,binOp,this]
theorem Se{u v:Operand} {t bR:TypeId} {i:bz} {x y:Bool} (aI:c9 n D L a) (az:o.op=.binOp .neq t u v bR) (ca:gd P T) (J:T.lookup t=some i) (U:i.desc=.bool) (hu:aB L u=some (.bool x)) (aE:aB L v=some (.bool y)):fj P o a (.bool (x != y)):=fun w=>by
 have aC:=(ca _ _ J).1;rw[U]at aC
 have:(Op.equal t (.bool x) (.bool y)).run P w=.ok (x == y) w:=run_equalIn_bool w 9999 t x y aC
 simp[execOp,az,aI.aB hu,aI.aB aE,eqGuard,binOp,this,bne]
theorem Sf{u v:Operand} {t bR:TypeId} {x y:ByteArray} (aI:c9 n D L a) (az:o.op=.binOp .eql t u v bR) (hu:aB L u=some (.string x)) (aE:aB L v=some (.string y)):fj P o a (.bool (x.toList == y.toList)):=fun w=>by
 simp[execOp,az,aI.aB hu,aI.aB aE,eqGuard,binOp,Op.stringOp]
theorem Sg{u v:Operand} {t bR:TypeId} {x y:ByteArray} (aI:c9 n D L a) (az:o.op=.binOp .neq t u v bR) (hu:aB L u=some (.string x)) (aE:aB L v=some (.string y)):fj P o a (.bool (!(x.toList == y.toList))):=fun w=>by
 simp[execOp,az,aI.aB hu,aI.aB aE,eqGuard,binOp,Op.stringOp]
theorem Sh{u v:Operand} {t bR:TypeId} {x y:Array Value} {r:Bool} (aI:c9 n D L a) (az:o.op=.binOp .eql t u v bR) (hu:aB L u=some (.agg x)) (aE:aB L v=some (.agg y)) (hm:P.eqGuardType P.depth t=false)
  (he:∀ w,(Op.equalIn 10000 t (.agg x) (.agg y)).run P w=.ok r w):fj P o a (.bool r):=fun w=>by
 simp[execOp,az,aI.aB hu,aI.aB aE,run_eqGuard_agg w .eql t u v x y hm,run_eql_struct,he w]
theorem Si{u v:Operand} {t bR:TypeId} {x y:Array Value} {r:Bool} (aI:c9 n D L a) (az:o.op=.binOp .neq t u v bR) (hu:aB L u=some (.agg x)) (aE:aB L v=some (.agg y)) (hm:P.eqGuardType P.depth t=false)
  (he:∀ w,(Op.equalIn 10000 t (.agg x) (.agg y)).run P w=.ok r w):fj P o a (.bool (!r)):=fun w=>by
 simp[execOp,az,aI.aB hu,aI.aB aE,run_eqGuard_agg w .neq t u v x y hm,run_neq_struct,he w]
end
end Go.Proofs.YtcheedjfedcbpaaGreatDoor
namespace Go.Proofs.YtcheedjfedcbpaaGreatDoor
theorem Sj{P:Program} (w:World) (d:Nat) (t:TypeId) (xs bJ:Array Value) {dD:List Field} (h:P.underlying t=some (.struct dD.toArray)) (ar:P.stoodInHeld t=false) :
  (Op.equalIn (d+1) t (.agg xs) (.agg bJ)).run P w=(Op.eqFields d xs bJ dD).run P w:=by
 have aA:P.fieldsOf t=dD.toArray:=by simp[Program.fieldsOf,h]
 rw[run_equalIn_struct w d t xs bJ (by rw[aA]; exact h) ar,aA]
end Go.Proofs.YtcheedjfedcbpaaGreatDoor
namespace Go.Proofs.YtcheedjfedcbpaaGreatDoor
open Go.RowKit
/-! ### The memory ya a row -/
section
variable {w:World} {B:Nat->Prop} {e:TypeId} {size n c:Nat} {A:Option Addr} {xs:List Value}
theorem wW(g:Nat) (e:TypeId) (dH:Nat×Nat):∀ (vs:List Value) (o:Nat) (w:World) (cur:Array Value),w.heap[g]?=some (.cells cur e dH)->o+vs.length<=cur.size ->
  w.setCells g o vs=w.setRow g (cur.toList.take o++vs++cur.toList.drop (o+vs.length)).toArray
 | [],o,w,cur,aM,_=>by
  simp only[World.setCells,List.append_nil,List.length_nil,Nat.add_zero,List.take_append_drop,Array.toArray_toList];exact(setRow_self w g cur e dH aM).symm
 | v :: vs,o,w,cur,aM,ag=>by
  simp only[List.length_cons]at ag;have J:w.setCell ⟨g,o,none⟩ v=w.setRow g (cur.setIfInBounds o v):=by
   unfold World.setCell World.setRow
   congr 1
   apply Array.ext
   ·simp
   ·intro i J U
    simp only[Array.getElem_modify]
    split
    ·rename_i hi
     subst hi;rw[(Array.getElem?_eq_some_iff.1 aM).2]
     simp
    ·rfl
  have U:=setRow_heap w g cur (cur.setIfInBounds o v) e dH aM;rw[World.setCells,J,wW g e dH vs (o+1) _ _ U (by simp; omega),setRow_setRow]
  congr 1
  apply congrArg List.toArray
  rw[Array.toList_setIfInBounds,List.take_succ_eq_append_getElem (by simp; omega)];simp only[List.getElem_set_self,List.append_assoc,List.length_cons];rw[List.take_set_of_le (by omega),List.drop_set_of_lt (by omega)]
  simp[Nat.add_comm,Nat.add_left_comm]
theorem eG.cells(h:eG w B e size A c n xs) {g:Nat} (ad:A=some ⟨g,0,none⟩) (j:Nat) (aX:j < n * size):w.cell? ⟨g,j,none⟩=xs[j]?:=by
 rcases h.2 with⟨J,_⟩ | ⟨g',cur,dH,J,_,cB,_,_,_,_,aZ⟩
 ·rw[ad]at J; cases J
 ·rw[ad]at J
  have:g=g':=by injection J with J; injection J
  subst this;rw[<- aZ,List.getElem?_take,if_pos aX]
  simp[World.cell?,cB]
theorem eG.le(h:eG w B e size A c n xs):n<=c/\c<=maxLen:=by
 rcases h.2 with⟨_,J,U⟩ | ⟨g',cur,dH,J,_,cB,_,J,U,_,aZ⟩
 ·subst J; subst U; exact⟨Nat.le_refl _,Nat.zero_le _⟩
 ·exact⟨J,U⟩
end
section
variable {P:Program} {w:World}
theorem Sk{B:Nat->Prop} {t ty e:TypeId} {i:bz} (aZ:P.underlying t=some (.slice e)) (hi:bz.ok P e i) (cQ:0 < i.size) (mA:i.zero.cells.size=i.size)
  {A:Option Addr} {c n:Nat} {xs:List Value} (e4:eG w B e i.size A c n xs)
  {b:Nat} {p m cc:Nat} {news:List Value} (ag:news.length=m * i.size) (Sl:∀ j u,news[j]?=some u->w.cell? ⟨b,p+j,none⟩=some u) (J:∀ u∈news,u.oneCell'=true)
  (Kb:(n+m) * i.bytes<=140737488355328) (hm:n+m<=140737488355328) (q2:¬ B w.heap.size) :
  ∃ cj c' w',(Builtin.append_ #[t,t] ty #[.slice A n c,.slice (some ⟨b,p,none⟩) m cc]).run P w=.ok (.slice cj (n+m) c') w'/\eG w' B e i.size cj c' (n+m) (xs++news) /\
   w'.os=w.os/\w'.tape=w.tape/\w'.output=w.output/\w.heap.size<=w'.heap.size /\
   (∀ k,k < w.heap.size->A.map (·.block)≠some k->w'.heap[k]?=w.heap[k]?)/\(∀ k,cj.map (·.block)=some k->A.map (·.block)=some k\/w.heap.size<=k)/\(n+m<=c->c'=c):=by
 obtain⟨inf,o3,fk,iB,lR⟩:=bz.info hi;have hlen:(xs++news).length=(n+m) * i.size:=by rw[List.length_append,e4.1,ag,Nat.add_mul]
 have DO:∀ j v,news[j]?=some v->w.cell? ((⟨b,p,none⟩:Addr).add j)=some v:=fun j v aX=>by rw[Addr.add_lit]; exact Sl j v aX
 have Sm:n+m<=maxLen:=by simp only[maxLen]; omega
 have grown:∀ (nI:Nat),nI < n+m ->
   eG (w.drew.alloc (.cells (xs.toArray++news.toArray++Builtin.zeroCells i.zero.cells (grownCap w (n+m) nI e - (n+m))) e)) B e i.size (some ⟨w.heap.size,0,none⟩) (grownCap w (n+m) nI e) (n+m) (xs++news):=by
  intro nI _;have q3:=grownCap_ge w (n+m) nI e;have h6:grownCap w (n+m) nI e<=maxLen:=grownCap_le_maxLen w (n+m) nI e Sm;refine⟨hlen,.inr ⟨w.heap.size,_,(0,0),rfl,q2,heap_alloc_new w.drew _,.inl rfl,q3,h6,?_,?_⟩⟩
  ·simp only[Array.size_append,List.size_toArray,size_zeroCells,mA,e4.1,ag,<- Nat.add_mul]
   congr 1
   omega
  ·simp only[Array.toList_append,List.append_assoc]
   rw[<- List.append_assoc,<- hlen];exact List.take_left
 have blk:∀ o k,k < w.heap.size->(w.drew.alloc o).heap[k]?=w.heap[k]?:=fun o k ab=>Below.heap_alloc w.drew o k ab
 rcases e4.2 with⟨rfl,rfl,rfl⟩ | ⟨g,cur,dH,rfl,o4,aM,kz,oi,h6,gg,o5⟩
 ·have ao:xs=[]:=List.eq_nil_of_length_eq_zero (by simpa using e4.1)
  subst ao
  by_cases pY:m=0
  ·subst pY
   have bk:news=[]:=List.eq_nil_of_length_eq_zero (by simpa using ag);subst bk;refine⟨none,0,w,?_,by simpa using e4,rfl,rfl,rfl,Nat.le_refl _,fun _ _ _=>rfl,(fun k h=>by cases h),fun _=>rfl⟩
   simp[Builtin.append_,run_underlying aZ,sizeOf,typeInfo,o3,Builtin.lenOf,Builtin.firstCells,loadCells,loadCellsFrom]
  ·have aH:=run_append_nil (P:=P) w t ty e inf i.zero aZ o3 lR ⟨b,p,none⟩ m cc news (by rw[ag,fk]) DO (by omega) (by omega) (by rw[iB]; have:=Kb; simp only[Nat.zero_add]at this; omega)
   have j9:=grown 0 (by omega);simp only[Nat.zero_add,List.nil_append,Array.empty_append]at j9 ⊢;exact⟨_,_,_,aH,j9,rfl,rfl,rfl,by simp,fun k ab _=>blk _ k ab,fun k ab=>.inr (by simp at ab; omega),fun aa=>by omega⟩
 ·have holds:∀ j u,xs[j]?=some u->w.cell? ((⟨g,0,none⟩:Addr).add j)=some u:=fun j u hu=>by
   rw[Addr.add_lit,Nat.zero_add];have aX:j < n * i.size:=by have:=(List.getElem?_eq_some_iff.1 hu).1; rw[e4.1]at this; exact this
   rw[e4.cells rfl j aX];exact hu
  by_cases q4:n+m<=c
  ·have wX:n * i.size+news.length<=cur.size:=by rw[ag,gg,<- Nat.add_mul]; exact Nat.mul_le_mul_right _ q4
   have aA:=run_firstCells_some (P:=P) w i.size m ⟨b,p,none⟩ m cc news ag DO;have dZ:=run_storeCells_cells (P:=P) g (n * i.size) news 0 w (fun j aX=>by
     simp only[World.cell?,aM]
     simp; omega) (fun j aX=>by
     simp only[World.frozen?,aM]
     rcases kz with h | h
     ·simp; omega
     ·simp; omega) J
   rw[Nat.add_zero,wW g e dH news _ w cur aM wX]at dZ;have dw:(Builtin.append_ #[t,t] ty #[.slice (some ⟨g,0,none⟩) n c,.slice (some ⟨b,p,none⟩) m cc]).run P w =
     .ok (.slice (some ⟨g,0,none⟩) (n+m) c) (w.setRow g (cur.toList.take (n * i.size)++news++cur.toList.drop (n * i.size+news.length)).toArray):=by
    simp[Builtin.append_,run_underlying aZ,sizeOf,typeInfo,o3,fk,Builtin.lenOf,q4,aA,Addr.add_lit,dZ]
   refine⟨some ⟨g,0,none⟩,c,_,dw,⟨hlen,.inr ⟨g,_,dH,rfl,o4,setRow_heap w g cur _ e _ aM,?_,q4,h6,?_,?_⟩⟩,rfl,rfl,rfl,by simp,fun k _ ab=>setRow_other w g k _ (fun cv=>ab (by simp[cv])),fun k ab=>.inl ab,fun _=>rfl⟩
   ·rcases kz with h | h
    ·exact .inl h
    ·exact .inr (by simp; omega)
   ·simp only[List.size_toArray,List.length_append,List.length_take,List.length_drop,Array.length_toList]
    omega
   ·rw[o5,<- hlen]
    exact List.take_left
  ·have aH:=run_append_grow (P:=P) w t ty e inf i.zero aZ o3 lR ⟨g,0,none⟩ n c xs (by rw[e4.1,fk]) holds ⟨b,p,none⟩ m cc news (by rw[ag,fk]) DO (by omega) (by omega) (growslice_fits (by omega) (by rw[iB]; exact Kb))
   exact⟨_,_,_,aH,grown c (by omega),rfl,rfl,rfl,by simp,fun k ab _=>blk _ k ab,fun k ab=>.inr (by simp at ab; omega),fun aa=>absurd aa q4⟩
end
end Go.Proofs.YtcheedjfedcbpaaGreatDoor
namespace Go.Proofs.YtcheedjfedcbpaaGreatDoor
open Go.RowKit
def Reads(w:World) (A:Option Addr) (m size:Nat) (news:List Value):Prop:=
 news.length=m * size/\(0 < m->∃ b p,A=some ⟨b,p,none⟩/\∀ j u,news[j]?=some u->w.cell? ⟨b,p+j,none⟩=some u)
def je(A:Option Addr) (l size m:Nat):Option Addr:=if m=l then A else A.map (·.add (l * size))
theorem Reads.nil(w:World) (A:Option Addr) (size:Nat):Reads w A 0 size []:=⟨by simp,fun h=>absurd h (by omega)⟩
theorem Reads.cut{w:World} {A:Option Addr} {m size l h c:Nat} {news:List Value} (aH:Reads w A m size news) (ag:l<=h) (cB:h<=m) (aa:h<=c) :
  Reads w (je A l size c) (h - l) size ((news.drop (l * size)).take ((h - l) * size)):=by
 have cQ:h * size<=m * size:=Nat.mul_le_mul_right _ cB;have zP:l * size<=h * size:=Nat.mul_le_mul_right _ ag;refine⟨by rw[List.length_take,List.length_drop,aH.1,Nat.sub_mul]; omega,fun ar=>?_⟩;obtain⟨b,p,rfl,ik⟩:=aH.2 (by omega);refine⟨b,p+l * size,?_,fun j u hu=>?_⟩
 ·unfold je
  rw[if_neg (by omega)]
  simp[Addr.add_lit]
 ·rw[List.getElem?_take]at hu
  split at hu
  ·rw[List.getElem?_drop]at hu
   have:=ik _ u hu
   rw[Nat.add_assoc];exact this
  ·cases hu
section
variable {w ak:World} {B:Nat->Prop} {H:List bd} {K:bd->List bd}
theorem Reads.row(dO:bA B ak H w) {A:Option Addr} {c:Nat} {e:TypeId} {size n:Nat} {xs:List Value} (aA:iN H (.row A c e size n xs) K):Reads w A n size xs:=by
 have bb:eG w B e size A c n xs:=dO.ok _ aA.mem;refine⟨bb.1,fun bk=>?_⟩
 rcases bb.2 with⟨_,J,_⟩ | ⟨g,cur,dH,J,_⟩
 ·omega
 ·refine⟨g,0,J,fun j u hu=>?_⟩
  rw[Nat.zero_add,bb.cells J j (by have:=(List.getElem?_eq_some_iff.1 hu).1; rw[bb.1]at this; exact this)];exact hu
theorem bA.o6(dO:bA B ak H w) (e:TypeId) (size:Nat):bA B ak (.row none 0 e size 0 [] :: H) w:=
 ⟨dO.below,dO.base,fun c aa=>by
  rcases List.mem_cons.1 aa with rfl | aa
  ·exact⟨by simp,.inl ⟨rfl,rfl,rfl⟩⟩
  ·exact dO.ok c aa,List.Pairwise.cons (fun c aa b e=>by cases e) dO.apart⟩
end
section
variable {P:Program} {ops:Array Oper} {o:Oper} {KK:Act->World->Prop}
variable {n:Nat} {D:List Deferred} {L:List (Nat×Value)} {B:Nat->Prop} {ak:World} {H:List bd} {a:Act} {w:World}
variable {T:List (TypeId×bz)} {d:Nat} {K:bd->List bd}
theorem Kc{s x:Operand} {t e:TypeId} {i i':bz} {A c6:Option Addr} {c k m cc:Nat} {xs news:List Value} (av:Sym n D L B ak H a w)
  (az:o.op=.call { callee:=.builtin .append,args:=#[s,x],argTypes:=#[t,t] }) (bb:o.guard=none/\o.dst=some d) (ax:Nat.blt d n=true)
  (ca:gd P T) (J:T.lookup t=some i) (U:i.desc=.slice e) (ae:T.lookup e=some i') (aw:Nat.blt 0 i'.size=true) (aF:i'.zero.cells.size=i'.size) (al:aB L s=some (.slice A k c)) (ao:aB L x=some (.slice c6 m cc))
  (aA:iN H (.row A c e i'.size k xs) K) (aH:Reads w c6 m i'.size news) (h7:∀ u∈news,u.oneCell'=true) (ht:(k+m) * i'.bytes<=140737488355328) (kV:k+m<=140737488355328)
  (h:∀ cj c' aQ w',(k+m<=c->c'=c)->Sym n D ((d,.slice cj (k+m) c') :: L) B ak (K (.row cj c' e i'.size (k+m) (xs++news))) aQ w'->KK aQ w'):e3 P ops o KK a w:=by
 have aC:=(ca _ _ J).1;rw[U]at aC;have cC:=ca _ _ ae;have e4:eG w B e i'.size A c k xs:=av.aJ.ok _ aA.mem
 by_cases hm:m=0
 ·subst hm
  have bk:news=[]:=List.eq_nil_of_length_eq_zero (by simpa using aH.1);subst bk;have dw:(execOp a.eval o).run P w=.ok (.value (.slice A (k+0) c)) w:=by
   have hle:=e4.le.1;have oj:(Builtin.append_ #[t,t] o.type #[.slice A k c,.slice c6 0 cc]).run P w=.ok (.slice A k c) w:=by
    have gN:=bz.run_sizeOf cC w;have pZ:(Builtin.firstCells i'.size 0 (.slice c6 0 cc)).run P w=.ok #[] w:=by
     cases c6<;>simp[Builtin.firstCells,loadCells,loadCellsFrom]
    simp only[Builtin.append_,Sem.run_bind,run_underlying aC,Result.andThen_ok,gN]
    simp[run_underlying aC,Builtin.lenOf,hle,pZ]
    cases A<;>simp[storeCells,gN,pZ]
   simp[execOp,az,resolve,invoke,builtin,av.aB al,av.aB ao,oj]
  refine pV av bb ax dw ?_ (fun aQ w'=>h A c aQ w' fun _=>rfl)
  have:=av.aJ
  obtain⟨X,Y,rfl,rfl⟩:=aA
  simpa using this
 ·obtain⟨b,p,rfl,aa⟩:=aH.2 (by omega)
  obtain⟨cj,c',w',dw,Sn,zQ,uJ,zR,cQ,kA,jd,q4⟩:=Sk (P:=P) (ty:=o.type) aC cC (dB aw) aF e4 (cc:=cc) aH.1 aa h7 ht kV av.aJ.fresh;refine pV av bb ax (w':=w') (v:=.slice cj (k+m) c') (by simp[execOp,az,resolve,invoke,builtin,av.aB al,av.aB ao,dw]) ?_ (fun aQ w'=>h cj c' aQ w' q4);exact av.aJ.so aA ⟨zQ,uJ,zR,cQ,fun q au=>kA q (av.aJ.base q au) (fun cv=>(bd.ok.lt (c:=.row A c e i'.size k xs) e4 cv).1 au)⟩ Sn jd kA
theorem zS{s x:Operand} {t e:TypeId} {i i':bz} {A c6:Option Addr} {c k m cc:Nat} {xs news:List Value} (av:Sym n D L B ak H a w)
  (az:o.op=.call { callee:=.builtin .append,args:=#[s,x],argTypes:=#[t,t] }) (bb:o.guard=none/\o.dst=some d) (ax:Nat.blt d n=true)
  (ca:gd P T) (J:T.lookup t=some i) (U:i.desc=.slice e) (ae:T.lookup e=some i') (aw:Nat.blt 0 i'.size=true) (aF:i'.zero.cells.size=i'.size) (al:aB L s=some (.slice A k c)) (ao:aB L x=some (.slice c6 m cc))
  (aA:iN H (.row A c e i'.size k xs) K) (aH:Reads w c6 m i'.size news) (h7:∀ u∈news,u.oneCell'=true) (ht:(k+m) * i'.bytes<=140737488355328) (kV:k+m<=140737488355328)
  (h:∀ cj c' aQ w',Sym n D ((d,.slice cj (k+m) c') :: L) B ak (K (.row cj c' e i'.size (k+m) (xs++news))) aQ w'->KK aQ w'):e3 P ops o KK a w:=
 Kc av az bb ax ca J U ae aw aF al ao aA aH h7 ht kV fun cj c' aQ w' _=>h cj c' aQ w'
/-! ### Slices put together out of values -/
end
end Go.Proofs.YtcheedjfedcbpaaGreatDoor
namespace Go.Proofs.YtcheedjfedcbpaaGreatDoor
open Go.RowKit
section
variable {P:Program} {ops:Array Oper} {o:Oper} {KK:Act->World->Prop}
variable {n:Nat} {D:List Deferred} {L:List (Nat×Value)} {B:Nat->Prop} {ak:World} {H:List bd} {a:Act} {w:World}
variable {T:List (TypeId×bz)} {d:Nat} {K:bd->List bd}
theorem Kd{u x:Operand} {t e:TypeId} {i i':bz} {A:Option Addr} {m c l:Nat} {k:IntKind} {z:Int} (aI:c9 n D L a) (az:o.op=.slice t u (some x) none none)
  (ca:gd P T) (J:T.lookup t=some i) (U:i.desc=.slice e) (ae:T.lookup e=some i') (hu:aB L u=some (.slice A m c)) (ao:aB L x=some (.int k z)) (bP:z=(l:Int)) (ag:l<=m) :
  fj P o a (.slice (je A l i'.size c) (m - l) (c - l)):=fun w=>by
 subst bP;have aC:=(ca _ _ J).1;rw[U]at aC;have aic:(l:Int)<=(m:Int):=by omega
 simp[execOp,az,aI.aB hu,aI.aB ao,Instr.sliceAt,Instr.slice,Instr.sliceBounds,Instr.sliceBound,asIntOf,run_underlying aC,bz.run_sizeOf (ca _ _ ae),ag,je]
theorem So{u x:Operand} {t e:TypeId} {i i':bz} {A:Option Addr} {m c h:Nat} {k:IntKind} {z:Int} (aI:c9 n D L a) (az:o.op=.slice t u none (some x) none)
  (ca:gd P T) (J:T.lookup t=some i) (U:i.desc=.slice e) (ae:T.lookup e=some i') (hu:aB L u=some (.slice A m c)) (ao:aB L x=some (.int k z)) (bP:z=(h:Int)) (ag:h<=c) :
  fj P o a (.slice A h c):=fun w=>by
 subst bP;have aC:=(ca _ _ J).1;rw[U]at aC
 simp[execOp,az,aI.aB hu,aI.aB ao,Instr.sliceAt,Instr.slice,Instr.sliceBounds,Instr.sliceBound,asIntOf,run_underlying aC,bz.run_sizeOf (ca _ _ ae),ag]
 by_cases aa:c=0
 ·simp[aa]
 ·cases A with
  | none=>simp
  | some q5=>simp[Addr.add]
theorem Sp{u x y:Operand} {t e:TypeId} {i i':bz} {A:Option Addr} {m c l h:Nat} {k k':IntKind} {z nJ:Int} (aI:c9 n D L a) (az:o.op=.slice t u (some x) (some y) none)
  (ca:gd P T) (J:T.lookup t=some i) (U:i.desc=.slice e) (ae:T.lookup e=some i') (hu:aB L u=some (.slice A m c)) (ao:aB L x=some (.int k z)) (aV:aB L y=some (.int k' nJ)) (bP:z=(l:Int)) (p0:nJ=(h:Int)) (ag:l<=h) (cB:h<=c) :
  fj P o a (.slice (je A l i'.size c) (h - l) (c - l)):=fun w=>by
 subst bP; subst p0;have aC:=(ca _ _ J).1;rw[U]at aC
 simp[execOp,az,aI.aB hu,aI.aB ao,aI.aB aV,Instr.sliceAt,Instr.slice,Instr.sliceBounds,Instr.sliceBound,asIntOf,run_underlying aC,bz.run_sizeOf (ca _ _ ae),ag,cB,je]
def ev(z:List Value) (k:Nat):List Value:=(List.replicate k z).flatten
theorem wY(z:List Value) (k:Nat):(ev z k).length=k * z.length:=by simp[ev]
theorem Ke(z:List Value) (bP:0 < z.length):∀ k:Nat,(Array.range (k * z.length)).map (fun j=>z.toArray[j % z.toArray.size]!)=(ev z k).toArray:=by
 intro k
 apply Array.ext
 ·simp[ev]
 ·intro j J U
  simp only[Array.size_map,Array.size_range]at J;simp only[Array.getElem_map,Array.getElem_range,List.size_toArray];have hm:=Nat.mod_lt j bP;have hlen:j < (ev z k).length:=by rw[wY]; exact J
  have key:∀ (k j:Nat),j < k * z.length->(ev z k)[j]?=z[j % z.length]?:=by
   intro k
   induction k with
   | zero=>intro j aX; simp at aX
   | succ k bx=>
    intro j aX
    have:ev z (k+1)=z++ev z k:=by simp[ev,List.replicate_succ]
    rw[this]
    by_cases br:j < z.length
    ·rw[List.getElem?_append_left br,Nat.mod_eq_of_lt br]
    ·rw[List.getElem?_append_right (by omega),bx (j - z.length) (by rw[Nat.add_mul]at aX; omega)]
     congr 1
     exact(Nat.mod_eq_sub_mod (by omega)).symm
  have ae:=key k j J;have aw:(ev z k)[j]?=some (ev z k)[j]:=List.getElem?_eq_getElem hlen;rw[aw,List.getElem?_eq_getElem hm]at ae;have aF:(ev z k).toArray[j]=(ev z k)[j]:=by simp
  rw[aF,Option.some.inj ae]
  simp[hm]
theorem Sq{s x:Operand} {t e:TypeId} {i i':bz} {A c6:Option Addr} {c k cc:Nat} {xs news:List Value} (av:Sym n D L B ak H a w)
  (az:o.op=.call { callee:=.builtin .copy,args:=#[s,x],argTypes:=#[t,t] }) (bb:o.guard=none/\o.dst=some d) (ax:Nat.blt d n=true)
  (ca:gd P T) (J:T.lookup t=some i) (U:i.desc=.slice e) (ae:T.lookup e=some i') (al:aB L s=some (.slice A k c)) (ao:aB L x=some (.slice c6 k cc))
  (aA:iN H (.row A c e i'.size k xs) K) (aH:Reads w c6 k i'.size news) (h7:∀ u∈news,u.oneCell'=true)
  (h:∀ aQ w',Sym n D ((d,.int .i64 (k:Int)) :: L) B ak (K (.row A c e i'.size k news)) aQ w'->KK aQ w'):e3 P ops o KK a w:=by
 have aC:=(ca _ _ J).1;rw[U]at aC;have cC:=ca _ _ ae;have e4:eG w B e i'.size A c k xs:=av.aJ.ok _ aA.mem
 by_cases ab:k=0
 ·subst ab
  have bk:news=[]:=List.eq_nil_of_length_eq_zero (by simpa using aH.1);have hj:xs=[]:=List.eq_nil_of_length_eq_zero (by simpa using e4.1);subst bk; subst hj;have oj:(Builtin.copy_ #[t,t] o.type #[.slice A 0 c,.slice c6 0 cc]).run P w=.ok (.int .i64 0) w:=by
   have pZ:(Builtin.firstCells i'.size 0 (.slice c6 0 cc)).run P w=.ok #[] w:=by
    cases c6<;>simp[Builtin.firstCells,loadCells,loadCellsFrom]
   cases A<;>simp[Builtin.copy_,run_underlying aC,Builtin.lenOf,bz.run_sizeOf cC,pZ,storeCells,goInt]
  refine pV av bb ax (w':=w) (v:=.int .i64 ((0:Nat):Int)) (by simp[execOp,az,resolve,invoke,builtin,av.aB al,av.aB ao,oj]) ?_ h
  have:=av.aJ
  obtain⟨X,Y,rfl,rfl⟩:=aA;exact this
 ·obtain⟨b,p,rfl,aa⟩:=aH.2 (by omega)
  rcases e4.2 with⟨_,aP,_⟩ | ⟨g,cur,dH,rfl,o4,aM,kz,oi,h6,gg,o5⟩
  ·omega
  ·have wX:0+news.length<=cur.size:=by rw[aH.1,gg,Nat.zero_add]; exact Nat.mul_le_mul_right _ oi
   have mZ:=run_firstCells_some (P:=P) w i'.size k ⟨b,p,none⟩ k cc news aH.1 (fun j v aX=>by rw[Addr.add_lit]; exact aa j v aX);have dZ:=run_storeCells_cells (P:=P) g 0 news 0 w (fun j aX=>by
     simp only[World.cell?,aM]
     simp; omega) (fun j aX=>by
     simp only[World.frozen?,aM]
     rcases kz with h | h
     ·simp; omega
     ·simp; omega) h7
   rw[Nat.add_zero,wW g e dH news _ w cur aM wX]at dZ;have oj:(Builtin.copy_ #[t,t] o.type #[.slice (some ⟨g,0,none⟩) k c,.slice (some ⟨b,p,none⟩) k cc]).run P w=.ok (.int .i64 (k:Int)) (w.setRow g (cur.toList.take 0++news++cur.toList.drop (0+news.length)).toArray):=by
    have DP:Nat.min k k=k:=Nat.min_self k;simp only[Builtin.copy_,Sem.run_bind]
    simp[run_underlying aC,Builtin.lenOf,bz.run_sizeOf cC,DP,mZ,dZ,goInt]
   refine pV av bb ax (w':=w.setRow g (cur.toList.take 0++news++cur.toList.drop (0+news.length)).toArray) (v:=.int .i64 (k:Int)) (by simp only[execOp,az,resolve,invoke,builtin,Sem.run_bind,Sem.run_pure,Result.andThen_ok,List.map_toArray,List.map_cons,List.map_nil,av.aB al,av.aB ao,oj]) ?_ h;refine av.aJ.so aA ⟨rfl,rfl,rfl,by simp,fun q au=>setRow_other w g q _ (fun cv=>by subst cv; exact o4 au)⟩ (c':=.row (some ⟨g,0,none⟩) c e i'.size k news) ?_ (fun q au=>.inl au) fun q _ au=>setRow_other w g q _ (fun cv=>au (by subst cv; rfl))
   refine⟨aH.1,.inr ⟨g,_,dH,rfl,o4,setRow_heap w g cur _ e _ aM,?_,oi,h6,?_,?_⟩⟩
   ·rcases kz with h | h
    ·exact .inl h
    ·exact .inr (by simp; omega)
   ·simp only[List.size_toArray,List.length_append,List.length_take,List.length_drop,Array.length_toList]
    omega
   ·simp only[List.take_zero,List.nil_append,<- aH.1]
    exact List.take_left
theorem Kf{s x:Operand} {t e:TypeId} {i i':bz} {A c6:Option Addr} {c k aU m cc:Nat} {xs news:List Value} (av:Sym n D L B ak H a w)
  (az:o.op=.call { callee:=.builtin .copy,args:=#[s,x],argTypes:=#[t,t] }) (bb:o.guard=none/\o.dst=some d) (ax:Nat.blt d n=true)
  (ca:gd P T) (J:T.lookup t=some i) (U:i.desc=.slice e) (ae:T.lookup e=some i') (al:aB L s=some (.slice (je A aU i'.size c) (k - aU) (c - aU))) (ao:aB L x=some (.slice c6 m cc))
  (aA:iN H (.row A c e i'.size k xs) K) (aH:Reads w c6 m i'.size news) (h7:∀ u∈news,u.oneCell'=true) (cQ:0 < i'.size) (hm:aU+m<=k)
  (h:∀ aQ w',Sym n D ((d,.int .i64 (m:Int)) :: L) B ak (K (.row A c e i'.size k (xs.take (aU * i'.size)++news++xs.drop (aU * i'.size+news.length)))) aQ w'->KK aQ w'):e3 P ops o KK a w:=by
 have aC:=(ca _ _ J).1;rw[U]at aC;have cC:=ca _ _ ae;have e4:eG w B e i'.size A c k xs:=av.aJ.ok _ aA.mem
 by_cases ab:m=0
 ·subst ab
  have bk:news=[]:=List.eq_nil_of_length_eq_zero (by simpa using aH.1);subst bk;have oj:(Builtin.copy_ #[t,t] o.type #[.slice (je A aU i'.size c) (k - aU) (c - aU),.slice c6 0 cc]).run P w=.ok (.int .i64 0) w:=by
   have pZ:(Builtin.firstCells i'.size 0 (.slice c6 0 cc)).run P w=.ok #[] w:=by
    cases c6<;>simp[Builtin.firstCells,loadCells,loadCellsFrom]
   generalize je A aU i'.size c=cj
   cases cj<;>simp[Builtin.copy_,run_underlying aC,Builtin.lenOf,bz.run_sizeOf cC,pZ,storeCells,goInt]
  refine pV av bb ax (w':=w) (v:=.int .i64 ((0:Nat):Int)) (by simp[execOp,az,resolve,invoke,builtin,av.aB al,av.aB ao,oj]) ?_ h
  have:=av.aJ
  obtain⟨X,Y,rfl,rfl⟩:=aA;rw[List.append_nil,List.length_nil,Nat.add_zero,List.take_append_drop];exact this
 ·obtain⟨b,p,rfl,aa⟩:=aH.2 (by omega)
  rcases e4.2 with⟨_,aP,_⟩ | ⟨g,cur,dH,rfl,o4,aM,kz,oi,h6,gg,o5⟩
  ·omega
  ·have Sr:aU≠c:=by omega
   have Ss:je (some ⟨g,0,none⟩) aU i'.size c=some ⟨g,aU * i'.size,none⟩:=by
    unfold je;rw[if_neg (fun e=>Sr e.symm)]
    by_cases aP:aU * i'.size=0
    ·simp[Addr.add,aP]
    ·simp[Addr.add,aP]
   rw[Ss]at al;have zT:(aU+m) * i'.size<=k * i'.size:=Nat.mul_le_mul_right _ hm;have aid:k * i'.size<=c * i'.size:=Nat.mul_le_mul_right _ oi;have wX:aU * i'.size+news.length<=cur.size:=by
    rw[aH.1,gg,<- Nat.add_mul];omega
   have mZ:=run_firstCells_some (P:=P) w i'.size m ⟨b,p,none⟩ m cc news aH.1 (fun j v aX=>by rw[Addr.add_lit]; exact aa j v aX);have dZ:=run_storeCells_cells (P:=P) g (aU * i'.size) news 0 w (fun j aX=>by
     simp only[World.cell?,aM]
     simp; omega) (fun j aX=>by
     simp only[World.frozen?,aM]
     rcases kz with h | h
     ·simp; omega
     ·simp; omega) h7
   rw[Nat.add_zero,wW g e dH news _ w cur aM wX]at dZ;have oj:(Builtin.copy_ #[t,t] o.type #[.slice (some ⟨g,aU * i'.size,none⟩) (k - aU) (c - aU),.slice (some ⟨b,p,none⟩) m cc]).run P w=.ok (.int .i64 (m:Int)) (w.setRow g (cur.toList.take (aU * i'.size)++news++cur.toList.drop (aU * i'.size+news.length)).toArray):=by
    have DP:Nat.min (k - aU) m=m:=Nat.min_eq_right (by omega);have St:Nat.min m (k - aU)=m:=Nat.min_eq_left (by omega);simp only[Builtin.copy_,Sem.run_bind]
    simp[run_underlying aC,Builtin.lenOf,bz.run_sizeOf cC,DP,St,mZ,dZ,goInt]
   refine pV av bb ax (w':=w.setRow g (cur.toList.take (aU * i'.size)++news++cur.toList.drop (aU * i'.size+news.length)).toArray) (v:=.int .i64 (m:Int)) (by simp only[execOp,az,resolve,invoke,builtin,Sem.run_bind,Sem.run_pure,Result.andThen_ok,List.map_toArray,List.map_cons,List.map_nil,av.aB al,av.aB ao,oj]) ?_ h;refine av.aJ.so aA ⟨rfl,rfl,rfl,by simp,fun q au=>setRow_other w g q _ (fun cv=>by subst cv; exact o4 au)⟩ (c':=.row (some ⟨g,0,none⟩) c e i'.size k (xs.take (aU * i'.size)++news++xs.drop (aU * i'.size+news.length))) ?_ (fun q au=>.inl au) fun q _ au=>setRow_other w g q _ (fun cv=>au (by subst cv; rfl))
   have ka:=e4.1;have Su:m * i'.size=news.length:=aH.1.symm;have Sv:aU * i'.size+news.length<=k * i'.size:=by rw[<- Su,<- Nat.add_mul]; exact zT
   refine⟨?_,.inr ⟨g,_,dH,rfl,o4,setRow_heap w g cur _ e _ aM,?_,oi,h6,?_,?_⟩⟩
   ·simp only[List.length_append,List.length_take,List.length_drop,ka]
    omega
   ·rcases kz with h | h
    ·exact .inl h
    ·exact .inr (by simp only[List.size_toArray,List.length_append,List.length_take,List.length_drop,Array.length_toList]; omega)
   ·simp only[List.size_toArray,List.length_append,List.length_take,List.length_drop,Array.length_toList]
    omega
   ·show(cur.toList.take (aU * i'.size)++news++cur.toList.drop (aU * i'.size+news.length)).take (k * i'.size)=_
    have gN:(cur.toList.take (aU * i'.size)++news).length=aU * i'.size+news.length:=by
     simp only[List.length_append,List.length_take,Array.length_toList];omega
    rw[List.take_append,List.take_of_length_le (by rw[gN]; exact Sv),gN,<- o5,List.take_take,Nat.min_eq_left (by omega),List.drop_take]
end
end Go.Proofs.YtcheedjfedcbpaaGreatDoor
namespace Go.Proofs.YtcheedjfedcbpaaGreatDoor
end Go.Proofs.YtcheedjfedcbpaaGreatDoor
namespace Go.Proofs.YtcheedjfedcbpaaGreatDoor
open Go.RowKit
section
def bd.Sw:bd->Bool
 | .obj _ _=>false
 | _=>true
theorem eG.isCells{w:World} {B:Nat->Prop} {e:TypeId} {size c n:Nat} {A:Option Addr} {xs:List Value} (h:eG w B e size A c n xs) {b:Nat} (ai:A.map (·.block)=some b):∃ cs e dH,w.heap[b]?=some (.cells cs e dH):=by
 rcases h.2 with⟨rfl,_⟩ | ⟨g,cur,dH,rfl,aM,cB,_⟩
 ·cases ai
 ·have:g=b:=Option.some.inj ai
  subst this;exact⟨_,_,_,cB⟩
theorem bd.ok.cells{B:Nat->Prop} {w:World} {c:bd} (h:c.ok B w) (aa:c.Sw=true) {b:Nat} (ai:c.has b):∃ cs e dH,w.heap[b]?=some (.cells cs e dH):=by
 cases c with
 | obj b' o=>cases aa
 | gv b' cs e=>
  have:b'=b:=Option.some.inj ai
  subst this;exact⟨_,_,_,h.2⟩
 | row A c e size n xs=>exact eG.isCells h ai
 | tree rs=>
  obtain⟨r,aH,ai⟩:=ai;exact eG.isCells (h.1 r aH) ai
section
variable {B:Nat->Prop} {ak w:World}
end
def sr(k:Nat):Deferred:={ target:=.collected k,args:=#[] }
end
end Go.Proofs.YtcheedjfedcbpaaGreatDoor
namespace Go.Proofs.YtcheedjfedcbpaaGreatDoor
open Go.RowKit
section
variable {r:Option Nat} {P:Program} {ops:Array Oper} {Q:Exit->Act->World->Prop} {o:Oper} {KK:Act->World->Prop} {c:Code}
variable {n:Nat} {D:List Deferred} {L:List (Nat×Value)} {B:Nat->Prop} {ak:World} {H:List bd} {a:Act} {w:World} {d:Nat}
theorem DQ{N:Nat} {vs:List Value} {fn:Func} (bF:fn.ntmps=N) (hle:vs.length<=N) (kW:List (Nat×Value)) (eF:kW=vs.zipIdx.map fun p=>(p.2,p.1)) :
  c9 N [] kW { tmps:=vs.toArray++Array.replicate (fn.ntmps - vs.toArray.size) undef,defers:=[] }:=by
 refine⟨by rw[bF]; exact Sc vs hle,rfl,fun s v al=>?_⟩;have key:∀ (vs:List Value) (k:Nat),((vs.zipIdx k).map fun p=>(p.2,p.1)).lookup s=some v->k<=s/\vs[s - k]?=some v:=by
  intro vs
  induction vs with
  | nil=>intro k h; cases h
  | cons u vs bx=>
   intro k h;simp only[List.zipIdx_cons,List.map_cons,List.lookup_cons]at h
   by_cases e:s=k
   ·subst e
    simp at h
    subst h
    simp
   ·have cv:(s == k)=false:=by simpa using e
    rw[cv]at h;obtain⟨J,U⟩:=bx (k+1) h;refine⟨by omega,?_⟩;rw[show s - k=(s - (k+1))+1 by omega,List.getElem?_cons_succ];exact U
 have J:=(key vs 0 (by rw[<- eF]; exact al)).2;simp only[Nat.sub_zero]at J;have br:s < vs.length:=(List.getElem?_eq_some_iff.1 J).1;show(vs.toArray++_)[s]?=some v;rw[Array.getElem?_append_left (by simpa using br)]
 simpa using J
theorem Kg{fn:Func} {tmps:Array Value} {R:Value->World->Prop} {v:Value} (o7:∀ w,bA B ak H w->(results fn tmps).run P w=.ok v w) (h:∀ w,bA B ak H w->R v w) :
  ∀ (ks:List Nat) (w:World),bA B ak (ks.map (fun k=>bd.obj k (.deferred (some [])))++H) w->LeavesInM Fence.wide 0 P fn tmps (fun e w'=>∃ v,e=.returned v/\R v w') (ks.map sr) .returning w
 | [],w,al=>⟨v,o7 w al,v,rfl,h w al⟩
 | k :: ks,w,al=>by
  have ab:=(al.ok (.obj k (.deferred (some []))) (by simp)).2;refine⟨by simp,.inl ⟨k,_,rfl,run_takeDeferred ab,?_⟩⟩;refine Kg o7 h ks _ ?_
  have:=(al.sq (x':=.deferred none) (K:=fun c=>c :: (ks.map (fun k=>bd.obj k (.deferred (some [])))++H)) uG).er (List.sublist_cons_self _ _)
  exact this
theorem Kh{fn:Func} {R:Value->World->Prop} {v:Value} (ks:List Nat) (av:Sym n (ks.map sr) L B ak (ks.map (fun k=>bd.obj k (.deferred (some [])))++H) a w)
  (o7:∀ w,bA B ak H w->(results fn a.tmps).run P w=.ok v w) (h:∀ w,bA B ak H w->R v w):bodyPostM Fence.wide 0 P fn (fun e w'=>∃ v,e=.returned v/\R v w') .ret a w:=by
 show LeavesInM _ _ _ _ _ _ a.defers _ _;rw[av.st.defs];exact Kg o7 h ks w av.aJ
end
end Go.Proofs.YtcheedjfedcbpaaGreatDoor
namespace Go.Proofs.YtcheedjfedcbpaaGreatDoor
theorem bA.frame{B:Nat->Prop} {ak w w':World} {H1 H Ki:List bd} (h:bA B ak (H1++H) w) (aN:bA (fO w H1) w Ki w'):bA B ak (Ki++H) w':=by
 have J:bA B ak H1 w:=h.er (List.sublist_append_left _ _);have U:bA B ak H w:=h.er (List.sublist_append_right _ _);have ab:=J.back aN;have kX:=(List.pairwise_append.1 h.apart).2.2;have aH:∀ c∈H,∀ b,c.has b->fO w H1 b:=fun c aa b e=>⟨((U.ok c aa).lt e).2,fun d ax cv=>kX d ax c aa b cv e⟩
 refine⟨ab.below,ab.base,fun c hm=>?_,List.pairwise_append.2 ⟨ab.apart,U.apart,fun c hm d ax b e cv=>?_⟩⟩
 ·rcases List.mem_append.1 hm with hm | hm
  ·exact ab.ok c hm
  ·exact(U.ok c hm).dY fun b e=>aN.below.block b (aH c hm b e)
 ·exact((aN.ok c hm).lt e).1 (aH d ax b cv)
theorem Kj {P : Program} {f : FuncId} {fn : Func} {args : Array Value} {w : World} (fP : P.funcs[f]? = some fn) (bk : (fn.name == "runtime.NumGoroutine") = false) (ai : fn.body.isNone = false) : (callFunc f args).run P w = .ok (.enter f args) w := by
 have hj : fn.name ≠ "runtime.NumGoroutine" := by simpa using bk
 have dN:fn.body≠none:=by intro h; rw[h]at ai; cases ai
 simp[callFunc,program,Sem.run,fP,hj,dN]
end Go.Proofs.YtcheedjfedcbpaaGreatDoor
namespace Go.Proofs.YtcheedjfedcbpaaGreatDoor
end Go.Proofs.YtcheedjfedcbpaaGreatDoor
namespace Go.Proofs.YtcheedjfedcbpaaGreatDoor
open Go.RowKit
section
section
variable {P:Program} {ops:Array Oper} {o:Oper} {KK:Act->World->Prop} {n:Nat} {D:List Deferred} {L:List (Nat×Value)} {B:Nat->Prop} {ak:World} {H:List bd} {a:Act} {w:World} {d:Nat} {T:List (TypeId×bz)}
theorem Sx{f:FuncId} {fn:Func} {s:Nat} {lb:List Value} {xs:List Operand} {fc:Array TypeId} {vs:List Value} (av:Sym n D L B ak H a w) (az:o.op=.call { callee:=.value (.tmp s),args:=xs.toArray,argTypes:=fc })
  (al:L.lookup s=some (.func (.func f) #[] lb.toArray)) (fP:P.funcs[f]?=some fn)
  (bk : (fn.name == "runtime.NumGoroutine") = false) (ai : fn.body.isNone = false) (aE : iA L xs = some vs) : (execOp a.eval o).run P w = .ok (.enter f (vs ++ lb).toArray) w := by
 have e:a.eval (.tmp s)=.func (.func f) #[] lb.toArray:=av.aB (x:=.tmp s) al
 have hj : fn.name ≠ "runtime.NumGoroutine" := by simpa using bk
 have dN:fn.body≠none:=by intro h; rw[h]at ai; cases ai
 simp[execOp,az,resolve,e,Deferred.ofValue,invoke,callFunc,program,Sem.run,fP,hj,dN,av.st.iA aE]
theorem Kk{f:FuncId} {fn:Func} {s:Nat} {lb:List Value} {xs:List Operand} {fc:Array TypeId} {vs:List Value} {R:Value->World->Prop} (av:Sym n D L B ak H a w)
  (az:o.op=.call { callee:=.value (.tmp s),args:=xs.toArray,argTypes:=fc }) (bb:o.guard=none/\o.dst=some d) (ax:Nat.blt d n=true) (al:L.lookup s=some (.func (.func f) #[] lb.toArray))
  (fP : P.funcs[f]? = some fn) (bk : (fn.name == "runtime.NumGoroutine") = false) (ai : fn.body.isNone = false) (aE : iA L xs = some vs) (dt : oh P f (vs ++ lb).toArray w R)
  (h:∀ v aQ w',R v w'->c9 n D ((d,v) :: L) aQ->KK aQ w'):e3 P ops o KK a w:=by
 refine .inl ⟨by simp[Region.wanted,bb.1],.inr (.inr ⟨f,(vs++lb).toArray,w,Sx av az al fP bk ai aE,?_⟩)⟩;refine Calls.mono dt ?_;rintro e w' ⟨v,rfl,fV⟩;exact⟨v,rfl,h v _ w' fV (by rw[bb.2]; exact av.st.put d v (dB ax))⟩
theorem bA.zU{b:Nat} {cs:List Value} {e:TypeId} {size m:Nat} (dO:bA B ak (.gv b cs e :: H) w) (ag:cs.length=m * size) (hm:m<=140737488355328):bA B ak (.row (some ⟨b,0,none⟩) m e size m cs :: H) w:=by
 refine⟨dO.below,dO.base,fun c aa=>?_,?_⟩
 ·rcases List.mem_cons.1 aa with rfl | aa
  ·have:=dO.ok _ (List.mem_cons_self)
   exact⟨ag,.inr ⟨b,cs.toArray,(0,0),rfl,this.1,this.2,.inl rfl,Nat.le_refl _,by unfold maxLen; omega,by simpa using ag,by simp[<- ag]⟩⟩
  ·exact dO.ok c (List.mem_cons_of_mem _ aa)
 ·have:=List.pairwise_cons.1 dO.apart
  exact List.Pairwise.cons (fun c aa b cv=>this.1 c aa b (by simpa [bd.has] using cv)) this.2
inductive kB:List Value->Nat->List Value->List Value->Prop where
 | nil {l:List Value}:kB l 0 [] l
 | cons {c v:Value} {l l' vs:List Value} (h:kB l 0 vs l'):kB (c :: l) 0 (v :: vs) (v :: l')
 | skip {c:Value} {l l' vs:List Value} {k:Nat} (h:kB l k vs l'):kB (c :: l) (k+1) vs (c :: l')
theorem kB.eq{l l' vs:List Value} {k:Nat} (h:kB l k vs l'):l'=l.take k++vs++l.drop (k+vs.length)/\k+vs.length<=l.length:=by
 induction h with
 | nil=>simp
 | cons _ bx=>exact⟨by simp only[Nat.zero_add,List.take_zero,List.nil_append]at bx; rw[bx.1]; simp,by simp only[List.length_cons]at *; omega⟩
 | skip _ bx=>exact⟨by rw[bx.1,show ∀ a b:Nat,a+1+b=(a+b)+1 by omega]; simp,by simp only[List.length_cons]at *; omega⟩
theorem DR:∀ (vs:List Value) (l:List Value) (k j:Nat),k+j+vs.length<=l.length ->
  ((vs.zipIdx j).foldl (fun(cs:Array Value) (p:Value×Nat)=>cs.setIfInBounds (k+p.2) p.1) l.toArray)=(l.take (k+j)++vs++l.drop (k+j+vs.length)).toArray
 | [],l,k,j,h=>by simp
 | v :: vs,l,k,j,h=>by
  simp only[List.length_cons]at h;simp only[List.zipIdx_cons,List.foldl_cons];rw[show l.toArray.setIfInBounds (k+j) v=(l.set (k+j) v).toArray by simp];rw[DR vs _ k (j+1) (by simp; omega)]
  congr 1
  rw[show k+(j+1)=k+j+1 by omega,List.take_succ_eq_append_getElem (by simp; omega)];simp only[List.getElem_set_self,List.append_assoc,List.length_cons];rw[List.take_set_of_le (by omega),List.drop_set_of_lt (by omega)]
  simp[Nat.add_comm,Nat.add_left_comm]
theorem Sy{pl:Nat->Option (Nat×Nat)} {z nJ:List Value} {i off size:Nat} {v:Value} {rest:List (Nat×Value)} (ar:pl i=some (off,size)) (ag:v.cells.size=size) (h:kB z off v.cells.toList nJ) :
  Instr.fill pl z.toArray ((i,v) :: rest)=Instr.fill pl nJ.toArray rest:=by
 obtain⟨J,U⟩:=h.eq;rw[Instr.fill];simp only[ar];simp only[Array.length_toList]at U J;rw[if_neg (by simp[ag]; simp[ag]at U; omega)]
 congr 1
 have:=DR v.cells.toList z off 0 (by simp only[Array.length_toList]; omega)
 rw[J,<- Array.foldl_toList];simp only[Nat.add_zero,Array.toList_zipIdx,Array.length_toList]at this ⊢;exact this
end
end
end Go.Proofs.YtcheedjfedcbpaaGreatDoor
namespace Go.Proofs.YtcheedjfedcbpaaGreatDoor
open Go.RowKit
theorem Sz(p1:ByteArray):∀ (k i:Nat) (r:List UInt8),p1.size - i=k->ByteArray.toList.loop p1 i r=r.reverse++p1.data.toList.drop i:=by
 intro k
 induction k with
 | zero=>
  intro i r h;unfold ByteArray.toList.loop;rw[if_neg (by omega),List.drop_of_length_le (by simp; show p1.size<=i; omega),List.append_nil]
 | succ k bx=>
  intro i r h;have hi:i < p1.size:=by omega
  unfold ByteArray.toList.loop;rw[if_pos hi,bx (i+1) _ (by omega)];have nK:i < p1.data.toList.length:=by simpa using hi
  rw[List.drop_eq_getElem_cons nK]
  have:p1.get! i=p1.data.toList[i]:=by
   simp only[ByteArray.get!,Array.getElem_toList];exact getElem!_pos p1.data i (by simpa using hi)
  simp[this]
theorem wZ(l:List UInt8):(ByteArray.mk l.toArray).toList=l:=by
 unfold ByteArray.toList;rw[Sz _ _ 0 [] rfl]
 simp
def eW(l:List UInt8):Value:=.string ⟨l.toArray⟩
section
variable {P:Program} {ops:Array Oper} {Q:Exit->Act->World->Prop} {o:Oper} {KK:Act->World->Prop} {n:Nat} {D:List Deferred} {L:List (Nat×Value)} {B:Nat->Prop} {ak:World} {H:List bd} {a:Act} {w:World} {d:Nat} {T:List (TypeId×bz)} {r:Option Nat} {c:Code}
theorem SA{u v:Operand} {t bR:TypeId} {x y:List UInt8} (aI:c9 n D L a) (az:o.op=.binOp .eql t u v bR) (hu:aB L u=some (eW x)) (aE:aB L v=some (eW y)):fj P o a (.bool (x == y)):=by
 have:=Sf (P:=P) aI az hu aE
 rw[wZ,wZ]at this;exact this
theorem SB{u v:Operand} {t bR:TypeId} {x y:List UInt8} (aI:c9 n D L a) (az:o.op=.binOp .neq t u v bR) (hu:aB L u=some (eW x)) (aE:aB L v=some (eW y)):fj P o a (.bool (!(x == y))):=by
 have:=Sg (P:=P) aI az hu aE
 rw[wZ,wZ]at this;exact this
theorem SC{u:Operand} {t bR e:TypeId} {i i' Kl:bz} {A:Option Addr} {m c:Nat} {l:List UInt8} (aI:c9 n D L a) (az:o.op=.convert t bR u) (ca:gd P T) (J:T.lookup t=some i) (U:T.lookup bR=some i') (ae:i.desc=.slice e) (aw:i'.desc=.string)
  (aF:T.lookup e=some Kl) (aW:Kl.desc=.int .u8) (hu:aB L u=some (.slice A m c)) (w:World) (aH:Reads w A m 1 (l.map fun c=>Value.int .u8 c.toNat)) :
  (execOp a.eval o).run P w=.ok (.value (eW l)) w:=by
 have aC:=(ca _ _ J).1;rw[ae]at aC;have a7:=(ca _ _ U).1;rw[aw]at a7;have gh:=(ca _ _ aF).1;rw[aW]at gh;have hm:l.length=m:=by simpa using aH.1
 subst hm
 have:(convert t bR (.slice A l.length c)).run P w=.ok (eW l) w:=by
  by_cases aP:l.length=0
  ·have ag:l=[]:=List.eq_nil_of_length_eq_zero aP
   subst ag;cases A with
   | none=>simp[convert,run_underlying aC,run_underlying a7,run_underlying gh,Conv.bytesToString,eW]; rfl
   | some q5=>exact run_convert_bytes_back w t bR e q5 c [] aC gh a7 (fun j aX=>by simp at aX)
  ·obtain⟨b,p,rfl,aa⟩:=aH.2 (by omega)
   exact run_convert_bytes_back w t bR e ⟨b,p,none⟩ c l aC gh a7 (fun j aX=>by rw[Addr.add_lit]; exact aa j _ (by simp[aX]))
 simp[execOp,az,aI.aB hu,this]
end
end Go.Proofs.YtcheedjfedcbpaaGreatDoor
namespace Go.Proofs.YtcheedjfedcbpaaGreatDoor
end Go.Proofs.YtcheedjfedcbpaaGreatDoor
namespace Go.Proofs.YtcheedjfedcbpaaGreatDoor
open Go.RowKit
section
section
variable {P:Program} {ops:Array Oper} {Q:Exit->Act->World->Prop} {o:Oper} {KK:Act->World->Prop} {n:Nat} {D:List Deferred} {L:List (Nat×Value)} {B:Nat->Prop} {ak:World} {H:List bd} {a:Act} {w:World} {d:Nat} {T:List (TypeId×bz)} {K:bd->List bd}
theorem bA.rowAt(dO:bA B ak H w) {A:Option Addr} {c:Nat} {e:TypeId} {size m:Nat} {xs:List Value} (aA:iN H (.row A c e size m xs) K) (hm:0 < m):∃ g,A=some ⟨g,0,none⟩:=by
 rcases (dO.ok _ aA.mem).2 with⟨_,h,_⟩ | ⟨g,_,_,h,_⟩
 ·omega
 ·exact⟨g,h⟩
end
end
section
open Go.ChangeShapes Go.WideShapes Go.ChangeAt Go.RowKit
section
variable {H:Type} {enc:TypeId×Value->H} {P:Program}
theorem Km(ag:laidOutB P=true) {W dq:World} (ai:Below W.heap.size W dq) {sp:Nat->Bool} :
  ∀ (fc:List TypeId) (vs:List Value) (aG:List (DataW H)) (ps:List MemPlace),(∀ t∈fc,P.readableRec t=true/\t < P.types.size)->(∀ x∈ps,x.block < W.heap.size)->(∀ x∈ps,sp x.block=true) ->
   DataW.TrodAll enc P W 0 (fun _=>true) true fc vs aG ps->DataW.TrodAll enc P dq 0 sp true fc vs aG ps
 | [],[],[],ps,_,_,_,h=>h
 | t :: fc,v :: vs,d :: aG,ps,aH,br,kb,h=>by
  obtain⟨p,q,J,U,rfl⟩:=h;refine⟨p,q,WideElems.Trod_stays ag (aH t (by simp)).1 (aH t (by simp)).2 J (fun x ao=>ai.same (br x (by simp[ao]))) (fun x ao=>kb x (by simp[ao])),?_,rfl⟩;exact Km ag ai fc vs aG q (fun bR aZ=>aH bR (by simp[aZ])) (fun x ao=>br x (by simp[ao])) (fun x ao=>kb x (by simp[ao])) U
 | [],[],_ :: _,_,_,_,_,h=>h.elim
 | [],_ :: _,_,_,_,_,_,h=>h.elim
 | _ :: _,[],_,_,_,_,_,h=>h.elim
 | _ :: _,_ :: _,[],_,_,_,_,h=>h.elim
theorem SD{f:Func} {s:ChangeSpec} {apart fresh handsOn:Bool} {t:TypeId} {W dq:World} {args:Array Value} {aG gs:List (DataW H)} {before:List MemPlace}
  (q6:DataW.Whole enc P f.params.toList s.vars apart W args.toList aG gs before) (aE:s.vars=[]) (fP:s.fn H (aG++gs)={ results:=[.lit (.bool true)],args:=aG }) (SE:f.resultTypes=#[t]) (aZ:P.underlying t=some .bool)
  (ag:laidOutB P=true) (SF:∀ t∈f.params.toList,P.readableRec t=true/\t < P.types.size) (ai:Below W.heap.size W dq):s.post enc P f apart fresh handsOn false W args (.bool true) dq:=by
 have br:∀ p∈before,p.block < W.heap.size:=fun p ar=>q6.lt p ar
 have zV:=q6;obtain⟨p,q,J,U,rfl,_,_⟩:=q6;rw[aE]at U;obtain⟨rfl,rfl⟩:=trodVars_none U;simp only[List.append_nil]at br zV fP;refine⟨aG,[],p,[],p,[],zV,?_,?_,?_,World.keptBut_mono (fun x ao=>⟨ao,Or.inr (Or.inl ao)⟩) (ai.frame (·∈p)),fun h=>by cases h⟩
 ·simp only[List.append_nil,fP,SE]
  exact trodAll_mk1 (shut_bool aZ true)
 ·simp only[List.append_nil,fP]
  exact Km ag ai _ _ _ _ SF br (fun x ao=>by simpa using br x ao) J
 ·simp only[List.append_nil,fP,aE]
  rfl
end
end
section
section
variable {P:Program} {ops:Array Oper} {Q:Exit->Act->World->Prop} {o:Oper} {KK:Act->World->Prop} {n:Nat} {D:List Deferred} {L:List (Nat×Value)} {B:Nat->Prop} {ak:World} {H:List bd} {a:Act} {w:World} {d:Nat} {T:List (TypeId×bz)} {K:bd->List bd}
end
theorem jt{α:Type} (f:α->List Value) (s:Nat) (aA:∀ x,(f x).length=s) (l:List α):(l.flatMap f).length=l.length * s:=by
 induction l with
 | nil=>simp
 | cons x l bx=>rw[List.flatMap_cons,List.length_append,bx,aA,List.length_cons,Nat.add_mul]; omega
theorem Kn{α:Type} (f:α->List Value) (s:Nat) (aA:∀ x,(f x).length=s) (l:List α) (k j:Nat) (ab:k < l.length) (v:Value) (aE:(f l[k])[j]?=some v):(l.flatMap f)[k * s+j]?=some v:=by
 induction l generalizing k with
 | nil=>simp at ab
 | cons x l bx=>
  have ao:=aA x;cases k with
  | zero=>
   have aX:=(List.getElem?_eq_some_iff.1 aE).1;rw[List.flatMap_cons,List.getElem?_append_left (by simp only[List.getElem_cons_zero]at aX; omega)]
   simpa using aE
  | succ k=>
   have:=bx k (by simpa using ab) (by simpa using aE)
   rw[List.flatMap_cons,List.getElem?_append_right (by rw[ao,Nat.add_mul]; omega),ao,show(k+1) * s+j - s=k * s+j by rw[Nat.add_mul]; omega];exact this
theorem Reads.zW{B:Nat->Prop} {ak w:World} {H:List bd} (dO:bA B ak H w) {A:Option Addr} {c:Nat} {e:TypeId} {size n:Nat} {xs:List Value} (hm:bd.row A c e size n xs∈H):Reads w A n size xs:=by
 obtain⟨X,Y,rfl⟩:=List.append_of_mem hm;exact Reads.row dO (K:=fun c=>X++c :: Y) ⟨X,Y,rfl,rfl⟩
end
section
open Go.ChangeShapes Go.WideShapes Go.ChangeAt Go.RowKit
section
variable {H:Type} {enc:TypeId×Value->H} {P:Program} {W:World}
theorem Ko{a:Addr} {v:Value} (h:W.cell? a=some v):a=⟨a.block,a.off,none⟩:=by
 obtain⟨b,p,s⟩:=a;cases s with
 | none=>rfl
 | some s=>
  exfalso
  simp only[World.cell?]at h
  split at h<;>simp at h
theorem DS{α:Type} {Q:Nat->α->Prop}:∀ n:Nat,(∀ i,i < n->∃ x,Q i x)->∃ l:List α,l.length=n/\∀ i (hi:i < l.length),Q i l[i]
 | 0,_=>⟨[],rfl,fun i hi=>by simp at hi⟩
 | n+1,h=>by
  obtain⟨l,ag,au⟩:=DS n (fun i hi=>h i (by omega));obtain⟨x,ao⟩:=h n (by omega);refine⟨l++[x],by simp[ag],fun i hi=>?_⟩
  by_cases nK:i < l.length
  ·rw[List.getElem_append_left nK]; exact au i nK
  ·have:i=n:=by simp at hi; omega
   subst this;rw[List.getElem_append_right (by omega)]
   simpa [ag] using ao
theorem SG{α:Type} {f:α->List Value} {s:Nat} (al:∀ x,(f x).length=s) (na:0 < s) {t e:TypeId} {r:Reach} {om:Nat} {v:Value} {d:DataW H} {ps:List MemPlace} (aZ:P.underlying t=some (.slice e)) (aa:P.cellsOf e=s)
  (iO:∀ k cs x,DataW.trod enc P W 0 (fun _=>true) true k e cs=some x->∃ y:α,cs=f y) (ss:Value.okWide P W r om t v) (ax:DataW.Trod enc P W 0 (fun _=>true) true t v d ps) :
  ∃ A len cap,∃ l:List α,v=.slice A len cap/\l.length=len/\len<=cap/\cap<=maxLen/\Reads W A len s (l.flatMap f):=by
 obtain⟨A,len,cap,rfl⟩:=okWide_slice aZ ss;obtain⟨fuel,aA⟩:=ax;have aC:(Value.slice A len cap).cells.toList=[.slice A len cap]:=rfl;rw[aC]at aA
 rcases DataW.trod_slice aZ aA with⟨h,_⟩ | ⟨a,aie,aif,elems,rest,n,_,h,_,_,ag,hm,hlen,nb,_,_⟩
 ·simp only[List.cons.injEq,Value.slice.injEq,and_true]at h
  obtain⟨rfl,rfl,rfl⟩:=h;exact⟨none,0,0,[],rfl,rfl,Nat.le_refl _,Nat.zero_le _,Reads.nil _ _ _⟩
 ·simp only[List.cons.injEq,Value.slice.injEq,and_true]at h
  obtain⟨rfl,rfl,rfl⟩:=h;rw[aa]at nb;obtain⟨l,p2,au⟩:=DS (Q:=fun i (y:α)=>∀ j,j < s->W.cell? ((a.add (i * s)).add j)=(f y)[j]?) len (fun i hi=>by
   have J:=nb i hi;have U:elems[i]?=some (elems[i]'(by omega)):=List.getElem?_eq_getElem (by omega);rw[U,Option.bind_eq_some_iff]at J;obtain⟨cs,ae,aw⟩:=J;obtain⟨y,rfl⟩:=iO _ _ _ aw;exact⟨y,(World.cells?_some ae).2.2⟩)
  refine⟨some a,len,cap,l,rfl,p2,ag,hm,by rw[jt f s al,p2],fun aP=>?_⟩;have bP:=au 0 (by omega) 0 na;have p0:W.cell? a=some ((f l[0])[0]'(by rw[al]; exact na)):=by
   have a7:(a.add (0 * s)).add 0=a:=by simp[Addr.add]
   rw[a7,List.getElem?_eq_getElem (by rw[al]; exact na)]at bP;exact bP
  have kb:=Ko p0;refine⟨a.block,a.off,congrArg some kb,fun j u hu=>?_⟩;have aX:j < len * s:=by have:=(List.getElem?_eq_some_iff.1 hu).1; rwa [jt f s al,p2]at this
  have hdiv:j / s < len:=(Nat.div_lt_iff_lt_mul na).2 aX;have su:=Nat.mod_lt j na;have aF:=au (j / s) (by omega) (j % s) su;rw[kb,Addr.add_lit,Addr.add_lit,List.getElem?_eq_getElem (by rw[al]; exact su)]at aF;have aW:=Kn f s al l (j / s) (j % s) (by omega) _ (List.getElem?_eq_getElem (by rw[al]; exact su));have sw:j / s * s+j % s=j:=by rw[Nat.mul_comm]; exact Nat.div_add_mod j s
  rw[sw,hu]at aW;rw[Nat.add_assoc,sw]at aF;rw[aF,aW]
end
end
section
section
variable {P:Program} {ops:Array Oper} {Q:Exit->Act->World->Prop} {o:Oper} {KK:Act->World->Prop} {n:Nat} {D:List Deferred} {L:List (Nat×Value)} {B:Nat->Prop} {ak:World} {H:List bd} {a:Act} {w:World} {d:Nat} {T:List (TypeId×bz)} {K:bd->List bd}
theorem Kp{u y v:Operand} {t e:TypeId} {i i':bz} {A:Option Addr} {m c h q:Nat} {k' SH:IntKind} {nJ Kq:Int} (aI:c9 n D L a) (az:o.op=.slice t u none (some y) (some v))
  (ca:gd P T) (J:T.lookup t=some i) (U:i.desc=.slice e) (ae:T.lookup e=some i') (hu:aB L u=some (.slice A m c)) (aV:aB L y=some (.int k' nJ)) (aE:aB L v=some (.int SH Kq)) (p0:nJ=(h:Int)) (SI:Kq=(q:Int)) (cB:h<=q) (au:q<=c) :
  fj P o a (.slice A h q):=fun w=>by
 subst p0; subst SI;have aC:=(ca _ _ J).1;rw[U]at aC
 simp[execOp,az,aI.aB hu,aI.aB aV,aI.aB aE,Instr.sliceAt,Instr.slice,Instr.sliceBounds,Instr.sliceBound,asIntOf,run_underlying aC,bz.run_sizeOf (ca _ _ ae),cB,au]
 by_cases aa:q=0
 ·simp[aa]
 ·cases A with
  | none=>simp
  | some q5=>simp[Addr.add]
theorem SJ{s x:Operand} {t e:TypeId} {i i':bz} {b p iP hv c k m cc:Nat} {xs news:List Value} (av:Sym n D L B ak H a w)
  (az:o.op=.call { callee:=.builtin .append,args:=#[s,x],argTypes:=#[t,t] }) (bb:o.guard=none/\o.dst=some d) (ax:Nat.blt d n=true)
  (ca:gd P T) (J:T.lookup t=some i) (U:i.desc=.slice e) (ae:T.lookup e=some i') (aw:Nat.blt 0 i'.size=true) (aF:i'.zero.cells.size=i'.size) (al:aB L s=some (.slice (some ⟨b,p,none⟩) k c)) (ao:aB L x=some (.slice (some ⟨iP,hv,none⟩) m cc))
  (ab:0 < k) (hm:0 < m) (kY:Reads w (some ⟨b,p,none⟩) k i'.size xs) (aH:Reads w (some ⟨iP,hv,none⟩) m i'.size news) (aih:c < k+m) (ht:(k+m) * i'.bytes<=140737488355328) (kV:k+m<=140737488355328)
  (h:∀ g c' aQ w',Sym n D ((d,.slice (some ⟨g,0,none⟩) (k+m) c') :: L) B ak (.row (some ⟨g,0,none⟩) c' e i'.size (k+m) (xs++news) :: H) aQ w'->KK aQ w'):e3 P ops o KK a w:=by
 have aC:=(ca _ _ J).1;rw[U]at aC;have cC:=ca _ _ ae;obtain⟨inf,o3,fk,iB,lR⟩:=bz.info cC;obtain⟨b',DT,cv,lS⟩:=kY.2 ab;cases cv;obtain⟨b',DT,cv,il⟩:=aH.2 hm;cases cv;have hlen:(xs++news).length=(k+m) * i'.size:=by rw[List.length_append,kY.1,aH.1,Nat.add_mul]
 have dw:=run_append_grow (P:=P) w t o.type e inf i'.zero aC o3 lR ⟨b,p,none⟩ k c xs (by rw[kY.1,fk]) (fun j u hu=>by rw[Addr.add_lit]; exact lS j u hu) ⟨iP,hv,none⟩ m cc news (by rw[aH.1,fk]) (fun j u hu=>by rw[Addr.add_lit]; exact il j u hu) (by omega) (by omega) (growslice_fits (by omega) (by rw[iB]; exact ht));have q3:=grownCap_ge w (k+m) c e;have h6:grownCap w (k+m) c e<=maxLen:=grownCap_le_maxLen w (k+m) c e (by simp only[maxLen]; omega);refine pV av bb ax (v:=.slice (some ⟨w.heap.size,0,none⟩) (k+m) (grownCap w (k+m) c e)) (w':=w.drew.alloc (.cells (xs.toArray++news.toArray++Builtin.zeroCells i'.zero.cells (grownCap w (k+m) c e - (k+m))) e)) (by simp[execOp,az,resolve,invoke,builtin,av.aB al,av.aB ao,dw]) ?_ (h w.heap.size (grownCap w (k+m) c e));have lC:=av.aJ.drew;have bq:=lC.alloc (.cells (xs.toArray++news.toArray++Builtin.zeroCells i'.zero.cells (grownCap w (k+m) c e - (k+m))) e);have ar:=List.pairwise_cons.1 bq.apart;refine⟨bq.below,bq.base,fun ds jI=>?_,List.Pairwise.cons (fun ds jI q cv=>ar.1 ds jI q (by simpa [bd.has] using cv)) ar.2⟩
 rcases List.mem_cons.1 jI with rfl | jI
 ·refine⟨hlen,.inr ⟨w.heap.size,_,(0,0),rfl,av.aJ.fresh,heap_alloc_new w.drew _,.inl rfl,q3,h6,?_,?_⟩⟩
  ·simp only[Array.size_append,List.size_toArray,size_zeroCells,aF,kY.1,aH.1,<- Nat.add_mul]
   congr 1
   omega
  ·simp only[Array.toList_append,List.append_assoc]
   rw[<- List.append_assoc,<- hlen];exact List.take_left
 ·exact bq.ok ds (List.mem_cons_of_mem _ jI)
end
end
inductive aR where
 | int (k:IntKind)
 | bool
 | str
 | ah (g:aR)
 | gO (g:aR)
 | unit
 | fn
 | pair (g h:aR)
 deriving DecidableEq
abbrev aR.D:aR->Type
 | .int _=>Int
 | .bool=>Bool
 | .str=>List UInt8
 | .ah g=>List g.D
 | .gO g=>List g.D
 | .unit=>Unit
 | .fn=>Option Nat
 | .pair g h=>g.D×h.D
def aR.size:aR->Nat
 | .pair g h=>g.size+h.size
 | .unit=>0
 | _=>1
abbrev aR.zero:(g:aR)->g.D
 | .int _=>(0:Int)
 | .bool=>false
 | .str=>([]:List UInt8)
 | .ah g=>([]:List g.D)
 | .gO g=>([]:List g.D)
 | .unit=>()
 | .fn=>(none:Option Nat)
 | .pair g h=>(g.zero,h.zero)
def Flat{α:Type} (R:α->List Value->Prop):List α->List Value->Prop
 | [],vs=>vs=[]
 | x :: l,vs=>∃ v1 v2,vs=v1++v2/\R x v1/\Flat R l v2
def mB(B:Nat->Prop) (w:World) (A:Option Addr) (m size:Nat) (vs:List Value):Prop:=Reads w A m size vs/\∀ b p,0 < m->A=some ⟨b,p,none⟩->B b
def SK:Option Nat->Value
 | none=>.nilFunc
 | some f=>.func (.func f) #[] #[]
def bt(B:Nat->Prop) (w:World):(g:aR)->g.D->List Value->Prop
 | .int k=>fun(x:Int) vs=>vs=[.int k x]
 | .bool=>fun(x:Bool) vs=>vs=[.bool x]
 | .str=>fun(x:List UInt8) vs=>vs=[eW x]
 | .ah g=>fun(l:List g.D) vs=>∃ A c xs,vs=[.slice A l.length c]/\l.length<=c/\c<=maxLen/\Flat (bt B w g) l xs/\mB B w A l.length g.size xs
 | .gO g=>fun(l:List g.D) vs=>∃ A xs,vs=[.slice A l.length l.length]/\l.length<=maxLen/\Flat (bt B w g) l xs/\mB B w A l.length g.size xs
 | .unit=>fun _ vs=>vs=[]
 | .fn=>fun(x:Option Nat) vs=>vs=[SK x]
 | .pair g h=>fun(x:g.D×h.D) vs=>∃ v1 v2,vs=v1++v2/\bt B w g x.1 v1/\bt B w h x.2 v2
theorem Flat.mono{α:Type} {R pX:α->List Value->Prop} (h:∀ x vs,R x vs->pX x vs):∀ {l:List α} {vs:List Value},Flat R l vs->Flat pX l vs
 | [],_,aA=>aA
 | _ :: _,_,⟨v1,v2,e,J,U⟩=>⟨v1,v2,e,h _ _ J,Flat.mono h U⟩
theorem Flat.length{α:Type} {R:α->List Value->Prop} {k:Nat} (h:∀ x vs,R x vs->vs.length=k):∀ {l:List α} {vs:List Value},Flat R l vs->vs.length=l.length * k
 | [],_,aA=>by rw[show _=[] from aA]; simp
 | _ :: l,_,⟨v1,v2,e,J,U⟩=>by
  rw[e,List.length_append,h _ _ J,Flat.length h U,List.length_cons,Nat.add_mul,Nat.one_mul,Nat.add_comm]
theorem Flat.append{α:Type} {R:α->List Value->Prop}:∀ {l l':List α} {vs mC:List Value},Flat R l vs->Flat R l' mC->Flat R (l++l') (vs++mC)
 | [],_,_,_,h,aN=>by rw[show _=[] from h]; exact aN
 | _ :: l,_,_,_,⟨v1,v2,e,J,U⟩,aN=>⟨v1,_,by rw[e,List.append_assoc],J,Flat.append U aN⟩
theorem Flat.split{α:Type} {R:α->List Value->Prop} {k:Nat} (h:∀ x vs,R x vs->vs.length=k):∀ {l:List α} {vs:List Value} (n:Nat),Flat R l vs->Flat R (l.take n) (vs.take (n * k))/\Flat R (l.drop n) (vs.drop (n * k))
 | [],vs,n,aA=>by rw[show vs=[] from aA]; simp[Flat]
 | x :: l,vs,0,aA=>by simp only[List.take_zero,Nat.zero_mul,List.drop_zero]; exact⟨rfl,aA⟩
 | x :: l,vs,n+1,⟨v1,v2,e,J,U⟩=>by
  obtain⟨bq,ai⟩:=Flat.split h n U;have ab:=h _ _ J;have aC:(v1++v2).take ((n+1) * k)=v1++v2.take (n * k):=by
   rw[List.take_append,List.take_of_length_le (by rw[ab,Nat.add_mul]; omega),ab]
   congr 2
   rw[Nat.add_mul]; omega
  have a7:(v1++v2).drop ((n+1) * k)=v2.drop (n * k):=by
   rw[List.drop_append,List.drop_of_length_le (by rw[ab,Nat.add_mul]; omega),ab,List.nil_append]
   congr 1
   rw[Nat.add_mul]; omega
  rw[e,aC,a7];exact⟨⟨v1,_,rfl,J,bq⟩,ai⟩
theorem Flat.get{α:Type} {R:α->List Value->Prop} {k:Nat} (h:∀ x vs,R x vs->vs.length=k) {l:List α} {vs:List Value} (aA:Flat R l vs) {i:Nat} {x:α} (hi:l[i]?=some x):R x ((vs.drop (i * k)).take k):=by
 obtain⟨_,U⟩:=Flat.split h i aA;have br:i < l.length:=(List.getElem?_eq_some_iff.1 hi).1;have e:l.drop i=x :: l.drop (i+1):=by
  rw[List.drop_eq_getElem_cons br,(List.getElem?_eq_some_iff.1 hi).2]
 rw[e]at U;obtain⟨v1,v2,a7,ae,_⟩:=U;rw[a7,List.take_append,List.take_of_length_le (by rw[h _ _ ae]; exact Nat.le_refl _),h _ _ ae,Nat.sub_self,List.take_zero,List.append_nil];exact ae
theorem Flat.set{α:Type} {R:α->List Value->Prop} {k:Nat} (h:∀ x vs,R x vs->vs.length=k) {l:List α} {vs:List Value} (aA:Flat R l vs) {i:Nat} (hi:i < l.length) {x:α} {us:List Value} (ao:R x us) :
  Flat R (l.set i x) (vs.take (i * k)++us++vs.drop (i * k+k)):=by
 obtain⟨J,_⟩:=Flat.split h i aA;obtain⟨_,U⟩:=Flat.split h (i+1) aA;rw[List.set_eq_take_append_cons_drop,if_pos hi,List.append_assoc];refine J.append ⟨us,_,rfl,ao,?_⟩;rw[Nat.add_mul,Nat.one_mul]at U;exact U
theorem bt.length{B:Nat->Prop} {w:World}:∀ {g:aR} {x:g.D} {vs:List Value},bt B w g x vs->vs.length=g.size
 | .int _,_,_,h=>by rw[show _=[_] from h]; rfl
 | .bool,_,_,h=>by rw[show _=[_] from h]; rfl
 | .str,_,_,h=>by rw[show _=[_] from h]; rfl
 | .ah _,_,_,⟨_,_,_,h,_⟩=>by rw[h]; rfl
 | .gO _,_,_,⟨_,_,h,_⟩=>by rw[h]; rfl
 | .unit,_,_,h=>by rw[show _=[] from h]; rfl
 | .fn,_,_,h=>by rw[show _=[_] from h]; rfl
 | .pair g h,_,_,⟨v1,v2,e,J,U⟩=>by rw[e,List.length_append,bt.length J,bt.length U]; rfl
theorem bt.jt{B:Nat->Prop} {w:World} {g:aR} {l:List g.D} {vs:List Value} (h:Flat (bt B w g) l vs):vs.length=l.length * g.size:=Flat.length (fun _ _=>bt.length) h
def nL(el:Bool) (B:Nat->Prop) (w:World) (g:aR) (x:List g.D) (vs:List Value):Prop:=match el with
 | true=>bt B w (.gO g) x vs
 | false=>bt B w (.ah g) x vs
theorem nL.length{el:Bool} {B:Nat->Prop} {w:World} {g:aR} {x:List g.D} {vs:List Value} (h:nL el B w g x vs):vs.length=1:=by
 cases el with
 | true=>exact bt.length (g:=.gO g) h
 | false=>exact bt.length (g:=.ah g) h
theorem nL.jt{el:Bool} {B:Nat->Prop} {w:World} {g:aR} {l:List (List g.D)} {vs:List Value} (h:Flat (nL el B w g) l vs):vs.length=l.length:=by
 have:=Flat.length (fun _ _=>nL.length) h
 omega
structure fv(B:Nat->Prop) (w:World) (B':Nat->Prop) (w':World):Prop where
 sub:∀ k,B k->B' k
 same:∀ k,B k->w'.heap[k]?=w.heap[k]?
theorem fv.cell{B B':Nat->Prop} {w w':World} (h:fv B w B' w') {b o:Nat} (ai:B b):w'.cell? ⟨b,o,none⟩=w.cell? ⟨b,o,none⟩:=World.cell?_of_block (h.same b ai)
theorem mB.up{B B':Nat->Prop} {w w':World} (h:fv B w B' w') {A:Option Addr} {m size:Nat} {vs:List Value} (aH:mB B w A m size vs):mB B' w' A m size vs:=by
 refine⟨⟨aH.1.1,fun hm=>?_⟩,fun b p hm e=>h.sub b (aH.2 b p hm e)⟩;obtain⟨b,p,e,aa⟩:=aH.1.2 hm;exact⟨b,p,e,fun j u hu=>by rw[h.cell (aH.2 b p hm e)]; exact aa j u hu⟩
theorem bt.up{B B':Nat->Prop} {w w':World} (h:fv B w B' w'):∀ {g:aR} {x:g.D} {vs:List Value},bt B w g x vs->bt B' w' g x vs
 | .int _,_,_,aA=>aA
 | .bool,_,_,aA=>aA
 | .str,_,_,aA=>aA
 | .ah _,_,_,⟨A,c,xs,e,J,U,ae,aw⟩=>⟨A,c,xs,e,J,U,Flat.mono (fun _ _=>bt.up h) ae,aw.up h⟩
 | .gO _,_,_,⟨A,xs,e,U,ae,aw⟩=>⟨A,xs,e,U,Flat.mono (fun _ _=>bt.up h) ae,aw.up h⟩
 | .unit,_,_,aA=>aA
 | .fn,_,_,aA=>aA
 | .pair _ _,_,_,⟨v1,v2,e,J,U⟩=>⟨v1,v2,e,bt.up h J,bt.up h U⟩
theorem nL.up{B B':Nat->Prop} {w w':World} (h:fv B w B' w') {el:Bool} {g:aR} {x:List g.D} {vs:List Value} (aA:nL el B w g x vs):nL el B' w' g x vs:=by
 cases el with
 | true=>exact bt.up (g:=.gO g) h aA
 | false=>exact bt.up (g:=.ah g) h aA
inductive e8 where
 | id (i:Nat)
 | eS (g:aR) (x:g.D)
inductive bc where
 | val (v:Value)
 | str (s:List UInt8)
 | dead
 | ptr (id off:Nat)
 | eg (id cx i off:Nat)
 | fx (g:aR) (x:g.D) (off:Nat)
 | par (g:aR) (l:List g.D)
 | ah (id:Nat)
 | a1 (g:aR) (l:List g.D) (cap:Option Nat)
 | fn (f:FuncId) (ids:List e8)
 | cr (id:Nat)
 | iC (f:FuncId) (id:Nat)
 | gF (id o:Nat)
 | iD (id s o:Nat)
 | iQ (id:Nat)
 | hJ (b:Bool) (id:Nat)
inductive bf where
 | c (x:bc)
 | agg (cs:List bc)
 | arr (g:aR) (l:List g.D)
inductive bZ where
 | a (x:bf)
 | may (g:Bool) (x:bf)
 | cW (vs:List bf)
abbrev bZ.c (x:bc):bZ:=.a (.c x)
inductive Loc where
 | no
 | blk (b:Nat)
 | row (A:Option Addr) (c n:Nat)
def At(B:Nat->Prop) (w:World) (g:aR) (x:g.D) (b o:Nat):Prop:=B b/\∃ vs,bt B w g x vs/\∀ j u,vs[j]?=some u->w.cell? ⟨b,o+j,none⟩=some u
def SL(env:Nat->Loc) (B:Nat->Prop) (w:World):e8->Value->Prop
 | .id i,v=>∃ b,env i=.blk b/\v=.pointer (some ⟨b,0,none⟩)
 | .eS g x,v=>∃ b o,v=.pointer (some ⟨b,o,none⟩)/\At B w g x b o
def e9(env:Nat->Loc) (B:Nat->Prop) (w:World):List e8->List Value->Prop
 | [],vs=>vs=[]
 | c :: cs,vs=>∃ v r,vs=v :: r/\SL env B w c v/\e9 env B w cs r
def dE(env:Nat->Loc) (B:Nat->Prop) (w:World):bc->Value->Prop
 | .val v,u=>u=v
 | .str s,u=>u=eW s
 | .dead,_=>True
 | .ptr id off,u=>∃ b,env id=.blk b/\u=.pointer (some ⟨b,off,none⟩)
 | .eg id cx i off,u=>∃ b c n,env id=.row (some ⟨b,0,none⟩) c n/\u=.pointer (some ⟨b,i * cx+off,none⟩)
 | .fx g x off,u=>∃ b o,u=.pointer (some ⟨b,o+off,none⟩)/\At B w g x b o
 | .par g l,u=>∃ b o vs,u=.pointer (some ⟨b,o,none⟩)/\B b/\Flat (bt B w g) l vs/\∀ j u,vs[j]?=some u->w.cell? ⟨b,o+j,none⟩=some u
 | .ah id,u=>∃ A c n,env id=.row A c n/\u=.slice A n c
 | .a1 g l cap,u=>∃ A c xs,u=.slice A l.length c/\l.length<=c/\c<=maxLen/\(∀ k,cap=some k->c=k)/\Flat (bt B w g) l xs/\mB B w A l.length g.size xs
 | .fn f ids,u=>∃ vs,u=.func (.func f) #[] vs.toArray/\e9 env B w ids vs
 | .cr id,u=>∃ b,env id=.blk b/\u=.map (some b)
 | .iC f id,u=>∃ b,env id=.blk b/\u=.func (.func f) #[.pointer (some ⟨b,0,none⟩)] #[]
 | .iD id s o,u=>∃ A c n,env id=.row A c n/\o<=n/\u=.slice (je A o s c) (n - o) (c - o)
 | .iQ id,u=>∃ A c n,env id=.row A c n/\u=.int .i64 (c:Int)
 | .gF id o,u=>∃ b c n,env id=.row (some ⟨b,0,none⟩) c n/\u=.pointer (some ⟨b,o,none⟩)
 | .hJ b id,u=>∃ k,(b=true->env id=.blk k)/\u=.pointer (if b then some ⟨k,0,none⟩else none)
def cm(env:Nat->Loc) (B:Nat->Prop) (w:World):List bc->List Value->Prop
 | [],vs=>vs=[]
 | c :: cs,vs=>∃ v r,vs=v :: r/\dE env B w c v/\cm env B w cs r
def dP(env:Nat->Loc) (B:Nat->Prop) (w:World):bf->Value->Prop
 | .c x,v=>dE env B w x v
 | .agg cs,v=>∃ vs,v=.agg vs.toArray/\cm env B w cs vs
 | .arr g l,v=>∃ vs,v=.agg vs.toArray/\Flat (bt B w g) l vs
def dx(env:Nat->Loc) (B:Nat->Prop) (w:World):List bf->List Value->Prop
 | [],vs=>vs=[]
 | c :: cs,vs=>∃ v r,vs=v :: r/\dP env B w c v/\dx env B w cs r
def ey(env:Nat->Loc) (B:Nat->Prop) (w:World):bZ->Value->Prop
 | .a x,v=>dP env B w x v
 | .may g x,v=>(g=true->dP env B w x v)/\(g=false->v=undef)
 | .cW xs,v=>∃ vs,v=.tuple vs.toArray/\dx env B w xs vs
theorem At.up{B B':Nat->Prop} {w w':World} (h:fv B w B' w') {g:aR} {x:g.D} {b o:Nat} (bq:At B w g x b o):At B' w' g x b o:=by
 obtain⟨ai,vs,J,U⟩:=bq;exact⟨h.sub b ai,vs,bt.up h J,fun j u hu=>by rw[h.cell ai]; exact U j u hu⟩
theorem e9.up{env:Nat->Loc} {B B':Nat->Prop} {w w':World} (h:fv B w B' w'):∀ {cs:List e8} {vs:List Value},e9 env B w cs vs->e9 env B' w' cs vs
 | [],_,aa=>aa
 | .id _ :: _,_,⟨v,r,e,J,U⟩=>⟨v,r,e,J,e9.up h U⟩
 | .eS _ _ :: _,_,⟨v,r,e,⟨b,o,J,ae⟩,U⟩=>⟨v,r,e,⟨b,o,J,ae.up h⟩,e9.up h U⟩
theorem dE.up{env:Nat->Loc} {B B':Nat->Prop} {w w':World} (h:fv B w B' w'):∀ {c:bc} {v:Value},dE env B w c v->dE env B' w' c v
 | .val _,_,aa=>aa
 | .str _,_,aa=>aa
 | .dead,_,aa=>aa
 | .ptr _ _,_,aa=>aa
 | .eg _ _ _ _,_,aa=>aa
 | .fx _ _ _,_,⟨b,o,e,bq⟩=>⟨b,o,e,bq.up h⟩
 | .par _ _,_,⟨b,o,vs,e,ai,J,U⟩=>⟨b,o,vs,e,h.sub b ai,Flat.mono (fun _ _=>bt.up h) J,fun j u hu=>by rw[h.cell ai]; exact U j u hu⟩
 | .ah _,_,aa=>aa
 | .a1 _ _ _,_,⟨A,c,xs,e,J,U,ae,aw,aF⟩=>⟨A,c,xs,e,J,U,ae,Flat.mono (fun _ _=>bt.up h) aw,aF.up h⟩
 | .fn _ _,_,⟨vs,e,ar⟩=>⟨vs,e,ar.up h⟩
 | .cr _,_,aa=>aa
 | .iC _ _,_,aa=>aa
 | .gF _ _,_,aa=>aa
 | .iD _ _ _,_,aa=>aa
 | .iQ _,_,aa=>aa
 | .hJ _ _,_,aa=>aa
theorem cm.up{env:Nat->Loc} {B B':Nat->Prop} {w w':World} (h:fv B w B' w'):∀ {c:List bc} {v:List Value},cm env B w c v->cm env B' w' c v
 | [],_,aa=>aa
 | _ :: _,_,⟨v,r,e,J,U⟩=>⟨v,r,e,J.up h,cm.up h U⟩
theorem dP.up{env:Nat->Loc} {B B':Nat->Prop} {w w':World} (h:fv B w B' w'):∀ {c:bf} {v:Value},dP env B w c v->dP env B' w' c v
 | .c _,_,aa=>dE.up h aa
 | .agg _,_,⟨vs,e,J⟩=>⟨vs,e,J.up h⟩
 | .arr _ _,_,⟨vs,e,J⟩=>⟨vs,e,Flat.mono (fun _ _=>bt.up h) J⟩
theorem dx.up{env:Nat->Loc} {B B':Nat->Prop} {w w':World} (h:fv B w B' w'):∀ {c:List bf} {v:List Value},dx env B w c v->dx env B' w' c v
 | [],_,aa=>aa
 | _ :: _,_,⟨v,r,e,J,U⟩=>⟨v,r,e,J.up h,dx.up h U⟩
theorem ey.up{env:Nat->Loc} {B B':Nat->Prop} {w w':World} (h:fv B w B' w'):∀ {c:bZ} {v:Value},ey env B w c v->ey env B' w' c v
 | .a _,_,aa=>dP.up h aa
 | .may _ _,_,aa=>⟨fun aM=>(aa.1 aM).up h,aa.2⟩
 | .cW _,_,⟨vs,e,J⟩=>⟨vs,e,J.up h⟩
section
structure a6 where
 bh:bz
 g:Option aR
def aR.ev:aR->List Value
 | .int k=>[.int k 0]
 | .bool=>[.bool false]
 | .str=>[eW []]
 | .ah _=>[.slice none 0 0]
 | .gO _=>[.slice none 0 0]
 | .unit=>[]
 | .fn=>[.nilFunc]
 | .pair g h=>g.ev++h.ev
structure a6.ok(P:Program) (t:TypeId) (e:a6):Prop where
 bh:bz.ok P t e.bh
 g:∀ g,e.g=some g->g.size=e.bh.size/\e.bh.zero.cells.toList=g.ev/\0 < g.size
inductive bY where
 | leaf
 | node (l:bY) (k:TypeId) (e:a6) (r:bY)
def bY.find:bY->TypeId->Option a6
 | .leaf,_=>none
 | .node l k e r,t=>match Nat.blt t k with
  | true=>l.find t
  | false=>match Nat.beq t k with
   | true=>some e
   | false=>r.find t
def bY.ok(P:Program):bY->Prop
 | .leaf=>True
 | .node l k e r=>l.ok P/\a6.ok P k e/\r.ok P
theorem bY.get{P:Program}:∀ {tt:bY} {t:TypeId} {e:a6},tt.ok P->tt.find t=some e->a6.ok P t e
 | .leaf,_,_,_,h=>by cases h
 | .node l k cv r,t,e,⟨J,U,ae⟩,h=>by
  unfold bY.find at h
  split at h
  ·exact bY.get J h
  ·split at h
   ·rename_i ab
    have:t=k:=Nat.eq_of_beq_eq_true ab
    subst this;cases h;exact U
   ·exact bY.get ae h
theorem bz.uniq{P:Program} {t:TypeId} {i j:bz} (h:bz.ok P t i) (k:bz.ok P t j):i=j:=by
 obtain⟨i1,i2,i3,i4⟩:=i;obtain⟨aii,sx,aij,aik⟩:=j;have J:=h.1.symm.trans k.1;have U:=h.2.symm.trans k.2;simp only[Option.some.injEq,Prod.mk.injEq]at J U;obtain⟨rfl,rfl,rfl⟩:=U;subst J
 rfl
theorem zX{P:Program} {t:TypeId} {i:bz} (h:bz.ok P t i):∃ T,gd P T/\T.lookup t=some i:=⟨[(t,i)],gd.cons h (gd.nil _),by simp⟩
theorem lT{P:Program} {t e:TypeId} {i j:bz} (h:bz.ok P t i) (k:bz.ok P e j):∃ T,gd P T/\T.lookup t=some i/\T.lookup e=some j:=by
 refine⟨[(t,i),(e,j)],gd.cons h (gd.cons k (gd.nil _)),by simp,?_⟩
 by_cases he:e=t
 ·subst he
  rw[bz.uniq h k]
  simp
 ·simp[List.lookup_cons,beq_false_of_ne he]
theorem SM{P:Program} {t e f:TypeId} {i j l:bz} (h:bz.ok P t i) (k:bz.ok P e j) (m:bz.ok P f l):∃ T,gd P T/\T.lookup t=some i/\T.lookup e=some j/\T.lookup f=some l:=by
 refine⟨[(t,i),(e,j),(f,l)],gd.cons h (gd.cons k (gd.cons m (gd.nil _))),by simp,?_,?_⟩
 ·by_cases he:e=t
  ·subst he
   rw[bz.uniq h k]
   simp
  ·simp[List.lookup_cons,beq_false_of_ne he]
 ·by_cases aA:f=t
  ·subst aA
   rw[bz.uniq h m]
   simp
  ·by_cases jJ:f=e
   ·subst jJ
    rw[bz.uniq k m]
    simp[List.lookup_cons,beq_false_of_ne aA]
   ·simp[List.lookup_cons,beq_false_of_ne aA,beq_false_of_ne jJ]
inductive cw where
 | cells (t:TypeId) (cs:List bc)
 | row (t:TypeId) (g:aR) (l:List g.D) (cap:Option Nat)
 | hk (s:ByteArray) (pos:Nat)
 | mp (gk a8:aR) (l:List (gk.D×a8.D)) (o:Option (List MapEntry×Nat))
 | it (eZ:Nat) (es:List MapEntry) (clock:Nat) (ps:List Nat)
 | jK
 | gT (eZ:Nat)
 | ez (el:Bool) (t:TypeId) (g:aR) (l:List (List g.D)) (cap:Option Nat) (i d:Nat)
 | kc
 | fr (t:TypeId) (g:aR) (l:List g.D)
 | b0 (t bR:TypeId) (g:aR) (l:List (Bool×List g.D)) (cap:Option Nat) (h:Option (Nat×Option Nat))
abbrev bo:=List (Nat×cw)
abbrev cJ:=List (Nat×bZ)
structure aK where
 L:cJ
 H:bo
def aS{α:Type}:List (Nat×α)->Nat->Option α
 | [],_=>none
 | (k,v) :: r,s=>match Nat.beq s k with
  | true=>some v
  | false=>aS r s
theorem ct{α:Type} {k:Nat} {v:α} {r:List (Nat×α)} {s:Nat}:aS ((k,v) :: r) s=if s=k then some v else aS r s:=by
 show(match Nat.beq s k with | true=>some v | false=>aS r s)=_
 split
 ·rename_i h
  rw[if_pos (Nat.eq_of_beq_eq_true h)]
 ·rename_i h
  rw[if_neg (Nat.ne_of_beq_eq_false h)]
def ea(B:Nat->Prop) (w:World):(g:aR)->g.D->Value->Prop
 | .pair g h=>fun x v=>∃ vs,v=.agg vs.toArray/\bt B w (.pair g h) x vs
 | g=>fun x v=>bt B w g x [v]
theorem ea.up{B B':Nat->Prop} {w w':World} (h:fv B w B' w'):∀ {g:aR} {x:g.D} {v:Value},ea B w g x v->ea B' w' g x v
 | .pair _ _,_,_,⟨vs,e,J⟩=>⟨vs,e,bt.up h J⟩
 | .int _,_,_,J=>bt.up h J
 | .bool,_,_,J=>bt.up h J
 | .str,_,_,J=>bt.up h J
 | .ah _,_,_,J=>bt.up h J
 | .gO _,_,_,J=>bt.up h J
 | .unit,_,_,J=>bt.up h J
 | .fn,_,_,J=>bt.up h J
def fI(B:Nat->Prop) (w:World) (gk a8:aR):List (gk.D×a8.D)->List MapEntry->Prop
 | [],es=>es=[]
 | x :: l,es=>∃ e r,es=e :: r/\ea B w gk x.1 e.key/\ea B w a8 x.2 e.val/\fI B w gk a8 l r
theorem fI.up{B B':Nat->Prop} {w w':World} (h:fv B w B' w') {gk a8:aR}:∀ {l:List (gk.D×a8.D)} {es:List MapEntry},fI B w gk a8 l es->fI B' w' gk a8 l es
 | [],_,cB=>cB
 | _ :: _,_,⟨e,r,aC,J,U,ae⟩=>⟨e,r,aC,J.up h,U.up h,fI.up h ae⟩
def Stamped(es:List MapEntry) (clock:Nat):Prop:=(es.map (·.born)).Pairwise (· < ·)/\∀ b∈es.map (·.born),b < clock
def SN(es:List MapEntry) (ps:List Nat):List Nat:=ps.map fun j=>((es[j]?).map (·.born)).getD 0
def dJ(B:Nat->Prop) (w:World) (bR:TypeId) (g:aR):List (Bool×List g.D)->List Value->List fU->Prop
 | [],vs,I=>vs=[]/\I=[]
 | x :: r,vs,I=>∃ v e0,vs=v :: e0/\match x.1 with
  | true=>∃ A k xs eM,v=.slice A x.2.length k/\I=⟨A,k,bR,g.size,x.2.length,xs⟩ :: eM/\Flat (bt B w g) x.2 xs/\dJ B w bR g r e0 eM
  | false=>bt B w (.ah g) x.2 [v]/\dJ B w bR g r e0 I
theorem dJ.length{B:Nat->Prop} {w:World} {bR:TypeId} {g:aR}:∀ {l:List (Bool×List g.D)} {vs:List Value} {I:List fU},dJ B w bR g l vs I->vs.length=l.length
 | [],_,_,⟨e,_⟩=>by rw[e]; rfl
 | (true,_) :: _,_,_,⟨v,e0,e,_,_,_,_,_,_,_,h⟩=>by rw[e,List.length_cons,List.length_cons,dJ.length h]
 | (false,_) :: _,_,_,⟨v,e0,e,_,h⟩=>by rw[e,List.length_cons,List.length_cons,dJ.length h]
theorem dJ.up{B B':Nat->Prop} {w w':World} (h:fv B w B' w') {bR:TypeId} {g:aR}:∀ {l:List (Bool×List g.D)} {vs:List Value} {I:List fU},dJ B w bR g l vs I->dJ B' w' bR g l vs I
 | [],_,_,J=>J
 | (true,_) :: _,_,_,⟨v,e0,e,A,k,xs,eM,J,U,ae,aw⟩=>⟨v,e0,e,A,k,xs,eM,J,U,Flat.mono (fun _ _=>bt.up h) ae,dJ.up h aw⟩
 | (false,_) :: _,_,_,⟨v,e0,e,J,U⟩=>⟨v,e0,e,bt.up h J,dJ.up h U⟩
def Kr{α:Type} (l:List (Bool×List α)):Option (Nat×Option Nat)->List (Bool×List α)
 | none=>l
 | some (i,_)=>l.set i (false,[])
def w0(env:Nat->Loc) (n:Nat) (bJ c2:List Value):Option (Nat×Option Nat)->Prop
 | none=>c2=bJ
 | some (i,Ks)=>i < n/\∃ v,c2=bJ.set i v/\∀ d,Ks=some d->∃ A c m,env d=.row A c m/\v=.slice A m c
def ew(env:Nat->Loc) (B:Nat->Prop) (w:World) (id:Nat):cw->bd->Prop
 | .cells t cs,c=>∃ b vs,env id=.blk b/\c=.gv b vs t/\cm env B w cs vs
 | .row t g l cap,c=>∃ A k xs,env id=.row A k l.length/\c=.row A k t g.size l.length xs/\Flat (bt B w g) l xs/\∀ q,cap=some q->k=q
 | .hk s p,c=>∃ b,env id=.blk b/\c=.obj b (.stringIter s p)
 | .mp gk a8 l o,c=>∃ b es clock,env id=.blk b/\c=.obj b (.map es.toArray clock)/\fI B w gk a8 l es/\Stamped es clock/\∀ q,o=some q->q=(es,clock)
 | .it eZ es clock ps,c=>∃ b m,env id=.blk b/\env eZ=.blk m/\c=.obj b (.mapIter (some m) clock (SN es ps).toArray clock)
 | .jK,c=>∃ b o,env id=.blk b/\c=.obj b o
 | .gT eZ,c=>∃ b m q,env id=.blk b/\env eZ=.blk m/\c=.obj b (.mapIter (some m) q #[] q)
 | .ez el t g l cap i d,c=>∃ A k bJ cj c' m,env id=.row A k l.length/\c=.row A k t 1 l.length (bJ.set i (.slice cj m c'))/\Flat (nL el B w g) l bJ/\i < l.length/\env d=.row cj c' m/\(∀ q,cap=some q->k=q)/\(el=true->c'=m)
 | .kc,c=>∃ A k n t s m xs,env id=.row A k n/\c=.row A k t s m xs
 | .fr t g l,c=>∃ A k,env id=.row A k l.length/\((∃ xs,c=.row A k t g.size l.length xs/\Flat (bt B w g) l xs)\/(c=.row none 0 t g.size 0 []/\k=l.length/\k<=maxLen/\∃ xs,Flat (bt B w g) l xs/\mB B w A l.length g.size xs))
 | .b0 t bR g l cap h,c=>∃ A k bJ c2 I,env id=.row A k l.length/\c=.tree (⟨A,k,t,1,l.length,c2⟩ :: I)/\dJ B w bR g (Kr l h) bJ I/\w0 env l.length bJ c2 h/\∀ q,cap=some q->k=q
def bp(env:Nat->Loc) (B:Nat->Prop) (w:World):bo->List bd->Prop
 | [],H=>H=[]
 | (id,b) :: h,H=>∃ c H',H=c :: H'/\ew env B w id b c/\bp env B w h H'
theorem ew.up{env:Nat->Loc} {B B':Nat->Prop} {w w':World} (h:fv B w B' w') {id:Nat}:∀ {b:cw} {c:bd},ew env B w id b c->ew env B' w' id b c
 | .cells _ _,_,⟨b,vs,e,aa,J⟩=>⟨b,vs,e,aa,J.up h⟩
 | .row _ _ _ _,_,⟨A,k,xs,e,aa,J,U⟩=>⟨A,k,xs,e,aa,Flat.mono (fun _ _=>bt.up h) J,U⟩
 | .hk _ _,_,ai=>ai
 | .mp _ _ _ _,_,⟨b,es,k,e,aa,J,U⟩=>⟨b,es,k,e,aa,J.up h,U⟩
 | .it _ _ _ _,_,ai=>ai
 | .gT _,_,ai=>ai
 | .jK,_,ai=>ai
 | .ez _ _ _ _ _ _ _,_,⟨A,k,bJ,cj,c',m,e,aa,J,U⟩=>⟨A,k,bJ,cj,c',m,e,aa,Flat.mono (fun _ _=>nL.up h) J,U⟩
 | .kc,_,ai=>ai
 | .b0 _ _ _ _ _ _,_,⟨A,k,bJ,c2,I,e,aa,J,U⟩=>⟨A,k,bJ,c2,I,e,aa,J.up h,U⟩
 | .fr _ _ _,_,⟨A,k,e,J⟩=>⟨A,k,e,J.imp (fun⟨xs,a,b⟩=>⟨xs,a,Flat.mono (fun _ _=>bt.up h) b⟩) fun⟨a,b,c,xs,d,r⟩=>⟨a,b,c,xs,Flat.mono (fun _ _=>bt.up h) d,r.up h⟩⟩
theorem bp.up{env:Nat->Loc} {B B':Nat->Prop} {w w':World} (h:fv B w B' w'):∀ {l:bo} {H:List bd},bp env B w l H->bp env B' w' l H
 | [],_,cB=>cB
 | _ :: _,_,⟨c,H',e,J,U⟩=>⟨c,H',e,J.up h,bp.up h U⟩
theorem bp.fG{env:Nat->Loc} {B:Nat->Prop} {w:World}:∀ {l:bo} {H:List bd} {id:Nat} {b:cw},bp env B w l H->aS l id=some b->∃ c K,ew env B w id b c/\iN H c K
 | [],_,_,_,_,h=>by cases h
 | (k,b') :: l,H,id,b,⟨c,H',e,J,U⟩,h=>by
  rw[ct]at h;subst e
  split at h
  ·rename_i e
   subst e;cases h;exact⟨c,_,J,uG⟩
  ·obtain⟨c',K,ae,X,Y,aw,aF⟩:=bp.fG U h
   exact⟨c',fun z=>c :: K z,ae,c :: X,Y,by rw[aw]; rfl,by rw[aF]; rfl⟩
def ek(id:Nat) (b:cw):bo->bo
 | []=>[]
 | (k,b') :: r=>match Nat.beq k id with
  | true=>(k,b) :: r
  | false=>(k,b') :: ek id b r
theorem bp.put{env:Nat->Loc} {B:Nat->Prop} {w:World}:∀ {l:bo} {H:List bd} {id:Nat} {b:cw},bp env B w l H->aS l id=some b->∃ c K,ew env B w id b c/\iN H c K/\∀ b' c',ew env B w id b' c'->bp env B w (ek id b' l) (K c')
 | [],_,_,_,_,h=>by cases h
 | (k,b') :: l,H,id,b,⟨c,H',e,J,U⟩,h=>by
  rw[ct]at h;subst e
  split at h
  ·rename_i e
   subst e;cases h;refine⟨c,_,J,uG,fun iP cz ai=>?_⟩;unfold ek;rw[Nat.beq_refl];exact⟨cz,H',rfl,ai,U⟩
  ·rename_i cL
   obtain⟨c',K,ae,⟨X,Y,aw,aF⟩,aW⟩:=bp.put U h;refine⟨c',fun z=>c :: K z,ae,⟨c :: X,Y,by rw[aw]; rfl,by rw[aF]; rfl⟩,fun iP cz ai=>?_⟩;unfold ek
   have:Nat.beq k id=false:=by
    cases ab:Nat.beq k id with
    | false=>rfl
    | true=>exact absurd (Nat.eq_of_beq_eq_true ab).symm cL
   rw[this];exact⟨c,_,rfl,J,aW iP cz ai⟩
def sy(i:Nat):List e8->Bool
 | []=>false
 | .id j :: r=>Nat.beq j i || sy i r
 | .eS _ _ :: r=>sy i r
def bc.sub:bc->Nat->bc->bc
 | .ptr i o,id,_=>match Nat.beq i id with
  | true=>.dead
  | false=>.ptr i o
 | .eg i cx j o,id,_=>match Nat.beq i id with
  | true=>.dead
  | false=>.eg i cx j o
 | .ah i,id,z=>match Nat.beq i id with
  | true=>z
  | false=>.ah i
 | .fn f ids,id,_=>match sy id ids with
  | true=>.dead
  | false=>.fn f ids
 | .cr i,id,_=>match Nat.beq i id with
  | true=>.dead
  | false=>.cr i
 | .iC f i,id,_=>match Nat.beq i id with
  | true=>.dead
  | false=>.iC f i
 | .gF i o,id,_=>match Nat.beq i id with
  | true=>.dead
  | false=>.gF i o
 | .iQ i,id,_=>match Nat.beq i id with
  | true=>.dead
  | false=>.iQ i
 | .iD i s o,id,_=>match Nat.beq i id with
  | true=>.dead
  | false=>.iD i s o
 | .hJ b i,id,_=>match Nat.beq i id with
  | true=>.dead
  | false=>.hJ b i
 | c,_,_=>c
def p3(id:Nat) (z:bc):List bc->List bc
 | []=>[]
 | c :: r=>c.sub id z :: p3 id z r
def bf.sub:bf->Nat->bc->bf
 | .c x,id,z=>.c (x.sub id z)
 | .agg cs,id,z=>.agg (p3 id z cs)
 | .arr g l,_,_=>.arr g l
def w1(id:Nat) (z:bc):List bf->List bf
 | []=>[]
 | c :: r=>c.sub id z :: w1 id z r
def bZ.sub:bZ->Nat->bc->bZ
 | .a x,id,z=>.a (x.sub id z)
 | .may g x,id,z=>.may g (x.sub id z)
 | .cW xs,id,z=>.cW (w1 id z xs)
def eN(id:Nat) (z:bc):cJ->cJ
 | []=>[]
 | (k,v) :: r=>(k,v.sub id z) :: eN id z r
def cw.sub:cw->Nat->bc->cw
 | .cells t cs,id,z=>.cells t (p3 id z cs)
 | .it eZ es k ps,id,_=>match Nat.beq eZ id with
  | true=>.jK
  | false=>.it eZ es k ps
 | .gT eZ,id,_=>match Nat.beq eZ id with
  | true=>.jK
  | false=>.gT eZ
 | .ez el t g l cap i d,id,z=>match Nat.beq d id with
  | true=>match z with
   | .a1 g' bV _=>match decEq g' g with
    | isTrue h=>match el with
     | true=>.row t (.gO g) (l.set i (h ▸ bV)) cap
     | false=>.row t (.ah g) (l.set i (h ▸ bV)) cap
    | isFalse _=>.kc
   | _=>.kc
  | false=>.ez el t g l cap i d
 | .b0 t bR g l cap (some (i,some d)),id,_=>match Nat.beq d id with
  | true=>.b0 t bR g l cap (some (i,none))
  | false=>.b0 t bR g l cap (some (i,some d))
 | b,_,_=>b
def du(id:Nat) (z:bc):bo->bo
 | []=>[]
 | (k,b) :: r=>match Nat.beq k id with
  | true=>du id z r
  | false=>(k,b.sub id z) :: du id z r
section
variable {env env':Nat->Loc} {B:Nat->Prop} {w:World} {id:Nat} {z:bc}
theorem e9.DU(he:∀ j,j≠id->env' j=env j):∀ {ids:List e8} {vs:List Value},sy id ids=false->e9 env B w ids vs->e9 env' B w ids vs
 | [],_,_,h=>h
 | .id i :: ids,_,bk,⟨v,r,e,⟨b,ai,aE⟩,h⟩=>by
  simp only[sy,Bool.or_eq_false_iff]at bk;exact⟨v,r,e,⟨b,by rw[he i (Nat.ne_of_beq_eq_false bk.1)]; exact ai,aE⟩,e9.DU he bk.2 h⟩
 | .eS g x :: ids,_,bk,⟨v,r,e,J,h⟩=>⟨v,r,e,J,e9.DU he (by simpa [sy] using bk) h⟩
theorem dE.sub(he:∀ j,j≠id->env' j=env j) (bP:∀ v,dE env B w (.ah id) v->dE env' B w z v):∀ {c:bc} {v:Value},dE env B w c v->dE env' B w (c.sub id z) v
 | .val _,_,aa=>aa
 | .str _,_,aa=>aa
 | .dead,_,aa=>aa
 | .ptr i o,v,aa=>by
  simp only[bc.sub]
  split
  ·trivial
  ·rename_i h
   obtain⟨b,e,aE⟩:=aa;exact⟨b,by rw[he i (Nat.ne_of_beq_eq_false h)]; exact e,aE⟩
 | .eg i cx j o,v,aa=>by
  simp only[bc.sub]
  split
  ·trivial
  ·rename_i h
   obtain⟨b,c,n,e,aE⟩:=aa;exact⟨b,c,n,by rw[he i (Nat.ne_of_beq_eq_false h)]; exact e,aE⟩
 | .hJ b i,v,aa=>by
  simp only[bc.sub]
  split
  ·trivial
  ·rename_i h
   obtain⟨k,e,aE⟩:=aa;exact⟨k,fun ai=>by rw[he i (Nat.ne_of_beq_eq_false h)]; exact e ai,aE⟩
 | .iQ i,v,aa=>by
  simp only[bc.sub]
  split
  ·trivial
  ·rename_i h
   obtain⟨b,c,n,e,aE⟩:=aa;exact⟨b,c,n,by rw[he i (Nat.ne_of_beq_eq_false h)]; exact e,aE⟩
 | .iD i s o,v,aa=>by
  simp only[bc.sub]
  split
  ·trivial
  ·rename_i h
   obtain⟨b,c,n,e,aE⟩:=aa;exact⟨b,c,n,by rw[he i (Nat.ne_of_beq_eq_false h)]; exact e,aE⟩
 | .gF i o,v,aa=>by
  simp only[bc.sub]
  split
  ·trivial
  ·rename_i h
   obtain⟨b,c,n,e,aE⟩:=aa;exact⟨b,c,n,by rw[he i (Nat.ne_of_beq_eq_false h)]; exact e,aE⟩
 | .fx _ _ _,_,aa=>aa
 | .par _ _,_,aa=>aa
 | .ah i,v,aa=>by
  simp only[bc.sub]
  split
  ·rename_i h
   have:i=id:=Nat.eq_of_beq_eq_true h
   subst this;exact bP v aa
  ·rename_i h
   obtain⟨A,c,n,e,aE⟩:=aa;exact⟨A,c,n,by rw[he i (Nat.ne_of_beq_eq_false h)]; exact e,aE⟩
 | .a1 _ _ _,_,aa=>aa
 | .fn f ids,v,aa=>by
  simp only[bc.sub]
  split
  ·trivial
  ·rename_i h
   obtain⟨vs,aE,ar⟩:=aa;exact⟨vs,aE,ar.DU he h⟩
 | .cr i,v,aa=>by
  simp only[bc.sub]
  split
  ·trivial
  ·rename_i h
   obtain⟨b,e,aE⟩:=aa;exact⟨b,by rw[he i (Nat.ne_of_beq_eq_false h)]; exact e,aE⟩
 | .iC f i,v,aa=>by
  simp only[bc.sub]
  split
  ·trivial
  ·rename_i h
   obtain⟨b,e,aE⟩:=aa;exact⟨b,by rw[he i (Nat.ne_of_beq_eq_false h)]; exact e,aE⟩
variable (he:∀ j,j≠id->env' j=env j) (bP:∀ v,dE env B w (.ah id) v->dE env' B w z v)
include he bP
theorem cm.sub:∀ {c:List bc} {v:List Value},cm env B w c v->cm env' B w (p3 id z c) v
 | [],_,aa=>aa
 | _ :: _,_,⟨v,r,e,J,U⟩=>⟨v,r,e,J.sub he bP,cm.sub U⟩
theorem dP.sub:∀ {c:bf} {v:Value},dP env B w c v->dP env' B w (c.sub id z) v
 | .c _,_,aa=>dE.sub he bP aa
 | .agg _,_,⟨vs,e,J⟩=>⟨vs,e,J.sub he bP⟩
 | .arr _ _,_,h=>h
theorem dx.sub:∀ {c:List bf} {v:List Value},dx env B w c v->dx env' B w (w1 id z c) v
 | [],_,aa=>aa
 | _ :: _,_,⟨v,r,e,J,U⟩=>⟨v,r,e,J.sub he bP,dx.sub U⟩
theorem ey.sub:∀ {c:bZ} {v:Value},ey env B w c v->ey env' B w (c.sub id z) v
 | .a _,_,aa=>dP.sub he bP aa
 | .may _ _,_,aa=>⟨fun aM=>(aa.1 aM).sub he bP,aa.2⟩
 | .cW _,_,⟨vs,e,J⟩=>⟨vs,e,J.sub he bP⟩
theorem ew.sub{k:Nat} (ab:k≠id):∀ {b:cw} {c:bd},ew env B w k b c->ew env' B w k (b.sub id z) c
 | .cells _ _,_,⟨b,vs,e,aa,J⟩=>⟨b,vs,by rw[he k ab]; exact e,aa,J.sub he bP⟩
 | .row _ _ _ _,_,⟨A,c,xs,e,aa,J⟩=>⟨A,c,xs,by rw[he k ab]; exact e,aa,J⟩
 | .hk _ _,_,⟨b,e,aa⟩=>⟨b,by rw[he k ab]; exact e,aa⟩
 | .mp _ _ _ _,_,⟨b,es,q,e,aa⟩=>⟨b,es,q,by rw[he k ab]; exact e,aa⟩
 | .it eZ _ _ _,_,⟨b,m,e,hm,aa⟩=>by
  simp only[cw.sub]
  split
  ·exact⟨b,_,by rw[he k ab]; exact e,aa⟩
  ·rename_i h
   exact⟨b,m,by rw[he k ab]; exact e,by rw[he eZ (Nat.ne_of_beq_eq_false h)]; exact hm,aa⟩
 | .gT eZ,_,⟨b,m,q,e,hm,aa⟩=>by
  simp only[cw.sub]
  split
  ·exact⟨b,_,by rw[he k ab]; exact e,aa⟩
  ·rename_i h
   exact⟨b,m,q,by rw[he k ab]; exact e,by rw[he eZ (Nat.ne_of_beq_eq_false h)]; exact hm,aa⟩
 | .jK,_,⟨b,o,e,aa⟩=>⟨b,o,by rw[he k ab]; exact e,aa⟩
 | .ez el t g l cap i d,_,⟨A,c,bJ,cj,c',m,e,aa,J,hi,U,ae⟩=>by
  simp only[cw.sub]
  split
  ·rename_i h
   have ax:d=id:=Nat.eq_of_beq_eq_true h;subst ax
   split
   ·rename_i g' bV q7
    split
    ·rename_i aM _
     subst aM;obtain⟨c6,cz,xs,a7,dF,et,_,hT,mD⟩:=bP _ ⟨cj,c',m,U,rfl⟩;have ag:bJ.length=l.length:=nL.jt J;have cC:bJ.set i (.slice cj m c')=bJ.take i++([.slice cj m c']++bJ.drop (i+1)):=by
      rw[List.set_eq_take_append_cons_drop,if_pos (by omega)]
      rfl
     split
     ·refine⟨A,c,_,by rw[he k ab,List.length_set]; exact e,by rw[List.length_set]; exact aa,?_,ae.1⟩
      have h6:=ae.2 rfl;have al:=Flat.set (k:=1) (fun _ _=>bt.length) (show Flat (bt B w (.gO g')) l bJ from J) hi (x:=bV) (us:=[.slice cj m c']) ⟨c6,xs,by
       subst h6;rw[show c'=bV.length by injection a7]
       injection a7 with q _ _
       rw[q],by
       subst h6
       have:c'=bV.length:=by injection a7
       omega,hT,mD⟩
      rw[cC];rw[Nat.mul_one,List.append_assoc]at al;exact al
     ·refine⟨A,c,_,by rw[he k ab,List.length_set]; exact e,by rw[List.length_set]; exact aa,?_,ae.1⟩
      have al:=Flat.set (k:=1) (fun _ _=>bt.length) (show Flat (bt B w (.ah g')) l bJ from J) hi (x:=bV) (us:=[.slice cj m c']) ⟨c6,cz,xs,by rw[a7],dF,et,hT,mD⟩;rw[cC];rw[Nat.mul_one,List.append_assoc]at al;exact al
    ·exact⟨A,c,_,_,_,_,_,by rw[he k ab]; exact e,aa⟩
   ·exact⟨A,c,_,_,_,_,_,by rw[he k ab]; exact e,aa⟩
  ·rename_i h
   exact⟨A,c,bJ,cj,c',m,by rw[he k ab]; exact e,aa,J,hi,by rw[he d (Nat.ne_of_beq_eq_false h)]; exact U,ae⟩
 | .kc,_,⟨A,c,n,t,s,m,xs,e,aa⟩=>⟨A,c,n,t,s,m,xs,by rw[he k ab]; exact e,aa⟩
 | .fr _ _ _,_,⟨A,c,e,J⟩=>⟨A,c,by rw[he k ab]; exact e,J⟩
 | .b0 _ _ _ _ _ none,_,⟨A,q,bJ,c2,I,e,aa,J,U,ae⟩=>⟨A,q,bJ,c2,I,by rw[he k ab]; exact e,aa,J,U,ae⟩
 | .b0 _ _ _ _ _ (some (i,none)),_,⟨A,q,bJ,c2,I,e,aa,J,⟨U,v,aw,_⟩,ae⟩=>⟨A,q,bJ,c2,I,by rw[he k ab]; exact e,aa,J,⟨U,v,aw,fun _ h=>by cases h⟩,ae⟩
 | .b0 _ _ _ _ _ (some (i,some d)),_,⟨A,q,bJ,c2,I,e,aa,J,⟨U,v,aw,aF⟩,ae⟩=>by
  simp only[cw.sub]
  split
  ·exact⟨A,q,bJ,c2,I,by rw[he k ab]; exact e,aa,J,⟨U,v,aw,fun _ h=>by cases h⟩,ae⟩
  ·rename_i h
   exact⟨A,q,bJ,c2,I,by rw[he k ab]; exact e,aa,J,⟨U,v,aw,fun fJ ax=>by cases ax; rw[he d (Nat.ne_of_beq_eq_false h)]; exact aF d rfl⟩,ae⟩
theorem bp.del:∀ {l:bo} {H:List bd},bp env B w l H->∃ H',H'.Sublist H/\bp env' B w (du id z l) H'
 | [],_,cB=>⟨[],by rw[show _=[] from cB]; exact List.Sublist.refl _,rfl⟩
 | (k,b) :: l,_,⟨c,H',e,J,U⟩=>by
  obtain⟨H2,al,ae⟩:=bp.del U;subst e;unfold du
  split
  ·exact⟨H2,al.cons _,ae⟩
  ·rename_i h
   exact⟨c :: H2,al.cons_cons _,c,H2,rfl,J.sub he bP (Nat.ne_of_beq_eq_false h),ae⟩
def im:bd->Bool
 | .gv _ _ _=>true
 | _=>false
omit he bP in
theorem ew.nc{k:Nat}:∀ {b:cw} {c:bd},ew env B w k b c->(∀ t cs,b≠.cells t cs)->im c=false
 | .cells t cs,_,_,h=>absurd rfl (h t cs)
 | .row _ _ _ _,_,⟨_,_,_,_,e,_⟩,_=>by rw[e]; rfl
 | .hk _ _,_,⟨_,_,e⟩,_=>by rw[e]; rfl
 | .mp _ _ _ _,_,⟨_,_,_,_,e,_⟩,_=>by rw[e]; rfl
 | .it _ _ _ _,_,⟨_,_,_,_,e⟩,_=>by rw[e]; rfl
 | .gT _,_,⟨_,_,_,_,_,e⟩,_=>by rw[e]; rfl
 | .jK,_,⟨_,_,_,e⟩,_=>by rw[e]; rfl
 | .ez _ _ _ _ _ _ _,_,⟨_,_,_,_,_,_,_,e,_⟩,_=>by rw[e]; rfl
 | .kc,_,⟨_,_,_,_,_,_,_,_,e⟩,_=>by rw[e]; rfl
 | .b0 _ _ _ _ _ _,_,⟨_,_,_,_,_,_,e,_⟩,_=>by rw[e]; rfl
 | .fr _ _ _,_,⟨_,_,_,h⟩,_=>by
  rcases h with⟨_,e,_⟩ | ⟨e,_⟩
  ·rw[e]; rfl
  ·rw[e]; rfl
theorem bp.DV:∀ {l:bo} {H:List bd},bp env B w l H->(∀ b c,(id,b)∈l->ew env B w id b c->im c=false)->∃ H',H'.Sublist H/\bp env' B w (du id z l) H'/\∀ c∈H,im c=true->c∈H'
 | [],_,cB,_=>⟨[],by rw[show _=[] from cB]; exact List.Sublist.refl _,rfl,fun c aa _=>by rw[show _=[] from cB]at aa; exact aa⟩
 | (k,b) :: l,_,⟨c,H',e,J,U⟩,ab=>by
  obtain⟨H2,al,ae,aw⟩:=bp.DV U (fun b c ai=>ab b c (List.mem_cons_of_mem _ ai));subst e;unfold du
  split
  ·rename_i hid
   have SO:=Nat.eq_of_beq_eq_true hid;subst SO;refine⟨H2,al.cons _,ae,fun c' eT ju=>?_⟩
   rcases List.mem_cons.1 eT with rfl | eT
   ·rw[ab b c' (List.mem_cons_self ..) J]at ju; cases ju
   ·exact aw c' eT ju
  ·rename_i h
   refine⟨c :: H2,al.cons_cons _,⟨c,H2,rfl,J.sub he bP (Nat.ne_of_beq_eq_false h),ae⟩,fun c' eT ju=>?_⟩
   rcases List.mem_cons.1 eT with rfl | eT
   ·exact List.mem_cons_self ..
   ·exact List.mem_cons_of_mem _ (aw c' eT ju)
omit he bP in
theorem lU:∀ {l:cJ} {s:Nat} {v:bZ},aS (eN id z l) s=some v->∃ u,aS l s=some u/\v=u.sub id z
 | [],_,_,h=>by cases h
 | (k,u) :: l,s,v,h=>by
  unfold eN at h;rw[ct]at h ⊢
  split at h
  ·rename_i e
   cases h;rw[if_pos e];exact⟨u,rfl,rfl⟩
  ·rename_i e
   rw[if_neg e];exact lU h
end
end
section
structure zY where
 g:aR
 l:List g.D
structure bl where
 P:Program
 tt:bY
 zZ:Nat->Option zY
def c7(k:Nat):bd:=.obj k (.deferred (some []))
structure e5 where
 b:Nat->Prop
 p:Nat->Loc->Prop
 d:List Deferred
def jL(ks:List Nat) (aD:e5):List Deferred:=ks.map sr++aD.d
def p4(w:World) (k:Nat):Prop:=∃ cs e dH,w.heap[k]?=some (.cells cs e dH)
theorem p4.dY{w w':World} {k:Nat} (h:p4 w k) (e:w'.heap[k]?=w.heap[k]?):p4 w' k:=by
 obtain⟨cs,t,dH,h⟩:=h;exact⟨cs,t,dH,e.trans h⟩
def lD:Nat:=1000000
def hx:Nat:=2000000
def q8(B:Nat->Prop) (w:World) (i:Nat) (x:zY):Prop:=dE (fun _=>.no) B w (.par x.g x.l) (.pointer (some ⟨i,0,none⟩))/\∃ cs e dH,w.heap[i]?=some (.cells cs e dH)/\cs.size=x.l.length * x.g.size
theorem q8.up{B B':Nat->Prop} {w w':World} (h:fv B w B' w') {i:Nat} {x:zY} (aM:q8 B w i x):q8 B' w' i x:=by
 refine⟨aM.1.up h,?_⟩;obtain⟨⟨b,o,vs,e,ai,_⟩,cs,t,dH,J,U⟩:=aM;cases e;exact⟨cs,t,dH,by rw[h.same _ ai]; exact J,U⟩
structure bB(X:bl) (R:Nat->Prop) (W:World) (aD:e5) (n:Nat) (ks:List Nat) (env:Nat->Loc) (B:Nat->Prop) (ak:World) (H:List bd) (st:aK) (a:Act) (w:World):Prop where
 size:a.tmps.size=n
 defs:a.defers=jL ks aD
 has:∀ s sv,aS st.L s=some sv->∃ v,a.tmps[s]?=some v/\ey env B ak sv v
 heap:bp env B ak st.H H
 aJ:bA (fun k=>R k\/B k) ak (H++ks.map c7) w
 sub:∀ k,aD.b k->B k
 new:∀ k,B k->aD.b k\/(¬ R k/\p4 ak k)
 dj:∀ id l,aD.p id l->n<=id/\env id=l/\((∃ b,l=.blk b)\/hx<=id)
 base:da R W ak
 dT:∀ i x,X.zZ i=some x->q8 B ak i x
def DW(M:Bool) (ks:List Nat) (aD:e5):Prop:=(M=false->ks=[])/\(M=true->∀ id l,aD.p id l->lD<=id)
def kC(X:bl) (R:Nat->Prop) (W:World) (aD:e5) (M:Bool) (n:Nat) (st:aK) (a:Act) (w:World):Prop:=
 ∃ ks env B ak H,DW M ks aD/\bB X R W aD n ks env B ak H st a w
def gi(a:Act):List (Nat×Value):=a.tmps.toList.zipIdx.map fun p=>(p.2,p.1)
theorem SP{s:Nat} {v:Value}:∀ (vs:List Value) (k:Nat),((vs.zipIdx k).map fun p=>(p.2,p.1)).lookup s=some v->k<=s/\vs[s - k]?=some v:=by
 intro vs
 induction vs with
 | nil=>intro k h; cases h
 | cons u vs bx=>
  intro k h;simp only[List.zipIdx_cons,List.map_cons,List.lookup_cons]at h
  by_cases e:s=k
  ·subst e
   simp at h
   subst h
   simp
  ·have cv:(s == k)=false:=by simpa using e
   rw[cv]at h;obtain⟨J,U⟩:=bx (k+1) h;refine⟨by omega,?_⟩;rw[show s - k=(s - (k+1))+1 by omega,List.getElem?_cons_succ];exact U
theorem SQ{s:Nat} {v:Value}:∀ (vs:List Value) (k:Nat),vs[s]?=some v->((vs.zipIdx k).map fun p=>(p.2,p.1)).lookup (k+s)=some v:=by
 intro vs
 induction vs generalizing s with
 | nil=>intro k h; simp at h
 | cons u vs bx=>
  intro k h;simp only[List.zipIdx_cons,List.map_cons,List.lookup_cons];cases s with
  | zero=>simp at h; simp[h]
  | succ s=>
   have e:(k+(s+1) == k)=false:=by simp
   rw[e]
   have:=bx (k+1) (by simpa using h)
   rw[show k+1+s=k+(s+1) by omega]at this;exact this
theorem SR(a:Act):c9 a.tmps.size a.defers (gi a) a:=⟨rfl,rfl,fun s v h=>by
 have:=(SP a.tmps.toList 0 h).2
 simpa using this⟩
theorem hK{a:Act} {s:Nat} {v:Value} (h:a.tmps[s]?=some v):(gi a).lookup s=some v:=by
 have:=SQ a.tmps.toList 0 (s:=s) (v:=v) (by simpa using h)
 simpa [gi] using this
def Kt:Value->bc
 | .string s=>.str s.data.toList
 | v=>.val v
def q9:List Value->List bc
 | []=>[]
 | v :: r=>Kt v :: q9 r
def bj(X:bl) (L:cJ):Operand->Option (Bool×bf)
 | .tmp s=>match aS L s with
  | some (.a x)=>some (true,x)
  | some (.may g x)=>some (g,x)
  | _=>none
 | .const v=>match v with
  | .string s=>some (true,.c (.str s.data.toList))
  | .agg cs=>some (true,.agg (q9 cs.toList))
  | .tuple _=>none
  | v=>some (true,.c (.val v))
 | .global i=>match X.zZ i with
  | some x=>some (true,.c (.par x.g x.l))
  | none=>none
 | .func f=>some (true,.c (.fn f []))
section
variable {X:bl} {R:Nat->Prop} {W:World} {aD:e5} {n:Nat} {ks:List Nat} {env:Nat->Loc} {B:Nat->Prop} {ak:World} {H:List bd} {st:aK} {a:Act} {w:World}
theorem SS(s:ByteArray):eW s.data.toList=.string s:=rfl
theorem SU:∀ v:Value,dE env B ak (Kt v) v
 | .string _=>rfl
 | .bool _=>rfl
 | .int _ _=>rfl
 | .float _ _=>rfl
 | .complex _ _ _=>rfl
 | .pointer _=>rfl
 | .slice _ _ _=>rfl
 | .map _=>rfl
 | .chan _=>rfl
 | .func _ _ _=>rfl
 | .nilFunc=>rfl
 | .iface _ _=>rfl
 | .nilIface=>rfl
 | .agg _=>rfl
 | .tuple _=>rfl
theorem w2:∀ vs:List Value,cm env B ak (q9 vs) vs
 | []=>rfl
 | v :: r=>⟨v,r,rfl,SU v,w2 r⟩
theorem bB.aB(h:bB X R W aD n ks env B ak H st a w) {x:Operand} {g:Bool} {bm:bf} (ao:bj X st.L x=some (g,bm)) (aM:g=true):∃ v,aB (gi a) x=some v/\dP env B ak bm v:=by
 cases x with
 | tmp s=>
  simp only[bj]at ao;cases J:aS st.L s with
  | none=>rw[J]at ao; cases ao
  | some sv=>
   obtain⟨v,U,ae⟩:=h.has s sv J;rw[J]at ao;cases sv with
   | a x=>cases ao; exact⟨v,hK U,ae⟩
   | may g' x=>cases ao; exact⟨v,hK U,ae.1 aM⟩
   | cW xs=>cases ao
 | const v=>
  refine⟨v,rfl,?_⟩;cases v with
  | string s=>cases ao; exact SS s
  | agg cs=>cases ao; exact⟨cs.toList,by simp,w2 _⟩
  | tuple vs=>cases ao
  | _=>cases ao; rfl
 | global i=>
  simp only[bj]at ao;cases J:X.zZ i with
  | none=>rw[J]at ao; cases ao
  | some x=>
   rw[J]at ao;cases ao;exact⟨_,rfl,(h.dT i x J).1⟩
 | func f=>cases ao; exact⟨_,rfl,[],rfl,rfl⟩
theorem bB.bK(h:bB X R W aD n ks env B ak H st a w):c9 n (jL ks aD) (gi a) a:=by
 have:=SR a
 rw[h.size,h.defs]at this;exact this
end
def o8:Op->Bool
 | .load _ _=>true
 | _=>false
def gU(X:bl) (st:aK) (o:Oper) (bm:bf):Prop:=
 ∀ {R:Nat->Prop} {W:World} {aD:e5} {n:Nat} {ks:List Nat} {env:Nat->Loc} {B:Nat->Prop} {ak:World} {H:List bd} {a:Act} {b7:World},bB X R W aD n ks env B ak H st a b7 ->
  ∃ v,dP env B ak bm v/\∀ w,(o8 o.op=true->bA (fun k=>R k\/B k) ak (H++ks.map c7) w)->(execOp a.eval o).run X.P w=.ok (.value v) w
def aY(x:Int):Bool:=Nat.ble (-x).toNat 9223372036854775808&&Nat.ble x.toNat 9223372036854775807
theorem DX{x:Int}:aY x=true ↔ -9223372036854775808<=x/\x<=9223372036854775807:=by
 unfold aY;rw[Bool.and_eq_true,Nat.ble_eq,Nat.ble_eq];omega
def e1(b:Nat) (z:Int):Bool:=Nat.ble (b * z.toNat) 140737488355328&&Nat.ble z.toNat 140737488355328
theorem z1{b:Nat} {z:Int} (bP:0<=z):e1 b z=true ↔ (b:Int) * z<=140737488355328/\z<=140737488355328:=by
 unfold e1;rw[Bool.and_eq_true,Nat.ble_eq,Nat.ble_eq]
 have:((b * z.toNat:Nat):Int)=(b:Int) * z:=by rw[Int.natCast_mul,Int.toNat_of_nonneg bP]
 omega
theorem SV{x:Int} (h:aY x=true):IntKind.i64.wrap x=x:=by
 rw[DX]at h;exact R4 h.1 h.2
def mE:IntKind->Int->Bool×Int
 | .i64,x=>(aY x,x)
 | k,x=>(true,k.wrap x)
theorem uK{k:IntKind} {x z:Int} (h:mE k x=(true,z)):k.wrap x=z:=by
 cases k<;>simp only[mE,Prod.mk.injEq,true_and]at h
 case i64=>obtain⟨J,rfl⟩:=h; exact SV J
 all_goals exact h
def uL(op:BinOp) (k k':IntKind) (x y:Int):Option (Bool×bc):=
 match op with
 | .shl=>some (decide (0<=y),.val (.int k (k.wrap (x * 2 ^ (min y.toNat k.bits)))))
 | .shr=>some (decide (0<=y),.val (.int k (x.fdiv (2 ^ (min y.toNat k.bits)))))
 | _=>match decide (k=k')with
  | false=>none
  | true=>match op with
   | .add=>match mE k (x+y)with
    | (c,z)=>some (c,.val (.int k z))
   | .sub=>match mE k (x - y)with
    | (c,z)=>some (c,.val (.int k z))
   | .mul=>match mE k (x * y)with
    | (c,z)=>some (c,.val (.int k z))
   | .quo=>match mE k (x.tdiv y)with
    | (c,z)=>some (c&&decide (y≠0),.val (.int k z))
   | .rem=>some (decide (y≠0),.val (.int k (x.tmod y)))
   | .and=>some (true,.val (.int k (bits .and k x y)))
   | .or=>some (true,.val (.int k (bits .or k x y)))
   | .xor=>some (true,.val (.int k (bits .xor k x y)))
   | .lss=>some (true,.val (.bool (decide (x < y))))
   | .leq=>some (true,.val (.bool (decide (x<=y))))
   | .gtr=>some (true,.val (.bool (decide (y < x))))
   | .geq=>some (true,.val (.bool (decide (y<=x))))
   | .eql=>some (true,.val (.bool (decide (x=y))))
   | .neq=>some (true,.val (.bool (!decide (x=y))))
   | _=>none
def DY(op:BinOp) (x y:List UInt8):Option (Bool×bc):=
 match op with
 | .eql=>some (true,.val (.bool (x == y)))
 | .neq=>some (true,.val (.bool (!(x == y))))
 | .add=>some (decide (x.length+y.length<=140737488355328),.str (x++y))
 | _=>none
def Ku(op:BinOp) (x y:Bool):Option (Bool×bc):=
 match op with
 | .eql=>some (true,.val (.bool (x == y)))
 | .neq=>some (true,.val (.bool (x != y)))
 | _=>none
def Kv:List bc->List bc->Option Bool
 | [],[]=>some true
 | .val (.int k x) :: r,.val (.int k' y) :: s=>match decide (k=k'),Kv r s with
  | true,some b=>some (decide (x=y)&&b)
  | _,_=>none
 | .val (.bool x) :: r,.val (.bool y) :: s=>match Kv r s with
  | some b=>some ((x == y)&&b)
  | _=>none
 | _,_=>none
def DZ(X:bl) (op:BinOp) (t:TypeId) (x y:bf):Option (Bool×bc):=
 match x,y with
 | .c (.val (.int k x)),.c (.val (.int k' y))=>uL op k k' x y
 | .c (.str x),.c (.str y)=>DY op x y
 | .c (.val (.bool x)),.c (.val (.bool y))=>match X.tt.find t with
  | some ⟨⟨.bool,_,_,_⟩,_⟩=>Ku op x y
  | _=>none
 | .c (.a1 _ l _),.c (.val (.slice none 0 0))=>match X.tt.find t,op with
  | some ⟨⟨.slice _,_,_,_⟩,_⟩,.eql=>some (decide (0 < l.length),.val (.bool false))
  | some ⟨⟨.slice _,_,_,_⟩,_⟩,.neq=>some (decide (0 < l.length),.val (.bool true))
  | _,_=>none
 | .c (.val (.slice none 0 0)),.c (.val (.slice none 0 0))=>match X.tt.find t,op with
  | some ⟨⟨.slice _,_,_,_⟩,_⟩,.eql=>some (true,.val (.bool true))
  | some ⟨⟨.slice _,_,_,_⟩,_⟩,.neq=>some (true,.val (.bool false))
  | _,_=>none
 | _,_=>none
section
variable {P:Program} {o:Oper} {n:Nat} {D:List Deferred} {L:List (Nat×Value)} {a:Act}
theorem SW{op:BinOp} {t bR:TypeId} {u v:Operand} {k k':IntKind} {x y:Int} {cg:bc} (aI:c9 n D L a) (az:o.op=.binOp op t u v bR) (hu:aB L u=some (.int k x)) (aE:aB L v=some (.int k' y))
  (h:uL op k k' x y=some (true,cg)):∃ r,cg=.val r/\fj P o a r:=by
 cases op
 case shl=>
  simp only[uL,Option.some.injEq,Prod.mk.injEq,decide_eq_true_eq]at h;obtain⟨aP,rfl⟩:=h;exact⟨_,rfl,RX aI az hu (by rw[aE,Int.toNat_of_nonneg aP]) rfl⟩
 case shr=>
  simp only[uL,Option.some.injEq,Prod.mk.injEq,decide_eq_true_eq]at h;obtain⟨aP,rfl⟩:=h;exact⟨_,rfl,RY aI az hu (by rw[aE,Int.toNat_of_nonneg aP]) rfl⟩
 all_goals
  have e:k=k':=by
   cases ab:decide (k=k')with
   | true=>exact of_decide_eq_true ab
   | false=>simp only[uL,ab]at h; cases h
  subst e;simp only[uL,decide_true]at h
 case add=>generalize hw:mE k (x+y)=q at h; obtain⟨c,z⟩:=q; cases h; exact⟨_,rfl,J3 aI az hu aE (uK hw)⟩
 case sub=>generalize hw:mE k (x - y)=q at h; obtain⟨c,z⟩:=q; cases h; exact⟨_,rfl,RK aI az hu aE (uK hw)⟩
 case mul=>generalize hw:mE k (x * y)=q at h; obtain⟨c,z⟩:=q; cases h; exact⟨_,rfl,RL aI az hu aE (uK hw)⟩
 case quo=>
  generalize hw:mE k (x.tdiv y)=q at h; obtain⟨c,z⟩:=q
  simp only[Option.some.injEq,Prod.mk.injEq,Bool.and_eq_true,decide_eq_true_eq]at h;obtain⟨⟨rfl,aP⟩,rfl⟩:=h;exact⟨_,rfl,RM aI az hu aE aP (uK hw)⟩
 case rem=>
  simp only[Option.some.injEq,Prod.mk.injEq,decide_eq_true_eq]at h;obtain⟨aP,rfl⟩:=h;exact⟨_,rfl,RN aI az hu aE aP rfl⟩
 case and=>cases h; exact⟨_,rfl,RU aI az hu aE rfl⟩
 case or=>cases h; exact⟨_,rfl,RV aI az hu aE rfl⟩
 case xor=>cases h; exact⟨_,rfl,RW aI az hu aE rfl⟩
 case lss=>cases h; exact⟨_,rfl,RO aI az hu aE⟩
 case leq=>cases h; exact⟨_,rfl,RP aI az hu aE⟩
 case gtr=>cases h; exact⟨_,rfl,RQ aI az hu aE⟩
 case geq=>cases h; exact⟨_,rfl,RR aI az hu aE⟩
 case eql=>cases h; exact⟨_,rfl,RS aI az hu aE⟩
 case neq=>cases h; exact⟨_,rfl,RT aI az hu aE⟩
 case andNot=>cases h
theorem SX{u v:Operand} {t bR:TypeId} {x y:List UInt8} (aI:c9 n D L a) (az:o.op=.binOp .add t u v bR) (hu:aB L u=some (eW x)) (aE:aB L v=some (eW y)) (ag:x.length+y.length<=140737488355328):fj P o a (eW (x++y)):=fun w=>by
 have aC:((ByteArray.mk x.toArray).size+(ByteArray.mk y.toArray).size:Nat)=x.length+y.length:=by simp[ByteArray.size]
 have a7:(ByteArray.mk x.toArray)++(ByteArray.mk y.toArray)=ByteArray.mk (x++y).toArray:=by
  apply ByteArray.ext
  simp[ByteArray.data_append]
 have cC:¬ (((ByteArray.mk x.toArray).size+(ByteArray.mk y.toArray).size:Nat):Int) > IntKind.i64.max:=by
  rw[aC,show IntKind.i64.max=9223372036854775807 from rfl]; omega
 have gN:(Op.stringOp .add (ByteArray.mk x.toArray) (ByteArray.mk y.toArray)).run P w=.ok (eW (x++y)) w:=by
  unfold Op.stringOp;simp only[if_neg cC];rw[a7]
  rfl
 simp only[execOp,az,aI.aB hu,aI.aB aE,eW,eqGuard,binOp];simp only[eW]at gN
 simp[gN]
theorem SY{op:BinOp} {t bR:TypeId} {u v:Operand} {x y:List UInt8} {cg:bc} (aI:c9 n D L a) (az:o.op=.binOp op t u v bR) (hu:aB L u=some (eW x)) (aE:aB L v=some (eW y))
  (h:DY op x y=some (true,cg)) {env:Nat->Loc} {B:Nat->Prop} {ak:World}:∃ r,dE env B ak cg r/\fj P o a r:=by
 cases op<;>simp only[DY,Option.some.injEq,Prod.mk.injEq,true_and,decide_eq_true_eq,reduceCtorEq]at h
 case eql=>subst h; exact⟨_,rfl,SA aI az hu aE⟩
 case neq=>subst h; exact⟨_,rfl,SB aI az hu aE⟩
 case add=>obtain⟨ag,rfl⟩:=h; exact⟨_,rfl,SX aI az hu aE ag⟩
theorem Kw{P:Program} {t e:TypeId} (h:P.underlying t=some (.slice e)) (d:Nat) (a:Addr) (m c:Nat) (w:World):(Op.equalIn (d+1) t (.slice (some a) m c) (.slice none 0 0)).run P w=.ok false w:=by
 unfold Op.equalIn
 simp[run_underlying h]
theorem Kx{P:Program} {t e:TypeId} (h:P.underlying t=some (.slice e)) (d:Nat) (w:World):(Op.equalIn (d+1) t (.slice none 0 0) (.slice none 0 0)).run P w=.ok true w:=by
 unfold Op.equalIn
 simp[run_underlying h]
theorem SZ{X:bl} (av:X.tt.ok X.P) {op:BinOp} {t bR:TypeId} {u v:Operand} {x y:bf} {vx vy:Value} {cg:bc} {env:Nat->Loc} {B:Nat->Prop} {ak:World} (aI:c9 n D L a) (az:o.op=.binOp op t u v bR) (hu:aB L u=some vx) (aE:aB L v=some vy)
  (ao:dP env B ak x vx) (aV:dP env B ak y vy) (h:DZ X op t x y=some (true,cg)):∃ r,dE env B ak cg r/\fj X.P o a r:=by
 unfold DZ at h
 split at h
 ·rw[show vx=_ from ao]at hu
  rw[show vy=_ from aV]at aE;obtain⟨r,rfl,aH⟩:=SW aI az hu aE h;exact⟨r,rfl,aH⟩
 ·rw[show vx=_ from ao]at hu
  rw[show vy=_ from aV]at aE;exact SY aI az hu aE h
 ·rw[show vx=_ from ao]at hu
  rw[show vy=_ from aV]at aE
  split at h
  ·rename_i aA
   obtain⟨T,ca,J⟩:=zX (bY.get av aA).bh;cases op<;>simp only[Ku,Option.some.injEq,Prod.mk.injEq,true_and,reduceCtorEq]at h
   case eql=>subst h; exact⟨_,rfl,Sd aI az ca J rfl hu aE⟩
   case neq=>subst h; exact⟨_,rfl,Se aI az ca J rfl hu aE⟩
  ·cases h
 ·rename_i g l cap
  obtain⟨A,c,xs,rfl,_,_,_,_,gV⟩:=ao;rw[show vy=_ from aV]at aE
  split at h
  ·rename_i e s b z kd aA
   have aC:=(bY.get av aA).bh.1;simp only[Option.some.injEq,Prod.mk.injEq,decide_eq_true_eq]at h;obtain⟨ag,rfl⟩:=h;obtain⟨b,p,rfl,_⟩:=gV.1.2 ag;have he:∀ w,(Op.equal t _ _).run X.P w=.ok _ w:=fun w=>Kw aC 9999 ⟨b,p,none⟩ l.length c w
   exact⟨_,rfl,fun w=>by simp[execOp,az,aI.aB hu,aI.aB aE,eqGuard,binOp,he]⟩
  ·rename_i e s b z kd aA
   have aC:=(bY.get av aA).bh.1;simp only[Option.some.injEq,Prod.mk.injEq,decide_eq_true_eq]at h;obtain⟨ag,rfl⟩:=h;obtain⟨b,p,rfl,_⟩:=gV.1.2 ag;have he:∀ w,(Op.equal t _ _).run X.P w=.ok _ w:=fun w=>Kw aC 9999 ⟨b,p,none⟩ l.length c w
   exact⟨_,rfl,fun w=>by simp[execOp,az,aI.aB hu,aI.aB aE,eqGuard,binOp,he]⟩
  ·cases h
 ·rw[show vx=_ from ao]at hu
  rw[show vy=_ from aV]at aE
  split at h
  ·rename_i e s b z kd aA
   have aC:=(bY.get av aA).bh.1;cases h;have he:∀ w,(Op.equal t _ _).run X.P w=.ok _ w:=fun w=>Kx aC 9999 w
   exact⟨_,rfl,fun w=>by simp[execOp,az,aI.aB hu,aI.aB aE,eqGuard,binOp,he]⟩
  ·rename_i e s b z kd aA
   have aC:=(bY.get av aA).bh.1;cases h;have he:∀ w,(Op.equal t _ _).run X.P w=.ok _ w:=fun w=>Kx aC 9999 w
   exact⟨_,rfl,fun w=>by simp[execOp,az,aI.aB hu,aI.aB aE,eqGuard,binOp,he]⟩
  ·cases h
 ·cases h
end
end
section
section
variable {P:Program} {T:List (TypeId×bz)} {n:Nat} {D:List Deferred} {L:List (Nat×Value)} {a:Act} {o:Oper}
theorem uM{u x:Operand} {t e:TypeId} {i i':bz} {b m j p q:Nat} {k:IntKind} {z:Int} (aI:c9 n D L a) (az:o.op=.indexAddr t u x)
  (ca:gd P T) (J:T.lookup t=some i) (U:i.desc=.array m e) (aw:T.lookup e=some i') (hu:aB L u=some (.pointer (some ⟨b,p,none⟩))) (ao:aB L x=some (.int k z)) (bP:z=(j:Int)) (aX:j < m) (au:p+j * i'.size=q):fj P o a (.pointer (some ⟨b,q,none⟩)):=fun w=>by subst bP; subst au; have aC:=(ca _ _ J).1; rw[U]at aC; have a7:=bz.run_sizeOf (ca _ _ aw); simp[execOp,az,aI.aB hu,aI.aB ao,Instr.indexAt,Instr.sureAddr,asIntOf,run_underlying aC,a7,Addr.add_lit,aX]
end
end
section
def nth{α:Type}:List α->Nat->Option α
 | [],_=>none
 | x :: _,0=>some x
 | _ :: r,n+1=>nth r n
def o9:List bc->Nat->Nat->Option (List bc)
 | _ :: r,o+1,n=>o9 r o n
 | _,0,0=>some []
 | x :: r,0,n+1=>match o9 r 0 n with
  | some l=>some (x :: l)
  | none=>none
 | [],_,_=>none
def kZ:(g:aR)->g.D->Nat->Option bc
 | .int k,x,0=>some (.val (.int k x))
 | .bool,x,0=>some (.val (.bool x))
 | .str,x,0=>some (.str x)
 | .ah g,x,0=>some (.a1 g x none)
 | .gO g,x,0=>some (.a1 g x (some (List.length x)))
 | .fn,none,0=>some (.val .nilFunc)
 | .fn,some f,0=>some (.fn f [])
 | .pair g h,x,o=>match Nat.blt o g.size with
  | true=>kZ g x.1 o
  | false=>kZ h x.2 (o - g.size)
 | _,_,_=>none
def kD(g:aR) (x:g.D):Nat->Nat->Option (List bc)
 | _,0=>some []
 | o,n+1=>match kZ g x o,kD g x (o+1) n with
  | some c,some l=>some (c :: l)
  | _,_=>none
def Part(vs us:List Value) (o n:Nat):Prop:=us.length=n/\∀ j u,us[j]?=some u->vs[o+j]?=some u
section
variable {env:Nat->Loc} {B:Nat->Prop} {w:World}
theorem cm.nth:∀ {cs:List bc} {vs:List Value} {o:Nat} {c:bc},cm env B w cs vs->nth cs o=some c->∃ v,vs[o]?=some v/\dE env B w c v
 | [],_,_,_,_,h=>by cases h
 | c' :: cs,vs,0,c,⟨v,r,e,J,_⟩,h=>by cases h; subst e; exact⟨v,rfl,J⟩
 | c' :: cs,vs,o+1,c,⟨v,r,e,_,U⟩,h=>by
  obtain⟨u,ae,aw⟩:=cm.nth U h;subst e;exact⟨u,ae,aw⟩
theorem cm.length:∀ {cs:List bc} {vs:List Value},cm env B w cs vs->vs.length=cs.length
 | [],_,h=>by rw[show _=[] from h]; rfl
 | _ :: _,_,⟨v,r,e,_,U⟩=>by rw[e,List.length_cons,List.length_cons,cm.length U]
theorem cm.cut:∀ {cs:List bc} {vs:List Value} {o n:Nat} {aG:List bc},cm env B w cs vs->o9 cs o n=some aG->∃ us,Part vs us o n/\cm env B w aG us
 | c :: cs,vs,o+1,n,aG,⟨v,r,e,_,U⟩,h=>by
  obtain⟨us,⟨ae,aw⟩,aF⟩:=cm.cut (o:=o) U (by simpa [o9] using h);subst e;exact⟨us,⟨ae,fun j u aX=>by rw[show o+1+j=(o+j)+1 by omega,List.getElem?_cons_succ]; exact aw j u aX⟩,aF⟩
 | [],vs,0,0,aG,J,h=>by
  simp only[o9,Option.some.injEq]at h;subst h;exact⟨[],⟨rfl,fun j u aX=>by simp at aX⟩,rfl⟩
 | c :: cs,vs,0,0,aG,J,h=>by
  simp only[o9,Option.some.injEq]at h;subst h;exact⟨[],⟨rfl,fun j u aX=>by simp at aX⟩,rfl⟩
 | c :: cs,vs,0,n+1,aG,⟨v,r,e,J,U⟩,h=>by
  simp only[o9]at h
  split at h
  ·rename_i l ag
   cases h;obtain⟨us,⟨ae,aw⟩,aF⟩:=cm.cut U ag;subst e;refine⟨v :: us,⟨by rw[List.length_cons,ae],fun j u aX=>?_⟩,v,us,rfl,J,aF⟩;cases j with
   | zero=>simpa using aX
   | succ j=>
    rw[show 0+(j+1)=(0+j)+1 by omega,List.getElem?_cons_succ];exact aw j u (by simpa using aX)
  ·cases h
 | [],_,0,_+1,_,_,h=>by simp[o9]at h
 | [],_,_+1,_,_,_,h=>by simp[o9]at h
theorem bt.cell:∀ {g:aR} {x:g.D} {vs:List Value} {o:Nat} {c:bc},bt B w g x vs->kZ g x o=some c->∃ v,vs[o]?=some v/\dE env B w c v
 | .int k,x,vs,0,c,aA,h=>by cases h; rw[show vs=[_] from aA]; exact⟨_,rfl,rfl⟩
 | .bool,x,vs,0,c,aA,h=>by cases h; rw[show vs=[_] from aA]; exact⟨_,rfl,rfl⟩
 | .str,x,vs,0,c,aA,h=>by cases h; rw[show vs=[_] from aA]; exact⟨_,rfl,rfl⟩
 | .ah g,x,vs,0,c,⟨A,k,xs,e,J,U,ae,aw⟩,h=>by cases h; rw[e]; exact⟨_,rfl,A,k,xs,rfl,J,U,(fun _ aa=>by cases aa),ae,aw⟩
 | .gO g,x,vs,0,c,⟨A,xs,e,U,ae,aw⟩,h=>by cases h; rw[e]; exact⟨_,rfl,A,_,xs,rfl,Nat.le_refl _,U,(fun _ aa=>by cases aa; rfl),ae,aw⟩
 | .pair g h,x,vs,o,c,⟨v1,v2,e,J,U⟩,aa=>by
  simp only[kZ]at aa;have ag:=bt.length J
  split at aa
  ·rename_i ai
   have br:o < g.size:=dB ai;obtain⟨v,ae,aw⟩:=bt.cell J aa;exact⟨v,by rw[e,List.getElem?_append_left (by omega)]; exact ae,aw⟩
  ·rename_i ai
   have q3:¬ o < g.size:=fun br=>by
    have:Nat.blt o g.size=true:=Nat.ble_eq_true_of_le br
    rw[this]at ai; cases ai
   obtain⟨v,ae,aw⟩:=bt.cell U aa;exact⟨v,by rw[e,List.getElem?_append_right (by omega),ag]; exact ae,aw⟩
 | .int _,_,_,_+1,_,_,h=>by simp[kZ]at h
 | .bool,_,_,_+1,_,_,h=>by simp[kZ]at h
 | .str,_,_,_+1,_,_,h=>by simp[kZ]at h
 | .ah _,_,_,_+1,_,_,h=>by simp[kZ]at h
 | .gO _,_,_,_+1,_,_,h=>by simp[kZ]at h
 | .fn,none,vs,0,c,aA,h=>by cases h; rw[show vs=[_] from aA]; exact⟨_,rfl,rfl⟩
 | .fn,some f,vs,0,c,aA,h=>by cases h; rw[show vs=[_] from aA]; exact⟨_,rfl,[],rfl,rfl⟩
 | .fn,none,_,_+1,_,_,h=>by simp[kZ]at h
 | .fn,some _,_,_+1,_,_,h=>by simp[kZ]at h
 | .unit,_,_,_,_,_,h=>by simp[kZ]at h
theorem bt.cells{g:aR} {x:g.D} {vs:List Value} (aA:bt B w g x vs):∀ {n o:Nat} {aG:List bc},kD g x o n=some aG->∃ us,Part vs us o n/\cm env B w aG us
 | 0,o,aG,h=>by
  simp only[kD,Option.some.injEq]at h;subst h;exact⟨[],⟨rfl,fun j u aX=>by simp at aX⟩,rfl⟩
 | n+1,o,aG,h=>by
  simp only[kD]at h
  split at h
  ·rename_i c l aa ag
   cases h;obtain⟨v,J,U⟩:=bt.cell (env:=env) aA aa;obtain⟨us,⟨ae,aw⟩,aF⟩:=bt.cells aA ag;refine⟨v :: us,⟨by rw[List.length_cons,ae],fun j u aX=>?_⟩,v,us,rfl,U,aF⟩;cases j with
   | zero=>simp at aX; subst aX; exact J
   | succ j=>
    rw[show o+(j+1)=o+1+j by omega];exact aw j u (by simpa using aX)
  ·cases h
end
def z6(X:bl) (st:aK) (t:TypeId) (x:bf):Option (Bool×bf):=
 match X.tt.find t with
 | none=>none
 | some bg=>match jq bg.bh.desc with
  | false=>match x with
   | .c (.ptr id o)=>match aS st.H id with
    | some (.cells _ cs)=>match nth cs o with
     | some c=>some (true,.c c)
     | none=>none
    | _=>none
   | .c (.eg id cx i o)=>match aS st.H id with
    | some (.row _ g l _)=>match Nat.beq cx g.size,kZ g (l.getD i g.zero) o with
     | true,some c=>some (decide (i < l.length),.c c)
     | _,_=>none
    | _=>none
   | .c (.fx g x o)=>match kZ g x o with
    | some c=>some (true,.c c)
    | none=>none
   | _=>none
  | true=>match x with
   | .c (.ptr id o)=>match aS st.H id with
    | some (.cells _ cs)=>match o9 cs o bg.bh.size with
     | some c=>some (true,.agg c)
     | none=>none
    | _=>none
   | .c (.eg id cx i o)=>match aS st.H id with
    | some (.row _ g l _)=>match Nat.beq cx g.size,kD g (l.getD i g.zero) o bg.bh.size with
     | true,some c=>some (decide (i < l.length),.agg c)
     | _,_=>none
    | _=>none
   | .c (.fx g x o)=>match kD g x o bg.bh.size with
    | some c=>some (true,.agg c)
    | none=>none
   | _=>none
section
variable {X:bl} {R:Nat->Prop} {W:World} {aD:e5} {n:Nat} {ks:List Nat} {env:Nat->Loc} {B:Nat->Prop} {ak:World} {H:List bd} {st:aK} {a:Act} {w b7:World} {o:Oper}
theorem iN.more{H H2:List bd} {c:bd} {K:bd->List bd} (h:iN H c K):iN (H++H2) c (fun z=>K z++H2):=by
 obtain⟨A,Y,J,U⟩:=h;exact⟨A,Y++H2,by rw[J]; simp,by rw[U]; funext z; simp⟩
theorem ra{t:TypeId} {i:bz} {x:Operand} {b p:Nat} {v:Value} {D:List Deferred} {L:List (Nat×Value)} (aI:c9 n D L a) (az:o.op=.load t x) (hi:bz.ok X.P t i) (U:jq i.desc=false) (ao:Go.Proofs.YtcheedjfedcbpaaGreatDoor.aB L x=some (.pointer (some ⟨b,p,none⟩)))
  (aa:w.cell? ⟨b,p,none⟩=some v):(execOp a.eval o).run X.P w=.ok (.value v) w:=by
 simp[execOp,az,aI.aB ao,Instr.loadAt,Instr.sureAddr,loadVar,bz.wT hi,U,aa]
theorem sz{t:TypeId} {i:bz} {x:Operand} {b p:Nat} {vs:List Value} {D:List Deferred} {L:List (Nat×Value)} (aI:c9 n D L a) (az:o.op=.load t x) (hi:bz.ok X.P t i) (U:jq i.desc=true) (ao:Go.Proofs.YtcheedjfedcbpaaGreatDoor.aB L x=some (.pointer (some ⟨b,p,none⟩)))
  (ag:vs.length=i.size) (aa:∀ j v,vs[j]?=some v->w.cell? ⟨b,p+j,none⟩=some v):(execOp a.eval o).run X.P w=.ok (.value (.agg vs.toArray)) w:=by
 have:=R2 (w:=w) hi U (b:=b) (p:=p) ag aa
 simp[execOp,az,aI.aB ao,Instr.loadAt,Instr.sureAddr,this]
theorem z7{b p:Nat} {v:Value} (ai:B b) (aa:ak.cell? ⟨b,p,none⟩=some v) (al:bA (fun k=>R k\/B k) ak H w):w.cell? ⟨b,p,none⟩=some v:=by
 rw[al.below.cell (p:=⟨b,p,none⟩) (.inr ai)]; exact aa
theorem Ky(h:bB X R W aD n ks env B ak H st a b7) {id:Nat} {t:TypeId} {g:aR} {l:List g.D} {cap:Option Nat} (ag:aS st.H id=some (.row t g l cap)) {i:Nat} (hi:i < l.length) {b c m:Nat} (he:env id=.row (some ⟨b,0,none⟩) c m) :
  ∃ vs,bt B ak g (l.getD i g.zero) vs/\∀ w,bA (fun k=>R k\/B k) ak (H++ks.map c7) w->∀ q v,vs[q]?=some v->w.cell? ⟨b,i * g.size+q,none⟩=some v:=by
 obtain⟨ds,K,⟨A,k,xs,cG,rfl,aA,_⟩,dQ⟩:=h.heap.fG ag;rw[he]at cG;cases cG;have ao:l[i]?=some (l.getD i g.zero):=by rw[List.getD_eq_getElem?_getD,List.getElem?_eq_getElem hi]; rfl
 have J:=Flat.get (fun _ _=>bt.length) aA ao;refine⟨_,J,fun w al q v au=>?_⟩;have e4:eG w (fun k=>R k\/B k) t g.size (some ⟨b,0,none⟩) c l.length xs:=al.ok _ dQ.more.mem;rw[List.getElem?_take]at au
 split at au
 ·rename_i br
  rw[List.getElem?_drop]at au;have hbound:i * g.size+q < l.length * g.size:=by
   have U:(i+1) * g.size<=l.length * g.size:=Nat.mul_le_mul_right _ hi;rw[Nat.add_mul]at U;omega
  rw[e4.cells rfl _ hbound];exact au
 ·cases au
theorem Kz(av:X.tt.ok X.P) {t:TypeId} {u:Operand} {g:Bool} {x bm:bf} (az:o.op=.load t u) (hu:bj X st.L u=some (g,x)) (aM:g=true) (ag:z6 X st t x=some (true,bm)):gU X st o bm:=by
 intro R W aD n ks env B ak H a b7 h;obtain⟨v,aE,aH⟩:=h.aB hu aM;have aI:=h.bK;unfold z6 at ag
 split at ag
 ·cases ag
 ·rename_i bg cK
  have hi:=(bY.get av cK).bh
  split at ag
  ·rename_i U
   split at ag
   ·split at ag
    ·rename_i bO
     split at ag
     ·rename_i bk
      cases ag;obtain⟨b,he,rfl⟩:=aH;obtain⟨ds,K,⟨b',vs,cG,rfl,gg⟩,aA⟩:=h.heap.fG bO;rw[he]at cG;cases cG;obtain⟨v,ae,aw⟩:=gg.nth bk;exact⟨v,aw,fun w hs=>have al:=hs (by rw[az]; rfl); ra aI az hi U aE (by rw[zM al aA.more]; exact ae)⟩
     ·cases ag
    ·cases ag
   ·split at ag
    ·rename_i bO
     split at ag
     ·rename_i cQ bk
      simp only[Option.some.injEq,Prod.mk.injEq,decide_eq_true_eq]at ag;obtain⟨br,rfl⟩:=ag;obtain⟨b,c,m,he,rfl⟩:=aH;obtain⟨vs,ae,aw⟩:=Ky h bO br he;obtain⟨v,aF,aW⟩:=bt.cell ae bk;have fC:=Nat.eq_of_beq_eq_true cQ;subst fC;exact⟨v,aW,fun w hs=>have al:=hs (by rw[az]; rfl); ra aI az hi U aE (aw w al _ _ aF)⟩
     ·cases ag
    ·cases ag
   ·split at ag
    ·rename_i bk
     cases ag;obtain⟨b,p,rfl,ai,vs,ae,aw⟩:=aH;obtain⟨v,aF,aW⟩:=bt.cell ae bk;exact⟨v,aW,fun w hs=>have al:=hs (by rw[az]; rfl); ra aI az hi U aE (z7 ai (aw _ _ aF) al)⟩
    ·cases ag
   ·cases ag
  ·rename_i U
   split at ag
   ·split at ag
    ·rename_i bO
     split at ag
     ·rename_i bk
      cases ag;obtain⟨b,he,rfl⟩:=aH;obtain⟨ds,K,⟨b',vs,cG,rfl,gg⟩,aA⟩:=h.heap.fG bO;rw[he]at cG;cases cG;obtain⟨us,⟨ae,aw⟩,aF⟩:=gg.cut bk;exact⟨_,⟨us,rfl,aF⟩,fun w hs=>have al:=hs (by rw[az]; rfl); sz aI az hi U aE ae (fun j v aX=>by rw[zM al aA.more]; exact aw j v aX)⟩
     ·cases ag
    ·cases ag
   ·split at ag
    ·rename_i bO
     split at ag
     ·rename_i cQ bk
      simp only[Option.some.injEq,Prod.mk.injEq,decide_eq_true_eq]at ag;obtain⟨br,rfl⟩:=ag;obtain⟨b,c,m,he,rfl⟩:=aH;obtain⟨vs,ae,aw⟩:=Ky h bO br he;obtain⟨us,⟨aF,aW⟩,bC⟩:=bt.cells ae bk;have fC:=Nat.eq_of_beq_eq_true cQ;subst fC;exact⟨_,⟨us,rfl,bC⟩,fun w hs=>have al:=hs (by rw[az]; rfl); sz aI az hi U aE aF (fun j v aX=>by rw[Nat.add_assoc]; exact aw w al _ _ (aW j v aX))⟩
     ·cases ag
    ·cases ag
   ·split at ag
    ·rename_i bk
     cases ag;obtain⟨b,p,rfl,ai,vs,ae,aw⟩:=aH;obtain⟨us,⟨aF,aW⟩,bC⟩:=bt.cells ae bk;exact⟨_,⟨us,rfl,bC⟩,fun w hs=>have al:=hs (by rw[az]; rfl); sz aI az hi U aE aF (fun j v aX=>by rw[Nat.add_assoc]; exact z7 ai (aw _ _ (aW j v aX)) al)⟩
    ·cases ag
   ·cases ag
end
end
section
def D0(X:bl) (t:TypeId) (x:bf) (k:Nat):Option (Bool×bf):=
 match X.tt.find t with
 | some ⟨⟨.struct dD,_,_,_⟩,_⟩=>match nth dD.toList k with
  | some f=>match X.tt.find f.type with
   | some bg=>match Nat.blt 0 bg.bh.size,x with
    | true,.c (.ptr id o)=>some (true,.c (.ptr id (o+f.offset)))
    | true,.c (.eg id cx i o)=>some (true,.c (.eg id cx i (o+f.offset)))
    | true,.c (.fx g x o)=>some (true,.c (.fx g x (o+f.offset)))
    | _,_=>none
   | none=>none
  | none=>none
 | _=>none
def aT(z:Int) (n:Nat):Bool:=decide (0<=z)&&decide (z < (n:Int))
def D1(X:bl) (st:aK) (t:TypeId) (x:bf) (i:bf):Option (Bool×bf):=
 match X.tt.find t with
 | some ⟨⟨.slice e,_,_,_⟩,_⟩=>match X.tt.find e with
  | some bg=>match x,i with
   | .c (.a1 g l _),.c (.val (.int _ z))=>match Nat.beq g.size bg.bh.size with
    | true=>some (aT z l.length,.c (.fx g (l.getD z.toNat g.zero) 0))
    | false=>none
   | .c (.ah id),.c (.val (.int _ z))=>match aS st.H id with
    | some (.row _ g l _)=>match Nat.beq g.size bg.bh.size with
     | true=>some (aT z l.length,.c (.eg id g.size z.toNat 0))
     | false=>none
    | some (.ez _ _ _ l _ _ _)=>match Nat.beq 1 bg.bh.size with
     | true=>some (aT z l.length,.c (.eg id 1 z.toNat 0))
     | false=>none
    | some (.b0 _ _ _ l _ _)=>match Nat.beq 1 bg.bh.size with
     | true=>some (aT z l.length,.c (.eg id 1 z.toNat 0))
     | false=>none
    | _=>none
   | _,_=>none
  | none=>none
 | some ⟨⟨.array m e,_,_,_⟩,_⟩=>match X.tt.find e with
  | some bg=>match x,i with
   | .c (.ptr id o),.c (.val (.int _ z))=>some (aT z m,.c (.ptr id (o+z.toNat * bg.bh.size)))
   | .c (.fx g x o),.c (.val (.int _ z))=>some (aT z m,.c (.fx g x (o+z.toNat * bg.bh.size)))
   | .c (.par g l),.c (.val (.int _ z))=>match Nat.beq g.size bg.bh.size with
    | true=>some (aT z m&&aT z l.length,.c (.fx g (l.getD z.toNat g.zero) 0))
    | false=>none
   | .c (.eg id cx 0 0),.c (.val (.int _ z))=>match Nat.beq cx bg.bh.size with
    | true=>some (aT z m,.c (.eg id cx z.toNat 0))
    | false=>none
   | .c (.gF id o),.c (.val (.int _ z))=>match Nat.beq bg.bh.size 1 with
    | true=>some (aT z m,.c (.eg id 1 (o+z.toNat) 0))
    | false=>some (aT z m,.c (.gF id (o+z.toNat * bg.bh.size)))
   | _,_=>none
  | none=>none
 | _=>none
def D2:Option Nat->Nat->Option Nat
 | some c,k=>some (c - k)
 | none,_=>none
def uN(X:bl) (t:TypeId) (x:bf) (lo hi w3:Option bf):Option (Bool×bf):=
 match X.tt.find t with
 | some ⟨⟨.slice e,_,_,_⟩,_⟩=>match X.tt.find e with
  | some bg=>match x with
   | .c (.a1 g l cap)=>match Nat.beq g.size bg.bh.size with
    | true=>match lo,hi,w3 with
     | some (.c (.val (.int _ z))),none,none=>some (decide (0<=z)&&decide (z<=(l.length:Int)),.c (.a1 g (l.drop z.toNat) (D2 cap z.toNat)))
     | none,some (.c (.val (.int _ y))),none=>some (decide (0<=y)&&decide (y<=(l.length:Int)),.c (.a1 g (l.take y.toNat) cap))
     | some (.c (.val (.int _ z))),some (.c (.val (.int _ y))),none=>some (decide (0<=z)&&decide (z<=y)&&decide (y<=(l.length:Int)),.c (.a1 g ((l.take y.toNat).drop z.toNat) (D2 cap z.toNat)))
     | none,some (.c (.val (.int _ y))),some (.c (.val (.int _ q)))=>some (decide (0<=y)&&decide (y<=q)&&decide (q<=(l.length:Int)),.c (.a1 g (l.take y.toNat) (some q.toNat)))
     | _,_,_=>none
    | false=>none
   | _=>none
  | none=>none
 | _=>none
def D3(X:bl) (st:aK) (t:TypeId) (x:bf):Option (Bool×bf):=
 match X.tt.find t with
 | some ⟨⟨.slice _,_,_,_⟩,_⟩=>match x with
  | .c (.a1 _ l _)=>some (true,.c (.val (.int .i64 (l.length:Int))))
  | .c (.ah id)=>match aS st.H id with
   | some (.row _ _ l _)=>some (true,.c (.val (.int .i64 (l.length:Int))))
   | some (.ez _ _ _ l _ _ _)=>some (true,.c (.val (.int .i64 (l.length:Int))))
   | some (.fr _ _ l)=>some (true,.c (.val (.int .i64 (l.length:Int))))
   | some (.b0 _ _ _ l _ _)=>some (true,.c (.val (.int .i64 (l.length:Int))))
   | _=>none
  | .c (.val (.slice none 0 0))=>some (true,.c (.val (.int .i64 0)))
  | _=>none
 | some ⟨⟨.string,_,_,_⟩,_⟩=>match x with
  | .c (.str s)=>some (true,.c (.val (.int .i64 (s.length:Int))))
  | _=>none
 | _=>none
def D4(X:bl) (t:TypeId) (x:bf):Option (Bool×bf):=
 match X.tt.find t with
 | some ⟨⟨.slice _,_,_,_⟩,_⟩=>match x with
  | .c (.a1 _ _ c)=>some (c.isSome,.c (.val (.int .i64 ((c.getD 0:Nat):Int))))
  | .c (.val (.slice none 0 0))=>some (true,.c (.val (.int .i64 0)))
  | _=>none
 | _=>none
def D5(X:bl) (t bR:TypeId) (x:bf):Option (Bool×bf):=
 match X.tt.find t,X.tt.find bR with
 | some _,some ⟨⟨.int k',_,_,_⟩,_⟩=>match x with
  | .c (.val (.int _ z))=>match mE k' z with
   | (c,r)=>some (c,.c (.val (.int k' r)))
  | _=>none
 | some _,some ⟨⟨.string,_,_,_⟩,_⟩=>match x with
  | .c (.str s)=>some (true,.c (.str s))
  | _=>none
 | _,_=>none
section
variable {X:bl} {R:Nat->Prop} {W:World} {aD:e5} {n:Nat} {ks:List Nat} {env:Nat->Loc} {B:Nat->Prop} {ak:World} {H:List bd} {st:aK} {a:Act} {w b7:World} {o:Oper}
theorem D6{α:Type}:∀ {l:List α} {k:Nat} {x:α},nth l k=some x->l[k]?=some x
 | [],_,_,h=>by cases h
 | _ :: _,0,_,h=>h
 | _ :: r,k+1,_,h=>by rw[List.getElem?_cons_succ]; exact D6 (l:=r) h
theorem S0(av:X.tt.ok X.P) {t:TypeId} {u:Operand} {g:Bool} {x bm:bf} {k:Nat} (az:o.op=.fieldAddr t u k) (hu:bj X st.L u=some (g,x)) (aM:g=true) (ag:D0 X t x k=some (true,bm)):gU X st o bm:=by
 intro R W aD n ks env B ak H a b7 h;obtain⟨v,aE,aH⟩:=h.aB hu aM;have aI:=h.bK;unfold D0 at ag
 split at ag
 ·rename_i dD s b z kd aA
  split at ag
  ·rename_i f ab
   split at ag
   ·rename_i bg cK
    obtain⟨T,ca,J,aw⟩:=lT (bY.get av aA).bh (bY.get av cK).bh;have ae:dD[k]?=some ⟨f.name,f.type,f.offset,f.embedded,f.tag,f.pkgPath,f.byteOffset⟩:=by have:=D6 ab; simpa using this
    split at ag
    ·rename_i aF
     cases ag;obtain⟨b,he,rfl⟩:=aH;exact⟨_,⟨b,he,rfl⟩,fun w _=>DK aI az ca J rfl ae aw aF aE w⟩
    ·rename_i aF
     cases ag;obtain⟨b,c,m,he,rfl⟩:=aH;exact⟨_,⟨b,c,m,he,rfl⟩,fun w _=>by have:=DK aI az ca J rfl ae aw aF aE w; rw[Nat.add_assoc]at this; exact this⟩
    ·rename_i aF
     cases ag;obtain⟨b,p,rfl,jd⟩:=aH;exact⟨_,⟨b,p,rfl,jd⟩,fun w _=>by have:=DK aI az ca J rfl ae aw aF aE w; rw[Nat.add_assoc]at this; exact this⟩
    ·cases ag
   ·cases ag
  ·cases ag
 ·cases ag
theorem k0{z:Int} {n:Nat} (h:aT z n=true):∃ j:Nat,z=(j:Int)/\j < n/\z.toNat=j:=by
 simp only[aT,Bool.and_eq_true,decide_eq_true_eq]at h;exact⟨z.toNat,by omega,by omega,rfl⟩
theorem KA(g:aR) (l:List g.D) {xs:List Value} (aA:Flat (bt B ak g) l xs) {b p j:Nat} (ai:B b) (aa:∀ i u,xs[i]?=some u->ak.cell? ⟨b,p+i,none⟩=some u) (aX:j < l.length):At B ak g (l.getD j g.zero) b (p+j * g.size):=by
 have ao:l[j]?=some (l.getD j g.zero):=by rw[List.getD_eq_getElem?_getD,List.getElem?_eq_getElem aX]; rfl
 have J:=Flat.get (fun _ _=>bt.length) aA ao;refine⟨ai,_,J,fun q v au=>?_⟩;rw[List.getElem?_take]at au
 split at au
 ·rw[List.getElem?_drop]at au
  rw[Nat.add_assoc];exact aa _ _ au
 ·cases au
theorem S1(av:X.tt.ok X.P) {t:TypeId} {u y:Operand} {g g':Bool} {x i bm:bf} (az:o.op=.indexAddr t u y) (hu:bj X st.L u=some (g,x)) (aM:g=true) (aV:bj X st.L y=some (g',i)) (fD:g'=true) (ag:D1 X st t x i=some (true,bm)):gU X st o bm:=by
 intro R W aD n ks env B ak H a b7 h;obtain⟨v,aE,aH⟩:=h.aB hu aM;obtain⟨e0,gj,jf⟩:=h.aB aV fD;have aI:=h.bK;unfold D1 at ag
 split at ag
 ·rename_i e s b z kd aA
  split at ag
  ·rename_i bg cK
   obtain⟨T,ca,J,aw⟩:=lT (bY.get av aA).bh (bY.get av cK).bh
   split at ag
   ·rename_i g l cap k z
    split at ag
    ·rename_i cQ
     simp only[Option.some.injEq,Prod.mk.injEq]at ag;obtain⟨ai,rfl⟩:=ag;obtain⟨j,rfl,aX,iR⟩:=k0 ai;obtain⟨A,c,xs,rfl,lS,il,_,cu,gV⟩:=aH;rw[show e0=_ from jf]at gj;have kE:0 < l.length:=by omega
     obtain⟨b,p,rfl,ik⟩:=gV.1.2 kE;have cI:=gV.2 b p kE rfl;rw[iR];refine⟨_,⟨b,p+j * g.size,rfl,KA g l cu cI ik aX⟩,fun w _=>?_⟩
     have:=zL aI az ca J rfl aw aE gj rfl aX w
     rw[<- Nat.eq_of_beq_eq_true cQ]at this;exact this
    ·cases ag
   ·rename_i id k z
    split at ag
    ·rename_i t2 g l cap bO
     split at ag
     ·rename_i cQ
      simp only[Option.some.injEq,Prod.mk.injEq]at ag;obtain⟨ai,rfl⟩:=ag;obtain⟨j,rfl,aX,iR⟩:=k0 ai;obtain⟨A,c,m,he,rfl⟩:=aH;rw[show e0=_ from jf]at gj;obtain⟨ds,K,⟨cj,k',xs,cG,rfl,cu,_⟩,dQ⟩:=h.heap.fG bO;rw[he]at cG;cases cG;obtain⟨b,rfl⟩:=h.aJ.rowAt dQ.more (by omega);rw[iR];refine⟨_,⟨b,_,_,he,rfl⟩,fun w _=>?_⟩
      have:=zL aI az ca J rfl aw aE gj rfl aX w
      rw[<- Nat.eq_of_beq_eq_true cQ,Nat.zero_add]at this;exact this
     ·cases ag
    ·rename_i t2 g l cap dF et bO
     split at ag
     ·rename_i cQ
      simp only[Option.some.injEq,Prod.mk.injEq]at ag;obtain⟨ai,rfl⟩:=ag;obtain⟨j,rfl,aX,iR⟩:=k0 ai;obtain⟨A,c,m,he,rfl⟩:=aH;rw[show e0=_ from jf]at gj;obtain⟨ds,K,⟨cj,k',bJ,c6,cz,m2,cG,rfl,cu,_⟩,dQ⟩:=h.heap.fG bO;rw[he]at cG;cases cG;obtain⟨b,rfl⟩:=h.aJ.rowAt dQ.more (by omega);rw[iR];refine⟨_,⟨b,_,_,he,rfl⟩,fun w _=>?_⟩
      have:=zL aI az ca J rfl aw aE gj rfl aX w
      rw[<- Nat.eq_of_beq_eq_true cQ,Nat.zero_add]at this;exact this
     ·cases ag
    ·rename_i t2 t3 g l cap dF bO
     split at ag
     ·rename_i cQ
      simp only[Option.some.injEq,Prod.mk.injEq]at ag;obtain⟨ai,rfl⟩:=ag;obtain⟨j,rfl,aX,iR⟩:=k0 ai;obtain⟨A,c,m,he,rfl⟩:=aH;rw[show e0=_ from jf]at gj;obtain⟨ds,K,⟨cj,k',bJ,c2,I,cG,rfl,_⟩,dQ⟩:=h.heap.fG bO;rw[he]at cG;cases cG;obtain⟨b,rfl⟩:=eG.at ((h.aJ.ok _ dQ.more.mem).1 _ List.mem_cons_self) (by show 0 < l.length; omega);rw[iR];refine⟨_,⟨b,_,_,he,rfl⟩,fun w _=>?_⟩
      have:=zL aI az ca J rfl aw aE gj rfl aX w
      rw[<- Nat.eq_of_beq_eq_true cQ,Nat.zero_add]at this;exact this
     ·cases ag
    ·cases ag
   ·cases ag
  ·cases ag
 ·rename_i m e s b z kd aA
  split at ag
  ·rename_i bg cK
   obtain⟨T,ca,J,aw⟩:=lT (bY.get av aA).bh (bY.get av cK).bh
   split at ag
   ·rename_i id p k z
    simp only[Option.some.injEq,Prod.mk.injEq]at ag;obtain⟨ai,rfl⟩:=ag;obtain⟨j,rfl,aX,iR⟩:=k0 ai;obtain⟨b,he,rfl⟩:=aH;rw[show e0=_ from jf]at gj;rw[iR];exact⟨_,⟨b,he,rfl⟩,fun w _=>uM aI az ca J rfl aw aE gj rfl aX rfl w⟩
   ·rename_i g x p k z
    simp only[Option.some.injEq,Prod.mk.injEq]at ag;obtain⟨ai,rfl⟩:=ag;obtain⟨j,rfl,aX,iR⟩:=k0 ai;obtain⟨b,q,rfl,jd⟩:=aH;rw[show e0=_ from jf]at gj;rw[iR];exact⟨_,⟨b,q,rfl,jd⟩,fun w _=>uM aI az ca J rfl aw aE gj rfl aX (by omega) w⟩
   ·rename_i g l k z
    split at ag
    ·rename_i cQ
     simp only[Option.some.injEq,Prod.mk.injEq,Bool.and_eq_true]at ag;obtain⟨⟨k1,ai⟩,rfl⟩:=ag;obtain⟨j,rfl,aX,iR⟩:=k0 ai;obtain⟨jv,S2,lV,_⟩:=k0 k1;obtain⟨b,p,vs,rfl,cI,cu,ik⟩:=aH;rw[show e0=_ from jf]at gj;rw[iR];refine⟨_,⟨b,p+j * g.size,rfl,KA g l cu cI ik aX⟩,fun w _=>?_⟩;exact uM aI az ca J rfl aw aE gj rfl (by omega) (by rw[Nat.eq_of_beq_eq_true cQ]; rfl) w
    ·cases ag
   ·rename_i id cx k z
    split at ag
    ·rename_i cQ
     simp only[Option.some.injEq,Prod.mk.injEq]at ag;obtain⟨ai,rfl⟩:=ag;obtain⟨j,rfl,aX,iR⟩:=k0 ai;obtain⟨b,c,q,he,rfl⟩:=aH;rw[show e0=_ from jf]at gj;rw[iR];exact⟨_,⟨b,c,q,he,rfl⟩,fun w _=>uM aI az ca J rfl aw aE gj rfl aX (by rw[Nat.eq_of_beq_eq_true cQ]; simp) w⟩
    ·cases ag
   ·rename_i id p k z
    split at ag
    ·rename_i cQ
     simp only[Option.some.injEq,Prod.mk.injEq]at ag;obtain⟨ai,rfl⟩:=ag;obtain⟨j,rfl,aX,iR⟩:=k0 ai;obtain⟨b,c,q,he,rfl⟩:=aH;rw[show e0=_ from jf]at gj;rw[iR];have rb:=Nat.eq_of_beq_eq_true cQ;exact⟨_,⟨b,c,q,he,rfl⟩,fun w _=>uM aI az ca J rfl aw aE gj rfl aX (by rw[rb]; omega) w⟩
    ·simp only[Option.some.injEq,Prod.mk.injEq]at ag
     obtain⟨ai,rfl⟩:=ag;obtain⟨j,rfl,aX,iR⟩:=k0 ai;obtain⟨b,c,q,he,rfl⟩:=aH;rw[show e0=_ from jf]at gj;rw[iR];exact⟨_,⟨b,c,q,he,rfl⟩,fun w _=>uM aI az ca J rfl aw aE gj rfl aX rfl w⟩
   ·cases ag
  ·cases ag
 ·cases ag
theorem Flat.cut{g:aR} {l:List g.D} {xs:List Value} (aA:Flat (bt B ak g) l xs) (lo hi:Nat):Flat (bt B ak g) ((l.take hi).drop lo) ((xs.drop (lo * g.size)).take ((hi - lo) * g.size)):=by
 have J:=(Flat.split (fun _ _=>bt.length) hi aA).1;have U:=(Flat.split (fun _ _=>bt.length) lo J).2;have e:(xs.take (hi * g.size)).drop (lo * g.size)=(xs.drop (lo * g.size)).take ((hi - lo) * g.size):=by
  rw[List.drop_take,Nat.sub_mul]
 rw[e]at U;exact U
theorem mB.cut{A:Option Addr} {m size l h c:Nat} {xs:List Value} (aH:mB B ak A m size xs) (ag:l<=h) (cB:h<=m) (aa:h<=c):mB B ak (je A l size c) (h - l) size ((xs.drop (l * size)).take ((h - l) * size)):=by
 refine⟨aH.1.cut ag cB aa,fun b p ar e=>?_⟩;obtain⟨om,KB,rfl,_⟩:=aH.1.2 (by omega);unfold je at e
 split at e
 ·cases e; exact aH.2 _ _ (by omega) rfl
 ·simp only[Option.map_some,Option.some.injEq,Addr.add_lit]at e
  cases e;exact aH.2 _ _ (by omega) rfl
theorem KC{g:aR} {l:List g.D} {A:Option Addr} {c:Nat} {xs:List Value} {cap:Option Nat} (cu:Flat (bt B ak g) l xs) (gV:mB B ak A l.length g.size xs) (il:c<=maxLen) (lo hi q:Nat) (J:lo<=hi) (U:hi<=l.length) (ae:hi<=q) (aw:q<=c) (ff:∀ k,cap=some k->q - lo=k) :
  dE env B ak (.a1 g ((l.take hi).drop lo) cap) (.slice (je A lo g.size q) (hi - lo) (q - lo)):=by
 have hlen:((l.take hi).drop lo).length=hi - lo:=by simp; omega
 refine⟨_,q - lo,_,by rw[hlen],by rw[hlen]; omega,by omega,ff,cu.cut lo hi,?_⟩;rw[hlen];exact gV.cut J U ae
theorem z8(av:X.tt.ok X.P) {t:TypeId} {u:Operand} {lo hi w3:Option Operand} {g:Bool} {x bm:bf} {D7 D8 D9:Option bf} (az:o.op=.slice t u lo hi w3) (hu:bj X st.L u=some (g,x)) (aM:g=true)
  (KD:∀ s,D7=some s->∃ y,lo=some y/\∃ g',bj X st.L y=some (g',s)/\g'=true) (KE:D7=none->lo=none) (Ea:∀ s,D8=some s->∃ y,hi=some y/\∃ g',bj X st.L y=some (g',s)/\g'=true) (S3:D8=none->hi=none)
  (S4:∀ s,D9=some s->∃ y,w3=some y/\∃ g',bj X st.L y=some (g',s)/\g'=true) (Eb:D9=none->w3=none) (ag:uN X t x D7 D8 D9=some (true,bm)):gU X st o bm:=by
 intro R W aD n ks env B ak H a b7 h;obtain⟨v,aE,aH⟩:=h.aB hu aM;have aI:=h.bK;unfold uN at ag
 split at ag
 ·rename_i e s b z kd aA
  split at ag
  ·rename_i bg cK
   obtain⟨T,ca,J,aw⟩:=lT (bY.get av aA).bh (bY.get av cK).bh
   split at ag
   ·rename_i g l cap
    obtain⟨A,c,xs,rfl,lS,il,ff,cu,gV⟩:=aH
    split at ag
    ·rename_i cQ
     have fC:=Nat.eq_of_beq_eq_true cQ
     split at ag
     ·rename_i k z
      simp only[Option.some.injEq,Prod.mk.injEq,Bool.and_eq_true,decide_eq_true_eq]at ag;obtain⟨⟨p5,p6⟩,rfl⟩:=ag;obtain⟨y,rfl,g',aV,fD⟩:=KD _ rfl;rw[S3 rfl,Eb rfl]at az;obtain⟨e0,gj,jf⟩:=h.aB aV fD;rw[show e0=_ from jf]at gj;refine⟨_,?_,fun w _=>Kd aI az ca J rfl aw aE gj (l:=z.toNat) (by omega) (by omega) w⟩;rw[<- fC]
      have:=KC (env:=env) (cap:=D2 cap z.toNat) cu gV il z.toNat l.length c (by omega) (Nat.le_refl _) lS (Nat.le_refl _) (by
       intro k ab;cases cap with
       | none=>cases ab
       | some c'=>have:=ff c' rfl; cases ab; rw[this])
      rw[List.take_length]at this;exact this
     ·rename_i k y
      simp only[Option.some.injEq,Prod.mk.injEq,Bool.and_eq_true,decide_eq_true_eq]at ag;obtain⟨⟨p5,p6⟩,rfl⟩:=ag;obtain⟨q,rfl,g',aV,fD⟩:=Ea _ rfl;rw[KE rfl,Eb rfl]at az;obtain⟨e0,gj,jf⟩:=h.aB aV fD;rw[show e0=_ from jf]at gj;refine⟨_,?_,fun w _=>So aI az ca J rfl aw aE gj (h:=y.toNat) (by omega) (by omega) w⟩;have hlen:(l.take y.toNat).length=y.toNat:=by simp; omega
      have aF:=cu.cut 0 y.toNat;have aW:=gV.1.cut (l:=0) (h:=y.toNat) (c:=c) (by omega) (by omega) (by omega);have ad:je A 0 g.size c=A:=by
       unfold je
       split
       ·rfl
       ·cases A with
        | none=>rfl
        | some q5=>simp[Addr.add]
      rw[ad]at aW;refine⟨A,c,_,by rw[hlen],by rw[hlen]; omega,il,ff,by simpa using aF,?_⟩;rw[hlen];refine⟨by simpa using aW,fun b p ar e=>gV.2 b p (by omega) e⟩
     ·rename_i k z k' y
      simp only[Option.some.injEq,Prod.mk.injEq,Bool.and_eq_true,decide_eq_true_eq]at ag;obtain⟨⟨⟨p5,p6⟩,lW⟩,rfl⟩:=ag;obtain⟨q,rfl,g',aV,fD⟩:=KD _ rfl;obtain⟨ail,rfl,S5,iS,Ec⟩:=Ea _ rfl;rw[Eb rfl]at az;obtain⟨e0,gj,jf⟩:=h.aB aV fD;rw[show e0=_ from jf]at gj;obtain⟨Ed,w4,Ee⟩:=h.aB iS Ec;rw[show Ed=_ from Ee]at w4;refine⟨_,?_,fun w _=>Sp aI az ca J rfl aw aE gj w4 (l:=z.toNat) (h:=y.toNat) (by omega) (by omega) (by omega) (by omega) w⟩;rw[<- fC];exact KC (env:=env) cu gV il z.toNat y.toNat c (by omega) (by omega) (by omega) (Nat.le_refl _) (by
       intro k ab;cases cap with
       | none=>cases ab
       | some c'=>have:=ff c' rfl; cases ab; rw[this])
     ·rename_i k y k' q
      simp only[Option.some.injEq,Prod.mk.injEq,Bool.and_eq_true,decide_eq_true_eq]at ag;obtain⟨⟨⟨p5,p6⟩,lW⟩,rfl⟩:=ag;obtain⟨dF,rfl,g',aV,fD⟩:=Ea _ rfl;obtain⟨et,rfl,S5,iS,Ec⟩:=S4 _ rfl;rw[KE rfl]at az;obtain⟨e0,gj,jf⟩:=h.aB aV fD;rw[show e0=_ from jf]at gj;obtain⟨Ed,w4,Ee⟩:=h.aB iS Ec;rw[show Ed=_ from Ee]at w4;refine⟨_,?_,fun w _=>Kp aI az ca J rfl aw aE gj w4 (h:=y.toNat) (q:=q.toNat) (by omega) (by omega) (by omega) (by omega) w⟩;have hlen:(l.take y.toNat).length=y.toNat:=by simp; omega
      have aF:=cu.cut 0 y.toNat;have aW:=gV.1.cut (l:=0) (h:=y.toNat) (c:=c) (by omega) (by omega) (by omega);have ad:je A 0 g.size c=A:=by
       unfold je
       split
       ·rfl
       ·cases A with
        | none=>rfl
        | some q5=>simp[Addr.add]
      rw[ad]at aW;refine⟨A,q.toNat,_,by rw[hlen],by rw[hlen]; omega,by omega,(fun _ ab=>by cases ab; rfl),by simpa using aF,?_⟩;rw[hlen];refine⟨by simpa using aW,fun b p ar e=>gV.2 b p (by omega) e⟩
     ·cases ag
    ·cases ag
   ·cases ag
  ·cases ag
 ·cases ag
end
end
def nM:List bc->Nat->List bc->Option (List bc)
 | l,0,[]=>some l
 | _ :: l,0,v :: vs=>match nM l 0 vs with
  | some r=>some (v :: r)
  | none=>none
 | c :: l,k+1,vs=>match nM l k vs with
  | some r=>some (c :: r)
  | none=>none
 | [],_,_=>none
def bf.cells:bf->List bc
 | .c x=>[x]
 | .agg cs=>cs
 | .arr g l=>List.replicate (l.length * g.size) .dead
def bc.live:bc->Bool
 | .dead=>false
 | .val v=>v.oneCell'
 | _=>true
def lX:List bc->Bool
 | []=>true
 | c :: r=>c.live&&lX r
def fieldAt(X:bl):List Field->Nat->Option (Nat×Nat)
 | dD,k=>match nth dD k with
  | some f=>match X.tt.find f.type with
   | some bg=>some (f.offset,bg.bh.size)
   | none=>none
  | none=>none
def p7(X:bl) (L:cJ) (pl:Nat->Option (Nat×Nat)):List (Nat×Operand)->Bool->List bc->Option (Bool×List bc)
 | [],c,z=>some (c,z)
 | (k,u) :: r,c,z=>match pl k,bj X L u with
  | some (off,size),some (g,x)=>match Nat.beq x.cells.length size,lX x.cells,nM z off x.cells with
   | true,true,some nJ=>p7 X L pl r (c&&g) nJ
   | _,_,_=>none
  | _,_=>none
def Aa(X:bl):List Field->Bool
 | []=>true
 | f :: r=>(X.tt.find f.type).isSome&&Aa X r
def Ef(X:bl) (L:cJ) (t:TypeId) (ps:List (Nat×Operand)):Option (Bool×bf):=
 match X.tt.find t with
 | some ⟨⟨.struct dD,_,_,.agg z⟩,_⟩=>match Aa X dD.toList with
  | true=>match p7 X L (fieldAt X dD.toList) ps true (q9 z.toList)with
   | some (c,r)=>some (c,.agg r)
   | none=>none
  | false=>none
 | some ⟨⟨.array _ e,_,_,.agg z⟩,_⟩=>match X.tt.find e with
  | some bg=>match p7 X L (fun i=>some (i * bg.bh.size,bg.bh.size)) ps true (q9 z.toList)with
   | some (c,r)=>some (c,.agg r)
   | none=>none
  | none=>none
 | _=>none
def w5(b:Bool):bf->bf->Option bf
 | .c (.val (.int k x)),.c (.val (.int k' y))=>match decide (k=k')with
  | true=>some (.c (.val (.int k (cond b x y))))
  | false=>none
 | .c (.val (.bool x)),.c (.val (.bool y))=>some (.c (.val (.bool (cond b x y))))
 | .c (.str x),.c (.str y)=>some (.c (.str (cond b x y)))
 | _,_=>none
def fK(X:bl) (L:cJ):List Operand->Option (List e8)
 | []=>some []
 | u :: r=>match bj X L u,fK X L r with
  | some (true,.c (.ptr id 0)),some l=>some (.id id :: l)
  | some (true,.c (.fx g x 0)),some l=>some (.eS g x :: l)
  | _,_=>none
def sA(isMax:Bool) (k:IntKind) (acc:Int) (X:bl) (L:cJ):List Operand->Bool->Option (Bool×bc)
 | [],c=>some (c,.val (.int k acc))
 | u :: r,c=>match bj X L u with
  | some (g,.c (.val (.int k' y)))=>match decide (k=k'),isMax with
   | true,true=>sA true k (if acc < y then y else acc) X L r (c&&g)
   | true,false=>sA false k (if y < acc then y else acc) X L r (c&&g)
   | false,_=>none
  | _=>none
def sB(X:bl) (st:aK):Op->Option (Bool×bf)
 | .move u=>bj X st.L u
 | .assign u=>bj X st.L u
 | .pick c u v=>match bj X st.L c,bj X st.L u,bj X st.L v with
  | some (gc,.c (.val (.bool b))),some (w6,x),some (a8,y)=>match w5 b x y with
   | some r=>some (gc&&(!b || w6)&&(b || a8),r)
   | none=>none
  | _,_,_=>none
 | .unOp .not _ u=>match bj X st.L u with
  | some (g,.c (.val (.bool b)))=>some (g,.c (.val (.bool (!b))))
  | _=>none
 | .unOp .neg _ u=>match bj X st.L u with
  | some (g,.c (.val (.int k x)))=>match mE k (0 - x)with
   | (c,z)=>some (g&&c,.c (.val (.int k z)))
  | _=>none
 | .binOp op t u v _=>match bj X st.L u,bj X st.L v with
  | some (g,x),some (g',y)=>match DZ X op t x y with
   | some (c,r)=>some (g&&g'&&c,.c r)
   | none=>none
  | _,_=>none
 | .load t u=>match bj X st.L u with
  | some (g,x)=>match z6 X st t x with
   | some (c,r)=>some (g&&c,r)
   | none=>none
  | none=>none
 | .fieldAddr t u k=>match bj X st.L u with
  | some (g,x)=>match D0 X t x k with
   | some (c,r)=>some (g&&c,r)
   | none=>none
  | none=>none
 | .indexAddr t u v=>match bj X st.L u,bj X st.L v with
  | some (g,x),some (g',y)=>match D1 X st t x y with
   | some (c,r)=>some (g&&g'&&c,r)
   | none=>none
  | _,_=>none
 | .slice t u none none none=>none
 | .slice t u (some l) none none=>match bj X st.L u,bj X st.L l with
  | some (g,x),some (g1,k2)=>match uN X t x (some k2) none none with
   | some (c,r)=>some (g&&g1&&c,r)
   | none=>none
  | _,_=>none
 | .slice t u none (some l) none=>match bj X st.L u,bj X st.L l with
  | some (g,x),some (g1,k2)=>match uN X t x none (some k2) none with
   | some (c,r)=>some (g&&g1&&c,r)
   | none=>none
  | _,_=>none
 | .slice t u (some l) (some h) none=>match bj X st.L u,bj X st.L l,bj X st.L h with
  | some (g,x),some (g1,k2),some (g2,ke)=>match uN X t x (some k2) (some ke) none with
   | some (c,r)=>some (g&&g1&&g2&&c,r)
   | none=>none
  | _,_,_=>none
 | .slice t u none (some l) (some h)=>match bj X st.L u,bj X st.L l,bj X st.L h with
  | some (g,x),some (g1,k2),some (g2,ke)=>match uN X t x none (some k2) (some ke)with
   | some (c,r)=>some (g&&g1&&g2&&c,r)
   | none=>none
  | _,_,_=>none
 | .convert t bR u=>match bj X st.L u with
  | some (g,x)=>match D5 X t bR x with
   | some (c,r)=>some (g&&c,r)
   | none=>none
  | none=>none
 | .build t ps=>Ef X st.L t ps.toList
 | .makeFunc (.func f) ⟨[]⟩ cs=>match fK X st.L cs.toList with
  | some ids=>some (true,.c (.fn f ids))
  | none=>none
 | .makeFunc (.func f) ⟨[u]⟩ ⟨[]⟩=>match bj X st.L u with
  | some (true,.c (.ptr id 0))=>some (true,.c (.iC f id))
  | _=>none
 | .nilCheck u=>match bj X st.L u with
  | some (g,.c (.ptr id o))=>some (g,.c (.ptr id o))
  | some (g,.c (.eg id s i o))=>some (g,.c (.eg id s i o))
  | some (g,.c (.fx t x o))=>some (g,.c (.fx t x o))
  | some (g,.c (.par t x))=>some (g,.c (.par t x))
  | _=>none
 | .extract (.tmp s) k=>match aS st.L s with
  | some (.cW vs)=>match nth vs k with
   | some x=>some (true,x)
   | none=>none
  | _=>none
 | .call ⟨.builtin .len,⟨[u]⟩,⟨[t]⟩⟩=>match bj X st.L u with
  | some (g,x)=>match D3 X st t x with
   | some (c,r)=>some (g&&c,r)
   | none=>none
  | none=>none
 | .call ⟨.builtin .cap,⟨[u]⟩,⟨[t]⟩⟩=>match bj X st.L u with
  | some (g,x)=>match D4 X t x with
   | some (c,r)=>some (g&&c,r)
   | none=>none
  | none=>none
 | .call ⟨.builtin .min,⟨u :: r⟩,_⟩=>match bj X st.L u with
  | some (g,.c (.val (.int k x)))=>match sA false k x X st.L r g with
   | some (c,y)=>some (c,.c y)
   | none=>none
  | _=>none
 | .call ⟨.builtin .max,⟨u :: r⟩,_⟩=>match bj X st.L u with
  | some (g,.c (.val (.int k x)))=>match sA true k x X st.L r g with
   | some (c,y)=>some (c,.c y)
   | none=>none
  | _=>none
 | .index t u v=>match X.tt.find t with
  | some ⟨⟨.string,_,_,_⟩,_⟩=>match bj X st.L u,bj X st.L v with
   | some (g,.c (.str s)),some (g',.c (.val (.int _ z)))=>some (g&&g'&&aT z s.length,.c (.val (.int .u8 ((s.getD z.toNat 0).toNat:Int))))
   | _,_=>none
  | _=>none
 | _=>none
section
section
variable {X:bl} {R:Nat->Prop} {W:World} {aD:e5} {n:Nat} {ks:List Nat} {env:Nat->Loc} {B:Nat->Prop} {ak:World} {H:List bd} {st:aK} {a:Act} {w b7:World} {o:Oper}
theorem w7:∀ {cs:List bc} {vs:List Value} {k:Nat} {xs:List bc} {us:List Value} {r:List bc},cm env B w cs vs->cm env B w xs us->nM cs k xs=some r->∃ rs,kB vs k us rs/\cm env B w r rs
 | cs,vs,0,[],us,r,J,U,h=>by
  have e:us=[]:=U;subst e;cases cs with
  | nil=>simp only[nM,Option.some.injEq]at h; subst h; exact⟨vs,.nil,J⟩
  | cons c cs=>simp only[nM,Option.some.injEq]at h; subst h; exact⟨vs,.nil,J⟩
 | c :: cs,vs,0,x :: xs,us,r,⟨v,S6,e,_,J⟩,⟨u,aim,a7,U,ae⟩,h=>by
  simp only[nM]at h
  split at h
  ·rename_i q au
   cases h;obtain⟨rs,aw,aF⟩:=w7 J ae au;subst e; subst a7;exact⟨u :: rs,.cons aw,u,rs,rfl,U,aF⟩
  ·cases h
 | c :: cs,vs,k+1,xs,us,r,⟨v,S6,e,aP,J⟩,U,h=>by
  simp only[nM]at h
  split at h
  ·rename_i q au
   cases h;obtain⟨rs,aw,aF⟩:=w7 J U au;subst e;exact⟨v :: rs,.skip aw,v,rs,rfl,aP,aF⟩
  ·cases h
 | [],_,0,_ :: _,_,_,_,_,h=>by simp[nM]at h
 | [],_,_+1,_,_,_,_,_,h=>by simp[nM]at h
theorem cm.KF:∀ vs:List Value,cm env B w (List.replicate vs.length .dead) vs
 | []=>rfl
 | v :: r=>⟨v,r,rfl,trivial,cm.KF r⟩
theorem dP.cells:∀ {x:bf} {v:Value},dP env B w x v->(∀ c,x=.c c->v.oneCell'=true)->cm env B w x.cells v.cells.toList
 | .c x,v,h,bb=>by
  have aE:=bb x rfl;have S7:v.cells=#[v]:=by cases v<;>first | rfl | (simp[Value.oneCell']at aE)
  rw[S7];exact⟨v,[],rfl,h,rfl⟩
 | .agg cs,v,⟨vs,e,h⟩,_=>by subst e; simpa [Value.cells,bf.cells] using h
 | .arr g l,v,⟨vs,e,h⟩,_=>by
  subst e;have J:=cm.KF (env:=env) (B:=B) (w:=w) vs;rw[bt.jt h]at J
  simpa [Value.cells,bf.cells] using J
theorem dE.one:∀ {c:bc} {v:Value},c.live=true->dE env B w c v->v.oneCell'=true
 | .val _,_,h,e=>by rw[show _=_ from e]; exact h
 | .str _,_,_,e=>by rw[show _=eW _ from e]; rfl
 | .dead,_,h,_=>by cases h
 | .ptr _ _,_,_,⟨_,_,e⟩=>by rw[e]; rfl
 | .eg _ _ _ _,_,_,⟨_,_,_,_,e⟩=>by rw[e]; rfl
 | .fx _ _ _,_,_,⟨_,_,e,_⟩=>by rw[e]; rfl
 | .par _ _,_,_,⟨_,_,_,e,_⟩=>by rw[e]; rfl
 | .ah _,_,_,⟨_,_,_,_,e⟩=>by rw[e]; rfl
 | .a1 _ _ _,_,_,⟨_,_,_,e,_⟩=>by rw[e]; rfl
 | .fn _ _,_,_,⟨_,e,_⟩=>by rw[e]; rfl
 | .cr _,_,_,⟨_,_,e⟩=>by rw[e]; rfl
 | .iC _ _,_,_,⟨_,_,e⟩=>by rw[e]; rfl
 | .gF _ _,_,_,⟨_,_,_,_,e⟩=>by rw[e]; rfl
 | .iD _ _ _,_,_,⟨_,_,_,_,_,e⟩=>by rw[e]; rfl
 | .iQ _,_,_,⟨_,_,_,_,e⟩=>by rw[e]; rfl
 | .hJ b _,_,_,⟨_,_,e⟩=>by rw[e]; cases b<;>rfl
theorem cm.h8:∀ {cs:List bc} {vs:List Value},lX cs=true->cm env B w cs vs->∀ u∈vs,u.oneCell'=true
 | [],_,_,h,u,hu=>by rw[show _=[] from h]at hu; cases hu
 | c :: cs,_,ag,⟨v,r,e,J,U⟩,u,hu=>by
  simp only[lX,Bool.and_eq_true]at ag;subst e
  rcases List.mem_cons.1 hu with rfl | hu
  ·exact dE.one ag.1 J
  ·exact cm.h8 ag.2 U u hu
theorem S8{P:Program} {o:Oper} {a:Act} {n:Nat} {D:List Deferred} {L:List (Nat×Value)} {f:Fn} {x:Operand} {v:Value} (aI:c9 n D L a) (az:o.op=.makeFunc f #[x] #[]) (aE:aB L x=some v):fj P o a (.func f #[v] #[]):=fun w=>by
 simp[execOp,az,Instr.makeFunc,aI.aB aE]
theorem Eg(h:bB X R W aD n ks env B ak H st a b7):∀ {us:List Operand} {ids:List e8},fK X st.L us=some ids->∃ vs,iA (gi a) us=some vs/\e9 env B ak ids vs
 | [],ids,aa=>by cases aa; exact⟨[],rfl,rfl⟩
 | u :: us,ids,aa=>by
  simp only[fK]at aa
  split at aa
  ·rename_i id l hu ag
   cases aa;obtain⟨v,J,b,he,rfl⟩:=h.aB hu rfl;obtain⟨vs,U,ae⟩:=Eg h ag;refine⟨_ :: vs,?_,_,vs,rfl,⟨b,he,rfl⟩,ae⟩;unfold iA;rw[J,U]
  ·rename_i g x l hu ag
   cases aa;obtain⟨v,J,b,o,rfl,jd⟩:=h.aB hu rfl;obtain⟨vs,U,ae⟩:=Eg h ag;refine⟨_ :: vs,?_,_,vs,rfl,⟨b,o,rfl,jd⟩,ae⟩;unfold iA;rw[J,U]
   rfl
  ·cases aa
theorem Ab(h:bB X R W aD n ks env B ak H st a b7) {k:IntKind}:∀ {m:Bool} {us:List Operand} {acc:Int} {c:Bool} {cg:bc},sA m k acc X st.L us c=some (true,cg) ->
  c=true/\∃ z,cg=.val (.int k z)/\∀ w,((us.map a.eval).foldlM (if m then Builtin.max2 else Builtin.min2) (.int k acc)).run X.P w=.ok (.int k z) w
 | m,[],acc,c,cg,hm=>by
  simp only[sA,Option.some.injEq,Prod.mk.injEq]at hm;obtain⟨rfl,rfl⟩:=hm;exact⟨rfl,acc,rfl,fun w=>by simp⟩
 | m,u :: us,acc,c,cg,hm=>by
  simp only[sA]at hm
  split at hm
  ·rename_i g k' y hu
   have oo:k=k':=by
    split at hm
    ·rename_i ab; exact of_decide_eq_true ab
    ·rename_i ab; exact of_decide_eq_true ab
    ·cases hm
   subst oo;rw[decide_eq_true rfl]at hm;cases m with
   | true=>
    obtain⟨aa,z,rfl,bP⟩:=Ab (m:=true) h hm;simp only[Bool.and_eq_true]at aa;obtain⟨v,J,U⟩:=h.aB hu aa.2;have ae:=h.bK.aB J;rw[show v=_ from U]at ae;refine⟨aa.1,z,rfl,fun w=>?_⟩
    have:=bP w
    simp[ae,Builtin.max2]at this ⊢
    exact this
   | false=>
    obtain⟨aa,z,rfl,bP⟩:=Ab (m:=false) h hm;simp only[Bool.and_eq_true]at aa;obtain⟨v,J,U⟩:=h.aB hu aa.2;have ae:=h.bK.aB J;rw[show v=_ from U]at ae;refine⟨aa.1,z,rfl,fun w=>?_⟩
    have:=bP w
    simp[ae,Builtin.min2]at this ⊢
    exact this
  ·cases hm
theorem KG(av:X.tt.ok X.P):∀ (dD:List Field),Aa X dD=true->∃ l:List (Nat×Nat),(∀ w,(dD.mapM fun f=>Prod.mk f.offset <$> sizeOf f.type:Sem (List (Nat×Nat))).run X.P w=.ok l w)/\∀ k p,fieldAt X dD k=some p->l[k]?=some p
 | [],_=>⟨[],fun w=>by simp,fun k p h=>by simp[fieldAt,nth]at h⟩
 | f :: dD,nf=>by
  simp only[Aa,Bool.and_eq_true]at nf;obtain⟨l,J,U⟩:=KG av dD nf.2;cases aA:X.tt.find f.type with
  | none=>rw[aA]at nf; simp at nf
  | some bg=>
   refine⟨(f.offset,bg.bh.size) :: l,fun w=>?_,fun k p h=>?_⟩
   ·simp[bz.run_sizeOf (bY.get av aA).bh,J]
   ·cases k with
    | zero=>
     simp only[fieldAt,nth,aA,Option.some.injEq]at h
     simp[h]
    | succ k=>
     rw[List.getElem?_cons_succ];exact U k p (by simpa [fieldAt,nth] using h)
theorem S9{pl:Nat->Option (Nat×Nat)}:∀ (ps:List (Nat×Operand)) (c:Bool) (z:List bc) (c':Bool) (r:List bc),p7 X st.L pl ps c z=some (c',r)->c'=true->c=true:=by
 intro ps
 induction ps with
 | nil=>intro c z c' r J U; simp only[p7,Option.some.injEq,Prod.mk.injEq]at J; rw[J.1]; exact U
 | cons p ps bx=>
  intro c z c' r J U;obtain⟨k,u⟩:=p;simp only[p7]at J
  split at J
  ·split at J
   ·have:=bx _ _ _ _ J U
    simp only[Bool.and_eq_true]at this;exact this.1
   ·cases J
  ·cases J
theorem Eh(h:bB X R W aD n ks env B ak H st a b7) {pl l:Nat->Option (Nat×Nat)} (ag:∀ k p,pl k=some p->l k=some p):∀ {ps:List (Nat×Operand)} {c c':Bool} {z r:List bc} {vs:List Value},cm env B ak z vs ->
  p7 X st.L pl ps c z=some (c',r)->c'=true->∃ rs:List Value,Instr.fill l vs.toArray (ps.map fun p=>(p.1,a.eval p.2))=some rs.toArray/\cm env B ak r rs
 | [],c,c',z,r,vs,bP,aA,aa=>by
  simp only[p7,Option.some.injEq,Prod.mk.injEq]at aA;obtain⟨rfl,rfl⟩:=aA;exact⟨vs,rfl,bP⟩
 | (k,u) :: ps,c,c',z,r,vs,bP,aA,aa=>by
  simp only[p7]at aA
  split at aA
  ·rename_i off size g x Ei hu
   split at aA
   ·rename_i nJ cQ ng ar
    have fC:=Nat.eq_of_beq_eq_true cQ;have KH:=S9 _ _ _ _ _ aA aa;simp only[Bool.and_eq_true]at KH;obtain⟨v,J,U⟩:=h.aB hu KH.2;have gg:cm env B ak x.cells v.cells.toList:=U.cells fun c e=>by
     subst e;simp only[bf.cells,lX,Bool.and_true]at ng;exact dE.one ng U
    obtain⟨rs,ae,aw⟩:=w7 bP gg ar;obtain⟨Ta,aF,aW⟩:=Eh h ag aw aA aa;refine⟨Ta,?_,aW⟩;rw[List.map_cons,h.bK.aB J];rw[Sy (ag _ _ Ei) (by rw[<- fC,<- gg.length]; simp) ae];exact aF
   ·cases aA
  ·cases aA
theorem Tb(av:X.tt.ok X.P) {t:TypeId} {ps:Array (Nat×Operand)} {bm:bf} (az:o.op=.build t ps) (ag:Ef X st.L t ps.toList=some (true,bm)):gU X st o bm:=by
 intro R W aD n ks env B ak H a b7 h;unfold Ef at ag
 split at ag
 ·rename_i dD s b z kd aA
  obtain⟨hL,rfl⟩:∃ hL:List Field,dD=hL.toArray:=⟨dD.toList,by simp⟩
  split at ag
  ·rename_i nf
   split at ag
   ·rename_i c r uO
    cases ag;obtain⟨l,J,U⟩:=KG av _ nf;obtain⟨rs,ae,aw⟩:=Eh h (l:=fun k=>l[k]?) U (w2 z.toList) uO rfl;refine⟨_,⟨rs,rfl,aw⟩,fun w _=>?_⟩;have aC:=(bY.get av aA).bh.1;have a7:=bz.o0 (bY.get av aA).bh w;have cC:=J w
    have:(Instr.build t (ps.map fun p=>(p.1,a.eval p.2))).run X.P w=.ok (.agg rs.toArray) w:=by
     unfold Instr.build;simp only[Array.toArray_toList]at ae
     simp[a7,run_underlying aC,cC,Value.cells,ae]
    simp only[execOp,az]
    simp[this]
   ·cases ag
  ·cases ag
 ·rename_i m e s b z kd aA
  split at ag
  ·rename_i bg cK
   split at ag
   ·rename_i c r uO
    cases ag;obtain⟨rs,ae,aw⟩:=Eh h (l:=fun i=>some (i * bg.bh.size,bg.bh.size)) (fun _ _ h=>h) (w2 z.toList) uO rfl;refine⟨_,⟨rs,rfl,aw⟩,fun w _=>?_⟩;have aC:=(bY.get av aA).bh.1;have a7:=bz.o0 (bY.get av aA).bh w;have cC:=bz.run_sizeOf (bY.get av cK).bh w
    have:(Instr.build t (ps.map fun p=>(p.1,a.eval p.2))).run X.P w=.ok (.agg rs.toArray) w:=by
     unfold Instr.build;simp only[Array.toArray_toList]at ae
     simp[a7,run_underlying aC,cC,Value.cells,ae]
    simp only[execOp,az]
    simp[this]
   ·cases ag
  ·cases ag
 ·cases ag
theorem Tc(av:X.tt.ok X.P) {t:TypeId} {u:Operand} {g:Bool} {x bm:bf} (az:o.op=.call ⟨.builtin .len,⟨[u]⟩,⟨[t]⟩⟩) (hu:bj X st.L u=some (g,x)) (aM:g=true) (ag:D3 X st t x=some (true,bm)):gU X st o bm:=by
 intro R W aD n ks env B ak H a b7 h;obtain⟨v,aE,aH⟩:=h.aB hu aM;have aI:=h.bK;unfold D3 at ag
 split at ag
 ·rename_i e s b z kd aA
  obtain⟨T,ca,J⟩:=zX (bY.get av aA).bh
  split at ag
  ·cases ag
   obtain⟨A,c,xs,rfl,_⟩:=aH;exact⟨_,rfl,fun w _=>uH aI az ca J rfl aE w⟩
  ·split at ag
   ·rename_i bO
    cases ag;obtain⟨A,c,m,he,rfl⟩:=aH;obtain⟨ds,K,⟨cj,k',xs,cG,rfl,cu,_⟩,dQ⟩:=h.heap.fG bO;rw[he]at cG;cases cG;exact⟨_,rfl,fun w _=>uH aI az ca J rfl aE w⟩
   ·rename_i bO
    cases ag;obtain⟨A,c,m,he,rfl⟩:=aH;obtain⟨ds,K,⟨cj,k',bJ,c6,cz,m2,cG,rfl,_⟩,dQ⟩:=h.heap.fG bO;rw[he]at cG;cases cG;exact⟨_,rfl,fun w _=>uH aI az ca J rfl aE w⟩
   ·rename_i bO
    cases ag;obtain⟨A,c,m,he,rfl⟩:=aH;obtain⟨ds,K,⟨cj,k',cG,_⟩,dQ⟩:=h.heap.fG bO;rw[he]at cG;cases cG;exact⟨_,rfl,fun w _=>uH aI az ca J rfl aE w⟩
   ·rename_i bO
    cases ag;obtain⟨A,c,m,he,rfl⟩:=aH;obtain⟨ds,K,⟨cj,k',bJ,c2,I,cG,_⟩,dQ⟩:=h.heap.fG bO;rw[he]at cG;cases cG;exact⟨_,rfl,fun w _=>uH aI az ca J rfl aE w⟩
   ·cases ag
  ·cases ag
   rw[show v=_ from aH]at aE;exact⟨_,rfl,fun w _=>uH aI az ca J rfl aE w⟩
  ·cases ag
 ·rename_i s b z kd aA
  have aC:=(bY.get av aA).bh.1
  split at ag
  ·rename_i ah
   cases ag;rw[show v=_ from aH]at aE;refine⟨_,rfl,fun w _=>?_⟩;have a7:(ByteArray.mk ah.toArray).size=ah.length:=by show ah.toArray.size=_; simp
   simp[execOp,az,resolve,invoke,builtin,Builtin.len_,aI.aB aE,eW,run_underlying aC,goInt,a7]
  ·cases ag
 ·cases ag
theorem Td(av:X.tt.ok X.P) {t:TypeId} {u:Operand} {g:Bool} {x bm:bf} (az:o.op=.call ⟨.builtin .cap,⟨[u]⟩,⟨[t]⟩⟩) (hu:bj X st.L u=some (g,x)) (aM:g=true) (ag:D4 X t x=some (true,bm)):gU X st o bm:=by
 intro R W aD n ks env B ak H a b7 h;obtain⟨v,aE,aH⟩:=h.aB hu aM;have aI:=h.bK;unfold D4 at ag
 split at ag
 ·rename_i e s b z kd aA
  obtain⟨T,ca,J⟩:=zX (bY.get av aA).bh
  split at ag
  ·rename_i cc
   cases cc with
   | none=>cases ag
   | some cc=>
    cases ag;obtain⟨A,c,xs,rfl,_,_,aa,_⟩:=aH
    have:=aa _ rfl
    subst this;exact⟨_,rfl,fun w _=>DJ aI az ca J rfl aE w⟩
  ·cases ag
   rw[show v=_ from aH]at aE;exact⟨_,rfl,fun w _=>DJ aI az ca J rfl aE w⟩
  ·cases ag
 ·cases ag
theorem Te(av:X.tt.ok X.P) {t bR:TypeId} {u:Operand} {g:Bool} {x bm:bf} (az:o.op=.convert t bR u) (hu:bj X st.L u=some (g,x)) (aM:g=true) (ag:D5 X t bR x=some (true,bm)):gU X st o bm:=by
 intro R W aD n ks env B ak H a b7 h;obtain⟨v,aE,aH⟩:=h.aB hu aM;have aI:=h.bK;unfold D5 at ag
 split at ag
 ·rename_i bg k' s b z kd aA mZ
  obtain⟨T,ca,J,U⟩:=lT (bY.get av aA).bh (bY.get av mZ).bh
  split at ag
  ·rename_i k z
   generalize hw:mE k' z=q at ag
   obtain⟨c,r⟩:=q;cases ag;rw[show v=_ from aH]at aE;exact⟨_,rfl,fun w _=>RZ aI az ca J U rfl aE (uK hw) w⟩
  ·cases ag
 ·rename_i bg s b z kd aA mZ
  split at ag
  ·cases ag
   rw[show v=_ from aH]at aE;refine⟨_,rfl,fun w _=>?_⟩;have aC:=(bY.get av aA).bh.1;have a7:=(bY.get av mZ).bh.1
   simp[execOp,az,aI.aB aE,convert,run_underlying aC,run_underlying a7,eW]
  ·cases ag
 ·cases ag
theorem Ac(av:X.tt.ok X.P) {c:Bool} {bm:bf} (ag:sB X st o.op=some (c,bm)) (aa:c=true):gU X st o bm:=by
 unfold sB at ag
 split at ag
 ·rename_i u az
  intro R W aD n ks env B ak H a b7 h;obtain⟨v,J,U⟩:=h.aB ag aa;exact⟨v,U,fun w _=>JY h.bK az J w⟩
 ·rename_i u az
  intro R W aD n ks env B ak H a b7 h;obtain⟨v,J,U⟩:=h.aB ag aa;exact⟨v,U,fun w _=>JZ h.bK az J w⟩
 ·rename_i uc u v az
  split at ag
  ·rename_i gc b w6 x a8 y aC a7 cC
   split at ag
   ·rename_i r ar
    cases ag;simp only[Bool.and_eq_true,Bool.or_eq_true,Bool.not_eq_true']at aa;obtain⟨⟨Ej,ht⟩,k1⟩:=aa;intro R W aD n ks env B ak H a b7 h;obtain⟨Tf,J,U⟩:=h.aB aC Ej;rw[show Tf=_ from U]at J;have KI:∀ vx vy,(b=true->dP env B ak x vx)->(b=false->dP env B ak y vy)->dP env B ak bm (if b then vx else vy):=by
     intro vx vy ao aV;unfold w5 at ar
     split at ar
     ·split at ar
      ·rename_i ab
       have oo:=of_decide_eq_true ab;subst oo;cases ar;cases b
       ·exact aV rfl
       ·exact ao rfl
      ·cases ar
     ·cases ar
      cases b
      ·exact aV rfl
      ·exact ao rfl
     ·cases ar
      cases b
      ·exact aV rfl
      ·exact ao rfl
     ·cases ar
    cases b with
    | true=>
     obtain⟨vx,ae,aw⟩:=h.aB a7 (by simpa using ht);exact⟨vx,KI vx vx (fun _=>aw) (fun h=>by cases h),fun w _=>J0 h.bK az J rfl ae w⟩
    | false=>
     obtain⟨vy,ae,aw⟩:=h.aB cC (by simpa using k1);exact⟨vy,KI vy vy (fun h=>by cases h) (fun _=>aw),fun w _=>J1 h.bK az J rfl ae w⟩
   ·cases ag
  ·cases ag
 ·rename_i t u az
  split at ag
  ·rename_i g b aC
   cases ag;intro R W aD n ks env B ak H a b7 h;obtain⟨v,J,U⟩:=h.aB aC aa;rw[show v=_ from U]at J;exact⟨_,rfl,fun w _=>RI h.bK az J w⟩
  ·cases ag
 ·rename_i t u az
  split at ag
  ·rename_i g k x aC
   generalize hw:mE k (0 - x)=q at ag
   obtain⟨c',z⟩:=q;simp only[Option.some.injEq,Prod.mk.injEq]at ag;obtain⟨rfl,rfl⟩:=ag;simp only[Bool.and_eq_true]at aa;obtain⟨aM,rfl⟩:=aa;intro R W aD n ks env B ak H a b7 h;obtain⟨v,J,U⟩:=h.aB aC aM;rw[show v=_ from U]at J;exact⟨_,rfl,fun w _=>by have nh:=uK hw; simp only[Int.zero_sub]at nh; simp[execOp,az,h.bK.aB J,Op.unary,Op.intArith,nh]⟩
  ·cases ag
 ·rename_i op t u v bR az
  split at ag
  ·rename_i g x g' y aC a7
   split at ag
   ·rename_i c' r ai
    cases ag;simp only[Bool.and_eq_true]at aa;obtain⟨⟨aM,fD⟩,rfl⟩:=aa;intro R W aD n ks env B ak H a b7 h;obtain⟨vx,J,U⟩:=h.aB aC aM;obtain⟨vy,ae,aw⟩:=h.aB a7 fD;obtain⟨r,aF,aW⟩:=SZ av h.bK az J ae U aw ai;exact⟨r,aF,fun w _=>aW w⟩
   ·cases ag
  ·cases ag
 ·rename_i t u az
  split at ag
  ·rename_i g x aC
   split at ag
   ·rename_i c' r ai
    cases ag;simp only[Bool.and_eq_true]at aa;obtain⟨aM,rfl⟩:=aa;exact Kz av az aC aM ai
   ·cases ag
  ·cases ag
 ·rename_i t u k az
  split at ag
  ·rename_i g x aC
   split at ag
   ·rename_i c' r ai
    cases ag;simp only[Bool.and_eq_true]at aa;obtain⟨aM,rfl⟩:=aa;exact S0 av az aC aM ai
   ·cases ag
  ·cases ag
 ·rename_i t u v az
  split at ag
  ·rename_i g x g' y aC a7
   split at ag
   ·rename_i c' r ai
    cases ag;simp only[Bool.and_eq_true]at aa;obtain⟨⟨aM,fD⟩,rfl⟩:=aa;exact S1 av az aC aM a7 fD ai
   ·cases ag
  ·cases ag
 ·cases ag
 ·rename_i t u l az
  split at ag
  ·rename_i g x g1 k2 aC a7
   split at ag
   ·rename_i c' r ai
    cases ag;simp only[Bool.and_eq_true]at aa;obtain⟨⟨aM,fD⟩,rfl⟩:=aa;exact z8 av az aC aM (fun s al=>by cases al; exact⟨_,rfl,_,a7,fD⟩) (fun h=>by cases h) (fun s al=>by cases al) (fun _=>rfl) (fun s al=>by cases al) (fun _=>rfl) ai
   ·cases ag
  ·cases ag
 ·rename_i t u l az
  split at ag
  ·rename_i g x g1 k2 aC a7
   split at ag
   ·rename_i c' r ai
    cases ag;simp only[Bool.and_eq_true]at aa;obtain⟨⟨aM,fD⟩,rfl⟩:=aa;exact z8 av az aC aM (fun s al=>by cases al) (fun _=>rfl) (fun s al=>by cases al; exact⟨_,rfl,_,a7,fD⟩) (fun h=>by cases h) (fun s al=>by cases al) (fun _=>rfl) ai
   ·cases ag
  ·cases ag
 ·rename_i t u l cB az
  split at ag
  ·rename_i g x g1 k2 g2 ke aC a7 cC
   split at ag
   ·rename_i c' r ai
    cases ag;simp only[Bool.and_eq_true]at aa;obtain⟨⟨⟨aM,fD⟩,dy⟩,rfl⟩:=aa;exact z8 av az aC aM (fun s al=>by cases al; exact⟨_,rfl,_,a7,fD⟩) (fun h=>by cases h) (fun s al=>by cases al; exact⟨_,rfl,_,cC,dy⟩) (fun h=>by cases h) (fun s al=>by cases al) (fun _=>rfl) ai
   ·cases ag
  ·cases ag
 ·rename_i t u l cB az
  split at ag
  ·rename_i g x g1 k2 g2 ke aC a7 cC
   split at ag
   ·rename_i c' r ai
    cases ag;simp only[Bool.and_eq_true]at aa;obtain⟨⟨⟨aM,fD⟩,dy⟩,rfl⟩:=aa;exact z8 av az aC aM (fun s al=>by cases al) (fun _=>rfl) (fun s al=>by cases al; exact⟨_,rfl,_,a7,fD⟩) (fun h=>by cases h) (fun s al=>by cases al; exact⟨_,rfl,_,cC,dy⟩) (fun h=>by cases h) ai
   ·cases ag
  ·cases ag
 ·rename_i t bR u az
  split at ag
  ·rename_i g x aC
   split at ag
   ·rename_i c' r ai
    cases ag;simp only[Bool.and_eq_true]at aa;obtain⟨aM,rfl⟩:=aa;exact Te av az aC aM ai
   ·cases ag
  ·cases ag
 ·rename_i t ps az
  subst aa;exact Tb av az ag
 ·rename_i f cs az
  split at ag
  ·rename_i ids Ek
   cases ag;intro R W aD n ks env B ak H a b7 h;obtain⟨vs,J,U⟩:=Eg h Ek;exact⟨_,⟨vs,rfl,U⟩,fun w _=>RJ (xs:=cs.toList) h.bK (by rw[az]) J w⟩
  ·cases ag
 ·rename_i f u az
  split at ag
  ·rename_i id aC
   cases ag;intro R W aD n ks env B ak H a b7 h;obtain⟨v,J,b,ai,rfl⟩:=h.aB aC rfl;exact⟨_,⟨b,ai,rfl⟩,fun w _=>S8 h.bK (by rw[az]) J w⟩
  ·cases ag
 ·rename_i u az
  intro R W aD n ks env B ak H a b7 h
  split at ag
  ·rename_i aC
   cases ag;obtain⟨v,J,U⟩:=h.aB aC aa;have ae:=h.bK.aB J;obtain⟨b,he,rfl⟩:=U;exact⟨_,⟨b,he,rfl⟩,fun w _=>by simp[execOp,az,ae]⟩
  ·rename_i aC
   cases ag;obtain⟨v,J,U⟩:=h.aB aC aa;have ae:=h.bK.aB J;obtain⟨b,c,m,he,rfl⟩:=U;exact⟨_,⟨b,c,m,he,rfl⟩,fun w _=>by simp[execOp,az,ae]⟩
  ·rename_i aC
   cases ag;obtain⟨v,J,U⟩:=h.aB aC aa;have ae:=h.bK.aB J;obtain⟨b,p,rfl,jd⟩:=U;exact⟨_,⟨b,p,rfl,jd⟩,fun w _=>by simp[execOp,az,ae]⟩
  ·rename_i aC
   cases ag;obtain⟨v,J,U⟩:=h.aB aC aa;have ae:=h.bK.aB J;obtain⟨b,p,vs,rfl,jd⟩:=U;exact⟨_,⟨b,p,vs,rfl,jd⟩,fun w _=>by simp[execOp,az,ae]⟩
  ·cases ag
 ·rename_i s k az
  split at ag
  ·rename_i vs aC
   split at ag
   ·rename_i x a7
    cases ag;intro R W aD n ks env B ak H a b7 h;obtain⟨v,J,us,rfl,U⟩:=h.has _ _ aC;have key:∀ {xs:List bf} {us:List Value} {k:Nat} {x:bf},dx env B ak xs us->nth xs k=some x->∃ u,us[k]?=some u/\dP env B ak x u:=by
     intro xs
     induction xs with
     | nil=>intro us k x _ h; cases h
     | cons y bJ bx=>
      intro us k x al bk;obtain⟨v,r,rfl,ae,aw⟩:=al;cases k with
      | zero=>cases bk; exact⟨v,rfl,ae⟩
      | succ k=>obtain⟨u,aF,aW⟩:=bx aw bk; exact⟨u,by rw[List.getElem?_cons_succ]; exact aF,aW⟩
    obtain⟨u,ae,aw⟩:=key U a7;exact⟨u,aw,fun w _=>J2 h.bK az (hK J) ae w⟩
   ·cases ag
  ·cases ag
 ·rename_i u t az
  split at ag
  ·rename_i g x aC
   split at ag
   ·rename_i c' r ai
    cases ag;simp only[Bool.and_eq_true]at aa;obtain⟨aM,rfl⟩:=aa;exact Tc av az aC aM ai
   ·cases ag
  ·cases ag
 ·rename_i u t az
  split at ag
  ·rename_i g x aC
   split at ag
   ·rename_i c' r ai
    cases ag;simp only[Bool.and_eq_true]at aa;obtain⟨aM,rfl⟩:=aa;exact Td av az aC aM ai
   ·cases ag
  ·cases ag
 ·rename_i u r fc az
  split at ag
  ·rename_i g k x aC
   split at ag
   ·rename_i c' y hm
    cases ag;subst aa;intro R W aD n ks env B ak H a b7 h;obtain⟨aM,z,rfl,bP⟩:=Ab h hm;obtain⟨v,J,U⟩:=h.aB aC aM;have ae:=h.bK.aB J;rw[show v=_ from U]at ae;refine⟨_,rfl,fun w _=>?_⟩
    have:=bP w
    simp only[Bool.false_eq_true,if_false]at this
    simp[execOp,az,resolve,invoke,builtin,Builtin.min_,ae,this]
   ·cases ag
  ·cases ag
 ·rename_i u r fc az
  split at ag
  ·rename_i g k x aC
   split at ag
   ·rename_i c' y hm
    cases ag;subst aa;intro R W aD n ks env B ak H a b7 h;obtain⟨aM,z,rfl,bP⟩:=Ab h hm;obtain⟨v,J,U⟩:=h.aB aC aM;have ae:=h.bK.aB J;rw[show v=_ from U]at ae;refine⟨_,rfl,fun w _=>?_⟩
    have:=bP w
    simp only[if_true]at this
    simp[execOp,az,resolve,invoke,builtin,Builtin.max_,ae,this]
   ·cases ag
  ·cases ag
 ·rename_i t u v az
  split at ag
  ·rename_i cx b z0 kd aA
   split at ag
   ·rename_i g s g' k z aC a7
    simp only[Option.some.injEq,Prod.mk.injEq]at ag;obtain⟨rfl,rfl⟩:=ag;simp only[Bool.and_eq_true]at aa;obtain⟨⟨aM,fD⟩,ai⟩:=aa;intro R W aD n ks env B ak H a b7 h;obtain⟨hy,J,U⟩:=h.aB aC aM;rw[show hy=eW s from U]at J;obtain⟨vx,ae,aw⟩:=h.aB a7 fD;rw[show vx=_ from aw]at ae;obtain⟨j,rfl,aX,iR⟩:=k0 ai;have dF:=(bY.get av aA).bh.1;have p8:(ByteArray.mk s.toArray)[j]?=some (s.getD j 0):=by
     have br:j < (ByteArray.mk s.toArray).size:=by simpa [ByteArray.size] using aX
     have a7:(ByteArray.mk s.toArray)[j]?=some ((ByteArray.mk s.toArray)[j]'br):=by
      exact getElem?_pos (ByteArray.mk s.toArray) j br
     rw[a7,List.getD_eq_getElem?_getD,List.getElem?_eq_getElem aX]
     rfl
    refine⟨_,rfl,fun w _=>?_⟩;have aP:(0:Int)<=(j:Int):=Int.natCast_nonneg j;have dw:(Instr.index t (eW s) (.int k (j:Int))).run X.P w=.ok (.int .u8 ((s.getD j 0).toNat:Int)) w:=by
     simp only[Instr.index,eW,asIntOf,Sem.run_bind,Sem.run_pure,Result.andThen_ok,run_underlying dF,aP,if_true,Int.toNat_natCast,p8]
    rw[Int.toNat_natCast]
    simp[execOp,az,h.bK.aB J,h.bK.aB ae,dw]
   ·cases ag
  ·cases ag
 ·cases ag
end
end
section
def uP:Op->Bool
 | .store _ _ _=>false
 | .call ⟨.builtin .len,_,_⟩=>true
 | .call ⟨.builtin .cap,_,_⟩=>true
 | .call ⟨.builtin .min,_,_⟩=>true
 | .call ⟨.builtin .max,_,_⟩=>true
 | .call _=>false
 | _=>true
def Ad:Op->Bool
 | .store _ _ _=>false
 | .call ⟨.builtin .append,_,_⟩=>true
 | o=>uP o
def pa(d:Nat):bo->Bool
 | []=>true
 | (k,b) :: r=>(match Nat.beq k d,b with
  | true,.cells _ _=>false
  | _,_=>true)&&pa d r
def pb(o:Oper) (H:bo):Bool:=match o.dst with
 | some d=>pa d H
 | none=>true
def sC(d:Nat):bo->Bool
 | []=>true
 | (k,_) :: r=>match Nat.beq k d with
  | true=>false
  | false=>sC d r
def re(o:Oper) (H:bo):Bool:=match o.dst with
 | some d=>sC d H
 | none=>true
theorem KJ{d:Nat}:∀ {l:bo} {b:cw},pa d l=true->(d,b)∈l->∀ t cs,b≠.cells t cs
 | (k,b') :: r,b,h,ai,t,cs=>by
  simp only[pa,Bool.and_eq_true]at h
  rcases List.mem_cons.1 ai with e | ai
  ·injection e with aC a7
   subst aC; subst a7;intro e;rw[e,Nat.beq_refl]at h
   simp at h
  ·exact KJ h.2 ai t cs
structure Ae(o:Oper) (st:aK) (H:List bd) (w:World) (H':List bd) (w':World):Prop where
 new:uP o.op=true->Below w.heap.size w w'
 dY:Ad o.op=true->pb o st.H=true->∀ c∈H,im c=true->c∈H'
 all:uP o.op=true->re o st.H=true->∀ c∈H,c∈H'
def sD(X:bl) (n:Nat) (st:aK) (o:Oper) (st':aK):Prop:=
 ∀ {R:Nat->Prop} {W:World} {aD:e5} {ks:List Nat} {env:Nat->Loc} {B:Nat->Prop} {ak:World} {H:List bd} {a:Act} {w:World} (ops:Array Oper) (KK:Act->World->Prop),bB X R W aD n ks env B ak H st a w ->
  (∀ aQ w' env' H',Ae o st H w H' w'->bB X R W aD n ks env' B ak H' st' aQ w'->KK aQ w')->e3 X.P ops o KK a w
def KL(k:IntKind):List bc->Option (Bool×Int×List bc)
 | .val (.int k' x) :: r=>match decide (k=k')with
  | true=>some (true,x,r)
  | false=>none
 | _=>none
def KM:List bc->Option (Bool×Bool×List bc)
 | .val (.bool x) :: r=>some (true,x,r)
 | _=>none
def KN:List bc->Option (Bool×List UInt8×List bc)
 | .str x :: r=>some (true,x,r)
 | _=>none
def KO(g:aR):List bc->Option (Bool×List g.D×List bc)
 | .val (.slice none 0 0) :: r=>some (true,[],r)
 | .a1 g' l _ :: r=>match decEq g' g with
  | isTrue h=>some (true,h ▸ l,r)
  | isFalse _=>none
 | _=>none
def KP(g:aR):List bc->Option (Bool×List g.D×List bc)
 | .val (.slice none 0 0) :: r=>some (true,[],r)
 | .a1 g' l (some c) :: r=>match decEq g' g with
  | isTrue h=>some (decide (c=l.length),h ▸ l,r)
  | isFalse _=>none
 | _=>none
def KQ:List bc->Option (Bool×Option Nat×List bc)
 | .fn f [] :: r=>some (true,some f,r)
 | .val .nilFunc :: r=>some (true,none,r)
 | _=>none
def dec:(g:aR)->List bc->Option (Bool×g.D×List bc)
 | .int k,r=>KL k r
 | .bool,r=>KM r
 | .str,r=>KN r
 | .ah g,r=>KO g r
 | .gO g,r=>KP g r
 | .unit,r=>some (true,(),r)
 | .fn,r=>KQ r
 | .pair g h,r=>match dec g r with
  | some (fe,x,ay)=>match dec h ay with
   | some (cz,y,aO)=>some (fe&&cz,(x,y),aO)
   | none=>none
  | none=>none
section
variable {env:Nat->Loc} {B:Nat->Prop} {w:World}
theorem oq:∀ {g:aR} {cs:List bc} {c:Bool} {x:g.D} {r:List bc} {vs:List Value},cm env B w cs vs->dec g cs=some (c,x,r)->c=true->∃ v1 v2,vs=v1++v2/\bt B w g x v1/\cm env B w r v2
 | .int k,cs,c,x,r,vs,h,ax,aa=>by
  simp only[dec,KL]at ax
  split at ax
  ·split at ax
   ·rename_i ab
    have oo:=of_decide_eq_true ab;subst oo;cases ax;obtain⟨v,rr,rfl,J,U⟩:=h;exact⟨[v],rr,rfl,by rw[show v=_ from J]; exact rfl,U⟩
   ·cases ax
  ·cases ax
 | .bool,cs,c,x,r,vs,h,ax,aa=>by
  simp only[dec,KM]at ax
  split at ax
  ·cases ax
   obtain⟨v,rr,rfl,J,U⟩:=h;exact⟨[v],rr,rfl,by rw[show v=_ from J]; exact rfl,U⟩
  ·cases ax
 | .str,cs,c,x,r,vs,h,ax,aa=>by
  simp only[dec,KN]at ax
  split at ax
  ·cases ax
   obtain⟨v,rr,rfl,J,U⟩:=h;exact⟨[v],rr,rfl,by rw[show v=_ from J]; exact rfl,U⟩
  ·cases ax
 | .ah g,cs,c,x,r,vs,h,ax,aa=>by
  simp only[dec,KO]at ax
  split at ax
  ·cases ax
   obtain⟨v,rr,rfl,J,U⟩:=h;exact⟨[v],rr,rfl,⟨none,0,[],by rw[show v=_ from J]; rfl,Nat.le_refl _,Nat.zero_le _,rfl,Reads.nil _ _ _,(fun _ _ h=>absurd h (Nat.lt_irrefl 0))⟩,U⟩
  ·split at ax
   ·rename_i aM _
    subst aM;cases ax;obtain⟨v,rr,rfl,⟨A,c,xs,rfl,ae,aw,aF,aW,bC⟩,U⟩:=h;exact⟨[_],rr,rfl,⟨A,c,xs,rfl,ae,aw,aW,bC⟩,U⟩
   ·cases ax
  ·cases ax
 | .gO g,cs,c,x,r,vs,h,ax,aa=>by
  simp only[dec,KP]at ax
  split at ax
  ·cases ax
   obtain⟨v,rr,rfl,J,U⟩:=h;exact⟨[v],rr,rfl,⟨none,[],by rw[show v=_ from J]; rfl,Nat.zero_le _,rfl,Reads.nil _ _ _,(fun _ _ h=>absurd h (Nat.lt_irrefl 0))⟩,U⟩
  ·split at ax
   ·rename_i aM _
    subst aM;simp only[Option.some.injEq,Prod.mk.injEq]at ax;obtain⟨rfl,rfl,rfl⟩:=ax;have eT:=of_decide_eq_true aa;obtain⟨v,rr,rfl,⟨A,c,xs,rfl,ae,aw,aF,aW,bC⟩,U⟩:=h
    have:=aF _ rfl
    subst this;rw[eT];exact⟨[_],rr,rfl,⟨A,xs,rfl,by rw[eT]at aw; exact aw,aW,bC⟩,U⟩
   ·cases ax
  ·cases ax
 | .fn,cs,c,x,r,vs,h,ax,aa=>by
  simp only[dec,KQ]at ax
  split at ax
  ·cases ax
   obtain⟨v,rr,rfl,⟨us,J,ae⟩,U⟩:=h;rw[show us=[] from ae]at J;exact⟨[v],rr,rfl,by rw[J]; exact rfl,U⟩
  ·cases ax
   obtain⟨v,rr,rfl,J,U⟩:=h;exact⟨[v],rr,rfl,by rw[show v=_ from J]; exact rfl,U⟩
  ·cases ax
 | .unit,cs,c,x,r,vs,h,ax,aa=>by
  simp only[dec]at ax;cases ax;exact⟨[],vs,rfl,rfl,h⟩
 | .pair g aN,cs,c,x,r,vs,h,ax,aa=>by
  simp only[dec]at ax
  split at ax
  ·rename_i fe nN ay J
   split at ax
   ·rename_i cz jw aO U
    cases ax;simp only[Bool.and_eq_true]at aa;obtain⟨v1,v2,rfl,ae,aw⟩:=oq h J aa.1;obtain⟨v3,v4,rfl,aF,aW⟩:=oq aw U aa.2;exact⟨v1++v3,v4,by rw[List.append_assoc],⟨v1,v3,rfl,ae,aF⟩,aW⟩
   ·cases ax
  ·cases ax
end
section
variable {X:bl} {R:Nat->Prop} {W:World} {aD:e5} {n:Nat} {ks:List Nat} {env:Nat->Loc} {B:Nat->Prop} {ak:World} {H:List bd} {st:aK} {a aQ:Act} {w w':World} {o:Oper} {d:Nat}
theorem bB.sym(h:bB X R W aD n ks env B ak H st a w):Sym n (jL ks aD) (gi a) (fun k=>R k\/B k) ak (H++ks.map c7) a w:=⟨h.bK,h.aJ⟩
theorem c9.same{D:List Deferred} (aI:c9 n D (gi a) aQ) {s:Nat} {u:Value} (hu:a.tmps[s]?=some u):aQ.tmps[s]?=some u:=aI.has s u (hK hu)
theorem c9.other{D:List Deferred} {v:Value} (aI:c9 n D ((d,v) :: gi a) aQ) {s:Nat} (al:s≠d) {u:Value} (hu:a.tmps[s]?=some u):aQ.tmps[s]?=some u:=
 aI.has s u (by rw[List.lookup_cons,beq_false_of_ne al]; exact hK hu)
theorem c9.this{D:List Deferred} {v:Value} (aI:c9 n D ((d,v) :: gi a) aQ):aQ.tmps[d]?=some v:=aI.has d v (by simp)
theorem bB.set(h:bB X R W aD n ks env B ak H st a w) {sv:bZ} {v:Value} (aE:ey env B ak sv v) (aI:c9 n (jL ks aD) ((d,v) :: gi a) aQ):bB X R W aD n ks env B ak H ⟨(d,sv) :: st.L,st.H⟩ aQ w:=
 ⟨aI.size,aI.defs,fun s u al=>by
  rw[ct]at al
  split at al
  ·rename_i e; subst e; cases al; exact⟨v,aI.this,aE⟩
  ·rename_i e; obtain⟨eO,J,U⟩:=h.has s u al; exact⟨eO,aI.other e J,U⟩,h.heap,h.aJ,h.sub,h.new,h.dj,h.base,h.dT⟩
def iE(env:Nat->Loc) (id:Nat) (l:Loc):Nat->Loc:=fun j=>if j=id then l else env j
theorem eH{id:Nat} {l:Loc}:iE env id l id=l:=if_pos rfl
theorem hU{id:Nat} {l:Loc}:∀ j,j≠id->iE env id l j=env j:=fun _ h=>if_neg h
theorem pc{id:Nat} {l:Loc} {p:Nat->Loc->Prop} (h:∀ id l,p id l->n<=id/\env id=l/\((∃ b,l=.blk b)\/hx<=id)) (ax:∀ l,¬ p id l):∀ j q,p j q->n<=j/\iE env id l j=q/\((∃ b,q=.blk b)\/hx<=j):=fun j q ar=>
 ⟨(h j q ar).1,by rw[hU j (fun e=>ax q (by rw[<- e]; exact ar))]; exact(h j q ar).2.1,(h j q ar).2.2⟩
theorem bp.KR{d:Nat} {l:Loc}:∀ {L:bo} {H:List bd},sC d L=true->bp env B ak L H->bp (iE env d l) B ak (du d .dead L) H
 | [],_,_,h=>h
 | (k,b) :: L,_,bk,⟨c,H',e,J,U⟩=>by
  unfold sC at bk
  split at bk
  ·cases bk
  ·rename_i ab
   unfold du;rw[ab];exact⟨c,H',e,J.sub (z:=.dead) (hU (env:=env)) (fun _ _=>trivial) (Nat.ne_of_beq_eq_false ab),bp.KR bk U⟩
theorem bB.mF(h:bB X R W aD n ks env B ak H st a w) (ax:Nat.blt d n=true) {l:Loc} {c:bd} {blk:cw} {sv:bZ} {v:Value} (al:bA (fun k=>R k\/B k) ak (c :: (H++ks.map c7)) w') (ai:ew (iE env d l) B ak d blk c) (aE:ey (iE env d l) B ak sv v)
  (aI:c9 n (jL ks aD) ((d,v) :: gi a) aQ):∃ H',((pa d st.H=true->∀ c∈H,im c=true->c∈H')/\(sC d st.H=true->∀ c∈H,c∈H'))/\bB X R W aD n ks (iE env d l) B ak H' ⟨(d,sv) :: eN d .dead st.L,(d,blk) :: du d .dead st.H⟩ aQ w':=by
 have El:∃ H2,H2.Sublist H/\bp (iE env d l) B ak (du d .dead st.H) H2/\(pa d st.H=true->∀ c∈H,im c=true->c∈H2)/\(sC d st.H=true->∀ c∈H,c∈H2):=by
  cases ab:sC d st.H with
  | true=>exact⟨H,List.Sublist.refl _,bp.KR ab h.heap,fun _ c aa _=>aa,fun _ c aa=>aa⟩
  | false=>
  cases bk:pa d st.H with
  | true=>
   obtain⟨H2,J,U,ae⟩:=h.heap.DV (z:=.dead) (hU (env:=env) (id:=d) (l:=l)) (fun _ _=>trivial) (fun b c ai Af=>Af.nc (KJ bk ai));exact⟨H2,J,U,fun _=>ae,fun h=>by cases h⟩
  | false=>
   obtain⟨H2,J,U⟩:=h.heap.del (z:=.dead) (hU (env:=env) (id:=d) (l:=l)) (fun _ _=>trivial);exact⟨H2,J,U,(fun h=>by cases h),fun h=>by cases h⟩
 obtain⟨H2,J,U,ae,Em⟩:=El;refine⟨c :: H2,⟨fun bk c aa ju=>List.mem_cons_of_mem _ (ae bk c aa ju),fun bk c aa=>List.mem_cons_of_mem _ (Em bk c aa)⟩,aI.size,aI.defs,fun s u al=>?_,⟨c,H2,rfl,ai,U⟩,al.er ((J.append_right _).cons_cons _),h.sub,h.new,pc h.dj (fun q ar=>by have J:=(h.dj _ _ ar).1; have U:=dB ax; omega),h.base,fun i x ao=>h.dT i x ao⟩;rw[ct]at al
 split at al
 ·rename_i e; subst e; cases al; exact⟨v,aI.this,aE⟩
 ·rename_i e
  obtain⟨hz,hA,rfl⟩:=lU al;obtain⟨eO,ae,aw⟩:=h.has s hz hA;exact⟨eO,aI.other e ae,ey.sub (z:=.dead) (hU (env:=env)) (fun _ _=>trivial) aw⟩
def rf(X:bl) (n:Nat) (st:aK) (t:TypeId) (d:Nat) (cs:List bc):Option (Bool×aK):=
 match Nat.blt d n with
 | true=>some (true,⟨(d,.c (.ptr d 0)) :: eN d .dead st.L,(d,.cells t (p3 d .dead cs)) :: du d .dead st.H⟩)
 | false=>none
theorem Tg{x:Operand} {t:TypeId} {g:Bool} {bm:bf} {st':aK} {c:Bool} (az:o.op=.box t x) (dG:o.guard=none) (ef:o.dst=some d) (ao:bj X st.L x=some (g,bm)) (aM:g=true) (ag:lX bm.cells=true)
  (ai:rf X n st t d bm.cells=some (c,st')):sD X n st o st':=by
 intro R W aD ks env B ak H a w ops KK h bT;unfold rf at ai
 split at ai
 ·rename_i ax
  cases ai;obtain⟨v,J,U⟩:=h.aB ao aM;have gg:cm env B ak bm.cells v.cells.toList:=U.cells fun c e=>by
   subst e;simp only[bf.cells,lX,Bool.and_true]at ag;exact dE.one ag U
  have aE:=h.bK.aB J;refine fT h.bK dG ef (dB ax) (v:=.pointer (some ⟨w.heap.size,0,none⟩)) (w':=w.alloc (.cells v.cells.toList.toArray t)) (by simp[execOp,az,aE,Instr.box,newVar,newRow,newObj,Sem.run]) fun aQ aI=>?_
  obtain⟨H',kF,ae⟩:=h.mF (d:=d) ax (l:=.blk w.heap.size) (blk:=.cells t (p3 d .dead bm.cells)) (sv:=.c (.ptr d 0)) (h.aJ.wU _ t) ⟨_,_,eH,rfl,cm.sub (z:=.dead) hU (fun _ _=>trivial) gg⟩ ⟨_,eH,rfl⟩ aI;exact bT _ _ _ _ ⟨fun _=>(Below.refl _ _).alloc (Nat.le_refl _) _,fun _ bk=>kF.1 (by simpa [pb,ef] using bk),fun _ bk=>kF.2 (by simpa [re,ef] using bk)⟩ ae
 ·cases ai
theorem Th(av:X.tt.ok X.P) {t:TypeId} {bg:a6} {st':aK} {c:Bool} (az:o.op=.alloc t) (dG:o.guard=none) (ef:o.dst=some d) (cK:X.tt.find t=some bg)
  (ai:rf X n st t d (q9 bg.bh.zero.cells.toList)=some (c,st')):sD X n st o st':=by
 intro R W aD ks env B ak H a w ops KK h bT;unfold rf at ai
 split at ai
 ·rename_i ax
  cases ai;have bP:=bz.o0 (bY.get av cK).bh;refine fT h.bK dG ef (dB ax) (v:=.pointer (some ⟨w.heap.size,0,none⟩)) (w':=w.alloc (.cells bg.bh.zero.cells.toList.toArray t)) (by simp[execOp,az,Instr.alloc,bP,newVar,newRow,newObj,Sem.run]) fun aQ aI=>?_
  obtain⟨H',kF,ae⟩:=h.mF (d:=d) ax (l:=.blk w.heap.size) (blk:=.cells t (p3 d .dead (q9 bg.bh.zero.cells.toList))) (sv:=.c (.ptr d 0)) (h.aJ.wU _ t) ⟨_,_,eH,rfl,cm.sub (z:=.dead) (env:=env) hU (fun _ _=>trivial) (w2 _)⟩ ⟨_,eH,rfl⟩ aI;exact bT _ _ _ _ ⟨fun _=>(Below.refl _ _).alloc (Nat.le_refl _) _,fun _ bk=>kF.1 (by simpa [pb,ef] using bk),fun _ bk=>kF.2 (by simpa [re,ef] using bk)⟩ ae
 ·cases ai
theorem bB.k3(h:bB X R W aD n ks env B ak H st a w) {id:Nat} {b b':cw} (bO:aS st.H id=some b):∃ c K,ew env B ak id b c/\iN (H++ks.map c7) c K/\∀ c' aQ w',ew env B ak id b' c'->bA (fun k=>R k\/B k) ak (K c') w'->c9 n (jL ks aD) (gi a) aQ->∃ H',bB X R W aD n ks env B ak H' ⟨st.L,ek id b' st.H⟩ aQ w':=by
 obtain⟨c,K,J,U,ae⟩:=h.heap.put bO;refine⟨c,_,J,U.more,fun c' aQ w' ai al aI=>⟨K c',aI.size,aI.defs,fun s u hu=>?_,ae b' c' ai,al,h.sub,h.new,h.dj,h.base,h.dT⟩⟩;obtain⟨eO,aw,aF⟩:=h.has s u hu;exact⟨eO,aI.same aw,aF⟩
def w8(X:bl) (st:aK) (t:TypeId) (x y:bf):Option (Bool×aK):=
 match X.tt.find t,lX y.cells with
 | some bg,true=>match Nat.beq y.cells.length bg.bh.size,x with
  | true,.c (.ptr id o)=>match aS st.H id with
   | some (.cells bR cs)=>match nM cs o y.cells with
    | some r=>some (true,⟨st.L,ek id (.cells bR r) st.H⟩)
    | none=>none
   | _=>none
  | true,.c (.eg id cx i o)=>match aS st.H id with
   | some (.row bR g l cap)=>match Nat.beq cx g.size,kD g (l.getD i g.zero) 0 g.size with
    | true,some cs=>match nM cs o y.cells with
     | some r=>match dec g r with
      | some (c,z,_)=>some (decide (i < l.length)&&c,⟨st.L,ek id (.row bR g (l.set i z) cap) st.H⟩)
      | none=>none
     | none=>none
    | _,_=>none
   | _=>none
  | _,_=>none
 | _,_=>none
theorem KS{t e:TypeId} {i:bz} {x y:Operand} {b p:Nat} {cs hI:List Value} {v:Value} {D:List Deferred} {L:List (Nat×Value)} {K:bd->List bd} {ops:Array Oper} {KK:Act->World->Prop} (av:Sym n D L B ak H a w) (az:o.op=.store t x y) (bb:o.guard=none/\o.dst=none)
  (hi:bz.ok X.P t i) (ao:Go.Proofs.YtcheedjfedcbpaaGreatDoor.aB L x=some (.pointer (some ⟨b,p,none⟩))) (aV:Go.Proofs.YtcheedjfedcbpaaGreatDoor.aB L y=some v) (cQ:v.cells.size=i.size) (U:∀ u∈v.cells.toList,u.oneCell'=true) (aA:iN H (.gv b cs e) K) (al:kB cs p v.cells.toList hI)
  (h:∀ aQ w',Sym n D L B ak (K (.gv b hI e)) aQ w'->KK aQ w'):e3 X.P ops o KK a w:=by
 obtain⟨ae,aw⟩:=al.eq;have ag:v.cells.toList.length=v.cells.size:=by simp
 have dw:=R3 (w:=w) (v:=v) (p:=p) hi (DL av.aJ aA) cQ U (by omega);refine JX av bb (w':=_) (by simp[execOp,az,av.aB ao,av.aB aV,Instr.storeAt,Instr.sureAddr,dw]; rfl) (H':=K (.gv b hI e)) ?_ h;refine av.aJ.o2 aA ⟨rfl,rfl,rfl,by simp⟩ ?_ fun k ab=>setRow_other w b k _ ab
 rw[setRow_heap w b cs.toArray _ e _ (DL av.aJ aA),ae,ag];simp only[List.append_assoc]
theorem Ag{t e:TypeId} {i:bz} {x y:Operand} {g j c m size:Nat} {xs:List Value} {v:Value} {D:List Deferred} {L:List (Nat×Value)} {K:bd->List bd} {ops:Array Oper} {KK:Act->World->Prop} (av:Sym n D L B ak H a w) (az:o.op=.store t x y) (bb:o.guard=none/\o.dst=none)
  (hi:bz.ok X.P t i) (ao:Go.Proofs.YtcheedjfedcbpaaGreatDoor.aB L x=some (.pointer (some ⟨g,j,none⟩))) (aV:Go.Proofs.YtcheedjfedcbpaaGreatDoor.aB L y=some v) (cQ:v.cells.size=i.size) (U:∀ u∈v.cells.toList,u.oneCell'=true) (aA:iN H (.row (some ⟨g,0,none⟩) c e size m xs) K) (aX:j+v.cells.toList.length<=m * size)
  (h:∀ aQ w',Sym n D L B ak (K (.row (some ⟨g,0,none⟩) c e size m (xs.take j++v.cells.toList++xs.drop (j+v.cells.toList.length)))) aQ w'->KK aQ w'):e3 X.P ops o KK a w:=by
 have e4:eG w B e size (some ⟨g,0,none⟩) c m xs:=av.aJ.ok _ aA.mem;have ka:=e4.1
 generalize pd:v.cells.toList=vs at U aX h
 have fC:vs.length=i.size:=by rw[<- pd]; simpa using cQ
 rcases e4.2 with⟨aP,_⟩ | ⟨g',cur,dH,ad,o4,aM,kz,oi,h6,gg,o5⟩
 ·cases aP
 ·have:g=g':=by injection ad with ad; injection ad
  subst this;have lY:m * size<=cur.size:=by rw[gg]; exact Nat.mul_le_mul_right _ oi
  have Ti:j+vs.length<=cur.size:=Nat.le_trans aX lY;have dZ:=run_storeCells_cells (P:=X.P) g j vs 0 w (fun q au=>by
    simp only[World.cell?,aM]
    simp; omega) (fun q au=>by
    simp only[World.frozen?,aM]
    rcases kz with h | h
    ·simp; omega
    ·simp; omega) U
  simp only[Nat.add_zero]at dZ;rw[wW g e dH vs j w cur aM Ti]at dZ;have dw:(storeVar t ⟨g,j,none⟩ v).run X.P w=.ok () (w.setRow g (cur.toList.take j++vs++cur.toList.drop (j+vs.length)).toArray):=by
   unfold storeVar
   simp[bz.run_sizeOf hi,cQ]
   rw[pd];rw[List.append_assoc]at dZ;exact dZ
  refine JX av bb (w':=w.setRow g (cur.toList.take j++vs++cur.toList.drop (j+vs.length)).toArray) (by simp only[execOp,az,av.aB ao,av.aB aV,Instr.storeAt,Instr.sureAddr,Sem.run_bind,Sem.run_pure,Result.andThen_ok,dw]) ?_ h;refine av.aJ.so aA ⟨rfl,rfl,rfl,by simp,fun q au=>setRow_other w g q _ (fun cv=>by subst cv; exact o4 au)⟩ (c':=.row (some ⟨g,0,none⟩) c e size m (xs.take j++vs++xs.drop (j+vs.length))) ?_ (fun q au=>.inl au) fun q _ au=>setRow_other w g q _ (fun cv=>au (by subst cv; rfl))
  have hlen:(cur.toList.take j++vs++cur.toList.drop (j+vs.length)).length=cur.size:=by simp; omega
  refine⟨by simp; omega,.inr ⟨g,_,dH,rfl,o4,setRow_heap w g cur _ e _ aM,?_,oi,h6,?_,?_⟩⟩
  ·rcases kz with h | h
   ·exact .inl h
   ·exact .inr (by rw[List.size_toArray,hlen]; exact h)
  ·rw[List.size_toArray,hlen]; exact gg
  ·show(cur.toList.take j++vs++cur.toList.drop (j+vs.length)).take (m * size)=_
   rw[<- o5,List.take_take,Nat.min_eq_left (by omega),List.take_append,List.take_of_length_le (by simp; omega),List.drop_take]
   congr 2
   simp; omega
theorem Tj(av:X.tt.ok X.P) {x y:Operand} {t:TypeId} {g g' c:Bool} {fa dv:bf} {st':aK} (az:o.op=.store t x y) (dG:o.guard=none) (ef:o.dst=none) (ao:bj X st.L x=some (g,fa)) (aM:g=true) (aV:bj X st.L y=some (g',dv)) (fD:g'=true)
  (ai:w8 X st t fa dv=some (c,st')) (aa:c=true):sD X n st o st':=by
 intro R W aD ks env B ak H a w ops KK h bT;obtain⟨vx,gG,jM⟩:=h.aB ao aM;obtain⟨vy,fm,iq⟩:=h.aB aV fD;unfold w8 at ai
 split at ai
 ·rename_i bg cK ng
  have hi:=(bY.get av cK).bh;have gg:cm env B ak dv.cells vy.cells.toList:=iq.cells fun c e=>by
   subst e;simp only[bf.cells,lX,Bool.and_true]at ng;exact dE.one ng iq
  have h7:=gg.h8 ng;have hlen:=gg.length
  split at ai
  ·rename_i id p cQ
   split at ai
   ·rename_i bR cs bO
    split at ai
    ·rename_i r ar
     cases ai;obtain⟨b,he,rfl⟩:=jM;obtain⟨ds,K,⟨b',vs,cG,rfl,Tk⟩,aA,gW⟩:=h.k3 (b':=.cells bR r) bO;rw[he]at cG;cases cG;obtain⟨rs,J,U⟩:=w7 Tk gg ar;refine KS h.sym az ⟨dG,ef⟩ hi gG fm (by rw[<- Nat.eq_of_beq_eq_true cQ,<- hlen]; simp) h7 aA J fun aQ w' cS=>?_
     obtain⟨H',ae⟩:=gW _ aQ w' ⟨b,rs,he,rfl,U⟩ cS.aJ cS.st;exact bT _ _ _ _ ⟨fun h=>(by rw[az]at h; cases h),fun h=>(by rw[az]at h; cases h),fun h=>(by rw[az]at h; cases h)⟩ ae
    ·cases ai
   ·cases ai
  ·rename_i id cx i p cQ
   split at ai
   ·rename_i bR g l cap bO
    split at ai
    ·rename_i cs Tl hcells
     split at ai
     ·rename_i r ar
      split at ai
      ·rename_i c' z rr ax
       cases ai;simp only[Bool.and_eq_true,decide_eq_true_eq]at aa;obtain⟨br,eT⟩:=aa;obtain⟨b,cc,m,he,rfl⟩:=jM;have Tm:=Nat.eq_of_beq_eq_true Tl;subst Tm;obtain⟨ds,K,⟨A,k,xs,cG,rfl,cu,ff⟩,aA,gW⟩:=h.k3 (b':=.row bR g (l.set i z) cap) bO;rw[he]at cG;cases cG;have En:l[i]?=some (l.getD i g.zero):=by rw[List.getD_eq_getElem?_getD,List.getElem?_eq_getElem br]; rfl
       have Tn:=Flat.get (fun _ _=>bt.length) cu En;obtain⟨us,⟨ain,To⟩,Tp⟩:=bt.cells (env:=env) Tn hcells;have aio:=bt.jt cu;have hmul:(i+1) * g.size<=l.length * g.size:=Nat.mul_le_mul_right _ br;rw[Nat.add_mul,Nat.one_mul]at hmul;have Tq:us=(xs.drop (i * g.size)).take g.size:=by
        apply List.ext_getElem?
        intro j
        by_cases aX:j < us.length
        ·have:=To j us[j] (List.getElem?_eq_getElem aX)
         rw[Nat.zero_add]at this;rw[this,List.getElem?_eq_getElem aX]
        ·rw[List.getElem?_eq_none (by omega),List.getElem?_eq_none (by simp; omega)]
       obtain⟨rs,J,U⟩:=w7 Tp gg ar;obtain⟨v1,v2,Eo,ae,aw⟩:=oq U ax eT;obtain⟨aF,aW⟩:=J.eq;have kG:=bt.length ae;have Ah:rs.length=g.size:=by rw[aF]; simp only[List.length_append,List.length_take,List.length_drop]; omega
       have hM:v2=[]:=by
        have:=congrArg List.length Eo
        rw[List.length_append]at this;exact List.eq_nil_of_length_eq_zero (by omega)
       rw[hM,List.append_nil]at Eo;subst Eo;have Tr:=Flat.set (fun _ _=>bt.length) cu br ae;refine Ag h.sym az ⟨dG,ef⟩ hi gG fm (by rw[<- Nat.eq_of_beq_eq_true cQ,<- hlen]; simp) h7 aA (by omega) fun aQ w' cS=>?_
       have KT:(l.set i z).length=l.length:=by simp
       obtain⟨H',bC⟩:=gW _ aQ w' ⟨some ⟨b,0,none⟩,cc,_,by rw[KT]; exact he,by rw[KT],Tr,ff⟩ (by
        have e:xs.take (i * g.size+p)++vy.cells.toList++xs.drop (i * g.size+p+vy.cells.toList.length)=xs.take (i * g.size)++rs++xs.drop (i * g.size+g.size):=by
         have aC:xs.drop (i * g.size+g.size)=(xs.drop (i * g.size+(p+vy.cells.toList.length))).drop (g.size - (p+vy.cells.toList.length)):=by rw[List.drop_drop]; congr 1; omega
         have a7:xs.drop (i * g.size+p+vy.cells.toList.length)=xs.drop (i * g.size+(p+vy.cells.toList.length)):=by rw[Nat.add_assoc]
         rw[aF,Tq,List.take_take,Nat.min_eq_left (by omega),List.drop_take,List.drop_drop,List.take_add,aC,a7];simp only[List.append_assoc];rw[List.take_append_drop]
        rw[e]at cS;exact cS.aJ) cS.st
       exact bT _ _ _ _ ⟨fun h=>(by rw[az]at h; cases h),fun h=>(by rw[az]at h; cases h),fun h=>(by rw[az]at h; cases h)⟩ bC
      ·cases ai
     ·cases ai
    ·cases ai
   ·cases ai
  ·cases ai
 ·cases ai
end
end
section
section
variable {env env':Nat->Loc} {B:Nat->Prop} {w:World}
theorem bt.h8:∀ {g:aR} {x:g.D} {vs:List Value},bt B w g x vs->∀ u∈vs,u.oneCell'=true
 | .int _,_,_,h,u,hu=>by rw[show _=[_] from h]at hu; simp at hu; subst hu; rfl
 | .bool,_,_,h,u,hu=>by rw[show _=[_] from h]at hu; simp at hu; subst hu; rfl
 | .str,_,_,h,u,hu=>by rw[show _=[_] from h]at hu; simp at hu; subst hu; rfl
 | .ah _,_,_,⟨_,_,_,h,_⟩,u,hu=>by rw[h]at hu; simp at hu; subst hu; rfl
 | .gO _,_,_,⟨_,_,h,_⟩,u,hu=>by rw[h]at hu; simp at hu; subst hu; rfl
 | .unit,_,_,h,u,hu=>by rw[show _=[] from h]at hu; cases hu
 | .fn,x,_,h,u,hu=>by rw[show _=[_] from h]at hu; simp at hu; subst hu; cases x<;>rfl
 | .pair _ _,_,_,⟨v1,v2,e,J,U⟩,u,hu=>by
  rw[e]at hu
  rcases List.mem_append.1 hu with hu | hu
  ·exact bt.h8 J u hu
  ·exact bt.h8 U u hu
theorem Flat.h8{α:Type} {R:α->List Value->Prop} (fV:∀ x vs,R x vs->∀ u∈vs,u.oneCell'=true):∀ {l:List α} {vs:List Value},Flat R l vs->∀ u∈vs,u.oneCell'=true
 | [],_,h,u,hu=>by rw[show _=[] from h]at hu; cases hu
 | _ :: _,_,⟨v1,v2,e,J,U⟩,u,hu=>by
  rw[e]at hu
  rcases List.mem_append.1 hu with hu | hu
  ·exact fV _ _ J u hu
  ·exact Flat.h8 fV U u hu
theorem bt.ev:∀ g:aR,bt B w g g.zero g.ev
 | .int _=>rfl
 | .bool=>rfl
 | .str=>rfl
 | .ah _=>⟨none,0,[],rfl,Nat.le_refl _,Nat.zero_le _,rfl,Reads.nil _ _ _,fun _ _ h=>absurd h (Nat.lt_irrefl 0)⟩
 | .gO _=>⟨none,[],rfl,Nat.zero_le _,rfl,Reads.nil _ _ _,fun _ _ h=>absurd h (Nat.lt_irrefl 0)⟩
 | .unit=>rfl
 | .fn=>rfl
 | .pair g h=>⟨_,_,rfl,bt.ev g,bt.ev h⟩
theorem Flat.ev(g:aR):∀ k:Nat,Flat (bt B w g) (List.replicate k g.zero) (ev g.ev k)
 | 0=>rfl
 | k+1=>⟨g.ev,_,rfl,bt.ev g,Flat.ev g k⟩
theorem bp.take{id:Nat}:∀ {l:bo} {H:List bd} {b:cw},bp env B w l H->aS l id=some b ->
  ∃ c Y Z,ew env B w id b c/\H=Y++c :: Z/\∀ (env':Nat->Loc) (z:bc),(∀ j,j≠id->env' j=env j)->(∀ v,dE env B w (.ah id) v->dE env' B w z v)->∃ H2,H2.Sublist (Y++Z)/\bp env' B w (du id z l) H2/\((∀ b,env id≠.blk b)->∀ c∈Y++Z,im c=true->c∈H2)
 | [],_,_,_,h=>by cases h
 | (k,b') :: l,H,b,⟨c,H',e,J,U⟩,h=>by
  rw[ct]at h;subst e
  split at h
  ·rename_i e
   subst e;cases h;refine⟨c,[],H',J,rfl,fun env' z he bP=>?_⟩;have El:∃ H2,H2.Sublist H'/\bp env' B w (du id z l) H2/\((∀ b,env id≠.blk b)->∀ c∈H',im c=true->c∈H2):=by
    by_cases ai:∀ b,env id≠.blk b
    ·obtain⟨H2,ae,aw,aF⟩:=bp.DV he bP U (fun b c _ Af=>Af.nc fun t cs e=>by
      subst e;obtain⟨b',_,e,_⟩:=Af;exact ai _ e)
     exact⟨H2,ae,aw,fun _=>aF⟩
    ·obtain⟨H2,ae,aw⟩:=bp.del he bP U
     exact⟨H2,ae,aw,fun h=>absurd h ai⟩
   obtain⟨H2,ae,aw,aF⟩:=El;refine⟨H2,ae,?_,aF⟩;unfold du;rw[Nat.beq_refl];exact aw
  ·rename_i e
   obtain⟨c',Y,Z,ae,aw,aF⟩:=bp.take U h;have ab:Nat.beq k id=false:=by
    cases ai:Nat.beq k id with
    | false=>rfl
    | true=>exact absurd (Nat.eq_of_beq_eq_true ai).symm e
   refine⟨c',c :: Y,Z,ae,by rw[aw]; rfl,fun env' z he bP=>?_⟩;obtain⟨H2,aW,bC,db⟩:=aF env' z he bP;refine⟨c :: H2,aW.cons_cons _,?_,fun ai c' eT ju=>?_⟩
   ·unfold du
    rw[ab];exact⟨c,H2,rfl,J.sub he bP (Nat.ne_of_beq_eq_false ab),bC⟩
   ·rw[List.cons_append]at eT
    rcases List.mem_cons.1 eT with rfl | eT
    ·exact List.mem_cons_self ..
    ·exact List.mem_cons_of_mem _ (db ai c' eT ju)
end
section
variable {X:bl} {R:Nat->Prop} {W:World} {aD:e5} {n:Nat} {ks:List Nat} {env:Nat->Loc} {B:Nat->Prop} {ak:World} {H:List bd} {st:aK} {a aQ:Act} {w w':World} {o:Oper} {d:Nat}
theorem bB.Ai(h:bB X R W aD n ks env B ak H st a w) {id:Nat} {b b':cw} (bO:aS st.H id=some b) (ez:∀ q,¬ aD.p id q):∃ c K,ew env B ak id b c/\iN (H++ks.map c7) c K /\
  ∀ (l:Loc) c' aQ w' sv v,ew (iE env id l) B ak id b' c'->ey (iE env id l) B ak sv v->bA (fun k=>R k\/B k) ak (K c') w'->c9 n (jL ks aD) ((d,v) :: gi a) aQ ->
   ∃ H',((∀ b,env id≠.blk b)->∀ c'∈H,im c'=true->c'≠c->c'∈H')/\bB X R W aD n ks (iE env id l) B ak H' ⟨(d,sv) :: eN id .dead st.L,(id,b') :: du id .dead st.H⟩ aQ w':=by
 obtain⟨c,Y,Z,J,U,ae⟩:=h.heap.take bO;refine⟨c,fun z=>Y++z :: (Z++ks.map c7),J,⟨Y,Z++ks.map c7,by rw[U]; simp,rfl⟩,fun l c' aQ w' sv v ai aE al aI=>?_⟩;obtain⟨H2,aw,aF,hN⟩:=ae (iE env id l) .dead hU (fun _ _=>trivial);refine⟨c' :: H2,fun ai q au ju cL=>List.mem_cons_of_mem _ (hN ai q (by
  rw[U]at au
  rcases List.mem_append.1 au with au | au
  ·exact List.mem_append_left _ au
  ·rcases List.mem_cons.1 au with e | au
   ·exact absurd e cL
   ·exact List.mem_append_right _ au) ju),aI.size,aI.defs,fun s u hu=>?_,⟨c',H2,rfl,ai,aF⟩,?_,h.sub,h.new,pc h.dj ez,h.base,h.dT⟩
 ·rw[ct]at hu
  split at hu
  ·rename_i e; subst e; cases hu; exact⟨v,aI.this,aE⟩
  ·rename_i e
   obtain⟨hz,hA,rfl⟩:=lU hu;obtain⟨eO,aW,bC⟩:=h.has s hz hA;exact⟨eO,aI.other e aW,ey.sub (z:=.dead) hU (fun _ _=>trivial) bC⟩
 ·have ar:(Y++c' :: (Z++ks.map c7)).Perm (c' :: (Y++Z++ks.map c7)):=by
   rw[List.append_assoc];exact List.perm_middle
  exact(al.perm ar).er ((aw.append_right _).cons_cons _)
def w9(X:bl) (L:cJ) (size:Nat):List (Nat×Operand)->Nat->Option (Bool×List bc)
 | [],_=>some (true,[])
 | (j,u) :: r,k=>match Nat.beq j k,bj X L u,w9 X L size r (k+1)with
  | true,some (g,x),some (c,l)=>match Nat.beq x.cells.length size,lX x.cells with
   | true,true=>some (g&&c,x.cells++l)
   | _,_=>none
  | _,_,_=>none
def xa(g:aR):Nat->List bc->Option (Bool×List g.D)
 | 0,_=>some (true,[])
 | k+1,cs=>match dec g cs with
  | some (c,x,r)=>match xa g k r with
   | some (c',l)=>some (c&&c',x :: l)
   | none=>none
  | none=>none
def newRow(n:Nat) (st:aK) (d:Nat) (t:TypeId) (g:aR) (l:List g.D) (cap:Option Nat):Option aK:=
 match Nat.blt d n with
 | true=>some ⟨(d,.c (.ah d)) :: eN d .dead st.L,(d,.row t g l cap) :: du d .dead st.H⟩
 | false=>none
def xb(X:bl) (n:Nat) (st:aK) (t:TypeId) (N:Nat) (ps:List (Nat×Operand)) (d:Nat):Option (Bool×aK):=
 match X.tt.find t with
 | some ⟨⟨.slice e,_,_,_⟩,_⟩=>match X.tt.find e with
  | some ⟨bg,some g⟩=>match Nat.ble (N * bg.size) 16777216,Nat.beq ps.length N,w9 X st.L bg.size ps 0 with
   | true,true,some (c,cs)=>match xa g N cs with
    | some (c',l)=>match newRow n st d e g l (some N)with
     | some st'=>some (c&&c',st')
     | none=>none
    | none=>none
   | _,_,_=>none
  | _=>none
 | _=>none
theorem Ep{env:Nat->Loc} {B:Nat->Prop} {w:World} {g:aR}:∀ {k:Nat} {cs:List bc} {c:Bool} {l:List g.D} {vs:List Value},cm env B w cs vs->xa g k cs=some (c,l)->c=true->l.length=k/\∃ v1 v2,vs=v1++v2/\Flat (bt B w g) l v1
 | 0,cs,c,l,vs,_,ax,_=>by cases ax; exact⟨rfl,[],vs,rfl,rfl⟩
 | k+1,cs,c,l,vs,h,ax,aa=>by
  simp only[xa]at ax
  split at ax
  ·rename_i fe x r J
   split at ax
   ·rename_i cz bV U
    cases ax;simp only[Bool.and_eq_true]at aa;obtain⟨v1,v2,rfl,ae,aw⟩:=oq h J aa.1;obtain⟨aF,v3,v4,rfl,aW⟩:=Ep aw U aa.2;exact⟨by rw[List.length_cons,aF],v1++v3,v4,by rw[List.append_assoc],v1,v3,rfl,ae,aW⟩
   ·cases ax
  ·cases ax
theorem cm.append{env:Nat->Loc} {B:Nat->Prop} {w:World}:∀ {cs aG:List bc} {vs us:List Value},cm env B w cs vs->cm env B w aG us->cm env B w (cs++aG) (vs++us)
 | [],_,_,_,h,aN=>by rw[show _=[] from h]; exact aN
 | _ :: _,_,_,_,⟨v,r,e,J,U⟩,aN=>⟨v,_,by rw[e]; rfl,J,cm.append U aN⟩
theorem Er(h:bB X R W aD n ks env B ak H st a w) {size:Nat}:∀ {ps:List (Nat×Operand)} {k:Nat} {c:Bool} {cs:List bc},w9 X st.L size ps k=some (c,cs)->c=true ->
  ∃ vs:List Value,(ps.map fun p=>(p.1,a.eval p.2))=(vs.zipIdx k).map (fun p=>(p.2,p.1))/\(∀ v∈vs,v.cells.size=size)/\cm env B ak cs (vs.flatMap fun v=>v.cells.toList)
 | [],k,c,cs,ar,_=>by cases ar; exact⟨[],rfl,(fun _ h=>by cases h),rfl⟩
 | (j,u) :: ps,k,c,cs,ar,aa=>by
  simp only[w9]at ar
  split at ar
  ·rename_i g x c' l aX hu aH
   split at ar
   ·rename_i cQ ng
    cases ar;simp only[Bool.and_eq_true]at aa;obtain⟨v,J,U⟩:=h.aB hu aa.1;have gg:cm env B ak x.cells v.cells.toList:=U.cells fun c e=>by
     subst e;simp only[bf.cells,lX,Bool.and_true]at ng;exact dE.one ng U
    obtain⟨vs,ae,aw,aF⟩:=Er h aH aa.2;refine⟨v :: vs,?_,fun u hu=>?_,?_⟩
    ·rw[List.map_cons,ae,List.zipIdx_cons,List.map_cons,h.bK.aB J,Nat.eq_of_beq_eq_true aX]
    ·rcases List.mem_cons.1 hu with rfl | hu
     ·rw[<- Nat.eq_of_beq_eq_true cQ,<- gg.length]; simp
     ·exact aw u hu
    ·rw[List.flatMap_cons]
     exact gg.append aF
   ·cases ar
  ·cases ar
theorem KU(size:Nat):∀ (vs:List Value) (k:Nat) (done zs:List Value),(∀ v∈vs,v.cells.size=size)->done.length=k * size->zs.length=vs.length * size ->
  Instr.fill (fun i=>some (i * size,size)) (done++zs).toArray ((vs.zipIdx k).map fun p=>(p.2,p.1))=some (done++vs.flatMap fun v=>v.cells.toList).toArray
 | [],k,done,zs,_,_,ag=>by
  have:zs=[]:=List.eq_nil_of_length_eq_zero (by simpa using ag)
  subst this; simp[Instr.fill]
 | v :: vs,k,done,zs,aE,ax,ag=>by
  have mG:=aE v (by simp);have Es:v.cells.toList.length=size:=by simpa using mG
  have bP:size<=zs.length:=by rw[ag,List.length_cons,Nat.add_mul]; omega
  have bx:=KU size vs (k+1) (done++v.cells.toList) (zs.drop size) (fun u hu=>aE u (List.mem_cons_of_mem _ hu)) (by rw[List.length_append,ax,Es,Nat.add_mul]; omega) (by rw[List.length_drop,ag,List.length_cons,Nat.add_mul]; omega);have ar:=DR v.cells.toList (done++zs) (k * size) 0 (by rw[List.length_append,ax,Es]; omega);simp only[List.zipIdx_cons,List.map_cons,Instr.fill];rw[if_neg (by simp[mG,ax]; omega)];rw[<- Array.foldl_toList];simp only[Array.toList_zipIdx];simp only[Nat.add_zero]at ar;rw[ar,<- ax,List.take_left,Es];have a7:(done++zs).drop (done.length+size)=zs.drop size:=by rw[List.drop_append]; simp
  rw[a7]
  simpa using bx
theorem range_zero(z:List Value) (k:Nat) (size:Nat) (al:z.length=size) (aP:0 < size):(Array.range (k * size)).map (fun j=>z.toArray[j % z.toArray.size]!)=(ev z k).toArray:=by
 subst al; exact Ke z aP k
theorem KV{P:Program} {t e:TypeId} {i:bz} {N:Nat} {vs:List Value} {z:List Value} {w:World} (aZ:P.underlying t=some (.slice e)) (hi:bz.ok P e i) (bP:i.zero.cells.toList=z) (xc:z.length=i.size) (aP:0 < i.size) (bF:vs.length=N) (hle:N * i.size<=16777216) (aE:∀ v∈vs,v.cells.size=i.size) :
  (Instr.buildSlice t N ((vs.zipIdx.map fun p=>(p.2,p.1)).toArray)).run P w=.ok (.slice (some ⟨w.heap.size,0,none⟩) N N) (w.alloc (.cells (vs.flatMap fun v=>v.cells.toList).toArray e)):=by
 have uO:=KU i.size vs 0 [] (ev z N) aE (by simp) (by rw[wY,xc,bF]);simp only[List.nil_append]at uO;have p6:=range_zero z N i.size xc aP;have lW:i.zero.cells=z.toArray:=by rw[<- bP]
 unfold Instr.buildSlice;simp only[Sem.run_bind,run_underlying aZ,Result.andThen_ok,bz.run_sizeOf hi];rw[if_neg (by omega)]
 by_cases cL:N * i.size=0
 ·have Ts:N=0:=by
   rcases Nat.mul_eq_zero.1 cL with h | h
   ·exact h
   ·omega
  subst Ts
  have:vs=[]:=List.eq_nil_of_length_eq_zero bF
  subst this;have hl:(Array.range 0)=#[]:=rfl
  simp[Instr.fill,newObj,Sem.run,Go.newRow,hl]
 ·simp only[cL,if_false,Sem.run_bind,bz.o0 hi,Result.andThen_ok,Sem.run_pure,lW]
  rw[p6]
  simp[uO,Go.newRow,newObj,Sem.run]
theorem Tt(av:X.tt.ok X.P) {t:TypeId} {N:Nat} {ps:Array (Nat×Operand)} {c:Bool} {st':aK} (az:o.op=.buildSlice t N ps) (dG:o.guard=none) (ef:o.dst=some d) (ai:xb X n st t N ps.toList d=some (c,st')) (aa:c=true):sD X n st o st':=by
 intro R W aD ks env B ak H a w ops KK h bT;unfold xb at ai
 split at ai
 ·rename_i e s1 s2 Et s4 aA
  split at ai
  ·rename_i bg g cK
   split at ai
   ·rename_i fe cs hle gX hpc
    split at ai
    ·rename_i cz l hdn
     split at ai
     ·rename_i fy kf
      cases ai;simp only[Bool.and_eq_true]at aa;unfold Go.Proofs.YtcheedjfedcbpaaGreatDoor.newRow at kf
      split at kf
      ·rename_i ax
       cases kf;obtain⟨c3,dy,hO⟩:=(bY.get av cK).g g rfl;have nO:=(bY.get av cK).bh;dsimp only at c3 dy nO;obtain⟨vs,J,U,ae⟩:=Er h hpc aa.1;obtain⟨aw,v1,v2,aF,aW⟩:=Ep ae hdn aa.2;have mG:vs.length=N:=by
        have:=congrArg List.length J
        simp only[List.length_map,List.length_zipIdx]at this;rw[<- this];exact Nat.eq_of_beq_eq_true gX
       have sE:(vs.flatMap fun v=>v.cells.toList).length=N * bg.size:=by
        rw[<- mG]
        clear J ae aF mG
        induction vs with
        | nil=>simp
        | cons v vs bx=>rw[List.flatMap_cons,List.length_append,bx (fun u hu=>U u (List.mem_cons_of_mem _ hu)),List.length_cons,Nat.add_mul,Nat.one_mul,Array.length_toList,U v (by simp),Nat.add_comm]
       have hM:v2=[]:=by
        have aC:=congrArg List.length aF;rw[List.length_append,bt.jt aW,aw,sE,c3]at aC;exact List.eq_nil_of_length_eq_zero (by omega)
       subst hM;rw[List.append_nil]at aF;have dw:=KV (w:=w) (N:=N) (vs:=vs) (bY.get av aA).bh.1 nO (z:=g.ev) dy (by rw[<- bt.length (bt.ev (B:=B) (w:=ak) g)]at c3; exact c3) (by rw[<- c3]; exact hO) mG (Nat.le_of_ble_eq_true hle) U;have jx:ps.map (fun p=>(p.1,a.eval p.2))=((vs.zipIdx.map fun p=>(p.2,p.1)).toArray):=by
        rw[<- J,<- List.map_toArray]
       refine fT h.bK dG ef (dB ax) (v:=.slice (some ⟨w.heap.size,0,none⟩) N N) (w':=w.alloc (.cells (vs.flatMap fun v=>v.cells.toList).toArray e)) (by
        simp only[execOp,az];rw[jx]
        simp[dw]) fun aQ aI=>?_
       have ez:=bA.zU (size:=g.size) (m:=N) (h.aJ.wU (vs.flatMap fun v=>v.cells.toList) e) (by rw[sE,c3]) (by
        have:=Nat.le_of_ble_eq_true hle
        have bC:N<=N * bg.size:=Nat.le_mul_of_pos_right _ (by rw[<- c3]; exact hO);omega)
       obtain⟨H',kF,db⟩:=h.mF (d:=d) ax (l:=.row (some ⟨w.heap.size,0,none⟩) N l.length) (blk:=.row e g l (some N)) (sv:=.c (.ah d)) ez ⟨_,_,_,eH,by rw[aw],by rw[aF]; exact aW,fun q au=>by cases au; rfl⟩ ⟨_,_,_,eH,by rw[aw]⟩ aI;exact bT _ _ _ _ ⟨fun _=>(Below.refl _ _).alloc (Nat.le_refl _) _,fun _ bk=>kF.1 (by simpa [pb,ef] using bk),fun _ bk=>kF.2 (by simpa [re,ef] using bk)⟩ db
      ·cases kf
     ·cases ai
    ·cases ai
   ·cases ai
  ·cases ai
 ·cases ai
theorem KW{P:Program} {B:Nat->Prop} {ak w:World} {H:List bd} {t e:TypeId} {i':bz} {z:List Value} {m c:Nat} {k k':IntKind} (dO:bA B ak H w) (aC:P.underlying t=some (.slice e)) (cC:bz.ok P e i') (aw:i'.zero.cells=z.toArray) (aF:z.length=i'.size) (cQ:0 < i'.size)
  (Tu:m<=c) (ai:i'.bytes * c<=140737488355328) (aa:c<=140737488355328) :
  (Instr.makeSlice t (.int k (m:Int)) (.int k' (c:Int))).run P w=.ok (.slice (some ⟨w.heap.size,0,none⟩) m c) (w.alloc (.cells (ev z c).toArray e))/\bA B ak (.row (some ⟨w.heap.size,0,none⟩) c e i'.size m (ev z m) :: H) (w.alloc (.cells (ev z c).toArray e)):=by
 obtain⟨inf,o3,fk,iB,lR⟩:=bz.info cC;have dN:(inf.bytes:Int) * (c:Int)<=281474976710656:=by
  have:((inf.bytes * c:Nat):Int)<=140737488355328:=by rw[iB]; omega
  rw[Int.natCast_mul]at this;omega
 constructor
 ·have aH:=run_make (P:=P) w t e inf i'.zero aC o3 lR k k' m c (by omega) (by omega) dN (by omega)
  simp only[Int.toNat_natCast]at aH;rw[aH];have bP:madeCells i'.zero.cells (c * inf.size)=(ev z c).toArray:=by
   rw[fk,aw,<- aF];unfold madeCells;exact Ke z (by omega) c
  rw[bP]
 ·have bq:=dO.alloc (.cells (ev z c).toArray e)
  have ar:=List.pairwise_cons.1 bq.apart;refine⟨bq.below,bq.base,fun ds jI=>?_,List.Pairwise.cons (fun ds jI b cv=>ar.1 ds jI b (by simpa [bd.has] using cv)) ar.2⟩
  rcases List.mem_cons.1 jI with rfl | jI
  ·refine⟨by rw[wY,aF],.inr ⟨w.heap.size,_,(0,0),rfl,dO.fresh,heap_alloc_new w _,.inl rfl,Tu,by unfold maxLen; omega,by simp[wY,aF],?_⟩⟩
   have:ev z c=ev z m++ev z (c - m):=by
    unfold ev;rw[<- List.flatten_append,List.replicate_append_replicate]
    congr 2
    omega
   show(ev z c).take _=_;rw[this,List.take_left' (by rw[wY,aF])]
  ·exact bq.ok ds (List.mem_cons_of_mem _ jI)
def uQ:Option aR->aR->aR
 | some (.ah (.gO h)),.ah _=>.gO h
 | _,g=>g
theorem Tv(pW:Option aR) (g:aR):(uQ pW g).size=g.size/\(uQ pW g).ev=g.ev:=by
 unfold uQ
 split<;>exact⟨rfl,rfl⟩
def xd(X:bl) (n:Nat) (st:aK) (t:TypeId) (x y:bf) (d:Nat):Option (Bool×aK):=
 match X.tt.find t with
 | some ⟨⟨.slice e,_,_,_⟩,pW⟩=>match X.tt.find e with
  | some ⟨⟨_,_,gl,_⟩,some g⟩=>match x,y with
   | .c (.val (.int _ hV)),.c (.val (.int _ hn))=>match newRow n st d e (uQ pW g) (List.replicate hV.toNat (uQ pW g).zero) (some hn.toNat)with
    | some st'=>some (decide (0<=hV)&&decide (hV<=hn)&&e1 gl hn,st')
    | none=>none
   | _,_=>none
  | _=>none
 | _=>none
theorem Tw(av:X.tt.ok X.P) {t:TypeId} {x y:Operand} {g g' c:Bool} {fa dv:bf} {st':aK} (az:o.op=.makeSlice t x y) (dG:o.guard=none) (ef:o.dst=some d) (ao:bj X st.L x=some (g,fa)) (aM:g=true) (aV:bj X st.L y=some (g',dv)) (fD:g'=true)
  (ai:xd X n st t fa dv d=some (c,st')) (aa:c=true):sD X n st o st':=by
 intro R W aD ks env B ak H a w ops KK h bT;obtain⟨vx,gG,jM⟩:=h.aB ao aM;obtain⟨vy,fm,iq⟩:=h.aB aV fD;unfold xd at ai
 split at ai
 ·rename_i e s1 s2 Et s4 aA
  split at ai
  ·rename_i aG cx gl iF g cK
   split at ai
   ·rename_i k hV k' hn
    split at ai
    ·rename_i fy kf
     cases ai;simp only[Bool.and_eq_true,decide_eq_true_eq]at aa;obtain⟨⟨p5,p6⟩,lW⟩:=aa;obtain⟨lW,Eu⟩:=(z1 (by omega)).1 lW;unfold Go.Proofs.YtcheedjfedcbpaaGreatDoor.newRow at kf
     split at kf
     ·rename_i ax
      cases kf;rw[show vx=_ from jM]at gG;rw[show vy=_ from iq]at fm;obtain⟨c3,dy,hO⟩:=(bY.get av cK).g g rfl;obtain⟨T,ca,J,aw⟩:=lT (bY.get av aA).bh (bY.get av cK).bh;dsimp only at c3 dy aw;obtain⟨jN,eA⟩:=Tv s4 g;rw[<- jN]at c3 hO;rw[<- eA]at dy
      clear jN eA
      generalize uQ s4 g=g at c3 dy hO bT ⊢
      have xc:g.ev.length=cx:=by rw[<- c3]; exact bt.length (bt.ev (B:=B) (w:=ak) g)
      obtain⟨dw,ez⟩:=KW (i':=⟨aG,cx,gl,iF⟩) h.aJ (bY.get av aA).bh.1 (bY.get av cK).bh (z:=g.ev) (by rw[<- dy]) xc (by rw[<- c3]; exact hO) (k:=k) (k':=k') (m:=hV.toNat) (c:=hn.toNat) (by omega) (by
       have:((gl * hn.toNat:Nat):Int)=(gl:Int) * hn:=by rw[Int.natCast_mul,Int.toNat_of_nonneg (by omega)]
       show gl * hn.toNat<=_;omega) (by omega)
      rw[Int.toNat_of_nonneg p5,Int.toNat_of_nonneg (by omega)]at dw;refine fT h.bK dG ef (dB ax) (v:=.slice (some ⟨w.heap.size,0,none⟩) hV.toNat hn.toNat) (w':=w.alloc (.cells (ev g.ev hn.toNat).toArray e)) (by simp[execOp,az,h.bK.aB gG,h.bK.aB fm,dw]) fun aQ aI=>?_
      obtain⟨H',kF,db⟩:=h.mF (d:=d) ax (l:=.row (some ⟨w.heap.size,0,none⟩) hn.toNat (List.replicate hV.toNat g.zero).length) (blk:=.row e g (List.replicate hV.toNat g.zero) (some hn.toNat)) (sv:=.c (.ah d)) ez ⟨_,_,_,eH,by rw[List.length_replicate,c3],Flat.ev g _,fun q au=>by cases au; rfl⟩ ⟨_,_,_,eH,by rw[List.length_replicate]⟩ aI;exact bT _ _ _ _ ⟨fun _=>(Below.refl _ _).alloc (Nat.le_refl _) _,fun _ bk=>kF.1 (by simpa [pb,ef] using bk),fun _ bk=>kF.2 (by simpa [re,ef] using bk)⟩ db
     ·cases kf
    ·cases ai
   ·cases ai
  ·cases ai
 ·cases ai
end
end
section
def kH(st:aK) (g:aR):bf->Option (List g.D)
 | .c (.val (.slice none 0 0))=>some []
 | .c (.a1 g' l _)=>match decEq g' g with
  | isTrue h=>some (h ▸ l)
  | isFalse _=>none
 | .c (.ah id)=>match aS st.H id with
  | some (.row _ g' l _)=>match decEq g' g with
   | isTrue h=>some (h ▸ l)
   | isFalse _=>none
  | _=>none
 | _=>none
def cM(gl k:Nat):Bool:=decide (k * gl<=140737488355328)&&decide (k<=140737488355328)
def xe(X:bl) (n:Nat) (st:aK) (t:TypeId) (x y:bf) (d:Nat):Option (Bool×aK):=
 match X.tt.find t with
 | some ⟨⟨.slice e,_,_,_⟩,_⟩=>match X.tt.find e with
  | some ⟨⟨_,cx,gl,_⟩,some ge⟩=>match x with
   | .c (.ah id)=>match aS st.H id with
    | some (.row cv g l _)=>match Nat.blt d n&&Nat.blt id hx,Nat.beq cv e,Nat.beq g.size cx,kH st g y with
     | true,true,true,some bV=>some (cM gl (l.length+bV.length),⟨(d,.c (.ah id)) :: eN id .dead st.L,(id,.row e g (l++bV) none) :: du id .dead st.H⟩)
     | _,_,_,_=>none
    | _=>none
   | .c (.val (.slice none 0 0))=>match kH st ge y with
    | some bV=>match newRow n st d e ge bV none with
     | some st'=>some (cM gl bV.length,st')
     | none=>none
    | none=>none
   | .c (.a1 g l (some c))=>match Nat.beq g.size cx,kH st g y with
    | true,some bV=>match newRow n st d e g (l++bV) none with
     | some st'=>some (cM gl (l.length+bV.length)&&decide (c=l.length)&&decide (0 < l.length)&&decide (0 < bV.length),st')
     | none=>none
    | _,_=>none
   | _=>none
  | _=>none
 | _=>none
section
variable {X:bl} {R:Nat->Prop} {W:World} {aD:e5} {n:Nat} {ks:List Nat} {env:Nat->Loc} {B:Nat->Prop} {ak:World} {H:List bd} {st:aK} {a aQ:Act} {w w':World} {o:Oper} {d:Nat}
theorem mB.nI{A:Option Addr} {m size:Nat} {xs:List Value} (aH:mB B ak A m size xs) (al:bA (fun k=>R k\/B k) ak H w):Reads w A m size xs:=by
 refine⟨aH.1.1,fun hm=>?_⟩;obtain⟨b,p,e,aa⟩:=aH.1.2 hm;exact⟨b,p,e,fun j u hu=>z7 (aH.2 b p hm e) (aa j u hu) al⟩
theorem pe(h:bB X R W aD n ks env B ak H st a w) {g:aR} {y:bf} {l:List g.D} {v:Value} (al:kH st g y=some l) (aH:dP env B ak y v):∃ A c xs,v=.slice A l.length c/\Flat (bt B ak g) l xs/\Reads w A l.length g.size xs:=by
 unfold kH at al
 split at al
 ·cases al
  exact⟨none,0,[],aH,rfl,Reads.nil _ _ _⟩
 ·split at al
  ·rename_i aM _
   subst aM;cases al;obtain⟨A,c,xs,rfl,_,_,_,cu,gV⟩:=aH;exact⟨A,c,xs,rfl,cu,gV.nI h.aJ⟩
  ·cases al
 ·split at al
  ·rename_i bO
   split at al
   ·rename_i aM _
    subst aM;cases al;obtain⟨A,c,m,he,rfl⟩:=aH;obtain⟨ds,K,⟨cj,k',xs,cG,rfl,cu,_⟩,dQ⟩:=h.heap.fG bO;rw[he]at cG;cases cG;exact⟨A,c,xs,rfl,cu,Reads.zW h.aJ dQ.more.mem⟩
   ·cases al
  ·cases al
 ·cases al
theorem Tx(av:X.tt.ok X.P) {t:TypeId} {x y:Operand} {g g' c:Bool} {fa dv:bf} {st':aK} (az:o.op=.call ⟨.builtin .append,⟨[x,y]⟩,⟨[t,t]⟩⟩) (dG:o.guard=none) (ef:o.dst=some d) (ao:bj X st.L x=some (g,fa)) (aM:g=true) (aV:bj X st.L y=some (g',dv)) (fD:g'=true)
  (ai:xe X n st t fa dv d=some (c,st')) (aa:c=true):sD X n st o st':=by
 intro R W aD ks env B ak H a w ops KK h bT;obtain⟨vx,gG,jM⟩:=h.aB ao aM;obtain⟨vy,fm,iq⟩:=h.aB aV fD;unfold xe at ai
 split at ai
 ·rename_i e s1 s2 Et s4 aA
  split at ai
  ·rename_i aG cx gl iF ge cK
   obtain⟨c3,dy,hO⟩:=(bY.get av cK).g ge rfl;obtain⟨T,ca,J,aw⟩:=lT (bY.get av aA).bh (bY.get av cK).bh;dsimp only at c3 dy aw;have mA:iF.cells.size=cx:=by
    have:iF.cells.toList.length=cx:=by rw[dy,<- c3]; exact bt.length (bt.ev (B:=B) (w:=ak) ge)
    simpa using this
   split at ai
   ·rename_i id
    split at ai
    ·rename_i cv g l cap bO
     split at ai
     ·rename_i bV kg he cQ k4
      cases ai;simp only[Bool.and_eq_true]at kg;obtain⟨ax,p9⟩:=kg;have cG:=Nat.eq_of_beq_eq_true he;subst cG;have fC:=Nat.eq_of_beq_eq_true cQ;simp only[cM,Bool.and_eq_true,decide_eq_true_eq]at aa;obtain⟨c6,cz,fL,rfl,hW,gH⟩:=pe h k4 iq;obtain⟨A,c,m,hX,rfl⟩:=jM;obtain⟨ds,K,⟨cj,k',xs,k5,rfl,cu,_⟩,dQ,lZ⟩:=h.Ai (d:=d) (b':=.row cv g (l++bV) none) bO (fun q ar=>by
       obtain⟨_,aF,aW⟩:=h.dj _ _ ar;rw[hX]at aF
       rcases aW with⟨b,aW⟩ | aW
       ·rw[<- aF]at aW; cases aW
       ·have:=dB p9; omega)
      rw[hX]at k5;cases k5;rw[fC]at dQ gH;refine zS h.sym az ⟨dG,ef⟩ ax ca J rfl aw (by rw[<- c3]; exact Nat.ble_eq_true_of_le hO) mA gG fm dQ gH (Flat.h8 (fun _ _=>bt.h8) hW) aa.1 aa.2 fun cj c' aQ w' cS=>?_
      obtain⟨H',kF,db⟩:=lZ (.row cj c' (l.length+bV.length)) _ aQ w' (.c (.ah id)) _ ⟨cj,c',xs++fL,by rw[eH,List.length_append],by rw[List.length_append],cu.append hW,fun q au=>by cases au⟩ ⟨cj,c',_,eH,rfl⟩ (by rw[fC]; exact cS.aJ) cS.st;exact bT _ _ _ _ ⟨fun h=>(by rw[az]at h; cases h),fun _ _ c aa ju=>kF (fun b=>by rw[hX]; simp) c aa ju (fun e=>by rw[e]at ju; cases ju),fun h=>(by rw[az]at h; cases h)⟩ db
     ·cases ai
    ·cases ai
   ·split at ai
    ·rename_i bV k4
     split at ai
     ·rename_i fy kf
      cases ai;simp only[cM,Bool.and_eq_true,decide_eq_true_eq]at aa;unfold Go.Proofs.YtcheedjfedcbpaaGreatDoor.newRow at kf
      split at kf
      ·rename_i ax
       cases kf;obtain⟨c6,cz,fL,rfl,hW,gH⟩:=pe h k4 iq;rw[show vx=_ from jM]at gG;rw[c3]at gH;have sF:Sym n (jL ks aD) (gi a) (fun k=>R k\/B k) ak (.row none 0 e cx 0 [] :: (H++ks.map c7)) a w:=⟨h.bK,h.aJ.o6 e cx⟩
       refine zS sF az ⟨dG,ef⟩ ax ca J rfl aw (by rw[<- c3]; exact Nat.ble_eq_true_of_le hO) mA gG fm uG gH (Flat.h8 (fun _ _=>bt.h8) hW) (by rw[Nat.zero_add]; exact aa.1) (by rw[Nat.zero_add]; exact aa.2) fun cj c' aQ w' cS=>?_
       rw[Nat.zero_add,List.nil_append,<- c3]at cS;obtain⟨H',kF,db⟩:=h.mF (d:=d) ax (l:=.row cj c' bV.length) (blk:=.row e ge bV none) (sv:=.c (.ah d)) cS.aJ ⟨_,_,_,eH,rfl,hW,fun q au=>by cases au⟩ ⟨_,_,_,eH,rfl⟩ cS.st;exact bT _ _ _ _ ⟨fun h=>(by rw[az]at h; cases h),fun _ bk=>kF.1 (by simpa [pb,ef] using bk),fun h=>(by rw[az]at h; cases h)⟩ db
      ·cases kf
     ·cases ai
    ·cases ai
   ·rename_i g l cc
    split at ai
    ·rename_i bV cQ k4
     split at ai
     ·rename_i fy kf
      cases ai;simp only[cM,Bool.and_eq_true,decide_eq_true_eq]at aa;obtain⟨⟨⟨lS,il⟩,KX⟩,KY⟩:=aa;unfold Go.Proofs.YtcheedjfedcbpaaGreatDoor.newRow at kf
      split at kf
      ·rename_i ax
       cases kf;have fC:=Nat.eq_of_beq_eq_true cQ;obtain⟨c6,cz,fL,rfl,hW,gH⟩:=pe h k4 iq;obtain⟨A,c,xs,rfl,_,_,ff,cu,gV⟩:=jM;have Aj:=ff _ rfl;have qa:=gV.nI h.aJ;rw[fC]at gH qa;obtain⟨sG,hY,rfl,_⟩:=qa.2 KX;obtain⟨iP,hv,rfl,_⟩:=gH.2 KY;refine SJ h.sym az ⟨dG,ef⟩ ax ca J rfl aw (by rw[<- c3]; exact Nat.ble_eq_true_of_le hO) mA gG fm KX KY qa gH (by omega) lS.1 lS.2 fun kd c' aQ w' cS=>?_
       rw[<- fC]at cS;obtain⟨H',kF,db⟩:=h.mF (d:=d) ax (l:=.row (some ⟨kd,0,none⟩) c' (l++bV).length) (blk:=.row e g (l++bV) none) (sv:=.c (.ah d)) cS.aJ ⟨_,_,_,eH,by rw[List.length_append],cu.append hW,fun q au=>by cases au⟩ ⟨_,_,_,eH,by rw[List.length_append]⟩ cS.st;exact bT _ _ _ _ ⟨fun h=>(by rw[az]at h; cases h),fun _ bk=>kF.1 (by simpa [pb,ef] using bk),fun h=>(by rw[az]at h; cases h)⟩ db
      ·cases kf
     ·cases ai
    ·cases ai
   ·cases ai
  ·cases ai
 ·cases ai
/-! ### Freezing -/
def c8(id:Nat) (st:aK):Option aK:=
 match aS st.H id with
 | some (.row _ g l cap)=>some ⟨eN id (.a1 g l cap) st.L,du id (.a1 g l cap) st.H⟩
 | _=>none
theorem bB.c8(h:bB X R W aD n ks env B ak H st a w) {id:Nat} {st':aK} (aA:c8 id st=some st'):∃ env' B' cy H',bB X R W aD n ks env' B' cy H' st' a w/\(∀ k,B k->B' k)/\da (fun k=>R k\/B k) ak cy/\∀ c∈H,im c=true->c∈H':=by
 unfold Go.Proofs.YtcheedjfedcbpaaGreatDoor.c8 at aA
 split at aA
 ·rename_i t g l cap bO
  cases aA;obtain⟨c0,_,⟨A,k,xf,he,rfl,_,ff⟩,mH⟩:=h.heap.fG bO;have c4:fv B ak (fun q=>B q\/A.map (·.block)=some q) w:=⟨fun q au=>.inl au,fun q au=>h.aJ.below.block q (.inr au)⟩
  obtain⟨c,Y,Z,⟨cj,k',xs,cG,rfl,cu,_⟩,U,ae⟩:=(h.heap.up c4).take bO;rw[he]at cG;cases cG;have jO:bd.row A k t g.size l.length xs∈H++ks.map c7:=by rw[U]; simp
  have e4:eG w (fun k=>R k\/B k) t g.size A k l.length xs:=h.aJ.ok _ jO;have hB:∀ q,A.map (·.block)=some q->¬ (R q\/B q)/\q < w.heap.size:=fun q au=>(h.aJ.ok _ jO).lt au
  have rh:∀ v,dE env (fun q=>B q\/A.map (·.block)=some q) w (.ah id) v->dE env (fun q=>B q\/A.map (·.block)=some q) w (.a1 g l cap) v:=by
   rintro v ⟨cj,c',m,cG,rfl⟩;rw[he]at cG;cases cG;exact⟨A,k,xs,rfl,e4.le.1,e4.le.2,ff,cu,Reads.zW h.aJ jO,fun b p _ e=>.inr (by rw[e]; rfl)⟩
  obtain⟨H2,aw,aF,KZ⟩:=ae env (.a1 g l cap) (fun _ _=>rfl) rh;have jP:=h.aJ.apart;rw[U,List.append_assoc,List.cons_append]at jP;refine⟨env,_,w,H2,⟨h.size,h.defs,fun s u hu=>?_,aF,?_,fun q au=>.inl (h.sub q au),fun q au=>?_,h.dj,h.base.trans ⟨h.aJ.below.os,h.aJ.below.tape,h.aJ.below.output,h.aJ.below.size,fun q au=>h.aJ.below.block q (.inl au)⟩,fun i x ao=>(h.dT i x ao).up c4⟩,fun q au=>.inl au,h.aJ.below,fun c aa ju=>KZ (fun b=>by rw[he]; simp) c ?_ ju⟩
  ·obtain⟨hz,hA,rfl⟩:=lU hu
   obtain⟨eO,aW,bC⟩:=h.has s hz hA;exact⟨eO,aW,ey.sub (fun _ _=>rfl) rh (bC.up c4)⟩
  ·have al:bA (fun k=>R k\/B k) ak (H2++ks.map c7) w:=by
    have aW:=h.aJ;rw[U]at aW;have ar:(Y++bd.row A k t g.size l.length xs :: Z++ks.map c7).Perm (bd.row A k t g.size l.length xs :: (Y++Z++ks.map c7)):=by
     simp only[List.append_assoc,List.cons_append];exact List.perm_middle
    exact(aW.perm ar).er (((aw.append_right _)).cons _)
   refine⟨da.refl _ _,fun q au=>?_,fun c aa=>(al.ok c aa).base fun b ai cI=>?_,al.apart⟩
   ·rcases au with au | au | au
    ·exact h.aJ.base q (.inl au)
    ·exact h.aJ.base q (.inr au)
    ·exact(hB q au).2
   ·rcases cI with cI | cI | cI
    ·exact((al.ok c aa).lt ai).1 (.inl cI)
    ·exact((al.ok c aa).lt ai).1 (.inr cI)
    ·have h6:c∈Y++(Z++ks.map c7):=by
      rcases List.mem_append.1 aa with aa | aa
      ·have:=aw.subset aa
       rcases List.mem_append.1 this with bC | bC
       ·exact List.mem_append_left _ bC
       ·exact List.mem_append_right _ (List.mem_append_left _ bC)
      ·exact List.mem_append_right _ (List.mem_append_right _ aa)
     rw[List.pairwise_append,List.pairwise_cons]at jP;obtain⟨_,⟨db,_⟩,hN⟩:=jP
     rcases List.mem_append.1 h6 with bC | bC
     ·exact hN c bC _ List.mem_cons_self b ai cI
     ·exact db c bC b cI ai
  ·rcases au with au | au
   ·exact(h.new q au).imp_right fun aN=>⟨aN.1,aN.2.dY (h.aJ.below.block q (.inr au))⟩
   ·exact .inr ⟨fun fV=>(hB q au).1 (.inl fV),(h.aJ.ok _ jO).cells rfl au⟩
  ·rw[U]at aa
   rcases List.mem_append.1 aa with aa | aa
   ·exact List.mem_append_left _ aa
   ·rcases List.mem_cons.1 aa with aa | aa
    ·rw[aa]at ju; cases ju
    ·exact List.mem_append_right _ aa
 ·cases aA
/-! ### Forgetting -/
inductive ri (L:cJ):cJ->Prop where
 | nil:ri L []
 | cons {k:Nat} {v:bZ} {dR:cJ} (ab:aS L k=some v) (h:ri L dR):ri L ((k,v) :: dR)
inductive kh (h:bo):bo->Prop where
 | nil:kh h []
 | cons {k:Nat} {b:cw} {aN:bo} (ab:aS h k=some b) (bk:aS aN k=none) (aH:kh h aN):kh h ((k,b) :: aN)
theorem ri.look{L dR:cJ} (h:ri L dR):∀ s v,aS dR s=some v->aS L s=some v:=by
 induction h with
 | nil=>intro s v h; cases h
 | cons ab _ bx=>
  intro s v h;rw[ct]at h
  split at h
  ·rename_i e; subst e; cases h; exact ab
  ·exact bx s v h
def lE(id:Nat):bo->bo
 | []=>[]
 | (k,b) :: r=>match Nat.beq k id with
  | true=>r
  | false=>(k,b) :: lE id r
theorem bp.erase{id:Nat}:∀ {l:bo} {H:List bd} {b:cw},bp env B w l H->aS l id=some b->∃ c H2,ew env B w id b c/\H.Perm (c :: H2)/\bp env B w (lE id l) H2
 | [],_,_,_,h=>by cases h
 | (k,b') :: l,H,b,⟨c,H',e,J,U⟩,h=>by
  rw[ct]at h;subst e
  split at h
  ·rename_i e
   subst e;cases h;refine⟨c,H',J,List.Perm.refl _,?_⟩;unfold lE;rw[Nat.beq_refl];exact U
  ·rename_i e
   obtain⟨c',H2,ae,aw,aF⟩:=bp.erase U h;have ab:Nat.beq k id=false:=by
    cases ai:Nat.beq k id with
    | false=>rfl
    | true=>exact absurd (Nat.eq_of_beq_eq_true ai).symm e
   refine⟨c',c :: H2,ae,(List.Perm.cons _ aw).trans (List.Perm.swap _ _ _),?_⟩;unfold lE;rw[ab];exact⟨c,H2,rfl,J,aF⟩
theorem K0{id k:Nat} (ab:k≠id):∀ {l:bo},aS (lE id l) k=aS l k
 | []=>rfl
 | (j,b) :: l=>by
  unfold lE
  split
  ·rename_i h
   have:j=id:=Nat.eq_of_beq_eq_true h
   subst this;rw[ct,if_neg ab]
  ·rw[ct,ct,K0 ab]
theorem kh.Ev{l l':bo} (al:kh l l'):∀ {H:List bd},bp env B w l H->∃ H' Y,H.Perm (H'++Y)/\bp env B w l' H':=by
 have key:∀ {l l':bo},(∀ k b,aS l' k=some b->aS l k=some b)->(∀ (p:Nat×cw) (Y Z:bo),l'=Y++p :: Z->aS Z p.1=none)->∀ {H:List bd},bp env B w l H->∃ H' Y,H.Perm (H'++Y)/\bp env B w l' H':=by
  intro l l'
  induction l' generalizing l with
  | nil=>intro _ _ H h; exact⟨[],H,List.Perm.refl _,rfl⟩
  | cons p r bx=>
   obtain⟨k,b⟩:=p;intro J U H h;have ab:=J k b (by rw[ct,if_pos rfl]);have bk:=U (k,b) [] r rfl;obtain⟨c,H2,ae,aw,aF⟩:=h.erase ab;obtain⟨H',Y,aW,bC⟩:=bx (l:=lE k l) (fun j b' aX=>by
    have cL:j≠k:=fun e=>by subst e; rw[bk]at aX; cases aX
    rw[K0 cL];exact J j b' (by rw[ct,if_neg cL]; exact aX)) (fun p Y Z e=>U p ((k,b) :: Y) Z (by rw[e]; rfl)) aF
   exact⟨c :: H',Y,aw.trans (List.Perm.cons _ aW),c,H',rfl,ae,bC⟩
 intro H h;refine key (l:=l) (l':=l') ?_ ?_ h
 ·clear h
  induction al with
  | nil=>intro k b h; cases h
  | cons ab _ _ bx=>
   intro j b' h;rw[ct]at h
   split at h
   ·rename_i e; subst e; cases h; exact ab
   ·exact bx j b' h
 ·clear h
  induction al with
  | nil=>intro p Y Z e; cases Y<;>cases e
  | cons _ bk _ bx=>
   intro p Y Z e;cases Y with
   | nil=>cases e; exact bk
   | cons q Y=>cases e; exact bx p Y Z rfl
theorem bB.er(h:bB X R W aD n ks env B ak H st a w) {st':aK} (eF:ri st.L st'.L) (dO:kh st.H st'.H):∃ H',bB X R W aD n ks env B ak H' st' a w:=by
 obtain⟨H',Y,J,U⟩:=dO.Ev h.heap;refine⟨H',h.size,h.defs,fun s u hu=>h.has s u (eF.look s u hu),U,?_,h.sub,h.new,h.dj,h.base,h.dT⟩;have ar:(H++ks.map c7).Perm ((H'++ks.map c7)++Y):=by
  refine(J.append_right _).trans ?_;rw[List.append_assoc,List.append_assoc];exact(List.perm_append_comm).append_left _
 exact(h.aJ.perm ar).er (List.sublist_append_left _ _)
theorem bB.o6(h:bB X R W aD n ks env B ak H st a w) {s id:Nat} {t:TypeId} {g:aR} (hid:∀ q,¬ aD.p id q) (al:aS st.L s=some (.c (.val (.slice none 0 0)))):∃ env' H',bB X R W aD n ks env' B ak H' ⟨(s,.c (.ah id)) :: eN id .dead st.L,(id,.row t g [] none) :: du id .dead st.H⟩ a w:=by
 obtain⟨H2,J,U⟩:=h.heap.del (z:=.dead) (hU (env:=env) (id:=id) (l:=.row none 0 0)) (fun _ _=>trivial);obtain⟨v,ae,aw⟩:=h.has _ _ al;refine⟨iE env id (.row none 0 0),.row none 0 t g.size 0 [] :: H2,h.size,h.defs,fun q u hu=>?_,⟨_,H2,rfl,⟨none,0,[],eH,rfl,rfl,fun _ au=>by cases au⟩,U⟩,(h.aJ.o6 t g.size).er ((J.append_right _).cons_cons _),h.sub,h.new,pc h.dj hid,h.base,h.dT⟩;rw[ct]at hu
 split at hu
 ·rename_i e; subst e; cases hu; exact⟨v,ae,none,0,0,eH,aw⟩
 ·obtain⟨hz,hA,rfl⟩:=lU hu
  obtain⟨eO,aW,bC⟩:=h.has q hz hA;exact⟨eO,aW,ey.sub (z:=.dead) hU (fun _ _=>trivial) bC⟩
end
end
section
inductive K1 where
 | ok (c:Bool) (st:aK)
 | stop
def xg(X:bl) (n:Nat) (st:aK) (d:Option Nat):Op->Option (Bool×aK)
 | .alloc t=>match d,X.tt.find t with
  | some d,some bg=>rf X n st t d (q9 bg.bh.zero.cells.toList)
  | _,_=>none
 | .box t u=>match d,bj X st.L u with
  | some d,some (g,x)=>match lX x.cells,rf X n st t d x.cells with
   | true,some (c,st')=>some (g&&c,st')
   | _,_=>none
  | _,_=>none
 | .store t u v=>match d,bj X st.L u,bj X st.L v with
  | none,some (g,x),some (g',y)=>match w8 X st t x y with
   | some (c,st')=>some (g&&g'&&c,st')
   | none=>none
  | _,_,_=>none
 | .buildSlice t N ps=>match d with
  | some d=>xb X n st t N ps.toList d
  | none=>none
 | .makeSlice t u v=>match d,bj X st.L u,bj X st.L v with
  | some d,some (g,x),some (g',y)=>match xd X n st t x y d with
   | some (c,st')=>some (g&&g'&&c,st')
   | none=>none
  | _,_,_=>none
 | .call ⟨.builtin .append,⟨[u,v]⟩,⟨[t,bR]⟩⟩=>match d,Nat.beq t bR,bj X st.L u,bj X st.L v with
  | some d,true,some (g,x),some (g',y)=>match xe X n st t x y d with
   | some (c,st')=>some (g&&g'&&c,st')
   | none=>none
  | _,_,_,_=>none
 | _=>none
def uR(X:bl) (n:Nat) (L:cJ) (H:bo) (o:Oper) (g:Bool):K1:=
 match sB X ⟨L,H⟩ o.op,o.dst with
 | some (c,bm),some d=>match Nat.blt d n with
  | true=>.ok (!g || c) ⟨(d,.may g bm) :: L,H⟩
  | false=>.stop
 | _,_=>.stop
def Ak(L:cJ):Op->Option (List bf)
 | .move (.tmp s)=>match aS L s with
  | some (.cW xs)=>some xs
  | _=>none
 | .assign (.tmp s)=>match aS L s with
  | some (.cW xs)=>some xs
  | _=>none
 | _=>none
def ni(X:bl) (n:Nat) (cq:List (Option Nat)):aK->Oper->K1
 | ⟨L,H⟩,o=>match o.guard with
  | none=>match sB X ⟨L,H⟩ o.op with
   | some (c,bm)=>match o.dst with
    | some d=>match Nat.blt d n with
     | true=>.ok c ⟨(d,.a bm) :: L,H⟩
     | false=>.stop
    | none=>.stop
   | none=>match Ak L o.op with
    | some xs=>match o.dst with
     | some d=>match Nat.blt d n with
      | true=>.ok true ⟨(d,.cW xs) :: L,H⟩
      | false=>.stop
     | none=>.stop
    | none=>match xg X n ⟨L,H⟩ o.dst o.op with
     | some (c,st')=>.ok c st'
     | none=>.stop
  | some (j,want)=>match nth cq j with
   | some (some s)=>match aS L s,want with
    | some (.a (.c (.val (.bool b)))),true=>uR X n L H o b
    | some (.a (.c (.val (.bool b)))),false=>uR X n L H o (!b)
    | some (.may g (.c (.val (.bool b)))),true=>uR X n L H o (g&&b)
    | some (.may g (.c (.val (.bool b)))),false=>uR X n L H o (g&&!b)
    | _,_=>.stop
   | _=>.stop
def ed(l:List Oper):List (Option Nat):=l.map (·.dst)
section
variable {X:bl} {R:Nat->Prop} {W:World} {aD:e5} {n:Nat} {ks:List Nat} {env:Nat->Loc} {B:Nat->Prop} {ak:World} {H:List bd} {st st':aK} {a aQ:Act} {w w':World} {o:Oper} {d:Nat}
theorem Ty(av:X.tt.ok X.P) {c:Bool} (dG:o.guard=none) (ai:xg X n st o.dst o.op=some (c,st')) (aa:c=true):sD X n st o st':=by
 unfold xg at ai
 split at ai
 ·rename_i t az
  split at ai
  ·rename_i d bg ax cK
   exact Th av az dG ax cK ai
  ·cases ai
 ·rename_i t u az
  split at ai
  ·rename_i d g x ax hu
   split at ai
   ·rename_i c' fy ag U
    cases ai;simp only[Bool.and_eq_true]at aa;exact Tg az dG ax hu aa.1 ag U
   ·cases ai
  ·cases ai
 ·rename_i t u v az
  split at ai
  ·rename_i g x g' y ax hu aE
   split at ai
   ·rename_i c' fy U
    cases ai;simp only[Bool.and_eq_true]at aa;exact Tj av az dG ax hu aa.1.1 aE aa.1.2 U aa.2
   ·cases ai
  ·cases ai
 ·rename_i t N ps az
  split at ai
  ·rename_i d ax
   exact Tt av az dG ax ai aa
  ·cases ai
 ·rename_i t u v az
  split at ai
  ·rename_i d g x g' y ax hu aE
   split at ai
   ·rename_i c' fy U
    cases ai;simp only[Bool.and_eq_true]at aa;exact Tw av az dG ax hu aa.1.1 aE aa.1.2 U aa.2
   ·cases ai
  ·cases ai
 ·rename_i u v t bR az
  split at ai
  ·rename_i d g x g' y ax aZ hu aE
   split at ai
   ·rename_i c' fy U
    cases ai;simp only[Bool.and_eq_true]at aa;have xh:=Nat.eq_of_beq_eq_true aZ;subst xh;intro R W aD ks env B ak H a w ops KK h bT;exact Tx av az dG ax hu aa.1.1 aE aa.1.2 U aa.2 ops KK h bT
   ·cases ai
  ·cases ai
 ·cases ai
theorem Tz(h:bB X R W aD n ks env B ak H st a w) {ops:Array Oper} {KK:Act->World->Prop} {bm:bf} {g:Bool} (ar:g=true->gU X st o bm) (hw:Region.wanted o (yielded ops a.tmps)=g) (ef:o.dst=some d) (ax:Nat.blt d n=true)
  (bT:∀ aQ w' env' H',Ae o st H w H' w'->bB X R W aD n ks env' B ak H' ⟨(d,.may g bm) :: st.L,st.H⟩ aQ w'->KK aQ w'):e3 X.P ops o KK a w:=by
 have put:∀ v,c9 n (jL ks aD) ((d,v) :: gi a) (a.put o.dst v):=fun v=>by rw[ef]; exact h.bK.put d v (dB ax)
 cases g with
 | true=>
  obtain⟨v,J,U⟩:=ar rfl h;exact .inl ⟨hw,.inl ⟨v,w,U w (fun _=>h.aJ),bT _ _ _ _ ⟨fun _=>Below.refl _ _,fun _ _ c aa _=>aa,fun _ _ c aa=>aa⟩ (h.set ⟨fun _=>J,fun h=>by cases h⟩ (put v))⟩⟩
 | false=>exact .inr ⟨hw,bT _ _ _ _ ⟨fun _=>Below.refl _ _,fun _ _ c aa _=>aa,fun _ _ c aa=>aa⟩ (h.set ⟨(fun h=>by cases h),fun _=>rfl⟩ (put undef))⟩
theorem Ew{α β:Type} {f:α->β}:∀ {l:List α} {k:Nat} {y:β},nth (l.map f) k=some y->∃ x,l[k]?=some x/\y=f x
 | [],_,_,h=>by cases h
 | x :: _,0,_,h=>by cases h; exact⟨x,rfl,rfl⟩
 | _ :: r,k+1,_,h=>by obtain⟨x,J,U⟩:=Ew (l:=r) h; exact⟨x,by rw[List.getElem?_cons_succ]; exact J,U⟩
theorem Al(av:X.tt.ok X.P) {ops:Array Oper} {c g:Bool} (al:uR X n st.L st.H o g=.ok c st') (aa:c=true) (h:bB X R W aD n ks env B ak H st a w) (hw:Region.wanted o (yielded ops a.tmps)=g) {KK:Act->World->Prop}
  (bT:∀ aQ w' env' H',Ae o st H w H' w'->bB X R W aD n ks env' B ak H' st' aQ w'->KK aQ w'):e3 X.P ops o KK a w:=by
 unfold uR at al
 split at al
 ·rename_i c' bm d ar ef
  split at al
  ·rename_i ax
   cases al;exact Tz h (g:=g) (fun aM=>Ac (st:=st) av ar (by rw[aM]at aa; simpa using aa)) hw ef ax bT
  ·cases al
 ·cases al
theorem K2(h:bB X R W aD n ks env B ak H st a w) {xs:List bf} (hm:Ak st.L o.op=some xs):∃ v,ey env B ak (.cW xs) v/\∀ w,(execOp a.eval o).run X.P w=.ok (.value v) w:=by
 unfold Ak at hm
 split at hm
 ·rename_i s az
  split at hm
  ·rename_i bJ bO
   cases hm;obtain⟨v,J,U⟩:=h.has _ _ bO;exact⟨v,U,JY h.bK az (hK J)⟩
  ·cases hm
 ·rename_i s az
  split at hm
  ·rename_i bJ bO
   cases hm;obtain⟨v,J,U⟩:=h.has _ _ bO;exact⟨v,U,JZ h.bK az (hK J)⟩
  ·cases hm
 ·cases hm
theorem sH(av:X.tt.ok X.P) {l:List Oper} {c:Bool} (al:ni X n (ed l) st o=.ok c st') (aa:c=true) (h:bB X R W aD n ks env B ak H st a w) {KK:Act->World->Prop}
  (bT:∀ aQ w' env' H',Ae o st H w H' w'->bB X R W aD n ks env' B ak H' st' aQ w'->KK aQ w'):e3 X.P l.toArray o KK a w:=by
 obtain⟨L,rj⟩:=st;simp only[ni]at al
 split at al
 ·rename_i dG
  split at al
  ·rename_i c' bm ar
   split at al
   ·rename_i d ef
    split at al
    ·rename_i ax
     cases al;obtain⟨v,J,U⟩:=Ac av ar aa h;exact fT h.bK dG ef (dB ax) (U w (fun _=>h.aJ)) fun aQ aI=>bT _ _ _ _ ⟨fun _=>Below.refl _ _,fun _ _ c aa _=>aa,fun _ _ c aa=>aa⟩ (h.set J aI)
    ·cases al
   ·cases al
  ·split at al
   ·rename_i xs hm
    split at al
    ·rename_i d ef
     split at al
     ·rename_i ax
      cases al;obtain⟨v,J,U⟩:=K2 h hm;exact fT h.bK dG ef (dB ax) (U w) fun aQ aI=>bT _ _ _ _ ⟨fun _=>Below.refl _ _,fun _ _ c aa _=>aa,fun _ _ c aa=>aa⟩ (h.set J aI)
     ·cases al
    ·cases al
   ·split at al
    ·rename_i c' fy he
     cases al;exact Ty av dG he aa _ _ h bT
    ·cases al
 ·rename_i j want dG
  split at al
  ·rename_i s aX
   obtain⟨fs,ki,rk⟩:=Ew aX;have lV:(l.toArray[j]?).bind (·.dst)=some s:=by simp[ki,<- rk]
   split at al
   ·rename_i b bO
    obtain⟨v,J,U⟩:=h.has _ _ bO;rw[show v=_ from U]at J;refine Al (st:=⟨L,rj⟩) av al aa h ?_ bT;rw[q1 h.sym dG lV (hK J)];cases b<;>rfl
   ·rename_i b bO
    obtain⟨v,J,U⟩:=h.has _ _ bO;rw[show v=_ from U]at J;refine Al (st:=⟨L,rj⟩) av al aa h ?_ bT;rw[q1 h.sym dG lV (hK J)];cases b<;>rfl
   ·rename_i g b bO
    obtain⟨v,J,U,ae⟩:=h.has _ _ bO;refine Al (st:=⟨L,rj⟩) av al aa h ?_ bT;cases g with
    | true=>
     rw[show v=_ from U rfl]at J;rw[q1 h.sym dG lV (hK J)];cases b<;>rfl
    | false=>
     rw[ae rfl]at J;rw[zN h.sym dG lV (hK J)]
     rfl
   ·rename_i g b bO
    obtain⟨v,J,U,ae⟩:=h.has _ _ bO;refine Al (st:=⟨L,rj⟩) av al aa h ?_ bT;cases g with
    | true=>
     rw[show v=_ from U rfl]at J;rw[q1 h.sym dG lV (hK J)];cases b<;>rfl
    | false=>
     rw[ae rfl]at J;rw[zN h.sym dG lV (hK J)]
     rfl
   ·cases al
  ·cases al
end
inductive Out where
 | done (c:Bool) (st:aK)
 | stop (c:Bool) (st:aK) (rest:List Oper)
def lF(X:bl) (n:Nat) (cq:List (Option Nat)):List Oper->Bool->aK->Out
 | [],c,st=>.done c st
 | o :: l,c,st=>match ni X n cq st o with
  | .ok c' st'=>lF X n cq l (c&&c') st'
  | .stop=>.stop c st (o :: l)
def K3(X:bl) (R:Nat->Prop) (W:World) (aD:e5) (M:Bool) (n:Nat) (Q:Exit->aK->Prop):Exit->Act->World->Prop:=fun e a w=>∃ st,Q e st/\kC X R W aD M n st a w
def gm(X:bl) (M:Bool) (n:Nat) (r:Option Nat) (c:Code) (st:aK) (Q:Exit->aK->Prop):Prop:=
 ∀ R W aD a w,kC X R W aD M n st a w->ky r X.P c (K3 X R W aD M n Q) a w
def jy(X:bl) (M:Bool) (n:Nat) (r:Option Nat) (ops:List Oper) (l:List Oper) (st:aK) (Q:Exit->aK->Prop):Prop:=
 ∀ R W aD a w,kC X R W aD M n st a w->pU r X.P ops.toArray (K3 X R W aD M n Q) l a w
section
variable {X:bl} {M:Bool} {n:Nat} {r:Option Nat} {st st':aK} {Q xi:Exit->aK->Prop} {fe cz c:Code} {ops l l':List Oper}
theorem Ex:∀ {l:List Oper} {c c':Bool} {st st':aK} {cq:List (Option Nat)},lF X n cq l c st=.done c' st'->c'=true->c=true
 | [],c,c',st,st',cq,h,aa=>by cases h; exact aa
 | o :: l,c,c',st,st',cq,h,aa=>by
  simp only[lF]at h
  split at h
  ·have:=Ex h aa
   simp only[Bool.and_eq_true]at this;exact this.1
  ·cases h
theorem K4:∀ {l rest:List Oper} {c c':Bool} {st st':aK} {cq:List (Option Nat)},lF X n cq l c st=.stop c' st' rest->c'=true->c=true
 | [],rest,c,c',st,st',cq,h,aa=>by cases h
 | o :: l,rest,c,c',st,st',cq,h,aa=>by
  simp only[lF]at h
  split at h
  ·have:=K4 h aa
   simp only[Bool.and_eq_true]at this;exact this.1
  ·cases h; exact aa
theorem K5(av:X.tt.ok X.P):∀ {l:List Oper} {c c':Bool} {st st':aK},lF X n (ed ops) l c st=.done c' st'->c'=true->Q .normal st'->jy X M n r ops l st Q
 | [],c,c',st,st',h,aa,ho=>by
  cases h;intro R W aD a w ad;exact DF ⟨_,ho,ad⟩
 | o :: l,c,c',st,st',h,aa,ho=>by
  simp only[lF]at h
  split at h
  ·rename_i cz fy al
   have U:=Ex h aa;simp only[Bool.and_eq_true]at U;rintro R W aD a w ⟨ks,env,B,ak,H,b2,ad⟩;exact q0 (sH av al U.2 ad fun aQ w' env' H' _ bW=>K5 av h aa ho _ _ _ _ _ ⟨ks,env',B,ak,H',b2,bW⟩)
  ·cases h
theorem K6(av:X.tt.ok X.P):∀ {l rest:List Oper} {c c':Bool} {st st':aK},lF X n (ed ops) l c st=.stop c' st' rest->c'=true->jy X M n r ops rest st' Q->jy X M n r ops l st Q
 | [],rest,c,c',st,st',h,aa,ho=>by cases h
 | o :: l,rest,c,c',st,st',h,aa,ho=>by
  simp only[lF]at h
  split at h
  ·rename_i cz fy al
   have U:=K4 h aa;simp only[Bool.and_eq_true]at U;rintro R W aD a w ⟨ks,env,B,ak,H,b2,ad⟩;exact q0 (sH av al U.2 ad fun aQ w' env' H' _ bW=>K6 av h aa ho _ _ _ _ _ ⟨ks,env',B,ak,H',b2,bW⟩)
  ·cases h; exact ho
theorem k6(av:X.tt.ok X.P) {c':Bool} (h:lF X n (ed ops) l true st=.done c' st') (aa:c'=true) (ho:Q .normal st'):jy X M n r ops l st Q:=K5 av h aa ho
theorem Ey(av:X.tt.ok X.P) {c':Bool} {rest:List Oper} (h:lF X n (ed ops) l true st=.stop c' st' rest) (aa:c'=true) (ho:jy X M n r ops rest st' Q):jy X M n r ops l st Q:=K6 av h aa ho
theorem rl{id:Nat} (h:jy X M n r l l st Q):gm X M n r (.region id l.toArray false) st Q:=fun R W aD a w ad=>DM (h R W aD a w ad)
def K7(X:bl) (M:Bool) (n:Nat) (r:Option Nat) (c:Code) (Q:Exit->aK->Prop):Exit->aK->Prop
 | .normal,st=>gm X M n r c st Q
 | e,st=>Q e st
theorem Ez(h:gm X M n r c st Q) (au:∀ e st,Q e st->xi e st):gm X M n r c st xi:=fun R W aD a w ad=>wpIn_mono (h R W aD a w ad) fun e a w ⟨st,J,U⟩=>⟨st,au e st J,U⟩
theorem ot(h:gm X M n r fe st (K7 X M n r cz Q)):gm X M n r (.seq fe cz) st Q:=fun R W aD a w ad=>by
 refine wpIn_seq (wpIn_mono (h R W aD a w ad) ?_);rintro e a w ⟨st',J,U⟩;cases e with
 | normal=>exact J R W aD a w U
 | _=>exact⟨st',J,U⟩
theorem pf{id:Nat} (h:jy X M n r l l st (K7 X M n r cz Q)):gm X M n r (.seq (.region id l.toArray false) cz) st Q:=ot (rl h)
theorem Am(h:Q .normal st):gm X M n r .skip st Q:=fun R W aD a w ad=>J6 ⟨st,h,ad⟩
theorem K8{id:Nat} (h:Q (.exit id) st):gm X M n r (.exit id) st Q:=fun R W aD a w ad=>DN ⟨st,h,ad⟩
theorem xj(h:Q .ret st):gm X M n r .ret st Q:=fun R W aD a w ad=>R7 ⟨st,h,ad⟩
theorem EA{x:Operand} {g b:Bool} (ao:bj X st.L x=some (g,.c (.val (.bool b)))) (aM:g=true) (J:b=true->gm X M n r fe st Q) (aP:b=false->gm X M n r cz st Q):gm X M n r (.cond x fe cz) st Q:=fun R W aD a w ad=>by
 obtain⟨ks,env,B,ak,H,b2,bW⟩:=ad;obtain⟨v,U,ae⟩:=bW.aB ao aM;rw[show v=_ from ae]at U;exact J8 bW.sym U (fun ai=>J ai R W aD a w ⟨ks,env,B,ak,H,b2,bW⟩) (fun ai=>aP ai R W aD a w ⟨ks,env,B,ak,H,b2,bW⟩)
def K9(id:Nat) (Q:Exit->aK->Prop):Exit->aK->Prop
 | .exit jr,st=>match Nat.beq jr id with
  | true=>Q .normal st
  | false=>Q (.exit jr) st
 | e,st=>Q e st
theorem La{id:Nat} (h:gm X M n r c st (K9 id Q)):gm X M n r (.block id c) st Q:=fun R W aD a w ad=>by
 refine J7 (wpIn_mono (h R W aD a w ad) ?_);rintro e a w ⟨st',J,U⟩;cases e with
 | exit jr=>
  simp only[K9]at J
  split at J
  ·rename_i ai
   have:=Nat.eq_of_beq_eq_true ai
   subst this;exact R8 ⟨st',J,U⟩
  ·rename_i ai
   exact R9 ai ⟨st',J,U⟩
 | _=>exact⟨st',J,U⟩
def cA(X:bl) (n:Nat) (st st':aK):Prop:=∀ R W aD M a w,kC X R W aD M n st a w->kC X R W aD M n st' a w
theorem cA.refl(st:aK):cA X n st st:=fun _ _ _ _ _ _ h=>h
theorem cA.trans{a b c:aK} (h:cA X n a b) (k:cA X n b c):cA X n a c:=fun _ _ _ _ _ _ ad=>k _ _ _ _ _ _ (h _ _ _ _ _ _ ad)
theorem cA.sub(eF:ri st.L st'.L) (dO:kh st.H st'.H):cA X n st st':=fun _ _ _ _ _ _ ⟨ks,env,B,ak,H,b2,ad⟩=>by
 obtain⟨H',h⟩:=ad.er eF dO;exact⟨ks,env,B,ak,H',b2,h⟩
def uS(L:cJ):List Nat->Option cJ
 | []=>some []
 | k :: ks=>match aS L k,uS L ks with
  | some v,some r=>some ((k,v) :: r)
  | _,_=>none
def qb(h:bo):List Nat->Option bo
 | []=>some []
 | k :: ks=>match aS h k,qb h ks with
  | some b,some r=>match aS r k with
   | none=>some ((k,b) :: r)
   | some _=>none
  | _,_=>none
theorem EB{L:cJ}:∀ {ks:List Nat} {dR:cJ},uS L ks=some dR->ri L dR
 | [],_,h=>by cases h; exact .nil
 | k :: ks,dR,h=>by
  unfold uS at h
  split at h
  ·rename_i v r J U
   cases h;exact .cons J (EB U)
  ·cases h
theorem sI{aP:bo}:∀ {ks:List Nat} {aN:bo},qb aP ks=some aN->kh aP aN
 | [],_,h=>by cases h; exact .nil
 | k :: ks,aN,h=>by
  unfold qb at h
  split at h
  ·rename_i b r J U
   split at h
   ·rename_i ae
    cases h;exact .cons J ae (sI U)
   ·cases h
  ·cases h
theorem cA.pick(ks al:List Nat) {dR:cJ} {H':bo} (J:uS st.L ks=some dR) (U:qb st.H al=some H'):cA X n st ⟨dR,H'⟩:=cA.sub (EB J) (sI U)
theorem cA.c8{id:Nat} (h:c8 id st=some st'):cA X n st st':=fun _ _ _ _ _ _ ⟨ks,env,B,ak,H,b2,ad⟩=>by
 obtain⟨env',B',cy,H',h,_⟩:=ad.c8 h;exact⟨ks,env',B',cy,H',b2,h⟩
theorem cA.nil(s id:Nat) (t:TypeId) (g:aR) (hid:Nat.blt id n=true) (al:aS st.L s=some (.c (.val (.slice none 0 0)))):cA X n st ⟨(s,.c (.ah id)) :: eN id .dead st.L,(id,.row t g [] none) :: du id .dead st.H⟩:=fun _ _ _ _ _ _ ⟨ks,env,B,ak,H,b2,ad⟩=>by
 obtain⟨env',H',h⟩:=ad.o6 (s:=s) (id:=id) (t:=t) (g:=g) (fun q ar=>by have J:=(ad.dj _ _ ar).1; have U:=dB hid; omega) al;exact⟨ks,env',B,ak,H',b2,h⟩
theorem EC(hw:cA X n st st') (h:gm X M n r c st' Q):gm X M n r c st Q:=fun R W aD a w ad=>h R W aD a w (hw _ _ _ _ _ _ ad)
def Lb(X:bl) (n:Nat) {α:Type} (I:α->aK) (bI:α->Prop) (m:α->Nat) (x:α) (Q:Exit->aK->Prop):Exit->aK->Prop
 | .normal,st=>∃ y,bI y/\m y < m x/\cA X n st (I y)
 | e,st=>Q e st
theorem TA{α:Type} (I:α->aK) (bI:α->Prop) (m:α->Nat) (kj:α) (aP:bI kj) (hw:cA X n st (I kj)) (aH:∀ x,bI x->gm X M n r c (I x) (Lb X n I bI m x Q)):gm X M n r (.loop c) st Q:=fun R W aD a w ad=>by
 refine J9 (fun x a w=>bI x/\kC X R W aD M n (I x) a w) m kj ⟨aP,hw _ _ _ _ _ _ ad⟩ fun x a w ⟨sJ,ad⟩=>wpIn_mono (aH x sJ R W aD a w ad) ?_
 rintro e a w ⟨st',J,U⟩;cases e with
 | normal=>
  obtain⟨y,ae,aw,aF⟩:=J;exact⟨y,⟨ae,aF _ _ _ _ _ _ U⟩,aw⟩
 | _=>exact⟨st',J,U⟩
theorem TB{α:Type} (An:α->cJ) {Ao:cJ} (fW:α->bo) {Ap:bo} (bI:α->Prop) (m:α->Nat) (kj:α) (aP:bI kj) (aH:∀ x,bI x->gm X M n r c ⟨An x++Ao,fW x++Ap⟩ (Lb X n (fun x=>⟨An x++Ao,fW x++Ap⟩) bI m x Q)):gm X M n r (.loop c) ⟨An kj++Ao,fW kj++Ap⟩ Q:=
 TA (fun x=>⟨An x++Ao,fW x++Ap⟩) bI m kj aP (cA.refl _) aH
end
end
end Go.Proofs.YtcheedjfedcbpaaGreatDoor
