/- Part 1 of 6 of the proof. -/
import Derived.WalkKit
import Derived.OwnWalkIn
import Derived.TacticsInMore
import Derived.OrdersIn
import Derived.RangeFuncCalls
import Derived.Below
import Derived.Laws.AppendOwn
import Derived.Laws.OwnMore
import Derived.Laws.CopyRow
import Derived.Laws.BitsAllLaws
import Derived.OrdersHeld
import Derived.MapKept
import Derived.Laws.StructEq
import Derived.Laws.IdiomCopy
import Derived.Laws.MakeOwn
import Derived.RangeFuncNested
import Derived.RangeFuncLeaves
import Derived.RangeFuncBound
import Derived.Laws.IdiomStrings
import Derived.ProofKit
import Derived.Deep.Slices
set_option linter.all false
set_option maxRecDepth 100000
namespace Go.Proofs.YtcheedjfedcbpaaGreatDoor
open _root_.Array (ext length_toList range)
open _root_.Bool (and_eq_true)
open _root_.Nat (add_assoc add_comm add_mul add_zero beq beq_refl ble ble_eq blt eq_of_beq_eq_true le_of_ble_eq_true le_refl le_trans lt_irrefl min_eq_left mod_lt mul_le_mul_right ne_of_beq_eq_false one_mul zero_add zero_le)
open _root_.List (append_assoc append_nil cons_append drop_take eq_nil_of_length_eq_zero flatMap_cons getElem?_cons_succ getElem?_drop getElem?_eq_getElem getElem?_take length length_append length_cons length_drop length_set length_take lookup_cons map_cons map_nil map_toArray mem_append_left mem_append_right mem_cons_of_mem mem_cons_self nil_append perm_middle replicate size_toArray take_append take_left take_of_length_le take_take take_zero zipIdx_cons)
open Go.RowKit
abbrev eG:=List Bool
abbrev eE:=List Operand
abbrev dV:=List UInt8
abbrev cZ:=List Int
abbrev cl:=List Value
abbrev b6:=List Nat
section
section
def WF(r:Option Nat):Fence:={ Fence.wide with round:=r }
structure df(n:Nat)(D:List Deferred)(L:List (Nat×Value))(a:Act):Prop where
 size:a.tmps.size=n
 defs:a.defers=D
 has:∀s v,L.lookup s=some v->a.tmps[s]?=some v
def aI(L:List (Nat×Value)):Operand->Option Value
 |.tmp s=>L.lookup s
 |.const v=>some v
 |.global g=>some (.pointer (some ⟨g,0,none⟩))
 |.func f=>some (.func (.func f) #[] #[])
def jB(L:List (Nat×Value)):eE->Option cl
 |[]=>some []
 |x::xs=>match aI L x,jB L xs with
  |some v,some l=>some (v::l)
  |_,_=>none
section
variable {n:Nat} {D:List Deferred} {L:List (Nat×Value)} {a:Act}
theorem df.aI(h:df n D L a){x:Operand}{v:Value}(ai:aI L x=some v):a.eval x=v:=by
 cases x with
 |tmp s=>
  have I:=h.has s v ai;show a.tmps.getD s undef=v;rw[Array.getD_eq_getD_getElem?,I];rfl
 |const u=>exact Option.some.inj ai
 |global g=>exact Option.some.inj ai
 |func f=>exact Option.some.inj ai
theorem df.jB(h:df n D L a):∀ {xs:eE} {vs:cl},jB L xs=some vs->xs.map a.eval=vs
 |[],vs,ai=>by cases ai;rfl
 |x::xs,vs,ai=>by
  unfold YtcheedjfedcbpaaGreatDoor.jB at ai;cases I:YtcheedjfedcbpaaGreatDoor.aI L x with
  |none=>rw[I]at ai;cases ai
  |some v=>
   cases J:YtcheedjfedcbpaaGreatDoor.jB L xs with
   |none=>rw[I,J]at ai;cases ai
   |some l=>
    rw[I,J]at ai;cases ai;rw[map_cons,h.aI I,h.jB J]
theorem df.put(h:df n D L a)(d:Nat)(v:Value)(ay:d<n):df n D ((d,v)::L) (a.put (some d) v):=by
 refine⟨?_,h.defs,λs u b=>?_⟩
 ·simpa [Act.put] using h.size
 ·by_cases e:s=d
  ·subst e
   simp at b
   subst b
   simp[Act.put,h.size,ay]
  ·have:(s==d)=false:=by simpa using e
   rw[lookup_cons,this]at b;simp only[Act.put];rw[Array.getElem?_setIfInBounds_ne (λc=>e c.symm)];exact h.has s u b
end
section
variable {r:Option Nat} {P:Program} {ops:Array Oper} {Q:Exit->Act->World->Prop} {o:Oper} {KK:Act->World->Prop}
variable {n:Nat} {D:List Deferred} {L:List (Nat×Value)} {a:Act} {w:World}
abbrev q4(r:Option Nat)(P:Program)(ops:Array Oper)(Q:Exit->Act->World->Prop)(l:List Oper)(a:Act)(w:World):Prop:=wpListIn (WF r) 0 P ops Q l a w
def zY(P:Program)(o:Oper)(a:Act)(w:World)(b:Value->World->Prop):Prop:=
 (∃v w',(execOp a.eval o).run P w=.ok (.value v) w'/\b v w')\/(∃w',(execOp a.eval o).run P w=.ok .skip w'/\b undef w') \/
 (∃f args b5,(execOp a.eval o).run P w=.ok (.enter f args) b5/\Calls P f args b5 λe w'=>∃v,e=.returned v/\b v w')
def fh(P:Program)(ops:Array Oper)(o:Oper)(KK:Act->World->Prop)(a:Act)(w:World):Prop:=
 (Region.wanted o (yielded ops a.tmps)=true/\zY P o a w λv w'=>KK (a.put o.dst v) w')\/(Region.wanted o (yielded ops a.tmps)=false/\KK (a.put o.dst undef) w)
theorem Iy{x:Next}{w':World}(h:(execOp a.eval o).run P w=.ok x w')(ai:∀d,x≠.defer d)(c:Call):o.op≠.defer c:=by
 intro b;simp only[execOp,b,Sem.run_bind]at h;cases aw:(resolve a.eval c o.type).run P w with
 |ok d b5=>
  rw[aw]at h
  simp at h
  exact ai d h.1.symm
 |halt y b5=>rw[aw]at h;simp[Result.andThen]at h
theorem Iz(h:∀c,o.op≠.defer c):o.semAt r a.eval=execOp a.eval o:=by
 cases r with
 |none=>rfl
 |some l=>exact Oper.semAt_some l _ _ h
theorem fh.fenced(h:fh P ops o KK a w) :
  if Region.wanted o (yielded ops a.tmps)=true then Oper.wpIn (WF r) 0 P o a w KK Q else(∀f,o.about P w a.eval=some f->(WF r).fn f)/\KK (a.put o.dst undef) w:=by
 rcases h with⟨hw,h⟩|⟨hw,h⟩
 ·rw[if_pos hw]
  refine⟨λ_ _=>trivial,?_⟩
  rcases h with⟨v,w',aw,aa⟩|⟨w',aw,aa⟩|⟨f,args,b5,aw,U⟩
  ·rw[Iz (Iy aw (λ_ h=>by cases h)),aw];exact aa
  ·rw[Iz (Iy aw (λ_ h=>by cases h)),aw];exact aa
  ·rw[Iz (Iy aw (λ_ h=>by cases h)),aw]
   refine⟨(λh=>by cases h),?_⟩;have b:=(callsIn_wide (n:=0)).2 U;refine CallsIn.mono b ?_;rintro e w' ⟨v,rfl,c⟩;exact c
 ·rw[if_neg (by rw[hw];simp)]
  exact⟨λ_ _=>trivial,h⟩
theorem sn{rest:List Oper}(h:fh P ops o (q4 r P ops Q rest) a w):q4 r P ops Q (o::rest) a w:=fh.fenced h
theorem iD{v:Value}{w':World}{d:Nat}(b:df n D L a)(f:o.guard=none)(e:o.dst=some d)(ay:d<n)(c:(execOp a.eval o).run P w=.ok (.value v) w')(h:∀aX,df n D ((d,v)::L) aX->KK aX w'):fh P ops o KK a w:=
 .inl ⟨by simp[Region.wanted,f],.inl ⟨v,w',c,h _ (by rw[e];exact b.put d v ay)⟩⟩
theorem Dz{w':World}(b:df n D L a)(e:o.guard=none)(d:o.dst=none)(c:(execOp a.eval o).run P w=.ok .skip w')(h:∀aX,df n D L aX->KK aX w'):fh P ops o KK a w:=
 .inl ⟨by simp[Region.wanted,e],.inr (.inl ⟨w',c,h _ (by rw[d];exact b)⟩)⟩
theorem IA(h:Q .normal a w):q4 r P ops Q [] a w:=h
end
end
section
structure bI where
  desc:TypeDesc
  size:Nat
  bytes:Nat
  zero:Value
def bI.ok(P:Program)(t:TypeId)(i:bI):Prop:=
  P.underlying t=some i.desc/\(P.info? t).map (λx=>(x.size,x.bytes,x.zero))=some (i.size,i.bytes,some i.zero)
def h9(P:Program)(T:List (TypeId×bI)):Prop:=∀t i,T.lookup t=some i->bI.ok P t i
theorem h9.nil(P:Program):h9 P []:=λ_ _ h=>by cases h
theorem h9.cons{P:Program}{T:List (TypeId×bI)}{t:TypeId}{i:bI}(h:bI.ok P t i)(c:h9 P T):h9 P ((t,i)::T):=λs j a=>by
  rw[lookup_cons]at a
  by_cases e:(s==t)=true
  · rw[e]at a
    have b:s=t:=by simpa using e
    have d:=Option.some.inj a;subst b;subst d;exact h
  · have f:(s==t)=false:=by simpa using e
    rw[f]at a;exact c s j a
theorem bI.info{P:Program}{t:TypeId}{i:bI}(h:bI.ok P t i):∃x,P.info? t=some x/\x.size=i.size/\x.bytes=i.bytes/\x.zero=some i.zero:=by
  have J:=h.2;cases ai:P.info? t with
  |none=>rw[ai]at J;cases J
  |some x=>
    rw[ai]at J;simp only[Option.map_some,Option.some.injEq,Prod.mk.injEq]at J;exact⟨x,rfl,J.1,J.2.1,J.2.2⟩
def l7:TypeDesc->Bool
  |.struct _ | .array _ _=>true
  |_=>false
section
variable {P:Program} {t:TypeId} {i:bI} (h:bI.ok P t i) (w:World)
include h
theorem bI.zZ:(isAgg t).run P w=.ok (l7 i.desc) w:=by
  have ay:=h.1;unfold isAgg;simp only[Sem.run_bind,run_underlying ay,Result.andThen_ok];cases i.desc<;>simp[l7]
theorem bI.run_sizeOf:(sizeOf t).run P w=.ok i.size w:=by
  obtain⟨x,ai,I,_⟩:=bI.info h
  simp[sizeOf,typeInfo,ai,I]
theorem bI.so:(zeroValue t).run P w=.ok i.zero w:=by
  obtain⟨x,ai,_,_,ag⟩:=bI.info h
  simp[zeroValue,typeInfo,ai,ag]
end
structure c9(B:Nat->Prop)(w w':World):Prop where
  os:w'.os=w.os
  tape:w'.tape=w.tape
  output:w'.output=w.output
  size:w.heap.size<=w'.heap.size
  block:∀k,B k->w'.heap[k]?=w.heap[k]?
theorem c9.refl(B:Nat->Prop)(w:World):c9 B w w:=⟨rfl,rfl,rfl,le_refl _,λ_ _=>rfl⟩
theorem c9.trans{B:Nat->Prop}{a b c:World}(h:c9 B a b)(k:c9 B b c):c9 B a c:=
  ⟨k.os.trans h.os,k.tape.trans h.tape,k.output.trans h.output,le_trans h.size k.size,λi hi=>(k.block i hi).trans (h.block i hi)⟩
theorem c9.cell{B:Nat->Prop}{w w':World}(h:c9 B w w'){p:Addr}(al:B p.block):w'.cell? p=w.cell? p:=World.cell?_of_block (w:=w) (h.block p.block al)
theorem c9.X8{w w':World}{B:Nat->Prop}(h:Below w.heap.size w w')(a:∀k,B k->k<w.heap.size):c9 B w w':=⟨h.os,h.tape,h.output,h.size,λk aa=>h.block k (a k aa)⟩
def fX(w:World)(B:Nat->Prop)(e:TypeId)(size:Nat)(A:Option Addr)(c n:Nat)(xs:cl):Prop:=
  xs.length=n * size/\((A=none/\n=0/\c=0)\/∃g cur a,A=some ⟨g,0,none⟩/\¬B g/\w.heap[g]?=some (.cells cur e a)/\(a.1=a.2\/cur.size<=a.1)/\n<=c/\c<=maxLen/\cur.size=c * size/\cur.toList.take (n * size)=xs)
theorem fX.lt{w:World}{B:Nat->Prop}{e:TypeId}{size c n:Nat}{A:Option Addr}{xs:cl}(h:fX w B e size A c n xs){b:Nat}(ad:A.map (·.block)=some b):¬B b/\b<w.heap.size:=by
  rcases h.2 with⟨rfl,_⟩|⟨g,cur,dN,rfl,aR,b7,_⟩
  · cases ad
  · have:g=b:=Option.some.inj ad
    subst this;exact⟨aR,(Array.getElem?_eq_some_iff.1 b7).1⟩
theorem fX.ee{w w':World}{B:Nat->Prop}{e:TypeId}{size c n:Nat}{A:Option Addr}{xs:cl}(h:fX w B e size A c n xs)(aa:∀b,A.map (·.block)=some b->w'.heap[b]?=w.heap[b]?):fX w' B e size A c n xs:=by
  refine⟨h.1,?_⟩
  rcases h.2 with bc|⟨g,cur,d,rfl,ad,a,rest⟩
  · exact .inl bc
  · exact .inr ⟨g,cur,d,rfl,ad,(aa g rfl).trans a,rest⟩
theorem fX.base{w:World}{B B':Nat->Prop}{e:TypeId}{size c n:Nat}{A:Option Addr}{xs:cl}(h:fX w B e size A c n xs)(a:∀b,A.map (·.block)=some b->¬B' b):fX w B' e size A c n xs:=by
  refine⟨h.1,?_⟩
  rcases h.2 with bc|⟨g,cur,d,rfl,ad,rest⟩
  · exact .inl bc
  · exact .inr ⟨g,cur,d,rfl,a g rfl,rest⟩
structure gO where
  A:Option Addr
  c:Nat
  e:TypeId
  size:Nat
  n:Nat
  xs:cl
def gO.has(r:gO)(b:Nat):Prop:=r.A.map (·.block)=some b
def gO.ok(B:Nat->Prop)(w:World)(r:gO):Prop:=fX w B r.e r.size r.A r.c r.n r.xs
def gO.off(r s:gO):Prop:=∀b,r.has b->¬s.has b
inductive bp where
  |obj (b:Nat) (o:Obj)
  |hF (b:Nat) (cs:cl) (e:TypeId)
  |row (A:Option Addr) (c:Nat) (e:TypeId) (size n:Nat) (xs:cl)
  |tree (rs:List gO)
abbrev c2:=List bp
def bp.has:bp->Nat->Prop
  |.obj b _,k=>some b=some k
  |.hF b _ _,k=>some b=some k
  |.row A _ _ _ _ _,k=>A.map (·.block)=some k
  |.tree a,k=>∃r∈a,r.has k
def bp.ok(B:Nat->Prop)(w:World):bp->Prop
  |.obj b o=>¬B b/\w.heap[b]?=some o
  |.hF b cs e=>¬B b/\w.heap[b]?=some (.cells cs.toArray e)
  |.row A c e size n xs=>fX w B e size A c n xs
  |.tree a=>(∀r∈a,r.ok B w)/\a.Pairwise gO.off
def bp.off(c d:bp):Prop:=∀b,c.has b->¬d.has b
structure bZ(B:Nat->Prop)(ak:World)(H:c2)(w:World):Prop where
  below:c9 B ak w
  base:∀k,B k->k<w.heap.size
  ok:∀c∈H,c.ok B w
  apart:H.Pairwise bp.off
abbrev Ya(W:World)(H:c2)(w:World):Prop:=bZ (λk=>k<W.heap.size) W H w
theorem bp.ok.lt{B:Nat->Prop}{w:World}{c:bp}(h:c.ok B w){b:Nat}(ad:c.has b):¬B b/\b<w.heap.size:=by
  cases c with
  |obj b' o=>
    have:b'=b:=Option.some.inj ad
    subst this;exact⟨h.1,(Array.getElem?_eq_some_iff.1 h.2).1⟩
  |hF b' cs e=>
    have:b'=b:=Option.some.inj ad
    subst this;exact⟨h.1,(Array.getElem?_eq_some_iff.1 h.2).1⟩
  |row A c e size n xs=>exact fX.lt h ad
  |tree d=>
    obtain⟨r,a,ad⟩:=ad;exact fX.lt (h.1 r a) ad
theorem bp.ok.ee{B:Nat->Prop}{w w':World}{c:bp}(h:c.ok B w)(aa:∀b,c.has b->w'.heap[b]?=w.heap[b]?):c.ok B w':=by
  cases c with
  |obj b o=>exact⟨h.1,(aa b rfl).trans h.2⟩
  |hF b cs e=>exact⟨h.1,(aa b rfl).trans h.2⟩
  |row A c e size n xs=>exact fX.ee h aa
  |tree d=>exact⟨λr a=>fX.ee (h.1 r a) λb ad=>aa b ⟨r,a,ad⟩,h.2⟩
theorem bp.ok.base{B B':Nat->Prop}{w:World}{c:bp}(h:c.ok B w)(a:∀b,c.has b->¬B' b):c.ok B' w:=by
  cases c with
  |obj b o=>exact⟨a b rfl,h.2⟩
  |hF b cs e=>exact⟨a b rfl,h.2⟩
  |row A c e size n xs=>exact fX.base h a
  |tree f=>exact⟨λr d=>fX.base (h.1 r d) λb ad=>a b ⟨r,d,ad⟩,h.2⟩
section
variable {B:Nat->Prop} {ak w w':World} {H:c2}
theorem bZ.start(w:World):Ya w [] w:=⟨c9.refl _ _,λ_ h=>h,(λ_ h=>by cases h),List.Pairwise.nil⟩
theorem bZ.Yb(h:bZ B ak H w)(ad:Below w.heap.size w w'):bZ B ak H w':=
  ⟨h.below.trans (c9.X8 ad h.base),λk aa=>Nat.lt_of_lt_of_le (h.base k aa) ad.size,λc U=>(h.ok c U).ee λb e=>ad.block b ((h.ok c U).lt e).2,h.apart⟩
theorem bZ.drew(h:bZ B ak H w):bZ B ak H w.drew:=⟨⟨h.below.os,h.below.tape,h.below.output,h.below.size,h.below.block⟩,h.base,λc U=>(h.ok c U).ee λ_ _=>rfl,h.apart⟩
theorem bZ.fresh(h:bZ B ak H w):¬B w.heap.size:=λad=>lt_irrefl _ (h.base _ ad)
theorem bZ.alloc(h:bZ B ak H w)(o:Obj):bZ B ak (.obj w.heap.size o::H) (w.alloc o):=by
  have ad:=h.Yb ((Below.refl w.heap.size w).alloc (le_refl _) o);exact⟨ad.below,ad.base,λc U=>by
    rcases List.mem_cons.1 U with rfl|U
    · exact⟨h.fresh,heap_alloc_new w o⟩
    · exact ad.ok c U,
   List.Pairwise.cons (λc U b e a=>by have:=((h.ok c U).lt a).2;have e:w.heap.size=b:=Option.some.inj e;omega) h.apart⟩
theorem bZ.IB(h:bZ B ak H w)(cs:cl)(e:TypeId):bZ B ak (.hF w.heap.size cs e::H) (w.alloc (.cells cs.toArray e)):=by
  have I:=h.alloc (.cells cs.toArray e);exact⟨I.below,I.base,λc U=>by
    rcases List.mem_cons.1 U with rfl|U
    · exact I.ok (.obj w.heap.size (.cells cs.toArray e)) (by simp)
    · exact I.ok c (mem_cons_of_mem _ U),by
    obtain⟨J,ag⟩:=List.pairwise_cons.1 I.apart;exact List.Pairwise.cons (λc U b e=>J c U b e) ag⟩
theorem bZ.e2(h:bZ B ak H w){H':c2}(a:H'.Sublist H):bZ B ak H' w:=
  ⟨h.below,h.base,λc U=>h.ok c (a.subset U),h.apart.sublist a⟩
theorem bZ.perm(h:bZ B ak H w){H':c2}(al:H.Perm H'):bZ B ak H' w:=
  ⟨h.below,h.base,λc U=>h.ok c (al.mem_iff.2 U),(List.Perm.pairwise_iff (λ{c d} a b e f=>a b f e) al).1 h.apart⟩
end
def gB(w:World)(H:c2)(k:Nat):Prop:=k<w.heap.size/\∀c∈H,¬c.has k
theorem bZ.rest{B:Nat->Prop}{ak w:World}{H:c2}(h:bZ B ak H w):bZ (gB w H) w H w:=
  ⟨c9.refl _ _,λ_ aa=>aa.1,λc U=>(h.ok c U).base λb e a=>a.2 c U e,h.apart⟩
theorem bZ.back{B:Nat->Prop}{ak w w':World}{H H':c2}(h:bZ B ak H w)(a:bZ (gB w H) w H' w'):bZ B ak H' w':=by
  have d:∀k,B k->gB w H k:=λk aa=>⟨h.base k aa,λc U e=>((h.ok c U).lt e).1 aa⟩
  exact⟨h.below.trans ⟨a.below.os,a.below.tape,a.below.output,a.below.size,λk aa=>a.below.block k (d k aa)⟩,λk aa=>a.base k (d k aa),
    λc U=>(a.ok c U).base λb e f=>((a.ok c U).lt e).1 (d b f),a.apart⟩
def jM(H:c2)(c:bp)(K:bp->c2):Prop:=∃X Y,H=X++c::Y/\K=λc'=>X++c'::Y
theorem xP{c:bp}{H:c2}:jM (c::H) c (λc'=>c'::H):=⟨[],H,rfl,rfl⟩
section
variable {B:Nat->Prop} {ak w w':World} {H:c2} {c:bp} {K:bp->c2}
theorem jM.mem(h:jM H c K):c∈H:=by obtain⟨X,Y,rfl,_⟩:=h;simp
theorem bZ.vo(h:bZ B ak H w)(az:jM H c K){c':bp}(ad:c9 B w w')(U:c'.ok B w')(i:∀b,c'.has b->c.has b\/w.heap.size<=b)(aa:∀b,b<w.heap.size->¬c.has b->w'.heap[b]?=w.heap[b]?):bZ B ak (K c') w':=by
  obtain⟨X,Y,rfl,rfl⟩:=az;have al:=h.apart;have ee:∀d∈X++c::Y,bp.off c d->d.ok B w':=λd ay l=>(h.ok d ay).ee λb e=>aa b ((h.ok d ay).lt e).2 (λa=>l b a e)
  rw[List.pairwise_append,List.pairwise_cons]at al;obtain⟨j,⟨g,bP⟩,f⟩:=al;refine⟨h.below.trans ad,λk aa=>Nat.lt_of_lt_of_le (h.base k aa) ad.size,λd ay=>?_,?_⟩
  · rcases List.mem_append.1 ay with ay|ay
    · exact ee d (by simp[ay]) (λb e a=>f d ay c (by simp) b a e)
    · rcases List.mem_cons.1 ay with rfl|ay
      · exact U
      · exact ee d (by simp[ay]) (g d ay)
  · rw[List.pairwise_append,List.pairwise_cons]
    refine⟨j,⟨λd ay b e a=>?_,bP⟩,λd ay x ai b e a=>?_⟩
    · rcases i b e with ba|ba
      · exact g d ay b ba a
      · have:=((h.ok d (by simp[ay])).lt a).2;omega
    · rcases List.mem_cons.1 ai with rfl|ai
      · rcases i b a with ba|ba
        · exact f d ay c (by simp) b e ba
        · have:=((h.ok d (by simp[ay])).lt e).2;omega
      · exact f d ay x (by simp[ai]) b e a
end
theorem fX.at{w:World}{B:Nat->Prop}{e:TypeId}{size c n:Nat}{A:Option Addr}{xs:cl}(h:fX w B e size A c n xs)(bc:0<n):∃b,A=some ⟨b,0,none⟩:=by
  rcases h.2 with⟨_,aS,_⟩|⟨g,cur,dN,ah,_⟩
  · omega
  · exact⟨g,ah⟩
def gO.eA(r:gO):bp:=.row r.A r.c r.e r.size r.n r.xs
section
variable {B:Nat->Prop} {ak w:World} {H X Y:c2} {r:gO} {bb ft:List gO}
theorem bZ.Yd(h:bZ B ak (.tree (r::bb)::H) w):bZ B ak (r.eA :: .tree bb::H) w:=by
  obtain⟨I,J⟩:=h.ok _ mem_cons_self;obtain⟨ag,i⟩:=List.pairwise_cons.1 J;obtain⟨f,g⟩:=List.pairwise_cons.1 h.apart;refine⟨h.below,h.base,λc U=>?_,List.Pairwise.cons (λc U b ad d=>?_) (List.Pairwise.cons (λc U b ad d=>?_) g)⟩
  · rcases List.mem_cons.1 U with rfl|U
    · exact I r mem_cons_self
    · rcases List.mem_cons.1 U with rfl|U
      · exact⟨λs a=>I s (mem_cons_of_mem _ a),i⟩
      · exact h.ok c (mem_cons_of_mem _ U)
  · rcases List.mem_cons.1 U with rfl|U
    · obtain⟨s,a,e⟩:=d
      exact ag s a b ad e
    · exact f c U b ⟨r,mem_cons_self,ad⟩ d
  · obtain⟨s,a,e⟩:=ad
    exact f c U b ⟨s,mem_cons_of_mem _ a,e⟩ d
theorem bZ.ID(h:bZ B ak (r.eA :: .tree bb::H) w):bZ B ak (.tree (r::bb)::H) w:=by
  have I:=h.ok _ mem_cons_self;obtain⟨J,i⟩:=h.ok (.tree bb) (by simp);obtain⟨ag,g⟩:=List.pairwise_cons.1 h.apart;obtain⟨f,e⟩:=List.pairwise_cons.1 g;refine⟨h.below,h.base,λc U=>?_,List.Pairwise.cons (λc U b ad a=>?_) e⟩
  · rcases List.mem_cons.1 U with rfl|U
    · refine⟨λs aj=>?_,List.Pairwise.cons (λs aj b ad a=>ag (.tree bb) mem_cons_self b ad ⟨s,aj,a⟩) i⟩
      rcases List.mem_cons.1 aj with rfl|aj
      · exact I
      · exact J s aj
    · exact h.ok c (by simp[U])
  · obtain⟨s,aj,d⟩:=ad
    rcases List.mem_cons.1 aj with rfl|aj
    · exact ag c (mem_cons_of_mem _ U) b d a
    · exact f c U b ⟨s,aj,d⟩ a
theorem q5{c:bp}:(X++c::Y).Perm (c::(X++Y)):=perm_middle
theorem bZ.DA(h:bZ B ak (X++.tree (r::bb)::Y) w):bZ B ak (r.eA::(X++.tree bb::Y)) w:=
  ((h.perm q5).Yd).perm (List.Perm.cons _ q5.symm)
theorem bZ.OW(h:bZ B ak (r.eA::(X++.tree bb::Y)) w):bZ B ak (X++.tree (r::bb)::Y) w:=
  ((h.perm (List.Perm.cons _ q5)).ID).perm q5.symm
theorem gO.Ye{r s:gO}(h:r.off s):s.off r:=λb I J=>h b J I
theorem bZ.z1(h:bZ B ak (X++.tree bb::Y) w)(a:∃e,bb.Perm e/\ft.Sublist e):bZ B ak (X++.tree ft::Y) w:=by
  obtain⟨e,al,a⟩:=a;have g:∀s∈ft,s∈bb:=λs f=>al.mem_iff.2 (a.subset f)
  have d:=h.perm q5;obtain⟨I,J⟩:=d.ok _ mem_cons_self;obtain⟨j,i⟩:=List.pairwise_cons.1 d.apart;refine bZ.perm ⟨h.below,h.base,λc U=>?_,List.Pairwise.cons (λc U b ad k=>?_) i⟩ q5.symm
  · rcases List.mem_cons.1 U with rfl|U
    · exact⟨λs a=>I s (g s a),((List.Perm.pairwise_iff (λh=>gO.Ye h) al).1 J).sublist a⟩
    · exact d.ok c (mem_cons_of_mem _ U)
  · obtain⟨s,a,f⟩:=ad
    exact j c U b ⟨s,g s a,f⟩ k
end
end
section
structure Sym(n:Nat)(D:List Deferred)(L:List (Nat×Value))(B:Nat->Prop)(ak:World)(H:c2)(a:Act)(w:World):Prop where
 st:df n D L a
 aU:bZ B ak H w
theorem ef{a b:Nat}(h:blt a b=true):a<b:=le_of_ble_eq_true h
section
variable {r:Option Nat} {P:Program} {ops:Array Oper} {Q:Exit->Act->World->Prop} {o:Oper} {KK:Act->World->Prop}
variable {n:Nat} {D:List Deferred} {L:List (Nat×Value)} {B:Nat->Prop} {ak:World} {H:c2} {a:Act} {w:World}
variable {T:List (TypeId×bI)} {d:Nat}
def fJ(P:Program)(o:Oper)(a:Act)(v:Value):Prop:=∀w,(execOp a.eval o).run P w=.ok (.value v) w
theorem Sym.aI(b:Sym n D L B ak H a w){x:Operand}{v:Value}(ai:aI L x=some v):a.eval x=v:=b.st.aI ai
theorem sq{v:Value}{w':World}{H':c2}(e:Sym n D L B ak H a w)(b:o.guard=none/\o.dst=some d)(ay:blt d n=true)(f:(execOp a.eval o).run P w=.ok (.value v) w')(g:bZ B ak H' w')(h:∀aX w',Sym n D ((d,v)::L) B ak H' aX w'->KK aX w'):fh P ops o KK a w:=
 iD e.st b.1 b.2 (ef ay) f λaX c=>h aX w' ⟨c,g⟩
theorem OX{w':World}{H':c2}(d:Sym n D L B ak H a w)(b:o.guard=none/\o.dst=none)(e:(execOp a.eval o).run P w=.ok .skip w')(f:bZ B ak H' w')(h:∀aX w',Sym n D L B ak H' aX w'->KK aX w'):fh P ops o KK a w:=
 Dz d.st b.1 b.2 e λaX c=>h aX w' ⟨c,f⟩
theorem OY{x:Operand}{v:Value}(c:df n D L a)(b:o.op=.move x)(ai:aI L x=some v):fJ P o a (v):=λw=>by simp only[execOp,b,Sem.run_pure,c.aI ai]
theorem OZ{x:Operand}{v:Value}(c:df n D L a)(b:o.op=.assign x)(ai:aI L x=some v):fJ P o a (v):=λw=>by simp only[execOp,b,Sem.run_pure,c.aI ai]
theorem O0{c x y:Operand}{g:Bool}{v:Value}(b:df n D L a)(d:o.op=.pick c x y)(U:aI L c=some (.bool g))(e:g=true)(ai:aI L x=some v):fJ P o a (v):=λw=>by subst e;simp[execOp,d,b.aI U,b.aI ai,asBool]
theorem O1{c x y:Operand}{g:Bool}{v:Value}(b:df n D L a)(d:o.op=.pick c x y)(U:aI L c=some (.bool g))(e:g=false)(ai:aI L y=some v):fJ P o a (v):=λw=>by subst e;simp[execOp,d,b.aI U,b.aI ai,asBool]
theorem Yf{x:Operand}{t:TypeId}{g:Bool}(c:df n D L a)(b:o.op=.unOp .not t x)(ai:aI L x=some (.bool g)):fJ P o a (.bool (!g)):=λw=>by simp[execOp,b,c.aI ai,Op.unary]
theorem O2{x:Operand}{k:Nat}{vs:cl}{v:Value}(d:df n D L a)(b:o.op=.extract x k)(ai:aI L x=some (.tuple vs.toArray))(c:vs[k]?=some v):fJ P o a (v):=λw=>by simp[execOp,b,d.aI ai,Instr.extract,c]
theorem Yg{fn:Fn}{xs:eE}{vs:cl}(d:df n D L a)(b:o.op=.makeFunc fn #[] xs.toArray)(c:jB L xs=some vs):fJ P o a (.func fn #[] vs.toArray):=λw=>by
 simp[execOp,b,Instr.makeFunc,d.jB c]
theorem Yh{k:IntKind}{u v:Operand}{t e:TypeId}{x y z:Int}(b:df n D L a)(c:o.op=.binOp .add t u v e)(hu:aI L u=some (.int k x))(d:aI L v=some (.int k y))(bO:k.wrap (x+y)=z):fJ P o a (.int k z):=λw=>by simp[execOp,c,b.aI hu,b.aI d,eqGuard,binOp,Op.intArith,bO]
theorem Yi{k:IntKind}{u v:Operand}{t e:TypeId}{x y z:Int}(b:df n D L a)(c:o.op=.binOp .sub t u v e)(hu:aI L u=some (.int k x))(d:aI L v=some (.int k y))(bO:k.wrap (x-y)=z):fJ P o a (.int k z):=λw=>by simp[execOp,c,b.aI hu,b.aI d,eqGuard,binOp,Op.intArith,bO]
theorem Yj{k:IntKind}{u v:Operand}{t e:TypeId}{x y z:Int}(b:df n D L a)(c:o.op=.binOp .mul t u v e)(hu:aI L u=some (.int k x))(d:aI L v=some (.int k y))(bO:k.wrap (x * y)=z):fJ P o a (.int k z):=λw=>by simp[execOp,c,b.aI hu,b.aI d,eqGuard,binOp,Op.intArith,bO]
theorem Yk{k:IntKind}{u v:Operand}{t f:TypeId}{x y z:Int}(b:df n D L a)(c:o.op=.binOp .quo t u v f)(hu:aI L u=some (.int k x))(d:aI L v=some (.int k y))(e:y≠0)(bO:k.wrap (x.tdiv y)=z):fJ P o a (.int k z):=λw=>by simp[execOp,c,b.aI hu,b.aI d,eqGuard,binOp,Op.intDiv,e,bO]
theorem Yl{k:IntKind}{u v:Operand}{t f:TypeId}{x y z:Int}(b:df n D L a)(c:o.op=.binOp .rem t u v f)(hu:aI L u=some (.int k x))(d:aI L v=some (.int k y))(e:y≠0)(bO:x.tmod y=z):fJ P o a (.int k z):=λw=>by simp[execOp,c,b.aI hu,b.aI d,eqGuard,binOp,Op.intDiv,e,bO]
theorem Ym{k:IntKind}{u v:Operand}{t e:TypeId}{x y:Int}(b:df n D L a)(c:o.op=.binOp .lss t u v e)(hu:aI L u=some (.int k x))(d:aI L v=some (.int k y)):fJ P o a (.bool (decide (x<y))):=λw=>by simp[execOp,c,b.aI hu,b.aI d,eqGuard,binOp,Op.intCmp]
theorem Yn{k:IntKind}{u v:Operand}{t e:TypeId}{x y:Int}(b:df n D L a)(c:o.op=.binOp .leq t u v e)(hu:aI L u=some (.int k x))(d:aI L v=some (.int k y)):fJ P o a (.bool (decide (x<=y))):=λw=>by simp[execOp,c,b.aI hu,b.aI d,eqGuard,binOp,Op.intCmp]
theorem Yo{k:IntKind}{u v:Operand}{t e:TypeId}{x y:Int}(b:df n D L a)(c:o.op=.binOp .gtr t u v e)(hu:aI L u=some (.int k x))(d:aI L v=some (.int k y)):fJ P o a (.bool (decide (x > y))):=λw=>by simp[execOp,c,b.aI hu,b.aI d,eqGuard,binOp,Op.intCmp]
theorem Yp{k:IntKind}{u v:Operand}{t e:TypeId}{x y:Int}(b:df n D L a)(c:o.op=.binOp .geq t u v e)(hu:aI L u=some (.int k x))(d:aI L v=some (.int k y)):fJ P o a (.bool (decide (x ≥ y))):=λw=>by simp[execOp,c,b.aI hu,b.aI d,eqGuard,binOp,Op.intCmp]
theorem Yq{k:IntKind}{u v:Operand}{t e:TypeId}{x y:Int}(b:df n D L a)(c:o.op=.binOp .eql t u v e)(hu:aI L u=some (.int k x))(d:aI L v=some (.int k y)):fJ P o a (.bool (x==y)):=λw=>by simp[execOp,c,b.aI hu,b.aI d,eqGuard,binOp,Op.intCmp]
theorem Yr{k:IntKind}{u v:Operand}{t e:TypeId}{x y:Int}(b:df n D L a)(c:o.op=.binOp .neq t u v e)(hu:aI L u=some (.int k x))(d:aI L v=some (.int k y)):fJ P o a (.bool (x != y)):=λw=>by simp[execOp,c,b.aI hu,b.aI d,eqGuard,binOp,Op.intCmp]
theorem Ys{k:IntKind}{u v:Operand}{t e:TypeId}{x y z:Int}(b:df n D L a)(c:o.op=.binOp .and t u v e)(hu:aI L u=some (.int k x))(d:aI L v=some (.int k y))(bO:bits .and k x y=z):fJ P o a (.int k z):=λw=>by simp only[<- bO];simp[execOp,c,b.aI hu,b.aI d,eqGuard,binOp,Op.intBits,bits]
theorem Yt{k:IntKind}{u v:Operand}{t e:TypeId}{x y z:Int}(b:df n D L a)(c:o.op=.binOp .or t u v e)(hu:aI L u=some (.int k x))(d:aI L v=some (.int k y))(bO:bits .or k x y=z):fJ P o a (.int k z):=λw=>by simp only[<- bO];simp[execOp,c,b.aI hu,b.aI d,eqGuard,binOp,Op.intBits,bits]
theorem Yu{k:IntKind}{u v:Operand}{t e:TypeId}{x y z:Int}(b:df n D L a)(c:o.op=.binOp .xor t u v e)(hu:aI L u=some (.int k x))(d:aI L v=some (.int k y))(bO:bits .xor k x y=z):fJ P o a (.int k z):=λw=>by simp only[<- bO];simp[execOp,c,b.aI hu,b.aI d,eqGuard,binOp,Op.intBits,bits]
theorem Yv{k k':IntKind}{u v:Operand}{t e:TypeId}{x z:Int}{y:Nat}(b:df n D L a)(c:o.op=.binOp .shl t u v e)(hu:aI L u=some (.int k x))(d:aI L v=some (.int k' (y:Int)))(bO:k.wrap (x * 2 ^ (min y k.bits))=z):fJ P o a (.int k z):=λw=>by simp only[<- bO];simp[execOp,c,b.aI hu,b.aI d,eqGuard,binOp,Op.shift];omega
theorem Yw{k k':IntKind}{u v:Operand}{t e:TypeId}{x z:Int}{y:Nat}(b:df n D L a)(c:o.op=.binOp .shr t u v e)(hu:aI L u=some (.int k x))(d:aI L v=some (.int k' (y:Int)))(bO:x.fdiv (2 ^ (min y k.bits))=z):fJ P o a (.int k z):=λw=>by simp only[<- bO];simp[execOp,c,b.aI hu,b.aI d,eqGuard,binOp,Op.shift];omega
theorem Yx{k k':IntKind}{u:Operand}{t c:TypeId}{i i':bI}{x z:Int}(g:df n D L a)(e:o.op=.convert t c u)(b:h9 P T)(I:T.lookup t=some i)(J:T.lookup c=some i')(ag:i'.desc=.int k')(hu:aI L u=some (.int k x))(bO:k'.wrap x=z):fJ P o a (.int k' z):=λw=>by have f:=(b _ _ I).1;have d:=(b _ _ J).1;rw[ag]at d;simp[execOp,e,g.aI hu,convert,run_underlying f,run_underlying d,Conv.intToInt,bO]
theorem xR{u:Operand}{t:TypeId}{i:bI}{e:TypeId}{A:Option Addr}{m c:Nat}(f:df n D L a)(d:o.op=.call { callee:=.builtin .len,args:=#[u],argTypes:=#[t] })(g:h9 P T)(I:T.lookup t=some i)(J:i.desc=.slice e)(hu:aI L u=some (.slice A m c)):fJ P o a (.int .i64 (m:Int)):=λw=>by have b:=(g _ _ I).1;rw[J]at b;simp[execOp,d,resolve,invoke,builtin,Builtin.len_,f.aI hu,run_underlying b,goInt]
theorem IE{u:Operand}{t:TypeId}{i:bI}{e:TypeId}{A:Option Addr}{m c:Nat}(f:df n D L a)(d:o.op=.call { callee:=.builtin .cap,args:=#[u],argTypes:=#[t] })(g:h9 P T)(I:T.lookup t=some i)(J:i.desc=.slice e)(hu:aI L u=some (.slice A m c)):fJ P o a (.int .i64 (c:Int)):=λw=>by have b:=(g _ _ I).1;rw[J]at b;simp[execOp,d,resolve,invoke,builtin,Builtin.cap_,f.aI hu,run_underlying b,goInt]
theorem IF{u:Operand}{t:TypeId}{k:Nat}{i i':bI}{dn:Array Field}{O3 r e:String}{ty:TypeId}{off f:Nat}{em:Bool}{b p:Nat}(j:df n D L a)(g:o.op=.fieldAddr t u k)(d:h9 P T)(I:T.lookup t=some i)(J:i.desc=.struct dn)(ag:dn[k]?=some ⟨O3,ty,off,em,r,e,f⟩)(l:T.lookup ty=some i')(h:blt 0 i'.size=true)(hu:aI L u=some (.pointer (some ⟨b,p,none⟩))) :
  fJ P o a (.pointer (some ⟨b,p+off,none⟩)):=λw=>by
 have c:=(d _ _ I).1;rw[J]at c;have m:=bI.run_sizeOf (d _ _ l);have q:=(Nat.pos_iff_ne_zero.1 (ef h))
 simp[execOp,g,j.aI hu,Instr.fieldAt,run_underlying c,ag,Instr.sureAddr,fieldPlace,m,q,Addr.add_lit]
theorem DB{u x:Operand}{t e:TypeId}{i i':bI}{b p m c j:Nat}{k:IntKind}{z:Int}(f:df n D L a)(h:o.op=.indexAddr t u x)(g:h9 P T)(I:T.lookup t=some i)(J:i.desc=.slice e)(q:T.lookup e=some i')(hu:aI L u=some (.slice (some ⟨b,p,none⟩) m c))(ai:aI L x=some (.int k z))(bO:z=(j:Int))(l:j<m):fJ P o a (.pointer (some ⟨b,p+j * i'.size,none⟩)):=λw=>by subst bO;have d:=(g _ _ I).1;rw[J]at d;have r:=bI.run_sizeOf (g _ _ q);simp[execOp,h,f.aI hu,f.aI ai,Instr.indexAt,asIntOf,run_underlying d,r,Addr.add_lit,l]
end
end
section
section
variable {r:Option Nat} {P:Program} {ops:Array Oper} {Q:Exit->Act->World->Prop} {o:Oper} {KK:Act->World->Prop}
variable {n:Nat} {D:List Deferred} {L:List (Nat×Value)} {B:Nat->Prop} {ak:World} {H:c2} {a:Act} {w:World}
variable {T:List (TypeId×bI)} {d:Nat} {K:bp->c2}
theorem IG(a:bZ B ak H w){b:Nat}{cs:cl}{e:TypeId}(az:jM H (.hF b cs e) K):w.heap[b]?=some (.cells cs.toArray e):=(a.ok _ az.mem).2
theorem IH(a:bZ B ak H w){b:Nat}{cs:cl}{e:TypeId}(az:jM H (.hF b cs e) K)(j:Nat):w.cell? ⟨b,j,none⟩=cs[j]?:=by
 simp[World.cell?,IG a az]
theorem bZ.YA(f:bZ B ak H w){b:Nat}{cs g:cl}{e:TypeId}(az:jM H (.hF b cs e) K){w':World}(c:w'.os=w.os/\w'.tape=w.tape/\w'.output=w.output/\w'.heap.size=w.heap.size)(ad:w'.heap[b]?=some (.cells g.toArray e))(d:∀k,k≠b->w'.heap[k]?=w.heap[k]?) :
  bZ B ak (K (.hF b g e)) w':=by
 have U:=f.ok _ az.mem;refine f.vo az ⟨c.1,c.2.1,c.2.2.1,Nat.le_of_eq c.2.2.2.symm,λk aa=>d k (λa=>by subst a;exact U.1 aa)⟩ ⟨U.1,ad⟩ (λb' a=>.inl a) λb' _ h=>d b' (λa=>h (by subst a;rfl))
theorem YB{t:TypeId}{i:bI}(hi:bI.ok P t i)(J:l7 i.desc=true){b p:Nat}{vs:cl}(ae:vs.length=i.size)(U:∀j v,vs[j]?=some v->w.cell? ⟨b,p+j,none⟩=some v) :
  (loadVar t ⟨b,p,none⟩).run P w=.ok (.agg vs.toArray) w:=by
 have:=run_loadCells_list (P:=P) w ⟨b,p,none⟩ vs (λj v a=>by rw[Addr.add_lit];exact U j v a)
 rw[ae]at this
 simp[loadVar,bI.zZ hi,J,bI.run_sizeOf hi,this]
theorem YC{t:TypeId}{i:bI}(hi:bI.ok P t i){b p:Nat}{v:Value}{cs:cl}{e:TypeId}(ad:w.heap[b]?=some (.cells cs.toArray e))(a:v.cells.size=i.size)(I:∀u∈v.cells.toList,u.oneCell'=true)(al:p+v.cells.size<=cs.length) :
  (storeVar t ⟨b,p,none⟩ v).run P w=.ok () (w.setRow b (cs.take p++v.cells.toList++cs.drop (p+v.cells.size)).toArray):=by
 have J:=run_storeCells_at P b p e v.cells.toList 0 cs.toArray w ad (by simpa using al) I;unfold storeVar
 simp[bI.run_sizeOf hi,a,J]
end
end
section
theorem YD{z:Int}(I:-9223372036854775808<=z)(J:z<=9223372036854775807):IntKind.i64.wrap z=z:=by rw[IntKind.wrap_i64];omega
def qc(P:Program)(f:FuncId)(args:Array Value)(w:World)(R:Value->World->Prop):Prop:=
 Calls P f args w λe w'=>∃v,e=.returned v/\R v w'
theorem qc.mono{P:Program}{f:FuncId}{args:Array Value}{w:World}{R a:Value->World->Prop}(h:qc P f args w R)(c:∀v w',R v w'->a v w'):qc P f args w a:=
 Calls.mono h λ_ _ ⟨v,e,b⟩=>⟨v,e,c v _ b⟩
section
variable {r:Option Nat} {P:Program} {ops:Array Oper} {Q:Exit->Act->World->Prop} {o:Oper} {KK:Act->World->Prop}
variable {n:Nat} {D:List Deferred} {L:List (Nat×Value)} {B:Nat->Prop} {ak:World} {H:c2} {a:Act} {w:World}
variable {T:List (TypeId×bI)} {d:Nat}
theorem tv(e:Sym n D L B ak H a w){j s:Nat}{want g:Bool}(c:o.guard=some (j,want))(b:(ops[j]?).bind (·.dst)=some s)(d:L.lookup s=some (.bool g)) :
  Region.wanted o (yielded ops a.tmps)=(g==want):=by
 have I:=e.st.has s _ d;have J:yielded ops a.tmps j=some g:=by simp[yielded,b,I]
 simp only[Region.wanted,c,J];cases g<;>cases want<;>rfl
theorem DC(e:Sym n D L B ak H a w){j s:Nat}{want:Bool}(c:o.guard=some (j,want))(b:(ops[j]?).bind (·.dst)=some s)(d:L.lookup s=some undef) :
  Region.wanted o (yielded ops a.tmps)=false:=by
 have I:=e.st.has s _ d;have J:yielded ops a.tmps j=none:=by simp[yielded,b,I,undef]
 simp only[Region.wanted,c,J]
 rfl
theorem YE{f:FuncId}{fn:Func}{xs:eE}{fA:Array TypeId}{vs:cl}(aA:o.op=.call { callee:=.value (.func f),args:=xs.toArray,argTypes:=fA })(gC:P.funcs[f]?=some fn)(bc : (fn.name == "runtime.NumGoroutine") = false)(ad : fn.body.isNone = false)(aB : xs.map a.eval = vs) : (execOp a.eval o).run P w = .ok (.enter f vs.toArray) w := by
 have e:a.eval (.func f)=.func (.func f) #[] #[]:=rfl
 have hQ : fn.name ≠ "runtime.NumGoroutine" := by simpa using bc
 have er:fn.body≠none:=by intro h;rw[h]at ad;cases ad
 simp[execOp,aA,resolve,e,Deferred.ofValue,invoke,callFunc,program,Sem.run,gC,hQ,er,aB]
theorem O4{f:FuncId}{fn:Func}{xs:eE}{fA:Array TypeId}{vs:cl}{R:Value->World->Prop}(av:Sym n D L B ak H a w)(aA:o.op=.call { callee:=.value (.func f),args:=xs.toArray,argTypes:=fA })(bn:o.guard=none/\o.dst=some d)(ay:blt d n=true)(gC : P.funcs[f]? = some fn)(bc : (fn.name == "runtime.NumGoroutine") = false)(ad : fn.body.isNone = false)(aB : jB L xs = some vs)(cJ : qc P f vs.toArray w R)(h:∀v aX w',R v w'->df n D ((d,v)::L) aX->KK aX w'):fh P ops o KK a w:=by
 refine .inl ⟨by simp[Region.wanted,bn.1],.inr (.inr ⟨f,vs.toArray,w,YE aA gC bc ad (av.st.jB aB),?_⟩)⟩;refine Calls.mono cJ ?_;rintro e w' ⟨v,rfl,eB⟩;exact⟨v,rfl,h v _ w' eB (by rw[bn.2];exact av.st.put d v (ef ay))⟩
variable {c fu cG:Code}
abbrev kS(r:Option Nat)(P:Program)(c:Code)(Q:Exit->Act->World->Prop)(a:Act)(w:World):Prop:=c.wpIn (WF r) 0 P Q a w
theorem YF(h:∀K:Act->World->Prop,(∀a w,kS r P cG Q a w->K a w)->kS r P fu (Exit.then K Q) a w):kS r P (.seq fu cG) Q a w:=wpIn_seq_k h
theorem DD{id:Nat}{l:List Oper}(h:q4 r P l.toArray Q l a w):kS r P (.region id l.toArray false) Q a w:=wpIn_region_lit h
theorem O5(h:Q .normal a w):kS r P .skip Q a w:=wpIn_skip h
theorem II{id:Nat}(h:Q (.exit id) a w):kS r P (.exit id) Q a w:=wpIn_exit h
theorem YG(h:Q .ret a w):kS r P .ret Q a w:=wpIn_ret h
theorem O6{id:Nat}(h:kS r P c (Exit.inBlock id Q) a w):kS r P (.block id c) Q a w:=wpIn_block h
theorem O7{x:Operand}{g:Bool}(c:Sym n D L B ak H a w)(ai:aI L x=some (.bool g))(I:g=true->kS r P fu Q a w)(b:g=false->kS r P cG Q a w):kS r P (.cond x fu cG) Q a w:=
 wpIn_cond_split (c.aI ai) I b
theorem YH{id:Nat}(h:Q .normal a w):Exit.inBlock id Q (.exit id) a w:=by simpa [Exit.inBlock] using h
theorem YI{id b:Nat}(c:beq b id=false)(h:Q (.exit b) a w):Exit.inBlock id Q (.exit b) a w:=by
 have:b≠id:=ne_of_beq_eq_false c
 simpa [Exit.inBlock,this] using h
theorem least(S:Nat->Prop)(h:∃k,S k):∃k,S k/\∀j,S j->k<=j:=by
 obtain⟨k,aa⟩:=h
 induction k using Nat.strongRecOn with
 |_ k d=>
  by_cases e:∃j,j<k/\S j
  ·obtain⟨j,a,c⟩:=e;exact d j a c
  ·exact⟨k,aa,λj a=>Nat.le_of_not_lt λb=>e ⟨j,b,a⟩⟩
noncomputable def z6(S:Nat->Prop):Nat:=by
 classical
 exact if h:∃k,S k then Classical.choose (least S h)else 0
theorem YJ{S:Nat->Prop}{k:Nat}(h:S k):z6 S<=k:=by
 unfold z6;rw[dif_pos ⟨k,h⟩];exact(Classical.choose_spec (least S ⟨k,h⟩)).2 k h
theorem YK{S:Nat->Prop}{k:Nat}(h:S k):S (z6 S):=by
 unfold z6;rw[dif_pos ⟨k,h⟩];exact(Classical.choose_spec (least S ⟨k,h⟩)).1
theorem O8{α:Type}(M:α->Act->World->Prop)(m:α->Nat)(x:α)(d:M x a w)(f:∀x a w,M x a w->kS r P c (Exit.then (λaX w'=>∃y,M y aX w'/\m y<m x) Q) a w):kS r P (.loop c) Q a w:=by
 refine wpIn_loop (λa w=>∃x,M x a w) (λa w=>z6 λk=>∃x,M x a w/\m x=k) ⟨x,d⟩ ?_;rintro a w ⟨y,aG⟩;obtain⟨z,bO,h⟩:=YK (S:=λk=>∃x,M x a w/\m x=k) ⟨y,aG,rfl⟩;refine wpIn_mono (f z a w bO) ?_;intro e aX w' b;cases e with
 |normal=>
  obtain⟨u,hu,g⟩:=b;refine⟨⟨u,hu⟩,?_⟩
  have:=YJ (S:=λk=>∃x,M x aX w'/\m x=k) ⟨u,hu,rfl⟩
  omega
 |_=>exact b
theorem YL{N:Nat}(vs:cl)(aM:vs.length<=N):(vs.toArray++Array.replicate (N-vs.toArray.size) undef).size=N:=by simp;omega
end
end
section
section
variable {P:Program} {ops:Array Oper} {Q:Exit->Act->World->Prop} {o:Oper} {KK:Act->World->Prop}
variable {n:Nat} {D:List Deferred} {L:List (Nat×Value)} {B:Nat->Prop} {ak:World} {H:c2} {a:Act} {w:World}
variable {d:Nat} {S:World->Prop} {listed O9:Array Bool} {fuel:Nat}
end
end
end
section
section
variable {r:Option Nat} {P:Program} {ops:Array Oper} {Q:Exit->Act->World->Prop} {o:Oper} {KK:Act->World->Prop}
variable {n:Nat} {D:List Deferred} {L eu:List (Nat×Value)} {B:Nat->Prop} {ak:World} {H H':c2} {a:Act} {w:World}
variable {d:Nat} {c:Code}
end
end
section
section
theorem IJ{P:Program}{t:TypeId}{k:IntKind}(h:P.underlying t=some (.int k))(b:Bool)(n:Nat)(x:Int)(w:World) :
  (Instr.checkKey b (n+1) t (.int k x)).run P w=.ok () w:=by
 simp[Instr.checkKey,run_underlying h]
section
variable {P:Program} {ops:Array Oper} {o:Oper} {KK:Act->World->Prop}
variable {n:Nat} {D:List Deferred} {L:List (Nat×Value)} {B:Nat->Prop} {ak:World} {H:c2} {a:Act} {w:World}
variable {T:List (TypeId×bI)} {d:Nat} {K:bp->c2}
theorem bZ.z7(d:bZ B ak H w){b:Nat}{x x':Obj}(az:jM H (.obj b x) K) :
  bZ B ak (K (.obj b x')) { w with heap:=w.heap.setIfInBounds b x' }:=by
 have U:=d.ok _ az.mem;have e:=(Array.getElem?_eq_some_iff.1 U.2).1;have c:∀k,k≠b->(w.heap.setIfInBounds b x')[k]?=w.heap[k]?:=λk aa=>Array.getElem?_setIfInBounds_ne (Ne.symm aa)
 refine d.vo az ⟨rfl,rfl,rfl,by simp,λk aa=>c k (λa=>by subst a;exact U.1 aa)⟩ ⟨U.1,by simp[e]⟩ (λb' a=>.inl a) λb' _ f=>c b' (λa=>f (by subst a;rfl))
end
end
end
section
section
variable {P:Program} {o:Oper} {n:Nat} {D:List Deferred} {L:List (Nat×Value)} {a:Act} {T:List (TypeId×bI)}
theorem YM{u v:Operand}{t g:TypeId}{i:bI}{x y:Bool}(c:df n D L a)(d:o.op=.binOp .eql t u v g)(f:h9 P T)(I:T.lookup t=some i)(J:i.desc=.bool)(hu:aI L u=some (.bool x))(e:aI L v=some (.bool y)):fJ P o a (.bool (x==y)):=λw=>by
 have b:=(f _ _ I).1;rw[J]at b
 have:(Op.equal t (.bool x) (.bool y)).run P w=.ok (x==y) w:=run_equalIn_bool w 9999 t x y b
 simp[execOp,d,c.aI hu,c.aI e,eqGuard,binOp,this]
theorem YN{u v:Operand}{t g:TypeId}{i:bI}{x y:Bool}(c:df n D L a)(d:o.op=.binOp .neq t u v g)(f:h9 P T)(I:T.lookup t=some i)(J:i.desc=.bool)(hu:aI L u=some (.bool x))(e:aI L v=some (.bool y)):fJ P o a (.bool (x != y)):=λw=>by
 have b:=(f _ _ I).1;rw[J]at b
 have:(Op.equal t (.bool x) (.bool y)).run P w=.ok (x==y) w:=run_equalIn_bool w 9999 t x y b
 simp[execOp,d,c.aI hu,c.aI e,eqGuard,binOp,this,bne]
theorem YO{u v:Operand}{t e:TypeId}{x y:ByteArray}(b:df n D L a)(c:o.op=.binOp .eql t u v e)(hu:aI L u=some (.string x))(d:aI L v=some (.string y)):fJ P o a (.bool (x.toList==y.toList)):=λw=>by
 simp[execOp,c,b.aI hu,b.aI d,eqGuard,binOp,Op.stringOp]
theorem YP{u v:Operand}{t e:TypeId}{x y:ByteArray}(b:df n D L a)(c:o.op=.binOp .neq t u v e)(hu:aI L u=some (.string x))(d:aI L v=some (.string y)):fJ P o a (.bool (!(x.toList==y.toList))):=λw=>by
 simp[execOp,c,b.aI hu,b.aI d,eqGuard,binOp,Op.stringOp]
theorem YQ{u v:Operand}{t e:TypeId}{x y:Array Value}{r:Bool}(b:df n D L a)(c:o.op=.binOp .eql t u v e)(hu:aI L u=some (.agg x))(d:aI L v=some (.agg y))(f:P.eqGuardType P.depth t=false)(he:∀w,(Op.equalIn 10000 t (.agg x) (.agg y)).run P w=.ok r w):fJ P o a (.bool r):=λw=>by
 simp[execOp,c,b.aI hu,b.aI d,run_eqGuard_agg w .eql t u v x y f,run_eql_struct,he w]
theorem YR{u v:Operand}{t e:TypeId}{x y:Array Value}{r:Bool}(b:df n D L a)(c:o.op=.binOp .neq t u v e)(hu:aI L u=some (.agg x))(d:aI L v=some (.agg y))(f:P.eqGuardType P.depth t=false)(he:∀w,(Op.equalIn 10000 t (.agg x) (.agg y)).run P w=.ok r w):fJ P o a (.bool (!r)):=λw=>by
 simp[execOp,c,b.aI hu,b.aI d,run_eqGuard_agg w .neq t u v x y f,run_neq_struct,he w]
end
end
section
theorem YS{P:Program}(w:World)(d:Nat)(t:TypeId)(xs ys:Array Value){dn:List Field}(h:P.underlying t=some (.struct dn.toArray))(al:P.stoodInHeld t=false) :
  (Op.equalIn (d+1) t (.agg xs) (.agg ys)).run P w=(Op.eqFields d xs ys dn).run P w:=by
 have az:P.fieldsOf t=dn.toArray:=by simp[Program.fieldsOf,h]
 rw[run_equalIn_struct w d t xs ys (by rw[az];exact h) al,az]
end
section
section
variable {w:World} {B:Nat->Prop} {e:TypeId} {size n c:Nat} {A:Option Addr} {xs:cl}
theorem z8(g:Nat)(e:TypeId)(b:Nat×Nat):∀(vs:cl) (o:Nat) (w:World) (cur:Array Value),w.heap[g]?=some (.cells cur e b)->o+vs.length<=cur.size ->
  w.setCells g o vs=w.setRow g (cur.toList.take o++vs++cur.toList.drop (o+vs.length)).toArray
 |[],o,w,cur,a,_=>by
  simp only[World.setCells,append_nil,List.length_nil,add_zero,List.take_append_drop,Array.toArray_toList];exact(setRow_self w g cur e b a).symm
 |v::vs,o,w,cur,a,ae=>by
  simp only[length_cons]at ae;have I:w.setCell ⟨g,o,none⟩ v=w.setRow g (cur.setIfInBounds o v):=by
   unfold World.setCell World.setRow
   congr 1
   apply ext
   ·simp
   ·intro i I J
    simp only[Array.getElem_modify]
    split
    ·rename_i hi
     subst hi;rw[(Array.getElem?_eq_some_iff.1 a).2]
     simp
    ·rfl
  have J:=setRow_heap w g cur (cur.setIfInBounds o v) e b a;rw[World.setCells,I,z8 g e b vs (o+1) _ _ J (by simp;omega),setRow_setRow]
  congr 1
  apply congrArg List.toArray
  rw[Array.toList_setIfInBounds,List.take_succ_eq_append_getElem (by simp;omega)];rw[List.take_set_of_le (by omega),List.drop_set_of_lt (by omega)]
  simp[add_comm,Nat.add_left_comm]
theorem fX.cells(h:fX w B e size A c n xs){g:Nat}(ah:A=some ⟨g,0,none⟩)(j:Nat)(a:j<n * size):w.cell? ⟨g,j,none⟩=xs[j]?:=by
 rcases h.2 with⟨I,_⟩|⟨g',cur,dN,I,_,b7,_,_,_,_,bk⟩
 ·rw[ah]at I;cases I
 ·rw[ah]at I
  have:g=g':=by injection I with I;injection I
  subst this;rw[<- bk,getElem?_take,if_pos a]
  simp[World.cell?,b7]
theorem fX.le(h:fX w B e size A c n xs):n<=c/\c<=maxLen:=by
 rcases h.2 with⟨_,I,J⟩|⟨g',cur,dN,I,_,b7,_,I,J,_,bk⟩
 ·subst I;subst J;exact⟨le_refl _,zero_le _⟩
 ·exact⟨I,J⟩
end
section
variable {P:Program} {w:World}
theorem YT{B:Nat->Prop}{t ty e:TypeId}{i:bI}(bk:P.underlying t=some (.slice e))(hi:bI.ok P e i)(T:0<i.size)(N:i.zero.cells.size=i.size){A:Option Addr}{c n:Nat}{xs:cl}(d:fX w B e i.size A c n xs){b:Nat}{p m cc:Nat}{a:cl}(ae:a.length=m * i.size)(J:∀j u,a[j]?=some u->w.cell? ⟨b,p+j,none⟩=some u)(I:∀u∈a,u.oneCell'=true)(E:(n+m) * i.bytes<=140737488355328)(V:n+m<=140737488355328)(O:¬B w.heap.size) :
  ∃C c' w',(Builtin.append_ #[t,t] ty #[.slice A n c,.slice (some ⟨b,p,none⟩) m cc]).run P w=.ok (.slice C (n+m) c') w'/\fX w' B e i.size C c' (n+m) (xs++a) /\
   w'.os=w.os/\w'.tape=w.tape/\w'.output=w.output/\w.heap.size<=w'.heap.size /\
   (∀k,k<w.heap.size->A.map (·.block)≠some k->w'.heap[k]?=w.heap[k]?)/\(∀k,C.map (·.block)=some k->A.map (·.block)=some k\/w.heap.size<=k)/\(n+m<=c->c'=c):=by
 obtain⟨inf,r,l,F,H⟩:=bI.info hi;have q:(xs++a).length=(n+m) * i.size:=by rw[length_append,d.1,ae,add_mul]
 have y:∀j v,a[j]?=some v->w.cell? ((⟨b,p,none⟩:Addr).add j)=some v:=λj v f=>by rw[Addr.add_lit];exact J j v f
 have K:n+m<=maxLen:=by simp only[maxLen];omega
 have grown:∀(kU:Nat),kU<n+m ->
   fX (w.drew.alloc (.cells (xs.toArray++a.toArray++Builtin.zeroCells i.zero.cells (grownCap w (n+m) kU e-(n+m))) e)) B e i.size (some ⟨w.heap.size,0,none⟩) (grownCap w (n+m) kU e) (n+m) (xs++a):=by
  intro kU _;have Q:=grownCap_ge w (n+m) kU e;have D:=grownCap_le_maxLen w (n+m) kU e K;refine⟨q,.inr ⟨w.heap.size,_,(0,0),rfl,O,heap_alloc_new w.drew _,.inl rfl,Q,D,?_,?_⟩⟩
  ·simp only[Array.size_append,size_toArray,size_zeroCells,N,d.1,ae,<- add_mul]
   congr 1
   omega
  ·simp only[Array.toList_append,append_assoc]
   rw[<- append_assoc,<- q];exact take_left
 have blk:∀o k,k<w.heap.size->(w.drew.alloc o).heap[k]?=w.heap[k]?:=λo k aa=>Below.heap_alloc w.drew o k aa
 rcases d.2 with⟨rfl,rfl,rfl⟩|⟨g,cur,dN,rfl,q9,aR,lM,qd,D,iS,ra⟩
 ·have ai:xs=[]:=eq_nil_of_length_eq_zero (by simpa using d.1)
  subst ai
  by_cases R:m=0
  ·subst R
   have bc:=eq_nil_of_length_eq_zero (by simpa using ae);subst bc;refine⟨none,0,w,?_,by simpa using d,rfl,rfl,rfl,le_refl _,λ_ _ _=>rfl,(λk h=>by cases h),λ_=>rfl⟩
   simp[Builtin.append_,run_underlying bk,sizeOf,typeInfo,r,Builtin.lenOf,Builtin.firstCells,loadCells,loadCellsFrom]
  ·have z:=run_append_nil w t ty e inf i.zero bk r H ⟨b,p,none⟩ m cc a (by rw[ae,l]) y (by omega) (by omega) (by rw[F];have:=E;simp only[zero_add]at this;omega)
   have G:=grown 0 (by omega);simp only[zero_add,nil_append,Array.empty_append]at G ⊢;exact⟨_,_,_,z,G,rfl,rfl,rfl,by simp,λk aa _=>blk _ k aa,λk aa=>.inr (by simp at aa;omega),λU=>by omega⟩
 ·have holds:∀j u,xs[j]?=some u->w.cell? ((⟨g,0,none⟩:Addr).add j)=some u:=λj u hu=>by
   rw[Addr.add_lit,zero_add];have f:j<n * i.size:=by have:=(List.getElem?_eq_some_iff.1 hu).1;rw[d.1]at this;exact this
   rw[d.cells rfl j f];exact hu
  by_cases s:n+m<=c
  ·have S:n * i.size+a.length<=cur.size:=by rw[ae,iS,<- add_mul];exact mul_le_mul_right _ s
   have az:=run_firstCells_some (P:=P) w i.size m ⟨b,p,none⟩ m cc a ae y;have dG:=run_storeCells_cells (P:=P) g (n * i.size) a 0 w (λj f=>by
     simp only[World.cell?,aR]
     simp;omega) (λj f=>by
     simp only[World.frozen?,aR]
     rcases lM with h|h
     ·simp;omega
     ·simp;omega) I
   rw[add_zero,z8 g e dN a _ w cur aR S]at dG;have M:(Builtin.append_ #[t,t] ty #[.slice (some ⟨g,0,none⟩) n c,.slice (some ⟨b,p,none⟩) m cc]).run P w =
     .ok (.slice (some ⟨g,0,none⟩) (n+m) c) (w.setRow g (cur.toList.take (n * i.size)++a++cur.toList.drop (n * i.size+a.length)).toArray):=by
    simp[Builtin.append_,run_underlying bk,sizeOf,typeInfo,r,l,Builtin.lenOf,s,az,Addr.add_lit,dG]
   refine⟨some ⟨g,0,none⟩,c,_,M,⟨q,.inr ⟨g,_,dN,rfl,q9,setRow_heap w g cur _ e _ aR,?_,s,D,?_,?_⟩⟩,rfl,rfl,rfl,by simp,λk _ aa=>setRow_other w g k _ (λL=>aa (by simp[L])),λk aa=>.inl aa,λ_=>rfl⟩
   ·rcases lM with h|h
    ·exact .inl h
    ·exact .inr (by simp;omega)
   ·simp only[size_toArray,length_append,length_take,length_drop,length_toList]
    omega
   ·rw[ra,<- q]
    exact take_left
  ·have z:=run_append_grow w t ty e inf i.zero bk r H ⟨g,0,none⟩ n c xs (by rw[d.1,l]) holds ⟨b,p,none⟩ m cc a (by rw[ae,l]) y (by omega) (by omega) (growslice_fits (by omega) (by rw[F];exact E))
   exact⟨_,_,_,z,grown c (by omega),rfl,rfl,rfl,by simp,λk aa _=>blk _ k aa,λk aa=>.inr (by simp at aa;omega),λU=>absurd U s⟩
end
end
section
def Reads(w:World)(A:Option Addr)(m size:Nat)(a:cl):Prop:=
 a.length=m * size/\(0<m->∃b p,A=some ⟨b,p,none⟩/\∀j u,a[j]?=some u->w.cell? ⟨b,p+j,none⟩=some u)
def kf(A:Option Addr)(l size m:Nat):Option Addr:=if m=l then A else A.map (·.add (l * size))
theorem Reads.nil(w:World)(A:Option Addr)(size:Nat):Reads w A 0 size []:=⟨by simp,λh=>absurd h (by omega)⟩
theorem Reads.cut{w:World}{A:Option Addr}{m size l h c:Nat}{d:cl}(a:Reads w A m size d)(ae:l<=h)(e:h<=m)(U:h<=c) :
  Reads w (kf A l size c) (h-l) size ((d.drop (l * size)).take ((h-l) * size)):=by
 have g:h * size<=m * size:=mul_le_mul_right _ e;refine⟨by rw[length_take,length_drop,a.1,Nat.sub_mul];omega,λal=>?_⟩;obtain⟨b,p,rfl,f⟩:=a.2 (by omega);refine⟨b,p+l * size,?_,λj u hu=>?_⟩
 ·unfold kf
  rw[if_neg (by omega)]
  simp[Addr.add_lit]
 ·rw[getElem?_take]at hu
  split at hu
  ·rw[getElem?_drop]at hu
   have:=f _ u hu
   rw[add_assoc];exact this
  ·cases hu
section
variable {w ak:World} {B:Nat->Prop} {H:c2} {K:bp->c2}
theorem Reads.row(b:bZ B ak H w){A:Option Addr}{c:Nat}{e:TypeId}{size n:Nat}{xs:cl}(az:jM H (.row A c e size n xs) K):Reads w A n size xs:=by
 have a:=b.ok _ az.mem;refine⟨a.1,λbc=>?_⟩
 rcases a.2 with⟨_,I,_⟩|⟨g,cur,dN,I,_⟩
 ·omega
 ·refine⟨g,0,I,λj u hu=>?_⟩
  rw[zero_add,a.cells I j (by have:=(List.getElem?_eq_some_iff.1 hu).1;rw[a.1]at this;exact this)];exact hu
theorem bZ.tx(a:bZ B ak H w)(e:TypeId)(size:Nat):bZ B ak (.row none 0 e size 0 []::H) w:=
 ⟨a.below,a.base,λc U=>by
  rcases List.mem_cons.1 U with rfl|U
  ·exact⟨by simp,.inl ⟨rfl,rfl,rfl⟩⟩
  ·exact a.ok c U,List.Pairwise.cons (λc U b e=>by cases e) a.apart⟩
end
section
variable {P:Program} {ops:Array Oper} {o:Oper} {KK:Act->World->Prop}
variable {n:Nat} {D:List Deferred} {L:List (Nat×Value)} {B:Nat->Prop} {ak:World} {H:c2} {a:Act} {w:World}
variable {T:List (TypeId×bI)} {d:Nat} {K:bp->c2}
theorem Pb{s x:Operand}{t e:TypeId}{i i':bI}{A g:Option Addr}{c k m cc:Nat}{xs z:cl}(f:Sym n D L B ak H a w)(C:o.op=.call { callee:=.builtin .append,args:=#[s,x],argTypes:=#[t,t] })(M:o.guard=none/\o.dst=some d)(ay:blt d n=true)(G:h9 P T)(I:T.lookup t=some i)(J:i.desc=.slice e)(ag:T.lookup e=some i')(S:blt 0 i'.size=true)(R:i'.zero.cells.size=i'.size)(E:aI L s=some (.slice A k c))(ai:aI L x=some (.slice g m cc))(az:jM H (.row A c e i'.size k xs) K)(r:Reads w g m i'.size z)(ad:∀u∈z,u.oneCell'=true)(ab:(k+m) * i'.bytes<=140737488355328)(ac:k+m<=140737488355328)(h:∀j c' aX w',(k+m<=c->c'=c)->Sym n D ((d,.slice j (k+m) c')::L) B ak (K (.row j c' e i'.size (k+m) (xs++z))) aX w'->KK aX w'):fh P ops o KK a w:=by
 have l:=(G _ _ I).1;rw[J]at l;have N:=G _ _ ag;have y:=f.aU.ok _ az.mem
 by_cases aa:m=0
 ·subst aa
  have bc:=eq_nil_of_length_eq_zero (by simpa using r.1);subst bc;have v:(execOp a.eval o).run P w=.ok (.value (.slice A (k+0) c)) w:=by
   have hle:=y.le.1;have af:(Builtin.append_ #[t,t] o.type #[.slice A k c,.slice g 0 cc]).run P w=.ok (.slice A k c) w:=by
    have Z:=bI.run_sizeOf N w;have ah:(Builtin.firstCells i'.size 0 (.slice g 0 cc)).run P w=.ok #[] w:=by
     cases g<;>simp[Builtin.firstCells,loadCells,loadCellsFrom]
    simp only[Builtin.append_]
    simp[run_underlying l,Builtin.lenOf,hle]
    cases A<;>simp[storeCells,Z,ah]
   simp[execOp,C,resolve,invoke,builtin,f.aI E,f.aI ai,af]
  refine sq f M ay v ?_ (λaX w'=>h A c aX w' λ_=>rfl)
  have:=f.aU
  obtain⟨X,Y,rfl,rfl⟩:=az
  simpa using this
 ·obtain⟨b,p,rfl,U⟩:=r.2 (by omega)
  obtain⟨j,c',w',v,Q,am,an,aj,W,O,ae,al⟩:=YT (ty:=o.type) l N (ef S) R y (cc:=cc) r.1 U ad ab ac f.aU.fresh;refine sq f M ay (w':=w') (by simp[execOp,C,resolve,invoke,builtin,f.aI E,f.aI ai,v]) ?_ (λaX w'=>h j c' aX w' al);exact f.aU.vo az ⟨am,an,aj,W,λq F=>O q (f.aU.base q F) (λV=>(bp.ok.lt (c:=.row A c e i'.size k xs) y V).1 F)⟩ Q ae O
theorem DE{s x:Operand}{t e:TypeId}{i i':bI}{A g:Option Addr}{c k m cc:Nat}{xs f:cl}(r:Sym n D L B ak H a w)(j:o.op=.call { callee:=.builtin .append,args:=#[s,x],argTypes:=#[t,t] })(z:o.guard=none/\o.dst=some d)(ay:blt d n=true)(y:h9 P T)(I:T.lookup t=some i)(J:i.desc=.slice e)(ag:T.lookup e=some i')(q:blt 0 i'.size=true)(l:i'.zero.cells.size=i'.size)(p:aI L s=some (.slice A k c))(ai:aI L x=some (.slice g m cc))(az:jM H (.row A c e i'.size k xs) K)(v:Reads w g m i'.size f)(F:∀u∈f,u.oneCell'=true)(C:(k+m) * i'.bytes<=140737488355328)(E:k+m<=140737488355328)(h:∀b c' aX w',Sym n D ((d,.slice b (k+m) c')::L) B ak (K (.row b c' e i'.size (k+m) (xs++f))) aX w'->KK aX w'):fh P ops o KK a w:=
 Pb r j z ay y I J ag q l p ai az v F C E λb c' aX w' _=>h b c' aX w'
end
end
section
section
variable {P:Program} {ops:Array Oper} {o:Oper} {KK:Act->World->Prop}
variable {n:Nat} {D:List Deferred} {L:List (Nat×Value)} {B:Nat->Prop} {ak:World} {H:c2} {a:Act} {w:World}
variable {T:List (TypeId×bI)} {d:Nat} {K:bp->c2}
theorem Pc{u x:Operand}{t e:TypeId}{i i':bI}{A:Option Addr}{m c l:Nat}{k:IntKind}{z:Int}(d:df n D L a)(g:o.op=.slice t u (some x) none none)(f:h9 P T)(I:T.lookup t=some i)(J:i.desc=.slice e)(ag:T.lookup e=some i')(hu:aI L u=some (.slice A m c))(ai:aI L x=some (.int k z))(bO:z=(l:Int))(ae:l<=m) :
  fJ P o a (.slice (kf A l i'.size c) (m-l) (c-l)):=λw=>by
 subst bO;have b:=(f _ _ I).1;rw[J]at b
 simp[execOp,g,d.aI hu,d.aI ai,Instr.sliceAt,Instr.slice,Instr.sliceBounds,Instr.sliceBound,asIntOf,run_underlying b,bI.run_sizeOf (f _ _ ag),ae,kf]
theorem YX{u x:Operand}{t e:TypeId}{i i':bI}{A:Option Addr}{m c h:Nat}{k:IntKind}{z:Int}(d:df n D L a)(g:o.op=.slice t u none (some x) none)(f:h9 P T)(I:T.lookup t=some i)(J:i.desc=.slice e)(ag:T.lookup e=some i')(hu:aI L u=some (.slice A m c))(ai:aI L x=some (.int k z))(bO:z=(h:Int))(ae:h<=c) :
  fJ P o a (.slice A h c):=λw=>by
 subst bO;have b:=(f _ _ I).1;rw[J]at b
 simp[execOp,g,d.aI hu,d.aI ai,Instr.sliceAt,Instr.slice,Instr.sliceBounds,Instr.sliceBound,asIntOf,run_underlying b,bI.run_sizeOf (f _ _ ag),ae]
 by_cases U:c=0
 ·simp[U]
 ·cases A with
  |none=>simp
  |some j=>simp[Addr.add]
theorem YY{u x y:Operand}{t e:TypeId}{i i':bI}{A:Option Addr}{m c l h:Nat}{k k':IntKind}{z g:Int}(b:df n D L a)(j:o.op=.slice t u (some x) (some y) none)(f:h9 P T)(I:T.lookup t=some i)(J:i.desc=.slice e)(ag:T.lookup e=some i')(hu:aI L u=some (.slice A m c))(ai:aI L x=some (.int k z))(aG:aI L y=some (.int k' g))(bO:z=(l:Int))(q:g=(h:Int))(ae:l<=h)(p:h<=c) :
  fJ P o a (.slice (kf A l i'.size c) (h-l) (c-l)):=λw=>by
 subst bO;subst q;have d:=(f _ _ I).1;rw[J]at d
 simp[execOp,j,b.aI hu,b.aI ai,b.aI aG,Instr.sliceAt,Instr.slice,Instr.sliceBounds,Instr.sliceBound,asIntOf,run_underlying d,bI.run_sizeOf (f _ _ ag),ae,p,kf]
def e3(z:cl)(k:Nat):cl:=(replicate k z).flatten
theorem Aa(z:cl)(k:Nat):(e3 z k).length=k * z.length:=by simp[e3]
theorem Pd(z:cl)(bO:0<z.length):∀k:Nat,(range (k * z.length)).map (λj=>z.toArray[j % z.toArray.size]!)=(e3 z k).toArray:=by
 intro k
 apply ext
 ·simp[e3]
 ·intro j I J
  simp only[Array.size_map,Array.size_range]at I;have c:=mod_lt j bO;have g:j<(e3 z k).length:=by rw[Aa];exact I
  have key:∀(k j:Nat),j<k * z.length->(e3 z k)[j]?=z[j % z.length]?:=by
   intro k
   induction k with
   |zero=>intro j a;simp at a
   |succ k f=>
    intro j a
    have:e3 z (k+1)=z++e3 z k:=by simp[e3,List.replicate_succ]
    rw[this]
    by_cases b:j<z.length
    ·rw[List.getElem?_append_left b,Nat.mod_eq_of_lt b]
    ·rw[List.getElem?_append_right (by omega),f (j-z.length) (by rw[add_mul]at a;omega)]
     congr 1
     exact(Nat.mod_eq_sub_mod (by omega)).symm
  have ag:=key k j I;have e:=getElem?_eq_getElem g;rw[e,getElem?_eq_getElem c]at ag;have d:(e3 z k).toArray[j]=(e3 z k)[j]:=by simp
  rw[d,Option.some.inj ag]
  simp[c]
theorem YZ{s x:Operand}{t e:TypeId}{i i':bI}{A y:Option Addr}{c k cc:Nat}{xs f:cl}(l:Sym n D L B ak H a w)(G:o.op=.call { callee:=.builtin .copy,args:=#[s,x],argTypes:=#[t,t] })(O:o.guard=none/\o.dst=some d)(ay:blt d n=true)(N:h9 P T)(I:T.lookup t=some i)(J:i.desc=.slice e)(ag:T.lookup e=some i')(M:aI L s=some (.slice A k c))(ai:aI L x=some (.slice y k cc))(az:jM H (.row A c e i'.size k xs) K)(m:Reads w y k i'.size f)(Z:∀u∈f,u.oneCell'=true)(h:∀aX w',Sym n D ((d,.int .i64 (k:Int))::L) B ak (K (.row A c e i'.size k f)) aX w'->KK aX w'):fh P ops o KK a w:=by
 have z:=(N _ _ I).1;rw[J]at z;have Q:=N _ _ ag;have R:=l.aU.ok _ az.mem
 by_cases aa:k=0
 ·subst aa
  have bc:=eq_nil_of_length_eq_zero (by simpa using m.1);have W:xs=[]:=eq_nil_of_length_eq_zero (by simpa using R.1);subst bc;subst W;have F:(Builtin.copy_ #[t,t] o.type #[.slice A 0 c,.slice y 0 cc]).run P w=.ok (.int .i64 0) w:=by
   have ab:(Builtin.firstCells i'.size 0 (.slice y 0 cc)).run P w=.ok #[] w:=by
    cases y<;>simp[Builtin.firstCells,loadCells,loadCellsFrom]
   cases A<;>simp[Builtin.copy_,run_underlying z,Builtin.lenOf,bI.run_sizeOf Q,ab,storeCells,goInt]
  refine sq l O ay (w':=w) (by simp[execOp,G,resolve,invoke,builtin,l.aI M,l.aI ai,F]) ?_ h
  have:=l.aU
  obtain⟨X,Y,rfl,rfl⟩:=az;exact this
 ·obtain⟨b,p,rfl,U⟩:=m.2 (by omega)
  rcases R.2 with⟨_,aS,_⟩|⟨g,cur,dN,rfl,q9,aR,lM,qd,jN,iS,ra⟩
  ·omega
  ·have ac:0+f.length<=cur.size:=by rw[m.1,iS,zero_add];exact mul_le_mul_right _ qd
   have V:=run_firstCells_some (P:=P) w i'.size k ⟨b,p,none⟩ k cc f m.1 (λj v C=>by rw[Addr.add_lit];exact U j v C);have dG:=run_storeCells_cells (P:=P) g 0 f 0 w (λj C=>by
     simp only[World.cell?,aR]
     simp;omega) (λj C=>by
     simp only[World.frozen?,aR]
     rcases lM with h|h
     ·simp;omega
     ·simp;omega) Z
   rw[add_zero,z8 g e dN f _ w cur aR ac]at dG;have F:(Builtin.copy_ #[t,t] o.type #[.slice (some ⟨g,0,none⟩) k c,.slice (some ⟨b,p,none⟩) k cc]).run P w=.ok (.int .i64 (k:Int)) (w.setRow g (cur.toList.take 0++f++cur.toList.drop (0+f.length)).toArray):=by
    have S:=Nat.min_self k;simp only[Builtin.copy_]
    simp[run_underlying z,Builtin.lenOf,bI.run_sizeOf Q,S,V,dG,goInt]
   refine sq l O ay (w':=w.setRow g (cur.toList.take 0++f++cur.toList.drop (0+f.length)).toArray) (by simp only[execOp,G,resolve,invoke,builtin,Sem.run_bind,Sem.run_pure,Result.andThen_ok,map_toArray,map_cons,map_nil,l.aI M,l.aI ai,F]) ?_ h;refine l.aU.vo az ⟨rfl,rfl,rfl,by simp,λq r=>setRow_other w g q _ (λE=>by subst E;exact q9 r)⟩ (c':=.row (some ⟨g,0,none⟩) c e i'.size k f) ?_ (λq r=>.inl r) λq _ r=>setRow_other w g q _ (λE=>r (by subst E;rfl))
   refine⟨m.1,.inr ⟨g,_,dN,rfl,q9,setRow_heap w g cur _ e _ aR,?_,qd,jN,?_,?_⟩⟩
   ·rcases lM with h|h
    ·exact .inl h
    ·exact .inr (by simp;omega)
   ·simp only[size_toArray,length_append,length_take,length_drop,length_toList]
    omega
   ·simp only[take_zero,nil_append,<- m.1]
    exact take_left
theorem Pe{s x:Operand}{t e:TypeId}{i i':bI}{A C:Option Addr}{c k f m cc:Nat}{xs l:cl}(r:Sym n D L B ak H a w)(Q:o.op=.call { callee:=.builtin .copy,args:=#[s,x],argTypes:=#[t,t] })(S:o.guard=none/\o.dst=some d)(ay:blt d n=true)(R:h9 P T)(I:T.lookup t=some i)(J:i.desc=.slice e)(ag:T.lookup e=some i')(M:aI L s=some (.slice (kf A f i'.size c) (k-f) (c-f)))(ai:aI L x=some (.slice C m cc))(az:jM H (.row A c e i'.size k xs) K)(z:Reads w C m i'.size l)(aj:∀u∈l,u.oneCell'=true)(ar:0<i'.size)(ah:f+m<=k)(h:∀aX w',Sym n D ((d,.int .i64 (m:Int))::L) B ak (K (.row A c e i'.size k (xs.take (f * i'.size)++l++xs.drop (f * i'.size+l.length)))) aX w'->KK aX w'):fh P ops o KK a w:=by
 have E:=(R _ _ I).1;rw[J]at E;have V:=R _ _ ag;have W:=r.aU.ok _ az.mem
 by_cases aa:m=0
 ·subst aa
  have bc:=eq_nil_of_length_eq_zero (by simpa using z.1);subst bc;have O:(Builtin.copy_ #[t,t] o.type #[.slice (kf A f i'.size c) (k-f) (c-f),.slice C 0 cc]).run P w=.ok (.int .i64 0) w:=by
   have an:(Builtin.firstCells i'.size 0 (.slice C 0 cc)).run P w=.ok #[] w:=by
    cases C<;>simp[Builtin.firstCells,loadCells,loadCellsFrom]
   generalize kf A f i'.size c=cu
   cases cu<;>simp[Builtin.copy_,run_underlying E,Builtin.lenOf,bI.run_sizeOf V,an,storeCells,goInt]
  refine sq r S ay (w':=w) (by simp[execOp,Q,resolve,invoke,builtin,r.aI M,r.aI ai,O]) ?_ h
  have:=r.aU
  obtain⟨X,Y,rfl,rfl⟩:=az;rw[append_nil,List.length_nil,add_zero,List.take_append_drop];exact this
 ·obtain⟨b,p,rfl,U⟩:=z.2 (by omega)
  rcases W.2 with⟨_,G,_⟩|⟨g,cur,dN,rfl,q9,aR,lM,qd,jN,iS,ra⟩
  ·omega
  ·have ab:f≠c:=by omega
   have ac:kf (some ⟨g,0,none⟩) f i'.size c=some ⟨g,f * i'.size,none⟩:=by
    unfold kf;rw[if_neg (λe=>ab e.symm)]
    by_cases G:f * i'.size=0
    ·simp[Addr.add,G]
    ·simp[Addr.add,G]
   rw[ac]at M;have am:(f+m) * i'.size<=k * i'.size:=mul_le_mul_right _ ah;have aq:k * i'.size<=c * i'.size:=mul_le_mul_right _ qd;have ap:f * i'.size+l.length<=cur.size:=by
    rw[z.1,iS,<- add_mul];omega
   have af:=run_firstCells_some (P:=P) w i'.size m ⟨b,p,none⟩ m cc l z.1 (λj v F=>by rw[Addr.add_lit];exact U j v F);have dG:=run_storeCells_cells (P:=P) g (f * i'.size) l 0 w (λj F=>by
     simp only[World.cell?,aR]
     simp;omega) (λj F=>by
     simp only[World.frozen?,aR]
     rcases lM with h|h
     ·simp;omega
     ·simp;omega) aj
   rw[add_zero,z8 g e dN l _ w cur aR ap]at dG;have O:(Builtin.copy_ #[t,t] o.type #[.slice (some ⟨g,f * i'.size,none⟩) (k-f) (c-f),.slice (some ⟨b,p,none⟩) m cc]).run P w=.ok (.int .i64 (m:Int)) (w.setRow g (cur.toList.take (f * i'.size)++l++cur.toList.drop (f * i'.size+l.length)).toArray):=by
    have ad:Nat.min m (k-f)=m:=min_eq_left (by omega);simp only[Builtin.copy_]
    simp[run_underlying E,Builtin.lenOf,bI.run_sizeOf V,ad,af,dG,goInt]
   refine sq r S ay (w':=w.setRow g (cur.toList.take (f * i'.size)++l++cur.toList.drop (f * i'.size+l.length)).toArray) (by simp only[execOp,Q,resolve,invoke,builtin,Sem.run_bind,Sem.run_pure,Result.andThen_ok,map_toArray,map_cons,map_nil,r.aI M,r.aI ai,O]) ?_ h;refine r.aU.vo az ⟨rfl,rfl,rfl,by simp,λq y=>setRow_other w g q _ (λN=>by subst N;exact q9 y)⟩ (c':=.row (some ⟨g,0,none⟩) c e i'.size k (xs.take (f * i'.size)++l++xs.drop (f * i'.size+l.length))) ?_ (λq y=>.inl y) λq _ y=>setRow_other w g q _ (λN=>y (by subst N;rfl))
   have al:=W.1;have ao:=z.1.symm;have ae:f * i'.size+l.length<=k * i'.size:=by rw[<- ao,<- add_mul];exact am
   refine⟨?_,.inr ⟨g,_,dN,rfl,q9,setRow_heap w g cur _ e _ aR,?_,qd,jN,?_,?_⟩⟩
   ·simp only[length_append,length_take,length_drop,al]
    omega
   ·rcases lM with h|h
    ·exact .inl h
    ·exact .inr (by simp only[size_toArray,length_append,length_take,length_drop,length_toList];omega)
   ·simp only[size_toArray,length_append,length_take,length_drop,length_toList]
    omega
   ·show(cur.toList.take (f * i'.size)++l++cur.toList.drop (f * i'.size+l.length)).take (k * i'.size)=_
    have Z:(cur.toList.take (f * i'.size)++l).length=f * i'.size+l.length:=by
     simp only[length_append,length_take,length_toList];omega
    rw[take_append,take_of_length_le (by rw[Z];exact ae),Z,<- ra,take_take,min_eq_left (by omega),drop_take]
end
end
section
section
def bp.Y4:bp->Bool
 |.obj _ _=>false
 |_=>true
theorem fX.isCells{w:World}{B:Nat->Prop}{e:TypeId}{size c n:Nat}{A:Option Addr}{xs:cl}(h:fX w B e size A c n xs){b:Nat}(ad:A.map (·.block)=some b):∃cs e a,w.heap[b]?=some (.cells cs e a):=by
 rcases h.2 with⟨rfl,_⟩|⟨g,cur,a,rfl,aR,b7,_⟩
 ·cases ad
 ·have:g=b:=Option.some.inj ad
  subst this;exact⟨_,_,_,b7⟩
theorem bp.ok.cells{B:Nat->Prop}{w:World}{c:bp}(h:c.ok B w)(U:c.Y4=true){b:Nat}(ad:c.has b):∃cs e d,w.heap[b]?=some (.cells cs e d):=by
 cases c with
 |obj b' o=>cases U
 |hF b' cs e=>
  have:b'=b:=Option.some.inj ad
  subst this;exact⟨_,_,_,h.2⟩
 |row A c e size n xs=>exact fX.isCells h ad
 |tree f=>
  obtain⟨r,a,ad⟩:=ad;exact fX.isCells (h.1 r a) ad
section
variable {B:Nat->Prop} {ak w:World}
end
def vt(k:Nat):Deferred:={ target:=.collected k,args:=#[] }
end
end
section
section
variable {r:Option Nat} {P:Program} {ops:Array Oper} {Q:Exit->Act->World->Prop} {o:Oper} {KK:Act->World->Prop} {c:Code}
variable {n:Nat} {D:List Deferred} {L:List (Nat×Value)} {B:Nat->Prop} {ak:World} {H:c2} {a:Act} {w:World} {d:Nat}
theorem DF{N:Nat}{vs:cl}{fn:Func}(aM:fn.ntmps=N)(hle:vs.length<=N)(a:List (Nat×Value))(cY:a=vs.zipIdx.map λp=>(p.2,p.1)) :
  df N [] a { tmps:=vs.toArray++Array.replicate (fn.ntmps-vs.toArray.size) undef,defers:=[] }:=by
 refine⟨by rw[aM];exact YL vs hle,rfl,λs v c=>?_⟩;have key:∀(vs:cl) (k:Nat),((vs.zipIdx k).map λp=>(p.2,p.1)).lookup s=some v->k<=s/\vs[s-k]?=some v:=by
  intro vs
  induction vs with
  |nil=>intro k h;cases h
  |cons u vs d=>
   intro k h;simp only[zipIdx_cons,map_cons,lookup_cons]at h
   by_cases e:s=k
   ·subst e
    simp at h
    subst h
    simp
   ·have f:(s==k)=false:=by simpa using e
    rw[f]at h;obtain⟨I,J⟩:=d (k+1) h;refine⟨by omega,?_⟩;rw[show s-k=(s-(k+1))+1 by omega,getElem?_cons_succ];exact J
 have I:=(key vs 0 (by rw[<- cY];exact c)).2;have b:=(List.getElem?_eq_some_iff.1 I).1;rw[Array.getElem?_append_left (by simpa using b)]
 simpa using I
theorem Pf{fn:Func}{tmps:Array Value}{R:Value->World->Prop}{v:Value}(b:∀w,bZ B ak H w->(results fn tmps).run P w=.ok v w)(h:∀w,bZ B ak H w->R v w) :
  ∀(aq:b6) (w:World),bZ B ak (aq.map (λk=>bp.obj k (.deferred (some [])))++H) w->LeavesInM Fence.wide 0 P fn tmps (λe w'=>∃v,e=.returned v/\R v w') (aq.map vt) .returning w
 |[],w,a=>⟨v,b w a,v,rfl,h w a⟩
 |k::aq,w,a=>by
  have aa:=(a.ok (.obj k (.deferred (some []))) (by simp)).2;refine⟨by simp,.inl ⟨k,_,rfl,run_takeDeferred aa,?_⟩⟩;refine Pf b h aq _ ?_
  have:=(a.z7 (x':=.deferred none) xP).e2 (List.sublist_cons_self _ _)
  exact this
theorem Pg{fn:Func}{R:Value->World->Prop}{v:Value}(aq:b6)(b:Sym n (aq.map vt) L B ak (aq.map (λk=>bp.obj k (.deferred (some [])))++H) a w)(c:∀w,bZ B ak H w->(results fn a.tmps).run P w=.ok v w)(h:∀w,bZ B ak H w->R v w):bodyPostM Fence.wide 0 P fn (λe w'=>∃v,e=.returned v/\R v w') .ret a w:=by
 show LeavesInM _ _ _ _ _ _ a.defers _ _;rw[b.st.defs];exact Pf c h aq w b.aU
end
end
section
theorem bZ.frame{B:Nat->Prop}{ak w w':World}{H1 H g:c2}(h:bZ B ak (H1++H) w)(a:bZ (gB w H1) w g w'):bZ B ak (g++H) w':=by
 have I:=h.e2 (List.sublist_append_left _ _);have J:=h.e2 (List.sublist_append_right _ _);have aa:=I.back a;have lf:=(List.pairwise_append.1 h.apart).2.2;have i:∀c∈H,∀b,c.has b->gB w H1 b:=λc U b e=>⟨((J.ok c U).lt e).2,λd ay f=>lf d ay c U b f e⟩
 refine⟨aa.below,aa.base,λc hm=>?_,List.pairwise_append.2 ⟨aa.apart,J.apart,λc hm d ay b e f=>?_⟩⟩
 ·rcases List.mem_append.1 hm with hm|hm
  ·exact aa.ok c hm
  ·exact(J.ok c hm).ee λb e=>a.below.block b (i c hm b e)
 ·exact((a.ok c hm).lt e).1 (i d ay b f)
theorem Pj{P : Program}{f : FuncId}{fn : Func}{args : Array Value}{w : World}(gC : P.funcs[f]? = some fn)(bc : (fn.name == "runtime.NumGoroutine") = false)(ad : fn.body.isNone = false) : (callFunc f args).run P w = .ok (.enter f args) w := by
 have hQ : fn.name ≠ "runtime.NumGoroutine" := by simpa using bc
 have er:fn.body≠none:=by intro h;rw[h]at ad;cases ad
 simp[callFunc,program,Sem.run,gC,hQ,er]
end
section
section
section
variable {P:Program} {ops:Array Oper} {o:Oper} {KK:Act->World->Prop} {n:Nat} {D:List Deferred} {L:List (Nat×Value)} {B:Nat->Prop} {ak:World} {H:c2} {a:Act} {w:World} {d:Nat} {T:List (TypeId×bI)}
theorem Y5{f:FuncId}{fn:Func}{s:Nat}{gG:cl}{xs:eE}{fA:Array TypeId}{vs:cl}(av:Sym n D L B ak H a w)(aA:o.op=.call { callee:=.value (.tmp s),args:=xs.toArray,argTypes:=fA })(aj:L.lookup s=some (.func (.func f) #[] gG.toArray))(gC:P.funcs[f]?=some fn)(bc : (fn.name == "runtime.NumGoroutine") = false)(ad : fn.body.isNone = false)(aB : jB L xs = some vs) : (execOp a.eval o).run P w = .ok (.enter f (vs ++ gG).toArray) w := by
 have e:a.eval (.tmp s)=.func (.func f) #[] gG.toArray:=av.aI aj
 have hQ : fn.name ≠ "runtime.NumGoroutine" := by simpa using bc
 have er:fn.body≠none:=by intro h;rw[h]at ad;cases ad
 simp[execOp,aA,resolve,e,Deferred.ofValue,invoke,callFunc,program,Sem.run,gC,hQ,er,av.st.jB aB]
theorem Pk{f:FuncId}{fn:Func}{s:Nat}{gG:cl}{xs:eE}{fA:Array TypeId}{vs:cl}{R:Value->World->Prop}(av:Sym n D L B ak H a w)(aA:o.op=.call { callee:=.value (.tmp s),args:=xs.toArray,argTypes:=fA })(bn:o.guard=none/\o.dst=some d)(ay:blt d n=true)(aj:L.lookup s=some (.func (.func f) #[] gG.toArray))(gC : P.funcs[f]? = some fn)(bc : (fn.name == "runtime.NumGoroutine") = false)(ad : fn.body.isNone = false)(aB : jB L xs = some vs)(cJ : qc P f (vs ++ gG).toArray w R)(h:∀v aX w',R v w'->df n D ((d,v)::L) aX->KK aX w'):fh P ops o KK a w:=by
 refine .inl ⟨by simp[Region.wanted,bn.1],.inr (.inr ⟨f,(vs++gG).toArray,w,Y5 av aA aj gC bc ad aB,?_⟩)⟩;refine Calls.mono cJ ?_;rintro e w' ⟨v,rfl,eB⟩;exact⟨v,rfl,h v _ w' eB (by rw[bn.2];exact av.st.put d v (ef ay))⟩
theorem bZ.Y6{b:Nat}{cs:cl}{e:TypeId}{size m:Nat}(a:bZ B ak (.hF b cs e::H) w)(ae:cs.length=m * size)(f:m<=140737488355328):bZ B ak (.row (some ⟨b,0,none⟩) m e size m cs::H) w:=by
 refine⟨a.below,a.base,λc U=>?_,?_⟩
 ·rcases List.mem_cons.1 U with rfl|U
  ·have:=a.ok _ (mem_cons_self)
   exact⟨ae,.inr ⟨b,cs.toArray,(0,0),rfl,this.1,this.2,.inl rfl,le_refl _,by unfold maxLen;omega,by simpa using ae,by simp[<- ae]⟩⟩
  ·exact a.ok c (mem_cons_of_mem _ U)
 ·have:=List.pairwise_cons.1 a.apart
  exact List.Pairwise.cons (λc U b d=>this.1 c U b (by simpa [bp.has] using d)) this.2
inductive rb:cl->Nat->cl->cl->Prop where
 |nil {l:cl}:rb l 0 [] l
 |cons {c v:Value} {l l' vs:cl} (h:rb l 0 vs l'):rb (c::l) 0 (v::vs) (v::l')
 |skip {c:Value} {l l' vs:cl} {k:Nat} (h:rb l k vs l'):rb (c::l) (k+1) vs (c::l')
theorem rb.eq{l l' vs:cl}{k:Nat}(h:rb l k vs l'):l'=l.take k++vs++l.drop (k+vs.length)/\k+vs.length<=l.length:=by
 induction h with
 |nil=>simp
 |cons _ c=>exact⟨by simp only[zero_add,take_zero,nil_append]at c;rw[c.1];simp,by simp only[length_cons]at *;omega⟩
 |skip _ c=>exact⟨by rw[c.1,show ∀a b:Nat,a+1+b=(a+b)+1 by omega];simp,by simp only[length_cons]at *;omega⟩
theorem IM:∀(vs:cl) (l:cl) (k j:Nat),k+j+vs.length<=l.length ->
  ((vs.zipIdx j).foldl (λ(cs:Array Value) (p:Value×Nat)=>cs.setIfInBounds (k+p.2) p.1) l.toArray)=(l.take (k+j)++vs++l.drop (k+j+vs.length)).toArray
 |[],l,k,j,h=>by simp
 |v::vs,l,k,j,h=>by
  simp only[length_cons]at h;simp only[zipIdx_cons,List.foldl_cons];rw[show l.toArray.setIfInBounds (k+j) v=(l.set (k+j) v).toArray by simp];rw[IM vs _ k (j+1) (by simp;omega)]
  congr 1
  rw[show k+(j+1)=k+j+1 by omega,List.take_succ_eq_append_getElem (by simp;omega)];rw[List.take_set_of_le (by omega),List.drop_set_of_lt (by omega)]
  simp[add_comm,Nat.add_left_comm]
theorem Y7{pl:Nat->Option (Nat×Nat)}{z a:cl}{i off size:Nat}{v:Value}{rest:List (Nat×Value)}(al:pl i=some (off,size))(ae:v.cells.size=size)(h:rb z off v.cells.toList a) :
  Instr.fill pl z.toArray ((i,v)::rest)=Instr.fill pl a.toArray rest:=by
 obtain⟨I,J⟩:=h.eq;rw[Instr.fill];simp only[al];rw[if_neg (by simp[ae];simp[ae]at J;omega)]
 congr 1
 have:=IM v.cells.toList z off 0 (by simp only[length_toList];omega)
 rw[I,<- Array.foldl_toList];simp only[add_zero,Array.toList_zipIdx,length_toList]at this ⊢;exact this
end
end
end
section
theorem Y8(a:ByteArray):∀(k i:Nat) (r:dV),a.size-i=k->ByteArray.toList.loop a i r=r.reverse++a.data.toList.drop i:=by
 intro k
 induction k with
 |zero=>
  intro i r h;unfold ByteArray.toList.loop;rw[if_neg (by omega),List.drop_of_length_le (by simp;show a.size<=i;omega),append_nil]
 |succ k b=>
  intro i r h;have hi:i<a.size:=by omega
  unfold ByteArray.toList.loop;rw[if_pos hi,b (i+1) _ (by omega)];have c:i<a.data.toList.length:=by simpa using hi
  rw[List.drop_eq_getElem_cons c]
  have:a.get! i=a.data.toList[i]:=by
   exact getElem!_pos a.data i (by simpa using hi)
  simp[this]
theorem Ab(l:dV):(ByteArray.mk l.toArray).toList=l:=by
 unfold ByteArray.toList;rw[Y8 _ _ 0 [] rfl]
 simp
def gl(l:dV):Value:=.string ⟨l.toArray⟩
section
variable {P:Program} {ops:Array Oper} {Q:Exit->Act->World->Prop} {o:Oper} {KK:Act->World->Prop} {n:Nat} {D:List Deferred} {L:List (Nat×Value)} {B:Nat->Prop} {ak:World} {H:c2} {a:Act} {w:World} {d:Nat} {T:List (TypeId×bI)} {r:Option Nat} {c:Code}
theorem Y9{u v:Operand}{t e:TypeId}{x y:dV}(d:df n D L a)(b:o.op=.binOp .eql t u v e)(hu:aI L u=some (gl x))(c:aI L v=some (gl y)):fJ P o a (.bool (x==y)):=by
 have:=YO (P:=P) d b hu c
 rw[Ab,Ab]at this;exact this
theorem Za{u v:Operand}{t e:TypeId}{x y:dV}(d:df n D L a)(b:o.op=.binOp .neq t u v e)(hu:aI L u=some (gl x))(c:aI L v=some (gl y)):fJ P o a (.bool (!(x==y))):=by
 have:=YP (P:=P) d b hu c
 rw[Ab,Ab]at this;exact this
end
end
section
section
section
variable {P:Program} {ops:Array Oper} {Q:Exit->Act->World->Prop} {o:Oper} {KK:Act->World->Prop} {n:Nat} {D:List Deferred} {L:List (Nat×Value)} {B:Nat->Prop} {ak:World} {H:c2} {a:Act} {w:World} {d:Nat} {T:List (TypeId×bI)} {K:bp->c2}
theorem bZ.rowAt(a:bZ B ak H w){A:Option Addr}{c:Nat}{e:TypeId}{size m:Nat}{xs:cl}(az:jM H (.row A c e size m xs) K)(b:0<m):∃g,A=some ⟨g,0,none⟩:=by
 rcases (a.ok _ az.mem).2 with⟨_,h,_⟩|⟨g,_,_,h,_⟩
 ·omega
 ·exact⟨g,h⟩
end
end
section
open Go.ChangeShapes Go.WideShapes Go.ChangeAt Go.RowKit
section
variable {H:Type} {enc:TypeId×Value->H} {P:Program}
theorem Pl(ae:laidOutB P=true){W e:World}(ad:Below W.heap.size W e){sp:Nat->Bool} :
  ∀(a:List TypeId) (vs:cl) (aK:List (DataW H)) (aH:List MemPlace),(∀t∈a,P.readableRec t=true/\t<P.types.size)->(∀x∈aH,x.block<W.heap.size)->(∀x∈aH,sp x.block=true) ->
   DataW.TrodAll enc P W 0 (λ_=>true) true a vs aK aH->DataW.TrodAll enc P e 0 sp true a vs aK aH
 |[],[],[],aH,_,_,_,h=>h
 |t::a,v::vs,d::aK,aH,b,c,f,h=>by
  obtain⟨p,q,I,J,rfl⟩:=h;refine⟨p,q,WideElems.Trod_stays ae (b t (by simp)).1 (b t (by simp)).2 I (λx ai=>ad.same (c x (by simp[ai]))) (λx ai=>f x (by simp[ai])),?_,rfl⟩;exact Pl ae ad a vs aK q (λg bk=>b g (by simp[bk])) (λx ai=>c x (by simp[ai])) (λx ai=>f x (by simp[ai])) J
 |[],[],_::_,_,_,_,_,h=>h.elim
 |[],_::_,_,_,_,_,_,h=>h.elim
 |_::_,[],_,_,_,_,_,h=>h.elim
 |_::_,_::_,[],_,_,_,_,h=>h.elim
theorem Zb{f:Func}{s:ChangeSpec}{apart fresh handsOn:Bool}{t:TypeId}{W e:World}{args:Array Value}{aK gs:List (DataW H)}{before:List MemPlace}(cS:DataW.Whole enc P f.params.toList s.vars apart W args.toList aK gs before)(d:s.vars=[])(a:s.fn H (aK++gs)={ results:=[.lit (.bool true)],args:=aK })(g:f.resultTypes=#[t])(bk:P.underlying t=some .bool)(ae:laidOutB P=true)(i:∀t∈f.params.toList,P.readableRec t=true/\t<P.types.size)(ad:Below W.heap.size W e):s.post enc P f apart fresh handsOn false W args (.bool true) e:=by
 have b:∀p∈before,p.block<W.heap.size:=λp al=>cS.lt p al
 have c:=cS;obtain⟨p,q,I,J,rfl,_,_⟩:=cS;rw[d]at J;obtain⟨rfl,rfl⟩:=trodVars_none J;simp only[append_nil]at b c a;refine⟨aK,[],p,[],p,[],c,?_,?_,?_,World.keptBut_mono (λx ai=>⟨ai,Or.inr (Or.inl ai)⟩) (ad.frame (·∈p)),λh=>by cases h⟩
 ·simp only[append_nil,a,g]
  exact trodAll_mk1 (shut_bool bk true)
 ·simp only[append_nil,a]
  exact Pl ae ad _ _ _ _ i b (λx ai=>by simpa using b x ai) I
 ·simp only[append_nil,a,d]
  rfl
end
end
section
section
variable {P:Program} {ops:Array Oper} {Q:Exit->Act->World->Prop} {o:Oper} {KK:Act->World->Prop} {n:Nat} {D:List Deferred} {L:List (Nat×Value)} {B:Nat->Prop} {ak:World} {H:c2} {a:Act} {w:World} {d:Nat} {T:List (TypeId×bI)} {K:bp->c2}
end
theorem oL{α:Type}(f:α->cl)(s:Nat)(az:∀x,(f x).length=s)(l:List α):(l.flatMap f).length=l.length * s:=by
 induction l with
 |nil=>simp
 |cons x l a=>rw[flatMap_cons,length_append,a,az,length_cons,add_mul];omega
theorem Pm{α:Type}(f:α->cl)(s:Nat)(az:∀x,(f x).length=s)(l:List α)(k j:Nat)(aa:k<l.length)(v:Value)(a:(f l[k])[j]?=some v):(l.flatMap f)[k * s+j]?=some v:=by
 induction l generalizing k with
 |nil=>simp at aa
 |cons x l c=>
  have ai:=az x;cases k with
  |zero=>
   have b:=(List.getElem?_eq_some_iff.1 a).1;rw[flatMap_cons,List.getElem?_append_left (by simp only[List.getElem_cons_zero]at b;omega)]
   simpa using a
  |succ k=>
   have:=c k (by simpa using aa) (by simpa using a)
   rw[flatMap_cons,List.getElem?_append_right (by rw[ai,add_mul];omega),ai,show(k+1) * s+j-s=k * s+j by rw[add_mul];omega];exact this
theorem Reads.Pn{B:Nat->Prop}{ak w:World}{H:c2}(a:bZ B ak H w){A:Option Addr}{c:Nat}{e:TypeId}{size n:Nat}{xs:cl}(b:bp.row A c e size n xs∈H):Reads w A n size xs:=by
 obtain⟨X,Y,rfl⟩:=List.append_of_mem b;exact Reads.row a ⟨X,Y,rfl,rfl⟩
end
section
open Go.ChangeShapes Go.WideShapes Go.ChangeAt Go.RowKit
section
variable {H:Type} {enc:TypeId×Value->H} {P:Program} {W:World}
theorem Po{a:Addr}{v:Value}(h:W.cell? a=some v):a=⟨a.block,a.off,none⟩:=by
 obtain⟨b,p,s⟩:=a;cases s with
 |none=>rfl
 |some s=>
  exfalso
  simp only[World.cell?]at h
  split at h<;>simp at h
theorem IN{α:Type}{Q:Nat->α->Prop}:∀n:Nat,(∀i,i<n->∃x,Q i x)->∃l:List α,l.length=n/\∀i (hi:i<l.length),Q i l[i]
 |0,_=>⟨[],rfl,λi hi=>by simp at hi⟩
 |n+1,h=>by
  obtain⟨l,ae,b⟩:=IN n (λi hi=>h i (by omega));obtain⟨x,ai⟩:=h n (by omega);refine⟨l++[x],by simp[ae],λi hi=>?_⟩
  by_cases a:i<l.length
  ·rw[List.getElem_append_left a];exact b i a
  ·have:i=n:=by simp at hi;omega
   subst this
   simpa [ae] using ai
theorem Ze{α:Type}{f:α->cl}{s:Nat}(b:∀x,(f x).length=s)(c:0<s){t e:TypeId}{r:Reach}{oM:Nat}{v:Value}{d:DataW H}{aH:List MemPlace}(bk:P.underlying t=some (.slice e))(U:P.cellsOf e=s)(F:∀k cs x,DataW.trod enc P W 0 (λ_=>true) true k e cs=some x->∃y:α,cs=f y)(G:Value.okWide P W r oM t v)(ay:DataW.Trod enc P W 0 (λ_=>true) true t v d aH) :
  ∃A len cap,∃l:List α,v=.slice A len cap/\l.length=len/\len<=cap/\cap<=maxLen/\Reads W A len s (l.flatMap f):=by
 obtain⟨A,len,cap,rfl⟩:=okWide_slice bk G;obtain⟨fuel,az⟩:=ay;have B:(Value.slice A len cap).cells.toList=[.slice A len cap]:=rfl;rw[B]at az
 rcases DataW.trod_slice bk az with⟨h,_⟩|⟨a,anp,anq,elems,rest,n,_,h,_,_,ae,hm,hlen,oN,_,_⟩
 ·simp only[List.cons.injEq,Value.slice.injEq,and_true]at h
  obtain⟨rfl,rfl,rfl⟩:=h;exact⟨none,0,0,[],rfl,rfl,le_refl _,zero_le _,Reads.nil _ _ _⟩
 ·simp only[List.cons.injEq,Value.slice.injEq,and_true]at h
  obtain⟨rfl,rfl,rfl⟩:=h;rw[U]at oN;obtain⟨l,m,w⟩:=IN len (λi hi=>by
   have I:=oN i hi;have J:elems[i]?=some (elems[i]'(by omega)):=getElem?_eq_getElem (by omega);rw[J,Option.bind_eq_some_iff]at I;obtain⟨cs,ag,D⟩:=I;obtain⟨y,rfl⟩:=F _ _ _ D;exact⟨y,(World.cells?_some ag).2.2⟩)
  refine⟨some a,len,cap,l,rfl,m,ae,hm,by rw[oL f s b,m],λL=>?_⟩;have bO:=w 0 (by omega) 0 c;have K:W.cell? a=some ((f l[0])[0]'(by rw[b];exact c)):=by
   have E:(a.add (0 * s)).add 0=a:=by simp[Addr.add]
   rw[E,getElem?_eq_getElem (by rw[b];exact c)]at bO;exact bO
  have z:=Po K;refine⟨a.block,a.off,congrArg some z,λj u hu=>?_⟩;have C:j<len * s:=by have:=(List.getElem?_eq_some_iff.1 hu).1;rwa [oL f s b,m]at this
  have hdiv:j / s<len:=(Nat.div_lt_iff_lt_mul c).2 C;have o:=mod_lt j c;have g:=w (j / s) (by omega) (j % s) o;rw[z,Addr.add_lit,Addr.add_lit,getElem?_eq_getElem (by rw[b];exact o)]at g;have q:=Pm f s b l (j / s) (j % s) (by omega) _ (getElem?_eq_getElem (by rw[b];exact o));have p:j / s * s+j % s=j:=by rw[Nat.mul_comm];exact Nat.div_add_mod j s
  rw[p,hu]at q;rw[add_assoc,p]at g;rw[g,q]
end
end
section
section
variable {P:Program} {ops:Array Oper} {Q:Exit->Act->World->Prop} {o:Oper} {KK:Act->World->Prop} {n:Nat} {D:List Deferred} {L:List (Nat×Value)} {B:Nat->Prop} {ak:World} {H:c2} {a:Act} {w:World} {d:Nat} {T:List (TypeId×bI)} {K:bp->c2}
theorem Pp{u y v:Operand}{t e:TypeId}{i i':bI}{A:Option Addr}{m c h q:Nat}{k' k:IntKind}{j d:Int}(b:df n D L a)(p:o.op=.slice t u none (some y) (some v))(g:h9 P T)(I:T.lookup t=some i)(J:i.desc=.slice e)(ag:T.lookup e=some i')(hu:aI L u=some (.slice A m c))(aG:aI L y=some (.int k' j))(r:aI L v=some (.int k d))(B:j=(h:Int))(l:d=(q:Int))(z:h<=q)(s:q<=c) :
  fJ P o a (.slice A h q):=λw=>by
 subst B;subst l;have f:=(g _ _ I).1;rw[J]at f
 simp[execOp,p,b.aI hu,b.aI aG,b.aI r,Instr.sliceAt,Instr.slice,Instr.sliceBounds,Instr.sliceBound,asIntOf,run_underlying f,bI.run_sizeOf (g _ _ ag),z,s]
 by_cases U:q=0
 ·simp[U]
 ·cases A with
  |none=>simp
  |some C=>simp[Addr.add]
theorem Zg{s x:Operand}{t e:TypeId}{i i':bI}{b p A z c k m cc:Nat}{xs f:cl}(l:Sym n D L B ak H a w)(K:o.op=.call { callee:=.builtin .append,args:=#[s,x],argTypes:=#[t,t] })(O:o.guard=none/\o.dst=some d)(ay:blt d n=true)(E:h9 P T)(I:T.lookup t=some i)(J:i.desc=.slice e)(ag:T.lookup e=some i')(ae:blt 0 i'.size=true)(M:i'.zero.cells.size=i'.size)(N:aI L s=some (.slice (some ⟨b,p,none⟩) k c))(ai:aI L x=some (.slice (some ⟨A,z,none⟩) m cc))(aa:0<k)(S:0<m)(y:Reads w (some ⟨b,p,none⟩) k i'.size xs)(v:Reads w (some ⟨A,z,none⟩) m i'.size f)(ad:c<k+m)(U:(k+m) * i'.bytes<=140737488355328)(af:k+m<=140737488355328)(h:∀g c' aX w',Sym n D ((d,.slice (some ⟨g,0,none⟩) (k+m) c')::L) B ak (.row (some ⟨g,0,none⟩) c' e i'.size (k+m) (xs++f)::H) aX w'->KK aX w'):fh P ops o KK a w:=by
 have C:=(E _ _ I).1;rw[J]at C;have Q:=E _ _ ag;obtain⟨inf,ab,F,V,Z⟩:=bI.info Q;obtain⟨b',p',r,W⟩:=y.2 aa;cases r;obtain⟨b',p',r,Y⟩:=v.2 S;cases r;have G:(xs++f).length=(k+m) * i'.size:=by rw[length_append,y.1,v.1,add_mul]
 have R:=run_append_grow w t o.type e inf i'.zero C ab Z ⟨b,p,none⟩ k c xs (by rw[y.1,F]) (λj u hu=>by rw[Addr.add_lit];exact W j u hu) ⟨A,z,none⟩ m cc f (by rw[v.1,F]) (λj u hu=>by rw[Addr.add_lit];exact Y j u hu) (by omega) (by omega) (growslice_fits (by omega) (by rw[V];exact U));have ac:=grownCap_ge w (k+m) c e;have X:=grownCap_le_maxLen w (k+m) c e (by simp only[maxLen];omega);refine sq l O ay (w':=w.drew.alloc (.cells (xs.toArray++f.toArray++Builtin.zeroCells i'.zero.cells (grownCap w (k+m) c e-(k+m))) e)) (by simp[execOp,K,resolve,invoke,builtin,l.aI N,l.aI ai,R]) ?_ (h w.heap.size (grownCap w (k+m) c e));have mP:=l.aU.drew;have bh:=mP.alloc (.cells (xs.toArray++f.toArray++Builtin.zeroCells i'.zero.cells (grownCap w (k+m) c e-(k+m))) e);have al:=List.pairwise_cons.1 bh.apart;refine⟨bh.below,bh.base,λeA ik=>?_,List.Pairwise.cons (λeA ik q r=>al.1 eA ik q (by simpa [bp.has] using r)) al.2⟩
 rcases List.mem_cons.1 ik with rfl|ik
 ·refine⟨G,.inr ⟨w.heap.size,_,(0,0),rfl,l.aU.fresh,heap_alloc_new w.drew _,.inl rfl,ac,X,?_,?_⟩⟩
  ·simp only[Array.size_append,size_toArray,size_zeroCells,M,y.1,v.1,<- add_mul]
   congr 1
   omega
  ·simp only[Array.toList_append,append_assoc]
   rw[<- append_assoc,<- G];exact take_left
 ·exact bh.ok eA (mem_cons_of_mem _ ik)
end
end
inductive a7 where
 |int (k:IntKind)
 |bool
 |str
 |ax (g:a7)
 |hX (g:a7)
 |unit
 |fn
 |pair (g h:a7)
 deriving DecidableEq
abbrev a7.D:a7->Type
 |.int _=>Int
 |.bool=>Bool
 |.str=>dV
 |.ax g=>List g.D
 |.hX g=>List g.D
 |.unit=>Unit
 |.fn=>Option Nat
 |.pair g h=>g.D×h.D
def a7.size:a7->Nat
 |.pair g h=>g.size+h.size
 |.unit=>0
 |_=>1
abbrev a7.zero:(g:a7)->g.D
 |.int _=>(0:Int)
 |.bool=>false
 |.str=>([]:dV)
 |.ax g=>([]:List g.D)
 |.hX g=>([]:List g.D)
 |.unit=>()
 |.fn=>(none:Option Nat)
 |.pair g h=>(g.zero,h.zero)
def Flat{α:Type}(R:α->cl->Prop):List α->cl->Prop
 |[],vs=>vs=[]
 |x::l,vs=>∃a b,vs=a++b/\R x a/\Flat R l b
def oO(B:Nat->Prop)(w:World)(A:Option Addr)(m size:Nat)(vs:cl):Prop:=Reads w A m size vs/\∀b p,0<m->A=some ⟨b,p,none⟩->B b
def Zh:Option Nat->Value
 |none=>.nilFunc
 |some f=>.func (.func f) #[] #[]
def bR(B:Nat->Prop)(w:World):(g:a7)->g.D->cl->Prop
 |.int k=>λ(x:Int) vs=>vs=[.int k x]
 |.bool=>λ(x:Bool) vs=>vs=[.bool x]
 |.str=>λ(x:dV) vs=>vs=[gl x]
 |.ax g=>λ(l:List g.D) vs=>∃A c xs,vs=[.slice A l.length c]/\l.length<=c/\c<=maxLen/\Flat (bR B w g) l xs/\oO B w A l.length g.size xs
 |.hX g=>λ(l:List g.D) vs=>∃A xs,vs=[.slice A l.length l.length]/\l.length<=maxLen/\Flat (bR B w g) l xs/\oO B w A l.length g.size xs
 |.unit=>λ_ vs=>vs=[]
 |.fn=>λ(x:Option Nat) vs=>vs=[Zh x]
 |.pair g h=>λ(x:g.D×h.D) vs=>∃a b,vs=a++b/\bR B w g x.1 a/\bR B w h x.2 b
theorem Flat.mono{α:Type}{R a:α->cl->Prop}(h:∀x vs,R x vs->a x vs):∀ {l:List α} {vs:cl},Flat R l vs->Flat a l vs
 |[],_,az=>az
 |_::_,_,⟨b,c,e,I,J⟩=>⟨b,c,e,h _ _ I,Flat.mono h J⟩
theorem Flat.length{α:Type}{R:α->cl->Prop}{k:Nat}(h:∀x vs,R x vs->vs.length=k):∀ {l:List α} {vs:cl},Flat R l vs->vs.length=l.length * k
 |[],_,az=>by rw[show _=[] from az];simp
 |_::l,_,⟨a,b,e,I,J⟩=>by
  rw[e,length_append,h _ _ I,Flat.length h J,length_cons,add_mul,one_mul,add_comm]
theorem Flat.append{α:Type}{R:α->cl->Prop}:∀ {l l':List α} {vs b:cl},Flat R l vs->Flat R l' b->Flat R (l++l') (vs++b)
 |[],_,_,_,h,a=>by rw[show _=[] from h];exact a
 |_::l,_,_,_,⟨c,d,e,I,J⟩,a=>⟨c,_,by rw[e,append_assoc],I,Flat.append J a⟩
theorem Flat.split{α:Type}{R:α->cl->Prop}{k:Nat}(h:∀x vs,R x vs->vs.length=k):∀ {l:List α} {vs:cl} (n:Nat),Flat R l vs->Flat R (l.take n) (vs.take (n * k))/\Flat R (l.drop n) (vs.drop (n * k))
 |[],vs,n,az=>by rw[show vs=[] from az];simp[Flat]
 |x::l,vs,0,az=>by simp only[take_zero,Nat.zero_mul,List.drop_zero];exact⟨rfl,az⟩
 |x::l,vs,n+1,⟨a,b,e,I,J⟩=>by
  obtain⟨bh,ad⟩:=Flat.split h n J;have aa:=h _ _ I;have c:(a++b).take ((n+1) * k)=a++b.take (n * k):=by
   rw[take_append,take_of_length_le (by rw[aa,add_mul];omega),aa]
   congr 2
   rw[add_mul];omega
  have d:(a++b).drop ((n+1) * k)=b.drop (n * k):=by
   rw[List.drop_append,List.drop_of_length_le (by rw[aa,add_mul];omega),aa,nil_append]
   congr 1
   rw[add_mul];omega
  rw[e,c,d];exact⟨⟨a,_,rfl,I,bh⟩,ad⟩
theorem Flat.get{α:Type}{R:α->cl->Prop}{k:Nat}(h:∀x vs,R x vs->vs.length=k){l:List α}{vs:cl}(az:Flat R l vs){i:Nat}{x:α}(hi:l[i]?=some x):R x ((vs.drop (i * k)).take k):=by
 obtain⟨_,J⟩:=Flat.split h i az;have a:=(List.getElem?_eq_some_iff.1 hi).1;have e:l.drop i=x::l.drop (i+1):=by
  rw[List.drop_eq_getElem_cons a,(List.getElem?_eq_some_iff.1 hi).2]
 rw[e]at J;obtain⟨c,d,b,ag,_⟩:=J;rw[b,take_append,take_of_length_le (by rw[h _ _ ag];exact le_refl _),h _ _ ag,Nat.sub_self,take_zero,append_nil];exact ag
theorem Flat.set{α:Type}{R:α->cl->Prop}{k:Nat}(h:∀x vs,R x vs->vs.length=k){l:List α}{vs:cl}(az:Flat R l vs){i:Nat}(hi:i<l.length){x:α}{us:cl}(ai:R x us) :
  Flat R (l.set i x) (vs.take (i * k)++us++vs.drop (i * k+k)):=by
 obtain⟨I,_⟩:=Flat.split h i az;obtain⟨_,J⟩:=Flat.split h (i+1) az;rw[List.set_eq_take_append_cons_drop,if_pos hi,append_assoc];refine I.append ⟨us,_,rfl,ai,?_⟩;rw[add_mul,one_mul]at J;exact J
theorem bR.length{B:Nat->Prop}{w:World}:∀ {g:a7} {x:g.D} {vs:cl},bR B w g x vs->vs.length=g.size
 |.int _,_,_,h=>by rw[show _=[_] from h];rfl
 |.bool,_,_,h=>by rw[show _=[_] from h];rfl
 |.str,_,_,h=>by rw[show _=[_] from h];rfl
 |.ax _,_,_,⟨_,_,_,h,_⟩=>by rw[h];rfl
 |.hX _,_,_,⟨_,_,h,_⟩=>by rw[h];rfl
 |.unit,_,_,h=>by rw[show _=[] from h];rfl
 |.fn,_,_,h=>by rw[show _=[_] from h];rfl
 |.pair g h,_,_,⟨a,b,e,I,J⟩=>by rw[e,length_append,bR.length I,bR.length J];rfl
theorem bR.oL{B:Nat->Prop}{w:World}{g:a7}{l:List g.D}{vs:cl}(h:Flat (bR B w g) l vs):vs.length=l.length * g.size:=Flat.length (λ_ _=>bR.length) h
def pB(a:Bool)(B:Nat->Prop)(w:World)(g:a7)(x:List g.D)(vs:cl):Prop:=match a with
 |true=>bR B w (.hX g) x vs
 |false=>bR B w (.ax g) x vs
theorem pB.length{a:Bool}{B:Nat->Prop}{w:World}{g:a7}{x:List g.D}{vs:cl}(h:pB a B w g x vs):vs.length=1:=by
 cases a with
 |true=>exact bR.length h
 |false=>exact bR.length h
theorem pB.oL{a:Bool}{B:Nat->Prop}{w:World}{g:a7}{l:List (List g.D)}{vs:cl}(h:Flat (pB a B w g) l vs):vs.length=l.length:=by
 have:=Flat.length (λ_ _=>pB.length) h
 omega
structure gm(B:Nat->Prop)(w:World)(B':Nat->Prop)(w':World):Prop where
 sub:∀k,B k->B' k
 same:∀k,B k->w'.heap[k]?=w.heap[k]?
theorem gm.cell{B B':Nat->Prop}{w w':World}(h:gm B w B' w'){b o:Nat}(ad:B b):w'.cell? ⟨b,o,none⟩=w.cell? ⟨b,o,none⟩:=World.cell?_of_block (h.same b ad)
theorem oO.up{B B':Nat->Prop}{w w':World}(h:gm B w B' w'){A:Option Addr}{m size:Nat}{vs:cl}(a:oO B w A m size vs):oO B' w' A m size vs:=by
 refine⟨⟨a.1.1,λc=>?_⟩,λb p c e=>h.sub b (a.2 b p c e)⟩;obtain⟨b,p,e,U⟩:=a.1.2 c;exact⟨b,p,e,λj u hu=>by rw[h.cell (a.2 b p c e)];exact U j u hu⟩
theorem bR.up{B B':Nat->Prop}{w w':World}(h:gm B w B' w'):∀ {g:a7} {x:g.D} {vs:cl},bR B w g x vs->bR B' w' g x vs
 |.int _,_,_,az=>az
 |.bool,_,_,az=>az
 |.str,_,_,az=>az
 |.ax _,_,_,⟨A,c,xs,e,I,J,ag,a⟩=>⟨A,c,xs,e,I,J,Flat.mono (λ_ _=>bR.up h) ag,a.up h⟩
 |.hX _,_,_,⟨A,xs,e,J,ag,a⟩=>⟨A,xs,e,J,Flat.mono (λ_ _=>bR.up h) ag,a.up h⟩
 |.unit,_,_,az=>az
 |.fn,_,_,az=>az
 |.pair _ _,_,_,⟨b,d,e,I,J⟩=>⟨b,d,e,bR.up h I,bR.up h J⟩
theorem pB.up{B B':Nat->Prop}{w w':World}(h:gm B w B' w'){a:Bool}{g:a7}{x:List g.D}{vs:cl}(az:pB a B w g x vs):pB a B' w' g x vs:=by
 cases a with
 |true=>exact bR.up h az
 |false=>exact bR.up h az
inductive fa where
 |id (i:Nat)
 |eF (g:a7) (x:g.D)
abbrev ep:=List fa
inductive bs where
 |val (v:Value)
 |str (s:dV)
 |dead
 |ptr (id off:Nat)
 |e4 (id cM i off:Nat)
 |gn (g:a7) (x:g.D) (off:Nat)
 |par (g:a7) (l:List g.D)
 |ax (id:Nat)
 |bo (g:a7) (l:List g.D) (cap:Option Nat)
 |fn (f:FuncId) (ids:ep)
 |dY (id:Nat)
 |jD (f:FuncId) (id:Nat)
 |il (id o:Nat)
 |jE (id s o:Nat)
 |jR (id:Nat)
 |iF (b:Bool) (id:Nat)
abbrev dI:=List bs
inductive bq where
 |c (x:bs)
 |agg (cs:dI)
 |arr (g:a7) (l:List g.D)
abbrev dO:=List bq
inductive cd where
 |a (x:bq)
 |may (g:Bool) (x:bq)
 |da (vs:dO)
abbrev cd.c(x:bs):cd:=.a (.c x)
inductive Loc where
 |no
 |blk (b:Nat)
 |row (A:Option Addr) (c n:Nat)
def At(B:Nat->Prop)(w:World)(g:a7)(x:g.D)(b o:Nat):Prop:=B b/\∃vs,bR B w g x vs/\∀j u,vs[j]?=some u->w.cell? ⟨b,o+j,none⟩=some u
def Zi(env:Nat->Loc)(B:Nat->Prop)(w:World):fa->Value->Prop
 |.id i,v=>∃b,env i=.blk b/\v=.pointer (some ⟨b,0,none⟩)
 |.eF g x,v=>∃b o,v=.pointer (some ⟨b,o,none⟩)/\At B w g x b o
def fb(env:Nat->Loc)(B:Nat->Prop)(w:World):ep->cl->Prop
 |[],vs=>vs=[]
 |c::cs,vs=>∃v r,vs=v::r/\Zi env B w c v/\fb env B w cs r
def dR(env:Nat->Loc)(B:Nat->Prop)(w:World):bs->Value->Prop
 |.val v,u=>u=v
 |.str s,u=>u=gl s
 |.dead,_=>True
 |.ptr id off,u=>∃b,env id=.blk b/\u=.pointer (some ⟨b,off,none⟩)
 |.e4 id a i off,u=>∃b c n,env id=.row (some ⟨b,0,none⟩) c n/\u=.pointer (some ⟨b,i * a+off,none⟩)
 |.gn g x off,u=>∃b o,u=.pointer (some ⟨b,o+off,none⟩)/\At B w g x b o
 |.par g l,u=>∃b o vs,u=.pointer (some ⟨b,o,none⟩)/\B b/\Flat (bR B w g) l vs/\∀j u,vs[j]?=some u->w.cell? ⟨b,o+j,none⟩=some u
 |.ax id,u=>∃A c n,env id=.row A c n/\u=.slice A n c
 |.bo g l cap,u=>∃A c xs,u=.slice A l.length c/\l.length<=c/\c<=maxLen/\(∀k,cap=some k->c=k)/\Flat (bR B w g) l xs/\oO B w A l.length g.size xs
 |.fn f ids,u=>∃vs,u=.func (.func f) #[] vs.toArray/\fb env B w ids vs
 |.dY id,u=>∃b,env id=.blk b/\u=.map (some b)
 |.jD f id,u=>∃b,env id=.blk b/\u=.func (.func f) #[.pointer (some ⟨b,0,none⟩)] #[]
 |.jE id s o,u=>∃A c n,env id=.row A c n/\o<=n/\u=.slice (kf A o s c) (n-o) (c-o)
 |.jR id,u=>∃A c n,env id=.row A c n/\u=.int .i64 (c:Int)
 |.il id o,u=>∃b c n,env id=.row (some ⟨b,0,none⟩) c n/\u=.pointer (some ⟨b,o,none⟩)
 |.iF b id,u=>∃k,(b=true->env id=.blk k)/\u=.pointer (if b then some ⟨k,0,none⟩else none)
def cO(env:Nat->Loc)(B:Nat->Prop)(w:World):dI->cl->Prop
 |[],vs=>vs=[]
 |c::cs,vs=>∃v r,vs=v::r/\dR env B w c v/\cO env B w cs r
def dU(env:Nat->Loc)(B:Nat->Prop)(w:World):bq->Value->Prop
 |.c x,v=>dR env B w x v
 |.agg cs,v=>∃vs,v=.agg vs.toArray/\cO env B w cs vs
 |.arr g l,v=>∃vs,v=.agg vs.toArray/\Flat (bR B w g) l vs
def dw(env:Nat->Loc)(B:Nat->Prop)(w:World):dO->cl->Prop
 |[],vs=>vs=[]
 |c::cs,vs=>∃v r,vs=v::r/\dU env B w c v/\dw env B w cs r
def eK(env:Nat->Loc)(B:Nat->Prop)(w:World):cd->Value->Prop
 |.a x,v=>dU env B w x v
 |.may g x,v=>(g=true->dU env B w x v)/\(g=false->v=undef)
 |.da xs,v=>∃vs,v=.tuple vs.toArray/\dw env B w xs vs
theorem At.up{B B':Nat->Prop}{w w':World}(h:gm B w B' w'){g:a7}{x:g.D}{b o:Nat}(bh:At B w g x b o):At B' w' g x b o:=by
 obtain⟨ad,vs,I,J⟩:=bh;exact⟨h.sub b ad,vs,bR.up h I,λj u hu=>by rw[h.cell ad];exact J j u hu⟩
theorem fb.up{env:Nat->Loc}{B B':Nat->Prop}{w w':World}(h:gm B w B' w'):∀ {cs:ep} {vs:cl},fb env B w cs vs->fb env B' w' cs vs
 |[],_,U=>U
 |.id _::_,_,⟨v,r,e,I,J⟩=>⟨v,r,e,I,fb.up h J⟩
 |.eF _ _::_,_,⟨v,r,e,⟨b,o,I,ag⟩,J⟩=>⟨v,r,e,⟨b,o,I,ag.up h⟩,fb.up h J⟩
theorem dR.up{env:Nat->Loc}{B B':Nat->Prop}{w w':World}(h:gm B w B' w'):∀ {c:bs} {v:Value},dR env B w c v->dR env B' w' c v
 |.val _,_,U=>U
 |.str _,_,U=>U
 |.dead,_,U=>U
 |.ptr _ _,_,U=>U
 |.e4 _ _ _ _,_,U=>U
 |.gn _ _ _,_,⟨b,o,e,bh⟩=>⟨b,o,e,bh.up h⟩
 |.par _ _,_,⟨b,o,vs,e,ad,I,J⟩=>⟨b,o,vs,e,h.sub b ad,Flat.mono (λ_ _=>bR.up h) I,λj u hu=>by rw[h.cell ad];exact J j u hu⟩
 |.ax _,_,U=>U
 |.bo _ _ _,_,⟨A,c,xs,e,I,J,ag,d,a⟩=>⟨A,c,xs,e,I,J,ag,Flat.mono (λ_ _=>bR.up h) d,a.up h⟩
 |.fn _ _,_,⟨vs,e,al⟩=>⟨vs,e,al.up h⟩
 |.dY _,_,U=>U
 |.jD _ _,_,U=>U
 |.il _ _,_,U=>U
 |.jE _ _ _,_,U=>U
 |.jR _,_,U=>U
 |.iF _ _,_,U=>U
theorem cO.up{env:Nat->Loc}{B B':Nat->Prop}{w w':World}(h:gm B w B' w'):∀ {c:dI} {v:cl},cO env B w c v->cO env B' w' c v
 |[],_,U=>U
 |_::_,_,⟨v,r,e,I,J⟩=>⟨v,r,e,I.up h,cO.up h J⟩
theorem dU.up{env:Nat->Loc}{B B':Nat->Prop}{w w':World}(h:gm B w B' w'):∀ {c:bq} {v:Value},dU env B w c v->dU env B' w' c v
 |.c _,_,U=>dR.up h U
 |.agg _,_,⟨vs,e,I⟩=>⟨vs,e,I.up h⟩
 |.arr _ _,_,⟨vs,e,I⟩=>⟨vs,e,Flat.mono (λ_ _=>bR.up h) I⟩
theorem dw.up{env:Nat->Loc}{B B':Nat->Prop}{w w':World}(h:gm B w B' w'):∀ {c:dO} {v:cl},dw env B w c v->dw env B' w' c v
 |[],_,U=>U
 |_::_,_,⟨v,r,e,I,J⟩=>⟨v,r,e,I.up h,dw.up h J⟩
theorem eK.up{env:Nat->Loc}{B B':Nat->Prop}{w w':World}(h:gm B w B' w'):∀ {c:cd} {v:Value},eK env B w c v->eK env B' w' c v
 |.a _,_,U=>dU.up h U
 |.may _ _,_,U=>⟨λa=>(U.1 a).up h,U.2⟩
 |.da _,_,⟨vs,e,I⟩=>⟨vs,e,I.up h⟩
section
structure cr where
 ti:bI
 g:Option a7
def a7.e3:a7->cl
 |.int k=>[.int k 0]
 |.bool=>[.bool false]
 |.str=>[gl []]
 |.ax _=>[.slice none 0 0]
 |.hX _=>[.slice none 0 0]
 |.unit=>[]
 |.fn=>[.nilFunc]
 |.pair g h=>g.e3++h.e3
structure cr.ok(P:Program)(t:TypeId)(e:cr):Prop where
 ti:bI.ok P t e.ti
 g:∀g,e.g=some g->g.size=e.ti.size/\e.ti.zero.cells.toList=g.e3/\0<g.size
inductive cm where
 |leaf
 |node (l:cm) (k:TypeId) (e:cr) (r:cm)
def cm.find:cm->TypeId->Option cr
 |.leaf,_=>none
 |.node l k e r,t=>match blt t k with
  |true=>l.find t
  |false=>match beq t k with
   |true=>some e
   |false=>r.find t
def cm.ok(P:Program):cm->Prop
 |.leaf=>True
 |.node l k e r=>l.ok P/\cr.ok P k e/\r.ok P
theorem cm.get{P:Program}:∀ {a6:cm} {t:TypeId} {e:cr},a6.ok P->a6.find t=some e->cr.ok P t e
 |.leaf,_,_,_,h=>by cases h
 |.node l k a r,t,e,⟨I,J,ag⟩,h=>by
  unfold cm.find at h
  split at h
  ·exact cm.get I h
  ·split at h
   ·rename_i aa
    have:t=k:=eq_of_beq_eq_true aa
    subst this;cases h;exact J
   ·exact cm.get ag h
theorem bI.uniq{P:Program}{t:TypeId}{i j:bI}(h:bI.ok P t i)(k:bI.ok P t j):i=j:=by
 obtain⟨a,b,c,d⟩:=i;have I:=h.1.symm.trans k.1;have J:=h.2.symm.trans k.2;simp only[Option.some.injEq,Prod.mk.injEq]at I J;obtain⟨rfl,rfl,rfl⟩:=J;subst I
 rfl
theorem DI{P:Program}{t:TypeId}{i:bI}(h:bI.ok P t i):∃T,h9 P T/\T.lookup t=some i:=⟨[(t,i)],h9.cons h (h9.nil _),by simp⟩
theorem nD{P:Program}{t e:TypeId}{i j:bI}(h:bI.ok P t i)(k:bI.ok P e j):∃T,h9 P T/\T.lookup t=some i/\T.lookup e=some j:=by
 refine⟨[(t,i),(e,j)],h9.cons h (h9.cons k (h9.nil _)),by simp,?_⟩
 by_cases he:e=t
 ·subst he
  rw[bI.uniq h k]
  simp
 ·simp[lookup_cons,beq_false_of_ne he]
inductive cD where
 |cells (t:TypeId) (cs:dI)
 |row (t:TypeId) (g:a7) (l:List g.D) (cap:Option Nat)
 |lg (s:ByteArray) (pos:Nat)
 |mp (br bj:a7) (l:List (br.D×bj.D)) (o:Option (List MapEntry×Nat))
 |it (fi:Nat) (es:List MapEntry) (clock:Nat) (aH:b6)
 |lh
 |hY (fi:Nat)
 |cP (el:Bool) (t:TypeId) (g:a7) (l:List (List g.D)) (cap:Option Nat) (i d:Nat)
 |lN
 |gT (t:TypeId) (g:a7) (l:List g.D)
 |b0 (t bM:TypeId) (g:a7) (l:List (Bool×List g.D)) (cap:Option Nat) (h:Option (Nat×Option Nat))
abbrev bC:=List (Nat×cD)
abbrev cU:=List (Nat×cd)
structure aO where
 L:cU
 H:bC
def bm{α:Type}:List (Nat×α)->Nat->Option α
 |[],_=>none
 |(k,v)::r,s=>match beq s k with
  |true=>some v
  |false=>bm r s
theorem cI{α:Type}{k:Nat}{v:α}{r:List (Nat×α)}{s:Nat}:bm ((k,v)::r) s=if s=k then some v else bm r s:=by
 show(match beq s k with|true=>some v|false=>bm r s)=_
 split
 ·rename_i h
  rw[if_pos (eq_of_beq_eq_true h)]
 ·rename_i h
  rw[if_neg (ne_of_beq_eq_false h)]
def eL(B:Nat->Prop)(w:World):(g:a7)->g.D->Value->Prop
 |.pair g h=>λx v=>∃vs,v=.agg vs.toArray/\bR B w (.pair g h) x vs
 |g=>λx v=>bR B w g x [v]
theorem eL.up{B B':Nat->Prop}{w w':World}(h:gm B w B' w'):∀ {g:a7} {x:g.D} {v:Value},eL B w g x v->eL B' w' g x v
 |.pair _ _,_,_,⟨vs,e,I⟩=>⟨vs,e,bR.up h I⟩
 |.int _,_,_,I=>bR.up h I
 |.bool,_,_,I=>bR.up h I
 |.str,_,_,I=>bR.up h I
 |.ax _,_,_,I=>bR.up h I
 |.hX _,_,_,I=>bR.up h I
 |.unit,_,_,I=>bR.up h I
 |.fn,_,_,I=>bR.up h I
def gP(B:Nat->Prop)(w:World)(br bj:a7):List (br.D×bj.D)->List MapEntry->Prop
 |[],a=>a=[]
 |x::l,a=>∃e r,a=e::r/\eL B w br x.1 e.key/\eL B w bj x.2 e.val/\gP B w br bj l r
theorem gP.up{B B':Nat->Prop}{w w':World}(h:gm B w B' w'){br bj:a7}:∀ {l:List (br.D×bj.D)} {a:List MapEntry},gP B w br bj l a->gP B' w' br bj l a
 |[],_,c=>c
 |_::_,_,⟨e,r,b,I,J,ag⟩=>⟨e,r,b,I.up h,J.up h,gP.up h ag⟩
def Stamped(a:List MapEntry)(clock:Nat):Prop:=(a.map (·.born)).Pairwise (· < ·)/\∀b∈a.map (·.born),b<clock
def Zj(a:List MapEntry)(aH:b6):b6:=aH.map λj=>((a[j]?).map (·.born)).getD 0
def dW(B:Nat->Prop)(w:World)(a:TypeId)(g:a7):List (Bool×List g.D)->cl->List gO->Prop
 |[],vs,bb=>vs=[]/\bb=[]
 |x::r,vs,bb=>∃v b,vs=v::b/\match x.1 with
  |true=>∃A k xs ft,v=.slice A x.2.length k/\bb=⟨A,k,a,g.size,x.2.length,xs⟩::ft/\Flat (bR B w g) x.2 xs/\dW B w a g r b ft
  |false=>bR B w (.ax g) x.2 [v]/\dW B w a g r b bb
theorem dW.length{B:Nat->Prop}{w:World}{a:TypeId}{g:a7}:∀ {l:List (Bool×List g.D)} {vs:cl} {bb:List gO},dW B w a g l vs bb->vs.length=l.length
 |[],_,_,⟨e,_⟩=>by rw[e];rfl
 |(true,_)::_,_,_,⟨v,b,e,_,_,_,_,_,_,_,h⟩=>by rw[e,length_cons,length_cons,dW.length h]
 |(false,_)::_,_,_,⟨v,b,e,_,h⟩=>by rw[e,length_cons,length_cons,dW.length h]
theorem dW.up{B B':Nat->Prop}{w w':World}(h:gm B w B' w'){b:TypeId}{g:a7}:∀ {l:List (Bool×List g.D)} {vs:cl} {bb:List gO},dW B w b g l vs bb->dW B' w' b g l vs bb
 |[],_,_,I=>I
 |(true,_)::_,_,_,⟨v,a,e,A,k,xs,ft,I,J,ag,c⟩=>⟨v,a,e,A,k,xs,ft,I,J,Flat.mono (λ_ _=>bR.up h) ag,dW.up h c⟩
 |(false,_)::_,_,_,⟨v,a,e,I,J⟩=>⟨v,a,e,bR.up h I,dW.up h J⟩
def Pr{α:Type}(l:List (Bool×List α)):Option (Nat×Option Nat)->List (Bool×List α)
 |none=>l
 |some (i,_)=>l.set i (false,[])
def Ad(env:Nat->Loc)(n:Nat)(ys a:cl):Option (Nat×Option Nat)->Prop
 |none=>a=ys
 |some (i,b)=>i<n/\∃v,a=ys.set i v/\∀d,b=some d->∃A c m,env d=.row A c m/\v=.slice A m c
def eM(env:Nat->Loc)(B:Nat->Prop)(w:World)(id:Nat):cD->bp->Prop
 |.cells t cs,c=>∃b vs,env id=.blk b/\c=.hF b vs t/\cO env B w cs vs
 |.row t g l cap,c=>∃A k xs,env id=.row A k l.length/\c=.row A k t g.size l.length xs/\Flat (bR B w g) l xs/\∀q,cap=some q->k=q
 |.lg s p,c=>∃b,env id=.blk b/\c=.obj b (.stringIter s p)
 |.mp br bj l o,c=>∃b a clock,env id=.blk b/\c=.obj b (.map a.toArray clock)/\gP B w br bj l a/\Stamped a clock/\∀q,o=some q->q=(a,clock)
 |.it e a clock aH,c=>∃b m,env id=.blk b/\env e=.blk m/\c=.obj b (.mapIter (some m) clock (Zj a aH).toArray clock)
 |.lh,c=>∃b o,env id=.blk b/\c=.obj b o
 |.hY e,c=>∃b m q,env id=.blk b/\env e=.blk m/\c=.obj b (.mapIter (some m) q #[] q)
 |.cP r t g l cap i d,c=>∃A k ys f c' m,env id=.row A k l.length/\c=.row A k t 1 l.length (ys.set i (.slice f m c'))/\Flat (pB r B w g) l ys/\i<l.length/\env d=.row f c' m/\(∀q,cap=some q->k=q)/\(r=true->c'=m)
 |.lN,c=>∃A k n t s m xs,env id=.row A k n/\c=.row A k t s m xs
 |.gT t g l,c=>∃A k,env id=.row A k l.length/\((∃xs,c=.row A k t g.size l.length xs/\Flat (bR B w g) l xs)\/(c=.row none 0 t g.size 0 []/\k=l.length/\k<=maxLen/\∃xs,Flat (bR B w g) l xs/\oO B w A l.length g.size xs))
 |.b0 t u g l cap h,c=>∃A k ys j bb,env id=.row A k l.length/\c=.tree (⟨A,k,t,1,l.length,j⟩::bb)/\dW B w u g (Pr l h) ys bb/\Ad env l.length ys j h/\∀q,cap=some q->k=q
def bJ(env:Nat->Loc)(B:Nat->Prop)(w:World):bC->c2->Prop
 |[],H=>H=[]
 |(id,b)::h,H=>∃c H',H=c::H'/\eM env B w id b c/\bJ env B w h H'
theorem eM.up{env:Nat->Loc}{B B':Nat->Prop}{w w':World}(h:gm B w B' w'){id:Nat}:∀ {b:cD} {c:bp},eM env B w id b c->eM env B' w' id b c
 |.cells _ _,_,⟨b,vs,e,U,I⟩=>⟨b,vs,e,U,I.up h⟩
 |.row _ _ _ _,_,⟨A,k,xs,e,U,I,J⟩=>⟨A,k,xs,e,U,Flat.mono (λ_ _=>bR.up h) I,J⟩
 |.lg _ _,_,ad=>ad
 |.mp _ _ _ _,_,⟨b,i,k,e,U,I,J⟩=>⟨b,i,k,e,U,I.up h,J⟩
 |.it _ _ _ _,_,ad=>ad
 |.hY _,_,ad=>ad
 |.lh,_,ad=>ad
 |.cP _ _ _ _ _ _ _,_,⟨A,k,ys,f,c',m,e,U,I,J⟩=>⟨A,k,ys,f,c',m,e,U,Flat.mono (λ_ _=>pB.up h) I,J⟩
 |.lN,_,ad=>ad
 |.b0 _ _ _ _ _ _,_,⟨A,k,ys,g,bb,e,U,I,J⟩=>⟨A,k,ys,g,bb,e,U,I.up h,J⟩
 |.gT _ _ _,_,⟨A,k,e,I⟩=>⟨A,k,e,I.imp (λ⟨xs,a,b⟩=>⟨xs,a,Flat.mono (λ_ _=>bR.up h) b⟩) λ⟨a,b,c,xs,d,r⟩=>⟨a,b,c,xs,Flat.mono (λ_ _=>bR.up h) d,r.up h⟩⟩
theorem bJ.up{env:Nat->Loc}{B B':Nat->Prop}{w w':World}(h:gm B w B' w'):∀ {l:bC} {H:c2},bJ env B w l H->bJ env B' w' l H
 |[],_,a=>a
 |_::_,_,⟨c,H',e,I,J⟩=>⟨c,H',e,I.up h,bJ.up h J⟩
theorem bJ.gU{env:Nat->Loc}{B:Nat->Prop}{w:World}:∀ {l:bC} {H:c2} {id:Nat} {b:cD},bJ env B w l H->bm l id=some b->∃c K,eM env B w id b c/\jM H c K
 |[],_,_,_,_,h=>by cases h
 |(k,b')::l,H,id,b,⟨c,H',e,I,J⟩,h=>by
  rw[cI]at h;subst e
  split at h
  ·rename_i e
   subst e;cases h;exact⟨c,_,I,xP⟩
  ·obtain⟨c',K,ag,X,Y,d,a⟩:=bJ.gU J h
   exact⟨c',λz=>c::K z,ag,c::X,Y,by rw[d];rfl,by rw[a];rfl⟩
def fc(id:Nat)(b:cD):bC->bC
 |[]=>[]
 |(k,b')::r=>match beq k id with
  |true=>(k,b)::r
  |false=>(k,b')::fc id b r
theorem bJ.put{env:Nat->Loc}{B:Nat->Prop}{w:World}:∀ {l:bC} {H:c2} {id:Nat} {b:cD},bJ env B w l H->bm l id=some b->∃c K,eM env B w id b c/\jM H c K/\∀b' c',eM env B w id b' c'->bJ env B w (fc id b' l) (K c')
 |[],_,_,_,_,h=>by cases h
 |(k,b')::l,H,id,b,⟨c,H',e,I,J⟩,h=>by
  rw[cI]at h;subst e
  split at h
  ·rename_i e
   subst e;cases h;refine⟨c,_,I,xP,λa cG ad=>?_⟩;unfold fc;rw[beq_refl];exact⟨cG,H',rfl,ad,J⟩
  ·rename_i i
   obtain⟨c',K,ag,⟨X,Y,g,f⟩,d⟩:=bJ.put J h;refine⟨c',λz=>c::K z,ag,⟨c::X,Y,by rw[g];rfl,by rw[f];rfl⟩,λa cG ad=>?_⟩;unfold fc
   have:beq k id=false:=by
    cases aa:beq k id with
    |false=>rfl
    |true=>exact absurd (eq_of_beq_eq_true aa).symm i
   rw[this];exact⟨c,_,rfl,I,d a cG ad⟩
def vw(i:Nat):ep->Bool
 |[]=>false
 |.id j::r=>beq j i || vw i r
 |.eF _ _::r=>vw i r
def bs.sub:bs->Nat->bs->bs
 |.ptr i o,id,_=>match beq i id with
  |true=>.dead
  |false=>.ptr i o
 |.e4 i a j o,id,_=>match beq i id with
  |true=>.dead
  |false=>.e4 i a j o
 |.ax i,id,z=>match beq i id with
  |true=>z
  |false=>.ax i
 |.fn f ids,id,_=>match vw id ids with
  |true=>.dead
  |false=>.fn f ids
 |.dY i,id,_=>match beq i id with
  |true=>.dead
  |false=>.dY i
 |.jD f i,id,_=>match beq i id with
  |true=>.dead
  |false=>.jD f i
 |.il i o,id,_=>match beq i id with
  |true=>.dead
  |false=>.il i o
 |.jR i,id,_=>match beq i id with
  |true=>.dead
  |false=>.jR i
 |.jE i s o,id,_=>match beq i id with
  |true=>.dead
  |false=>.jE i s o
 |.iF b i,id,_=>match beq i id with
  |true=>.dead
  |false=>.iF b i
 |c,_,_=>c
def su(id:Nat)(z:bs):dI->dI
 |[]=>[]
 |c::r=>c.sub id z::su id z r
def bq.sub:bq->Nat->bs->bq
 |.c x,id,z=>.c (x.sub id z)
 |.agg cs,id,z=>.agg (su id z cs)
 |.arr g l,_,_=>.arr g l
def Ae(id:Nat)(z:bs):dO->dO
 |[]=>[]
 |c::r=>c.sub id z::Ae id z r
def cd.sub:cd->Nat->bs->cd
 |.a x,id,z=>.a (x.sub id z)
 |.may g x,id,z=>.may g (x.sub id z)
 |.da xs,id,z=>.da (Ae id z xs)
def gu(id:Nat)(z:bs):cU->cU
 |[]=>[]
 |(k,v)::r=>(k,v.sub id z)::gu id z r
def cD.sub:cD->Nat->bs->cD
 |.cells t cs,id,z=>.cells t (su id z cs)
 |.it a j k aH,id,_=>match beq a id with
  |true=>.lh
  |false=>.it a j k aH
 |.hY a,id,_=>match beq a id with
  |true=>.lh
  |false=>.hY a
 |.cP f t g l cap i d,id,z=>match beq d id with
  |true=>match z with
   |.bo g' c _=>match decEq g' g with
    |isTrue h=>match f with
     |true=>.row t (.hX g) (l.set i (h ▸ c)) cap
     |false=>.row t (.ax g) (l.set i (h ▸ c)) cap
    |isFalse _=>.lN
   |_=>.lN
  |false=>.cP f t g l cap i d
 |.b0 t e g l cap (some (i,some d)),id,_=>match beq d id with
  |true=>.b0 t e g l cap (some (i,none))
  |false=>.b0 t e g l cap (some (i,some d))
 |b,_,_=>b
def ew(id:Nat)(z:bs):bC->bC
 |[]=>[]
 |(k,b)::r=>match beq k id with
  |true=>ew id z r
  |false=>(k,b.sub id z)::ew id z r
section
variable {env env':Nat->Loc} {B:Nat->Prop} {w:World} {id:Nat} {z:bs}
theorem fb.IP(he:∀j,j≠id->env' j=env j):∀ {ids:ep} {vs:cl},vw id ids=false->fb env B w ids vs->fb env' B w ids vs
 |[],_,_,h=>h
 |.id i::ids,_,bc,⟨v,r,e,⟨b,ad,a⟩,h⟩=>by
  simp only[vw,Bool.or_eq_false_iff]at bc;exact⟨v,r,e,⟨b,by rw[he i (ne_of_beq_eq_false bc.1)];exact ad,a⟩,fb.IP he bc.2 h⟩
 |.eF g x::ids,_,bc,⟨v,r,e,I,h⟩=>⟨v,r,e,I,fb.IP he (by simpa [vw] using bc) h⟩
theorem dR.sub(he:∀j,j≠id->env' j=env j)(bO:∀v,dR env B w (.ax id) v->dR env' B w z v):∀ {c:bs} {v:Value},dR env B w c v->dR env' B w (c.sub id z) v
 |.val _,_,U=>U
 |.str _,_,U=>U
 |.dead,_,U=>U
 |.ptr i o,v,U=>by
  simp only[bs.sub]
  split
  ·trivial
  ·rename_i h
   obtain⟨b,e,a⟩:=U;exact⟨b,by rw[he i (ne_of_beq_eq_false h)];exact e,a⟩
 |.e4 i d j o,v,U=>by
  simp only[bs.sub]
  split
  ·trivial
  ·rename_i h
   obtain⟨b,c,n,e,a⟩:=U;exact⟨b,c,n,by rw[he i (ne_of_beq_eq_false h)];exact e,a⟩
 |.iF b i,v,U=>by
  simp only[bs.sub]
  split
  ·trivial
  ·rename_i h
   obtain⟨k,e,a⟩:=U;exact⟨k,λad=>by rw[he i (ne_of_beq_eq_false h)];exact e ad,a⟩
 |.jR i,v,U=>by
  simp only[bs.sub]
  split
  ·trivial
  ·rename_i h
   obtain⟨b,c,n,e,a⟩:=U;exact⟨b,c,n,by rw[he i (ne_of_beq_eq_false h)];exact e,a⟩
 |.jE i s o,v,U=>by
  simp only[bs.sub]
  split
  ·trivial
  ·rename_i h
   obtain⟨b,c,n,e,a⟩:=U;exact⟨b,c,n,by rw[he i (ne_of_beq_eq_false h)];exact e,a⟩
 |.il i o,v,U=>by
  simp only[bs.sub]
  split
  ·trivial
  ·rename_i h
   obtain⟨b,c,n,e,a⟩:=U;exact⟨b,c,n,by rw[he i (ne_of_beq_eq_false h)];exact e,a⟩
 |.gn _ _ _,_,U=>U
 |.par _ _,_,U=>U
 |.ax i,v,U=>by
  simp only[bs.sub]
  split
  ·rename_i h
   have:i=id:=eq_of_beq_eq_true h
   subst this;exact bO v U
  ·rename_i h
   obtain⟨A,c,n,e,a⟩:=U;exact⟨A,c,n,by rw[he i (ne_of_beq_eq_false h)];exact e,a⟩
 |.bo _ _ _,_,U=>U
 |.fn f ids,v,U=>by
  simp only[bs.sub]
  split
  ·trivial
  ·rename_i h
   obtain⟨vs,a,al⟩:=U;exact⟨vs,a,al.IP he h⟩
 |.dY i,v,U=>by
  simp only[bs.sub]
  split
  ·trivial
  ·rename_i h
   obtain⟨b,e,a⟩:=U;exact⟨b,by rw[he i (ne_of_beq_eq_false h)];exact e,a⟩
 |.jD f i,v,U=>by
  simp only[bs.sub]
  split
  ·trivial
  ·rename_i h
   obtain⟨b,e,a⟩:=U;exact⟨b,by rw[he i (ne_of_beq_eq_false h)];exact e,a⟩
variable (he:∀j,j≠id->env' j=env j) (bO:∀v,dR env B w (.ax id) v->dR env' B w z v)
include he bO
theorem cO.sub:∀ {c:dI} {v:cl},cO env B w c v->cO env' B w (su id z c) v
 |[],_,U=>U
 |_::_,_,⟨v,r,e,I,J⟩=>⟨v,r,e,I.sub he bO,cO.sub J⟩
theorem dU.sub:∀ {c:bq} {v:Value},dU env B w c v->dU env' B w (c.sub id z) v
 |.c _,_,U=>dR.sub he bO U
 |.agg _,_,⟨vs,e,I⟩=>⟨vs,e,I.sub he bO⟩
 |.arr _ _,_,h=>h
theorem dw.sub:∀ {c:dO} {v:cl},dw env B w c v->dw env' B w (Ae id z c) v
 |[],_,U=>U
 |_::_,_,⟨v,r,e,I,J⟩=>⟨v,r,e,I.sub he bO,dw.sub J⟩
theorem eK.sub:∀ {c:cd} {v:Value},eK env B w c v->eK env' B w (c.sub id z) v
 |.a _,_,U=>dU.sub he bO U
 |.may _ _,_,U=>⟨λa=>(U.1 a).sub he bO,U.2⟩
 |.da _,_,⟨vs,e,I⟩=>⟨vs,e,I.sub he bO⟩
theorem eM.sub{k:Nat}(aa:k≠id):∀ {b:cD} {c:bp},eM env B w k b c->eM env' B w k (b.sub id z) c
 |.cells _ _,_,⟨b,vs,e,U,I⟩=>⟨b,vs,by rw[he k aa];exact e,U,I.sub he bO⟩
 |.row _ _ _ _,_,⟨A,c,xs,e,U,I⟩=>⟨A,c,xs,by rw[he k aa];exact e,U,I⟩
 |.lg _ _,_,⟨b,e,U⟩=>⟨b,by rw[he k aa];exact e,U⟩
 |.mp _ _ _ _,_,⟨b,N,q,e,U⟩=>⟨b,N,q,by rw[he k aa];exact e,U⟩
 |.it u _ _ _,_,⟨b,m,e,y,U⟩=>by
  simp only[cD.sub]
  split
  ·exact⟨b,_,by rw[he k aa];exact e,U⟩
  ·rename_i h
   exact⟨b,m,by rw[he k aa];exact e,by rw[he u (ne_of_beq_eq_false h)];exact y,U⟩
 |.hY u,_,⟨b,m,q,e,y,U⟩=>by
  simp only[cD.sub]
  split
  ·exact⟨b,_,by rw[he k aa];exact e,U⟩
  ·rename_i h
   exact⟨b,m,q,by rw[he k aa];exact e,by rw[he u (ne_of_beq_eq_false h)];exact y,U⟩
 |.lh,_,⟨b,o,e,U⟩=>⟨b,o,by rw[he k aa];exact e,U⟩
 |.cP Q t g l cap i d,_,⟨A,c,ys,a,c',m,e,U,I,hi,J,ag⟩=>by
  simp only[cD.sub]
  split
  ·rename_i h
   have ay:=eq_of_beq_eq_true h;subst ay
   split
   ·rename_i g' K tD
    split
    ·rename_i H _
     subst H;obtain⟨D,cG,xs,r,L,M,_,E,F⟩:=bO _ ⟨a,c',m,J,rfl⟩;have ae:ys.length=l.length:=pB.oL I;have C:ys.set i (.slice a m c')=ys.take i++([.slice a m c']++ys.drop (i+1)):=by
      rw[List.set_eq_take_append_cons_drop,if_pos (by omega)]
      rfl
     split
     ·refine⟨A,c,_,by rw[he k aa,length_set];exact e,by rw[length_set];exact U,?_,ag.1⟩
      have O:=ag.2 rfl;have j:=Flat.set (k:=1) (λ_ _=>bR.length) (show Flat (bR B w (.hX g')) l ys from I) hi (us:=[.slice a m c']) ⟨D,xs,by
       subst O;rw[show c'=K.length by injection r]
       injection r with q _ _
       rw[q],by
       omega,E,F⟩
      rw[C];rw[Nat.mul_one,append_assoc]at j;exact j
     ·refine⟨A,c,_,by rw[he k aa,length_set];exact e,by rw[length_set];exact U,?_,ag.1⟩
      have j:=Flat.set (k:=1) (λ_ _=>bR.length) (show Flat (bR B w (.ax g')) l ys from I) hi (us:=[.slice a m c']) ⟨D,cG,xs,by rw[r],L,M,E,F⟩;rw[C];rw[Nat.mul_one,append_assoc]at j;exact j
    ·exact⟨A,c,_,_,_,_,_,by rw[he k aa];exact e,U⟩
   ·exact⟨A,c,_,_,_,_,_,by rw[he k aa];exact e,U⟩
  ·rename_i h
   exact⟨A,c,ys,a,c',m,by rw[he k aa];exact e,U,I,hi,by rw[he d (ne_of_beq_eq_false h)];exact J,ag⟩
 |.lN,_,⟨A,c,n,t,s,m,xs,e,U⟩=>⟨A,c,n,t,s,m,xs,by rw[he k aa];exact e,U⟩
 |.gT _ _ _,_,⟨A,c,e,I⟩=>⟨A,c,by rw[he k aa];exact e,I⟩
 |.b0 _ _ _ _ _ none,_,⟨A,q,ys,f,bb,e,U,I,J,ag⟩=>⟨A,q,ys,f,bb,by rw[he k aa];exact e,U,I,J,ag⟩
 |.b0 _ _ _ _ _ (some (i,none)),_,⟨A,q,ys,f,bb,e,U,I,⟨J,v,p,_⟩,ag⟩=>⟨A,q,ys,f,bb,by rw[he k aa];exact e,U,I,⟨J,v,p,λ_ h=>by cases h⟩,ag⟩
 |.b0 _ _ _ _ _ (some (i,some d)),_,⟨A,q,ys,f,bb,e,U,I,⟨J,v,p,G⟩,ag⟩=>by
  simp only[cD.sub]
  split
  ·exact⟨A,q,ys,f,bb,by rw[he k aa];exact e,U,I,⟨J,v,p,λ_ h=>by cases h⟩,ag⟩
  ·rename_i h
   exact⟨A,q,ys,f,bb,by rw[he k aa];exact e,U,I,⟨J,v,p,λP ay=>by cases ay;rw[he d (ne_of_beq_eq_false h)];exact G d rfl⟩,ag⟩
theorem bJ.del:∀ {l:bC} {H:c2},bJ env B w l H->∃H',H'.Sublist H/\bJ env' B w (ew id z l) H'
 |[],_,d=>⟨[],by rw[show _=[] from d];exact List.Sublist.refl _,rfl⟩
 |(k,b)::l,_,⟨c,H',e,I,J⟩=>by
  obtain⟨H2,a,ag⟩:=bJ.del J;subst e;unfold ew
  split
  ·exact⟨H2,a.cons _,ag⟩
  ·rename_i h
   exact⟨c::H2,a.cons_cons _,c,H2,rfl,I.sub he bO (ne_of_beq_eq_false h),ag⟩
def jm:bp->Bool
 |.hF _ _ _=>true
 |_=>false
omit he bO in
theorem eM.oP{k:Nat}:∀ {b:cD} {c:bp},eM env B w k b c->(∀t cs,b≠.cells t cs)->jm c=false
 |.cells t cs,_,_,h=>absurd rfl (h t cs)
 |.row _ _ _ _,_,⟨_,_,_,_,e,_⟩,_=>by rw[e];rfl
 |.lg _ _,_,⟨_,_,e⟩,_=>by rw[e];rfl
 |.mp _ _ _ _,_,⟨_,_,_,_,e,_⟩,_=>by rw[e];rfl
 |.it _ _ _ _,_,⟨_,_,_,_,e⟩,_=>by rw[e];rfl
 |.hY _,_,⟨_,_,_,_,_,e⟩,_=>by rw[e];rfl
 |.lh,_,⟨_,_,_,e⟩,_=>by rw[e];rfl
 |.cP _ _ _ _ _ _ _,_,⟨_,_,_,_,_,_,_,e,_⟩,_=>by rw[e];rfl
 |.lN,_,⟨_,_,_,_,_,_,_,_,e⟩,_=>by rw[e];rfl
 |.b0 _ _ _ _ _ _,_,⟨_,_,_,_,_,_,e,_⟩,_=>by rw[e];rfl
 |.gT _ _ _,_,⟨_,_,_,h⟩,_=>by
  rcases h with⟨_,e,_⟩|⟨e,_⟩
  ·rw[e];rfl
  ·rw[e];rfl
theorem bJ.IQ:∀ {l:bC} {H:c2},bJ env B w l H->(∀b c,(id,b)∈l->eM env B w id b c->jm c=false)->∃H',H'.Sublist H/\bJ env' B w (ew id z l) H'/\∀c∈H,jm c=true->c∈H'
 |[],_,g,_=>⟨[],by rw[show _=[] from g];exact List.Sublist.refl _,rfl,λc U _=>by rw[show _=[] from g]at U;exact U⟩
 |(k,b)::l,_,⟨c,H',e,I,J⟩,aa=>by
  obtain⟨H2,d,ag,f⟩:=bJ.IQ J (λb c ad=>aa b c (mem_cons_of_mem _ ad));subst e;unfold ew
  split
  ·rename_i hid
   have i:=eq_of_beq_eq_true hid;subst i;refine⟨H2,d.cons _,ag,λc' dJ a=>?_⟩
   rcases List.mem_cons.1 dJ with rfl|dJ
   ·rw[aa b c' (mem_cons_self ..) I]at a;cases a
   ·exact f c' dJ a
  ·rename_i h
   refine⟨c::H2,d.cons_cons _,⟨c,H2,rfl,I.sub he bO (ne_of_beq_eq_false h),ag⟩,λc' dJ a=>?_⟩
   rcases List.mem_cons.1 dJ with rfl|dJ
   ·exact mem_cons_self ..
   ·exact mem_cons_of_mem _ (f c' dJ a)
omit he bO in
theorem qj:∀ {l:cU} {s:Nat} {v:cd},bm (gu id z l) s=some v->∃u,bm l s=some u/\v=u.sub id z
 |[],_,_,h=>by cases h
 |(k,u)::l,s,v,h=>by
  unfold gu at h;rw[cI]at h ⊢
  split at h
  ·rename_i e
   cases h;rw[if_pos e];exact⟨u,rfl,rfl⟩
  ·rename_i e
   rw[if_neg e];exact qj h
end
end
section
structure DJ where
 g:a7
 l:List g.D
structure bu where
 P:Program
 a6:cm
 DK:Nat->Option DJ
def dE(k:Nat):bp:=.obj k (.deferred (some []))
structure fj where
 b:Nat->Prop
 p:Nat->Loc->Prop
 d:List Deferred
def kW(aq:b6)(aE:fj):List Deferred:=aq.map vt++aE.d
def sw(w:World)(k:Nat):Prop:=∃cs e a,w.heap[k]?=some (.cells cs e a)
theorem sw.ee{w w':World}{k:Nat}(h:sw w k)(e:w'.heap[k]?=w.heap[k]?):sw w' k:=by
 obtain⟨cs,t,a,h⟩:=h;exact⟨cs,t,a,e.trans h⟩
def iT:Nat:=1000000
def hZ:Nat:=2000000
def tE(B:Nat->Prop)(w:World)(i:Nat)(x:DJ):Prop:=dR (λ_=>.no) B w (.par x.g x.l) (.pointer (some ⟨i,0,none⟩))/\∃cs e a,w.heap[i]?=some (.cells cs e a)/\cs.size=x.l.length * x.g.size
theorem tE.up{B B':Nat->Prop}{w w':World}(h:gm B w B' w'){i:Nat}{x:DJ}(a:tE B w i x):tE B' w' i x:=by
 refine⟨a.1.up h,?_⟩;obtain⟨⟨b,o,vs,e,ad,_⟩,cs,t,c,I,J⟩:=a;cases e;exact⟨cs,t,c,by rw[h.same _ ad];exact I,J⟩
structure bK(X:bu)(R:Nat->Prop)(W:World)(aE:fj)(n:Nat)(aq:b6)(env:Nat->Loc)(B:Nat->Prop)(ak:World)(H:c2)(st:aO)(a:Act)(w:World):Prop where
 size:a.tmps.size=n
 defs:a.defers=kW aq aE
 has:∀s sv,bm st.L s=some sv->∃v,a.tmps[s]?=some v/\eK env B ak sv v
 heap:bJ env B ak st.H H
 aU:bZ (λk=>R k\/B k) ak (H++aq.map dE) w
 sub:∀k,aE.b k->B k
 new:∀k,B k->aE.b k\/(¬R k/\sw ak k)
 dr:∀id l,aE.p id l->n<=id/\env id=l/\((∃b,l=.blk b)\/hZ<=id)
 base:c9 R W ak
 eg:∀i x,X.DK i=some x->tE B ak i x
def IS(M:Bool)(aq:b6)(aE:fj):Prop:=(M=false->aq=[])/\(M=true->∀id l,aE.p id l->iT<=id)
def mQ(X:bu)(R:Nat->Prop)(W:World)(aE:fj)(M:Bool)(n:Nat)(st:aO)(a:Act)(w:World):Prop:=
 ∃aq env B ak H,IS M aq aE/\bK X R W aE n aq env B ak H st a w
def full(a:Act):List (Nat×Value):=a.tmps.toList.zipIdx.map λp=>(p.2,p.1)
theorem Zl{s:Nat}{v:Value}:∀(vs:cl) (k:Nat),((vs.zipIdx k).map λp=>(p.2,p.1)).lookup s=some v->k<=s/\vs[s-k]?=some v:=by
 intro vs
 induction vs with
 |nil=>intro k h;cases h
 |cons u vs a=>
  intro k h;simp only[zipIdx_cons,map_cons,lookup_cons]at h
  by_cases e:s=k
  ·subst e
   simp at h
   subst h
   simp
  ·have b:(s==k)=false:=by simpa using e
   rw[b]at h;obtain⟨I,J⟩:=a (k+1) h;refine⟨by omega,?_⟩;rw[show s-k=(s-(k+1))+1 by omega,getElem?_cons_succ];exact J
theorem Zm{s:Nat}{v:Value}:∀(vs:cl) (k:Nat),vs[s]?=some v->((vs.zipIdx k).map λp=>(p.2,p.1)).lookup (k+s)=some v:=by
 intro vs
 induction vs generalizing s with
 |nil=>intro k h;simp at h
 |cons u vs a=>
  intro k h;simp only[zipIdx_cons,map_cons,lookup_cons];cases s with
  |zero=>simp at h;simp[h]
  |succ s=>
   have e:(k+(s+1)==k)=false:=by simp
   rw[e]
   have:=a (k+1) (by simpa using h)
   rw[show k+1+s=k+(s+1) by omega]at this;exact this
theorem Zn(a:Act):df a.tmps.size a.defers (full a) a:=⟨rfl,rfl,λs v h=>by
 have:=(Zl a.tmps.toList 0 h).2
 simpa using this⟩
theorem im{a:Act}{s:Nat}{v:Value}(h:a.tmps[s]?=some v):(full a).lookup s=some v:=by
 have:=Zm a.tmps.toList 0 (by simpa using h)
 simpa [full] using this
def Ps:Value->bs
 |.string s=>.str s.data.toList
 |v=>.val v
def tF:cl->dI
 |[]=>[]
 |v::r=>Ps v::tF r
def bz(X:bu)(L:cU):Operand->Option (Bool×bq)
 |.tmp s=>match bm L s with
  |some (.a x)=>some (true,x)
  |some (.may g x)=>some (g,x)
  |_=>none
 |.const v=>match v with
  |.string s=>some (true,.c (.str s.data.toList))
  |.agg cs=>some (true,.agg (tF cs.toList))
  |.tuple _=>none
  |v=>some (true,.c (.val v))
 |.global i=>match X.DK i with
  |some x=>some (true,.c (.par x.g x.l))
  |none=>none
 |.func f=>some (true,.c (.fn f []))
section
variable {X:bu} {R:Nat->Prop} {W:World} {aE:fj} {n:Nat} {aq:b6} {env:Nat->Loc} {B:Nat->Prop} {ak:World} {H:c2} {st:aO} {a:Act} {w:World}
theorem Zo(s:ByteArray):gl s.data.toList=.string s:=rfl
theorem Zp:∀v:Value,dR env B ak (Ps v) v
 |.string _=>rfl
 |.bool _=>rfl
 |.int _ _=>rfl
 |.float _ _=>rfl
 |.complex _ _ _=>rfl
 |.pointer _=>rfl
 |.slice _ _ _=>rfl
 |.map _=>rfl
 |.chan _=>rfl
 |.func _ _ _=>rfl
 |.nilFunc=>rfl
 |.iface _ _=>rfl
 |.nilIface=>rfl
 |.agg _=>rfl
 |.tuple _=>rfl
theorem Af:∀vs:cl,cO env B ak (tF vs) vs
 |[]=>rfl
 |v::r=>⟨v,r,rfl,Zp v,Af r⟩
theorem bK.aI(h:bK X R W aE n aq env B ak H st a w){x:Operand}{g:Bool}{bN:bq}(ai:bz X st.L x=some (g,bN))(b:g=true):∃v,aI (full a) x=some v/\dU env B ak bN v:=by
 cases x with
 |tmp s=>
  simp only[bz]at ai;cases I:bm st.L s with
  |none=>rw[I]at ai;cases ai
  |some sv=>
   obtain⟨v,J,ag⟩:=h.has s sv I;rw[I]at ai;cases sv with
   |a x=>cases ai;exact⟨v,im J,ag⟩
   |may g' x=>cases ai;exact⟨v,im J,ag.1 b⟩
   |da xs=>cases ai
 |const v=>
  refine⟨v,rfl,?_⟩;cases v with
  |string s=>cases ai;exact Zo s
  |agg cs=>cases ai;exact⟨cs.toList,by simp,Af _⟩
  |tuple vs=>cases ai
  |_=>cases ai;rfl
 |global i=>
  simp only[bz]at ai;cases I:X.DK i with
  |none=>rw[I]at ai;cases ai
  |some x=>
   rw[I]at ai;cases ai;exact⟨_,rfl,(h.eg i x I).1⟩
 |func f=>cases ai;exact⟨_,rfl,[],rfl,rfl⟩
theorem bK.cf(h:bK X R W aE n aq env B ak H st a w):df n (kW aq aE) (full a) a:=by
 have:=Zn a
 rw[h.size,h.defs]at this;exact this
end
def re:Op->Bool
 |.load _ _=>true
 |_=>false
def jn(X:bu)(st:aO)(o:Oper)(bN:bq):Prop:=
 ∀ {R:Nat->Prop} {W:World} {aE:fj} {n:Nat} {aq:b6} {env:Nat->Loc} {B:Nat->Prop} {ak:World} {H:c2} {a:Act} {b5:World},bK X R W aE n aq env B ak H st a b5 ->
  ∃v,dU env B ak bN v/\∀w,(re o.op=true->bZ (λk=>R k\/B k) ak (H++aq.map dE) w)->(execOp a.eval o).run X.P w=.ok (.value v) w
def bl(x:Int):Bool:=ble (-x).toNat 9223372036854775808&&ble x.toNat 9223372036854775807
theorem DL{x:Int}:bl x=true ↔ -9223372036854775808<=x/\x<=9223372036854775807:=by
 unfold bl;rw[and_eq_true,ble_eq,ble_eq];omega
def eT(b:Nat)(z:Int):Bool:=ble (b * z.toNat) 140737488355328&&ble z.toNat 140737488355328
theorem DM{b:Nat}{z:Int}(bO:0<=z):eT b z=true↔(b:Int) * z<=140737488355328/\z<=140737488355328:=by
 unfold eT;rw[and_eq_true,ble_eq,ble_eq]
 have:((b * z.toNat:Nat):Int)=(b:Int) * z:=by rw[Int.natCast_mul,Int.toNat_of_nonneg bO]
 omega
theorem Zq{x:Int}(h:bl x=true):IntKind.i64.wrap x=x:=by
 rw[DL]at h;exact YD h.1 h.2
def oc:IntKind->Int->Bool×Int
 |.i64,x=>(bl x,x)
 |k,x=>(true,k.wrap x)
theorem xU{k:IntKind}{x z:Int}(h:oc k x=(true,z)):k.wrap x=z:=by
 cases k<;>simp only[oc,Prod.mk.injEq,true_and]at h
 case i64=>obtain⟨I,rfl⟩:=h;exact Zq I
 all_goals exact h
def xV(op:BinOp)(k k':IntKind)(x y:Int):Option (Bool×bs):=
 match op with
 |.shl=>some (decide (0<=y),.val (.int k (k.wrap (x * 2 ^ (min y.toNat k.bits)))))
 |.shr=>some (decide (0<=y),.val (.int k (x.fdiv (2 ^ (min y.toNat k.bits)))))
 |_=>match decide (k=k')with
  |false=>none
  |true=>match op with
   |.add=>match oc k (x+y)with
    |(c,z)=>some (c,.val (.int k z))
   |.sub=>match oc k (x-y)with
    |(c,z)=>some (c,.val (.int k z))
   |.mul=>match oc k (x * y)with
    |(c,z)=>some (c,.val (.int k z))
   |.quo=>match oc k (x.tdiv y)with
    |(c,z)=>some (c&&decide (y≠0),.val (.int k z))
   |.rem=>some (decide (y≠0),.val (.int k (x.tmod y)))
   |.and=>some (true,.val (.int k (bits .and k x y)))
   |.or=>some (true,.val (.int k (bits .or k x y)))
   |.xor=>some (true,.val (.int k (bits .xor k x y)))
   |.lss=>some (true,.val (.bool (decide (x<y))))
   |.leq=>some (true,.val (.bool (decide (x<=y))))
   |.gtr=>some (true,.val (.bool (decide (y<x))))
   |.geq=>some (true,.val (.bool (decide (y<=x))))
   |.eql=>some (true,.val (.bool (decide (x=y))))
   |.neq=>some (true,.val (.bool (!decide (x=y))))
   |_=>none
def IT(op:BinOp)(x y:dV):Option (Bool×bs):=
 match op with
 |.eql=>some (true,.val (.bool (x==y)))
 |.neq=>some (true,.val (.bool (!(x==y))))
 |.add=>some (decide (x.length+y.length<=140737488355328),.str (x++y))
 |_=>none
def Pt(op:BinOp)(x y:Bool):Option (Bool×bs):=
 match op with
 |.eql=>some (true,.val (.bool (x==y)))
 |.neq=>some (true,.val (.bool (x != y)))
 |_=>none
def IU(X:bu)(op:BinOp)(t:TypeId)(x y:bq):Option (Bool×bs):=
 match x,y with
 |.c (.val (.int k x)),.c (.val (.int k' y))=>xV op k k' x y
 |.c (.str x),.c (.str y)=>IT op x y
 |.c (.val (.bool x)),.c (.val (.bool y))=>match X.a6.find t with
  |some ⟨⟨.bool,_,_,_⟩,_⟩=>Pt op x y
  |_=>none
 |.c (.bo _ l _),.c (.val (.slice none 0 0))=>match X.a6.find t,op with
  |some ⟨⟨.slice _,_,_,_⟩,_⟩,.eql=>some (decide (0<l.length),.val (.bool false))
  |some ⟨⟨.slice _,_,_,_⟩,_⟩,.neq=>some (decide (0<l.length),.val (.bool true))
  |_,_=>none
 |.c (.val (.slice none 0 0)),.c (.val (.slice none 0 0))=>match X.a6.find t,op with
  |some ⟨⟨.slice _,_,_,_⟩,_⟩,.eql=>some (true,.val (.bool true))
  |some ⟨⟨.slice _,_,_,_⟩,_⟩,.neq=>some (true,.val (.bool false))
  |_,_=>none
 |_,_=>none
section
variable {P:Program} {o:Oper} {n:Nat} {D:List Deferred} {L:List (Nat×Value)} {a:Act}
theorem Zr{op:BinOp}{t l:TypeId}{u v:Operand}{k k':IntKind}{x y:Int}{j:bs}(f:df n D L a)(b:o.op=.binOp op t u v l)(hu:aI L u=some (.int k x))(d:aI L v=some (.int k' y))(h:xV op k k' x y=some (true,j)):∃r,j=.val r/\fJ P o a r:=by
 cases op
 case shl=>
  simp only[xV,Option.some.injEq,Prod.mk.injEq,decide_eq_true_eq]at h;obtain⟨g,rfl⟩:=h;exact⟨_,rfl,Yv f b hu (by rw[d,Int.toNat_of_nonneg g]) rfl⟩
 case shr=>
  simp only[xV,Option.some.injEq,Prod.mk.injEq,decide_eq_true_eq]at h;obtain⟨g,rfl⟩:=h;exact⟨_,rfl,Yw f b hu (by rw[d,Int.toNat_of_nonneg g]) rfl⟩
 all_goals
  have e:k=k':=by
   cases aa:decide (k=k')with
   |true=>exact of_decide_eq_true aa
   |false=>simp only[xV,aa]at h;cases h
  subst e;simp only[xV,decide_true]at h
 case add=>generalize i:oc k (x+y)=q at h;obtain⟨c,z⟩:=q;cases h;exact⟨_,rfl,Yh f b hu d (xU i)⟩
 case sub=>generalize i:oc k (x-y)=q at h;obtain⟨c,z⟩:=q;cases h;exact⟨_,rfl,Yi f b hu d (xU i)⟩
 case mul=>generalize i:oc k (x * y)=q at h;obtain⟨c,z⟩:=q;cases h;exact⟨_,rfl,Yj f b hu d (xU i)⟩
 case quo=>
  generalize i:oc k (x.tdiv y)=q at h;obtain⟨c,z⟩:=q
  simp only[Option.some.injEq,Prod.mk.injEq,and_eq_true,decide_eq_true_eq]at h;obtain⟨⟨rfl,g⟩,rfl⟩:=h;exact⟨_,rfl,Yk f b hu d g (xU i)⟩
 case rem=>
  simp only[Option.some.injEq,Prod.mk.injEq,decide_eq_true_eq]at h;obtain⟨g,rfl⟩:=h;exact⟨_,rfl,Yl f b hu d g rfl⟩
 case and=>cases h;exact⟨_,rfl,Ys f b hu d rfl⟩
 case or=>cases h;exact⟨_,rfl,Yt f b hu d rfl⟩
 case xor=>cases h;exact⟨_,rfl,Yu f b hu d rfl⟩
 case lss=>cases h;exact⟨_,rfl,Ym f b hu d⟩
 case leq=>cases h;exact⟨_,rfl,Yn f b hu d⟩
 case gtr=>cases h;exact⟨_,rfl,Yo f b hu d⟩
 case geq=>cases h;exact⟨_,rfl,Yp f b hu d⟩
 case eql=>cases h;exact⟨_,rfl,Yq f b hu d⟩
 case neq=>cases h;exact⟨_,rfl,Yr f b hu d⟩
 case andNot=>cases h
theorem Zs{u v:Operand}{t g:TypeId}{x y:dV}(b:df n D L a)(d:o.op=.binOp .add t u v g)(hu:aI L u=some (gl x))(e:aI L v=some (gl y))(ae:x.length+y.length<=140737488355328):fJ P o a (gl (x++y)):=λw=>by
 have f:((ByteArray.mk x.toArray).size+(ByteArray.mk y.toArray).size:Nat)=x.length+y.length:=by simp[ByteArray.size]
 have i:(ByteArray.mk x.toArray)++(ByteArray.mk y.toArray)=ByteArray.mk (x++y).toArray:=by
  apply ByteArray.ext
  simp[ByteArray.data_append]
 have h:¬(((ByteArray.mk x.toArray).size+(ByteArray.mk y.toArray).size:Nat):Int) > IntKind.i64.max:=by
  rw[f,show IntKind.i64.max=9223372036854775807 from rfl];omega
 have c:(Op.stringOp .add (ByteArray.mk x.toArray) (ByteArray.mk y.toArray)).run P w=.ok (gl (x++y)) w:=by
  unfold Op.stringOp;simp only[if_neg h]
  rfl
 simp only[execOp,d,b.aI hu,b.aI e,gl,eqGuard,binOp];simp only[gl]at c
 simp[c]
theorem Zt{op:BinOp}{t f:TypeId}{u v:Operand}{x y:dV}{e:bs}(d:df n D L a)(b:o.op=.binOp op t u v f)(hu:aI L u=some (gl x))(c:aI L v=some (gl y))(h:IT op x y=some (true,e)){env:Nat->Loc}{B:Nat->Prop}{ak:World}:∃r,dR env B ak e r/\fJ P o a r:=by
 cases op<;>simp only[IT,Option.some.injEq,Prod.mk.injEq,true_and,decide_eq_true_eq,reduceCtorEq]at h
 case eql=>subst h;exact⟨_,rfl,Y9 d b hu c⟩
 case neq=>subst h;exact⟨_,rfl,Za d b hu c⟩
 case add=>obtain⟨ae,rfl⟩:=h;exact⟨_,rfl,Zs d b hu c ae⟩
theorem Pu{P:Program}{t e:TypeId}(h:P.underlying t=some (.slice e))(d:Nat)(a:Addr)(m c:Nat)(w:World):(Op.equalIn (d+1) t (.slice (some a) m c) (.slice none 0 0)).run P w=.ok false w:=by
 unfold Op.equalIn
 simp[run_underlying h]
theorem Pv{P:Program}{t e:TypeId}(h:P.underlying t=some (.slice e))(d:Nat)(w:World):(Op.equalIn (d+1) t (.slice none 0 0) (.slice none 0 0)).run P w=.ok true w:=by
 unfold Op.equalIn
 simp[run_underlying h]
theorem Zu{X:bu}(k:X.a6.ok X.P){op:BinOp}{t G:TypeId}{u v:Operand}{x y:bq}{vx vy:Value}{C:bs}{env:Nat->Loc}{B:Nat->Prop}{ak:World}(f:df n D L a)(i:o.op=.binOp op t u v G)(hu:aI L u=some vx)(d:aI L v=some vy)(ai:dU env B ak x vx)(aG:dU env B ak y vy)(h:IU X op t x y=some (true,C)):∃r,dR env B ak C r/\fJ X.P o a r:=by
 unfold IU at h
 split at h
 ·rw[show vx=_ from ai]at hu
  rw[show vy=_ from aG]at d;obtain⟨r,rfl,F⟩:=Zr f i hu d h;exact⟨r,rfl,F⟩
 ·rw[show vx=_ from ai]at hu
  rw[show vy=_ from aG]at d;exact Zt f i hu d h
 ·rw[show vx=_ from ai]at hu
  rw[show vy=_ from aG]at d
  split at h
  ·rename_i az
   obtain⟨T,q,I⟩:=DI (cm.get k az).ti;cases op<;>simp only[Pt,Option.some.injEq,Prod.mk.injEq,true_and,reduceCtorEq]at h
   case eql=>subst h;exact⟨_,rfl,YM f i q I rfl hu d⟩
   case neq=>subst h;exact⟨_,rfl,YN f i q I rfl hu d⟩
  ·cases h
 ·rename_i g l cap
  obtain⟨A,c,xs,rfl,_,_,_,_,E⟩:=ai;rw[show vy=_ from aG]at d
  split at h
  ·rename_i e s b z m az
   have j:=(cm.get k az).ti.1;simp only[Option.some.injEq,Prod.mk.injEq,decide_eq_true_eq]at h;obtain⟨ae,rfl⟩:=h;obtain⟨b,p,rfl,_⟩:=E.1.2 ae;have he:∀w,(Op.equal t _ _).run X.P w=.ok _ w:=λw=>Pu j 9999 ⟨b,p,none⟩ l.length c w
   exact⟨_,rfl,λw=>by simp[execOp,i,f.aI hu,f.aI d,eqGuard,binOp,he]⟩
  ·rename_i e s b z m az
   have j:=(cm.get k az).ti.1;simp only[Option.some.injEq,Prod.mk.injEq,decide_eq_true_eq]at h;obtain⟨ae,rfl⟩:=h;obtain⟨b,p,rfl,_⟩:=E.1.2 ae;have he:∀w,(Op.equal t _ _).run X.P w=.ok _ w:=λw=>Pu j 9999 ⟨b,p,none⟩ l.length c w
   exact⟨_,rfl,λw=>by simp[execOp,i,f.aI hu,f.aI d,eqGuard,binOp,he]⟩
  ·cases h
 ·rw[show vx=_ from ai]at hu
  rw[show vy=_ from aG]at d
  split at h
  ·rename_i e s b z m az
   have j:=(cm.get k az).ti.1;cases h;have he:∀w,(Op.equal t _ _).run X.P w=.ok _ w:=λw=>Pv j 9999 w
   exact⟨_,rfl,λw=>by simp[execOp,i,f.aI hu,f.aI d,eqGuard,binOp,he]⟩
  ·rename_i e s b z m az
   have j:=(cm.get k az).ti.1;cases h;have he:∀w,(Op.equal t _ _).run X.P w=.ok _ w:=λw=>Pv j 9999 w
   exact⟨_,rfl,λw=>by simp[execOp,i,f.aI hu,f.aI d,eqGuard,binOp,he]⟩
  ·cases h
 ·cases h
end
end
section
section
variable {P:Program} {T:List (TypeId×bI)} {n:Nat} {D:List Deferred} {L:List (Nat×Value)} {a:Act} {o:Oper}
theorem xW{u x:Operand}{t e:TypeId}{i i':bI}{b m j p q:Nat}{k:IntKind}{z:Int}(d:df n D L a)(g:o.op=.indexAddr t u x)(f:h9 P T)(I:T.lookup t=some i)(J:i.desc=.array m e)(r:T.lookup e=some i')(hu:aI L u=some (.pointer (some ⟨b,p,none⟩)))(ai:aI L x=some (.int k z))(bO:z=(j:Int))(h:j<m)(l:p+j * i'.size=q):fJ P o a (.pointer (some ⟨b,q,none⟩)):=λw=>by subst bO;subst l;have c:=(f _ _ I).1;rw[J]at c;have s:=bI.run_sizeOf (f _ _ r);simp[execOp,g,d.aI hu,d.aI ai,Instr.indexAt,Instr.sureAddr,asIntOf,run_underlying c,s,Addr.add_lit,h]
end
end
section
def nth{α:Type}:List α->Nat->Option α
 |[],_=>none
 |x::_,0=>some x
 |_::r,n+1=>nth r n
def rf:dI->Nat->Nat->Option dI
 |_::r,o+1,n=>rf r o n
 |_,0,0=>some []
 |x::r,0,n+1=>match rf r 0 n with
  |some l=>some (x::l)
  |none=>none
 |[],_,_=>none
def l9:(g:a7)->g.D->Nat->Option bs
 |.int k,x,0=>some (.val (.int k x))
 |.bool,x,0=>some (.val (.bool x))
 |.str,x,0=>some (.str x)
 |.ax g,x,0=>some (.bo g x none)
 |.hX g,x,0=>some (.bo g x (some (length x)))
 |.fn,none,0=>some (.val .nilFunc)
 |.fn,some f,0=>some (.fn f [])
 |.pair g h,x,o=>match blt o g.size with
  |true=>l9 g x.1 o
  |false=>l9 h x.2 (o-g.size)
 |_,_,_=>none
def oQ(g:a7)(x:g.D):Nat->Nat->Option dI
 |_,0=>some []
 |o,n+1=>match l9 g x o,oQ g x (o+1) n with
  |some c,some l=>some (c::l)
  |_,_=>none
def Part(vs us:cl)(o n:Nat):Prop:=us.length=n/\∀j u,us[j]?=some u->vs[o+j]?=some u
section
variable {env:Nat->Loc} {B:Nat->Prop} {w:World}
theorem cO.nth:∀ {cs:dI} {vs:cl} {o:Nat} {c:bs},cO env B w cs vs->nth cs o=some c->∃v,vs[o]?=some v/\dR env B w c v
 |[],_,_,_,_,h=>by cases h
 |c'::cs,vs,0,c,⟨v,r,e,I,_⟩,h=>by cases h;subst e;exact⟨v,rfl,I⟩
 |c'::cs,vs,o+1,c,⟨v,r,e,_,J⟩,h=>by
  obtain⟨u,ag,a⟩:=cO.nth J h;subst e;exact⟨u,ag,a⟩
theorem cO.length:∀ {cs:dI} {vs:cl},cO env B w cs vs->vs.length=cs.length
 |[],_,h=>by rw[show _=[] from h];rfl
 |_::_,_,⟨v,r,e,_,J⟩=>by rw[e,length_cons,length_cons,cO.length J]
theorem cO.cut:∀ {cs:dI} {vs:cl} {o n:Nat} {aK:dI},cO env B w cs vs->rf cs o n=some aK->∃us,Part vs us o n/\cO env B w aK us
 |c::cs,vs,o+1,n,aK,⟨v,r,e,_,J⟩,h=>by
  obtain⟨us,⟨ag,d⟩,b⟩:=cO.cut J (by simpa [rf] using h);subst e;exact⟨us,⟨ag,λj u a=>by rw[show o+1+j=(o+j)+1 by omega,getElem?_cons_succ];exact d j u a⟩,b⟩
 |[],vs,0,0,aK,I,h=>by
  simp only[rf,Option.some.injEq]at h;subst h;exact⟨[],⟨rfl,λj u a=>by simp at a⟩,rfl⟩
 |c::cs,vs,0,0,aK,I,h=>by
  simp only[rf,Option.some.injEq]at h;subst h;exact⟨[],⟨rfl,λj u a=>by simp at a⟩,rfl⟩
 |c::cs,vs,0,n+1,aK,⟨v,r,e,I,J⟩,h=>by
  simp only[rf]at h
  split at h
  ·rename_i l ae
   cases h;obtain⟨us,⟨ag,d⟩,b⟩:=cO.cut J ae;subst e;refine⟨v::us,⟨by rw[length_cons,ag],λj u a=>?_⟩,v,us,rfl,I,b⟩;cases j with
   |zero=>simpa using a
   |succ j=>
    exact d j u (by simpa using a)
  ·cases h
 |[],_,0,_+1,_,_,h=>by simp[rf]at h
 |[],_,_+1,_,_,_,h=>by simp[rf]at h
theorem bR.cell:∀ {g:a7} {x:g.D} {vs:cl} {o:Nat} {c:bs},bR B w g x vs->l9 g x o=some c->∃v,vs[o]?=some v/\dR env B w c v
 |.int k,x,vs,0,c,az,h=>by cases h;rw[show vs=[_] from az];exact⟨_,rfl,rfl⟩
 |.bool,x,vs,0,c,az,h=>by cases h;rw[show vs=[_] from az];exact⟨_,rfl,rfl⟩
 |.str,x,vs,0,c,az,h=>by cases h;rw[show vs=[_] from az];exact⟨_,rfl,rfl⟩
 |.ax g,x,vs,0,c,⟨A,k,xs,e,I,J,ag,a⟩,h=>by cases h;rw[e];exact⟨_,rfl,A,k,xs,rfl,I,J,(λ_ U=>by cases U),ag,a⟩
 |.hX g,x,vs,0,c,⟨A,xs,e,J,ag,a⟩,h=>by cases h;rw[e];exact⟨_,rfl,A,_,xs,rfl,le_refl _,J,(λ_ U=>by cases U;rfl),ag,a⟩
 |.pair g h,x,vs,o,c,⟨i,j,e,I,J⟩,U=>by
  simp only[l9]at U;have ae:=bR.length I
  split at U
  ·rename_i ad
   have b:=ef ad;obtain⟨v,ag,a⟩:=bR.cell I U;exact⟨v,by rw[e,List.getElem?_append_left (by omega)];exact ag,a⟩
  ·rename_i ad
   have d:¬o<g.size:=λb=>by
    have:blt o g.size=true:=Nat.ble_eq_true_of_le b
    rw[this]at ad;cases ad
   obtain⟨v,ag,a⟩:=bR.cell J U;exact⟨v,by rw[e,List.getElem?_append_right (by omega),ae];exact ag,a⟩
 |.int _,_,_,_+1,_,_,h=>by simp[l9]at h
 |.bool,_,_,_+1,_,_,h=>by simp[l9]at h
 |.str,_,_,_+1,_,_,h=>by simp[l9]at h
 |.ax _,_,_,_+1,_,_,h=>by simp[l9]at h
 |.hX _,_,_,_+1,_,_,h=>by simp[l9]at h
 |.fn,none,vs,0,c,az,h=>by cases h;rw[show vs=[_] from az];exact⟨_,rfl,rfl⟩
 |.fn,some f,vs,0,c,az,h=>by cases h;rw[show vs=[_] from az];exact⟨_,rfl,[],rfl,rfl⟩
 |.fn,none,_,_+1,_,_,h=>by simp[l9]at h
 |.fn,some _,_,_+1,_,_,h=>by simp[l9]at h
 |.unit,_,_,_,_,_,h=>by simp[l9]at h
theorem bR.cells{g:a7}{x:g.D}{vs:cl}(az:bR B w g x vs):∀ {n o:Nat} {aK:dI},oQ g x o n=some aK->∃us,Part vs us o n/\cO env B w aK us
 |0,o,aK,h=>by
  simp only[oQ,Option.some.injEq]at h;subst h;exact⟨[],⟨rfl,λj u a=>by simp at a⟩,rfl⟩
 |n+1,o,aK,h=>by
  simp only[oQ]at h
  split at h
  ·rename_i c l U ae
   cases h;obtain⟨v,I,J⟩:=bR.cell az U;obtain⟨us,⟨ag,d⟩,b⟩:=bR.cells az ae;refine⟨v::us,⟨by rw[length_cons,ag],λj u a=>?_⟩,v,us,rfl,J,b⟩;cases j with
   |zero=>simp at a;subst a;exact I
   |succ j=>
    rw[show o+(j+1)=o+1+j by omega];exact d j u (by simpa using a)
  ·cases h
end
def DN(X:bu)(st:aO)(t:TypeId)(x:bq):Option (Bool×bq):=
 match X.a6.find t with
 |none=>none
 |some bE=>match l7 bE.ti.desc with
  |false=>match x with
   |.c (.ptr id o)=>match bm st.H id with
    |some (.cells _ cs)=>match nth cs o with
     |some c=>some (true,.c c)
     |none=>none
    |_=>none
   |.c (.e4 id a i o)=>match bm st.H id with
    |some (.row _ g l _)=>match beq a g.size,l9 g (l.getD i g.zero) o with
     |true,some c=>some (decide (i<l.length),.c c)
     |_,_=>none
    |_=>none
   |.c (.gn g x o)=>match l9 g x o with
    |some c=>some (true,.c c)
    |none=>none
   |_=>none
  |true=>match x with
   |.c (.ptr id o)=>match bm st.H id with
    |some (.cells _ cs)=>match rf cs o bE.ti.size with
     |some c=>some (true,.agg c)
     |none=>none
    |_=>none
   |.c (.e4 id a i o)=>match bm st.H id with
    |some (.row _ g l _)=>match beq a g.size,oQ g (l.getD i g.zero) o bE.ti.size with
     |true,some c=>some (decide (i<l.length),.agg c)
     |_,_=>none
    |_=>none
   |.c (.gn g x o)=>match oQ g x o bE.ti.size with
    |some c=>some (true,.agg c)
    |none=>none
   |_=>none
section
variable {X:bu} {R:Nat->Prop} {W:World} {aE:fj} {n:Nat} {aq:b6} {env:Nat->Loc} {B:Nat->Prop} {ak:World} {H:c2} {st:aO} {a:Act} {w b5:World} {o:Oper}
theorem jM.more{H H2:c2}{c:bp}{K:bp->c2}(h:jM H c K):jM (H++H2) c (λz=>K z++H2):=by
 obtain⟨A,Y,I,J⟩:=h;exact⟨A,Y++H2,by rw[I];simp,by rw[J];funext z;simp⟩
theorem xX{t:TypeId}{i:bI}{x:Operand}{b p:Nat}{v:Value}{D:List Deferred}{L:List (Nat×Value)}(d:df n D L a)(c:o.op=.load t x)(hi:bI.ok X.P t i)(J:l7 i.desc=false)(ai:Go.Proofs.YtcheedjfedcbpaaGreatDoor.aI L x=some (.pointer (some ⟨b,p,none⟩)))(U:w.cell? ⟨b,p,none⟩=some v):(execOp a.eval o).run X.P w=.ok (.value v) w:=by
 simp[execOp,c,d.aI ai,Instr.loadAt,Instr.sureAddr,loadVar,bI.zZ hi,J,U]
theorem IV{t:TypeId}{i:bI}{x:Operand}{b p:Nat}{vs:cl}{D:List Deferred}{L:List (Nat×Value)}(d:df n D L a)(c:o.op=.load t x)(hi:bI.ok X.P t i)(J:l7 i.desc=true)(ai:Go.Proofs.YtcheedjfedcbpaaGreatDoor.aI L x=some (.pointer (some ⟨b,p,none⟩)))(ae:vs.length=i.size)(U:∀j v,vs[j]?=some v->w.cell? ⟨b,p+j,none⟩=some v):(execOp a.eval o).run X.P w=.ok (.value (.agg vs.toArray)) w:=by
 have:=YB hi J ae U
 simp[execOp,c,d.aI ai,Instr.loadAt,Instr.sureAddr,this]
theorem IW{b p:Nat}{v:Value}(ad:B b)(U:ak.cell? ⟨b,p,none⟩=some v)(a:bZ (λk=>R k\/B k) ak H w):w.cell? ⟨b,p,none⟩=some v:=by
 rw[a.below.cell (.inr ad)];exact U
theorem Pw(h:bK X R W aE n aq env B ak H st a b5){id:Nat}{t:TypeId}{g:a7}{l:List g.D}{cap:Option Nat}(ae:bm st.H id=some (.row t g l cap)){i:Nat}(hi:i<l.length){b c m:Nat}(he:env id=.row (some ⟨b,0,none⟩) c m) :
  ∃vs,bR B ak g (l.getD i g.zero) vs/\∀w,bZ (λk=>R k\/B k) ak (H++aq.map dE) w->∀q v,vs[q]?=some v->w.cell? ⟨b,i * g.size+q,none⟩=some v:=by
 obtain⟨eA,K,⟨A,k,xs,e,rfl,az,_⟩,j⟩:=h.heap.gU ae;rw[he]at e;cases e;have ai:l[i]?=some (l.getD i g.zero):=by rw[List.getD_eq_getElem?_getD,getElem?_eq_getElem hi];rfl
 have I:=Flat.get (λ_ _=>bR.length) az ai;refine⟨_,I,λw f q v d=>?_⟩;have o:fX w (λk=>R k\/B k) t g.size (some ⟨b,0,none⟩) c l.length xs:=f.ok _ j.more.mem;rw[getElem?_take]at d
 split at d
 ·rename_i p
  rw[getElem?_drop]at d;have hbound:i * g.size+q<l.length * g.size:=by
   have J:(i+1) * g.size<=l.length * g.size:=mul_le_mul_right _ hi;rw[add_mul]at J;omega
  rw[o.cells rfl _ hbound];exact d
 ·cases d
theorem Px(L:X.a6.ok X.P){t:TypeId}{u:Operand}{g:Bool}{x bN:bq}(d:o.op=.load t u)(hu:bz X st.L u=some (g,x))(I:g=true)(ae:DN X st t x=some (true,bN)):jn X st o bN:=by
 intro R W aE n aq env B ak H a b5 h;obtain⟨v,r,y⟩:=h.aI hu I;have s:=h.cf;unfold DN at ae
 split at ae
 ·cases ae
 ·rename_i bE dq
  have hi:=(cm.get L dq).ti
  split at ae
  ·rename_i J
   split at ae
   ·split at ae
    ·rename_i q
     split at ae
     ·rename_i bc
      cases ae;obtain⟨b,he,rfl⟩:=y;obtain⟨eA,K,⟨b',vs,A,rfl,G⟩,az⟩:=h.heap.gU q;rw[he]at A;cases A;obtain⟨v,ag,f⟩:=G.nth bc;exact⟨v,f,λw i=>have e:=i (by rw[d];rfl);xX s d hi J r (by rw[IH e az.more];exact ag)⟩
     ·cases ae
    ·cases ae
   ·split at ae
    ·rename_i q
     split at ae
     ·rename_i E bc
      simp only[Option.some.injEq,Prod.mk.injEq,decide_eq_true_eq]at ae;obtain⟨C,rfl⟩:=ae;obtain⟨b,c,m,he,rfl⟩:=y;obtain⟨vs,ag,f⟩:=Pw h q C he;obtain⟨v,k,l⟩:=bR.cell ag bc;have F:=eq_of_beq_eq_true E;subst F;exact⟨v,l,λw i=>have e:=i (by rw[d];rfl);xX s d hi J r (f w e _ _ k)⟩
     ·cases ae
    ·cases ae
   ·split at ae
    ·rename_i bc
     cases ae;obtain⟨b,p,rfl,ad,vs,ag,f⟩:=y;obtain⟨v,k,l⟩:=bR.cell ag bc;exact⟨v,l,λw i=>have e:=i (by rw[d];rfl);xX s d hi J r (IW ad (f _ _ k) e)⟩
    ·cases ae
   ·cases ae
  ·rename_i J
   split at ae
   ·split at ae
    ·rename_i q
     split at ae
     ·rename_i bc
      cases ae;obtain⟨b,he,rfl⟩:=y;obtain⟨eA,K,⟨b',vs,A,rfl,G⟩,az⟩:=h.heap.gU q;rw[he]at A;cases A;obtain⟨us,⟨ag,f⟩,k⟩:=G.cut bc;exact⟨_,⟨us,rfl,k⟩,λw i=>have e:=i (by rw[d];rfl);IV s d hi J r ag (λj v z=>by rw[IH e az.more];exact f j v z)⟩
     ·cases ae
    ·cases ae
   ·split at ae
    ·rename_i q
     split at ae
     ·rename_i E bc
      simp only[Option.some.injEq,Prod.mk.injEq,decide_eq_true_eq]at ae;obtain⟨C,rfl⟩:=ae;obtain⟨b,c,m,he,rfl⟩:=y;obtain⟨vs,ag,f⟩:=Pw h q C he;obtain⟨us,⟨k,l⟩,D⟩:=bR.cells ag bc;have F:=eq_of_beq_eq_true E;subst F;exact⟨_,⟨us,rfl,D⟩,λw i=>have e:=i (by rw[d];rfl);IV s d hi J r k (λj v z=>by rw[add_assoc];exact f w e _ _ (l j v z))⟩
     ·cases ae
    ·cases ae
   ·split at ae
    ·rename_i bc
     cases ae;obtain⟨b,p,rfl,ad,vs,ag,f⟩:=y;obtain⟨us,⟨k,l⟩,D⟩:=bR.cells ag bc;exact⟨_,⟨us,rfl,D⟩,λw i=>have e:=i (by rw[d];rfl);IV s d hi J r k (λj v z=>by rw[add_assoc];exact IW ad (f _ _ (l j v z)) e)⟩
    ·cases ae
   ·cases ae
end
end
section
def IX(X:bu)(t:TypeId)(x:bq)(k:Nat):Option (Bool×bq):=
 match X.a6.find t with
 |some ⟨⟨.struct dn,_,_,_⟩,_⟩=>match nth dn.toList k with
  |some f=>match X.a6.find f.type with
   |some bE=>match blt 0 bE.ti.size,x with
    |true,.c (.ptr id o)=>some (true,.c (.ptr id (o+f.offset)))
    |true,.c (.e4 id a i o)=>some (true,.c (.e4 id a i (o+f.offset)))
    |true,.c (.gn g x o)=>some (true,.c (.gn g x (o+f.offset)))
    |_,_=>none
   |none=>none
  |none=>none
 |_=>none
def a8(z:Int)(n:Nat):Bool:=decide (0<=z)&&decide (z<(n:Int))
def IY(X:bu)(st:aO)(t:TypeId)(x:bq)(i:bq):Option (Bool×bq):=
 match X.a6.find t with
 |some ⟨⟨.slice e,_,_,_⟩,_⟩=>match X.a6.find e with
  |some bE=>match x,i with
   |.c (.bo g l _),.c (.val (.int _ z))=>match beq g.size bE.ti.size with
    |true=>some (a8 z l.length,.c (.gn g (l.getD z.toNat g.zero) 0))
    |false=>none
   |.c (.ax id),.c (.val (.int _ z))=>match bm st.H id with
    |some (.row _ g l _)=>match beq g.size bE.ti.size with
     |true=>some (a8 z l.length,.c (.e4 id g.size z.toNat 0))
     |false=>none
    |some (.cP _ _ _ l _ _ _)=>match beq 1 bE.ti.size with
     |true=>some (a8 z l.length,.c (.e4 id 1 z.toNat 0))
     |false=>none
    |some (.b0 _ _ _ l _ _)=>match beq 1 bE.ti.size with
     |true=>some (a8 z l.length,.c (.e4 id 1 z.toNat 0))
     |false=>none
    |_=>none
   |_,_=>none
  |none=>none
 |some ⟨⟨.array m e,_,_,_⟩,_⟩=>match X.a6.find e with
  |some bE=>match x,i with
   |.c (.ptr id o),.c (.val (.int _ z))=>some (a8 z m,.c (.ptr id (o+z.toNat * bE.ti.size)))
   |.c (.gn g x o),.c (.val (.int _ z))=>some (a8 z m,.c (.gn g x (o+z.toNat * bE.ti.size)))
   |.c (.par g l),.c (.val (.int _ z))=>match beq g.size bE.ti.size with
    |true=>some (a8 z m&&a8 z l.length,.c (.gn g (l.getD z.toNat g.zero) 0))
    |false=>none
   |.c (.e4 id a 0 0),.c (.val (.int _ z))=>match beq a bE.ti.size with
    |true=>some (a8 z m,.c (.e4 id a z.toNat 0))
    |false=>none
   |.c (.il id o),.c (.val (.int _ z))=>match beq bE.ti.size 1 with
    |true=>some (a8 z m,.c (.e4 id 1 (o+z.toNat) 0))
    |false=>some (a8 z m,.c (.il id (o+z.toNat * bE.ti.size)))
   |_,_=>none
  |none=>none
 |_=>none
def IZ:Option Nat->Nat->Option Nat
 |some c,k=>some (c-k)
 |none,_=>none
def xY(X:bu)(t:TypeId)(x:bq)(lo hi a:Option bq):Option (Bool×bq):=
 match X.a6.find t with
 |some ⟨⟨.slice e,_,_,_⟩,_⟩=>match X.a6.find e with
  |some bE=>match x with
   |.c (.bo g l cap)=>match beq g.size bE.ti.size with
    |true=>match lo,hi,a with
     |some (.c (.val (.int _ z))),none,none=>some (decide (0<=z)&&decide (z<=(l.length:Int)),.c (.bo g (l.drop z.toNat) (IZ cap z.toNat)))
     |none,some (.c (.val (.int _ y))),none=>some (decide (0<=y)&&decide (y<=(l.length:Int)),.c (.bo g (l.take y.toNat) cap))
     |some (.c (.val (.int _ z))),some (.c (.val (.int _ y))),none=>some (decide (0<=z)&&decide (z<=y)&&decide (y<=(l.length:Int)),.c (.bo g ((l.take y.toNat).drop z.toNat) (IZ cap z.toNat)))
     |none,some (.c (.val (.int _ y))),some (.c (.val (.int _ q)))=>some (decide (0<=y)&&decide (y<=q)&&decide (q<=(l.length:Int)),.c (.bo g (l.take y.toNat) (some q.toNat)))
     |_,_,_=>none
    |false=>none
   |_=>none
  |none=>none
 |_=>none
def I0(X:bu)(st:aO)(t:TypeId)(x:bq):Option (Bool×bq):=
 match X.a6.find t with
 |some ⟨⟨.slice _,_,_,_⟩,_⟩=>match x with
  |.c (.bo _ l _)=>some (true,.c (.val (.int .i64 (l.length:Int))))
  |.c (.ax id)=>match bm st.H id with
   |some (.row _ _ l _)=>some (true,.c (.val (.int .i64 (l.length:Int))))
   |some (.cP _ _ _ l _ _ _)=>some (true,.c (.val (.int .i64 (l.length:Int))))
   |some (.gT _ _ l)=>some (true,.c (.val (.int .i64 (l.length:Int))))
   |some (.b0 _ _ _ l _ _)=>some (true,.c (.val (.int .i64 (l.length:Int))))
   |_=>none
  |.c (.val (.slice none 0 0))=>some (true,.c (.val (.int .i64 0)))
  |_=>none
 |some ⟨⟨.string,_,_,_⟩,_⟩=>match x with
  |.c (.str s)=>some (true,.c (.val (.int .i64 (s.length:Int))))
  |_=>none
 |_=>none
def I1(X:bu)(t:TypeId)(x:bq):Option (Bool×bq):=
 match X.a6.find t with
 |some ⟨⟨.slice _,_,_,_⟩,_⟩=>match x with
  |.c (.bo _ _ c)=>some (c.isSome,.c (.val (.int .i64 ((c.getD 0:Nat):Int))))
  |.c (.val (.slice none 0 0))=>some (true,.c (.val (.int .i64 0)))
  |_=>none
 |_=>none
def I2(X:bu)(t a:TypeId)(x:bq):Option (Bool×bq):=
 match X.a6.find t,X.a6.find a with
 |some _,some ⟨⟨.int k',_,_,_⟩,_⟩=>match x with
  |.c (.val (.int _ z))=>match oc k' z with
   |(c,r)=>some (c,.c (.val (.int k' r)))
  |_=>none
 |some _,some ⟨⟨.string,_,_,_⟩,_⟩=>match x with
  |.c (.str s)=>some (true,.c (.str s))
  |_=>none
 |_,_=>none
section
variable {X:bu} {R:Nat->Prop} {W:World} {aE:fj} {n:Nat} {aq:b6} {env:Nat->Loc} {B:Nat->Prop} {ak:World} {H:c2} {st:aO} {a:Act} {w b5:World} {o:Oper}
theorem I3{α:Type}:∀ {l:List α} {k:Nat} {x:α},nth l k=some x->l[k]?=some x
 |[],_,_,h=>by cases h
 |_::_,0,_,h=>h
 |_::r,k+1,_,h=>by rw[getElem?_cons_succ];exact I3 h
theorem Zv(y:X.a6.ok X.P){t:TypeId}{u:Operand}{g:Bool}{x bN:bq}{k:Nat}(e:o.op=.fieldAddr t u k)(hu:bz X st.L u=some (g,x))(A:g=true)(ae:IX X t x k=some (true,bN)):jn X st o bN:=by
 intro R W aE n aq env B ak H a b5 h;obtain⟨v,i,q⟩:=h.aI hu A;have j:=h.cf;unfold IX at ae
 split at ae
 ·rename_i dn s b z D az
  split at ae
  ·rename_i f aa
   split at ae
   ·rename_i bE dq
    obtain⟨T,r,I,l⟩:=nD (cm.get y az).ti (cm.get y dq).ti;have ag:dn[k]?=some ⟨f.name,f.type,f.offset,f.embedded,f.tag,f.pkgPath,f.byteOffset⟩:=by have:=I3 aa;simpa using this
    split at ae
    ·rename_i d
     cases ae;obtain⟨b,he,rfl⟩:=q;exact⟨_,⟨b,he,rfl⟩,λw _=>IF j e r I rfl ag l d i w⟩
    ·rename_i d
     cases ae;obtain⟨b,c,m,he,rfl⟩:=q;exact⟨_,⟨b,c,m,he,rfl⟩,λw _=>by have:=IF j e r I rfl ag l d i w;rw[add_assoc]at this;exact this⟩
    ·rename_i d
     cases ae;obtain⟨b,p,rfl,C⟩:=q;exact⟨_,⟨b,p,rfl,C⟩,λw _=>by have:=IF j e r I rfl ag l d i w;rw[add_assoc]at this;exact this⟩
    ·cases ae
   ·cases ae
  ·cases ae
 ·cases ae
theorem nE{z:Int}{n:Nat}(h:a8 z n=true):∃j:Nat,z=(j:Int)/\j<n/\z.toNat=j:=by
 simp only[a8,and_eq_true,decide_eq_true_eq]at h;exact⟨z.toNat,by omega,by omega,rfl⟩
theorem Py(g:a7)(l:List g.D){xs:cl}(az:Flat (bR B ak g) l xs){b p j:Nat}(ad:B b)(U:∀i u,xs[i]?=some u->ak.cell? ⟨b,p+i,none⟩=some u)(c:j<l.length):At B ak g (l.getD j g.zero) b (p+j * g.size):=by
 have ai:l[j]?=some (l.getD j g.zero):=by rw[List.getD_eq_getElem?_getD,getElem?_eq_getElem c];rfl
 have I:=Flat.get (λ_ _=>bR.length) az ai;refine⟨ad,_,I,λq v a=>?_⟩;rw[getElem?_take]at a
 split at a
 ·rw[getElem?_drop]at a
  rw[add_assoc];exact U _ _ a
 ·cases a
theorem Zw(U:X.a6.ok X.P){t:TypeId}{u y:Operand}{g g':Bool}{x i bN:bq}(F:o.op=.indexAddr t u y)(hu:bz X st.L u=some (g,x))(ag:g=true)(aG:bz X st.L y=some (g',i))(ai:g'=true)(ae:IY X st t x i=some (true,bN)):jn X st o bN:=by
 intro R W aE n aq env B ak H a b5 h;obtain⟨v,G,L⟩:=h.aI hu ag;obtain⟨M,f,N⟩:=h.aI aG ai;have J:=h.cf;unfold IY at ae
 split at ae
 ·rename_i e s b z al az
  split at ae
  ·rename_i bE dq
   obtain⟨T,D,I,C⟩:=nD (cm.get U az).ti (cm.get U dq).ti
   split at ae
   ·rename_i g l cap k z
    split at ae
    ·rename_i r
     simp only[Option.some.injEq,Prod.mk.injEq]at ae;obtain⟨ad,rfl⟩:=ae;obtain⟨j,rfl,d,E⟩:=nE ad;obtain⟨A,c,xs,rfl,av,aw,_,P,aa⟩:=L;rw[show M=_ from N]at f;have ab:0<l.length:=by omega
     obtain⟨b,p,rfl,Y⟩:=aa.1.2 ab;have V:=aa.2 b p ab rfl;refine⟨_,⟨b,p+j * g.size,rfl,Py g l P V Y d⟩,λw _=>?_⟩
     have:=DB J F D I rfl C G f rfl d w
     rw[<- eq_of_beq_eq_true r]at this;exact this
    ·cases ae
   ·rename_i id k z
    split at ae
    ·rename_i ac g l cap Q
     split at ae
     ·rename_i r
      simp only[Option.some.injEq,Prod.mk.injEq]at ae;obtain⟨ad,rfl⟩:=ae;obtain⟨j,rfl,d,E⟩:=nE ad;obtain⟨A,c,m,he,rfl⟩:=L;rw[show M=_ from N]at f;obtain⟨eA,K,⟨Z,k',xs,O,rfl,P,_⟩,S⟩:=h.heap.gU Q;rw[he]at O;cases O;obtain⟨b,rfl⟩:=h.aU.rowAt S.more (by omega);refine⟨_,⟨b,_,_,he,rfl⟩,λw _=>?_⟩
      have:=DB J F D I rfl C G f rfl d w
      rw[<- eq_of_beq_eq_true r,zero_add]at this;exact this
     ·cases ae
    ·rename_i ac g l cap ah au Q
     split at ae
     ·rename_i r
      simp only[Option.some.injEq,Prod.mk.injEq]at ae;obtain⟨ad,rfl⟩:=ae;obtain⟨j,rfl,d,E⟩:=nE ad;obtain⟨A,c,m,he,rfl⟩:=L;rw[show M=_ from N]at f;obtain⟨eA,K,⟨Z,k',ys,ar,cG,ay,O,rfl,P,_⟩,S⟩:=h.heap.gU Q;rw[he]at O;cases O;obtain⟨b,rfl⟩:=h.aU.rowAt S.more (by omega);refine⟨_,⟨b,_,_,he,rfl⟩,λw _=>?_⟩
      have:=DB J F D I rfl C G f rfl d w
      rw[<- eq_of_beq_eq_true r,zero_add]at this;exact this
     ·cases ae
    ·rename_i ac aB g l cap ah Q
     split at ae
     ·rename_i r
      simp only[Option.some.injEq,Prod.mk.injEq]at ae;obtain⟨ad,rfl⟩:=ae;obtain⟨j,rfl,d,E⟩:=nE ad;obtain⟨A,c,m,he,rfl⟩:=L;rw[show M=_ from N]at f;obtain⟨eA,K,⟨Z,k',ys,ap,bb,O,rfl,_⟩,S⟩:=h.heap.gU Q;rw[he]at O;cases O;obtain⟨b,rfl⟩:=fX.at ((h.aU.ok _ S.more.mem).1 _ mem_cons_self) (by show 0<l.length;omega);refine⟨_,⟨b,_,_,he,rfl⟩,λw _=>?_⟩
      have:=DB J F D I rfl C G f rfl d w
      rw[<- eq_of_beq_eq_true r,zero_add]at this;exact this
     ·cases ae
    ·cases ae
   ·cases ae
  ·cases ae
 ·rename_i m e s b z al az
  split at ae
  ·rename_i bE dq
   obtain⟨T,D,I,C⟩:=nD (cm.get U az).ti (cm.get U dq).ti
   split at ae
   ·rename_i id p k z
    simp only[Option.some.injEq,Prod.mk.injEq]at ae;obtain⟨ad,rfl⟩:=ae;obtain⟨j,rfl,d,E⟩:=nE ad;obtain⟨b,he,rfl⟩:=L;rw[show M=_ from N]at f;rw[E];exact⟨_,⟨b,he,rfl⟩,λw _=>xW J F D I rfl C G f rfl d rfl w⟩
   ·rename_i g x p k z
    simp only[Option.some.injEq,Prod.mk.injEq]at ae;obtain⟨ad,rfl⟩:=ae;obtain⟨j,rfl,d,E⟩:=nE ad;obtain⟨b,q,rfl,aj⟩:=L;rw[show M=_ from N]at f;rw[E];exact⟨_,⟨b,q,rfl,aj⟩,λw _=>xW J F D I rfl C G f rfl d (by omega) w⟩
   ·rename_i g l k z
    split at ae
    ·rename_i r
     simp only[Option.some.injEq,Prod.mk.injEq,and_eq_true]at ae;obtain⟨⟨am,ad⟩,rfl⟩:=ae;obtain⟨j,rfl,d,E⟩:=nE ad;obtain⟨ax,an,aA,_⟩:=nE am;obtain⟨b,p,vs,rfl,V,P,Y⟩:=L;rw[show M=_ from N]at f;refine⟨_,⟨b,p+j * g.size,rfl,Py g l P V Y d⟩,λw _=>?_⟩;exact xW J F D I rfl C G f rfl (by omega) (by rw[eq_of_beq_eq_true r];rfl) w
    ·cases ae
   ·rename_i id ao k z
    split at ae
    ·rename_i r
     simp only[Option.some.injEq,Prod.mk.injEq]at ae;obtain⟨ad,rfl⟩:=ae;obtain⟨j,rfl,d,E⟩:=nE ad;obtain⟨b,c,q,he,rfl⟩:=L;rw[show M=_ from N]at f;exact⟨_,⟨b,c,q,he,rfl⟩,λw _=>xW J F D I rfl C G f rfl d (by rw[eq_of_beq_eq_true r];simp) w⟩
    ·cases ae
   ·rename_i id p k z
    split at ae
    ·rename_i r
     simp only[Option.some.injEq,Prod.mk.injEq]at ae;obtain⟨ad,rfl⟩:=ae;obtain⟨j,rfl,d,E⟩:=nE ad;obtain⟨b,c,q,he,rfl⟩:=L;rw[show M=_ from N]at f;have af:=eq_of_beq_eq_true r;exact⟨_,⟨b,c,q,he,rfl⟩,λw _=>xW J F D I rfl C G f rfl d (by rw[af];omega) w⟩
    ·simp only[Option.some.injEq,Prod.mk.injEq]at ae
     obtain⟨ad,rfl⟩:=ae;obtain⟨j,rfl,d,E⟩:=nE ad;obtain⟨b,c,q,he,rfl⟩:=L;rw[show M=_ from N]at f;exact⟨_,⟨b,c,q,he,rfl⟩,λw _=>xW J F D I rfl C G f rfl d rfl w⟩
   ·cases ae
  ·cases ae
 ·cases ae
theorem Flat.cut{g:a7}{l:List g.D}{xs:cl}(az:Flat (bR B ak g) l xs)(lo hi:Nat):Flat (bR B ak g) ((l.take hi).drop lo) ((xs.drop (lo * g.size)).take ((hi-lo) * g.size)):=by
 have I:=(Flat.split (λ_ _=>bR.length) hi az).1;have J:=(Flat.split (λ_ _=>bR.length) lo I).2;have e:(xs.take (hi * g.size)).drop (lo * g.size)=(xs.drop (lo * g.size)).take ((hi-lo) * g.size):=by
  rw[drop_take,Nat.sub_mul]
 rw[e]at J;exact J
theorem oO.cut{A:Option Addr}{m size l h c:Nat}{xs:cl}(a:oO B ak A m size xs)(ae:l<=h)(d:h<=m)(U:h<=c):oO B ak (kf A l size c) (h-l) size ((xs.drop (l * size)).take ((h-l) * size)):=by
 refine⟨a.1.cut ae d U,λb p al e=>?_⟩;obtain⟨oM,f,rfl,_⟩:=a.1.2 (by omega);unfold kf at e
 split at e
 ·cases e;exact a.2 _ _ (by omega) rfl
 ·simp only[Option.map_some,Option.some.injEq,Addr.add_lit]at e
  cases e;exact a.2 _ _ (by omega) rfl
theorem PA{g:a7}{l:List g.D}{A:Option Addr}{c:Nat}{xs:cl}{cap:Option Nat}(b:Flat (bR B ak g) l xs)(e:oO B ak A l.length g.size xs)(h:c<=maxLen)(lo hi q:Nat)(I:lo<=hi)(J:hi<=l.length)(ag:hi<=q)(f:q<=c)(d:∀k,cap=some k->q-lo=k) :
  dR env B ak (.bo g ((l.take hi).drop lo) cap) (.slice (kf A lo g.size q) (hi-lo) (q-lo)):=by
 have a:((l.take hi).drop lo).length=hi-lo:=by simp;omega
 refine⟨_,q-lo,_,by rw[a],by rw[a];omega,by omega,d,b.cut lo hi,?_⟩;rw[a];exact e.cut I J ag
theorem DO(ai:X.a6.ok X.P){t:TypeId}{u:Operand}{lo hi M:Option Operand}{g:Bool}{x bN:bq}{N O P:Option bq}(f:o.op=.slice t u lo hi M)(hu:bz X st.L u=some (g,x))(ap:g=true)(af:∀s,N=some s->∃y,lo=some y/\∃g',bz X st.L y=some (g',s)/\g'=true)(ag:N=none->lo=none)(Q:∀s,O=some s->∃y,hi=some y/\∃g',bz X st.L y=some (g',s)/\g'=true)(an:O=none->hi=none)(ao:∀s,P=some s->∃y,M=some y/\∃g',bz X st.L y=some (g',s)/\g'=true)(S:P=none->M=none)(ae:xY X t x N O P=some (true,bN)):jn X st o bN:=by
 intro R W aE n aq env B ak H a b5 h;obtain⟨v,F,ar⟩:=h.aI hu ap;have G:=h.cf;unfold xY at ae
 split at ae
 ·rename_i e s b z aA az
  split at ae
  ·rename_i bE dq
   obtain⟨T,K,I,J⟩:=nD (cm.get ai az).ti (cm.get ai dq).ti
   split at ae
   ·rename_i g l cap
    obtain⟨A,c,xs,rfl,av,ac,ab,L,C⟩:=ar
    split at ae
    ·rename_i au
     have aj:=eq_of_beq_eq_true au
     split at ae
     ·rename_i k z
      simp only[Option.some.injEq,Prod.mk.injEq,and_eq_true,decide_eq_true_eq]at ae;obtain⟨⟨fg,h0⟩,rfl⟩:=ae;obtain⟨y,rfl,g',aG,i⟩:=af _ rfl;rw[an rfl,S rfl]at f;obtain⟨j,d,m⟩:=h.aI aG i;rw[show j=_ from m]at d;refine⟨_,?_,λw _=>Pc G f K I rfl J F d (l:=z.toNat) (by omega) (by omega) w⟩;rw[<- aj]
      have:=PA (env:=env) (cap:=IZ cap z.toNat) L C ac z.toNat l.length c (by omega) (le_refl _) av (le_refl _) (by
       intro k aa;cases cap with
       |none=>cases aa
       |some c'=>have:=ab c' rfl;cases aa;rw[this])
      rw[List.take_length]at this;exact this
     ·rename_i k y
      simp only[Option.some.injEq,Prod.mk.injEq,and_eq_true,decide_eq_true_eq]at ae;obtain⟨⟨fg,h0⟩,rfl⟩:=ae;obtain⟨q,rfl,g',aG,i⟩:=Q _ rfl;rw[ag rfl,S rfl]at f;obtain⟨j,d,m⟩:=h.aI aG i;rw[show j=_ from m]at d;refine⟨_,?_,λw _=>YX G f K I rfl J F d (h:=y.toNat) (by omega) (by omega) w⟩;have r:(l.take y.toNat).length=y.toNat:=by simp;omega
      have Z:=L.cut 0 y.toNat;have E:=C.1.cut (l:=0) (h:=y.toNat) (c:=c) (by omega) (by omega) (by omega);have ah:kf A 0 g.size c=A:=by
       unfold kf
       split
       ·rfl
       ·cases A with
        |none=>rfl
        |some aw=>simp[Addr.add]
      rw[ah]at E;refine⟨A,c,_,by rw[r],by rw[r];omega,ac,ab,by simpa using Z,?_⟩;rw[r];refine⟨by simpa using E,λb p al e=>C.2 b p (by omega) e⟩
     ·rename_i k z k' y
      simp only[Option.some.injEq,Prod.mk.injEq,and_eq_true,decide_eq_true_eq]at ae;obtain⟨⟨⟨fg,h0⟩,ir⟩,rfl⟩:=ae;obtain⟨q,rfl,g',aG,i⟩:=af _ rfl;obtain⟨aB,rfl,am,ad,U⟩:=Q _ rfl;rw[S rfl]at f;obtain⟨j,d,m⟩:=h.aI aG i;rw[show j=_ from m]at d;obtain⟨V,D,Y⟩:=h.aI ad U;rw[show V=_ from Y]at D;refine⟨_,?_,λw _=>YY G f K I rfl J F d D (l:=z.toNat) (h:=y.toNat) (by omega) (by omega) (by omega) (by omega) w⟩;rw[<- aj];exact PA (env:=env) L C ac z.toNat y.toNat c (by omega) (by omega) (by omega) (le_refl _) (by
       intro k aa;cases cap with
       |none=>cases aa
       |some c'=>have:=ab c' rfl;cases aa;rw[this])
     ·rename_i k y k' q
      simp only[Option.some.injEq,Prod.mk.injEq,and_eq_true,decide_eq_true_eq]at ae;obtain⟨⟨⟨fg,h0⟩,ir⟩,rfl⟩:=ae;obtain⟨ax,rfl,g',aG,i⟩:=Q _ rfl;obtain⟨ay,rfl,am,ad,U⟩:=ao _ rfl;rw[ag rfl]at f;obtain⟨j,d,m⟩:=h.aI aG i;rw[show j=_ from m]at d;obtain⟨V,D,Y⟩:=h.aI ad U;rw[show V=_ from Y]at D;refine⟨_,?_,λw _=>Pp G f K I rfl J F d D (h:=y.toNat) (q:=q.toNat) (by omega) (by omega) (by omega) (by omega) w⟩;have r:(l.take y.toNat).length=y.toNat:=by simp;omega
      have Z:=L.cut 0 y.toNat;have E:=C.1.cut (l:=0) (h:=y.toNat) (c:=c) (by omega) (by omega) (by omega);have ah:kf A 0 g.size c=A:=by
       unfold kf
       split
       ·rfl
       ·cases A with
        |none=>rfl
        |some aw=>simp[Addr.add]
      rw[ah]at E;refine⟨A,q.toNat,_,by rw[r],by rw[r];omega,by omega,(λ_ aa=>by cases aa;rfl),by simpa using Z,?_⟩;rw[r];refine⟨by simpa using E,λb p al e=>C.2 b p (by omega) e⟩
     ·cases ae
    ·cases ae
   ·cases ae
  ·cases ae
 ·cases ae
end
end
def pD:dI->Nat->dI->Option dI
 |l,0,[]=>some l
 |_::l,0,v::vs=>match pD l 0 vs with
  |some r=>some (v::r)
  |none=>none
 |c::l,k+1,vs=>match pD l k vs with
  |some r=>some (c::r)
  |none=>none
 |[],_,_=>none
def bq.cells:bq->dI
 |.c x=>[x]
 |.agg cs=>cs
 |.arr g l=>replicate (l.length * g.size) .dead
def bs.live:bs->Bool
 |.dead=>false
 |.val v=>v.oneCell'
 |_=>true
def pE:dI->Bool
 |[]=>true
 |c::r=>c.live&&pE r
def fieldAt(X:bu):List Field->Nat->Option (Nat×Nat)
 |dn,k=>match nth dn k with
  |some f=>match X.a6.find f.type with
   |some bE=>some (f.offset,bE.ti.size)
   |none=>none
  |none=>none
def tG(X:bu)(L:cU)(pl:Nat->Option (Nat×Nat)):List (Nat×Operand)->Bool->dI->Option (Bool×dI)
 |[],c,z=>some (c,z)
 |(k,u)::r,c,z=>match pl k,bz X L u with
  |some (off,size),some (g,x)=>match beq x.cells.length size,pE x.cells,pD z off x.cells with
   |true,true,some a=>tG X L pl r (c&&g) a
   |_,_,_=>none
  |_,_=>none
def DP(X:bu):List Field->Bool
 |[]=>true
 |f::r=>(X.a6.find f.type).isSome&&DP X r
def Jc(X:bu)(L:cU)(t:TypeId)(aH:List (Nat×Operand)):Option (Bool×bq):=
 match X.a6.find t with
 |some ⟨⟨.struct dn,_,_,.agg z⟩,_⟩=>match DP X dn.toList with
  |true=>match tG X L (fieldAt X dn.toList) aH true (tF z.toList)with
   |some (c,r)=>some (c,.agg r)
   |none=>none
  |false=>none
 |some ⟨⟨.array _ e,_,_,.agg z⟩,_⟩=>match X.a6.find e with
  |some bE=>match tG X L (λi=>some (i * bE.ti.size,bE.ti.size)) aH true (tF z.toList)with
   |some (c,r)=>some (c,.agg r)
   |none=>none
  |none=>none
 |_=>none
def Aj(b:Bool):bq->bq->Option bq
 |.c (.val (.int k x)),.c (.val (.int k' y))=>match decide (k=k')with
  |true=>some (.c (.val (.int k (cond b x y))))
  |false=>none
 |.c (.val (.bool x)),.c (.val (.bool y))=>some (.c (.val (.bool (cond b x y))))
 |.c (.str x),.c (.str y)=>some (.c (.str (cond b x y)))
 |_,_=>none
def gH(X:bu)(L:cU):eE->Option ep
 |[]=>some []
 |u::r=>match bz X L u,gH X L r with
  |some (true,.c (.ptr id 0)),some l=>some (.id id::l)
  |some (true,.c (.gn g x 0)),some l=>some (.eF g x::l)
  |_,_=>none
def xZ(isMax:Bool)(k:IntKind)(a:Int)(X:bu)(L:cU):eE->Bool->Option (Bool×bs)
 |[],c=>some (c,.val (.int k a))
 |u::r,c=>match bz X L u with
  |some (g,.c (.val (.int k' y)))=>match decide (k=k'),isMax with
   |true,true=>xZ true k (if a<y then y else a) X L r (c&&g)
   |true,false=>xZ false k (if y<a then y else a) X L r (c&&g)
   |false,_=>none
  |_=>none
def vz(X:bu)(st:aO):Op->Option (Bool×bq)
 |.move u=>bz X st.L u
 |.assign u=>bz X st.L u
 |.pick c u v=>match bz X st.L c,bz X st.L u,bz X st.L v with
  |some (m,.c (.val (.bool b))),some (Ak,x),some (bj,y)=>match Aj b x y with
   |some r=>some (m&&(!b || Ak)&&(b || bj),r)
   |none=>none
  |_,_,_=>none
 |.unOp .not _ u=>match bz X st.L u with
  |some (g,.c (.val (.bool b)))=>some (g,.c (.val (.bool (!b))))
  |_=>none
 |.unOp .neg _ u=>match bz X st.L u with
  |some (g,.c (.val (.int k x)))=>match oc k (0-x)with
   |(c,z)=>some (g&&c,.c (.val (.int k z)))
  |_=>none
 |.binOp op t u v _=>match bz X st.L u,bz X st.L v with
  |some (g,x),some (g',y)=>match IU X op t x y with
   |some (c,r)=>some (g&&g'&&c,.c r)
   |none=>none
  |_,_=>none
 |.load t u=>match bz X st.L u with
  |some (g,x)=>match DN X st t x with
   |some (c,r)=>some (g&&c,r)
   |none=>none
  |none=>none
 |.fieldAddr t u k=>match bz X st.L u with
  |some (g,x)=>match IX X t x k with
   |some (c,r)=>some (g&&c,r)
   |none=>none
  |none=>none
 |.indexAddr t u v=>match bz X st.L u,bz X st.L v with
  |some (g,x),some (g',y)=>match IY X st t x y with
   |some (c,r)=>some (g&&g'&&c,r)
   |none=>none
  |_,_=>none
 |.slice t u none none none=>none
 |.slice t u (some l) none none=>match bz X st.L u,bz X st.L l with
  |some (g,x),some (a,d)=>match xY X t x (some d) none none with
   |some (c,r)=>some (g&&a&&c,r)
   |none=>none
  |_,_=>none
 |.slice t u none (some l) none=>match bz X st.L u,bz X st.L l with
  |some (g,x),some (a,d)=>match xY X t x none (some d) none with
   |some (c,r)=>some (g&&a&&c,r)
   |none=>none
  |_,_=>none
 |.slice t u (some l) (some h) none=>match bz X st.L u,bz X st.L l,bz X st.L h with
  |some (g,x),some (a,d),some (g2,e)=>match xY X t x (some d) (some e) none with
   |some (c,r)=>some (g&&a&&g2&&c,r)
   |none=>none
  |_,_,_=>none
 |.slice t u none (some l) (some h)=>match bz X st.L u,bz X st.L l,bz X st.L h with
  |some (g,x),some (a,d),some (g2,e)=>match xY X t x none (some d) (some e)with
   |some (c,r)=>some (g&&a&&g2&&c,r)
   |none=>none
  |_,_,_=>none
 |.convert t j u=>match bz X st.L u with
  |some (g,x)=>match I2 X t j x with
   |some (c,r)=>some (g&&c,r)
   |none=>none
  |none=>none
 |.build t aH=>Jc X st.L t aH.toList
 |.makeFunc (.func f) ⟨[]⟩ cs=>match gH X st.L cs.toList with
  |some ids=>some (true,.c (.fn f ids))
  |none=>none
 |.makeFunc (.func f) ⟨[u]⟩ ⟨[]⟩=>match bz X st.L u with
  |some (true,.c (.ptr id 0))=>some (true,.c (.jD f id))
  |_=>none
 |.nilCheck u=>match bz X st.L u with
  |some (g,.c (.ptr id o))=>some (g,.c (.ptr id o))
  |some (g,.c (.e4 id s i o))=>some (g,.c (.e4 id s i o))
  |some (g,.c (.gn t x o))=>some (g,.c (.gn t x o))
  |some (g,.c (.par t x))=>some (g,.c (.par t x))
  |_=>none
 |.extract (.tmp s) k=>match bm st.L s with
  |some (.da vs)=>match nth vs k with
   |some x=>some (true,x)
   |none=>none
  |_=>none
 |.call ⟨.builtin .len,⟨[u]⟩,⟨[t]⟩⟩=>match bz X st.L u with
  |some (g,x)=>match I0 X st t x with
   |some (c,r)=>some (g&&c,r)
   |none=>none
  |none=>none
 |.call ⟨.builtin .cap,⟨[u]⟩,⟨[t]⟩⟩=>match bz X st.L u with
  |some (g,x)=>match I1 X t x with
   |some (c,r)=>some (g&&c,r)
   |none=>none
  |none=>none
 |.call ⟨.builtin .min,⟨u::r⟩,_⟩=>match bz X st.L u with
  |some (g,.c (.val (.int k x)))=>match xZ false k x X st.L r g with
   |some (c,y)=>some (c,.c y)
   |none=>none
  |_=>none
 |.call ⟨.builtin .max,⟨u::r⟩,_⟩=>match bz X st.L u with
  |some (g,.c (.val (.int k x)))=>match xZ true k x X st.L r g with
   |some (c,y)=>some (c,.c y)
   |none=>none
  |_=>none
 |.index t u v=>match X.a6.find t with
  |some ⟨⟨.string,_,_,_⟩,_⟩=>match bz X st.L u,bz X st.L v with
   |some (g,.c (.str s)),some (g',.c (.val (.int _ z)))=>some (g&&g'&&a8 z s.length,.c (.val (.int .u8 ((s.getD z.toNat 0).toNat:Int))))
   |_,_=>none
  |_=>none
 |_=>none
section
section
variable {X:bu} {R:Nat->Prop} {W:World} {aE:fj} {n:Nat} {aq:b6} {env:Nat->Loc} {B:Nat->Prop} {ak:World} {H:c2} {st:aO} {a:Act} {w b5:World} {o:Oper}
theorem Al:∀ {cs:dI} {vs:cl} {k:Nat} {xs:dI} {us:cl} {r:dI},cO env B w cs vs->cO env B w xs us->pD cs k xs=some r->∃a,rb vs k us a/\cO env B w r a
 |cs,vs,0,[],us,r,I,J,h=>by
  have e:=J;subst e;cases cs with
  |nil=>simp only[pD,Option.some.injEq]at h;subst h;exact⟨vs,.nil,I⟩
  |cons c cs=>simp only[pD,Option.some.injEq]at h;subst h;exact⟨vs,.nil,I⟩
 |c::cs,vs,0,x::xs,us,r,⟨v,g,e,_,I⟩,⟨u,l,j,J,ag⟩,h=>by
  simp only[pD]at h
  split at h
  ·rename_i q d
   cases h;obtain⟨a,f,b⟩:=Al I ag d;subst e;subst j;exact⟨u::a,.cons f,u,a,rfl,J,b⟩
  ·cases h
 |c::cs,vs,k+1,xs,us,r,⟨v,g,e,i,I⟩,J,h=>by
  simp only[pD]at h
  split at h
  ·rename_i q d
   cases h;obtain⟨a,f,b⟩:=Al I J d;subst e;exact⟨v::a,.skip f,v,a,rfl,i,b⟩
  ·cases h
 |[],_,0,_::_,_,_,_,_,h=>by simp[pD]at h
 |[],_,_+1,_,_,_,_,_,h=>by simp[pD]at h
theorem cO.PD:∀vs:cl,cO env B w (replicate vs.length .dead) vs
 |[]=>rfl
 |v::r=>⟨v,r,rfl,trivial,cO.PD r⟩
theorem dU.cells:∀ {x:bq} {v:Value},dU env B w x v->(∀c,x=.c c->v.oneCell'=true)->cO env B w x.cells v.cells.toList
 |.c x,v,h,d=>by
  have b:=d x rfl;have a:v.cells=#[v]:=by cases v<;>first|rfl|(simp[Value.oneCell']at b)
  rw[a];exact⟨v,[],rfl,h,rfl⟩
 |.agg cs,v,⟨vs,e,h⟩,_=>by subst e;simpa [Value.cells,bq.cells] using h
 |.arr g l,v,⟨vs,e,h⟩,_=>by
  subst e;have I:=cO.PD (env:=env) (B:=B) (w:=w) vs;rw[bR.oL h]at I
  simpa [Value.cells,bq.cells] using I
theorem dR.one:∀ {c:bs} {v:Value},c.live=true->dR env B w c v->v.oneCell'=true
 |.val _,_,h,e=>by rw[show _=_ from e];exact h
 |.str _,_,_,e=>by rw[show _=gl _ from e];rfl
 |.dead,_,h,_=>by cases h
 |.ptr _ _,_,_,⟨_,_,e⟩=>by rw[e];rfl
 |.e4 _ _ _ _,_,_,⟨_,_,_,_,e⟩=>by rw[e];rfl
 |.gn _ _ _,_,_,⟨_,_,e,_⟩=>by rw[e];rfl
 |.par _ _,_,_,⟨_,_,_,e,_⟩=>by rw[e];rfl
 |.ax _,_,_,⟨_,_,_,_,e⟩=>by rw[e];rfl
 |.bo _ _ _,_,_,⟨_,_,_,e,_⟩=>by rw[e];rfl
 |.fn _ _,_,_,⟨_,e,_⟩=>by rw[e];rfl
 |.dY _,_,_,⟨_,_,e⟩=>by rw[e];rfl
 |.jD _ _,_,_,⟨_,_,e⟩=>by rw[e];rfl
 |.il _ _,_,_,⟨_,_,_,_,e⟩=>by rw[e];rfl
 |.jE _ _ _,_,_,⟨_,_,_,_,_,e⟩=>by rw[e];rfl
 |.jR _,_,_,⟨_,_,_,_,e⟩=>by rw[e];rfl
 |.iF b _,_,_,⟨_,_,e⟩=>by rw[e];cases b<;>rfl
theorem cO.jo:∀ {cs:dI} {vs:cl},pE cs=true->cO env B w cs vs->∀u∈vs,u.oneCell'=true
 |[],_,_,h,u,hu=>by rw[show _=[] from h]at hu;cases hu
 |c::cs,_,ae,⟨v,r,e,I,J⟩,u,hu=>by
  simp only[pE,and_eq_true]at ae;subst e
  rcases List.mem_cons.1 hu with rfl|hu
  ·exact dR.one ae.1 I
  ·exact cO.jo ae.2 J u hu
theorem ZD{P:Program}{o:Oper}{a:Act}{n:Nat}{D:List Deferred}{L:List (Nat×Value)}{f:Fn}{x:Operand}{v:Value}(d:df n D L a)(b:o.op=.makeFunc f #[x] #[])(c:aI L x=some v):fJ P o a (.func f #[v] #[]):=λw=>by
 simp[execOp,b,Instr.makeFunc,d.aI c]
theorem Jd(h:bK X R W aE n aq env B ak H st a b5):∀ {us:eE} {ids:ep},gH X st.L us=some ids->∃vs,jB (full a) us=some vs/\fb env B ak ids vs
 |[],ids,U=>by cases U;exact⟨[],rfl,rfl⟩
 |u::us,ids,U=>by
  simp only[gH]at U
  split at U
  ·rename_i id l hu ae
   cases U;obtain⟨v,I,b,he,rfl⟩:=h.aI hu rfl;obtain⟨vs,J,ag⟩:=Jd h ae;refine⟨_::vs,?_,_,vs,rfl,⟨b,he,rfl⟩,ag⟩;unfold jB;rw[I,J]
  ·rename_i g x l hu ae
   cases U;obtain⟨v,I,b,o,rfl,c⟩:=h.aI hu rfl;obtain⟨vs,J,ag⟩:=Jd h ae;refine⟨_::vs,?_,_,vs,rfl,⟨b,o,rfl,c⟩,ag⟩;unfold jB;rw[I,J]
   rfl
  ·cases U
theorem DQ(h:bK X R W aE n aq env B ak H st a b5){k:IntKind}:∀ {m:Bool} {us:eE} {d:Int} {c:Bool} {e:bs},xZ m k d X st.L us c=some (true,e) ->
  c=true/\∃z,e=.val (.int k z)/\∀w,((us.map a.eval).foldlM (if m then Builtin.max2 else Builtin.min2) (.int k d)).run X.P w=.ok (.int k z) w
 |m,[],d,c,e,b=>by
  obtain⟨rfl,rfl⟩:=b;exact⟨rfl,d,rfl,λw=>by simp⟩
 |m,u::us,d,c,e,b=>by
  simp only[xZ]at b
  split at b
  ·rename_i g k' y hu
   have f:k=k':=by
    split at b
    ·rename_i aa;exact of_decide_eq_true aa
    ·rename_i aa;exact of_decide_eq_true aa
    ·cases b
   subst f;rw[decide_eq_true rfl]at b;cases m with
   |true=>
    obtain⟨U,z,rfl,bO⟩:=DQ h b;simp only[and_eq_true]at U;obtain⟨v,I,J⟩:=h.aI hu U.2;have ag:=h.cf.aI I;rw[show v=_ from J]at ag;refine⟨U.1,z,rfl,λw=>?_⟩
    have:=bO w
    simp[ag,Builtin.max2]at this ⊢
    exact this
   |false=>
    obtain⟨U,z,rfl,bO⟩:=DQ h b;simp only[and_eq_true]at U;obtain⟨v,I,J⟩:=h.aI hu U.2;have ag:=h.cf.aI I;rw[show v=_ from J]at ag;refine⟨U.1,z,rfl,λw=>?_⟩
    have:=bO w
    simp[ag,Builtin.min2]at this ⊢
    exact this
  ·cases b
theorem PE(b:X.a6.ok X.P):∀(dn:List Field),DP X dn=true->∃l:List (Nat×Nat),(∀w,(dn.mapM λf=>Prod.mk f.offset <$> sizeOf f.type:Sem (List (Nat×Nat))).run X.P w=.ok l w)/\∀k p,fieldAt X dn k=some p->l[k]?=some p
 |[],_=>⟨[],λw=>by simp,λk p h=>by simp[fieldAt,nth]at h⟩
 |f::dn,a=>by
  simp only[DP,and_eq_true]at a;obtain⟨l,I,J⟩:=PE b dn a.2;cases az:X.a6.find f.type with
  |none=>rw[az]at a;simp at a
  |some bE=>
   refine⟨(f.offset,bE.ti.size)::l,λw=>?_,λk p h=>?_⟩
   ·simp[bI.run_sizeOf (cm.get b az).ti,I]
   ·cases k with
    |zero=>
     simp only[fieldAt,nth,az,Option.some.injEq]at h
     simp[h]
    |succ k=>
     exact J k p (by simpa [fieldAt,nth] using h)
theorem ZE{pl:Nat->Option (Nat×Nat)}:∀(aH:List (Nat×Operand)) (c:Bool) (z:dI) (c':Bool) (r:dI),tG X st.L pl aH c z=some (c',r)->c'=true->c=true:=by
 intro aH
 induction aH with
 |nil=>intro c z c' r I J;simp only[tG,Option.some.injEq,Prod.mk.injEq]at I;rw[I.1];exact J
 |cons p aH a=>
  intro c z c' r I J;simp only[tG]at I
  split at I
  ·split at I
   ·have:=a _ _ _ _ I J
    simp only[and_eq_true]at this;exact this.1
   ·cases I
  ·cases I
theorem Je(h:bK X R W aE n aq env B ak H st a b5){pl l:Nat->Option (Nat×Nat)}(ae:∀k p,pl k=some p->l k=some p):∀ {aH:List (Nat×Operand)} {c c':Bool} {z r:dI} {vs:cl},cO env B ak z vs ->
  tG X st.L pl aH c z=some (c',r)->c'=true->∃b:cl,Instr.fill l vs.toArray (aH.map λp=>(p.1,a.eval p.2))=some b.toArray/\cO env B ak r b
 |[],c,c',z,r,vs,bO,az,U=>by
  obtain⟨rfl,rfl⟩:=az;exact⟨vs,rfl,bO⟩
 |(k,u)::aH,c,c',z,r,vs,bO,az,U=>by
  simp only[tG]at az
  split at az
  ·rename_i off size g x j hu
   split at az
   ·rename_i y t i al
    have w:=eq_of_beq_eq_true t;have d:=ZE _ _ _ _ _ az U;simp only[and_eq_true]at d;obtain⟨v,I,J⟩:=h.aI hu d.2;have f:cO env B ak x.cells v.cells.toList:=J.cells λc e=>by
     subst e;simp only[bq.cells,pE,Bool.and_true]at i;exact dR.one i J
    obtain⟨b,ag,s⟩:=Al bO f al;obtain⟨m,q,o⟩:=Je h ae s az U;refine⟨m,?_,o⟩;rw[map_cons,h.cf.aI I];rw[Y7 (ae _ _ j) (by rw[<- w,<- f.length];simp) ag];exact q
   ·cases az
  ·cases az
theorem ZG(d:X.a6.ok X.P){t:TypeId}{aH:Array (Nat×Operand)}{bN:bq}(u:o.op=.build t aH)(ae:Jc X st.L t aH.toList=some (true,bN)):jn X st o bN:=by
 intro R W aE n aq env B ak H a b5 h;unfold Jc at ae
 split at ae
 ·rename_i dn s b z y az
  obtain⟨fl,rfl⟩:∃fl:List Field,dn=fl.toArray:=⟨dn.toList,by simp⟩
  split at ae
  ·rename_i v
   split at ae
   ·rename_i c r q
    cases ae;obtain⟨l,I,J⟩:=PE d _ v;obtain⟨f,ag,i⟩:=Je h J (Af z.toList) q rfl;refine⟨_,⟨f,rfl,i⟩,λw _=>?_⟩;have g:=(cm.get d az).ti.1;have j:=bI.so (cm.get d az).ti w;have k:=I w
    have:(Instr.build t (aH.map λp=>(p.1,a.eval p.2))).run X.P w=.ok (.agg f.toArray) w:=by
     unfold Instr.build
     simp[j,run_underlying g,k,Value.cells,ag]
    simp only[execOp,u]
    simp[this]
   ·cases ae
  ·cases ae
 ·rename_i m e s b z y az
  split at ae
  ·rename_i bE dq
   split at ae
   ·rename_i c r q
    cases ae;obtain⟨f,ag,i⟩:=Je h (λ_ _ h=>h) (Af z.toList) q rfl;refine⟨_,⟨f,rfl,i⟩,λw _=>?_⟩;have g:=(cm.get d az).ti.1;have j:=bI.so (cm.get d az).ti w;have k:=bI.run_sizeOf (cm.get d dq).ti w
    have:(Instr.build t (aH.map λp=>(p.1,a.eval p.2))).run X.P w=.ok (.agg f.toArray) w:=by
     unfold Instr.build
     simp[j,run_underlying g,k,Value.cells,ag]
    simp only[execOp,u]
    simp[this]
   ·cases ae
  ·cases ae
 ·cases ae
theorem ZH(y:X.a6.ok X.P){t:TypeId}{u:Operand}{g:Bool}{x bN:bq}(i:o.op=.call ⟨.builtin .len,⟨[u]⟩,⟨[t]⟩⟩)(hu:bz X st.L u=some (g,x))(D:g=true)(ae:I0 X st t x=some (true,bN)):jn X st o bN:=by
 intro R W aE n aq env B ak H a b5 h;obtain⟨v,f,k⟩:=h.aI hu D;have j:=h.cf;unfold I0 at ae
 split at ae
 ·rename_i e s b z F az
  obtain⟨T,p,I⟩:=DI (cm.get y az).ti
  split at ae
  ·cases ae
   obtain⟨A,c,xs,rfl,_⟩:=k;exact⟨_,rfl,λw _=>xR j i p I rfl f w⟩
  ·split at ae
   ·rename_i l
    cases ae;obtain⟨A,c,m,he,rfl⟩:=k;obtain⟨eA,K,⟨q,k',xs,d,rfl,G,_⟩,r⟩:=h.heap.gU l;rw[he]at d;cases d;exact⟨_,rfl,λw _=>xR j i p I rfl f w⟩
   ·rename_i l
    cases ae;obtain⟨A,c,m,he,rfl⟩:=k;obtain⟨eA,K,⟨q,k',ys,L,cG,M,d,rfl,_⟩,r⟩:=h.heap.gU l;rw[he]at d;cases d;exact⟨_,rfl,λw _=>xR j i p I rfl f w⟩
   ·rename_i l
    cases ae;obtain⟨A,c,m,he,rfl⟩:=k;obtain⟨eA,K,⟨q,k',d,_⟩,r⟩:=h.heap.gU l;rw[he]at d;cases d;exact⟨_,rfl,λw _=>xR j i p I rfl f w⟩
   ·rename_i l
    cases ae;obtain⟨A,c,m,he,rfl⟩:=k;obtain⟨eA,K,⟨q,k',ys,J,bb,d,_⟩,r⟩:=h.heap.gU l;rw[he]at d;cases d;exact⟨_,rfl,λw _=>xR j i p I rfl f w⟩
   ·cases ae
  ·cases ae
   rw[show v=_ from k]at f;exact⟨_,rfl,λw _=>xR j i p I rfl f w⟩
  ·cases ae
 ·rename_i s b z F az
  have C:=(cm.get y az).ti.1
  split at ae
  ·rename_i ax
   cases ae;rw[show v=_ from k]at f;refine⟨_,rfl,λw _=>?_⟩;have E:(ByteArray.mk ax.toArray).size=ax.length:=by show ax.toArray.size=_;simp
   simp[execOp,i,resolve,invoke,builtin,Builtin.len_,j.aI f,gl,run_underlying C,goInt,E]
  ·cases ae
 ·cases ae
theorem ZI(m:X.a6.ok X.P){t:TypeId}{u:Operand}{g:Bool}{x bN:bq}(f:o.op=.call ⟨.builtin .cap,⟨[u]⟩,⟨[t]⟩⟩)(hu:bz X st.L u=some (g,x))(l:g=true)(ae:I1 X t x=some (true,bN)):jn X st o bN:=by
 intro R W aE n aq env B ak H a b5 h;obtain⟨v,d,j⟩:=h.aI hu l;have i:=h.cf;unfold I1 at ae
 split at ae
 ·rename_i e s b z p az
  obtain⟨T,k,I⟩:=DI (cm.get m az).ti
  split at ae
  ·rename_i cc
   cases cc with
   |none=>cases ae
   |some cc=>
    cases ae;obtain⟨A,c,xs,rfl,_,_,U,_⟩:=j
    have:=U _ rfl
    subst this;exact⟨_,rfl,λw _=>IE i f k I rfl d w⟩
  ·cases ae
   rw[show v=_ from j]at d;exact⟨_,rfl,λw _=>IE i f k I rfl d w⟩
  ·cases ae
 ·cases ae
theorem ZJ(e:X.a6.ok X.P){t m:TypeId}{u:Operand}{g:Bool}{x bN:bq}(i:o.op=.convert t m u)(hu:bz X st.L u=some (g,x))(y:g=true)(ae:I2 X t m x=some (true,bN)):jn X st o bN:=by
 intro R W aE n aq env B ak H a b5 h;obtain⟨v,d,l⟩:=h.aI hu y;have j:=h.cf;unfold I2 at ae
 split at ae
 ·rename_i bE k' s b z E az f
  obtain⟨T,A,I,J⟩:=nD (cm.get e az).ti (cm.get e f).ti
  split at ae
  ·rename_i k z
   generalize D:oc k' z=q at ae
   obtain⟨c,r⟩:=q;cases ae;rw[show v=_ from l]at d;exact⟨_,rfl,λw _=>Yx j i A I J rfl d (xU D) w⟩
  ·cases ae
 ·rename_i bE s b z E az f
  split at ae
  ·cases ae
   rw[show v=_ from l]at d;refine⟨_,rfl,λw _=>?_⟩;have p:=(cm.get e az).ti.1;have C:=(cm.get e f).ti.1
   simp[execOp,i,j.aI d,convert,run_underlying p,run_underlying C,gl]
  ·cases ae
 ·cases ae
theorem DR(D:X.a6.ok X.P){c:Bool}{bN:bq}(ae:vz X st o.op=some (c,bN))(U:c=true):jn X st o bN:=by
 unfold vz at ae
 split at ae
 ·rename_i u d
  intro R W aE n aq env B ak H a b5 h;obtain⟨v,I,J⟩:=h.aI ae U;exact⟨v,J,λw _=>OY h.cf d I w⟩
 ·rename_i u d
  intro R W aE n aq env B ak H a b5 h;obtain⟨v,I,J⟩:=h.aI ae U;exact⟨v,J,λw _=>OZ h.cf d I w⟩
 ·rename_i aJ u v d
  split at ae
  ·rename_i aD b aB x bj y e C G
   split at ae
   ·rename_i r al
    cases ae;simp only[and_eq_true,Bool.or_eq_true,Bool.not_eq_true']at U;obtain⟨⟨Z,ar⟩,ay⟩:=U;intro R W aE n aq env B ak H a b5 h;obtain⟨ab,I,J⟩:=h.aI e Z;rw[show ab=_ from J]at I;have S:∀vx vy,(b=true->dU env B ak x vx)->(b=false->dU env B ak y vy)->dU env B ak bN (if b then vx else vy):=by
     intro vx vy ai aG;unfold Aj at al
     split at al
     ·split at al
      ·rename_i aa
       have au:=of_decide_eq_true aa;subst au;cases al;cases b
       ·exact aG rfl
       ·exact ai rfl
      ·cases al
     ·cases al
      cases b
      ·exact aG rfl
      ·exact ai rfl
     ·cases al
      cases b
      ·exact aG rfl
      ·exact ai rfl
     ·cases al
    cases b with
    |true=>
     obtain⟨vx,ag,F⟩:=h.aI C (by simpa using ar);exact⟨vx,S vx vx (λ_=>F) (λh=>by cases h),λw _=>O0 h.cf d I rfl ag w⟩
    |false=>
     obtain⟨vy,ag,F⟩:=h.aI G (by simpa using ay);exact⟨vy,S vy vy (λh=>by cases h) (λ_=>F),λw _=>O1 h.cf d I rfl ag w⟩
   ·cases ae
  ·cases ae
 ·rename_i t u d
  split at ae
  ·rename_i g b e
   cases ae;intro R W aE n aq env B ak H a b5 h;obtain⟨v,I,J⟩:=h.aI e U;rw[show v=_ from J]at I;exact⟨_,rfl,λw _=>Yf h.cf d I w⟩
  ·cases ae
 ·rename_i t u d
  split at ae
  ·rename_i g k x e
   generalize ap:oc k (0-x)=q at ae
   obtain⟨c',z⟩:=q;obtain⟨rfl,rfl⟩:=ae;simp only[and_eq_true]at U;obtain⟨i,rfl⟩:=U;intro R W aE n aq env B ak H a b5 h;obtain⟨v,I,J⟩:=h.aI e i;rw[show v=_ from J]at I;exact⟨_,rfl,λw _=>by have Y:=xU ap;simp only[Int.zero_sub]at Y;simp[execOp,d,h.cf.aI I,Op.unary,Op.intArith,Y]⟩
  ·cases ae
 ·rename_i op t u v aj d
  split at ae
  ·rename_i g x g' y e C
   split at ae
   ·rename_i c' r ad
    cases ae;simp only[and_eq_true]at U;obtain⟨⟨i,E⟩,rfl⟩:=U;intro R W aE n aq env B ak H a b5 h;obtain⟨vx,I,J⟩:=h.aI e i;obtain⟨vy,ag,F⟩:=h.aI C E;obtain⟨r,L,K⟩:=Zu D h.cf d I ag J F ad;exact⟨r,L,λw _=>K w⟩
   ·cases ae
  ·cases ae
 ·rename_i t u d
  split at ae
  ·rename_i g x e
   split at ae
   ·rename_i c' r ad
    cases ae;simp only[and_eq_true]at U;obtain⟨i,rfl⟩:=U;exact Px D d e i ad
   ·cases ae
  ·cases ae
 ·rename_i t u k d
  split at ae
  ·rename_i g x e
   split at ae
   ·rename_i c' r ad
    cases ae;simp only[and_eq_true]at U;obtain⟨i,rfl⟩:=U;exact Zv D d e i ad
   ·cases ae
  ·cases ae
 ·rename_i t u v d
  split at ae
  ·rename_i g x g' y e C
   split at ae
   ·rename_i c' r ad
    cases ae;simp only[and_eq_true]at U;obtain⟨⟨i,E⟩,rfl⟩:=U;exact Zw D d e i C E ad
   ·cases ae
  ·cases ae
 ·cases ae
 ·rename_i t u l d
  split at ae
  ·rename_i g x N Q e C
   split at ae
   ·rename_i c' r ad
    cases ae;simp only[and_eq_true]at U;obtain⟨⟨i,E⟩,rfl⟩:=U;exact DO D d e i (λs A=>by cases A;exact⟨_,rfl,_,C,E⟩) (λh=>by cases h) (λs A=>by cases A) (λ_=>rfl) (λs A=>by cases A) (λ_=>rfl) ad
   ·cases ae
  ·cases ae
 ·rename_i t u l d
  split at ae
  ·rename_i g x N Q e C
   split at ae
   ·rename_i c' r ad
    cases ae;simp only[and_eq_true]at U;obtain⟨⟨i,E⟩,rfl⟩:=U;exact DO D d e i (λs A=>by cases A) (λ_=>rfl) (λs A=>by cases A;exact⟨_,rfl,_,C,E⟩) (λh=>by cases h) (λs A=>by cases A) (λ_=>rfl) ad
   ·cases ae
  ·cases ae
 ·rename_i t u l af d
  split at ae
  ·rename_i g x N Q g2 aw e C G
   split at ae
   ·rename_i c' r ad
    cases ae;simp only[and_eq_true]at U;obtain⟨⟨⟨i,E⟩,M⟩,rfl⟩:=U;exact DO D d e i (λs A=>by cases A;exact⟨_,rfl,_,C,E⟩) (λh=>by cases h) (λs A=>by cases A;exact⟨_,rfl,_,G,M⟩) (λh=>by cases h) (λs A=>by cases A) (λ_=>rfl) ad
   ·cases ae
  ·cases ae
 ·rename_i t u l af d
  split at ae
  ·rename_i g x N Q g2 aw e C G
   split at ae
   ·rename_i c' r ad
    cases ae;simp only[and_eq_true]at U;obtain⟨⟨⟨i,E⟩,M⟩,rfl⟩:=U;exact DO D d e i (λs A=>by cases A) (λ_=>rfl) (λs A=>by cases A;exact⟨_,rfl,_,C,E⟩) (λh=>by cases h) (λs A=>by cases A;exact⟨_,rfl,_,G,M⟩) (λh=>by cases h) ad
   ·cases ae
  ·cases ae
 ·rename_i t aj u d
  split at ae
  ·rename_i g x e
   split at ae
   ·rename_i c' r ad
    cases ae;simp only[and_eq_true]at U;obtain⟨i,rfl⟩:=U;exact ZJ D d e i ad
   ·cases ae
  ·cases ae
 ·rename_i t aH d
  subst U;exact ZG D d ae
 ·rename_i f cs d
  split at ae
  ·rename_i ids aA
   cases ae;intro R W aE n aq env B ak H a b5 h;obtain⟨vs,I,J⟩:=Jd h aA;exact⟨_,⟨vs,rfl,J⟩,λw _=>Yg h.cf (by rw[d]) I w⟩
  ·cases ae
 ·rename_i f u d
  split at ae
  ·rename_i id e
   cases ae;intro R W aE n aq env B ak H a b5 h;obtain⟨v,I,b,ad,rfl⟩:=h.aI e rfl;exact⟨_,⟨b,ad,rfl⟩,λw _=>ZD h.cf (by rw[d]) I w⟩
  ·cases ae
 ·rename_i u d
  intro R W aE n aq env B ak H a b5 h
  split at ae
  ·rename_i e
   cases ae;obtain⟨v,I,J⟩:=h.aI e U;have ag:=h.cf.aI I;obtain⟨b,he,rfl⟩:=J;exact⟨_,⟨b,he,rfl⟩,λw _=>by simp[execOp,d,ag]⟩
  ·rename_i e
   cases ae;obtain⟨v,I,J⟩:=h.aI e U;have ag:=h.cf.aI I;obtain⟨b,c,m,he,rfl⟩:=J;exact⟨_,⟨b,c,m,he,rfl⟩,λw _=>by simp[execOp,d,ag]⟩
  ·rename_i e
   cases ae;obtain⟨v,I,J⟩:=h.aI e U;have ag:=h.cf.aI I;obtain⟨b,p,rfl,P⟩:=J;exact⟨_,⟨b,p,rfl,P⟩,λw _=>by simp[execOp,d,ag]⟩
  ·rename_i e
   cases ae;obtain⟨v,I,J⟩:=h.aI e U;have ag:=h.cf.aI I;obtain⟨b,p,vs,rfl,P⟩:=J;exact⟨_,⟨b,p,vs,rfl,P⟩,λw _=>by simp[execOp,d,ag]⟩
  ·cases ae
 ·rename_i s k d
  split at ae
  ·rename_i vs e
   split at ae
   ·rename_i x C
    cases ae;intro R W aE n aq env B ak H a b5 h;obtain⟨v,I,us,rfl,J⟩:=h.has _ _ e;have key:∀ {xs:dO} {us:cl} {k:Nat} {x:bq},dw env B ak xs us->nth xs k=some x->∃u,us[k]?=some u/\dU env B ak x u:=by
     intro xs
     induction xs with
     |nil=>intro us k x _ h;cases h
     |cons y ys ah=>
      intro us k x A bc;obtain⟨v,r,rfl,ag,F⟩:=A;cases k with
      |zero=>cases bc;exact⟨v,rfl,ag⟩
      |succ k=>obtain⟨u,L,K⟩:=ah F bc;exact⟨u,by rw[getElem?_cons_succ];exact L,K⟩
    obtain⟨u,ag,F⟩:=key J C;exact⟨u,F,λw _=>O2 h.cf d (im I) ag w⟩
   ·cases ae
  ·cases ae
 ·rename_i u t d
  split at ae
  ·rename_i g x e
   split at ae
   ·rename_i c' r ad
    cases ae;simp only[and_eq_true]at U;obtain⟨i,rfl⟩:=U;exact ZH D d e i ad
   ·cases ae
  ·cases ae
 ·rename_i u t d
  split at ae
  ·rename_i g x e
   split at ae
   ·rename_i c' r ad
    cases ae;simp only[and_eq_true]at U;obtain⟨i,rfl⟩:=U;exact ZI D d e i ad
   ·cases ae
  ·cases ae
 ·rename_i u r ao d
  split at ae
  ·rename_i g k x e
   split at ae
   ·rename_i c' y O
    cases ae;subst U;intro R W aE n aq env B ak H a b5 h;obtain⟨i,z,rfl,bO⟩:=DQ h O;obtain⟨v,I,J⟩:=h.aI e i;have ag:=h.cf.aI I;rw[show v=_ from J]at ag;refine⟨_,rfl,λw _=>?_⟩
    have:=bO w
    simp only[Bool.false_eq_true,if_false]at this
    simp[execOp,d,resolve,invoke,builtin,Builtin.min_,ag,this]
   ·cases ae
  ·cases ae
 ·rename_i u r ao d
  split at ae
  ·rename_i g k x e
   split at ae
   ·rename_i c' y O
    cases ae;subst U;intro R W aE n aq env B ak H a b5 h;obtain⟨i,z,rfl,bO⟩:=DQ h O;obtain⟨v,I,J⟩:=h.aI e i;have ag:=h.cf.aI I;rw[show v=_ from J]at ag;refine⟨_,rfl,λw _=>?_⟩
    have:=bO w
    simp only[if_true]at this
    simp[execOp,d,resolve,invoke,builtin,Builtin.max_,ag,this]
   ·cases ae
  ·cases ae
 ·rename_i t u v d
  split at ae
  ·rename_i aC b aK aF az
   split at ae
   ·rename_i g s g' k z e C
    obtain⟨rfl,rfl⟩:=ae;simp only[and_eq_true]at U;obtain⟨⟨i,E⟩,ad⟩:=U;intro R W aE n aq env B ak H a b5 h;obtain⟨av,I,J⟩:=h.aI e i;rw[show av=gl s from J]at I;obtain⟨vx,ag,F⟩:=h.aI C E;rw[show vx=_ from F]at ag;obtain⟨j,rfl,T,aI⟩:=nE ad;have am:=(cm.get D az).ti.1;have ax:(ByteArray.mk s.toArray)[j]?=some (s.getD j 0):=by
     have V:j<(ByteArray.mk s.toArray).size:=by simpa [ByteArray.size] using T
     have C:(ByteArray.mk s.toArray)[j]?=some ((ByteArray.mk s.toArray)[j]'V):=by
      exact getElem?_pos (ByteArray.mk s.toArray) j V
     rw[C,List.getD_eq_getElem?_getD,getElem?_eq_getElem T]
     rfl
    refine⟨_,rfl,λw _=>?_⟩;have ac:0<=(j:Int):=Int.natCast_nonneg j;have an:(Instr.index t (gl s) (.int k (j:Int))).run X.P w=.ok (.int .u8 ((s.getD j 0).toNat:Int)) w:=by
     simp only[Instr.index,gl,asIntOf,Sem.run_bind,Sem.run_pure,Result.andThen_ok,run_underlying am,ac,if_true,Int.toNat_natCast,ax]
    simp[execOp,d,h.cf.aI I,h.cf.aI ag,an]
   ·cases ae
  ·cases ae
 ·cases ae
end
end
section
def x1:Op->Bool
 |.store _ _ _=>false
 |.call ⟨.builtin .len,_,_⟩=>true
 |.call ⟨.builtin .cap,_,_⟩=>true
 |.call ⟨.builtin .min,_,_⟩=>true
 |.call ⟨.builtin .max,_,_⟩=>true
 |.call _=>false
 |_=>true
def DS:Op->Bool
 |.store _ _ _=>false
 |.call ⟨.builtin .append,_,_⟩=>true
 |o=>x1 o
def rh(d:Nat):bC->Bool
 |[]=>true
 |(k,b)::r=>(match beq k d,b with
  |true,.cells _ _=>false
  |_,_=>true)&&rh d r
def ri(o:Oper)(H:bC):Bool:=match o.dst with
 |some d=>rh d H
 |none=>true
def vA(d:Nat):bC->Bool
 |[]=>true
 |(k,_)::r=>match beq k d with
  |true=>false
  |false=>vA d r
def tI(o:Oper)(H:bC):Bool:=match o.dst with
 |some d=>vA d H
 |none=>true
theorem PH{d:Nat}:∀ {l:bC} {b:cD},rh d l=true->(d,b)∈l->∀t cs,b≠.cells t cs
 |(k,b')::r,b,h,ad,t,cs=>by
  simp only[rh,and_eq_true]at h
  rcases List.mem_cons.1 ad with e|ad
  ·injection e with a c
   subst a;subst c;intro e;rw[e,beq_refl]at h
   simp at h
  ·exact PH h.2 ad t cs
structure DT(o:Oper)(st:aO)(H:c2)(w:World)(H':c2)(w':World):Prop where
 new:x1 o.op=true->Below w.heap.size w w'
 ee:DS o.op=true->ri o st.H=true->∀c∈H,jm c=true->c∈H'
 all:x1 o.op=true->tI o st.H=true->∀c∈H,c∈H'
def vB(X:bu)(n:Nat)(st:aO)(o:Oper)(st':aO):Prop:=
 ∀ {R:Nat->Prop} {W:World} {aE:fj} {aq:b6} {env:Nat->Loc} {B:Nat->Prop} {ak:World} {H:c2} {a:Act} {w:World} (ops:Array Oper) (KK:Act->World->Prop),bK X R W aE n aq env B ak H st a w ->
  (∀aX w' env' H',DT o st H w H' w'->bK X R W aE n aq env' B ak H' st' aX w'->KK aX w')->fh X.P ops o KK a w
def PI(k:IntKind):dI->Option (Bool×Int×dI)
 |.val (.int k' x)::r=>match decide (k=k')with
  |true=>some (true,x,r)
  |false=>none
 |_=>none
def PJ:dI->Option (Bool×Bool×dI)
 |.val (.bool x)::r=>some (true,x,r)
 |_=>none
def PK:dI->Option (Bool×dV×dI)
 |.str x::r=>some (true,x,r)
 |_=>none
def PL(g:a7):dI->Option (Bool×List g.D×dI)
 |.val (.slice none 0 0)::r=>some (true,[],r)
 |.bo g' l _::r=>match decEq g' g with
  |isTrue h=>some (true,h ▸ l,r)
  |isFalse _=>none
 |_=>none
def PM(g:a7):dI->Option (Bool×List g.D×dI)
 |.val (.slice none 0 0)::r=>some (true,[],r)
 |.bo g' l (some c)::r=>match decEq g' g with
  |isTrue h=>some (decide (c=l.length),h ▸ l,r)
  |isFalse _=>none
 |_=>none
def PN:dI->Option (Bool×Option Nat×dI)
 |.fn f []::r=>some (true,some f,r)
 |.val .nilFunc::r=>some (true,none,r)
 |_=>none
def dec:(g:a7)->dI->Option (Bool×g.D×dI)
 |.int k,r=>PI k r
 |.bool,r=>PJ r
 |.str,r=>PK r
 |.ax g,r=>PL g r
 |.hX g,r=>PM g r
 |.unit,r=>some (true,(),r)
 |.fn,r=>PN r
 |.pair g h,r=>match dec g r with
  |some (fu,x,a)=>match dec h a with
   |some (cG,y,b)=>some (fu&&cG,(x,y),b)
   |none=>none
  |none=>none
section
variable {env:Nat->Loc} {B:Nat->Prop} {w:World}
theorem rj:∀ {g:a7} {cs:dI} {c:Bool} {x:g.D} {r:dI} {vs:cl},cO env B w cs vs->dec g cs=some (c,x,r)->c=true->∃d j,vs=d++j/\bR B w g x d/\cO env B w r j
 |.int k,cs,c,x,r,vs,h,ay,U=>by
  simp only[dec,PI]at ay
  split at ay
  ·split at ay
   ·rename_i aa
    have n:=of_decide_eq_true aa;subst n;cases ay;obtain⟨v,rr,rfl,I,J⟩:=h;exact⟨[v],rr,rfl,by rw[show v=_ from I];exact rfl,J⟩
   ·cases ay
  ·cases ay
 |.bool,cs,c,x,r,vs,h,ay,U=>by
  simp only[dec,PJ]at ay
  split at ay
  ·cases ay
   obtain⟨v,rr,rfl,I,J⟩:=h;exact⟨[v],rr,rfl,by rw[show v=_ from I];exact rfl,J⟩
  ·cases ay
 |.str,cs,c,x,r,vs,h,ay,U=>by
  simp only[dec,PK]at ay
  split at ay
  ·cases ay
   obtain⟨v,rr,rfl,I,J⟩:=h;exact⟨[v],rr,rfl,by rw[show v=_ from I];exact rfl,J⟩
  ·cases ay
 |.ax g,cs,c,x,r,vs,h,ay,U=>by
  simp only[dec,PL]at ay
  split at ay
  ·cases ay
   obtain⟨v,rr,rfl,I,J⟩:=h;exact⟨[v],rr,rfl,⟨none,0,[],by rw[show v=_ from I];rfl,le_refl _,zero_le _,rfl,Reads.nil _ _ _,(λ_ _ h=>absurd h (lt_irrefl 0))⟩,J⟩
  ·split at ay
   ·rename_i f _
    subst f;cases ay;obtain⟨v,rr,rfl,⟨A,c,xs,rfl,ag,a,e,b,i⟩,J⟩:=h;exact⟨[_],rr,rfl,⟨A,c,xs,rfl,ag,a,b,i⟩,J⟩
   ·cases ay
  ·cases ay
 |.hX g,cs,c,x,r,vs,h,ay,U=>by
  simp only[dec,PM]at ay
  split at ay
  ·cases ay
   obtain⟨v,rr,rfl,I,J⟩:=h;exact⟨[v],rr,rfl,⟨none,[],by rw[show v=_ from I];rfl,zero_le _,rfl,Reads.nil _ _ _,(λ_ _ h=>absurd h (lt_irrefl 0))⟩,J⟩
  ·split at ay
   ·rename_i f _
    subst f;obtain⟨rfl,rfl,rfl⟩:=ay;have l:=of_decide_eq_true U;obtain⟨v,rr,rfl,⟨A,c,xs,rfl,ag,a,e,b,i⟩,J⟩:=h
    have:=e _ rfl
    subst this;rw[l];exact⟨[_],rr,rfl,⟨A,xs,rfl,by rw[l]at a;exact a,b,i⟩,J⟩
   ·cases ay
  ·cases ay
 |.fn,cs,c,x,r,vs,h,ay,U=>by
  simp only[dec,PN]at ay
  split at ay
  ·cases ay
   obtain⟨v,rr,rfl,⟨us,I,ag⟩,J⟩:=h;rw[show us=[] from ag]at I;exact⟨[v],rr,rfl,by rw[I];exact rfl,J⟩
  ·cases ay
   obtain⟨v,rr,rfl,I,J⟩:=h;exact⟨[v],rr,rfl,by rw[show v=_ from I];exact rfl,J⟩
  ·cases ay
 |.unit,cs,c,x,r,vs,h,ay,U=>by
  simp only[dec]at ay;cases ay;exact⟨[],vs,rfl,rfl,h⟩
 |.pair g q,cs,c,x,r,vs,h,ay,U=>by
  simp only[dec]at ay
  split at ay
  ·rename_i fu u p I
   split at ay
   ·rename_i cG t s J
    cases ay;simp only[and_eq_true]at U;obtain⟨d,j,rfl,ag,a⟩:=rj h I U.1;obtain⟨m,o,rfl,e,b⟩:=rj a J U.2;exact⟨d++m,o,by rw[append_assoc],⟨d,m,rfl,ag,e⟩,b⟩
   ·cases ay
  ·cases ay
end
section
variable {X:bu} {R:Nat->Prop} {W:World} {aE:fj} {n:Nat} {aq:b6} {env:Nat->Loc} {B:Nat->Prop} {ak:World} {H:c2} {st:aO} {a aX:Act} {w w':World} {o:Oper} {d:Nat}
theorem bK.sym(h:bK X R W aE n aq env B ak H st a w):Sym n (kW aq aE) (full a) (λk=>R k\/B k) ak (H++aq.map dE) a w:=⟨h.cf,h.aU⟩
theorem df.same{D:List Deferred}(b:df n D (full a) aX){s:Nat}{u:Value}(hu:a.tmps[s]?=some u):aX.tmps[s]?=some u:=b.has s u (im hu)
theorem df.other{D:List Deferred}{v:Value}(b:df n D ((d,v)::full a) aX){s:Nat}(c:s≠d){u:Value}(hu:a.tmps[s]?=some u):aX.tmps[s]?=some u:=
 b.has s u (by rw[lookup_cons,beq_false_of_ne c];exact im hu)
theorem df.this{D:List Deferred}{v:Value}(b:df n D ((d,v)::full a) aX):aX.tmps[d]?=some v:=b.has d v (by simp)
theorem bK.set(h:bK X R W aE n aq env B ak H st a w){sv:cd}{v:Value}(f:eK env B ak sv v)(b:df n (kW aq aE) ((d,v)::full a) aX):bK X R W aE n aq env B ak H ⟨(d,sv)::st.L,st.H⟩ aX w:=
 ⟨b.size,b.defs,λs u c=>by
  rw[cI]at c
  split at c
  ·rename_i e;subst e;cases c;exact⟨v,b.this,f⟩
  ·rename_i e;obtain⟨g,I,J⟩:=h.has s u c;exact⟨g,b.other e I,J⟩,h.heap,h.aU,h.sub,h.new,h.dr,h.base,h.eg⟩
def kX(env:Nat->Loc)(id:Nat)(l:Loc):Nat->Loc:=λj=>if j=id then l else env j
theorem fK{id:Nat}{l:Loc}:kX env id l id=l:=if_pos rfl
theorem kz{id:Nat}{l:Loc}:∀j,j≠id->kX env id l j=env j:=λ_ h=>if_neg h
theorem tJ{id:Nat}{l:Loc}{p:Nat->Loc->Prop}(h:∀id l,p id l->n<=id/\env id=l/\((∃b,l=.blk b)\/hZ<=id))(ay:∀l,¬p id l):∀j q,p j q->n<=j/\kX env id l j=q/\((∃b,q=.blk b)\/hZ<=j):=λj q al=>
 ⟨(h j q al).1,by rw[kz j (λe=>ay q (by rw[<- e];exact al))];exact(h j q al).2.1,(h j q al).2.2⟩
theorem bJ.PO{d:Nat}{l:Loc}:∀ {L:bC} {H:c2},vA d L=true->bJ env B ak L H->bJ (kX env d l) B ak (ew d .dead L) H
 |[],_,_,h=>h
 |(k,b)::L,_,bc,⟨c,H',e,I,J⟩=>by
  unfold vA at bc
  split at bc
  ·cases bc
  ·rename_i aa
   unfold ew;rw[aa];exact⟨c,H',e,I.sub (z:=.dead) (kz) (λ_ _=>trivial) (ne_of_beq_eq_false aa),bJ.PO bc J⟩
theorem bK.pF(h:bK X R W aE n aq env B ak H st a w)(ay:blt d n=true){l:Loc}{c:bp}{blk:cD}{sv:cd}{v:Value}(f:bZ (λk=>R k\/B k) ak (c::(H++aq.map dE)) w')(ad:eM (kX env d l) B ak d blk c)(o:eK (kX env d l) B ak sv v)(g:df n (kW aq aE) ((d,v)::full a) aX):∃H',((rh d st.H=true->∀c∈H,jm c=true->c∈H')/\(vA d st.H=true->∀c∈H,c∈H'))/\bK X R W aE n aq (kX env d l) B ak H' ⟨(d,sv)::gu d .dead st.L,(d,blk)::ew d .dead st.H⟩ aX w':=by
 have m:∃H2,H2.Sublist H/\bJ (kX env d l) B ak (ew d .dead st.H) H2/\(rh d st.H=true->∀c∈H,jm c=true->c∈H2)/\(vA d st.H=true->∀c∈H,c∈H2):=by
  cases aa:vA d st.H with
  |true=>exact⟨H,List.Sublist.refl _,bJ.PO aa h.heap,λ_ c U _=>U,λ_ c U=>U⟩
  |false=>
  cases bc:rh d st.H with
  |true=>
   obtain⟨H2,I,J,ag⟩:=h.heap.IQ (z:=.dead) (kz (id:=d) (l:=l)) (λ_ _=>trivial) (λb c ad C=>C.oP (PH bc ad));exact⟨H2,I,J,λ_=>ag,λh=>by cases h⟩
  |false=>
   obtain⟨H2,I,J⟩:=h.heap.del (z:=.dead) (kz (id:=d) (l:=l)) (λ_ _=>trivial);exact⟨H2,I,J,(λh=>by cases h),λh=>by cases h⟩
 obtain⟨H2,I,J,ag,j⟩:=m;refine⟨c::H2,⟨λbc c U A=>mem_cons_of_mem _ (ag bc c U A),λbc c U=>mem_cons_of_mem _ (j bc c U)⟩,g.size,g.defs,λs u f=>?_,⟨c,H2,rfl,ad,J⟩,f.e2 ((I.append_right _).cons_cons _),h.sub,h.new,tJ h.dr (λq al=>by have I:=(h.dr _ _ al).1;have J:=ef ay;omega),h.base,λi x ai=>h.eg i x ai⟩;rw[cI]at f
 split at f
 ·rename_i e;subst e;cases f;exact⟨v,g.this,o⟩
 ·rename_i e
  obtain⟨t,y,rfl⟩:=qj f;obtain⟨r,ag,p⟩:=h.has s t y;exact⟨r,g.other e ag,eK.sub (z:=.dead) (kz) (λ_ _=>trivial) p⟩
def tL(X:bu)(n:Nat)(st:aO)(t:TypeId)(d:Nat)(cs:dI):Option (Bool×aO):=
 match blt d n with
 |true=>some (true,⟨(d,.c (.ptr d 0))::gu d .dead st.L,(d,.cells t (su d .dead cs))::ew d .dead st.H⟩)
 |false=>none
theorem ZL{x:Operand}{t:TypeId}{g:Bool}{bN:bq}{st':aO}{c:Bool}(i:o.op=.box t x)(p:o.guard=none)(b:o.dst=some d)(ai:bz X st.L x=some (g,bN))(l:g=true)(ae:pE bN.cells=true)(ad:tL X n st t d bN.cells=some (c,st')):vB X n st o st':=by
 intro R W aE aq env B ak H a w ops KK h m;unfold tL at ad
 split at ad
 ·rename_i ay
  cases ad;obtain⟨v,I,J⟩:=h.aI ai l;have q:cO env B ak bN.cells v.cells.toList:=J.cells λc e=>by
   subst e;simp only[bq.cells,pE,Bool.and_true]at ae;exact dR.one ae J
  have j:=h.cf.aI I;refine iD h.cf p b (ef ay) (v:=.pointer (some ⟨w.heap.size,0,none⟩)) (w':=w.alloc (.cells v.cells.toList.toArray t)) (by simp[execOp,i,j,Instr.box,newVar,newRow,newObj,Sem.run]) λaX k=>?_
  obtain⟨H',f,ag⟩:=h.pF ay (blk:=.cells t (su d .dead bN.cells)) (sv:=.c (.ptr d 0)) (h.aU.IB _ t) ⟨_,_,fK,rfl,cO.sub (z:=.dead) kz (λ_ _=>trivial) q⟩ ⟨_,fK,rfl⟩ k;exact m _ _ _ _ ⟨λ_=>(Below.refl _ _).alloc (le_refl _) _,λ_ bc=>f.1 (by simpa [ri,b] using bc),λ_ bc=>f.2 (by simpa [tI,b] using bc)⟩ ag
 ·cases ad
theorem ZM(i:X.a6.ok X.P){t:TypeId}{bE:cr}{st':aO}{c:Bool}(f:o.op=.alloc t)(k:o.guard=none)(b:o.dst=some d)(dq:X.a6.find t=some bE)(ad:tL X n st t d (tF bE.ti.zero.cells.toList)=some (c,st')):vB X n st o st':=by
 intro R W aE aq env B ak H a w ops KK h j;unfold tL at ad
 split at ad
 ·rename_i ay
  cases ad;have bO:=bI.so (cm.get i dq).ti;refine iD h.cf k b (ef ay) (v:=.pointer (some ⟨w.heap.size,0,none⟩)) (w':=w.alloc (.cells bE.ti.zero.cells.toList.toArray t)) (by simp[execOp,f,Instr.alloc,bO,newVar,newRow,newObj,Sem.run]) λaX g=>?_
  obtain⟨H',e,ag⟩:=h.pF ay (blk:=.cells t (su d .dead (tF bE.ti.zero.cells.toList))) (sv:=.c (.ptr d 0)) (h.aU.IB _ t) ⟨_,_,fK,rfl,cO.sub (z:=.dead) kz (λ_ _=>trivial) (Af _)⟩ ⟨_,fK,rfl⟩ g;exact j _ _ _ _ ⟨λ_=>(Below.refl _ _).alloc (le_refl _) _,λ_ bc=>e.1 (by simpa [ri,b] using bc),λ_ bc=>e.2 (by simpa [tI,b] using bc)⟩ ag
 ·cases ad
theorem bK.ql(h:bK X R W aE n aq env B ak H st a w){id:Nat}{b b':cD}(i:bm st.H id=some b):∃c K,eM env B ak id b c/\jM (H++aq.map dE) c K/\∀c' aX w',eM env B ak id b' c'->bZ (λk=>R k\/B k) ak (K c') w'->df n (kW aq aE) (full a) aX->∃H',bK X R W aE n aq env B ak H' ⟨st.L,fc id b' st.H⟩ aX w':=by
 obtain⟨c,K,I,J,ag⟩:=h.heap.put i;refine⟨c,_,I,J.more,λc' aX w' ad f d=>⟨K c',d.size,d.defs,λs u hu=>?_,ag b' c' ad,f,h.sub,h.new,h.dr,h.base,h.eg⟩⟩;obtain⟨j,g,e⟩:=h.has s u hu;exact⟨j,d.same g,e⟩
def Ao(X:bu)(st:aO)(t:TypeId)(x y:bq):Option (Bool×aO):=
 match X.a6.find t,pE y.cells with
 |some bE,true=>match beq y.cells.length bE.ti.size,x with
  |true,.c (.ptr id o)=>match bm st.H id with
   |some (.cells a cs)=>match pD cs o y.cells with
    |some r=>some (true,⟨st.L,fc id (.cells a r) st.H⟩)
    |none=>none
   |_=>none
  |true,.c (.e4 id b i o)=>match bm st.H id with
   |some (.row a g l cap)=>match beq b g.size,oQ g (l.getD i g.zero) 0 g.size with
    |true,some cs=>match pD cs o y.cells with
     |some r=>match dec g r with
      |some (c,z,_)=>some (decide (i<l.length)&&c,⟨st.L,fc id (.row a g (l.set i z) cap) st.H⟩)
      |none=>none
     |none=>none
    |_,_=>none
   |_=>none
  |_,_=>none
 |_,_=>none
theorem ZN{t e:TypeId}{i:bI}{x y:Operand}{b p:Nat}{cs d:cl}{v:Value}{D:List Deferred}{L:List (Nat×Value)}{K:bp->c2}{ops:Array Oper}{KK:Act->World->Prop}(c:Sym n D L B ak H a w)(f:o.op=.store t x y)(j:o.guard=none/\o.dst=none)(hi:bI.ok X.P t i)(ai:Go.Proofs.YtcheedjfedcbpaaGreatDoor.aI L x=some (.pointer (some ⟨b,p,none⟩)))(aG:Go.Proofs.YtcheedjfedcbpaaGreatDoor.aI L y=some v)(m:v.cells.size=i.size)(J:∀u∈v.cells.toList,u.oneCell'=true)(az:jM H (.hF b cs e) K)(g:rb cs p v.cells.toList d)(h:∀aX w',Sym n D L B ak (K (.hF b d e)) aX w'->KK aX w'):fh X.P ops o KK a w:=by
 obtain⟨ag,q⟩:=g.eq;have ae:v.cells.toList.length=v.cells.size:=by simp
 have l:=YC hi (IG c.aU az) m J (by omega);refine OX c j (w':=_) (by simp[execOp,f,c.aI ai,c.aI aG,Instr.storeAt,Instr.sureAddr,l];rfl) (H':=K (.hF b d e)) ?_ h;refine c.aU.YA az ⟨rfl,rfl,rfl,by simp⟩ ?_ λk aa=>setRow_other w b k _ aa
 rw[setRow_heap w b cs.toArray _ e _ (IG c.aU az),ag,ae];simp only[append_assoc]
theorem DU{t e:TypeId}{i:bI}{x y:Operand}{g j c m size:Nat}{xs:cl}{v:Value}{D:List Deferred}{L:List (Nat×Value)}{K:bp->c2}{ops:Array Oper}{KK:Act->World->Prop}(d:Sym n D L B ak H a w)(A:o.op=.store t x y)(C:o.guard=none/\o.dst=none)(hi:bI.ok X.P t i)(ai:Go.Proofs.YtcheedjfedcbpaaGreatDoor.aI L x=some (.pointer (some ⟨g,j,none⟩)))(aG:Go.Proofs.YtcheedjfedcbpaaGreatDoor.aI L y=some v)(p:v.cells.size=i.size)(J:∀u∈v.cells.toList,u.oneCell'=true)(az:jM H (.row (some ⟨g,0,none⟩) c e size m xs) K)(l:j+v.cells.toList.length<=m * size)(h:∀aX w',Sym n D L B ak (K (.row (some ⟨g,0,none⟩) c e size m (xs.take j++v.cells.toList++xs.drop (j+v.cells.toList.length)))) aX w'->KK aX w'):fh X.P ops o KK a w:=by
 have r:=d.aU.ok _ az.mem;have I:=r.1
 generalize k:v.cells.toList=vs at J l h
 have G:vs.length=i.size:=by rw[<- k];simpa using p
 rcases r.2 with⟨aS,_⟩|⟨g',cur,dN,ah,q9,aR,lM,qd,jN,iS,ra⟩
 ·cases aS
 ·have:g=g':=by injection ah with ah;injection ah
  subst this;have F:m * size<=cur.size:=by rw[iS];exact mul_le_mul_right _ qd
  have z:=le_trans l F;have dG:=run_storeCells_cells (P:=X.P) g j vs 0 w (λq b=>by
    simp only[World.cell?,aR]
    simp;omega) (λq b=>by
    simp only[World.frozen?,aR]
    rcases lM with h|h
    ·simp;omega
    ·simp;omega) J
  simp only[add_zero]at dG;rw[z8 g e dN vs j w cur aR z]at dG;have E:(storeVar t ⟨g,j,none⟩ v).run X.P w=.ok () (w.setRow g (cur.toList.take j++vs++cur.toList.drop (j+vs.length)).toArray):=by
   unfold storeVar
   simp[bI.run_sizeOf hi,p]
   rw[k];rw[append_assoc]at dG;exact dG
  refine OX d C (w':=w.setRow g (cur.toList.take j++vs++cur.toList.drop (j+vs.length)).toArray) (by simp only[execOp,A,d.aI ai,d.aI aG,Instr.storeAt,Instr.sureAddr,Sem.run_bind,Sem.run_pure,Result.andThen_ok,E]) ?_ h;refine d.aU.vo az ⟨rfl,rfl,rfl,by simp,λq b=>setRow_other w g q _ (λf=>by subst f;exact q9 b)⟩ (c':=.row (some ⟨g,0,none⟩) c e size m (xs.take j++vs++xs.drop (j+vs.length))) ?_ (λq b=>.inl b) λq _ b=>setRow_other w g q _ (λf=>b (by subst f;rfl))
  have s:(cur.toList.take j++vs++cur.toList.drop (j+vs.length)).length=cur.size:=by simp;omega
  refine⟨by simp;omega,.inr ⟨g,_,dN,rfl,q9,setRow_heap w g cur _ e _ aR,?_,qd,jN,?_,?_⟩⟩
  ·rcases lM with h|h
   ·exact .inl h
   ·exact .inr (by rw[size_toArray,s];exact h)
  ·rw[size_toArray,s];exact iS
  ·show(cur.toList.take j++vs++cur.toList.drop (j+vs.length)).take (m * size)=_
   rw[<- ra,take_take,min_eq_left (by omega),take_append,take_of_length_le (by simp;omega),drop_take]
   congr 2
   simp;omega
theorem ZP(au:X.a6.ok X.P){x y:Operand}{t:TypeId}{g g' c:Bool}{fG ej:bq}{st':aO}(d:o.op=.store t x y)(S:o.guard=none)(Q:o.dst=none)(ai:bz X st.L x=some (g,fG))(ar:g=true)(aG:bz X st.L y=some (g',ej))(aA:g'=true)(ad:Ao X st t fG ej=some (c,st'))(U:c=true):vB X n st o st':=by
 intro R W aE aq env B ak H a w ops KK h O;obtain⟨vx,V,aa⟩:=h.aI ai ar;obtain⟨vy,T,ab⟩:=h.aI aG aA;unfold Ao at ad
 split at ad
 ·rename_i bE dq G
  have hi:=(cm.get au dq).ti;have q:cO env B ak ej.cells vy.cells.toList:=ab.cells λc e=>by
   subst e;simp only[bq.cells,pE,Bool.and_true]at G;exact dR.one G ab
  have Z:=q.jo G;have Y:=q.length
  split at ad
  ·rename_i id p E
   split at ad
   ·rename_i C cs D
    split at ad
    ·rename_i r al
     cases ad;obtain⟨b,he,rfl⟩:=aa;obtain⟨eA,K,⟨b',vs,f,rfl,ae⟩,az,F⟩:=h.ql (b':=.cells C r) D;rw[he]at f;cases f;obtain⟨s,I,J⟩:=Al ae q al;refine ZN h.sym d ⟨S,Q⟩ hi V T (by rw[<- eq_of_beq_eq_true E,<- Y];simp) Z az I λaX w' bP=>?_
     obtain⟨H',ag⟩:=F _ aX w' ⟨b,s,he,rfl,J⟩ bP.aU bP.st;exact O _ _ _ _ ⟨λh=>(by rw[d]at h;cases h),λh=>(by rw[d]at h;cases h),λh=>(by rw[d]at h;cases h)⟩ ag
    ·cases ad
   ·cases ad
  ·rename_i id aL i p E
   split at ad
   ·rename_i C g l cap D
    split at ad
    ·rename_i cs af aC
     split at ad
     ·rename_i r al
      split at ad
      ·rename_i c' z rr ay
       cases ad;simp only[and_eq_true,decide_eq_true_eq]at U;obtain⟨v,ax⟩:=U;obtain⟨b,cc,m,he,rfl⟩:=aa;have ah:=eq_of_beq_eq_true af;subst ah;obtain⟨eA,K,⟨A,k,xs,f,rfl,P,aB⟩,az,F⟩:=h.ql (b':=.row C g (l.set i z) cap) D;rw[he]at f;cases f;have aF:l[i]?=some (l.getD i g.zero):=by rw[List.getD_eq_getElem?_getD,getElem?_eq_getElem v];rfl
       have aj:=Flat.get (λ_ _=>bR.length) P aF;obtain⟨us,⟨aJ,am⟩,an⟩:=bR.cells aj aC;have hmul:(i+1) * g.size<=l.length * g.size:=mul_le_mul_right _ v;rw[add_mul,one_mul]at hmul;have ao:us=(xs.drop (i * g.size)).take g.size:=by
        apply List.ext_getElem?
        intro j
        by_cases N:j<us.length
        ·have:=am j us[j] (getElem?_eq_getElem N)
         rw[zero_add]at this;rw[this,getElem?_eq_getElem N]
        ·rw[List.getElem?_eq_none (by omega),List.getElem?_eq_none (by simp;omega)]
       obtain⟨s,I,J⟩:=Al an q al;obtain⟨aP,aH,u,ag,aK⟩:=rj J ay ax;obtain⟨M,aI⟩:=I.eq;have aN:=bR.length ag;have aM:s.length=g.size:=by rw[M];simp only[length_append,length_take,length_drop];omega
       have aD:aH=[]:=by
        have:=congrArg length u
        rw[length_append]at this;exact eq_nil_of_length_eq_zero (by omega)
       rw[aD,append_nil]at u;subst u;have ac:=Flat.set (λ_ _=>bR.length) P v ag;refine DU h.sym d ⟨S,Q⟩ hi V T (by rw[<- eq_of_beq_eq_true E,<- Y];simp) Z az (by omega) λaX w' bP=>?_
       have L:(l.set i z).length=l.length:=by simp
       obtain⟨H',aw⟩:=F _ aX w' ⟨some ⟨b,0,none⟩,cc,_,by rw[L];exact he,by rw[L],ac,aB⟩ (by
        have e:xs.take (i * g.size+p)++vy.cells.toList++xs.drop (i * g.size+p+vy.cells.toList.length)=xs.take (i * g.size)++s++xs.drop (i * g.size+g.size):=by
         have ap:xs.drop (i * g.size+g.size)=(xs.drop (i * g.size+(p+vy.cells.toList.length))).drop (g.size-(p+vy.cells.toList.length)):=by rw[List.drop_drop];congr 1;omega
         have av:xs.drop (i * g.size+p+vy.cells.toList.length)=xs.drop (i * g.size+(p+vy.cells.toList.length)):=by rw[add_assoc]
         rw[M,ao,take_take,min_eq_left (by omega),drop_take,List.drop_drop,List.take_add,ap,av];simp only[append_assoc];rw[List.take_append_drop]
        rw[e]at bP;exact bP.aU) bP.st
       exact O _ _ _ _ ⟨λh=>(by rw[d]at h;cases h),λh=>(by rw[d]at h;cases h),λh=>(by rw[d]at h;cases h)⟩ aw
      ·cases ad
     ·cases ad
    ·cases ad
   ·cases ad
  ·cases ad
 ·cases ad
end
end
section
section
variable {env env':Nat->Loc} {B:Nat->Prop} {w:World}
theorem bR.jo:∀ {g:a7} {x:g.D} {vs:cl},bR B w g x vs->∀u∈vs,u.oneCell'=true
 |.int _,_,_,h,u,hu=>by rw[show _=[_] from h]at hu;simp at hu;subst hu;rfl
 |.bool,_,_,h,u,hu=>by rw[show _=[_] from h]at hu;simp at hu;subst hu;rfl
 |.str,_,_,h,u,hu=>by rw[show _=[_] from h]at hu;simp at hu;subst hu;rfl
 |.ax _,_,_,⟨_,_,_,h,_⟩,u,hu=>by rw[h]at hu;simp at hu;subst hu;rfl
 |.hX _,_,_,⟨_,_,h,_⟩,u,hu=>by rw[h]at hu;simp at hu;subst hu;rfl
 |.unit,_,_,h,u,hu=>by rw[show _=[] from h]at hu;cases hu
 |.fn,x,_,h,u,hu=>by rw[show _=[_] from h]at hu;simp at hu;subst hu;cases x<;>rfl
 |.pair _ _,_,_,⟨a,b,e,I,J⟩,u,hu=>by
  rw[e]at hu
  rcases List.mem_append.1 hu with hu|hu
  ·exact bR.jo I u hu
  ·exact bR.jo J u hu
theorem Flat.jo{α:Type}{R:α->cl->Prop}(a:∀x vs,R x vs->∀u∈vs,u.oneCell'=true):∀ {l:List α} {vs:cl},Flat R l vs->∀u∈vs,u.oneCell'=true
 |[],_,h,u,hu=>by rw[show _=[] from h]at hu;cases hu
 |_::_,_,⟨b,c,e,I,J⟩,u,hu=>by
  rw[e]at hu
  rcases List.mem_append.1 hu with hu|hu
  ·exact a _ _ I u hu
  ·exact Flat.jo a J u hu
theorem bR.e3:∀g:a7,bR B w g g.zero g.e3
 |.int _=>rfl
 |.bool=>rfl
 |.str=>rfl
 |.ax _=>⟨none,0,[],rfl,le_refl _,zero_le _,rfl,Reads.nil _ _ _,λ_ _ h=>absurd h (lt_irrefl 0)⟩
 |.hX _=>⟨none,[],rfl,zero_le _,rfl,Reads.nil _ _ _,λ_ _ h=>absurd h (lt_irrefl 0)⟩
 |.unit=>rfl
 |.fn=>rfl
 |.pair g h=>⟨_,_,rfl,bR.e3 g,bR.e3 h⟩
theorem Flat.e3(g:a7):∀k:Nat,Flat (bR B w g) (replicate k g.zero) (e3 g.e3 k)
 |0=>rfl
 |k+1=>⟨g.e3,_,rfl,bR.e3 g,Flat.e3 g k⟩
theorem bJ.take{id:Nat}:∀ {l:bC} {H:c2} {b:cD},bJ env B w l H->bm l id=some b ->
  ∃c Y Z,eM env B w id b c/\H=Y++c::Z/\∀(env':Nat->Loc) (z:bs),(∀j,j≠id->env' j=env j)->(∀v,dR env B w (.ax id) v->dR env' B w z v)->∃H2,H2.Sublist (Y++Z)/\bJ env' B w (ew id z l) H2/\((∀b,env id≠.blk b)->∀c∈Y++Z,jm c=true->c∈H2)
 |[],_,_,_,h=>by cases h
 |(k,b')::l,H,b,⟨c,H',e,I,J⟩,h=>by
  rw[cI]at h;subst e
  split at h
  ·rename_i e
   subst e;cases h;refine⟨c,[],H',I,rfl,λenv' z he bO=>?_⟩;have g:∃H2,H2.Sublist H'/\bJ env' B w (ew id z l) H2/\((∀b,env id≠.blk b)->∀c∈H',jm c=true->c∈H2):=by
    by_cases ad:∀b,env id≠.blk b
    ·obtain⟨H2,ag,a,d⟩:=bJ.IQ he bO J (λb c _ f=>f.oP λt cs e=>by
      subst e;obtain⟨b',_,e,_⟩:=f;exact ad _ e)
     exact⟨H2,ag,a,λ_=>d⟩
    ·obtain⟨H2,ag,a⟩:=bJ.del he bO J
     exact⟨H2,ag,a,λh=>absurd h ad⟩
   obtain⟨H2,ag,a,d⟩:=g;refine⟨H2,ag,?_,d⟩;unfold ew;rw[beq_refl];exact a
  ·rename_i e
   obtain⟨c',Y,Z,ag,a,d⟩:=bJ.take J h;have aa:beq k id=false:=by
    cases ad:beq k id with
    |false=>rfl
    |true=>exact absurd (eq_of_beq_eq_true ad).symm e
   refine⟨c',c::Y,Z,ag,by rw[a];rfl,λenv' z he bO=>?_⟩;obtain⟨H2,i,m,n⟩:=d env' z he bO;refine⟨c::H2,i.cons_cons _,?_,λad c' dJ o=>?_⟩
   ·unfold ew
    rw[aa];exact⟨c,H2,rfl,I.sub he bO (ne_of_beq_eq_false aa),m⟩
   ·rw[cons_append]at dJ
    rcases List.mem_cons.1 dJ with rfl|dJ
    ·exact mem_cons_self ..
    ·exact mem_cons_of_mem _ (n ad c' dJ o)
end
section
variable {X:bu} {R:Nat->Prop} {W:World} {aE:fj} {n:Nat} {aq:b6} {env:Nat->Loc} {B:Nat->Prop} {ak:World} {H:c2} {st:aO} {a aX:Act} {w w':World} {o:Oper} {d:Nat}
theorem bK.DV(h:bK X R W aE n aq env B ak H st a w){id:Nat}{b b':cD}(t:bm st.H id=some b)(cP:∀q,¬aE.p id q):∃c K,eM env B ak id b c/\jM (H++aq.map dE) c K /\
  ∀(l:Loc) c' aX w' sv v,eM (kX env id l) B ak id b' c'->eK (kX env id l) B ak sv v->bZ (λk=>R k\/B k) ak (K c') w'->df n (kW aq aE) ((d,v)::full a) aX ->
   ∃H',((∀b,env id≠.blk b)->∀c'∈H,jm c'=true->c'≠c->c'∈H')/\bK X R W aE n aq (kX env id l) B ak H' ⟨(d,sv)::gu id .dead st.L,(id,b')::ew id .dead st.H⟩ aX w':=by
 obtain⟨c,Y,Z,I,J,ag⟩:=h.heap.take t;refine⟨c,λz=>Y++z::(Z++aq.map dE),I,⟨Y,Z++aq.map dE,by rw[J];simp,rfl⟩,λl c' aX w' sv v ad i m f=>?_⟩;obtain⟨H2,o,j,A⟩:=ag (kX env id l) .dead kz (λ_ _=>trivial);refine⟨c'::H2,λad q ar E p=>mem_cons_of_mem _ (A ad q (by
  rw[J]at ar
  rcases List.mem_append.1 ar with ar|ar
  ·exact mem_append_left _ ar
  ·rcases List.mem_cons.1 ar with e|ar
   ·exact absurd e p
   ·exact mem_append_right _ ar) E),f.size,f.defs,λs u hu=>?_,⟨c',H2,rfl,ad,j⟩,?_,h.sub,h.new,tJ h.dr cP,h.base,h.eg⟩
 ·rw[cI]at hu
  split at hu
  ·rename_i e;subst e;cases hu;exact⟨v,f.this,i⟩
  ·rename_i e
   obtain⟨C,D,rfl⟩:=qj hu;obtain⟨y,g,r⟩:=h.has s C D;exact⟨y,f.other e g,eK.sub (z:=.dead) kz (λ_ _=>trivial) r⟩
 ·have al:(Y++c'::(Z++aq.map dE)).Perm (c'::(Y++Z++aq.map dE)):=by
   rw[append_assoc];exact perm_middle
  exact(m.perm al).e2 ((o.append_right _).cons_cons _)
def DW(X:bu)(L:cU)(size:Nat):List (Nat×Operand)->Nat->Option (Bool×dI)
 |[],_=>some (true,[])
 |(j,u)::r,k=>match beq j k,bz X L u,DW X L size r (k+1)with
  |true,some (g,x),some (c,l)=>match beq x.cells.length size,pE x.cells with
   |true,true=>some (g&&c,x.cells++l)
   |_,_=>none
  |_,_,_=>none
def DX(g:a7):Nat->dI->Option (Bool×List g.D)
 |0,_=>some (true,[])
 |k+1,cs=>match dec g cs with
  |some (c,x,r)=>match DX g k r with
   |some (c',l)=>some (c&&c',x::l)
   |none=>none
  |none=>none
def newRow(n:Nat)(st:aO)(d:Nat)(t:TypeId)(g:a7)(l:List g.D)(cap:Option Nat):Option aO:=
 match blt d n with
 |true=>some ⟨(d,.c (.ax d))::gu d .dead st.L,(d,.row t g l cap)::ew d .dead st.H⟩
 |false=>none
def Aq(X:bu)(n:Nat)(st:aO)(t:TypeId)(N:Nat)(aH:List (Nat×Operand))(d:Nat):Option (Bool×aO):=
 match X.a6.find t with
 |some ⟨⟨.slice e,_,_,_⟩,_⟩=>match X.a6.find e with
  |some ⟨bE,some g⟩=>match ble (N * bE.size) 16777216,beq aH.length N,DW X st.L bE.size aH 0 with
   |true,true,some (c,cs)=>match DX g N cs with
    |some (c',l)=>match newRow n st d e g l (some N)with
     |some st'=>some (c&&c',st')
     |none=>none
    |none=>none
   |_,_,_=>none
  |_=>none
 |_=>none
theorem PR{env:Nat->Loc}{B:Nat->Prop}{w:World}{g:a7}:∀ {k:Nat} {cs:dI} {c:Bool} {l:List g.D} {vs:cl},cO env B w cs vs->DX g k cs=some (c,l)->c=true->l.length=k/\∃a b,vs=a++b/\Flat (bR B w g) l a
 |0,cs,c,l,vs,_,ay,_=>by cases ay;exact⟨rfl,[],vs,rfl,rfl⟩
 |k+1,cs,c,l,vs,h,ay,U=>by
  simp only[DX]at ay
  split at ay
  ·rename_i fu x r I
   split at ay
   ·rename_i cG m J
    cases ay;simp only[and_eq_true]at U;obtain⟨a,b,rfl,ag,i⟩:=rj h I U.1;obtain⟨f,d,j,rfl,e⟩:=PR i J U.2;exact⟨by rw[length_cons,f],a++d,j,by rw[append_assoc],a,d,rfl,ag,e⟩
   ·cases ay
  ·cases ay
theorem cO.append{env:Nat->Loc}{B:Nat->Prop}{w:World}:∀ {cs aK:dI} {vs us:cl},cO env B w cs vs->cO env B w aK us->cO env B w (cs++aK) (vs++us)
 |[],_,_,_,h,a=>by rw[show _=[] from h];exact a
 |_::_,_,_,_,⟨v,r,e,I,J⟩,a=>⟨v,_,by rw[e];rfl,I,cO.append J a⟩
theorem PS(h:bK X R W aE n aq env B ak H st a w){size:Nat}:∀ {aH:List (Nat×Operand)} {k:Nat} {c:Bool} {cs:dI},DW X st.L size aH k=some (c,cs)->c=true ->
  ∃vs:cl,(aH.map λp=>(p.1,a.eval p.2))=(vs.zipIdx k).map (λp=>(p.2,p.1))/\(∀v∈vs,v.cells.size=size)/\cO env B ak cs (vs.flatMap λv=>v.cells.toList)
 |[],k,c,cs,al,_=>by cases al;exact⟨[],rfl,(λ_ h=>by cases h),rfl⟩
 |(j,u)::aH,k,c,cs,al,U=>by
  simp only[DW]at al
  split at al
  ·rename_i g x c' l i hu o
   split at al
   ·rename_i q d
    cases al;simp only[and_eq_true]at U;obtain⟨v,I,J⟩:=h.aI hu U.1;have b:cO env B ak x.cells v.cells.toList:=J.cells λc e=>by
     subst e;simp only[bq.cells,pE,Bool.and_true]at d;exact dR.one d J
    obtain⟨vs,ag,m,f⟩:=PS h o U.2;refine⟨v::vs,?_,λu hu=>?_,?_⟩
    ·rw[map_cons,ag,zipIdx_cons,map_cons,h.cf.aI I,eq_of_beq_eq_true i]
    ·rcases List.mem_cons.1 hu with rfl|hu
     ·rw[<- eq_of_beq_eq_true q,<- b.length];simp
     ·exact m u hu
    ·rw[flatMap_cons]
     exact b.append f
   ·cases al
  ·cases al
theorem PT(size:Nat):∀(vs:cl) (k:Nat) (done zs:cl),(∀v∈vs,v.cells.size=size)->done.length=k * size->zs.length=vs.length * size ->
  Instr.fill (λi=>some (i * size,size)) (done++zs).toArray ((vs.zipIdx k).map λp=>(p.2,p.1))=some (done++vs.flatMap λv=>v.cells.toList).toArray
 |[],k,done,zs,_,_,ae=>by
  have:zs=[]:=eq_nil_of_length_eq_zero (by simpa using ae)
  subst this;simp[Instr.fill]
 |v::vs,k,done,zs,b,ay,ae=>by
  have c:=b v (by simp);have a:v.cells.toList.length=size:=by simpa using c
  have bO:size<=zs.length:=by rw[ae,length_cons,add_mul];omega
  have d:=PT size vs (k+1) (done++v.cells.toList) (zs.drop size) (λu hu=>b u (mem_cons_of_mem _ hu)) (by rw[length_append,ay,a,add_mul];omega) (by rw[length_drop,ae,length_cons,add_mul];omega);have al:=IM v.cells.toList (done++zs) (k * size) 0 (by rw[length_append,ay,a];omega);simp only[zipIdx_cons,map_cons,Instr.fill];rw[if_neg (by simp[c,ay];omega)];rw[<- Array.foldl_toList];simp only[Array.toList_zipIdx];simp only[add_zero]at al;rw[al,<- ay,take_left,a];have e:(done++zs).drop (done.length+size)=zs.drop size:=by rw[List.drop_append];simp
  simpa using d
theorem range_zero(z:cl)(k:Nat)(size:Nat)(b:z.length=size)(a:0<size):(range (k * size)).map (λj=>z.toArray[j % z.toArray.size]!)=(e3 z k).toArray:=by
 subst b;exact Pd z a k
theorem ZX{P:Program}{t e:TypeId}{i:bI}{N:Nat}{vs:cl}{z:cl}{w:World}(bk:P.underlying t=some (.slice e))(hi:bI.ok P e i)(bO:i.zero.cells.toList=z)(a:z.length=i.size)(g:0<i.size)(aM:vs.length=N)(hle:N * i.size<=16777216)(f:∀v∈vs,v.cells.size=i.size) :
  (Instr.buildSlice t N ((vs.zipIdx.map λp=>(p.2,p.1)).toArray)).run P w=.ok (.slice (some ⟨w.heap.size,0,none⟩) N N) (w.alloc (.cells (vs.flatMap λv=>v.cells.toList).toArray e)):=by
 have c:=PT i.size vs 0 [] (e3 z N) f (by simp) (by rw[Aa,a,aM]);simp only[nil_append]at c;have h0:=range_zero z N i.size a g;have ir:i.zero.cells=z.toArray:=by rw[<- bO]
 unfold Instr.buildSlice;simp only[Sem.run_bind,run_underlying bk,Result.andThen_ok,bI.run_sizeOf hi];rw[if_neg (by omega)]
 by_cases b:N * i.size=0
 ·have d:N=0:=by
   rcases Nat.mul_eq_zero.1 b with h|h
   ·exact h
   ·omega
  subst d
  have:vs=[]:=eq_nil_of_length_eq_zero aM
  subst this;have j:(range 0)=#[]:=rfl
  simp[Instr.fill,newObj,Sem.run,Go.newRow,j]
 ·simp only[b,if_false,Sem.run_bind,bI.so hi,Result.andThen_ok,Sem.run_pure,ir]
  rw[h0]
  simp[c,Go.newRow,newObj,Sem.run]
theorem ZZ(k:X.a6.ok X.P){t:TypeId}{N:Nat}{aH:Array (Nat×Operand)}{c:Bool}{st':aO}(D:o.op=.buildSlice t N aH)(P:o.guard=none)(m:o.dst=some d)(ad:Aq X n st t N aH.toList d=some (c,st'))(U:c=true):vB X n st o st':=by
 intro R W aE aq env B ak H a w ops KK h K;unfold Aq at ad
 split at ad
 ·rename_i e ae af aa ah az
  split at ad
  ·rename_i bE g dq
   split at ad
   ·rename_i fu cs hle Q T
    split at ad
    ·rename_i cG l S
     split at ad
     ·rename_i ac i
      cases ad;simp only[and_eq_true]at U;unfold Go.Proofs.YtcheedjfedcbpaaGreatDoor.newRow at i
      split at i
      ·rename_i ay
       cases i;obtain⟨b,z,A⟩:=(cm.get k dq).g g rfl;have eP:=(cm.get k dq).ti;dsimp only at b z eP;obtain⟨vs,I,J,ag⟩:=PS h T U.1;obtain⟨j,ai,Z,f,y⟩:=PR ag S U.2;have r:vs.length=N:=by
        have:=congrArg length I
        simp only[List.length_map,List.length_zipIdx]at this;rw[<- this];exact eq_of_beq_eq_true Q
       have s:(vs.flatMap λv=>v.cells.toList).length=N * bE.size:=by
        rw[<- r]
        clear I ag f r
        induction vs with
        |nil=>simp
        |cons v vs L=>rw[flatMap_cons,length_append,L (λu hu=>J u (mem_cons_of_mem _ hu)),length_cons,add_mul,one_mul,length_toList,J v (by simp),add_comm]
       have V:Z=[]:=by
        have E:=congrArg length f;rw[length_append,bR.oL y,j,s,b]at E;exact eq_nil_of_length_eq_zero (by omega)
       subst V;rw[append_nil]at f;have M:=ZX (w:=w) (cm.get k az).ti.1 eP z (by rw[<- bR.length (bR.e3 (B:=B) (w:=ak) g)]at b;exact b) (by rw[<- b];exact A) r (le_of_ble_eq_true hle) J;have Y:aH.map (λp=>(p.1,a.eval p.2))=((vs.zipIdx.map λp=>(p.2,p.1)).toArray):=by
        rw[<- I,<- map_toArray]
       refine iD h.cf P m (ef ay) (v:=.slice (some ⟨w.heap.size,0,none⟩) N N) (w':=w.alloc (.cells (vs.flatMap λv=>v.cells.toList).toArray e)) (by
        simp only[execOp,D];rw[Y]
        simp[M]) λaX F=>?_
       have cP:=bZ.Y6 (size:=g.size) (h.aU.IB (vs.flatMap λv=>v.cells.toList) e) (by rw[s,b]) (by
        have:=le_of_ble_eq_true hle
        have ab:N<=N * bE.size:=Nat.le_mul_of_pos_right _ (by rw[<- b];exact A);omega)
       obtain⟨H',C,O⟩:=h.pF ay (blk:=.row e g l (some N)) (sv:=.c (.ax d)) cP ⟨_,_,_,fK,by rw[j],by rw[f];exact y,λq G=>by cases G;rfl⟩ ⟨_,_,_,fK,by rw[j]⟩ F;exact K _ _ _ _ ⟨λ_=>(Below.refl _ _).alloc (le_refl _) _,λ_ bc=>C.1 (by simpa [ri,m] using bc),λ_ bc=>C.2 (by simpa [tI,m] using bc)⟩ O
      ·cases i
     ·cases ad
    ·cases ad
   ·cases ad
  ·cases ad
 ·cases ad
theorem PV{P:Program}{B:Nat->Prop}{ak w:World}{H:c2}{t e:TypeId}{i':bI}{z:cl}{m c:Nat}{k k':IntKind}(f:bZ B ak H w)(h:P.underlying t=some (.slice e))(j:bI.ok P e i')(i:i'.zero.cells=z.toArray)(a:z.length=i'.size)(s:0<i'.size)(g:m<=c)(ad:i'.bytes * c<=140737488355328)(U:c<=140737488355328) :
  (Instr.makeSlice t (.int k (m:Int)) (.int k' (c:Int))).run P w=.ok (.slice (some ⟨w.heap.size,0,none⟩) m c) (w.alloc (.cells (e3 z c).toArray e))/\bZ B ak (.row (some ⟨w.heap.size,0,none⟩) c e i'.size m (e3 z m)::H) (w.alloc (.cells (e3 z c).toArray e)):=by
 obtain⟨inf,r,o,p,q⟩:=bI.info j;have n:(inf.bytes:Int) * (c:Int)<=281474976710656:=by
  have:((inf.bytes * c:Nat):Int)<=140737488355328:=by rw[p];omega
  omega
 constructor
 ·have d:=run_make w t e inf i'.zero h r q k k' m c (by omega) (by omega) n (by omega)
  simp only[Int.toNat_natCast]at d;rw[d];have bO:madeCells i'.zero.cells (c * inf.size)=(e3 z c).toArray:=by
   rw[o,i,<- a];exact Pd z (by omega) c
  rw[bO]
 ·have bh:=f.alloc (.cells (e3 z c).toArray e)
  have al:=List.pairwise_cons.1 bh.apart;refine⟨bh.below,bh.base,λeA ik=>?_,List.Pairwise.cons (λeA ik b l=>al.1 eA ik b (by simpa [bp.has] using l)) al.2⟩
  rcases List.mem_cons.1 ik with rfl|ik
  ·refine⟨by rw[Aa,a],.inr ⟨w.heap.size,_,(0,0),rfl,f.fresh,heap_alloc_new w _,.inl rfl,g,by unfold maxLen;omega,by simp[Aa,a],?_⟩⟩
   have:e3 z c=e3 z m++e3 z (c-m):=by
    unfold e3;rw[<- List.flatten_append,List.replicate_append_replicate]
    congr 2
    omega
   rw[this,List.take_left' (by rw[Aa,a])]
  ·exact bh.ok eA (mem_cons_of_mem _ ik)
def x2:Option a7->a7->a7
 |some (.ax (.hX h)),.ax _=>.hX h
 |_,g=>g
theorem Z1(a:Option a7)(g:a7):(x2 a g).size=g.size/\(x2 a g).e3=g.e3:=by
 unfold x2
 split<;>exact⟨rfl,rfl⟩
def As(X:bu)(n:Nat)(st:aO)(t:TypeId)(x y:bq)(d:Nat):Option (Bool×aO):=
 match X.a6.find t with
 |some ⟨⟨.slice e,_,_,_⟩,c⟩=>match X.a6.find e with
  |some ⟨⟨_,_,f,_⟩,some g⟩=>match x,y with
   |.c (.val (.int _ b)),.c (.val (.int _ a))=>match newRow n st d e (x2 c g) (replicate b.toNat (x2 c g).zero) (some a.toNat)with
    |some st'=>some (decide (0<=b)&&decide (b<=a)&&eT f a,st')
    |none=>none
   |_,_=>none
  |_=>none
 |_=>none
theorem Z2(i:X.a6.ok X.P){t:TypeId}{x y:Operand}{g g' c:Bool}{fG ej:bq}{st':aO}(K:o.op=.makeSlice t x y)(S:o.guard=none)(r:o.dst=some d)(ai:bz X st.L x=some (g,fG))(M:g=true)(aG:bz X st.L y=some (g',ej))(Q:g'=true)(ad:As X n st t fG ej d=some (c,st'))(U:c=true):vB X n st o st':=by
 intro R W aE aq env B ak H a w ops KK h z;obtain⟨vx,E,Z⟩:=h.aI ai M;obtain⟨vy,D,aa⟩:=h.aI aG Q;unfold As at ad
 split at ad
 ·rename_i e ag ah ac G az
  split at ad
  ·rename_i aK A l ab g dq
   split at ad
   ·rename_i k u k' b
    split at ad
    ·rename_i af p
     cases ad;simp only[and_eq_true,decide_eq_true_eq]at U;obtain⟨⟨fg,h0⟩,ir⟩:=U;obtain⟨ir,nH⟩:=(DM (by omega)).1 ir;unfold Go.Proofs.YtcheedjfedcbpaaGreatDoor.newRow at p
     split at p
     ·rename_i ay
      cases p;rw[show vx=_ from Z]at E;rw[show vy=_ from aa]at D;obtain⟨f,j,s⟩:=(cm.get i dq).g g rfl;obtain⟨T,ae,I,O⟩:=nD (cm.get i az).ti (cm.get i dq).ti;dsimp only at f j O;obtain⟨Y,V⟩:=Z1 G g;rw[<- Y]at f s;rw[<- V]at j
      generalize x2 G g=g at f j s z ⊢
      have J:g.e3.length=A:=by rw[<- f];exact bR.length (bR.e3 (B:=B) (w:=ak) g)
      obtain⟨C,cP⟩:=PV (i':=⟨aK,A,l,ab⟩) h.aU (cm.get i az).ti.1 (cm.get i dq).ti (by rw[<- j]) J (by rw[<- f];exact s) (k:=k) (k':=k') (m:=u.toNat) (c:=b.toNat) (by omega) (by
       have:((l * b.toNat:Nat):Int)=(l:Int) * b:=by rw[Int.natCast_mul,Int.toNat_of_nonneg (by omega)]
       show l * b.toNat<=_;omega) (by omega)
      rw[Int.toNat_of_nonneg fg,Int.toNat_of_nonneg (by omega)]at C;refine iD h.cf S r (ef ay) (v:=.slice (some ⟨w.heap.size,0,none⟩) u.toNat b.toNat) (w':=w.alloc (.cells (e3 g.e3 b.toNat).toArray e)) (by simp[execOp,K,h.cf.aI E,h.cf.aI D,C]) λaX L=>?_
      obtain⟨H',F,P⟩:=h.pF ay (blk:=.row e g (replicate u.toNat g.zero) (some b.toNat)) (sv:=.c (.ax d)) cP ⟨_,_,_,fK,by rw[List.length_replicate,f],Flat.e3 g _,λq N=>by cases N;rfl⟩ ⟨_,_,_,fK,by rw[List.length_replicate]⟩ L;exact z _ _ _ _ ⟨λ_=>(Below.refl _ _).alloc (le_refl _) _,λ_ bc=>F.1 (by simpa [ri,r] using bc),λ_ bc=>F.2 (by simpa [tI,r] using bc)⟩ P
     ·cases p
    ·cases ad
   ·cases ad
  ·cases ad
 ·cases ad
end
end
section
def mT(st:aO)(g:a7):bq->Option (List g.D)
 |.c (.val (.slice none 0 0))=>some []
 |.c (.bo g' l _)=>match decEq g' g with
  |isTrue h=>some (h ▸ l)
  |isFalse _=>none
 |.c (.ax id)=>match bm st.H id with
  |some (.row _ g' l _)=>match decEq g' g with
   |isTrue h=>some (h ▸ l)
   |isFalse _=>none
  |_=>none
 |_=>none
def dx(a k:Nat):Bool:=decide (k * a<=140737488355328)&&decide (k<=140737488355328)
def Au(X:bu)(n:Nat)(st:aO)(t:TypeId)(x y:bq)(d:Nat):Option (Bool×aO):=
 match X.a6.find t with
 |some ⟨⟨.slice e,_,_,_⟩,_⟩=>match X.a6.find e with
  |some ⟨⟨_,f,b,_⟩,some h⟩=>match x with
   |.c (.ax id)=>match bm st.H id with
    |some (.row i g l _)=>match blt d n&&blt id hZ,beq i e,beq g.size f,mT st g y with
     |true,true,true,some a=>some (dx b (l.length+a.length),⟨(d,.c (.ax id))::gu id .dead st.L,(id,.row e g (l++a) none)::ew id .dead st.H⟩)
     |_,_,_,_=>none
    |_=>none
   |.c (.val (.slice none 0 0))=>match mT st h y with
    |some a=>match newRow n st d e h a none with
     |some st'=>some (dx b a.length,st')
     |none=>none
    |none=>none
   |.c (.bo g l (some c))=>match beq g.size f,mT st g y with
    |true,some a=>match newRow n st d e g (l++a) none with
     |some st'=>some (dx b (l.length+a.length)&&decide (c=l.length)&&decide (0<l.length)&&decide (0<a.length),st')
     |none=>none
    |_,_=>none
   |_=>none
  |_=>none
 |_=>none
section
variable {X:bu} {R:Nat->Prop} {W:World} {aE:fj} {n:Nat} {aq:b6} {env:Nat->Loc} {B:Nat->Prop} {ak:World} {H:c2} {st:aO} {a aX:Act} {w w':World} {o:Oper} {d:Nat}
theorem oO.kU{A:Option Addr}{m size:Nat}{xs:cl}(a:oO B ak A m size xs)(d:bZ (λk=>R k\/B k) ak H w):Reads w A m size xs:=by
 refine⟨a.1.1,λc=>?_⟩;obtain⟨b,p,e,U⟩:=a.1.2 c;exact⟨b,p,e,λj u hu=>IW (a.2 b p c e) (U j u hu) d⟩
theorem sy(h:bK X R W aE n aq env B ak H st a w){g:a7}{y:bq}{l:List g.D}{v:Value}(b:mT st g y=some l)(e:dU env B ak y v):∃A c xs,v=.slice A l.length c/\Flat (bR B ak g) l xs/\Reads w A l.length g.size xs:=by
 unfold mT at b
 split at b
 ·cases b
  exact⟨none,0,[],e,rfl,Reads.nil _ _ _⟩
 ·split at b
  ·rename_i d _
   subst d;cases b;obtain⟨A,c,xs,rfl,_,_,_,f,o⟩:=e;exact⟨A,c,xs,rfl,f,o.kU h.aU⟩
  ·cases b
 ·split at b
  ·rename_i j
   split at b
   ·rename_i d _
    subst d;cases b;obtain⟨A,c,m,he,rfl⟩:=e;obtain⟨eA,K,⟨p,k',xs,i,rfl,f,_⟩,k⟩:=h.heap.gU j;rw[he]at i;cases i;exact⟨A,c,xs,rfl,f,Reads.Pn h.aU k.more.mem⟩
   ·cases b
  ·cases b
 ·cases b
theorem Z3(M:X.a6.ok X.P){t:TypeId}{x y:Operand}{g g' c:Bool}{fG ej:bq}{st':aO}(f:o.op=.call ⟨.builtin .append,⟨[x,y]⟩,⟨[t,t]⟩⟩)(S:o.guard=none)(C:o.dst=some d)(ai:bz X st.L x=some (g,fG))(ax:g=true)(aG:bz X st.L y=some (g',ej))(aD:g'=true)(ad:Au X n st t fG ej d=some (c,st'))(U:c=true):vB X n st o st':=by
 intro R W aE aq env B ak H a w ops KK h N;obtain⟨vx,L,ac⟩:=h.aI ai ax;obtain⟨vy,V,ae⟩:=h.aI aG aD;unfold Au at ad
 split at ad
 ·rename_i e aW aY aP aZ az
  split at ad
  ·rename_i aK J aR av Z dq
   obtain⟨r,ao,ab⟩:=(cm.get M dq).g Z rfl;obtain⟨T,O,I,G⟩:=nD (cm.get M az).ti (cm.get M dq).ti;dsimp only at r ao G;have ag:av.cells.size=J:=by
    have:av.cells.toList.length=J:=by rw[ao,<- r];exact bR.length (bR.e3 (B:=B) (w:=ak) Z)
    simpa using this
   split at ad
   ·rename_i id
    split at ad
    ·rename_i aC g l cap aB
     split at ad
     ·rename_i p ln he Q F
      cases ad;simp only[and_eq_true]at ln;obtain⟨ay,aM⟩:=ln;have aA:=eq_of_beq_eq_true he;subst aA;have D:=eq_of_beq_eq_true Q;simp only[dx,and_eq_true,decide_eq_true_eq]at U;obtain⟨ap,cG,Y,rfl,s,i⟩:=sy h F ae;obtain⟨A,c,m,aa,rfl⟩:=ac;obtain⟨eA,K,⟨u,k',xs,aw,rfl,P,_⟩,ar,aL⟩:=h.DV (b':=.row aC g (l++p) none) aB (λq al=>by
       obtain⟨_,an,a1⟩:=h.dr _ _ al;rw[aa]at an
       rcases a1 with⟨b,a1⟩|a1
       ·rw[<- an]at a1;cases a1
       ·have:=ef aM;omega)
      rw[aa]at aw;cases aw;rw[D]at ar i;refine DE h.sym f ⟨S,C⟩ ay O I rfl G (by rw[<- r];exact Nat.ble_eq_true_of_le ab) ag L V ar i (Flat.jo (λ_ _=>bR.jo) s) U.1 U.2 λu c' aX w' bP=>?_
      obtain⟨H',E,z⟩:=aL (.row u c' (l.length+p.length)) _ aX w' (.c (.ax id)) _ ⟨u,c',xs++Y,by rw[fK,length_append],by rw[length_append],P.append s,λq v=>by cases v⟩ ⟨u,c',_,fK,rfl⟩ (by rw[D];exact bP.aU) bP.st;exact N _ _ _ _ ⟨λh=>(by rw[f]at h;cases h),λ_ _ c U af=>E (λb=>by rw[aa];simp) c U af (λe=>by rw[e]at af;cases af),λh=>(by rw[f]at h;cases h)⟩ z
     ·cases ad
    ·cases ad
   ·split at ad
    ·rename_i p F
     split at ad
     ·rename_i aH j
      cases ad;simp only[dx,and_eq_true,decide_eq_true_eq]at U;unfold Go.Proofs.YtcheedjfedcbpaaGreatDoor.newRow at j
      split at j
      ·rename_i ay
       cases j;obtain⟨ap,cG,Y,rfl,s,i⟩:=sy h F ae;rw[show vx=_ from ac]at L;rw[r]at i;have aN:Sym n (kW aq aE) (full a) (λk=>R k\/B k) ak (.row none 0 e J 0 []::(H++aq.map dE)) a w:=⟨h.cf,h.aU.tx e J⟩
       refine DE aN f ⟨S,C⟩ ay O I rfl G (by rw[<- r];exact Nat.ble_eq_true_of_le ab) ag L V xP i (Flat.jo (λ_ _=>bR.jo) s) (by rw[zero_add];exact U.1) (by rw[zero_add];exact U.2) λu c' aX w' bP=>?_
       rw[zero_add,nil_append,<- r]at bP;obtain⟨H',E,z⟩:=h.pF ay (l:=.row u c' p.length) (blk:=.row e Z p none) (sv:=.c (.ax d)) bP.aU ⟨_,_,_,fK,rfl,s,λq v=>by cases v⟩ ⟨_,_,_,fK,rfl⟩ bP.st;exact N _ _ _ _ ⟨λh=>(by rw[f]at h;cases h),λ_ bc=>E.1 (by simpa [ri,C] using bc),λh=>(by rw[f]at h;cases h)⟩ z
      ·cases j
     ·cases ad
    ·cases ad
   ·rename_i g l cc
    split at ad
    ·rename_i p Q F
     split at ad
     ·rename_i aH j
      cases ad;simp only[dx,and_eq_true,decide_eq_true_eq]at U;obtain⟨⟨⟨au,aV⟩,aj⟩,am⟩:=U;unfold Go.Proofs.YtcheedjfedcbpaaGreatDoor.newRow at j
      split at j
      ·rename_i ay
       cases j;have D:=eq_of_beq_eq_true Q;obtain⟨ap,cG,Y,rfl,s,i⟩:=sy h F ae;obtain⟨A,c,xs,rfl,_,_,aF,P,aI⟩:=ac;have aQ:=aF _ rfl;have ah:=aI.kU h.aU;rw[D]at i ah;obtain⟨x3,aT,rfl,_⟩:=ah.2 aj;obtain⟨aU,aS,rfl,_⟩:=i.2 am;refine Zg h.sym f ⟨S,C⟩ ay O I rfl G (by rw[<- r];exact Nat.ble_eq_true_of_le ab) ag L V aj am ah i (by omega) au.1 au.2 λaJ c' aX w' bP=>?_
       rw[<- D]at bP;obtain⟨H',E,z⟩:=h.pF ay (l:=.row (some ⟨aJ,0,none⟩) c' (l++p).length) (blk:=.row e g (l++p) none) (sv:=.c (.ax d)) bP.aU ⟨_,_,_,fK,by rw[length_append],P.append s,λq v=>by cases v⟩ ⟨_,_,_,fK,by rw[length_append]⟩ bP.st;exact N _ _ _ _ ⟨λh=>(by rw[f]at h;cases h),λ_ bc=>E.1 (by simpa [ri,C] using bc),λh=>(by rw[f]at h;cases h)⟩ z
      ·cases j
     ·cases ad
    ·cases ad
   ·cases ad
  ·cases ad
 ·cases ad
def cT(id:Nat)(st:aO):Option aO:=
 match bm st.H id with
 |some (.row _ g l cap)=>some ⟨gu id (.bo g l cap) st.L,ew id (.bo g l cap) st.H⟩
 |_=>none
theorem bK.cT(h:bK X R W aE n aq env B ak H st a w){id:Nat}{st':aO}(az:cT id st=some st'):∃env' B' F H',bK X R W aE n aq env' B' F H' st' a w/\(∀k,B k->B' k)/\c9 (λk=>R k\/B k) ak F/\∀c∈H,jm c=true->c∈H':=by
 unfold Go.Proofs.YtcheedjfedcbpaaGreatDoor.cT at az
 split at az
 ·rename_i t g l cap E
  cases az;obtain⟨c0,_,⟨A,k,ae,he,rfl,_,S⟩,af⟩:=h.heap.gU E;have r:gm B ak (λq=>B q\/A.map (·.block)=some q) w:=⟨λq ar=>.inl ar,λq ar=>h.aU.below.block q (.inr ar)⟩
  obtain⟨c,Y,Z,⟨O,k',xs,d,rfl,N,_⟩,J,ag⟩:=(h.heap.up r).take E;rw[he]at d;cases d;have o:bp.row A k t g.size l.length xs∈H++aq.map dE:=by rw[J];simp
  have G:=h.aU.ok _ o;have I:∀q,A.map (·.block)=some q->¬(R q\/B q)/\q<w.heap.size:=λq ar=>(h.aU.ok _ o).lt ar
  have K:∀v,dR env (λq=>B q\/A.map (·.block)=some q) w (.ax id) v->dR env (λq=>B q\/A.map (·.block)=some q) w (.bo g l cap) v:=by
   rintro v ⟨O,c',m,d,rfl⟩;rw[he]at d;cases d;exact⟨A,k,xs,rfl,G.le.1,G.le.2,S,N,Reads.Pn h.aU o,λb p _ e=>.inr (by rw[e];rfl)⟩
  obtain⟨H2,D,M,L⟩:=ag env (.bo g l cap) (λ_ _=>rfl) K;have z:=h.aU.apart;rw[J,append_assoc,cons_append]at z;refine⟨env,_,w,H2,⟨h.size,h.defs,λs u hu=>?_,M,?_,λq ar=>.inl (h.sub q ar),λq ar=>?_,h.dr,h.base.trans ⟨h.aU.below.os,h.aU.below.tape,h.aU.below.output,h.aU.below.size,λq ar=>h.aU.below.block q (.inl ar)⟩,λi x ai=>(h.eg i x ai).up r⟩,λq ar=>.inl ar,h.aU.below,λc U y=>L (λb=>by rw[he];simp) c ?_ y⟩
  ·obtain⟨ab,ac,rfl⟩:=qj hu
   obtain⟨T,f,ca⟩:=h.has s ab ac;exact⟨T,f,eK.sub (λ_ _=>rfl) K (ca.up r)⟩
  ·have j:bZ (λk=>R k\/B k) ak (H2++aq.map dE) w:=by
    have f:=h.aU;rw[J]at f;have al:(Y++bp.row A k t g.size l.length xs::Z++aq.map dE).Perm (bp.row A k t g.size l.length xs::(Y++Z++aq.map dE)):=by
     simp only[append_assoc,cons_append];exact perm_middle
    exact(f.perm al).e2 (((D.append_right _)).cons _)
   refine⟨c9.refl _ _,λq ar=>?_,λc U=>(j.ok c U).base λb ad cB=>?_,j.apart⟩
   ·rcases ar with ar|ar|ar
    ·exact h.aU.base q (.inl ar)
    ·exact h.aU.base q (.inr ar)
    ·exact(I q ar).2
   ·rcases cB with cB|cB|cB
    ·exact((j.ok c U).lt ad).1 (.inl cB)
    ·exact((j.ok c U).lt ad).1 (.inr cB)
    ·have aa:c∈Y++(Z++aq.map dE):=by
      rcases List.mem_append.1 U with U|U
      ·have:=D.subset U
       rcases List.mem_append.1 this with ca|ca
       ·exact mem_append_left _ ca
       ·exact mem_append_right _ (mem_append_left _ ca)
      ·exact mem_append_right _ (mem_append_right _ U)
     rw[List.pairwise_append,List.pairwise_cons]at z;obtain⟨_,⟨P,_⟩,V⟩:=z
     rcases List.mem_append.1 aa with ca|ca
     ·exact V c ca _ mem_cons_self b ad cB
     ·exact P c ca b cB ad
  ·rcases ar with ar|ar
   ·exact(h.new q ar).imp_right λC=>⟨C.1,C.2.ee (h.aU.below.block q (.inr ar))⟩
   ·exact .inr ⟨λQ=>(I q ar).1 (.inl Q),(h.aU.ok _ o).cells rfl ar⟩
  ·rw[J]at U
   rcases List.mem_append.1 U with U|U
   ·exact mem_append_left _ U
   ·rcases List.mem_cons.1 U with U|U
    ·rw[U]at y;cases y
    ·exact mem_append_right _ U
 ·cases az
inductive tO(L:cU):cU->Prop where
 |nil:tO L []
 |cons {k:Nat} {v:cd} {eu:cU} (aa:bm L k=some v) (h:tO L eu):tO L ((k,v)::eu)
inductive lp(h:bC):bC->Prop where
 |nil:lp h []
 |cons {k:Nat} {b:cD} {aP:bC} (aa:bm h k=some b) (bc:bm aP k=none) (aw:lp h aP):lp h ((k,b)::aP)
theorem tO.look{L eu:cU}(h:tO L eu):∀s v,bm eu s=some v->bm L s=some v:=by
 induction h with
 |nil=>intro s v h;cases h
 |cons aa _ a=>
  intro s v h;rw[cI]at h
  split at h
  ·rename_i e;subst e;cases h;exact aa
  ·exact a s v h
def nJ(id:Nat):bC->bC
 |[]=>[]
 |(k,b)::r=>match beq k id with
  |true=>r
  |false=>(k,b)::nJ id r
theorem bJ.erase{id:Nat}:∀ {l:bC} {H:c2} {b:cD},bJ env B w l H->bm l id=some b->∃c H2,eM env B w id b c/\H.Perm (c::H2)/\bJ env B w (nJ id l) H2
 |[],_,_,_,h=>by cases h
 |(k,b')::l,H,b,⟨c,H',e,I,J⟩,h=>by
  rw[cI]at h;subst e
  split at h
  ·rename_i e
   subst e;cases h;refine⟨c,H',I,List.Perm.refl _,?_⟩;unfold nJ;rw[beq_refl];exact J
  ·rename_i e
   obtain⟨c',H2,ag,d,a⟩:=bJ.erase J h;have aa:beq k id=false:=by
    cases ad:beq k id with
    |false=>rfl
    |true=>exact absurd (eq_of_beq_eq_true ad).symm e
   refine⟨c',c::H2,ag,(List.Perm.cons _ d).trans (List.Perm.swap _ _ _),?_⟩;unfold nJ;rw[aa];exact⟨c,H2,rfl,I,a⟩
theorem PY{id k:Nat}(aa:k≠id):∀ {l:bC},bm (nJ id l) k=bm l k
 |[]=>rfl
 |(j,b)::l=>by
  unfold nJ
  split
  ·rename_i h
   have:j=id:=eq_of_beq_eq_true h
   subst this;rw[cI,if_neg aa]
  ·rw[cI,cI,PY aa]
theorem lp.D1{l l':bC}(f:lp l l'):∀ {H:c2},bJ env B w l H->∃H' Y,H.Perm (H'++Y)/\bJ env B w l' H':=by
 have key:∀ {l l':bC},(∀k b,bm l' k=some b->bm l k=some b)->(∀(p:Nat×cD) (Y Z:bC),l'=Y++p::Z->bm Z p.1=none)->∀ {H:c2},bJ env B w l H->∃H' Y,H.Perm (H'++Y)/\bJ env B w l' H':=by
  intro l l'
  induction l' generalizing l with
  |nil=>intro _ _ H h;exact⟨[],H,List.Perm.refl _,rfl⟩
  |cons p r a=>
   obtain⟨k,b⟩:=p;intro I J H h;have aa:=I k b (by rw[cI,if_pos rfl]);have bc:=J (k,b) [] r rfl;obtain⟨c,H2,ag,n,m⟩:=h.erase aa;obtain⟨H',Y,i,o⟩:=a (λj b' d=>by
    have g:j≠k:=λe=>by subst e;rw[bc]at d;cases d
    rw[PY g];exact I j b' (by rw[cI,if_neg g];exact d)) (λp Y Z e=>J p ((k,b)::Y) Z (by rw[e];rfl)) m
   exact⟨c::H',Y,n.trans (List.Perm.cons _ i),c,H',rfl,ag,o⟩
 intro H h;refine key (l':=l') ?_ ?_ h
 ·clear h
  induction f with
  |nil=>intro k b h;cases h
  |cons aa _ _ a=>
   intro j b' h;rw[cI]at h
   split at h
   ·rename_i e;subst e;cases h;exact aa
   ·exact a j b' h
 ·clear h
  induction f with
  |nil=>intro p Y Z e;cases Y<;>cases e
  |cons _ bc _ a=>
   intro p Y Z e;cases Y with
   |nil=>cases e;exact bc
   |cons q Y=>cases e;exact a p Y Z rfl
theorem bK.e2(h:bK X R W aE n aq env B ak H st a w){st':aO}(cY:tO st.L st'.L)(b:lp st.H st'.H):∃H',bK X R W aE n aq env B ak H' st' a w:=by
 obtain⟨H',Y,I,J⟩:=b.D1 h.heap;refine⟨H',h.size,h.defs,λs u hu=>h.has s u (cY.look s u hu),J,?_,h.sub,h.new,h.dr,h.base,h.eg⟩;have al:(H++aq.map dE).Perm ((H'++aq.map dE)++Y):=by
  refine(I.append_right _).trans ?_;rw[append_assoc,append_assoc];exact(List.perm_append_comm).append_left _
 exact(h.aU.perm al).e2 (List.sublist_append_left _ _)
theorem bK.tx(h:bK X R W aE n aq env B ak H st a w){s id:Nat}{t:TypeId}{g:a7}(hid:∀q,¬aE.p id q)(c:bm st.L s=some (.c (.val (.slice none 0 0)))):∃env' H',bK X R W aE n aq env' B ak H' ⟨(s,.c (.ax id))::gu id .dead st.L,(id,.row t g [] none)::ew id .dead st.H⟩ a w:=by
 obtain⟨H2,I,J⟩:=h.heap.del (z:=.dead) (kz) (λ_ _=>trivial);obtain⟨v,ag,f⟩:=h.has _ _ c;refine⟨kX env id (.row none 0 0),.row none 0 t g.size 0 []::H2,h.size,h.defs,λq u hu=>?_,⟨_,H2,rfl,⟨none,0,[],fK,rfl,rfl,λ_ d=>by cases d⟩,J⟩,(h.aU.tx t g.size).e2 ((I.append_right _).cons_cons _),h.sub,h.new,tJ h.dr hid,h.base,h.eg⟩;rw[cI]at hu
 split at hu
 ·rename_i e;subst e;cases hu;exact⟨v,ag,none,0,0,fK,f⟩
 ·obtain⟨k,l,rfl⟩:=qj hu
  obtain⟨j,b,i⟩:=h.has q k l;exact⟨j,b,eK.sub (z:=.dead) kz (λ_ _=>trivial) i⟩
end
end
section
inductive PZ where
 |ok (c:Bool) (st:aO)
 |stop
def Av(X:bu)(n:Nat)(st:aO)(d:Option Nat):Op->Option (Bool×aO)
 |.alloc t=>match d,X.a6.find t with
  |some d,some bE=>tL X n st t d (tF bE.ti.zero.cells.toList)
  |_,_=>none
 |.box t u=>match d,bz X st.L u with
  |some d,some (g,x)=>match pE x.cells,tL X n st t d x.cells with
   |true,some (c,st')=>some (g&&c,st')
   |_,_=>none
  |_,_=>none
 |.store t u v=>match d,bz X st.L u,bz X st.L v with
  |none,some (g,x),some (g',y)=>match Ao X st t x y with
   |some (c,st')=>some (g&&g'&&c,st')
   |none=>none
  |_,_,_=>none
 |.buildSlice t N aH=>match d with
  |some d=>Aq X n st t N aH.toList d
  |none=>none
 |.makeSlice t u v=>match d,bz X st.L u,bz X st.L v with
  |some d,some (g,x),some (g',y)=>match As X n st t x y d with
   |some (c,st')=>some (g&&g'&&c,st')
   |none=>none
  |_,_,_=>none
 |.call ⟨.builtin .append,⟨[u,v]⟩,⟨[t,a]⟩⟩=>match d,beq t a,bz X st.L u,bz X st.L v with
  |some d,true,some (g,x),some (g',y)=>match Au X n st t x y d with
   |some (c,st')=>some (g&&g'&&c,st')
   |none=>none
  |_,_,_,_=>none
 |_=>none
def x4(X:bu)(n:Nat)(L:cU)(H:bC)(o:Oper)(g:Bool):PZ:=
 match vz X ⟨L,H⟩ o.op,o.dst with
 |some (c,bN),some d=>match blt d n with
  |true=>.ok (!g || c) ⟨(d,.may g bN)::L,H⟩
  |false=>.stop
 |_,_=>.stop
def D2(L:cU):Op->Option dO
 |.move (.tmp s)=>match bm L s with
  |some (.da xs)=>some xs
  |_=>none
 |.assign (.tmp s)=>match bm L s with
  |some (.da xs)=>some xs
  |_=>none
 |_=>none
def oU(X:bu)(n:Nat)(c1:List (Option Nat)):aO->Oper->PZ
 |⟨L,H⟩,o=>match o.guard with
  |none=>match vz X ⟨L,H⟩ o.op with
   |some (c,bN)=>match o.dst with
    |some d=>match blt d n with
     |true=>.ok c ⟨(d,.a bN)::L,H⟩
     |false=>.stop
    |none=>.stop
   |none=>match D2 L o.op with
    |some xs=>match o.dst with
     |some d=>match blt d n with
      |true=>.ok true ⟨(d,.da xs)::L,H⟩
      |false=>.stop
     |none=>.stop
    |none=>match Av X n ⟨L,H⟩ o.dst o.op with
     |some (c,st')=>.ok c st'
     |none=>.stop
  |some (j,want)=>match nth c1 j with
   |some (some s)=>match bm L s,want with
    |some (.a (.c (.val (.bool b)))),true=>x4 X n L H o b
    |some (.a (.c (.val (.bool b)))),false=>x4 X n L H o (!b)
    |some (.may g (.c (.val (.bool b)))),true=>x4 X n L H o (g&&b)
    |some (.may g (.c (.val (.bool b)))),false=>x4 X n L H o (g&&!b)
    |_,_=>.stop
   |_=>.stop
def eU(l:List Oper):List (Option Nat):=l.map (·.dst)
section
variable {X:bu} {R:Nat->Prop} {W:World} {aE:fj} {n:Nat} {aq:b6} {env:Nat->Loc} {B:Nat->Prop} {ak:World} {H:c2} {st st':aO} {a aX:Act} {w w':World} {o:Oper} {d:Nat}
theorem Z5(i:X.a6.ok X.P){c:Bool}(e:o.guard=none)(ad:Av X n st o.dst o.op=some (c,st'))(U:c=true):vB X n st o st':=by
 unfold Av at ad
 split at ad
 ·rename_i t b
  split at ad
  ·rename_i d bE ay dq
   exact ZM i b e ay dq ad
  ·cases ad
 ·rename_i t u b
  split at ad
  ·rename_i d g x ay hu
   split at ad
   ·rename_i c' j ae J
    cases ad;simp only[and_eq_true]at U;exact ZL b e ay hu U.1 ae J
   ·cases ad
  ·cases ad
 ·rename_i t u v b
  split at ad
  ·rename_i g x g' y ay hu f
   split at ad
   ·rename_i c' j J
    cases ad;simp only[and_eq_true]at U;exact ZP i b e ay hu U.1.1 f U.1.2 J U.2
   ·cases ad
  ·cases ad
 ·rename_i t N aH b
  split at ad
  ·rename_i d ay
   exact ZZ i b e ay ad U
  ·cases ad
 ·rename_i t u v b
  split at ad
  ·rename_i d g x g' y ay hu f
   split at ad
   ·rename_i c' j J
    cases ad;simp only[and_eq_true]at U;exact Z2 i b e ay hu U.1.1 f U.1.2 J U.2
   ·cases ad
  ·cases ad
 ·rename_i u v t m b
  split at ad
  ·rename_i d g x g' y ay bk hu f
   split at ad
   ·rename_i c' j J
    cases ad;simp only[and_eq_true]at U;have k:=eq_of_beq_eq_true bk;subst k;intro R W aE aq env B ak H a w ops KK h l;exact Z3 i b e ay hu U.1.1 f U.1.2 J U.2 ops KK h l
   ·cases ad
  ·cases ad
 ·cases ad
theorem Z6(h:bK X R W aE n aq env B ak H st a w){ops:Array Oper}{KK:Act->World->Prop}{bN:bq}{g:Bool}(al:g=true->jn X st o bN)(e:Region.wanted o (yielded ops a.tmps)=g)(f:o.dst=some d)(ay:blt d n=true)(b:∀aX w' env' H',DT o st H w H' w'->bK X R W aE n aq env' B ak H' ⟨(d,.may g bN)::st.L,st.H⟩ aX w'->KK aX w'):fh X.P ops o KK a w:=by
 have put:∀v,df n (kW aq aE) ((d,v)::full a) (a.put o.dst v):=λv=>by rw[f];exact h.cf.put d v (ef ay)
 cases g with
 |true=>
  obtain⟨v,I,J⟩:=al rfl h;exact .inl ⟨e,.inl ⟨v,w,J w (λ_=>h.aU),b _ _ _ _ ⟨λ_=>Below.refl _ _,λ_ _ c U _=>U,λ_ _ c U=>U⟩ (h.set ⟨λ_=>I,λh=>by cases h⟩ (put v))⟩⟩
 |false=>exact .inr ⟨e,b _ _ _ _ ⟨λ_=>Below.refl _ _,λ_ _ c U _=>U,λ_ _ c U=>U⟩ (h.set ⟨(λh=>by cases h),λ_=>rfl⟩ (put undef))⟩
theorem Jk{α β:Type}{f:α->β}:∀ {l:List α} {k:Nat} {y:β},nth (l.map f) k=some y->∃x,l[k]?=some x/\y=f x
 |[],_,_,h=>by cases h
 |x::_,0,_,h=>by cases h;exact⟨x,rfl,rfl⟩
 |_::r,k+1,_,h=>by obtain⟨x,I,J⟩:=Jk (l:=r) h;exact⟨x,by rw[getElem?_cons_succ];exact I,J⟩
theorem D3(f:X.a6.ok X.P){ops:Array Oper}{c g:Bool}(b:x4 X n st.L st.H o g=.ok c st')(U:c=true)(h:bK X R W aE n aq env B ak H st a w)(k:Region.wanted o (yielded ops a.tmps)=g){KK:Act->World->Prop}(i:∀aX w' env' H',DT o st H w H' w'->bK X R W aE n aq env' B ak H' st' aX w'->KK aX w'):fh X.P ops o KK a w:=by
 unfold x4 at b
 split at b
 ·rename_i c' bN d al j
  split at b
  ·rename_i ay
   cases b;exact Z6 h (λe=>DR f al (by rw[e]at U;simpa using U)) k j ay i
  ·cases b
 ·cases b
theorem P1(h:bK X R W aE n aq env B ak H st a w){xs:dO}(b:D2 st.L o.op=some xs):∃v,eK env B ak (.da xs) v/\∀w,(execOp a.eval o).run X.P w=.ok (.value v) w:=by
 unfold D2 at b
 split at b
 ·rename_i s c
  split at b
  ·rename_i ys d
   cases b;obtain⟨v,I,J⟩:=h.has _ _ d;exact⟨v,J,OY h.cf c (im I)⟩
  ·cases b
 ·rename_i s c
  split at b
  ·rename_i ys d
   cases b;obtain⟨v,I,J⟩:=h.has _ _ d;exact⟨v,J,OZ h.cf c (im I)⟩
  ·cases b
 ·cases b
theorem vD(m:X.a6.ok X.P){l:List Oper}{c:Bool}(e:oU X n (eU l) st o=.ok c st')(U:c=true)(h:bK X R W aE n aq env B ak H st a w){KK:Act->World->Prop}(i:∀aX w' env' H',DT o st H w H' w'->bK X R W aE n aq env' B ak H' st' aX w'->KK aX w'):fh X.P l.toArray o KK a w:=by
 obtain⟨L,q⟩:=st;simp only[oU]at e
 split at e
 ·rename_i f
  split at e
  ·rename_i c' bN al
   split at e
   ·rename_i d t
    split at e
    ·rename_i ay
     cases e;obtain⟨v,I,J⟩:=DR m al U h;exact iD h.cf f t (ef ay) (J w (λ_=>h.aU)) λaX r=>i _ _ _ _ ⟨λ_=>Below.refl _ _,λ_ _ c U _=>U,λ_ _ c U=>U⟩ (h.set I r)
    ·cases e
   ·cases e
  ·split at e
   ·rename_i xs y
    split at e
    ·rename_i d t
     split at e
     ·rename_i ay
      cases e;obtain⟨v,I,J⟩:=P1 h y;exact iD h.cf f t (ef ay) (J w) λaX r=>i _ _ _ _ ⟨λ_=>Below.refl _ _,λ_ _ c U _=>U,λ_ _ c U=>U⟩ (h.set I r)
     ·cases e
    ·cases e
   ·split at e
    ·rename_i c' D he
     cases e;exact Z5 m f he U _ _ h i
    ·cases e
 ·rename_i j want f
  split at e
  ·rename_i s u
   obtain⟨C,z,A⟩:=Jk u;have p:(l.toArray[j]?).bind (·.dst)=some s:=by simp[z,<- A]
   split at e
   ·rename_i b k
    obtain⟨v,I,J⟩:=h.has _ _ k;rw[show v=_ from J]at I;refine D3 (st:=⟨L,q⟩) m e U h ?_ i;rw[tv h.sym f p (im I)];cases b<;>rfl
   ·rename_i b k
    obtain⟨v,I,J⟩:=h.has _ _ k;rw[show v=_ from J]at I;refine D3 (st:=⟨L,q⟩) m e U h ?_ i;rw[tv h.sym f p (im I)];cases b<;>rfl
   ·rename_i g b k
    obtain⟨v,I,J,ag⟩:=h.has _ _ k;refine D3 (st:=⟨L,q⟩) m e U h ?_ i;cases g with
    |true=>
     rw[show v=_ from J rfl]at I;rw[tv h.sym f p (im I)];cases b<;>rfl
    |false=>
     rw[ag rfl]at I;rw[DC h.sym f p (im I)]
     rfl
   ·rename_i g b k
    obtain⟨v,I,J,ag⟩:=h.has _ _ k;refine D3 (st:=⟨L,q⟩) m e U h ?_ i;cases g with
    |true=>
     rw[show v=_ from J rfl]at I;rw[tv h.sym f p (im I)];cases b<;>rfl
    |false=>
     rw[ag rfl]at I;rw[DC h.sym f p (im I)]
     rfl
   ·cases e
  ·cases e
end
inductive Out where
 |done (c:Bool) (st:aO)
 |stop (c:Bool) (st:aO) (rest:List Oper)
def mV(X:bu)(n:Nat)(c1:List (Option Nat)):List Oper->Bool->aO->Out
 |[],c,st=>.done c st
 |o::l,c,st=>match oU X n c1 st o with
  |.ok c' st'=>mV X n c1 l (c&&c') st'
  |.stop=>.stop c st (o::l)
def P2(X:bu)(R:Nat->Prop)(W:World)(aE:fj)(M:Bool)(n:Nat)(Q:Exit->aO->Prop):Exit->Act->World->Prop:=λe a w=>∃st,Q e st/\mQ X R W aE M n st a w
def gQ(X:bu)(M:Bool)(n:Nat)(r:Option Nat)(c:Code)(st:aO)(Q:Exit->aO->Prop):Prop:=
 ∀R W aE a w,mQ X R W aE M n st a w->kS r X.P c (P2 X R W aE M n Q) a w
def kC(X:bu)(M:Bool)(n:Nat)(r:Option Nat)(ops:List Oper)(l:List Oper)(st:aO)(Q:Exit->aO->Prop):Prop:=
 ∀R W aE a w,mQ X R W aE M n st a w->q4 r X.P ops.toArray (P2 X R W aE M n Q) l a w
section
variable {X:bu} {M:Bool} {n:Nat} {r:Option Nat} {st st':aO} {Q tQ:Exit->aO->Prop} {fu cG c:Code} {ops l l':List Oper}
theorem Jl:∀ {l:List Oper} {c c':Bool} {st st':aO} {c1:List (Option Nat)},mV X n c1 l c st=.done c' st'->c'=true->c=true
 |[],c,c',st,st',c1,h,U=>by cases h;exact U
 |o::l,c,c',st,st',c1,h,U=>by
  simp only[mV]at h
  split at h
  ·have:=Jl h U
   simp only[and_eq_true]at this;exact this.1
  ·cases h
theorem P3:∀ {l rest:List Oper} {c c':Bool} {st st':aO} {c1:List (Option Nat)},mV X n c1 l c st=.stop c' st' rest->c'=true->c=true
 |[],rest,c,c',st,st',c1,h,U=>by cases h
 |o::l,rest,c,c',st,st',c1,h,U=>by
  simp only[mV]at h
  split at h
  ·have:=P3 h U
   simp only[and_eq_true]at this;exact this.1
  ·cases h;exact U
theorem P4(d:X.a6.ok X.P):∀ {l:List Oper} {c c':Bool} {st st':aO},mV X n (eU ops) l c st=.done c' st'->c'=true->Q .normal st'->kC X M n r ops l st Q
 |[],c,c',st,st',h,U,b=>by
  cases h;intro R W aE a w ah;exact IA ⟨_,b,ah⟩
 |o::l,c,c',st,st',h,U,b=>by
  simp only[mV]at h
  split at h
  ·rename_i cG i e
   have J:=Jl h U;simp only[and_eq_true]at J;rintro R W aE a w ⟨aq,env,B,ak,H,g,ah⟩;exact sn (vD d e J.2 ah λaX w' env' H' _ f=>P4 d h U b _ _ _ _ _ ⟨aq,env',B,ak,H',g,f⟩)
  ·cases h
theorem P5(d:X.a6.ok X.P):∀ {l rest:List Oper} {c c':Bool} {st st':aO},mV X n (eU ops) l c st=.stop c' st' rest->c'=true->kC X M n r ops rest st' Q->kC X M n r ops l st Q
 |[],rest,c,c',st,st',h,U,b=>by cases h
 |o::l,rest,c,c',st,st',h,U,b=>by
  simp only[mV]at h
  split at h
  ·rename_i cG i e
   have J:=P3 h U;simp only[and_eq_true]at J;rintro R W aE a w ⟨aq,env,B,ak,H,g,ah⟩;exact sn (vD d e J.2 ah λaX w' env' H' _ f=>P5 d h U b _ _ _ _ _ ⟨aq,env',B,ak,H',g,f⟩)
  ·cases h;exact b
theorem mg(a:X.a6.ok X.P){c':Bool}(h:mV X n (eU ops) l true st=.done c' st')(U:c'=true)(b:Q .normal st'):kC X M n r ops l st Q:=P4 a h U b
theorem Jm(a:X.a6.ok X.P){c':Bool}{rest:List Oper}(h:mV X n (eU ops) l true st=.stop c' st' rest)(U:c'=true)(b:kC X M n r ops rest st' Q):kC X M n r ops l st Q:=P5 a h U b
theorem tR{id:Nat}(h:kC X M n r l l st Q):gQ X M n r (.region id l.toArray false) st Q:=λR W aE a w ah=>DD (h R W aE a w ah)
def P6(X:bu)(M:Bool)(n:Nat)(r:Option Nat)(c:Code)(Q:Exit->aO->Prop):Exit->aO->Prop
 |.normal,st=>gQ X M n r c st Q
 |e,st=>Q e st
theorem D4(h:gQ X M n r c st Q)(b:∀e st,Q e st->tQ e st):gQ X M n r c st tQ:=λR W aE a w ah=>wpIn_mono (h R W aE a w ah) λe a w ⟨st,I,J⟩=>⟨st,b e st I,J⟩
theorem qm(h:gQ X M n r fu st (P6 X M n r cG Q)):gQ X M n r (.seq fu cG) st Q:=λR W aE a w ah=>by
 refine wpIn_seq (wpIn_mono (h R W aE a w ah) ?_);rintro e a w ⟨st',I,J⟩;cases e with
 |normal=>exact I R W aE a w J
 |_=>exact⟨st',I,J⟩
theorem rl{id:Nat}(h:kC X M n r l l st (P6 X M n r cG Q)):gQ X M n r (.seq (.region id l.toArray false) cG) st Q:=qm (tR h)
theorem D5(h:Q .normal st):gQ X M n r .skip st Q:=λR W aE a w ah=>O5 ⟨st,h,ah⟩
theorem P7{id:Nat}(h:Q (.exit id) st):gQ X M n r (.exit id) st Q:=λR W aE a w ah=>II ⟨st,h,ah⟩
theorem Aw(h:Q .ret st):gQ X M n r .ret st Q:=λR W aE a w ah=>YG ⟨st,h,ah⟩
theorem Jn{x:Operand}{g b:Bool}(ai:bz X st.L x=some (g,.c (.val (.bool b))))(e:g=true)(I:b=true->gQ X M n r fu st Q)(f:b=false->gQ X M n r cG st Q):gQ X M n r (.cond x fu cG) st Q:=λR W aE a w ah=>by
 obtain⟨aq,env,B,ak,H,d,c⟩:=ah;obtain⟨v,J,ag⟩:=c.aI ai e;rw[show v=_ from ag]at J;exact O7 c.sym J (λad=>I ad R W aE a w ⟨aq,env,B,ak,H,d,c⟩) (λad=>f ad R W aE a w ⟨aq,env,B,ak,H,d,c⟩)
def P8(id:Nat)(Q:Exit->aO->Prop):Exit->aO->Prop
 |.exit a,st=>match beq a id with
  |true=>Q .normal st
  |false=>Q (.exit a) st
 |e,st=>Q e st
theorem P9{id:Nat}(h:gQ X M n r c st (P8 id Q)):gQ X M n r (.block id c) st Q:=λR W aE a w ah=>by
 refine O6 (wpIn_mono (h R W aE a w ah) ?_);rintro e a w ⟨st',I,J⟩;cases e with
 |exit b=>
  simp only[P8]at I
  split at I
  ·rename_i ad
   have:=eq_of_beq_eq_true ad
   subst this;exact YH ⟨st',I,J⟩
  ·rename_i ad
   exact YI ad ⟨st',I,J⟩
 |_=>exact⟨st',I,J⟩
def ds(X:bu)(n:Nat)(st st':aO):Prop:=∀R W aE M a w,mQ X R W aE M n st a w->mQ X R W aE M n st' a w
theorem ds.refl(st:aO):ds X n st st:=λ_ _ _ _ _ _ h=>h
theorem ds.trans{a b c:aO}(h:ds X n a b)(k:ds X n b c):ds X n a c:=λ_ _ _ _ _ _ ah=>k _ _ _ _ _ _ (h _ _ _ _ _ _ ah)
theorem ds.sub(cY:tO st.L st'.L)(b:lp st.H st'.H):ds X n st st':=λ_ _ _ _ _ _ ⟨aq,env,B,ak,H,a,ah⟩=>by
 obtain⟨H',h⟩:=ah.e2 cY b;exact⟨aq,env,B,ak,H',a,h⟩
def D6(L:cU):b6->Option cU
 |[]=>some []
 |k::aq=>match bm L k,D6 L aq with
  |some v,some r=>some ((k,v)::r)
  |_,_=>none
def tS(h:bC):b6->Option bC
 |[]=>some []
 |k::aq=>match bm h k,tS h aq with
  |some b,some r=>match bm r k with
   |none=>some ((k,b)::r)
   |some _=>none
  |_,_=>none
theorem Qa{L:cU}:∀ {aq:b6} {eu:cU},D6 L aq=some eu->tO L eu
 |[],_,h=>by cases h;exact .nil
 |k::aq,eu,h=>by
  unfold D6 at h
  split at h
  ·rename_i v r I J
   cases h;exact .cons I (Qa J)
  ·cases h
theorem x6{c:bC}:∀ {aq:b6} {a:bC},tS c aq=some a->lp c a
 |[],_,h=>by cases h;exact .nil
 |k::aq,a,h=>by
  unfold tS at h
  split at h
  ·rename_i b r I J
   split at h
   ·rename_i ag
    cases h;exact .cons I ag (x6 J)
   ·cases h
  ·cases h
theorem ds.pick(aq a:b6){eu:cU}{H':bC}(I:D6 st.L aq=some eu)(J:tS st.H a=some H'):ds X n st ⟨eu,H'⟩:=ds.sub (Qa I) (x6 J)
theorem ds.cT{id:Nat}(h:cT id st=some st'):ds X n st st':=λ_ _ _ _ _ _ ⟨aq,env,B,ak,H,a,ah⟩=>by
 obtain⟨env',B',b,H',h,_⟩:=ah.cT h;exact⟨aq,env',B',b,H',a,h⟩
theorem ds.nil(s id:Nat)(t:TypeId)(g:a7)(hid:blt id n=true)(a:bm st.L s=some (.c (.val (.slice none 0 0)))):ds X n st ⟨(s,.c (.ax id))::gu id .dead st.L,(id,.row t g [] none)::ew id .dead st.H⟩:=λ_ _ _ _ _ _ ⟨aq,env,B,ak,H,b,ah⟩=>by
 obtain⟨env',H',h⟩:=ah.tx (id:=id) (λq al=>by have I:=(ah.dr _ _ al).1;have J:=ef hid;omega) a;exact⟨aq,env',B,ak,H',b,h⟩
theorem Jo(b:ds X n st st')(h:gQ X M n r c st' Q):gQ X M n r c st Q:=λR W aE a w ah=>h R W aE a w (b _ _ _ _ _ _ ah)
def Qb(X:bu)(n:Nat){α:Type}(bb:α->aO)(bU:α->Prop)(m:α->Nat)(x:α)(Q:Exit->aO->Prop):Exit->aO->Prop
 |.normal,st=>∃y,bU y/\m y<m x/\ds X n st (bb y)
 |e,st=>Q e st
theorem Z7{α:Type}(bb:α->aO)(bU:α->Prop)(m:α->Nat)(b:α)(f:bU b)(i:ds X n st (bb b))(h:∀x,bU x->gQ X M n r c (bb x) (Qb X n bb bU m x Q)):gQ X M n r (.loop c) st Q:=λR W aE a w ah=>by
 refine O8 (λx a w=>bU x/\mQ X R W aE M n (bb x) a w) m b ⟨f,i _ _ _ _ _ _ ah⟩ λx a w ⟨j,ah⟩=>wpIn_mono (h x j R W aE a w ah) ?_
 rintro e a w ⟨st',I,J⟩;cases e with
 |normal=>
  obtain⟨y,ag,g,d⟩:=I;exact⟨y,⟨ag,d _ _ _ _ _ _ J⟩,g⟩
 |_=>exact⟨st',I,J⟩
theorem Z8{α:Type}(a:α->cU){b:cU}(e:α->bC){d:bC}(bU:α->Prop)(m:α->Nat)(f:α)(g:bU f)(h:∀x,bU x->gQ X M n r c ⟨a x++b,e x++d⟩ (Qb X n (λx=>⟨a x++b,e x++d⟩) bU m x Q)):gQ X M n r (.loop c) ⟨a f++b,e f++d⟩ Q:=
 Z7 (λx=>⟨a x++b,e x++d⟩) bU m f g (ds.refl _) h
end
end
section
def vF(X:bu)(B:Nat->Prop)(w:World):Prop:=∀i x,X.DK i=some x->tE B w i x
def pI(X:bu)(env:Nat->Loc)(B:Nat->Prop)(H:c2)(W:World)(Q:cd->bC->Prop)(v:Value)(w':World):Prop:=
 ∃env' B' a H' sv c,Q sv c/\(∀k,B k->B' k)/\(∀k,B' k->B k\/(¬gB W H k/\sw a k))/\c9 (gB W H) W a/\eK env' B' a sv v/\bJ env' B' a c H'/\bZ (λk=>gB W H k\/B' k) a H' w'/\∀id l,(iT<=id/\∃b,l=.blk b)\/hZ<=id->env id=l->env' id=l
def AC(X:bu)(f:FuncId)(args:dO)(h:bC)(Q:cd->bC->Prop):Prop:=
 ∀(B:Nat->Prop) (ak:World) (env:Nat->Loc) (vs:cl) (H:c2) (W:World),vF X B ak->dw env B ak args vs->bJ env B ak h H->bZ B ak H W->qc X.P f vs.toArray W (pI X env B H W Q)
def Jp(X:bu)(st:aO):ResultVar->Option (Bool×bq)
 |.tmp s=>bz X st.L (.tmp s)
 |.cell s t=>match bz X st.L (.tmp s)with
  |some (g,.c (.ptr id 0))=>match DN X st t (.c (.ptr id 0))with
   |some (c,x)=>some (g&&c,x)
   |none=>none
  |_=>none
def Ea(X:bu)(st:aO):List ResultVar->Option (Bool×dO)
 |[]=>some (true,[])
 |r::l=>match Jp X st r,Ea X st l with
  |some (c,x),some (c',xs)=>some (c&&c',x::xs)
  |_,_=>none
def oe(X:bu)(st:aO)(l:List ResultVar):Option (Bool×cd):=
 match Ea X st l with
 |some (c,[x])=>some (c,.a x)
 |some (c,xs)=>some (c,.da xs)
 |none=>none
def Z9(X:bu)(n:Nat)(res:List ResultVar)(Q:cd->bC->Prop):Exit->aO->Prop
 |.ret,st=>∃st',ds X n st st'/\∃c sv,oe X st' res=some (c,sv)/\c=true/\Q sv st'.H
 |.normal,st=>∃st',ds X n st st'/\∃c sv,oe X st' res=some (c,sv)/\c=true/\Q sv st'.H
 |_,_=>False
def mh:Nat->dO->cU
 |_,[]=>[]
 |k,x::r=>(k,.a x)::mh (k+1) r
section
variable {X:bu} {R:Nat->Prop} {W:World} {aE:fj} {n:Nat} {aq:b6} {env:Nat->Loc} {B:Nat->Prop} {ak:World} {H:c2} {st st':aO} {a aX:Act} {w w':World}
theorem dw.length:∀ {xs:dO} {vs:cl},dw env B w xs vs->vs.length=xs.length
 |[],_,h=>by rw[show _=[] from h];rfl
 |_::_,_,⟨v,r,e,_,J⟩=>by rw[e,length_cons,length_cons,dw.length J]
theorem Ax:∀ {xs:dO} {vs:cl} {k s:Nat} {sv:cd},dw env B w xs vs->bm (mh k xs) s=some sv->k<=s/\∃v,vs[s-k]?=some v/\eK env B w sv v
 |[],_,_,_,_,_,h=>by cases h
 |x::xs,vs,k,s,sv,⟨v,r,e,I,J⟩,h=>by
  unfold mh at h;rw[cI]at h;subst e
  split at h
  ·rename_i e
   subst e;cases h;exact⟨le_refl _,v,by simp,I⟩
  ·obtain⟨ag,u,b,a⟩:=Ax J h
   exact⟨by omega,u,by rw[show s-k=(s-(k+1))+1 by omega,getElem?_cons_succ];exact b,a⟩
def Eb(tmps:Array Value):ResultVar->Sem Value
 |.tmp t=>pure (tmps.getD t undef)
 |.cell s t=>do loadVar t (<- asAddr (tmps.getD s undef))
theorem Qc(fn:Func)(tmps:Array Value):results fn tmps=(do let vs <- fn.results.mapM (Eb tmps);pure (if h:vs.size=1 then vs[0] else .tuple vs)):=by
 congr 1
theorem aaa(av:X.a6.ok X.P)(h:bK X R W aE n aq env B ak H st a w){r:ResultVar}{c:Bool}{x:bq}(aw:Jp X st r=some (c,x))(U:c=true) :
  ∃v,dU env B ak x v/\∀w,bZ (λk=>R k\/B k) ak (H++aq.map dE) w->(Eb a.tmps r).run X.P w=.ok v w:=by
 cases r with
 |tmp s=>
  obtain⟨v,I,J⟩:=h.aI (x:=.tmp s) aw U;refine⟨v,J,λw _=>?_⟩
  have:=h.cf.aI I
  show(pure (a.eval (.tmp s)):Sem Value).run X.P w=_;rw[this]
  rfl
 |cell s t=>
  simp only[Jp]at aw
  split at aw
  ·rename_i g id aj
   split at aw
   ·rename_i c' y ae
    cases aw;simp only[and_eq_true]at U;obtain⟨v,I,b,he,rfl⟩:=h.aI aj U.1;have J:=h.cf.aI I
    obtain ⟨u, ag, au⟩ := Px (o := { dst := none, op := .load t (.tmp s), type := 0, pos := "", after := #[], guard := none }) av rfl aj U.1 (by rw [U.2] at ae; exact ae) h
    refine⟨u,ag,λw hw=>?_⟩;have aD:=au w (λ_=>hw);have a1:a.tmps.getD s undef=.pointer (some ⟨b,0,none⟩):=J;simp only[execOp,J,Instr.loadAt,Instr.sureAddr]at aD;simp only[Eb,a1,asAddr];simp only[Sem.run_bind,Sem.run_pure,Result.andThen_ok]at aD ⊢;cases ar:(loadVar t ⟨b,0,none⟩).run X.P w with
    |ok q ga=>
     rw[ar]at aD;cases aD
     rfl
    |halt q ga=>rw[ar]at aD;simp[Result.andThen]at aD
   ·cases aw
  ·cases aw
theorem Jq(d:X.a6.ok X.P)(h:bK X R W aE n aq env B ak H st a w):∀ {l:List ResultVar} {c:Bool} {xs:dO},Ea X st l=some (c,xs)->c=true ->
  ∃vs,dw env B ak xs vs/\∀w,bZ (λk=>R k\/B k) ak (H++aq.map dE) w->(l.mapM (Eb a.tmps)).run X.P w=.ok vs w
 |[],c,xs,b,_=>by cases b;exact⟨[],rfl,λw _=>by simp⟩
 |r::l,c,xs,b,U=>by
  simp only[Ea]at b
  split at b
  ·rename_i fu x cG ys I J
   cases b;simp only[and_eq_true]at U;obtain⟨v,ag,i⟩:=aaa d h I U.1;obtain⟨vs,g,f⟩:=Jq d h J U.2;refine⟨v::vs,⟨v,vs,rfl,ag,g⟩,λw e=>?_⟩;rw[List.mapM_cons];simp only[Sem.run_bind,i w e,Result.andThen_ok,f w e,Sem.run_pure]
  ·cases b
theorem Ay(g:X.a6.ok X.P)(h:bK X R W aE n aq env B ak H st a w){fn:Func}{l:List ResultVar}{c:Bool}{sv:cd}(az:fn.results=l.toArray)(b:oe X st l=some (c,sv))(U:c=true) :
  ∃v,eK env B ak sv v/\∀w,bZ (λk=>R k\/B k) ak (H++aq.map dE) w->(results fn a.tmps).run X.P w=.ok v w:=by
 unfold oe at b
 split at b
 ·rename_i c' x I
  cases b;obtain⟨vs,J,ag⟩:=Jq g h I U;obtain⟨v,r,rfl,j,i⟩:=J
  have:r=[]:=i
  subst this;refine⟨v,j,λw f=>?_⟩;rw[Qc,az]
  have:=ag w f
  simp[this]
 ·rename_i c' xs d I
  cases b;obtain⟨vs,J,ag⟩:=Jq g h I U;refine⟨.tuple vs.toArray,⟨vs,rfl,J⟩,λw f=>?_⟩;rw[Qc,az];have ae:=J.length
  have:¬vs.length=1:=λe=>by
   rw[e]at ae
   match xs,ae,d with
   |[x],_,d=>exact d x rfl
  simp[ag w f,this]
 ·cases b
theorem Qd(u:X.a6.ok X.P){f:FuncId}{fn:Func}{c:Code}{args:dO}{h:bC}{Q:cd->bC->Prop}{res:List ResultVar}(az:X.P.funcs[f]?=some fn)(ad:fn.body=some c)(aM:fn.ntmps=n)(ae:ble args.length n=true)(bc:ble n iT=true)(y:fn.results=res.toArray)(A:gQ X false n none c ⟨mh 0 args,h⟩ (Z9 X n res Q)):AC X f args h Q:=by
 intro B ak env vs H W r bh z j;have G:=bh.length;have hle:vs.length<=n:=by rw[G];exact le_of_ble_eq_true ae
 refine(callsIn_wide (n:=0)).1 (callsIn_of_wp az ad trivial ?_);have o:gm B ak B W:=⟨λ_ h=>h,λk aa=>j.below.block k aa⟩
 have F:∀k,B k->gB W H k:=λk aa=>⟨j.base k aa,λc U e=>((j.ok c U).lt e).1 aa⟩
 have q:=DF aM hle _ rfl;have ah:bK X (gB W H) W ⟨B,λid l=>((iT<=id/\∃b,l=.blk b)\/hZ<=id)/\env id=l,[]⟩ n [] env B W H ⟨mh 0 args,h⟩ { tmps:=vs.toArray++Array.replicate (fn.ntmps-vs.toArray.size) undef,defers:=[] } W:=by
  refine⟨q.size,rfl,λs sv K=>?_,z.up o,?_,λ_ h=>h,λ_ h=>.inl h,λid l al=>⟨le_trans (le_of_ble_eq_true bc) (al.1.elim (λh=>h.1) (λh=>le_trans (by decide) h)),al.2,al.1.imp (λh=>h.2) (λh=>h)⟩,c9.refl _ _,λi x ai=>(r i x ai).up o⟩
  ·obtain⟨_,v,I,J⟩:=Ax bh K
   refine⟨v,?_,J.up o⟩;have t:=(List.getElem?_eq_some_iff.1 I).1;rw[Array.getElem?_append_left (by simpa using t)]
   simpa using I
  ·have I:=j.rest
   simp only[map_nil,append_nil];exact⟨c9.refl _ _,λk aa=>aa.elim (λh=>h.1) (λh=>j.base k h),λc U=>(I.ok c U).base λb ad aa=>aa.elim (λh=>((I.ok c U).lt ad).1 h) (λh=>((I.ok c U).lt ad).1 (F b h)),I.apart⟩
 refine wpIn_mono (A _ _ _ _ _ ⟨[],env,B,W,H,⟨λ_=>rfl,λh=>by cases h⟩,ah⟩) ?_;rintro e a w ⟨st,I,J⟩;have key:(∃st',ds X n st st'/\∃c sv,oe X st' res=some (c,sv)/\c=true/\Q sv st'.H)->a.defers=[]/\∃v,(results fn a.tmps).run X.P w=.ok v w/\pI X env B H W Q v w:=by
  rintro⟨st',hw,c,sv,mO,U,fv⟩;obtain⟨aq,env',B',D,H',C,d⟩:=hw _ _ _ _ _ _ J;have E:=C.1 rfl;subst E;obtain⟨v,ag,m⟩:=Ay u d y mO U;refine⟨d.defs,v,m w d.aU,env',B',D,H',sv,st'.H,fv,d.sub,d.new,d.base,ag,d.heap,by have:=d.aU;simpa using this,λid l g p=>(d.dr id l ⟨g,p⟩).2.1⟩
 cases e with
 |ret=>
  obtain⟨ag,v,m,g⟩:=key I;exact⟨ag,v,m,v,rfl,g⟩
 |normal=>
  obtain⟨ag,v,m,g⟩:=key I;exact⟨ag,v,m,v,rfl,g⟩
 |exit id=>exact I.elim
 |goto l=>exact I.elim
 |panic L=>exact I.elim
 |outgrown=>exact I.elim
end
end
end
end Go.Proofs.YtcheedjfedcbpaaGreatDoor
