/- Part 1 of 6 of the proof. -/
import Derived.WalkKit
import Derived.OwnWalkIn
import Derived.TacticsInMore
import Derived.OrdersIn
import Derived.RangeFuncCalls
import Derived.Below
import Derived.Laws.AppendOwn
import Derived.Laws.OwnMore
import Derived.Laws.CopyRow
import Derived.Laws.BitsAllLaws
import Derived.OrdersHeld
import Derived.MapKept
import Derived.Laws.StructEq
import Derived.Laws.IdiomCopy
import Derived.Laws.MakeOwn
import Derived.RangeFuncNested
import Derived.RangeFuncLeaves
import Derived.RangeFuncBound
import Derived.Laws.IdiomStrings
import Derived.ProofKit
import Derived.Deep.Slices
set_option linter.unusedSimpArgs false
set_option linter.unusedVariables false
set_option maxRecDepth 100000
namespace Go.Proofs.YtldjgdggcodgeaaGreat
open Go.RowKit
section
def WF(r:Option Nat):Fence:={ Fence.wide with round:=r }
structure St(n:Nat) (D:List Deferred) (L:List (Nat×Value)) (a:Act):Prop where
 size:a.tmps.size=n
 defs:a.defers=D
 has:∀ s v,L.lookup s=some v->a.tmps[s]?=some v
def ev(L:List (Nat×Value)):Operand->Option Value
 | .tmp s=>L.lookup s
 | .const v=>some v
 | .global g=>some (.pointer (some ⟨g,0,none⟩))
 | .func f=>some (.func (.func f) #[] #[])
def evs(L:List (Nat×Value)):List Operand->Option (List Value)
 | []=>some []
 | x :: xs=>match ev L x,evs L xs with
  | some v,some l=>some (v :: l)
  | _,_=>none
section
variable {n:Nat} {D:List Deferred} {L:List (Nat×Value)} {a:Act}
theorem St.ev(h:St n D L a) {x:Operand} {v:Value} (hx:ev L x=some v):a.eval x=v:=by
 cases x with
 | tmp s=>
  have h1:=h.has s v hx;show a.tmps.getD s undef=v;rw[Array.getD_eq_getD_getElem?,h1]; rfl
 | const u=>exact Option.some.inj hx
 | global g=>exact Option.some.inj hx
 | func f=>exact Option.some.inj hx
theorem St.evs(h:St n D L a):∀ {xs:List Operand} {vs:List Value},evs L xs=some vs->xs.map a.eval=vs
 | [],vs,hx=>by cases hx; rfl
 | x :: xs,vs,hx=>by
  unfold YtldjgdggcodgeaaGreat.evs at hx;cases h1:YtldjgdggcodgeaaGreat.ev L x with
  | none=>rw[h1]at hx; cases hx
  | some v=>
   cases h2:YtldjgdggcodgeaaGreat.evs L xs with
   | none=>rw[h1,h2]at hx; cases hx
   | some l=>
    rw[h1,h2]at hx;cases hx;rw[List.map_cons,h.ev h1,h.evs h2]
theorem St.put(h:St n D L a) (d:Nat) (v:Value) (hd:d < n):St n D ((d,v) :: L) (a.put (some d) v):=by
 refine⟨?_,h.defs,fun s u hs=>?_⟩
 ·simpa [Act.put] using h.size
 ·by_cases e:s=d
  ·subst e
   simp at hs
   subst hs
   simp[Act.put,h.size,hd]
  ·have:(s == d)=false:=by simpa using e
   rw[List.lookup_cons,this]at hs;simp only[Act.put];rw[Array.getElem?_setIfInBounds_ne (fun e'=>e e'.symm)];exact h.has s u hs
end
/-! ### One operation -/
section
variable {r:Option Nat} {P:Program} {ops:Array Oper} {Q:Exit->Act->World->Prop} {o:Oper} {KK:Act->World->Prop}
variable {n:Nat} {D:List Deferred} {L:List (Nat×Value)} {a:Act} {w:World}
abbrev XL (r:Option Nat) (P:Program) (ops:Array Oper) (Q:Exit->Act->World->Prop) (l:List Oper) (a:Act) (w:World):Prop:=wpListIn (WF r) 0 P ops Q l a w
def OpOk(P:Program) (o:Oper) (a:Act) (w:World) (Kv:Value->World->Prop):Prop:=
 (∃ v w',(execOp a.eval o).run P w=.ok (.value v) w'/\Kv v w')\/(∃ w',(execOp a.eval o).run P w=.ok .skip w'/\Kv undef w') \/
 (∃ f args w1,(execOp a.eval o).run P w=.ok (.enter f args) w1/\Calls P f args w1 fun e w'=>∃ v,e=.returned v/\Kv v w')
def XO(P:Program) (ops:Array Oper) (o:Oper) (KK:Act->World->Prop) (a:Act) (w:World):Prop:=
 (Region.wanted o (yielded ops a.tmps)=true/\OpOk P o a w fun v w'=>KK (a.put o.dst v) w')\/(Region.wanted o (yielded ops a.tmps)=false/\KK (a.put o.dst undef) w)
theorem nodefer_of{x:Next} {w':World} (h:(execOp a.eval o).run P w=.ok x w') (hx:∀ d,x≠.defer d) (c:Call):o.op≠.defer c:=by
 intro hop;simp only[execOp,hop,Sem.run_bind]at h;cases hr:(resolve a.eval c o.type).run P w with
 | ok d w1=>
  rw[hr]at h
  simp at h
  exact hx d h.1.symm
 | halt y w1=>rw[hr]at h; simp[Result.andThen]at h
theorem semAt_of(h:∀ c,o.op≠.defer c):o.semAt r a.eval=execOp a.eval o:=by
 cases r with
 | none=>rfl
 | some l=>exact Oper.semAt_some l _ _ h
theorem XO.fenced(h:XO P ops o KK a w) :
  if Region.wanted o (yielded ops a.tmps)=true then Oper.wpIn (WF r) 0 P o a w KK Q else(∀ f,o.about P w a.eval=some f->(WF r).fn f)/\KK (a.put o.dst undef) w:=by
 rcases h with⟨hw,h⟩ | ⟨hw,h⟩
 ·rw[if_pos hw]
  refine⟨fun _ _=>trivial,?_⟩;show Oper.uponIn _ _ _ _ _ _ _ ((o.semAt r a.eval).run P w)
  rcases h with⟨v,w',hr,hk⟩ | ⟨w',hr,hk⟩ | ⟨f,args,w1,hr,hc⟩
  ·rw[semAt_of (nodefer_of hr (fun _ h=>by cases h)),hr]; exact hk
  ·rw[semAt_of (nodefer_of hr (fun _ h=>by cases h)),hr]; exact hk
  ·rw[semAt_of (nodefer_of hr (fun _ h=>by cases h)),hr]
   refine⟨(fun h=>by cases h),?_⟩;have hC':=(callsIn_wide (n:=0)).2 hc;refine CallsIn.mono (F:=WF r) hC' ?_;rintro e w' ⟨v,rfl,hv⟩;exact hv
 ·rw[if_neg (by rw[hw]; simp)]
  exact⟨fun _ _=>trivial,h⟩
theorem xl_cons{rest:List Oper} (h:XO P ops o (XL r P ops Q rest) a w):XL r P ops Q (o :: rest) a w:=XO.fenced h
theorem zJ{v:Value} {w':World} {d:Nat} (hS:St n D L a) (hgd:o.guard=none) (hdst:o.dst=some d) (hd:d < n)
  (hrun:(execOp a.eval o).run P w=.ok (.value v) w') (h:∀ a',St n D ((d,v) :: L) a'->KK a' w'):XO P ops o KK a w:=
 .inl ⟨by simp[Region.wanted,hgd],.inl ⟨v,w',hrun,h _ (by rw[hdst]; exact hS.put d v hd)⟩⟩
theorem x_skip{w':World} (hS:St n D L a) (hgd:o.guard=none) (hdst:o.dst=none)
  (hrun:(execOp a.eval o).run P w=.ok .skip w') (h:∀ a',St n D L a'->KK a' w'):XO P ops o KK a w:=
 .inl ⟨by simp[Region.wanted,hgd],.inr (.inl ⟨w',hrun,h _ (by rw[hdst]; exact hS)⟩)⟩
theorem x_end(h:Q .normal a w):XL r P ops Q [] a w:=h
end
end

section
structure TI where
  desc:TypeDesc
  size:Nat
  bytes:Nat
  zero:Value
def TI.ok(P:Program) (t:TypeId) (i:TI):Prop:=
  P.underlying t=some i.desc/\(P.info? t).map (fun x=>(x.size,x.bytes,x.zero))=some (i.size,i.bytes,some i.zero)
def TabOk(P:Program) (T:List (TypeId×TI)):Prop:=∀ t i,T.lookup t=some i->TI.ok P t i
theorem TabOk.nil(P:Program):TabOk P []:=fun _ _ h=>by cases h
theorem TabOk.cons{P:Program} {T:List (TypeId×TI)} {t:TypeId} {i:TI} (h:TI.ok P t i) (hT:TabOk P T):TabOk P ((t,i) :: T):=fun s j hs=>by
  rw[List.lookup_cons]at hs
  by_cases e:(s == t)=true
  · rw[e]at hs
    have e1:s=t:=by simpa using e
    have e2:i=j:=Option.some.inj hs;subst e1; subst e2; exact h
  · have e':(s == t)=false:=by simpa using e
    rw[e']at hs;exact hT s j hs
theorem TI.info{P:Program} {t:TypeId} {i:TI} (h:TI.ok P t i):∃ x,P.info? t=some x/\x.size=i.size/\x.bytes=i.bytes/\x.zero=some i.zero:=by
  have h2:=h.2;cases hx:P.info? t with
  | none=>rw[hx]at h2; cases h2
  | some x=>
    rw[hx]at h2;simp only[Option.map_some,Option.some.injEq,Prod.mk.injEq]at h2;exact⟨x,rfl,h2.1,h2.2.1,h2.2.2⟩
def qt:TypeDesc->Bool
  | .struct _ | .array _ _=>true
  | _=>false
section
variable {P:Program} {t:TypeId} {i:TI} (h:TI.ok P t i) (w:World)
include h
theorem TI.run_isAgg:(isAgg t).run P w=.ok (qt i.desc) w:=by
  have hd:=h.1;unfold isAgg;simp only[Sem.run_bind,run_underlying hd,Result.andThen_ok];cases i.desc<;>simp[qt]
theorem TI.run_sizeOf:(sizeOf t).run P w=.ok i.size w:=by
  obtain⟨x,hx,h1,_⟩:=TI.info h
  simp[sizeOf,typeInfo,hx,h1]
theorem TI.run_zero:(zeroValue t).run P w=.ok i.zero w:=by
  obtain⟨x,hx,_,_,h3⟩:=TI.info h
  simp[zeroValue,typeInfo,hx,h3]
end
structure KO(B:Nat->Prop) (w w':World):Prop where
  os:w'.os=w.os
  tape:w'.tape=w.tape
  output:w'.output=w.output
  size:w.heap.size<=w'.heap.size
  block:∀ k,B k->w'.heap[k]?=w.heap[k]?
theorem KO.refl(B:Nat->Prop) (w:World):KO B w w:=⟨rfl,rfl,rfl,Nat.le_refl _,fun _ _=>rfl⟩
theorem KO.trans{B:Nat->Prop} {a b c:World} (h:KO B a b) (k:KO B b c):KO B a c:=
  ⟨k.os.trans h.os,k.tape.trans h.tape,k.output.trans h.output,Nat.le_trans h.size k.size,fun i hi=>(k.block i hi).trans (h.block i hi)⟩
theorem KO.cell{B:Nat->Prop} {w w':World} (h:KO B w w') {p:Addr} (hp:B p.block):w'.cell? p=w.cell? p:=World.cell?_of_block (w:=w) (h.block p.block hp)
theorem KO.of_below{w w':World} {B:Nat->Prop} (h:Below w.heap.size w w') (hB:∀ k,B k->k < w.heap.size):KO B w w':=⟨h.os,h.tape,h.output,h.size,fun k hk=>h.block k (hB k hk)⟩
def Owns(w:World) (B:Nat->Prop) (e:TypeId) (size:Nat) (A:Option Addr) (c n:Nat) (xs:List Value):Prop:=
  xs.length=n * size/\((A=none/\n=0/\c=0)\/∃ g cur fr,A=some ⟨g,0,none⟩/\¬ B g/\w.heap[g]?=some (.cells cur e fr)/\(fr.1=fr.2\/cur.size<=fr.1)/\n<=c/\c<=maxLen/\cur.size=c * size/\cur.toList.take (n * size)=xs)
theorem Owns.lt{w:World} {B:Nat->Prop} {e:TypeId} {size c n:Nat} {A:Option Addr} {xs:List Value} (h:Owns w B e size A c n xs) {b:Nat} (hb:A.map (·.block)=some b):¬ B b/\b < w.heap.size:=by
  rcases h.2 with⟨rfl,_⟩ | ⟨g,cur,fr,rfl,hg,hh,_⟩
  · cases hb
  · have:g=b:=Option.some.inj hb
    subst this;exact⟨hg,(Array.getElem?_eq_some_iff.1 hh).1⟩
theorem Owns.keep{w w':World} {B:Nat->Prop} {e:TypeId} {size c n:Nat} {A:Option Addr} {xs:List Value} (h:Owns w B e size A c n xs) (hk:∀ b,A.map (·.block)=some b->w'.heap[b]?=w.heap[b]?):Owns w' B e size A c n xs:=by
  refine⟨h.1,?_⟩
  rcases h.2 with hn | ⟨g,cur,fr,rfl,hb,hgg,rest⟩
  · exact .inl hn
  · exact .inr ⟨g,cur,fr,rfl,hb,(hk g rfl).trans hgg,rest⟩
theorem Owns.base{w:World} {B B':Nat->Prop} {e:TypeId} {size c n:Nat} {A:Option Addr} {xs:List Value} (h:Owns w B e size A c n xs) (hB:∀ b,A.map (·.block)=some b->¬ B' b):Owns w B' e size A c n xs:=by
  refine⟨h.1,?_⟩
  rcases h.2 with hn | ⟨g,cur,fr,rfl,hb,rest⟩
  · exact .inl hn
  · exact .inr ⟨g,cur,fr,rfl,hB g rfl,rest⟩
structure Rw where
  A:Option Addr
  c:Nat
  e:TypeId
  size:Nat
  n:Nat
  xs:List Value
def Rw.has(r:Rw) (b:Nat):Prop:=r.A.map (·.block)=some b
def Rw.ok(B:Nat->Prop) (w:World) (r:Rw):Prop:=Owns w B r.e r.size r.A r.c r.n r.xs
def Rw.off(r s:Rw):Prop:=∀ b,r.has b->¬ s.has b
inductive Ck where
  | obj (b:Nat) (o:Obj)
  | cel (b:Nat) (cs:List Value) (e:TypeId)
  | row (A:Option Addr) (c:Nat) (e:TypeId) (size n:Nat) (xs:List Value)
  | tree (rs:List Rw)
def Ck.has:Ck->Nat->Prop
  | .obj b _,k=>some b=some k
  | .cel b _ _,k=>some b=some k
  | .row A _ _ _ _ _,k=>A.map (·.block)=some k
  | .tree rs,k=>∃ r∈rs,r.has k
def Ck.ok(B:Nat->Prop) (w:World):Ck->Prop
  | .obj b o=>¬ B b/\w.heap[b]?=some o
  | .cel b cs e=>¬ B b/\w.heap[b]?=some (.cells cs.toArray e)
  | .row A c e size n xs=>Owns w B e size A c n xs
  | .tree rs=>(∀ r∈rs,r.ok B w)/\rs.Pairwise Rw.off
def Ck.off(c d:Ck):Prop:=∀ b,c.has b->¬ d.has b
structure SH(B:Nat->Prop) (w0:World) (H:List Ck) (w:World):Prop where
  below:KO B w0 w
  base:∀ k,B k->k < w.heap.size
  ok:∀ c∈H,c.ok B w
  apart:H.Pairwise Ck.off
abbrev SF (W:World) (H:List Ck) (w:World):Prop:=SH (fun k=>k < W.heap.size) W H w
theorem Ck.ok.lt{B:Nat->Prop} {w:World} {c:Ck} (h:c.ok B w) {b:Nat} (hb:c.has b):¬ B b/\b < w.heap.size:=by
  cases c with
  | obj b' o=>
    have:b'=b:=Option.some.inj hb
    subst this;exact⟨h.1,(Array.getElem?_eq_some_iff.1 h.2).1⟩
  | cel b' cs e=>
    have:b'=b:=Option.some.inj hb
    subst this;exact⟨h.1,(Array.getElem?_eq_some_iff.1 h.2).1⟩
  | row A c e size n xs=>exact Owns.lt h hb
  | tree rs=>
    obtain⟨r,hr,hb⟩:=hb;exact Owns.lt (h.1 r hr) hb
theorem Ck.ok.keep{B:Nat->Prop} {w w':World} {c:Ck} (h:c.ok B w) (hk:∀ b,c.has b->w'.heap[b]?=w.heap[b]?):c.ok B w':=by
  cases c with
  | obj b o=>exact⟨h.1,(hk b rfl).trans h.2⟩
  | cel b cs e=>exact⟨h.1,(hk b rfl).trans h.2⟩
  | row A c e size n xs=>exact Owns.keep h hk
  | tree rs=>exact⟨fun r hr=>Owns.keep (h.1 r hr) fun b hb=>hk b ⟨r,hr,hb⟩,h.2⟩
theorem Ck.ok.base{B B':Nat->Prop} {w:World} {c:Ck} (h:c.ok B w) (hB:∀ b,c.has b->¬ B' b):c.ok B' w:=by
  cases c with
  | obj b o=>exact⟨hB b rfl,h.2⟩
  | cel b cs e=>exact⟨hB b rfl,h.2⟩
  | row A c e size n xs=>exact Owns.base h hB
  | tree rs=>exact⟨fun r hr=>Owns.base (h.1 r hr) fun b hb=>hB b ⟨r,hr,hb⟩,h.2⟩
section
variable {B:Nat->Prop} {w0 w w':World} {H:List Ck}
theorem SH.start(w:World):SF w [] w:=⟨KO.refl _ _,fun _ h=>h,(fun _ h=>by cases h),List.Pairwise.nil⟩
theorem SH.below'(h:SH B w0 H w) (hb:Below w.heap.size w w'):SH B w0 H w':=
  ⟨h.below.trans (KO.of_below hb h.base),fun k hk=>Nat.lt_of_lt_of_le (h.base k hk) hb.size,fun c hc=>(h.ok c hc).keep fun b e=>hb.block b ((h.ok c hc).lt e).2,h.apart⟩
theorem SH.drew(h:SH B w0 H w):SH B w0 H w.drew:=⟨⟨h.below.os,h.below.tape,h.below.output,h.below.size,h.below.block⟩,h.base,fun c hc=>(h.ok c hc).keep fun _ _=>rfl,h.apart⟩
theorem SH.fresh(h:SH B w0 H w):¬ B w.heap.size:=fun hb=>Nat.lt_irrefl _ (h.base _ hb)
theorem SH.alloc(h:SH B w0 H w) (o:Obj):SH B w0 (.obj w.heap.size o :: H) (w.alloc o):=by
  have hb:=h.below' ((Below.refl w.heap.size w).alloc (Nat.le_refl _) o);exact⟨hb.below,hb.base,fun c hc=>by
    rcases List.mem_cons.1 hc with rfl | hc
    · exact⟨h.fresh,heap_alloc_new w o⟩
    · exact hb.ok c hc,
   List.Pairwise.cons (fun c hc b e e'=>by have:=((h.ok c hc).lt e').2; have e:w.heap.size=b:=Option.some.inj e; omega) h.apart⟩
theorem SH.allocC(h:SH B w0 H w) (cs:List Value) (e:TypeId):SH B w0 (.cel w.heap.size cs e :: H) (w.alloc (.cells cs.toArray e)):=by
  have h1:=h.alloc (.cells cs.toArray e);exact⟨h1.below,h1.base,fun c hc=>by
    rcases List.mem_cons.1 hc with rfl | hc
    · exact h1.ok (.obj w.heap.size (.cells cs.toArray e)) (by simp)
    · exact h1.ok c (List.mem_cons_of_mem _ hc),by
    obtain⟨h2,h3⟩:=List.pairwise_cons.1 h1.apart;exact List.Pairwise.cons (fun c hc b e=>h2 c hc b e) h3⟩
theorem SH.weak(h:SH B w0 H w) {H':List Ck} (hs:H'.Sublist H):SH B w0 H' w:=
  ⟨h.below,h.base,fun c hc=>h.ok c (hs.subset hc),h.apart.sublist hs⟩
theorem SH.perm(h:SH B w0 H w) {H':List Ck} (hp:H.Perm H'):SH B w0 H' w:=
  ⟨h.below,h.base,fun c hc=>h.ok c (hp.mem_iff.2 hc),(List.Perm.pairwise_iff (fun {c d} hcd b e e'=>hcd b e' e) hp).1 h.apart⟩
end
def Rest(w:World) (H:List Ck) (k:Nat):Prop:=k < w.heap.size/\∀ c∈H,¬ c.has k
theorem SH.rest{B:Nat->Prop} {w0 w:World} {H:List Ck} (h:SH B w0 H w):SH (Rest w H) w H w:=
  ⟨KO.refl _ _,fun _ hk=>hk.1,fun c hc=>(h.ok c hc).base fun b e hr=>hr.2 c hc e,h.apart⟩
theorem SH.back{B:Nat->Prop} {w0 w w':World} {H H':List Ck} (h:SH B w0 H w) (h':SH (Rest w H) w H' w'):SH B w0 H' w':=by
  have hr:∀ k,B k->Rest w H k:=fun k hk=>⟨h.base k hk,fun c hc e=>((h.ok c hc).lt e).1 hk⟩
  exact⟨h.below.trans ⟨h'.below.os,h'.below.tape,h'.below.output,h'.below.size,fun k hk=>h'.below.block k (hr k hk)⟩,fun k hk=>h'.base k (hr k hk),
    fun c hc=>(h'.ok c hc).base fun b e hB=>((h'.ok c hc).lt e).1 (hr b hB),h'.apart⟩
def Foc(H:List Ck) (c:Ck) (K:Ck->List Ck):Prop:=∃ X Y,H=X++c :: Y/\K=fun c'=>X++c' :: Y
theorem foc0{c:Ck} {H:List Ck}:Foc (c :: H) c (fun c'=>c' :: H):=⟨[],H,rfl,rfl⟩
section
variable {B:Nat->Prop} {w0 w w':World} {H:List Ck} {c:Ck} {K:Ck->List Ck}
theorem Foc.mem(h:Foc H c K):c∈H:=by obtain⟨X,Y,rfl,_⟩:=h; simp
theorem SH.turn(h:SH B w0 H w) (hf:Foc H c K) {c':Ck} (hb:KO B w w') (hc:c'.ok B w')
    (hat:∀ b,c'.has b->c.has b\/w.heap.size<=b) (hk:∀ b,b < w.heap.size->¬ c.has b->w'.heap[b]?=w.heap[b]?):SH B w0 (K c') w':=by
  obtain⟨X,Y,rfl,rfl⟩:=hf;have hp:=h.apart;have keep:∀ d∈X++c :: Y,Ck.off c d->d.ok B w':=fun d hd ho=>(h.ok d hd).keep fun b e=>hk b ((h.ok d hd).lt e).2 (fun e'=>ho b e' e)
  rw[List.pairwise_append,List.pairwise_cons]at hp;obtain⟨hX,⟨hcY,hY⟩,hXc⟩:=hp;refine⟨h.below.trans hb,fun k hk=>Nat.lt_of_lt_of_le (h.base k hk) hb.size,fun d hd=>?_,?_⟩
  · rcases List.mem_append.1 hd with hd | hd
    · exact keep d (by simp[hd]) (fun b e e'=>hXc d hd c (by simp) b e' e)
    · rcases List.mem_cons.1 hd with rfl | hd
      · exact hc
      · exact keep d (by simp[hd]) (hcY d hd)
  · rw[List.pairwise_append,List.pairwise_cons]
    refine⟨hX,⟨fun d hd b e e'=>?_,hY⟩,fun d hd x hx b e e'=>?_⟩
    · rcases hat b e with e2 | e2
      · exact hcY d hd b e2 e'
      · have:=((h.ok d (by simp[hd])).lt e').2; omega
    · rcases List.mem_cons.1 hx with rfl | hx
      · rcases hat b e' with e2 | e2
        · exact hXc d hd c (by simp) b e e2
        · have:=((h.ok d (by simp[hd])).lt e).2; omega
      · exact hXc d hd x (by simp[hx]) b e e'
end
theorem Owns.at{w:World} {B:Nat->Prop} {e:TypeId} {size c n:Nat} {A:Option Addr} {xs:List Value} (h:Owns w B e size A c n xs) (hn:0 < n):∃ b,A=some ⟨b,0,none⟩:=by
  rcases h.2 with⟨_,h0,_⟩ | ⟨g,cur,fr,hA,_⟩
  · omega
  · exact⟨g,hA⟩
def Rw.ck(r:Rw):Ck:=.row r.A r.c r.e r.size r.n r.xs
section
variable {B:Nat->Prop} {w0 w:World} {H X Y:List Ck} {r:Rw} {I I':List Rw}
theorem SH.open0(h:SH B w0 (.tree (r :: I) :: H) w):SH B w0 (r.ck :: .tree I :: H) w:=by
  obtain⟨h1,h2⟩:=h.ok _ List.mem_cons_self;obtain⟨h3,h4⟩:=List.pairwise_cons.1 h2;obtain⟨h5,h6⟩:=List.pairwise_cons.1 h.apart;refine⟨h.below,h.base,fun c hc=>?_,List.Pairwise.cons (fun c hc b hb hb'=>?_) (List.Pairwise.cons (fun c hc b hb hb'=>?_) h6)⟩
  · rcases List.mem_cons.1 hc with rfl | hc
    · exact h1 r List.mem_cons_self
    · rcases List.mem_cons.1 hc with rfl | hc
      · exact⟨fun s hs=>h1 s (List.mem_cons_of_mem _ hs),h4⟩
      · exact h.ok c (List.mem_cons_of_mem _ hc)
  · rcases List.mem_cons.1 hc with rfl | hc
    · obtain⟨s,hs,hs'⟩:=hb'
      exact h3 s hs b hb hs'
    · exact h5 c hc b ⟨r,List.mem_cons_self,hb⟩ hb'
  · obtain⟨s,hs,hs'⟩:=hb
    exact h5 c hc b ⟨s,List.mem_cons_of_mem _ hs,hs'⟩ hb'
theorem SH.close0(h:SH B w0 (r.ck :: .tree I :: H) w):SH B w0 (.tree (r :: I) :: H) w:=by
  have h1:=h.ok _ List.mem_cons_self;obtain⟨h2,h2'⟩:=h.ok (.tree I) (by simp);obtain⟨h3,h4⟩:=List.pairwise_cons.1 h.apart;obtain⟨h5,h6⟩:=List.pairwise_cons.1 h4;refine⟨h.below,h.base,fun c hc=>?_,List.Pairwise.cons (fun c hc b hb hb'=>?_) h6⟩
  · rcases List.mem_cons.1 hc with rfl | hc
    · refine⟨fun s hs=>?_,List.Pairwise.cons (fun s hs b hb hb'=>h3 (.tree I) List.mem_cons_self b hb ⟨s,hs,hb'⟩) h2'⟩
      rcases List.mem_cons.1 hs with rfl | hs
      · exact h1
      · exact h2 s hs
    · exact h.ok c (by simp[hc])
  · obtain⟨s,hs,hs'⟩:=hb
    rcases List.mem_cons.1 hs with rfl | hs
    · exact h3 c (List.mem_cons_of_mem _ hc) b hs' hb'
    · exact h5 c hc b ⟨s,hs,hs'⟩ hb'
theorem xu{c:Ck}:(X++c :: Y).Perm (c :: (X++Y)):=List.perm_middle
theorem SH.openT(h:SH B w0 (X++.tree (r :: I) :: Y) w):SH B w0 (r.ck :: (X++.tree I :: Y)) w:=
  ((h.perm xu).open0).perm (List.Perm.cons _ xu.symm)
theorem SH.closeT(h:SH B w0 (r.ck :: (X++.tree I :: Y)) w):SH B w0 (X++.tree (r :: I) :: Y) w:=
  ((h.perm (List.Perm.cons _ xu)).close0).perm xu.symm
theorem Rw.off_symm{r s:Rw} (h:r.off s):s.off r:=fun b h1 h2=>h b h2 h1
theorem SH.subT(h:SH B w0 (X++.tree I :: Y) w) (hs:∃ J,I.Perm J/\I'.Sublist J):SH B w0 (X++.tree I' :: Y) w:=by
  obtain⟨J,hp,hs⟩:=hs;have hm:∀ s∈I',s∈I:=fun s hs'=>hp.mem_iff.2 (hs.subset hs')
  have h':=h.perm xu;obtain⟨h1,h2⟩:=h'.ok _ List.mem_cons_self;obtain⟨h5,h6⟩:=List.pairwise_cons.1 h'.apart;refine SH.perm (H:=.tree I' :: (X++Y)) ⟨h.below,h.base,fun c hc=>?_,List.Pairwise.cons (fun c hc b hb hb'=>?_) h6⟩ xu.symm
  · rcases List.mem_cons.1 hc with rfl | hc
    · exact⟨fun s hs=>h1 s (hm s hs),((List.Perm.pairwise_iff (fun h=>Rw.off_symm h) hp).1 h2).sublist hs⟩
    · exact h'.ok c (List.mem_cons_of_mem _ hc)
  · obtain⟨s,hs,hs'⟩:=hb
    exact h5 c hc b ⟨s,hm s hs,hs'⟩ hb'
end
end

section
structure Sym(n:Nat) (D:List Deferred) (L:List (Nat×Value)) (B:Nat->Prop) (w0:World) (H:List Ck) (a:Act) (w:World):Prop where
 st:St n D L a
 sh:SH B w0 H w
theorem zk{a b:Nat} (h:Nat.blt a b=true):a < b:=Nat.le_of_ble_eq_true h
section
variable {r:Option Nat} {P:Program} {ops:Array Oper} {Q:Exit->Act->World->Prop} {o:Oper} {KK:Act->World->Prop}
variable {n:Nat} {D:List Deferred} {L:List (Nat×Value)} {B:Nat->Prop} {w0:World} {H:List Ck} {a:Act} {w:World}
variable {T:List (TypeId×TI)} {d:Nat}
def PV(P:Program) (o:Oper) (a:Act) (v:Value):Prop:=∀ w,(execOp a.eval o).run P w=.ok (.value v) w
theorem Sym.ev(hX:Sym n D L B w0 H a w) {x:Operand} {v:Value} (hx:ev L x=some v):a.eval x=v:=hX.st.ev hx
theorem y_value{v:Value} {w':World} {H':List Ck} (hX:Sym n D L B w0 H a w) (ho:o.guard=none/\o.dst=some d) (hd:Nat.blt d n=true)
  (hrun:(execOp a.eval o).run P w=.ok (.value v) w') (hH:SH B w0 H' w') (h:∀ a' w',Sym n D ((d,v) :: L) B w0 H' a' w'->KK a' w'):XO P ops o KK a w:=
 zJ hX.st ho.1 ho.2 (zk hd) hrun fun a' hS=>h a' w' ⟨hS,hH⟩
theorem y_skip{w':World} {H':List Ck} (hX:Sym n D L B w0 H a w) (ho:o.guard=none/\o.dst=none)
  (hrun:(execOp a.eval o).run P w=.ok .skip w') (hH:SH B w0 H' w') (h:∀ a' w',Sym n D L B w0 H' a' w'->KK a' w'):XO P ops o KK a w:=
 x_skip hX.st ho.1 ho.2 hrun fun a' hS=>h a' w' ⟨hS,hH⟩
theorem p_move{x:Operand} {v:Value} (hS:St n D L a) (hop:o.op=.move x)
  (hx:ev L x=some v):PV P o a (v):=fun w=>by simp only[execOp,hop,Sem.run_pure,hS.ev hx]
theorem p_assign{x:Operand} {v:Value} (hS:St n D L a) (hop:o.op=.assign x)
  (hx:ev L x=some v):PV P o a (v):=fun w=>by simp only[execOp,hop,Sem.run_pure,hS.ev hx]
theorem p_pick1{c x y:Operand} {g:Bool} {v:Value} (hS:St n D L a) (hop:o.op=.pick c x y)
  (hc:ev L c=some (.bool g)) (hg:g=true) (hx:ev L x=some v):PV P o a (v):=fun w=>by subst hg; simp[execOp,hop,hS.ev hc,hS.ev hx,asBool]
theorem p_pick0{c x y:Operand} {g:Bool} {v:Value} (hS:St n D L a) (hop:o.op=.pick c x y)
  (hc:ev L c=some (.bool g)) (hg:g=false) (hx:ev L y=some v):PV P o a (v):=fun w=>by subst hg; simp[execOp,hop,hS.ev hc,hS.ev hx,asBool]
theorem p_not{x:Operand} {t:TypeId} {g:Bool} (hS:St n D L a) (hop:o.op=.unOp .not t x)
  (hx:ev L x=some (.bool g)):PV P o a (.bool (!g)):=fun w=>by simp[execOp,hop,hS.ev hx,Op.unary]
theorem p_extract{x:Operand} {k:Nat} {vs:List Value} {v:Value} (hS:St n D L a) (hop:o.op=.extract x k)
  (hx:ev L x=some (.tuple vs.toArray)) (hv:vs[k]?=some v):PV P o a (v):=fun w=>by simp[execOp,hop,hS.ev hx,Instr.extract,hv]
theorem p_makeFunc{fn:Fn} {xs:List Operand} {vs:List Value} (hS:St n D L a) (hop:o.op=.makeFunc fn #[] xs.toArray) (hv:evs L xs=some vs):PV P o a (.func fn #[] vs.toArray):=fun w=>by
 simp[execOp,hop,Instr.makeFunc,hS.evs hv]
theorem p_add{k:IntKind} {u v:Operand} {t t':TypeId} {x y z:Int} (hS:St n D L a) (hop:o.op=.binOp .add t u v t')
  (hu:ev L u=some (.int k x)) (hv:ev L v=some (.int k y)) (hz:k.wrap (x+y)=z):PV P o a (.int k z):=fun w=>by simp[execOp,hop,hS.ev hu,hS.ev hv,eqGuard,binOp,Op.intArith,hz]
theorem p_sub{k:IntKind} {u v:Operand} {t t':TypeId} {x y z:Int} (hS:St n D L a) (hop:o.op=.binOp .sub t u v t')
  (hu:ev L u=some (.int k x)) (hv:ev L v=some (.int k y)) (hz:k.wrap (x - y)=z):PV P o a (.int k z):=fun w=>by simp[execOp,hop,hS.ev hu,hS.ev hv,eqGuard,binOp,Op.intArith,hz]
theorem p_mul{k:IntKind} {u v:Operand} {t t':TypeId} {x y z:Int} (hS:St n D L a) (hop:o.op=.binOp .mul t u v t')
  (hu:ev L u=some (.int k x)) (hv:ev L v=some (.int k y)) (hz:k.wrap (x * y)=z):PV P o a (.int k z):=fun w=>by simp[execOp,hop,hS.ev hu,hS.ev hv,eqGuard,binOp,Op.intArith,hz]
theorem p_quo{k:IntKind} {u v:Operand} {t t':TypeId} {x y z:Int} (hS:St n D L a) (hop:o.op=.binOp .quo t u v t')
  (hu:ev L u=some (.int k x)) (hv:ev L v=some (.int k y)) (h0:y≠0) (hz:k.wrap (x.tdiv y)=z):PV P o a (.int k z):=fun w=>by simp[execOp,hop,hS.ev hu,hS.ev hv,eqGuard,binOp,Op.intDiv,h0,hz]
theorem p_rem{k:IntKind} {u v:Operand} {t t':TypeId} {x y z:Int} (hS:St n D L a) (hop:o.op=.binOp .rem t u v t')
  (hu:ev L u=some (.int k x)) (hv:ev L v=some (.int k y)) (h0:y≠0) (hz:x.tmod y=z):PV P o a (.int k z):=fun w=>by simp[execOp,hop,hS.ev hu,hS.ev hv,eqGuard,binOp,Op.intDiv,h0,hz]
theorem p_lss{k:IntKind} {u v:Operand} {t t':TypeId} {x y:Int} (hS:St n D L a) (hop:o.op=.binOp .lss t u v t')
  (hu:ev L u=some (.int k x)) (hv:ev L v=some (.int k y)):PV P o a (.bool (decide (x < y))):=fun w=>by simp[execOp,hop,hS.ev hu,hS.ev hv,eqGuard,binOp,Op.intCmp]
theorem p_leq{k:IntKind} {u v:Operand} {t t':TypeId} {x y:Int} (hS:St n D L a) (hop:o.op=.binOp .leq t u v t')
  (hu:ev L u=some (.int k x)) (hv:ev L v=some (.int k y)):PV P o a (.bool (decide (x<=y))):=fun w=>by simp[execOp,hop,hS.ev hu,hS.ev hv,eqGuard,binOp,Op.intCmp]
theorem p_gtr{k:IntKind} {u v:Operand} {t t':TypeId} {x y:Int} (hS:St n D L a) (hop:o.op=.binOp .gtr t u v t')
  (hu:ev L u=some (.int k x)) (hv:ev L v=some (.int k y)):PV P o a (.bool (decide (x > y))):=fun w=>by simp[execOp,hop,hS.ev hu,hS.ev hv,eqGuard,binOp,Op.intCmp]
theorem p_geq{k:IntKind} {u v:Operand} {t t':TypeId} {x y:Int} (hS:St n D L a) (hop:o.op=.binOp .geq t u v t')
  (hu:ev L u=some (.int k x)) (hv:ev L v=some (.int k y)):PV P o a (.bool (decide (x ≥ y))):=fun w=>by simp[execOp,hop,hS.ev hu,hS.ev hv,eqGuard,binOp,Op.intCmp]
theorem p_eql{k:IntKind} {u v:Operand} {t t':TypeId} {x y:Int} (hS:St n D L a) (hop:o.op=.binOp .eql t u v t')
  (hu:ev L u=some (.int k x)) (hv:ev L v=some (.int k y)):PV P o a (.bool (x == y)):=fun w=>by simp[execOp,hop,hS.ev hu,hS.ev hv,eqGuard,binOp,Op.intCmp]
theorem p_neq{k:IntKind} {u v:Operand} {t t':TypeId} {x y:Int} (hS:St n D L a) (hop:o.op=.binOp .neq t u v t')
  (hu:ev L u=some (.int k x)) (hv:ev L v=some (.int k y)):PV P o a (.bool (x != y)):=fun w=>by simp[execOp,hop,hS.ev hu,hS.ev hv,eqGuard,binOp,Op.intCmp]
theorem p_and{k:IntKind} {u v:Operand} {t t':TypeId} {x y z:Int} (hS:St n D L a) (hop:o.op=.binOp .and t u v t')
  (hu:ev L u=some (.int k x)) (hv:ev L v=some (.int k y)) (hz:bits .and k x y=z):PV P o a (.int k z):=fun w=>by simp only[<- hz]; simp[execOp,hop,hS.ev hu,hS.ev hv,eqGuard,binOp,Op.intBits,bits]
theorem p_or{k:IntKind} {u v:Operand} {t t':TypeId} {x y z:Int} (hS:St n D L a) (hop:o.op=.binOp .or t u v t')
  (hu:ev L u=some (.int k x)) (hv:ev L v=some (.int k y)) (hz:bits .or k x y=z):PV P o a (.int k z):=fun w=>by simp only[<- hz]; simp[execOp,hop,hS.ev hu,hS.ev hv,eqGuard,binOp,Op.intBits,bits]
theorem p_xor{k:IntKind} {u v:Operand} {t t':TypeId} {x y z:Int} (hS:St n D L a) (hop:o.op=.binOp .xor t u v t')
  (hu:ev L u=some (.int k x)) (hv:ev L v=some (.int k y)) (hz:bits .xor k x y=z):PV P o a (.int k z):=fun w=>by simp only[<- hz]; simp[execOp,hop,hS.ev hu,hS.ev hv,eqGuard,binOp,Op.intBits,bits]
theorem p_shl{k k':IntKind} {u v:Operand} {t t':TypeId} {x z:Int} {y:Nat} (hS:St n D L a) (hop:o.op=.binOp .shl t u v t')
  (hu:ev L u=some (.int k x)) (hv:ev L v=some (.int k' (y:Int))) (hz:k.wrap (x * 2 ^ (min y k.bits))=z):PV P o a (.int k z):=fun w=>by simp only[<- hz]; simp[execOp,hop,hS.ev hu,hS.ev hv,eqGuard,binOp,Op.shift]; omega
theorem p_shr{k k':IntKind} {u v:Operand} {t t':TypeId} {x z:Int} {y:Nat} (hS:St n D L a) (hop:o.op=.binOp .shr t u v t')
  (hu:ev L u=some (.int k x)) (hv:ev L v=some (.int k' (y:Int))) (hz:x.fdiv (2 ^ (min y k.bits))=z):PV P o a (.int k z):=fun w=>by simp only[<- hz]; simp[execOp,hop,hS.ev hu,hS.ev hv,eqGuard,binOp,Op.shift]; omega
theorem p_conv{k k':IntKind} {u:Operand} {t t':TypeId} {i i':TI} {x z:Int} (hS:St n D L a) (hop:o.op=.convert t t' u)
  (hT:TabOk P T) (h1:T.lookup t=some i) (h2:T.lookup t'=some i') (h3:i'.desc=.int k') (hu:ev L u=some (.int k x)) (hz:k'.wrap x=z):PV P o a (.int k' z):=fun w=>by have e1:=(hT _ _ h1).1; have e2:=(hT _ _ h2).1; rw[h3]at e2; simp[execOp,hop,hS.ev hu,convert,run_underlying e1,run_underlying e2,Conv.intToInt,hz]
theorem p_len{u:Operand} {t:TypeId} {i:TI} {e:TypeId} {A:Option Addr} {m c:Nat} (hS:St n D L a) (hop:o.op=.call { callee:=.builtin .len,args:=#[u],argTypes:=#[t] })
  (hT:TabOk P T) (h1:T.lookup t=some i) (h2:i.desc=.slice e) (hu:ev L u=some (.slice A m c)):PV P o a (.int .i64 (m:Int)):=fun w=>by have e1:=(hT _ _ h1).1; rw[h2]at e1; simp[execOp,hop,resolve,invoke,builtin,Builtin.len_,hS.ev hu,run_underlying e1,goInt]
theorem p_cap{u:Operand} {t:TypeId} {i:TI} {e:TypeId} {A:Option Addr} {m c:Nat} (hS:St n D L a) (hop:o.op=.call { callee:=.builtin .cap,args:=#[u],argTypes:=#[t] })
  (hT:TabOk P T) (h1:T.lookup t=some i) (h2:i.desc=.slice e) (hu:ev L u=some (.slice A m c)):PV P o a (.int .i64 (c:Int)):=fun w=>by have e1:=(hT _ _ h1).1; rw[h2]at e1; simp[execOp,hop,resolve,invoke,builtin,Builtin.cap_,hS.ev hu,run_underlying e1,goInt]
theorem p_field{u:Operand} {t:TypeId} {k:Nat} {i i':TI} {fs:Array Field} {nm tg pk:String} {ty:TypeId} {off bo:Nat} {em:Bool} {b p:Nat} (hS:St n D L a) (hop:o.op=.fieldAddr t u k)
  (hT:TabOk P T) (h1:T.lookup t=some i) (h2:i.desc=.struct fs) (h3:fs[k]?=some ⟨nm,ty,off,em,tg,pk,bo⟩) (h4:T.lookup ty=some i') (h5:Nat.blt 0 i'.size=true) (hu:ev L u=some (.pointer (some ⟨b,p,none⟩))) :
  PV P o a (.pointer (some ⟨b,p+off,none⟩)):=fun w=>by
 have e1:=(hT _ _ h1).1;rw[h2]at e1;have e2:=TI.run_sizeOf (hT _ _ h4);have e3:i'.size≠0:=(Nat.pos_iff_ne_zero.1 (zk h5))
 simp[execOp,hop,hS.ev hu,Instr.fieldAt,run_underlying e1,h3,Instr.sureAddr,fieldPlace,e2,e3,Addr.add_lit]
theorem p_index{u x:Operand} {t e:TypeId} {i i':TI} {b p m c j:Nat} {k:IntKind} {z:Int} (hS:St n D L a) (hop:o.op=.indexAddr t u x)
  (hT:TabOk P T) (h1:T.lookup t=some i) (h2:i.desc=.slice e) (h4:T.lookup e=some i') (hu:ev L u=some (.slice (some ⟨b,p,none⟩) m c)) (hx:ev L x=some (.int k z)) (hz:z=(j:Int)) (hj:j < m):PV P o a (.pointer (some ⟨b,p+j * i'.size,none⟩)):=fun w=>by subst hz; have e1:=(hT _ _ h1).1; rw[h2]at e1; have e2:=TI.run_sizeOf (hT _ _ h4); simp[execOp,hop,hS.ev hu,hS.ev hx,Instr.indexAt,asIntOf,run_underlying e1,e2,Addr.add_lit,hj]
end
end

section
section
variable {r:Option Nat} {P:Program} {ops:Array Oper} {Q:Exit->Act->World->Prop} {o:Oper} {KK:Act->World->Prop}
variable {n:Nat} {D:List Deferred} {L:List (Nat×Value)} {B:Nat->Prop} {w0:World} {H:List Ck} {a:Act} {w:World}
variable {T:List (TypeId×TI)} {d:Nat} {K:Ck->List Ck}
theorem cel_block(hH:SH B w0 H w) {b:Nat} {cs:List Value} {e:TypeId} (hf:Foc H (.cel b cs e) K):w.heap[b]?=some (.cells cs.toArray e):=(hH.ok _ hf.mem).2
theorem cel_cell(hH:SH B w0 H w) {b:Nat} {cs:List Value} {e:TypeId} (hf:Foc H (.cel b cs e) K) (j:Nat):w.cell? ⟨b,j,none⟩=cs[j]?:=by
 simp[World.cell?,cel_block hH hf]
theorem SH.setC(hH:SH B w0 H w) {b:Nat} {cs cs':List Value} {e:TypeId} (hf:Foc H (.cel b cs e) K) {w':World}
  (hw:w'.os=w.os/\w'.tape=w.tape/\w'.output=w.output/\w'.heap.size=w.heap.size) (hb:w'.heap[b]?=some (.cells cs'.toArray e)) (ho:∀ k,k≠b->w'.heap[k]?=w.heap[k]?) :
  SH B w0 (K (.cel b cs' e)) w':=by
 have hc:=hH.ok _ hf.mem;refine hH.turn hf ⟨hw.1,hw.2.1,hw.2.2.1,Nat.le_of_eq hw.2.2.2.symm,fun k hk=>ho k (fun e'=>by subst e'; exact hc.1 hk)⟩ ⟨hc.1,hb⟩ (fun b' e'=>.inl e') fun b' _ hne=>ho b' (fun e'=>hne (by subst e'; rfl))
theorem run_load_agg{t:TypeId} {i:TI} (hi:TI.ok P t i) (h2:qt i.desc=true) {b p:Nat} {vs:List Value} (hl:vs.length=i.size) (hc:∀ j v,vs[j]?=some v->w.cell? ⟨b,p+j,none⟩=some v) :
  (loadVar t ⟨b,p,none⟩).run P w=.ok (.agg vs.toArray) w:=by
 have:=run_loadCells_list (P:=P) w ⟨b,p,none⟩ vs (fun j v hj=>by rw[Addr.add_lit]; exact hc j v hj)
 rw[hl]at this
 simp[loadVar,TI.run_isAgg hi,h2,TI.run_sizeOf hi,this]
theorem run_storeVar_at{t:TypeId} {i:TI} (hi:TI.ok P t i) {b p:Nat} {v:Value} {cs:List Value} {e:TypeId} (hb:w.heap[b]?=some (.cells cs.toArray e)) (hs:v.cells.size=i.size)
  (h1:∀ u∈v.cells.toList,u.oneCell'=true) (hp:p+v.cells.size<=cs.length) :
  (storeVar t ⟨b,p,none⟩ v).run P w=.ok () (w.setRow b (cs.take p++v.cells.toList++cs.drop (p+v.cells.size)).toArray):=by
 have h2:=run_storeCells_at P b p e v.cells.toList 0 cs.toArray w hb (by simpa using hp) h1;simp only[Nat.add_zero]at h2;unfold storeVar
 simp[TI.run_sizeOf hi,hs,h2]
end
end

section
theorem in_i64{z:Int} (h1:-9223372036854775808<=z) (h2:z<=9223372036854775807):IntKind.i64.wrap z=z:=by rw[IntKind.wrap_i64]; omega
def Ret(P:Program) (f:FuncId) (args:Array Value) (w:World) (R:Value->World->Prop):Prop:=
 Calls P f args w fun e w'=>∃ v,e=.returned v/\R v w'
theorem Ret.mono{P:Program} {f:FuncId} {args:Array Value} {w:World} {R R':Value->World->Prop} (h:Ret P f args w R) (hr:∀ v w',R v w'->R' v w'):Ret P f args w R':=
 Calls.mono h fun _ _ ⟨v,e,hv⟩=>⟨v,e,hr v _ hv⟩
section
variable {r:Option Nat} {P:Program} {ops:Array Oper} {Q:Exit->Act->World->Prop} {o:Oper} {KK:Act->World->Prop}
variable {n:Nat} {D:List Deferred} {L:List (Nat×Value)} {B:Nat->Prop} {w0:World} {H:List Ck} {a:Act} {w:World}
variable {T:List (TypeId×TI)} {d:Nat}
theorem xh(hX:Sym n D L B w0 H a w) {j s:Nat} {want g:Bool} (hg:o.guard=some (j,want)) (hj:(ops[j]?).bind (·.dst)=some s) (hs:L.lookup s=some (.bool g)) :
  Region.wanted o (yielded ops a.tmps)=(g == want):=by
 have h1:=hX.st.has s _ hs;have h2:yielded ops a.tmps j=some g:=by simp[yielded,hj,h1]
 simp only[Region.wanted,hg,h2];cases g<;>cases want<;>rfl
theorem unwanted_of(hX:Sym n D L B w0 H a w) {j s:Nat} {want:Bool} (hg:o.guard=some (j,want)) (hj:(ops[j]?).bind (·.dst)=some s) (hs:L.lookup s=some undef) :
  Region.wanted o (yielded ops a.tmps)=false:=by
 have h1:=hX.st.has s _ hs;have h2:yielded ops a.tmps j=none:=by simp[yielded,hj,h1,undef]
 simp only[Region.wanted,hg,h2]
 rfl
theorem run_call{f:FuncId} {fn:Func} {xs:List Operand} {ts:Array TypeId} {vs:List Value} (hop:o.op=.call { callee:=.value (.func f),args:=xs.toArray,argTypes:=ts }) (hfn:P.funcs[f]?=some fn)
  (hn : (fn.name == "runtime.NumGoroutine") = false) (hb : fn.body.isNone = false) (hv : xs.map a.eval = vs) : (execOp a.eval o).run P w = .ok (.enter f vs.toArray) w := by
 have e:a.eval (.func f)=.func (.func f) #[] #[]:=rfl
 have hn' : fn.name ≠ "runtime.NumGoroutine" := by simpa using hn
 have hb':fn.body≠none:=by intro h; rw[h]at hb; cases hb
 simp[execOp,hop,resolve,e,Deferred.ofValue,invoke,callFunc,program,Sem.run,hfn,hn',hb',hv]
theorem y_call{f:FuncId} {fn:Func} {xs:List Operand} {ts:Array TypeId} {vs:List Value} {R:Value->World->Prop} (hX:Sym n D L B w0 H a w)
  (hop:o.op=.call { callee:=.value (.func f),args:=xs.toArray,argTypes:=ts }) (ho:o.guard=none/\o.dst=some d) (hd:Nat.blt d n=true)
  (hfn : P.funcs[f]? = some fn) (hn : (fn.name == "runtime.NumGoroutine") = false) (hb : fn.body.isNone = false) (hv : evs L xs = some vs) (hC : Ret P f vs.toArray w R)
  (h:∀ v a' w',R v w'->St n D ((d,v) :: L) a'->KK a' w'):XO P ops o KK a w:=by
 refine .inl ⟨by simp[Region.wanted,ho.1],.inr (.inr ⟨f,vs.toArray,w,run_call hop hfn hn hb (hX.st.evs hv),?_⟩)⟩;refine Calls.mono hC ?_;rintro e w' ⟨v,rfl,hR⟩;exact⟨v,rfl,h v _ w' hR (by rw[ho.2]; exact hX.st.put d v (zk hd))⟩
/-! ### Control -/
variable {c c1 c2:Code}
abbrev XC (r:Option Nat) (P:Program) (c:Code) (Q:Exit->Act->World->Prop) (a:Act) (w:World):Prop:=c.wpIn (WF r) 0 P Q a w
theorem c_region{id:Nat} {l:List Oper} (h:XL r P l.toArray Q l a w):XC r P (.region id l.toArray false) Q a w:=wpIn_region_lit h
theorem c_skip(h:Q .normal a w):XC r P .skip Q a w:=wpIn_skip h
theorem c_exit{id:Nat} (h:Q (.exit id) a w):XC r P (.exit id) Q a w:=wpIn_exit h
theorem c_ret(h:Q .ret a w):XC r P .ret Q a w:=wpIn_ret h
theorem c_block{id:Nat} (h:XC r P c (Exit.inBlock id Q) a w):XC r P (.block id c) Q a w:=wpIn_block h
theorem c_cond{x:Operand} {g:Bool} (hX:Sym n D L B w0 H a w) (hx:ev L x=some (.bool g)) (h1:g=true->XC r P c1 Q a w) (h0:g=false->XC r P c2 Q a w):XC r P (.cond x c1 c2) Q a w:=
 wpIn_cond_split (hX.ev hx) h1 h0
theorem least(S:Nat->Prop) (h:∃ k,S k):∃ k,S k/\∀ j,S j->k<=j:=by
 obtain⟨k,hk⟩:=h
 induction k using Nat.strongRecOn with
 | _ k ih=>
  by_cases e:∃ j,j < k/\S j
  ·obtain⟨j,hj,hs⟩:=e; exact ih j hj hs
  ·exact⟨k,hk,fun j hj=>Nat.le_of_not_lt fun hlt=>e ⟨j,hlt,hj⟩⟩
noncomputable def leastOf (S:Nat->Prop):Nat:=by
 classical
 exact if h:∃ k,S k then Classical.choose (least S h)else 0
theorem leastOf_le{S:Nat->Prop} {k:Nat} (h:S k):leastOf S<=k:=by
 unfold leastOf; rw[dif_pos ⟨k,h⟩]; exact(Classical.choose_spec (least S ⟨k,h⟩)).2 k h
theorem leastOf_mem{S:Nat->Prop} {k:Nat} (h:S k):S (leastOf S):=by
 unfold leastOf; rw[dif_pos ⟨k,h⟩]; exact(Classical.choose_spec (least S ⟨k,h⟩)).1
theorem c_loop{α:Type} (M:α->Act->World->Prop) (m:α->Nat) (x:α) (h0:M x a w)
  (hr:∀ x a w,M x a w->XC r P c (Exit.then (fun a' w'=>∃ y,M y a' w'/\m y < m x) Q) a w):XC r P (.loop c) Q a w:=by
 refine wpIn_loop (fun a w=>∃ x,M x a w) (fun a w=>leastOf fun k=>∃ x,M x a w/\m x=k) ⟨x,h0⟩ ?_;rintro a w ⟨y,hy⟩;obtain⟨z,hz,hm⟩:=leastOf_mem (S:=fun k=>∃ x,M x a w/\m x=k) (k:=m y) ⟨y,hy,rfl⟩;refine wpIn_mono (hr z a w hz) ?_;intro e a' w' hq;cases e with
 | normal=>
  obtain⟨u,hu,hlt⟩:=hq;refine⟨⟨u,hu⟩,?_⟩
  have:=leastOf_le (S:=fun k=>∃ x,M x a' w'/\m x=k) (k:=m u) ⟨u,hu,rfl⟩
  show _ < leastOf _;rw[<- hm];omega
 | _=>exact hq
/-! ### Beginning and end -/
theorem argsHas{N:Nat} (vs:List Value) (hN:vs.length<=N):(vs.toArray++Array.replicate (N - vs.toArray.size) undef).size=N:=by simp; omega
end
end

section
section
variable {P:Program} {ops:Array Oper} {Q:Exit->Act->World->Prop} {o:Oper} {KK:Act->World->Prop}
variable {n:Nat} {D:List Deferred} {L:List (Nat×Value)} {B:Nat->Prop} {w0:World} {H:List Ck} {a:Act} {w:World}
variable {d:Nat} {S:World->Prop} {listed listed':Array Bool} {fuel:Nat}
end
end

end Go.Proofs.YtldjgdggcodgeaaGreat
namespace Go.Proofs.YtldjgdggcodgeaaGreat
open Go.RowKit
section
variable {r:Option Nat} {P:Program} {ops:Array Oper} {Q:Exit->Act->World->Prop} {o:Oper} {KK:Act->World->Prop}
variable {n:Nat} {D:List Deferred} {L L':List (Nat×Value)} {B:Nat->Prop} {w0:World} {H H':List Ck} {a:Act} {w:World}
variable {d:Nat} {c:Code}
end
end Go.Proofs.YtldjgdggcodgeaaGreat
namespace Go.Proofs.YtldjgdggcodgeaaGreat
end Go.Proofs.YtldjgdggcodgeaaGreat
namespace Go.Proofs.YtldjgdggcodgeaaGreat
end Go.Proofs.YtldjgdggcodgeaaGreat
namespace Go.Proofs.YtldjgdggcodgeaaGreat
end Go.Proofs.YtldjgdggcodgeaaGreat
namespace Go.Proofs.YtldjgdggcodgeaaGreat
end Go.Proofs.YtldjgdggcodgeaaGreat
namespace Go.Proofs.YtldjgdggcodgeaaGreat
open Go.RowKit

section
section
variable {P:Program} {ops:Array Oper} {o:Oper} {KK:Act->World->Prop}
variable {n:Nat} {D:List Deferred} {L:List (Nat×Value)} {B:Nat->Prop} {w0:World} {H:List Ck} {a:Act} {w:World}
variable {T:List (TypeId×TI)} {d:Nat} {K:Ck->List Ck}
theorem SH.setO(hH:SH B w0 H w) {b:Nat} {x x':Obj} (hf:Foc H (.obj b x) K) :
  SH B w0 (K (.obj b x')) { w with heap:=w.heap.setIfInBounds b x' }:=by
 have hc:=hH.ok _ hf.mem;have hlt:=(Array.getElem?_eq_some_iff.1 hc.2).1;have ho:∀ k,k≠b->(w.heap.setIfInBounds b x')[k]?=w.heap[k]?:=fun k hk=>Array.getElem?_setIfInBounds_ne (Ne.symm hk)
 refine hH.turn hf ⟨rfl,rfl,rfl,by simp,fun k hk=>ho k (fun e'=>by subst e'; exact hc.1 hk)⟩ ⟨hc.1,by simp[hlt]⟩ (fun b' e'=>.inl e') fun b' _ hne=>ho b' (fun e'=>hne (by subst e'; rfl))
end
end

end Go.Proofs.YtldjgdggcodgeaaGreat
namespace Go.Proofs.YtldjgdggcodgeaaGreat
open Go.RowKit
section
variable {P:Program} {o:Oper} {n:Nat} {D:List Deferred} {L:List (Nat×Value)} {a:Act} {T:List (TypeId×TI)}
theorem p_eql_b{u v:Operand} {t t':TypeId} {i:TI} {x y:Bool} (hS:St n D L a) (hop:o.op=.binOp .eql t u v t') (hT:TabOk P T) (h1:T.lookup t=some i) (h2:i.desc=.bool) (hu:ev L u=some (.bool x)) (hv:ev L v=some (.bool y)):PV P o a (.bool (x == y)):=fun w=>by
 have e1:=(hT _ _ h1).1;rw[h2]at e1
 have:(Op.equal t (.bool x) (.bool y)).run P w=.ok (x == y) w:=run_equalIn_bool w 9999 t x y e1
 simp[execOp,hop,hS.ev hu,hS.ev hv,eqGuard,binOp,this]
theorem p_neq_b{u v:Operand} {t t':TypeId} {i:TI} {x y:Bool} (hS:St n D L a) (hop:o.op=.binOp .neq t u v t') (hT:TabOk P T) (h1:T.lookup t=some i) (h2:i.desc=.bool) (hu:ev L u=some (.bool x)) (hv:ev L v=some (.bool y)):PV P o a (.bool (x != y)):=fun w=>by
 have e1:=(hT _ _ h1).1;rw[h2]at e1
 have:(Op.equal t (.bool x) (.bool y)).run P w=.ok (x == y) w:=run_equalIn_bool w 9999 t x y e1
 simp[execOp,hop,hS.ev hu,hS.ev hv,eqGuard,binOp,this,bne]
theorem p_eql_s{u v:Operand} {t t':TypeId} {x y:ByteArray} (hS:St n D L a) (hop:o.op=.binOp .eql t u v t') (hu:ev L u=some (.string x)) (hv:ev L v=some (.string y)):PV P o a (.bool (x.toList == y.toList)):=fun w=>by
 simp[execOp,hop,hS.ev hu,hS.ev hv,eqGuard,binOp,Op.stringOp]
theorem p_neq_s{u v:Operand} {t t':TypeId} {x y:ByteArray} (hS:St n D L a) (hop:o.op=.binOp .neq t u v t') (hu:ev L u=some (.string x)) (hv:ev L v=some (.string y)):PV P o a (.bool (!(x.toList == y.toList))):=fun w=>by
 simp[execOp,hop,hS.ev hu,hS.ev hv,eqGuard,binOp,Op.stringOp]
theorem p_eql_a{u v:Operand} {t t':TypeId} {x y:Array Value} {r:Bool} (hS:St n D L a) (hop:o.op=.binOp .eql t u v t') (hu:ev L u=some (.agg x)) (hv:ev L v=some (.agg y)) (hm:P.eqGuardType P.depth t=false)
  (he:∀ w,(Op.equalIn 10000 t (.agg x) (.agg y)).run P w=.ok r w):PV P o a (.bool r):=fun w=>by
 simp[execOp,hop,hS.ev hu,hS.ev hv,run_eqGuard_agg w .eql t u v x y hm,run_eql_struct,he w]
theorem p_neq_a{u v:Operand} {t t':TypeId} {x y:Array Value} {r:Bool} (hS:St n D L a) (hop:o.op=.binOp .neq t u v t') (hu:ev L u=some (.agg x)) (hv:ev L v=some (.agg y)) (hm:P.eqGuardType P.depth t=false)
  (he:∀ w,(Op.equalIn 10000 t (.agg x) (.agg y)).run P w=.ok r w):PV P o a (.bool (!r)):=fun w=>by
 simp[execOp,hop,hS.ev hu,hS.ev hv,run_eqGuard_agg w .neq t u v x y hm,run_neq_struct,he w]
end
end Go.Proofs.YtldjgdggcodgeaaGreat
namespace Go.Proofs.YtldjgdggcodgeaaGreat
theorem eq_struct{P:Program} (w:World) (d:Nat) (t:TypeId) (xs ys:Array Value) {fs:List Field} (h:P.underlying t=some (.struct fs.toArray)) (hp:P.stoodInHeld t=false) :
  (Op.equalIn (d+1) t (.agg xs) (.agg ys)).run P w=(Op.eqFields d xs ys fs).run P w:=by
 have hf:P.fieldsOf t=fs.toArray:=by simp[Program.fieldsOf,h]
 rw[run_equalIn_struct w d t xs ys (by rw[hf]; exact h) hp,hf]
end Go.Proofs.YtldjgdggcodgeaaGreat
namespace Go.Proofs.YtldjgdggcodgeaaGreat
open Go.RowKit
/-! ### The memory xq a row -/
section
variable {w:World} {B:Nat->Prop} {e:TypeId} {size n c:Nat} {A:Option Addr} {xs:List Value}
theorem setCells_row(g:Nat) (e:TypeId) (fr:Nat×Nat):∀ (vs:List Value) (o:Nat) (w:World) (cur:Array Value),w.heap[g]?=some (.cells cur e fr)->o+vs.length<=cur.size ->
  w.setCells g o vs=w.setRow g (cur.toList.take o++vs++cur.toList.drop (o+vs.length)).toArray
 | [],o,w,cur,hg,_=>by
  simp only[World.setCells,List.append_nil,List.length_nil,Nat.add_zero,List.take_append_drop,Array.toArray_toList];exact(setRow_self w g cur e fr hg).symm
 | v :: vs,o,w,cur,hg,hl=>by
  simp only[List.length_cons]at hl;have h1:w.setCell ⟨g,o,none⟩ v=w.setRow g (cur.setIfInBounds o v):=by
   unfold World.setCell World.setRow
   congr 1
   apply Array.ext
   ·simp
   ·intro i h1 h2
    simp only[Array.getElem_modify]
    split
    ·rename_i hi
     subst hi;rw[(Array.getElem?_eq_some_iff.1 hg).2]
     simp
    ·rfl
  have h2:=setRow_heap w g cur (cur.setIfInBounds o v) e fr hg;rw[World.setCells,h1,setCells_row g e fr vs (o+1) _ _ h2 (by simp; omega),setRow_setRow]
  congr 1
  apply congrArg List.toArray
  rw[Array.toList_setIfInBounds,List.take_succ_eq_append_getElem (by simp; omega)];simp only[List.getElem_set_self,List.append_assoc,List.length_cons];rw[List.take_set_of_le (by omega),List.drop_set_of_lt (by omega)]
  simp[Nat.add_comm,Nat.add_left_comm]
theorem Owns.cells(h:Owns w B e size A c n xs) {g:Nat} (hA:A=some ⟨g,0,none⟩) (j:Nat) (hj:j < n * size):w.cell? ⟨g,j,none⟩=xs[j]?:=by
 rcases h.2 with⟨h1,_⟩ | ⟨g',cur,fr,h1,_,hh,_,_,_,_,ht⟩
 ·rw[hA]at h1; cases h1
 ·rw[hA]at h1
  have:g=g':=by injection h1 with h1; injection h1
  subst this;rw[<- ht,List.getElem?_take,if_pos hj]
  simp[World.cell?,hh]
theorem Owns.le(h:Owns w B e size A c n xs):n<=c/\c<=maxLen:=by
 rcases h.2 with⟨_,h1,h2⟩ | ⟨g',cur,fr,h1,_,hh,_,h1,h2,_,ht⟩
 ·subst h1; subst h2; exact⟨Nat.le_refl _,Nat.zero_le _⟩
 ·exact⟨h1,h2⟩
end
section
variable {P:Program} {w:World}
theorem run_append_row{B:Nat->Prop} {t ty e:TypeId} {i:TI} (ht:P.underlying t=some (.slice e)) (hi:TI.ok P e i) (hsz:0 < i.size) (hzs:i.zero.cells.size=i.size)
  {A:Option Addr} {c n:Nat} {xs:List Value} (hown:Owns w B e i.size A c n xs)
  {b:Nat} {p m cc:Nat} {news:List Value} (hl:news.length=m * i.size) (hnews:∀ j u,news[j]?=some u->w.cell? ⟨b,p+j,none⟩=some u) (h1:∀ u∈news,u.oneCell'=true)
  (hbytes:(n+m) * i.bytes<=140737488355328) (hm:n+m<=140737488355328) (hbase:¬ B w.heap.size) :
  ∃ A' c' w',(Builtin.append_ #[t,t] ty #[.slice A n c,.slice (some ⟨b,p,none⟩) m cc]).run P w=.ok (.slice A' (n+m) c') w'/\Owns w' B e i.size A' c' (n+m) (xs++news) /\
   w'.os=w.os/\w'.tape=w.tape/\w'.output=w.output/\w.heap.size<=w'.heap.size /\
   (∀ k,k < w.heap.size->A.map (·.block)≠some k->w'.heap[k]?=w.heap[k]?)/\(∀ k,A'.map (·.block)=some k->A.map (·.block)=some k\/w.heap.size<=k)/\(n+m<=c->c'=c):=by
 obtain⟨inf,hinf,hs1,hs2,hs3⟩:=TI.info hi;have hlen:(xs++news).length=(n+m) * i.size:=by rw[List.length_append,hown.1,hl,Nat.add_mul]
 have hnews':∀ j v,news[j]?=some v->w.cell? ((⟨b,p,none⟩:Addr).add j)=some v:=fun j v hj=>by rw[Addr.add_lit]; exact hnews j v hj
 have h63:n+m<=maxLen:=by simp only[maxLen]; omega
 have grown:∀ (old:Nat),old < n+m ->
   Owns (w.drew.alloc (.cells (xs.toArray++news.toArray++Builtin.zeroCells i.zero.cells (grownCap w (n+m) old e - (n+m))) e)) B e i.size (some ⟨w.heap.size,0,none⟩) (grownCap w (n+m) old e) (n+m) (xs++news):=by
  intro old _;have hge:=grownCap_ge w (n+m) old e;have hcm:grownCap w (n+m) old e<=maxLen:=grownCap_le_maxLen w (n+m) old e h63;refine⟨hlen,.inr ⟨w.heap.size,_,(0,0),rfl,hbase,heap_alloc_new w.drew _,.inl rfl,hge,hcm,?_,?_⟩⟩
  ·simp only[Array.size_append,List.size_toArray,size_zeroCells,hzs,hown.1,hl,<- Nat.add_mul]
   congr 1
   omega
  ·simp only[Array.toList_append,List.append_assoc]
   rw[<- List.append_assoc,<- hlen];exact List.take_left
 have blk:∀ o k,k < w.heap.size->(w.drew.alloc o).heap[k]?=w.heap[k]?:=fun o k hk=>Below.heap_alloc w.drew o k hk
 rcases hown.2 with⟨rfl,rfl,rfl⟩ | ⟨g,cur,fr,rfl,hbg,hg,hfr,hnc,hcm,hcs,htake⟩
 ·have hx:xs=[]:=List.eq_nil_of_length_eq_zero (by simpa using hown.1)
  subst hx
  by_cases hm0:m=0
  ·subst hm0
   have hn:news=[]:=List.eq_nil_of_length_eq_zero (by simpa using hl);subst hn;refine⟨none,0,w,?_,by simpa using hown,rfl,rfl,rfl,Nat.le_refl _,fun _ _ _=>rfl,(fun k h=>by cases h),fun _=>rfl⟩
   simp[Builtin.append_,run_underlying ht,sizeOf,typeInfo,hinf,Builtin.lenOf,Builtin.firstCells,loadCells,loadCellsFrom]
  ·have hr:=run_append_nil (P:=P) w t ty e inf i.zero ht hinf hs3 ⟨b,p,none⟩ m cc news (by rw[hl,hs1]) hnews' (by omega) (by omega) (by rw[hs2]; have:=hbytes; simp only[Nat.zero_add]at this; omega)
   have hgr:=grown 0 (by omega);simp only[Nat.zero_add,List.nil_append,Array.empty_append]at hgr ⊢;exact⟨_,_,_,hr,hgr,rfl,rfl,rfl,by simp,fun k hk _=>blk _ k hk,fun k hk=>.inr (by simp at hk; omega),fun hc=>by omega⟩
 ·have holds:∀ j u,xs[j]?=some u->w.cell? ((⟨g,0,none⟩:Addr).add j)=some u:=fun j u hu=>by
   rw[Addr.add_lit,Nat.zero_add];have hj:j < n * i.size:=by have:=(List.getElem?_eq_some_iff.1 hu).1; rw[hown.1]at this; exact this
   rw[hown.cells rfl j hj];exact hu
  by_cases hroom:n+m<=c
  ·have hfit:n * i.size+news.length<=cur.size:=by rw[hl,hcs,<- Nat.add_mul]; exact Nat.mul_le_mul_right _ hroom
   have hf:=run_firstCells_some (P:=P) w i.size m ⟨b,p,none⟩ m cc news hl hnews';have hst:=run_storeCells_cells (P:=P) g (n * i.size) news 0 w (fun j hj=>by
     simp only[World.cell?,hg]
     simp; omega) (fun j hj=>by
     simp only[World.frozen?,hg]
     rcases hfr with h | h
     ·simp; omega
     ·simp; omega) h1
   rw[Nat.add_zero,setCells_row g e fr news _ w cur hg hfit]at hst;have hrun:(Builtin.append_ #[t,t] ty #[.slice (some ⟨g,0,none⟩) n c,.slice (some ⟨b,p,none⟩) m cc]).run P w =
     .ok (.slice (some ⟨g,0,none⟩) (n+m) c) (w.setRow g (cur.toList.take (n * i.size)++news++cur.toList.drop (n * i.size+news.length)).toArray):=by
    simp[Builtin.append_,run_underlying ht,sizeOf,typeInfo,hinf,hs1,Builtin.lenOf,hroom,hf,Addr.add_lit,hst]
   refine⟨some ⟨g,0,none⟩,c,_,hrun,⟨hlen,.inr ⟨g,_,fr,rfl,hbg,setRow_heap w g cur _ e _ hg,?_,hroom,hcm,?_,?_⟩⟩,rfl,rfl,rfl,by simp,fun k _ hk=>setRow_other w g k _ (fun e'=>hk (by simp[e'])),fun k hk=>.inl hk,fun _=>rfl⟩
   ·rcases hfr with h | h
    ·exact .inl h
    ·exact .inr (by simp; omega)
   ·simp only[List.size_toArray,List.length_append,List.length_take,List.length_drop,Array.length_toList]
    omega
   ·rw[htake,<- hlen]
    exact List.take_left
  ·have hr:=run_append_grow (P:=P) w t ty e inf i.zero ht hinf hs3 ⟨g,0,none⟩ n c xs (by rw[hown.1,hs1]) holds ⟨b,p,none⟩ m cc news (by rw[hl,hs1]) hnews' (by omega) (by omega) (growslice_fits (by omega) (by rw[hs2]; exact hbytes))
   exact⟨_,_,_,hr,grown c (by omega),rfl,rfl,rfl,by simp,fun k hk _=>blk _ k hk,fun k hk=>.inr (by simp at hk; omega),fun hc=>absurd hc hroom⟩
end
end Go.Proofs.YtldjgdggcodgeaaGreat
namespace Go.Proofs.YtldjgdggcodgeaaGreat
open Go.RowKit
def Reads(w:World) (A:Option Addr) (m size:Nat) (news:List Value):Prop:=
 news.length=m * size/\(0 < m->∃ b p,A=some ⟨b,p,none⟩/\∀ j u,news[j]?=some u->w.cell? ⟨b,p+j,none⟩=some u)
def cutA(A:Option Addr) (l size m:Nat):Option Addr:=if m=l then A else A.map (·.add (l * size))
theorem Reads.nil(w:World) (A:Option Addr) (size:Nat):Reads w A 0 size []:=⟨by simp,fun h=>absurd h (by omega)⟩
theorem Reads.cut{w:World} {A:Option Addr} {m size l h c:Nat} {news:List Value} (hr:Reads w A m size news) (hl:l<=h) (hh:h<=m) (hc:h<=c) :
  Reads w (cutA A l size c) (h - l) size ((news.drop (l * size)).take ((h - l) * size)):=by
 have hsz:h * size<=m * size:=Nat.mul_le_mul_right _ hh;have hsl:l * size<=h * size:=Nat.mul_le_mul_right _ hl;refine⟨by rw[List.length_take,List.length_drop,hr.1,Nat.sub_mul]; omega,fun hp=>?_⟩;obtain⟨b,p,rfl,hcell⟩:=hr.2 (by omega);refine⟨b,p+l * size,?_,fun j u hu=>?_⟩
 ·unfold cutA
  rw[if_neg (by omega)]
  simp[Addr.add_lit]
 ·rw[List.getElem?_take]at hu
  split at hu
  ·rw[List.getElem?_drop]at hu
   have:=hcell _ u hu
   rw[Nat.add_assoc];exact this
  ·cases hu
section
variable {w w0:World} {B:Nat->Prop} {H:List Ck} {K:Ck->List Ck}
theorem Reads.row(hH:SH B w0 H w) {A:Option Addr} {c:Nat} {e:TypeId} {size n:Nat} {xs:List Value} (hf:Foc H (.row A c e size n xs) K):Reads w A n size xs:=by
 have ho:Owns w B e size A c n xs:=hH.ok _ hf.mem;refine⟨ho.1,fun hn=>?_⟩
 rcases ho.2 with⟨_,h1,_⟩ | ⟨g,cur,fr,h1,_⟩
 ·omega
 ·refine⟨g,0,h1,fun j u hu=>?_⟩
  rw[Nat.zero_add,ho.cells h1 j (by have:=(List.getElem?_eq_some_iff.1 hu).1; rw[ho.1]at this; exact this)];exact hu
theorem SH.nilRow(hH:SH B w0 H w) (e:TypeId) (size:Nat):SH B w0 (.row none 0 e size 0 [] :: H) w:=
 ⟨hH.below,hH.base,fun c hc=>by
  rcases List.mem_cons.1 hc with rfl | hc
  ·exact⟨by simp,.inl ⟨rfl,rfl,rfl⟩⟩
  ·exact hH.ok c hc,List.Pairwise.cons (fun c hc b e=>by cases e) hH.apart⟩
end
section
variable {P:Program} {ops:Array Oper} {o:Oper} {KK:Act->World->Prop}
variable {n:Nat} {D:List Deferred} {L:List (Nat×Value)} {B:Nat->Prop} {w0:World} {H:List Ck} {a:Act} {w:World}
variable {T:List (TypeId×TI)} {d:Nat} {K:Ck->List Ck}
theorem y_appendC{s x:Operand} {t e:TypeId} {i i':TI} {A A2:Option Addr} {c k m cc:Nat} {xs news:List Value} (hX:Sym n D L B w0 H a w)
  (hop:o.op=.call { callee:=.builtin .append,args:=#[s,x],argTypes:=#[t,t] }) (ho:o.guard=none/\o.dst=some d) (hd:Nat.blt d n=true)
  (hT:TabOk P T) (h1:T.lookup t=some i) (h2:i.desc=.slice e) (h3:T.lookup e=some i') (h4:Nat.blt 0 i'.size=true) (h5:i'.zero.cells.size=i'.size) (hs:ev L s=some (.slice A k c)) (hx:ev L x=some (.slice A2 m cc))
  (hf:Foc H (.row A c e i'.size k xs) K) (hr:Reads w A2 m i'.size news) (hone:∀ u∈news,u.oneCell'=true) (hb1:(k+m) * i'.bytes<=140737488355328) (hb2:k+m<=140737488355328)
  (h:∀ A' c' a' w',(k+m<=c->c'=c)->Sym n D ((d,.slice A' (k+m) c') :: L) B w0 (K (.row A' c' e i'.size (k+m) (xs++news))) a' w'->KK a' w'):XO P ops o KK a w:=by
 have e1:=(hT _ _ h1).1;rw[h2]at e1;have e3:=hT _ _ h3;have hown:Owns w B e i'.size A c k xs:=hX.sh.ok _ hf.mem
 by_cases hm:m=0
 ·subst hm
  have hn:news=[]:=List.eq_nil_of_length_eq_zero (by simpa using hr.1);subst hn;have hrun:(execOp a.eval o).run P w=.ok (.value (.slice A (k+0) c)) w:=by
   have hle:=hown.le.1;have hrun':(Builtin.append_ #[t,t] o.type #[.slice A k c,.slice A2 0 cc]).run P w=.ok (.slice A k c) w:=by
    have e4:=TI.run_sizeOf e3 w;have hfc:(Builtin.firstCells i'.size 0 (.slice A2 0 cc)).run P w=.ok #[] w:=by
     cases A2<;>simp[Builtin.firstCells,loadCells,loadCellsFrom]
    simp only[Builtin.append_,Sem.run_bind,run_underlying e1,Result.andThen_ok,e4]
    simp[run_underlying e1,Builtin.lenOf,hle,hfc]
    cases A<;>simp[storeCells,e4,hfc]
   simp[execOp,hop,resolve,invoke,builtin,hX.ev hs,hX.ev hx,hrun']
  refine y_value hX ho hd hrun ?_ (fun a' w'=>h A c a' w' fun _=>rfl)
  have:=hX.sh
  obtain⟨X,Y,rfl,rfl⟩:=hf
  simpa using this
 ·obtain⟨b,p,rfl,hc⟩:=hr.2 (by omega)
  obtain⟨A',c',w',hrun,hown',ho1,ho2,ho3,hsz,hkeep,hat,hroom⟩:=run_append_row (P:=P) (ty:=o.type) e1 e3 (zk h4) h5 hown (cc:=cc) hr.1 hc hone hb1 hb2 hX.sh.fresh;refine y_value hX ho hd (w':=w') (v:=.slice A' (k+m) c') (by simp[execOp,hop,resolve,invoke,builtin,hX.ev hs,hX.ev hx,hrun]) ?_ (fun a' w'=>h A' c' a' w' hroom);exact hX.sh.turn hf ⟨ho1,ho2,ho3,hsz,fun q hq=>hkeep q (hX.sh.base q hq) (fun e'=>(Ck.ok.lt (c:=.row A c e i'.size k xs) hown e').1 hq)⟩ hown' hat hkeep
theorem y_append{s x:Operand} {t e:TypeId} {i i':TI} {A A2:Option Addr} {c k m cc:Nat} {xs news:List Value} (hX:Sym n D L B w0 H a w)
  (hop:o.op=.call { callee:=.builtin .append,args:=#[s,x],argTypes:=#[t,t] }) (ho:o.guard=none/\o.dst=some d) (hd:Nat.blt d n=true)
  (hT:TabOk P T) (h1:T.lookup t=some i) (h2:i.desc=.slice e) (h3:T.lookup e=some i') (h4:Nat.blt 0 i'.size=true) (h5:i'.zero.cells.size=i'.size) (hs:ev L s=some (.slice A k c)) (hx:ev L x=some (.slice A2 m cc))
  (hf:Foc H (.row A c e i'.size k xs) K) (hr:Reads w A2 m i'.size news) (hone:∀ u∈news,u.oneCell'=true) (hb1:(k+m) * i'.bytes<=140737488355328) (hb2:k+m<=140737488355328)
  (h:∀ A' c' a' w',Sym n D ((d,.slice A' (k+m) c') :: L) B w0 (K (.row A' c' e i'.size (k+m) (xs++news))) a' w'->KK a' w'):XO P ops o KK a w:=
 y_appendC hX hop ho hd hT h1 h2 h3 h4 h5 hs hx hf hr hone hb1 hb2 fun A' c' a' w' _=>h A' c' a' w'
/-! ### Slices put together out of values -/
end
end Go.Proofs.YtldjgdggcodgeaaGreat
namespace Go.Proofs.YtldjgdggcodgeaaGreat
open Go.RowKit
section
variable {P:Program} {ops:Array Oper} {o:Oper} {KK:Act->World->Prop}
variable {n:Nat} {D:List Deferred} {L:List (Nat×Value)} {B:Nat->Prop} {w0:World} {H:List Ck} {a:Act} {w:World}
variable {T:List (TypeId×TI)} {d:Nat} {K:Ck->List Ck}
theorem p_sliceFrom{u x:Operand} {t e:TypeId} {i i':TI} {A:Option Addr} {m c l:Nat} {k:IntKind} {z:Int} (hS:St n D L a) (hop:o.op=.slice t u (some x) none none)
  (hT:TabOk P T) (h1:T.lookup t=some i) (h2:i.desc=.slice e) (h3:T.lookup e=some i') (hu:ev L u=some (.slice A m c)) (hx:ev L x=some (.int k z)) (hz:z=(l:Int)) (hl:l<=m) :
  PV P o a (.slice (cutA A l i'.size c) (m - l) (c - l)):=fun w=>by
 subst hz;have e1:=(hT _ _ h1).1;rw[h2]at e1;have hlz:(l:Int)<=(m:Int):=by omega
 simp[execOp,hop,hS.ev hu,hS.ev hx,Instr.sliceAt,Instr.slice,Instr.sliceBounds,Instr.sliceBound,asIntOf,run_underlying e1,TI.run_sizeOf (hT _ _ h3),hl,cutA]
theorem p_sliceTo{u x:Operand} {t e:TypeId} {i i':TI} {A:Option Addr} {m c h:Nat} {k:IntKind} {z:Int} (hS:St n D L a) (hop:o.op=.slice t u none (some x) none)
  (hT:TabOk P T) (h1:T.lookup t=some i) (h2:i.desc=.slice e) (h3:T.lookup e=some i') (hu:ev L u=some (.slice A m c)) (hx:ev L x=some (.int k z)) (hz:z=(h:Int)) (hl:h<=c) :
  PV P o a (.slice A h c):=fun w=>by
 subst hz;have e1:=(hT _ _ h1).1;rw[h2]at e1
 simp[execOp,hop,hS.ev hu,hS.ev hx,Instr.sliceAt,Instr.slice,Instr.sliceBounds,Instr.sliceBound,asIntOf,run_underlying e1,TI.run_sizeOf (hT _ _ h3),hl]
 by_cases hc:c=0
 ·simp[hc]
 ·cases A with
  | none=>simp
  | some ad=>simp[Addr.add]
theorem p_sliceMid{u x y:Operand} {t e:TypeId} {i i':TI} {A:Option Addr} {m c l h:Nat} {k k':IntKind} {z z':Int} (hS:St n D L a) (hop:o.op=.slice t u (some x) (some y) none)
  (hT:TabOk P T) (h1:T.lookup t=some i) (h2:i.desc=.slice e) (h3:T.lookup e=some i') (hu:ev L u=some (.slice A m c)) (hx:ev L x=some (.int k z)) (hy:ev L y=some (.int k' z')) (hz:z=(l:Int)) (hz':z'=(h:Int)) (hl:l<=h) (hh:h<=c) :
  PV P o a (.slice (cutA A l i'.size c) (h - l) (c - l)):=fun w=>by
 subst hz; subst hz';have e1:=(hT _ _ h1).1;rw[h2]at e1
 simp[execOp,hop,hS.ev hu,hS.ev hx,hS.ev hy,Instr.sliceAt,Instr.slice,Instr.sliceBounds,Instr.sliceBound,asIntOf,run_underlying e1,TI.run_sizeOf (hT _ _ h3),hl,hh,cutA]
def zeros(z:List Value) (k:Nat):List Value:=(List.replicate k z).flatten
theorem zeros_length(z:List Value) (k:Nat):(zeros z k).length=k * z.length:=by simp[zeros]
theorem range_mod(z:List Value) (hz:0 < z.length):∀ k:Nat,(Array.range (k * z.length)).map (fun j=>z.toArray[j % z.toArray.size]!)=(zeros z k).toArray:=by
 intro k
 apply Array.ext
 ·simp[zeros]
 ·intro j h1 h2
  simp only[Array.size_map,Array.size_range]at h1;simp only[Array.getElem_map,Array.getElem_range,List.size_toArray];have hm:=Nat.mod_lt j hz;have hlen:j < (zeros z k).length:=by rw[zeros_length]; exact h1
  have key:∀ (k j:Nat),j < k * z.length->(zeros z k)[j]?=z[j % z.length]?:=by
   intro k
   induction k with
   | zero=>intro j hj; simp at hj
   | succ k ih=>
    intro j hj
    have:zeros z (k+1)=z++zeros z k:=by simp[zeros,List.replicate_succ]
    rw[this]
    by_cases hlt:j < z.length
    ·rw[List.getElem?_append_left hlt,Nat.mod_eq_of_lt hlt]
    ·rw[List.getElem?_append_right (by omega),ih (j - z.length) (by rw[Nat.add_mul]at hj; omega)]
     congr 1
     exact(Nat.mod_eq_sub_mod (by omega)).symm
  have h3:=key k j h1;have h4:(zeros z k)[j]?=some (zeros z k)[j]:=List.getElem?_eq_getElem hlen;rw[h4,List.getElem?_eq_getElem hm]at h3;have h5:(zeros z k).toArray[j]=(zeros z k)[j]:=by simp
  rw[h5,Option.some.inj h3]
  simp[hm]
theorem y_copy{s x:Operand} {t e:TypeId} {i i':TI} {A A2:Option Addr} {c k cc:Nat} {xs news:List Value} (hX:Sym n D L B w0 H a w)
  (hop:o.op=.call { callee:=.builtin .copy,args:=#[s,x],argTypes:=#[t,t] }) (ho:o.guard=none/\o.dst=some d) (hd:Nat.blt d n=true)
  (hT:TabOk P T) (h1:T.lookup t=some i) (h2:i.desc=.slice e) (h3:T.lookup e=some i') (hs:ev L s=some (.slice A k c)) (hx:ev L x=some (.slice A2 k cc))
  (hf:Foc H (.row A c e i'.size k xs) K) (hr:Reads w A2 k i'.size news) (hone:∀ u∈news,u.oneCell'=true)
  (h:∀ a' w',Sym n D ((d,.int .i64 (k:Int)) :: L) B w0 (K (.row A c e i'.size k news)) a' w'->KK a' w'):XO P ops o KK a w:=by
 have e1:=(hT _ _ h1).1;rw[h2]at e1;have e3:=hT _ _ h3;have hown:Owns w B e i'.size A c k xs:=hX.sh.ok _ hf.mem
 by_cases hk:k=0
 ·subst hk
  have hn:news=[]:=List.eq_nil_of_length_eq_zero (by simpa using hr.1);have hn':xs=[]:=List.eq_nil_of_length_eq_zero (by simpa using hown.1);subst hn; subst hn';have hrun':(Builtin.copy_ #[t,t] o.type #[.slice A 0 c,.slice A2 0 cc]).run P w=.ok (.int .i64 0) w:=by
   have hfc:(Builtin.firstCells i'.size 0 (.slice A2 0 cc)).run P w=.ok #[] w:=by
    cases A2<;>simp[Builtin.firstCells,loadCells,loadCellsFrom]
   cases A<;>simp[Builtin.copy_,run_underlying e1,Builtin.lenOf,TI.run_sizeOf e3,hfc,storeCells,goInt]
  refine y_value hX ho hd (w':=w) (v:=.int .i64 ((0:Nat):Int)) (by simp[execOp,hop,resolve,invoke,builtin,hX.ev hs,hX.ev hx,hrun']) ?_ h
  have:=hX.sh
  obtain⟨X,Y,rfl,rfl⟩:=hf;exact this
 ·obtain⟨b,p,rfl,hc⟩:=hr.2 (by omega)
  rcases hown.2 with⟨_,h0,_⟩ | ⟨g,cur,fr,rfl,hbg,hg,hfr,hnc,hcm,hcs,htake⟩
  ·omega
  ·have hfit:0+news.length<=cur.size:=by rw[hr.1,hcs,Nat.zero_add]; exact Nat.mul_le_mul_right _ hnc
   have hf':=run_firstCells_some (P:=P) w i'.size k ⟨b,p,none⟩ k cc news hr.1 (fun j v hj=>by rw[Addr.add_lit]; exact hc j v hj);have hst:=run_storeCells_cells (P:=P) g 0 news 0 w (fun j hj=>by
     simp only[World.cell?,hg]
     simp; omega) (fun j hj=>by
     simp only[World.frozen?,hg]
     rcases hfr with h | h
     ·simp; omega
     ·simp; omega) hone
   rw[Nat.add_zero,setCells_row g e fr news _ w cur hg hfit]at hst;have hrun':(Builtin.copy_ #[t,t] o.type #[.slice (some ⟨g,0,none⟩) k c,.slice (some ⟨b,p,none⟩) k cc]).run P w=.ok (.int .i64 (k:Int)) (w.setRow g (cur.toList.take 0++news++cur.toList.drop (0+news.length)).toArray):=by
    have hmin:Nat.min k k=k:=Nat.min_self k;simp only[Builtin.copy_,Sem.run_bind]
    simp[run_underlying e1,Builtin.lenOf,TI.run_sizeOf e3,hmin,hf',hst,goInt]
   refine y_value hX ho hd (w':=w.setRow g (cur.toList.take 0++news++cur.toList.drop (0+news.length)).toArray) (v:=.int .i64 (k:Int)) (by simp only[execOp,hop,resolve,invoke,builtin,Sem.run_bind,Sem.run_pure,Result.andThen_ok,List.map_toArray,List.map_cons,List.map_nil,hX.ev hs,hX.ev hx,hrun']) ?_ h;refine hX.sh.turn hf ⟨rfl,rfl,rfl,by simp,fun q hq=>setRow_other w g q _ (fun e'=>by subst e'; exact hbg hq)⟩ (c':=.row (some ⟨g,0,none⟩) c e i'.size k news) ?_ (fun q hq=>.inl hq) fun q _ hq=>setRow_other w g q _ (fun e'=>hq (by subst e'; rfl))
   refine⟨hr.1,.inr ⟨g,_,fr,rfl,hbg,setRow_heap w g cur _ e _ hg,?_,hnc,hcm,?_,?_⟩⟩
   ·rcases hfr with h | h
    ·exact .inl h
    ·exact .inr (by simp; omega)
   ·simp only[List.size_toArray,List.length_append,List.length_take,List.length_drop,Array.length_toList]
    omega
   ·simp only[List.take_zero,List.nil_append,<- hr.1]
    exact List.take_left
theorem y_copyP{s x:Operand} {t e:TypeId} {i i':TI} {A A2:Option Addr} {c k o1 m cc:Nat} {xs news:List Value} (hX:Sym n D L B w0 H a w)
  (hop:o.op=.call { callee:=.builtin .copy,args:=#[s,x],argTypes:=#[t,t] }) (ho:o.guard=none/\o.dst=some d) (hd:Nat.blt d n=true)
  (hT:TabOk P T) (h1:T.lookup t=some i) (h2:i.desc=.slice e) (h3:T.lookup e=some i') (hs:ev L s=some (.slice (cutA A o1 i'.size c) (k - o1) (c - o1))) (hx:ev L x=some (.slice A2 m cc))
  (hf:Foc H (.row A c e i'.size k xs) K) (hr:Reads w A2 m i'.size news) (hone:∀ u∈news,u.oneCell'=true) (hsz:0 < i'.size) (hm:o1+m<=k)
  (h:∀ a' w',Sym n D ((d,.int .i64 (m:Int)) :: L) B w0 (K (.row A c e i'.size k (xs.take (o1 * i'.size)++news++xs.drop (o1 * i'.size+news.length)))) a' w'->KK a' w'):XO P ops o KK a w:=by
 have e1:=(hT _ _ h1).1;rw[h2]at e1;have e3:=hT _ _ h3;have hown:Owns w B e i'.size A c k xs:=hX.sh.ok _ hf.mem
 by_cases hk:m=0
 ·subst hk
  have hn:news=[]:=List.eq_nil_of_length_eq_zero (by simpa using hr.1);subst hn;have hrun':(Builtin.copy_ #[t,t] o.type #[.slice (cutA A o1 i'.size c) (k - o1) (c - o1),.slice A2 0 cc]).run P w=.ok (.int .i64 0) w:=by
   have hfc:(Builtin.firstCells i'.size 0 (.slice A2 0 cc)).run P w=.ok #[] w:=by
    cases A2<;>simp[Builtin.firstCells,loadCells,loadCellsFrom]
   generalize cutA A o1 i'.size c=A'
   cases A'<;>simp[Builtin.copy_,run_underlying e1,Builtin.lenOf,TI.run_sizeOf e3,hfc,storeCells,goInt]
  refine y_value hX ho hd (w':=w) (v:=.int .i64 ((0:Nat):Int)) (by simp[execOp,hop,resolve,invoke,builtin,hX.ev hs,hX.ev hx,hrun']) ?_ h
  have:=hX.sh
  obtain⟨X,Y,rfl,rfl⟩:=hf;rw[List.append_nil,List.length_nil,Nat.add_zero,List.take_append_drop];exact this
 ·obtain⟨b,p,rfl,hc⟩:=hr.2 (by omega)
  rcases hown.2 with⟨_,h0,_⟩ | ⟨g,cur,fr,rfl,hbg,hg,hfr,hnc,hcm,hcs,htake⟩
  ·omega
  ·have hoc:o1≠c:=by omega
   have hcut:cutA (some ⟨g,0,none⟩) o1 i'.size c=some ⟨g,o1 * i'.size,none⟩:=by
    unfold cutA;rw[if_neg (fun e=>hoc e.symm)]
    by_cases h0:o1 * i'.size=0
    ·simp[Addr.add,h0]
    ·simp[Addr.add,h0]
   rw[hcut]at hs;have hmk:(o1+m) * i'.size<=k * i'.size:=Nat.mul_le_mul_right _ hm;have hkc:k * i'.size<=c * i'.size:=Nat.mul_le_mul_right _ hnc;have hfit:o1 * i'.size+news.length<=cur.size:=by
    rw[hr.1,hcs,<- Nat.add_mul];omega
   have hf':=run_firstCells_some (P:=P) w i'.size m ⟨b,p,none⟩ m cc news hr.1 (fun j v hj=>by rw[Addr.add_lit]; exact hc j v hj);have hst:=run_storeCells_cells (P:=P) g (o1 * i'.size) news 0 w (fun j hj=>by
     simp only[World.cell?,hg]
     simp; omega) (fun j hj=>by
     simp only[World.frozen?,hg]
     rcases hfr with h | h
     ·simp; omega
     ·simp; omega) hone
   rw[Nat.add_zero,setCells_row g e fr news _ w cur hg hfit]at hst;have hrun':(Builtin.copy_ #[t,t] o.type #[.slice (some ⟨g,o1 * i'.size,none⟩) (k - o1) (c - o1),.slice (some ⟨b,p,none⟩) m cc]).run P w=.ok (.int .i64 (m:Int)) (w.setRow g (cur.toList.take (o1 * i'.size)++news++cur.toList.drop (o1 * i'.size+news.length)).toArray):=by
    have hmin:Nat.min (k - o1) m=m:=Nat.min_eq_right (by omega);have hmin2:Nat.min m (k - o1)=m:=Nat.min_eq_left (by omega);simp only[Builtin.copy_,Sem.run_bind]
    simp[run_underlying e1,Builtin.lenOf,TI.run_sizeOf e3,hmin,hmin2,hf',hst,goInt]
   refine y_value hX ho hd (w':=w.setRow g (cur.toList.take (o1 * i'.size)++news++cur.toList.drop (o1 * i'.size+news.length)).toArray) (v:=.int .i64 (m:Int)) (by simp only[execOp,hop,resolve,invoke,builtin,Sem.run_bind,Sem.run_pure,Result.andThen_ok,List.map_toArray,List.map_cons,List.map_nil,hX.ev hs,hX.ev hx,hrun']) ?_ h;refine hX.sh.turn hf ⟨rfl,rfl,rfl,by simp,fun q hq=>setRow_other w g q _ (fun e'=>by subst e'; exact hbg hq)⟩ (c':=.row (some ⟨g,0,none⟩) c e i'.size k (xs.take (o1 * i'.size)++news++xs.drop (o1 * i'.size+news.length))) ?_ (fun q hq=>.inl hq) fun q _ hq=>setRow_other w g q _ (fun e'=>hq (by subst e'; rfl))
   have hxl:=hown.1;have hml:m * i'.size=news.length:=hr.1.symm;have hom:o1 * i'.size+news.length<=k * i'.size:=by rw[<- hml,<- Nat.add_mul]; exact hmk
   refine⟨?_,.inr ⟨g,_,fr,rfl,hbg,setRow_heap w g cur _ e _ hg,?_,hnc,hcm,?_,?_⟩⟩
   ·simp only[List.length_append,List.length_take,List.length_drop,hxl]
    omega
   ·rcases hfr with h | h
    ·exact .inl h
    ·exact .inr (by simp only[List.size_toArray,List.length_append,List.length_take,List.length_drop,Array.length_toList]; omega)
   ·simp only[List.size_toArray,List.length_append,List.length_take,List.length_drop,Array.length_toList]
    omega
   ·show(cur.toList.take (o1 * i'.size)++news++cur.toList.drop (o1 * i'.size+news.length)).take (k * i'.size)=_
    have e4:(cur.toList.take (o1 * i'.size)++news).length=o1 * i'.size+news.length:=by
     simp only[List.length_append,List.length_take,Array.length_toList];omega
    rw[List.take_append,List.take_of_length_le (by rw[e4]; exact hom),e4,<- htake,List.take_take,Nat.min_eq_left (by omega),List.drop_take]
end
end Go.Proofs.YtldjgdggcodgeaaGreat
namespace Go.Proofs.YtldjgdggcodgeaaGreat
end Go.Proofs.YtldjgdggcodgeaaGreat
namespace Go.Proofs.YtldjgdggcodgeaaGreat
open Go.RowKit

section
def Ck.isC:Ck->Bool
 | .obj _ _=>false
 | _=>true
theorem Owns.isCells{w:World} {B:Nat->Prop} {e:TypeId} {size c n:Nat} {A:Option Addr} {xs:List Value} (h:Owns w B e size A c n xs) {b:Nat} (hb:A.map (·.block)=some b):∃ cs e fr,w.heap[b]?=some (.cells cs e fr):=by
 rcases h.2 with⟨rfl,_⟩ | ⟨g,cur,fr,rfl,hg,hh,_⟩
 ·cases hb
 ·have:g=b:=Option.some.inj hb
  subst this;exact⟨_,_,_,hh⟩
theorem Ck.ok.cells{B:Nat->Prop} {w:World} {c:Ck} (h:c.ok B w) (hc:c.isC=true) {b:Nat} (hb:c.has b):∃ cs e fr,w.heap[b]?=some (.cells cs e fr):=by
 cases c with
 | obj b' o=>cases hc
 | cel b' cs e=>
  have:b'=b:=Option.some.inj hb
  subst this;exact⟨_,_,_,h.2⟩
 | row A c e size n xs=>exact Owns.isCells h hb
 | tree rs=>
  obtain⟨r,hr,hb⟩:=hb;exact Owns.isCells (h.1 r hr) hb
section
variable {B:Nat->Prop} {w0 w:World}
end
def markOf(k:Nat):Deferred:={ target:=.collected k,args:=#[] }
end

end Go.Proofs.YtldjgdggcodgeaaGreat
namespace Go.Proofs.YtldjgdggcodgeaaGreat
open Go.RowKit
section
variable {r:Option Nat} {P:Program} {ops:Array Oper} {Q:Exit->Act->World->Prop} {o:Oper} {KK:Act->World->Prop} {c:Code}
variable {n:Nat} {D:List Deferred} {L:List (Nat×Value)} {B:Nat->Prop} {w0:World} {H:List Ck} {a:Act} {w:World} {d:Nat}
theorem st_start{N:Nat} {vs:List Value} {fn:Func} (hN:fn.ntmps=N) (hle:vs.length<=N) (L0:List (Nat×Value)) (hL:L0=vs.zipIdx.map fun p=>(p.2,p.1)) :
  St N [] L0 { tmps:=vs.toArray++Array.replicate (fn.ntmps - vs.toArray.size) undef,defers:=[] }:=by
 refine⟨by rw[hN]; exact argsHas vs hle,rfl,fun s v hs=>?_⟩;have key:∀ (vs:List Value) (k:Nat),((vs.zipIdx k).map fun p=>(p.2,p.1)).lookup s=some v->k<=s/\vs[s - k]?=some v:=by
  intro vs
  induction vs with
  | nil=>intro k h; cases h
  | cons u vs ih=>
   intro k h;simp only[List.zipIdx_cons,List.map_cons,List.lookup_cons]at h
   by_cases e:s=k
   ·subst e
    simp at h
    subst h
    simp
   ·have e':(s == k)=false:=by simpa using e
    rw[e']at h;obtain⟨h1,h2⟩:=ih (k+1) h;refine⟨by omega,?_⟩;rw[show s - k=(s - (k+1))+1 by omega,List.getElem?_cons_succ];exact h2
 have h1:=(key vs 0 (by rw[<- hL]; exact hs)).2;simp only[Nat.sub_zero]at h1;have hlt:s < vs.length:=(List.getElem?_eq_some_iff.1 h1).1;show(vs.toArray++_)[s]?=some v;rw[Array.getElem?_append_left (by simpa using hlt)]
 simpa using h1
theorem leaves_marks{fn:Func} {tmps:Array Value} {R:Value->World->Prop} {v:Value} (hres:∀ w,SH B w0 H w->(results fn tmps).run P w=.ok v w) (h:∀ w,SH B w0 H w->R v w) :
  ∀ (ks:List Nat) (w:World),SH B w0 (ks.map (fun k=>Ck.obj k (.deferred (some [])))++H) w->LeavesInM Fence.wide 0 P fn tmps (fun e w'=>∃ v,e=.returned v/\R v w') (ks.map markOf) .returning w
 | [],w,hs=>⟨v,hres w hs,v,rfl,h w hs⟩
 | k :: ks,w,hs=>by
  have hk:=(hs.ok (.obj k (.deferred (some []))) (by simp)).2;refine⟨by simp,.inl ⟨k,_,rfl,run_takeDeferred hk,?_⟩⟩;refine leaves_marks hres h ks _ ?_
  have:=(hs.setO (x':=.deferred none) (K:=fun c=>c :: (ks.map (fun k=>Ck.obj k (.deferred (some [])))++H)) foc0).weak (List.sublist_cons_self _ _)
  exact this
theorem f_retM{fn:Func} {R:Value->World->Prop} {v:Value} (ks:List Nat) (hX:Sym n (ks.map markOf) L B w0 (ks.map (fun k=>Ck.obj k (.deferred (some [])))++H) a w)
  (hres:∀ w,SH B w0 H w->(results fn a.tmps).run P w=.ok v w) (h:∀ w,SH B w0 H w->R v w):bodyPostM Fence.wide 0 P fn (fun e w'=>∃ v,e=.returned v/\R v w') .ret a w:=by
 show LeavesInM _ _ _ _ _ _ a.defers _ _;rw[hX.st.defs];exact leaves_marks hres h ks w hX.sh
end
end Go.Proofs.YtldjgdggcodgeaaGreat
namespace Go.Proofs.YtldjgdggcodgeaaGreat
theorem SH.restB{B:Nat->Prop} {w0 w:World} {H:List Ck} (h:SH B w0 H w) {k:Nat} (hk:B k):Rest w H k:=⟨h.base k hk,fun c hc e=>((h.ok c hc).lt e).1 hk⟩
theorem SH.frame{B:Nat->Prop} {w0 w w':World} {H1 H H1':List Ck} (h:SH B w0 (H1++H) w) (h':SH (Rest w H1) w H1' w'):SH B w0 (H1'++H) w':=by
 have h1:SH B w0 H1 w:=h.weak (List.sublist_append_left _ _);have h2:SH B w0 H w:=h.weak (List.sublist_append_right _ _);have hk:=h1.back h';have hap:=(List.pairwise_append.1 h.apart).2.2;have hr:∀ c∈H,∀ b,c.has b->Rest w H1 b:=fun c hc b e=>⟨((h2.ok c hc).lt e).2,fun d hd e'=>hap d hd c hc b e' e⟩
 refine⟨hk.below,hk.base,fun c hm=>?_,List.pairwise_append.2 ⟨hk.apart,h2.apart,fun c hm d hd b e e'=>?_⟩⟩
 ·rcases List.mem_append.1 hm with hm | hm
  ·exact hk.ok c hm
  ·exact(h2.ok c hm).keep fun b e=>h'.below.block b (hr c hm b e)
 ·exact((h'.ok c hm).lt e).1 (hr d hd b e')
theorem run_callFunc {P : Program} {f : FuncId} {fn : Func} {args : Array Value} {w : World} (hfn : P.funcs[f]? = some fn) (hn : (fn.name == "runtime.NumGoroutine") = false) (hb : fn.body.isNone = false) : (callFunc f args).run P w = .ok (.enter f args) w := by
 have hn' : fn.name ≠ "runtime.NumGoroutine" := by simpa using hn
 have hb':fn.body≠none:=by intro h; rw[h]at hb; cases hb
 simp[callFunc,program,Sem.run,hfn,hn',hb']
end Go.Proofs.YtldjgdggcodgeaaGreat
namespace Go.Proofs.YtldjgdggcodgeaaGreat
end Go.Proofs.YtldjgdggcodgeaaGreat
namespace Go.Proofs.YtldjgdggcodgeaaGreat
open Go.RowKit

section
section
variable {P:Program} {ops:Array Oper} {o:Oper} {KK:Act->World->Prop} {n:Nat} {D:List Deferred} {L:List (Nat×Value)} {B:Nat->Prop} {w0:World} {H:List Ck} {a:Act} {w:World} {d:Nat} {T:List (TypeId×TI)}
theorem run_callV{f:FuncId} {fn:Func} {s:Nat} {lb:List Value} {xs:List Operand} {ts:Array TypeId} {vs:List Value} (hX:Sym n D L B w0 H a w) (hop:o.op=.call { callee:=.value (.tmp s),args:=xs.toArray,argTypes:=ts })
  (hs:L.lookup s=some (.func (.func f) #[] lb.toArray)) (hfn:P.funcs[f]?=some fn)
  (hn : (fn.name == "runtime.NumGoroutine") = false) (hb : fn.body.isNone = false) (hv : evs L xs = some vs) : (execOp a.eval o).run P w = .ok (.enter f (vs ++ lb).toArray) w := by
 have e:a.eval (.tmp s)=.func (.func f) #[] lb.toArray:=hX.ev (x:=.tmp s) hs
 have hn' : fn.name ≠ "runtime.NumGoroutine" := by simpa using hn
 have hb':fn.body≠none:=by intro h; rw[h]at hb; cases hb
 simp[execOp,hop,resolve,e,Deferred.ofValue,invoke,callFunc,program,Sem.run,hfn,hn',hb',hX.st.evs hv]
theorem y_callV{f:FuncId} {fn:Func} {s:Nat} {lb:List Value} {xs:List Operand} {ts:Array TypeId} {vs:List Value} {R:Value->World->Prop} (hX:Sym n D L B w0 H a w)
  (hop:o.op=.call { callee:=.value (.tmp s),args:=xs.toArray,argTypes:=ts }) (ho:o.guard=none/\o.dst=some d) (hd:Nat.blt d n=true) (hs:L.lookup s=some (.func (.func f) #[] lb.toArray))
  (hfn : P.funcs[f]? = some fn) (hn : (fn.name == "runtime.NumGoroutine") = false) (hb : fn.body.isNone = false) (hv : evs L xs = some vs) (hC : Ret P f (vs ++ lb).toArray w R)
  (h:∀ v a' w',R v w'->St n D ((d,v) :: L) a'->KK a' w'):XO P ops o KK a w:=by
 refine .inl ⟨by simp[Region.wanted,ho.1],.inr (.inr ⟨f,(vs++lb).toArray,w,run_callV hX hop hs hfn hn hb hv,?_⟩)⟩;refine Calls.mono hC ?_;rintro e w' ⟨v,rfl,hR⟩;exact⟨v,rfl,h v _ w' hR (by rw[ho.2]; exact hX.st.put d v (zk hd))⟩
theorem SH.toRow{b:Nat} {cs:List Value} {e:TypeId} {size m:Nat} (hH:SH B w0 (.cel b cs e :: H) w) (hl:cs.length=m * size) (hm:m<=140737488355328):SH B w0 (.row (some ⟨b,0,none⟩) m e size m cs :: H) w:=by
 refine⟨hH.below,hH.base,fun c hc=>?_,?_⟩
 ·rcases List.mem_cons.1 hc with rfl | hc
  ·have:=hH.ok _ (List.mem_cons_self)
   exact⟨hl,.inr ⟨b,cs.toArray,(0,0),rfl,this.1,this.2,.inl rfl,Nat.le_refl _,by unfold maxLen; omega,by simpa using hl,by simp[<- hl]⟩⟩
  ·exact hH.ok c (List.mem_cons_of_mem _ hc)
 ·have:=List.pairwise_cons.1 hH.apart
  exact List.Pairwise.cons (fun c hc b e'=>this.1 c hc b (by simpa [Ck.has] using e')) this.2
inductive PutAt:List Value->Nat->List Value->List Value->Prop where
 | nil {l:List Value}:PutAt l 0 [] l
 | cons {c v:Value} {l l' vs:List Value} (h:PutAt l 0 vs l'):PutAt (c :: l) 0 (v :: vs) (v :: l')
 | skip {c:Value} {l l' vs:List Value} {k:Nat} (h:PutAt l k vs l'):PutAt (c :: l) (k+1) vs (c :: l')
theorem PutAt.eq{l l' vs:List Value} {k:Nat} (h:PutAt l k vs l'):l'=l.take k++vs++l.drop (k+vs.length)/\k+vs.length<=l.length:=by
 induction h with
 | nil=>simp
 | cons _ ih=>exact⟨by simp only[Nat.zero_add,List.take_zero,List.nil_append]at ih; rw[ih.1]; simp,by simp only[List.length_cons]at *; omega⟩
 | skip _ ih=>exact⟨by rw[ih.1,show ∀ a b:Nat,a+1+b=(a+b)+1 by omega]; simp,by simp only[List.length_cons]at *; omega⟩
theorem put_fold:∀ (vs:List Value) (l:List Value) (k j:Nat),k+j+vs.length<=l.length ->
  ((vs.zipIdx j).foldl (fun(cs:Array Value) (p:Value×Nat)=>cs.setIfInBounds (k+p.2) p.1) l.toArray)=(l.take (k+j)++vs++l.drop (k+j+vs.length)).toArray
 | [],l,k,j,h=>by simp
 | v :: vs,l,k,j,h=>by
  simp only[List.length_cons]at h;simp only[List.zipIdx_cons,List.foldl_cons];rw[show l.toArray.setIfInBounds (k+j) v=(l.set (k+j) v).toArray by simp];rw[put_fold vs _ k (j+1) (by simp; omega)]
  congr 1
  rw[show k+(j+1)=k+j+1 by omega,List.take_succ_eq_append_getElem (by simp; omega)];simp only[List.getElem_set_self,List.append_assoc,List.length_cons];rw[List.take_set_of_le (by omega),List.drop_set_of_lt (by omega)]
  simp[Nat.add_comm,Nat.add_left_comm]
theorem fill_stepF{pl:Nat->Option (Nat×Nat)} {z z':List Value} {i off size:Nat} {v:Value} {rest:List (Nat×Value)} (hp:pl i=some (off,size)) (hl:v.cells.size=size) (h:PutAt z off v.cells.toList z') :
  Instr.fill pl z.toArray ((i,v) :: rest)=Instr.fill pl z'.toArray rest:=by
 obtain⟨h1,h2⟩:=h.eq;rw[Instr.fill];simp only[hp];simp only[Array.length_toList]at h2 h1;rw[if_neg (by simp[hl]; simp[hl]at h2; omega)]
 congr 1
 have:=put_fold v.cells.toList z off 0 (by simp only[Array.length_toList]; omega)
 rw[h1,<- Array.foldl_toList];simp only[Nat.add_zero,Array.toList_zipIdx,Array.length_toList]at this ⊢;exact this
end
end

end Go.Proofs.YtldjgdggcodgeaaGreat
namespace Go.Proofs.YtldjgdggcodgeaaGreat
open Go.RowKit
theorem bytes_toList_loop(bs:ByteArray):∀ (k i:Nat) (r:List UInt8),bs.size - i=k->ByteArray.toList.loop bs i r=r.reverse++bs.data.toList.drop i:=by
 intro k
 induction k with
 | zero=>
  intro i r h;unfold ByteArray.toList.loop;rw[if_neg (by omega),List.drop_of_length_le (by simp; show bs.size<=i; omega),List.append_nil]
 | succ k ih=>
  intro i r h;have hi:i < bs.size:=by omega
  unfold ByteArray.toList.loop;rw[if_pos hi,ih (i+1) _ (by omega)];have hi':i < bs.data.toList.length:=by simpa using hi
  rw[List.drop_eq_getElem_cons hi']
  have:bs.get! i=bs.data.toList[i]:=by
   simp only[ByteArray.get!,Array.getElem_toList];exact getElem!_pos bs.data i (by simpa using hi)
  simp[this]
theorem bytes_toList(l:List UInt8):(ByteArray.mk l.toArray).toList=l:=by
 unfold ByteArray.toList;rw[bytes_toList_loop _ _ 0 [] rfl]
 simp
def qe(l:List UInt8):Value:=.string ⟨l.toArray⟩
section
variable {P:Program} {ops:Array Oper} {Q:Exit->Act->World->Prop} {o:Oper} {KK:Act->World->Prop} {n:Nat} {D:List Deferred} {L:List (Nat×Value)} {B:Nat->Prop} {w0:World} {H:List Ck} {a:Act} {w:World} {d:Nat} {T:List (TypeId×TI)} {r:Option Nat} {c:Code}
theorem p_eql_S{u v:Operand} {t t':TypeId} {x y:List UInt8} (hS:St n D L a) (hop:o.op=.binOp .eql t u v t') (hu:ev L u=some (qe x)) (hv:ev L v=some (qe y)):PV P o a (.bool (x == y)):=by
 have:=p_eql_s (P:=P) hS hop hu hv
 rw[bytes_toList,bytes_toList]at this;exact this
theorem p_neq_S{u v:Operand} {t t':TypeId} {x y:List UInt8} (hS:St n D L a) (hop:o.op=.binOp .neq t u v t') (hu:ev L u=some (qe x)) (hv:ev L v=some (qe y)):PV P o a (.bool (!(x == y))):=by
 have:=p_neq_s (P:=P) hS hop hu hv
 rw[bytes_toList,bytes_toList]at this;exact this
theorem v_str{u:Operand} {t t' e:TypeId} {i i' i'':TI} {A:Option Addr} {m c:Nat} {l:List UInt8} (hS:St n D L a) (hop:o.op=.convert t t' u) (hT:TabOk P T) (h1:T.lookup t=some i) (h2:T.lookup t'=some i') (h3:i.desc=.slice e) (h4:i'.desc=.string)
  (h5:T.lookup e=some i'') (h6:i''.desc=.int .u8) (hu:ev L u=some (.slice A m c)) (w:World) (hr:Reads w A m 1 (l.map fun c=>Value.int .u8 c.toNat)) :
  (execOp a.eval o).run P w=.ok (.value (qe l)) w:=by
 have e1:=(hT _ _ h1).1;rw[h3]at e1;have e2:=(hT _ _ h2).1;rw[h4]at e2;have e5:=(hT _ _ h5).1;rw[h6]at e5;have hm:l.length=m:=by simpa using hr.1
 subst hm
 have:(convert t t' (.slice A l.length c)).run P w=.ok (qe l) w:=by
  by_cases h0:l.length=0
  ·have hl:l=[]:=List.eq_nil_of_length_eq_zero h0
   subst hl;cases A with
   | none=>simp[convert,run_underlying e1,run_underlying e2,run_underlying e5,Conv.bytesToString,qe]; rfl
   | some ad=>exact run_convert_bytes_back w t t' e ad c [] e1 e5 e2 (fun j hj=>by simp at hj)
  ·obtain⟨b,p,rfl,hc⟩:=hr.2 (by omega)
   exact run_convert_bytes_back w t t' e ⟨b,p,none⟩ c l e1 e5 e2 (fun j hj=>by rw[Addr.add_lit]; exact hc j _ (by simp[hj]))
 simp[execOp,hop,hS.ev hu,this]
end
end Go.Proofs.YtldjgdggcodgeaaGreat
namespace Go.Proofs.YtldjgdggcodgeaaGreat
end Go.Proofs.YtldjgdggcodgeaaGreat
namespace Go.Proofs.YtldjgdggcodgeaaGreat
open Go.RowKit

section
section
variable {P:Program} {ops:Array Oper} {Q:Exit->Act->World->Prop} {o:Oper} {KK:Act->World->Prop} {n:Nat} {D:List Deferred} {L:List (Nat×Value)} {B:Nat->Prop} {w0:World} {H:List Ck} {a:Act} {w:World} {d:Nat} {T:List (TypeId×TI)} {K:Ck->List Ck}
theorem SH.rowAt(hH:SH B w0 H w) {A:Option Addr} {c:Nat} {e:TypeId} {size m:Nat} {xs:List Value} (hf:Foc H (.row A c e size m xs) K) (hm:0 < m):∃ g,A=some ⟨g,0,none⟩:=by
 rcases (hH.ok _ hf.mem).2 with⟨_,h,_⟩ | ⟨g,_,_,h,_⟩
 ·omega
 ·exact⟨g,h⟩
end
end

section
open Go.ChangeShapes Go.WideShapes Go.ChangeAt Go.RowKit
section
variable {H:Type} {enc:TypeId×Value->H} {P:Program}
theorem trodAll_carry(hl:laidOutB P=true) {W W':World} (hb:Below W.heap.size W W') {sp:Nat->Bool} :
  ∀ (ts:List TypeId) (vs:List Value) (ds:List (DataW H)) (ps:List MemPlace),(∀ t∈ts,P.readableRec t=true/\t < P.types.size)->(∀ x∈ps,x.block < W.heap.size)->(∀ x∈ps,sp x.block=true) ->
   DataW.TrodAll enc P W 0 (fun _=>true) true ts vs ds ps->DataW.TrodAll enc P W' 0 sp true ts vs ds ps
 | [],[],[],ps,_,_,_,h=>h
 | t :: ts,v :: vs,d :: ds,ps,hr,hlt,hsp,h=>by
  obtain⟨p,q,h1,h2,rfl⟩:=h;refine⟨p,q,WideElems.Trod_stays hl (hr t (by simp)).1 (hr t (by simp)).2 h1 (fun x hx=>hb.same (hlt x (by simp[hx]))) (fun x hx=>hsp x (by simp[hx])),?_,rfl⟩;exact trodAll_carry hl hb ts vs ds q (fun t' ht=>hr t' (by simp[ht])) (fun x hx=>hlt x (by simp[hx])) (fun x hx=>hsp x (by simp[hx])) h2
 | [],[],_ :: _,_,_,_,_,h=>h.elim
 | [],_ :: _,_,_,_,_,_,h=>h.elim
 | _ :: _,[],_,_,_,_,_,h=>h.elim
 | _ :: _,_ :: _,[],_,_,_,_,h=>h.elim
theorem post_law{f:Func} {s:ChangeSpec} {apart fresh handsOn:Bool} {t:TypeId} {W W':World} {args:Array Value} {ds gs:List (DataW H)} {before:List MemPlace}
  (hW:DataW.Whole enc P f.params.toList s.vars apart W args.toList ds gs before) (hv:s.vars=[]) (hfn:s.fn H (ds++gs)={ results:=[.lit (.bool true)],args:=ds }) (hrt:f.resultTypes=#[t]) (ht:P.underlying t=some .bool)
  (hl:laidOutB P=true) (hread:∀ t∈f.params.toList,P.readableRec t=true/\t < P.types.size) (hb:Below W.heap.size W W'):s.post enc P f apart fresh handsOn false W args (.bool true) W':=by
 have hlt:∀ p∈before,p.block < W.heap.size:=fun p hp=>hW.lt p hp
 have hW':=hW;obtain⟨p,q,h1,h2,rfl,_,_⟩:=hW;rw[hv]at h2;obtain⟨rfl,rfl⟩:=trodVars_none h2;simp only[List.append_nil]at hlt hW' hfn;refine⟨ds,[],p,[],p,[],hW',?_,?_,?_,World.keptBut_mono (fun x hx=>⟨hx,Or.inr (Or.inl hx)⟩) (hb.frame (·∈p)),fun h=>by cases h⟩
 ·simp only[List.append_nil,hfn,hrt]
  exact trodAll_mk1 (shut_bool ht true)
 ·simp only[List.append_nil,hfn]
  exact trodAll_carry hl hb _ _ _ _ hread hlt (fun x hx=>by simpa using hlt x hx) h1
 ·simp only[List.append_nil,hfn,hv]
  rfl
end
end

section
section
variable {P:Program} {ops:Array Oper} {Q:Exit->Act->World->Prop} {o:Oper} {KK:Act->World->Prop} {n:Nat} {D:List Deferred} {L:List (Nat×Value)} {B:Nat->Prop} {w0:World} {H:List Ck} {a:Act} {w:World} {d:Nat} {T:List (TypeId×TI)} {K:Ck->List Ck}
end
theorem flat_length{α:Type} (f:α->List Value) (s:Nat) (hf:∀ x,(f x).length=s) (l:List α):(l.flatMap f).length=l.length * s:=by
 induction l with
 | nil=>simp
 | cons x l ih=>rw[List.flatMap_cons,List.length_append,ih,hf,List.length_cons,Nat.add_mul]; omega
theorem flat_get{α:Type} (f:α->List Value) (s:Nat) (hf:∀ x,(f x).length=s) (l:List α) (k j:Nat) (hk:k < l.length) (v:Value) (hv:(f l[k])[j]?=some v):(l.flatMap f)[k * s+j]?=some v:=by
 induction l generalizing k with
 | nil=>simp at hk
 | cons x l ih=>
  have hx:=hf x;cases k with
  | zero=>
   have hj:=(List.getElem?_eq_some_iff.1 hv).1;rw[List.flatMap_cons,List.getElem?_append_left (by simp only[List.getElem_cons_zero]at hj; omega)]
   simpa using hv
  | succ k=>
   have:=ih k (by simpa using hk) (by simpa using hv)
   rw[List.flatMap_cons,List.getElem?_append_right (by rw[hx,Nat.add_mul]; omega),hx,show(k+1) * s+j - s=k * s+j by rw[Nat.add_mul]; omega];exact this
theorem Reads.rowM{B:Nat->Prop} {w0 w:World} {H:List Ck} (hH:SH B w0 H w) {A:Option Addr} {c:Nat} {e:TypeId} {size n:Nat} {xs:List Value} (hm:Ck.row A c e size n xs∈H):Reads w A n size xs:=by
 obtain⟨X,Y,rfl⟩:=List.append_of_mem hm;exact Reads.row hH (K:=fun c=>X++c :: Y) ⟨X,Y,rfl,rfl⟩
end

section
open Go.ChangeShapes Go.WideShapes Go.ChangeAt Go.RowKit
section
variable {H:Type} {enc:TypeId×Value->H} {P:Program} {W:World}
theorem spot_none{a:Addr} {v:Value} (h:W.cell? a=some v):a=⟨a.block,a.off,none⟩:=by
 obtain⟨b,p,s⟩:=a;cases s with
 | none=>rfl
 | some s=>
  exfalso
  simp only[World.cell?]at h
  split at h<;>simp at h
theorem choose_list{α:Type} {Q:Nat->α->Prop}:∀ n:Nat,(∀ i,i < n->∃ x,Q i x)->∃ l:List α,l.length=n/\∀ i (hi:i < l.length),Q i l[i]
 | 0,_=>⟨[],rfl,fun i hi=>by simp at hi⟩
 | n+1,h=>by
  obtain⟨l,hl,hq⟩:=choose_list n (fun i hi=>h i (by omega));obtain⟨x,hx⟩:=h n (by omega);refine⟨l++[x],by simp[hl],fun i hi=>?_⟩
  by_cases hi':i < l.length
  ·rw[List.getElem_append_left hi']; exact hq i hi'
  ·have:i=n:=by simp at hi; omega
   subst this;rw[List.getElem_append_right (by omega)]
   simpa [hl] using hx
end
end

section
section
variable {P:Program} {ops:Array Oper} {Q:Exit->Act->World->Prop} {o:Oper} {KK:Act->World->Prop} {n:Nat} {D:List Deferred} {L:List (Nat×Value)} {B:Nat->Prop} {w0:World} {H:List Ck} {a:Act} {w:World} {d:Nat} {T:List (TypeId×TI)} {K:Ck->List Ck}
theorem p_slice3n{u y v:Operand} {t e:TypeId} {i i':TI} {A:Option Addr} {m c h q:Nat} {k' k'':IntKind} {z' z'':Int} (hS:St n D L a) (hop:o.op=.slice t u none (some y) (some v))
  (hT:TabOk P T) (h1:T.lookup t=some i) (h2:i.desc=.slice e) (h3:T.lookup e=some i') (hu:ev L u=some (.slice A m c)) (hy:ev L y=some (.int k' z')) (hv:ev L v=some (.int k'' z'')) (hz':z'=(h:Int)) (hz'':z''=(q:Int)) (hh:h<=q) (hq:q<=c) :
  PV P o a (.slice A h q):=fun w=>by
 subst hz'; subst hz'';have e1:=(hT _ _ h1).1;rw[h2]at e1
 simp[execOp,hop,hS.ev hu,hS.ev hy,hS.ev hv,Instr.sliceAt,Instr.slice,Instr.sliceBounds,Instr.sliceBound,asIntOf,run_underlying e1,TI.run_sizeOf (hT _ _ h3),hh,hq]
 by_cases hc:q=0
 ·simp[hc]
 ·cases A with
  | none=>simp
  | some ad=>simp[Addr.add]
theorem y_append_new{s x:Operand} {t e:TypeId} {i i':TI} {b p b2 p2 c k m cc:Nat} {xs news:List Value} (hX:Sym n D L B w0 H a w)
  (hop:o.op=.call { callee:=.builtin .append,args:=#[s,x],argTypes:=#[t,t] }) (ho:o.guard=none/\o.dst=some d) (hd:Nat.blt d n=true)
  (hT:TabOk P T) (h1:T.lookup t=some i) (h2:i.desc=.slice e) (h3:T.lookup e=some i') (h4:Nat.blt 0 i'.size=true) (h5:i'.zero.cells.size=i'.size) (hs:ev L s=some (.slice (some ⟨b,p,none⟩) k c)) (hx:ev L x=some (.slice (some ⟨b2,p2,none⟩) m cc))
  (hk:0 < k) (hm:0 < m) (hr1:Reads w (some ⟨b,p,none⟩) k i'.size xs) (hr:Reads w (some ⟨b2,p2,none⟩) m i'.size news) (hgrow:c < k+m) (hb1:(k+m) * i'.bytes<=140737488355328) (hb2:k+m<=140737488355328)
  (h:∀ g c' a' w',Sym n D ((d,.slice (some ⟨g,0,none⟩) (k+m) c') :: L) B w0 (.row (some ⟨g,0,none⟩) c' e i'.size (k+m) (xs++news) :: H) a' w'->KK a' w'):XO P ops o KK a w:=by
 have e1:=(hT _ _ h1).1;rw[h2]at e1;have e3:=hT _ _ h3;obtain⟨inf,hinf,hs1,hs2,hs3⟩:=TI.info e3;obtain⟨b',p',e',hc1⟩:=hr1.2 hk;cases e';obtain⟨b',p',e',hc2⟩:=hr.2 hm;cases e';have hlen:(xs++news).length=(k+m) * i'.size:=by rw[List.length_append,hr1.1,hr.1,Nat.add_mul]
 have hrun:=run_append_grow (P:=P) w t o.type e inf i'.zero e1 hinf hs3 ⟨b,p,none⟩ k c xs (by rw[hr1.1,hs1]) (fun j u hu=>by rw[Addr.add_lit]; exact hc1 j u hu) ⟨b2,p2,none⟩ m cc news (by rw[hr.1,hs1]) (fun j u hu=>by rw[Addr.add_lit]; exact hc2 j u hu) (by omega) (by omega) (growslice_fits (by omega) (by rw[hs2]; exact hb1));have hge:=grownCap_ge w (k+m) c e;have hcm:grownCap w (k+m) c e<=maxLen:=grownCap_le_maxLen w (k+m) c e (by simp only[maxLen]; omega);refine y_value hX ho hd (v:=.slice (some ⟨w.heap.size,0,none⟩) (k+m) (grownCap w (k+m) c e)) (w':=w.drew.alloc (.cells (xs.toArray++news.toArray++Builtin.zeroCells i'.zero.cells (grownCap w (k+m) c e - (k+m))) e)) (by simp[execOp,hop,resolve,invoke,builtin,hX.ev hs,hX.ev hx,hrun]) ?_ (h w.heap.size (grownCap w (k+m) c e));have hd1:=hX.sh.drew;have ha:=hd1.alloc (.cells (xs.toArray++news.toArray++Builtin.zeroCells i'.zero.cells (grownCap w (k+m) c e - (k+m))) e);have hp:=List.pairwise_cons.1 ha.apart;refine⟨ha.below,ha.base,fun ck hck=>?_,List.Pairwise.cons (fun ck hck q e'=>hp.1 ck hck q (by simpa [Ck.has] using e')) hp.2⟩
 rcases List.mem_cons.1 hck with rfl | hck
 ·refine⟨hlen,.inr ⟨w.heap.size,_,(0,0),rfl,hX.sh.fresh,heap_alloc_new w.drew _,.inl rfl,hge,hcm,?_,?_⟩⟩
  ·simp only[Array.size_append,List.size_toArray,size_zeroCells,h5,hr1.1,hr.1,<- Nat.add_mul]
   congr 1
   omega
  ·simp only[Array.toList_append,List.append_assoc]
   rw[<- List.append_assoc,<- hlen];exact List.take_left
 ·exact ha.ok ck (List.mem_cons_of_mem _ hck)
end
end

inductive GTy where
 | int (k:IntKind)
 | bool
 | str
 | sl (g:GTy)
 | csl (g:GTy)
 | unit
 | pair (g h:GTy)
 deriving DecidableEq
abbrev GTy.D:GTy->Type
 | .int _=>Int
 | .bool=>Bool
 | .str=>List UInt8
 | .sl g=>List g.D
 | .csl g=>List g.D
 | .unit=>Unit
 | .pair g h=>g.D×h.D
def GTy.size:GTy->Nat
 | .pair g h=>g.size+h.size
 | .unit=>0
 | _=>1
abbrev GTy.zero:(g:GTy)->g.D
 | .int _=>(0:Int)
 | .bool=>false
 | .str=>([]:List UInt8)
 | .sl g=>([]:List g.D)
 | .csl g=>([]:List g.D)
 | .unit=>()
 | .pair g h=>(g.zero,h.zero)
def Flat{α:Type} (R:α->List Value->Prop):List α->List Value->Prop
 | [],vs=>vs=[]
 | x :: l,vs=>∃ v1 v2,vs=v1++v2/\R x v1/\Flat R l v2
def RB(B:Nat->Prop) (w:World) (A:Option Addr) (m size:Nat) (vs:List Value):Prop:=Reads w A m size vs/\∀ b p,0 < m->A=some ⟨b,p,none⟩->B b
def FR(B:Nat->Prop) (w:World):(g:GTy)->g.D->List Value->Prop
 | .int k=>fun(x:Int) vs=>vs=[.int k x]
 | .bool=>fun(x:Bool) vs=>vs=[.bool x]
 | .str=>fun(x:List UInt8) vs=>vs=[qe x]
 | .sl g=>fun(l:List g.D) vs=>∃ A c xs,vs=[.slice A l.length c]/\l.length<=c/\c<=maxLen/\Flat (FR B w g) l xs/\RB B w A l.length g.size xs
 | .csl g=>fun(l:List g.D) vs=>∃ A xs,vs=[.slice A l.length l.length]/\l.length<=maxLen/\Flat (FR B w g) l xs/\RB B w A l.length g.size xs
 | .unit=>fun _ vs=>vs=[]
 | .pair g h=>fun(x:g.D×h.D) vs=>∃ v1 v2,vs=v1++v2/\FR B w g x.1 v1/\FR B w h x.2 v2
theorem Flat.mono{α:Type} {R R':α->List Value->Prop} (h:∀ x vs,R x vs->R' x vs):∀ {l:List α} {vs:List Value},Flat R l vs->Flat R' l vs
 | [],_,hf=>hf
 | _ :: _,_,⟨v1,v2,e,h1,h2⟩=>⟨v1,v2,e,h _ _ h1,Flat.mono h h2⟩
theorem Flat.length{α:Type} {R:α->List Value->Prop} {k:Nat} (h:∀ x vs,R x vs->vs.length=k):∀ {l:List α} {vs:List Value},Flat R l vs->vs.length=l.length * k
 | [],_,hf=>by rw[show _=[] from hf]; simp
 | _ :: l,_,⟨v1,v2,e,h1,h2⟩=>by
  rw[e,List.length_append,h _ _ h1,Flat.length h h2,List.length_cons,Nat.add_mul,Nat.one_mul,Nat.add_comm]
theorem Flat.append{α:Type} {R:α->List Value->Prop}:∀ {l l':List α} {vs vs':List Value},Flat R l vs->Flat R l' vs'->Flat R (l++l') (vs++vs')
 | [],_,_,_,h,h'=>by rw[show _=[] from h]; exact h'
 | _ :: l,_,_,_,⟨v1,v2,e,h1,h2⟩,h'=>⟨v1,_,by rw[e,List.append_assoc],h1,Flat.append h2 h'⟩
theorem Flat.split{α:Type} {R:α->List Value->Prop} {k:Nat} (h:∀ x vs,R x vs->vs.length=k):∀ {l:List α} {vs:List Value} (n:Nat),Flat R l vs->Flat R (l.take n) (vs.take (n * k))/\Flat R (l.drop n) (vs.drop (n * k))
 | [],vs,n,hf=>by rw[show vs=[] from hf]; simp[Flat]
 | x :: l,vs,0,hf=>by simp only[List.take_zero,Nat.zero_mul,List.drop_zero]; exact⟨rfl,hf⟩
 | x :: l,vs,n+1,⟨v1,v2,e,h1,h2⟩=>by
  obtain⟨ha,hb⟩:=Flat.split h n h2;have hk:=h _ _ h1;have e1:(v1++v2).take ((n+1) * k)=v1++v2.take (n * k):=by
   rw[List.take_append,List.take_of_length_le (by rw[hk,Nat.add_mul]; omega),hk]
   congr 2
   rw[Nat.add_mul]; omega
  have e2:(v1++v2).drop ((n+1) * k)=v2.drop (n * k):=by
   rw[List.drop_append,List.drop_of_length_le (by rw[hk,Nat.add_mul]; omega),hk,List.nil_append]
   congr 1
   rw[Nat.add_mul]; omega
  rw[e,e1,e2];exact⟨⟨v1,_,rfl,h1,ha⟩,hb⟩
theorem Flat.get{α:Type} {R:α->List Value->Prop} {k:Nat} (h:∀ x vs,R x vs->vs.length=k) {l:List α} {vs:List Value} (hf:Flat R l vs) {i:Nat} {x:α} (hi:l[i]?=some x):R x ((vs.drop (i * k)).take k):=by
 obtain⟨_,h2⟩:=Flat.split h i hf;have hlt:i < l.length:=(List.getElem?_eq_some_iff.1 hi).1;have e:l.drop i=x :: l.drop (i+1):=by
  rw[List.drop_eq_getElem_cons hlt,(List.getElem?_eq_some_iff.1 hi).2]
 rw[e]at h2;obtain⟨v1,v2,e2,h3,_⟩:=h2;rw[e2,List.take_append,List.take_of_length_le (by rw[h _ _ h3]; exact Nat.le_refl _),h _ _ h3,Nat.sub_self,List.take_zero,List.append_nil];exact h3
theorem Flat.set{α:Type} {R:α->List Value->Prop} {k:Nat} (h:∀ x vs,R x vs->vs.length=k) {l:List α} {vs:List Value} (hf:Flat R l vs) {i:Nat} (hi:i < l.length) {x:α} {us:List Value} (hx:R x us) :
  Flat R (l.set i x) (vs.take (i * k)++us++vs.drop (i * k+k)):=by
 obtain⟨h1,_⟩:=Flat.split h i hf;obtain⟨_,h2⟩:=Flat.split h (i+1) hf;rw[List.set_eq_take_append_cons_drop,if_pos hi,List.append_assoc];refine h1.append ⟨us,_,rfl,hx,?_⟩;rw[Nat.add_mul,Nat.one_mul]at h2;exact h2
theorem FR.length{B:Nat->Prop} {w:World}:∀ {g:GTy} {x:g.D} {vs:List Value},FR B w g x vs->vs.length=g.size
 | .int _,_,_,h=>by rw[show _=[_] from h]; rfl
 | .bool,_,_,h=>by rw[show _=[_] from h]; rfl
 | .str,_,_,h=>by rw[show _=[_] from h]; rfl
 | .sl _,_,_,⟨_,_,_,h,_⟩=>by rw[h]; rfl
 | .csl _,_,_,⟨_,_,h,_⟩=>by rw[h]; rfl
 | .unit,_,_,h=>by rw[show _=[] from h]; rfl
 | .pair g h,_,_,⟨v1,v2,e,h1,h2⟩=>by rw[e,List.length_append,FR.length h1,FR.length h2]; rfl
theorem FR.flat_length{B:Nat->Prop} {w:World} {g:GTy} {l:List g.D} {vs:List Value} (h:Flat (FR B w g) l vs):vs.length=l.length * g.size:=Flat.length (fun _ _=>FR.length) h
def FRe(el:Bool) (B:Nat->Prop) (w:World) (g:GTy) (x:List g.D) (vs:List Value):Prop:=match el with
 | true=>FR B w (.csl g) x vs
 | false=>FR B w (.sl g) x vs
theorem FRe.length{el:Bool} {B:Nat->Prop} {w:World} {g:GTy} {x:List g.D} {vs:List Value} (h:FRe el B w g x vs):vs.length=1:=by
 cases el with
 | true=>exact FR.length (g:=.csl g) h
 | false=>exact FR.length (g:=.sl g) h
theorem FRe.flat_length{el:Bool} {B:Nat->Prop} {w:World} {g:GTy} {l:List (List g.D)} {vs:List Value} (h:Flat (FRe el B w g) l vs):vs.length=l.length:=by
 have:=Flat.length (fun _ _=>FRe.length) h
 omega
structure Up(B:Nat->Prop) (w:World) (B':Nat->Prop) (w':World):Prop where
 sub:∀ k,B k->B' k
 same:∀ k,B k->w'.heap[k]?=w.heap[k]?
theorem Up.cell{B B':Nat->Prop} {w w':World} (h:Up B w B' w') {b o:Nat} (hb:B b):w'.cell? ⟨b,o,none⟩=w.cell? ⟨b,o,none⟩:=World.cell?_of_block (h.same b hb)
theorem RB.up{B B':Nat->Prop} {w w':World} (h:Up B w B' w') {A:Option Addr} {m size:Nat} {vs:List Value} (hr:RB B w A m size vs):RB B' w' A m size vs:=by
 refine⟨⟨hr.1.1,fun hm=>?_⟩,fun b p hm e=>h.sub b (hr.2 b p hm e)⟩;obtain⟨b,p,e,hc⟩:=hr.1.2 hm;exact⟨b,p,e,fun j u hu=>by rw[h.cell (hr.2 b p hm e)]; exact hc j u hu⟩
theorem FR.up{B B':Nat->Prop} {w w':World} (h:Up B w B' w'):∀ {g:GTy} {x:g.D} {vs:List Value},FR B w g x vs->FR B' w' g x vs
 | .int _,_,_,hf=>hf
 | .bool,_,_,hf=>hf
 | .str,_,_,hf=>hf
 | .sl _,_,_,⟨A,c,xs,e,h1,h2,h3,h4⟩=>⟨A,c,xs,e,h1,h2,Flat.mono (fun _ _=>FR.up h) h3,h4.up h⟩
 | .csl _,_,_,⟨A,xs,e,h2,h3,h4⟩=>⟨A,xs,e,h2,Flat.mono (fun _ _=>FR.up h) h3,h4.up h⟩
 | .unit,_,_,hf=>hf
 | .pair _ _,_,_,⟨v1,v2,e,h1,h2⟩=>⟨v1,v2,e,FR.up h h1,FR.up h h2⟩
theorem FRe.up{B B':Nat->Prop} {w w':World} (h:Up B w B' w') {el:Bool} {g:GTy} {x:List g.D} {vs:List Value} (hf:FRe el B w g x vs):FRe el B' w' g x vs:=by
 cases el with
 | true=>exact FR.up (g:=.csl g) h hf
 | false=>exact FR.up (g:=.sl g) h hf
inductive Cap where
 | id (i:Nat)
 | fz (g:GTy) (x:g.D)
inductive SC where
 | val (v:Value)
 | str (s:List UInt8)
 | dead
 | ptr (id off:Nat)
 | elt (id sz i off:Nat)
 | pel (g:GTy) (x:g.D) (off:Nat)
 | par (g:GTy) (l:List g.D)
 | sl (id:Nat)
 | lst (g:GTy) (l:List g.D) (cap:Option Nat)
 | fn (f:FuncId) (ids:List Cap)
 | mref (id:Nat)
 | bfn (f:FuncId) (id:Nat)
 | nel (id o:Nat)
 | slp (id s o:Nat)
 | cpo (id:Nat)
 | slf (b:Bool) (id:Nat)
inductive SA where
 | c (x:SC)
 | agg (cs:List SC)
 | arr (g:GTy) (l:List g.D)
inductive SV where
 | a (x:SA)
 | may (g:Bool) (x:SA)
 | tup (vs:List SA)
abbrev SV.c (x:SC):SV:=.a (.c x)
inductive Loc where
 | no
 | blk (b:Nat)
 | row (A:Option Addr) (c n:Nat)
def At(B:Nat->Prop) (w:World) (g:GTy) (x:g.D) (b o:Nat):Prop:=B b/\∃ vs,FR B w g x vs/\∀ j u,vs[j]?=some u->w.cell? ⟨b,o+j,none⟩=some u
def capR(env:Nat->Loc) (B:Nat->Prop) (w:World):Cap->Value->Prop
 | .id i,v=>∃ b,env i=.blk b/\v=.pointer (some ⟨b,0,none⟩)
 | .fz g x,v=>∃ b o,v=.pointer (some ⟨b,o,none⟩)/\At B w g x b o
def ptrs(env:Nat->Loc) (B:Nat->Prop) (w:World):List Cap->List Value->Prop
 | [],vs=>vs=[]
 | c :: cs,vs=>∃ v r,vs=v :: r/\capR env B w c v/\ptrs env B w cs r
def CR(env:Nat->Loc) (B:Nat->Prop) (w:World):SC->Value->Prop
 | .val v,u=>u=v
 | .str s,u=>u=qe s
 | .dead,_=>True
 | .ptr id off,u=>∃ b,env id=.blk b/\u=.pointer (some ⟨b,off,none⟩)
 | .elt id sz i off,u=>∃ b c n,env id=.row (some ⟨b,0,none⟩) c n/\u=.pointer (some ⟨b,i * sz+off,none⟩)
 | .pel g x off,u=>∃ b o,u=.pointer (some ⟨b,o+off,none⟩)/\At B w g x b o
 | .par g l,u=>∃ b o vs,u=.pointer (some ⟨b,o,none⟩)/\B b/\Flat (FR B w g) l vs/\∀ j u,vs[j]?=some u->w.cell? ⟨b,o+j,none⟩=some u
 | .sl id,u=>∃ A c n,env id=.row A c n/\u=.slice A n c
 | .lst g l cap,u=>∃ A c xs,u=.slice A l.length c/\l.length<=c/\c<=maxLen/\(∀ k,cap=some k->c=k)/\Flat (FR B w g) l xs/\RB B w A l.length g.size xs
 | .fn f ids,u=>∃ vs,u=.func (.func f) #[] vs.toArray/\ptrs env B w ids vs
 | .mref id,u=>∃ b,env id=.blk b/\u=.map (some b)
 | .bfn f id,u=>∃ b,env id=.blk b/\u=.func (.func f) #[.pointer (some ⟨b,0,none⟩)] #[]
 | .slp id s o,u=>∃ A c n,env id=.row A c n/\o<=n/\u=.slice (cutA A o s c) (n - o) (c - o)
 | .cpo id,u=>∃ A c n,env id=.row A c n/\u=.int .i64 (c:Int)
 | .nel id o,u=>∃ b c n,env id=.row (some ⟨b,0,none⟩) c n/\u=.pointer (some ⟨b,o,none⟩)
 | .slf b id,u=>∃ k,(b=true->env id=.blk k)/\u=.pointer (if b then some ⟨k,0,none⟩else none)
def CsR(env:Nat->Loc) (B:Nat->Prop) (w:World):List SC->List Value->Prop
 | [],vs=>vs=[]
 | c :: cs,vs=>∃ v r,vs=v :: r/\CR env B w c v/\CsR env B w cs r
def SaR(env:Nat->Loc) (B:Nat->Prop) (w:World):SA->Value->Prop
 | .c x,v=>CR env B w x v
 | .agg cs,v=>∃ vs,v=.agg vs.toArray/\CsR env B w cs vs
 | .arr g l,v=>∃ vs,v=.agg vs.toArray/\Flat (FR B w g) l vs
def SasR(env:Nat->Loc) (B:Nat->Prop) (w:World):List SA->List Value->Prop
 | [],vs=>vs=[]
 | c :: cs,vs=>∃ v r,vs=v :: r/\SaR env B w c v/\SasR env B w cs r
def VR(env:Nat->Loc) (B:Nat->Prop) (w:World):SV->Value->Prop
 | .a x,v=>SaR env B w x v
 | .may g x,v=>(g=true->SaR env B w x v)/\(g=false->v=undef)
 | .tup xs,v=>∃ vs,v=.tuple vs.toArray/\SasR env B w xs vs
theorem At.up{B B':Nat->Prop} {w w':World} (h:Up B w B' w') {g:GTy} {x:g.D} {b o:Nat} (ha:At B w g x b o):At B' w' g x b o:=by
 obtain⟨hb,vs,h1,h2⟩:=ha;exact⟨h.sub b hb,vs,FR.up h h1,fun j u hu=>by rw[h.cell hb]; exact h2 j u hu⟩
theorem ptrs.up{env:Nat->Loc} {B B':Nat->Prop} {w w':World} (h:Up B w B' w'):∀ {cs:List Cap} {vs:List Value},ptrs env B w cs vs->ptrs env B' w' cs vs
 | [],_,hc=>hc
 | .id _ :: _,_,⟨v,r,e,h1,h2⟩=>⟨v,r,e,h1,ptrs.up h h2⟩
 | .fz _ _ :: _,_,⟨v,r,e,⟨b,o,h1,h3⟩,h2⟩=>⟨v,r,e,⟨b,o,h1,h3.up h⟩,ptrs.up h h2⟩
theorem CR.up{env:Nat->Loc} {B B':Nat->Prop} {w w':World} (h:Up B w B' w'):∀ {c:SC} {v:Value},CR env B w c v->CR env B' w' c v
 | .val _,_,hc=>hc
 | .str _,_,hc=>hc
 | .dead,_,hc=>hc
 | .ptr _ _,_,hc=>hc
 | .elt _ _ _ _,_,hc=>hc
 | .pel _ _ _,_,⟨b,o,e,ha⟩=>⟨b,o,e,ha.up h⟩
 | .par _ _,_,⟨b,o,vs,e,hb,h1,h2⟩=>⟨b,o,vs,e,h.sub b hb,Flat.mono (fun _ _=>FR.up h) h1,fun j u hu=>by rw[h.cell hb]; exact h2 j u hu⟩
 | .sl _,_,hc=>hc
 | .lst _ _ _,_,⟨A,c,xs,e,h1,h2,h3,h4,h5⟩=>⟨A,c,xs,e,h1,h2,h3,Flat.mono (fun _ _=>FR.up h) h4,h5.up h⟩
 | .fn _ _,_,⟨vs,e,hp⟩=>⟨vs,e,hp.up h⟩
 | .mref _,_,hc=>hc
 | .bfn _ _,_,hc=>hc
 | .nel _ _,_,hc=>hc
 | .slp _ _ _,_,hc=>hc
 | .cpo _,_,hc=>hc
 | .slf _ _,_,hc=>hc
theorem CsR.up{env:Nat->Loc} {B B':Nat->Prop} {w w':World} (h:Up B w B' w'):∀ {c:List SC} {v:List Value},CsR env B w c v->CsR env B' w' c v
 | [],_,hc=>hc
 | _ :: _,_,⟨v,r,e,h1,h2⟩=>⟨v,r,e,h1.up h,CsR.up h h2⟩
theorem SaR.up{env:Nat->Loc} {B B':Nat->Prop} {w w':World} (h:Up B w B' w'):∀ {c:SA} {v:Value},SaR env B w c v->SaR env B' w' c v
 | .c _,_,hc=>CR.up h hc
 | .agg _,_,⟨vs,e,h1⟩=>⟨vs,e,h1.up h⟩
 | .arr _ _,_,⟨vs,e,h1⟩=>⟨vs,e,Flat.mono (fun _ _=>FR.up h) h1⟩
theorem SasR.up{env:Nat->Loc} {B B':Nat->Prop} {w w':World} (h:Up B w B' w'):∀ {c:List SA} {v:List Value},SasR env B w c v->SasR env B' w' c v
 | [],_,hc=>hc
 | _ :: _,_,⟨v,r,e,h1,h2⟩=>⟨v,r,e,h1.up h,SasR.up h h2⟩
theorem VR.up{env:Nat->Loc} {B B':Nat->Prop} {w w':World} (h:Up B w B' w'):∀ {c:SV} {v:Value},VR env B w c v->VR env B' w' c v
 | .a _,_,hc=>SaR.up h hc
 | .may _ _,_,hc=>⟨fun hg=>(hc.1 hg).up h,hc.2⟩
 | .tup _,_,⟨vs,e,h1⟩=>⟨vs,e,h1.up h⟩

section
structure TE where
 ti:TI
 g:Option GTy
def GTy.zeros:GTy->List Value
 | .int k=>[.int k 0]
 | .bool=>[.bool false]
 | .str=>[qe []]
 | .sl _=>[.slice none 0 0]
 | .csl _=>[.slice none 0 0]
 | .unit=>[]
 | .pair g h=>g.zeros++h.zeros
structure TE.ok(P:Program) (t:TypeId) (e:TE):Prop where
 ti:TI.ok P t e.ti
 g:∀ g,e.g=some g->g.size=e.ti.size/\e.ti.zero.cells.toList=g.zeros/\0 < g.size
inductive TT where
 | leaf
 | node (l:TT) (k:TypeId) (e:TE) (r:TT)
def TT.find:TT->TypeId->Option TE
 | .leaf,_=>none
 | .node l k e r,t=>match Nat.blt t k with
  | true=>l.find t
  | false=>match Nat.beq t k with
   | true=>some e
   | false=>r.find t
def TT.ok(P:Program):TT->Prop
 | .leaf=>True
 | .node l k e r=>l.ok P/\TE.ok P k e/\r.ok P
theorem TT.get{P:Program}:∀ {tt:TT} {t:TypeId} {e:TE},tt.ok P->tt.find t=some e->TE.ok P t e
 | .leaf,_,_,_,h=>by cases h
 | .node l k e' r,t,e,⟨h1,h2,h3⟩,h=>by
  unfold TT.find at h
  split at h
  ·exact TT.get h1 h
  ·split at h
   ·rename_i hk
    have:t=k:=Nat.eq_of_beq_eq_true hk
    subst this;cases h;exact h2
   ·exact TT.get h3 h
theorem TI.uniq{P:Program} {t:TypeId} {i j:TI} (h:TI.ok P t i) (k:TI.ok P t j):i=j:=by
 obtain⟨i1,i2,i3,i4⟩:=i;obtain⟨j1,j2,j3,j4⟩:=j;have h1:=h.1.symm.trans k.1;have h2:=h.2.symm.trans k.2;simp only[Option.some.injEq,Prod.mk.injEq]at h1 h2;obtain⟨rfl,rfl,rfl⟩:=h2;subst h1
 rfl
theorem tab1{P:Program} {t:TypeId} {i:TI} (h:TI.ok P t i):∃ T,TabOk P T/\T.lookup t=some i:=⟨[(t,i)],TabOk.cons h (TabOk.nil _),by simp⟩
theorem tab2{P:Program} {t e:TypeId} {i j:TI} (h:TI.ok P t i) (k:TI.ok P e j):∃ T,TabOk P T/\T.lookup t=some i/\T.lookup e=some j:=by
 refine⟨[(t,i),(e,j)],TabOk.cons h (TabOk.cons k (TabOk.nil _)),by simp,?_⟩
 by_cases he:e=t
 ·subst he
  rw[TI.uniq h k]
  simp
 ·simp[List.lookup_cons,beq_false_of_ne he]
theorem tab3{P:Program} {t e f:TypeId} {i j l:TI} (h:TI.ok P t i) (k:TI.ok P e j) (m:TI.ok P f l):∃ T,TabOk P T/\T.lookup t=some i/\T.lookup e=some j/\T.lookup f=some l:=by
 refine⟨[(t,i),(e,j),(f,l)],TabOk.cons h (TabOk.cons k (TabOk.cons m (TabOk.nil _))),by simp,?_,?_⟩
 ·by_cases he:e=t
  ·subst he
   rw[TI.uniq h k]
   simp
  ·simp[List.lookup_cons,beq_false_of_ne he]
 ·by_cases hf:f=t
  ·subst hf
   rw[TI.uniq h m]
   simp
  ·by_cases hf2:f=e
   ·subst hf2
    rw[TI.uniq k m]
    simp[List.lookup_cons,beq_false_of_ne hf]
   ·simp[List.lookup_cons,beq_false_of_ne hf,beq_false_of_ne hf2]
inductive Blk where
 | cells (t:TypeId) (cs:List SC)
 | row (t:TypeId) (g:GTy) (l:List g.D) (cap:Option Nat)
 | sit (s:ByteArray) (pos:Nat)
 | mp (gk gv:GTy) (l:List (gk.D×gv.D)) (o:Option (List MapEntry×Nat))
 | it (mid:Nat) (es:List MapEntry) (clock:Nat) (ps:List Nat)
 | junk
 | hrow (el:Bool) (t:TypeId) (g:GTy) (l:List (List g.D)) (cap:Option Nat) (i d:Nat)
 | rjunk
 | lrow (t:TypeId) (g:GTy) (l:List g.D)
 | mrow (t t':TypeId) (g:GTy) (l:List (Bool×List g.D)) (cap:Option Nat) (h:Option (Nat×Option Nat))
abbrev Hp:=List (Nat×Blk)
abbrev Sl:=List (Nat×SV)
structure ASt where
 L:Sl
 H:Hp
def lk{α:Type}:List (Nat×α)->Nat->Option α
 | [],_=>none
 | (k,v) :: r,s=>match Nat.beq s k with
  | true=>some v
  | false=>lk r s
theorem zu{α:Type} {k:Nat} {v:α} {r:List (Nat×α)} {s:Nat}:lk ((k,v) :: r) s=if s=k then some v else lk r s:=by
 show(match Nat.beq s k with | true=>some v | false=>lk r s)=_
 split
 ·rename_i h
  rw[if_pos (Nat.eq_of_beq_eq_true h)]
 ·rename_i h
  rw[if_neg (Nat.ne_of_beq_eq_false h)]
def VD(B:Nat->Prop) (w:World):(g:GTy)->g.D->Value->Prop
 | .pair g h=>fun x v=>∃ vs,v=.agg vs.toArray/\FR B w (.pair g h) x vs
 | g=>fun x v=>FR B w g x [v]
theorem VD.up{B B':Nat->Prop} {w w':World} (h:Up B w B' w'):∀ {g:GTy} {x:g.D} {v:Value},VD B w g x v->VD B' w' g x v
 | .pair _ _,_,_,⟨vs,e,h1⟩=>⟨vs,e,FR.up h h1⟩
 | .int _,_,_,h1=>FR.up h h1
 | .bool,_,_,h1=>FR.up h h1
 | .str,_,_,h1=>FR.up h h1
 | .sl _,_,_,h1=>FR.up h h1
 | .csl _,_,_,h1=>FR.up h h1
 | .unit,_,_,h1=>FR.up h h1
def MR(B:Nat->Prop) (w:World) (gk gv:GTy):List (gk.D×gv.D)->List MapEntry->Prop
 | [],es=>es=[]
 | x :: l,es=>∃ e r,es=e :: r/\VD B w gk x.1 e.key/\VD B w gv x.2 e.val/\MR B w gk gv l r
theorem MR.up{B B':Nat->Prop} {w w':World} (h:Up B w B' w') {gk gv:GTy}:∀ {l:List (gk.D×gv.D)} {es:List MapEntry},MR B w gk gv l es->MR B' w' gk gv l es
 | [],_,hh=>hh
 | _ :: _,_,⟨e,r,e1,h1,h2,h3⟩=>⟨e,r,e1,h1.up h,h2.up h,MR.up h h3⟩
def Stamped(es:List MapEntry) (clock:Nat):Prop:=(es.map (·.born)).Pairwise (· < ·)/\∀ b∈es.map (·.born),b < clock
def stampsAt(es:List MapEntry) (ps:List Nat):List Nat:=ps.map fun j=>((es[j]?).map (·.born)).getD 0
def TRs(B:Nat->Prop) (w:World) (t':TypeId) (g:GTy):List (Bool×List g.D)->List Value->List Rw->Prop
 | [],vs,I=>vs=[]/\I=[]
 | x :: r,vs,I=>∃ v v',vs=v :: v'/\match x.1 with
  | true=>∃ A k xs I',v=.slice A x.2.length k/\I=⟨A,k,t',g.size,x.2.length,xs⟩ :: I'/\Flat (FR B w g) x.2 xs/\TRs B w t' g r v' I'
  | false=>FR B w (.sl g) x.2 [v]/\TRs B w t' g r v' I
theorem TRs.length{B:Nat->Prop} {w:World} {t':TypeId} {g:GTy}:∀ {l:List (Bool×List g.D)} {vs:List Value} {I:List Rw},TRs B w t' g l vs I->vs.length=l.length
 | [],_,_,⟨e,_⟩=>by rw[e]; rfl
 | (true,_) :: _,_,_,⟨v,v',e,_,_,_,_,_,_,_,h⟩=>by rw[e,List.length_cons,List.length_cons,TRs.length h]
 | (false,_) :: _,_,_,⟨v,v',e,_,h⟩=>by rw[e,List.length_cons,List.length_cons,TRs.length h]
theorem TRs.up{B B':Nat->Prop} {w w':World} (h:Up B w B' w') {t':TypeId} {g:GTy}:∀ {l:List (Bool×List g.D)} {vs:List Value} {I:List Rw},TRs B w t' g l vs I->TRs B' w' t' g l vs I
 | [],_,_,h1=>h1
 | (true,_) :: _,_,_,⟨v,v',e,A,k,xs,I',h1,h2,h3,h4⟩=>⟨v,v',e,A,k,xs,I',h1,h2,Flat.mono (fun _ _=>FR.up h) h3,TRs.up h h4⟩
 | (false,_) :: _,_,_,⟨v,v',e,h1,h2⟩=>⟨v,v',e,FR.up h h1,TRs.up h h2⟩
def unh{α:Type} (l:List (Bool×List α)):Option (Nat×Option Nat)->List (Bool×List α)
 | none=>l
 | some (i,_)=>l.set i (false,[])
def holeV(env:Nat->Loc) (n:Nat) (ys ys':List Value):Option (Nat×Option Nat)->Prop
 | none=>ys'=ys
 | some (i,od)=>i < n/\∃ v,ys'=ys.set i v/\∀ d,od=some d->∃ A c m,env d=.row A c m/\v=.slice A m c
def BR(env:Nat->Loc) (B:Nat->Prop) (w:World) (id:Nat):Blk->Ck->Prop
 | .cells t cs,c=>∃ b vs,env id=.blk b/\c=.cel b vs t/\CsR env B w cs vs
 | .row t g l cap,c=>∃ A k xs,env id=.row A k l.length/\c=.row A k t g.size l.length xs/\Flat (FR B w g) l xs/\∀ q,cap=some q->k=q
 | .sit s p,c=>∃ b,env id=.blk b/\c=.obj b (.stringIter s p)
 | .mp gk gv l o,c=>∃ b es clock,env id=.blk b/\c=.obj b (.map es.toArray clock)/\MR B w gk gv l es/\Stamped es clock/\∀ q,o=some q->q=(es,clock)
 | .it mid es clock ps,c=>∃ b m,env id=.blk b/\env mid=.blk m/\c=.obj b (.mapIter (some m) clock (stampsAt es ps).toArray clock)
 | .junk,c=>∃ b o,env id=.blk b/\c=.obj b o
 | .hrow el t g l cap i d,c=>∃ A k ys A' c' m,env id=.row A k l.length/\c=.row A k t 1 l.length (ys.set i (.slice A' m c'))/\Flat (FRe el B w g) l ys/\i < l.length/\env d=.row A' c' m/\(∀ q,cap=some q->k=q)/\(el=true->c'=m)
 | .rjunk,c=>∃ A k n t s m xs,env id=.row A k n/\c=.row A k t s m xs
 | .lrow t g l,c=>∃ A k,env id=.row A k l.length/\((∃ xs,c=.row A k t g.size l.length xs/\Flat (FR B w g) l xs)\/(c=.row none 0 t g.size 0 []/\k=l.length/\k<=maxLen/\∃ xs,Flat (FR B w g) l xs/\RB B w A l.length g.size xs))
 | .mrow t t' g l cap h,c=>∃ A k ys ys' I,env id=.row A k l.length/\c=.tree (⟨A,k,t,1,l.length,ys'⟩ :: I)/\TRs B w t' g (unh l h) ys I/\holeV env l.length ys ys' h/\∀ q,cap=some q->k=q
def HR(env:Nat->Loc) (B:Nat->Prop) (w:World):Hp->List Ck->Prop
 | [],H=>H=[]
 | (id,b) :: h,H=>∃ c H',H=c :: H'/\BR env B w id b c/\HR env B w h H'
theorem BR.up{env:Nat->Loc} {B B':Nat->Prop} {w w':World} (h:Up B w B' w') {id:Nat}:∀ {b:Blk} {c:Ck},BR env B w id b c->BR env B' w' id b c
 | .cells _ _,_,⟨b,vs,e,hc,h1⟩=>⟨b,vs,e,hc,h1.up h⟩
 | .row _ _ _ _,_,⟨A,k,xs,e,hc,h1,h2⟩=>⟨A,k,xs,e,hc,Flat.mono (fun _ _=>FR.up h) h1,h2⟩
 | .sit _ _,_,hb=>hb
 | .mp _ _ _ _,_,⟨b,es,k,e,hc,h1,h2⟩=>⟨b,es,k,e,hc,h1.up h,h2⟩
 | .it _ _ _ _,_,hb=>hb
 | .junk,_,hb=>hb
 | .hrow _ _ _ _ _ _ _,_,⟨A,k,ys,A',c',m,e,hc,h1,h2⟩=>⟨A,k,ys,A',c',m,e,hc,Flat.mono (fun _ _=>FRe.up h) h1,h2⟩
 | .rjunk,_,hb=>hb
 | .mrow _ _ _ _ _ _,_,⟨A,k,ys,ys',I,e,hc,h1,h2⟩=>⟨A,k,ys,ys',I,e,hc,h1.up h,h2⟩
 | .lrow _ _ _,_,⟨A,k,e,h1⟩=>⟨A,k,e,h1.imp (fun⟨xs,a,b⟩=>⟨xs,a,Flat.mono (fun _ _=>FR.up h) b⟩) fun⟨a,b,c,xs,d,r⟩=>⟨a,b,c,xs,Flat.mono (fun _ _=>FR.up h) d,r.up h⟩⟩
theorem HR.up{env:Nat->Loc} {B B':Nat->Prop} {w w':World} (h:Up B w B' w'):∀ {l:Hp} {H:List Ck},HR env B w l H->HR env B' w' l H
 | [],_,hh=>hh
 | _ :: _,_,⟨c,H',e,h1,h2⟩=>⟨c,H',e,h1.up h,HR.up h h2⟩
theorem HR.foc{env:Nat->Loc} {B:Nat->Prop} {w:World}:∀ {l:Hp} {H:List Ck} {id:Nat} {b:Blk},HR env B w l H->lk l id=some b->∃ c K,BR env B w id b c/\Foc H c K
 | [],_,_,_,_,h=>by cases h
 | (k,b') :: l,H,id,b,⟨c,H',e,h1,h2⟩,h=>by
  rw[zu]at h;subst e
  split at h
  ·rename_i e
   subst e;cases h;exact⟨c,_,h1,foc0⟩
  ·obtain⟨c',K,h3,X,Y,h4,h5⟩:=HR.foc h2 h
   exact⟨c',fun z=>c :: K z,h3,c :: X,Y,by rw[h4]; rfl,by rw[h5]; rfl⟩
def zX(id:Nat) (b:Blk):Hp->Hp
 | []=>[]
 | (k,b') :: r=>match Nat.beq k id with
  | true=>(k,b) :: r
  | false=>(k,b') :: zX id b r
theorem HR.put{env:Nat->Loc} {B:Nat->Prop} {w:World}:∀ {l:Hp} {H:List Ck} {id:Nat} {b:Blk},HR env B w l H->lk l id=some b->∃ c K,BR env B w id b c/\Foc H c K/\∀ b' c',BR env B w id b' c'->HR env B w (zX id b' l) (K c')
 | [],_,_,_,_,h=>by cases h
 | (k,b') :: l,H,id,b,⟨c,H',e,h1,h2⟩,h=>by
  rw[zu]at h;subst e
  split at h
  ·rename_i e
   subst e;cases h;refine⟨c,_,h1,foc0,fun b2 c2 hb=>?_⟩;unfold zX;rw[Nat.beq_refl];exact⟨c2,H',rfl,hb,h2⟩
  ·rename_i hne
   obtain⟨c',K,h3,⟨X,Y,h4,h5⟩,h6⟩:=HR.put h2 h;refine⟨c',fun z=>c :: K z,h3,⟨c :: X,Y,by rw[h4]; rfl,by rw[h5]; rfl⟩,fun b2 c2 hb=>?_⟩;unfold zX
   have:Nat.beq k id=false:=by
    cases hk:Nat.beq k id with
    | false=>rfl
    | true=>exact absurd (Nat.eq_of_beq_eq_true hk).symm hne
   rw[this];exact⟨c,_,rfl,h1,h6 b2 c2 hb⟩
def hasCap(i:Nat):List Cap->Bool
 | []=>false
 | .id j :: r=>Nat.beq j i || hasCap i r
 | .fz _ _ :: r=>hasCap i r
def SC.sub:SC->Nat->SC->SC
 | .ptr i o,id,_=>match Nat.beq i id with
  | true=>.dead
  | false=>.ptr i o
 | .elt i sz j o,id,_=>match Nat.beq i id with
  | true=>.dead
  | false=>.elt i sz j o
 | .sl i,id,z=>match Nat.beq i id with
  | true=>z
  | false=>.sl i
 | .fn f ids,id,_=>match hasCap id ids with
  | true=>.dead
  | false=>.fn f ids
 | .mref i,id,_=>match Nat.beq i id with
  | true=>.dead
  | false=>.mref i
 | .bfn f i,id,_=>match Nat.beq i id with
  | true=>.dead
  | false=>.bfn f i
 | .nel i o,id,_=>match Nat.beq i id with
  | true=>.dead
  | false=>.nel i o
 | .cpo i,id,_=>match Nat.beq i id with
  | true=>.dead
  | false=>.cpo i
 | .slp i s o,id,_=>match Nat.beq i id with
  | true=>.dead
  | false=>.slp i s o
 | .slf b i,id,_=>match Nat.beq i id with
  | true=>.dead
  | false=>.slf b i
 | c,_,_=>c
def subs(id:Nat) (z:SC):List SC->List SC
 | []=>[]
 | c :: r=>c.sub id z :: subs id z r
def SA.sub:SA->Nat->SC->SA
 | .c x,id,z=>.c (x.sub id z)
 | .agg cs,id,z=>.agg (subs id z cs)
 | .arr g l,_,_=>.arr g l
def asubs(id:Nat) (z:SC):List SA->List SA
 | []=>[]
 | c :: r=>c.sub id z :: asubs id z r
def SV.sub:SV->Nat->SC->SV
 | .a x,id,z=>.a (x.sub id z)
 | .may g x,id,z=>.may g (x.sub id z)
 | .tup xs,id,z=>.tup (asubs id z xs)
def qb(id:Nat) (z:SC):Sl->Sl
 | []=>[]
 | (k,v) :: r=>(k,v.sub id z) :: qb id z r
def Blk.sub:Blk->Nat->SC->Blk
 | .cells t cs,id,z=>.cells t (subs id z cs)
 | .it mid es k ps,id,_=>match Nat.beq mid id with
  | true=>.junk
  | false=>.it mid es k ps
 | .hrow el t g l cap i d,id,z=>match Nat.beq d id with
  | true=>match z with
   | .lst g' l2 _=>match decEq g' g with
    | isTrue h=>match el with
     | true=>.row t (.csl g) (l.set i (h ▸ l2)) cap
     | false=>.row t (.sl g) (l.set i (h ▸ l2)) cap
    | isFalse _=>.rjunk
   | _=>.rjunk
  | false=>.hrow el t g l cap i d
 | .mrow t t' g l cap (some (i,some d)),id,_=>match Nat.beq d id with
  | true=>.mrow t t' g l cap (some (i,none))
  | false=>.mrow t t' g l cap (some (i,some d))
 | b,_,_=>b
def zM(id:Nat) (z:SC):Hp->Hp
 | []=>[]
 | (k,b) :: r=>match Nat.beq k id with
  | true=>zM id z r
  | false=>(k,b.sub id z) :: zM id z r
section
variable {env env':Nat->Loc} {B:Nat->Prop} {w:World} {id:Nat} {z:SC}
theorem ptrs.envs(he:∀ j,j≠id->env' j=env j):∀ {ids:List Cap} {vs:List Value},hasCap id ids=false->ptrs env B w ids vs->ptrs env' B w ids vs
 | [],_,_,h=>h
 | .id i :: ids,_,hn,⟨v,r,e,⟨b,hb,hv⟩,h⟩=>by
  simp only[hasCap,Bool.or_eq_false_iff]at hn;exact⟨v,r,e,⟨b,by rw[he i (Nat.ne_of_beq_eq_false hn.1)]; exact hb,hv⟩,ptrs.envs he hn.2 h⟩
 | .fz g x :: ids,_,hn,⟨v,r,e,h1,h⟩=>⟨v,r,e,h1,ptrs.envs he (by simpa [hasCap] using hn) h⟩
theorem CR.sub(he:∀ j,j≠id->env' j=env j) (hz:∀ v,CR env B w (.sl id) v->CR env' B w z v):∀ {c:SC} {v:Value},CR env B w c v->CR env' B w (c.sub id z) v
 | .val _,_,hc=>hc
 | .str _,_,hc=>hc
 | .dead,_,hc=>hc
 | .ptr i o,v,hc=>by
  simp only[SC.sub]
  split
  ·trivial
  ·rename_i h
   obtain⟨b,e,hv⟩:=hc;exact⟨b,by rw[he i (Nat.ne_of_beq_eq_false h)]; exact e,hv⟩
 | .elt i sz j o,v,hc=>by
  simp only[SC.sub]
  split
  ·trivial
  ·rename_i h
   obtain⟨b,c,n,e,hv⟩:=hc;exact⟨b,c,n,by rw[he i (Nat.ne_of_beq_eq_false h)]; exact e,hv⟩
 | .slf b i,v,hc=>by
  simp only[SC.sub]
  split
  ·trivial
  ·rename_i h
   obtain⟨k,e,hv⟩:=hc;exact⟨k,fun hb=>by rw[he i (Nat.ne_of_beq_eq_false h)]; exact e hb,hv⟩
 | .cpo i,v,hc=>by
  simp only[SC.sub]
  split
  ·trivial
  ·rename_i h
   obtain⟨b,c,n,e,hv⟩:=hc;exact⟨b,c,n,by rw[he i (Nat.ne_of_beq_eq_false h)]; exact e,hv⟩
 | .slp i s o,v,hc=>by
  simp only[SC.sub]
  split
  ·trivial
  ·rename_i h
   obtain⟨b,c,n,e,hv⟩:=hc;exact⟨b,c,n,by rw[he i (Nat.ne_of_beq_eq_false h)]; exact e,hv⟩
 | .nel i o,v,hc=>by
  simp only[SC.sub]
  split
  ·trivial
  ·rename_i h
   obtain⟨b,c,n,e,hv⟩:=hc;exact⟨b,c,n,by rw[he i (Nat.ne_of_beq_eq_false h)]; exact e,hv⟩
 | .pel _ _ _,_,hc=>hc
 | .par _ _,_,hc=>hc
 | .sl i,v,hc=>by
  simp only[SC.sub]
  split
  ·rename_i h
   have:i=id:=Nat.eq_of_beq_eq_true h
   subst this;exact hz v hc
  ·rename_i h
   obtain⟨A,c,n,e,hv⟩:=hc;exact⟨A,c,n,by rw[he i (Nat.ne_of_beq_eq_false h)]; exact e,hv⟩
 | .lst _ _ _,_,hc=>hc
 | .fn f ids,v,hc=>by
  simp only[SC.sub]
  split
  ·trivial
  ·rename_i h
   obtain⟨vs,hv,hp⟩:=hc;exact⟨vs,hv,hp.envs he h⟩
 | .mref i,v,hc=>by
  simp only[SC.sub]
  split
  ·trivial
  ·rename_i h
   obtain⟨b,e,hv⟩:=hc;exact⟨b,by rw[he i (Nat.ne_of_beq_eq_false h)]; exact e,hv⟩
 | .bfn f i,v,hc=>by
  simp only[SC.sub]
  split
  ·trivial
  ·rename_i h
   obtain⟨b,e,hv⟩:=hc;exact⟨b,by rw[he i (Nat.ne_of_beq_eq_false h)]; exact e,hv⟩
variable (he:∀ j,j≠id->env' j=env j) (hz:∀ v,CR env B w (.sl id) v->CR env' B w z v)
include he hz
theorem CsR.sub:∀ {c:List SC} {v:List Value},CsR env B w c v->CsR env' B w (subs id z c) v
 | [],_,hc=>hc
 | _ :: _,_,⟨v,r,e,h1,h2⟩=>⟨v,r,e,h1.sub he hz,CsR.sub h2⟩
theorem SaR.sub:∀ {c:SA} {v:Value},SaR env B w c v->SaR env' B w (c.sub id z) v
 | .c _,_,hc=>CR.sub he hz hc
 | .agg _,_,⟨vs,e,h1⟩=>⟨vs,e,h1.sub he hz⟩
 | .arr _ _,_,h=>h
theorem SasR.sub:∀ {c:List SA} {v:List Value},SasR env B w c v->SasR env' B w (asubs id z c) v
 | [],_,hc=>hc
 | _ :: _,_,⟨v,r,e,h1,h2⟩=>⟨v,r,e,h1.sub he hz,SasR.sub h2⟩
theorem VR.sub:∀ {c:SV} {v:Value},VR env B w c v->VR env' B w (c.sub id z) v
 | .a _,_,hc=>SaR.sub he hz hc
 | .may _ _,_,hc=>⟨fun hg=>(hc.1 hg).sub he hz,hc.2⟩
 | .tup _,_,⟨vs,e,h1⟩=>⟨vs,e,h1.sub he hz⟩
theorem BR.sub{k:Nat} (hk:k≠id):∀ {b:Blk} {c:Ck},BR env B w k b c->BR env' B w k (b.sub id z) c
 | .cells _ _,_,⟨b,vs,e,hc,h1⟩=>⟨b,vs,by rw[he k hk]; exact e,hc,h1.sub he hz⟩
 | .row _ _ _ _,_,⟨A,c,xs,e,hc,h1⟩=>⟨A,c,xs,by rw[he k hk]; exact e,hc,h1⟩
 | .sit _ _,_,⟨b,e,hc⟩=>⟨b,by rw[he k hk]; exact e,hc⟩
 | .mp _ _ _ _,_,⟨b,es,q,e,hc⟩=>⟨b,es,q,by rw[he k hk]; exact e,hc⟩
 | .it mid _ _ _,_,⟨b,m,e,hm,hc⟩=>by
  simp only[Blk.sub]
  split
  ·exact⟨b,_,by rw[he k hk]; exact e,hc⟩
  ·rename_i h
   exact⟨b,m,by rw[he k hk]; exact e,by rw[he mid (Nat.ne_of_beq_eq_false h)]; exact hm,hc⟩
 | .junk,_,⟨b,o,e,hc⟩=>⟨b,o,by rw[he k hk]; exact e,hc⟩
 | .hrow el t g l cap i d,_,⟨A,c,ys,A',c',m,e,hc,h1,hi,h2,h3⟩=>by
  simp only[Blk.sub]
  split
  ·rename_i h
   have hd:d=id:=Nat.eq_of_beq_eq_true h;subst hd
   split
   ·rename_i g' l2 cp
    split
    ·rename_i hg _
     subst hg;obtain⟨A2,c2,xs,e2,q1,q2,_,q4,q5⟩:=hz _ ⟨A',c',m,h2,rfl⟩;have hl:ys.length=l.length:=FRe.flat_length h1;have e3:ys.set i (.slice A' m c')=ys.take i++([.slice A' m c']++ys.drop (i+1)):=by
      rw[List.set_eq_take_append_cons_drop,if_pos (by omega)]
      rfl
     split
     ·refine⟨A,c,_,by rw[he k hk,List.length_set]; exact e,by rw[List.length_set]; exact hc,?_,h3.1⟩
      have hcm:=h3.2 rfl;have hs:=Flat.set (k:=1) (fun _ _=>FR.length) (show Flat (FR B w (.csl g')) l ys from h1) hi (x:=l2) (us:=[.slice A' m c']) ⟨A2,xs,by
       subst hcm;rw[show c'=l2.length by injection e2]
       injection e2 with q _ _
       rw[q],by
       subst hcm
       have:c'=l2.length:=by injection e2
       omega,q4,q5⟩
      rw[e3];rw[Nat.mul_one,List.append_assoc]at hs;exact hs
     ·refine⟨A,c,_,by rw[he k hk,List.length_set]; exact e,by rw[List.length_set]; exact hc,?_,h3.1⟩
      have hs:=Flat.set (k:=1) (fun _ _=>FR.length) (show Flat (FR B w (.sl g')) l ys from h1) hi (x:=l2) (us:=[.slice A' m c']) ⟨A2,c2,xs,by rw[e2],q1,q2,q4,q5⟩;rw[e3];rw[Nat.mul_one,List.append_assoc]at hs;exact hs
    ·exact⟨A,c,_,_,_,_,_,by rw[he k hk]; exact e,hc⟩
   ·exact⟨A,c,_,_,_,_,_,by rw[he k hk]; exact e,hc⟩
  ·rename_i h
   exact⟨A,c,ys,A',c',m,by rw[he k hk]; exact e,hc,h1,hi,by rw[he d (Nat.ne_of_beq_eq_false h)]; exact h2,h3⟩
 | .rjunk,_,⟨A,c,n,t,s,m,xs,e,hc⟩=>⟨A,c,n,t,s,m,xs,by rw[he k hk]; exact e,hc⟩
 | .lrow _ _ _,_,⟨A,c,e,h1⟩=>⟨A,c,by rw[he k hk]; exact e,h1⟩
 | .mrow _ _ _ _ _ none,_,⟨A,q,ys,ys',I,e,hc,h1,h2,h3⟩=>⟨A,q,ys,ys',I,by rw[he k hk]; exact e,hc,h1,h2,h3⟩
 | .mrow _ _ _ _ _ (some (i,none)),_,⟨A,q,ys,ys',I,e,hc,h1,⟨h2,v,h4,_⟩,h3⟩=>⟨A,q,ys,ys',I,by rw[he k hk]; exact e,hc,h1,⟨h2,v,h4,fun _ h=>by cases h⟩,h3⟩
 | .mrow _ _ _ _ _ (some (i,some d)),_,⟨A,q,ys,ys',I,e,hc,h1,⟨h2,v,h4,h5⟩,h3⟩=>by
  simp only[Blk.sub]
  split
  ·exact⟨A,q,ys,ys',I,by rw[he k hk]; exact e,hc,h1,⟨h2,v,h4,fun _ h=>by cases h⟩,h3⟩
  ·rename_i h
   exact⟨A,q,ys,ys',I,by rw[he k hk]; exact e,hc,h1,⟨h2,v,h4,fun d' hd=>by cases hd; rw[he d (Nat.ne_of_beq_eq_false h)]; exact h5 d rfl⟩,h3⟩
theorem HR.del:∀ {l:Hp} {H:List Ck},HR env B w l H->∃ H',H'.Sublist H/\HR env' B w (zM id z l) H'
 | [],_,hh=>⟨[],by rw[show _=[] from hh]; exact List.Sublist.refl _,rfl⟩
 | (k,b) :: l,_,⟨c,H',e,h1,h2⟩=>by
  obtain⟨H2,hs,h3⟩:=HR.del h2;subst e;unfold zM
  split
  ·exact⟨H2,hs.cons _,h3⟩
  ·rename_i h
   exact⟨c :: H2,hs.cons_cons _,c,H2,rfl,h1.sub he hz (Nat.ne_of_beq_eq_false h),h3⟩
def qK:Ck->Bool
 | .cel _ _ _=>true
 | _=>false
omit he hz in
theorem BR.notCel{k:Nat}:∀ {b:Blk} {c:Ck},BR env B w k b c->(∀ t cs,b≠.cells t cs)->qK c=false
 | .cells t cs,_,_,h=>absurd rfl (h t cs)
 | .row _ _ _ _,_,⟨_,_,_,_,e,_⟩,_=>by rw[e]; rfl
 | .sit _ _,_,⟨_,_,e⟩,_=>by rw[e]; rfl
 | .mp _ _ _ _,_,⟨_,_,_,_,e,_⟩,_=>by rw[e]; rfl
 | .it _ _ _ _,_,⟨_,_,_,_,e⟩,_=>by rw[e]; rfl
 | .junk,_,⟨_,_,_,e⟩,_=>by rw[e]; rfl
 | .hrow _ _ _ _ _ _ _,_,⟨_,_,_,_,_,_,_,e,_⟩,_=>by rw[e]; rfl
 | .rjunk,_,⟨_,_,_,_,_,_,_,_,e⟩,_=>by rw[e]; rfl
 | .mrow _ _ _ _ _ _,_,⟨_,_,_,_,_,_,e,_⟩,_=>by rw[e]; rfl
 | .lrow _ _ _,_,⟨_,_,_,h⟩,_=>by
  rcases h with⟨_,e,_⟩ | ⟨e,_⟩
  ·rw[e]; rfl
  ·rw[e]; rfl
theorem HR.delK:∀ {l:Hp} {H:List Ck},HR env B w l H->(∀ b c,(id,b)∈l->BR env B w id b c->qK c=false)->∃ H',H'.Sublist H/\HR env' B w (zM id z l) H'/\∀ c∈H,qK c=true->c∈H'
 | [],_,hh,_=>⟨[],by rw[show _=[] from hh]; exact List.Sublist.refl _,rfl,fun c hc _=>by rw[show _=[] from hh]at hc; exact hc⟩
 | (k,b) :: l,_,⟨c,H',e,h1,h2⟩,hk=>by
  obtain⟨H2,hs,h3,h4⟩:=HR.delK h2 (fun b c hb=>hk b c (List.mem_cons_of_mem _ hb));subst e;unfold zM
  split
  ·rename_i hid
   have hid':=Nat.eq_of_beq_eq_true hid;subst hid';refine⟨H2,hs.cons _,h3,fun c' hc' hcel=>?_⟩
   rcases List.mem_cons.1 hc' with rfl | hc'
   ·rw[hk b c' (List.mem_cons_self ..) h1]at hcel; cases hcel
   ·exact h4 c' hc' hcel
  ·rename_i h
   refine⟨c :: H2,hs.cons_cons _,⟨c,H2,rfl,h1.sub he hz (Nat.ne_of_beq_eq_false h),h3⟩,fun c' hc' hcel=>?_⟩
   rcases List.mem_cons.1 hc' with rfl | hc'
   ·exact List.mem_cons_self ..
   ·exact List.mem_cons_of_mem _ (h4 c' hc' hcel)
omit he hz in
theorem qF:∀ {l:Sl} {s:Nat} {v:SV},lk (qb id z l) s=some v->∃ u,lk l s=some u/\v=u.sub id z
 | [],_,_,h=>by cases h
 | (k,u) :: l,s,v,h=>by
  unfold qb at h;rw[zu]at h ⊢
  split at h
  ·rename_i e
   cases h;rw[if_pos e];exact⟨u,rfl,rfl⟩
  ·rename_i e
   rw[if_neg e];exact qF h
end
end

section
structure GL where
 g:GTy
 l:List g.D
structure Cx where
 P:Program
 tt:TT
 gl:Nat->Option GL
def qW(k:Nat):Ck:=.obj k (.deferred (some []))
structure Bk where
 b:Nat->Prop
 p:Nat->Loc->Prop
 d:List Deferred
def dfs(ks:List Nat) (Bi:Bk):List Deferred:=ks.map markOf++Bi.d
def IsC(w:World) (k:Nat):Prop:=∃ cs e fr,w.heap[k]?=some (.cells cs e fr)
theorem IsC.keep{w w':World} {k:Nat} (h:IsC w k) (e:w'.heap[k]?=w.heap[k]?):IsC w' k:=by
 obtain⟨cs,t,fr,h⟩:=h;exact⟨cs,t,fr,e.trans h⟩
def zU:Nat:=1000000
def zP:Nat:=2000000
def GR(B:Nat->Prop) (w:World) (i:Nat) (x:GL):Prop:=CR (fun _=>.no) B w (.par x.g x.l) (.pointer (some ⟨i,0,none⟩))/\∃ cs e fr,w.heap[i]?=some (.cells cs e fr)/\cs.size=x.l.length * x.g.size
theorem GR.up{B B':Nat->Prop} {w w':World} (h:Up B w B' w') {i:Nat} {x:GL} (hg:GR B w i x):GR B' w' i x:=by
 refine⟨hg.1.up h,?_⟩;obtain⟨⟨b,o,vs,e,hb,_⟩,cs,t,fr,h1,h2⟩:=hg;cases e;exact⟨cs,t,fr,by rw[h.same _ hb]; exact h1,h2⟩
structure AI(X:Cx) (R:Nat->Prop) (W:World) (Bi:Bk) (n:Nat) (ks:List Nat) (env:Nat->Loc) (B:Nat->Prop) (w0:World) (H:List Ck) (st:ASt) (a:Act) (w:World):Prop where
 size:a.tmps.size=n
 defs:a.defers=dfs ks Bi
 has:∀ s sv,lk st.L s=some sv->∃ v,a.tmps[s]?=some v/\VR env B w0 sv v
 heap:HR env B w0 st.H H
 sh:SH (fun k=>R k\/B k) w0 (H++ks.map qW) w
 sub:∀ k,Bi.b k->B k
 new:∀ k,B k->Bi.b k\/(¬ R k/\IsC w0 k)
 pin:∀ id l,Bi.p id l->n<=id/\env id=l/\((∃ b,l=.blk b)\/zP<=id)
 base:KO R W w0
 glob:∀ i x,X.gl i=some x->GR B w0 i x
def MOk(M:Bool) (ks:List Nat) (Bi:Bk):Prop:=(M=false->ks=[])/\(M=true->∀ id l,Bi.p id l->zU<=id)
def AR(X:Cx) (R:Nat->Prop) (W:World) (Bi:Bk) (M:Bool) (n:Nat) (st:ASt) (a:Act) (w:World):Prop:=
 ∃ ks env B w0 H,MOk M ks Bi/\AI X R W Bi n ks env B w0 H st a w
def qL(a:Act):List (Nat×Value):=a.tmps.toList.zipIdx.map fun p=>(p.2,p.1)
theorem full_key{s:Nat} {v:Value}:∀ (vs:List Value) (k:Nat),((vs.zipIdx k).map fun p=>(p.2,p.1)).lookup s=some v->k<=s/\vs[s - k]?=some v:=by
 intro vs
 induction vs with
 | nil=>intro k h; cases h
 | cons u vs ih=>
  intro k h;simp only[List.zipIdx_cons,List.map_cons,List.lookup_cons]at h
  by_cases e:s=k
  ·subst e
   simp at h
   subst h
   simp
  ·have e':(s == k)=false:=by simpa using e
   rw[e']at h;obtain⟨h1,h2⟩:=ih (k+1) h;refine⟨by omega,?_⟩;rw[show s - k=(s - (k+1))+1 by omega,List.getElem?_cons_succ];exact h2
theorem full_back{s:Nat} {v:Value}:∀ (vs:List Value) (k:Nat),vs[s]?=some v->((vs.zipIdx k).map fun p=>(p.2,p.1)).lookup (k+s)=some v:=by
 intro vs
 induction vs generalizing s with
 | nil=>intro k h; simp at h
 | cons u vs ih=>
  intro k h;simp only[List.zipIdx_cons,List.map_cons,List.lookup_cons];cases s with
  | zero=>simp at h; simp[h]
  | succ s=>
   have e:(k+(s+1) == k)=false:=by simp
   rw[e]
   have:=ih (k+1) (by simpa using h)
   rw[show k+1+s=k+(s+1) by omega]at this;exact this
theorem full_st(a:Act):St a.tmps.size a.defers (qL a) a:=⟨rfl,rfl,fun s v h=>by
 have:=(full_key a.tmps.toList 0 h).2
 simpa using this⟩
theorem zt{a:Act} {s:Nat} {v:Value} (h:a.tmps[s]?=some v):(qL a).lookup s=some v:=by
 have:=full_back a.tmps.toList 0 (s:=s) (v:=v) (by simpa using h)
 simpa [qL] using this
def scOf:Value->SC
 | .string s=>.str s.data.toList
 | v=>.val v
def scs:List Value->List SC
 | []=>[]
 | v :: r=>scOf v :: scs r
def ae(X:Cx) (L:Sl):Operand->Option (Bool×SA)
 | .tmp s=>match lk L s with
  | some (.a x)=>some (true,x)
  | some (.may g x)=>some (g,x)
  | _=>none
 | .const v=>match v with
  | .string s=>some (true,.c (.str s.data.toList))
  | .agg cs=>some (true,.agg (scs cs.toList))
  | .tuple _=>none
  | v=>some (true,.c (.val v))
 | .global i=>match X.gl i with
  | some x=>some (true,.c (.par x.g x.l))
  | none=>none
 | .func f=>some (true,.c (.fn f []))
section
variable {X:Cx} {R:Nat->Prop} {W:World} {Bi:Bk} {n:Nat} {ks:List Nat} {env:Nat->Loc} {B:Nat->Prop} {w0:World} {H:List Ck} {st:ASt} {a:Act} {w:World}
theorem strV_toList(s:ByteArray):qe s.data.toList=.string s:=rfl
theorem scOf_ok:∀ v:Value,CR env B w0 (scOf v) v
 | .string _=>rfl
 | .bool _=>rfl
 | .int _ _=>rfl
 | .float _ _=>rfl
 | .complex _ _ _=>rfl
 | .pointer _=>rfl
 | .slice _ _ _=>rfl
 | .map _=>rfl
 | .chan _=>rfl
 | .func _ _ _=>rfl
 | .nilFunc=>rfl
 | .iface _ _=>rfl
 | .nilIface=>rfl
 | .agg _=>rfl
 | .tuple _=>rfl
theorem scs_ok:∀ vs:List Value,CsR env B w0 (scs vs) vs
 | []=>rfl
 | v :: r=>⟨v,r,rfl,scOf_ok v,scs_ok r⟩
theorem AI.ev(h:AI X R W Bi n ks env B w0 H st a w) {x:Operand} {g:Bool} {sa:SA} (hx:ae X st.L x=some (g,sa)) (hg:g=true):∃ v,ev (qL a) x=some v/\SaR env B w0 sa v:=by
 cases x with
 | tmp s=>
  simp only[ae]at hx;cases h1:lk st.L s with
  | none=>rw[h1]at hx; cases hx
  | some sv=>
   obtain⟨v,h2,h3⟩:=h.has s sv h1;rw[h1]at hx;cases sv with
   | a x=>cases hx; exact⟨v,zt h2,h3⟩
   | may g' x=>cases hx; exact⟨v,zt h2,h3.1 hg⟩
   | tup xs=>cases hx
 | const v=>
  refine⟨v,rfl,?_⟩;cases v with
  | string s=>cases hx; exact strV_toList s
  | agg cs=>cases hx; exact⟨cs.toList,by simp,scs_ok _⟩
  | tuple vs=>cases hx
  | _=>cases hx; rfl
 | global i=>
  simp only[ae]at hx;cases h1:X.gl i with
  | none=>rw[h1]at hx; cases hx
  | some x=>
   rw[h1]at hx;cases hx;exact⟨_,rfl,(h.glob i x h1).1⟩
 | func f=>cases hx; exact⟨_,rfl,[],rfl,rfl⟩
theorem AI.stt(h:AI X R W Bi n ks env B w0 H st a w):St n (dfs ks Bi) (qL a) a:=by
 have:=full_st a
 rw[h.size,h.defs]at this;exact this
end
def isLoad:Op->Bool
 | .load _ _=>true
 | _=>false
def PureOk(X:Cx) (st:ASt) (o:Oper) (sa:SA):Prop:=
 ∀ {R:Nat->Prop} {W:World} {Bi:Bk} {n:Nat} {ks:List Nat} {env:Nat->Loc} {B:Nat->Prop} {w0:World} {H:List Ck} {a:Act} {w1:World},AI X R W Bi n ks env B w0 H st a w1 ->
  ∃ v,SaR env B w0 sa v/\∀ w,(isLoad o.op=true->SH (fun k=>R k\/B k) w0 (H++ks.map qW) w)->(execOp a.eval o).run X.P w=.ok (.value v) w
def zq(x:Int):Bool:=Nat.ble (-x).toNat 9223372036854775808&&Nat.ble x.toNat 9223372036854775807
theorem inI64_iff{x:Int}:zq x=true ↔ -9223372036854775808<=x/\x<=9223372036854775807:=by
 unfold zq;rw[Bool.and_eq_true,Nat.ble_eq,Nat.ble_eq];omega
def zH(b:Nat) (z:Int):Bool:=Nat.ble (b * z.toNat) 140737488355328&&Nat.ble z.toNat 140737488355328
theorem zT{b:Nat} {z:Int} (hz:0<=z):zH b z=true ↔ (b:Int) * z<=140737488355328/\z<=140737488355328:=by
 unfold zH;rw[Bool.and_eq_true,Nat.ble_eq,Nat.ble_eq]
 have:((b * z.toNat:Nat):Int)=(b:Int) * z:=by rw[Int.natCast_mul,Int.toNat_of_nonneg hz]
 omega
theorem inI64_ok{x:Int} (h:zq x=true):IntKind.i64.wrap x=x:=by
 rw[inI64_iff]at h;exact in_i64 h.1 h.2
def wrapK:IntKind->Int->Bool×Int
 | .i64,x=>(zq x,x)
 | k,x=>(true,k.wrap x)
theorem wrapK_ok{k:IntKind} {x z:Int} (h:wrapK k x=(true,z)):k.wrap x=z:=by
 cases k<;>simp only[wrapK,Prod.mk.injEq,true_and]at h
 case i64=>obtain⟨h1,rfl⟩:=h; exact inI64_ok h1
 all_goals exact h
def ibin(op:BinOp) (k k':IntKind) (x y:Int):Option (Bool×SC):=
 match op with
 | .shl=>some (decide (0<=y),.val (.int k (k.wrap (x * 2 ^ (min y.toNat k.bits)))))
 | .shr=>some (decide (0<=y),.val (.int k (x.fdiv (2 ^ (min y.toNat k.bits)))))
 | _=>match decide (k=k')with
  | false=>none
  | true=>match op with
   | .add=>match wrapK k (x+y)with
    | (c,z)=>some (c,.val (.int k z))
   | .sub=>match wrapK k (x - y)with
    | (c,z)=>some (c,.val (.int k z))
   | .mul=>match wrapK k (x * y)with
    | (c,z)=>some (c,.val (.int k z))
   | .quo=>match wrapK k (x.tdiv y)with
    | (c,z)=>some (c&&decide (y≠0),.val (.int k z))
   | .rem=>some (decide (y≠0),.val (.int k (x.tmod y)))
   | .and=>some (true,.val (.int k (bits .and k x y)))
   | .or=>some (true,.val (.int k (bits .or k x y)))
   | .xor=>some (true,.val (.int k (bits .xor k x y)))
   | .lss=>some (true,.val (.bool (decide (x < y))))
   | .leq=>some (true,.val (.bool (decide (x<=y))))
   | .gtr=>some (true,.val (.bool (decide (y < x))))
   | .geq=>some (true,.val (.bool (decide (y<=x))))
   | .eql=>some (true,.val (.bool (decide (x=y))))
   | .neq=>some (true,.val (.bool (!decide (x=y))))
   | _=>none
def sbin(op:BinOp) (x y:List UInt8):Option (Bool×SC):=
 match op with
 | .eql=>some (true,.val (.bool (x == y)))
 | .neq=>some (true,.val (.bool (!(x == y))))
 | .add=>some (decide (x.length+y.length<=140737488355328),.str (x++y))
 | _=>none
def bbin(op:BinOp) (x y:Bool):Option (Bool×SC):=
 match op with
 | .eql=>some (true,.val (.bool (x == y)))
 | .neq=>some (true,.val (.bool (x != y)))
 | _=>none
def cellsEq:List SC->List SC->Option Bool
 | [],[]=>some true
 | .val (.int k x) :: r,.val (.int k' y) :: s=>match decide (k=k'),cellsEq r s with
  | true,some b=>some (decide (x=y)&&b)
  | _,_=>none
 | .val (.bool x) :: r,.val (.bool y) :: s=>match cellsEq r s with
  | some b=>some ((x == y)&&b)
  | _=>none
 | _,_=>none
def abin(X:Cx) (op:BinOp) (t:TypeId) (x y:SA):Option (Bool×SC):=
 match x,y with
 | .c (.val (.int k x)),.c (.val (.int k' y))=>ibin op k k' x y
 | .c (.str x),.c (.str y)=>sbin op x y
 | .c (.val (.bool x)),.c (.val (.bool y))=>match X.tt.find t with
  | some ⟨⟨.bool,_,_,_⟩,_⟩=>bbin op x y
  | _=>none
 | .c (.lst _ l _),.c (.val (.slice none 0 0))=>match X.tt.find t,op with
  | some ⟨⟨.slice _,_,_,_⟩,_⟩,.eql=>some (decide (0 < l.length),.val (.bool false))
  | some ⟨⟨.slice _,_,_,_⟩,_⟩,.neq=>some (decide (0 < l.length),.val (.bool true))
  | _,_=>none
 | .c (.val (.slice none 0 0)),.c (.val (.slice none 0 0))=>match X.tt.find t,op with
  | some ⟨⟨.slice _,_,_,_⟩,_⟩,.eql=>some (true,.val (.bool true))
  | some ⟨⟨.slice _,_,_,_⟩,_⟩,.neq=>some (true,.val (.bool false))
  | _,_=>none
 | _,_=>none
section
variable {P:Program} {o:Oper} {n:Nat} {D:List Deferred} {L:List (Nat×Value)} {a:Act}
theorem ibin_ok{op:BinOp} {t t':TypeId} {u v:Operand} {k k':IntKind} {x y:Int} {sc:SC} (hS:St n D L a) (hop:o.op=.binOp op t u v t') (hu:ev L u=some (.int k x)) (hv:ev L v=some (.int k' y))
  (h:ibin op k k' x y=some (true,sc)):∃ r,sc=.val r/\PV P o a r:=by
 cases op
 case shl=>
  simp only[ibin,Option.some.injEq,Prod.mk.injEq,decide_eq_true_eq]at h;obtain⟨h0,rfl⟩:=h;exact⟨_,rfl,p_shl hS hop hu (by rw[hv,Int.toNat_of_nonneg h0]) rfl⟩
 case shr=>
  simp only[ibin,Option.some.injEq,Prod.mk.injEq,decide_eq_true_eq]at h;obtain⟨h0,rfl⟩:=h;exact⟨_,rfl,p_shr hS hop hu (by rw[hv,Int.toNat_of_nonneg h0]) rfl⟩
 all_goals
  have e:k=k':=by
   cases hk:decide (k=k')with
   | true=>exact of_decide_eq_true hk
   | false=>simp only[ibin,hk]at h; cases h
  subst e;simp only[ibin,decide_true]at h
 case add=>generalize hw:wrapK k (x+y)=q at h; obtain⟨c,z⟩:=q; cases h; exact⟨_,rfl,p_add hS hop hu hv (wrapK_ok hw)⟩
 case sub=>generalize hw:wrapK k (x - y)=q at h; obtain⟨c,z⟩:=q; cases h; exact⟨_,rfl,p_sub hS hop hu hv (wrapK_ok hw)⟩
 case mul=>generalize hw:wrapK k (x * y)=q at h; obtain⟨c,z⟩:=q; cases h; exact⟨_,rfl,p_mul hS hop hu hv (wrapK_ok hw)⟩
 case quo=>
  generalize hw:wrapK k (x.tdiv y)=q at h; obtain⟨c,z⟩:=q
  simp only[Option.some.injEq,Prod.mk.injEq,Bool.and_eq_true,decide_eq_true_eq]at h;obtain⟨⟨rfl,h0⟩,rfl⟩:=h;exact⟨_,rfl,p_quo hS hop hu hv h0 (wrapK_ok hw)⟩
 case rem=>
  simp only[Option.some.injEq,Prod.mk.injEq,decide_eq_true_eq]at h;obtain⟨h0,rfl⟩:=h;exact⟨_,rfl,p_rem hS hop hu hv h0 rfl⟩
 case and=>cases h; exact⟨_,rfl,p_and hS hop hu hv rfl⟩
 case or=>cases h; exact⟨_,rfl,p_or hS hop hu hv rfl⟩
 case xor=>cases h; exact⟨_,rfl,p_xor hS hop hu hv rfl⟩
 case lss=>cases h; exact⟨_,rfl,p_lss hS hop hu hv⟩
 case leq=>cases h; exact⟨_,rfl,p_leq hS hop hu hv⟩
 case gtr=>cases h; exact⟨_,rfl,p_gtr hS hop hu hv⟩
 case geq=>cases h; exact⟨_,rfl,p_geq hS hop hu hv⟩
 case eql=>cases h; exact⟨_,rfl,p_eql hS hop hu hv⟩
 case neq=>cases h; exact⟨_,rfl,p_neq hS hop hu hv⟩
 case andNot=>cases h
theorem p_add_S{u v:Operand} {t t':TypeId} {x y:List UInt8} (hS:St n D L a) (hop:o.op=.binOp .add t u v t') (hu:ev L u=some (qe x)) (hv:ev L v=some (qe y)) (hl:x.length+y.length<=140737488355328):PV P o a (qe (x++y)):=fun w=>by
 have e1:((ByteArray.mk x.toArray).size+(ByteArray.mk y.toArray).size:Nat)=x.length+y.length:=by simp[ByteArray.size]
 have e2:(ByteArray.mk x.toArray)++(ByteArray.mk y.toArray)=ByteArray.mk (x++y).toArray:=by
  apply ByteArray.ext
  simp[ByteArray.data_append]
 have e3:¬ (((ByteArray.mk x.toArray).size+(ByteArray.mk y.toArray).size:Nat):Int) > IntKind.i64.max:=by
  rw[e1,show IntKind.i64.max=9223372036854775807 from rfl]; omega
 have e4:(Op.stringOp .add (ByteArray.mk x.toArray) (ByteArray.mk y.toArray)).run P w=.ok (qe (x++y)) w:=by
  unfold Op.stringOp;simp only[if_neg e3];rw[e2]
  rfl
 simp only[execOp,hop,hS.ev hu,hS.ev hv,qe,eqGuard,binOp];simp only[qe]at e4
 simp[e4]
theorem sbin_ok{op:BinOp} {t t':TypeId} {u v:Operand} {x y:List UInt8} {sc:SC} (hS:St n D L a) (hop:o.op=.binOp op t u v t') (hu:ev L u=some (qe x)) (hv:ev L v=some (qe y))
  (h:sbin op x y=some (true,sc)) {env:Nat->Loc} {B:Nat->Prop} {w0:World}:∃ r,CR env B w0 sc r/\PV P o a r:=by
 cases op<;>simp only[sbin,Option.some.injEq,Prod.mk.injEq,true_and,decide_eq_true_eq,reduceCtorEq]at h
 case eql=>subst h; exact⟨_,rfl,p_eql_S hS hop hu hv⟩
 case neq=>subst h; exact⟨_,rfl,p_neq_S hS hop hu hv⟩
 case add=>obtain⟨hl,rfl⟩:=h; exact⟨_,rfl,p_add_S hS hop hu hv hl⟩
theorem run_nilEq{P:Program} {t e:TypeId} (h:P.underlying t=some (.slice e)) (d:Nat) (a:Addr) (m c:Nat) (w:World):(Op.equalIn (d+1) t (.slice (some a) m c) (.slice none 0 0)).run P w=.ok false w:=by
 unfold Op.equalIn
 simp[run_underlying h]
theorem run_nilEq'{P:Program} {t e:TypeId} (h:P.underlying t=some (.slice e)) (d:Nat) (w:World):(Op.equalIn (d+1) t (.slice none 0 0) (.slice none 0 0)).run P w=.ok true w:=by
 unfold Op.equalIn
 simp[run_underlying h]
theorem abin_ok{X:Cx} (hX:X.tt.ok X.P) {op:BinOp} {t t':TypeId} {u v:Operand} {x y:SA} {vx vy:Value} {sc:SC} {env:Nat->Loc} {B:Nat->Prop} {w0:World} (hS:St n D L a) (hop:o.op=.binOp op t u v t') (hu:ev L u=some vx) (hv:ev L v=some vy)
  (hx:SaR env B w0 x vx) (hy:SaR env B w0 y vy) (h:abin X op t x y=some (true,sc)):∃ r,CR env B w0 sc r/\PV X.P o a r:=by
 unfold abin at h
 split at h
 ·rw[show vx=_ from hx]at hu
  rw[show vy=_ from hy]at hv;obtain⟨r,rfl,hr⟩:=ibin_ok hS hop hu hv h;exact⟨r,rfl,hr⟩
 ·rw[show vx=_ from hx]at hu
  rw[show vy=_ from hy]at hv;exact sbin_ok hS hop hu hv h
 ·rw[show vx=_ from hx]at hu
  rw[show vy=_ from hy]at hv
  split at h
  ·rename_i hf
   obtain⟨T,hT,h1⟩:=tab1 (TT.get hX hf).ti;cases op<;>simp only[bbin,Option.some.injEq,Prod.mk.injEq,true_and,reduceCtorEq]at h
   case eql=>subst h; exact⟨_,rfl,p_eql_b hS hop hT h1 rfl hu hv⟩
   case neq=>subst h; exact⟨_,rfl,p_neq_b hS hop hT h1 rfl hu hv⟩
  ·cases h
 ·rename_i g l cap
  obtain⟨A,c,xs,rfl,_,_,_,_,hrb⟩:=hx;rw[show vy=_ from hy]at hv
  split at h
  ·rename_i e s b z gg hf
   have e1:=(TT.get hX hf).ti.1;simp only[Option.some.injEq,Prod.mk.injEq,decide_eq_true_eq]at h;obtain⟨hl,rfl⟩:=h;obtain⟨b,p,rfl,_⟩:=hrb.1.2 hl;have he:∀ w,(Op.equal t _ _).run X.P w=.ok _ w:=fun w=>run_nilEq e1 9999 ⟨b,p,none⟩ l.length c w
   exact⟨_,rfl,fun w=>by simp[execOp,hop,hS.ev hu,hS.ev hv,eqGuard,binOp,he]⟩
  ·rename_i e s b z gg hf
   have e1:=(TT.get hX hf).ti.1;simp only[Option.some.injEq,Prod.mk.injEq,decide_eq_true_eq]at h;obtain⟨hl,rfl⟩:=h;obtain⟨b,p,rfl,_⟩:=hrb.1.2 hl;have he:∀ w,(Op.equal t _ _).run X.P w=.ok _ w:=fun w=>run_nilEq e1 9999 ⟨b,p,none⟩ l.length c w
   exact⟨_,rfl,fun w=>by simp[execOp,hop,hS.ev hu,hS.ev hv,eqGuard,binOp,he]⟩
  ·cases h
 ·rw[show vx=_ from hx]at hu
  rw[show vy=_ from hy]at hv
  split at h
  ·rename_i e s b z gg hf
   have e1:=(TT.get hX hf).ti.1;cases h;have he:∀ w,(Op.equal t _ _).run X.P w=.ok _ w:=fun w=>run_nilEq' e1 9999 w
   exact⟨_,rfl,fun w=>by simp[execOp,hop,hS.ev hu,hS.ev hv,eqGuard,binOp,he]⟩
  ·rename_i e s b z gg hf
   have e1:=(TT.get hX hf).ti.1;cases h;have he:∀ w,(Op.equal t _ _).run X.P w=.ok _ w:=fun w=>run_nilEq' e1 9999 w
   exact⟨_,rfl,fun w=>by simp[execOp,hop,hS.ev hu,hS.ev hv,eqGuard,binOp,he]⟩
  ·cases h
 ·cases h
end
end

section
section
variable {P:Program} {T:List (TypeId×TI)} {n:Nat} {D:List Deferred} {L:List (Nat×Value)} {a:Act} {o:Oper}
theorem p_indexA{u x:Operand} {t e:TypeId} {i i':TI} {b m j p q:Nat} {k:IntKind} {z:Int} (hS:St n D L a) (hop:o.op=.indexAddr t u x)
  (hT:TabOk P T) (h1:T.lookup t=some i) (h2:i.desc=.array m e) (h4:T.lookup e=some i') (hu:ev L u=some (.pointer (some ⟨b,p,none⟩))) (hx:ev L x=some (.int k z)) (hz:z=(j:Int)) (hj:j < m) (hq:p+j * i'.size=q):PV P o a (.pointer (some ⟨b,q,none⟩)):=fun w=>by subst hz; subst hq; have e1:=(hT _ _ h1).1; rw[h2]at e1; have e2:=TI.run_sizeOf (hT _ _ h4); simp[execOp,hop,hS.ev hu,hS.ev hx,Instr.indexAt,Instr.sureAddr,asIntOf,run_underlying e1,e2,Addr.add_lit,hj]
end
end

section
def nth{α:Type}:List α->Nat->Option α
 | [],_=>none
 | x :: _,0=>some x
 | _ :: r,n+1=>nth r n
def cutC:List SC->Nat->Nat->Option (List SC)
 | _ :: r,o+1,n=>cutC r o n
 | _,0,0=>some []
 | x :: r,0,n+1=>match cutC r 0 n with
  | some l=>some (x :: l)
  | none=>none
 | [],_,_=>none
def gcell:(g:GTy)->g.D->Nat->Option SC
 | .int k,x,0=>some (.val (.int k x))
 | .bool,x,0=>some (.val (.bool x))
 | .str,x,0=>some (.str x)
 | .sl g,x,0=>some (.lst g x none)
 | .csl g,x,0=>some (.lst g x (some (List.length x)))
 | .pair g h,x,o=>match Nat.blt o g.size with
  | true=>gcell g x.1 o
  | false=>gcell h x.2 (o - g.size)
 | _,_,_=>none
def qS(g:GTy) (x:g.D):Nat->Nat->Option (List SC)
 | _,0=>some []
 | o,n+1=>match gcell g x o,qS g x (o+1) n with
  | some c,some l=>some (c :: l)
  | _,_=>none
def Part(vs us:List Value) (o n:Nat):Prop:=us.length=n/\∀ j u,us[j]?=some u->vs[o+j]?=some u
section
variable {env:Nat->Loc} {B:Nat->Prop} {w:World}
theorem CsR.nth:∀ {cs:List SC} {vs:List Value} {o:Nat} {c:SC},CsR env B w cs vs->nth cs o=some c->∃ v,vs[o]?=some v/\CR env B w c v
 | [],_,_,_,_,h=>by cases h
 | c' :: cs,vs,0,c,⟨v,r,e,h1,_⟩,h=>by cases h; subst e; exact⟨v,rfl,h1⟩
 | c' :: cs,vs,o+1,c,⟨v,r,e,_,h2⟩,h=>by
  obtain⟨u,h3,h4⟩:=CsR.nth h2 h;subst e;exact⟨u,h3,h4⟩
theorem CsR.length:∀ {cs:List SC} {vs:List Value},CsR env B w cs vs->vs.length=cs.length
 | [],_,h=>by rw[show _=[] from h]; rfl
 | _ :: _,_,⟨v,r,e,_,h2⟩=>by rw[e,List.length_cons,List.length_cons,CsR.length h2]
theorem CsR.cut:∀ {cs:List SC} {vs:List Value} {o n:Nat} {ds:List SC},CsR env B w cs vs->cutC cs o n=some ds->∃ us,Part vs us o n/\CsR env B w ds us
 | c :: cs,vs,o+1,n,ds,⟨v,r,e,_,h2⟩,h=>by
  obtain⟨us,⟨h3,h4⟩,h5⟩:=CsR.cut (o:=o) h2 (by simpa [cutC] using h);subst e;exact⟨us,⟨h3,fun j u hj=>by rw[show o+1+j=(o+j)+1 by omega,List.getElem?_cons_succ]; exact h4 j u hj⟩,h5⟩
 | [],vs,0,0,ds,h1,h=>by
  simp only[cutC,Option.some.injEq]at h;subst h;exact⟨[],⟨rfl,fun j u hj=>by simp at hj⟩,rfl⟩
 | c :: cs,vs,0,0,ds,h1,h=>by
  simp only[cutC,Option.some.injEq]at h;subst h;exact⟨[],⟨rfl,fun j u hj=>by simp at hj⟩,rfl⟩
 | c :: cs,vs,0,n+1,ds,⟨v,r,e,h1,h2⟩,h=>by
  simp only[cutC]at h
  split at h
  ·rename_i l hl
   cases h;obtain⟨us,⟨h3,h4⟩,h5⟩:=CsR.cut h2 hl;subst e;refine⟨v :: us,⟨by rw[List.length_cons,h3],fun j u hj=>?_⟩,v,us,rfl,h1,h5⟩;cases j with
   | zero=>simpa using hj
   | succ j=>
    rw[show 0+(j+1)=(0+j)+1 by omega,List.getElem?_cons_succ];exact h4 j u (by simpa using hj)
  ·cases h
 | [],_,0,_+1,_,_,h=>by simp[cutC]at h
 | [],_,_+1,_,_,_,h=>by simp[cutC]at h
theorem FR.cell:∀ {g:GTy} {x:g.D} {vs:List Value} {o:Nat} {c:SC},FR B w g x vs->gcell g x o=some c->∃ v,vs[o]?=some v/\CR env B w c v
 | .int k,x,vs,0,c,hf,h=>by cases h; rw[show vs=[_] from hf]; exact⟨_,rfl,rfl⟩
 | .bool,x,vs,0,c,hf,h=>by cases h; rw[show vs=[_] from hf]; exact⟨_,rfl,rfl⟩
 | .str,x,vs,0,c,hf,h=>by cases h; rw[show vs=[_] from hf]; exact⟨_,rfl,rfl⟩
 | .sl g,x,vs,0,c,⟨A,k,xs,e,h1,h2,h3,h4⟩,h=>by cases h; rw[e]; exact⟨_,rfl,A,k,xs,rfl,h1,h2,(fun _ hc=>by cases hc),h3,h4⟩
 | .csl g,x,vs,0,c,⟨A,xs,e,h2,h3,h4⟩,h=>by cases h; rw[e]; exact⟨_,rfl,A,_,xs,rfl,Nat.le_refl _,h2,(fun _ hc=>by cases hc; rfl),h3,h4⟩
 | .pair g h,x,vs,o,c,⟨v1,v2,e,h1,h2⟩,hc=>by
  simp only[gcell]at hc;have hl:=FR.length h1
  split at hc
  ·rename_i hb
   have hlt:o < g.size:=zk hb;obtain⟨v,h3,h4⟩:=FR.cell h1 hc;exact⟨v,by rw[e,List.getElem?_append_left (by omega)]; exact h3,h4⟩
  ·rename_i hb
   have hge:¬ o < g.size:=fun hlt=>by
    have:Nat.blt o g.size=true:=Nat.ble_eq_true_of_le hlt
    rw[this]at hb; cases hb
   obtain⟨v,h3,h4⟩:=FR.cell h2 hc;exact⟨v,by rw[e,List.getElem?_append_right (by omega),hl]; exact h3,h4⟩
 | .int _,_,_,_+1,_,_,h=>by simp[gcell]at h
 | .bool,_,_,_+1,_,_,h=>by simp[gcell]at h
 | .str,_,_,_+1,_,_,h=>by simp[gcell]at h
 | .sl _,_,_,_+1,_,_,h=>by simp[gcell]at h
 | .csl _,_,_,_+1,_,_,h=>by simp[gcell]at h
 | .unit,_,_,_,_,_,h=>by simp[gcell]at h
theorem FR.cells{g:GTy} {x:g.D} {vs:List Value} (hf:FR B w g x vs):∀ {n o:Nat} {ds:List SC},qS g x o n=some ds->∃ us,Part vs us o n/\CsR env B w ds us
 | 0,o,ds,h=>by
  simp only[qS,Option.some.injEq]at h;subst h;exact⟨[],⟨rfl,fun j u hj=>by simp at hj⟩,rfl⟩
 | n+1,o,ds,h=>by
  simp only[qS]at h
  split at h
  ·rename_i c l hc hl
   cases h;obtain⟨v,h1,h2⟩:=FR.cell (env:=env) hf hc;obtain⟨us,⟨h3,h4⟩,h5⟩:=FR.cells hf hl;refine⟨v :: us,⟨by rw[List.length_cons,h3],fun j u hj=>?_⟩,v,us,rfl,h2,h5⟩;cases j with
   | zero=>simp at hj; subst hj; exact h1
   | succ j=>
    rw[show o+(j+1)=o+1+j by omega];exact h4 j u (by simpa using hj)
  ·cases h
end
def aload(X:Cx) (st:ASt) (t:TypeId) (x:SA):Option (Bool×SA):=
 match X.tt.find t with
 | none=>none
 | some te=>match qt te.ti.desc with
  | false=>match x with
   | .c (.ptr id o)=>match lk st.H id with
    | some (.cells _ cs)=>match nth cs o with
     | some c=>some (true,.c c)
     | none=>none
    | _=>none
   | .c (.elt id sz i o)=>match lk st.H id with
    | some (.row _ g l _)=>match Nat.beq sz g.size,gcell g (l.getD i g.zero) o with
     | true,some c=>some (decide (i < l.length),.c c)
     | _,_=>none
    | _=>none
   | .c (.pel g x o)=>match gcell g x o with
    | some c=>some (true,.c c)
    | none=>none
   | _=>none
  | true=>match x with
   | .c (.ptr id o)=>match lk st.H id with
    | some (.cells _ cs)=>match cutC cs o te.ti.size with
     | some c=>some (true,.agg c)
     | none=>none
    | _=>none
   | .c (.elt id sz i o)=>match lk st.H id with
    | some (.row _ g l _)=>match Nat.beq sz g.size,qS g (l.getD i g.zero) o te.ti.size with
     | true,some c=>some (decide (i < l.length),.agg c)
     | _,_=>none
    | _=>none
   | .c (.pel g x o)=>match qS g x o te.ti.size with
    | some c=>some (true,.agg c)
    | none=>none
   | _=>none
section
variable {X:Cx} {R:Nat->Prop} {W:World} {Bi:Bk} {n:Nat} {ks:List Nat} {env:Nat->Loc} {B:Nat->Prop} {w0:World} {H:List Ck} {st:ASt} {a:Act} {w w1:World} {o:Oper}
theorem Foc.more{H H2:List Ck} {c:Ck} {K:Ck->List Ck} (h:Foc H c K):Foc (H++H2) c (fun z=>K z++H2):=by
 obtain⟨A,Y,h1,h2⟩:=h;exact⟨A,Y++H2,by rw[h1]; simp,by rw[h2]; funext z; simp⟩
theorem run_load1{t:TypeId} {i:TI} {x:Operand} {b p:Nat} {v:Value} {D:List Deferred} {L:List (Nat×Value)} (hS:St n D L a) (hop:o.op=.load t x) (hi:TI.ok X.P t i) (h2:qt i.desc=false) (hx:Go.Proofs.YtldjgdggcodgeaaGreat.ev L x=some (.pointer (some ⟨b,p,none⟩)))
  (hc:w.cell? ⟨b,p,none⟩=some v):(execOp a.eval o).run X.P w=.ok (.value v) w:=by
 simp[execOp,hop,hS.ev hx,Instr.loadAt,Instr.sureAddr,loadVar,TI.run_isAgg hi,h2,hc]
theorem run_loadN{t:TypeId} {i:TI} {x:Operand} {b p:Nat} {vs:List Value} {D:List Deferred} {L:List (Nat×Value)} (hS:St n D L a) (hop:o.op=.load t x) (hi:TI.ok X.P t i) (h2:qt i.desc=true) (hx:Go.Proofs.YtldjgdggcodgeaaGreat.ev L x=some (.pointer (some ⟨b,p,none⟩)))
  (hl:vs.length=i.size) (hc:∀ j v,vs[j]?=some v->w.cell? ⟨b,p+j,none⟩=some v):(execOp a.eval o).run X.P w=.ok (.value (.agg vs.toArray)) w:=by
 have:=run_load_agg (w:=w) hi h2 (b:=b) (p:=p) hl hc
 simp[execOp,hop,hS.ev hx,Instr.loadAt,Instr.sureAddr,this]
theorem frozen_cell{b p:Nat} {v:Value} (hb:B b) (hc:w0.cell? ⟨b,p,none⟩=some v) (hs:SH (fun k=>R k\/B k) w0 H w):w.cell? ⟨b,p,none⟩=some v:=by
 rw[hs.below.cell (p:=⟨b,p,none⟩) (.inr hb)]; exact hc
theorem row_elem(h:AI X R W Bi n ks env B w0 H st a w1) {id:Nat} {t:TypeId} {g:GTy} {l:List g.D} {cap:Option Nat} (hl:lk st.H id=some (.row t g l cap)) {i:Nat} (hi:i < l.length) {b c m:Nat} (he:env id=.row (some ⟨b,0,none⟩) c m) :
  ∃ vs,FR B w0 g (l.getD i g.zero) vs/\∀ w,SH (fun k=>R k\/B k) w0 (H++ks.map qW) w->∀ q v,vs[q]?=some v->w.cell? ⟨b,i * g.size+q,none⟩=some v:=by
 obtain⟨ck,K,⟨A,k,xs,he',rfl,hf,_⟩,hfoc⟩:=h.heap.foc hl;rw[he]at he';cases he';have hx:l[i]?=some (l.getD i g.zero):=by rw[List.getD_eq_getElem?_getD,List.getElem?_eq_getElem hi]; rfl
 have h1:=Flat.get (fun _ _=>FR.length) hf hx;refine⟨_,h1,fun w hs q v hq=>?_⟩;have hown:Owns w (fun k=>R k\/B k) t g.size (some ⟨b,0,none⟩) c l.length xs:=hs.ok _ hfoc.more.mem;rw[List.getElem?_take]at hq
 split at hq
 ·rename_i hlt
  rw[List.getElem?_drop]at hq;have hbound:i * g.size+q < l.length * g.size:=by
   have h2:(i+1) * g.size<=l.length * g.size:=Nat.mul_le_mul_right _ hi;rw[Nat.add_mul]at h2;omega
  rw[hown.cells rfl _ hbound];exact hq
 ·cases hq
theorem aload_ok(hX:X.tt.ok X.P) {t:TypeId} {u:Operand} {g:Bool} {x sa:SA} (hop:o.op=.load t u) (hu:ae X st.L u=some (g,x)) (hg:g=true) (hl:aload X st t x=some (true,sa)):PureOk X st o sa:=by
 intro R W Bi n ks env B w0 H a w1 h;obtain⟨v,hv,hr⟩:=h.ev hu hg;have hS:=h.stt;unfold aload at hl
 split at hl
 ·cases hl
 ·rename_i te hte
  have hi:=(TT.get hX hte).ti
  split at hl
  ·rename_i h2
   split at hl
   ·split at hl
    ·rename_i hlk
     split at hl
     ·rename_i hn
      cases hl;obtain⟨b,he,rfl⟩:=hr;obtain⟨ck,K,⟨b',vs,he',rfl,hcs⟩,hf⟩:=h.heap.foc hlk;rw[he]at he';cases he';obtain⟨v,h3,h4⟩:=hcs.nth hn;exact⟨v,h4,fun w hs'=>have hs:=hs' (by rw[hop]; rfl); run_load1 hS hop hi h2 hv (by rw[cel_cell hs hf.more]; exact h3)⟩
     ·cases hl
    ·cases hl
   ·split at hl
    ·rename_i hlk
     split at hl
     ·rename_i hsz hn
      simp only[Option.some.injEq,Prod.mk.injEq,decide_eq_true_eq]at hl;obtain⟨hlt,rfl⟩:=hl;obtain⟨b,c,m,he,rfl⟩:=hr;obtain⟨vs,h3,h4⟩:=row_elem h hlk hlt he;obtain⟨v,h5,h6⟩:=FR.cell h3 hn;have hsz':=Nat.eq_of_beq_eq_true hsz;subst hsz';exact⟨v,h6,fun w hs'=>have hs:=hs' (by rw[hop]; rfl); run_load1 hS hop hi h2 hv (h4 w hs _ _ h5)⟩
     ·cases hl
    ·cases hl
   ·split at hl
    ·rename_i hn
     cases hl;obtain⟨b,p,rfl,hb,vs,h3,h4⟩:=hr;obtain⟨v,h5,h6⟩:=FR.cell h3 hn;exact⟨v,h6,fun w hs'=>have hs:=hs' (by rw[hop]; rfl); run_load1 hS hop hi h2 hv (frozen_cell hb (h4 _ _ h5) hs)⟩
    ·cases hl
   ·cases hl
  ·rename_i h2
   split at hl
   ·split at hl
    ·rename_i hlk
     split at hl
     ·rename_i hn
      cases hl;obtain⟨b,he,rfl⟩:=hr;obtain⟨ck,K,⟨b',vs,he',rfl,hcs⟩,hf⟩:=h.heap.foc hlk;rw[he]at he';cases he';obtain⟨us,⟨h3,h4⟩,h5⟩:=hcs.cut hn;exact⟨_,⟨us,rfl,h5⟩,fun w hs'=>have hs:=hs' (by rw[hop]; rfl); run_loadN hS hop hi h2 hv h3 (fun j v hj=>by rw[cel_cell hs hf.more]; exact h4 j v hj)⟩
     ·cases hl
    ·cases hl
   ·split at hl
    ·rename_i hlk
     split at hl
     ·rename_i hsz hn
      simp only[Option.some.injEq,Prod.mk.injEq,decide_eq_true_eq]at hl;obtain⟨hlt,rfl⟩:=hl;obtain⟨b,c,m,he,rfl⟩:=hr;obtain⟨vs,h3,h4⟩:=row_elem h hlk hlt he;obtain⟨us,⟨h5,h6⟩,h7⟩:=FR.cells h3 hn;have hsz':=Nat.eq_of_beq_eq_true hsz;subst hsz';exact⟨_,⟨us,rfl,h7⟩,fun w hs'=>have hs:=hs' (by rw[hop]; rfl); run_loadN hS hop hi h2 hv h5 (fun j v hj=>by rw[Nat.add_assoc]; exact h4 w hs _ _ (h6 j v hj))⟩
     ·cases hl
    ·cases hl
   ·split at hl
    ·rename_i hn
     cases hl;obtain⟨b,p,rfl,hb,vs,h3,h4⟩:=hr;obtain⟨us,⟨h5,h6⟩,h7⟩:=FR.cells h3 hn;exact⟨_,⟨us,rfl,h7⟩,fun w hs'=>have hs:=hs' (by rw[hop]; rfl); run_loadN hS hop hi h2 hv h5 (fun j v hj=>by rw[Nat.add_assoc]; exact frozen_cell hb (h4 _ _ (h6 j v hj)) hs)⟩
    ·cases hl
   ·cases hl
end
end

section
def afield(X:Cx) (t:TypeId) (x:SA) (k:Nat):Option (Bool×SA):=
 match X.tt.find t with
 | some ⟨⟨.struct fs,_,_,_⟩,_⟩=>match nth fs.toList k with
  | some f=>match X.tt.find f.type with
   | some te=>match Nat.blt 0 te.ti.size,x with
    | true,.c (.ptr id o)=>some (true,.c (.ptr id (o+f.offset)))
    | true,.c (.elt id sz i o)=>some (true,.c (.elt id sz i (o+f.offset)))
    | true,.c (.pel g x o)=>some (true,.c (.pel g x (o+f.offset)))
    | _,_=>none
   | none=>none
  | none=>none
 | _=>none
def ze(z:Int) (n:Nat):Bool:=decide (0<=z)&&decide (z < (n:Int))
def aindex(X:Cx) (st:ASt) (t:TypeId) (x:SA) (i:SA):Option (Bool×SA):=
 match X.tt.find t with
 | some ⟨⟨.slice e,_,_,_⟩,_⟩=>match X.tt.find e with
  | some te=>match x,i with
   | .c (.lst g l _),.c (.val (.int _ z))=>match Nat.beq g.size te.ti.size with
    | true=>some (ze z l.length,.c (.pel g (l.getD z.toNat g.zero) 0))
    | false=>none
   | .c (.sl id),.c (.val (.int _ z))=>match lk st.H id with
    | some (.row _ g l _)=>match Nat.beq g.size te.ti.size with
     | true=>some (ze z l.length,.c (.elt id g.size z.toNat 0))
     | false=>none
    | some (.hrow _ _ _ l _ _ _)=>match Nat.beq 1 te.ti.size with
     | true=>some (ze z l.length,.c (.elt id 1 z.toNat 0))
     | false=>none
    | some (.mrow _ _ _ l _ _)=>match Nat.beq 1 te.ti.size with
     | true=>some (ze z l.length,.c (.elt id 1 z.toNat 0))
     | false=>none
    | _=>none
   | _,_=>none
  | none=>none
 | some ⟨⟨.array m e,_,_,_⟩,_⟩=>match X.tt.find e with
  | some te=>match x,i with
   | .c (.ptr id o),.c (.val (.int _ z))=>some (ze z m,.c (.ptr id (o+z.toNat * te.ti.size)))
   | .c (.pel g x o),.c (.val (.int _ z))=>some (ze z m,.c (.pel g x (o+z.toNat * te.ti.size)))
   | .c (.par g l),.c (.val (.int _ z))=>match Nat.beq g.size te.ti.size with
    | true=>some (ze z m&&ze z l.length,.c (.pel g (l.getD z.toNat g.zero) 0))
    | false=>none
   | .c (.elt id sz 0 0),.c (.val (.int _ z))=>match Nat.beq sz te.ti.size with
    | true=>some (ze z m,.c (.elt id sz z.toNat 0))
    | false=>none
   | .c (.nel id o),.c (.val (.int _ z))=>match Nat.beq te.ti.size 1 with
    | true=>some (ze z m,.c (.elt id 1 (o+z.toNat) 0))
    | false=>some (ze z m,.c (.nel id (o+z.toNat * te.ti.size)))
   | _,_=>none
  | none=>none
 | _=>none
def capLess:Option Nat->Nat->Option Nat
 | some c,k=>some (c - k)
 | none,_=>none
def aslice(X:Cx) (t:TypeId) (x:SA) (lo hi mx:Option SA):Option (Bool×SA):=
 match X.tt.find t with
 | some ⟨⟨.slice e,_,_,_⟩,_⟩=>match X.tt.find e with
  | some te=>match x with
   | .c (.lst g l cap)=>match Nat.beq g.size te.ti.size with
    | true=>match lo,hi,mx with
     | some (.c (.val (.int _ z))),none,none=>some (decide (0<=z)&&decide (z<=(l.length:Int)),.c (.lst g (l.drop z.toNat) (capLess cap z.toNat)))
     | none,some (.c (.val (.int _ y))),none=>some (decide (0<=y)&&decide (y<=(l.length:Int)),.c (.lst g (l.take y.toNat) cap))
     | some (.c (.val (.int _ z))),some (.c (.val (.int _ y))),none=>some (decide (0<=z)&&decide (z<=y)&&decide (y<=(l.length:Int)),.c (.lst g ((l.take y.toNat).drop z.toNat) (capLess cap z.toNat)))
     | none,some (.c (.val (.int _ y))),some (.c (.val (.int _ q)))=>some (decide (0<=y)&&decide (y<=q)&&decide (q<=(l.length:Int)),.c (.lst g (l.take y.toNat) (some q.toNat)))
     | _,_,_=>none
    | false=>none
   | _=>none
  | none=>none
 | _=>none
def alen(X:Cx) (st:ASt) (t:TypeId) (x:SA):Option (Bool×SA):=
 match X.tt.find t with
 | some ⟨⟨.slice _,_,_,_⟩,_⟩=>match x with
  | .c (.lst _ l _)=>some (true,.c (.val (.int .i64 (l.length:Int))))
  | .c (.sl id)=>match lk st.H id with
   | some (.row _ _ l _)=>some (true,.c (.val (.int .i64 (l.length:Int))))
   | some (.hrow _ _ _ l _ _ _)=>some (true,.c (.val (.int .i64 (l.length:Int))))
   | some (.lrow _ _ l)=>some (true,.c (.val (.int .i64 (l.length:Int))))
   | some (.mrow _ _ _ l _ _)=>some (true,.c (.val (.int .i64 (l.length:Int))))
   | _=>none
  | .c (.val (.slice none 0 0))=>some (true,.c (.val (.int .i64 0)))
  | _=>none
 | some ⟨⟨.string,_,_,_⟩,_⟩=>match x with
  | .c (.str s)=>some (true,.c (.val (.int .i64 (s.length:Int))))
  | _=>none
 | _=>none
def acap(X:Cx) (t:TypeId) (x:SA):Option (Bool×SA):=
 match X.tt.find t with
 | some ⟨⟨.slice _,_,_,_⟩,_⟩=>match x with
  | .c (.lst _ _ c)=>some (c.isSome,.c (.val (.int .i64 ((c.getD 0:Nat):Int))))
  | .c (.val (.slice none 0 0))=>some (true,.c (.val (.int .i64 0)))
  | _=>none
 | _=>none
def aconv(X:Cx) (t t':TypeId) (x:SA):Option (Bool×SA):=
 match X.tt.find t,X.tt.find t' with
 | some _,some ⟨⟨.int k',_,_,_⟩,_⟩=>match x with
  | .c (.val (.int _ z))=>match wrapK k' z with
   | (c,r)=>some (c,.c (.val (.int k' r)))
  | _=>none
 | some _,some ⟨⟨.string,_,_,_⟩,_⟩=>match x with
  | .c (.str s)=>some (true,.c (.str s))
  | _=>none
 | _,_=>none
section
variable {X:Cx} {R:Nat->Prop} {W:World} {Bi:Bk} {n:Nat} {ks:List Nat} {env:Nat->Loc} {B:Nat->Prop} {w0:World} {H:List Ck} {st:ASt} {a:Act} {w w1:World} {o:Oper}
theorem nth_get{α:Type}:∀ {l:List α} {k:Nat} {x:α},nth l k=some x->l[k]?=some x
 | [],_,_,h=>by cases h
 | _ :: _,0,_,h=>h
 | _ :: r,k+1,_,h=>by rw[List.getElem?_cons_succ]; exact nth_get (l:=r) h
theorem afield_ok(hX:X.tt.ok X.P) {t:TypeId} {u:Operand} {g:Bool} {x sa:SA} {k:Nat} (hop:o.op=.fieldAddr t u k) (hu:ae X st.L u=some (g,x)) (hg:g=true) (hl:afield X t x k=some (true,sa)):PureOk X st o sa:=by
 intro R W Bi n ks env B w0 H a w1 h;obtain⟨v,hv,hr⟩:=h.ev hu hg;have hS:=h.stt;unfold afield at hl
 split at hl
 ·rename_i fs s b z gg hf
  split at hl
  ·rename_i f hk
   split at hl
   ·rename_i te hte
    obtain⟨T,hT,h1,h4⟩:=tab2 (TT.get hX hf).ti (TT.get hX hte).ti;have h3:fs[k]?=some ⟨f.name,f.type,f.offset,f.embedded,f.tag,f.pkgPath,f.byteOffset⟩:=by have:=nth_get hk; simpa using this
    split at hl
    ·rename_i h5
     cases hl;obtain⟨b,he,rfl⟩:=hr;exact⟨_,⟨b,he,rfl⟩,fun w _=>p_field hS hop hT h1 rfl h3 h4 h5 hv w⟩
    ·rename_i h5
     cases hl;obtain⟨b,c,m,he,rfl⟩:=hr;exact⟨_,⟨b,c,m,he,rfl⟩,fun w _=>by have:=p_field hS hop hT h1 rfl h3 h4 h5 hv w; rw[Nat.add_assoc]at this; exact this⟩
    ·rename_i h5
     cases hl;obtain⟨b,p,rfl,hat⟩:=hr;exact⟨_,⟨b,p,rfl,hat⟩,fun w _=>by have:=p_field hS hop hT h1 rfl h3 h4 h5 hv w; rw[Nat.add_assoc]at this; exact this⟩
    ·cases hl
   ·cases hl
  ·cases hl
 ·cases hl
theorem xf{z:Int} {n:Nat} (h:ze z n=true):∃ j:Nat,z=(j:Int)/\j < n/\z.toNat=j:=by
 simp only[ze,Bool.and_eq_true,decide_eq_true_eq]at h;exact⟨z.toNat,by omega,by omega,rfl⟩
theorem pel_of(g:GTy) (l:List g.D) {xs:List Value} (hf:Flat (FR B w0 g) l xs) {b p j:Nat} (hb:B b) (hc:∀ i u,xs[i]?=some u->w0.cell? ⟨b,p+i,none⟩=some u) (hj:j < l.length):At B w0 g (l.getD j g.zero) b (p+j * g.size):=by
 have hx:l[j]?=some (l.getD j g.zero):=by rw[List.getD_eq_getElem?_getD,List.getElem?_eq_getElem hj]; rfl
 have h1:=Flat.get (fun _ _=>FR.length) hf hx;refine⟨hb,_,h1,fun q v hq=>?_⟩;rw[List.getElem?_take]at hq
 split at hq
 ·rw[List.getElem?_drop]at hq
  rw[Nat.add_assoc];exact hc _ _ hq
 ·cases hq
theorem aindex_ok(hX:X.tt.ok X.P) {t:TypeId} {u y:Operand} {g g':Bool} {x i sa:SA} (hop:o.op=.indexAddr t u y) (hu:ae X st.L u=some (g,x)) (hg:g=true) (hy:ae X st.L y=some (g',i)) (hg':g'=true) (hl:aindex X st t x i=some (true,sa)):PureOk X st o sa:=by
 intro R W Bi n ks env B w0 H a w1 h;obtain⟨v,hv,hr⟩:=h.ev hu hg;obtain⟨v',hv',hr'⟩:=h.ev hy hg';have hS:=h.stt;unfold aindex at hl
 split at hl
 ·rename_i e s b z gg hf
  split at hl
  ·rename_i te hte
   obtain⟨T,hT,h1,h4⟩:=tab2 (TT.get hX hf).ti (TT.get hX hte).ti
   split at hl
   ·rename_i g l cap k z
    split at hl
    ·rename_i hsz
     simp only[Option.some.injEq,Prod.mk.injEq]at hl;obtain⟨hb,rfl⟩:=hl;obtain⟨j,rfl,hj,hjn⟩:=xf hb;obtain⟨A,c,xs,rfl,hc1,hc2,_,hfl,hrb⟩:=hr;rw[show v'=_ from hr']at hv';have hpos:0 < l.length:=by omega
     obtain⟨b,p,rfl,hcell⟩:=hrb.1.2 hpos;have hB:=hrb.2 b p hpos rfl;rw[hjn];refine⟨_,⟨b,p+j * g.size,rfl,pel_of g l hfl hB hcell hj⟩,fun w _=>?_⟩
     have:=p_index hS hop hT h1 rfl h4 hv hv' rfl hj w
     rw[<- Nat.eq_of_beq_eq_true hsz]at this;exact this
    ·cases hl
   ·rename_i id k z
    split at hl
    ·rename_i t2 g l cap hlk
     split at hl
     ·rename_i hsz
      simp only[Option.some.injEq,Prod.mk.injEq]at hl;obtain⟨hb,rfl⟩:=hl;obtain⟨j,rfl,hj,hjn⟩:=xf hb;obtain⟨A,c,m,he,rfl⟩:=hr;rw[show v'=_ from hr']at hv';obtain⟨ck,K,⟨A',k',xs,he',rfl,hfl,_⟩,hfoc⟩:=h.heap.foc hlk;rw[he]at he';cases he';obtain⟨b,rfl⟩:=h.sh.rowAt hfoc.more (by omega);rw[hjn];refine⟨_,⟨b,_,_,he,rfl⟩,fun w _=>?_⟩
      have:=p_index hS hop hT h1 rfl h4 hv hv' rfl hj w
      rw[<- Nat.eq_of_beq_eq_true hsz,Nat.zero_add]at this;exact this
     ·cases hl
    ·rename_i t2 g l cap q1 q2 hlk
     split at hl
     ·rename_i hsz
      simp only[Option.some.injEq,Prod.mk.injEq]at hl;obtain⟨hb,rfl⟩:=hl;obtain⟨j,rfl,hj,hjn⟩:=xf hb;obtain⟨A,c,m,he,rfl⟩:=hr;rw[show v'=_ from hr']at hv';obtain⟨ck,K,⟨A',k',ys,A2,c2,m2,he',rfl,hfl,_⟩,hfoc⟩:=h.heap.foc hlk;rw[he]at he';cases he';obtain⟨b,rfl⟩:=h.sh.rowAt hfoc.more (by omega);rw[hjn];refine⟨_,⟨b,_,_,he,rfl⟩,fun w _=>?_⟩
      have:=p_index hS hop hT h1 rfl h4 hv hv' rfl hj w
      rw[<- Nat.eq_of_beq_eq_true hsz,Nat.zero_add]at this;exact this
     ·cases hl
    ·rename_i t2 t3 g l cap q1 hlk
     split at hl
     ·rename_i hsz
      simp only[Option.some.injEq,Prod.mk.injEq]at hl;obtain⟨hb,rfl⟩:=hl;obtain⟨j,rfl,hj,hjn⟩:=xf hb;obtain⟨A,c,m,he,rfl⟩:=hr;rw[show v'=_ from hr']at hv';obtain⟨ck,K,⟨A',k',ys,ys',I,he',rfl,_⟩,hfoc⟩:=h.heap.foc hlk;rw[he]at he';cases he';obtain⟨b,rfl⟩:=Owns.at ((h.sh.ok _ hfoc.more.mem).1 _ List.mem_cons_self) (by show 0 < l.length; omega);rw[hjn];refine⟨_,⟨b,_,_,he,rfl⟩,fun w _=>?_⟩
      have:=p_index hS hop hT h1 rfl h4 hv hv' rfl hj w
      rw[<- Nat.eq_of_beq_eq_true hsz,Nat.zero_add]at this;exact this
     ·cases hl
    ·cases hl
   ·cases hl
  ·cases hl
 ·rename_i m e s b z gg hf
  split at hl
  ·rename_i te hte
   obtain⟨T,hT,h1,h4⟩:=tab2 (TT.get hX hf).ti (TT.get hX hte).ti
   split at hl
   ·rename_i id p k z
    simp only[Option.some.injEq,Prod.mk.injEq]at hl;obtain⟨hb,rfl⟩:=hl;obtain⟨j,rfl,hj,hjn⟩:=xf hb;obtain⟨b,he,rfl⟩:=hr;rw[show v'=_ from hr']at hv';rw[hjn];exact⟨_,⟨b,he,rfl⟩,fun w _=>p_indexA hS hop hT h1 rfl h4 hv hv' rfl hj rfl w⟩
   ·rename_i g x p k z
    simp only[Option.some.injEq,Prod.mk.injEq]at hl;obtain⟨hb,rfl⟩:=hl;obtain⟨j,rfl,hj,hjn⟩:=xf hb;obtain⟨b,q,rfl,hat⟩:=hr;rw[show v'=_ from hr']at hv';rw[hjn];exact⟨_,⟨b,q,rfl,hat⟩,fun w _=>p_indexA hS hop hT h1 rfl h4 hv hv' rfl hj (by omega) w⟩
   ·rename_i g l k z
    split at hl
    ·rename_i hsz
     simp only[Option.some.injEq,Prod.mk.injEq,Bool.and_eq_true]at hl;obtain⟨⟨hb0,hb⟩,rfl⟩:=hl;obtain⟨j,rfl,hj,hjn⟩:=xf hb;obtain⟨j',hjj,hj',_⟩:=xf hb0;obtain⟨b,p,vs,rfl,hB,hfl,hcell⟩:=hr;rw[show v'=_ from hr']at hv';rw[hjn];refine⟨_,⟨b,p+j * g.size,rfl,pel_of g l hfl hB hcell hj⟩,fun w _=>?_⟩;exact p_indexA hS hop hT h1 rfl h4 hv hv' rfl (by omega) (by rw[Nat.eq_of_beq_eq_true hsz]; rfl) w
    ·cases hl
   ·rename_i id sz k z
    split at hl
    ·rename_i hsz
     simp only[Option.some.injEq,Prod.mk.injEq]at hl;obtain⟨hb,rfl⟩:=hl;obtain⟨j,rfl,hj,hjn⟩:=xf hb;obtain⟨b,c,q,he,rfl⟩:=hr;rw[show v'=_ from hr']at hv';rw[hjn];exact⟨_,⟨b,c,q,he,rfl⟩,fun w _=>p_indexA hS hop hT h1 rfl h4 hv hv' rfl hj (by rw[Nat.eq_of_beq_eq_true hsz]; simp) w⟩
    ·cases hl
   ·rename_i id p k z
    split at hl
    ·rename_i hsz
     simp only[Option.some.injEq,Prod.mk.injEq]at hl;obtain⟨hb,rfl⟩:=hl;obtain⟨j,rfl,hj,hjn⟩:=xf hb;obtain⟨b,c,q,he,rfl⟩:=hr;rw[show v'=_ from hr']at hv';rw[hjn];have h1s:=Nat.eq_of_beq_eq_true hsz;exact⟨_,⟨b,c,q,he,rfl⟩,fun w _=>p_indexA hS hop hT h1 rfl h4 hv hv' rfl hj (by rw[h1s]; omega) w⟩
    ·simp only[Option.some.injEq,Prod.mk.injEq]at hl
     obtain⟨hb,rfl⟩:=hl;obtain⟨j,rfl,hj,hjn⟩:=xf hb;obtain⟨b,c,q,he,rfl⟩:=hr;rw[show v'=_ from hr']at hv';rw[hjn];exact⟨_,⟨b,c,q,he,rfl⟩,fun w _=>p_indexA hS hop hT h1 rfl h4 hv hv' rfl hj rfl w⟩
   ·cases hl
  ·cases hl
 ·cases hl
theorem Flat.cut{g:GTy} {l:List g.D} {xs:List Value} (hf:Flat (FR B w0 g) l xs) (lo hi:Nat):Flat (FR B w0 g) ((l.take hi).drop lo) ((xs.drop (lo * g.size)).take ((hi - lo) * g.size)):=by
 have h1:=(Flat.split (fun _ _=>FR.length) hi hf).1;have h2:=(Flat.split (fun _ _=>FR.length) lo h1).2;have e:(xs.take (hi * g.size)).drop (lo * g.size)=(xs.drop (lo * g.size)).take ((hi - lo) * g.size):=by
  rw[List.drop_take,Nat.sub_mul]
 rw[e]at h2;exact h2
theorem RB.cut{A:Option Addr} {m size l h c:Nat} {xs:List Value} (hr:RB B w0 A m size xs) (hl:l<=h) (hh:h<=m) (hc:h<=c):RB B w0 (cutA A l size c) (h - l) size ((xs.drop (l * size)).take ((h - l) * size)):=by
 refine⟨hr.1.cut hl hh hc,fun b p hp e=>?_⟩;obtain⟨b0,p0,rfl,_⟩:=hr.1.2 (by omega);unfold cutA at e
 split at e
 ·cases e; exact hr.2 _ _ (by omega) rfl
 ·simp only[Option.map_some,Option.some.injEq,Addr.add_lit]at e
  cases e;exact hr.2 _ _ (by omega) rfl
theorem cut_lst{g:GTy} {l:List g.D} {A:Option Addr} {c:Nat} {xs:List Value} {cap:Option Nat} (hfl:Flat (FR B w0 g) l xs) (hrb:RB B w0 A l.length g.size xs) (hc2:c<=maxLen) (lo hi q:Nat) (h1:lo<=hi) (h2:hi<=l.length) (h3:hi<=q) (h4:q<=c) (hcap:∀ k,cap=some k->q - lo=k) :
  CR env B w0 (.lst g ((l.take hi).drop lo) cap) (.slice (cutA A lo g.size q) (hi - lo) (q - lo)):=by
 have hlen:((l.take hi).drop lo).length=hi - lo:=by simp; omega
 refine⟨_,q - lo,_,by rw[hlen],by rw[hlen]; omega,by omega,hcap,hfl.cut lo hi,?_⟩;rw[hlen];exact hrb.cut h1 h2 h3
theorem aslice_ok(hX:X.tt.ok X.P) {t:TypeId} {u:Operand} {lo hi mx:Option Operand} {g:Bool} {x sa:SA} {slo shi smx:Option SA} (hop:o.op=.slice t u lo hi mx) (hu:ae X st.L u=some (g,x)) (hg:g=true)
  (hlo:∀ s,slo=some s->∃ y,lo=some y/\∃ g',ae X st.L y=some (g',s)/\g'=true) (hlo0:slo=none->lo=none) (hhi:∀ s,shi=some s->∃ y,hi=some y/\∃ g',ae X st.L y=some (g',s)/\g'=true) (hhi0:shi=none->hi=none)
  (hmx:∀ s,smx=some s->∃ y,mx=some y/\∃ g',ae X st.L y=some (g',s)/\g'=true) (hmx0:smx=none->mx=none) (hl:aslice X t x slo shi smx=some (true,sa)):PureOk X st o sa:=by
 intro R W Bi n ks env B w0 H a w1 h;obtain⟨v,hv,hr⟩:=h.ev hu hg;have hS:=h.stt;unfold aslice at hl
 split at hl
 ·rename_i e s b z gg hf
  split at hl
  ·rename_i te hte
   obtain⟨T,hT,h1,h4⟩:=tab2 (TT.get hX hf).ti (TT.get hX hte).ti
   split at hl
   ·rename_i g l cap
    obtain⟨A,c,xs,rfl,hc1,hc2,hcap,hfl,hrb⟩:=hr
    split at hl
    ·rename_i hsz
     have hsz':=Nat.eq_of_beq_eq_true hsz
     split at hl
     ·rename_i k z
      simp only[Option.some.injEq,Prod.mk.injEq,Bool.and_eq_true,decide_eq_true_eq]at hl;obtain⟨⟨hz0,hz1⟩,rfl⟩:=hl;obtain⟨y,rfl,g',hy,hg'⟩:=hlo _ rfl;rw[hhi0 rfl,hmx0 rfl]at hop;obtain⟨v',hv',hr'⟩:=h.ev hy hg';rw[show v'=_ from hr']at hv';refine⟨_,?_,fun w _=>p_sliceFrom hS hop hT h1 rfl h4 hv hv' (l:=z.toNat) (by omega) (by omega) w⟩;rw[<- hsz']
      have:=cut_lst (env:=env) (cap:=capLess cap z.toNat) hfl hrb hc2 z.toNat l.length c (by omega) (Nat.le_refl _) hc1 (Nat.le_refl _) (by
       intro k hk;cases cap with
       | none=>cases hk
       | some c'=>have:=hcap c' rfl; cases hk; rw[this])
      rw[List.take_length]at this;exact this
     ·rename_i k y
      simp only[Option.some.injEq,Prod.mk.injEq,Bool.and_eq_true,decide_eq_true_eq]at hl;obtain⟨⟨hz0,hz1⟩,rfl⟩:=hl;obtain⟨q,rfl,g',hy,hg'⟩:=hhi _ rfl;rw[hlo0 rfl,hmx0 rfl]at hop;obtain⟨v',hv',hr'⟩:=h.ev hy hg';rw[show v'=_ from hr']at hv';refine⟨_,?_,fun w _=>p_sliceTo hS hop hT h1 rfl h4 hv hv' (h:=y.toNat) (by omega) (by omega) w⟩;have hlen:(l.take y.toNat).length=y.toNat:=by simp; omega
      have h5:=hfl.cut 0 y.toNat;have h6:=hrb.1.cut (l:=0) (h:=y.toNat) (c:=c) (by omega) (by omega) (by omega);have hA:cutA A 0 g.size c=A:=by
       unfold cutA
       split
       ·rfl
       ·cases A with
        | none=>rfl
        | some ad=>simp[Addr.add]
      rw[hA]at h6;refine⟨A,c,_,by rw[hlen],by rw[hlen]; omega,hc2,hcap,by simpa using h5,?_⟩;rw[hlen];refine⟨by simpa using h6,fun b p hp e=>hrb.2 b p (by omega) e⟩
     ·rename_i k z k' y
      simp only[Option.some.injEq,Prod.mk.injEq,Bool.and_eq_true,decide_eq_true_eq]at hl;obtain⟨⟨⟨hz0,hz1⟩,hz2⟩,rfl⟩:=hl;obtain⟨q,rfl,g',hy,hg'⟩:=hlo _ rfl;obtain⟨q',rfl,g'',hy',hg''⟩:=hhi _ rfl;rw[hmx0 rfl]at hop;obtain⟨v',hv',hr'⟩:=h.ev hy hg';rw[show v'=_ from hr']at hv';obtain⟨v'',hv'',hr''⟩:=h.ev hy' hg'';rw[show v''=_ from hr'']at hv'';refine⟨_,?_,fun w _=>p_sliceMid hS hop hT h1 rfl h4 hv hv' hv'' (l:=z.toNat) (h:=y.toNat) (by omega) (by omega) (by omega) (by omega) w⟩;rw[<- hsz'];exact cut_lst (env:=env) hfl hrb hc2 z.toNat y.toNat c (by omega) (by omega) (by omega) (Nat.le_refl _) (by
       intro k hk;cases cap with
       | none=>cases hk
       | some c'=>have:=hcap c' rfl; cases hk; rw[this])
     ·rename_i k y k' q
      simp only[Option.some.injEq,Prod.mk.injEq,Bool.and_eq_true,decide_eq_true_eq]at hl;obtain⟨⟨⟨hz0,hz1⟩,hz2⟩,rfl⟩:=hl;obtain⟨q1,rfl,g',hy,hg'⟩:=hhi _ rfl;obtain⟨q2,rfl,g'',hy',hg''⟩:=hmx _ rfl;rw[hlo0 rfl]at hop;obtain⟨v',hv',hr'⟩:=h.ev hy hg';rw[show v'=_ from hr']at hv';obtain⟨v'',hv'',hr''⟩:=h.ev hy' hg'';rw[show v''=_ from hr'']at hv'';refine⟨_,?_,fun w _=>p_slice3n hS hop hT h1 rfl h4 hv hv' hv'' (h:=y.toNat) (q:=q.toNat) (by omega) (by omega) (by omega) (by omega) w⟩;have hlen:(l.take y.toNat).length=y.toNat:=by simp; omega
      have h5:=hfl.cut 0 y.toNat;have h6:=hrb.1.cut (l:=0) (h:=y.toNat) (c:=c) (by omega) (by omega) (by omega);have hA:cutA A 0 g.size c=A:=by
       unfold cutA
       split
       ·rfl
       ·cases A with
        | none=>rfl
        | some ad=>simp[Addr.add]
      rw[hA]at h6;refine⟨A,q.toNat,_,by rw[hlen],by rw[hlen]; omega,by omega,(fun _ hk=>by cases hk; rfl),by simpa using h5,?_⟩;rw[hlen];refine⟨by simpa using h6,fun b p hp e=>hrb.2 b p (by omega) e⟩
     ·cases hl
    ·cases hl
   ·cases hl
  ·cases hl
 ·cases hl
end
end

def putC:List SC->Nat->List SC->Option (List SC)
 | l,0,[]=>some l
 | _ :: l,0,v :: vs=>match putC l 0 vs with
  | some r=>some (v :: r)
  | none=>none
 | c :: l,k+1,vs=>match putC l k vs with
  | some r=>some (c :: r)
  | none=>none
 | [],_,_=>none
def SA.cells:SA->List SC
 | .c x=>[x]
 | .agg cs=>cs
 | .arr g l=>List.replicate (l.length * g.size) .dead
def SC.live:SC->Bool
 | .dead=>false
 | .val v=>v.oneCell'
 | _=>true
def lives:List SC->Bool
 | []=>true
 | c :: r=>c.live&&lives r
def fieldAt(X:Cx):List Field->Nat->Option (Nat×Nat)
 | fs,k=>match nth fs k with
  | some f=>match X.tt.find f.type with
   | some te=>some (f.offset,te.ti.size)
   | none=>none
  | none=>none
def afill(X:Cx) (L:Sl) (pl:Nat->Option (Nat×Nat)):List (Nat×Operand)->Bool->List SC->Option (Bool×List SC)
 | [],c,z=>some (c,z)
 | (k,u) :: r,c,z=>match pl k,ae X L u with
  | some (off,size),some (g,x)=>match Nat.beq x.cells.length size,lives x.cells,putC z off x.cells with
   | true,true,some z'=>afill X L pl r (c&&g) z'
   | _,_,_=>none
  | _,_=>none
def allOk(X:Cx):List Field->Bool
 | []=>true
 | f :: r=>(X.tt.find f.type).isSome&&allOk X r
def abuild(X:Cx) (L:Sl) (t:TypeId) (ps:List (Nat×Operand)):Option (Bool×SA):=
 match X.tt.find t with
 | some ⟨⟨.struct fs,_,_,.agg z⟩,_⟩=>match allOk X fs.toList with
  | true=>match afill X L (fieldAt X fs.toList) ps true (scs z.toList)with
   | some (c,r)=>some (c,.agg r)
   | none=>none
  | false=>none
 | some ⟨⟨.array _ e,_,_,.agg z⟩,_⟩=>match X.tt.find e with
  | some te=>match afill X L (fun i=>some (i * te.ti.size,te.ti.size)) ps true (scs z.toList)with
   | some (c,r)=>some (c,.agg r)
   | none=>none
  | none=>none
 | _=>none
def pickS(b:Bool):SA->SA->Option SA
 | .c (.val (.int k x)),.c (.val (.int k' y))=>match decide (k=k')with
  | true=>some (.c (.val (.int k (cond b x y))))
  | false=>none
 | .c (.val (.bool x)),.c (.val (.bool y))=>some (.c (.val (.bool (cond b x y))))
 | .c (.str x),.c (.str y)=>some (.c (.str (cond b x y)))
 | _,_=>none
def caps(X:Cx) (L:Sl):List Operand->Option (List Cap)
 | []=>some []
 | u :: r=>match ae X L u,caps X L r with
  | some (true,.c (.ptr id 0)),some l=>some (.id id :: l)
  | some (true,.c (.pel g x 0)),some l=>some (.fz g x :: l)
  | _,_=>none
def aminmax(isMax:Bool) (k:IntKind) (acc:Int) (X:Cx) (L:Sl):List Operand->Bool->Option (Bool×SC)
 | [],c=>some (c,.val (.int k acc))
 | u :: r,c=>match ae X L u with
  | some (g,.c (.val (.int k' y)))=>match decide (k=k'),isMax with
   | true,true=>aminmax true k (if acc < y then y else acc) X L r (c&&g)
   | true,false=>aminmax false k (if y < acc then y else acc) X L r (c&&g)
   | false,_=>none
  | _=>none
def apure(X:Cx) (st:ASt):Op->Option (Bool×SA)
 | .move u=>ae X st.L u
 | .assign u=>ae X st.L u
 | .pick c u v=>match ae X st.L c,ae X st.L u,ae X st.L v with
  | some (gc,.c (.val (.bool b))),some (gu,x),some (gv,y)=>match pickS b x y with
   | some r=>some (gc&&(!b || gu)&&(b || gv),r)
   | none=>none
  | _,_,_=>none
 | .unOp .not _ u=>match ae X st.L u with
  | some (g,.c (.val (.bool b)))=>some (g,.c (.val (.bool (!b))))
  | _=>none
 | .unOp .neg _ u=>match ae X st.L u with
  | some (g,.c (.val (.int k x)))=>match wrapK k (0 - x)with
   | (c,z)=>some (g&&c,.c (.val (.int k z)))
  | _=>none
 | .binOp op t u v _=>match ae X st.L u,ae X st.L v with
  | some (g,x),some (g',y)=>match abin X op t x y with
   | some (c,r)=>some (g&&g'&&c,.c r)
   | none=>none
  | _,_=>none
 | .load t u=>match ae X st.L u with
  | some (g,x)=>match aload X st t x with
   | some (c,r)=>some (g&&c,r)
   | none=>none
  | none=>none
 | .fieldAddr t u k=>match ae X st.L u with
  | some (g,x)=>match afield X t x k with
   | some (c,r)=>some (g&&c,r)
   | none=>none
  | none=>none
 | .indexAddr t u v=>match ae X st.L u,ae X st.L v with
  | some (g,x),some (g',y)=>match aindex X st t x y with
   | some (c,r)=>some (g&&g'&&c,r)
   | none=>none
  | _,_=>none
 | .slice t u none none none=>none
 | .slice t u (some l) none none=>match ae X st.L u,ae X st.L l with
  | some (g,x),some (g1,y1)=>match aslice X t x (some y1) none none with
   | some (c,r)=>some (g&&g1&&c,r)
   | none=>none
  | _,_=>none
 | .slice t u none (some l) none=>match ae X st.L u,ae X st.L l with
  | some (g,x),some (g1,y1)=>match aslice X t x none (some y1) none with
   | some (c,r)=>some (g&&g1&&c,r)
   | none=>none
  | _,_=>none
 | .slice t u (some l) (some h) none=>match ae X st.L u,ae X st.L l,ae X st.L h with
  | some (g,x),some (g1,y1),some (g2,y2)=>match aslice X t x (some y1) (some y2) none with
   | some (c,r)=>some (g&&g1&&g2&&c,r)
   | none=>none
  | _,_,_=>none
 | .slice t u none (some l) (some h)=>match ae X st.L u,ae X st.L l,ae X st.L h with
  | some (g,x),some (g1,y1),some (g2,y2)=>match aslice X t x none (some y1) (some y2)with
   | some (c,r)=>some (g&&g1&&g2&&c,r)
   | none=>none
  | _,_,_=>none
 | .convert t t' u=>match ae X st.L u with
  | some (g,x)=>match aconv X t t' x with
   | some (c,r)=>some (g&&c,r)
   | none=>none
  | none=>none
 | .build t ps=>abuild X st.L t ps.toList
 | .makeFunc (.func f) ⟨[]⟩ cs=>match caps X st.L cs.toList with
  | some ids=>some (true,.c (.fn f ids))
  | none=>none
 | .makeFunc (.func f) ⟨[u]⟩ ⟨[]⟩=>match ae X st.L u with
  | some (true,.c (.ptr id 0))=>some (true,.c (.bfn f id))
  | _=>none
 | .nilCheck u=>match ae X st.L u with
  | some (g,.c (.ptr id o))=>some (g,.c (.ptr id o))
  | some (g,.c (.elt id s i o))=>some (g,.c (.elt id s i o))
  | some (g,.c (.pel t x o))=>some (g,.c (.pel t x o))
  | some (g,.c (.par t x))=>some (g,.c (.par t x))
  | _=>none
 | .extract (.tmp s) k=>match lk st.L s with
  | some (.tup vs)=>match nth vs k with
   | some x=>some (true,x)
   | none=>none
  | _=>none
 | .call ⟨.builtin .len,⟨[u]⟩,⟨[t]⟩⟩=>match ae X st.L u with
  | some (g,x)=>match alen X st t x with
   | some (c,r)=>some (g&&c,r)
   | none=>none
  | none=>none
 | .call ⟨.builtin .cap,⟨[u]⟩,⟨[t]⟩⟩=>match ae X st.L u with
  | some (g,x)=>match acap X t x with
   | some (c,r)=>some (g&&c,r)
   | none=>none
  | none=>none
 | .call ⟨.builtin .min,⟨u :: r⟩,_⟩=>match ae X st.L u with
  | some (g,.c (.val (.int k x)))=>match aminmax false k x X st.L r g with
   | some (c,y)=>some (c,.c y)
   | none=>none
  | _=>none
 | .call ⟨.builtin .max,⟨u :: r⟩,_⟩=>match ae X st.L u with
  | some (g,.c (.val (.int k x)))=>match aminmax true k x X st.L r g with
   | some (c,y)=>some (c,.c y)
   | none=>none
  | _=>none
 | .index t u v=>match X.tt.find t with
  | some ⟨⟨.string,_,_,_⟩,_⟩=>match ae X st.L u,ae X st.L v with
   | some (g,.c (.str s)),some (g',.c (.val (.int _ z)))=>some (g&&g'&&ze z s.length,.c (.val (.int .u8 ((s.getD z.toNat 0).toNat:Int))))
   | _,_=>none
  | _=>none
 | _=>none

section
section
variable {X:Cx} {R:Nat->Prop} {W:World} {Bi:Bk} {n:Nat} {ks:List Nat} {env:Nat->Loc} {B:Nat->Prop} {w0:World} {H:List Ck} {st:ASt} {a:Act} {w w1:World} {o:Oper}
theorem putC_ok:∀ {cs:List SC} {vs:List Value} {k:Nat} {xs:List SC} {us:List Value} {r:List SC},CsR env B w cs vs->CsR env B w xs us->putC cs k xs=some r->∃ rs,PutAt vs k us rs/\CsR env B w r rs
 | cs,vs,0,[],us,r,h1,h2,h=>by
  have e:us=[]:=h2;subst e;cases cs with
  | nil=>simp only[putC,Option.some.injEq]at h; subst h; exact⟨vs,.nil,h1⟩
  | cons c cs=>simp only[putC,Option.some.injEq]at h; subst h; exact⟨vs,.nil,h1⟩
 | c :: cs,vs,0,x :: xs,us,r,⟨v,vr,e,_,h1⟩,⟨u,ur,e2,h2,h3⟩,h=>by
  simp only[putC]at h
  split at h
  ·rename_i q hq
   cases h;obtain⟨rs,h4,h5⟩:=putC_ok h1 h3 hq;subst e; subst e2;exact⟨u :: rs,.cons h4,u,rs,rfl,h2,h5⟩
  ·cases h
 | c :: cs,vs,k+1,xs,us,r,⟨v,vr,e,h0,h1⟩,h2,h=>by
  simp only[putC]at h
  split at h
  ·rename_i q hq
   cases h;obtain⟨rs,h4,h5⟩:=putC_ok h1 h2 hq;subst e;exact⟨v :: rs,.skip h4,v,rs,rfl,h0,h5⟩
  ·cases h
 | [],_,0,_ :: _,_,_,_,_,h=>by simp[putC]at h
 | [],_,_+1,_,_,_,_,_,h=>by simp[putC]at h
theorem CsR.deads:∀ vs:List Value,CsR env B w (List.replicate vs.length .dead) vs
 | []=>rfl
 | v :: r=>⟨v,r,rfl,trivial,CsR.deads r⟩
theorem SaR.cells:∀ {x:SA} {v:Value},SaR env B w x v->(∀ c,x=.c c->v.oneCell'=true)->CsR env B w x.cells v.cells.toList
 | .c x,v,h,ho=>by
  have hv:=ho x rfl;have hvc:v.cells=#[v]:=by cases v<;>first | rfl | (simp[Value.oneCell']at hv)
  rw[hvc];exact⟨v,[],rfl,h,rfl⟩
 | .agg cs,v,⟨vs,e,h⟩,_=>by subst e; simpa [Value.cells,SA.cells] using h
 | .arr g l,v,⟨vs,e,h⟩,_=>by
  subst e;have h1:=CsR.deads (env:=env) (B:=B) (w:=w) vs;rw[FR.flat_length h]at h1
  simpa [Value.cells,SA.cells] using h1
theorem CR.one:∀ {c:SC} {v:Value},c.live=true->CR env B w c v->v.oneCell'=true
 | .val _,_,h,e=>by rw[show _=_ from e]; exact h
 | .str _,_,_,e=>by rw[show _=qe _ from e]; rfl
 | .dead,_,h,_=>by cases h
 | .ptr _ _,_,_,⟨_,_,e⟩=>by rw[e]; rfl
 | .elt _ _ _ _,_,_,⟨_,_,_,_,e⟩=>by rw[e]; rfl
 | .pel _ _ _,_,_,⟨_,_,e,_⟩=>by rw[e]; rfl
 | .par _ _,_,_,⟨_,_,_,e,_⟩=>by rw[e]; rfl
 | .sl _,_,_,⟨_,_,_,_,e⟩=>by rw[e]; rfl
 | .lst _ _ _,_,_,⟨_,_,_,e,_⟩=>by rw[e]; rfl
 | .fn _ _,_,_,⟨_,e,_⟩=>by rw[e]; rfl
 | .mref _,_,_,⟨_,_,e⟩=>by rw[e]; rfl
 | .bfn _ _,_,_,⟨_,_,e⟩=>by rw[e]; rfl
 | .nel _ _,_,_,⟨_,_,_,_,e⟩=>by rw[e]; rfl
 | .slp _ _ _,_,_,⟨_,_,_,_,_,e⟩=>by rw[e]; rfl
 | .cpo _,_,_,⟨_,_,_,_,e⟩=>by rw[e]; rfl
 | .slf b _,_,_,⟨_,_,e⟩=>by rw[e]; cases b<;>rfl
theorem CsR.ones:∀ {cs:List SC} {vs:List Value},lives cs=true->CsR env B w cs vs->∀ u∈vs,u.oneCell'=true
 | [],_,_,h,u,hu=>by rw[show _=[] from h]at hu; cases hu
 | c :: cs,_,hl,⟨v,r,e,h1,h2⟩,u,hu=>by
  simp only[lives,Bool.and_eq_true]at hl;subst e
  rcases List.mem_cons.1 hu with rfl | hu
  ·exact CR.one hl.1 h1
  ·exact CsR.ones hl.2 h2 u hu
theorem p_makeFuncB{P:Program} {o:Oper} {a:Act} {n:Nat} {D:List Deferred} {L:List (Nat×Value)} {f:Fn} {x:Operand} {v:Value} (hS:St n D L a) (hop:o.op=.makeFunc f #[x] #[]) (hv:ev L x=some v):PV P o a (.func f #[v] #[]):=fun w=>by
 simp[execOp,hop,Instr.makeFunc,hS.ev hv]
theorem caps_ok(h:AI X R W Bi n ks env B w0 H st a w1):∀ {us:List Operand} {ids:List Cap},caps X st.L us=some ids->∃ vs,evs (qL a) us=some vs/\ptrs env B w0 ids vs
 | [],ids,hc=>by cases hc; exact⟨[],rfl,rfl⟩
 | u :: us,ids,hc=>by
  simp only[caps]at hc
  split at hc
  ·rename_i id l hu hl
   cases hc;obtain⟨v,h1,b,he,rfl⟩:=h.ev hu rfl;obtain⟨vs,h2,h3⟩:=caps_ok h hl;refine⟨_ :: vs,?_,_,vs,rfl,⟨b,he,rfl⟩,h3⟩;unfold evs;rw[h1,h2]
  ·rename_i g x l hu hl
   cases hc;obtain⟨v,h1,b,o,rfl,hat⟩:=h.ev hu rfl;obtain⟨vs,h2,h3⟩:=caps_ok h hl;refine⟨_ :: vs,?_,_,vs,rfl,⟨b,o,rfl,hat⟩,h3⟩;unfold evs;rw[h1,h2]
   rfl
  ·cases hc
theorem aminmax_ok(h:AI X R W Bi n ks env B w0 H st a w1) {k:IntKind}:∀ {m:Bool} {us:List Operand} {acc:Int} {c:Bool} {sc:SC},aminmax m k acc X st.L us c=some (true,sc) ->
  c=true/\∃ z,sc=.val (.int k z)/\∀ w,((us.map a.eval).foldlM (if m then Builtin.max2 else Builtin.min2) (.int k acc)).run X.P w=.ok (.int k z) w
 | m,[],acc,c,sc,hm=>by
  simp only[aminmax,Option.some.injEq,Prod.mk.injEq]at hm;obtain⟨rfl,rfl⟩:=hm;exact⟨rfl,acc,rfl,fun w=>by simp⟩
 | m,u :: us,acc,c,sc,hm=>by
  simp only[aminmax]at hm
  split at hm
  ·rename_i g k' y hu
   have hk':k=k':=by
    split at hm
    ·rename_i hk; exact of_decide_eq_true hk
    ·rename_i hk; exact of_decide_eq_true hk
    ·cases hm
   subst hk';rw[decide_eq_true rfl]at hm;cases m with
   | true=>
    obtain⟨hc,z,rfl,hz⟩:=aminmax_ok (m:=true) h hm;simp only[Bool.and_eq_true]at hc;obtain⟨v,h1,h2⟩:=h.ev hu hc.2;have h3:=h.stt.ev h1;rw[show v=_ from h2]at h3;refine⟨hc.1,z,rfl,fun w=>?_⟩
    have:=hz w
    simp[h3,Builtin.max2]at this ⊢
    exact this
   | false=>
    obtain⟨hc,z,rfl,hz⟩:=aminmax_ok (m:=false) h hm;simp only[Bool.and_eq_true]at hc;obtain⟨v,h1,h2⟩:=h.ev hu hc.2;have h3:=h.stt.ev h1;rw[show v=_ from h2]at h3;refine⟨hc.1,z,rfl,fun w=>?_⟩
    have:=hz w
    simp[h3,Builtin.min2]at this ⊢
    exact this
  ·cases hm
theorem fieldAt_run(hX:X.tt.ok X.P):∀ (fs:List Field),allOk X fs=true->∃ l:List (Nat×Nat),(∀ w,(fs.mapM fun f=>Prod.mk f.offset <$> sizeOf f.type:Sem (List (Nat×Nat))).run X.P w=.ok l w)/\∀ k p,fieldAt X fs k=some p->l[k]?=some p
 | [],_=>⟨[],fun w=>by simp,fun k p h=>by simp[fieldAt,nth]at h⟩
 | f :: fs,hall=>by
  simp only[allOk,Bool.and_eq_true]at hall;obtain⟨l,h1,h2⟩:=fieldAt_run hX fs hall.2;cases hf:X.tt.find f.type with
  | none=>rw[hf]at hall; simp at hall
  | some te=>
   refine⟨(f.offset,te.ti.size) :: l,fun w=>?_,fun k p h=>?_⟩
   ·simp[TI.run_sizeOf (TT.get hX hf).ti,h1]
   ·cases k with
    | zero=>
     simp only[fieldAt,nth,hf,Option.some.injEq]at h
     simp[h]
    | succ k=>
     rw[List.getElem?_cons_succ];exact h2 k p (by simpa [fieldAt,nth] using h)
theorem afill_c{pl:Nat->Option (Nat×Nat)}:∀ (ps:List (Nat×Operand)) (c:Bool) (z:List SC) (c':Bool) (r:List SC),afill X st.L pl ps c z=some (c',r)->c'=true->c=true:=by
 intro ps
 induction ps with
 | nil=>intro c z c' r h1 h2; simp only[afill,Option.some.injEq,Prod.mk.injEq]at h1; rw[h1.1]; exact h2
 | cons p ps ih=>
  intro c z c' r h1 h2;obtain⟨k,u⟩:=p;simp only[afill]at h1
  split at h1
  ·split at h1
   ·have:=ih _ _ _ _ h1 h2
    simp only[Bool.and_eq_true]at this;exact this.1
   ·cases h1
  ·cases h1
theorem afill_ok(h:AI X R W Bi n ks env B w0 H st a w1) {pl l:Nat->Option (Nat×Nat)} (hl:∀ k p,pl k=some p->l k=some p):∀ {ps:List (Nat×Operand)} {c c':Bool} {z r:List SC} {vs:List Value},CsR env B w0 z vs ->
  afill X st.L pl ps c z=some (c',r)->c'=true->∃ rs:List Value,Instr.fill l vs.toArray (ps.map fun p=>(p.1,a.eval p.2))=some rs.toArray/\CsR env B w0 r rs
 | [],c,c',z,r,vs,hz,hf,hc=>by
  simp only[afill,Option.some.injEq,Prod.mk.injEq]at hf;obtain⟨rfl,rfl⟩:=hf;exact⟨vs,rfl,hz⟩
 | (k,u) :: ps,c,c',z,r,vs,hz,hf,hc=>by
  simp only[afill]at hf
  split at hf
  ·rename_i off size g x hfa hu
   split at hf
   ·rename_i z' hsz hlive hp
    have hsz':=Nat.eq_of_beq_eq_true hsz;have hcg:=afill_c _ _ _ _ _ hf hc;simp only[Bool.and_eq_true]at hcg;obtain⟨v,h1,h2⟩:=h.ev hu hcg.2;have hcs:CsR env B w0 x.cells v.cells.toList:=h2.cells fun c e=>by
     subst e;simp only[SA.cells,lives,Bool.and_true]at hlive;exact CR.one hlive h2
    obtain⟨rs,h3,h4⟩:=putC_ok hz hcs hp;obtain⟨rs',h5,h6⟩:=afill_ok h hl h4 hf hc;refine⟨rs',?_,h6⟩;rw[List.map_cons,h.stt.ev h1];rw[fill_stepF (hl _ _ hfa) (by rw[<- hsz',<- hcs.length]; simp) h3];exact h5
   ·cases hf
  ·cases hf
theorem abuild_ok(hX:X.tt.ok X.P) {t:TypeId} {ps:Array (Nat×Operand)} {sa:SA} (hop:o.op=.build t ps) (hl:abuild X st.L t ps.toList=some (true,sa)):PureOk X st o sa:=by
 intro R W Bi n ks env B w0 H a w1 h;unfold abuild at hl
 split at hl
 ·rename_i fs s b z gg hf
  obtain⟨fl,rfl⟩:∃ fl:List Field,fs=fl.toArray:=⟨fs.toList,by simp⟩
  split at hl
  ·rename_i hall
   split at hl
   ·rename_i c r hfill
    cases hl;obtain⟨l,h1,h2⟩:=fieldAt_run hX _ hall;obtain⟨rs,h3,h4⟩:=afill_ok h (l:=fun k=>l[k]?) h2 (scs_ok z.toList) hfill rfl;refine⟨_,⟨rs,rfl,h4⟩,fun w _=>?_⟩;have e1:=(TT.get hX hf).ti.1;have e2:=TI.run_zero (TT.get hX hf).ti w;have e3:=h1 w
    have:(Instr.build t (ps.map fun p=>(p.1,a.eval p.2))).run X.P w=.ok (.agg rs.toArray) w:=by
     unfold Instr.build;simp only[Array.toArray_toList]at h3
     simp[e2,run_underlying e1,e3,Value.cells,h3]
    simp only[execOp,hop]
    simp[this]
   ·cases hl
  ·cases hl
 ·rename_i m e s b z gg hf
  split at hl
  ·rename_i te hte
   split at hl
   ·rename_i c r hfill
    cases hl;obtain⟨rs,h3,h4⟩:=afill_ok h (l:=fun i=>some (i * te.ti.size,te.ti.size)) (fun _ _ h=>h) (scs_ok z.toList) hfill rfl;refine⟨_,⟨rs,rfl,h4⟩,fun w _=>?_⟩;have e1:=(TT.get hX hf).ti.1;have e2:=TI.run_zero (TT.get hX hf).ti w;have e3:=TI.run_sizeOf (TT.get hX hte).ti w
    have:(Instr.build t (ps.map fun p=>(p.1,a.eval p.2))).run X.P w=.ok (.agg rs.toArray) w:=by
     unfold Instr.build;simp only[Array.toArray_toList]at h3
     simp[e2,run_underlying e1,e3,Value.cells,h3]
    simp only[execOp,hop]
    simp[this]
   ·cases hl
  ·cases hl
 ·cases hl
theorem alen_ok(hX:X.tt.ok X.P) {t:TypeId} {u:Operand} {g:Bool} {x sa:SA} (hop:o.op=.call ⟨.builtin .len,⟨[u]⟩,⟨[t]⟩⟩) (hu:ae X st.L u=some (g,x)) (hg:g=true) (hl:alen X st t x=some (true,sa)):PureOk X st o sa:=by
 intro R W Bi n ks env B w0 H a w1 h;obtain⟨v,hv,hr⟩:=h.ev hu hg;have hS:=h.stt;unfold alen at hl
 split at hl
 ·rename_i e s b z gg hf
  obtain⟨T,hT,h1⟩:=tab1 (TT.get hX hf).ti
  split at hl
  ·cases hl
   obtain⟨A,c,xs,rfl,_⟩:=hr;exact⟨_,rfl,fun w _=>p_len hS hop hT h1 rfl hv w⟩
  ·split at hl
   ·rename_i hlk
    cases hl;obtain⟨A,c,m,he,rfl⟩:=hr;obtain⟨ck,K,⟨A',k',xs,he',rfl,hfl,_⟩,hfoc⟩:=h.heap.foc hlk;rw[he]at he';cases he';exact⟨_,rfl,fun w _=>p_len hS hop hT h1 rfl hv w⟩
   ·rename_i hlk
    cases hl;obtain⟨A,c,m,he,rfl⟩:=hr;obtain⟨ck,K,⟨A',k',ys,A2,c2,m2,he',rfl,_⟩,hfoc⟩:=h.heap.foc hlk;rw[he]at he';cases he';exact⟨_,rfl,fun w _=>p_len hS hop hT h1 rfl hv w⟩
   ·rename_i hlk
    cases hl;obtain⟨A,c,m,he,rfl⟩:=hr;obtain⟨ck,K,⟨A',k',he',_⟩,hfoc⟩:=h.heap.foc hlk;rw[he]at he';cases he';exact⟨_,rfl,fun w _=>p_len hS hop hT h1 rfl hv w⟩
   ·rename_i hlk
    cases hl;obtain⟨A,c,m,he,rfl⟩:=hr;obtain⟨ck,K,⟨A',k',ys,ys',I,he',_⟩,hfoc⟩:=h.heap.foc hlk;rw[he]at he';cases he';exact⟨_,rfl,fun w _=>p_len hS hop hT h1 rfl hv w⟩
   ·cases hl
  ·cases hl
   rw[show v=_ from hr]at hv;exact⟨_,rfl,fun w _=>p_len hS hop hT h1 rfl hv w⟩
  ·cases hl
 ·rename_i s b z gg hf
  have e1:=(TT.get hX hf).ti.1
  split at hl
  ·rename_i sl
   cases hl;rw[show v=_ from hr]at hv;refine⟨_,rfl,fun w _=>?_⟩;have e2:(ByteArray.mk sl.toArray).size=sl.length:=by show sl.toArray.size=_; simp
   simp[execOp,hop,resolve,invoke,builtin,Builtin.len_,hS.ev hv,qe,run_underlying e1,goInt,e2]
  ·cases hl
 ·cases hl
theorem acap_ok(hX:X.tt.ok X.P) {t:TypeId} {u:Operand} {g:Bool} {x sa:SA} (hop:o.op=.call ⟨.builtin .cap,⟨[u]⟩,⟨[t]⟩⟩) (hu:ae X st.L u=some (g,x)) (hg:g=true) (hl:acap X t x=some (true,sa)):PureOk X st o sa:=by
 intro R W Bi n ks env B w0 H a w1 h;obtain⟨v,hv,hr⟩:=h.ev hu hg;have hS:=h.stt;unfold acap at hl
 split at hl
 ·rename_i e s b z gg hf
  obtain⟨T,hT,h1⟩:=tab1 (TT.get hX hf).ti
  split at hl
  ·rename_i cc
   cases cc with
   | none=>cases hl
   | some cc=>
    cases hl;obtain⟨A,c,xs,rfl,_,_,hc,_⟩:=hr
    have:=hc _ rfl
    subst this;exact⟨_,rfl,fun w _=>p_cap hS hop hT h1 rfl hv w⟩
  ·cases hl
   rw[show v=_ from hr]at hv;exact⟨_,rfl,fun w _=>p_cap hS hop hT h1 rfl hv w⟩
  ·cases hl
 ·cases hl
theorem aconv_ok(hX:X.tt.ok X.P) {t t':TypeId} {u:Operand} {g:Bool} {x sa:SA} (hop:o.op=.convert t t' u) (hu:ae X st.L u=some (g,x)) (hg:g=true) (hl:aconv X t t' x=some (true,sa)):PureOk X st o sa:=by
 intro R W Bi n ks env B w0 H a w1 h;obtain⟨v,hv,hr⟩:=h.ev hu hg;have hS:=h.stt;unfold aconv at hl
 split at hl
 ·rename_i te k' s b z gg hf hf'
  obtain⟨T,hT,h1,h2⟩:=tab2 (TT.get hX hf).ti (TT.get hX hf').ti
  split at hl
  ·rename_i k z
   generalize hw:wrapK k' z=q at hl
   obtain⟨c,r⟩:=q;cases hl;rw[show v=_ from hr]at hv;exact⟨_,rfl,fun w _=>p_conv hS hop hT h1 h2 rfl hv (wrapK_ok hw) w⟩
  ·cases hl
 ·rename_i te s b z gg hf hf'
  split at hl
  ·cases hl
   rw[show v=_ from hr]at hv;refine⟨_,rfl,fun w _=>?_⟩;have e1:=(TT.get hX hf).ti.1;have e2:=(TT.get hX hf').ti.1
   simp[execOp,hop,hS.ev hv,convert,run_underlying e1,run_underlying e2,qe]
  ·cases hl
 ·cases hl
theorem apure_ok(hX:X.tt.ok X.P) {c:Bool} {sa:SA} (hl:apure X st o.op=some (c,sa)) (hc:c=true):PureOk X st o sa:=by
 unfold apure at hl
 split at hl
 ·rename_i u hop
  intro R W Bi n ks env B w0 H a w1 h;obtain⟨v,h1,h2⟩:=h.ev hl hc;exact⟨v,h2,fun w _=>p_move h.stt hop h1 w⟩
 ·rename_i u hop
  intro R W Bi n ks env B w0 H a w1 h;obtain⟨v,h1,h2⟩:=h.ev hl hc;exact⟨v,h2,fun w _=>p_assign h.stt hop h1 w⟩
 ·rename_i uc u v hop
  split at hl
  ·rename_i gc b gu x gv y e1 e2 e3
   split at hl
   ·rename_i r hp
    cases hl;simp only[Bool.and_eq_true,Bool.or_eq_true,Bool.not_eq_true']at hc;obtain⟨⟨hgc,hb1⟩,hb0⟩:=hc;intro R W Bi n ks env B w0 H a w1 h;obtain⟨vc,h1,h2⟩:=h.ev e1 hgc;rw[show vc=_ from h2]at h1;have hpick:∀ vx vy,(b=true->SaR env B w0 x vx)->(b=false->SaR env B w0 y vy)->SaR env B w0 sa (if b then vx else vy):=by
     intro vx vy hx hy;unfold pickS at hp
     split at hp
     ·split at hp
      ·rename_i hk
       have hk':=of_decide_eq_true hk;subst hk';cases hp;cases b
       ·exact hy rfl
       ·exact hx rfl
      ·cases hp
     ·cases hp
      cases b
      ·exact hy rfl
      ·exact hx rfl
     ·cases hp
      cases b
      ·exact hy rfl
      ·exact hx rfl
     ·cases hp
    cases b with
    | true=>
     obtain⟨vx,h3,h4⟩:=h.ev e2 (by simpa using hb1);exact⟨vx,hpick vx vx (fun _=>h4) (fun h=>by cases h),fun w _=>p_pick1 h.stt hop h1 rfl h3 w⟩
    | false=>
     obtain⟨vy,h3,h4⟩:=h.ev e3 (by simpa using hb0);exact⟨vy,hpick vy vy (fun h=>by cases h) (fun _=>h4),fun w _=>p_pick0 h.stt hop h1 rfl h3 w⟩
   ·cases hl
  ·cases hl
 ·rename_i t u hop
  split at hl
  ·rename_i g b e1
   cases hl;intro R W Bi n ks env B w0 H a w1 h;obtain⟨v,h1,h2⟩:=h.ev e1 hc;rw[show v=_ from h2]at h1;exact⟨_,rfl,fun w _=>p_not h.stt hop h1 w⟩
  ·cases hl
 ·rename_i t u hop
  split at hl
  ·rename_i g k x e1
   generalize hw:wrapK k (0 - x)=q at hl
   obtain⟨c',z⟩:=q;simp only[Option.some.injEq,Prod.mk.injEq]at hl;obtain⟨rfl,rfl⟩:=hl;simp only[Bool.and_eq_true]at hc;obtain⟨hg,rfl⟩:=hc;intro R W Bi n ks env B w0 H a w1 h;obtain⟨v,h1,h2⟩:=h.ev e1 hg;rw[show v=_ from h2]at h1;exact⟨_,rfl,fun w _=>by have hw':=wrapK_ok hw; simp only[Int.zero_sub]at hw'; simp[execOp,hop,h.stt.ev h1,Op.unary,Op.intArith,hw']⟩
  ·cases hl
 ·rename_i op t u v t' hop
  split at hl
  ·rename_i g x g' y e1 e2
   split at hl
   ·rename_i c' r hb
    cases hl;simp only[Bool.and_eq_true]at hc;obtain⟨⟨hg,hg'⟩,rfl⟩:=hc;intro R W Bi n ks env B w0 H a w1 h;obtain⟨vx,h1,h2⟩:=h.ev e1 hg;obtain⟨vy,h3,h4⟩:=h.ev e2 hg';obtain⟨r,h5,h6⟩:=abin_ok hX h.stt hop h1 h3 h2 h4 hb;exact⟨r,h5,fun w _=>h6 w⟩
   ·cases hl
  ·cases hl
 ·rename_i t u hop
  split at hl
  ·rename_i g x e1
   split at hl
   ·rename_i c' r hb
    cases hl;simp only[Bool.and_eq_true]at hc;obtain⟨hg,rfl⟩:=hc;exact aload_ok hX hop e1 hg hb
   ·cases hl
  ·cases hl
 ·rename_i t u k hop
  split at hl
  ·rename_i g x e1
   split at hl
   ·rename_i c' r hb
    cases hl;simp only[Bool.and_eq_true]at hc;obtain⟨hg,rfl⟩:=hc;exact afield_ok hX hop e1 hg hb
   ·cases hl
  ·cases hl
 ·rename_i t u v hop
  split at hl
  ·rename_i g x g' y e1 e2
   split at hl
   ·rename_i c' r hb
    cases hl;simp only[Bool.and_eq_true]at hc;obtain⟨⟨hg,hg'⟩,rfl⟩:=hc;exact aindex_ok hX hop e1 hg e2 hg' hb
   ·cases hl
  ·cases hl
 ·cases hl
 ·rename_i t u l hop
  split at hl
  ·rename_i g x g1 y1 e1 e2
   split at hl
   ·rename_i c' r hb
    cases hl;simp only[Bool.and_eq_true]at hc;obtain⟨⟨hg,hg'⟩,rfl⟩:=hc;exact aslice_ok hX hop e1 hg (fun s hs=>by cases hs; exact⟨_,rfl,_,e2,hg'⟩) (fun h=>by cases h) (fun s hs=>by cases hs) (fun _=>rfl) (fun s hs=>by cases hs) (fun _=>rfl) hb
   ·cases hl
  ·cases hl
 ·rename_i t u l hop
  split at hl
  ·rename_i g x g1 y1 e1 e2
   split at hl
   ·rename_i c' r hb
    cases hl;simp only[Bool.and_eq_true]at hc;obtain⟨⟨hg,hg'⟩,rfl⟩:=hc;exact aslice_ok hX hop e1 hg (fun s hs=>by cases hs) (fun _=>rfl) (fun s hs=>by cases hs; exact⟨_,rfl,_,e2,hg'⟩) (fun h=>by cases h) (fun s hs=>by cases hs) (fun _=>rfl) hb
   ·cases hl
  ·cases hl
 ·rename_i t u l hh hop
  split at hl
  ·rename_i g x g1 y1 g2 y2 e1 e2 e3
   split at hl
   ·rename_i c' r hb
    cases hl;simp only[Bool.and_eq_true]at hc;obtain⟨⟨⟨hg,hg'⟩,hg2⟩,rfl⟩:=hc;exact aslice_ok hX hop e1 hg (fun s hs=>by cases hs; exact⟨_,rfl,_,e2,hg'⟩) (fun h=>by cases h) (fun s hs=>by cases hs; exact⟨_,rfl,_,e3,hg2⟩) (fun h=>by cases h) (fun s hs=>by cases hs) (fun _=>rfl) hb
   ·cases hl
  ·cases hl
 ·rename_i t u l hh hop
  split at hl
  ·rename_i g x g1 y1 g2 y2 e1 e2 e3
   split at hl
   ·rename_i c' r hb
    cases hl;simp only[Bool.and_eq_true]at hc;obtain⟨⟨⟨hg,hg'⟩,hg2⟩,rfl⟩:=hc;exact aslice_ok hX hop e1 hg (fun s hs=>by cases hs) (fun _=>rfl) (fun s hs=>by cases hs; exact⟨_,rfl,_,e2,hg'⟩) (fun h=>by cases h) (fun s hs=>by cases hs; exact⟨_,rfl,_,e3,hg2⟩) (fun h=>by cases h) hb
   ·cases hl
  ·cases hl
 ·rename_i t t' u hop
  split at hl
  ·rename_i g x e1
   split at hl
   ·rename_i c' r hb
    cases hl;simp only[Bool.and_eq_true]at hc;obtain⟨hg,rfl⟩:=hc;exact aconv_ok hX hop e1 hg hb
   ·cases hl
  ·cases hl
 ·rename_i t ps hop
  subst hc;exact abuild_ok hX hop hl
 ·rename_i f cs hop
  split at hl
  ·rename_i ids hcp
   cases hl;intro R W Bi n ks env B w0 H a w1 h;obtain⟨vs,h1,h2⟩:=caps_ok h hcp;exact⟨_,⟨vs,rfl,h2⟩,fun w _=>p_makeFunc (xs:=cs.toList) h.stt (by rw[hop]) h1 w⟩
  ·cases hl
 ·rename_i f u hop
  split at hl
  ·rename_i id e1
   cases hl;intro R W Bi n ks env B w0 H a w1 h;obtain⟨v,h1,b,hb,rfl⟩:=h.ev e1 rfl;exact⟨_,⟨b,hb,rfl⟩,fun w _=>p_makeFuncB h.stt (by rw[hop]) h1 w⟩
  ·cases hl
 ·rename_i u hop
  intro R W Bi n ks env B w0 H a w1 h
  split at hl
  ·rename_i e1
   cases hl;obtain⟨v,h1,h2⟩:=h.ev e1 hc;have h3:=h.stt.ev h1;obtain⟨b,he,rfl⟩:=h2;exact⟨_,⟨b,he,rfl⟩,fun w _=>by simp[execOp,hop,h3]⟩
  ·rename_i e1
   cases hl;obtain⟨v,h1,h2⟩:=h.ev e1 hc;have h3:=h.stt.ev h1;obtain⟨b,c,m,he,rfl⟩:=h2;exact⟨_,⟨b,c,m,he,rfl⟩,fun w _=>by simp[execOp,hop,h3]⟩
  ·rename_i e1
   cases hl;obtain⟨v,h1,h2⟩:=h.ev e1 hc;have h3:=h.stt.ev h1;obtain⟨b,p,rfl,hat⟩:=h2;exact⟨_,⟨b,p,rfl,hat⟩,fun w _=>by simp[execOp,hop,h3]⟩
  ·rename_i e1
   cases hl;obtain⟨v,h1,h2⟩:=h.ev e1 hc;have h3:=h.stt.ev h1;obtain⟨b,p,vs,rfl,hat⟩:=h2;exact⟨_,⟨b,p,vs,rfl,hat⟩,fun w _=>by simp[execOp,hop,h3]⟩
  ·cases hl
 ·rename_i s k hop
  split at hl
  ·rename_i vs e1
   split at hl
   ·rename_i x e2
    cases hl;intro R W Bi n ks env B w0 H a w1 h;obtain⟨v,h1,us,rfl,h2⟩:=h.has _ _ e1;have key:∀ {xs:List SA} {us:List Value} {k:Nat} {x:SA},SasR env B w0 xs us->nth xs k=some x->∃ u,us[k]?=some u/\SaR env B w0 x u:=by
     intro xs
     induction xs with
     | nil=>intro us k x _ h; cases h
     | cons y ys ih=>
      intro us k x hs hn;obtain⟨v,r,rfl,h3,h4⟩:=hs;cases k with
      | zero=>cases hn; exact⟨v,rfl,h3⟩
      | succ k=>obtain⟨u,h5,h6⟩:=ih h4 hn; exact⟨u,by rw[List.getElem?_cons_succ]; exact h5,h6⟩
    obtain⟨u,h3,h4⟩:=key h2 e2;exact⟨u,h4,fun w _=>p_extract h.stt hop (zt h1) h3 w⟩
   ·cases hl
  ·cases hl
 ·rename_i u t hop
  split at hl
  ·rename_i g x e1
   split at hl
   ·rename_i c' r hb
    cases hl;simp only[Bool.and_eq_true]at hc;obtain⟨hg,rfl⟩:=hc;exact alen_ok hX hop e1 hg hb
   ·cases hl
  ·cases hl
 ·rename_i u t hop
  split at hl
  ·rename_i g x e1
   split at hl
   ·rename_i c' r hb
    cases hl;simp only[Bool.and_eq_true]at hc;obtain⟨hg,rfl⟩:=hc;exact acap_ok hX hop e1 hg hb
   ·cases hl
  ·cases hl
 ·rename_i u r ts hop
  split at hl
  ·rename_i g k x e1
   split at hl
   ·rename_i c' y hm
    cases hl;subst hc;intro R W Bi n ks env B w0 H a w1 h;obtain⟨hg,z,rfl,hz⟩:=aminmax_ok h hm;obtain⟨v,h1,h2⟩:=h.ev e1 hg;have h3:=h.stt.ev h1;rw[show v=_ from h2]at h3;refine⟨_,rfl,fun w _=>?_⟩
    have:=hz w
    simp only[Bool.false_eq_true,if_false]at this
    simp[execOp,hop,resolve,invoke,builtin,Builtin.min_,h3,this]
   ·cases hl
  ·cases hl
 ·rename_i u r ts hop
  split at hl
  ·rename_i g k x e1
   split at hl
   ·rename_i c' y hm
    cases hl;subst hc;intro R W Bi n ks env B w0 H a w1 h;obtain⟨hg,z,rfl,hz⟩:=aminmax_ok h hm;obtain⟨v,h1,h2⟩:=h.ev e1 hg;have h3:=h.stt.ev h1;rw[show v=_ from h2]at h3;refine⟨_,rfl,fun w _=>?_⟩
    have:=hz w
    simp only[if_true]at this
    simp[execOp,hop,resolve,invoke,builtin,Builtin.max_,h3,this]
   ·cases hl
  ·cases hl
 ·rename_i t u v hop
  split at hl
  ·rename_i sz b z0 gg hf
   split at hl
   ·rename_i g s g' k z e1 e2
    simp only[Option.some.injEq,Prod.mk.injEq]at hl;obtain⟨rfl,rfl⟩:=hl;simp only[Bool.and_eq_true]at hc;obtain⟨⟨hg,hg'⟩,hb⟩:=hc;intro R W Bi n ks env B w0 H a w1 h;obtain⟨vu,h1,h2⟩:=h.ev e1 hg;rw[show vu=qe s from h2]at h1;obtain⟨vx,h3,h4⟩:=h.ev e2 hg';rw[show vx=_ from h4]at h3;obtain⟨j,rfl,hj,hjn⟩:=xf hb;have q1:=(TT.get hX hf).ti.1;have hget:(ByteArray.mk s.toArray)[j]?=some (s.getD j 0):=by
     have hlt:j < (ByteArray.mk s.toArray).size:=by simpa [ByteArray.size] using hj
     have e2:(ByteArray.mk s.toArray)[j]?=some ((ByteArray.mk s.toArray)[j]'hlt):=by
      exact getElem?_pos (ByteArray.mk s.toArray) j hlt
     rw[e2,List.getD_eq_getElem?_getD,List.getElem?_eq_getElem hj]
     rfl
    refine⟨_,rfl,fun w _=>?_⟩;have h0:(0:Int)<=(j:Int):=Int.natCast_nonneg j;have hrun:(Instr.index t (qe s) (.int k (j:Int))).run X.P w=.ok (.int .u8 ((s.getD j 0).toNat:Int)) w:=by
     simp only[Instr.index,qe,asIntOf,Sem.run_bind,Sem.run_pure,Result.andThen_ok,run_underlying q1,h0,if_true,Int.toNat_natCast,hget]
    rw[Int.toNat_natCast]
    simp[execOp,hop,h.stt.ev h1,h.stt.ev h3,hrun]
   ·cases hl
  ·cases hl
 ·cases hl
end
end

section
def kindNew:Op->Bool
 | .store _ _ _=>false
 | .call ⟨.builtin .len,_,_⟩=>true
 | .call ⟨.builtin .cap,_,_⟩=>true
 | .call ⟨.builtin .min,_,_⟩=>true
 | .call ⟨.builtin .max,_,_⟩=>true
 | .call _=>false
 | _=>true
def kindKeep:Op->Bool
 | .store _ _ _=>false
 | .call ⟨.builtin .append,_,_⟩=>true
 | o=>kindNew o
def noCel(d:Nat):Hp->Bool
 | []=>true
 | (k,b) :: r=>(match Nat.beq k d,b with
  | true,.cells _ _=>false
  | _,_=>true)&&noCel d r
def keepD(o:Oper) (H:Hp):Bool:=match o.dst with
 | some d=>noCel d H
 | none=>true
def noKey(d:Nat):Hp->Bool
 | []=>true
 | (k,_) :: r=>match Nat.beq k d with
  | true=>false
  | false=>noKey d r
def noKeyD(o:Oper) (H:Hp):Bool:=match o.dst with
 | some d=>noKey d H
 | none=>true
theorem noCel_ok{d:Nat}:∀ {l:Hp} {b:Blk},noCel d l=true->(d,b)∈l->∀ t cs,b≠.cells t cs
 | (k,b') :: r,b,h,hb,t,cs=>by
  simp only[noCel,Bool.and_eq_true]at h
  rcases List.mem_cons.1 hb with e | hb
  ·injection e with e1 e2
   subst e1; subst e2;intro e;rw[e,Nat.beq_refl]at h
   simp at h
  ·exact noCel_ok h.2 hb t cs
structure Eff(o:Oper) (st:ASt) (H:List Ck) (w:World) (H':List Ck) (w':World):Prop where
 new:kindNew o.op=true->Below w.heap.size w w'
 keep:kindKeep o.op=true->keepD o st.H=true->∀ c∈H,qK c=true->c∈H'
 all:kindNew o.op=true->noKeyD o st.H=true->∀ c∈H,c∈H'
def EffOk(X:Cx) (n:Nat) (st:ASt) (o:Oper) (st':ASt):Prop:=
 ∀ {R:Nat->Prop} {W:World} {Bi:Bk} {ks:List Nat} {env:Nat->Loc} {B:Nat->Prop} {w0:World} {H:List Ck} {a:Act} {w:World} (ops:Array Oper) (KK:Act->World->Prop),AI X R W Bi n ks env B w0 H st a w ->
  (∀ a' w' env' H',Eff o st H w H' w'->AI X R W Bi n ks env' B w0 H' st' a' w'->KK a' w')->XO X.P ops o KK a w
def decInt(k:IntKind):List SC->Option (Bool×Int×List SC)
 | .val (.int k' x) :: r=>match decide (k=k')with
  | true=>some (true,x,r)
  | false=>none
 | _=>none
def decBool:List SC->Option (Bool×Bool×List SC)
 | .val (.bool x) :: r=>some (true,x,r)
 | _=>none
def decStr:List SC->Option (Bool×List UInt8×List SC)
 | .str x :: r=>some (true,x,r)
 | _=>none
def decSl(g:GTy):List SC->Option (Bool×List g.D×List SC)
 | .val (.slice none 0 0) :: r=>some (true,[],r)
 | .lst g' l _ :: r=>match decEq g' g with
  | isTrue h=>some (true,h ▸ l,r)
  | isFalse _=>none
 | _=>none
def decCsl(g:GTy):List SC->Option (Bool×List g.D×List SC)
 | .val (.slice none 0 0) :: r=>some (true,[],r)
 | .lst g' l (some c) :: r=>match decEq g' g with
  | isTrue h=>some (decide (c=l.length),h ▸ l,r)
  | isFalse _=>none
 | _=>none
def dec:(g:GTy)->List SC->Option (Bool×g.D×List SC)
 | .int k,r=>decInt k r
 | .bool,r=>decBool r
 | .str,r=>decStr r
 | .sl g,r=>decSl g r
 | .csl g,r=>decCsl g r
 | .unit,r=>some (true,(),r)
 | .pair g h,r=>match dec g r with
  | some (c1,x,r1)=>match dec h r1 with
   | some (c2,y,r2)=>some (c1&&c2,(x,y),r2)
   | none=>none
  | none=>none
section
variable {env:Nat->Loc} {B:Nat->Prop} {w:World}
theorem dec_ok:∀ {g:GTy} {cs:List SC} {c:Bool} {x:g.D} {r:List SC} {vs:List Value},CsR env B w cs vs->dec g cs=some (c,x,r)->c=true->∃ v1 v2,vs=v1++v2/\FR B w g x v1/\CsR env B w r v2
 | .int k,cs,c,x,r,vs,h,hd,hc=>by
  simp only[dec,decInt]at hd
  split at hd
  ·split at hd
   ·rename_i hk
    have hk':=of_decide_eq_true hk;subst hk';cases hd;obtain⟨v,rr,rfl,h1,h2⟩:=h;exact⟨[v],rr,rfl,by rw[show v=_ from h1]; exact rfl,h2⟩
   ·cases hd
  ·cases hd
 | .bool,cs,c,x,r,vs,h,hd,hc=>by
  simp only[dec,decBool]at hd
  split at hd
  ·cases hd
   obtain⟨v,rr,rfl,h1,h2⟩:=h;exact⟨[v],rr,rfl,by rw[show v=_ from h1]; exact rfl,h2⟩
  ·cases hd
 | .str,cs,c,x,r,vs,h,hd,hc=>by
  simp only[dec,decStr]at hd
  split at hd
  ·cases hd
   obtain⟨v,rr,rfl,h1,h2⟩:=h;exact⟨[v],rr,rfl,by rw[show v=_ from h1]; exact rfl,h2⟩
  ·cases hd
 | .sl g,cs,c,x,r,vs,h,hd,hc=>by
  simp only[dec,decSl]at hd
  split at hd
  ·cases hd
   obtain⟨v,rr,rfl,h1,h2⟩:=h;exact⟨[v],rr,rfl,⟨none,0,[],by rw[show v=_ from h1]; rfl,Nat.le_refl _,Nat.zero_le _,rfl,Reads.nil _ _ _,(fun _ _ h=>absurd h (Nat.lt_irrefl 0))⟩,h2⟩
  ·split at hd
   ·rename_i hg _
    subst hg;cases hd;obtain⟨v,rr,rfl,⟨A,c,xs,rfl,h3,h4,h5,h6,h7⟩,h2⟩:=h;exact⟨[_],rr,rfl,⟨A,c,xs,rfl,h3,h4,h6,h7⟩,h2⟩
   ·cases hd
  ·cases hd
 | .csl g,cs,c,x,r,vs,h,hd,hc=>by
  simp only[dec,decCsl]at hd
  split at hd
  ·cases hd
   obtain⟨v,rr,rfl,h1,h2⟩:=h;exact⟨[v],rr,rfl,⟨none,[],by rw[show v=_ from h1]; rfl,Nat.zero_le _,rfl,Reads.nil _ _ _,(fun _ _ h=>absurd h (Nat.lt_irrefl 0))⟩,h2⟩
  ·split at hd
   ·rename_i hg _
    subst hg;simp only[Option.some.injEq,Prod.mk.injEq]at hd;obtain⟨rfl,rfl,rfl⟩:=hd;have hc':=of_decide_eq_true hc;obtain⟨v,rr,rfl,⟨A,c,xs,rfl,h3,h4,h5,h6,h7⟩,h2⟩:=h
    have:=h5 _ rfl
    subst this;rw[hc'];exact⟨[_],rr,rfl,⟨A,xs,rfl,by rw[hc']at h4; exact h4,h6,h7⟩,h2⟩
   ·cases hd
  ·cases hd
 | .unit,cs,c,x,r,vs,h,hd,hc=>by
  simp only[dec]at hd;cases hd;exact⟨[],vs,rfl,rfl,h⟩
 | .pair g h',cs,c,x,r,vs,h,hd,hc=>by
  simp only[dec]at hd
  split at hd
  ·rename_i c1 x1 r1 h1
   split at hd
   ·rename_i c2 x2 r2 h2
    cases hd;simp only[Bool.and_eq_true]at hc;obtain⟨v1,v2,rfl,h3,h4⟩:=dec_ok h h1 hc.1;obtain⟨v3,v4,rfl,h5,h6⟩:=dec_ok h4 h2 hc.2;exact⟨v1++v3,v4,by rw[List.append_assoc],⟨v1,v3,rfl,h3,h5⟩,h6⟩
   ·cases hd
  ·cases hd
end
section
variable {X:Cx} {R:Nat->Prop} {W:World} {Bi:Bk} {n:Nat} {ks:List Nat} {env:Nat->Loc} {B:Nat->Prop} {w0:World} {H:List Ck} {st:ASt} {a a':Act} {w w':World} {o:Oper} {d:Nat}
theorem AI.sym(h:AI X R W Bi n ks env B w0 H st a w):Sym n (dfs ks Bi) (qL a) (fun k=>R k\/B k) w0 (H++ks.map qW) a w:=⟨h.stt,h.sh⟩
theorem St.same{D:List Deferred} (hS:St n D (qL a) a') {s:Nat} {u:Value} (hu:a.tmps[s]?=some u):a'.tmps[s]?=some u:=hS.has s u (zt hu)
theorem St.other{D:List Deferred} {v:Value} (hS:St n D ((d,v) :: qL a) a') {s:Nat} (hs:s≠d) {u:Value} (hu:a.tmps[s]?=some u):a'.tmps[s]?=some u:=
 hS.has s u (by rw[List.lookup_cons,beq_false_of_ne hs]; exact zt hu)
theorem St.this{D:List Deferred} {v:Value} (hS:St n D ((d,v) :: qL a) a'):a'.tmps[d]?=some v:=hS.has d v (by simp)
theorem AI.set(h:AI X R W Bi n ks env B w0 H st a w) {sv:SV} {v:Value} (hv:VR env B w0 sv v) (hS:St n (dfs ks Bi) ((d,v) :: qL a) a'):AI X R W Bi n ks env B w0 H ⟨(d,sv) :: st.L,st.H⟩ a' w:=
 ⟨hS.size,hS.defs,fun s u hs=>by
  rw[zu]at hs
  split at hs
  ·rename_i e; subst e; cases hs; exact⟨v,hS.this,hv⟩
  ·rename_i e; obtain⟨u',h1,h2⟩:=h.has s u hs; exact⟨u',hS.other e h1,h2⟩,h.heap,h.sh,h.sub,h.new,h.pin,h.base,h.glob⟩
def upd(env:Nat->Loc) (id:Nat) (l:Loc):Nat->Loc:=fun j=>if j=id then l else env j
theorem zf{id:Nat} {l:Loc}:upd env id l id=l:=if_pos rfl
theorem zC{id:Nat} {l:Loc}:∀ j,j≠id->upd env id l j=env j:=fun _ h=>if_neg h
theorem pin_upd{id:Nat} {l:Loc} {p:Nat->Loc->Prop} (h:∀ id l,p id l->n<=id/\env id=l/\((∃ b,l=.blk b)\/zP<=id)) (hd:∀ l,¬ p id l):∀ j q,p j q->n<=j/\upd env id l j=q/\((∃ b,q=.blk b)\/zP<=j):=fun j q hp=>
 ⟨(h j q hp).1,by rw[zC j (fun e=>hd q (by rw[<- e]; exact hp))]; exact(h j q hp).2.1,(h j q hp).2.2⟩
theorem HR.delN{d:Nat} {l:Loc}:∀ {L:Hp} {H:List Ck},noKey d L=true->HR env B w0 L H->HR (upd env d l) B w0 (zM d .dead L) H
 | [],_,_,h=>h
 | (k,b) :: L,_,hn,⟨c,H',e,h1,h2⟩=>by
  unfold noKey at hn
  split at hn
  ·cases hn
  ·rename_i hk
   unfold zM;rw[hk];exact⟨c,H',e,h1.sub (z:=.dead) (zC (env:=env)) (fun _ _=>trivial) (Nat.ne_of_beq_eq_false hk),HR.delN hn h2⟩
theorem AI.newBlk(h:AI X R W Bi n ks env B w0 H st a w) (hd:Nat.blt d n=true) {l:Loc} {c:Ck} {blk:Blk} {sv:SV} {v:Value} (hs:SH (fun k=>R k\/B k) w0 (c :: (H++ks.map qW)) w') (hb:BR (upd env d l) B w0 d blk c) (hv:VR (upd env d l) B w0 sv v)
  (hS:St n (dfs ks Bi) ((d,v) :: qL a) a'):∃ H',((noCel d st.H=true->∀ c∈H,qK c=true->c∈H')/\(noKey d st.H=true->∀ c∈H,c∈H'))/\AI X R W Bi n ks (upd env d l) B w0 H' ⟨(d,sv) :: qb d .dead st.L,(d,blk) :: zM d .dead st.H⟩ a' w':=by
 have hdel:∃ H2,H2.Sublist H/\HR (upd env d l) B w0 (zM d .dead st.H) H2/\(noCel d st.H=true->∀ c∈H,qK c=true->c∈H2)/\(noKey d st.H=true->∀ c∈H,c∈H2):=by
  cases hk:noKey d st.H with
  | true=>exact⟨H,List.Sublist.refl _,HR.delN hk h.heap,fun _ c hc _=>hc,fun _ c hc=>hc⟩
  | false=>
  cases hn:noCel d st.H with
  | true=>
   obtain⟨H2,h1,h2,h3⟩:=h.heap.delK (z:=.dead) (zC (env:=env) (id:=d) (l:=l)) (fun _ _=>trivial) (fun b c hb hbr=>hbr.notCel (noCel_ok hn hb));exact⟨H2,h1,h2,fun _=>h3,fun h=>by cases h⟩
  | false=>
   obtain⟨H2,h1,h2⟩:=h.heap.del (z:=.dead) (zC (env:=env) (id:=d) (l:=l)) (fun _ _=>trivial);exact⟨H2,h1,h2,(fun h=>by cases h),fun h=>by cases h⟩
 obtain⟨H2,h1,h2,h3,h3'⟩:=hdel;refine⟨c :: H2,⟨fun hn c hc hcel=>List.mem_cons_of_mem _ (h3 hn c hc hcel),fun hn c hc=>List.mem_cons_of_mem _ (h3' hn c hc)⟩,hS.size,hS.defs,fun s u hs=>?_,⟨c,H2,rfl,hb,h2⟩,hs.weak ((h1.append_right _).cons_cons _),h.sub,h.new,pin_upd h.pin (fun q hp=>by have h1:=(h.pin _ _ hp).1; have h2:=zk hd; omega),h.base,fun i x hx=>h.glob i x hx⟩;rw[zu]at hs
 split at hs
 ·rename_i e; subst e; cases hs; exact⟨v,hS.this,hv⟩
 ·rename_i e
  obtain⟨u0,hu0,rfl⟩:=qF hs;obtain⟨u',h3,h4⟩:=h.has s u0 hu0;exact⟨u',hS.other e h3,VR.sub (z:=.dead) (zC (env:=env)) (fun _ _=>trivial) h4⟩
def abox(X:Cx) (n:Nat) (st:ASt) (t:TypeId) (d:Nat) (cs:List SC):Option (Bool×ASt):=
 match Nat.blt d n with
 | true=>some (true,⟨(d,.c (.ptr d 0)) :: qb d .dead st.L,(d,.cells t (subs d .dead cs)) :: zM d .dead st.H⟩)
 | false=>none
theorem box_ok{x:Operand} {t:TypeId} {g:Bool} {sa:SA} {st':ASt} {c:Bool} (hop:o.op=.box t x) (hgd:o.guard=none) (hdst:o.dst=some d) (hx:ae X st.L x=some (g,sa)) (hg:g=true) (hl:lives sa.cells=true)
  (hb:abox X n st t d sa.cells=some (c,st')):EffOk X n st o st':=by
 intro R W Bi ks env B w0 H a w ops KK h hK;unfold abox at hb
 split at hb
 ·rename_i hd
  cases hb;obtain⟨v,h1,h2⟩:=h.ev hx hg;have hcs:CsR env B w0 sa.cells v.cells.toList:=h2.cells fun c e=>by
   subst e;simp only[SA.cells,lives,Bool.and_true]at hl;exact CR.one hl h2
  have hv:=h.stt.ev h1;refine zJ h.stt hgd hdst (zk hd) (v:=.pointer (some ⟨w.heap.size,0,none⟩)) (w':=w.alloc (.cells v.cells.toList.toArray t)) (by simp[execOp,hop,hv,Instr.box,newVar,newRow,newObj,Sem.run]) fun a' hS=>?_
  obtain⟨H',hkp,h3⟩:=h.newBlk (d:=d) hd (l:=.blk w.heap.size) (blk:=.cells t (subs d .dead sa.cells)) (sv:=.c (.ptr d 0)) (h.sh.allocC _ t) ⟨_,_,zf,rfl,CsR.sub (z:=.dead) zC (fun _ _=>trivial) hcs⟩ ⟨_,zf,rfl⟩ hS;exact hK _ _ _ _ ⟨fun _=>(Below.refl _ _).alloc (Nat.le_refl _) _,fun _ hn=>hkp.1 (by simpa [keepD,hdst] using hn),fun _ hn=>hkp.2 (by simpa [noKeyD,hdst] using hn)⟩ h3
 ·cases hb
theorem alloc_ok(hX:X.tt.ok X.P) {t:TypeId} {te:TE} {st':ASt} {c:Bool} (hop:o.op=.alloc t) (hgd:o.guard=none) (hdst:o.dst=some d) (hte:X.tt.find t=some te)
  (hb:abox X n st t d (scs te.ti.zero.cells.toList)=some (c,st')):EffOk X n st o st':=by
 intro R W Bi ks env B w0 H a w ops KK h hK;unfold abox at hb
 split at hb
 ·rename_i hd
  cases hb;have hz:=TI.run_zero (TT.get hX hte).ti;refine zJ h.stt hgd hdst (zk hd) (v:=.pointer (some ⟨w.heap.size,0,none⟩)) (w':=w.alloc (.cells te.ti.zero.cells.toList.toArray t)) (by simp[execOp,hop,Instr.alloc,hz,newVar,newRow,newObj,Sem.run]) fun a' hS=>?_
  obtain⟨H',hkp,h3⟩:=h.newBlk (d:=d) hd (l:=.blk w.heap.size) (blk:=.cells t (subs d .dead (scs te.ti.zero.cells.toList))) (sv:=.c (.ptr d 0)) (h.sh.allocC _ t) ⟨_,_,zf,rfl,CsR.sub (z:=.dead) (env:=env) zC (fun _ _=>trivial) (scs_ok _)⟩ ⟨_,zf,rfl⟩ hS;exact hK _ _ _ _ ⟨fun _=>(Below.refl _ _).alloc (Nat.le_refl _) _,fun _ hn=>hkp.1 (by simpa [keepD,hdst] using hn),fun _ hn=>hkp.2 (by simpa [noKeyD,hdst] using hn)⟩ h3
 ·cases hb
theorem AI.setBlk(h:AI X R W Bi n ks env B w0 H st a w) {id:Nat} {b b':Blk} (hlk:lk st.H id=some b):∃ c K,BR env B w0 id b c/\Foc (H++ks.map qW) c K/\∀ c' a' w',BR env B w0 id b' c'->SH (fun k=>R k\/B k) w0 (K c') w'->St n (dfs ks Bi) (qL a) a'->∃ H',AI X R W Bi n ks env B w0 H' ⟨st.L,zX id b' st.H⟩ a' w':=by
 obtain⟨c,K,h1,h2,h3⟩:=h.heap.put hlk;refine⟨c,_,h1,h2.more,fun c' a' w' hb hs hS=>⟨K c',hS.size,hS.defs,fun s u hu=>?_,h3 b' c' hb,hs,h.sub,h.new,h.pin,h.base,h.glob⟩⟩;obtain⟨u',h4,h5⟩:=h.has s u hu;exact⟨u',hS.same h4,h5⟩
def astore(X:Cx) (st:ASt) (t:TypeId) (x y:SA):Option (Bool×ASt):=
 match X.tt.find t,lives y.cells with
 | some te,true=>match Nat.beq y.cells.length te.ti.size,x with
  | true,.c (.ptr id o)=>match lk st.H id with
   | some (.cells t' cs)=>match putC cs o y.cells with
    | some r=>some (true,⟨st.L,zX id (.cells t' r) st.H⟩)
    | none=>none
   | _=>none
  | true,.c (.elt id sz i o)=>match lk st.H id with
   | some (.row t' g l cap)=>match Nat.beq sz g.size,qS g (l.getD i g.zero) 0 g.size with
    | true,some cs=>match putC cs o y.cells with
     | some r=>match dec g r with
      | some (c,z,_)=>some (decide (i < l.length)&&c,⟨st.L,zX id (.row t' g (l.set i z) cap) st.H⟩)
      | none=>none
     | none=>none
    | _,_=>none
   | _=>none
  | _,_=>none
 | _,_=>none
theorem run_store_cel{t e:TypeId} {i:TI} {x y:Operand} {b p:Nat} {cs cs':List Value} {v:Value} {D:List Deferred} {L:List (Nat×Value)} {K:Ck->List Ck} {ops:Array Oper} {KK:Act->World->Prop} (hX:Sym n D L B w0 H a w) (hop:o.op=.store t x y) (ho:o.guard=none/\o.dst=none)
  (hi:TI.ok X.P t i) (hx:Go.Proofs.YtldjgdggcodgeaaGreat.ev L x=some (.pointer (some ⟨b,p,none⟩))) (hy:Go.Proofs.YtldjgdggcodgeaaGreat.ev L y=some v) (hsz:v.cells.size=i.size) (h2:∀ u∈v.cells.toList,u.oneCell'=true) (hf:Foc H (.cel b cs e) K) (hs:PutAt cs p v.cells.toList cs')
  (h:∀ a' w',Sym n D L B w0 (K (.cel b cs' e)) a' w'->KK a' w'):XO X.P ops o KK a w:=by
 obtain⟨h3,h4⟩:=hs.eq;have hl:v.cells.toList.length=v.cells.size:=by simp
 have hrun:=run_storeVar_at (w:=w) (v:=v) (p:=p) hi (cel_block hX.sh hf) hsz h2 (by omega);refine y_skip hX ho (w':=_) (by simp[execOp,hop,hX.ev hx,hX.ev hy,Instr.storeAt,Instr.sureAddr,hrun]; rfl) (H':=K (.cel b cs' e)) ?_ h;refine hX.sh.setC hf ⟨rfl,rfl,rfl,by simp⟩ ?_ fun k hk=>setRow_other w b k _ hk
 rw[setRow_heap w b cs.toArray _ e _ (cel_block hX.sh hf),h3,hl];simp only[List.append_assoc]
theorem run_store_row{t e:TypeId} {i:TI} {x y:Operand} {g j c m size:Nat} {xs:List Value} {v:Value} {D:List Deferred} {L:List (Nat×Value)} {K:Ck->List Ck} {ops:Array Oper} {KK:Act->World->Prop} (hX:Sym n D L B w0 H a w) (hop:o.op=.store t x y) (ho:o.guard=none/\o.dst=none)
  (hi:TI.ok X.P t i) (hx:Go.Proofs.YtldjgdggcodgeaaGreat.ev L x=some (.pointer (some ⟨g,j,none⟩))) (hy:Go.Proofs.YtldjgdggcodgeaaGreat.ev L y=some v) (hsz:v.cells.size=i.size) (h2:∀ u∈v.cells.toList,u.oneCell'=true) (hf:Foc H (.row (some ⟨g,0,none⟩) c e size m xs) K) (hj:j+v.cells.toList.length<=m * size)
  (h:∀ a' w',Sym n D L B w0 (K (.row (some ⟨g,0,none⟩) c e size m (xs.take j++v.cells.toList++xs.drop (j+v.cells.toList.length)))) a' w'->KK a' w'):XO X.P ops o KK a w:=by
 have hown:Owns w B e size (some ⟨g,0,none⟩) c m xs:=hX.sh.ok _ hf.mem;have hxl:=hown.1
 generalize hvs:v.cells.toList=vs at h2 hj h
 have hsz':vs.length=i.size:=by rw[<- hvs]; simpa using hsz
 rcases hown.2 with⟨h0,_⟩ | ⟨g',cur,fr,hA,hbg,hg,hfr,hnc,hcm,hcs,htake⟩
 ·cases h0
 ·have:g=g':=by injection hA with hA; injection hA
  subst this;have hms:m * size<=cur.size:=by rw[hcs]; exact Nat.mul_le_mul_right _ hnc
  have hjc:j+vs.length<=cur.size:=Nat.le_trans hj hms;have hst:=run_storeCells_cells (P:=X.P) g j vs 0 w (fun q hq=>by
    simp only[World.cell?,hg]
    simp; omega) (fun q hq=>by
    simp only[World.frozen?,hg]
    rcases hfr with h | h
    ·simp; omega
    ·simp; omega) h2
  simp only[Nat.add_zero]at hst;rw[setCells_row g e fr vs j w cur hg hjc]at hst;have hrun:(storeVar t ⟨g,j,none⟩ v).run X.P w=.ok () (w.setRow g (cur.toList.take j++vs++cur.toList.drop (j+vs.length)).toArray):=by
   unfold storeVar
   simp[TI.run_sizeOf hi,hsz]
   rw[hvs];rw[List.append_assoc]at hst;exact hst
  refine y_skip hX ho (w':=w.setRow g (cur.toList.take j++vs++cur.toList.drop (j+vs.length)).toArray) (by simp only[execOp,hop,hX.ev hx,hX.ev hy,Instr.storeAt,Instr.sureAddr,Sem.run_bind,Sem.run_pure,Result.andThen_ok,hrun]) ?_ h;refine hX.sh.turn hf ⟨rfl,rfl,rfl,by simp,fun q hq=>setRow_other w g q _ (fun e'=>by subst e'; exact hbg hq)⟩ (c':=.row (some ⟨g,0,none⟩) c e size m (xs.take j++vs++xs.drop (j+vs.length))) ?_ (fun q hq=>.inl hq) fun q _ hq=>setRow_other w g q _ (fun e'=>hq (by subst e'; rfl))
  have hlen:(cur.toList.take j++vs++cur.toList.drop (j+vs.length)).length=cur.size:=by simp; omega
  refine⟨by simp; omega,.inr ⟨g,_,fr,rfl,hbg,setRow_heap w g cur _ e _ hg,?_,hnc,hcm,?_,?_⟩⟩
  ·rcases hfr with h | h
   ·exact .inl h
   ·exact .inr (by rw[List.size_toArray,hlen]; exact h)
  ·rw[List.size_toArray,hlen]; exact hcs
  ·show(cur.toList.take j++vs++cur.toList.drop (j+vs.length)).take (m * size)=_
   rw[<- htake,List.take_take,Nat.min_eq_left (by omega),List.take_append,List.take_of_length_le (by simp; omega),List.drop_take]
   congr 2
   simp; omega
theorem store_ok(hX:X.tt.ok X.P) {x y:Operand} {t:TypeId} {g g' c:Bool} {sx sy:SA} {st':ASt} (hop:o.op=.store t x y) (hgd:o.guard=none) (hdst:o.dst=none) (hx:ae X st.L x=some (g,sx)) (hg:g=true) (hy:ae X st.L y=some (g',sy)) (hg':g'=true)
  (hb:astore X st t sx sy=some (c,st')) (hc:c=true):EffOk X n st o st':=by
 intro R W Bi ks env B w0 H a w ops KK h hK;obtain⟨vx,hvx,hrx⟩:=h.ev hx hg;obtain⟨vy,hvy,hry⟩:=h.ev hy hg';unfold astore at hb
 split at hb
 ·rename_i te hte hlive
  have hi:=(TT.get hX hte).ti;have hcs:CsR env B w0 sy.cells vy.cells.toList:=hry.cells fun c e=>by
   subst e;simp only[SA.cells,lives,Bool.and_true]at hlive;exact CR.one hlive hry
  have hone:=hcs.ones hlive;have hlen:=hcs.length
  split at hb
  ·rename_i id p hsz
   split at hb
   ·rename_i t' cs hlk
    split at hb
    ·rename_i r hp
     cases hb;obtain⟨b,he,rfl⟩:=hrx;obtain⟨ck,K,⟨b',vs,he',rfl,hcs'⟩,hf,hset⟩:=h.setBlk (b':=.cells t' r) hlk;rw[he]at he';cases he';obtain⟨rs,h1,h2⟩:=putC_ok hcs' hcs hp;refine run_store_cel h.sym hop ⟨hgd,hdst⟩ hi hvx hvy (by rw[<- Nat.eq_of_beq_eq_true hsz,<- hlen]; simp) hone hf h1 fun a' w' hY=>?_
     obtain⟨H',h3⟩:=hset _ a' w' ⟨b,rs,he,rfl,h2⟩ hY.sh hY.st;exact hK _ _ _ _ ⟨fun h=>(by rw[hop]at h; cases h),fun h=>(by rw[hop]at h; cases h),fun h=>(by rw[hop]at h; cases h)⟩ h3
    ·cases hb
   ·cases hb
  ·rename_i id sz i p hsz
   split at hb
   ·rename_i t' g l cap hlk
    split at hb
    ·rename_i cs hsg hcells
     split at hb
     ·rename_i r hp
      split at hb
      ·rename_i c' z rr hd
       cases hb;simp only[Bool.and_eq_true,decide_eq_true_eq]at hc;obtain⟨hlt,hc'⟩:=hc;obtain⟨b,cc,m,he,rfl⟩:=hrx;have hsg':=Nat.eq_of_beq_eq_true hsg;subst hsg';obtain⟨ck,K,⟨A,k,xs,he',rfl,hfl,hcap⟩,hf,hset⟩:=h.setBlk (b':=.row t' g (l.set i z) cap) hlk;rw[he]at he';cases he';have hx0:l[i]?=some (l.getD i g.zero):=by rw[List.getD_eq_getElem?_getD,List.getElem?_eq_getElem hlt]; rfl
       have hFR:=Flat.get (fun _ _=>FR.length) hfl hx0;obtain⟨us,⟨hus1,hus2⟩,hus3⟩:=FR.cells (env:=env) hFR hcells;have hxlen:=FR.flat_length hfl;have hmul:(i+1) * g.size<=l.length * g.size:=Nat.mul_le_mul_right _ hlt;rw[Nat.add_mul,Nat.one_mul]at hmul;have huse:us=(xs.drop (i * g.size)).take g.size:=by
        apply List.ext_getElem?
        intro j
        by_cases hj:j < us.length
        ·have:=hus2 j us[j] (List.getElem?_eq_getElem hj)
         rw[Nat.zero_add]at this;rw[this,List.getElem?_eq_getElem hj]
        ·rw[List.getElem?_eq_none (by omega),List.getElem?_eq_none (by simp; omega)]
       obtain⟨rs,h1,h2⟩:=putC_ok hus3 hcs hp;obtain⟨v1,v2,hv12,h3,h4⟩:=dec_ok h2 hd hc';obtain⟨h5,h6⟩:=h1.eq;have hv1:=FR.length h3;have hrl:rs.length=g.size:=by rw[h5]; simp only[List.length_append,List.length_take,List.length_drop]; omega
       have hv2:v2=[]:=by
        have:=congrArg List.length hv12
        rw[List.length_append]at this;exact List.eq_nil_of_length_eq_zero (by omega)
       rw[hv2,List.append_nil]at hv12;subst hv12;have hset2:=Flat.set (fun _ _=>FR.length) hfl hlt h3;refine run_store_row h.sym hop ⟨hgd,hdst⟩ hi hvx hvy (by rw[<- Nat.eq_of_beq_eq_true hsz,<- hlen]; simp) hone hf (by omega) fun a' w' hY=>?_
       have hlen2:(l.set i z).length=l.length:=by simp
       obtain⟨H',h7⟩:=hset _ a' w' ⟨some ⟨b,0,none⟩,cc,_,by rw[hlen2]; exact he,by rw[hlen2],hset2,hcap⟩ (by
        have e:xs.take (i * g.size+p)++vy.cells.toList++xs.drop (i * g.size+p+vy.cells.toList.length)=xs.take (i * g.size)++rs++xs.drop (i * g.size+g.size):=by
         have e1:xs.drop (i * g.size+g.size)=(xs.drop (i * g.size+(p+vy.cells.toList.length))).drop (g.size - (p+vy.cells.toList.length)):=by rw[List.drop_drop]; congr 1; omega
         have e2:xs.drop (i * g.size+p+vy.cells.toList.length)=xs.drop (i * g.size+(p+vy.cells.toList.length)):=by rw[Nat.add_assoc]
         rw[h5,huse,List.take_take,Nat.min_eq_left (by omega),List.drop_take,List.drop_drop,List.take_add,e1,e2];simp only[List.append_assoc];rw[List.take_append_drop]
        rw[e]at hY;exact hY.sh) hY.st
       exact hK _ _ _ _ ⟨fun h=>(by rw[hop]at h; cases h),fun h=>(by rw[hop]at h; cases h),fun h=>(by rw[hop]at h; cases h)⟩ h7
      ·cases hb
     ·cases hb
    ·cases hb
   ·cases hb
  ·cases hb
 ·cases hb
end
end

section
section
variable {env env':Nat->Loc} {B:Nat->Prop} {w:World}
theorem FR.ones:∀ {g:GTy} {x:g.D} {vs:List Value},FR B w g x vs->∀ u∈vs,u.oneCell'=true
 | .int _,_,_,h,u,hu=>by rw[show _=[_] from h]at hu; simp at hu; subst hu; rfl
 | .bool,_,_,h,u,hu=>by rw[show _=[_] from h]at hu; simp at hu; subst hu; rfl
 | .str,_,_,h,u,hu=>by rw[show _=[_] from h]at hu; simp at hu; subst hu; rfl
 | .sl _,_,_,⟨_,_,_,h,_⟩,u,hu=>by rw[h]at hu; simp at hu; subst hu; rfl
 | .csl _,_,_,⟨_,_,h,_⟩,u,hu=>by rw[h]at hu; simp at hu; subst hu; rfl
 | .unit,_,_,h,u,hu=>by rw[show _=[] from h]at hu; cases hu
 | .pair _ _,_,_,⟨v1,v2,e,h1,h2⟩,u,hu=>by
  rw[e]at hu
  rcases List.mem_append.1 hu with hu | hu
  ·exact FR.ones h1 u hu
  ·exact FR.ones h2 u hu
theorem Flat.ones{α:Type} {R:α->List Value->Prop} (hR:∀ x vs,R x vs->∀ u∈vs,u.oneCell'=true):∀ {l:List α} {vs:List Value},Flat R l vs->∀ u∈vs,u.oneCell'=true
 | [],_,h,u,hu=>by rw[show _=[] from h]at hu; cases hu
 | _ :: _,_,⟨v1,v2,e,h1,h2⟩,u,hu=>by
  rw[e]at hu
  rcases List.mem_append.1 hu with hu | hu
  ·exact hR _ _ h1 u hu
  ·exact Flat.ones hR h2 u hu
theorem FR.zeros:∀ g:GTy,FR B w g g.zero g.zeros
 | .int _=>rfl
 | .bool=>rfl
 | .str=>rfl
 | .sl _=>⟨none,0,[],rfl,Nat.le_refl _,Nat.zero_le _,rfl,Reads.nil _ _ _,fun _ _ h=>absurd h (Nat.lt_irrefl 0)⟩
 | .csl _=>⟨none,[],rfl,Nat.zero_le _,rfl,Reads.nil _ _ _,fun _ _ h=>absurd h (Nat.lt_irrefl 0)⟩
 | .unit=>rfl
 | .pair g h=>⟨_,_,rfl,FR.zeros g,FR.zeros h⟩
theorem Flat.zeros(g:GTy):∀ k:Nat,Flat (FR B w g) (List.replicate k g.zero) (zeros g.zeros k)
 | 0=>rfl
 | k+1=>⟨g.zeros,_,rfl,FR.zeros g,Flat.zeros g k⟩
theorem HR.take{id:Nat}:∀ {l:Hp} {H:List Ck} {b:Blk},HR env B w l H->lk l id=some b ->
  ∃ c Y Z,BR env B w id b c/\H=Y++c :: Z/\∀ (env':Nat->Loc) (z:SC),(∀ j,j≠id->env' j=env j)->(∀ v,CR env B w (.sl id) v->CR env' B w z v)->∃ H2,H2.Sublist (Y++Z)/\HR env' B w (zM id z l) H2/\((∀ b,env id≠.blk b)->∀ c∈Y++Z,qK c=true->c∈H2)
 | [],_,_,_,h=>by cases h
 | (k,b') :: l,H,b,⟨c,H',e,h1,h2⟩,h=>by
  rw[zu]at h;subst e
  split at h
  ·rename_i e
   subst e;cases h;refine⟨c,[],H',h1,rfl,fun env' z he hz=>?_⟩;have hdel:∃ H2,H2.Sublist H'/\HR env' B w (zM id z l) H2/\((∀ b,env id≠.blk b)->∀ c∈H',qK c=true->c∈H2):=by
    by_cases hb:∀ b,env id≠.blk b
    ·obtain⟨H2,h3,h4,h5⟩:=HR.delK he hz h2 (fun b c _ hbr=>hbr.notCel fun t cs e=>by
      subst e;obtain⟨b',_,e,_⟩:=hbr;exact hb _ e)
     exact⟨H2,h3,h4,fun _=>h5⟩
    ·obtain⟨H2,h3,h4⟩:=HR.del he hz h2
     exact⟨H2,h3,h4,fun h=>absurd h hb⟩
   obtain⟨H2,h3,h4,h5⟩:=hdel;refine⟨H2,h3,?_,h5⟩;unfold zM;rw[Nat.beq_refl];exact h4
  ·rename_i e
   obtain⟨c',Y,Z,h3,h4,h5⟩:=HR.take h2 h;have hk:Nat.beq k id=false:=by
    cases hb:Nat.beq k id with
    | false=>rfl
    | true=>exact absurd (Nat.eq_of_beq_eq_true hb).symm e
   refine⟨c',c :: Y,Z,h3,by rw[h4]; rfl,fun env' z he hz=>?_⟩;obtain⟨H2,h6,h7,h8⟩:=h5 env' z he hz;refine⟨c :: H2,h6.cons_cons _,?_,fun hb c' hc' hcel=>?_⟩
   ·unfold zM
    rw[hk];exact⟨c,H2,rfl,h1.sub he hz (Nat.ne_of_beq_eq_false hk),h7⟩
   ·rw[List.cons_append]at hc'
    rcases List.mem_cons.1 hc' with rfl | hc'
    ·exact List.mem_cons_self ..
    ·exact List.mem_cons_of_mem _ (h8 hb c' hc' hcel)
end
section
variable {X:Cx} {R:Nat->Prop} {W:World} {Bi:Bk} {n:Nat} {ks:List Nat} {env:Nat->Loc} {B:Nat->Prop} {w0:World} {H:List Ck} {st:ASt} {a a':Act} {w w':World} {o:Oper} {d:Nat}
theorem AI.turnRow(h:AI X R W Bi n ks env B w0 H st a w) {id:Nat} {b b':Blk} (hlk:lk st.H id=some b) (hrow:∀ q,¬ Bi.p id q):∃ c K,BR env B w0 id b c/\Foc (H++ks.map qW) c K /\
  ∀ (l:Loc) c' a' w' sv v,BR (upd env id l) B w0 id b' c'->VR (upd env id l) B w0 sv v->SH (fun k=>R k\/B k) w0 (K c') w'->St n (dfs ks Bi) ((d,v) :: qL a) a' ->
   ∃ H',((∀ b,env id≠.blk b)->∀ c'∈H,qK c'=true->c'≠c->c'∈H')/\AI X R W Bi n ks (upd env id l) B w0 H' ⟨(d,sv) :: qb id .dead st.L,(id,b') :: zM id .dead st.H⟩ a' w':=by
 obtain⟨c,Y,Z,h1,h2,h3⟩:=h.heap.take hlk;refine⟨c,fun z=>Y++z :: (Z++ks.map qW),h1,⟨Y,Z++ks.map qW,by rw[h2]; simp,rfl⟩,fun l c' a' w' sv v hb hv hs hS=>?_⟩;obtain⟨H2,h4,h5,h9⟩:=h3 (upd env id l) .dead zC (fun _ _=>trivial);refine⟨c' :: H2,fun hb q hq hcel hne=>List.mem_cons_of_mem _ (h9 hb q (by
  rw[h2]at hq
  rcases List.mem_append.1 hq with hq | hq
  ·exact List.mem_append_left _ hq
  ·rcases List.mem_cons.1 hq with e | hq
   ·exact absurd e hne
   ·exact List.mem_append_right _ hq) hcel),hS.size,hS.defs,fun s u hu=>?_,⟨c',H2,rfl,hb,h5⟩,?_,h.sub,h.new,pin_upd h.pin hrow,h.base,h.glob⟩
 ·rw[zu]at hu
  split at hu
  ·rename_i e; subst e; cases hu; exact⟨v,hS.this,hv⟩
  ·rename_i e
   obtain⟨u0,hu0,rfl⟩:=qF hu;obtain⟨u',h6,h7⟩:=h.has s u0 hu0;exact⟨u',hS.other e h6,VR.sub (z:=.dead) zC (fun _ _=>trivial) h7⟩
 ·have hp:(Y++c' :: (Z++ks.map qW)).Perm (c' :: (Y++Z++ks.map qW)):=by
   rw[List.append_assoc];exact List.perm_middle
  exact(hs.perm hp).weak ((h4.append_right _).cons_cons _)
def partCells(X:Cx) (L:Sl) (size:Nat):List (Nat×Operand)->Nat->Option (Bool×List SC)
 | [],_=>some (true,[])
 | (j,u) :: r,k=>match Nat.beq j k,ae X L u,partCells X L size r (k+1)with
  | true,some (g,x),some (c,l)=>match Nat.beq x.cells.length size,lives x.cells with
   | true,true=>some (g&&c,x.cells++l)
   | _,_=>none
  | _,_,_=>none
def decN(g:GTy):Nat->List SC->Option (Bool×List g.D)
 | 0,_=>some (true,[])
 | k+1,cs=>match dec g cs with
  | some (c,x,r)=>match decN g k r with
   | some (c',l)=>some (c&&c',x :: l)
   | none=>none
  | none=>none
def newRow(n:Nat) (st:ASt) (d:Nat) (t:TypeId) (g:GTy) (l:List g.D) (cap:Option Nat):Option ASt:=
 match Nat.blt d n with
 | true=>some ⟨(d,.c (.sl d)) :: qb d .dead st.L,(d,.row t g l cap) :: zM d .dead st.H⟩
 | false=>none
def abuildSlice(X:Cx) (n:Nat) (st:ASt) (t:TypeId) (N:Nat) (ps:List (Nat×Operand)) (d:Nat):Option (Bool×ASt):=
 match X.tt.find t with
 | some ⟨⟨.slice e,_,_,_⟩,_⟩=>match X.tt.find e with
  | some ⟨te,some g⟩=>match Nat.ble (N * te.size) 16777216,Nat.beq ps.length N,partCells X st.L te.size ps 0 with
   | true,true,some (c,cs)=>match decN g N cs with
    | some (c',l)=>match newRow n st d e g l (some N)with
     | some st'=>some (c&&c',st')
     | none=>none
    | none=>none
   | _,_,_=>none
  | _=>none
 | _=>none
theorem decN_ok{env:Nat->Loc} {B:Nat->Prop} {w:World} {g:GTy}:∀ {k:Nat} {cs:List SC} {c:Bool} {l:List g.D} {vs:List Value},CsR env B w cs vs->decN g k cs=some (c,l)->c=true->l.length=k/\∃ v1 v2,vs=v1++v2/\Flat (FR B w g) l v1
 | 0,cs,c,l,vs,_,hd,_=>by cases hd; exact⟨rfl,[],vs,rfl,rfl⟩
 | k+1,cs,c,l,vs,h,hd,hc=>by
  simp only[decN]at hd
  split at hd
  ·rename_i c1 x r h1
   split at hd
   ·rename_i c2 l2 h2
    cases hd;simp only[Bool.and_eq_true]at hc;obtain⟨v1,v2,rfl,h3,h4⟩:=dec_ok h h1 hc.1;obtain⟨h5,v3,v4,rfl,h6⟩:=decN_ok h4 h2 hc.2;exact⟨by rw[List.length_cons,h5],v1++v3,v4,by rw[List.append_assoc],v1,v3,rfl,h3,h6⟩
   ·cases hd
  ·cases hd
theorem CsR.append{env:Nat->Loc} {B:Nat->Prop} {w:World}:∀ {cs ds:List SC} {vs us:List Value},CsR env B w cs vs->CsR env B w ds us->CsR env B w (cs++ds) (vs++us)
 | [],_,_,_,h,h'=>by rw[show _=[] from h]; exact h'
 | _ :: _,_,_,_,⟨v,r,e,h1,h2⟩,h'=>⟨v,_,by rw[e]; rfl,h1,CsR.append h2 h'⟩
theorem partCells_ok(h:AI X R W Bi n ks env B w0 H st a w) {size:Nat}:∀ {ps:List (Nat×Operand)} {k:Nat} {c:Bool} {cs:List SC},partCells X st.L size ps k=some (c,cs)->c=true ->
  ∃ vs:List Value,(ps.map fun p=>(p.1,a.eval p.2))=(vs.zipIdx k).map (fun p=>(p.2,p.1))/\(∀ v∈vs,v.cells.size=size)/\CsR env B w0 cs (vs.flatMap fun v=>v.cells.toList)
 | [],k,c,cs,hp,_=>by cases hp; exact⟨[],rfl,(fun _ h=>by cases h),rfl⟩
 | (j,u) :: ps,k,c,cs,hp,hc=>by
  simp only[partCells]at hp
  split at hp
  ·rename_i g x c' l hj hu hr
   split at hp
   ·rename_i hsz hlive
    cases hp;simp only[Bool.and_eq_true]at hc;obtain⟨v,h1,h2⟩:=h.ev hu hc.1;have hcs:CsR env B w0 x.cells v.cells.toList:=h2.cells fun c e=>by
     subst e;simp only[SA.cells,lives,Bool.and_true]at hlive;exact CR.one hlive h2
    obtain⟨vs,h3,h4,h5⟩:=partCells_ok h hr hc.2;refine⟨v :: vs,?_,fun u hu=>?_,?_⟩
    ·rw[List.map_cons,h3,List.zipIdx_cons,List.map_cons,h.stt.ev h1,Nat.eq_of_beq_eq_true hj]
    ·rcases List.mem_cons.1 hu with rfl | hu
     ·rw[<- Nat.eq_of_beq_eq_true hsz,<- hcs.length]; simp
     ·exact h4 u hu
    ·rw[List.flatMap_cons]
     exact hcs.append h5
   ·cases hp
  ·cases hp
theorem fill_cells(size:Nat):∀ (vs:List Value) (k:Nat) (done zs:List Value),(∀ v∈vs,v.cells.size=size)->done.length=k * size->zs.length=vs.length * size ->
  Instr.fill (fun i=>some (i * size,size)) (done++zs).toArray ((vs.zipIdx k).map fun p=>(p.2,p.1))=some (done++vs.flatMap fun v=>v.cells.toList).toArray
 | [],k,done,zs,_,_,hl=>by
  have:zs=[]:=List.eq_nil_of_length_eq_zero (by simpa using hl)
  subst this; simp[Instr.fill]
 | v :: vs,k,done,zs,hv,hd,hl=>by
  have hvl:=hv v (by simp);have hvl':v.cells.toList.length=size:=by simpa using hvl
  have hz:size<=zs.length:=by rw[hl,List.length_cons,Nat.add_mul]; omega
  have ih:=fill_cells size vs (k+1) (done++v.cells.toList) (zs.drop size) (fun u hu=>hv u (List.mem_cons_of_mem _ hu)) (by rw[List.length_append,hd,hvl',Nat.add_mul]; omega) (by rw[List.length_drop,hl,List.length_cons,Nat.add_mul]; omega);have hp:=put_fold v.cells.toList (done++zs) (k * size) 0 (by rw[List.length_append,hd,hvl']; omega);simp only[List.zipIdx_cons,List.map_cons,Instr.fill];rw[if_neg (by simp[hvl,hd]; omega)];rw[<- Array.foldl_toList];simp only[Array.toList_zipIdx];simp only[Nat.add_zero]at hp;rw[hp,<- hd,List.take_left,hvl'];have e2:(done++zs).drop (done.length+size)=zs.drop size:=by rw[List.drop_append]; simp
  rw[e2]
  simpa using ih
theorem range_zero(z:List Value) (k:Nat) (size:Nat) (hs:z.length=size) (h0:0 < size):(Array.range (k * size)).map (fun j=>z.toArray[j % z.toArray.size]!)=(zeros z k).toArray:=by
 subst hs; exact range_mod z h0 k
theorem run_buildSlice{P:Program} {t e:TypeId} {i:TI} {N:Nat} {vs:List Value} {z:List Value} {w:World} (ht:P.underlying t=some (.slice e)) (hi:TI.ok P e i) (hz:i.zero.cells.toList=z) (hzl:z.length=i.size) (h0:0 < i.size) (hN:vs.length=N) (hle:N * i.size<=16777216) (hv:∀ v∈vs,v.cells.size=i.size) :
  (Instr.buildSlice t N ((vs.zipIdx.map fun p=>(p.2,p.1)).toArray)).run P w=.ok (.slice (some ⟨w.heap.size,0,none⟩) N N) (w.alloc (.cells (vs.flatMap fun v=>v.cells.toList).toArray e)):=by
 have hfill:=fill_cells i.size vs 0 [] (zeros z N) hv (by simp) (by rw[zeros_length,hzl,hN]);simp only[List.nil_append]at hfill;have hz1:=range_zero z N i.size hzl h0;have hz2:i.zero.cells=z.toArray:=by rw[<- hz]
 unfold Instr.buildSlice;simp only[Sem.run_bind,run_underlying ht,Result.andThen_ok,TI.run_sizeOf hi];rw[if_neg (by omega)]
 by_cases hne:N * i.size=0
 ·have hN0:N=0:=by
   rcases Nat.mul_eq_zero.1 hne with h | h
   ·exact h
   ·omega
  subst hN0
  have:vs=[]:=List.eq_nil_of_length_eq_zero hN
  subst this;have e0:(Array.range 0)=#[]:=rfl
  simp[Instr.fill,newObj,Sem.run,Go.newRow,e0]
 ·simp only[hne,if_false,Sem.run_bind,TI.run_zero hi,Result.andThen_ok,Sem.run_pure,hz2]
  rw[hz1]
  simp[hfill,Go.newRow,newObj,Sem.run]
theorem buildSlice_ok(hX:X.tt.ok X.P) {t:TypeId} {N:Nat} {ps:Array (Nat×Operand)} {c:Bool} {st':ASt} (hop:o.op=.buildSlice t N ps) (hgd:o.guard=none) (hdst:o.dst=some d) (hb:abuildSlice X n st t N ps.toList d=some (c,st')) (hc:c=true):EffOk X n st o st':=by
 intro R W Bi ks env B w0 H a w ops KK h hK;unfold abuildSlice at hb
 split at hb
 ·rename_i e s1 s2 s3 s4 hf
  split at hb
  ·rename_i te g hte
   split at hb
   ·rename_i c1 cs hle hpl hpc
    split at hb
    ·rename_i c2 l hdn
     split at hb
     ·rename_i st2 hnr
      cases hb;simp only[Bool.and_eq_true]at hc;unfold Go.Proofs.YtldjgdggcodgeaaGreat.newRow at hnr
      split at hnr
      ·rename_i hd
       cases hnr;obtain⟨hg1,hg2,hg3⟩:=(TT.get hX hte).g g rfl;have hti:=(TT.get hX hte).ti;dsimp only at hg1 hg2 hti;obtain⟨vs,h1,h2,h3⟩:=partCells_ok h hpc hc.1;obtain⟨h4,v1,v2,h5,h6⟩:=decN_ok h3 hdn hc.2;have hvl:vs.length=N:=by
        have:=congrArg List.length h1
        simp only[List.length_map,List.length_zipIdx]at this;rw[<- this];exact Nat.eq_of_beq_eq_true hpl
       have hflat:(vs.flatMap fun v=>v.cells.toList).length=N * te.size:=by
        rw[<- hvl]
        clear h1 h3 h5 hvl
        induction vs with
        | nil=>simp
        | cons v vs ih=>rw[List.flatMap_cons,List.length_append,ih (fun u hu=>h2 u (List.mem_cons_of_mem _ hu)),List.length_cons,Nat.add_mul,Nat.one_mul,Array.length_toList,h2 v (by simp),Nat.add_comm]
       have hv2:v2=[]:=by
        have e1:=congrArg List.length h5;rw[List.length_append,FR.flat_length h6,h4,hflat,hg1]at e1;exact List.eq_nil_of_length_eq_zero (by omega)
       subst hv2;rw[List.append_nil]at h5;have hrun:=run_buildSlice (w:=w) (N:=N) (vs:=vs) (TT.get hX hf).ti.1 hti (z:=g.zeros) hg2 (by rw[<- FR.length (FR.zeros (B:=B) (w:=w0) g)]at hg1; exact hg1) (by rw[<- hg1]; exact hg3) hvl (Nat.le_of_ble_eq_true hle) h2;have hps:ps.map (fun p=>(p.1,a.eval p.2))=((vs.zipIdx.map fun p=>(p.2,p.1)).toArray):=by
        rw[<- h1,<- List.map_toArray]
       refine zJ h.stt hgd hdst (zk hd) (v:=.slice (some ⟨w.heap.size,0,none⟩) N N) (w':=w.alloc (.cells (vs.flatMap fun v=>v.cells.toList).toArray e)) (by
        simp only[execOp,hop];rw[hps]
        simp[hrun]) fun a' hS=>?_
       have hrow:=SH.toRow (size:=g.size) (m:=N) (h.sh.allocC (vs.flatMap fun v=>v.cells.toList) e) (by rw[hflat,hg1]) (by
        have:=Nat.le_of_ble_eq_true hle
        have h7:N<=N * te.size:=Nat.le_mul_of_pos_right _ (by rw[<- hg1]; exact hg3);omega)
       obtain⟨H',hkp,h8⟩:=h.newBlk (d:=d) hd (l:=.row (some ⟨w.heap.size,0,none⟩) N l.length) (blk:=.row e g l (some N)) (sv:=.c (.sl d)) hrow ⟨_,_,_,zf,by rw[h4],by rw[h5]; exact h6,fun q hq=>by cases hq; rfl⟩ ⟨_,_,_,zf,by rw[h4]⟩ hS;exact hK _ _ _ _ ⟨fun _=>(Below.refl _ _).alloc (Nat.le_refl _) _,fun _ hn=>hkp.1 (by simpa [keepD,hdst] using hn),fun _ hn=>hkp.2 (by simpa [noKeyD,hdst] using hn)⟩ h8
      ·cases hnr
     ·cases hb
    ·cases hb
   ·cases hb
  ·cases hb
 ·cases hb
theorem run_makeRow{P:Program} {B:Nat->Prop} {w0 w:World} {H:List Ck} {t e:TypeId} {i':TI} {z:List Value} {m c:Nat} {k k':IntKind} (hH:SH B w0 H w) (e1:P.underlying t=some (.slice e)) (e3:TI.ok P e i') (h4:i'.zero.cells=z.toArray) (h5:z.length=i'.size) (hsz:0 < i'.size)
  (hmc:m<=c) (hb:i'.bytes * c<=140737488355328) (hc:c<=140737488355328) :
  (Instr.makeSlice t (.int k (m:Int)) (.int k' (c:Int))).run P w=.ok (.slice (some ⟨w.heap.size,0,none⟩) m c) (w.alloc (.cells (zeros z c).toArray e))/\SH B w0 (.row (some ⟨w.heap.size,0,none⟩) c e i'.size m (zeros z m) :: H) (w.alloc (.cells (zeros z c).toArray e)):=by
 obtain⟨inf,hinf,hs1,hs2,hs3⟩:=TI.info e3;have hb':(inf.bytes:Int) * (c:Int)<=281474976710656:=by
  have:((inf.bytes * c:Nat):Int)<=140737488355328:=by rw[hs2]; omega
  rw[Int.natCast_mul]at this;omega
 constructor
 ·have hr:=run_make (P:=P) w t e inf i'.zero e1 hinf hs3 k k' m c (by omega) (by omega) hb' (by omega)
  simp only[Int.toNat_natCast]at hr;rw[hr];have hz:madeCells i'.zero.cells (c * inf.size)=(zeros z c).toArray:=by
   rw[hs1,h4,<- h5];unfold madeCells;exact range_mod z (by omega) c
  rw[hz]
 ·have ha:=hH.alloc (.cells (zeros z c).toArray e)
  have hp:=List.pairwise_cons.1 ha.apart;refine⟨ha.below,ha.base,fun ck hck=>?_,List.Pairwise.cons (fun ck hck b e'=>hp.1 ck hck b (by simpa [Ck.has] using e')) hp.2⟩
  rcases List.mem_cons.1 hck with rfl | hck
  ·refine⟨by rw[zeros_length,h5],.inr ⟨w.heap.size,_,(0,0),rfl,hH.fresh,heap_alloc_new w _,.inl rfl,hmc,by unfold maxLen; omega,by simp[zeros_length,h5],?_⟩⟩
   have:zeros z c=zeros z m++zeros z (c - m):=by
    unfold zeros;rw[<- List.flatten_append,List.replicate_append_replicate]
    congr 2
    omega
   show(zeros z c).take _=_;rw[this,List.take_left' (by rw[zeros_length,h5])]
  ·exact ha.ok ck (List.mem_cons_of_mem _ hck)
def elK:Option GTy->GTy->GTy
 | some (.sl (.csl h)),.sl _=>.csl h
 | _,g=>g
theorem elK_eq(tg:Option GTy) (g:GTy):(elK tg g).size=g.size/\(elK tg g).zeros=g.zeros:=by
 unfold elK
 split<;>exact⟨rfl,rfl⟩
def amakeSlice(X:Cx) (n:Nat) (st:ASt) (t:TypeId) (x y:SA) (d:Nat):Option (Bool×ASt):=
 match X.tt.find t with
 | some ⟨⟨.slice e,_,_,_⟩,tg⟩=>match X.tt.find e with
  | some ⟨⟨_,_,bts,_⟩,some g⟩=>match x,y with
   | .c (.val (.int _ zx)),.c (.val (.int _ zy))=>match newRow n st d e (elK tg g) (List.replicate zx.toNat (elK tg g).zero) (some zy.toNat)with
    | some st'=>some (decide (0<=zx)&&decide (zx<=zy)&&zH bts zy,st')
    | none=>none
   | _,_=>none
  | _=>none
 | _=>none
theorem makeSlice_ok(hX:X.tt.ok X.P) {t:TypeId} {x y:Operand} {g g' c:Bool} {sx sy:SA} {st':ASt} (hop:o.op=.makeSlice t x y) (hgd:o.guard=none) (hdst:o.dst=some d) (hx:ae X st.L x=some (g,sx)) (hg:g=true) (hy:ae X st.L y=some (g',sy)) (hg':g'=true)
  (hb:amakeSlice X n st t sx sy d=some (c,st')) (hc:c=true):EffOk X n st o st':=by
 intro R W Bi ks env B w0 H a w ops KK h hK;obtain⟨vx,hvx,hrx⟩:=h.ev hx hg;obtain⟨vy,hvy,hry⟩:=h.ev hy hg';unfold amakeSlice at hb
 split at hb
 ·rename_i e s1 s2 s3 s4 hf
  split at hb
  ·rename_i ds sz bts zz g hte
   split at hb
   ·rename_i k zx k' zy
    split at hb
    ·rename_i st2 hnr
     cases hb;simp only[Bool.and_eq_true,decide_eq_true_eq]at hc;obtain⟨⟨hz0,hz1⟩,hz2⟩:=hc;obtain⟨hz2,hz3⟩:=(zT (by omega)).1 hz2;unfold Go.Proofs.YtldjgdggcodgeaaGreat.newRow at hnr
     split at hnr
     ·rename_i hd
      cases hnr;rw[show vx=_ from hrx]at hvx;rw[show vy=_ from hry]at hvy;obtain⟨hg1,hg2,hg3⟩:=(TT.get hX hte).g g rfl;obtain⟨T,hT,h1,h4⟩:=tab2 (TT.get hX hf).ti (TT.get hX hte).ti;dsimp only at hg1 hg2 h4;obtain⟨k1,k2⟩:=elK_eq s4 g;rw[<- k1]at hg1 hg3;rw[<- k2]at hg2
      clear k1 k2
      generalize elK s4 g=g at hg1 hg2 hg3 hK ⊢
      have hzl:g.zeros.length=sz:=by rw[<- hg1]; exact FR.length (FR.zeros (B:=B) (w:=w0) g)
      obtain⟨hrun,hrow⟩:=run_makeRow (i':=⟨ds,sz,bts,zz⟩) h.sh (TT.get hX hf).ti.1 (TT.get hX hte).ti (z:=g.zeros) (by rw[<- hg2]) hzl (by rw[<- hg1]; exact hg3) (k:=k) (k':=k') (m:=zx.toNat) (c:=zy.toNat) (by omega) (by
       have:((bts * zy.toNat:Nat):Int)=(bts:Int) * zy:=by rw[Int.natCast_mul,Int.toNat_of_nonneg (by omega)]
       show bts * zy.toNat<=_;omega) (by omega)
      rw[Int.toNat_of_nonneg hz0,Int.toNat_of_nonneg (by omega)]at hrun;refine zJ h.stt hgd hdst (zk hd) (v:=.slice (some ⟨w.heap.size,0,none⟩) zx.toNat zy.toNat) (w':=w.alloc (.cells (zeros g.zeros zy.toNat).toArray e)) (by simp[execOp,hop,h.stt.ev hvx,h.stt.ev hvy,hrun]) fun a' hS=>?_
      obtain⟨H',hkp,h8⟩:=h.newBlk (d:=d) hd (l:=.row (some ⟨w.heap.size,0,none⟩) zy.toNat (List.replicate zx.toNat g.zero).length) (blk:=.row e g (List.replicate zx.toNat g.zero) (some zy.toNat)) (sv:=.c (.sl d)) hrow ⟨_,_,_,zf,by rw[List.length_replicate,hg1],Flat.zeros g _,fun q hq=>by cases hq; rfl⟩ ⟨_,_,_,zf,by rw[List.length_replicate]⟩ hS;exact hK _ _ _ _ ⟨fun _=>(Below.refl _ _).alloc (Nat.le_refl _) _,fun _ hn=>hkp.1 (by simpa [keepD,hdst] using hn),fun _ hn=>hkp.2 (by simpa [noKeyD,hdst] using hn)⟩ h8
     ·cases hnr
    ·cases hb
   ·cases hb
  ·cases hb
 ·cases hb
end
end

section
def srcL(st:ASt) (g:GTy):SA->Option (List g.D)
 | .c (.val (.slice none 0 0))=>some []
 | .c (.lst g' l _)=>match decEq g' g with
  | isTrue h=>some (h ▸ l)
  | isFalse _=>none
 | .c (.sl id)=>match lk st.H id with
  | some (.row _ g' l _)=>match decEq g' g with
   | isTrue h=>some (h ▸ l)
   | isFalse _=>none
  | _=>none
 | _=>none
def zV(bts k:Nat):Bool:=decide (k * bts<=140737488355328)&&decide (k<=140737488355328)
def aappend(X:Cx) (n:Nat) (st:ASt) (t:TypeId) (x y:SA) (d:Nat):Option (Bool×ASt):=
 match X.tt.find t with
 | some ⟨⟨.slice e,_,_,_⟩,_⟩=>match X.tt.find e with
  | some ⟨⟨_,sz,bts,_⟩,some ge⟩=>match x with
   | .c (.sl id)=>match lk st.H id with
    | some (.row e' g l _)=>match Nat.blt d n&&Nat.blt id zP,Nat.beq e' e,Nat.beq g.size sz,srcL st g y with
     | true,true,true,some l2=>some (zV bts (l.length+l2.length),⟨(d,.c (.sl id)) :: qb id .dead st.L,(id,.row e g (l++l2) none) :: zM id .dead st.H⟩)
     | _,_,_,_=>none
    | _=>none
   | .c (.val (.slice none 0 0))=>match srcL st ge y with
    | some l2=>match newRow n st d e ge l2 none with
     | some st'=>some (zV bts l2.length,st')
     | none=>none
    | none=>none
   | .c (.lst g l (some c))=>match Nat.beq g.size sz,srcL st g y with
    | true,some l2=>match newRow n st d e g (l++l2) none with
     | some st'=>some (zV bts (l.length+l2.length)&&decide (c=l.length)&&decide (0 < l.length)&&decide (0 < l2.length),st')
     | none=>none
    | _,_=>none
   | _=>none
  | _=>none
 | _=>none
section
variable {X:Cx} {R:Nat->Prop} {W:World} {Bi:Bk} {n:Nat} {ks:List Nat} {env:Nat->Loc} {B:Nat->Prop} {w0:World} {H:List Ck} {st:ASt} {a a':Act} {w w':World} {o:Oper} {d:Nat}
theorem RB.old{A:Option Addr} {m size:Nat} {xs:List Value} (hr:RB B w0 A m size xs) (hs:SH (fun k=>R k\/B k) w0 H w):Reads w A m size xs:=by
 refine⟨hr.1.1,fun hm=>?_⟩;obtain⟨b,p,e,hc⟩:=hr.1.2 hm;exact⟨b,p,e,fun j u hu=>frozen_cell (hr.2 b p hm e) (hc j u hu) hs⟩
theorem srcL_ok(h:AI X R W Bi n ks env B w0 H st a w) {g:GTy} {y:SA} {l:List g.D} {v:Value} (hs:srcL st g y=some l) (hr:SaR env B w0 y v):∃ A c xs,v=.slice A l.length c/\Flat (FR B w0 g) l xs/\Reads w A l.length g.size xs:=by
 unfold srcL at hs
 split at hs
 ·cases hs
  exact⟨none,0,[],hr,rfl,Reads.nil _ _ _⟩
 ·split at hs
  ·rename_i hg _
   subst hg;cases hs;obtain⟨A,c,xs,rfl,_,_,_,hfl,hrb⟩:=hr;exact⟨A,c,xs,rfl,hfl,hrb.old h.sh⟩
  ·cases hs
 ·split at hs
  ·rename_i hlk
   split at hs
   ·rename_i hg _
    subst hg;cases hs;obtain⟨A,c,m,he,rfl⟩:=hr;obtain⟨ck,K,⟨A',k',xs,he',rfl,hfl,_⟩,hfoc⟩:=h.heap.foc hlk;rw[he]at he';cases he';exact⟨A,c,xs,rfl,hfl,Reads.rowM h.sh hfoc.more.mem⟩
   ·cases hs
  ·cases hs
 ·cases hs
theorem append_ok(hX:X.tt.ok X.P) {t:TypeId} {x y:Operand} {g g' c:Bool} {sx sy:SA} {st':ASt} (hop:o.op=.call ⟨.builtin .append,⟨[x,y]⟩,⟨[t,t]⟩⟩) (hgd:o.guard=none) (hdst:o.dst=some d) (hx:ae X st.L x=some (g,sx)) (hg:g=true) (hy:ae X st.L y=some (g',sy)) (hg':g'=true)
  (hb:aappend X n st t sx sy d=some (c,st')) (hc:c=true):EffOk X n st o st':=by
 intro R W Bi ks env B w0 H a w ops KK h hK;obtain⟨vx,hvx,hrx⟩:=h.ev hx hg;obtain⟨vy,hvy,hry⟩:=h.ev hy hg';unfold aappend at hb
 split at hb
 ·rename_i e s1 s2 s3 s4 hf
  split at hb
  ·rename_i ds sz bts zz ge hte
   obtain⟨hg1,hg2,hg3⟩:=(TT.get hX hte).g ge rfl;obtain⟨T,hT,h1,h4⟩:=tab2 (TT.get hX hf).ti (TT.get hX hte).ti;dsimp only at hg1 hg2 h4;have hzs:zz.cells.size=sz:=by
    have:zz.cells.toList.length=sz:=by rw[hg2,<- hg1]; exact FR.length (FR.zeros (B:=B) (w:=w0) ge)
    simpa using this
   split at hb
   ·rename_i id
    split at hb
    ·rename_i e' g l cap hlk
     split at hb
     ·rename_i l2 hd2 he hsz hsrc
      cases hb;simp only[Bool.and_eq_true]at hd2;obtain⟨hd,hfix⟩:=hd2;have he':=Nat.eq_of_beq_eq_true he;subst he';have hsz':=Nat.eq_of_beq_eq_true hsz;simp only[zV,Bool.and_eq_true,decide_eq_true_eq]at hc;obtain⟨A2,c2,xs2,rfl,hfl2,hR2⟩:=srcL_ok h hsrc hry;obtain⟨A,c,m,hen,rfl⟩:=hrx;obtain⟨ck,K,⟨A',k',xs,hen',rfl,hfl,_⟩,hfoc,hturn⟩:=h.turnRow (d:=d) (b':=.row e' g (l++l2) none) hlk (fun q hp=>by
       obtain⟨_,h5,h6⟩:=h.pin _ _ hp;rw[hen]at h5
       rcases h6 with⟨b,h6⟩ | h6
       ·rw[<- h5]at h6; cases h6
       ·have:=zk hfix; omega)
      rw[hen]at hen';cases hen';rw[hsz']at hfoc hR2;refine y_append h.sym hop ⟨hgd,hdst⟩ hd hT h1 rfl h4 (by rw[<- hg1]; exact Nat.ble_eq_true_of_le hg3) hzs hvx hvy hfoc hR2 (Flat.ones (fun _ _=>FR.ones) hfl2) hc.1 hc.2 fun A' c' a' w' hY=>?_
      obtain⟨H',hkp,h8⟩:=hturn (.row A' c' (l.length+l2.length)) _ a' w' (.c (.sl id)) _ ⟨A',c',xs++xs2,by rw[zf,List.length_append],by rw[List.length_append],hfl.append hfl2,fun q hq=>by cases hq⟩ ⟨A',c',_,zf,rfl⟩ (by rw[hsz']; exact hY.sh) hY.st;exact hK _ _ _ _ ⟨fun h=>(by rw[hop]at h; cases h),fun _ _ c hc hcel=>hkp (fun b=>by rw[hen]; simp) c hc hcel (fun e=>by rw[e]at hcel; cases hcel),fun h=>(by rw[hop]at h; cases h)⟩ h8
     ·cases hb
    ·cases hb
   ·split at hb
    ·rename_i l2 hsrc
     split at hb
     ·rename_i st2 hnr
      cases hb;simp only[zV,Bool.and_eq_true,decide_eq_true_eq]at hc;unfold Go.Proofs.YtldjgdggcodgeaaGreat.newRow at hnr
      split at hnr
      ·rename_i hd
       cases hnr;obtain⟨A2,c2,xs2,rfl,hfl2,hR2⟩:=srcL_ok h hsrc hry;rw[show vx=_ from hrx]at hvx;rw[hg1]at hR2;have hsym:Sym n (dfs ks Bi) (qL a) (fun k=>R k\/B k) w0 (.row none 0 e sz 0 [] :: (H++ks.map qW)) a w:=⟨h.stt,h.sh.nilRow e sz⟩
       refine y_append hsym hop ⟨hgd,hdst⟩ hd hT h1 rfl h4 (by rw[<- hg1]; exact Nat.ble_eq_true_of_le hg3) hzs hvx hvy foc0 hR2 (Flat.ones (fun _ _=>FR.ones) hfl2) (by rw[Nat.zero_add]; exact hc.1) (by rw[Nat.zero_add]; exact hc.2) fun A' c' a' w' hY=>?_
       rw[Nat.zero_add,List.nil_append,<- hg1]at hY;obtain⟨H',hkp,h8⟩:=h.newBlk (d:=d) hd (l:=.row A' c' l2.length) (blk:=.row e ge l2 none) (sv:=.c (.sl d)) hY.sh ⟨_,_,_,zf,rfl,hfl2,fun q hq=>by cases hq⟩ ⟨_,_,_,zf,rfl⟩ hY.st;exact hK _ _ _ _ ⟨fun h=>(by rw[hop]at h; cases h),fun _ hn=>hkp.1 (by simpa [keepD,hdst] using hn),fun h=>(by rw[hop]at h; cases h)⟩ h8
      ·cases hnr
     ·cases hb
    ·cases hb
   ·rename_i g l cc
    split at hb
    ·rename_i l2 hsz hsrc
     split at hb
     ·rename_i st2 hnr
      cases hb;simp only[zV,Bool.and_eq_true,decide_eq_true_eq]at hc;obtain⟨⟨⟨hc1,hc2⟩,hc3⟩,hc4⟩:=hc;unfold Go.Proofs.YtldjgdggcodgeaaGreat.newRow at hnr
      split at hnr
      ·rename_i hd
       cases hnr;have hsz':=Nat.eq_of_beq_eq_true hsz;obtain⟨A2,c2,xs2,rfl,hfl2,hR2⟩:=srcL_ok h hsrc hry;obtain⟨A,c,xs,rfl,_,_,hcap,hfl,hrb⟩:=hrx;have hcc:=hcap _ rfl;have hR1:=hrb.old h.sh;rw[hsz']at hR2 hR1;obtain⟨b1,p1,rfl,_⟩:=hR1.2 hc3;obtain⟨b2,p2,rfl,_⟩:=hR2.2 hc4;refine y_append_new h.sym hop ⟨hgd,hdst⟩ hd hT h1 rfl h4 (by rw[<- hg1]; exact Nat.ble_eq_true_of_le hg3) hzs hvx hvy hc3 hc4 hR1 hR2 (by omega) hc1.1 hc1.2 fun gg c' a' w' hY=>?_
       rw[<- hsz']at hY;obtain⟨H',hkp,h8⟩:=h.newBlk (d:=d) hd (l:=.row (some ⟨gg,0,none⟩) c' (l++l2).length) (blk:=.row e g (l++l2) none) (sv:=.c (.sl d)) hY.sh ⟨_,_,_,zf,by rw[List.length_append],hfl.append hfl2,fun q hq=>by cases hq⟩ ⟨_,_,_,zf,by rw[List.length_append]⟩ hY.st;exact hK _ _ _ _ ⟨fun h=>(by rw[hop]at h; cases h),fun _ hn=>hkp.1 (by simpa [keepD,hdst] using hn),fun h=>(by rw[hop]at h; cases h)⟩ h8
      ·cases hnr
     ·cases hb
    ·cases hb
   ·cases hb
  ·cases hb
 ·cases hb
/-! ### Freezing -/
def frz(id:Nat) (st:ASt):Option ASt:=
 match lk st.H id with
 | some (.row _ g l cap)=>some ⟨qb id (.lst g l cap) st.L,zM id (.lst g l cap) st.H⟩
 | _=>none
theorem AI.frz(h:AI X R W Bi n ks env B w0 H st a w) {id:Nat} {st':ASt} (hf:frz id st=some st'):∃ env' B' w0' H',AI X R W Bi n ks env' B' w0' H' st' a w/\(∀ k,B k->B' k)/\KO (fun k=>R k\/B k) w0 w0'/\∀ c∈H,qK c=true->c∈H':=by
 unfold Go.Proofs.YtldjgdggcodgeaaGreat.frz at hf
 split at hf
 ·rename_i t g l cap hlk
  cases hf;obtain⟨c0,_,⟨A,k,xs0,he,rfl,_,hcap⟩,hfoc0⟩:=h.heap.foc hlk;have hup:Up B w0 (fun q=>B q\/A.map (·.block)=some q) w:=⟨fun q hq=>.inl hq,fun q hq=>h.sh.below.block q (.inr hq)⟩
  obtain⟨c,Y,Z,⟨A',k',xs,he',rfl,hfl,_⟩,h2,h3⟩:=(h.heap.up hup).take hlk;rw[he]at he';cases he';have hmem:Ck.row A k t g.size l.length xs∈H++ks.map qW:=by rw[h2]; simp
  have hown:Owns w (fun k=>R k\/B k) t g.size A k l.length xs:=h.sh.ok _ hmem;have hnew:∀ q,A.map (·.block)=some q->¬ (R q\/B q)/\q < w.heap.size:=fun q hq=>(h.sh.ok _ hmem).lt hq
  have hcr:∀ v,CR env (fun q=>B q\/A.map (·.block)=some q) w (.sl id) v->CR env (fun q=>B q\/A.map (·.block)=some q) w (.lst g l cap) v:=by
   rintro v ⟨A',c',m,he',rfl⟩;rw[he]at he';cases he';exact⟨A,k,xs,rfl,hown.le.1,hown.le.2,hcap,hfl,Reads.rowM h.sh hmem,fun b p _ e=>.inr (by rw[e]; rfl)⟩
  obtain⟨H2,h4,h5,h45⟩:=h3 env (.lst g l cap) (fun _ _=>rfl) hcr;have hpart:=h.sh.apart;rw[h2,List.append_assoc,List.cons_append]at hpart;refine⟨env,_,w,H2,⟨h.size,h.defs,fun s u hu=>?_,h5,?_,fun q hq=>.inl (h.sub q hq),fun q hq=>?_,h.pin,h.base.trans ⟨h.sh.below.os,h.sh.below.tape,h.sh.below.output,h.sh.below.size,fun q hq=>h.sh.below.block q (.inl hq)⟩,fun i x hx=>(h.glob i x hx).up hup⟩,fun q hq=>.inl hq,h.sh.below,fun c hc hcel=>h45 (fun b=>by rw[he]; simp) c ?_ hcel⟩
  ·obtain⟨u0,hu0,rfl⟩:=qF hu
   obtain⟨u',h6,h7⟩:=h.has s u0 hu0;exact⟨u',h6,VR.sub (fun _ _=>rfl) hcr (h7.up hup)⟩
  ·have hs:SH (fun k=>R k\/B k) w0 (H2++ks.map qW) w:=by
    have h6:=h.sh;rw[h2]at h6;have hp:(Y++Ck.row A k t g.size l.length xs :: Z++ks.map qW).Perm (Ck.row A k t g.size l.length xs :: (Y++Z++ks.map qW)):=by
     simp only[List.append_assoc,List.cons_append];exact List.perm_middle
    exact(h6.perm hp).weak (((h4.append_right _)).cons _)
   refine⟨KO.refl _ _,fun q hq=>?_,fun c hc=>(hs.ok c hc).base fun b hb hB=>?_,hs.apart⟩
   ·rcases hq with hq | hq | hq
    ·exact h.sh.base q (.inl hq)
    ·exact h.sh.base q (.inr hq)
    ·exact(hnew q hq).2
   ·rcases hB with hB | hB | hB
    ·exact((hs.ok c hc).lt hb).1 (.inl hB)
    ·exact((hs.ok c hc).lt hb).1 (.inr hB)
    ·have hcm:c∈Y++(Z++ks.map qW):=by
      rcases List.mem_append.1 hc with hc | hc
      ·have:=h4.subset hc
       rcases List.mem_append.1 this with h7 | h7
       ·exact List.mem_append_left _ h7
       ·exact List.mem_append_right _ (List.mem_append_left _ h7)
      ·exact List.mem_append_right _ (List.mem_append_right _ hc)
     rw[List.pairwise_append,List.pairwise_cons]at hpart;obtain⟨_,⟨h8,_⟩,h9⟩:=hpart
     rcases List.mem_append.1 hcm with h7 | h7
     ·exact h9 c h7 _ List.mem_cons_self b hb hB
     ·exact h8 c h7 b hB hb
  ·rcases hq with hq | hq
   ·exact(h.new q hq).imp_right fun h'=>⟨h'.1,h'.2.keep (h.sh.below.block q (.inr hq))⟩
   ·exact .inr ⟨fun hR=>(hnew q hq).1 (.inl hR),(h.sh.ok _ hmem).cells rfl hq⟩
  ·rw[h2]at hc
   rcases List.mem_append.1 hc with hc | hc
   ·exact List.mem_append_left _ hc
   ·rcases List.mem_cons.1 hc with hc | hc
    ·rw[hc]at hcel; cases hcel
    ·exact List.mem_append_right _ hc
 ·cases hf
/-! ### Forgetting -/
inductive SubL (L:Sl):Sl->Prop where
 | nil:SubL L []
 | cons {k:Nat} {v:SV} {L':Sl} (hk:lk L k=some v) (h:SubL L L'):SubL L ((k,v) :: L')
inductive SubH (h:Hp):Hp->Prop where
 | nil:SubH h []
 | cons {k:Nat} {b:Blk} {h':Hp} (hk:lk h k=some b) (hn:lk h' k=none) (hr:SubH h h'):SubH h ((k,b) :: h')
theorem SubL.look{L L':Sl} (h:SubL L L'):∀ s v,lk L' s=some v->lk L s=some v:=by
 induction h with
 | nil=>intro s v h; cases h
 | cons hk _ ih=>
  intro s v h;rw[zu]at h
  split at h
  ·rename_i e; subst e; cases h; exact hk
  ·exact ih s v h
def eraseH(id:Nat):Hp->Hp
 | []=>[]
 | (k,b) :: r=>match Nat.beq k id with
  | true=>r
  | false=>(k,b) :: eraseH id r
theorem HR.erase{id:Nat}:∀ {l:Hp} {H:List Ck} {b:Blk},HR env B w l H->lk l id=some b->∃ c H2,BR env B w id b c/\H.Perm (c :: H2)/\HR env B w (eraseH id l) H2
 | [],_,_,_,h=>by cases h
 | (k,b') :: l,H,b,⟨c,H',e,h1,h2⟩,h=>by
  rw[zu]at h;subst e
  split at h
  ·rename_i e
   subst e;cases h;refine⟨c,H',h1,List.Perm.refl _,?_⟩;unfold eraseH;rw[Nat.beq_refl];exact h2
  ·rename_i e
   obtain⟨c',H2,h3,h4,h5⟩:=HR.erase h2 h;have hk:Nat.beq k id=false:=by
    cases hb:Nat.beq k id with
    | false=>rfl
    | true=>exact absurd (Nat.eq_of_beq_eq_true hb).symm e
   refine⟨c',c :: H2,h3,(List.Perm.cons _ h4).trans (List.Perm.swap _ _ _),?_⟩;unfold eraseH;rw[hk];exact⟨c,H2,rfl,h1,h5⟩
theorem lk_erase{id k:Nat} (hk:k≠id):∀ {l:Hp},lk (eraseH id l) k=lk l k
 | []=>rfl
 | (j,b) :: l=>by
  unfold eraseH
  split
  ·rename_i h
   have:j=id:=Nat.eq_of_beq_eq_true h
   subst this;rw[zu,if_neg hk]
  ·rw[zu,zu,lk_erase hk]
theorem SubH.sel{l l':Hp} (hs:SubH l l'):∀ {H:List Ck},HR env B w l H->∃ H' Y,H.Perm (H'++Y)/\HR env B w l' H':=by
 have key:∀ {l l':Hp},(∀ k b,lk l' k=some b->lk l k=some b)->(∀ (p:Nat×Blk) (Y Z:Hp),l'=Y++p :: Z->lk Z p.1=none)->∀ {H:List Ck},HR env B w l H->∃ H' Y,H.Perm (H'++Y)/\HR env B w l' H':=by
  intro l l'
  induction l' generalizing l with
  | nil=>intro _ _ H h; exact⟨[],H,List.Perm.refl _,rfl⟩
  | cons p r ih=>
   obtain⟨k,b⟩:=p;intro h1 h2 H h;have hk:=h1 k b (by rw[zu,if_pos rfl]);have hn:=h2 (k,b) [] r rfl;obtain⟨c,H2,h3,h4,h5⟩:=h.erase hk;obtain⟨H',Y,h6,h7⟩:=ih (l:=eraseH k l) (fun j b' hj=>by
    have hne:j≠k:=fun e=>by subst e; rw[hn]at hj; cases hj
    rw[lk_erase hne];exact h1 j b' (by rw[zu,if_neg hne]; exact hj)) (fun p Y Z e=>h2 p ((k,b) :: Y) Z (by rw[e]; rfl)) h5
   exact⟨c :: H',Y,h4.trans (List.Perm.cons _ h6),c,H',rfl,h3,h7⟩
 intro H h;refine key (l:=l) (l':=l') ?_ ?_ h
 ·clear h
  induction hs with
  | nil=>intro k b h; cases h
  | cons hk _ _ ih=>
   intro j b' h;rw[zu]at h
   split at h
   ·rename_i e; subst e; cases h; exact hk
   ·exact ih j b' h
 ·clear h
  induction hs with
  | nil=>intro p Y Z e; cases Y<;>cases e
  | cons _ hn _ ih=>
   intro p Y Z e;cases Y with
   | nil=>cases e; exact hn
   | cons q Y=>cases e; exact ih p Y Z rfl
theorem AI.weak(h:AI X R W Bi n ks env B w0 H st a w) {st':ASt} (hL:SubL st.L st'.L) (hH:SubH st.H st'.H):∃ H',AI X R W Bi n ks env B w0 H' st' a w:=by
 obtain⟨H',Y,h1,h2⟩:=hH.sel h.heap;refine⟨H',h.size,h.defs,fun s u hu=>h.has s u (hL.look s u hu),h2,?_,h.sub,h.new,h.pin,h.base,h.glob⟩;have hp:(H++ks.map qW).Perm ((H'++ks.map qW)++Y):=by
  refine(h1.append_right _).trans ?_;rw[List.append_assoc,List.append_assoc];exact(List.perm_append_comm).append_left _
 exact(h.sh.perm hp).weak (List.sublist_append_left _ _)
theorem AI.nilRow(h:AI X R W Bi n ks env B w0 H st a w) {s id:Nat} {t:TypeId} {g:GTy} (hid:∀ q,¬ Bi.p id q) (hs:lk st.L s=some (.c (.val (.slice none 0 0)))):∃ env' H',AI X R W Bi n ks env' B w0 H' ⟨(s,.c (.sl id)) :: qb id .dead st.L,(id,.row t g [] none) :: zM id .dead st.H⟩ a w:=by
 obtain⟨H2,h1,h2⟩:=h.heap.del (z:=.dead) (zC (env:=env) (id:=id) (l:=.row none 0 0)) (fun _ _=>trivial);obtain⟨v,h3,h4⟩:=h.has _ _ hs;refine⟨upd env id (.row none 0 0),.row none 0 t g.size 0 [] :: H2,h.size,h.defs,fun q u hu=>?_,⟨_,H2,rfl,⟨none,0,[],zf,rfl,rfl,fun _ hq=>by cases hq⟩,h2⟩,(h.sh.nilRow t g.size).weak ((h1.append_right _).cons_cons _),h.sub,h.new,pin_upd h.pin hid,h.base,h.glob⟩;rw[zu]at hu
 split at hu
 ·rename_i e; subst e; cases hu; exact⟨v,h3,none,0,0,zf,h4⟩
 ·obtain⟨u0,hu0,rfl⟩:=qF hu
  obtain⟨u',h6,h7⟩:=h.has q u0 hu0;exact⟨u',h6,VR.sub (z:=.dead) zC (fun _ _=>trivial) h7⟩
end
end

section
inductive Res where
 | ok (c:Bool) (st:ASt)
 | stop
def aeff(X:Cx) (n:Nat) (st:ASt) (d:Option Nat):Op->Option (Bool×ASt)
 | .alloc t=>match d,X.tt.find t with
  | some d,some te=>abox X n st t d (scs te.ti.zero.cells.toList)
  | _,_=>none
 | .box t u=>match d,ae X st.L u with
  | some d,some (g,x)=>match lives x.cells,abox X n st t d x.cells with
   | true,some (c,st')=>some (g&&c,st')
   | _,_=>none
  | _,_=>none
 | .store t u v=>match d,ae X st.L u,ae X st.L v with
  | none,some (g,x),some (g',y)=>match astore X st t x y with
   | some (c,st')=>some (g&&g'&&c,st')
   | none=>none
  | _,_,_=>none
 | .buildSlice t N ps=>match d with
  | some d=>abuildSlice X n st t N ps.toList d
  | none=>none
 | .makeSlice t u v=>match d,ae X st.L u,ae X st.L v with
  | some d,some (g,x),some (g',y)=>match amakeSlice X n st t x y d with
   | some (c,st')=>some (g&&g'&&c,st')
   | none=>none
  | _,_,_=>none
 | .call ⟨.builtin .append,⟨[u,v]⟩,⟨[t,t']⟩⟩=>match d,Nat.beq t t',ae X st.L u,ae X st.L v with
  | some d,true,some (g,x),some (g',y)=>match aappend X n st t x y d with
   | some (c,st')=>some (g&&g'&&c,st')
   | none=>none
  | _,_,_,_=>none
 | _=>none
def agrd(X:Cx) (n:Nat) (L:Sl) (H:Hp) (o:Oper) (g:Bool):Res:=
 match apure X ⟨L,H⟩ o.op,o.dst with
 | some (c,sa),some d=>match Nat.blt d n with
  | true=>.ok (!g || c) ⟨(d,.may g sa) :: L,H⟩
  | false=>.stop
 | _,_=>.stop
def tupMv(L:Sl):Op->Option (List SA)
 | .move (.tmp s)=>match lk L s with
  | some (.tup xs)=>some xs
  | _=>none
 | .assign (.tmp s)=>match lk L s with
  | some (.tup xs)=>some xs
  | _=>none
 | _=>none
def astep(X:Cx) (n:Nat) (dsts:List (Option Nat)):ASt->Oper->Res
 | ⟨L,H⟩,o=>match o.guard with
  | none=>match apure X ⟨L,H⟩ o.op with
   | some (c,sa)=>match o.dst with
    | some d=>match Nat.blt d n with
     | true=>.ok c ⟨(d,.a sa) :: L,H⟩
     | false=>.stop
    | none=>.stop
   | none=>match tupMv L o.op with
    | some xs=>match o.dst with
     | some d=>match Nat.blt d n with
      | true=>.ok true ⟨(d,.tup xs) :: L,H⟩
      | false=>.stop
     | none=>.stop
    | none=>match aeff X n ⟨L,H⟩ o.dst o.op with
     | some (c,st')=>.ok c st'
     | none=>.stop
  | some (j,want)=>match nth dsts j with
   | some (some s)=>match lk L s,want with
    | some (.a (.c (.val (.bool b)))),true=>agrd X n L H o b
    | some (.a (.c (.val (.bool b)))),false=>agrd X n L H o (!b)
    | some (.may g (.c (.val (.bool b)))),true=>agrd X n L H o (g&&b)
    | some (.may g (.c (.val (.bool b)))),false=>agrd X n L H o (g&&!b)
    | _,_=>.stop
   | _=>.stop
def zm(l:List Oper):List (Option Nat):=l.map (·.dst)
section
variable {X:Cx} {R:Nat->Prop} {W:World} {Bi:Bk} {n:Nat} {ks:List Nat} {env:Nat->Loc} {B:Nat->Prop} {w0:World} {H:List Ck} {st st':ASt} {a a':Act} {w w':World} {o:Oper} {d:Nat}
theorem aeff_ok(hX:X.tt.ok X.P) {c:Bool} (hgd:o.guard=none) (hb:aeff X n st o.dst o.op=some (c,st')) (hc:c=true):EffOk X n st o st':=by
 unfold aeff at hb
 split at hb
 ·rename_i t hop
  split at hb
  ·rename_i d te hd hte
   exact alloc_ok hX hop hgd hd hte hb
  ·cases hb
 ·rename_i t u hop
  split at hb
  ·rename_i d g x hd hu
   split at hb
   ·rename_i c' st2 hl h2
    cases hb;simp only[Bool.and_eq_true]at hc;exact box_ok hop hgd hd hu hc.1 hl h2
   ·cases hb
  ·cases hb
 ·rename_i t u v hop
  split at hb
  ·rename_i g x g' y hd hu hv
   split at hb
   ·rename_i c' st2 h2
    cases hb;simp only[Bool.and_eq_true]at hc;exact store_ok hX hop hgd hd hu hc.1.1 hv hc.1.2 h2 hc.2
   ·cases hb
  ·cases hb
 ·rename_i t N ps hop
  split at hb
  ·rename_i d hd
   exact buildSlice_ok hX hop hgd hd hb hc
  ·cases hb
 ·rename_i t u v hop
  split at hb
  ·rename_i d g x g' y hd hu hv
   split at hb
   ·rename_i c' st2 h2
    cases hb;simp only[Bool.and_eq_true]at hc;exact makeSlice_ok hX hop hgd hd hu hc.1.1 hv hc.1.2 h2 hc.2
   ·cases hb
  ·cases hb
 ·rename_i u v t t' hop
  split at hb
  ·rename_i d g x g' y hd ht hu hv
   split at hb
   ·rename_i c' st2 h2
    cases hb;simp only[Bool.and_eq_true]at hc;have ht':=Nat.eq_of_beq_eq_true ht;subst ht';intro R W Bi ks env B w0 H a w ops KK h hK;exact append_ok hX hop hgd hd hu hc.1.1 hv hc.1.2 h2 hc.2 ops KK h hK
   ·cases hb
  ·cases hb
 ·cases hb
theorem pure_guard(h:AI X R W Bi n ks env B w0 H st a w) {ops:Array Oper} {KK:Act->World->Prop} {sa:SA} {g:Bool} (hp:g=true->PureOk X st o sa) (hw:Region.wanted o (yielded ops a.tmps)=g) (hdst:o.dst=some d) (hd:Nat.blt d n=true)
  (hK:∀ a' w' env' H',Eff o st H w H' w'->AI X R W Bi n ks env' B w0 H' ⟨(d,.may g sa) :: st.L,st.H⟩ a' w'->KK a' w'):XO X.P ops o KK a w:=by
 have put:∀ v,St n (dfs ks Bi) ((d,v) :: qL a) (a.put o.dst v):=fun v=>by rw[hdst]; exact h.stt.put d v (zk hd)
 cases g with
 | true=>
  obtain⟨v,h1,h2⟩:=hp rfl h;exact .inl ⟨hw,.inl ⟨v,w,h2 w (fun _=>h.sh),hK _ _ _ _ ⟨fun _=>Below.refl _ _,fun _ _ c hc _=>hc,fun _ _ c hc=>hc⟩ (h.set ⟨fun _=>h1,fun h=>by cases h⟩ (put v))⟩⟩
 | false=>exact .inr ⟨hw,hK _ _ _ _ ⟨fun _=>Below.refl _ _,fun _ _ c hc _=>hc,fun _ _ c hc=>hc⟩ (h.set ⟨(fun h=>by cases h),fun _=>rfl⟩ (put undef))⟩
theorem nth_map{α β:Type} {f:α->β}:∀ {l:List α} {k:Nat} {y:β},nth (l.map f) k=some y->∃ x,l[k]?=some x/\y=f x
 | [],_,_,h=>by cases h
 | x :: _,0,_,h=>by cases h; exact⟨x,rfl,rfl⟩
 | _ :: r,k+1,_,h=>by obtain⟨x,h1,h2⟩:=nth_map (l:=r) h; exact⟨x,by rw[List.getElem?_cons_succ]; exact h1,h2⟩
theorem agrd_ok(hX:X.tt.ok X.P) {ops:Array Oper} {c g:Bool} (hs:agrd X n st.L st.H o g=.ok c st') (hc:c=true) (h:AI X R W Bi n ks env B w0 H st a w) (hw:Region.wanted o (yielded ops a.tmps)=g) {KK:Act->World->Prop}
  (hK:∀ a' w' env' H',Eff o st H w H' w'->AI X R W Bi n ks env' B w0 H' st' a' w'->KK a' w'):XO X.P ops o KK a w:=by
 unfold agrd at hs
 split at hs
 ·rename_i c' sa d hp hdst
  split at hs
  ·rename_i hd
   cases hs;exact pure_guard h (g:=g) (fun hg=>apure_ok (st:=st) hX hp (by rw[hg]at hc; simpa using hc)) hw hdst hd hK
  ·cases hs
 ·cases hs
theorem tupMv_ok(h:AI X R W Bi n ks env B w0 H st a w) {xs:List SA} (hm:tupMv st.L o.op=some xs):∃ v,VR env B w0 (.tup xs) v/\∀ w,(execOp a.eval o).run X.P w=.ok (.value v) w:=by
 unfold tupMv at hm
 split at hm
 ·rename_i s hop
  split at hm
  ·rename_i ys hlk
   cases hm;obtain⟨v,h1,h2⟩:=h.has _ _ hlk;exact⟨v,h2,p_move h.stt hop (zt h1)⟩
  ·cases hm
 ·rename_i s hop
  split at hm
  ·rename_i ys hlk
   cases hm;obtain⟨v,h1,h2⟩:=h.has _ _ hlk;exact⟨v,h2,p_assign h.stt hop (zt h1)⟩
  ·cases hm
 ·cases hm
theorem astep_ok(hX:X.tt.ok X.P) {l:List Oper} {c:Bool} (hs:astep X n (zm l) st o=.ok c st') (hc:c=true) (h:AI X R W Bi n ks env B w0 H st a w) {KK:Act->World->Prop}
  (hK:∀ a' w' env' H',Eff o st H w H' w'->AI X R W Bi n ks env' B w0 H' st' a' w'->KK a' w'):XO X.P l.toArray o KK a w:=by
 obtain⟨L,HH⟩:=st;simp only[astep]at hs
 split at hs
 ·rename_i hgd
  split at hs
  ·rename_i c' sa hp
   split at hs
   ·rename_i d hdst
    split at hs
    ·rename_i hd
     cases hs;obtain⟨v,h1,h2⟩:=apure_ok hX hp hc h;exact zJ h.stt hgd hdst (zk hd) (h2 w (fun _=>h.sh)) fun a' hS=>hK _ _ _ _ ⟨fun _=>Below.refl _ _,fun _ _ c hc _=>hc,fun _ _ c hc=>hc⟩ (h.set h1 hS)
    ·cases hs
   ·cases hs
  ·split at hs
   ·rename_i xs hm
    split at hs
    ·rename_i d hdst
     split at hs
     ·rename_i hd
      cases hs;obtain⟨v,h1,h2⟩:=tupMv_ok h hm;exact zJ h.stt hgd hdst (zk hd) (h2 w) fun a' hS=>hK _ _ _ _ ⟨fun _=>Below.refl _ _,fun _ _ c hc _=>hc,fun _ _ c hc=>hc⟩ (h.set h1 hS)
     ·cases hs
    ·cases hs
   ·split at hs
    ·rename_i c' st2 he
     cases hs;exact aeff_ok hX hgd he hc _ _ h hK
    ·cases hs
 ·rename_i j want hgd
  split at hs
  ·rename_i s hj
   obtain⟨oj,hoj,hsj⟩:=nth_map hj;have hj':(l.toArray[j]?).bind (·.dst)=some s:=by simp[hoj,<- hsj]
   split at hs
   ·rename_i b hlk
    obtain⟨v,h1,h2⟩:=h.has _ _ hlk;rw[show v=_ from h2]at h1;refine agrd_ok (st:=⟨L,HH⟩) hX hs hc h ?_ hK;rw[xh h.sym hgd hj' (zt h1)];cases b<;>rfl
   ·rename_i b hlk
    obtain⟨v,h1,h2⟩:=h.has _ _ hlk;rw[show v=_ from h2]at h1;refine agrd_ok (st:=⟨L,HH⟩) hX hs hc h ?_ hK;rw[xh h.sym hgd hj' (zt h1)];cases b<;>rfl
   ·rename_i g b hlk
    obtain⟨v,h1,h2,h3⟩:=h.has _ _ hlk;refine agrd_ok (st:=⟨L,HH⟩) hX hs hc h ?_ hK;cases g with
    | true=>
     rw[show v=_ from h2 rfl]at h1;rw[xh h.sym hgd hj' (zt h1)];cases b<;>rfl
    | false=>
     rw[h3 rfl]at h1;rw[unwanted_of h.sym hgd hj' (zt h1)]
     rfl
   ·rename_i g b hlk
    obtain⟨v,h1,h2,h3⟩:=h.has _ _ hlk;refine agrd_ok (st:=⟨L,HH⟩) hX hs hc h ?_ hK;cases g with
    | true=>
     rw[show v=_ from h2 rfl]at h1;rw[xh h.sym hgd hj' (zt h1)];cases b<;>rfl
    | false=>
     rw[h3 rfl]at h1;rw[unwanted_of h.sym hgd hj' (zt h1)]
     rfl
   ·cases hs
  ·cases hs
end
def liftQ(X:Cx) (R:Nat->Prop) (W:World) (Bi:Bk) (M:Bool) (n:Nat) (Q:Exit->ASt->Prop):Exit->Act->World->Prop:=fun e a w=>∃ st,Q e st/\AR X R W Bi M n st a w
def AX(X:Cx) (M:Bool) (n:Nat) (r:Option Nat) (c:Code) (st:ASt) (Q:Exit->ASt->Prop):Prop:=
 ∀ R W Bi a w,AR X R W Bi M n st a w->XC r X.P c (liftQ X R W Bi M n Q) a w
section
variable {X:Cx} {M:Bool} {n:Nat} {r:Option Nat} {st st':ASt} {Q Q':Exit->ASt->Prop} {c1 c2 c:Code} {ops l l':List Oper}
theorem ax_mono(h:AX X M n r c st Q) (hq:∀ e st,Q e st->Q' e st):AX X M n r c st Q':=fun R W Bi a w hA=>wpIn_mono (h R W Bi a w hA) fun e a w ⟨st,h1,h2⟩=>⟨st,hq e st h1,h2⟩
theorem ax_skip(h:Q .normal st):AX X M n r .skip st Q:=fun R W Bi a w hA=>c_skip ⟨st,h,hA⟩
theorem ax_exit{id:Nat} (h:Q (.exit id) st):AX X M n r (.exit id) st Q:=fun R W Bi a w hA=>c_exit ⟨st,h,hA⟩
theorem ax_ret(h:Q .ret st):AX X M n r .ret st Q:=fun R W Bi a w hA=>c_ret ⟨st,h,hA⟩
def Wk(X:Cx) (n:Nat) (st st':ASt):Prop:=∀ R W Bi M a w,AR X R W Bi M n st a w->AR X R W Bi M n st' a w
theorem Wk.refl(st:ASt):Wk X n st st:=fun _ _ _ _ _ _ h=>h
theorem Wk.trans{a b c:ASt} (h:Wk X n a b) (k:Wk X n b c):Wk X n a c:=fun _ _ _ _ _ _ hA=>k _ _ _ _ _ _ (h _ _ _ _ _ _ hA)
theorem Wk.sub(hL:SubL st.L st'.L) (hH:SubH st.H st'.H):Wk X n st st':=fun _ _ _ _ _ _ ⟨ks,env,B,w0,H,hM,hA⟩=>by
 obtain⟨H',h⟩:=hA.weak hL hH;exact⟨ks,env,B,w0,H',hM,h⟩
def pickL(L:Sl):List Nat->Option Sl
 | []=>some []
 | k :: ks=>match lk L k,pickL L ks with
  | some v,some r=>some ((k,v) :: r)
  | _,_=>none
def pickH(h:Hp):List Nat->Option Hp
 | []=>some []
 | k :: ks=>match lk h k,pickH h ks with
  | some b,some r=>match lk r k with
   | none=>some ((k,b) :: r)
   | some _=>none
  | _,_=>none
theorem pickL_ok{L:Sl}:∀ {ks:List Nat} {L':Sl},pickL L ks=some L'->SubL L L'
 | [],_,h=>by cases h; exact .nil
 | k :: ks,L',h=>by
  unfold pickL at h
  split at h
  ·rename_i v r h1 h2
   cases h;exact .cons h1 (pickL_ok h2)
  ·cases h
theorem pickH_ok{h0:Hp}:∀ {ks:List Nat} {h':Hp},pickH h0 ks=some h'->SubH h0 h'
 | [],_,h=>by cases h; exact .nil
 | k :: ks,h',h=>by
  unfold pickH at h
  split at h
  ·rename_i b r h1 h2
   split at h
   ·rename_i h3
    cases h;exact .cons h1 h3 (pickH_ok h2)
   ·cases h
  ·cases h
theorem Wk.pick(ks hs:List Nat) {L':Sl} {H':Hp} (h1:pickL st.L ks=some L') (h2:pickH st.H hs=some H'):Wk X n st ⟨L',H'⟩:=Wk.sub (pickL_ok h1) (pickH_ok h2)
theorem Wk.frz{id:Nat} (h:frz id st=some st'):Wk X n st st':=fun _ _ _ _ _ _ ⟨ks,env,B,w0,H,hM,hA⟩=>by
 obtain⟨env',B',w0',H',h,_⟩:=hA.frz h;exact⟨ks,env',B',w0',H',hM,h⟩
theorem Wk.nil(s id:Nat) (t:TypeId) (g:GTy) (hid:Nat.blt id n=true) (hs:lk st.L s=some (.c (.val (.slice none 0 0)))):Wk X n st ⟨(s,.c (.sl id)) :: qb id .dead st.L,(id,.row t g [] none) :: zM id .dead st.H⟩:=fun _ _ _ _ _ _ ⟨ks,env,B,w0,H,hM,hA⟩=>by
 obtain⟨env',H',h⟩:=hA.nilRow (s:=s) (id:=id) (t:=t) (g:=g) (fun q hp=>by have h1:=(hA.pin _ _ hp).1; have h2:=zk hid; omega) hs;exact⟨ks,env',B,w0,H',hM,h⟩
end
end

section
def GlobOk(X:Cx) (B:Nat->Prop) (w:World):Prop:=∀ i x,X.gl i=some x->GR B w i x
def ACpost(X:Cx) (env:Nat->Loc) (B:Nat->Prop) (H:List Ck) (W:World) (Q:SV->Hp->Prop) (v:Value) (w':World):Prop:=
 ∃ env' B' w0' H' sv h',Q sv h'/\(∀ k,B k->B' k)/\(∀ k,B' k->B k\/(¬ Rest W H k/\IsC w0' k))/\KO (Rest W H) W w0'/\VR env' B' w0' sv v/\HR env' B' w0' h' H'/\SH (fun k=>Rest W H k\/B' k) w0' H' w'/\∀ id l,(zU<=id/\∃ b,l=.blk b)\/zP<=id->env id=l->env' id=l
def AC(X:Cx) (f:FuncId) (args:List SA) (h:Hp) (Q:SV->Hp->Prop):Prop:=
 ∀ (B:Nat->Prop) (w0:World) (env:Nat->Loc) (vs:List Value) (H:List Ck) (W:World),GlobOk X B w0->SasR env B w0 args vs->HR env B w0 h H->SH B w0 H W->Ret X.P f vs.toArray W (ACpost X env B H W Q)
def ares1(X:Cx) (st:ASt):ResultVar->Option (Bool×SA)
 | .tmp s=>ae X st.L (.tmp s)
 | .cell s t=>match ae X st.L (.tmp s)with
  | some (g,.c (.ptr id 0))=>match aload X st t (.c (.ptr id 0))with
   | some (c,x)=>some (g&&c,x)
   | none=>none
  | _=>none
def aress(X:Cx) (st:ASt):List ResultVar->Option (Bool×List SA)
 | []=>some (true,[])
 | r :: l=>match ares1 X st r,aress X st l with
  | some (c,x),some (c',xs)=>some (c&&c',x :: xs)
  | _,_=>none
def ares(X:Cx) (st:ASt) (l:List ResultVar):Option (Bool×SV):=
 match aress X st l with
 | some (c,[x])=>some (c,.a x)
 | some (c,xs)=>some (c,.tup xs)
 | none=>none
def argL:Nat->List SA->Sl
 | _,[]=>[]
 | k,x :: r=>(k,.a x) :: argL (k+1) r
section
variable {X:Cx} {R:Nat->Prop} {W:World} {Bi:Bk} {n:Nat} {ks:List Nat} {env:Nat->Loc} {B:Nat->Prop} {w0:World} {H:List Ck} {st st':ASt} {a a':Act} {w w':World}
theorem SasR.length:∀ {xs:List SA} {vs:List Value},SasR env B w xs vs->vs.length=xs.length
 | [],_,h=>by rw[show _=[] from h]; rfl
 | _ :: _,_,⟨v,r,e,_,h2⟩=>by rw[e,List.length_cons,List.length_cons,SasR.length h2]
theorem argL_ok:∀ {xs:List SA} {vs:List Value} {k s:Nat} {sv:SV},SasR env B w xs vs->lk (argL k xs) s=some sv->k<=s/\∃ v,vs[s - k]?=some v/\VR env B w sv v
 | [],_,_,_,_,_,h=>by cases h
 | x :: xs,vs,k,s,sv,⟨v,r,e,h1,h2⟩,h=>by
  unfold argL at h;rw[zu]at h;subst e
  split at h
  ·rename_i e
   subst e;cases h;exact⟨Nat.le_refl _,v,by simp,h1⟩
  ·obtain⟨h3,u,h4,h5⟩:=argL_ok h2 h
   exact⟨by omega,u,by rw[show s - k=(s - (k+1))+1 by omega,List.getElem?_cons_succ]; exact h4,h5⟩
def rdRes(tmps:Array Value):ResultVar->Sem Value
 | .tmp t=>pure (tmps.getD t undef)
 | .cell s t=>do loadVar t (<- asAddr (tmps.getD s undef))
theorem results_eq(fn:Func) (tmps:Array Value):results fn tmps=(do let vs <- fn.results.mapM (rdRes tmps); pure (if h:vs.size=1 then vs[0] else .tuple vs)):=by
 unfold results
 congr 1
theorem ares1_ok(hX:X.tt.ok X.P) (h:AI X R W Bi n ks env B w0 H st a w) {r:ResultVar} {c:Bool} {x:SA} (hr:ares1 X st r=some (c,x)) (hc:c=true) :
  ∃ v,SaR env B w0 x v/\∀ w,SH (fun k=>R k\/B k) w0 (H++ks.map qW) w->(rdRes a.tmps r).run X.P w=.ok v w:=by
 cases r with
 | tmp s=>
  obtain⟨v,h1,h2⟩:=h.ev (x:=.tmp s) hr hc;refine⟨v,h2,fun w _=>?_⟩
  have:=h.stt.ev h1
  show(pure (a.eval (.tmp s)):Sem Value).run X.P w=_;rw[this]
  rfl
 | cell s t=>
  simp only[ares1]at hr
  split at hr
  ·rename_i g id hs
   split at hr
   ·rename_i c' y hl
    cases hr;simp only[Bool.and_eq_true]at hc;obtain⟨v,h1,b,he,rfl⟩:=h.ev hs hc.1;have h2:=h.stt.ev h1
    obtain ⟨u, h3, h4⟩ := aload_ok (o := { dst := none, op := .load t (.tmp s), type := 0, pos := "", after := #[], guard := none }) hX rfl hs hc.1 (by rw [hc.2] at hl; exact hl) h
    refine⟨u,h3,fun w hw=>?_⟩;have h5:=h4 w (fun _=>hw);have h6:a.tmps.getD s undef=.pointer (some ⟨b,0,none⟩):=h2;simp only[execOp,h2,Instr.loadAt,Instr.sureAddr]at h5;simp only[rdRes,h6,asAddr];simp only[Sem.run_bind,Sem.run_pure,Result.andThen_ok]at h5 ⊢;cases hq:(loadVar t ⟨b,0,none⟩).run X.P w with
    | ok q w2=>
     rw[hq]at h5;simp only[Result.andThen_ok]at h5;cases h5
     rfl
    | halt q w2=>rw[hq]at h5; simp[Result.andThen]at h5
   ·cases hr
  ·cases hr
theorem aress_ok(hX:X.tt.ok X.P) (h:AI X R W Bi n ks env B w0 H st a w):∀ {l:List ResultVar} {c:Bool} {xs:List SA},aress X st l=some (c,xs)->c=true ->
  ∃ vs,SasR env B w0 xs vs/\∀ w,SH (fun k=>R k\/B k) w0 (H++ks.map qW) w->(l.mapM (rdRes a.tmps)).run X.P w=.ok vs w
 | [],c,xs,hr,_=>by cases hr; exact⟨[],rfl,fun w _=>by simp⟩
 | r :: l,c,xs,hr,hc=>by
  simp only[aress]at hr
  split at hr
  ·rename_i c1 x c2 ys h1 h2
   cases hr;simp only[Bool.and_eq_true]at hc;obtain⟨v,h3,h4⟩:=ares1_ok hX h h1 hc.1;obtain⟨vs,h5,h6⟩:=aress_ok hX h h2 hc.2;refine⟨v :: vs,⟨v,vs,rfl,h3,h5⟩,fun w hw=>?_⟩;rw[List.mapM_cons];simp only[Sem.run_bind,h4 w hw,Result.andThen_ok,h6 w hw,Sem.run_pure]
  ·cases hr
theorem ares_ok(hX:X.tt.ok X.P) (h:AI X R W Bi n ks env B w0 H st a w) {fn:Func} {l:List ResultVar} {c:Bool} {sv:SV} (hf:fn.results=l.toArray) (hr:ares X st l=some (c,sv)) (hc:c=true) :
  ∃ v,VR env B w0 sv v/\∀ w,SH (fun k=>R k\/B k) w0 (H++ks.map qW) w->(results fn a.tmps).run X.P w=.ok v w:=by
 unfold ares at hr
 split at hr
 ·rename_i c' x h1
  cases hr;obtain⟨vs,h2,h3⟩:=aress_ok hX h h1 hc;obtain⟨v,r,rfl,h4,h5⟩:=h2
  have:r=[]:=h5
  subst this;refine⟨v,h4,fun w hw=>?_⟩;rw[results_eq,hf]
  have:=h3 w hw
  simp[this]
 ·rename_i c' xs hne h1
  cases hr;obtain⟨vs,h2,h3⟩:=aress_ok hX h h1 hc;refine⟨.tuple vs.toArray,⟨vs,rfl,h2⟩,fun w hw=>?_⟩;rw[results_eq,hf];have hl:=h2.length
  have:¬ vs.length=1:=fun e=>by
   rw[e]at hl
   match xs,hl,hne with
   | [x],_,hne=>exact hne x rfl
  simp[h3 w hw,this]
 ·cases hr
end
end
end Go.Proofs.YtldjgdggcodgeaaGreat
