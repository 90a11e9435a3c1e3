/- Part 4 of 6 of the proof. -/
import Derived.Test.YtldjgdggcodgeaaGreatPe3
import Derived.Shelf.Strings.Builder1
set_option linter.unusedSimpArgs false
set_option linter.unusedVariables false
set_option maxRecDepth 100000
namespace Go.Proofs.YtldjgdggcodgeaaGreat
open Go.RowKit
section
structure hX(X:bq) (M:Bool) (n:Nat) (rr:Option Nat) (ρ:Type) where
 In:ρ->aM->Act->World->Prop
 frame:∀ {c:Code} {st:aM} {Q:Exit->aM->Prop} {r:ρ} {a:Act} {w:World},mg X M n rr c st Q->In r st a w->kv rr X.P c (fun e a w=>∃ s,Q e s/\In r s a w) a w
 step:∀ {ops:List Oper} {o:Oper} {st st':aM} {r:ρ} {a:Act} {w:World},yD X n ops o st st'->In r st a w->∀ {KK:Act->World->Prop},(∀ a w,In r st' a w->KK a w)->eW X.P ops.toArray o KK a w
 en:∀ {st st':aM} {r:ρ} {a:Act} {w:World},hL X M n st st'->In r st a w->In r st' a w
 y2:∀ {st:aM} {r:ρ} {a:Act} {w:World},In r st a w->∃ R W aD ks env B ai H,bI X R W aD n ks env B ai H st a w
variable {X:bq} {M:Bool} {n:Nat} {rr:Option Nat} {ρ:Type}
def hX.vS(R:Nat->Prop) (W:World) (aD:eT) (ek:ρ):hX X M n rr ρ where
 In r st a w:=r=ek/\lL X R W aD M n st a w
 frame h hi:=wpIn_mono (h R W aD _ _ hi.2) fun _ _ _ ⟨s,J,U⟩=>⟨s,J,hi.1,U⟩
 step h hi KK bZ:=by
  obtain⟨h0,ks,env,B,ai,H,cp,al⟩:=hi;exact h R W aD ks env B ai H _ _ al _ fun aW w' env' B' cJ H' b7=>bZ _ _ ⟨h0,ks,env',B',cJ,H',cp,b7⟩
 en h hi:=⟨hi.1,h _ _ _ _ _ hi.2⟩
 y2 hi:=by
  obtain⟨_,ks,env,B,ai,H,_,al⟩:=hi;exact⟨_,_,_,_,_,_,_,_,al⟩
def hX.const{bA:Type} (Γ:hX X M n rr ρ) (r:ρ) (d0:bA):hX X M n rr bA where
 In d st a w:=d=d0/\Γ.In r st a w
 frame h hi:=wpIn_mono (Γ.frame h hi.2) fun _ _ _ ⟨s,J,U⟩=>⟨s,J,hi.1,U⟩
 step h hi KK bZ:=Γ.step h hi.2 fun a w h=>bZ a w ⟨hi.1,h⟩
 en h hi:=⟨hi.1,Γ.en h hi.2⟩
 y2 hi:=Γ.y2 hi.2
def iI(Γ:hX X M n rr ρ) (c:Code) (r:ρ) (st:aM) (Q:Exit->aM->ρ->Prop):Prop:=∀ a w,Γ.In r st a w->kv rr X.P c (fun e a w=>∃ s cv,Q e s cv/\Γ.In cv s a w) a w
section
variable {Γ:hX X M n rr ρ} {c ft cR:Code} {r:ρ} {st st':aM} {Q xG:Exit->aM->ρ->Prop}
theorem vT{Q:Exit->aM->Prop} (h:mg X M n rr c st Q):iI Γ c r st (fun e s cv=>Q e s/\cv=r):=fun a w hi=>wpIn_mono (Γ.frame h hi) fun _ _ _ ⟨s,J,U⟩=>⟨s,r,⟨J,rfl⟩,U⟩
theorem ld(h:iI Γ c r st Q) (ao:∀ e s cv,Q e s cv->xG e s cv):iI Γ c r st xG:=fun a w hi=>wpIn_mono (h a w hi) fun _ _ _ ⟨s,cv,J,U⟩=>⟨s,cv,ao _ _ _ J,U⟩
theorem Cm{bA:Type} {d0:bA} {Q:Exit->aM->bA->Prop} (h:iI (Γ.const r d0) c d0 st Q):iI Γ c r st (fun e s cv=>cv=r/\Q e s d0):=fun a w hi=>wpIn_mono (h a w ⟨rfl,hi⟩) fun _ _ _ ⟨s,d,J,U,ag⟩=>⟨s,r,⟨rfl,U ▸ J⟩,ag⟩
theorem y3(hw:hL X M n st st') (h:iI Γ c r st' Q):iI Γ c r st Q:=fun a w hi=>h a w (Γ.en hw hi)
def aas(Γ:hX X M n rr ρ) (c:Code) (Q:Exit->aM->ρ->Prop):Exit->aM->ρ->Prop
 | .normal,st,r=>iI Γ c r st Q
 | e,st,r=>Q e st r
theorem Ha(h:iI Γ ft r st (aas Γ cR Q)):iI Γ (.seq ft cR) r st Q:=fun a w hi=>by
 refine wpIn_seq (wpIn_mono (h a w hi) ?_);rintro e a w ⟨s,cv,J,U⟩;cases e with
 | normal=>exact J a w U
 | _=>exact⟨s,cv,J,U⟩
theorem aat{x:Operand} {g b:Bool} (ah:bw X st.L x=some (g,.c (.val (.bool b)))) (aV:g=true) (J:b=true->iI Γ ft r st Q) (h0:b=false->iI Γ cR r st Q):iI Γ (.cond x ft cR) r st Q:=fun a w hi=>by
 obtain⟨R,W,aD,ks,env,B,ai,H,al⟩:=Γ.y2 hi;obtain⟨v,U,ag⟩:=al.aE ah aV;rw[show v=_ from ag]at U;exact RR al.sym U (fun ae=>J ae a w hi) (fun ae=>h0 ae a w hi)
def NV(id:Nat) (Q:Exit->aM->ρ->Prop):Exit->aM->ρ->Prop
 | .exit nu,st,r=>match Nat.beq nu id with
  | true=>Q .normal st r
  | false=>Q (.exit nu) st r
 | e,st,r=>Q e st r
theorem aau{id:Nat} (h:iI Γ c r st (NV id Q)):iI Γ (.block id c) r st Q:=fun a w hi=>by
 refine RQ (wpIn_mono (h a w hi) ?_);rintro e a w ⟨s,cv,J,U⟩;cases e with
 | exit nu=>
  simp only[NV]at J
  split at J
  ·rename_i ae
   have:=Nat.eq_of_beq_eq_true ae
   subst this;simp only[Exit.inBlock,if_true];exact⟨s,cv,J,U⟩
  ·rename_i ae
   have cG:nu≠id:=Nat.ne_of_beq_eq_false ae;simp only[Exit.inBlock,if_neg cG];exact⟨s,cv,J,U⟩
 | _=>exact⟨s,cv,J,U⟩
def aav(Q:Exit->aM->ρ->Prop):Exit->aM->ρ->Prop
 | .goto _,_,_=>False
 | e,st,r=>Q e st r
theorem aaw(h:iI Γ c r st (aav Q)):iI Γ (.scope c) r st Q:=fun a w hi=>by
 refine W6 (wpIn_mono (h a w hi) ?_);rintro e a w ⟨s,cv,J,U⟩;cases e with
 | goto l=>exact J.elim
 | _=>exact⟨s,cv,J,U⟩
def aax{α:Type} (M:Bool) (n:Nat) (X:bq) (I:α->aM) (cg:α->ρ->Prop) (m:α->Nat) (x:α) (Q:Exit->aM->ρ->Prop):Exit->aM->ρ->Prop
 | .normal,st,r=>∃ y,cg y r/\m y < m x/\hL X M n st (I y)
 | e,st,r=>Q e st r
theorem Hb{α:Type} (I:α->aM) (cg:α->ρ->Prop) (m:α->Nat) (vU:α) (h0:cg vU r) (hw:hL X M n st (I vU)) (au:∀ x r,cg x r->iI Γ c r (I x) (aax M n X I cg m x Q)):iI Γ (.loop c) r st Q:=fun a w hi=>by
 refine RU (fun x a w=>∃ r,cg x r/\Γ.In r (I x) a w) m vU ⟨r,h0,Γ.en hw hi⟩ fun x a w ⟨r,y4,hi⟩=>wpIn_mono (au x r y4 a w hi) ?_
 rintro e a w ⟨s,cv,J,U⟩;cases e with
 | normal=>
  obtain⟨y,ag,ay,aO⟩:=J;exact⟨y,⟨cv,ag,Γ.en aO U⟩,ay⟩
 | _=>exact⟨s,cv,J,U⟩
theorem Hc{c:Code} {st:aM} {Q:Exit->aM->ρ->Prop} {r:ρ} (h:∀ R W aD,iI (hX.vS (X:=X) (M:=M) (n:=n) (rr:=rr) R W aD r) c r st Q):mg X M n rr c st (fun e s=>Q e s r):=fun R W aD a w al=>by
 refine wpIn_mono (h R W aD a w ⟨rfl,al⟩) ?_;rintro e a w ⟨s,cv,J,rfl,U⟩;exact⟨s,J,U⟩
end
theorem aay(av:X.a7.ok X.P) {f:FuncId} {fn:Func} {c:Code} {args:List bh} {h:bE} {Q:b5->bE->Prop} {res:List ResultVar} (az:X.P.funcs[f]?=some fn) (ae:fn.body=some c) (aT:fn.ntmps=n) (ad:Nat.ble args.length n=true) (a6:Nat.ble n ix=true) (au:fn.results=res.toArray)
  (cH:mg X true n none c ⟨lq 0 args,h⟩ (fun e st=>(e=.ret\/e=.normal)/\∃ st',hL X true n st st'/\∃ c sv,n2 X st' res=some (c,sv)/\c=true/\Q sv st'.H)):AC X f args h Q:=by
 intro B ai env vs H W aV aS b1 aj;have hlen:=aS.length;have hle:vs.length<=n:=by rw[hlen]; exact Nat.le_of_ble_eq_true ad
 refine(callsIn_wide (n:=0)).1 (callsIn_of_wp_marks az ae trivial ?_);have dp:fJ B ai B W:=⟨fun _ h=>h,fun k ab=>aj.below.block k ab⟩
 have fT:∀ k,B k->Rest W H k:=fun k ab=>⟨aj.base k ab,fun c aa e=>((aj.ok c aa).lt e).1 ab⟩
 have aJ:=Em (fn:=fn) aT hle _ rfl (vs:=vs);have al:bI X (Rest W H) W ⟨B,fun id l=>((ix<=id/\∃ b,l=.blk b)\/h2<=id)/\env id=l,[]⟩ n [] env B W H ⟨lq 0 args,h⟩ { tmps:=vs.toArray++Array.replicate (fn.ntmps - vs.toArray.size) undef,defers:=[] } W:=by
  refine⟨aJ.size,rfl,fun s sv xN=>?_,b1.up dp,?_,fun _ h=>h,fun _ h=>.inl h,fun id l an=>⟨Nat.le_trans (Nat.le_of_ble_eq_true a6) (an.1.elim (fun h=>h.1) (fun h=>Nat.le_trans (by decide) h)),an.2,an.1.imp (fun h=>h.2) (fun h=>h)⟩,dm.refl _ _,fun i x ah=>(aV i x ah).up dp⟩
  ·obtain⟨_,v,J,U⟩:=A4 aS xN
   rw[Nat.sub_zero]at J;refine⟨v,?_,U.up dp⟩;have aL:s < vs.length:=(List.getElem?_eq_some_iff.1 J).1;show(vs.toArray++_)[s]?=some v;rw[Array.getElem?_append_left (by simpa using aL)]
   simpa using J
  ·have J:=aj.rest
   simp only[List.map_nil,List.append_nil];exact⟨dm.refl _ _,fun k ab=>ab.elim (fun h=>h.1) (fun h=>aj.base k h),fun c aa=>(J.ok c aa).base fun b ae ab=>ab.elim (fun h=>((J.ok c aa).lt ae).1 h) (fun h=>((J.ok c aa).lt ae).1 (fT b h)),J.apart⟩
 refine wpIn_mono (cH _ _ _ _ _ ⟨[],env,B,W,H,⟨(fun h=>by cases h),fun _ id l (an:((ix<=id/\∃ b,l=.blk b)\/h2<=id)/\env id=l)=>an.1.elim (fun h=>h.1) (fun h=>Nat.le_trans (by decide) h)⟩,al⟩) ?_;rintro e a w ⟨st,⟨he,st',hw,c,sv,l9,aa,xM⟩,U⟩;obtain⟨ks,env',B',cJ,H',cp,b7⟩:=hw _ _ _ _ _ U;have l1:bI X (Rest W H) W ⟨B,fun id l=>((ix<=id/\∃ b,l=.blk b)\/h2<=id)/\env id=l,[]⟩ n [] env' B' cJ H' st' { tmps:=a.tmps,defers:=[] } w:=
  ⟨b7.size,rfl,b7.has,b7.heap,by simpa using b7.aU.en (List.sublist_append_left _ _),b7.sub,b7.new,b7.dt,b7.base,b7.dX⟩
 obtain⟨v,ag,ay⟩:=A6 av l1 au l9 aa;have sA:Sym n (ks.map ux) (gn a) (fun k=>Rest W H k\/B' k) cJ (ks.map (fun k=>bc.obj k (.deferred (some [])))++H') a w:=⟨by have di:=b7.cb; simpa [jR] using di,b7.aU.perm List.perm_append_comm⟩
 have key:=Kn (fn:=fn) (R:=nm X env B H W Q) ks sA (fun w hw=>ay w (by simpa using hw)) fun w hw=>⟨env',B',cJ,H',sv,st'.H,xM,b7.sub,b7.new,b7.base,ag,b7.heap,hw,fun id l aO aK=>(b7.dt id l ⟨aO,aK⟩).2.1⟩
 rcases he with rfl | rfl
 ·exact key
 ·exact key
end

section
inductive e4 where
 | d
 | r (l:List In)
 | t (l:List k5)
 | o (E:List Nat) (l:List rH) (w:List k5)
 | lf (E:List Nat) (l:List rH) (w:List k5)
 | s (a b:e4)
 | j (bA:er) (a b:e4)
 | Hd (bA:er) (a b:e4)
 | c (a b:e4)
 | l (bA:er) (a:e4)
 | eb (id:Nat) (bA ig:er) (a:e4)
 | fh (id:Nat) (bA ig:er) (a:e4)
 | b (a:e4)
 | pd (eR:List (Nat×Nat)) (bA:er) (a:e4)
 | p (w:List k5) (a:e4)
 | iF (ai:List k5) (E:List Nat) (t:tn) (w:List k5) (jV:Bool)
def e4.fst:e4->e4
 | .s x _=>x
 | .j _ x _=>x
 | .Hd _ x _=>x
 | .c x _=>x
 | .l _ x=>x
 | .eb _ _ _ x=>x
 | .fh _ _ _ x=>x
 | .b x=>x
 | .pd _ _ x=>x
 | _=>.d
def e4.snd:e4->e4
 | .s _ x=>x
 | .j _ _ x=>x
 | .Hd _ _ x=>x
 | .c _ x=>x
 | _=>.d
def e4.ins:e4->List In
 | .r x=>x
 | _=>[]
def e4.vV:e4->List k5
 | .t x=>x
 | _=>[]
def e4.pre:e4->List k5
 | .p w _=>w
 | .iF w _ _ _ _=>w
 | _=>[]
def e4.NW:e4->Bool
 | .lf _ _ _=>true
 | .p _ (.lf _ _ _)=>true
 | .iF _ _ _ _ jV=>jV
 | _=>false
def e4.mZ:e4->List Nat×tn×List k5
 | .o x y z=>(x,.f y,z)
 | .lf x y z=>(x,.f y,z)
 | .p _ (.o x y z)=>(x,.f y,z)
 | .p _ (.lf x y z)=>(x,.f y,z)
 | .iF _ x y z _=>(x,y,z)
 | _=>([],.f [],[])
def mu{ρ:Type} (n:Nat):List k5->List Nat->aM->(List Nat->aM->Option ρ)->Option ρ
 | [],V,st,k=>k V st
 | x :: l,V,st,k=>match vo n x st with
  | some (c,st')=>ar c (mu n l (x.vm++V) st' k)
  | none=>none
theorem vW{X:bq} {ρ:Type} {n:Nat} {k:List Nat->aM->Option ρ} {r:ρ} {st0:aM}:∀ {l:List k5} {V:List Nat} {st:aM},cU V st0 st->mu n l V st k=some r->∃ fk st',dk X n st st'/\cU fk st0 st'/\k fk st'=some r
 | [],V,st,h0,h=>⟨V,st,dk.refl _,h0,h⟩
 | x :: l,V,st,h0,h=>by
  unfold mu at h
  split at h
  ·rename_i c vG e
   obtain⟨aa,h⟩:=hp h;obtain⟨fk,st',J,U,ag⟩:=vW (X:=X) (h0.trans (Mx e)) h;exact⟨fk,st',(Mq e aa).trans J,U,ag⟩
  ·cases h
def NX{α:Type} (v:Value) (k:Value->α):α:=match v with
 | .int q z=>k (.int q z)
 | .bool b=>k (.bool b)
 | .slice a m c=>k (.slice a m c)
 | v=>k v
def Cn{α:Type}:List e2->(List e2->α)->α
 | [],k=>k []
 | .id i :: r,k=>Cn r fun r=>k (.id i :: r)
 | .cL g x :: r,k=>Cn r fun r=>k (.cL g x :: r)
def He{α:Type} (c:bg) (k:bg->α):α:=match c with
 | .val v=>NX v fun v=>k (.val v)
 | .str s=>k (.str s)
 | .dead=>k .dead
 | .ptr i o=>k (.ptr i o)
 | .dV i s j o=>k (.dV i s j o)
 | .fK g x o=>k (.fK g x o)
 | .par g l=>k (.par g l)
 | .ak i=>k (.ak i)
 | .bd g l c=>k (.bd g l c)
 | .fn f ids=>Cn ids fun ids=>k (.fn f ids)
 | .eP i=>k (.eP i)
 | .iu f i=>k (.iu f i)
 | .hy i o=>k (.hy i o)
 | .iv i s o=>k (.iv i s o)
 | .iN i=>k (.iN i)
 | .fR b i=>k (.fR b i)
def Co{α:Type}:List bg->(List bg->α)->α
 | [],k=>k []
 | c :: r,k=>He c fun c=>Co r fun r=>k (c :: r)
def Cp{α:Type} (x:bh) (k:bh->α):α:=match x with
 | .c c=>He c fun c=>k (.c c)
 | .agg cs=>Co cs fun cs=>k (.agg cs)
 | .arr g l=>k (.arr g l)
def Hf{α:Type}:List bh->(List bh->α)->α
 | [],k=>k []
 | c :: r,k=>Cp c fun c=>Hf r fun r=>k (c :: r)
def NY{α:Type} (v:b5) (k:b5->α):α:=match v with
 | .a x=>Cp x fun x=>k (.a x)
 | .may g x=>Cp x fun x=>k (.may g x)
 | .dj xs=>Hf xs fun xs=>k (.dj xs)
def Hg{α:Type}:cQ->(cQ->α)->α
 | [],k=>k []
 | (s,v) :: r,k=>NY v fun v=>Hg r fun r=>k ((s,v) :: r)
def NZ{α:Type} (b:cA) (k:cA->α):α:=match b with
 | .cells t cs=>Co cs fun cs=>k (.cells t cs)
 | .row t g l c=>k (.row t g l c)
 | .fw t g l=>k (.fw t g l)
 | .mp g h l o=>k (.mp g h l o)
 | .bQ t u g l c h=>k (.bQ t u g l c h)
 | b=>k b
def Hh{α:Type}:bE->(bE->α)->α
 | [],k=>k []
 | (s,v) :: r,k=>NZ v fun v=>Hh r fun r=>k ((s,v) :: r)
def qp{α:Type} (st:aM) (k:aM->α):α:=Hg st.L fun L=>Hh st.H fun H=>k ⟨L,H⟩
theorem aaz{α:Type} (v:Value) (k:Value->α):NX v k=k v:=by cases v<;>rfl
theorem Hi{α:Type}:∀ (l:List e2) (k:List e2->α),Cn l k=k l
 | [],_=>rfl
 | .id i :: r,k=>Hi r _
 | .cL g x :: r,k=>Hi r _
theorem N0{α:Type} (c:bg) (k:bg->α):He c k=k c:=by
 cases c with
 | val v=>exact aaz v (fun v=>k (.val v))
 | fn f ids=>exact Hi ids (fun ids=>k (.fn f ids))
 | _=>rfl
theorem Hj{α:Type}:∀ (l:List bg) (k:List bg->α),Co l k=k l
 | [],_=>rfl
 | c :: r,k=>(N0 c _).trans (Hj r _)
theorem Hk{α:Type} (x:bh) (k:bh->α):Cp x k=k x:=by
 cases x with
 | c c=>exact N0 c (fun c=>k (.c c))
 | agg cs=>exact Hj cs (fun cs=>k (.agg cs))
 | arr g l=>rfl
theorem N1{α:Type}:∀ (l:List bh) (k:List bh->α),Hf l k=k l
 | [],_=>rfl
 | c :: r,k=>(Hk c _).trans (N1 r _)
theorem aaA{α:Type} (v:b5) (k:b5->α):NY v k=k v:=by
 cases v with
 | a x=>exact Hk x (fun x=>k (.a x))
 | may g x=>exact Hk x (fun x=>k (.may g x))
 | dj xs=>exact N1 xs (fun xs=>k (.dj xs))
theorem N2{α:Type}:∀ (l:cQ) (k:cQ->α),Hg l k=k l
 | [],_=>rfl
 | (s,v) :: r,k=>(aaA v _).trans (N2 r _)
theorem aaB{α:Type} (b:cA) (k:cA->α):NZ b k=k b:=by
 cases b with
 | cells t cs=>exact Hj cs (fun cs=>k (.cells t cs))
 | _=>rfl
theorem N3{α:Type}:∀ (l:bE) (k:bE->α),Hh l k=k l
 | [],_=>rfl
 | (s,v) :: r,k=>(aaB v _).trans (N3 r _)
theorem tv{α:Type} (st:aM) (k:aM->α):qp st k=k st:=(N2 _ _).trans (N3 _ _)
def ch{gJ ρ:Type} (step:gJ->(gJ->Option ρ)->Option ρ):Nat->gJ->Option ρ
 | 0,_=>none
 | n+1,d=>step d (ch step n)
abbrev m0 (ρ:Type):=Exit->List Nat->aM->Option ρ
abbrev rL:={bA:Type}->lA bA->e4->aM->m0 bA->Option bA
def Cq{ρ:Type} (cD:lA ρ) (bV:e4) (a b:rL) (st:aM) (k:m0 ρ):Option ρ:=match bV with
 | .j bA x y=>(a none x st fun e V st'=>match e with
  | .normal=>bA.get st V st'
  | _=>none).bind fun d=>b cD y (bA.S st d) fun e V s=>k e (V++bA.ids) s
 | .Hd bA x y=>(a none x st fun e V st'=>match e with
  | .normal=>match bA.get st V st' with
   | some d=>some (.inl d)
   | none=>none
  | e=>match k e V st' with
   | some r=>some (.inr r)
   | none=>none).bind fun(o:bA.D⊕ρ)=>sm o (fun d=>b cD y (bA.S st d) fun e V s=>k e (V++bA.ids) s) (fun r=>some r)
 | bV=>a cD bV.fst st fun e V st'=>match e with
  | .normal=>b cD bV.snd st' fun e V2 s=>k e (V2++V) s
  | e=>k e V st'
def y5:List Nat->List Nat->Bool
 | [],_=>true
 | k :: r,l=>match eA k l with
  | true=>y5 r l
  | false=>false
def vX(bA ig:er):Bool:=match y5 ig.p5 bA.p5,y5 ig.jY bA.jY,y6 ig.p5 (ew bA.L),y6 ig.jY (ew bA.H)with
 | true,true,true,true=>true
 | _,_,_,_=>false
where y6:List Nat->List Nat->Bool
 | [],_=>true
 | k :: r,l=>match eA k l with
  | true=>false
  | false=>y6 r l
def pj{gJ ρ:Type} (o:Option gJ) (f:gJ->Option ρ):Option ρ:=match o with
 | some d=>f d
 | none=>none
theorem rM{gJ ρ:Type} {o:Option gJ} {f:gJ->Option ρ} {r:ρ} (h:pj o f=some r):∃ d,o=some d/\f d=some r:=by
 unfold pj at h
 split at h
 ·exact⟨_,rfl,h⟩
 ·cases h
def Cr{ρ:Type} (N:Nat) (cD:lA ρ) (bV:e4) (a:rL) (st:aM) (k:m0 ρ):Option ρ:=match bV with
 | .l bA x=>pj (bA.get st [] st) (ch (fun d rec=>a cD x (bA.S st d) fun e V st'=>match e with
  | .normal=>pj (bA.get st V st') rec
  | e=>k e (V++bA.ids) st') N)
 | .eb id bA ig x=>(pj (bA.get st [] st) (ch (fun d rec=>a none x (bA.S st d) fun e V st'=>match e with
  | .normal=>pj (bA.get st V st') rec
  | .exit i=>match Nat.beq i id,vX bA ig with
   | true,true=>ig.get st V st'
   | _,_=>none
  | _=>none) N)).bind fun d=>k (.exit id) ig.ids (ig.S st d)
 | .fh id bA ig x=>(pj (bA.get st [] st) (ch (fun d rec=>a none x (bA.S st d) fun e V st'=>match e with
  | .normal=>pj (bA.get st V st') rec
  | .exit i=>match Nat.beq i id,vX bA ig with
   | true,true=>match ig.get st V st' with
    | some d=>some (.inl d)
    | none=>none
   | false,_=>match k (.exit i) (V++bA.ids) st' with
    | some r=>some (.inr r)
    | none=>none
   | _,_=>none
  | e=>match k e (V++bA.ids) st' with
   | some r=>some (.inr r)
   | none=>none) N)).bind fun(o:ig.D⊕ρ)=>sm o (fun d=>k (.exit id) ig.ids (ig.S st d)) (fun r=>some r)
 | _=>none
structure ju(X:bq) where
 f:FuncId
 fn:Func
 C:List rq
 G:List (Nat×gX)
 E:List fU
 m:dq (o2 C (lV G []))->Option (List (dq (jW E [])))
 az:X.P.funcs[f]?=some fn
 a6 : (fn.name == "runtime.NumGoroutine") = false
 ae:fn.body.isNone=false
 ok:∀ d l,m d=some l->Ch X f (ly C d).1 (iV G (ly C d).2).1 l (fun x=>(hs E x).1)
def l2{α gJ ρ:Type} (step:α->gJ->(gJ->Option ρ)->Option ρ):List α->gJ->(gJ->Option ρ)->Option ρ
 | [],d,k=>k d
 | x :: l,d,k=>step x d fun ga=>l2 step l ga k
def rN:List Nat->bE->Option (bE×bE)
 | [],H=>some ([],H)
 | i :: is,H=>match aZ H i with
  | some b=>match rN is (lR i H)with
   | some (h,H')=>some ((i,b) :: h,H')
   | none=>none
  | none=>none
def vY{X:bq} {ρ:Type} (f:FuncId) (h3:List e2) (H:bE) (K:(E:List fU)->List Nat->bE->List (dq (jW E []))->Option ρ):List (ju X)->Option ρ
 | []=>none
 | e :: r=>match Nat.beq e.f f,rN (ew e.G) H with
  | true,some (h,H')=>match sX (T:=[]) e.G h ()with
   | some t=>match ru (T:=lV e.G []) e.C h3 t with
    | some d=>(e.m d).bind fun l=>K e.E (ew e.G) H' l
    | none=>vY f h3 H K r
   | none=>vY f h3 H K r
  | _,_=>vY f h3 H K r
def ha:List (Nat×Nat)->aM->aM
 | [],st=>st
 | p :: l,st=>ha l ⟨iC (iD p.1 p.2) st.L,mj (iD p.1 p.2) st.H⟩
def pk:List (Nat×Nat)->List Nat
 | []=>[]
 | p :: l=>pk l++[p.2,p.1]
def tw:List (Nat×Nat)->Bool
 | []=>true
 | p :: l=>match Nat.blt p.2 ix with
  | true=>tw l
  | false=>false
def Hl(n:Nat):Code->Option (List (Nat×Nat))
 | .region _ ⟨ops⟩ false=>uZ n ops
 | .skip=>some []
 | _=>none
def aaC(bA:er):Bool:=match bA.L,bA.p5 with
 | [],[]=>true
 | _,_=>false
def y7{ρ:Type} (n:Nat) (bA:er) (ms:List (Nat×Nat)) (pl eR:List Nat) (E:List fU) (st:aM) (a:rL) (x:e4) (k:m0 ρ) (e:dq (jW E [])) (y:bA.D) (aaD:bA.D->Option ρ):Option ρ:=
 a none x ⟨uX ms (Bm pl (hs E e).1 (iC (lx n) st.L)),(bA.S st y).H⟩ fun e V s=>match e with
  | .normal=>pj (bA.get st V s) aaD
  | .ret=>k .ret ((V++bA.ids)++eR) ⟨iC (lx n) st.L,s.H⟩
  | .exit i=>k (.exit i) ((V++bA.ids)++eR) ⟨iC (lx n) st.L,s.H⟩
  | _=>none
def y8{ρ:Type} (X:bq) (n:Nat) (bC:List (ju X)) (m:Bool) (g:Operand) (pl:List Nat) (rO:Code) (a:rL) (bV:e4) (st0:aM) (k:m0 ρ):Option ρ:=match bV with
 | .pd eR bA x=>match m,tw eR,aaC bA,Nat.ble n h2 with
  | true,true,true,true=>match bw X (ha eR st0).L g,Hl n rO with
   | some (c,.c (.fn f h3)),some ms=>ar c (vY f h3 (ha eR st0).H (fun E gs jt l=>match Nat.beq E.length pl.length,pZ n pl,pZ n (ms.map (·.1))with
    | true,true,true=>pj (bA.get ⟨(ha eR st0).L,jt⟩ [] ⟨(ha eR st0).L,jt⟩) fun rK=>l2 (y7 n bA ms pl (gs++pk eR) E ⟨(ha eR st0).L,jt⟩ a x k) l rK fun y=>k .normal (bA.ids++(gs++pk eR)) ⟨iC (lx n) (ha eR st0).L,(bA.S ⟨(ha eR st0).L,jt⟩ y).H⟩
    | _,_,_=>none) bC)
   | _,_=>none
  | _,_,_,_=>none
 | _=>none
noncomputable def ih (X:bq) (N n:Nat) (T:List (bz X)) (bC:List (ju X)):Bool->Code->{ρ:Type}->lA ρ->e4->aM->m0 ρ->Option ρ
 | _,.skip,_,_,bV,st,k=>mu n bV.vV [] st fun V st'=>k .normal V st'
 | _,.exit id,_,_,bV,st,k=>mu n bV.vV [] st fun V st'=>k (.exit id) V st'
 | _,.ret,_,_,bV,st,k=>mu n bV.vV [] st fun V st'=>k .ret V st'
 | _,.label _,_,_,_,st,k=>k .normal [] st
 | _,.region _ ops true,_,_,bV,st,k=>qp st fun st=>mu n bV.pre [] st fun Cs st=>qp st fun st=>match Nat.beq ops.toList.length (qo bV.mZ.2.1)with
  | true=>vP X n T ops.toList bV.mZ.1 bV.mZ.2.1 ⟨Array.replicate (qo bV.mZ.2.1) false,true,true,true,bV.NW⟩ [] Cs [] st fun V st'=>mu n bV.mZ.2.2 V st' fun V st'=>k .normal V st'
  | false=>none
 | _,.region _ ops false,_,cD,bV,st,k=>qp st fun st=>gY X n T cD (ef ops.toList) bV.ins ops.toList [] [] [] st fun V st'=>k .normal V st'
 | m,.seq a b,_,cD,bV,st,k=>Cq cD bV (fun cD bV st k=>ih X N n T bC m a cD bV st k) (fun cD bV st k=>ih X N n T bC m b cD bV st k) st k
 | m,.cond x a b,_,cD,bV,st,k=>match bw X st.L x with
  | some (g,.c (.val (.bool q)))=>ar g (cond q (ih X N n T bC m a cD bV.fst st k) (ih X N n T bC m b cD bV.snd st k))
  | _=>none
 | m,.block id a,_,cD,bV,st,k=>ih X N n T bC m a cD bV.fst st fun e V st'=>match e with
  | .exit i=>match Nat.beq i id with
   | true=>k .normal V st'
   | false=>k (.exit i) V st'
  | e=>k e V st'
 | m,.scope a,_,cD,bV,st,k=>ih X N n T bC m a cD bV.fst st fun e V st'=>match e with
  | .goto _=>none
  | e=>k e V st'
 | m,.loop a,_,cD,bV,st,k=>qp st fun st=>Cr N cD bV (fun cD bV st k=>ih X N n T bC m a cD bV st k) st k
 | m,.rangeFunc g ps rO body,_,_,bV,st,k=>qp st fun st=>y8 X n bC m g ps.toList rO (fun cD bV st k=>ih X N n T bC false body cD bV st k) bV st k
 | _,_,_,_,_,_,_=>none
section
variable {X:bq} {M:Bool} {N n:Nat} {rr:Option Nat} {T:List (bz X)} {bC:List (ju X)}
def mv(X:bq) (M:Bool) (n:Nat) {ρ:Type} (st:aM) (k:m0 ρ):Exit->aM->ρ->Prop:=fun e s r=>∃ V fl,hL X M n s fl/\cU V st fl/\k e V fl=some r
def l3{ρ:Type} (Γ:hX X M n rr ρ) (cD:lA ρ):Prop:=∀ (ops:List Oper) (Q:Exit->Act->World->Prop),MV X n ops cD (fun l r st=>∀ a w,Γ.In r st a w->pF rr X.P ops.toArray Q l a w)
theorem l3.none{ρ:Type} {Γ:hX X M n rr ρ}:l3 Γ none:=fun _ _ _ h=>by cases h
def y9(X:bq) (M:Bool) (n:Nat) (rr:Option Nat) (c:Code) (f:rL):Prop:=
 ∀ (ρ:Type) (Γ:hX X M n rr ρ) (cD:lA ρ),l3 Γ cD->∀ (bV:e4) (st:aM) (k:m0 ρ) (r:ρ),f cD bV st k=some r->iI Γ c r st (mv X M n st k)
theorem aaE{ρ:Type} {Γ:hX X M n rr ρ} {cD:lA ρ} (aH:l3 Γ cD) {ft cR:Code} {a b:rL} (aS:y9 X M n rr ft a) (ae:y9 X M n rr cR b) {bV:e4} {st:aM} {k:m0 ρ} {r:ρ} (h:Cq cD bV a b st k=some r):iI Γ (.seq ft cR) r st (mv X M n st k):=by
 unfold Cq at h
 split at h
 ·rename_i bA x y
  obtain⟨d,J,U⟩:=ri h;refine Ha (ld (Cm (d0:=d) (aS _ (Γ.const r d) none l3.none _ _ _ _ J)) fun e s cv ⟨au,V,fl,hw,ev,aj⟩=>?_);subst au;cases e with
  | normal=>exact y3 (hw.trans (er.hG (j1.self bA st) ev aj).m) (ld (ae _ Γ cD aH _ _ _ _ U) fun e s aX ⟨V2,s2,kG,tx,hx⟩=>⟨_,s2,kG,(er.ks bA st d).trans tx,hx⟩)
  | _=>cases aj
 ·rename_i bA x y
  obtain⟨o,J,U⟩:=ri h;refine Ha (ld (Cm (d0:=o) (aS _ (Γ.const r o) none l3.none _ _ _ _ J)) fun e s cv ⟨au,V,fl,hw,ev,aj⟩=>?_);subst au;cases e with
  | normal=>
   simp only at aj
   split at aj
   ·rename_i d ax
    cases aj;exact y3 (hw.trans (er.hG (j1.self bA st) ev ax).m) (ld (ae _ Γ cD aH _ _ _ _ U) fun e s aX ⟨V2,s2,kG,tx,hx⟩=>⟨_,s2,kG,(er.ks bA st d).trans tx,hx⟩)
   ·cases aj
  | _=>
   simp only at aj
   split at aj
   ·rename_i q ao
    cases aj;cases U;exact⟨V,fl,hw,ev,ao⟩
   ·cases aj
 ·refine Ha (ld (aS _ Γ cD aH _ _ _ _ h) fun e s cv ⟨V,fl,hw,ev,aj⟩=>?_)
  cases e with
  | normal=>exact y3 hw (ld (ae _ Γ cD aH _ _ _ _ aj) fun e s aX ⟨V2,s2,kG,tx,hx⟩=>⟨_,s2,kG,ev.trans tx,hx⟩)
  | _=>exact⟨V,fl,hw,ev,aj⟩
theorem Hm{q:Nat} {l:List Nat}:∀ {ks:List Nat},y5 ks l=true->q∈ks->eA q l=true
 | [],_,h=>by cases h
 | k :: r,h,hm=>by
  unfold y5 at h
  split at h
  ·rename_i J
   rcases List.mem_cons.1 hm with rfl | hm
   ·exact J
   ·exact Hm h hm
  ·cases h
theorem Hn{q:Nat} {l:List Nat}:∀ {ks:List Nat},vX.y6 ks l=true->q∈ks->eA q l=false
 | [],_,h=>by cases h
 | k :: r,h,hm=>by
  unfold vX.y6 at h
  split at h
  ·cases h
  ·rename_i J
   rcases List.mem_cons.1 hm with rfl | hm
   ·exact J
   ·exact Hn h hm
theorem Ho{q:Nat}:∀ {l:List Nat},eA q l=true->q∈l
 | [],h=>by cases h
 | k :: r,h=>by
  unfold eA at h
  split at h
  ·rename_i e
   rw[Nat.eq_of_beq_eq_true e];exact List.mem_cons_self
  ·exact List.mem_cons_of_mem _ (Ho h)
theorem Ct{p:Nat×b5}:∀ {ks:List Nat} {L:cQ},p∈j0 ks L->p.1∈ks
 | [],_,h=>by cases h
 | k :: r,L,h=>by
  unfold j0 at h
  split at h
  ·split at h
   ·rcases List.mem_cons.1 h with rfl | h
    ·exact List.mem_cons_self
    ·exact List.mem_cons_of_mem _ (Ct h)
   ·exact List.mem_cons_of_mem _ (Ct h)
  ·exact List.mem_cons_of_mem _ (Ct h)
theorem Cu{p:Nat×cA}:∀ {ks:List Nat} {L:bE},p∈fV ks L->p.1∈ks
 | [],_,h=>by cases h
 | k :: r,L,h=>by
  unfold fV at h
  split at h
  ·split at h
   ·rcases List.mem_cons.1 h with rfl | h
    ·exact List.mem_cons_self
    ·exact List.mem_cons_of_mem _ (Cu h)
   ·exact List.mem_cons_of_mem _ (Cu h)
  ·exact List.mem_cons_of_mem _ (Cu h)
theorem N4{q:Nat} {v:b5}:∀ {ks:List Nat} {L:cQ},q∈ks->aZ L q=some v->v.free=true->(q,v)∈j0 ks L
 | [],_,h,_,_=>by cases h
 | k :: r,L,h,ad,az=>by
  unfold j0
  rcases List.mem_cons.1 h with rfl | h
  ·simp only[ad,az]; exact List.mem_cons_self
  ·have:=N4 h ad az
   split
   ·split
    ·exact List.mem_cons_of_mem _ this
    ·exact this
   ·exact this
theorem N5{q:Nat} {v:cA}:∀ {ks:List Nat} {L:bE},q∈ks->aZ L q=some v->v.free=true->(q,v)∈fV ks L
 | [],_,h,_,_=>by cases h
 | k :: r,L,h,ad,az=>by
  unfold fV
  rcases List.mem_cons.1 h with rfl | h
  ·simp only[ad,az]; exact List.mem_cons_self
  ·have:=N5 h ad az
   split
   ·split
    ·exact List.mem_cons_of_mem _ this
    ·exact this
   ·exact this
theorem j1.out{bA ig:er} (ah:vX bA ig=true) (st:aM) (d:bA.D):j1 ig st (bA.S st d):=by
 unfold vX at ah
 split at ah
 ·rename_i J U ag ay
  refine⟨fun p an _=>?_,fun p an _=>?_⟩
  ·have ab:=Ct an
   obtain⟨aC,a1⟩:=ti an;exact(j1.step bA st d).1 p (N4 (Ho (Hm J ab)) aC a1) (Hn ag ab)
  ·have ab:=Cu an
   obtain⟨aC,a1⟩:=nB an;exact(j1.step bA st d).2 p (N5 (Ho (Hm U ab)) aC a1) (Hn ay ab)
 ·cases ah
theorem aaF{ρ:Type} {Γ:hX X M n rr ρ} {cD:lA ρ} (aH:l3 Γ cD) {c:Code} {a:rL} (aS:y9 X M n rr c a) {bV:e4} {st:aM} {k:m0 ρ} {r:ρ} (h:Cr N cD bV a st k=some r):iI Γ (.loop c) r st (mv X M n st k):=by
 unfold Cr at h
 split at h
 ·rename_i bA x
  obtain⟨d,J,U⟩:=rM h;refine Hb (fun(y:Nat×bA.D)=>bA.S st y.2) (fun y r=>ch _ y.1 y.2=some r) (fun y=>y.1) (N,d) U (er.hG (j1.self bA st) (cU.refl (V:=[]) st) J).m fun y r iy=>?_
  obtain⟨m,d2⟩:=y;cases m with
  | zero=>cases iy
  | succ m=>
   refine ld (aS _ Γ cD aH _ _ _ _ iy) fun e s cv ⟨V,fl,hw,ev,aj⟩=>?_
   cases e with
   | normal=>
    obtain⟨d3,ag,ay⟩:=rM aj;exact⟨(m,d3),ay,Nat.lt_succ_self _,hw.trans (er.hG (j1.step bA st d2) ev ag).m⟩
   | _=>exact⟨_,fl,hw,(er.ks bA st d2).trans ev,aj⟩
 ·rename_i id bA ig x
  obtain⟨o,h,aO⟩:=ri h;obtain⟨d,J,U⟩:=rM h;refine Hb (fun(y:Nat×bA.D)=>bA.S st y.2) (fun y cv=>ch _ y.1 y.2=some o/\cv=r) (fun y=>y.1) (N,d) ⟨U,rfl⟩ (er.hG (j1.self bA st) (cU.refl (V:=[]) st) J).m fun y cv iy=>?_
  obtain⟨m,d2⟩:=y;obtain⟨iy,rfl⟩:=iy;cases m with
  | zero=>cases iy
  | succ m=>
   refine ld (Cm (d0:=o) (aS _ (Γ.const cv o) none l3.none _ _ _ _ iy)) fun e s aX ⟨au,V,fl,hw,ev,aj⟩=>?_
   subst au;cases e with
   | normal=>
    obtain⟨d3,ag,ay⟩:=rM aj;exact⟨(m,d3),⟨ay,rfl⟩,Nat.lt_succ_self _,hw.trans (er.hG (j1.step bA st d2) ev ag).m⟩
   | exit i=>
    simp only at aj
    split at aj
    ·rename_i hi ah
     have:=Nat.eq_of_beq_eq_true hi
     subst this;exact⟨_,_,hw.trans (er.hG (j1.out ah st d2) ev aj).m,er.ks ig st o,aO⟩
    ·cases aj
   | _=>cases aj
 ·rename_i id bA ig x
  obtain⟨o,h,aO⟩:=ri h;obtain⟨d,J,U⟩:=rM h;refine Hb (fun(y:Nat×bA.D)=>bA.S st y.2) (fun y cv=>ch _ y.1 y.2=some o/\cv=r) (fun y=>y.1) (N,d) ⟨U,rfl⟩ (er.hG (j1.self bA st) (cU.refl (V:=[]) st) J).m fun y cv iy=>?_
  obtain⟨m,d2⟩:=y;obtain⟨iy,rfl⟩:=iy;cases m with
  | zero=>cases iy
  | succ m=>
   refine ld (Cm (d0:=o) (aS _ (Γ.const cv o) none l3.none _ _ _ _ iy)) fun e s aX ⟨au,V,fl,hw,ev,aj⟩=>?_
   subst au;have key:∀ cu,(match k cu (V++bA.ids) fl with
     | some r=>some (Sum.inr r)
     | none=>(none:Option (ig.D⊕ρ)))=some o->mv X M n st k cu s aX:=fun cu aj=>by
    split at aj
    ·rename_i q ao
     cases aj;cases aO;exact⟨_,fl,hw,(er.ks bA st d2).trans ev,ao⟩
    ·cases aj
   cases e with
   | normal=>
    obtain⟨d3,ag,ay⟩:=rM aj;exact⟨(m,d3),⟨ay,rfl⟩,Nat.lt_succ_self _,hw.trans (er.hG (j1.step bA st d2) ev ag).m⟩
   | exit i=>
    simp only at aj
    split at aj
    ·rename_i hi ah
     have:=Nat.eq_of_beq_eq_true hi
     subst this
     split at aj
     ·rename_i d4 hd4
      cases aj;exact⟨_,_,hw.trans (er.hG (j1.out ah st d2) ev hd4).m,er.ks ig st d4,aO⟩
     ·cases aj
    ·exact key _ aj
    ·cases aj
   | _=>exact key _ aj
 ·cases h
theorem hL.eR{i j:Nat} (aF:Nat.blt j ix=true) {st:aM}:hL X true n st ⟨iC (iD i j) st.L,mj (iD i j) st.H⟩:=by
 rintro R W aD a w ⟨ks,env,B,ai,H,cp,al⟩;obtain⟨H',J,U⟩:=bt.c4 (uW (i:=i) (j:=j)) al.heap;refine⟨ks,h8 env j (env i),B,ai,H',cp,al.size,al.defs,fun s sv aj=>?_,U,al.aU.en (J.append_right _),al.sub,al.new,nY al.dt (fun q an=>by have J:=cp.2 rfl _ _ an; have U:=dK aF; omega),al.base,al.dX⟩;obtain⟨u,ag,rfl⟩:=sM aj;obtain⟨v,ay,aO⟩:=al.has s u ag;exact⟨v,ay,ei.c4 uW aO⟩
theorem N6:∀ {l:List (Nat×Nat)} {st:aM},tw l=true->hL X true n st (ha l st)
 | [],st,_=>hL.refl st
 | p :: l,st,h=>by
  unfold tw at h
  split at h
  ·rename_i J
   exact(hL.eR J).trans (N6 h)
  ·cases h
theorem aaG{c:Code} {ms:List (Nat×Nat)} (h:Hl n c=some ms):p0 n c ms:=by
 unfold Hl at h
 split at h
 ·exact p0.region h
 ·cases h; exact p0.skip
 ·cases h
theorem vZ:∀ {A:List fU} {T:List Type} (d:dq (jW A T)),(hs A d).1.length=A.length
 | [],_,_=>rfl
 | x :: A,T,d=>by
  unfold hs;rw[List.length_cons,List.length_cons,vZ]
theorem N7{cg:hE}:∀ {cs:List e2},pY cs=true->oZ cg cs=some cs
 | [],_=>rfl
 | .id _ :: _,h=>by cases h
 | .cL g x :: cs,h=>by
  unfold oZ;rw[N7 (cs:=cs) h]
theorem N8{cg:hE} {c:bg} (h:c.free=true):c.c4 cg=c:=by
 cases c with
 | fn f cs=>simp only[bg.c4]; rw[N7 h]
 | _=>first | rfl | cases h
theorem Hp{cg:hE}:∀ {cs:List bg},qe cs=true->rh cg cs=cs
 | [],_=>rfl
 | c :: r,h=>by
  unfold qe at h
  split at h
  ·rename_i e
   show c.c4 cg :: rh cg r=_;rw[N8 e,Hp h]
  ·cases h
theorem Hq{cg:hE} {x:bh} (h:x.free=true):x.c4 cg=x:=by
 cases x with
 | c x=>simp only[bh.c4]; rw[N8 h]
 | agg cs=>simp only[bh.c4]; rw[Hp h]
 | arr g l=>rfl
theorem N9{cg:hE}:∀ {xs:List bh},k4 xs=true->sL cg xs=xs
 | [],_=>rfl
 | c :: r,h=>by
  unfold k4 at h
  split at h
  ·rename_i e
   show c.c4 cg :: sL cg r=_;rw[Hq e,N9 h]
  ·cases h
theorem aaH{cg:hE} {v:b5} (h:v.free=true):v.c4 cg=v:=by
 cases v with
 | a x=>simp only[b5.c4]; rw[Hq h]
 | may g x=>simp only[b5.c4]; rw[Hq h]
 | dj xs=>simp only[b5.c4]; rw[N9 h]
theorem aaI{cg:hE} {b:cA} (h:b.free=true):b.c4 cg=b:=by
 cases b with
 | cells t cs=>simp only[cA.c4]; rw[Hp h]
 | bQ T T' g l c q=>rcases q with _ | ⟨i,_ | d⟩<;>first | rfl | cases h
 | _=>first | rfl | cases h
theorem Oa(cg:hE) (L:cQ) {V:List Nat}:vj V L (iC cg L):=b6.map (f:=fun v=>v.c4 cg) (fun _ h=>aaH h) fun _ _ h=>sM h
theorem Ob(i j:Nat):∀ H:bE,kh [j,i] H (mj (iD i j) H)
 | []=>b6.refl []
 | (k,b) :: r=>fun q v ao ad=>by
  obtain⟨J,U⟩:=e9 ao;obtain⟨U,_⟩:=e9 U;have bJ:=Ob i j r q v ao;unfold mj at ad;rw[cn];have y4:iD i j b.pX k=match Nat.beq k i with
   | true=>some j
   | false=>match Nat.beq k j with
    | true=>none
    | false=>some k:=rfl
  cases aC:Nat.beq k i with
  | true=>
   rw[y4,aC]at ad;dsimp only at ad;rw[cn,if_neg J]at ad
   have:=Nat.eq_of_beq_eq_true aC
   rw[if_neg (by omega)];exact bJ ad
  | false=>
   cases a1:Nat.beq k j with
   | true=>
    rw[y4,aC,a1]at ad;dsimp only at ad
    have:=Nat.eq_of_beq_eq_true a1
    rw[if_neg (by omega)];exact bJ ad
   | false=>
    rw[y4,aC,a1]at ad;dsimp only at ad;rw[cn]at ad
    split at ad
    ·rename_i e
     cases ad;rw[if_pos e];exact⟨b,rfl,fun az=>aaI az⟩
    ·rename_i e
     rw[if_neg e];exact bJ ad
theorem Oc:∀ (l:List (Nat×Nat)) (st:aM),cU (pk l) st (ha l st)
 | [],st=>cU.refl st
 | p :: l,st=>by
  have J:cU [p.2,p.1] st ⟨iC (iD p.1 p.2) st.L,mj (iD p.1 p.2) st.H⟩:=⟨Oa _ _,Ob _ _ _⟩
  exact J.trans (Oc l _)
theorem er.aaJ{X:bq} {n:Nat} {bA:er} {st st':aM} {h0:bE} {V:List Nat} {d:bA.D} (hw:∀ p∈fV bA.jY st.H,eA p.1 (ew bA.H)=false->aZ h0 p.1=some p.2) (aj:kh V h0 st'.H) (h:bA.get st V st'=some d):dk X n st' ⟨st'.L,(bA.S st d).H⟩:=by
 unfold er.get at h
 split at h
 ·rename_i jk e0 k3
  split at h
  ·rename_i h0 ez
   split at h
   ·rename_i u aC
    split at h
    ·rename_i om a1
     cases h;obtain⟨J,U⟩:=rv aC;obtain⟨ag,ay⟩:=BB a1;have tj:∀ p∈fV bA.jY st.H,aZ st'.H p.1=some p.2:=fun p an=>by
      obtain⟨g1,g2,v,g3⟩:=yG e0 an;obtain⟨u,g4,g5⟩:=aj p.1 v g1 g3;rw[hw p an g2]at g4;cases g4;rw[g3,g5 (nB an).2]
     rintro R W aD M a w ⟨ks,env,B,ai,H,cp,al⟩;have fT:iR st'.H (h0++fV bA.jY st.H):=B3 (sB ez) tj (by rw[yH ez]; exact k3);obtain⟨H',b7⟩:=al.en (st':=⟨[],h0++fV bA.jY st.H⟩) .nil fT;refine⟨ks,env,B,ai,H',cp,b7.size,b7.defs,al.has,?_,b7.aU,b7.sub,b7.new,b7.dt,b7.base,b7.dX⟩;show bt env B ai ((iV bA.H (ml bA.L (lU bA.T (oc bA.T om))).2).1++fV bA.jY st.H) H';rw[sV,ag];obtain⟨H1,H2,e,h9,hK⟩:=er.hG.bt.split (l:=h0) b7.heap;rw[e];exact(U _ _ _ _ h9).append hK
    ·cases h
   ·cases h
  ·cases h
 ·cases h
theorem Od{env:Nat->Loc} {B:Nat->Prop} {w:World}:∀ {is:List Nat} {H h H':bE} {C:List bc},rN is H=some (h,H')->bt env B w H C->∃ dB,C.Perm dB/\bt env B w (h++H') dB
 | [],H,h,H',C,an,c5=>by cases an; exact⟨C,List.Perm.refl _,c5⟩
 | i :: is,H,h,H',C,an,c5=>by
  unfold rN at an
  split at an
  ·rename_i b ae
   split at an
   ·rename_i J H1 e
    cases an;obtain⟨c,H2,aC,a1,cq⟩:=c5.erase ae;obtain⟨dB,ep,gh⟩:=Od e cq;exact⟨c :: dB,a1.trans (List.Perm.cons _ ep),⟨c,dB,rfl,aC,gh⟩⟩
   ·cases an
  ·cases an
theorem Oe:∀ {is:List Nat} {H h H':bE},rN is H=some (h,H')->kh is H H'
 | [],H,h,H',an=>by cases an; exact b6.refl _
 | i :: is,H,h,H',an=>by
  unfold rN at an
  split at an
  ·split at an
   ·rename_i J H1 e
    cases an;exact((Gg (id:=i) H).trans (Oe e)).more fun q ao=>by
     obtain⟨J,U⟩:=e9 ao;exact oj.2 ⟨U,o9.2 ⟨J,rfl⟩⟩
   ·cases an
  ·cases an
theorem aaK{st:aM} {is:List Nat} {h H':bE} (he:rN is st.H=some (h,H')):dk X n st ⟨st.L,h++H'⟩:=fun _ _ _ _ _ _ ⟨ks,env,B,ai,H,cp,al⟩=>by
 obtain⟨dB,aC,a1⟩:=Od he al.heap;exact⟨ks,env,B,ai,dB,cp,al.size,al.defs,al.has,a1,al.aU.perm (aC.append_right _),al.sub,al.new,al.dt,al.base,al.dX⟩
theorem Cv{ρ:Type} {f:FuncId} {h3:List e2} {H:bE} {K:(E:List fU)->List Nat->bE->List (dq (jW E []))->Option ρ} {r:ρ}:∀ {bC:List (ju X)},vY f h3 H K bC=some r->∃ e:ju X,e.f=f/\∃ h H' an l,rN (ew e.G) H=some (h,H')/\(∀ env B w C,bt env B w h C->bt env B w an C)/\Ch X f h3 an l (fun x=>(hs e.E x).1)/\K e.E (ew e.G) H' l=some r
 | [],h=>by cases h
 | e :: bC,h=>by
  unfold vY at h
  split at h
  ·rename_i b1 H' az aV
   split at h
   ·rename_i t aY
    split at h
    ·rename_i d ax
     obtain⟨l,J,U⟩:=ri h;have mE:=Nat.eq_of_beq_eq_true az;have aa:=Bx ax
     have:=e.ok d l J
     rw[aa]at this;exact⟨e,mE,b1,H',_,l,aV,(rv aY).2,mE ▸ this,U⟩
    ·exact Cv h
   ·exact Cv h
  ·exact Cv h
theorem er.aaL{bA:er} {L:cQ} {h0:bE} {d:bA.D} (h:bA.get ⟨L,h0⟩ [] ⟨L,h0⟩=some d) {env:Nat->Loc} {B:Nat->Prop} {w:World} {H:List bc} (ec:bt env B w h0 H):∃ H' Y,H.Perm (H'++Y)/\bt env B w (bA.S ⟨L,h0⟩ d).H H':=by
 have hw:∀ p∈fV bA.jY h0,eA p.1 (ew bA.H)=false->aZ h0 p.1=some p.2:=fun p an _=>(nB an).1
 have aj:kh [] h0 h0:=b6.refl _;unfold er.get at h
 split at h
 ·rename_i jk e0 k3
  split at h
  ·rename_i J ez
   split at h
   ·rename_i u aC
    split at h
    ·rename_i om a1
     cases h;obtain⟨g1,g2⟩:=rv aC;obtain⟨g3,g4⟩:=BB a1;have tj:∀ p∈fV bA.jY h0,aZ h0 p.1=some p.2:=fun p an=>(nB an).1
     have fT:iR h0 (J++fV bA.jY h0):=B3 (sB ez) tj (by rw[yH ez]; exact k3);obtain⟨H',Y,h9,hK⟩:=fT.AZ ec;refine⟨H',Y,h9,?_⟩;show bt env B w ((iV bA.H (ml bA.L (lU bA.T (oc bA.T om))).2).1++fV bA.jY h0) H';rw[sV,g3];obtain⟨H1,H2,e,c8,dL⟩:=bt.split (l:=J) hK;rw[e];exact(g2 _ _ _ _ c8).append dL
    ·cases h
   ·cases h
  ·cases h
 ·cases h
theorem aaM(cp:M=true) (Hr:rr=none) {ρ:Type} {Γ:hX X M n rr ρ} {g:Operand} {pl:List Nat} {rO body:Code} {m:Bool} {a:rL} (aS:∀ id,y9 X false n (some id) body a) {bV:e4} {st:aM} {k:m0 ρ} {r:ρ} (h:y8 X n bC m g pl rO a bV st k=some r):iI Γ (.rangeFunc g pl.toArray rO body) r st (mv X M n st k):=by
 subst cp;subst Hr;unfold y8 at h
 split at h
 ·rename_i eR bA x
  split at h
  ·rename_i ot hnL a6
   split at h
   ·rename_i c f h3 ms aV G4
    obtain⟨aa,h⟩:=hp h;obtain⟨e,aaN,b1,jt,an,l,pn,aaO,G2,h⟩:=Cv h;dsimp only at h
    split at h
    ·rename_i ho gH sx
     obtain⟨rK,aaP,iO⟩:=rM h;have aaQ:=Nat.eq_of_beq_eq_true ho;subst aaN;have mw:∀ {V:List Nat} {a8:bE},kh V jt a8->cU (V++(ew e.G++pk eR)) st ⟨iC (lx n) (ha eR st).L,a8⟩:=fun {V a8} ab=>(Oc eR st).trans (cU.trans (b:=⟨(ha eR st).L,jt⟩) ⟨b6.refl _,Oe pn⟩ ⟨Oa _ _,ab⟩) |>.more fun q ao=>by
      rw[<- List.append_assoc]at ao;exact ao
     have aaR:dk X n (ha eR st) ⟨(ha eR st).L,an++jt⟩:=fun R W aD M a w aO=>by
      obtain⟨ks,env,B,ai,H,cp,al⟩:=aaK (n:=n) pn _ _ _ _ _ _ aO;obtain⟨H1,H2,gh,c8,dL⟩:=bt.split (l:=b1) al.heap;exact⟨ks,env,B,ai,H,cp,al.size,al.defs,al.has,by rw[gh]; exact(aaO _ _ _ _ c8).append dL,al.aU,al.sub,al.new,al.dt,al.base,al.dX⟩
     refine y3 ((N6 ot).trans aaR.m) (ld (vT (aag (st:=⟨(ha eR st).L,an++jt⟩) (Q:=fun e s=>mv X true n st k e s r) aV aa e.az e.a6 e.ae G2 (fun x=>by rw[vZ]; exact aaQ) gH (aaG G4) sx a6 (fun y=>(bA.S ⟨(ha eR st).L,jt⟩ y).H) (fun l y=>l2 (y7 n bA ms pl (ew e.G++pk eR) e.E ⟨(ha eR st).L,jt⟩ a x k) l y (fun y=>k .normal (bA.ids++(ew e.G++pk eR)) ⟨iC (lx n) (ha eR st).L,(bA.S ⟨(ha eR st).L,jt⟩ y).H⟩)=some r) (fun e a8=>∃ V,cU V st ⟨iC (lx n) (ha eR st).L,a8⟩/\k e V ⟨iC (lx n) (ha eR st).L,a8⟩=some r) rK iO rfl (fun ec=>er.aaL aaP ec) ?_ ?_ ?_)) fun e s cv ⟨J,U⟩=>by rw[U]; exact J)
     ·intro id q rest y ao
      have nx:y7 n bA ms pl (ew e.G++pk eR) e.E ⟨(ha eR st).L,jt⟩ a x k q y (fun ga=>l2 (y7 n bA ms pl (ew e.G++pk eR) e.E ⟨(ha eR st).L,jt⟩ a x k) rest ga (fun y=>k .normal (bA.ids++(ew e.G++pk eR)) ⟨iC (lx n) (ha eR st).L,(bA.S ⟨(ha eR st).L,jt⟩ y).H⟩))=some r:=ao;unfold y7 at nx;refine EY (Hc (r:=r) fun R W aD=>aS id _ _ none l3.none _ _ _ _ nx) fun a1 s ⟨V,fl,hw,ev,aj⟩=>?_
      cases a1 with
      | normal=>
       obtain⟨d2,ag,ay⟩:=rM aj;exact .inl ⟨rfl,d2,ay,_,hw.trans (er.aaJ (j1.step bA ⟨(ha eR st).L,jt⟩ y).2 ev.2 ag).m⟩
      | ret=>exact .inr ⟨(fun h=>by cases h),rfl,fl.H,⟨_,mw ((er.ks bA ⟨(ha eR st).L,jt⟩ y).2.trans ev.2),aj⟩,fl.L,hw⟩
      | exit i=>exact .inr ⟨(fun h=>by cases h),rfl,fl.H,⟨_,mw ((er.ks bA ⟨(ha eR st).L,jt⟩ y).2.trans ev.2),aj⟩,fl.L,hw⟩
      | _=>cases aj
     ·intro y aH
      exact⟨_,_,hL.refl _,mw (er.ks bA ⟨(ha eR st).L,jt⟩ y).2,aH⟩
     ·rintro a1 a8 ⟨V,ag,ay⟩
      exact⟨V,_,hL.refl _,ag,ay⟩
    ·cases h
   ·cases h
  ·cases h
 ·cases h
theorem m1(av:X.a7.ok X.P) (hm:X.P.follows .mixedOrders=true):∀ (c:Code) (m M:Bool) (rr:Option Nat),(m=true->M=true/\rr=none)->y9 X M n rr c (fun cD bV st k=>ih X N n T bC m c cD bV st k)
 | .skip,m,M,rr,_=>fun ρ Γ cD aH bV st k r h=>by
  obtain⟨V,fl,hw,ev,aj⟩:=vW (X:=X) (cU.refl (V:=[]) st) (show mu n bV.vV [] st (fun V st'=>k .normal V st')=some r by cases m<;>exact h);exact ld (vT (Tn (Q:=fun e s=>mv X M n st k e s r) ⟨V,fl,hw.m,ev,aj⟩)) fun e s cv ⟨J,U⟩=>U ▸ J
 | .exit id,m,M,rr,_=>fun ρ Γ cD aH bV st k r h=>by
  obtain⟨V,fl,hw,ev,aj⟩:=vW (X:=X) (cU.refl (V:=[]) st) (show mu n bV.vV [] st (fun V st'=>k (.exit id) V st')=some r by cases m<;>exact h);exact ld (vT (To (Q:=fun e s=>mv X M n st k e s r) ⟨V,fl,hw.m,ev,aj⟩)) fun e s cv ⟨J,U⟩=>U ▸ J
 | .ret,m,M,rr,_=>fun ρ Γ cD aH bV st k r h=>by
  obtain⟨V,fl,hw,ev,aj⟩:=vW (X:=X) (cU.refl (V:=[]) st) (show mu n bV.vV [] st (fun V st'=>k .ret V st')=some r by cases m<;>exact h);exact ld (vT (Tp (Q:=fun e s=>mv X M n st k e s r) ⟨V,fl,hw.m,ev,aj⟩)) fun e s cv ⟨J,U⟩=>U ▸ J
 | .label l,m,M,rr,_=>fun ρ Γ cD aH bV st k r h=>by
  exact ld (vT (W8 (Q:=fun e s=>mv X M n st k e s r) ⟨[],st,hL.refl _,cU.refl st,by cases m<;>exact h⟩)) fun e s cv ⟨J,U⟩=>U ▸ J
 | .region id ops false,m,M,rr,_=>fun ρ Γ cD aH bV st k r h=>by
  have a8:gY X n T cD (ef ops.toList) bV.ins ops.toList [] [] [] st (fun V st'=>k .normal V st')=some r:=by cases m<;>exact(tv st _).symm.trans h
  intro a w hi;have eB:yE X n ops.toList (fun l r ql=>∀ a w,Γ.In r ql a w->pF rr X.P ops.toList.toArray (fun e a w=>∃ s cv,mv X M n st k e s cv/\Γ.In cv s a w) l a w):=⟨fun aj au a w hi=>D9 (Γ.step aj hi fun a w h=>au a w h),fun hw au a w hi=>au a w (Γ.en hw.m hi)⟩
  have:=Ei (id:=id) (lZ (st0:=st) (T:=T) (is:=bV.ins) (V:=[]) (A:=[]) av eB (aH _ _) dS.nil (cU.refl (V:=[]) st) a8 (fun V fl cv ev aj a w hi=>J4 ⟨fl,cv,⟨V,fl,hL.refl _,ev,aj⟩,hi⟩) a w hi)
  exact this
 | .region id ops true,m,M,rr,_=>fun ρ Γ cD aH bV st k r h=>by
  have a8:mu n bV.pre [] st (fun Cs st=>qp st fun st=>match Nat.beq ops.toList.length (qo bV.mZ.2.1)with
   | true=>vP X n T ops.toList bV.mZ.1 bV.mZ.2.1 ⟨Array.replicate (qo bV.mZ.2.1) false,true,true,true,bV.NW⟩ [] Cs [] st fun V st'=>mu n bV.mZ.2.2 V st' fun V st'=>k .normal V st'
   | false=>none)=some r:=by cases m<;>exact(tv st _).symm.trans h
  obtain⟨Cs,vG,Cw,h0,a8⟩:=vW (X:=X) (cU.refl (V:=[]) st) a8;rw[tv]at a8
  split at a8
  ·rename_i e
   have ad:=Nat.eq_of_beq_eq_true e
   have:=TI (X:=X) (M:=M) (n:=n) (st:=vG) (Q:=fun e s=>mv X M n st k e s r) (ops:=ops.toList) (id:=id) (r:=rr) bV.mZ.1 hm ad (GQ (t:=bV.mZ.2.1) av (k:=fun V st'=>mu n bV.mZ.2.2 V st' fun V st'=>k .normal V st') (fun V st' ev aj=>by
    obtain⟨V2,s2,hw,tx,hx⟩:=vW (X:=X) ev aj;exact⟨V2,s2,hw.m,tx,hx⟩) dS.nil h0 a8)
   exact y3 Cw.m (ld (vT this) fun e s cv ⟨J,U⟩=>U ▸ J)
  ·cases a8
 | .seq a b,m,M,rr,m2=>fun ρ Γ cD aH bV st k r h=>aaE aH (m1 av hm a m M rr m2) (m1 av hm b m M rr m2) (show Cq cD bV (fun cD bV st k=>ih X N n T bC m a cD bV st k) (fun cD bV st k=>ih X N n T bC m b cD bV st k) st k=some r by cases m<;>exact h)
 | .cond x a b,m,M,rr,m2=>fun ρ Γ cD aH bV st k r h=>by
  have a8:(match bw X st.L x with
   | some (g,.c (.val (.bool q)))=>ar g (cond q (ih X N n T bC m a cD bV.fst st k) (ih X N n T bC m b cD bV.snd st k))
   | _=>none)=some r:=by cases m<;>exact h
  split at a8
  ·rename_i g q ah
   obtain⟨aV,a8⟩:=hp a8;exact aat ah aV (fun ao=>m1 av hm a m M rr m2 _ Γ cD aH _ _ _ _ (WM ao a8)) (fun ao=>m1 av hm b m M rr m2 _ Γ cD aH _ _ _ _ (WN ao a8))
  ·cases a8
 | .block id a,m,M,rr,m2=>fun ρ Γ cD aH bV st k r h=>by
  have a8:(ih X N n T bC m a cD bV.fst st fun e V st'=>match e with
   | .exit i=>match Nat.beq i id with
    | true=>k .normal V st'
    | false=>k (.exit i) V st'
   | e=>k e V st')=some r:=by cases m<;>exact h
  refine aau (ld (m1 av hm a m M rr m2 _ Γ cD aH _ _ _ _ a8) fun e s cv ⟨V,fl,hw,ev,aj⟩=>?_);cases e with
  | exit i=>
   show match Nat.beq i id with | true=>mv X M n st k .normal s cv | false=>mv X M n st k (.exit i) s cv
   simp only at aj
   split at aj
   ·exact⟨V,fl,hw,ev,aj⟩
   ·exact⟨V,fl,hw,ev,aj⟩
  | _=>exact⟨V,fl,hw,ev,aj⟩
 | .scope a,m,M,rr,m2=>fun ρ Γ cD aH bV st k r h=>by
  have a8:(ih X N n T bC m a cD bV.fst st fun e V st'=>match e with
   | .goto _=>none
   | e=>k e V st')=some r:=by cases m<;>exact h
  refine aaw (ld (m1 av hm a m M rr m2 _ Γ cD aH _ _ _ _ a8) fun e s cv ⟨V,fl,hw,ev,aj⟩=>?_);cases e with
  | goto l=>cases aj
  | _=>exact⟨V,fl,hw,ev,aj⟩
 | .loop a,m,M,rr,m2=>fun ρ Γ cD aH bV st k r h=>aaF aH (m1 av hm a m M rr m2) (show Cr N cD bV (fun cD bV st k=>ih X N n T bC m a cD bV st k) st k=some r by cases m<;>exact(tv st _).symm.trans h)
 | .rangeFunc g ps rO body,m,M,rr,m2=>fun ρ Γ cD aH bV st k r h=>by
  have a8:y8 X n bC m g ps.toList rO (fun cD bV st k=>ih X N n T bC false body cD bV st k) bV st k=some r:=by cases m<;>exact(tv st _).symm.trans h
  cases m with
  | false=>
   unfold y8 at a8
   split at a8
   ·cases a8
   ·cases a8
  | true=>
   obtain⟨J,U⟩:=m2 rfl;exact aaM J U (fun id=>m1 av hm body false false (some id) (fun h=>by cases h)) a8
 | .goto _,m,_,_,_=>fun _ _ _ _ _ _ _ _ h=>by cases m<;>cases h
 | .refuse _,m,_,_,_=>fun _ _ _ _ _ _ _ _ h=>by cases m<;>cases h
structure gC where
 R:jX
 H:List (Nat×gX):=[]
 k:List Nat:=[]
abbrev gC.ty (R:gC):Type:=x4 (R.R.LT (lV R.H []))
def gC.out(R:gC) (mY:bE) (r:R.ty):b5×bE:=((R.R.S (lU _ r)).1,(iV R.H (R.R.S (lU _ r)).2).1++fV R.k mY)
def gC.get(R:gC) (mY:bE) (V:List Nat) (H:bE) (sv:b5):Option R.ty:=
 match vH V (ew R.H) H (fV R.k mY),n4 (ew R.H++ew (fV R.k mY))with
 | true,true=>match pS H (ew R.H)with
  | some h=>match sX (T:=[]) R.H h ()with
   | some u=>match R.R.get sv u with
    | some u=>some (oc _ u)
    | none=>none
   | none=>none
  | none=>none
 | _,_=>none
theorem gC.hG{R:gC} {st0 st:aM} {V:List Nat} {sv:b5} {r:R.ty} (aj:cU V st0 st) (h:R.get st0.H V st.H sv=some r):∃ b1,od sv (R.out st0.H r).1/\iR st.H b1/\∀ env B w H,bt env B w b1 H->bt env B w (R.out st0.H r).2 H:=by
 unfold gC.get at h
 split at h
 ·rename_i e0 k3
  split at h
  ·rename_i h0 ez
   split at h
   ·rename_i u aC
    split at h
    ·rename_i om a1
     cases h;obtain⟨J,U⟩:=rv aC;obtain⟨ag,ay⟩:=jX.hG a1;have tj:∀ p∈fV R.k st0.H,aZ st.H p.1=some p.2:=fun p an=>by
      obtain⟨g1,g2,v,g3⟩:=yG e0 an;obtain⟨u,g4,g5⟩:=aj.2 p.1 v g1 g3;rw[(nB an).1]at g4;cases g4;rw[g3,g5 (nB an).2]
     refine⟨h0++fV R.k st0.H,?_,B3 (sB ez) tj (by rw[yH ez]; exact k3),fun env B w H b1=>?_⟩
     ·show od sv (R.R.S (lU _ (oc _ om))).1
      rw[sV];exact ay
     ·show bt env B w ((iV R.H (R.R.S (lU _ (oc _ om))).2).1++fV R.k st0.H) H
      rw[sV,ag];obtain⟨H1,H2,e,h9,hK⟩:=er.hG.bt.split (l:=h0) b1;rw[e];exact(U _ _ _ _ h9).append hK
    ·cases h
   ·cases h
  ·cases h
 ·cases h
noncomputable def Hs (X:bq) (res:List ResultVar) (R:gC) (mY:bE):m0 R.ty
 | .goto _,_,_=>none
 | .exit _,_,_=>none
 | .panic _,_,_=>none
 | .outgrown,_,_=>none
 | _,V,st=>match n2 X st res with
  | some (c,sv)=>ar c (R.get mY V st.H sv)
  | none=>none
abbrev qq (A:List fU) (dc:List (Nat×gX)):Type:=dq (jW A (lV dc []))
def gK(A:List fU) (dc:List (Nat×gX)) (d:qq A dc):List bh×bE:=((hs A d).1,(iV dc (hs A d).2).1)
noncomputable def Cx (X:bq) (N n:Nat) (T:List (bz X)) (bC:List (ju X)) (c:Code) (bV:e4) (res:List ResultVar) (A:List fU) (dc:List (Nat×gX)) (R:gC) (d:qq A dc):Option R.ty:=
 ih X N n T bC true c none bV ⟨lq 0 (gK A dc d).1,(gK A dc d).2⟩ (Hs X res R (gK A dc d).2)
theorem AC.aaS{f:FuncId} {args:List bh} {h:bE} {Q za:b5->bE->Prop} (c5:AC X f args h Q) (ao:∀ sv a8,Q sv a8->∃ pq U aj,od sv pq/\iR a8 aj/\(∀ env B w H,bt env B w aj H->bt env B w U H)/\za pq U):AC X f args h za:=fun B ai env vs H W aV aS b1 aj=>by
 refine oH.mono (c5 B ai env vs H W aV aS b1 aj) fun v w' ⟨env',B',cJ,H',sv,a8,J,U,ag,ay,aO,aK,bY,c3⟩=>?_
 obtain⟨pq,sG,aaT,c8,dL,fA,hg⟩:=ao sv a8 J;obtain⟨H2,Y,h9,hK⟩:=dL.AZ aK;exact⟨env',B',cJ,H2,pq,sG,hg,U,ag,ay,c8 _ _ _ _ aO,fA _ _ _ _ hK,(bY.perm h9).en (List.sublist_append_left _ _),c3⟩
theorem Of(N:Nat) (av:X.a7.ok X.P) (hm:X.P.follows .mixedOrders=true) {f:FuncId} {fn:Func} {c:Code} {A:List fU} {dc:List (Nat×gX)} {R:gC} (T:List (bz X)) (bC:List (ju X)) (bV:e4) {res:List ResultVar} (az:X.P.funcs[f]?=some fn) (ae:fn.body=some c) (aT:fn.ntmps=n) (ad:Nat.ble A.length n=true) (a6:Nat.ble n ix=true) (au:fn.results=res.toArray)
  {d:qq A dc} {r:R.ty} (h:Cx X N n T bC c bV res A dc R d=some r):AC X f (gK A dc d).1 (gK A dc d).2 (fun sv h=>sv=(R.out (gK A dc d).2 r).1/\h=(R.out (gK A dc d).2 r).2):=by
 refine AC.aaS (aay (Q:=fun sv a8=>∃ aj,od sv (R.out (gK A dc d).2 r).1/\iR a8 aj/\∀ env B w H,bt env B w aj H->bt env B w (R.out (gK A dc d).2 r).2 H) av az ae aT (by show Nat.ble (hs A d).1.length n=true; rw[vZ]; exact ad) a6 au (EY (Hc (r:=r) fun kI aaU aaV=>m1 av hm c true true none (fun _=>⟨rfl,rfl⟩) _ _ none l3.none _ _ _ _ (show ih X N n T bC true c none bV _ _=some r from h)) fun e s ⟨V,fl,hw,ev,aj⟩=>?_)) fun sv a8 ⟨aj,c8,dL,fA⟩=>⟨_,_,aj,c8,dL,fA,rfl,rfl⟩
 have key:(match n2 X fl res with
  | some (c,sv)=>ar c (R.get (gK A dc d).2 V fl.H sv)
  | none=>none)=some r->∃ st',hL X true n s st'/\∃ c sv,n2 X st' res=some (c,sv)/\c=true/\∃ aj,od sv (R.out (gK A dc d).2 r).1/\iR st'.H aj/\∀ env B w H,bt env B w aj H->bt env B w (R.out (gK A dc d).2 r).2 H:=fun ab=>by
  split at ab
  ·rename_i c sv aC
   obtain⟨aa,ab⟩:=hp ab;exact⟨fl,hw,c,sv,aC,aa,gC.hG ev ab⟩
  ·cases ab
 cases e with
 | ret=>exact⟨.inl rfl,key aj⟩
 | normal=>exact⟨.inr rfl,key aj⟩
 | _=>cases aj
def b2 (N : Nat) (av : X.a7.ok X.P) (hm : X.P.follows .mixedOrders = true) {fn : Func} {c : Code} (A : List fU) (dc : List (Nat × gX)) (R : gC) (T : List (bz X)) (bC : List (ju X)) (bV : e4) (res : List ResultVar) (f : FuncId) (k2 : R.ty) (m : qq A dc → Option R.ty) (az : X.P.funcs[f]? = some fn) (aV : (fn.name == "runtime.NumGoroutine") = false) (ae : fn.body = some c) (aT : fn.ntmps = n) (ad : Nat.ble A.length n = true) (a6 : Nat.ble n ix = true) (au : fn.results = res.toArray)
  (h:∀ d,Cx X N n T bC c bV res A dc R d=m d):bz X:=
 { f:=f,fn:=fn,A:=A,dc:=dc,ρ:=R.ty,k2:=k2,m:=m,out:=fun d r=>R.out (gK A dc d).2 r,az:=az,a6:=aV,ae:=by rw[ae]; rfl,ok:=fun d r he=>Of N av hm T bC bV az ae aT ad a6 au ((h d).trans he) }
def v7 (N : Nat) (av : X.a7.ok X.P) (hm : X.P.follows .mixedOrders = true) {fn : Func} {c : Code} (A : List fU) (dc : List (Nat × gX)) (R : gC) (T : List (bz X)) (bC : List (ju X)) (bV : e4) (res : List ResultVar) (f : FuncId) (k2 : R.ty) (m cI : qq A dc → Option R.ty) (heq : ∀ d, m d = cI d) (az : X.P.funcs[f]? = some fn) (aV : (fn.name == "runtime.NumGoroutine") = false) (ae : fn.body = some c) (aT : fn.ntmps = n) (ad : Nat.ble A.length n = true) (a6 : Nat.ble n ix = true) (au : fn.results = res.toArray)
  (h:∀ d,Cx X N n T bC c bV res A dc R d=m d):bz X:=
 { f:=f,fn:=fn,A:=A,dc:=dc,ρ:=R.ty,k2:=k2,m:=cI,out:=fun d r=>R.out (gK A dc d).2 r,az:=az,a6:=aV,ae:=by rw[ae]; rfl,ok:=fun d r he=>Of N av hm T bC bV az ae aT ad a6 au ((h d).trans ((heq d).trans he)) }
end
end

theorem v8{gJ ρ:Type} {step:gJ->(gJ->Option ρ)->Option ρ} (I:Nat->gJ->Prop) (post:ρ->Prop)
  (h:∀ k d rec,I k d->(∀ k' ga,k' < k->I k' ga->∃ r,rec ga=some r/\post r)->∃ r,step d rec=some r/\post r):∀ n k d,k < n->I k d->∃ r,ch step n d=some r/\post r
 | 0,_,_,ab,_=>by omega
 | n+1,k,d,ab,gI=>h k d _ gI fun k' ga kS zb=>v8 I post h n k' ga (by omega) zb
theorem eU{gJ ρ:Type} {step:gJ->(gJ->Option ρ)->Option ρ} (I:Nat->gJ->Prop) (r:ρ)
  (h:∀ k d rec,I k d->(∀ k' ga,k' < k->I k' ga->rec ga=some r)->step d rec=some r) (n k:Nat) (d:gJ) (ab:k < n) (gI:I k d):ch step n d=some r:=by
 obtain⟨cv,J,rfl⟩:=v8 I (fun x=>x=r) (fun k d rec gI au=>⟨r,h k d rec gI (fun k' ga kS zb=>by obtain⟨_,J,rfl⟩:=au k' ga kS zb; exact J),rfl⟩) n k d ab gI;exact J
theorem da{α:Type} {c:Bool} {x:Option α} (h:c=true):ar c x=x:=by rw[h]; rfl

section
set_option linter.unusedSimpArgs false
set_option linter.unusedVariables false
open Go.RowKit
abbrev bf:ba:=.pair (.int .u8) (.int .i64)
abbrev aB:Type:=Int×Int
abbrev b3:ba:=.pair (.int .u8) (.ak bf)
abbrev bD:Type:=Int×(List aB)
abbrev ds:ba:=.pair bf (.pair .bool (.int .u8))
abbrev cF:Type:=aB×(Bool×Int)
abbrev aaW:ba:=.pair (.ak bf) (.ak bf)
abbrev aaX:Type:=(List aB)×(List aB)
abbrev bN:ba:=.pair (.int .u8) (.pair (.int .u8) (.pair (.int .i64) (.pair (.int .i64) .bool)))
abbrev aN:Type:=Int×(Int×(Int×(Int×Bool)))
abbrev bW:ba:=.pair bf (.pair bf (.int .i64))
abbrev b9:Type:=aB×(aB×Int)
abbrev wa:ba:=.pair (.int .i64) (.pair .bool (.ak ds))
abbrev Ht:Type:=Int×(Bool×(List cF))
abbrev cO:ba:=.pair .bool (.pair (.int .i64) wa)
abbrev bL:Type:=Bool×(Int×Ht)
abbrev bT:ba:=.pair (.int .u8) (.pair .bool (.pair (.ak bf) (.ak ds)))
abbrev aQ:Type:=Int×(Bool×((List aB)×(List cF)))
abbrev fW:ba:=.pair (.ak (.ak bT)) (.pair (.ak bW) aaW)
abbrev eC:Type:=(List (List aQ))×((List b9)×aaX)
abbrev hH:ba:=.pair (.ak b3) (.pair (.ak cO) (.pair fW (.int .u8)))
abbrev eV:Type:=(List bD)×((List bL)×(eC×Int))
end

section
set_option linter.unusedSimpArgs false
set_option linter.unusedVariables false
open Go.RowKit
def mx(N:Nat) (a0:aN):Option (Int):=
  cond (cond (cond (cond (decide (a0.1 < (1:Int))) true (decide ((8:Int) < a0.1))) true (decide (a0.2.1 < (1:Int)))) true (decide ((6:Int) < a0.2.1))) (some (1:Int)) (cond (!(decide (a0.1=(8:Int)))) (cond (cond (cond (!(decide (a0.2.2.1=(0:Int)))) true (!(decide (a0.2.2.2.1=(0:Int))))) true a0.2.2.2.2) (some (1:Int)) (some (0:Int))) (ar ((fr (!(cond (cond (decide (a0.2.2.1 < (1:Int))) true (decide ((4:Int) < a0.2.2.1))) true (decide (a0.2.2.2.1 < (1:Int))))) (bl ((4:Int) - a0.2.2.1)))&&(true)) <|
  cond (cond (cond (cond (decide (a0.2.2.1 < (1:Int))) true (decide ((4:Int) < a0.2.2.1))) true (decide (a0.2.2.2.1 < (1:Int)))) true (decide (((4:Int) - a0.2.2.1) < a0.2.2.2.1))) (some (1:Int)) (some (0:Int))))
noncomputable def zc (N:Nat):bz bS:=b2 N bU (by kernel_rfl) [.c9 bN] [] ⟨.a (.c (.int .i64)),[],[]⟩ [] [] (.s (.r [.n 2,.w (.b4 1 bN)]) .d) [.tmp 2] 78 0 (fun d=>mx N d.1) Tryz.func78 rfl rfl Tryz.ntmps78 rfl rfl rfl (fun d=>by kernel_rfl)
def qs(N:Nat) (a0:aN):Option (Int):=
  Option.bind (mx N a0) fun aP=>
  cond (!(decide (aP=(0:Int)))) (some (0:Int)) (cond (decide (a0.1=(3:Int))) (some (0:Int)) (Option.bind (cond (decide (a0.1=(4:Int))) (some (decide (a0.1=(4:Int)))) (some (decide (a0.1=(5:Int))))) fun bM=>
  cond bM (some (2:Int)) (cond (decide (a0.1=(8:Int))) (ar ((bl (a0.2.2.1+a0.2.2.2.1))&&(true)) <|
  some (a0.2.2.1+a0.2.2.2.1)) (some (1:Int)))))
noncomputable def Cy (N:Nat):bz bS:=b2 N bU (by kernel_rfl) [.c9 bN] [] ⟨.a (.c (.int .i64)),[],[]⟩ [zc N] [] (.s (.r [.n 2,.w (.b4 1 bN)]) (.s .d (.s (.s .d (.b (.s .d (.c .d (.j ⟨[(10,.a (.c .bool))],[],[1,7],[]⟩ .d .d))))) .d))) [.tmp 2] 40 0 (fun d=>qs N d.1) Tryz.func40 rfl rfl Tryz.ntmps40 rfl rfl rfl (fun d=>by kernel_rfl)
def rP(N:Nat) (a0:aN):Option (Int):=
  Option.bind (mx N a0) fun aP=>
  cond (!(decide (aP=(0:Int)))) (some (0:Int)) (cond (decide (a0.1=(8:Int))) (ar ((bl (a0.2.2.1+a0.2.2.2.1))&&(true)) <|
  some (a0.2.2.1+a0.2.2.2.1)) (some (1:Int)))
noncomputable def Og (N:Nat):bz bS:=b2 N bU (by kernel_rfl) [.c9 bN] [] ⟨.a (.c (.int .i64)),[],[]⟩ [zc N] [] (.s (.r [.n 2,.w (.b4 1 bN)]) .d) [.tmp 2] 41 0 (fun d=>rP N d.1) Tryz.func41 rfl rfl Tryz.ntmps41 rfl rfl rfl (fun d=>by kernel_rfl)
def Hu(N:Nat) (a0:(List aN)) (aq:Int):Nat->(Int×Int)->Option (Int):=ch fun d1 cz=>
  cond (decide (d1.2 < (a0.length:Int))) (ar ((aR d1.2 a0.length)&&(true)) <|
  cond (decide ((a0.getD d1.2.toNat bN.zero).2.1=aq)) (ar ((bl (d1.1+(1:Int)))&&(true)) <|
  ar ((bl (d1.2+(1:Int)))&&(true)) <|
  cz ((d1.1+(1:Int)),(d1.2+(1:Int)))) (ar ((bl (d1.2+(1:Int)))&&(true)) <|
  cz (d1.1,(d1.2+(1:Int))))) (some d1.1)
def wb(N:Nat) (a0:(List aN)) (aq:Int):Option (Int):=
  Option.bind (Hu N a0 aq N ((0:Int),(0:Int))) fun bj=>
  some bj
noncomputable def aaY (N:Nat):bz bS:=b2 N bU (by kernel_rfl) [.c (.bd bN),.c (.int .u8)] [] ⟨.a (.c (.int .i64)),[],[]⟩ [] [] (.s .d (.s .d (.s (.s .d (.b (.eb 0 ⟨[(5,.a (.c (.int .i64))),(10,.a (.c (.int .i64)))],[],[1,8,9],[]⟩ ⟨[(5,.a (.c (.int .i64)))],[],[],[]⟩ (.s .d (.s .d (.s (.b (.s (.r [.n 4,.w (.b4 7 bN)]) .d)) .d)))))) .d))) [.tmp 4] 21 0 (fun d=>wb N d.1 d.2.1) Tryz.func21 rfl rfl Tryz.ntmps21 rfl rfl rfl (fun d=>by kernel_rfl)
def Hv(N:Nat) (a0:(List aN)):Nat->(Int×Int)->Option (Int):=ch fun d1 cz=>
  cond (decide (d1.2 < (a0.length:Int))) (ar ((aR d1.2 a0.length)&&(true)) <|
  ar ((bl (d1.2+(1:Int)))&&(true)) <|
  cz ((if (a0.getD d1.2.toNat bN.zero).2.1 < d1.1 then(a0.getD d1.2.toNat bN.zero).2.1 else d1.1),(d1.2+(1:Int)))) (some d1.1)
def wc(N:Nat) (a0:(List aN)):Option (Int):=
  cond (decide ((a0.length:Int)=(0:Int))) (some (0:Int)) (ar ((aR (0:Int) a0.length)&&(true)) <|
  Option.bind (Hv N a0 N ((a0.getD (0:Int).toNat bN.zero).2.1,(0:Int))) fun bj=>
  some bj)
noncomputable def Hw (N:Nat):bz bS:=b2 N bU (by kernel_rfl) [.c (.bd bN)] [] ⟨.a (.c (.int .u8)),[],[]⟩ [] [] (.s .d (.s .d (.s .d (.s (.s .d (.b (.eb 0 ⟨[(3,.a (.c (.int .u8))),(15,.a (.c (.int .i64)))],[],[13,14],[]⟩ ⟨[(3,.a (.c (.int .u8)))],[],[],[]⟩ (.s .d (.s .d (.s (.b (.s (.r [.n 4,.w (.b4 5 bN)]) .d)) .d)))))) .d)))) [.tmp 2] 10 0 (fun d=>wc N d.1) Tryz.func10 rfl rfl Tryz.ntmps10 rfl rfl rfl (fun d=>by kernel_rfl)
end

section
theorem bI.Oh{X:bq} {kI C dB c1 B':Nat->Prop} {cW ai w dZ:World} {n:Nat} {ks:List Nat} {env:Nat->Loc} {H:List bc} {st:aM} {a:Act} (h:bI X (fun k=>kI k\/C k) cW ⟨c1,fun _ _=>False,[]⟩ n ks env B' ai H st a w) (aV:oq B' C dB w dZ) (c5:∀ k,dB k->k < dZ.heap.size) {d:Nat} (ax:Nat.blt d n=true) (v:Value) :
  bI X (fun k=>kI k\/dB k) dZ ⟨B',fun _ _=>False,[]⟩ n ks env B' dZ H ⟨(d,.c (.val v)) :: st.L,st.H⟩ (a.put (some d) v) dZ:=by
 have aJ:=h.cb.put d v (dK ax);have aL:∀ k,(kI k\/C k)\/B' k->k < w.heap.size:=fun k ab=>h.aU.base k ab
 have lS:∀ k,B' k->dZ.heap[k]?=w.heap[k]?:=fun k ab=>aV.e6.block k (.inl ab)
 have dp:fJ B' ai B' dZ:=⟨fun _ h=>h,fun k ab=>(lS k ab).trans (h.aU.below.block k (.inr ab))⟩
 have lv:∀ b,b < w.heap.size->¬ ((kI b\/C b)\/B' b)->¬ (kI b\/dB b):=fun b ae a6 au=>by
  rcases au with au | au
  ·exact a6 (.inl (.inl au))
  ·rcases aV.new b au with J | J | J
   ·exact a6 (.inl (.inr J))
   ·omega
   ·exact a6 (.inr J)
 refine⟨aJ.size,aJ.defs,fun s sv aj=>?_,h.heap.up dp,⟨dm.refl _ _,fun k ab=>?_,fun c aa=>?_,h.aU.apart⟩,fun _ h=>h,fun _ h=>.inl h,fun _ _ h=>h.elim,dm.refl _ _,fun i x ah=>(h.dX i x ah).up dp⟩
 ·rw[cn]at aj
  split at aj
  ·rename_i e; subst e; cases aj; exact⟨v,aJ.this,rfl⟩
  ·rename_i e
   obtain⟨u,J,U⟩:=h.has s sv aj;exact⟨u,aJ.other e J,U.up dp⟩
 ·rcases ab with(ab | ab) | ab
  ·exact Nat.lt_of_lt_of_le (aL k (.inl (.inl ab))) aV.e6.size
  ·exact c5 k ab
  ·exact Nat.lt_of_lt_of_le (aL k (.inr ab)) aV.e6.size
 ·have gO:=h.aU.ok c aa
  have nC:=gO.e6 (w':=dZ) fun b ae=>aV.e6.block b (.inr ⟨(gO.lt ae).2,fun aaZ=>(gO.lt ae).1 (.inl (.inr aaZ))⟩)
  exact nC.base fun b ae au=>by
   rcases au with au | au
   ·exact lv b (gO.lt ae).2 (gO.lt ae).1 au
   ·exact(gO.lt ae).1 (.inr au)
section
variable {X:bq} {n:Nat} {α:Type}
def hX.it(kI:Nat->Prop) (eE:List α->(Nat->Prop)->(Nat->Prop)->World->Prop) (j3:Unit->(Nat->Prop)->World->Prop):hX X true n none (List α) where
 In r st a w:=∃ C cW c1,(eE r C c1 cW\/(r=[]/\j3 () C cW))/\lL X (fun k=>kI k\/C k) cW ⟨c1,fun _ _=>False,[]⟩ true n st a w
 frame h hi:=by
  obtain⟨C,cW,c1,J,ag⟩:=hi;exact wpIn_mono (h _ _ _ _ _ ag) fun _ _ _ ⟨s,ay,aO⟩=>⟨s,ay,C,cW,c1,J,aO⟩
 step h hi KK bZ:=by
  obtain⟨C,cW,c1,J,ks,env,B',ai,H,cp,al⟩:=hi;exact h _ _ _ _ _ _ _ _ _ _ al _ fun aW w' env' B' cJ H' b7=>bZ _ _ ⟨C,cW,c1,J,ks,env',B',cJ,H',cp,b7⟩
 en h hi:=by
  obtain⟨C,cW,c1,J,ag⟩:=hi;exact⟨C,cW,c1,J,h _ _ _ _ _ ag⟩
 y2 hi:=by
  obtain⟨C,cW,c1,J,ks,env,B',ai,H,cp,al⟩:=hi;exact⟨_,_,_,_,_,_,_,_,al⟩
def we{α:Type} (b:Bool) (x:α) (f t:Option (List α)):Option (List α):=match b,f,t with
 | true,some [],some l=>some (x :: l)
 | _,_,_=>none
def Cz(E:List fU) (id l:Nat) (args:List bh) (f t:Option (List (dq (jW E [])))):Option (List (dq (jW E []))):=match k4 args,vc (T:=[]) E args ()with
 | true,some x=>we (Nat.beq l id) x f t
 | _,_=>none
theorem YieldAt.zero{P:Program} {l:Nat} {args:Array Value} {W:World} {R:Ending->World->Prop} (h:YieldAt Fence.wide 1 P l args W R):YieldAt Fence.wide 0 P l args W R:=by
 obtain⟨fn,tmps,assign,body,J,U,ag⟩:=h;exact⟨fn,tmps,assign,body,J,U,fun c cs _=>ag c cs (room_wide _)⟩
theorem aa0{sv:Option b5} {l:Nat} (h:tg sv=some l):sv=some (.a (.c (.val (.func (.yield l) #[] #[])))):=by
 unfold tg at h
 split at h
 ·cases h; rfl
 ·cases h
theorem dF.no{env:Nat->Loc} {B:Nat->Prop} {w:World}:∀ {xs:List bh} {vs:List Value},k4 xs=true->dF env B w xs vs->dF (fun _=>.no) B w xs vs
 | [],_,_,h=>h
 | .c x :: xs,_,az,⟨v,r,e,J,U⟩=>by
  unfold k4 at az
  split at az
  ·rename_i ah
   refine⟨v,r,e,?_,dF.no az U⟩;have mQ:x.free=true:=ah;cases x with
   | fn f cs=>
    obtain⟨vs,e,an⟩:=J;exact⟨vs,e,an.Fg mQ⟩
   | _=>first | exact J | cases mQ
  ·cases az
 | .agg cs :: xs,_,az,⟨v,r,e,⟨vs,a1,J⟩,U⟩=>by
  unfold k4 at az
  split at az
  ·rename_i ah
   refine⟨v,r,e,⟨vs,a1,?_⟩,dF.no az U⟩;have mQ:qe cs=true:=ah
   clear ah e a1 U
   induction cs generalizing vs with
   | nil=>exact J
   | cons x cs bJ=>
    obtain⟨v,r,e,ag,ay⟩:=J;unfold qe at mQ
    split at mQ
    ·rename_i nE
     refine⟨v,r,e,?_,bJ _ ay mQ⟩;cases x with
     | fn f cs=>
      obtain⟨vs,e,an⟩:=ag;exact⟨vs,e,an.Fg nE⟩
     | _=>first | exact ag | cases nE
    ·cases mQ
  ·cases az
 | .arr g l :: xs,_,az,⟨v,r,e,J,U⟩=>by
  unfold k4 at az
  split at az
  ·exact⟨v,r,e,J,dF.no az U⟩
  ·cases az
structure Cons(X:bq) (E:List fU) (id:Nat) (eE:List (dq (jW E []))->(Nat->Prop)->(Nat->Prop)->World->Prop) (j3:Unit->(Nat->Prop)->World->Prop):Prop where
 k8:GS eE
 fx:GR j3
 lt:∀ r C c1 W,eE r C c1 W->∀ k,C k->k < W.heap.size
 aa1:∀ r C W,j3 r C W->∀ k,C k->k < W.heap.size
 take:∀ x rest C c1 B2 cW vs,eE (x :: rest) C c1 cW->yV C c1 B2 cW->dF (fun _=>.no) B2 cW (hs E x).1 vs->YieldAt Fence.wide 1 X.P id vs.toArray cW fun e dZ=>
   (e=.returned (.bool true)/\∃ dB,eE rest dB B2 dZ/\oq B2 C dB cW dZ)\/(e=.returned (.bool false)/\∃ dB,j3 () dB dZ/\oq B2 C dB cW dZ)
theorem aa2(av:X.a7.ok X.P) {E:List fU} {id:Nat} {kI:Nat->Prop} {eE:List (dq (jW E []))->(Nat->Prop)->(Nat->Prop)->World->Prop} {j3:Unit->(Nat->Prop)->World->Prop} (aa:Cons X E id eE j3):l3 (Γ:=hX.it (X:=X) (n:=n) kI eE j3) (some (Cz E id)):=by
 rintro ops Q em aa3 l args f t r au;cases aa3;unfold Cz at au
 split at au
 ·rename_i x uO mJ
  unfold we at au
  split at au
  ·rename_i rt ad
   cases au;have hV:=Nat.eq_of_beq_eq_true ad;subst hV;refine⟨_,_,rfl,rfl,?_⟩;intro o rest st d s us fo c aA bb ax aH xW jg aa4 aa5 a w hi;obtain⟨C,cW,c1,aF,ks,env,B',ai,H,cp,al⟩:=hi
   rcases aF with aF | ⟨aF,_⟩
   ·obtain⟨vs,J,U⟩:=Bb al xW jg
    obtain⟨BJ,ag,ay⟩:=al.has _ _ (aa0 aH);rw[show BJ=_ from ay]at ag;have dp:fJ B' ai B' w:=⟨fun _ h=>h,fun k ab=>al.aU.below.block k (.inr ab)⟩
    have aV:=(x6 mJ).2;have tr:dF (fun _=>.no) B' w (hs E x).1 vs:=aV _ _ _ _ (dF.no uO (U.up dp));have CA:dm C cW w:=⟨(al.aU.below.os).trans al.base.os,(al.aU.below.tape).trans al.base.tape,(al.aU.below.output).trans al.base.output,Nat.le_trans al.base.size al.aU.below.size,fun k ab=>(al.aU.below.block k (.inl (.inr ab))).trans (al.base.block k (.inr ab))⟩
    have hY:=aa.k8 _ _ _ _ _ aF CA;have tq:yV C c1 B' w:=⟨al.sub,fun k ab=>(al.new k ab).imp_right fun⟨aO,aK⟩=>⟨fun h=>aO (.inr h),aK.e6 (al.aU.below.block k (.inr ab))⟩⟩
    obtain⟨fn,tmps,assign,body,aa6,aa7⟩:=YieldAt.zero (aa.take _ _ _ _ _ _ _ hY tq tr);have hw:Region.wanted o (yielded ops.toArray a.tmps)=true:=bb.1 al;show(if Region.wanted o (yielded ops.toArray a.tmps)then _ else _);rw[if_pos hw];refine⟨fun _ _=>trivial,?_⟩;have dW:(execOp a.eval o).run X.P w=.ok (.round l fn tmps assign body) w:=by
     have aC:=al.cb.aE (x:=.tmp s) (hQ ag);have a1:(us.toArray.map a.eval)=vs.toArray:=TX al.cb J;simp only[execOp,aA,resolve,aC]
     simp[Deferred.ofValue,invoke,a1,aa6,go_sem]
    show Oper.uponIn _ _ _ _ _ _ _ ((o.semAt none a.eval).run X.P w);rw[Oper.semAt_none,dW];refine⟨(fun h=>by cases h),RoundIn.mono aa7 ?_⟩;intro e w2 ao;rw[bb.2]
    rcases ao with⟨rfl,dB,tz,cy⟩ | ⟨rfl,dB,tz,cy⟩
    ·exact aa5 _ _ ⟨dB,w2,B',.inl tz,ks,env,B',w2,H,⟨cp.1,fun _ _ _ h=>h.elim⟩,bI.Oh al cy (aa.lt _ _ _ _ tz) ax _⟩
    ·exact aa4 _ _ ⟨dB,w2,B',.inr ⟨rfl,tz⟩,ks,env,B',w2,H,⟨cp.1,fun _ _ _ h=>h.elim⟩,bI.Oh al cy (aa.aa1 _ _ _ tz) ax _⟩
   ·cases aF
  ·cases au
 ·cases au
def Hx{α:Type}:m0 (List α)
 | .normal,_,_=>some []
 | .ret,_,_=>some []
 | _,_,_=>none
theorem aa8(av:X.a7.ok X.P) (hm:X.P.follows .mixedOrders=true) {N:Nat} {T:List (bz X)} {bC:List (ju X)} {f:FuncId} {fn:Func} {c:Code} {bV:e4} {h3:List e2} {an:bE} {E:List fU} {l:List (dq (jW E []))} (az:X.P.funcs[f]?=some fn) (ae:fn.body=some c) (aT:fn.ntmps=n) (ad:Nat.ble (np h3).length (n - 1)=true) (a6:Nat.blt 0 n=true) (au:fn.results=#[])
  (h:∀ id,ih X N n T bC true c (some (Cz E id)) bV ⟨lq 0 (.c (.val (.func (.yield id) #[] #[])) :: np h3),an⟩ Hx=some l):Ch X f h3 an l (fun x=>(hs E x).1):=by
 intro B ai lb env O cH aV Hy aa9 id eE j3 W Oi _ q8 mo aL GV vQ oK C hY CB;have dp:fJ B ai B W:=⟨fun _ h=>h,fun k ab=>Oi.block k ab⟩
 have aS:dF env B W (.c (.val (.func (.yield id) #[] #[])) :: np h3) (.func (.yield id) #[] #[] :: lb):=⟨_,_,rfl,rfl,(xP Hy).up dp⟩
 have hlen:=aS.length;have hle:(Value.func (.yield id) #[] #[] :: lb).length<=n:=by
  rw[hlen,List.length_cons];have J:=Nat.le_of_ble_eq_true ad;have U:=dK a6;omega
 have aJ:=Em (fn:=fn) aT hle _ rfl (vs:=.func (.yield id) #[] #[] :: lb);have e:#[Value.func (.yield id) #[] #[]]++lb.toArray=(Value.func (.yield id) #[] #[] :: lb).toArray:=by simp
 rw[e];refine CallsIn.mono (R:=fun e w'=>∃ v,e=.returned v/\∃ dB,(∃ c1,eE [] dB c1 w')\/j3 () dB w') ((callsIn_wide (n:=1)).2 ((callsIn_wide (n:=0)).1 (callsIn_of_wp_marks az ae trivial ?_))) (fun e w' ⟨v,J,U⟩=>⟨⟨v,J⟩,U⟩);obtain⟨kI,Oj⟩:∃ kI:Nat->Prop,kI=fun k=>k < W.heap.size/\¬∃c∈O,c.has k:=⟨_,rfl⟩
 have al:bI X (fun k=>kI k\/C k) W ⟨B,fun _ _=>False,[]⟩ n [] env B W O ⟨lq 0 (.c (.val (.func (.yield id) #[] #[])) :: np h3),an⟩ { tmps:=(Value.func (.yield id) #[] #[] :: lb).toArray++Array.replicate (fn.ntmps - (Value.func (.yield id) #[] #[] :: lb).toArray.size) undef,defers:=[] } W:=by
  refine⟨aJ.size,rfl,fun s sv aj=>?_,aa9.up dp,?_,fun _ h=>h,fun _ h=>.inl h,fun _ _ h=>h.elim,dm.refl _ _,fun i x ah=>(aV i x ah).up dp⟩
  rotate_left
  ·rw[List.map_nil,List.append_nil]
   refine⟨dm.refl _ _,fun k ab=>?_,fun c aa=>(CB.ok c aa).base fun b ae ab=>?_,CB.apart⟩
   ·rcases ab with(ab | ab) | ab
    ·rw[Oj]at ab
     exact ab.1
    ·exact aL _ _ _ _ hY k ab
    ·exact Nat.lt_of_lt_of_le (cH k ab) Oi.size
   ·rcases ab with(ab | ab) | ab
    ·rw[Oj]at ab
     exact ab.2 ⟨c,aa,ae⟩
    ·exact((CB.ok c aa).lt ae).1 ab
    ·exact((CB.ok c aa).lt ae).1 (vQ _ _ _ _ hY b ab)
  obtain⟨_,v,J,U⟩:=A4 aS aj;rw[Nat.sub_zero]at J;refine⟨v,?_,U⟩;have aL:s < (Value.func (.yield id) #[] #[] :: lb).length:=(List.getElem?_eq_some_iff.1 J).1;show((Value.func (.yield id) #[] #[] :: lb).toArray++_)[s]?=some v;rw[Array.getElem?_append_left (by simpa using aL)]
  simpa using J
 refine wpIn_mono (m1 av hm c true true none (fun _=>⟨rfl,rfl⟩) _ (hX.it kI eE j3) _ (aa2 av ⟨q8,mo,aL,GV,oK⟩) bV _ Hx l (h id) _ _ ⟨C,W,B,.inl hY,[],_,_,_,_,⟨fun h=>(by cases h),fun _ _ _ h=>h.elim⟩,al⟩) ?_;rintro e a w ⟨st,cv,⟨V,fl,hw,ev,ab⟩,hi⟩;obtain⟨dB,cW,c1,aF,ks,env',B',cJ,H',cp,b7⟩:=(hX.it kI eE j3).en hw hi;have hR:cv=[]/\(e=.ret\/e=.normal):=by
  cases e<;>first | (cases ab; exact⟨rfl,.inr rfl⟩) | (cases ab; exact⟨rfl,.inl rfl⟩) | cases ab
 obtain⟨rfl,he⟩:=hR;have sA:Sym n (ks.map ux) (gn a) (fun k=>(kI k\/dB k)\/B' k) cJ (ks.map (fun k=>bc.obj k (.deferred (some [])))++H') a w:=⟨by have di:=b7.cb; simpa [jR] using di,b7.aU.perm List.perm_append_comm⟩
 have l9:∀ w,(results fn a.tmps).run X.P w=.ok (.tuple #[]) w:=fun w=>by
  simp[results,au,go_sem]
 have key:=Kn (fn:=fn) (R:=fun _ w'=>∃ dB,(∃ c1,eE [] dB c1 w')\/j3 () dB w') ks sA (fun w hw=>l9 w) fun w hw=>by
  have CA:dm dB cW w:=⟨hw.below.os.trans b7.base.os,hw.below.tape.trans b7.base.tape,hw.below.output.trans b7.base.output,Nat.le_trans b7.base.size hw.below.size,fun k ab=>(hw.below.block k (.inl (.inr ab))).trans (b7.base.block k (.inr ab))⟩
  rcases aF with aF | ⟨_,aF⟩
  ·exact⟨dB,.inl ⟨c1,q8 _ _ _ _ _ aF CA⟩⟩
  ·exact⟨dB,.inr (mo _ _ _ _ aF CA)⟩
 rcases he with rfl | rfl
 ·exact key
 ·exact key
def Hz (N : Nat) (av : X.a7.ok X.P) (hm : X.P.follows .mixedOrders = true) {fn : Func} {c : Code} (C : List rq) (G : List (Nat × gX)) (E : List fU) (T : List (bz X)) (bC : List (ju X)) (bV : e4) (f : FuncId) (m : Bool → dq (o2 C (lV G [])) → Option (List (dq (jW E [])))) (az : X.P.funcs[f]? = some fn) (aV : (fn.name == "runtime.NumGoroutine") = false) (ae : fn.body = some c) (aT : fn.ntmps = n) (ad : ∀ d : dq (o2 C (lV G [])), Nat.ble (np (ly C d).1).length (n - 1) = true) (a6 : Nat.blt 0 n = true) (au : fn.results = #[])
  (h:∀ id d,ih X N n T bC true c (some (Cz E id)) bV ⟨lq 0 (.c (.val (.func (.yield id) #[] #[])) :: np (ly C d).1),(iV G (ly C d).2).1⟩ Hx=m (Nat.beq id id) d):ju X:=
 { f:=f,fn:=fn,C:=C,G:=G,E:=E,m:=m true,az:=az,a6:=aV,ae:=by rw[ae]; rfl,ok:=fun d l he=>aa8 av hm az ae aT (ad d) a6 au fun id=>(h id d).trans (by rw[show Nat.beq id id=true from Nat.beq_refl id]; exact he) }
end
end

section
set_option linter.unusedSimpArgs false
set_option linter.unusedVariables false
open Go.RowKit
def CC(N:Nat) (a0:(List aQ)):Option ((List aQ)):=
  ar (((decide (0<=(a0.length:Int)))&&(decide ((a0.length:Int)<=(a0.length:Int)))&&(eo 56 (a0.length:Int)))&&(true)) <|
  ar ((Nat.beq a0.length (List.replicate (a0.length:Int).toNat (bT.zero:aQ)).length)&&(true)) <|
  some a0
noncomputable def aba (N:Nat):bz bS:=b2 N bU (by kernel_rfl) [.c (.bd bT)] [] ⟨.a (.c (.raw (.ak 6))),[(6,.row 51 bT)],[]⟩ [] [] (.d) [.tmp 2] 154 [] (fun d=>CC N d.1) Tryz.func154 rfl rfl Tryz.ntmps154 rfl rfl rfl (fun d=>by kernel_rfl)
def nK(N:Nat) (a0:(List aB)):Option ((List aB)×Nat):=
  ar (((decide (0<=(a0.length:Int)))&&(decide ((a0.length:Int)<=(a0.length:Int)))&&(eo 16 (a0.length:Int)))&&(true)) <|
  ar ((Nat.beq a0.length (List.replicate (a0.length:Int).toNat (bf.zero:aB)).length)&&(true)) <|
  some (a0,(a0.length:Int).toNat)
noncomputable def zd (N:Nat):bz bS:=b2 N bU (by kernel_rfl) [.c (.bd bf)] [] ⟨.a (.c (.jn bf)),[],[]⟩ [] [] (.s .d (.s .d (.s .d (.s .d (.t [.dn 6]))))) [.tmp 2] 111 ([],0) (fun d=>nK N d.1) Tryz.func111 rfl rfl Tryz.ntmps111 rfl rfl rfl (fun d=>by kernel_rfl)
def qt(N:Nat) (a0:(List cF)):Option ((List cF)×Nat):=
  ar (((decide (0<=(a0.length:Int)))&&(decide ((a0.length:Int)<=(a0.length:Int)))&&(eo 24 (a0.length:Int)))&&(true)) <|
  ar ((Nat.beq a0.length (List.replicate (a0.length:Int).toNat (ds.zero:cF)).length)&&(true)) <|
  some (a0,(a0.length:Int).toNat)
noncomputable def HA (N:Nat):bz bS:=b2 N bU (by kernel_rfl) [.c (.bd ds)] [] ⟨.a (.c (.jn ds)),[],[]⟩ [] [] (.s .d (.s .d (.s .d (.s .d (.t [.dn 6]))))) [.tmp 2] 112 ([],0) (fun d=>qt N d.1) Tryz.func112 rfl rfl Tryz.ntmps112 rfl rfl rfl (fun d=>by kernel_rfl)
def HB(N:Nat) (a0:(List (List aQ))) (cX:Int):Nat->(Int×(List (Bool×List aQ)))->Option ((List (Bool×List aQ))):=ch fun d3 eD=>
  cond (decide (d3.1 < ((a0.getD cX.toNat []).length:Int))) (ar ((aR d3.1 (a0.getD cX.toNat []).length)&&(true)) <|
  ar (((decide (cX.toNat < d3.2.length))&&(d3.2.getD cX.toNat (false,[])).1)) <|
  ar ((aR cX d3.2.length)&&((decide (cX.toNat=cX.toNat))&&(true))) <|
  Option.bind (nK N ((a0.getD cX.toNat []).getD d3.1.toNat bT.zero).2.2.1) fun cf=>
  ar ((aR d3.1 (d3.2.getD cX.toNat (false,[])).2.length)&&(((decide (d3.1.toNat < (d3.2.getD cX.toNat (false,[])).2.length))&&(true))&&(true))) <|
  ar ((aR cX d3.2.length)&&((decide (cX.toNat=cX.toNat))&&(true))) <|
  Option.bind (qt N ((a0.getD cX.toNat []).getD d3.1.toNat bT.zero).2.2.2) fun cw=>
  ar ((aR d3.1 ((d3.2.getD cX.toNat (false,[])).2.set d3.1.toNat (((d3.2.getD cX.toNat (false,[])).2.getD d3.1.toNat bT.zero).1,(((d3.2.getD cX.toNat (false,[])).2.getD d3.1.toNat bT.zero).2.1,(cf.1,((d3.2.getD cX.toNat (false,[])).2.getD d3.1.toNat bT.zero).2.2.2)))).length)&&(((decide (d3.1.toNat < ((d3.2.getD cX.toNat (false,[])).2.set d3.1.toNat (((d3.2.getD cX.toNat (false,[])).2.getD d3.1.toNat bT.zero).1,(((d3.2.getD cX.toNat (false,[])).2.getD d3.1.toNat bT.zero).2.1,(cf.1,((d3.2.getD cX.toNat (false,[])).2.getD d3.1.toNat bT.zero).2.2.2)))).length))&&(true))&&(true))) <|
  ar ((bl (d3.1+(1:Int)))&&(true)) <|
  eD ((d3.1+(1:Int)),(d3.2.set cX.toNat (true,(((d3.2.getD cX.toNat (false,[])).2.set d3.1.toNat (((d3.2.getD cX.toNat (false,[])).2.getD d3.1.toNat bT.zero).1,(((d3.2.getD cX.toNat (false,[])).2.getD d3.1.toNat bT.zero).2.1,(cf.1,((d3.2.getD cX.toNat (false,[])).2.getD d3.1.toNat bT.zero).2.2.2)))).set d3.1.toNat ((((d3.2.getD cX.toNat (false,[])).2.set d3.1.toNat (((d3.2.getD cX.toNat (false,[])).2.getD d3.1.toNat bT.zero).1,(((d3.2.getD cX.toNat (false,[])).2.getD d3.1.toNat bT.zero).2.1,(cf.1,((d3.2.getD cX.toNat (false,[])).2.getD d3.1.toNat bT.zero).2.2.2)))).getD d3.1.toNat bT.zero).1,((((d3.2.getD cX.toNat (false,[])).2.set d3.1.toNat (((d3.2.getD cX.toNat (false,[])).2.getD d3.1.toNat bT.zero).1,(((d3.2.getD cX.toNat (false,[])).2.getD d3.1.toNat bT.zero).2.1,(cf.1,((d3.2.getD cX.toNat (false,[])).2.getD d3.1.toNat bT.zero).2.2.2)))).getD d3.1.toNat bT.zero).2.1,((((d3.2.getD cX.toNat (false,[])).2.set d3.1.toNat (((d3.2.getD cX.toNat (false,[])).2.getD d3.1.toNat bT.zero).1,(((d3.2.getD cX.toNat (false,[])).2.getD d3.1.toNat bT.zero).2.1,(cf.1,((d3.2.getD cX.toNat (false,[])).2.getD d3.1.toNat bT.zero).2.2.2)))).getD d3.1.toNat bT.zero).2.2.1,cw.1)))))))) (some d3.2)
def HC(N:Nat) (a0:(List (List aQ))):Nat->(Int×(List (Bool×List aQ)))->Option ((List (Bool×List aQ))):=ch fun d1 cz=>
  cond (decide (d1.1 < (a0.length:Int))) (ar ((aR d1.1 a0.length)&&(true)) <|
  Option.bind (CC N (a0.getD d1.1.toNat [])) fun aX=>
  ar ((aR d1.1 d1.2.length)&&((decide (d1.1.toNat < d1.2.length))&&(true))) <|
  Option.bind (HB N a0 d1.1 N ((0:Int),(d1.2.set d1.1.toNat (true,aX)))) fun cd=>
  ar ((bl (d1.1+(1:Int)))&&(true)) <|
  cz ((d1.1+(1:Int)),cd)) (some d1.2)
def wg(N:Nat) (a0:(List (List aQ))):Option ((List (Bool×List aQ))):=
  ar (((decide (0<=(a0.length:Int)))&&(decide ((a0.length:Int)<=(a0.length:Int)))&&(eo 24 (a0.length:Int)))&&(true)) <|
  Option.bind (HC N a0 N ((0:Int),(List.replicate (a0.length:Int).toNat ((true,[]):Bool×List aQ)))) fun bj=>
  some bj
noncomputable def Ok (N:Nat):bz bS:=b2 N bU (by kernel_rfl) [.c (.bd (.ak bT))] [] ⟨.a (.c (.raw (.ak 10))),[(10,.bQ 47 51 bT)],[]⟩ [aba N,zd N,HA N] [] (.s .d (.s (.r [.n 2,.t .mk]) (.s (.s .d (.b (.eb 0 ⟨[(3,.a (.c (.raw (.ak 10)))),(13,.a (.c (.int .i64)))],[(10,.bQ 47 51 bT)],[11,12],[]⟩ ⟨[(3,.a (.c (.raw (.ak 10))))],[(10,.bQ 47 51 bT)],[],[]⟩ (.s .d (.s .d (.s (.b (.s .d (.s (.r [.n 3,.c [(6,21)],.n 1,.t .st]) (.s (.r [.n 3,.w (.t (.close 10 21))]) (.b (.eb 2 ⟨[(3,.a (.c (.raw (.ak 10)))),(25,.a (.c (.int .i64)))],[(10,.bQ 47 51 bT)],[4,11,12,13,23,24],[]⟩ ⟨[(3,.a (.c (.raw (.ak 10))))],[(10,.bQ 47 51 bT)],[11,12,13],[]⟩ (.s .d (.s .d (.s (.b (.s (.r [.n 6,.w (.b4 7 bT)]) (.s (.p [.t (.op 10 4 33)] (.lf [4,5,6,7,1000010] [.t 0 0,.t 1 0,.t 2 0,.t 3 3,.t 4 0,.t 5 0,.t 6 1,.c 7 [],.t 8 0,.t 9 0,.s 10] [])) (.lf [4,5,6,7,1000010] [.t 0 0,.t 1 0,.t 2 0,.t 3 3,.t 4 0,.t 5 0,.t 6 1,.c 7 [],.t 8 0,.t 9 0,.s 10] [(.t (.close 10 33))])))) .d))))))))) .d)))))) .d))) [.tmp 2] 134 [] (fun d=>wg N d.1) Tryz.func134 rfl rfl Tryz.ntmps134 rfl rfl rfl (fun d=>by kernel_rfl)
end

section
set_option linter.unusedSimpArgs false
set_option linter.unusedVariables false
open Go.RowKit
def abb(N:Nat) (a0:(List (List bD))):Nat->(Int×Int)->Option (Int):=ch fun d1 cz=>
  cond (decide (d1.2 < (a0.length:Int))) (ar ((aR d1.2 a0.length)&&(true)) <|
  ar ((bl (d1.1+((a0.getD d1.2.toNat []).length:Int)))&&(true)) <|
  ar ((bl (d1.2+(1:Int)))&&(true)) <|
  cz ((d1.1+((a0.getD d1.2.toNat []).length:Int)),(d1.2+(1:Int)))) (some d1.1)
def abc(N:Nat) (a0:(List (List bD))):Nat->(Int×Int×(List bD))->Option ((List bD)):=ch fun d2 e5=>
  cond (decide (d2.2.1 < (a0.length:Int))) (ar ((aR d2.2.1 a0.length)&&(true)) <|
  ar (((decide (0<=d2.1))&&(decide (d2.1<=(d2.2.2.length:Int))))&&((decide (d2.1.toNat+(a0.getD d2.2.1.toNat []).length<=d2.2.2.length))&&((bl (d2.1+((a0.getD d2.2.1.toNat []).length:Int)))&&(true)))) <|
  ar ((bl (d2.2.1+(1:Int)))&&(true)) <|
  e5 ((d2.1+((a0.getD d2.2.1.toNat []).length:Int)),(d2.2.1+(1:Int)),(d2.2.2.take d2.1.toNat++(a0.getD d2.2.1.toNat [])++d2.2.2.drop (d2.1.toNat+(a0.getD d2.2.1.toNat []).length)))) (some d2.2.2)
def abd(N:Nat) (a0:(List (List bD))):Option ((List bD)):=
  Option.bind (abb N a0 N ((0:Int),(0:Int))) fun bj=>
  ar (((decide (0<=bj))&&(decide (bj<=bj))&&(eo 32 bj))&&(true)) <|
  Option.bind (abc N a0 N ((0:Int),(0:Int),(List.replicate bj.toNat (b3.zero:bD)))) fun bM=>
  some bM
noncomputable def ahw (N:Nat):bz bS:=b2 N bU (by kernel_rfl) [.c (.bd (.ak b3))] [] ⟨.a (.c (.bd b3)),[],[]⟩ [] [] (.s .d (.s .d (.s (.s .d (.b (.eb 0 ⟨[(3,.a (.c (.int .i64))),(12,.a (.c (.int .i64)))],[],[0,10,11],[]⟩ ⟨[(3,.a (.c (.int .i64)))],[],[0],[]⟩ .d))) (.s .d (.s .d (.s (.s .d (.b (.eb 2 ⟨[(6,.a (.c (.raw (.ak 22)))),(7,.a (.c (.int .i64))),(25,.a (.c (.int .i64)))],[(22,.row 121 b3)],[23,24],[]⟩ ⟨[(6,.a (.c (.raw (.ak 22))))],[(22,.row 121 b3)],[],[]⟩ .d))) (.s .d (.t [.dn 22])))))))) [.tmp 2] 110 [] (fun d=>abd N d.1) Tryz.func110 rfl rfl Tryz.ntmps110 rfl rfl rfl (fun d=>by kernel_rfl)
def Ol(N:Nat) (a0:(List (List aB))):Nat->(Int×Int)->Option (Int):=ch fun d1 cz=>
  cond (decide (d1.2 < (a0.length:Int))) (ar ((aR d1.2 a0.length)&&(true)) <|
  ar ((bl (d1.1+((a0.getD d1.2.toNat []).length:Int)))&&(true)) <|
  ar ((bl (d1.2+(1:Int)))&&(true)) <|
  cz ((d1.1+((a0.getD d1.2.toNat []).length:Int)),(d1.2+(1:Int)))) (some d1.1)
def Om(N:Nat) (a0:(List (List aB))):Nat->(Int×Int×(List aB))->Option ((List aB)):=ch fun d2 e5=>
  cond (decide (d2.2.1 < (a0.length:Int))) (ar ((aR d2.2.1 a0.length)&&(true)) <|
  ar (((decide (0<=d2.1))&&(decide (d2.1<=(d2.2.2.length:Int))))&&((decide (d2.1.toNat+(a0.getD d2.2.1.toNat []).length<=d2.2.2.length))&&((bl (d2.1+((a0.getD d2.2.1.toNat []).length:Int)))&&(true)))) <|
  ar ((bl (d2.2.1+(1:Int)))&&(true)) <|
  e5 ((d2.1+((a0.getD d2.2.1.toNat []).length:Int)),(d2.2.1+(1:Int)),(d2.2.2.take d2.1.toNat++(a0.getD d2.2.1.toNat [])++d2.2.2.drop (d2.1.toNat+(a0.getD d2.2.1.toNat []).length)))) (some d2.2.2)
def wh(N:Nat) (a0:(List (List aB))):Option ((List aB)):=
  Option.bind (Ol N a0 N ((0:Int),(0:Int))) fun bj=>
  ar (((decide (0<=bj))&&(decide (bj<=bj))&&(eo 16 bj))&&(true)) <|
  Option.bind (Om N a0 N ((0:Int),(0:Int),(List.replicate bj.toNat (bf.zero:aB)))) fun bM=>
  some bM
noncomputable def HD (N:Nat):bz bS:=b2 N bU (by kernel_rfl) [.c (.bd (.ak bf))] [] ⟨.a (.c (.bd bf)),[],[]⟩ [] [] (.s .d (.s .d (.s (.s .d (.b (.eb 0 ⟨[(3,.a (.c (.int .i64))),(12,.a (.c (.int .i64)))],[],[0,10,11],[]⟩ ⟨[(3,.a (.c (.int .i64)))],[],[0],[]⟩ .d))) (.s .d (.s .d (.s (.s .d (.b (.eb 2 ⟨[(6,.a (.c (.raw (.ak 22)))),(7,.a (.c (.int .i64))),(25,.a (.c (.int .i64)))],[(22,.row 30 bf)],[23,24],[]⟩ ⟨[(6,.a (.c (.raw (.ak 22))))],[(22,.row 30 bf)],[],[]⟩ .d))) (.s .d (.t [.dn 22])))))))) [.tmp 2] 121 [] (fun d=>wh N d.1) Tryz.func121 rfl rfl Tryz.ntmps121 rfl rfl rfl (fun d=>by kernel_rfl)
def On(N:Nat) (a0:(List bD)):Nat->(Int×(List (List aB)))->Option ((List (List aB))):=ch fun d1 cz=>
  cond (decide (d1.1 < (a0.length:Int))) (ar ((aR d1.1 a0.length)&&(true)) <|
  ar ((aR d1.1 d1.2.length)&&(((decide (d1.1.toNat < d1.2.length))&&(true))&&(true))) <|
  ar ((bl (d1.1+(1:Int)))&&(true)) <|
  cz ((d1.1+(1:Int)),(d1.2.set d1.1.toNat (a0.getD d1.1.toNat b3.zero).2))) (some d1.2)
def qu(N:Nat) (a0:(List bD)):Option ((List aB)):=
  ar (((decide (0<=(a0.length:Int)))&&(decide ((a0.length:Int)<=(a0.length:Int)))&&(eo 24 (a0.length:Int)))&&(true)) <|
  Option.bind (On N a0 N ((0:Int),(List.replicate (a0.length:Int).toNat ([]:(List aB))))) fun bj=>
  Option.bind (wh N bj) fun aX=>
  some aX
noncomputable def ze (N:Nat):bz bS:=b2 N bU (by kernel_rfl) [.c (.bd b3)] [] ⟨.a (.c (.bd bf)),[],[]⟩ [HD N] [] (.s .d (.s .d (.s (.s .d (.b (.eb 0 ⟨[(3,.a (.c (.raw (.ak 8)))),(11,.a (.c (.int .i64)))],[(8,.row 39 (.ak bf))],[9,10],[]⟩ ⟨[(3,.a (.c (.raw (.ak 8))))],[(8,.row 39 (.ak bf))],[],[]⟩ (.s .d (.s .d (.s (.b (.s (.r [.n 6,.w (.b4 5 b3)]) .d)) .d)))))) (.s (.r [.n 1,.w (.dn 8)]) .d)))) [.tmp 2] 87 [] (fun d=>qu N d.1) Tryz.func87 rfl rfl Tryz.ntmps87 rfl rfl rfl (fun d=>by kernel_rfl)
def Oo(N:Nat) :Nat->(Int×Int×(List cF))->Option ((List cF)):=ch fun d1 cz=>
  cond (decide (d1.1 < d1.2.1)) (ar ((aR d1.2.1 d1.2.2.length)&&((decide (d1.2.1.toNat < d1.2.2.length))&&((aR d1.1 d1.2.2.length)&&((decide (d1.1.toNat < d1.2.2.length))&&((aR d1.1 d1.2.2.length)&&(((decide (d1.1.toNat < d1.2.2.length))&&(true))&&((aR d1.2.1 (d1.2.2.set d1.1.toNat (d1.2.2.getD d1.2.1.toNat ds.zero)).length)&&(((decide (d1.2.1.toNat < (d1.2.2.set d1.1.toNat (d1.2.2.getD d1.2.1.toNat ds.zero)).length))&&(true))&&(true))))))))) <|
  ar ((bl (d1.1+(1:Int)))&&((bl (d1.2.1 - (1:Int)))&&(true))) <|
  cz ((d1.1+(1:Int)),(d1.2.1 - (1:Int)),((d1.2.2.set d1.1.toNat (d1.2.2.getD d1.2.1.toNat ds.zero)).set d1.2.1.toNat (d1.2.2.getD d1.1.toNat ds.zero)))) (some d1.2.2)
def zf(N:Nat) (a0:List cF):Option ((List cF)):=
  ar ((bl ((a0.length:Int) - (1:Int)))&&(true)) <|
  Option.bind (Oo N N ((0:Int),((a0.length:Int) - (1:Int)),a0)) fun bj=>
  some bj
noncomputable def Oq (N:Nat):bz bS:=b2 N bU (by kernel_rfl) [.c (.raw (.ak 2000000))] [(2000000,.row 123 ds)] ⟨.dj [],[(2000000,.row 123 ds)],[]⟩ [] [] (.s .d (.b (.eb 0 ⟨[(0,.a (.c (.raw (.ak 2000000)))),(2,.a (.c (.int .i64))),(3,.a (.c (.int .i64)))],[(2000000,.row 123 ds)],[],[]⟩ ⟨[],[(2000000,.row 123 ds)],[],[]⟩ (.s .d (.s (.b (.lf [8,9,10,11] [.t 0 0,.t 1 0,.t 2 0,.t 3 0,.t 4 0,.t 5 0,.t 6 0,.t 7 3,.t 8 0,.t 9 0,.t 10 0,.t 11 3,.t 12 0,.s 13,.t 14 0,.s 15] [])) .d))))) [] 131 [] (fun d=>zf N d.1) Tryz.func131 rfl rfl Tryz.ntmps131 rfl rfl rfl (fun d=>by kernel_rfl)
def HE(N:Nat) (a0:(List bD)) (aq:Int) (gp:Int):Nat->(Int×(List cF))->Option ((List cF)):=ch fun d3 eD=>
  cond (decide (d3.1 < ((a0.getD gp.toNat b3.zero).2.length:Int))) (ar ((aR d3.1 (a0.getD gp.toNat b3.zero).2.length)&&(true)) <|
  ar ((ee 24 (d3.2.length+[(((a0.getD gp.toNat b3.zero).2.getD d3.1.toNat bf.zero),((decide ((a0.getD gp.toNat b3.zero).1=(1:Int))),aq))].length))&&(true)) <|
  ar ((bl (d3.1+(1:Int)))&&(true)) <|
  eD ((d3.1+(1:Int)),(d3.2++[(((a0.getD gp.toNat b3.zero).2.getD d3.1.toNat bf.zero),((decide ((a0.getD gp.toNat b3.zero).1=(1:Int))),aq))]))) (some d3.2)
def HF(N:Nat) (a0:(List bD)) (aq:Int):Nat->(Int×(List cF))->Option ((List cF)):=ch fun d2 e5=>
  cond (decide (d2.1 < (a0.length:Int))) (ar ((aR d2.1 a0.length)&&(true)) <|
  Option.bind (HE N a0 aq d2.1 N ((0:Int),d2.2)) fun cd=>
  ar ((bl (d2.1+(1:Int)))&&(true)) <|
  e5 ((d2.1+(1:Int)),cd)) (some d2.2)
def CD(N:Nat) (a0:(List bD)) (aq:Int):Option ((List cF)):=
  Option.bind (qu N a0) fun aP=>
  ar (((decide ((0:Int)<=(aP.length:Int)))&&(eo 24 (aP.length:Int)))&&(true)) <|
  Option.bind (HF N a0 aq N ((0:Int),([]:List cF))) fun bM=>
  cond (!(decide (aq=(1:Int)))) (Option.bind (zf N bM) fun cf=>
  some cf) (some bM)
noncomputable def abe (N:Nat):bz bS:=b2 N bU (by kernel_rfl) [.c (.bd b3),.c (.int .u8)] [] ⟨.a (.c (.bd ds)),[],[]⟩ [ze N,Oq N] [] (.s .d (.s .d (.s .d (.s (.s .d (.b (.eb 0 ⟨[(6,.a (.c (.raw (.ak 15)))),(18,.a (.c (.int .i64)))],[(15,.row 123 ds)],[1,16,17],[]⟩ ⟨[(6,.a (.c (.raw (.ak 15))))],[(15,.row 123 ds)],[1],[]⟩ (.s .d (.s .d (.s (.b (.s (.r [.n 4,.w (.b4 8 b3)]) (.s .d (.b (.eb 2 ⟨[(6,.a (.c (.raw (.ak 15)))),(25,.a (.c (.int .i64)))],[(15,.row 123 ds)],[1,8,16,17,18,23,24],[]⟩ ⟨[(6,.a (.c (.raw (.ak 15))))],[(15,.row 123 ds)],[1,16,17,18],[]⟩ (.s .d (.s .d (.s (.b (.s (.r [.n 4,.w (.b4 10 bf)]) .d)) .d)))))))) .d)))))) (.s (.s .d (.c (.r [.n 1,.c [(2000000,15)]]) .d)) (.s .d (.t [.dn 15]))))))) [.tmp 4] 109 [] (fun d=>CD N d.1 d.2.1) Tryz.func109 rfl rfl Tryz.ntmps109 rfl rfl rfl (fun d=>by kernel_rfl)
end

section
set_option linter.unusedSimpArgs false
set_option linter.unusedVariables false
open Go.RowKit
def tA(N:Nat) (a0:Int):Option (Bool):=
  some (cond (decide (a0=(0:Int))) true (decide (a0=(1:Int))))
noncomputable def HG (N:Nat):bz bS:=b2 N bU (by kernel_rfl) [.c (.int .u8)] [] ⟨.a (.c .bool),[],[]⟩ [] [] (.d) [.tmp 2] 125 false (fun d=>tA N d.1) Tryz.func125 rfl rfl Tryz.ntmps125 rfl rfl rfl (fun d=>by kernel_rfl)
def zg(N:Nat) (a0:aB):Option (Bool):=
  some (cond (cond (cond (decide ((1:Int)<=a0.1)) (decide (a0.1<=(6:Int))) false) (decide ((0:Int)<=a0.2)) false) (decide (a0.2 < (2048:Int))) false)
noncomputable def Ot (N:Nat):bz bS:=b2 N bU (by kernel_rfl) [.c9 bf] [] ⟨.a (.c .bool),[],[]⟩ [] [] (.s (.r [.n 2,.w (.b4 1 bf)]) .d) [.tmp 2] 120 false (fun d=>zg N d.1) Tryz.func120 rfl rfl Tryz.ntmps120 rfl rfl rfl (fun d=>by kernel_rfl)
def zh(N:Nat) (a0:cF):Option (Bool):=
  Option.bind (zg N a0.1) fun aP=>
  Option.bind (cond aP (tA N a0.2.2) (some false)) fun aX=>
  some (cond aP aX false)
noncomputable def Ou (N:Nat):bz bS:=b2 N bU (by kernel_rfl) [.c9 ds] [] ⟨.a (.c .bool),[],[]⟩ [Ot N,HG N] [] (.s (.r [.n 2,.w (.b4 1 ds)]) .d) [.tmp 2] 91 false (fun d=>zh N d.1) Tryz.func91 rfl rfl Tryz.ntmps91 rfl rfl rfl (fun d=>by kernel_rfl)
def tB(N:Nat) (a0:Int):Option (Bool):=
  some (cond (cond (!(decide ((Int.tmod a0 (2:Int))=(0:Int)))) (decide ((-13:Int)<=a0)) false) (decide (a0<=(179:Int))) false)
noncomputable def Ov (N:Nat):bz bS:=b2 N bU (by kernel_rfl) [.c (.int .i64)] [] ⟨.a (.c .bool),[],[]⟩ [] [] (.d) [.tmp 2] 90 false (fun d=>tB N d.1) Tryz.func90 rfl rfl Tryz.ntmps90 rfl rfl rfl (fun d=>by kernel_rfl)
def zi(N:Nat) (a0:cF) (aq:cF):Option (Bool):=
  Option.bind (tA N a0.2.2) fun aP=>
  Option.bind (cond (!(!aP)) (tA N aq.2.2) (some false)) fun aX=>
  cond (cond (cond (!aP) true (!aX)) true (decide (a0.2.2=aq.2.2))) (some false) (some (ba.beq ds a0 (aq.1,(aq.2.1,a0.2.2))))
noncomputable def Ow (N:Nat):bz bS:=b2 N bU (by kernel_rfl) [.c9 ds,.c9 ds] [] ⟨.a (.c .bool),[],[]⟩ [HG N] [] (.s (.r [.n 3,.w (.b4 2 ds)]) .d) [.tmp 4] 124 false (fun d=>zi N d.1 d.2.1) Tryz.func124 rfl rfl Tryz.ntmps124 rfl rfl rfl (fun d=>by kernel_rfl)
def HH(N:Nat) (a0:(List cF)):Nat->(Int×(List cF))->Option ((List cF)):=ch fun d1 cz=>
  cond (decide (d1.1 < (a0.length:Int))) (ar ((aR d1.1 a0.length)&&(true)) <|
  ar ((fr (decide ((0:Int) < (d1.2.length:Int))) (bl ((d1.2.length:Int) - (1:Int))))&&((fr (decide ((0:Int) < (d1.2.length:Int))) (aR ((d1.2.length:Int) - (1:Int)) d1.2.length))&&((fr (decide ((0:Int) < (d1.2.length:Int))) (decide (((d1.2.length:Int) - (1:Int)).toNat < d1.2.length)))&&(true)))) <|
  Option.bind (cond (decide ((0:Int) < (d1.2.length:Int))) (zi N (d1.2.getD ((d1.2.length:Int) - (1:Int)).toNat ds.zero) (a0.getD d1.1.toNat ds.zero)) (some false)) fun aX=>
  cond (cond (decide ((0:Int) < (d1.2.length:Int))) aX false) (ar ((bl ((d1.2.length:Int) - (1:Int)))&&(((decide (0<=((d1.2.length:Int) - (1:Int))))&&(decide (((d1.2.length:Int) - (1:Int))<=(d1.2.length:Int))))&&(true))) <|
  ar ((bl (d1.1+(1:Int)))&&(true)) <|
  cz ((d1.1+(1:Int)),(d1.2.take ((d1.2.length:Int) - (1:Int)).toNat))) (ar ((ee 24 (d1.2.length+[(a0.getD d1.1.toNat ds.zero)].length))&&(true)) <|
  ar ((bl (d1.1+(1:Int)))&&(true)) <|
  cz ((d1.1+(1:Int)),(d1.2++[(a0.getD d1.1.toNat ds.zero)])))) (some d1.2)
def zj(N:Nat) (a0:(List cF)) (aq:List cF):Option ((List cF)):=
  Option.bind (HH N a0 N ((0:Int),aq)) fun bj=>
  some bj
noncomputable def Ox (N:Nat):bz bS:=b2 N bU (by kernel_rfl) [.c (.raw (.ak 1000000)),.c (.bd ds)] [(1000000,.row 123 ds)] ⟨.a (.c (.raw (.ak 1000000))),[(1000000,.row 123 ds)],[]⟩ [Ow N] [] (.s .d (.s (.s .d (.b (.eb 0 ⟨[(0,.a (.c (.raw (.ak 1000000)))),(10,.a (.c (.int .i64)))],[(1000000,.row 123 ds)],[8,9],[]⟩ ⟨[(0,.a (.c (.raw (.ak 1000000))))],[(1000000,.row 123 ds)],[],[]⟩ (.s .d (.s .d (.s (.b (.s (.r [.n 4,.w (.b4 6 ds)]) (.s .d (.s (.lf [8] [.t 0 0,.t 1 0,.t 2 0,.t 3 0,.t 4 0,.t 5 0,.t 6 0,.t 7 3,.t 8 1,.g 9,.t 10 0] []) .d)))) .d)))))) .d)) [.tmp 4] 92 [] (fun d=>zj N d.1 d.2.1) Tryz.func92 rfl rfl Tryz.ntmps92 rfl rfl rfl (fun d=>by kernel_rfl)
def rQ(N:Nat) (a0:(List cF)):Option ((List cF)×Nat):=
  ar (((decide (0<=(a0.length:Int)))&&(decide ((a0.length:Int)<=(a0.length:Int)))&&(eo 24 (a0.length:Int)))&&(true)) <|
  ar ((Nat.beq a0.length (List.replicate (a0.length:Int).toNat (ds.zero:cF)).length)&&(true)) <|
  some (a0,(a0.length:Int).toNat)
noncomputable def HI (N:Nat):bz bS:=b2 N bU (by kernel_rfl) [.c (.bd ds)] [] ⟨.a (.c (.jn ds)),[],[]⟩ [] [] (.s .d (.s .d (.s .d (.s .d (.t [.dn 6]))))) [.tmp 2] 93 ([],0) (fun d=>rQ N d.1) Tryz.func93 rfl rfl Tryz.ntmps93 rfl rfl rfl (fun d=>by kernel_rfl)
def HJ(N:Nat) (a0:bL):Nat->Int->Option ((Unit)⊕(Int)):=ch fun d2 e5=>
  cond (decide (d2 < (a0.2.2.2.2.length:Int))) (ar ((aR d2 a0.2.2.2.2.length)&&(true)) <|
  Option.bind (zh N (a0.2.2.2.2.getD d2.toNat ds.zero)) fun bG=>
  ar ((fr ((!(!bG))&&(decide ((0:Int) < d2))) (bl (d2 - (1:Int))))&&((fr ((!(!bG))&&(decide ((0:Int) < d2))) (aR (d2 - (1:Int)) a0.2.2.2.2.length))&&(true))) <|
  Option.bind (cond ((!(!bG))&&(decide ((0:Int) < d2))) (zi N (a0.2.2.2.2.getD (d2 - (1:Int)).toNat ds.zero) (a0.2.2.2.2.getD d2.toNat ds.zero)) (some false)) fun cf=>
  cond (cond (!bG) true (cond (decide ((0:Int) < d2)) cf false)) (some (.inr (1:Int))) (ar ((bl (d2+(1:Int)))&&(true)) <|
  e5 (d2+(1:Int)))) (some (.inl ()))
def rR(N:Nat) (a0:bL):Option (Int):=
  cond (cond (decide (a0.2.2.1 < (0:Int))) true (decide ((2048:Int) < a0.2.2.1))) (some (1:Int)) (cond (!a0.1) (cond (cond (cond (!(decide (a0.2.1=(0:Int)))) true a0.2.2.2.1) true (decide ((0:Int) < (a0.2.2.2.2.length:Int)))) (some (1:Int)) (some (0:Int))) (Option.bind (tB N a0.2.1) fun aP=>
  cond (cond (!aP) true (decide ((4096:Int) < (a0.2.2.2.2.length:Int)))) (some (1:Int)) (Option.bind (HJ N a0 N (0:Int)) fun(bM:(Unit)⊕(Int))=>
  sm bM (fun bM=>
  some (0:Int)) (fun q=>some q))))
noncomputable def CE (N:Nat):bz bS:=b2 N bU (by kernel_rfl) [.c9 cO] [] ⟨.a (.c (.int .i64)),[],[]⟩ [Ov N,Ou N,Ow N] [] (.s (.r [.n 2,.w (.b4 1 cO)]) (.s .d (.s .d (.s .d (.s (.s .d (.b (.fh 0 ⟨[(42,.a (.c (.int .i64)))],[],[1,40,41],[]⟩ ⟨[],[],[],[]⟩ (.s .d (.s .d (.s (.b (.s (.r [.n 6,.w (.b4 4 ds)]) (.s (.o [] [.t 0 1,.c 1 [],.f,.t 2 0,.t 3 0,.t 4 0,.t 5 0,.t 6 0,.t 7 0,.t 8 1,.t 9 0,.t 10 0,.t 11 0,.t 12 1,.t 13 1,.g 14,.t 15 0,.t 16 0] []) .d))) .d)))))) .d))))) [.tmp 2] 89 0 (fun d=>rR N d.1) Tryz.func89 rfl rfl Tryz.ntmps89 rfl rfl rfl (fun d=>by kernel_rfl)
def zk(N:Nat) (a0:(List cF)):Option ((List cF)×Nat):=
  ar (((decide ((0:Int)<=(a0.length:Int)))&&(eo 24 (a0.length:Int)))&&(true)) <|
  Option.bind (zj N a0 ([]:List cF)) fun aP=>
  Option.bind (rQ N aP) fun aX=>
  some (aX.1,aX.2)
noncomputable def abf (N:Nat):bz bS:=b2 N bU (by kernel_rfl) [.c (.bd ds)] [] ⟨.a (.c (.jn ds)),[],[]⟩ [Ox N,HI N] [] (.s .d (.s (.r [.n 4,.c [(1000000,5)],.w (.dn 5)]) .d)) [.tmp 2] 153 ([],0) (fun d=>zk N d.1) Tryz.func153 rfl rfl Tryz.ntmps153 rfl rfl rfl (fun d=>by kernel_rfl)
def HK(N:Nat) (a2:(List cF)):Nat->Int->Option ((Unit)⊕(bL×Int)):=ch fun d3 eD=>
  cond (decide (d3 < (a2.length:Int))) (ar ((aR d3 a2.length)&&(true)) <|
  Option.bind (zh N (a2.getD d3.toNat ds.zero)) fun cf=>
  cond (!cf) (some (.inr ((false,((0:Int),((0:Int),(false,([]:List cF))))),(1:Int)))) (ar ((bl (d3+(1:Int)))&&(true)) <|
  eD (d3+(1:Int)))) (some (.inl ()))
def tC(N:Nat) (a0:bL) (aq:Int) (a2:(List cF)):Option (bL×Int):=
  Option.bind (rR N a0) fun aP=>
  cond (!(decide (aP=(0:Int)))) (some ((false,((0:Int),((0:Int),(false,([]:List cF))))),aP)) (Option.bind (tB N aq) fun aX=>
  cond (!aX) (some ((false,((0:Int),((0:Int),(false,([]:List cF))))),(1:Int))) (Option.bind (HK N a2 N (0:Int)) fun(cd:(Unit)⊕(bL×Int))=>
  sm cd (fun cd=>
  cond (!a0.1) (some ((false,((0:Int),((0:Int),(false,([]:List cF))))),(12:Int))) (ar ((bl ((a0.2.2.2.2.length:Int)+(a2.length:Int)))&&(((decide ((0:Int)<=((a0.2.2.2.2.length:Int)+(a2.length:Int))))&&(eo 24 ((a0.2.2.2.2.length:Int)+(a2.length:Int))))&&(true))) <|
  ar ((ee 24 (([]:List cF).length+a0.2.2.2.2.length))&&(true)) <|
  Option.bind (zj N a2 (([]:List cF)++a0.2.2.2.2)) fun cw=>
  cond (decide ((4096:Int) < (cw.length:Int))) (some ((false,((0:Int),((0:Int),(false,([]:List cF))))),(3:Int))) (Option.bind (rQ N cw) fun gR=>
  some ((a0.1,(aq,(a0.2.2.1,(a0.2.2.2.1,gR.1)))),(0:Int))))) (fun q=>some q)))
noncomputable def Oy (N:Nat):bz bS:=b2 N bU (by kernel_rfl) [.c9 cO,.c (.int .i64),.c (.bd ds)] [] ⟨.dj [.c9 cO,.c (.int .i64)],[],[]⟩ [CE N,Ov N,Ou N,Ox N,HI N] [] (.s .d (.s .d (.s .d (.s (.s .d (.b (.fh 0 ⟨[(3,.a (.c (.raw (.ptr 3 0)))),(6,.a (.c (.raw (.ptr 6 0)))),(24,.a (.c (.int .i64)))],[],[1,2,22,23],[3,6]⟩ ⟨[(3,.a (.c (.raw (.ptr 3 0)))),(6,.a (.c (.raw (.ptr 6 0))))],[],[1,2],[3,6]⟩ (.s .d (.s .d (.s (.b (.s (.r [.n 4,.w (.b4 10 ds)]) .d)) .d)))))) (.s .d (.s .d (.s (.r [.n 5,.c [(1000000,43)]]) (.s .d (.s .d (.s (.r [.n 1,.w (.dn 43)]) .d)))))))))) [.cell 6 112,.tmp 7] 55 (cO.zero,0) (fun d=>tC N d.1 d.2.1 d.2.2.1) Tryz.func55 rfl rfl Tryz.ntmps55 rfl rfl rfl (fun d=>by kernel_rfl)
def CF(N:Nat) (a0:bL) (aq:Int):Option (bL×Int):=
  Option.bind (rR N a0) fun aP=>
  cond (!(decide (aP=(0:Int)))) (some ((false,((0:Int),((0:Int),(false,([]:List cF))))),aP)) (Option.bind (tA N aq) fun aX=>
  cond (!aX) (some ((false,((0:Int),((0:Int),(false,([]:List cF))))),(1:Int))) (cond a0.1 (some ((false,((0:Int),((0:Int),(false,([]:List cF))))),(12:Int))) (cond (decide (aq=(1:Int))) (some ((true,((179:Int),(a0.2.2.1,(true,([]:List cF))))),(0:Int))) (some ((true,((-13:Int),(a0.2.2.1,(true,([]:List cF))))),(0:Int))))))
noncomputable def abg (N:Nat):bz bS:=b2 N bU (by kernel_rfl) [.c9 cO,.c (.int .u8)] [] ⟨.dj [.c9 cO,.c (.int .i64)],[],[]⟩ [CE N,HG N] [] (.s (.r [.n 3,.w (.b4 2 cO)]) .d) [.cell 4 112,.tmp 5] 107 (cO.zero,0) (fun d=>CF N d.1 d.2.1) Tryz.func107 rfl rfl Tryz.ntmps107 rfl rfl rfl (fun d=>by kernel_rfl)
end

section
set_option linter.unusedSimpArgs false
set_option linter.unusedVariables false
open Go.RowKit
def pr(N:Nat) (a0:bL):Option (bL×Ht×Int):=
  Option.bind (rR N a0) fun aP=>
  cond (!(decide (aP=(0:Int)))) (some ((false,((0:Int),((0:Int),(false,([]:List cF))))),((0:Int),(false,([]:List cF))),aP)) (cond (!a0.1) (some ((false,((0:Int),((0:Int),(false,([]:List cF))))),((0:Int),(false,([]:List cF))),(12:Int))) (cond (decide (a0.2.2.1=(2048:Int))) (some ((false,((0:Int),((0:Int),(false,([]:List cF))))),((0:Int),(false,([]:List cF))),(3:Int))) (Option.bind (rQ N a0.2.2.2.2) fun aX=>
  ar ((bl (a0.2.2.1+(1:Int)))&&(true)) <|
  some ((true,(a0.2.1,((a0.2.2.1+(1:Int)),(false,([]:List cF))))),(a0.2.2.1,(a0.2.2.2.1,aX.1)),(0:Int)))))
noncomputable def CG (N:Nat) (a0:bL):Option (bL×Ht×Int):=
  Option.bind (rR N a0) fun aP=>
  cond (!(decide (aP=(0:Int)))) (some ((false,((0:Int),((0:Int),(false,([]:List cF))))),((0:Int),(false,([]:List cF))),aP)) (cond (!a0.1) (some ((false,((0:Int),((0:Int),(false,([]:List cF))))),((0:Int),(false,([]:List cF))),(12:Int))) (cond (decide (a0.2.2.1=(2048:Int))) (some ((false,((0:Int),((0:Int),(false,([]:List cF))))),((0:Int),(false,([]:List cF))),(3:Int))) (jc (Option.bind (rQ N a0.2.2.2.2) fun aX=>
  ar ((bl (a0.2.2.1+(1:Int)))&&(true)) <|
  some ((true,(a0.2.1,((a0.2.2.1+(1:Int)),(false,([]:List cF))))),(a0.2.2.1,(a0.2.2.2.1,aX.1)),(0:Int))) (Option.bind (rQ N a0.2.2.2.2) fun aX=>
  ar ((bl (a0.2.2.1+(1:Int)))&&(true)) <|
  some ((true,(a0.2.1,((a0.2.2.1+(1:Int)),(false,([]:List cF))))),(a0.2.2.1,(a0.2.2.2.1,aX.1)),(0:Int))))))
theorem abh:CG=pr:=by
 unfold CG pr
 first | rfl | (simp only[mW]; done) | (funext; simp (disch:=(simp only[nG,fc,nF]; first | done | first | rfl | (refine gl (fun h=>?_) (fun h=>?_); (focus (rw[h]; first | done | (simp only[fc]; first | done | first | rfl | (refine gl (fun h=>?_) (fun h=>?_); (focus (rw[h]; first | done | (simp only[fc]; first | done | first | rfl | (refine gl (fun h=>?_) (fun h=>?_); (focus (rw[h]; first | done | (simp only[fc]; first | done | rfl))); (focus (rw[h]; first | done | simp only[gi,gj])))))); (focus (rw[h]; first | done | simp only[gi,gj])))))); (focus (rw[h]; first | done | simp only[gi,gj]))))) only[nH])
noncomputable def Oz (N:Nat):bz bS:=v7 N bU (by kernel_rfl) [.c9 cO] [] ⟨.dj [.c9 cO,.c9 wa,.c (.int .i64)],[],[]⟩ [CE N,HI N] [] (.s (.r [.n 4,.w (.b4 1 cO)]) (.s .d (.s .d (.s .d (.s (.iF [] [] (.b [.t 0 0,.t 1 1,.t 2 0,.t 3 1,.t 4 0,.t 5 1] 6 8 [] [] (.f [.t 7 0,.s 8,.s 9]) (.f [.c 6 [],.t 7 0,.s 9])) [(.b4 6 wa)] false) (.s (.o [] [.t 0 0,.t 1 1,.t 2 0,.t 3 1,.t 4 0,.t 5 0,.t 6 1,.s 7,.s 8,.t 9 0] []) .d)))))) [.cell 2 112,.cell 3 127,.tmp 4] 56 (cO.zero,wa.zero,0) (fun d=>CG N d.1) (fun d=>pr N d.1) (fun d=>(by rw[abh]:CG N d.1=pr N d.1)) Tryz.func56 rfl rfl Tryz.ntmps56 rfl rfl rfl (fun d=>by kernel_rfl)
end

section
set_option linter.unusedSimpArgs false
set_option linter.unusedVariables false
open Go.RowKit
def HL(N:Nat) (a0:List (Bool×List bD)):Nat->(Int×Int×(List (Bool×List bD)))->Option (Int×(List (Bool×List bD))):=ch fun d1 cz=>
  cond (decide (d1.2.1 < (a0.length:Int))) (ar ((aR d1.2.1 d1.2.2.length)&&(((decide (d1.2.1.toNat < d1.2.2.length))&&(d1.2.2.getD d1.2.1.toNat (false,[])).1)&&(true))) <|
  ar ((bl (d1.1+((d1.2.2.getD d1.2.1.toNat (false,[])).2.length:Int)))&&(true)) <|
  ar ((bl (d1.2.1+(1:Int)))&&(true)) <|
  cz ((d1.1+((d1.2.2.getD d1.2.1.toNat (false,[])).2.length:Int)),(d1.2.1+(1:Int)),(d1.2.2.set d1.2.1.toNat (true,(d1.2.2.getD d1.2.1.toNat (false,[])).2)))) (some (d1.1,d1.2.2))
def HM(N:Nat) (bj:Int×(List (Bool×List bD))):Nat->(Int×Int×(List bD)×(List (Bool×List bD)))->Option ((List bD)×(List (Bool×List bD))):=ch fun d2 e5=>
  cond (decide (d2.2.1 < (bj.2.length:Int))) (ar ((aR d2.2.1 d2.2.2.2.length)&&(((decide (d2.2.1.toNat < d2.2.2.2.length))&&(d2.2.2.2.getD d2.2.1.toNat (false,[])).1)&&(true))) <|
  ar (((decide (0<=d2.1))&&(decide (d2.1<=(d2.2.2.1.length:Int))))&&((decide (d2.1.toNat+(d2.2.2.2.getD d2.2.1.toNat (false,[])).2.length<=d2.2.2.1.length))&&((bl (d2.1+((d2.2.2.2.getD d2.2.1.toNat (false,[])).2.length:Int)))&&(true)))) <|
  ar ((bl (d2.2.1+(1:Int)))&&(true)) <|
  e5 ((d2.1+((d2.2.2.2.getD d2.2.1.toNat (false,[])).2.length:Int)),(d2.2.1+(1:Int)),(d2.2.2.1.take d2.1.toNat++(d2.2.2.2.getD d2.2.1.toNat (false,[])).2++d2.2.2.1.drop (d2.1.toNat+(d2.2.2.2.getD d2.2.1.toNat (false,[])).2.length)),(d2.2.2.2.set d2.2.1.toNat (true,(d2.2.2.2.getD d2.2.1.toNat (false,[])).2)))) (some (d2.2.2.1,d2.2.2.2))
def qv(N:Nat) (a0:List (Bool×List bD)):Option ((List bD)×(List (Bool×List bD))):=
  Option.bind (HL N a0 N ((0:Int),(0:Int),a0)) fun bj=>
  ar (((decide (0<=bj.1))&&(decide (bj.1<=bj.1))&&(eo 32 bj.1))&&(true)) <|
  Option.bind (HM N bj N ((0:Int),(0:Int),(List.replicate bj.1.toNat (b3.zero:bD)),bj.2)) fun bM=>
  some (bM.1,bM.2)
noncomputable def HN (N:Nat):bz bS:=b2 N bU (by kernel_rfl) [.c (.raw (.ak 2000000))] [(2000000,.bQ 70 121 b3)] ⟨.a (.c (.bd b3)),[(2000000,.bQ 70 121 b3)],[]⟩ [] [] (.s .d (.s .d (.s (.s .d (.b (.eb 0 ⟨[(0,.a (.c (.raw (.ak 2000000)))),(3,.a (.c (.int .i64))),(10,.a (.c (.raw (.ak 2000000)))),(12,.a (.c (.int .i64)))],[(2000000,.bQ 70 121 b3)],[11],[]⟩ ⟨[(0,.a (.c (.raw (.ak 2000000)))),(3,.a (.c (.int .i64)))],[(2000000,.bQ 70 121 b3)],[],[]⟩ (.s .d (.s .d (.s (.b (.s (.r [.n 1,.t .yu]) (.r [.n 5,.w (.t (.close 2000000 15))]))) .d)))))) (.s .d (.s .d (.s (.s .d (.b (.eb 2 ⟨[(6,.a (.c (.raw (.ak 22)))),(7,.a (.c (.int .i64))),(23,.a (.c (.raw (.ak 2000000)))),(25,.a (.c (.int .i64)))],[(22,.row 121 b3),(2000000,.bQ 70 121 b3)],[24],[]⟩ ⟨[(6,.a (.c (.raw (.ak 22))))],[(22,.row 121 b3),(2000000,.bQ 70 121 b3)],[],[]⟩ (.s .d (.s .d (.s (.b (.s (.r [.n 1,.t .yu]) (.r [.n 8,.w (.t (.close 2000000 28))]))) .d)))))) (.s .d (.t [.dn 22])))))))) [.tmp 2] 110 ([],[]) (fun d=>qv N d.1) Tryz.func110 rfl rfl Tryz.ntmps110 rfl rfl rfl (fun d=>by kernel_rfl)
def tD(N:Nat) (a0:Int):Option (Int):=
  cond (decide (a0=(0:Int))) (some (1:Int)) (some (0:Int))
noncomputable def OA (N:Nat):bz bS:=b2 N bU (by kernel_rfl) [.c (.int .u8)] [] ⟨.a (.c (.int .u8)),[],[]⟩ [] [] (.d) [.tmp 2] 106 0 (fun d=>tD N d.1) Tryz.func106 rfl rfl Tryz.ntmps106 rfl rfl rfl (fun d=>by kernel_rfl)
def wi(N:Nat) (a0:Int):Option (Int):=
  cond (decide (a0=(0:Int))) (some (-13:Int)) (some (179:Int))
noncomputable def OB (N:Nat):bz bS:=b2 N bU (by kernel_rfl) [.c (.int .u8)] [] ⟨.a (.c (.int .i64)),[],[]⟩ [] [] (.d) [.tmp 2] 108 0 (fun d=>wi N d.1) Tryz.func108 rfl rfl Tryz.ntmps108 rfl rfl rfl (fun d=>by kernel_rfl)
def pt(N:Nat) (a0:Int) (aq:Int) (a2:(List cF)) (a3:(List aN)) (a4:Int) (a5:List bL):Option (Int×(List aN)×Int×(List bL)):=
  ar ((aR (IntKind.wrap .u8 (a0 - (1:Int))) a5.length)&&((decide ((IntKind.wrap .u8 (a0 - (1:Int))).toNat < a5.length))&&(true))) <|
  Option.bind (tC N (a5.getD (IntKind.wrap .u8 (a0 - (1:Int))).toNat cO.zero) aq a2) fun aP=>
  cond (decide (aP.2=(0:Int))) (ar ((aR (IntKind.wrap .u8 (a0 - (1:Int))) a5.length)&&(((decide ((IntKind.wrap .u8 (a0 - (1:Int))).toNat < a5.length))&&(true))&&(true))) <|
  some (aP.2,a3,a4,(a5.set (IntKind.wrap .u8 (a0 - (1:Int))).toNat aP.1))) (some (aP.2,a3,a4,a5))
noncomputable def CH (N:Nat):bz bS:=b2 N bU (by kernel_rfl) [.c (.raw (.ptr 1000000 0)),.c (.int .u8),.c (.int .i64),.c (.bd ds)] [(1000000,.cells 160 [.bd bN,.raw (.ak 2000000),.raw (.ak 2000001),.raw (.ak 2000002),.int .u8]),(2000001,.row 112 cO)] ⟨.a (.c (.int .i64)),[(1000000,.cells 160 [.bd bN,.raw (.ak 2000000),.raw (.ak 2000001),.raw (.ak 2000002),.int .u8]),(2000001,.row 112 cO)],[]⟩ [Oy N] [] (.s .d (.s (.r [.n 17,.w (.b4 9 cO)]) (.s (.s .d (.c (.o [4,5,6] [.t 0 0,.t 1 0,.t 2 0,.t 3 3,.t 4 0,.t 5 0,.t 6 1,.t 7 0,.s 8] []) .d)) .d))) [.tmp 8] 82 (0,[],0,[]) (fun d=>pt N d.1 d.2.1 d.2.2.1 d.2.2.2.1 d.2.2.2.2.1 d.2.2.2.2.2.1) Tryz.func82 rfl rfl Tryz.ntmps82 rfl rfl rfl (fun d=>by kernel_rfl)
def zl(N:Nat) (a0:Int) (aq:(List aN)) (a2:Int) (a3:List (Bool×List bD)) (a4:List bL):Option (Int×(List aN)×Int×(List (Bool×List bD))×(List bL)):=
  Option.bind (tD N a2) fun aP=>
  ar ((aR (IntKind.wrap .u8 (a0 - (1:Int))) a4.length)&&((decide ((IntKind.wrap .u8 (a0 - (1:Int))).toNat < a4.length))&&(true))) <|
  cond (!(a4.getD (IntKind.wrap .u8 (a0 - (1:Int))).toNat cO.zero).1) (Option.bind (CF N (a4.getD (IntKind.wrap .u8 (a0 - (1:Int))).toNat cO.zero) aP) fun aX=>
  Option.bind (cond (decide (aX.2=(0:Int))) (ar ((aR (IntKind.wrap .u8 (a0 - (1:Int))) a4.length)&&(((decide ((IntKind.wrap .u8 (a0 - (1:Int))).toNat < a4.length))&&(true))&&(true))) <|
  some (aq,a2,(a4.set (IntKind.wrap .u8 (a0 - (1:Int))).toNat aX.1))) (some (aq,a2,a4))) fun cd=>
  some (aX.2,cd.1,cd.2.1,a3,cd.2.2)) (Option.bind (wi N aP) fun cf=>
  cond (decide ((a4.getD (IntKind.wrap .u8 (a0 - (1:Int))).toNat cO.zero).2.1=cf)) (some ((0:Int),aq,a2,a3,a4)) (Option.bind (wi N aP) fun cw=>
  Option.bind (qv N a3) fun gR=>
  Option.bind (CD N gR.1 aP) fun gb=>
  Option.bind (pt N a0 cw gb aq a2 a4) fun gS=>
  some (gS.1,gS.2.1,gS.2.2.1,gR.2,gS.2.2.2)))
noncomputable def OC (N:Nat):bz bS:=b2 N bU (by kernel_rfl) [.c (.raw (.ptr 1000000 0)),.c (.int .u8)] [(1000000,.cells 160 [.bd bN,.raw (.ak 2000000),.raw (.ak 2000001),.raw (.ak 2000002),.int .u8]),(2000000,.bQ 70 121 b3),(2000001,.row 112 cO)] ⟨.a (.c (.int .i64)),[(1000000,.cells 160 [.bd bN,.raw (.ak 2000000),.raw (.ak 2000001),.raw (.ak 2000002),.int .u8]),(2000000,.bQ 70 121 b3),(2000001,.row 112 cO)],[]⟩ [OA N,abg N,OB N,HN N,abe N,CH N] [] (.s .d (.s .d (.s (.r [.n 10,.w (.b4 6 cO)]) (.s (.s .d (.c (.s (.r [.n 9,.w (.b4 7 cO)]) (.j ⟨[],[(1000000,.cells 160 [.bd bN,.raw (.ak 2000000),.raw (.ak 2000001),.raw (.ak 2000002),.int .u8]),(2000001,.row 112 cO)],[8],[2000000]⟩ (.s .d (.c (.o [4,5,6] [.t 0 0,.t 1 0,.t 2 0,.t 3 3,.t 4 0,.t 5 0,.t 6 1,.t 7 0,.s 8] []) .d)) .d)) .d)) (.s (.s (.o [] [.t 0 0,.t 1 1,.t 2 0,.c 3 [],.t 4 0] []) .d) (.s (.o [3,8,9,1000011] [.t 0 0,.t 1 0,.t 2 0,.t 4 0,.t 5 0,.t 6 0,.t 7 3,.t 9 0,.c 3 [],.c 8 [(2000000,2000000)],.c 10 [],.c 11 [(1000000,1000000),(2000000,2000000),(2000002,2000002),(2000001,2000001)],.t 12 0] []) .d)))))) [.tmp 4] 80 (0,[],0,[],[]) (fun d=>zl N d.1 d.2.1 d.2.2.1 d.2.2.2.1 d.2.2.2.2.1) Tryz.func80 rfl rfl Tryz.ntmps80 rfl rfl rfl (fun d=>by kernel_rfl)
def HO(N:Nat) (a0:(List (List aQ))):Nat->(Int×Int)->Option (Int):=ch fun d1 cz=>
  cond (decide (d1.2 < (a0.length:Int))) (ar ((aR d1.2 a0.length)&&(true)) <|
  ar ((bl (d1.1+((a0.getD d1.2.toNat []).length:Int)))&&(true)) <|
  ar ((bl (d1.2+(1:Int)))&&(true)) <|
  cz ((d1.1+((a0.getD d1.2.toNat []).length:Int)),(d1.2+(1:Int)))) (some d1.1)
def qw(N:Nat) (a0:(List (List aQ))):Option (Int):=
  Option.bind (HO N a0 N ((0:Int),(0:Int))) fun bj=>
  some bj
noncomputable def HP (N:Nat):bz bS:=b2 N bU (by kernel_rfl) [.c (.bd (.ak bT))] [] ⟨.a (.c (.int .i64)),[],[]⟩ [] [] (.s .d (.s .d (.s (.s .d (.b (.eb 0 ⟨[(3,.a (.c (.int .i64))),(8,.a (.c (.int .i64)))],[],[6,7],[]⟩ ⟨[(3,.a (.c (.int .i64)))],[],[],[]⟩ .d))) .d))) [.tmp 2] 49 0 (fun d=>qw N d.1) Tryz.func49 rfl rfl Tryz.ntmps49 rfl rfl rfl (fun d=>by kernel_rfl)
def HQ(N:Nat) (a0:List (Bool×List aQ)):Nat->(Int×Int×(List (Bool×List aQ)))->Option (Int×(List (Bool×List aQ))):=ch fun d1 cz=>
  cond (decide (d1.2.1 < (a0.length:Int))) (ar ((aR d1.2.1 d1.2.2.length)&&(((decide (d1.2.1.toNat < d1.2.2.length))&&(d1.2.2.getD d1.2.1.toNat (false,[])).1)&&(true))) <|
  ar ((bl (d1.1+((d1.2.2.getD d1.2.1.toNat (false,[])).2.length:Int)))&&(true)) <|
  ar ((bl (d1.2.1+(1:Int)))&&(true)) <|
  cz ((d1.1+((d1.2.2.getD d1.2.1.toNat (false,[])).2.length:Int)),(d1.2.1+(1:Int)),(d1.2.2.set d1.2.1.toNat (true,(d1.2.2.getD d1.2.1.toNat (false,[])).2)))) (some (d1.1,d1.2.2))
def zm(N:Nat) (a0:List (Bool×List aQ)):Option (Int×(List (Bool×List aQ))):=
  Option.bind (HQ N a0 N ((0:Int),(0:Int),a0)) fun bj=>
  some (bj.1,bj.2)
noncomputable def abi (N:Nat):bz bS:=b2 N bU (by kernel_rfl) [.c (.raw (.ak 2000000))] [(2000000,.bQ 47 51 bT)] ⟨.a (.c (.int .i64)),[(2000000,.bQ 47 51 bT)],[]⟩ [] [] (.s .d (.s .d (.s (.s .d (.b (.eb 0 ⟨[(3,.a (.c (.int .i64))),(6,.a (.c (.raw (.ak 2000000)))),(8,.a (.c (.int .i64)))],[(2000000,.bQ 47 51 bT)],[7],[]⟩ ⟨[(3,.a (.c (.int .i64)))],[(2000000,.bQ 47 51 bT)],[],[]⟩ (.s .d (.s .d (.s (.b (.s (.r [.n 1,.t .yu]) (.r [.n 5,.w (.t (.close 2000000 11))]))) .d)))))) .d))) [.tmp 2] 49 (0,[]) (fun d=>zm N d.1) Tryz.func49 rfl rfl Tryz.ntmps49 rfl rfl rfl (fun d=>by kernel_rfl)
def nL(N:Nat) (a0:Int) (aq:Int) (a2:(List aB)) (a3:(List aN)) (a4:Int) (a5:List (Bool×List aQ)) (et:List bL):Option (aB×Int×(List aN)×Int×(List (Bool×List aQ))×(List bL)):=
  Option.bind (zm N a5) fun aP=>
  cond (decide ((2048:Int)<=aP.1)) (some (((0:Int),(0:Int)),(3:Int),a3,a4,aP.2,et)) (ar ((aR (IntKind.wrap .u8 (a0 - (1:Int))) et.length)&&((decide ((IntKind.wrap .u8 (a0 - (1:Int))).toNat < et.length))&&(true))) <|
  Option.bind (pr N (et.getD (IntKind.wrap .u8 (a0 - (1:Int))).toNat cO.zero)) fun aX=>
  cond (!(decide (aX.2.2=(0:Int)))) (some (((0:Int),(0:Int)),aX.2.2,a3,a4,aP.2,et)) (ar ((aR (IntKind.wrap .u8 (a0 - (1:Int))) et.length)&&(((decide ((IntKind.wrap .u8 (a0 - (1:Int))).toNat < et.length))&&(true))&&(true))) <|
  Option.bind (nK N a2) fun bG=>
  Option.bind (qt N aX.2.1.2.2) fun cf=>
  ar (((decide ((IntKind.wrap .u8 (a0 - (1:Int))).toNat < aP.2.length))&&(aP.2.getD (IntKind.wrap .u8 (a0 - (1:Int))).toNat (false,[])).1)) <|
  ar ((aR (IntKind.wrap .u8 (a0 - (1:Int))) aP.2.length)&&(true)) <|
  ar ((decide ((IntKind.wrap .u8 (a0 - (1:Int))).toNat=(IntKind.wrap .u8 (a0 - (1:Int))).toNat))&&((ee 56 ((aP.2.getD (IntKind.wrap .u8 (a0 - (1:Int))).toNat (false,[])).2.length+[(aq,(aX.2.1.2.1,(bG.1,cf.1)))].length))&&((aR (IntKind.wrap .u8 (a0 - (1:Int))) aP.2.length)&&(((decide ((IntKind.wrap .u8 (a0 - (1:Int))).toNat=(IntKind.wrap .u8 (a0 - (1:Int))).toNat))&&(decide ((IntKind.wrap .u8 (a0 - (1:Int))).toNat < aP.2.length)))&&(true))))) <|
  some ((a0,aX.2.1.1),(0:Int),a3,a4,(aP.2.set (IntKind.wrap .u8 (a0 - (1:Int))).toNat (true,((aP.2.getD (IntKind.wrap .u8 (a0 - (1:Int))).toNat (false,[])).2++[(aq,(aX.2.1.2.1,(bG.1,cf.1)))]))),(et.set (IntKind.wrap .u8 (a0 - (1:Int))).toNat aX.1))))
noncomputable def CI (N:Nat) (a0:Int) (aq:Int) (a2:(List aB)) (a3:(List aN)) (a4:Int) (a5:List (Bool×List aQ)) (et:List bL):Option (aB×Int×(List aN)×Int×(List (Bool×List aQ))×(List bL)):=
  Option.bind (zm N a5) fun aP=>
  cond (decide ((2048:Int)<=aP.1)) (some (((0:Int),(0:Int)),(3:Int),a3,a4,aP.2,et)) (ar ((aR (IntKind.wrap .u8 (a0 - (1:Int))) et.length)&&((decide ((IntKind.wrap .u8 (a0 - (1:Int))).toNat < et.length))&&(true))) <|
  Option.bind (pr N (et.getD (IntKind.wrap .u8 (a0 - (1:Int))).toNat cO.zero)) fun aX=>
  cond (!(decide (aX.2.2=(0:Int)))) (some (((0:Int),(0:Int)),aX.2.2,a3,a4,aP.2,et)) (ar ((aR (IntKind.wrap .u8 (a0 - (1:Int))) et.length)&&(((decide ((IntKind.wrap .u8 (a0 - (1:Int))).toNat < et.length))&&(true))&&(true))) <|
  jc (Option.bind (nK N a2) fun bG=>
  jc (Option.bind (qt N aX.2.1.2.2) fun cf=>
  ar (((decide ((IntKind.wrap .u8 (a0 - (1:Int))).toNat < aP.2.length))&&(aP.2.getD (IntKind.wrap .u8 (a0 - (1:Int))).toNat (false,[])).1)) <|
  ar ((aR (IntKind.wrap .u8 (a0 - (1:Int))) aP.2.length)&&(true)) <|
  jc (ar ((decide ((IntKind.wrap .u8 (a0 - (1:Int))).toNat=(IntKind.wrap .u8 (a0 - (1:Int))).toNat))&&((ee 56 ((aP.2.getD (IntKind.wrap .u8 (a0 - (1:Int))).toNat (false,[])).2.length+[(aq,(aX.2.1.2.1,(bG.1,cf.1)))].length))&&((aR (IntKind.wrap .u8 (a0 - (1:Int))) aP.2.length)&&(((decide ((IntKind.wrap .u8 (a0 - (1:Int))).toNat=(IntKind.wrap .u8 (a0 - (1:Int))).toNat))&&(decide ((IntKind.wrap .u8 (a0 - (1:Int))).toNat < aP.2.length)))&&(true))))) <|
  some ((a0,aX.2.1.1),(0:Int),a3,a4,(aP.2.set (IntKind.wrap .u8 (a0 - (1:Int))).toNat (true,((aP.2.getD (IntKind.wrap .u8 (a0 - (1:Int))).toNat (false,[])).2++[(aq,(aX.2.1.2.1,(bG.1,cf.1)))]))),(et.set (IntKind.wrap .u8 (a0 - (1:Int))).toNat aX.1))) (ar ((decide ((IntKind.wrap .u8 (a0 - (1:Int))).toNat=(IntKind.wrap .u8 (a0 - (1:Int))).toNat))&&((ee 56 ((aP.2.getD (IntKind.wrap .u8 (a0 - (1:Int))).toNat (false,[])).2.length+[(aq,(aX.2.1.2.1,(bG.1,cf.1)))].length))&&((aR (IntKind.wrap .u8 (a0 - (1:Int))) aP.2.length)&&(((decide ((IntKind.wrap .u8 (a0 - (1:Int))).toNat=(IntKind.wrap .u8 (a0 - (1:Int))).toNat))&&(decide ((IntKind.wrap .u8 (a0 - (1:Int))).toNat < aP.2.length)))&&(true))))) <|
  some ((a0,aX.2.1.1),(0:Int),a3,a4,(aP.2.set (IntKind.wrap .u8 (a0 - (1:Int))).toNat (true,((aP.2.getD (IntKind.wrap .u8 (a0 - (1:Int))).toNat (false,[])).2++[(aq,(aX.2.1.2.1,(bG.1,cf.1)))]))),(et.set (IntKind.wrap .u8 (a0 - (1:Int))).toNat aX.1)))) (Option.bind (qt N aX.2.1.2.2) fun cf=>
  ar (((decide ((IntKind.wrap .u8 (a0 - (1:Int))).toNat < aP.2.length))&&(aP.2.getD (IntKind.wrap .u8 (a0 - (1:Int))).toNat (false,[])).1)) <|
  ar ((aR (IntKind.wrap .u8 (a0 - (1:Int))) aP.2.length)&&(true)) <|
  jc (ar ((decide ((IntKind.wrap .u8 (a0 - (1:Int))).toNat=(IntKind.wrap .u8 (a0 - (1:Int))).toNat))&&((ee 56 ((aP.2.getD (IntKind.wrap .u8 (a0 - (1:Int))).toNat (false,[])).2.length+[(aq,(aX.2.1.2.1,(bG.1,cf.1)))].length))&&((aR (IntKind.wrap .u8 (a0 - (1:Int))) aP.2.length)&&(((decide ((IntKind.wrap .u8 (a0 - (1:Int))).toNat=(IntKind.wrap .u8 (a0 - (1:Int))).toNat))&&(decide ((IntKind.wrap .u8 (a0 - (1:Int))).toNat < aP.2.length)))&&(true))))) <|
  some ((a0,aX.2.1.1),(0:Int),a3,a4,(aP.2.set (IntKind.wrap .u8 (a0 - (1:Int))).toNat (true,((aP.2.getD (IntKind.wrap .u8 (a0 - (1:Int))).toNat (false,[])).2++[(aq,(aX.2.1.2.1,(bG.1,cf.1)))]))),(et.set (IntKind.wrap .u8 (a0 - (1:Int))).toNat aX.1))) (ar ((decide ((IntKind.wrap .u8 (a0 - (1:Int))).toNat=(IntKind.wrap .u8 (a0 - (1:Int))).toNat))&&((ee 56 ((aP.2.getD (IntKind.wrap .u8 (a0 - (1:Int))).toNat (false,[])).2.length+[(aq,(aX.2.1.2.1,(bG.1,cf.1)))].length))&&((aR (IntKind.wrap .u8 (a0 - (1:Int))) aP.2.length)&&(((decide ((IntKind.wrap .u8 (a0 - (1:Int))).toNat=(IntKind.wrap .u8 (a0 - (1:Int))).toNat))&&(decide ((IntKind.wrap .u8 (a0 - (1:Int))).toNat < aP.2.length)))&&(true))))) <|
  some ((a0,aX.2.1.1),(0:Int),a3,a4,(aP.2.set (IntKind.wrap .u8 (a0 - (1:Int))).toNat (true,((aP.2.getD (IntKind.wrap .u8 (a0 - (1:Int))).toNat (false,[])).2++[(aq,(aX.2.1.2.1,(bG.1,cf.1)))]))),(et.set (IntKind.wrap .u8 (a0 - (1:Int))).toNat aX.1))))) (Option.bind (nK N a2) fun bG=>
  Option.bind (qt N aX.2.1.2.2) fun cf=>
  ar (((decide ((IntKind.wrap .u8 (a0 - (1:Int))).toNat < aP.2.length))&&(aP.2.getD (IntKind.wrap .u8 (a0 - (1:Int))).toNat (false,[])).1)) <|
  ar ((aR (IntKind.wrap .u8 (a0 - (1:Int))) aP.2.length)&&(true)) <|
  jc (ar ((decide ((IntKind.wrap .u8 (a0 - (1:Int))).toNat=(IntKind.wrap .u8 (a0 - (1:Int))).toNat))&&((ee 56 ((aP.2.getD (IntKind.wrap .u8 (a0 - (1:Int))).toNat (false,[])).2.length+[(aq,(aX.2.1.2.1,(bG.1,cf.1)))].length))&&((aR (IntKind.wrap .u8 (a0 - (1:Int))) aP.2.length)&&(((decide ((IntKind.wrap .u8 (a0 - (1:Int))).toNat=(IntKind.wrap .u8 (a0 - (1:Int))).toNat))&&(decide ((IntKind.wrap .u8 (a0 - (1:Int))).toNat < aP.2.length)))&&(true))))) <|
  some ((a0,aX.2.1.1),(0:Int),a3,a4,(aP.2.set (IntKind.wrap .u8 (a0 - (1:Int))).toNat (true,((aP.2.getD (IntKind.wrap .u8 (a0 - (1:Int))).toNat (false,[])).2++[(aq,(aX.2.1.2.1,(bG.1,cf.1)))]))),(et.set (IntKind.wrap .u8 (a0 - (1:Int))).toNat aX.1))) (ar ((decide ((IntKind.wrap .u8 (a0 - (1:Int))).toNat=(IntKind.wrap .u8 (a0 - (1:Int))).toNat))&&((ee 56 ((aP.2.getD (IntKind.wrap .u8 (a0 - (1:Int))).toNat (false,[])).2.length+[(aq,(aX.2.1.2.1,(bG.1,cf.1)))].length))&&((aR (IntKind.wrap .u8 (a0 - (1:Int))) aP.2.length)&&(((decide ((IntKind.wrap .u8 (a0 - (1:Int))).toNat=(IntKind.wrap .u8 (a0 - (1:Int))).toNat))&&(decide ((IntKind.wrap .u8 (a0 - (1:Int))).toNat < aP.2.length)))&&(true))))) <|
  some ((a0,aX.2.1.1),(0:Int),a3,a4,(aP.2.set (IntKind.wrap .u8 (a0 - (1:Int))).toNat (true,((aP.2.getD (IntKind.wrap .u8 (a0 - (1:Int))).toNat (false,[])).2++[(aq,(aX.2.1.2.1,(bG.1,cf.1)))]))),(et.set (IntKind.wrap .u8 (a0 - (1:Int))).toNat aX.1))))))
theorem abj:CI=nL:=by
 unfold CI nL
 first | rfl | (simp only[mW]; done) | (funext; simp (disch:=(simp only[nG,fc,nF]; first | done | first | rfl | (refine gl (fun h=>?_) (fun h=>?_); (focus (rw[h]; first | done | (simp only[fc]; first | done | first | rfl | (refine gl (fun h=>?_) (fun h=>?_); (focus (rw[h]; first | done | (simp only[fc]; first | done | first | rfl | (refine gl (fun h=>?_) (fun h=>?_); (focus (rw[h]; first | done | (simp only[fc]; first | done | rfl))); (focus (rw[h]; first | done | simp only[gi,gj])))))); (focus (rw[h]; first | done | simp only[gi,gj])))))); (focus (rw[h]; first | done | simp only[gi,gj]))))) only[nH])
noncomputable def CJ (N:Nat):bz bS:=v7 N bU (by kernel_rfl) [.c (.raw (.ptr 1000000 0)),.c (.int .u8),.c (.int .u8),.c (.bd bf)] [(1000000,.cells 160 [.bd bN,.raw (.ak 2000000),.raw (.ak 2000001),.raw (.ak 2000002),.int .u8]),(2000002,.bQ 47 51 bT),(2000001,.row 112 cO)] ⟨.dj [.c9 bf,.c (.int .i64)],[(1000000,.cells 160 [.bd bN,.raw (.ak 2000000),.raw (.ak 2000001),.raw (.ak 2000002),.int .u8]),(2000002,.bQ 47 51 bT),(2000001,.row 112 cO)],[]⟩ [abi N,Oz N,zd N,HA N] [] (.s .d (.s (.s (.r [.n 4,.c [(2000000,2000002)]]) .d) (.s (.r [.n 18,.w (.b4 10 cO),.w (.b4 11 wa)]) (.s .d (.s (.o [4,5,6] [.t 0 0,.t 1 0,.t 2 0,.t 3 3,.t 4 0,.t 5 0,.t 6 1,.t 7 0,.s 8] []) (.s (.iF [] [] (.b [.t 0 0,.t 1 0,.t 2 1,.t 3 0,.t 5 0,.t 6 1] 4 9 [] [] (.b [] 7 9 [] [] (.f [.t 8 0,.s 9,.s 10]) (.f [.c 7 [],.t 8 0,.s 10])) (.f [.c 4 [],.c 7 [],.t 8 0,.s 10])) [(.b4 13 bT)] false) (.s (.iF [.t (.BM 2000002 1 68 .u8 1)] [4,5,6,7,8,9,10,11,12,13,14,15,16,1000018] (.b [.t 0 0,.t 1 0,.t 2 0,.t 3 3,.t 4 0,.t 5 0,.t 6 0,.t 7 0,.t 8 0,.t 9 3,.t 10 0,.t 11 0,.t 12 0,.t 14 1] 13 15 [] [] (.f [.k 15,.k 16,.t 17 0,.u 18 .st]) (.f [.f,.k 13,.k 16,.t 17 0,.u 18 .st])) [] false) (.s (.r [.n 6,.w (.t (.close 2000002 68))]) .d)))))))) [.cell 8 30,.tmp 9] 81 (bf.zero,0,[],0,[],[]) (fun d=>CI N d.1 d.2.1 d.2.2.1 d.2.2.2.1 d.2.2.2.2.1 d.2.2.2.2.2.1 d.2.2.2.2.2.2.1) (fun d=>nL N d.1 d.2.1 d.2.2.1 d.2.2.2.1 d.2.2.2.2.1 d.2.2.2.2.2.1 d.2.2.2.2.2.2.1) (fun d=>(by rw[abj]:CI N d.1 d.2.1 d.2.2.1 d.2.2.2.1 d.2.2.2.2.1 d.2.2.2.2.2.1 d.2.2.2.2.2.2.1=nL N d.1 d.2.1 d.2.2.1 d.2.2.2.1 d.2.2.2.2.1 d.2.2.2.2.2.1 d.2.2.2.2.2.2.1)) Tryz.func81 rfl rfl Tryz.ntmps81 rfl rfl rfl (fun d=>by kernel_rfl)
end

section
set_option linter.unusedSimpArgs false
set_option linter.unusedVariables false
open Go.RowKit
def CK(N:Nat) (a0:(List aQ)):Option ((List aQ)×Nat):=
  ar (((decide (0<=(a0.length:Int)))&&(decide ((a0.length:Int)<=(a0.length:Int)))&&(decide ((a0.length:Int)<=(a0.length:Int))))&&(true)) <|
  some ((a0.take (a0.length:Int).toNat),(a0.length:Int).toNat)
noncomputable def abk (N:Nat):bz bS:=b2 N bU (by kernel_rfl) [.c (.bd bT)] [] ⟨.a (.c (.jn bT)),[],[]⟩ [] [] (.d) [.tmp 2] 113 ([],0) (fun d=>CK N d.1) Tryz.func113 rfl rfl Tryz.ntmps113 rfl rfl rfl (fun d=>by kernel_rfl)
def HR(N:Nat) (et:List (Bool×List aQ)):Nat->(Int×(List b9)×(List aB)×(List aB)×(List aN)×Int×(List (List aQ)))->Option ((List b9)×(List aB)×(List aB)×(List aN)×Int×(List (List aQ))):=ch fun d2 e5=>
  cond (decide (d2.1 < (et.length:Int))) (ar ((aR d2.1 d2.2.2.2.2.2.2.length)&&((decide (d2.1.toNat < d2.2.2.2.2.2.2.length))&&(true))) <|
  Option.bind (CK N (d2.2.2.2.2.2.2.getD d2.1.toNat [])) fun bG=>
  ar ((aR d2.1 d2.2.2.2.2.2.2.length)&&(((decide (d2.1.toNat < d2.2.2.2.2.2.2.length))&&(true))&&(true))) <|
  ar ((bl (d2.1+(1:Int)))&&(true)) <|
  e5 ((d2.1+(1:Int)),d2.2.1,d2.2.2.1,d2.2.2.2.1,d2.2.2.2.2.1,d2.2.2.2.2.2.1,(d2.2.2.2.2.2.2.set d2.1.toNat bG.1))) (some (d2.2.1,d2.2.2.1,d2.2.2.2.1,d2.2.2.2.2.1,d2.2.2.2.2.2.1,d2.2.2.2.2.2.2))
def rS(N:Nat) (a0:(List b9)) (aq:(List aB)) (a2:(List aB)) (a3:(List bD)) (a4:(List aN)) (a5:Int) (et:List (Bool×List aQ)) (wj:List bL):Option (eV):=
  Option.bind (HR N et N ((0:Int),a0,aq,a2,a4,a5,(et.map (·.2)))) fun bM=>
  Option.bind (qu N a3) fun cf=>
  Option.bind (tD N bM.2.2.2.2.1) fun cw=>
  some (a3,(wj,((bM.2.2.2.2.2,(bM.1,(cf,bM.2.2.1))),cw)))
noncomputable def OD (N:Nat):bz bS:=b2 N bU (by kernel_rfl) [.c (.raw (.ptr 1000000 0)),.agg [.raw (.ak 2000002),.bd bW,.bd bf,.bd bf],.c (.bd b3)] [(1000000,.cells 160 [.bd bN,.raw (.ak 2000000),.raw (.ak 2000001),.raw (.ak 2000002),.int .u8]),(2000002,.bQ 47 51 bT),(2000001,.row 112 cO)] ⟨.a (.c9 hH),[],[]⟩ [abk N,ze N,OA N] [] (.s .d (.s (.s (.r [.n 6,.w (.t (.cL 2000002))]) (.b (.eb 0 ⟨[(0,.a (.c (.raw (.ptr 1000000 0)))),(4,.a (.c (.raw (.ptr 4 0)))),(6,.a (.c (.raw (.ptr 6 0)))),(12,.a (.c (.raw (.ak 2000002)))),(14,.a (.c (.int .i64)))],[(4,.cells 41 [.raw (.ak 2000002),.bd bW,.bd bf,.bd bf]),(1000000,.cells 160 [.bd bN,.raw (.ak 2000000),.raw (.ak 2000001),.raw (.ak 2000002),.int .u8]),(2000002,.row 47 (.ak bT))],[2,13],[6,2000001]⟩ ⟨[(0,.a (.c (.raw (.ptr 1000000 0)))),(4,.a (.c (.raw (.ptr 4 0)))),(6,.a (.c (.raw (.ptr 6 0))))],[(4,.cells 41 [.raw (.ak 2000002),.bd bW,.bd bf,.bd bf]),(1000000,.cells 160 [.bd bN,.raw (.ak 2000000),.raw (.ak 2000001),.raw (.ak 2000002),.int .u8]),(2000002,.row 47 (.ak bT))],[2],[6,2000001]⟩ (.s .d (.s .d (.s (.b (.s .d (.o [4,5,6,1000008] [.t 0 0,.t 1 0,.t 2 0,.t 3 3,.t 4 0,.t 5 0,.c 6 [],.t 7 0,.s 8] []))) .d)))))) (.s .d (.s .d (.s (.o [5,6,7,8,9,10,1000012] [.t 0 0,.t 1 0,.t 2 0,.t 3 0,.t 4 3,.t 5 3,.t 6 0,.t 7 0,.t 8 0,.t 9 3,.c 10 [],.t 11 0,.s 12] []) (.t [.dn 2000001,.dn 2000002])))))) [.cell 6 74] 83 hH.zero (fun d=>rS N d.1 d.2.1 d.2.2.1 d.2.2.2.1 d.2.2.2.2.1 d.2.2.2.2.2.1 d.2.2.2.2.2.2.1 d.2.2.2.2.2.2.2.1) Tryz.func83 rfl rfl Tryz.ntmps83 rfl rfl rfl (fun d=>by kernel_rfl)
def OE(N:Nat) :Option ((List (Bool×List aQ))):=
  some (List.replicate (6:Int).toNat ((true,[]):Bool×List aQ))
noncomputable def abl (N:Nat):bz bS:=b2 N bU (by kernel_rfl) [] [] ⟨.a (.c (.raw (.ak 1))),[(1,.bQ 47 51 bT)],[]⟩ [] [] (.s .d (.s (.r [.t .mk]) .d)) [.tmp 0] 105 [] (fun d=>OE N ) Tryz.func105 rfl rfl Tryz.ntmps105 rfl rfl rfl (fun d=>by kernel_rfl)
def HS(N:Nat) :Option ((List b9)×(List aB)×(List aB)×(List (Bool×List aQ))):=
  Option.bind (OE N) fun aP=>
  some (([]:List b9),([]:List aB),([]:List aB),aP)
noncomputable def abm (N:Nat):bz bS:=b2 N bU (by kernel_rfl) [] [] ⟨.a (.agg [.raw (.ak 1),.bd bW,.bd bf,.bd bf]),[(1,.bQ 47 51 bT)],[]⟩ [abl N] [] (.s .d (.s (.r [.c [(1,1)]]) .d)) [.cell 0 41] 79 ([],[],[],[]) (fun d=>HS N ) Tryz.func79 rfl rfl Tryz.ntmps79 rfl rfl rfl (fun d=>by kernel_rfl)
def HT(N:Nat) (a0:Int) (aq:Int):Nat->(Int×(List b9)×(List aB)×(List aB)×(List (Bool×List bD))×(List (Bool×List aQ))×(List bL)×(List aN)×Int×(List bD))->Option (((List b9)×(List aB)×(List aB)×(List (Bool×List bD))×(List (Bool×List aQ))×(List bL)×(List aN)×Int×(List bD))⊕(eV×Int)):=ch fun d3 eD=>
  cond (decide (d3.1 < ((List.replicate aq.toNat (b3.zero:bD)).length:Int))) (Option.bind (nL N a0 (0:Int) ([]:List aB) d3.2.2.2.2.2.2.2.1 d3.2.2.2.2.2.2.2.2.1 d3.2.2.2.2.2.1 d3.2.2.2.2.2.2.1) fun cf=>
  cond (!(decide (cf.2.1=(0:Int)))) (some (.inr ((([]:List bD),(([]:List bL),((([]:List (List aQ)),(([]:List b9),(([]:List aB),([]:List aB)))),(0:Int)))),cf.2.1))) (ar ((aR d3.1 d3.2.2.2.2.2.2.2.2.2.length)&&(((decide (d3.1.toNat < d3.2.2.2.2.2.2.2.2.2.length))&&(true))&&(true))) <|
  ar ((bl (d3.1+(1:Int)))&&(true)) <|
  eD ((d3.1+(1:Int)),d3.2.1,d3.2.2.1,d3.2.2.2.1,d3.2.2.2.2.1,cf.2.2.2.2.1,cf.2.2.2.2.2,cf.2.2.1,cf.2.2.2.1,(d3.2.2.2.2.2.2.2.2.2.set d3.1.toNat ((0:Int),[cf.1]))))) (some (.inl (d3.2.1,d3.2.2.1,d3.2.2.2.1,d3.2.2.2.2.1,d3.2.2.2.2.2.1,d3.2.2.2.2.2.2.1,d3.2.2.2.2.2.2.2.1,d3.2.2.2.2.2.2.2.2.1,d3.2.2.2.2.2.2.2.2.2)))
def wk(N:Nat) (a0:Int) (aq:Int):Option (eV×Int):=
  cond (cond (cond (cond (decide (a0 < (1:Int))) true (decide ((6:Int) < a0))) true (decide (aq < (1:Int)))) true (decide ((16:Int) < aq))) (some ((([]:List bD),(([]:List bL),((([]:List (List aQ)),(([]:List b9),(([]:List aB),([]:List aB)))),(0:Int)))),(1:Int))) (Option.bind (HS N) fun aP=>
  Option.bind (zl N a0 ([]:List aN) (1:Int) (([]:List (List bD)).map fun x=>(false,x)) (List.replicate (6:Int).toNat (cO.zero:bL))) fun aX=>
  cond (!(decide (aX.1=(0:Int)))) (some ((([]:List bD),(([]:List bL),((([]:List (List aQ)),(([]:List b9),(([]:List aB),([]:List aB)))),(0:Int)))),aX.1)) (ar (((decide (0<=aq))&&(decide (aq<=aq))&&(eo 32 aq))&&(true)) <|
  Option.bind (HT N a0 aq N ((0:Int),aP.1,aP.2.1,aP.2.2.1,aX.2.2.2.1,aP.2.2.2,aX.2.2.2.2,aX.2.1,aX.2.2.1,(List.replicate aq.toNat (b3.zero:bD)))) fun(cd:((List b9)×(List aB)×(List aB)×(List (Bool×List bD))×(List (Bool×List aQ))×(List bL)×(List aN)×Int×(List bD))⊕(eV×Int))=>
  sm cd (fun cd=>
  Option.bind (pt N a0 (179:Int) ([]:List cF) cd.2.2.2.2.2.2.1 cd.2.2.2.2.2.2.2.1 cd.2.2.2.2.2.1) fun cw=>
  cond (!(decide (cw.1=(0:Int)))) (some ((([]:List bD),(([]:List bL),((([]:List (List aQ)),(([]:List b9),(([]:List aB),([]:List aB)))),(0:Int)))),cw.1)) (Option.bind (rS N cd.1 cd.2.1 cd.2.2.1 cd.2.2.2.2.2.2.2.2 cw.2.1 cw.2.2.1 cd.2.2.2.2.1 cw.2.2.2) fun gR=>
  some (gR,(0:Int)))) (fun q=>some q)))
noncomputable def abn (N:Nat):bz bS:=b2 N bU (by kernel_rfl) [.c (.int .u8),.c (.int .i64)] [] ⟨.dj [.c9 hH,.c (.int .i64)],[],[]⟩ [abm N,OC N,CJ N,CH N,OD N] [] (.s .d (.s .d (.s (.r [.c [(1,29)]]) (.s (.o [0,4] [.t 1 0,.t 2 3,.k 0,.t 3 0,.k 4,.t 5 0] []) (.s (.s (.r [.n 2,.w (.nr 34 0 14 46 bN),.w (.dn 14),.w (.nr 34 1 15 70 (.ak b3)),.w (.t (.oo 15 121)),.c [(1000000,34),(2000002,29),(2000000,15),(2000001,30)]]) .d) (.s .d (.s (.s .d (.b (.fh 0 ⟨[(4,.a (.c (.raw (.ptr 4 0)))),(6,.a (.c (.raw (.ptr 6 0)))),(7,.a (.c (.raw (.ptr 34 0)))),(9,.a (.c (.raw (.ak 43)))),(46,.a (.c (.int .i64)))],[(6,.cells 41 [.raw (.ak 29),.bd bW,.bd bf,.bd bf]),(15,.bQ 70 121 b3),(29,.bQ 47 51 bT),(30,.row 112 cO),(34,.cells 160 [.bd bN,.raw (.ak 15),.raw (.ak 30),.raw (.ak 29),.int .u8]),(43,.row 121 b3)],[0,45],[4]⟩ ⟨[(4,.a (.c (.raw (.ptr 4 0)))),(6,.a (.c (.raw (.ptr 6 0)))),(7,.a (.c (.raw (.ptr 34 0)))),(9,.a (.c (.raw (.ak 43))))],[(6,.cells 41 [.raw (.ak 29),.bd bW,.bd bf,.bd bf]),(15,.bQ 70 121 b3),(29,.bQ 47 51 bT),(30,.row 112 cO),(34,.cells 160 [.bd bN,.raw (.ak 15),.raw (.ak 30),.raw (.ak 29),.int .u8]),(43,.row 121 b3)],[0],[4]⟩ (.s .d (.s .d (.s (.b (.s .d (.s (.r [.n 2,.c [(1000000,34),(2000000,15),(2000002,29),(2000001,30)],.n 6,.w (.b4 11 bf)]) (.s .d (.r [.n 6,.w (.dn 62)]))))) .d)))))) (.s (.s (.r [.n 2,.c [(1000000,34),(2000000,15),(2000002,29),(2000001,30)]]) .d) (.s (.r [.n 3,.w (.dn 43),.c [(1000000,34),(2000000,15),(2000002,29),(2000001,30)]]) .d))))))))) [.cell 4 74,.tmp 5] 46 (hH.zero,0) (fun d=>wk N d.1 d.2.1) Tryz.func46 rfl rfl Tryz.ntmps46 rfl rfl rfl (fun d=>by kernel_rfl)
end

section
set_option linter.unusedSimpArgs false
set_option linter.unusedVariables false
open Go.RowKit
def OF(N:Nat) (a0:List bD):Nat->(Int×(List (List aB)))->Option ((List (List aB))):=ch fun d1 cz=>
  cond (decide (d1.1 < (a0.length:Int))) (ar ((aR d1.1 a0.length)&&((decide (d1.1.toNat < a0.length))&&(true))) <|
  ar ((aR d1.1 d1.2.length)&&(((decide (d1.1.toNat < d1.2.length))&&(true))&&(true))) <|
  ar ((bl (d1.1+(1:Int)))&&(true)) <|
  cz ((d1.1+(1:Int)),(d1.2.set d1.1.toNat (a0.getD d1.1.toNat b3.zero).2))) (some d1.2)
def zn(N:Nat) (a0:List bD):Option ((List aB)):=
  ar (((decide (0<=(a0.length:Int)))&&(decide ((a0.length:Int)<=(a0.length:Int)))&&(eo 24 (a0.length:Int)))&&(true)) <|
  Option.bind (OF N a0 N ((0:Int),(List.replicate (a0.length:Int).toNat ([]:(List aB))))) fun bj=>
  Option.bind (wh N bj) fun aX=>
  some aX
noncomputable def OG (N:Nat):bz bS:=b2 N bU (by kernel_rfl) [.c (.raw (.ak 2000000))] [(2000000,.row 121 b3)] ⟨.a (.c (.bd bf)),[],[2000000]⟩ [HD N] [] (.s .d (.s .d (.s (.s .d (.b (.eb 0 ⟨[(3,.a (.c (.raw (.ak 8)))),(9,.a (.c (.raw (.ak 2000000)))),(11,.a (.c (.int .i64)))],[(8,.row 39 (.ak bf))],[10],[2000000]⟩ ⟨[(3,.a (.c (.raw (.ak 8))))],[(8,.row 39 (.ak bf))],[],[2000000]⟩ (.s .d (.s .d (.s (.b (.s (.r [.n 6,.w (.b4 5 b3)]) .d)) .d)))))) (.s (.r [.n 1,.w (.dn 8)]) .d)))) [.tmp 2] 87 [] (fun d=>zn N d.1) Tryz.func87 rfl rfl Tryz.ntmps87 rfl rfl rfl (fun d=>by kernel_rfl)
def HU(N:Nat) (a0:Int) (aq:List bD) (gp:Int):Nat->(Int×(List cF))->Option ((List cF)):=ch fun d3 eD=>
  cond (decide (d3.1 < ((aq.getD gp.toNat b3.zero).2.length:Int))) (ar ((aR d3.1 (aq.getD gp.toNat b3.zero).2.length)&&(true)) <|
  ar ((ee 24 (d3.2.length+[(((aq.getD gp.toNat b3.zero).2.getD d3.1.toNat bf.zero),((decide ((aq.getD gp.toNat b3.zero).1=(1:Int))),a0))].length))&&(true)) <|
  ar ((bl (d3.1+(1:Int)))&&(true)) <|
  eD ((d3.1+(1:Int)),(d3.2++[(((aq.getD gp.toNat b3.zero).2.getD d3.1.toNat bf.zero),((decide ((aq.getD gp.toNat b3.zero).1=(1:Int))),a0))]))) (some d3.2)
def HV(N:Nat) (a0:Int) (aq:List bD):Nat->(Int×(List cF))->Option ((List cF)):=ch fun d2 e5=>
  cond (decide (d2.1 < (aq.length:Int))) (ar ((aR d2.1 aq.length)&&((decide (d2.1.toNat < aq.length))&&(true))) <|
  Option.bind (HU N a0 aq d2.1 N ((0:Int),d2.2)) fun cd=>
  ar ((bl (d2.1+(1:Int)))&&(true)) <|
  e5 ((d2.1+(1:Int)),cd)) (some d2.2)
def tE(N:Nat) (a0:Int) (aq:List bD):Option ((List cF)×(List bD)):=
  Option.bind (zn N aq) fun aP=>
  ar (((decide ((0:Int)<=(aP.length:Int)))&&(eo 24 (aP.length:Int)))&&(true)) <|
  Option.bind (HV N a0 aq N ((0:Int),([]:List cF))) fun bM=>
  cond (!(decide (a0=(1:Int)))) (Option.bind (zf N bM) fun cf=>
  some (cf,aq)) (some (bM,aq))
noncomputable def abo (N:Nat):bz bS:=b2 N bU (by kernel_rfl) [.c (.raw (.ak 2000000)),.c (.int .u8)] [(2000000,.row 121 b3)] ⟨.a (.c (.bd ds)),[(2000000,.row 121 b3)],[]⟩ [OG N,Oq N] [] (.s .d (.s (.r [.n 1,.c [(2000000,2000000)]]) (.s .d (.s (.s .d (.b (.eb 0 ⟨[(6,.a (.c (.raw (.ak 15)))),(16,.a (.c (.raw (.ak 2000000)))),(18,.a (.c (.int .i64)))],[(15,.row 123 ds)],[1,17],[2000000]⟩ ⟨[(6,.a (.c (.raw (.ak 15))))],[(15,.row 123 ds)],[1],[2000000]⟩ (.s .d (.s .d (.s (.b (.s (.r [.n 4,.w (.b4 8 b3)]) (.s .d (.b (.eb 2 ⟨[(6,.a (.c (.raw (.ak 15)))),(16,.a (.c (.raw (.ak 2000000)))),(25,.a (.c (.int .i64)))],[(15,.row 123 ds)],[1,8,17,18,23,24],[2000000]⟩ ⟨[(6,.a (.c (.raw (.ak 15)))),(16,.a (.c (.raw (.ak 2000000))))],[(15,.row 123 ds)],[1,17,18],[2000000]⟩ (.s .d (.s .d (.s (.b (.s (.r [.n 4,.w (.b4 10 bf)]) .d)) .d)))))))) .d)))))) (.s (.s .d (.c (.r [.n 1,.c [(2000000,15)]]) .d)) (.s .d (.t [.dn 15]))))))) [.tmp 4] 109 ([],[]) (fun d=>tE N d.1 d.2.1) Tryz.func109 rfl rfl Tryz.ntmps109 rfl rfl rfl (fun d=>by kernel_rfl)
end

section
set_option linter.unusedSimpArgs false
set_option linter.unusedVariables false
open Go.RowKit
def OH(N:Nat) (a0:Int) (aq:Int) (a2:(List aN)) (a3:Int) (a4:List (Bool×List bD)) (a5:List (Bool×List aQ)) (et:List bL):Option (Int×(List aN)×Int×(List (Bool×List bD))×(List (Bool×List aQ))×(List bL)):=
  Option.bind (nL N aq (0:Int) ([]:List aB) a2 a3 a5 et) fun aP=>
  ar ((aR a0 a4.length)&&((decide (a0.toNat < a4.length))&&(true))) <|
  some (aP.2.1,aP.2.2.1,aP.2.2.2.1,(a4.set a0.toNat (true,[((0:Int),[aP.1])])),aP.2.2.2.2.1,aP.2.2.2.2.2)
noncomputable def abp (N:Nat):bz bS:=b2 N bU (by kernel_rfl) [.c (.int .i64),.c (.raw (.ptr 1000000 0)),.c (.fK (.int .u8) 0)] [(1000000,.cells 157 [.raw (.ptr 1000001 0)]),(1000001,.cells 160 [.bd bN,.raw (.ak 2000000),.raw (.ak 2000001),.raw (.ak 2000002),.int .u8]),(2000000,.bQ 70 121 b3),(2000002,.bQ 47 51 bT),(2000001,.row 112 cO)] ⟨.a (.c (.int .i64)),[(1000000,.cells 157 [.raw (.ptr 1000001 0)]),(1000001,.cells 160 [.bd bN,.raw (.ak 2000000),.raw (.ak 2000001),.raw (.ak 2000002),.int .u8]),(2000000,.bQ 70 121 b3),(2000002,.bQ 47 51 bT),(2000001,.row 112 cO)],[]⟩ [CJ N] [] (.s .d (.s (.r [.n 2,.c [(1000000,1000001),(2000000,2000000),(2000002,2000002),(2000001,2000001)],.n 6,.w (.b4 5 bf)]) (.s (.o [0,1,2,3,4,5,6,7,8,1000010] [.t 0 3,.t 1 0,.t 2 0,.t 3 3,.t 4 0,.t 5 1,.k 6,.t 7 0,.z 19,.k 8,.t 9 0,.u 10 .st] []) (.s (.r [.n 2,.w (.t (.close 2000000 21))]) .d)))) [.tmp 4] 165 (0,[],0,[],[],[]) (fun d=>OH N d.1 d.2.1 d.2.2.1 d.2.2.2.1 d.2.2.2.2.1 d.2.2.2.2.2.1 d.2.2.2.2.2.2.1) Tryz.func165 rfl rfl Tryz.ntmps165 rfl rfl rfl (fun d=>by kernel_rfl)
end

section
set_option linter.unusedSimpArgs false
set_option linter.unusedVariables false
open Go.RowKit
def OI(N:Nat) (a0:Int) (aq:Int) (a2:(List aN)) (a3:Int) (a4:List (Bool×List bD)) (a5:List (Bool×List aQ)) (et:List bL):Option (Int×(List aN)×Int×(List (Bool×List bD))×(List (Bool×List aQ))×(List bL)):=
  Option.bind (nL N aq (0:Int) ([]:List aB) a2 a3 a5 et) fun aP=>
  ar (((decide (a0.toNat < a4.length))&&(a4.getD a0.toNat (false,[])).1)) <|
  ar ((aR a0 a4.length)&&((decide (a0.toNat=a0.toNat))&&((aR a0 a4.length)&&((decide (a0.toNat=a0.toNat))&&((aR (0:Int) (a4.getD a0.toNat (false,[])).2.length)&&((decide ((0:Int).toNat < (a4.getD a0.toNat (false,[])).2.length))&&(true))))))) <|
  Option.bind (wh N [((a4.getD a0.toNat (false,[])).2.getD (0:Int).toNat b3.zero).2,[aP.1]]) fun bG=>
  ar ((aR (0:Int) (a4.getD a0.toNat (false,[])).2.length)&&(((decide ((0:Int).toNat < (a4.getD a0.toNat (false,[])).2.length))&&(true))&&(true))) <|
  some (aP.2.1,aP.2.2.1,aP.2.2.2.1,(a4.set a0.toNat (true,((a4.getD a0.toNat (false,[])).2.set (0:Int).toNat (((a4.getD a0.toNat (false,[])).2.getD (0:Int).toNat b3.zero).1,bG)))),aP.2.2.2.2.1,aP.2.2.2.2.2)
noncomputable def abq (N:Nat):bz bS:=b2 N bU (by kernel_rfl) [.c (.int .i64),.c (.raw (.ptr 1000000 0)),.c (.fK (.int .u8) 0)] [(1000000,.cells 157 [.raw (.ptr 1000001 0)]),(1000001,.cells 160 [.bd bN,.raw (.ak 2000000),.raw (.ak 2000001),.raw (.ak 2000002),.int .u8]),(2000000,.bQ 70 121 b3),(2000002,.bQ 47 51 bT),(2000001,.row 112 cO)] ⟨.a (.c (.int .i64)),[(1000000,.cells 157 [.raw (.ptr 1000001 0)]),(1000001,.cells 160 [.bd bN,.raw (.ak 2000000),.raw (.ak 2000001),.raw (.ak 2000002),.int .u8]),(2000000,.bQ 70 121 b3),(2000002,.bQ 47 51 bT),(2000001,.row 112 cO)],[]⟩ [CJ N,HD N] [] (.s .d (.s (.r [.n 2,.c [(1000000,1000001),(2000000,2000000),(2000002,2000002),(2000001,2000001)],.n 6,.w (.b4 5 bf)]) (.s (.p [.t (.op 2000000 0 19)] (.lf [4,7,8,9,10,11,12,13,14,15,16,17,18,19,20,1000023] [.t 0 3,.t 1 0,.t 2 0,.t 3 3,.t 4 0,.t 5 0,.t 6 3,.t 7 3,.t 8 0,.t 9 0,.t 10 3,.t 11 0,.t 12 0,.t 13 3,.t 14 0,.t 15 0,.t 16 3,.t 17 1,.e 18,.e 19,.c 20 [],.t 21 0,.t 22 0,.s 23] [])) (.s (.r [.n 2,.w (.t (.close 2000000 19))]) .d)))) [.tmp 4] 166 (0,[],0,[],[],[]) (fun d=>OI N d.1 d.2.1 d.2.2.1 d.2.2.2.1 d.2.2.2.2.1 d.2.2.2.2.2.1 d.2.2.2.2.2.2.1) Tryz.func166 rfl rfl Tryz.ntmps166 rfl rfl rfl (fun d=>by kernel_rfl)
def zo(N:Nat) (a0:Int) (aq:Int) (a4:List (Bool×List bD)):Nat->(Int×(List bD)×(List aN)×Int×(List (Bool×List bD))×Nat×(List bL)×(List (Bool×List aQ)))->Option (((List bD)×(List aN)×Int×(List (Bool×List bD))×Nat×(List bL)×(List (Bool×List aQ)))⊕(Int×(List aN)×Int×(List (Bool×List bD))×(List (Bool×List aQ))×(List bL))):=ch fun d1 cz=>
  cond (decide (d1.1 < ((a4.getD a0.toNat (false,[])).2.length:Int))) (Option.bind (cond (decide (d1.2.2.2.1=(0:Int))) (ar ((bl ((d1.2.1.length:Int) - (1:Int)))&&((bl (((d1.2.1.length:Int) - (1:Int)) - d1.1))&&(true))) <|
  some ((((d1.2.1.length:Int) - (1:Int)) - d1.1),d1.2.2.1,d1.2.2.2.1,d1.2.2.2.2.1,d1.2.2.2.2.2.1)) (some (d1.1,d1.2.2.1,d1.2.2.2.1,d1.2.2.2.2.1,d1.2.2.2.2.2.1))) fun bM=>
  ar ((aR bM.1 d1.2.1.length)&&((decide (bM.1.toNat < d1.2.1.length))&&((aR bM.1 d1.2.1.length)&&((decide (bM.1.toNat < d1.2.1.length))&&(true))))) <|
  Option.bind (nL N aq (d1.2.1.getD bM.1.toNat b3.zero).1 (d1.2.1.getD bM.1.toNat b3.zero).2 bM.2.1 bM.2.2.1 d1.2.2.2.2.2.2.2 d1.2.2.2.2.2.2.1) fun bG=>
  cond (!(decide (bG.2.1=(0:Int)))) (some (.inr (bG.2.1,bG.2.2.1,bG.2.2.2.1,(bM.2.2.2.1.set bM.2.2.2.2 (true,d1.2.1)),bG.2.2.2.2.1,bG.2.2.2.2.2))) (ar ((aR bM.1 d1.2.1.length)&&(((decide (bM.1.toNat < d1.2.1.length))&&(true))&&(true))) <|
  ar ((bl (d1.1+(1:Int)))&&(true)) <|
  cz ((d1.1+(1:Int)),(d1.2.1.set bM.1.toNat ((d1.2.1.getD bM.1.toNat b3.zero).1,[bG.1])),bG.2.2.1,bG.2.2.2.1,bM.2.2.2.1,bM.2.2.2.2,bG.2.2.2.2.2,bG.2.2.2.2.1))) (some (.inl (d1.2.1,d1.2.2.1,d1.2.2.2.1,d1.2.2.2.2.1,d1.2.2.2.2.2.1,d1.2.2.2.2.2.2.1,d1.2.2.2.2.2.2.2)))
def ou(N:Nat) (a0:Int) (aq:Int) (a2:(List aN)) (a3:Int) (a4:List (Bool×List bD)) (a5:List (Bool×List aQ)) (et:List bL):Option (Int×(List aN)×Int×(List (Bool×List bD))×(List (Bool×List aQ))×(List bL)):=
  ar ((aR a0 a4.length)&&(((decide (a0.toNat < a4.length))&&(a4.getD a0.toNat (false,[])).1)&&(true))) <|
  Option.bind (zo N a0 aq a4 N ((0:Int),(a4.getD a0.toNat (false,[])).2,a2,a3,a4,a0.toNat,et,a5)) fun(bj:((List bD)×(List aN)×Int×(List (Bool×List bD))×Nat×(List bL)×(List (Bool×List aQ)))⊕(Int×(List aN)×Int×(List (Bool×List bD))×(List (Bool×List aQ))×(List bL)))=>
  sm bj (fun bj=>
  some ((0:Int),bj.2.1,bj.2.2.1,(bj.2.2.2.1.set bj.2.2.2.2.1 (true,bj.1)),bj.2.2.2.2.2.2,bj.2.2.2.2.2.1)) (fun q=>some q)
noncomputable def HW (N:Nat) (a0:Int) (aq:Int) (a4:List (Bool×List bD)):Nat->(Int×(List bD)×(List aN)×Int×(List (Bool×List bD))×Nat×(List bL)×(List (Bool×List aQ)))->Option (((List bD)×(List aN)×Int×(List (Bool×List bD))×Nat×(List bL)×(List (Bool×List aQ)))⊕(Int×(List aN)×Int×(List (Bool×List bD))×(List (Bool×List aQ))×(List bL))):=ch fun d1 cz=>
  cond (decide (d1.1 < ((a4.getD a0.toNat (false,[])).2.length:Int))) (Option.bind (cond (decide (d1.2.2.2.1=(0:Int))) (ar ((bl ((d1.2.1.length:Int) - (1:Int)))&&((bl (((d1.2.1.length:Int) - (1:Int)) - d1.1))&&(true))) <|
  some ((((d1.2.1.length:Int) - (1:Int)) - d1.1),d1.2.2.1,d1.2.2.2.1,d1.2.2.2.2.1,d1.2.2.2.2.2.1)) (some (d1.1,d1.2.2.1,d1.2.2.2.1,d1.2.2.2.2.1,d1.2.2.2.2.2.1))) fun bM=>
  ar ((aR bM.1 d1.2.1.length)&&((decide (bM.1.toNat < d1.2.1.length))&&((aR bM.1 d1.2.1.length)&&((decide (bM.1.toNat < d1.2.1.length))&&(true))))) <|
  jc (Option.bind (nL N aq (d1.2.1.getD bM.1.toNat b3.zero).1 (d1.2.1.getD bM.1.toNat b3.zero).2 bM.2.1 bM.2.2.1 d1.2.2.2.2.2.2.2 d1.2.2.2.2.2.2.1) fun bG=>
  cond (!(decide (bG.2.1=(0:Int)))) (some (.inr (bG.2.1,bG.2.2.1,bG.2.2.2.1,(bM.2.2.2.1.set bM.2.2.2.2 (true,d1.2.1)),bG.2.2.2.2.1,bG.2.2.2.2.2))) (ar ((aR bM.1 d1.2.1.length)&&(((decide (bM.1.toNat < d1.2.1.length))&&(true))&&(true))) <|
  ar ((bl (d1.1+(1:Int)))&&(true)) <|
  cz ((d1.1+(1:Int)),(d1.2.1.set bM.1.toNat ((d1.2.1.getD bM.1.toNat b3.zero).1,[bG.1])),bG.2.2.1,bG.2.2.2.1,bM.2.2.2.1,bM.2.2.2.2,bG.2.2.2.2.2,bG.2.2.2.2.1))) (Option.bind (nL N aq (d1.2.1.getD bM.1.toNat b3.zero).1 (d1.2.1.getD bM.1.toNat b3.zero).2 bM.2.1 bM.2.2.1 d1.2.2.2.2.2.2.2 d1.2.2.2.2.2.2.1) fun bG=>
  cond (!(decide (bG.2.1=(0:Int)))) (some (.inr (bG.2.1,bG.2.2.1,bG.2.2.2.1,(bM.2.2.2.1.set bM.2.2.2.2 (true,d1.2.1)),bG.2.2.2.2.1,bG.2.2.2.2.2))) (ar ((aR bM.1 d1.2.1.length)&&(((decide (bM.1.toNat < d1.2.1.length))&&(true))&&(true))) <|
  ar ((bl (d1.1+(1:Int)))&&(true)) <|
  cz ((d1.1+(1:Int)),(d1.2.1.set bM.1.toNat ((d1.2.1.getD bM.1.toNat b3.zero).1,[bG.1])),bG.2.2.1,bG.2.2.2.1,bM.2.2.2.1,bM.2.2.2.2,bG.2.2.2.2.2,bG.2.2.2.2.1)))) (some (.inl (d1.2.1,d1.2.2.1,d1.2.2.2.1,d1.2.2.2.2.1,d1.2.2.2.2.2.1,d1.2.2.2.2.2.2.1,d1.2.2.2.2.2.2.2)))
noncomputable def CL (N:Nat) (a0:Int) (aq:Int) (a2:(List aN)) (a3:Int) (a4:List (Bool×List bD)) (a5:List (Bool×List aQ)) (et:List bL):Option (Int×(List aN)×Int×(List (Bool×List bD))×(List (Bool×List aQ))×(List bL)):=
  ar ((aR a0 a4.length)&&(((decide (a0.toNat < a4.length))&&(a4.getD a0.toNat (false,[])).1)&&(true))) <|
  Option.bind (HW N a0 aq a4 N ((0:Int),(a4.getD a0.toNat (false,[])).2,a2,a3,a4,a0.toNat,et,a5)) fun(bj:((List bD)×(List aN)×Int×(List (Bool×List bD))×Nat×(List bL)×(List (Bool×List aQ)))⊕(Int×(List aN)×Int×(List (Bool×List bD))×(List (Bool×List aQ))×(List bL)))=>
  sm bj (fun bj=>
  some ((0:Int),bj.2.1,bj.2.2.1,(bj.2.2.2.1.set bj.2.2.2.2.1 (true,bj.1)),bj.2.2.2.2.2.2,bj.2.2.2.2.2.1)) (fun q=>some q)
theorem OJ:HW=zo:=by
 unfold HW zo
 first | rfl | (simp only[mW]; done) | (funext; simp (disch:=(simp only[nG,fc,nF]; first | done | first | rfl | (refine gl (fun h=>?_) (fun h=>?_); (focus (rw[h]; first | done | (simp only[fc]; first | done | first | rfl | (refine gl (fun h=>?_) (fun h=>?_); (focus (rw[h]; first | done | (simp only[fc]; first | done | first | rfl | (refine gl (fun h=>?_) (fun h=>?_); (focus (rw[h]; first | done | (simp only[fc]; first | done | rfl))); (focus (rw[h]; first | done | simp only[gi,gj])))))); (focus (rw[h]; first | done | simp only[gi,gj])))))); (focus (rw[h]; first | done | simp only[gi,gj]))))) only[nH])
theorem abr:CL=ou:=by
 unfold CL ou
 first | (simp only[mW,OJ]; done) | (funext; simp (disch:=(simp only[nG,fc,nF]; first | done | first | rfl | (refine gl (fun h=>?_) (fun h=>?_); (focus (rw[h]; first | done | (simp only[fc]; first | done | first | rfl | (refine gl (fun h=>?_) (fun h=>?_); (focus (rw[h]; first | done | (simp only[fc]; first | done | first | rfl | (refine gl (fun h=>?_) (fun h=>?_); (focus (rw[h]; first | done | (simp only[fc]; first | done | rfl))); (focus (rw[h]; first | done | simp only[gi,gj])))))); (focus (rw[h]; first | done | simp only[gi,gj])))))); (focus (rw[h]; first | done | simp only[gi,gj]))))) only[nH,OJ]) | rfl
noncomputable def abt (N:Nat):bz bS:=v7 N bU (by kernel_rfl) [.c (.int .i64),.c (.raw (.ptr 1000000 0)),.c (.fK (.int .u8) 0)] [(1000000,.cells 157 [.raw (.ptr 1000001 0)]),(1000001,.cells 160 [.bd bN,.raw (.ak 2000000),.raw (.ak 2000001),.raw (.ak 2000002),.int .u8]),(2000000,.bQ 70 121 b3),(2000002,.bQ 47 51 bT),(2000001,.row 112 cO)] ⟨.a (.c (.int .i64)),[(1000000,.cells 157 [.raw (.ptr 1000001 0)]),(1000001,.cells 160 [.bd bN,.raw (.ak 2000000),.raw (.ak 2000001),.raw (.ak 2000002),.int .u8]),(2000000,.bQ 70 121 b3),(2000002,.bQ 47 51 bT),(2000001,.row 112 cO)],[]⟩ [CJ N] [] (.s .d (.s (.r [.n 6,.t .yu]) (.s (.s .d (.b (.fh 0 ⟨[(1,.a (.c (.raw (.ptr 1000000 0)))),(5,.a (.c (.raw (.ak 15)))),(18,.a (.c (.int .i64)))],[(15,.row 121 b3),(1000000,.cells 157 [.raw (.ptr 1000001 0)]),(1000001,.cells 160 [.bd bN,.raw (.ak 2000000),.raw (.ak 2000001),.raw (.ak 2000002),.int .u8]),(2000000,.ve 70 121 b3 (some 15)),(2000001,.row 112 cO),(2000002,.bQ 47 51 bT)],[2,17],[]⟩ ⟨[],[(15,.row 121 b3),(1000000,.cells 157 [.raw (.ptr 1000001 0)]),(1000001,.cells 160 [.bd bN,.raw (.ak 2000000),.raw (.ak 2000001),.raw (.ak 2000002),.int .u8]),(2000000,.ve 70 121 b3 (some 15)),(2000001,.row 112 cO),(2000002,.bQ 47 51 bT)],[],[]⟩ (.s .d (.s .d (.s (.b (.s .d (.j ⟨[(1,.a (.c (.raw (.ptr 1000000 0)))),(5,.a (.c (.raw (.ak 15)))),(6,.a (.c (.int .i64)))],[(1000000,.cells 157 [.raw (.ptr 1000001 0)]),(1000001,.cells 160 [.bd bN,.raw (.ak 2000000),.raw (.ak 2000001),.raw (.ak 2000002),.int .u8]),(2000000,.ve 70 121 b3 (some 15))],[2,17,18],[15,2000001,2000002]⟩ .d (.s (.iF [] [1,2,3,4,5,6,7,8,9,10,11,16,1000012,1000017] (.b [.t 0 3,.t 1 1,.t 2 0,.t 3 0,.t 4 0,.t 5 0,.t 6 3,.t 7 0,.t 8 0,.t 9 0,.t 10 0,.t 11 3] 12 16 [(1000000,1000001),(2000000,2000000),(2000002,2000002),(2000001,2000001)] [] (.f [.m 13,.t 14 0,.t 15 0,.s 16,.s 17,.t 18 0]) (.f [.c 12 [(1000000,1000001),(2000000,2000000),(2000002,2000002),(2000001,2000001)],.m 13,.t 14 0,.t 15 0,.s 17,.t 18 0])) [(.b4 7 bf)] true) (.s (.s .d (.c (.s (.r [.n 2,.w (.t (.close 2000000 15))]) .d) .d)) (.r [.n 6,.w (.dn 53)])))))) .d)))))) (.s (.r [.n 1,.w (.t (.close 2000000 15))]) .d)))) [.tmp 4] 164 (0,[],0,[],[],[]) (fun d=>CL N d.1 d.2.1 d.2.2.1 d.2.2.2.1 d.2.2.2.2.1 d.2.2.2.2.2.1 d.2.2.2.2.2.2.1) (fun d=>ou N d.1 d.2.1 d.2.2.1 d.2.2.2.1 d.2.2.2.2.1 d.2.2.2.2.2.1 d.2.2.2.2.2.2.1) (fun d=>(by rw[abr]:CL N d.1 d.2.1 d.2.2.1 d.2.2.2.1 d.2.2.2.2.1 d.2.2.2.2.2.1 d.2.2.2.2.2.2.1=ou N d.1 d.2.1 d.2.2.1 d.2.2.2.1 d.2.2.2.2.1 d.2.2.2.2.2.1 d.2.2.2.2.2.2.1)) Tryz.func164 rfl rfl Tryz.ntmps164 rfl rfl rfl (fun d=>by kernel_rfl)
end

section
set_option linter.unusedSimpArgs false
set_option linter.unusedVariables false
open Go.RowKit
def HX(N:Nat) (a0:Int):Option (Int×Int×Int×Int×Int×Int×Int×Int):=
  some (a0,a0,a0,a0,a0,a0,a0,a0)
noncomputable def abu (N:Nat):bz bS:=b2 N bU (by kernel_rfl) [.c (.raw (.ptr 2000000 0)),.c (.int .u8)] [] ⟨.a (.agg [.raw (.val (.nilFunc)),.fn 164 [.id 2,.cL (.int .u8)],.fn 164 [.id 2,.cL (.int .u8)],.fn 165 [.id 2,.cL (.int .u8)],.fn 164 [.id 2,.cL (.int .u8)],.fn 164 [.id 2,.cL (.int .u8)],.fn 166 [.id 2,.cL (.int .u8)],.fn 163 [.id 2,.cL (.int .u8)],.fn 164 [.id 2,.cL (.int .u8)]]),[(2,.cells 157 [.raw (.ptr 2000000 0)])],[]⟩ [] [] (.s (.r [.n 3,.w (.b4 3 (.int .u8))]) .d) [.cell 4 217] 142 (0,0,0,0,0,0,0,0) (fun d=>HX N d.1) Tryz.func142 rfl rfl Tryz.ntmps142 rfl rfl rfl (fun d=>by kernel_rfl)
end

section
set_option linter.unusedSimpArgs false
set_option linter.unusedVariables false
open Go.RowKit
def tF(N:Nat) (a0:Int) (aq:Int) (a2:(List aN)) (a3:Int) (a4:List (Bool×List bD)) (a5:List (Bool×List aQ)) (et:List bL):Option (Int×(List aN)×Int×(List (Bool×List bD))×(List (Bool×List aQ))×(List bL)):=
  ar (((decide (a0.toNat < a4.length))&&(a4.getD a0.toNat (false,[])).1)) <|
  ar ((aR (IntKind.wrap .u8 (aq - (1:Int))) et.length)&&((aR a0 a4.length)&&(true))) <|
  ar ((decide ((IntKind.wrap .u8 (aq - (1:Int))).toNat < et.length))&&((decide (a0.toNat=a0.toNat))&&(true))) <|
  Option.bind (tE N a3 (a4.getD a0.toNat (false,[])).2) fun aX=>
  Option.bind (pt N aq (et.getD (IntKind.wrap .u8 (aq - (1:Int))).toNat cO.zero).2.1 aX.1 a2 a3 et) fun bG=>
  some (bG.1,bG.2.1,bG.2.2.1,(a4.set a0.toNat (true,aX.2)),a5,bG.2.2.2)
noncomputable def CM (N:Nat) (a0:Int) (aq:Int) (a2:(List aN)) (a3:Int) (a4:List (Bool×List bD)) (a5:List (Bool×List aQ)) (et:List bL):Option (Int×(List aN)×Int×(List (Bool×List bD))×(List (Bool×List aQ))×(List bL)):=
  ar (((decide (a0.toNat < a4.length))&&(a4.getD a0.toNat (false,[])).1)) <|
  ar ((aR (IntKind.wrap .u8 (aq - (1:Int))) et.length)&&((aR a0 a4.length)&&(true))) <|
  jc (ar ((decide ((IntKind.wrap .u8 (aq - (1:Int))).toNat < et.length))&&((decide (a0.toNat=a0.toNat))&&(true))) <|
  Option.bind (tE N a3 (a4.getD a0.toNat (false,[])).2) fun aX=>
  Option.bind (pt N aq (et.getD (IntKind.wrap .u8 (aq - (1:Int))).toNat cO.zero).2.1 aX.1 a2 a3 et) fun bG=>
  some (bG.1,bG.2.1,bG.2.2.1,(a4.set a0.toNat (true,aX.2)),a5,bG.2.2.2)) (ar ((decide (a0.toNat=a0.toNat))&&(true)) <|
  jc (ar ((decide ((IntKind.wrap .u8 (aq - (1:Int))).toNat < et.length))&&(true)) <|
  Option.bind (tE N a3 (a4.getD a0.toNat (false,[])).2) fun aX=>
  Option.bind (pt N aq (et.getD (IntKind.wrap .u8 (aq - (1:Int))).toNat cO.zero).2.1 aX.1 a2 a3 et) fun bG=>
  some (bG.1,bG.2.1,bG.2.2.1,(a4.set a0.toNat (true,aX.2)),a5,bG.2.2.2)) (Option.bind (tE N a3 (a4.getD a0.toNat (false,[])).2) fun aX=>
  ar ((decide ((IntKind.wrap .u8 (aq - (1:Int))).toNat < et.length))&&(true)) <|
  Option.bind (pt N aq (et.getD (IntKind.wrap .u8 (aq - (1:Int))).toNat cO.zero).2.1 aX.1 a2 a3 et) fun bG=>
  some (bG.1,bG.2.1,bG.2.2.1,(a4.set a0.toNat (true,aX.2)),a5,bG.2.2.2)))
theorem abv:CM=tF:=by
 unfold CM tF
 first | rfl | (simp only[mW]; done) | (funext; simp (disch:=(simp only[nG,fc,nF]; first | done | first | rfl | (refine gl (fun h=>?_) (fun h=>?_); (focus (rw[h]; first | done | (simp only[fc]; first | done | first | rfl | (refine gl (fun h=>?_) (fun h=>?_); (focus (rw[h]; first | done | (simp only[fc]; first | done | first | rfl | (refine gl (fun h=>?_) (fun h=>?_); (focus (rw[h]; first | done | (simp only[fc]; first | done | rfl))); (focus (rw[h]; first | done | simp only[gi,gj])))))); (focus (rw[h]; first | done | simp only[gi,gj])))))); (focus (rw[h]; first | done | simp only[gi,gj]))))) only[nH])
noncomputable def abw (N:Nat):bz bS:=v7 N bU (by kernel_rfl) [.c (.int .i64),.c (.raw (.ptr 1000000 0)),.c (.fK (.int .u8) 0)] [(1000000,.cells 157 [.raw (.ptr 1000001 0)]),(1000001,.cells 160 [.bd bN,.raw (.ak 2000000),.raw (.ak 2000001),.raw (.ak 2000002),.int .u8]),(2000000,.bQ 70 121 b3),(2000002,.bQ 47 51 bT),(2000001,.row 112 cO)] ⟨.a (.c (.int .i64)),[(1000000,.cells 157 [.raw (.ptr 1000001 0)]),(1000001,.cells 160 [.bd bN,.raw (.ak 2000000),.raw (.ak 2000001),.raw (.ak 2000002),.int .u8]),(2000000,.bQ 70 121 b3),(2000002,.bQ 47 51 bT),(2000001,.row 112 cO)],[]⟩ [abo N,CH N] [] (.s .d (.s (.iF [.t (.op 2000000 0 22)] [1,2,3,4,5,6,7,8,9,10,11,12,13,14,15,16,17,18,19,20,21,22,1000023] (.b [.t 0 3,.t 1 1,.t 2 3,.t 3 0,.t 4 0,.t 5 3,.t 6 1,.t 7 0,.t 8 0,.t 9 0,.t 11 3,.t 12 0,.t 13 0,.t 14 3,.t 15 0,.t 16 0,.t 18 3,.t 19 0,.t 20 0,.t 21 3] 10 17 [] [] (.f [.f,.k 17,.c 22 [(2000000,22)],.c 23 [(1000000,1000001),(2000000,2000000),(2000002,2000002),(2000001,2000001)],.t 24 0]) (.b [.f] 10 22 [] [(2000000,22)] (.f [.c 22 [(2000000,22)],.c 23 [(1000000,1000001),(2000000,2000000),(2000002,2000002),(2000001,2000001)],.t 24 0]) (.f [.f,.k 10,.c 23 [(1000000,1000001),(2000000,2000000),(2000002,2000002),(2000001,2000001)],.t 24 0]))) [(.t (.close 2000000 22))] false) .d)) [.tmp 4] 163 (0,[],0,[],[],[]) (fun d=>CM N d.1 d.2.1 d.2.2.1 d.2.2.2.1 d.2.2.2.2.1 d.2.2.2.2.2.1 d.2.2.2.2.2.2.1) (fun d=>tF N d.1 d.2.1 d.2.2.1 d.2.2.2.1 d.2.2.2.2.1 d.2.2.2.2.2.1 d.2.2.2.2.2.2.1) (fun d=>(by rw[abv]:CM N d.1 d.2.1 d.2.2.1 d.2.2.2.1 d.2.2.2.2.1 d.2.2.2.2.2.1 d.2.2.2.2.2.2.1=tF N d.1 d.2.1 d.2.2.1 d.2.2.2.1 d.2.2.2.2.1 d.2.2.2.2.2.1 d.2.2.2.2.2.2.1)) Tryz.func163 rfl rfl Tryz.ntmps163 rfl rfl rfl (fun d=>by kernel_rfl)
def HY(N:Nat) (a0:Int) (aP:Int×(List aN)×Int×(List (Bool×List bD))×(List bL)):Nat->(Int×Int×Int×Int×Int×Int×Int×Int×Int×(List aN)×Int×(List (Bool×List bD))×(List bL)×(List (Bool×List aQ)))->Option (((List aN)×Int×(List (Bool×List bD))×(List bL)×(List (Bool×List aQ)))⊕(Int×(List aN)×Int×(List (Bool×List bD))×(List (Bool×List aQ))×(List bL))):=ch fun d3 eD=>
  cond (decide (d3.1 < (aP.2.1.length:Int))) (Option.bind (cond (decide (d3.2.2.2.2.2.2.2.2.2.2.1=(0:Int))) (ar ((bl ((d3.2.2.2.2.2.2.2.2.2.1.length:Int) - (1:Int)))&&((bl (((d3.2.2.2.2.2.2.2.2.2.1.length:Int) - (1:Int)) - d3.1))&&(true))) <|
  some ((((d3.2.2.2.2.2.2.2.2.2.1.length:Int) - (1:Int)) - d3.1),d3.2.1,d3.2.2.1,d3.2.2.2.1,d3.2.2.2.2.1,d3.2.2.2.2.2.1,d3.2.2.2.2.2.2.1,d3.2.2.2.2.2.2.2.1,d3.2.2.2.2.2.2.2.2.1,d3.2.2.2.2.2.2.2.2.2.1,d3.2.2.2.2.2.2.2.2.2.2.1)) (some (d3.1,d3.2.1,d3.2.2.1,d3.2.2.2.1,d3.2.2.2.2.1,d3.2.2.2.2.2.1,d3.2.2.2.2.2.2.1,d3.2.2.2.2.2.2.2.1,d3.2.2.2.2.2.2.2.2.1,d3.2.2.2.2.2.2.2.2.2.1,d3.2.2.2.2.2.2.2.2.2.2.1))) fun cE=>
  ar ((aR cE.1 cE.2.2.2.2.2.2.2.2.2.1.length)&&(true)) <|
  Option.bind (ar ((aR cE.1 cE.2.2.2.2.2.2.2.2.2.1.length)&&(true)) <|
  cond (!(decide ((cE.2.2.2.2.2.2.2.2.2.1.getD cE.1.toNat bN.zero).2.1=a0))) (some ((7:Int),cE.2.1,cE.2.2.1,cE.2.2.2.1,cE.2.2.2.2.1,cE.2.2.2.2.2.1,cE.2.2.2.2.2.2.1,cE.2.2.2.2.2.2.2.1,cE.2.2.2.2.2.2.2.2.1,cE.2.2.2.2.2.2.2.2.2.1,cE.2.2.2.2.2.2.2.2.2.2)) (some ((cE.2.2.2.2.2.2.2.2.2.1.getD cE.1.toNat bN.zero).1,cE.2.1,cE.2.2.1,cE.2.2.2.1,cE.2.2.2.2.1,cE.2.2.2.2.2.1,cE.2.2.2.2.2.2.1,cE.2.2.2.2.2.2.2.1,cE.2.2.2.2.2.2.2.2.1,cE.2.2.2.2.2.2.2.2.2.1,cE.2.2.2.2.2.2.2.2.2.2))) fun cx=>
  Option.bind (cond (decide (cx.1=1)) (Option.bind (ou N cE.1 cx.2.1 cx.2.2.2.2.2.2.2.2.2.1 cx.2.2.2.2.2.2.2.2.2.2 d3.2.2.2.2.2.2.2.2.2.2.2.1 d3.2.2.2.2.2.2.2.2.2.2.2.2.2 d3.2.2.2.2.2.2.2.2.2.2.2.2.1) fun gb=>
  some (gb.1,cx.2.1,cx.2.2.1,cx.2.2.2.1,cx.2.2.2.2.1,cx.2.2.2.2.2.1,cx.2.2.2.2.2.2.1,cx.2.2.2.2.2.2.2.1,cx.2.2.2.2.2.2.2.2.1,gb.2.1,gb.2.2.1,gb.2.2.2.1,gb.2.2.2.2.2,gb.2.2.2.2.1))
  (cond (decide (cx.1=2)) (Option.bind (ou N cE.1 cx.2.2.1 cx.2.2.2.2.2.2.2.2.2.1 cx.2.2.2.2.2.2.2.2.2.2 d3.2.2.2.2.2.2.2.2.2.2.2.1 d3.2.2.2.2.2.2.2.2.2.2.2.2.2 d3.2.2.2.2.2.2.2.2.2.2.2.2.1) fun gS=>
  some (gS.1,cx.2.1,cx.2.2.1,cx.2.2.2.1,cx.2.2.2.2.1,cx.2.2.2.2.2.1,cx.2.2.2.2.2.2.1,cx.2.2.2.2.2.2.2.1,cx.2.2.2.2.2.2.2.2.1,gS.2.1,gS.2.2.1,gS.2.2.2.1,gS.2.2.2.2.2,gS.2.2.2.2.1))
  (cond (decide (cx.1=3)) (Option.bind (OH N cE.1 cx.2.2.2.1 cx.2.2.2.2.2.2.2.2.2.1 cx.2.2.2.2.2.2.2.2.2.2 d3.2.2.2.2.2.2.2.2.2.2.2.1 d3.2.2.2.2.2.2.2.2.2.2.2.2.2 d3.2.2.2.2.2.2.2.2.2.2.2.2.1) fun j4=>
  some (j4.1,cx.2.1,cx.2.2.1,cx.2.2.2.1,cx.2.2.2.2.1,cx.2.2.2.2.2.1,cx.2.2.2.2.2.2.1,cx.2.2.2.2.2.2.2.1,cx.2.2.2.2.2.2.2.2.1,j4.2.1,j4.2.2.1,j4.2.2.2.1,j4.2.2.2.2.2,j4.2.2.2.2.1))
  (cond (decide (cx.1=4)) (Option.bind (ou N cE.1 cx.2.2.2.2.1 cx.2.2.2.2.2.2.2.2.2.1 cx.2.2.2.2.2.2.2.2.2.2 d3.2.2.2.2.2.2.2.2.2.2.2.1 d3.2.2.2.2.2.2.2.2.2.2.2.2.2 d3.2.2.2.2.2.2.2.2.2.2.2.2.1) fun dh=>
  some (dh.1,cx.2.1,cx.2.2.1,cx.2.2.2.1,cx.2.2.2.2.1,cx.2.2.2.2.2.1,cx.2.2.2.2.2.2.1,cx.2.2.2.2.2.2.2.1,cx.2.2.2.2.2.2.2.2.1,dh.2.1,dh.2.2.1,dh.2.2.2.1,dh.2.2.2.2.2,dh.2.2.2.2.1))
  (cond (decide (cx.1=5)) (Option.bind (ou N cE.1 cx.2.2.2.2.2.1 cx.2.2.2.2.2.2.2.2.2.1 cx.2.2.2.2.2.2.2.2.2.2 d3.2.2.2.2.2.2.2.2.2.2.2.1 d3.2.2.2.2.2.2.2.2.2.2.2.2.2 d3.2.2.2.2.2.2.2.2.2.2.2.2.1) fun jv=>
  some (jv.1,cx.2.1,cx.2.2.1,cx.2.2.2.1,cx.2.2.2.2.1,cx.2.2.2.2.2.1,cx.2.2.2.2.2.2.1,cx.2.2.2.2.2.2.2.1,cx.2.2.2.2.2.2.2.2.1,jv.2.1,jv.2.2.1,jv.2.2.2.1,jv.2.2.2.2.2,jv.2.2.2.2.1))
  (cond (decide (cx.1=6)) (Option.bind (OI N cE.1 cx.2.2.2.2.2.2.1 cx.2.2.2.2.2.2.2.2.2.1 cx.2.2.2.2.2.2.2.2.2.2 d3.2.2.2.2.2.2.2.2.2.2.2.1 d3.2.2.2.2.2.2.2.2.2.2.2.2.2 d3.2.2.2.2.2.2.2.2.2.2.2.2.1) fun km=>
  some (km.1,cx.2.1,cx.2.2.1,cx.2.2.2.1,cx.2.2.2.2.1,cx.2.2.2.2.2.1,cx.2.2.2.2.2.2.1,cx.2.2.2.2.2.2.2.1,cx.2.2.2.2.2.2.2.2.1,km.2.1,km.2.2.1,km.2.2.2.1,km.2.2.2.2.2,km.2.2.2.2.1))
  (cond (decide (cx.1=7)) (Option.bind (tF N cE.1 cx.2.2.2.2.2.2.2.1 cx.2.2.2.2.2.2.2.2.2.1 cx.2.2.2.2.2.2.2.2.2.2 d3.2.2.2.2.2.2.2.2.2.2.2.1 d3.2.2.2.2.2.2.2.2.2.2.2.2.2 d3.2.2.2.2.2.2.2.2.2.2.2.2.1) fun gT=>
  some (gT.1,cx.2.1,cx.2.2.1,cx.2.2.2.1,cx.2.2.2.2.1,cx.2.2.2.2.2.1,cx.2.2.2.2.2.2.1,cx.2.2.2.2.2.2.2.1,cx.2.2.2.2.2.2.2.2.1,gT.2.1,gT.2.2.1,gT.2.2.2.1,gT.2.2.2.2.2,gT.2.2.2.2.1))
  (cond (decide (cx.1=8)) (Option.bind (ou N cE.1 cx.2.2.2.2.2.2.2.2.1 cx.2.2.2.2.2.2.2.2.2.1 cx.2.2.2.2.2.2.2.2.2.2 d3.2.2.2.2.2.2.2.2.2.2.2.1 d3.2.2.2.2.2.2.2.2.2.2.2.2.2 d3.2.2.2.2.2.2.2.2.2.2.2.2.1) fun gD=>
  some (gD.1,cx.2.1,cx.2.2.1,cx.2.2.2.1,cx.2.2.2.2.1,cx.2.2.2.2.2.1,cx.2.2.2.2.2.2.1,cx.2.2.2.2.2.2.2.1,cx.2.2.2.2.2.2.2.2.1,gD.2.1,gD.2.2.1,gD.2.2.2.1,gD.2.2.2.2.2,gD.2.2.2.2.1))
  (none))))))))) fun ff=>
  cond (!(decide (ff.1=(0:Int)))) (some (.inr (ff.1,ff.2.2.2.2.2.2.2.2.2.1,ff.2.2.2.2.2.2.2.2.2.2.1,ff.2.2.2.2.2.2.2.2.2.2.2.1,ff.2.2.2.2.2.2.2.2.2.2.2.2.2,ff.2.2.2.2.2.2.2.2.2.2.2.2.1))) (ar ((bl (d3.1+(1:Int)))&&(true)) <|
  eD ((d3.1+(1:Int)),ff.2.1,ff.2.2.1,ff.2.2.2.1,ff.2.2.2.2.1,ff.2.2.2.2.2.1,ff.2.2.2.2.2.2.1,ff.2.2.2.2.2.2.2.1,ff.2.2.2.2.2.2.2.2.1,ff.2.2.2.2.2.2.2.2.2.1,ff.2.2.2.2.2.2.2.2.2.2.1,ff.2.2.2.2.2.2.2.2.2.2.2.1,ff.2.2.2.2.2.2.2.2.2.2.2.2.1,ff.2.2.2.2.2.2.2.2.2.2.2.2.2))) (some (.inl (d3.2.2.2.2.2.2.2.2.2.1,d3.2.2.2.2.2.2.2.2.2.2.1,d3.2.2.2.2.2.2.2.2.2.2.2.1,d3.2.2.2.2.2.2.2.2.2.2.2.2.1,d3.2.2.2.2.2.2.2.2.2.2.2.2.2)))
def rT(N:Nat) (a0:Int) (aq:(List aN)) (a2:Int) (a3:List (Bool×List bD)) (a4:List (Bool×List aQ)) (a5:List bL):Option (Int×(List aN)×Int×(List (Bool×List bD))×(List (Bool×List aQ))×(List bL)):=
  Option.bind (zl N a0 aq a2 a3 a5) fun aP=>
  cond (!(decide (aP.1=(0:Int)))) (some (aP.1,aP.2.1,aP.2.2.1,aP.2.2.2.1,a4,aP.2.2.2.2)) (Option.bind (HX N a0) fun aX=>
  Option.bind (HY N a0 aP N ((0:Int),aX.1,aX.2.1,aX.2.2.1,aX.2.2.2.1,aX.2.2.2.2.1,aX.2.2.2.2.2.1,aX.2.2.2.2.2.2.1,aX.2.2.2.2.2.2.2,aP.2.1,aP.2.2.1,aP.2.2.2.1,aP.2.2.2.2,a4)) fun(cd:((List aN)×Int×(List (Bool×List bD))×(List bL)×(List (Bool×List aQ)))⊕(Int×(List aN)×Int×(List (Bool×List bD))×(List (Bool×List aQ))×(List bL)))=>
  sm cd (fun cd=>
  Option.bind (wi N cd.2.1) fun qx=>
  Option.bind (pt N a0 qx ([]:List cF) cd.1 cd.2.1 cd.2.2.2.1) fun CN=>
  some (CN.1,CN.2.1,CN.2.2.1,cd.2.2.1,cd.2.2.2.2,CN.2.2.2)) (fun q=>some q))
noncomputable def abx (N:Nat):bz bS:=b2 N bU (by kernel_rfl) [.c (.raw (.ptr 1000000 0)),.c (.int .u8)] [(1000000,.cells 160 [.bd bN,.raw (.ak 2000000),.raw (.ak 2000001),.raw (.ak 2000002),.int .u8]),(2000000,.bQ 70 121 b3),(2000002,.bQ 47 51 bT),(2000001,.row 112 cO)] ⟨.a (.c (.int .i64)),[(1000000,.cells 160 [.bd bN,.raw (.ak 2000000),.raw (.ak 2000001),.raw (.ak 2000002),.int .u8]),(2000000,.bQ 70 121 b3),(2000002,.bQ 47 51 bT),(2000001,.row 112 cO)],[]⟩ [OC N,abu N,abt N,abp N,abq N,abw N,OB N,CH N] [] (.s .d (.s (.s (.r [.n 2,.c [(1000000,1000000),(2000002,2000002),(2000000,2000000),(2000001,2000001)]]) .d) (.s (.r [.n 2,.c [(2000000,1000000),(2,18)]]) (.s (.s .d (.b (.fh 0 ⟨[(0,.a (.c (.raw (.ptr 1000000 0)))),(6,.a (.c (.raw (.ptr 6 0)))),(24,.a (.c (.int .i64)))],[(6,.cells 217 [.raw (.val (.nilFunc)),.fn 164 [.id 18,.cL (.int .u8)],.fn 164 [.id 18,.cL (.int .u8)],.fn 165 [.id 18,.cL (.int .u8)],.fn 164 [.id 18,.cL (.int .u8)],.fn 164 [.id 18,.cL (.int .u8)],.fn 166 [.id 18,.cL (.int .u8)],.fn 163 [.id 18,.cL (.int .u8)],.fn 164 [.id 18,.cL (.int .u8)]]),(18,.cells 157 [.raw (.ptr 1000000 0)]),(1000000,.cells 160 [.bd bN,.raw (.ak 2000000),.raw (.ak 2000001),.raw (.ak 2000002),.int .u8]),(2000000,.bQ 70 121 b3),(2000001,.row 112 cO),(2000002,.bQ 47 51 bT)],[1,23],[]⟩ ⟨[(0,.a (.c (.raw (.ptr 1000000 0))))],[(1000000,.cells 160 [.bd bN,.raw (.ak 2000000),.raw (.ak 2000001),.raw (.ak 2000002),.int .u8]),(2000000,.bQ 70 121 b3),(2000001,.row 112 cO),(2000002,.bQ 47 51 bT)],[1],[]⟩ (.s .d (.s .d (.s (.b (.s .d (.j ⟨[(0,.a (.c (.raw (.ptr 1000000 0)))),(6,.a (.c (.raw (.ptr 6 0)))),(7,.a (.c (.int .i64)))],[(6,.cells 217 [.raw (.val (.nilFunc)),.fn 164 [.id 18,.cL (.int .u8)],.fn 164 [.id 18,.cL (.int .u8)],.fn 165 [.id 18,.cL (.int .u8)],.fn 164 [.id 18,.cL (.int .u8)],.fn 164 [.id 18,.cL (.int .u8)],.fn 166 [.id 18,.cL (.int .u8)],.fn 163 [.id 18,.cL (.int .u8)],.fn 164 [.id 18,.cL (.int .u8)]]),(18,.cells 157 [.raw (.ptr 1000000 0)]),(1000000,.cells 160 [.bd bN,.raw (.ak 2000000),.raw (.ak 2000001),.raw (.ak 2000002),.int .u8])],[1,23,24],[2000000,2000001,2000002]⟩ .d (.s .d (.j ⟨[(0,.a (.c (.raw (.ptr 1000000 0)))),(6,.a (.c (.raw (.ptr 6 0)))),(8,.a (.c (.int .u8)))],[(6,.cells 217 [.raw (.val (.nilFunc)),.fn 164 [.id 18,.cL (.int .u8)],.fn 164 [.id 18,.cL (.int .u8)],.fn 165 [.id 18,.cL (.int .u8)],.fn 164 [.id 18,.cL (.int .u8)],.fn 164 [.id 18,.cL (.int .u8)],.fn 166 [.id 18,.cL (.int .u8)],.fn 163 [.id 18,.cL (.int .u8)],.fn 164 [.id 18,.cL (.int .u8)]]),(18,.cells 157 [.raw (.ptr 1000000 0)]),(1000000,.cells 160 [.bd bN,.raw (.ak 2000000),.raw (.ak 2000001),.raw (.ak 2000002),.int .u8])],[1,7,23,24],[2000000,2000001,2000002]⟩ .d (.j ⟨[(0,.a (.c (.raw (.ptr 1000000 0)))),(6,.a (.c (.raw (.ptr 6 0)))),(9,.a (.c (.int .i64)))],[(6,.cells 217 [.raw (.val (.nilFunc)),.fn 164 [.id 18,.cL (.int .u8)],.fn 164 [.id 18,.cL (.int .u8)],.fn 165 [.id 18,.cL (.int .u8)],.fn 164 [.id 18,.cL (.int .u8)],.fn 164 [.id 18,.cL (.int .u8)],.fn 166 [.id 18,.cL (.int .u8)],.fn 163 [.id 18,.cL (.int .u8)],.fn 164 [.id 18,.cL (.int .u8)]]),(18,.cells 157 [.raw (.ptr 1000000 0)]),(1000000,.cells 160 [.bd bN,.raw (.ak 2000000),.raw (.ak 2000001),.raw (.ak 2000002),.int .u8]),(2000000,.bQ 70 121 b3),(2000001,.row 112 cO),(2000002,.bQ 47 51 bT)],[1,23,24],[]⟩ (.r [.f 8 [1,2,3,4,5,6,7,8],.n 4,.c [(1000000,18),(1000001,1000000),(2000000,2000000),(2000002,2000002),(2000001,2000001)]]) .d)))))) .d)))))) (.s (.r [.n 7,.c [(1000000,1000000),(2000000,2000000),(2000002,2000002),(2000001,2000001)]]) .d))))) [.tmp 4] 119 (0,[],0,[],[],[]) (fun d=>rT N d.1 d.2.1 d.2.2.1 d.2.2.2.1 d.2.2.2.2.1 d.2.2.2.2.2.1) Tryz.func119 rfl rfl Tryz.ntmps119 rfl rfl rfl (fun d=>by kernel_rfl)
end

section
set_option linter.unusedSimpArgs false
set_option linter.unusedVariables false
open Go.RowKit
def CO(N:Nat) (a0:(List bD)):Option ((List bD)):=
  ar (((decide (0<=(a0.length:Int)))&&(decide ((a0.length:Int)<=(a0.length:Int)))&&(eo 32 (a0.length:Int)))&&(true)) <|
  ar ((Nat.beq a0.length (List.replicate (a0.length:Int).toNat (b3.zero:bD)).length)&&(true)) <|
  some a0
noncomputable def aby (N:Nat):bz bS:=b2 N bU (by kernel_rfl) [.c (.bd b3)] [] ⟨.a (.c (.raw (.ak 6))),[(6,.row 121 b3)],[]⟩ [] [] (.d) [.tmp 2] 132 [] (fun d=>CO N d.1) Tryz.func132 rfl rfl Tryz.ntmps132 rfl rfl rfl (fun d=>by kernel_rfl)
def HZ(N:Nat) (a0:(List bD)):Nat->(Int×(List bD))->Option ((List bD)):=ch fun d2 e5=>
  cond (decide (d2.1 < (a0.length:Int))) (ar ((aR d2.1 a0.length)&&(true)) <|
  Option.bind (nK N (a0.getD d2.1.toNat b3.zero).2) fun bG=>
  ar ((aR d2.1 d2.2.length)&&(((decide (d2.1.toNat < d2.2.length))&&(true))&&(true))) <|
  ar ((bl (d2.1+(1:Int)))&&(true)) <|
  e5 ((d2.1+(1:Int)),(d2.2.set d2.1.toNat ((d2.2.getD d2.1.toNat b3.zero).1,bG.1)))) (some d2.2)
def wm(N:Nat) (a0:(List bD)):Option ((List bD)):=
  Option.bind (CO N a0) fun aP=>
  Option.bind (HZ N a0 N ((0:Int),aP)) fun bM=>
  some bM
noncomputable def OK (N:Nat):bz bS:=b2 N bU (by kernel_rfl) [.c (.bd b3)] [] ⟨.a (.c (.raw (.ak 7))),[(7,.row 121 b3)],[]⟩ [aby N,zd N] [] (.s .d (.s (.r [.n 1,.c [(6,7)]]) (.s (.s .d (.b (.eb 0 ⟨[(3,.a (.c (.raw (.ak 7)))),(10,.a (.c (.int .i64)))],[(7,.row 121 b3)],[8,9],[]⟩ ⟨[(3,.a (.c (.raw (.ak 7))))],[(7,.row 121 b3)],[],[]⟩ (.s .d (.s .d (.s (.b (.s (.r [.n 6,.w (.b4 5 b3)]) .d)) .d)))))) .d))) [.tmp 2] 114 [] (fun d=>wm N d.1) Tryz.func114 rfl rfl Tryz.ntmps114 rfl rfl rfl (fun d=>by kernel_rfl)
def zp(N:Nat) (a0:aN):Option (Int):=
  Option.bind (mx N a0) fun aP=>
  cond (cond (decide (aP=(0:Int))) (cond (decide (a0.1=(2:Int))) true (decide (a0.1=(5:Int)))) false) (some (1:Int)) (some (0:Int))
noncomputable def abz (N:Nat):bz bS:=b2 N bU (by kernel_rfl) [.c9 bN] [] ⟨.a (.c (.int .u8)),[],[]⟩ [zc N] [] (.s (.r [.n 2,.w (.b4 1 bN)]) .d) [.tmp 2] 155 0 (fun d=>zp N d.1) Tryz.func155 rfl rfl Tryz.ntmps155 rfl rfl rfl (fun d=>by kernel_rfl)
def abA(N:Nat) (a0:(List (List bD))):Nat->(Int×Int)->Option (Int):=ch fun d1 cz=>
  cond (decide (d1.2 < (a0.length:Int))) (ar ((aR d1.2 a0.length)&&(true)) <|
  ar ((bl (d1.1+((a0.getD d1.2.toNat []).length:Int)))&&(true)) <|
  ar ((bl (d1.2+(1:Int)))&&(true)) <|
  cz ((d1.1+((a0.getD d1.2.toNat []).length:Int)),(d1.2+(1:Int)))) (some d1.1)
def abB(N:Nat) (a0:(List (List bD))):Nat->(Int×Int×(List bD))->Option ((List bD)):=ch fun d2 e5=>
  cond (decide (d2.2.1 < (a0.length:Int))) (ar ((aR d2.2.1 a0.length)&&(true)) <|
  ar (((decide (0<=d2.1))&&(decide (d2.1<=(d2.2.2.length:Int))))&&((decide (d2.1.toNat+(a0.getD d2.2.1.toNat []).length<=d2.2.2.length))&&((bl (d2.1+((a0.getD d2.2.1.toNat []).length:Int)))&&(true)))) <|
  ar ((bl (d2.2.1+(1:Int)))&&(true)) <|
  e5 ((d2.1+((a0.getD d2.2.1.toNat []).length:Int)),(d2.2.1+(1:Int)),(d2.2.2.take d2.1.toNat++(a0.getD d2.2.1.toNat [])++d2.2.2.drop (d2.1.toNat+(a0.getD d2.2.1.toNat []).length)))) (some d2.2.2)
def OL(N:Nat) (a0:(List (List bD))):Option ((List bD)):=
  Option.bind (abA N a0 N ((0:Int),(0:Int))) fun bj=>
  ar (((decide (0<=bj))&&(decide (bj<=bj))&&(eo 32 bj))&&(true)) <|
  Option.bind (abB N a0 N ((0:Int),(0:Int),(List.replicate bj.toNat (b3.zero:bD)))) fun bM=>
  some bM
noncomputable def abC (N:Nat):bz bS:=b2 N bU (by kernel_rfl) [.c (.bd (.ak b3))] [] ⟨.a (.c (.raw (.ak 22))),[(22,.row 121 b3)],[]⟩ [] [] (.s .d (.s .d (.s (.s .d (.b (.eb 0 ⟨[(3,.a (.c (.int .i64))),(12,.a (.c (.int .i64)))],[],[0,10,11],[]⟩ ⟨[(3,.a (.c (.int .i64)))],[],[0],[]⟩ .d))) (.s .d (.s .d (.s (.s .d (.b (.eb 2 ⟨[(6,.a (.c (.raw (.ak 22)))),(7,.a (.c (.int .i64))),(25,.a (.c (.int .i64)))],[(22,.row 121 b3)],[23,24],[]⟩ ⟨[(6,.a (.c (.raw (.ak 22))))],[(22,.row 121 b3)],[],[]⟩ .d))) .d)))))) [.tmp 2] 110 [] (fun d=>OL N d.1) Tryz.func110 rfl rfl Tryz.ntmps110 rfl rfl rfl (fun d=>by kernel_rfl)
def H0(N:Nat) (aq:aN) (bM:(List bD)):Nat->(Int×(List bD))->Option ((List bD)):=ch fun d6 my=>
  cond (decide (d6.1 < (bM.length:Int))) (Option.bind (zp N aq) fun gb=>
  ar ((aR d6.1 d6.2.length)&&(((decide (d6.1.toNat < d6.2.length))&&(true))&&(true))) <|
  ar ((bl (d6.1+(1:Int)))&&(true)) <|
  my ((d6.1+(1:Int)),(d6.2.set d6.1.toNat (gb,(d6.2.getD d6.1.toNat b3.zero).2)))) (some d6.2)
def CP(N:Nat) (a0:(List bD)) (aq:aN):Option ((List bD)):=
  Option.bind (wm N a0) fun aP=>
  Option.bind (Option.bind (cond (decide (aq.1=(4:Int))) (some (decide (aq.1=(4:Int)))) (some (decide (aq.1=(5:Int))))) fun cd=>
  cond cd (Option.bind (zn N aP) fun cf=>
  some [((0:Int),cf)]) (cond (decide (aq.1=(8:Int))) (ar (true) <|
  ar (((decide (0<=aq.2.2.1))&&(decide (aq.2.2.1<=(aP.length:Int))))&&(((decide (0<=aq.2.2.1))&&(decide (aq.2.2.1<=(aP.length:Int))))&&(true))) <|
  Option.bind (OL N [(aP.drop aq.2.2.1.toNat),(aP.take aq.2.2.1.toNat)]) fun cw=>
  some cw) (some aP))) fun bM=>
  Option.bind (H0 N aq bM N ((0:Int),bM)) fun ff=>
  some ff
noncomputable def abD (N:Nat):bz bS:=b2 N bU (by kernel_rfl) [.c (.bd b3),.c9 bN] [] ⟨.a (.c (.raw (.ak 16))),[(16,.row 121 b3)],[]⟩ [OK N,OG N,abC N,abz N] [] (.s (.r [.n 2,.w (.b4 3 bN)]) (.s (.r [.n 1,.c [(7,7)]]) (.j ⟨[(0,.a (.c (.raw (.ak 16))))],[(16,.row 121 b3)],[3],[]⟩ (.s .d (.b (.j ⟨[(0,.a (.c (.raw (.ak 7)))),(10,.a (.c .bool))],[],[3,4,9],[7]⟩ .d (.c (.r [.n 1,.c [(2000000,7)]]) (.s .d (.c (.p [.dn 7] (.o [] [.t 0 0,.t 1 0,.t 2 1,.t 3 0,.t 4 0,.t 5 0,.t 6 1,.t 7 0,.s 8,.z 27,.c 9 [(22,28)],.t 10 0] [(.t (.eR 28 16))])) (.t [.t (.eR 7 16)]))))))) (.s (.s .d (.b (.eb 1 ⟨[(0,.a (.c (.raw (.ak 16)))),(31,.a (.c (.int .i64)))],[(16,.row 121 b3)],[3,30],[]⟩ ⟨[(0,.a (.c (.raw (.ak 16))))],[(16,.row 121 b3)],[],[]⟩ .d))) .d)))) [.tmp 4] 137 [] (fun d=>CP N d.1 d.2.1) Tryz.func137 rfl rfl Tryz.ntmps137 rfl rfl rfl (fun d=>by kernel_rfl)
end

section
set_option linter.unusedSimpArgs false
set_option linter.unusedVariables false
open Go.RowKit
def OM(N:Nat) :Option ((List (List aN))):=
  some [[((1:Int),((1:Int),((0:Int),((0:Int),false)))),((2:Int),((2:Int),((0:Int),((0:Int),false)))),((1:Int),((1:Int),((0:Int),((0:Int),false))))],[((1:Int),((2:Int),((0:Int),((0:Int),false)))),((1:Int),((2:Int),((0:Int),((0:Int),false)))),((1:Int),((2:Int),((0:Int),((0:Int),false))))],[((2:Int),((1:Int),((0:Int),((0:Int),false)))),((1:Int),((1:Int),((0:Int),((0:Int),false)))),((1:Int),((1:Int),((0:Int),((0:Int),false))))]]
noncomputable def abE (N:Nat):bz bS:=b2 N bU (by kernel_rfl) [] [] ⟨.a (.c9 (.ak (.ak bN))),[],[]⟩ [] [] (.s .d (.s (.r [.n 3,.w (.b4 1 bN)]) (.s (.r [.n 3,.w (.b4 2 bN)]) (.s (.r [.n 12,.w (.dn 8),.w (.dn 12),.w (.dn 16)]) (.t [.dn 17]))))) [.cell 0 27] 22 [] (fun d=>OM N ) Tryz.func22 rfl rfl Tryz.ntmps22 rfl rfl rfl (fun d=>by kernel_rfl)
def CQ(N:Nat) (a0:(List aN)):Nat->(Int×Int)->Option (Int):=ch fun d1 cz=>
  cond (decide (d1.2 < (a0.length:Int))) (ar ((aR d1.2 a0.length)&&(true)) <|
  Option.bind (qs N (a0.getD d1.2.toNat bN.zero)) fun aX=>
  ar ((bl (d1.1+aX))&&(true)) <|
  ar ((bl (d1.2+(1:Int)))&&(true)) <|
  cz ((d1.1+aX),(d1.2+(1:Int)))) (some d1.1)
def CR(N:Nat) (a0:(List aN)):Option (Int):=
  Option.bind (CQ N a0 N ((0:Int),(0:Int))) fun bj=>
  some bj
noncomputable def abF (N:Nat):bz bS:=b2 N bU (by kernel_rfl) [.c (.bd bN),.c (.fn 40 [])] [] ⟨.a (.c (.int .i64)),[],[]⟩ [Cy N] [] (.s .d (.s .d (.s (.s .d (.b (.eb 0 ⟨[(5,.a (.c (.int .i64))),(10,.a (.c (.int .i64)))],[],[1,8,9],[]⟩ ⟨[(5,.a (.c (.int .i64)))],[],[],[]⟩ (.s .d (.s .d (.s (.b (.s (.r [.n 4,.w (.b4 7 bN)]) .d)) .d)))))) .d))) [.tmp 4] 39 0 (fun d=>CR N d.1) Tryz.func39 rfl rfl Tryz.ntmps39 rfl rfl rfl (fun d=>by kernel_rfl)
def CS(N:Nat) (a0:(List aN)):Nat->(Int×Int)->Option (Int):=ch fun d1 cz=>
  cond (decide (d1.2 < (a0.length:Int))) (ar ((aR d1.2 a0.length)&&(true)) <|
  Option.bind (rP N (a0.getD d1.2.toNat bN.zero)) fun aX=>
  ar ((bl (d1.1+aX))&&(true)) <|
  ar ((bl (d1.2+(1:Int)))&&(true)) <|
  cz ((d1.1+aX),(d1.2+(1:Int)))) (some d1.1)
def CT(N:Nat) (a0:(List aN)):Option (Int):=
  Option.bind (CS N a0 N ((0:Int),(0:Int))) fun bj=>
  some bj
noncomputable def abG (N:Nat):bz bS:=b2 N bU (by kernel_rfl) [.c (.bd bN),.c (.fn 41 [])] [] ⟨.a (.c (.int .i64)),[],[]⟩ [Og N] [] (.s .d (.s .d (.s (.s .d (.b (.eb 0 ⟨[(5,.a (.c (.int .i64))),(10,.a (.c (.int .i64)))],[],[1,8,9],[]⟩ ⟨[(5,.a (.c (.int .i64)))],[],[],[]⟩ (.s .d (.s .d (.s (.b (.s (.r [.n 4,.w (.b4 7 bN)]) .d)) .d)))))) .d))) [.tmp 4] 39 0 (fun d=>CT N d.1) Tryz.func39 rfl rfl Tryz.ntmps39 rfl rfl rfl (fun d=>by kernel_rfl)
def ov(N:Nat) (a0:(List aN)):Option (Int):=
  Option.bind (CR N a0) fun aP=>
  some aP
noncomputable def zq (N:Nat):bz bS:=b2 N bU (by kernel_rfl) [.c (.bd bN)] [] ⟨.a (.c (.int .i64)),[],[]⟩ [abF N] [] (.d) [.tmp 2] 18 0 (fun d=>ov N d.1) Tryz.func18 rfl rfl Tryz.ntmps18 rfl rfl rfl (fun d=>by kernel_rfl)
def qy(N:Nat) (a0:(List aN)):Option (Int):=
  Option.bind (CT N a0) fun aP=>
  some aP
noncomputable def H3 (N:Nat):bz bS:=b2 N bU (by kernel_rfl) [.c (.bd bN)] [] ⟨.a (.c (.int .i64)),[],[]⟩ [abG N] [] (.d) [.tmp 2] 19 0 (fun d=>qy N d.1) Tryz.func19 rfl rfl Tryz.ntmps19 rfl rfl rfl (fun d=>by kernel_rfl)
def H4(N:Nat) (a0:(List aN)):Nat->Int->Option ((Unit)⊕(Int)):=ch fun d1 cz=>
  cond (decide (d1 < (a0.length:Int))) (ar ((aR d1 a0.length)&&(true)) <|
  Option.bind (mx N (a0.getD d1.toNat bN.zero)) fun aX=>
  cond (!(decide (aX=(0:Int)))) (some (.inr (1:Int))) (ar ((bl (d1+(1:Int)))&&(true)) <|
  cz (d1+(1:Int)))) (some (.inl ()))
def tG(N:Nat) (a0:(List aN)):Option (Int):=
  cond (decide ((16:Int) < (a0.length:Int))) (some (3:Int)) (cond (decide ((a0.length:Int)=(0:Int))) (some (1:Int)) (Option.bind (H4 N a0 N (0:Int)) fun(bj:(Unit)⊕(Int))=>
  sm bj (fun bj=>
  Option.bind (ov N a0) fun bG=>
  Option.bind (qy N a0) fun cf=>
  cond (cond (cond (cond (decide (bG < (1:Int))) true (decide ((16:Int) < bG))) true (decide (cf < (1:Int)))) true (decide ((16:Int) < cf))) (some (5:Int)) (some (0:Int))) (fun q=>some q)))
noncomputable def ON (N:Nat):bz bS:=b2 N bU (by kernel_rfl) [.c (.bd bN)] [] ⟨.a (.c (.int .i64)),[],[]⟩ [zc N,zq N,H3 N] [] (.s .d (.s .d (.s .d (.s (.s .d (.b (.fh 0 ⟨[(15,.a (.c (.int .i64)))],[],[0,13,14],[]⟩ ⟨[],[],[0],[]⟩ (.s .d (.s .d (.s (.b (.s (.r [.n 4,.w (.b4 4 bN)]) .d)) .d)))))) .d)))) [.tmp 2] 94 0 (fun d=>tG N d.1) Tryz.func94 rfl rfl Tryz.ntmps94 rfl rfl rfl (fun d=>by kernel_rfl)
def CU(N:Nat) (a0:(List (List aN))):Nat->Int->Option ((Unit)⊕(Int)):=ch fun d1 cz=>
  cond (decide (d1 < (a0.length:Int))) (ar ((aR d1 a0.length)&&(true)) <|
  Option.bind (tG N (a0.getD d1.toNat [])) fun aX=>
  cond (!(decide (aX=(0:Int)))) (some (.inr aX)) (ar ((bl (d1+(1:Int)))&&(true)) <|
  cz (d1+(1:Int)))) (some (.inl ()))
def zr(N:Nat) (a0:(List (List aN))):Nat->Int->Option ((Unit)⊕(Int)):=ch fun d3 eD=>
  cond (decide (d3 < (a0.length:Int))) (ar ((aR d3 a0.length)&&((bl (d3 - (1:Int)))&&((aR (d3 - (1:Int)) a0.length)&&(true)))) <|
  Option.bind (ov N (a0.getD d3.toNat [])) fun cf=>
  Option.bind (qy N (a0.getD (d3 - (1:Int)).toNat [])) fun cw=>
  cond (!(decide (cf=cw))) (some (.inr (14:Int))) (ar ((bl (d3+(1:Int)))&&(true)) <|
  eD (d3+(1:Int)))) (some (.inl ()))
def wo(N:Nat) (a0:(List (List aN))):Option (Int):=
  cond (decide ((31:Int) < (a0.length:Int))) (some (3:Int)) (cond (decide ((Int.tmod (a0.length:Int) (2:Int))=(0:Int))) (some (1:Int)) (Option.bind (CU N a0 N (0:Int)) fun(bj:(Unit)⊕(Int))=>
  sm bj (fun bj=>
  Option.bind (zr N a0 N (1:Int)) fun(cd:(Unit)⊕(Int))=>
  sm cd (fun cd=>
  some (0:Int)) (fun q=>some q)) (fun q=>some q)))
noncomputable def abH (N:Nat):bz bS:=b2 N bU (by kernel_rfl) [.c (.bd (.ak bN))] [] ⟨.a (.c (.int .i64)),[],[]⟩ [ON N,zq N,H3 N] [] (.s .d (.s .d (.s .d (.s (.s .d (.b (.fh 0 ⟨[(16,.a (.c (.int .i64)))],[],[0,14,15],[]⟩ ⟨[],[],[0],[]⟩ .d))) (.s (.s .d (.b (.fh 2 ⟨[(6,.a (.c (.int .i64)))],[],[0],[]⟩ ⟨[],[],[],[]⟩ (.s .d (.s (.b (.s (.o [] [.t 0 0,.t 1 0,.t 2 0,.t 3 1,.t 5 0,.t 6 0,.t 7 0,.t 8 0,.t 9 1,.c 4 [],.c 10 [],.t 11 0] []) .d)) .d))))) .d))))) [.tmp 2] 59 0 (fun d=>wo N d.1) Tryz.func59 rfl rfl Tryz.ntmps59 rfl rfl rfl (fun d=>by kernel_rfl)
def CV(N:Nat) (aq:(List Int)):Nat->Int->Option ((Unit)⊕((List Int)×Int)):=ch fun d3 eD=>
  cond (decide (d3 < (aq.length:Int))) (ar ((aR d3 aq.length)&&(true)) <|
  cond (cond (decide ((aq.getD d3.toNat 0) < (1:Int))) true (decide ((3:Int) < (aq.getD d3.toNat 0)))) (some (.inr (([]:List Int),(1:Int)))) (ar ((bl (d3+(1:Int)))&&(true)) <|
  eD (d3+(1:Int)))) (some (.inl ()))
def CW(N:Nat) (cf:Int):Nat->(Int×(List Int))->Option ((List Int)):=ch fun d5 tH=>
  cond (decide (d5.1 < ((List.replicate cf.toNat (0:Int)).length:Int))) (ar ((aR d5.1 d5.2.length)&&(((decide (d5.1.toNat < d5.2.length))&&(true))&&(true))) <|
  ar ((bl (d5.1+(1:Int)))&&(true)) <|
  tH ((d5.1+(1:Int)),(d5.2.set d5.1.toNat (1:Int)))) (some d5.2)
def tI(N:Nat) (a0:aN) (aq:(List Int)):Option ((List Int)×Int):=
  Option.bind (mx N a0) fun aP=>
  cond (!(decide (aP=(0:Int)))) (some (([]:List Int),(1:Int))) (Option.bind (qs N a0) fun aX=>
  cond (!(decide ((aq.length:Int)=aX))) (some (([]:List Int),(5:Int))) (Option.bind (CV N aq N (0:Int)) fun(cd:(Unit)⊕((List Int)×Int))=>
  sm cd (fun cd=>
  Option.bind (rP N a0) fun cf=>
  ar (((decide (0<=cf))&&(decide (cf<=cf))&&(eo 8 cf))&&(true)) <|
  Option.bind (CW N cf N ((0:Int),(List.replicate cf.toNat (0:Int)))) fun cx=>
  Option.bind (cond (decide (a0.1=(4:Int))) (some (decide (a0.1=(4:Int)))) (some (decide (a0.1=(5:Int))))) fun ff=>
  cond ff (ar ((aR (0:Int) aq.length)&&((aR (1:Int) aq.length)&&((bl ((aq.getD (0:Int).toNat 0)+(aq.getD (1:Int).toNat 0)))&&(true)))) <|
  cond (decide ((4:Int) < ((aq.getD (0:Int).toNat 0)+(aq.getD (1:Int).toNat 0)))) (some (([]:List Int),(9:Int))) (some (cx,(0:Int)))) (cond (decide (a0.1=(6:Int))) (ar ((aR (0:Int) aq.length)&&(true)) <|
  cond (decide ((aq.getD (0:Int).toNat 0)=(3:Int))) (some (([]:List Int),(9:Int))) (ar ((aR (0:Int) aq.length)&&((bl ((aq.getD (0:Int).toNat 0)+(1:Int)))&&((aR (0:Int) cx.length)&&(((decide ((0:Int).toNat < cx.length))&&(true))&&(true))))) <|
  some ((cx.set (0:Int).toNat ((aq.getD (0:Int).toNat 0)+(1:Int))),(0:Int)))) (cond (decide (a0.1=(7:Int))) (ar ((aR (0:Int) aq.length)&&((aR (0:Int) cx.length)&&(((decide ((0:Int).toNat < cx.length))&&(true))&&(true)))) <|
  some ((cx.set (0:Int).toNat (aq.getD (0:Int).toNat 0)),(0:Int))) (some (cx,(0:Int)))))) (fun q=>some q)))
noncomputable def OO (N:Nat):bz bS:=b2 N bU (by kernel_rfl) [.c9 bN,.c (.bd (.int .i64))] [] ⟨.dj [.c (.bd (.int .i64)),.c (.int .i64)],[],[]⟩ [zc N,Cy N,Og N] [] (.s (.r [.n 3,.w (.b4 2 bN)]) (.s .d (.s .d (.s (.s .d (.b (.fh 0 ⟨[(20,.a (.c (.int .i64)))],[],[1,2,18,19],[]⟩ ⟨[],[],[1,2],[]⟩ .d))) (.s .d (.s (.s .d (.b (.eb 2 ⟨[(8,.a (.c (.raw (.ak 33)))),(36,.a (.c (.int .i64)))],[(33,.row 3 (.int .i64))],[1,2,35],[]⟩ ⟨[(8,.a (.c (.raw (.ak 33))))],[(33,.row 3 (.int .i64))],[1,2],[]⟩ .d))) (.s (.s .d (.b (.j ⟨[(8,.a (.c (.raw (.ak 33)))),(45,.a (.c .bool))],[],[1,44],[33]⟩ .d (.c (.s (.o [] [.t 0 0,.t 1 0,.t 2 1,.t 3 0,.t 4 0,.t 5 1,.t 6 0,.t 7 0] []) .d) .d)))) (.s .d (.t [.dn 33]))))))))) [.tmp 4,.tmp 5] 60 ([],0) (fun d=>tI N d.1 d.2.1) Tryz.func60 rfl rfl Tryz.ntmps60 rfl rfl rfl (fun d=>by kernel_rfl)
def CX(N:Nat) (aX:Int):Nat->(Int×(List Int))->Option ((List Int)):=ch fun d3 eD=>
  cond (decide (d3.1 < ((List.replicate aX.toNat (0:Int)).length:Int))) (ar ((aR d3.1 d3.2.length)&&(((decide (d3.1.toNat < d3.2.length))&&(true))&&(true))) <|
  ar ((bl (d3.1+(1:Int)))&&(true)) <|
  eD ((d3.1+(1:Int)),(d3.2.set d3.1.toNat (1:Int)))) (some d3.2)
def CY(N:Nat) (a0:(List (List aN))) (tJ:Int) (nM:List (List Int)):Nat->(List Int)×Int×(List Int)->Option (((List Int))⊕(Int×(List (List Int)))):=ch fun d6 my=>
  cond (decide (d6.2.1 < ((a0.getD tJ.toNat []).length:Int))) (ar ((aR d6.2.1 (a0.getD tJ.toNat []).length)&&(true)) <|
  Option.bind (qs N ((a0.getD tJ.toNat []).getD d6.2.1.toNat bN.zero)) fun gb=>
  ar (((decide (0<=gb))&&(decide (gb<=(d6.1.length:Int))))&&(true)) <|
  Option.bind (tI N ((a0.getD tJ.toNat []).getD d6.2.1.toNat bN.zero) (d6.1.take gb.toNat)) fun gS=>
  cond (!(decide (gS.2=(0:Int)))) (some (.inr (gS.2,nM))) (ar (((decide (0<=gb))&&(decide (gb<=(d6.1.length:Int))))&&(true)) <|
  ar ((ee 8 (d6.2.2.length+gS.1.length))&&(true)) <|
  ar ((bl (d6.2.1+(1:Int)))&&(true)) <|
  my ((d6.1.drop gb.toNat),(d6.2.1+(1:Int)),(d6.2.2++gS.1)))) (some (.inl d6.2.2))
def H5(N:Nat) (a0:(List (List aN))):Nat->(Int×(List (List Int)))->Option (Int×(List (List Int))):=ch fun d4 l4=>
  cond (decide (d4.1 < (a0.length:Int))) (ar ((aR d4.1 a0.length)&&(true)) <|
  ar ((aR d4.1 d4.2.length)&&((decide (d4.1.toNat < d4.2.length))&&(true))) <|
  Option.bind (qy N (a0.getD d4.1.toNat [])) fun cw=>
  ar (((decide ((0:Int)<=cw))&&(eo 8 cw))&&(true)) <|
  Option.bind (CY N a0 d4.1 d4.2 N ((d4.2.getD d4.1.toNat []),(0:Int),([]:List Int))) fun(ff:((List Int))⊕(Int×(List (List Int))))=>
  sm ff (fun ff=>
  ar ((ee 24 (d4.2.length+[ff].length))&&(true)) <|
  ar ((bl (d4.1+(1:Int)))&&(true)) <|
  l4 ((d4.1+(1:Int)),(d4.2++[ff]))) (fun q=>some q)) (some ((0:Int),d4.2))
def wq(N:Nat) (a0:(List (List aN))):Option ((List (List Int))×Int):=
  Option.bind (wo N a0) fun aP=>
  cond (!(decide (aP=(0:Int)))) (some (([]:List (List Int)),aP)) (ar ((aR (0:Int) a0.length)&&(true)) <|
  Option.bind (ov N (a0.getD (0:Int).toNat [])) fun aX=>
  ar (((decide (0<=aX))&&(decide (aX<=aX))&&(eo 8 aX))&&(true)) <|
  Option.bind (CX N aX N ((0:Int),(List.replicate aX.toNat (0:Int)))) fun cd=>
  ar ((bl ((1:Int)+(a0.length:Int)))&&(((decide ((1:Int)<=((1:Int)+(a0.length:Int))))&&(eo 24 ((1:Int)+(a0.length:Int))))&&(true))) <|
  ar ((aR (0:Int) (List.replicate (1:Int).toNat ([]:(List Int))).length)&&(((decide ((0:Int).toNat < (List.replicate (1:Int).toNat ([]:(List Int))).length))&&(true))&&(true))) <|
  Option.bind (H5 N a0 N ((0:Int),((List.replicate (1:Int).toNat ([]:(List Int))).set (0:Int).toNat cd))) fun cE=>
  cond (!(decide (cE.1=(0:Int)))) (some (([]:List (List Int)),cE.1)) (some (cE.2,(0:Int))))
noncomputable def abI (N:Nat):bz bS:=b2 N bU (by kernel_rfl) [.c9 (.ak (.ak bN))] [] ⟨.dj [.c (.bd (.ak (.int .i64))),.c (.int .i64)],[],[]⟩ [abH N,zq N,H3 N,Cy N,OO N] [] (.s (.r [.n 3,.w (.b4 1 (.ak (.ak bN)))]) (.b (.s .d (.s .d (.s (.s .d (.b (.eb 0 ⟨[(5,.a (.c (.raw (.ak 29)))),(32,.a (.c (.int .i64)))],[(29,.row 3 (.int .i64))],[1,31],[]⟩ ⟨[(5,.a (.c (.raw (.ak 29))))],[(29,.row 3 (.int .i64))],[1],[]⟩ .d))) (.s .d (.s (.r [.n 3,.w (.dn 29)]) (.s .d (.s .d (.s (.s .d (.b (.eb 2 ⟨[(7,.a (.c (.raw (.ak 43)))),(50,.a (.c (.int .i64)))],[(43,.row 132 (.ak (.int .i64)))],[8,48,49],[]⟩ ⟨[(7,.a (.c (.raw (.ak 43)))),(8,.a (.c (.int .i64)))],[(43,.row 132 (.ak (.int .i64)))],[],[]⟩ (.s .d (.s .d (.s (.b (.s .d (.s .d (.s .d (.s (.s .d (.b (.fh 4 ⟨[(7,.a (.c (.raw (.ak 43)))),(11,.a (.c (.bd (.int .i64)))),(12,.a (.c (.raw (.ak 61)))),(64,.a (.c (.int .i64)))],[(61,.row 3 (.int .i64))],[8,48,49,50,62,63],[43]⟩ ⟨[(7,.a (.c (.raw (.ak 43)))),(12,.a (.c (.raw (.ak 61))))],[(61,.row 3 (.int .i64))],[8,48,49,50],[43]⟩ (.s .d (.s .d (.s (.b (.s (.r [.n 4,.w (.b4 14 bN)]) (.s .d (.s (.o [] [.t 0 1,.t 1 0,.t 2 0,.t 3 0,.c 4 [],.m 5,.t 6 0,.t 7 0,.t 8 0,.t 9 0] []) .d)))) .d)))))) (.r [.n 2,.w (.dn 61)])))))) .d)))))) (.s .d (.s .d (.t [.dn 43]))))))))))))) [.tmp 2,.tmp 3] 25 ([],0) (fun d=>wq N d.1) Tryz.func25 rfl rfl Tryz.ntmps25 rfl rfl rfl (fun d=>by kernel_rfl)
def qz(N:Nat) (a0:(List (List aN))):Option (Int):=
  Option.bind (wq N a0) fun aP=>
  some aP.2
noncomputable def H6 (N:Nat):bz bS:=b2 N bU (by kernel_rfl) [.c9 (.ak (.ak bN))] [] ⟨.a (.c (.int .i64)),[],[]⟩ [abI N] [] (.s (.r [.n 2,.w (.b4 1 (.ak (.ak bN)))]) .d) [.tmp 2] 11 0 (fun d=>qz N d.1) Tryz.func11 rfl rfl Tryz.ntmps11 rfl rfl rfl (fun d=>by kernel_rfl)
def CZ(N:Nat) (a0:(List (List aN))) (gp:Int):Nat->Int->Option ((Unit)⊕((Unit)⊕(Bool))):=ch fun d3 eD=>
  cond (decide (d3 < ((a0.getD gp.toNat []).length:Int))) (ar ((aR d3 (a0.getD gp.toNat []).length)&&(true)) <|
  cond (cond (!(decide (((a0.getD gp.toNat []).getD d3.toNat bN.zero).1=(1:Int)))) (!(decide (((a0.getD gp.toNat []).getD d3.toNat bN.zero).1=(2:Int)))) false) (some (.inr (.inr false))) (ar ((bl (d3+(1:Int)))&&(true)) <|
  eD (d3+(1:Int)))) (some (.inl ()))
def H7(N:Nat) (a0:(List (List aN))):Nat->Int->Option ((Unit)⊕(Bool)):=ch fun d2 e5=>
  cond (decide (d2 < (a0.length:Int))) (ar ((aR d2 a0.length)&&(true)) <|
  Option.bind (CZ N a0 d2 N (0:Int)) fun(cd:(Unit)⊕((Unit)⊕(Bool)))=>
  sm cd (fun cd=>
  ar ((bl (d2+(1:Int)))&&(true)) <|
  e5 (d2+(1:Int))) (fun q=>some q)) (some (.inl ()))
def m3(N:Nat) (a0:(List (List aN))):Option (Bool):=
  Option.bind (qz N a0) fun aP=>
  cond (!(decide (aP=(0:Int)))) (some false) (Option.bind (H7 N a0 N (0:Int)) fun(bM:(Unit)⊕(Bool))=>
  sm bM (fun bM=>
  some true) (fun q=>some q))
noncomputable def wu (N:Nat):bz bS:=b2 N bU (by kernel_rfl) [.c9 (.ak (.ak bN))] [] ⟨.a (.c .bool),[],[]⟩ [H6 N] [] (.s (.r [.n 2,.w (.b4 1 (.ak (.ak bN)))]) (.s .d (.s (.s .d (.b (.fh 0 ⟨[(13,.a (.c (.int .i64)))],[],[11,12],[]⟩ ⟨[],[],[],[]⟩ (.s .d (.s .d (.s (.b (.s .d (.s .d (.b (.fh 2 ⟨[(19,.a (.c (.int .i64)))],[],[11,12,13,17,18],[]⟩ ⟨[],[],[11,12,13],[]⟩ (.s .d (.s .d (.s (.b (.s (.r [.n 4,.w (.b4 6 bN)]) .d)) .d)))))))) .d)))))) .d))) [.tmp 2] 12 false (fun d=>m3 N d.1) Tryz.func12 rfl rfl Tryz.ntmps12 rfl rfl rfl (fun d=>by kernel_rfl)
def H8(N:Nat) (a0:(List (List aN))) (aq:Int) (a2:Int):Nat->(Int×Int)->Option (Int):=ch fun d4 l4=>
  cond (decide (d4.2 < ((a0.take aq.toNat).length:Int))) (ar ((aR d4.2 (a0.take aq.toNat).length)&&(true)) <|
  Option.bind (wb N ((a0.take aq.toNat).getD d4.2.toNat []) ((a0.getD aq.toNat []).getD a2.toNat bN.zero).2.1) fun cw=>
  ar ((bl (d4.1+cw))&&(true)) <|
  ar ((bl (d4.2+(1:Int)))&&(true)) <|
  l4 ((d4.1+cw),(d4.2+(1:Int)))) (some d4.1)
def qA(N:Nat) (a0:(List (List aN))) (aq:Int) (a2:Int):Option (aB×Int):=
  Option.bind (m3 N a0) fun aP=>
  ar ((fr (!(cond (cond (cond (!aP) true (decide (aq < (0:Int)))) true (decide ((a0.length:Int)<=aq))) true (decide (a2 < (0:Int))))) (aR aq a0.length))&&(true)) <|
  cond (cond (cond (cond (cond (!aP) true (decide (aq < (0:Int)))) true (decide ((a0.length:Int)<=aq))) true (decide (a2 < (0:Int)))) true (decide (((a0.getD aq.toNat []).length:Int)<=a2))) (some (((0:Int),(0:Int)),(1:Int))) (ar ((aR aq a0.length)&&((aR a2 (a0.getD aq.toNat []).length)&&(true))) <|
  Option.bind (ar ((aR (0:Int) a0.length)&&(true)) <|
  Option.bind (wc N (a0.getD (0:Int).toNat [])) fun bG=>
  cond (decide (((a0.getD aq.toNat []).getD a2.toNat bN.zero).2.1=bG)) (ar ((aR (0:Int) a0.length)&&(true)) <|
  some ((a0.getD (0:Int).toNat []).length:Int)) (some (0:Int))) fun bM=>
  ar (((decide (0<=aq))&&(decide (aq<=(a0.length:Int))))&&(true)) <|
  Option.bind (H8 N a0 aq a2 N (bM,(0:Int))) fun cE=>
  cond (decide ((Int.tmod aq (2:Int))=(0:Int))) (ar ((aR aq a0.length)&&((bl (a2+(1:Int)))&&(((decide (0<=(a2+(1:Int))))&&(decide ((a2+(1:Int))<=((a0.getD aq.toNat []).length:Int))))&&(true)))) <|
  Option.bind (wb N ((a0.getD aq.toNat []).drop (a2+(1:Int)).toNat) ((a0.getD aq.toNat []).getD a2.toNat bN.zero).2.1) fun gR=>
  ar ((bl (cE+gR))&&(true)) <|
  some ((((a0.getD aq.toNat []).getD a2.toNat bN.zero).2.1,(cE+gR)),(0:Int))) (ar ((aR aq a0.length)&&(((decide (0<=a2))&&(decide (a2<=((a0.getD aq.toNat []).length:Int))))&&(true))) <|
  Option.bind (wb N ((a0.getD aq.toNat []).take a2.toNat) ((a0.getD aq.toNat []).getD a2.toNat bN.zero).2.1) fun gb=>
  ar ((bl (cE+gb))&&(true)) <|
  some ((((a0.getD aq.toNat []).getD a2.toNat bN.zero).2.1,(cE+gb)),(0:Int))))
noncomputable def OP (N:Nat):bz bS:=b2 N bU (by kernel_rfl) [.c9 (.ak (.ak bN)),.c (.int .i64),.c (.int .i64)] [] ⟨.dj [.c9 bf,.c (.int .i64)],[],[]⟩ [wu N,Hw N,aaY N] [] (.s (.r [.n 3,.w (.b4 3 (.ak (.ak bN)))]) (.s .d (.s .d (.s .d (.j ⟨[(6,.a (.c (.raw (.ptr 6 0)))),(9,.a (.c (.int .i64)))],[],[1,2,3,8],[6]⟩ .d (.s (.s .d (.b (.eb 0 ⟨[(6,.a (.c (.raw (.ptr 6 0)))),(9,.a (.c (.int .i64))),(67,.a (.c (.int .i64)))],[],[1,2,3,8,65,66],[6]⟩ ⟨[(6,.a (.c (.raw (.ptr 6 0)))),(9,.a (.c (.int .i64)))],[],[1,2,3,8],[6]⟩ .d))) .d)))))) [.cell 6 30,.tmp 7] 7 (bf.zero,0) (fun d=>qA N d.1 d.2.1 d.2.2.1) Tryz.func7 rfl rfl Tryz.ntmps7 rfl rfl rfl (fun d=>by kernel_rfl)
def H9(N:Nat) (a0:aN):Option (Int):=
  some a0.2.1
noncomputable def abJ (N:Nat):bz bS:=b2 N bU (by kernel_rfl) [.c9 bN] [] ⟨.a (.c (.int .u8)),[],[]⟩ [] [] (.s (.r [.n 2,.w (.b4 1 bN)]) .d) [.tmp 2] 30 0 (fun d=>H9 N d.1) Tryz.func30 rfl rfl Tryz.ntmps30 rfl rfl rfl (fun d=>by kernel_rfl)
def C0(N:Nat) (a0:(List (List aN))):Option ((List (List aN))×Nat):=
  ar (((decide (0<=(a0.length:Int)))&&(decide ((a0.length:Int)<=(a0.length:Int)))&&(decide ((a0.length:Int)<=(a0.length:Int))))&&(true)) <|
  some ((a0.take (a0.length:Int).toNat),(a0.length:Int).toNat)
noncomputable def abK (N:Nat):bz bS:=b2 N bU (by kernel_rfl) [.c (.bd (.ak bN))] [] ⟨.a (.c (.jn (.ak bN))),[],[]⟩ [] [] (.d) [.tmp 2] 34 ([],0) (fun d=>C0 N d.1) Tryz.func34 rfl rfl Tryz.ntmps34 rfl rfl rfl (fun d=>by kernel_rfl)
end

section
set_option linter.unusedSimpArgs false
set_option linter.unusedVariables false
open Go.RowKit
def Ia(N:Nat) (a0:(List (List aN))) (cX:Int):Nat->(Int×(List (List Int))×Nat×Nat×(List Int)×Nat)->Option ((List (List Int))×Nat×Nat×(List Int)×Nat):=ch fun d2 e5=>
  cond (decide (d2.1 < ((a0.getD cX.toNat []).length:Int))) (ar ((aR d2.1 (a0.getD cX.toNat []).length)&&(true)) <|
  ar ((aR cX d2.2.1.length)&&((Nat.beq cX.toNat d2.2.2.1)&&(true))) <|
  Option.bind (H9 N ((a0.getD cX.toNat []).getD d2.1.toNat bN.zero)) fun bG=>
  ar ((aR d2.1 d2.2.2.2.2.1.length)&&(((decide (d2.1.toNat < d2.2.2.2.2.1.length))&&(true))&&(true))) <|
  ar ((bl (d2.1+(1:Int)))&&(true)) <|
  e5 ((d2.1+(1:Int)),d2.2.1,d2.2.2.1,d2.2.2.2.1,(d2.2.2.2.2.1.set d2.1.toNat bG),d2.2.2.2.2.2)) (some (d2.2.1,d2.2.2.1,d2.2.2.2.1,d2.2.2.2.2.1,d2.2.2.2.2.2))
def OQ(N:Nat) (a0:(List (List aN))):Nat->(Int×(List (List Int))×Nat)->Option ((List (List Int))×Nat):=ch fun d1 cz=>
  cond (decide (d1.1 < (a0.length:Int))) (ar ((aR d1.1 a0.length)&&(true)) <|
  ar (((decide (0<=((a0.getD d1.1.toNat []).length:Int)))&&(decide (((a0.getD d1.1.toNat []).length:Int)<=((a0.getD d1.1.toNat []).length:Int)))&&(eo 1 ((a0.getD d1.1.toNat []).length:Int)))&&((aR d1.1 d1.2.1.length)&&((decide (d1.1.toNat < d1.2.1.length))&&(true)))) <|
  Option.bind (Ia N a0 d1.1 N ((0:Int),d1.2.1,d1.1.toNat,d1.2.2,(List.replicate ((a0.getD d1.1.toNat []).length:Int).toNat (0:Int)),((a0.getD d1.1.toNat []).length:Int).toNat)) fun bM=>
  ar ((bl (d1.1+(1:Int)))&&(true)) <|
  cz ((d1.1+(1:Int)),(bM.1.set bM.2.1 bM.2.2.2.1),bM.2.2.1)) (some (d1.2.1,d1.2.2))
def C1(N:Nat) (a0:(List (List aN))):Option ((List (List Int))×Nat):=
  ar (((decide (0<=(a0.length:Int)))&&(decide ((a0.length:Int)<=(a0.length:Int)))&&(eo 24 (a0.length:Int)))&&(true)) <|
  Option.bind (OQ N a0 N ((0:Int),(List.replicate (a0.length:Int).toNat ([]:(List Int))),(a0.length:Int).toNat)) fun bj=>
  some (bj.1,bj.2)
noncomputable def abL (N:Nat):bz bS:=b2 N bU (by kernel_rfl) [.c9 (.ak (.ak bN)),.c (.fn 30 [])] [] ⟨.a (.c (.jn (.ak (.int .u8)))),[],[]⟩ [abJ N] [] (.s (.r [.n 2,.w (.b4 2 (.ak (.ak bN)))]) (.s .d (.s (.s .d (.b (.eb 0 ⟨[(5,.a (.c (.raw (.ak 13)))),(17,.a (.c (.int .i64)))],[(13,.sW 22 (.ak (.int .u8)))],[1,15,16],[]⟩ ⟨[(5,.a (.c (.raw (.ak 13))))],[(13,.sW 22 (.ak (.int .u8)))],[],[]⟩ (.s .d (.s .d (.s (.b (.s .d (.s .d (.s .d (.b (.eb 2 ⟨[(5,.a (.c (.raw (.ak 13)))),(30,.a (.c (.int .i64)))],[(13,.x7 false 22 (.int .u8) 26),(26,.sW 5 (.int .u8))],[1,6,15,16,17,28,29],[]⟩ ⟨[(5,.a (.c (.raw (.ak 13))))],[(13,.x7 false 22 (.int .u8) 26),(26,.sW 5 (.int .u8))],[1,15,16,17],[]⟩ (.s .d (.s .d (.s (.b (.s (.r [.n 6,.w (.b4 9 bN)]) (.lf [4,5,6,7,1000009] [.t 0 0,.t 1 0,.t 2 0,.t 3 3,.t 4 0,.t 5 0,.t 6 1,.c 7 [],.t 8 0,.s 9] []))) .d))))))))) (.r [.n 2,.w (.dn 26)]))))))) (.s .d (.t [.dn 13]))))) [.tmp 4] 29 ([],0) (fun d=>C1 N d.1) Tryz.func29 rfl rfl Tryz.ntmps29 rfl rfl rfl (fun d=>by kernel_rfl)
def C2(N:Nat) (a0:(List (List aN))):Option ((List (List Int))×Nat):=
  Option.bind (C1 N a0) fun aP=>
  some (aP.1,aP.2)
noncomputable def abM (N:Nat):bz bS:=b2 N bU (by kernel_rfl) [.c9 (.ak (.ak bN))] [] ⟨.a (.c (.jn (.ak (.int .u8)))),[],[]⟩ [abL N] [] (.s (.r [.n 2,.w (.b4 1 (.ak (.ak bN)))]) .d) [.tmp 2] 14 ([],0) (fun d=>C2 N d.1) Tryz.func14 rfl rfl Tryz.ntmps14 rfl rfl rfl (fun d=>by kernel_rfl)
def OR(N:Nat) :Nat->(Int×Int×(List (List aN)))->Option ((List (List aN))):=ch fun d1 cz=>
  cond (decide (d1.1 < d1.2.1)) (ar ((aR d1.2.1 d1.2.2.length)&&((decide (d1.2.1.toNat < d1.2.2.length))&&((aR d1.1 d1.2.2.length)&&((decide (d1.1.toNat < d1.2.2.length))&&((aR d1.1 d1.2.2.length)&&(((decide (d1.1.toNat < d1.2.2.length))&&(true))&&((aR d1.2.1 (d1.2.2.set d1.1.toNat (d1.2.2.getD d1.2.1.toNat [])).length)&&(((decide (d1.2.1.toNat < (d1.2.2.set d1.1.toNat (d1.2.2.getD d1.2.1.toNat [])).length))&&(true))&&(true))))))))) <|
  ar ((bl (d1.1+(1:Int)))&&((bl (d1.2.1 - (1:Int)))&&(true))) <|
  cz ((d1.1+(1:Int)),(d1.2.1 - (1:Int)),((d1.2.2.set d1.1.toNat (d1.2.2.getD d1.2.1.toNat [])).set d1.2.1.toNat (d1.2.2.getD d1.1.toNat [])))) (some d1.2.2)
def C3(N:Nat) (a0:List (List aN)):Option ((List (List aN))):=
  ar ((bl ((a0.length:Int) - (1:Int)))&&(true)) <|
  Option.bind (OR N N ((0:Int),((a0.length:Int) - (1:Int)),a0)) fun bj=>
  some bj
noncomputable def abN (N:Nat):bz bS:=b2 N bU (by kernel_rfl) [.c (.raw (.ak 2000000))] [(2000000,.row 34 (.ak bN))] ⟨.dj [],[(2000000,.row 34 (.ak bN))],[]⟩ [] [] (.s .d (.b (.eb 0 ⟨[(0,.a (.c (.raw (.ak 2000000)))),(2,.a (.c (.int .i64))),(3,.a (.c (.int .i64)))],[(2000000,.row 34 (.ak bN))],[],[]⟩ ⟨[],[(2000000,.row 34 (.ak bN))],[],[]⟩ (.s .d (.s (.b (.lf [8,9,10,11] [.t 0 0,.t 1 0,.t 2 0,.t 3 0,.t 4 0,.t 5 0,.t 6 0,.t 7 3,.t 8 0,.t 9 0,.t 10 0,.t 11 3,.t 12 0,.s 13,.t 14 0,.s 15] [])) .d))))) [] 33 [] (fun d=>C3 N d.1) Tryz.func33 rfl rfl Tryz.ntmps33 rfl rfl rfl (fun d=>by kernel_rfl)
end

section
set_option linter.unusedSimpArgs false
set_option linter.unusedVariables false
open Go.RowKit
def Ib(N:Nat) (b:Bool) (a0:(List (List aN))):Nat->Int->Option ((List (Int×(List aN)×Unit))):=ch fun d1 cz=>
  cond (decide ((0:Int)<=d1)) (ar ((aR d1 a0.length)&&(true)) <|
  we b (d1,(a0.getD d1.toNat []),()) (some [])
  (ar ((bl (d1 - (1:Int)))&&(true)) <|
  cz (d1 - (1:Int)))) (some [])
def C4(N:Nat) (b:Bool) (a0:(List (List aN))):Option (List (Int×(List aN)×Unit)):=
  ar ((bl ((a0.length:Int) - (1:Int)))&&(true)) <|
  Ib N b a0 N ((a0.length:Int) - (1:Int))
noncomputable def abO (N:Nat):ju bS:=Hz N bU (by kernel_rfl) [.cL (.ak (.ak bN))] [] [.c (.int .i64),.c (.bd bN)] [] [] (.s .d (.b (.l ⟨[(3,.a (.c (.int .i64)))],[],[0,1],[]⟩ (.s .d (.s (.b (.s (.r [.n 6,.y]) .d)) .d))))) 61 (fun b d=>C4 N b d.1) Tryz.func61 rfl rfl Tryz.ntmps61 (fun _=>rfl) rfl rfl (fun id d=>by kernel_rfl)
def OS(N:Nat) (a0:(List (List aN))):Option ((List (List aN))):=
  some a0
noncomputable def abP (N:Nat):bz bS:=b2 N bU (by kernel_rfl) [.c (.bd (.ak bN))] [] ⟨.a (.c (.fn 61 [.cL (.ak (.ak bN))])),[],[]⟩ [] [] (.s (.r [.n 2,.w (.b4 1 (.ak (.ak bN)))]) .d) [.tmp 2] 26 [] (fun d=>OS N d.1) Tryz.func26 rfl rfl Tryz.ntmps26 rfl rfl rfl (fun d=>by kernel_rfl)
end

section
open Go.RowKit Go.Shelf
section
set_option maxHeartbeats 1000000
set_option maxRecDepth 100000
theorem abQ(b:Nat) (w:World) (h0:w.cell? ⟨b,0,none⟩=some (.pointer (some ⟨b,0,none⟩))) :
  Calls Tryz.prog 62 #[.pointer (some ⟨b,0,none⟩)] w fun e w'=>e=.returned (.tuple #[])/\w'=w:=by
 obtain⟨j,aF,_⟩:=Option.map_eq_some_iff.1 (show(Tryz.prog.info? 83).map (·.size)=some 2 by kernel_rfl);have mixed:Tryz.prog.follows .mixedOrders=true:=by kernel_rfl
 have t72:=Tryz.underlying83; have a72:=Tryz.isAgg83; have z72:=Tryz.sizeOf83; have v72:=Tryz.zeroValue83; have OT:=run_underlying Tryz.underlying83;have t70:=Tryz.underlying81; have a70:=Tryz.isAgg81; have z70:=Tryz.sizeOf81; have v70:=Tryz.zeroValue81; have OU:=run_underlying Tryz.underlying81;have t4:=Tryz.underlying4; have a4:=Tryz.isAgg4; have z4:=Tryz.sizeOf4; have v4:=Tryz.zeroValue4; have abR:=run_underlying Tryz.underlying4;have t164:=Tryz.underlying175; have a164:=Tryz.isAgg175; have z164:=Tryz.sizeOf175; have v164:=Tryz.zeroValue175; have abS:=run_underlying Tryz.underlying175
 go_enter Tryz.func62,Tryz.ntmps62
 go_wp2
 rw[Lib.run_neq_ptr_same w _ t70 aF]
 go_wp2
 go_end0
 exact⟨rfl,rfl⟩
theorem abT(b:Nat) (w:World) (h0:w.cell? ⟨b,0,none⟩=some (.pointer none)) (ea:w.shape? b=some (83,2)) (Fs:w.frozen? ⟨b,0,none⟩=false) :
  Calls Tryz.prog 62 #[.pointer (some ⟨b,0,none⟩)] w fun e w'=>e=.returned (.tuple #[])/\w'=w.setCell ⟨b,0,none⟩ (.pointer (some ⟨b,0,none⟩)):=by
 obtain⟨j,aF,Bs⟩:=Option.map_eq_some_iff.1 (show(Tryz.prog.info? 83).map (·.size)=some 2 by kernel_rfl);have mixed:Tryz.prog.follows .mixedOrders=true:=by kernel_rfl
 have t72:=Tryz.underlying83; have a72:=Tryz.isAgg83; have z72:=Tryz.sizeOf83; have v72:=Tryz.zeroValue83; have OT:=run_underlying Tryz.underlying83;have t70:=Tryz.underlying81; have a70:=Tryz.isAgg81; have z70:=Tryz.sizeOf81; have v70:=Tryz.zeroValue81; have OU:=run_underlying Tryz.underlying81;have t4:=Tryz.underlying4; have a4:=Tryz.isAgg4; have z4:=Tryz.sizeOf4; have v4:=Tryz.zeroValue4; have abR:=run_underlying Tryz.underlying4;have t164:=Tryz.underlying175; have a164:=Tryz.isAgg175; have z164:=Tryz.sizeOf175; have v164:=Tryz.zeroValue175; have abS:=run_underlying Tryz.underlying175
 go_enter Tryz.func62,Tryz.ntmps62
 go_wp2
 rw[Lib.run_to_unsafe w ⟨b,0,none⟩ t70 t164 aF (by rw[Bs]; decide) ea (Nat.zero_lt_succ 1)];simp only[Result.andThen];rw[Oper.upon_value]
 go_wp2
 rw[run_callFunc_extern Tryz.func95 (by kernel_rfl) (by kernel_rfl) (by kernel_rfl) (e:=Extern.AbiNoEscape.same) (by kernel_rfl)];rw[Lib.run_noEscape];simp only[Result.andThen];rw[Oper.upon_value]
 go_wp2
 rw[Lib.run_from_unsafe w ⟨b,0,none⟩ t164 t70 aF ea (by kernel_rfl)];simp only[Result.andThen];rw[Oper.upon_value]
 go_wp2
 go_end0
 exact⟨rfl,rfl⟩
theorem abU(b g cap:Nat) (p:Value) (l:List UInt8) (w:World) (cur:Array Value) (de:Nat×Nat) (vh:w.heap[b]?=some (.cells #[p,.slice (some ⟨g,0,none⟩) l.length cap] 83)) (aV:w.heap[g]?=some (.cells cur 5 de)) (jy:∀ j x,l[j]?=some x->w.cell? ((⟨g,0,none⟩:Addr).add j)=some (.int .u8 x.toNat))
  (h0:l≠[]) (a6:l.length<=cur.size) (aa:cap≠0) (Ek:l.length<=9223372036854775807) :
  Calls Tryz.prog 28 #[.pointer (some ⟨b,0,none⟩)] w fun e w'=>e=.returned (.string ⟨l.toArray⟩)/\w'=w.drew.freeze ⟨g,0,none⟩ l.length:=by
 have ft:w.drew.cell? ⟨b,1,none⟩=some (.slice (some ⟨g,0,none⟩) l.length cap):=by
  have:w.drew.heap[b]?=some (.cells #[p,.slice (some ⟨g,0,none⟩) l.length cap] 83):=vh
  rw[Lib.cell_of_heap this]; rfl
 have ahx:(Builtin.unsafeSliceData_ #[22] 136 #[.slice (some ⟨g,0,none⟩) l.length cap]).run Tryz.prog w.drew=.ok (.pointer (some ⟨g,0,none⟩)) w.drew:=
  Lib.run_unsafeSliceData_row _ _ _ _ _ _ aa
 have ahy:(Builtin.unsafeString_ #[136,3] 9 #[.pointer (some ⟨g,0,none⟩),.int .i64 l.length]).run Tryz.prog w.drew=.ok (.string ⟨l.toArray⟩) (w.drew.freeze ⟨g,0,none⟩ l.length):=by
  refine Lib.run_unsafeString_row w.drew 136 3 9 5 Tryz.underlying136 (by kernel_rfl) g cur.size (by have fL:w.drew.heap[g]?=some (.cells cur 5 de):=aV; simp[World.shape?,fL]) l h0 a6 Ek ?_;intro j x ah;exact jy j x ah
 have mixed:Tryz.prog.follows .mixedOrders=true:=by kernel_rfl
 have t72:=Tryz.underlying83; have a72:=Tryz.isAgg83; have z72:=Tryz.sizeOf83; have v72:=Tryz.zeroValue83; have OT:=run_underlying Tryz.underlying83;have t70:=Tryz.underlying81; have a70:=Tryz.isAgg81; have z70:=Tryz.sizeOf81; have v70:=Tryz.zeroValue81; have OU:=run_underlying Tryz.underlying81;have t37:=Tryz.underlying22; have a37:=Tryz.isAgg22; have z37:=Tryz.sizeOf22; have v37:=Tryz.zeroValue22; have ahz:=run_underlying Tryz.underlying22;have t127:=Tryz.underlying136; have a127:=Tryz.isAgg136; have z127:=Tryz.sizeOf136; have v127:=Tryz.zeroValue136; have ahA:=run_underlying Tryz.underlying136;have t3:=Tryz.underlying3; have a3:=Tryz.isAgg3; have z3:=Tryz.sizeOf3; have v3:=Tryz.zeroValue3; have vI:=run_underlying Tryz.underlying3;have t9:=Tryz.underlying9; have a9:=Tryz.isAgg9; have z9:=Tryz.sizeOf9; have v9:=Tryz.zeroValue9; have ahB:=run_underlying Tryz.underlying9;have t5:=Tryz.underlying5; have a5:=Tryz.isAgg5; have z5:=Tryz.sizeOf5; have v5:=Tryz.zeroValue5; have ahC:=run_underlying Tryz.underlying5
 go_enter Tryz.func28,Tryz.ntmps28
 go_wp2
 go_region_o
 all_goals (go_wp2; go_ret; exact⟨rfl,rfl⟩)
end
theorem bK.Ic{B:Nat->Prop} {ai W:World} {H:List bc} (h:bK B ai H W):bK (fun k=>Rest W H k\/B k) W H W:=by
 have J:=h.rest;have cH:∀ k,B k->Rest W H k:=fun q ao=>h.Sg ao
 exact⟨dm.refl _ _,fun k ab=>ab.elim (fun h=>h.1) (fun h=>(cH k h).1),fun c aa=>(J.ok c aa).base fun b ae ab=>((J.ok c aa).lt ae).1 (ab.elim (fun h=>h) (cH b)),J.apart⟩
theorem abV(Bv:Bool) (eE:Nat) (x:bg) (rest:bE):AC bS 62 [.c (.ptr eE 0)] ((eE,.cells 83 [.fR Bv eE,x]) :: rest) (fun sv h=>sv=.dj []/\h=(eE,.cells 83 [.fR true eE,x]) :: rest):=by
 intro B ai env vs H W aV aS b1 aj;obtain⟨v,r,rfl,⟨k,ab,rfl⟩,au⟩:=aS;have hR:r=[]:=au;subst hR;obtain⟨c,H2,rfl,⟨k',us,kS,rfl,fZ⟩,OV⟩:=b1;have tK:k=k':=by rw[ab]at kS; cases kS; rfl
 subst tK;obtain⟨v0,ek,rfl,⟨e0,nC,rfl⟩,v1,aP,rfl,ah,gw⟩:=fZ;have Ie:aP=[]:=gw;subst Ie;have gO:=aj.ok _ List.mem_cons_self;have dp:fJ B ai B W:=⟨fun _ h=>h,fun k ab=>aj.below.block k ab⟩
 cases Bv with
 | true=>
  have a1:e0=k:=by
   have:=nC rfl
   rw[ab]at this;cases this
   rfl
  subst a1;refine Calls.mono (abQ e0 W (by have:=gO.2; simp[World.cell?,this])) fun e w' ⟨J,U⟩=>⟨_,J,?_⟩
  subst U;exact⟨env,B,w',_,.dj [],_,⟨rfl,rfl⟩,fun _ h=>h,fun _ h=>.inl h,dm.refl _ _,⟨[],rfl,rfl⟩,⟨_,_,rfl,⟨e0,_,ab,rfl,⟨_,_,rfl,⟨e0,fun _=>ab,rfl⟩,_,_,rfl,ah.up dp,rfl⟩⟩,OV.up dp⟩,aj.Ic,fun _ _ _ h=>h⟩
 | false=>
  have aL:k < W.heap.size:=(Array.getElem?_eq_some_iff.1 gO.2).1;have Ig:∀ q,q≠k->(W.setCell ⟨k,0,none⟩ (.pointer (some ⟨k,0,none⟩))).heap[q]?=W.heap[q]?:=fun q ao=>Below.heap_setCell _ _ _ _ (fun e=>ao (by simpa using e))
  have hU:(W.setCell ⟨k,0,none⟩ (.pointer (some ⟨k,0,none⟩))).heap[k]?=some (.cells #[.pointer (some ⟨k,0,none⟩),v1] 83):=by
   have:=gO.2
   simp[World.setCell,Array.getElem?_modify,this]
  refine Calls.mono (abT k W (by have:=gO.2; simp[World.cell?,this]) (by have:=gO.2; simp[World.shape?,this]) (by have:=gO.2; simp[World.frozen?,this])) fun e w' ⟨J,U⟩=>⟨_,J,?_⟩
  have c6:w'.heap.size=W.heap.size:=by rw[U]; simp[World.setCell]
  refine⟨env,B,W,_,.dj [],_,⟨rfl,rfl⟩,fun _ h=>h,fun _ h=>.inl h,dm.refl _ _,⟨[],rfl,rfl⟩,⟨_,_,rfl,⟨k,[.pointer (some ⟨k,0,none⟩),v1],ab,rfl,⟨_,_,rfl,⟨k,fun _=>ab,rfl⟩,_,_,rfl,ah.up dp,rfl⟩⟩,OV.up dp⟩,?_,fun _ _ _ h=>h⟩;exact aj.Ic.Kf (K:=fun c=>c :: H2) ⟨[],H2,rfl,rfl⟩ ⟨by rw[U]; rfl,by rw[U]; rfl,by rw[U]; rfl,c6⟩ (by rw[U]; exact hU) (by rw[U]; exact Ig)
theorem abW(eE R:Nat) (x:bg) (l:List Int) (ad:l≠[]) (ae:rn l=true):AC bS 28 [.c (.ptr eE 0)] [(eE,.cells 83 [x,.ak R]),(R,.row 5 (.int .u8) l none)] (fun sv h=>sv=.c (.str (kg l))/\h=[]):=by
 intro B ai env vs H W aV aS b1 aj;obtain⟨v,r,rfl,⟨k,ab,rfl⟩,au⟩:=aS;have hR:r=[]:=au;subst hR;obtain⟨c,H2,rfl,⟨k',us,kS,rfl,fZ⟩,cR,Cl,rfl,⟨A,nV,xs,al,rfl,cS,_⟩,abX⟩:=b1;have abY:Cl=[]:=abX;subst abY;have tK:k=k':=by rw[ab]at kS; cases kS; rfl
 subst tK;obtain⟨v0,ek,rfl,_,v1,aP,rfl,⟨cm,c',LH,b7,rfl⟩,gw⟩:=fZ;have Ie:aP=[]:=gw;subst Ie;rw[al]at b7;cases b7;have gO:=aj.ok _ List.mem_cons_self;have OW:ey W B 5 1 A nV l.length xs:=aj.ok _ (List.mem_cons_of_mem _ List.mem_cons_self);have hlen:0 < l.length:=List.length_pos_iff.2 ad;obtain⟨g,cur,de,rfl,abZ,Eb,je,a6,hm,c6,pn⟩:∃ g cur de,A=some ⟨g,0,none⟩/\¬ B g/\W.heap[g]?=some (.cells cur 5 de)/\(de.1=de.2\/cur.size<=de.1)/\l.length<=nV/\nV<=maxLen/\cur.size=nV * 1/\cur.toList.take (l.length * 1)=xs:=by
  rcases OW.2 with⟨_,h0,_⟩ | h
  ·omega
  ·exact h
 have Ih:(kg l).length=l.length:=by simp[kg]
 have sS:xs=(kg l).map (fun c=>Value.int .u8 (c.toNat:Int)):=(Fh cS).trans (Fo l ae).symm;have jy:∀ j y,(kg l)[j]?=some y->W.cell? ((⟨g,0,none⟩:Addr).add j)=some (.int .u8 y.toNat):=fun j y aF=>by
  have OX:j < l.length:=by have:=(List.getElem?_eq_some_iff.1 aF).1; omega
  have:=OW.cells rfl j (by omega)
  rw[show(⟨g,0,none⟩:Addr).add j=⟨g,j,none⟩ by rw[Addr.add_lit,Nat.zero_add],this,sS]
  simp[aF]
 refine Calls.mono (abU k g nV v0 (kg l) W cur de (by rw[Ih]; exact gO.2) Eb jy (fun e=>ad (by simpa [kg] using e)) (by rw[Ih]; omega) (by omega) (by rw[Ih]; unfold maxLen at hm; omega)) fun e w' ⟨J,U⟩=>⟨_,J,?_⟩
 have aF:=aj.Ic;have hC:dm (fun q=>q≠g) W w'/\w'.heap.size=W.heap.size:=by
  rw[U];unfold World.freeze
  split
  ·exact⟨⟨rfl,rfl,rfl,Nat.le_refl _,fun _ _=>rfl⟩,rfl⟩
  ·refine⟨⟨rfl,rfl,rfl,?_,fun q ao=>?_⟩,?_⟩
   ·rw[Array.size_modify]; exact Nat.le_refl _
   ·simp only[Array.getElem?_modify]
    rw[if_neg (fun e=>ao e.symm)]
    rfl
   ·rw[Array.size_modify]; rfl
 have Ig:=hC.1.block;refine⟨env,B,W,[],_,[],⟨rfl,rfl⟩,fun _ h=>h,fun _ h=>.inl h,dm.refl _ _,rfl,rfl,⟨⟨hC.1.os,hC.1.tape,hC.1.output,hC.1.size,fun q ao=>Ig q fun e=>?_⟩,fun q ao=>?_,(fun c aa=>by cases aa),List.Pairwise.nil⟩,fun _ _ _ h=>h⟩
 ·subst e
  rcases ao with ao | ao
  ·exact ao.2 _ (List.mem_cons_of_mem _ List.mem_cons_self) rfl
  ·exact abZ ao
 ·rw[hC.2]
  exact aF.base q ao
end

section
set_option linter.unusedSimpArgs false
set_option linter.unusedVariables false
open Go.RowKit
abbrev OY:List (Nat×gX):=[(1000000,.cells 83 [.fR 1000000,.raw (.ak 2000000)]),(2000000,.row 5 (.int .u8))]
def Ii(b:Bool) (l:List Int):Option Bool:=some true
noncomputable def ab0:bz bS where
 f:=62
 fn:=Tryz.f62
 A:=[.c (.raw (.ptr 1000000 0))]
 dc:=OY
 ρ:=Bool
 k2:=true
 m:=fun d=>Ii d.1 d.2.1
 out:=fun d r=>(.dj [],[(1000000,.cells 83 [.fR r 1000000,.ak 2000000]),(2000000,.row 5 (.int .u8) d.2.1 none)])
 az:=Tryz.func62
 a6:=rfl
 ae:=rfl
 ok:=fun d r he=>by
  cases he;exact abV d.1 1000000 (.ak 2000000) [(2000000,.row 5 (.int .u8) d.2.1 none)]
def zs(b:Bool) (l:List Int):Option (List UInt8):=ar (rn l&&!l.isEmpty)<|some (kg l)
noncomputable def ab1:bz bS where
 f:=28
 fn:=Tryz.f28
 A:=[.c (.raw (.ptr 1000000 0))]
 dc:=OY
 ρ:=List UInt8
 k2:=[]
 m:=fun d=>zs d.1 d.2.1
 out:=fun d r=>(.a (.c (.str r)),[])
 az:=Tryz.func28
 a6:=rfl
 ae:=rfl
 ok:=fun d r he=>by
  obtain⟨J,U⟩:=hp he;cases U;simp only[Bool.and_eq_true,Bool.not_eq_true']at J;exact abW 1000000 2000000 (.fR d.1 1000000) d.2.1 (fun e=>by have:=J.2; rw[e]at this; cases this) J.1
def tL(N:Nat) (a0:Int) (aq:Bool) (a2:List Int):Option (Bool×(List Int)):=
  Option.bind (Ii aq a2) fun aP=>
  ar ((ee 1 (a2.length+[a0].length))&&(true)) <|
  some (aP,(a2++[a0]))
noncomputable def ab2 (N:Nat):bz bS:=b2 N bU (by kernel_rfl) [.c (.raw (.ptr 1000000 0)),.c (.int .u8)] [(1000000,.cells 83 [.fR 1000000,.raw (.ak 1000001)]),(1000001,.row 5 (.int .u8))] ⟨.a (.c (.raw (.val .nilIface))),[(1000000,.cells 83 [.fR 1000000,.raw (.ak 1000001)]),(1000001,.row 5 (.int .u8))],[]⟩ [ab0] [] (.s .d (.s (.r [.n 1,.c [(1000000,1000000),(2000000,1000001)]]) .d)) [.tmp 4] 27 (false,[]) (fun d=>tL N d.1 d.2.1 d.2.2.1) Tryz.func27 rfl rfl Tryz.ntmps27 rfl rfl rfl (fun d=>by kernel_rfl)
def zt(N:Nat) (qB:(Int×(List aN)×Unit)):Nat->(Int×(List Int)×Bool)->Option ((List Int)×Bool):=ch fun d11 C5=>
  cond (decide (d11.1 < (qB.2.1.length:Int))) (ar ((aR d11.1 qB.2.1.length)&&(true)) <|
  cond (decide ((qB.2.1.getD d11.1.toNat bN.zero).1=(2:Int))) (Option.bind (tL N (IntKind.wrap .u8 ((IntKind.wrap .u8 ((97:Int)+(qB.2.1.getD d11.1.toNat bN.zero).2.1)) - (1:Int))) d11.2.2 d11.2.1) fun km=>
  ar ((bl (d11.1+(1:Int)))&&(true)) <|
  C5 ((d11.1+(1:Int)),km.2,km.1)) (Option.bind (tL N (IntKind.wrap .u8 ((48:Int)+(qB.2.1.getD d11.1.toNat bN.zero).2.1)) d11.2.2 d11.2.1) fun gT=>
  ar ((bl (d11.1+(1:Int)))&&(true)) <|
  C5 ((d11.1+(1:Int)),gT.2,gT.1))) (some (d11.2.1,d11.2.2))
def tM(N:Nat) (a0:(List (List aN))):Option ((List UInt8)):=
  Option.bind (m3 N a0) fun aP=>
  cond (!aP) (some ([]:List UInt8)) (Option.bind (OS N a0) fun aX=>
  Option.bind (C4 N true aX) fun l10=>l2 (fun(qB:Int×(List aN)×Unit) (zu:(List Int)×Bool) (Ij:(List Int)×Bool->Option ((List UInt8)))=>
  Option.bind (zt N qB N ((0:Int),zu.1,zu.2)) fun rU=>
  Option.bind (tL N (10:Int) rU.2 rU.1) fun gD=>
  Ij (gD.2,gD.1)) l10 (([]:List Int),false) fun zv=>
  Option.bind (zs zv.2 zv.1) fun qx=>
  some qx)
noncomputable def OZ (N:Nat):bz bS:=b2 N bU (by kernel_rfl) [.c9 (.ak (.ak bN))] [] ⟨.a (.c .str),[],[]⟩ [wu N,abP N,ab2 N,ab1] [abO N] (.s (.r [.n 2,.w (.b4 1 (.ak (.ak bN)))]) (.s .d (.s .d (.s (.s (.r [.n 3,.w (.nr 3 1 12 5 (.int .u8))]) (.b (.pd [(3,40)] ⟨[],[(12,.row 5 (.int .u8)),(40,.cells 83 [.fR 40,.raw (.ak 12)])],[],[]⟩ (.b (.s (.s .d (.b (.eb 2 ⟨[(3,.a (.c (.raw (.ptr 40 0)))),(18,.a (.c (.int .i64)))],[(12,.row 5 (.int .u8)),(40,.cells 83 [.fR 40,.raw (.ak 12)])],[16,17],[]⟩ ⟨[(3,.a (.c (.raw (.ptr 40 0))))],[(12,.row 5 (.int .u8)),(40,.cells 83 [.fR 40,.raw (.ak 12)])],[],[]⟩ (.s .d (.s .d (.s (.b (.s (.r [.n 4,.w (.b4 7 bN)]) (.s .d (.c (.r [.n 4,.c [(1000000,40),(1000001,12)]]) (.r [.n 3,.c [(1000000,40),(1000001,12)]]))))) .d)))))) (.r [.c [(1000000,40),(1000001,12)]])))))) (.s (.r [.c [(1000000,40),(2000000,12)]]) .d))))) [.tmp 2] 13 [] (fun d=>tM N d.1) Tryz.func13 rfl rfl Tryz.ntmps13 rfl rfl rfl (fun d=>by kernel_rfl)
def ab3:List UInt8:=[97,49,49,10,50,50,50,10,49,98,49,10]
def tN(N:Nat) :Option (Bool):=
  Option.bind (OM N) fun aP=>
  Option.bind (qA N aP (0:Int) (1:Int)) fun aX=>
  Option.bind (qA N aP (0:Int) (0:Int)) fun bG=>
  Option.bind (qA N aP (2:Int) (0:Int)) fun cf=>
  Option.bind (m3 N aP) fun cw=>
  Option.bind (cond cw (tM N aP) (some [])) fun gR=>
  some (cond (cond (cond (cond (cond (cond (cond cw (gR == ab3) false) (decide (aX.2=(0:Int))) false) (ba.beq bf aX.1 ((2:Int),(0:Int))) false) (decide (bG.2=(0:Int))) false) (ba.beq bf bG.1 ((1:Int),(4:Int))) false) (decide (cf.2=(0:Int))) false) (ba.beq bf cf.1 ((1:Int),(7:Int))) false)
noncomputable def ab4 (N:Nat):bz bS:=b2 N bU (by kernel_rfl) [] [] ⟨.a (.c .bool),[],[]⟩ [abE N,OP N,wu N,OZ N] [] (.s .d (.s (.r [.n 3,.w (.b4 1 (.ak (.ak bN)))]) (.s (.r [.n 8,.w (.b4 2 bf)]) (.s (.r [.n 8,.w (.b4 4 bf)]) (.s (.r [.n 8,.w (.b4 6 bf)]) .d))))) [.tmp 0] 8 false (fun d=>tN N ) Tryz.func8 rfl rfl Tryz.ntmps8 rfl rfl rfl (fun d=>by kernel_rfl)
end

section
set_option linter.unusedSimpArgs false
set_option linter.unusedVariables false
open Go.RowKit
def C6(N:Nat) (a0:Int):Option (Bool):=
  some (!(decide (a0=a0)))
noncomputable def ab5 (N:Nat):bz bS:=b2 N bU (by kernel_rfl) [.c (.int .u8)] [] ⟨.a (.c .bool),[],[]⟩ [] [] (.d) [.tmp 2] 129 false (fun d=>C6 N d.1) Tryz.func129 rfl rfl Tryz.ntmps129 rfl rfl rfl (fun d=>by kernel_rfl)
def C7(N:Nat) (a0:Int) (aq:Int):Option (Int):=
  Option.bind (C6 N a0) fun aP=>
  Option.bind (C6 N aq) fun aX=>
  cond aP (cond aX (some (0:Int)) (some (-1:Int))) (cond aX (some (1:Int)) (cond (decide (a0 < aq)) (some (-1:Int)) (cond (decide (aq < a0)) (some (1:Int)) (some (0:Int)))))
noncomputable def ab6 (N:Nat):bz bS:=b2 N bU (by kernel_rfl) [.c (.int .u8),.c (.int .u8)] [] ⟨.a (.c (.int .i64)),[],[]⟩ [ab5 N] [] (.d) [.tmp 4] 103 0 (fun d=>C7 N d.1 d.2.1) Tryz.func103 rfl rfl Tryz.ntmps103 rfl rfl rfl (fun d=>by kernel_rfl)
def C8(N:Nat) (a0:Int):Option (Bool):=
  some (!(decide (a0=a0)))
noncomputable def ab7 (N:Nat):bz bS:=b2 N bU (by kernel_rfl) [.c (.int .i64)] [] ⟨.a (.c .bool),[],[]⟩ [] [] (.d) [.tmp 2] 130 false (fun d=>C8 N d.1) Tryz.func130 rfl rfl Tryz.ntmps130 rfl rfl rfl (fun d=>by kernel_rfl)
def C9(N:Nat) (a0:Int) (aq:Int):Option (Int):=
  Option.bind (C8 N a0) fun aP=>
  Option.bind (C8 N aq) fun aX=>
  cond aP (cond aX (some (0:Int)) (some (-1:Int))) (cond aX (some (1:Int)) (cond (decide (a0 < aq)) (some (-1:Int)) (cond (decide (aq < a0)) (some (1:Int)) (some (0:Int)))))
noncomputable def ab8 (N:Nat):bz bS:=b2 N bU (by kernel_rfl) [.c (.int .i64),.c (.int .i64)] [] ⟨.a (.c (.int .i64)),[],[]⟩ [ab7 N] [] (.d) [.tmp 4] 104 0 (fun d=>C9 N d.1 d.2.1) Tryz.func104 rfl rfl Tryz.ntmps104 rfl rfl rfl (fun d=>by kernel_rfl)
def O0(N:Nat) (a0:(List Int)):Nat->Int->Option ((Unit)⊕(Int)):=ch fun d1 cz=>
  cond (decide (d1 < (a0.length:Int))) (ar ((aR d1 a0.length)&&(true)) <|
  cond (!(decide ((a0.getD d1.toNat 0)=(0:Int)))) (some (.inr (a0.getD d1.toNat 0))) (ar ((bl (d1+(1:Int)))&&(true)) <|
  cz (d1+(1:Int)))) (some (.inl ()))
def zw(N:Nat) (a0:(List Int)):Option (Int):=
  Option.bind (O0 N a0 N (0:Int)) fun(bj:(Unit)⊕(Int))=>
  sm bj (fun bj=>
  some (0:Int)) (fun q=>some q)
noncomputable def O1 (N:Nat):bz bS:=b2 N bU (by kernel_rfl) [.c (.bd (.int .i64))] [] ⟨.a (.c (.int .i64)),[],[]⟩ [] [] (.s .d (.s .d (.s (.s .d (.b (.fh 0 ⟨[(8,.a (.c (.int .i64)))],[],[3,6,7],[]⟩ ⟨[],[],[3],[]⟩ .d))) .d))) [.tmp 2] 102 0 (fun d=>zw N d.1) Tryz.func102 rfl rfl Tryz.ntmps102 rfl rfl rfl (fun d=>by kernel_rfl)
def ow(N:Nat) (a0:aB) (aq:aB):Option (Int):=
  Option.bind (C7 N a0.1 aq.1) fun aP=>
  Option.bind (C9 N a0.2 aq.2) fun aX=>
  Option.bind (zw N [aP,aX]) fun bG=>
  some bG
noncomputable def wv (N:Nat):bz bS:=b2 N bU (by kernel_rfl) [.c9 bf,.c9 bf] [] ⟨.a (.c (.int .i64)),[],[]⟩ [ab6 N,ab8 N,O1 N] [] (.s (.r [.n 3,.w (.b4 2 bf),.w (.b4 3 bf)]) (.s (.o [] [.t 0 0,.t 1 1,.t 2 0,.t 3 1,.t 5 0,.t 6 1,.t 7 0,.t 8 1,.c 4 [],.c 9 [],.s 10,.z 15,.c 11 [],.t 12 0] []) .d)) [.tmp 4] 75 0 (fun d=>ow N d.1 d.2.1) Tryz.func75 rfl rfl Tryz.ntmps75 rfl rfl rfl (fun d=>by kernel_rfl)
def Da(N:Nat) (a0:b9) (aq:b9):Option (Int):=
  Option.bind (ow N a0.1 aq.1) fun aP=>
  Option.bind (ow N a0.2.1 aq.2.1) fun aX=>
  Option.bind (zw N [aP,aX]) fun bG=>
  some bG
noncomputable def ab9 (N:Nat):bz bS:=b2 N bU (by kernel_rfl) [.c9 bW,.c9 bW] [] ⟨.a (.c (.int .i64)),[],[]⟩ [wv N,O1 N] [] (.s (.r [.n 3,.w (.b4 2 bW),.w (.b4 3 bW)]) (.s (.o [] [.t 0 0,.t 1 1,.t 2 0,.t 3 1,.t 5 0,.t 6 1,.t 7 0,.t 8 1,.c 4 [],.c 9 [],.s 10,.z 15,.c 11 [],.t 12 0] []) .d)) [.tmp 4] 76 0 (fun d=>Da N d.1 d.2.1) Tryz.func76 rfl rfl Tryz.ntmps76 rfl rfl rfl (fun d=>by kernel_rfl)
def O2(N:Nat) (a0:(List (List b9))):Nat->(Int×Int)->Option (Int):=ch fun d1 cz=>
  cond (decide (d1.2 < (a0.length:Int))) (ar ((aR d1.2 a0.length)&&(true)) <|
  ar ((bl (d1.1+((a0.getD d1.2.toNat []).length:Int)))&&(true)) <|
  ar ((bl (d1.2+(1:Int)))&&(true)) <|
  cz ((d1.1+((a0.getD d1.2.toNat []).length:Int)),(d1.2+(1:Int)))) (some d1.1)
def O3(N:Nat) (a0:(List (List b9))):Nat->(Int×Int×(List b9))->Option ((List b9)):=ch fun d2 e5=>
  cond (decide (d2.2.1 < (a0.length:Int))) (ar ((aR d2.2.1 a0.length)&&(true)) <|
  ar (((decide (0<=d2.1))&&(decide (d2.1<=(d2.2.2.length:Int))))&&((decide (d2.1.toNat+(a0.getD d2.2.1.toNat []).length<=d2.2.2.length))&&((bl (d2.1+((a0.getD d2.2.1.toNat []).length:Int)))&&(true)))) <|
  ar ((bl (d2.2.1+(1:Int)))&&(true)) <|
  e5 ((d2.1+((a0.getD d2.2.1.toNat []).length:Int)),(d2.2.1+(1:Int)),(d2.2.2.take d2.1.toNat++(a0.getD d2.2.1.toNat [])++d2.2.2.drop (d2.1.toNat+(a0.getD d2.2.1.toNat []).length)))) (some d2.2.2)
def zx(N:Nat) (a0:(List (List b9))):Option ((List b9)):=
  Option.bind (O2 N a0 N ((0:Int),(0:Int))) fun bj=>
  ar (((decide (0<=bj))&&(decide (bj<=bj))&&(eo 40 bj))&&(true)) <|
  Option.bind (O3 N a0 N ((0:Int),(0:Int),(List.replicate bj.toNat (bW.zero:b9)))) fun bM=>
  some bM
noncomputable def aca (N:Nat):bz bS:=b2 N bU (by kernel_rfl) [.c (.bd (.ak bW))] [] ⟨.a (.c (.raw (.ak 22))),[(22,.row 118 bW)],[]⟩ [] [] (.s .d (.s .d (.s (.s .d (.b (.eb 0 ⟨[(3,.a (.c (.int .i64))),(12,.a (.c (.int .i64)))],[],[0,10,11],[]⟩ ⟨[(3,.a (.c (.int .i64)))],[],[0],[]⟩ .d))) (.s .d (.s .d (.s (.s .d (.b (.eb 2 ⟨[(6,.a (.c (.raw (.ak 22)))),(7,.a (.c (.int .i64))),(25,.a (.c (.int .i64)))],[(22,.row 118 bW)],[23,24],[]⟩ ⟨[(6,.a (.c (.raw (.ak 22))))],[(22,.row 118 bW)],[],[]⟩ .d))) .d)))))) [.tmp 2] 156 [] (fun d=>zx N d.1) Tryz.func156 rfl rfl Tryz.ntmps156 rfl rfl rfl (fun d=>by kernel_rfl)
def O4(N:Nat) (a0:b9) (aq:b9):Option (Int):=
  Option.bind (ow N a0.1 aq.1) fun aP=>
  cond (!(decide (aP=(0:Int)))) (some aP) (Option.bind (ow N a0.2.1 aq.2.1) fun aX=>
  some aX)
noncomputable def acb (N:Nat):bz bS:=b2 N bU (by kernel_rfl) [.c9 bW,.c9 bW] [] ⟨.a (.c (.int .i64)),[],[]⟩ [wv N] [] (.s (.r [.n 3,.w (.b4 2 bW),.w (.b4 3 bW)]) .d) [.tmp 4] 158 0 (fun d=>O4 N d.1 d.2.1) Tryz.func158 rfl rfl Tryz.ntmps158 rfl rfl rfl (fun d=>by kernel_rfl)
def Ik(N:Nat) (a0:b9):Option (Bool):=
  some (decide (a0.2.2=(0:Int)))
noncomputable def O5 (N:Nat):bz bS:=b2 N bU (by kernel_rfl) [.c9 bW] [] ⟨.a (.c .bool),[],[]⟩ [] [] (.s (.r [.n 2,.w (.b4 1 bW)]) .d) [.tmp 2] 160 false (fun d=>Ik N d.1) Tryz.func160 rfl rfl Tryz.ntmps160 rfl rfl rfl (fun d=>by kernel_rfl)
def acd(N:Nat) (a0:Int):Nat->(Int×(List b9))->Option ((List b9)):=ch fun d2 e5=>
  ar ((fr (decide (a0 < d2.1)) (aR d2.1 d2.2.length))&&((fr (decide (a0 < d2.1)) (decide (d2.1.toNat < d2.2.length)))&&((fr (decide (a0 < d2.1)) (bl (d2.1 - (1:Int))))&&((fr (decide (a0 < d2.1)) (aR (d2.1 - (1:Int)) d2.2.length))&&((fr (decide (a0 < d2.1)) (decide ((d2.1 - (1:Int)).toNat < d2.2.length)))&&(true)))))) <|
  Option.bind (cond (decide (a0 < d2.1)) (O4 N (d2.2.getD d2.1.toNat bW.zero) (d2.2.getD (d2.1 - (1:Int)).toNat bW.zero)) (some 0)) fun bG=>
  cond (cond (decide (a0 < d2.1)) (decide (bG < (0:Int))) false) (ar ((bl (d2.1 - (1:Int)))&&((bl (d2.1 - (1:Int)))&&((aR (d2.1 - (1:Int)) d2.2.length)&&((decide ((d2.1 - (1:Int)).toNat < d2.2.length))&&((aR d2.1 d2.2.length)&&((decide (d2.1.toNat < d2.2.length))&&((aR d2.1 d2.2.length)&&(((decide (d2.1.toNat < d2.2.length))&&(true))&&((aR (d2.1 - (1:Int)) (d2.2.set d2.1.toNat (d2.2.getD (d2.1 - (1:Int)).toNat bW.zero)).length)&&(((decide ((d2.1 - (1:Int)).toNat < (d2.2.set d2.1.toNat (d2.2.getD (d2.1 - (1:Int)).toNat bW.zero)).length))&&(true))&&(true))))))))))) <|
  ar ((bl (d2.1 - (1:Int)))&&(true)) <|
  e5 ((d2.1 - (1:Int)),((d2.2.set d2.1.toNat (d2.2.getD (d2.1 - (1:Int)).toNat bW.zero)).set (d2.1 - (1:Int)).toNat (d2.2.getD d2.1.toNat bW.zero)))) (some d2.2)
def ace(N:Nat) (a0:Int) (aq:Int):Nat->(Int×(List b9))->Option ((List b9)):=ch fun d1 cz=>
  cond (decide (d1.1 < aq)) (Option.bind (acd N a0 N (d1.1,d1.2)) fun bM=>
  ar ((bl (d1.1+(1:Int)))&&(true)) <|
  cz ((d1.1+(1:Int)),bM)) (some d1.2)
def Il(N:Nat) (a0:Int) (aq:Int) (a2:List b9):Option ((List b9)):=
  ar ((bl (a0+(1:Int)))&&(true)) <|
  Option.bind (ace N a0 aq N ((a0+(1:Int)),a2)) fun bj=>
  some bj
noncomputable def acf (N:Nat):bz bS:=b2 N bU (by kernel_rfl) [.c (.raw (.ak 2000000)),.c (.int .i64),.c (.int .i64),.c (.fn 158 [])] [(2000000,.row 118 bW)] ⟨.dj [],[(2000000,.row 118 bW)],[]⟩ [acb N] [] (.s .d (.b (.eb 0 ⟨[(0,.a (.c (.raw (.ak 2000000)))),(8,.a (.c (.int .i64)))],[(2000000,.row 118 bW)],[1,2,3],[]⟩ ⟨[],[(2000000,.row 118 bW)],[],[]⟩ (.s .d (.s (.b (.s .d (.b (.eb 2 ⟨[(0,.a (.c (.raw (.ak 2000000)))),(9,.a (.c (.int .i64)))],[(2000000,.row 118 bW)],[1,2,3,8],[]⟩ ⟨[(0,.a (.c (.raw (.ak 2000000))))],[(2000000,.row 118 bW)],[1,2,3,8],[]⟩ (.s (.s (.lf [9,10,11,12,13] [.t 0 0,.t 1 0,.t 2 0,.t 3 0,.t 4 0,.t 5 0,.t 6 0,.t 7 0,.t 8 3,.t 9 0,.t 10 0,.t 11 0,.t 12 0,.t 13 3,.g 14,.t 15 0,.t 16 0] []) .d) (.s (.b (.lf [10,11,12,13] [.t 0 0,.t 1 0,.t 2 0,.t 3 0,.t 4 0,.t 5 0,.t 6 0,.t 7 0,.t 8 0,.t 9 3,.t 10 0,.t 11 0,.t 12 0,.t 13 3,.t 14 0,.s 15,.t 16 0,.s 17] [])) .d)))))) .d))))) [] 175 [] (fun d=>Il N d.1 d.2.1 d.2.2.1) Tryz.func175 rfl rfl Tryz.ntmps175 rfl rfl rfl (fun d=>by kernel_rfl)
def acg(N:Nat) (a0:Int):Nat->(Int×Int×(List b9))->Option (Int×(List b9)):=ch fun d1 cz=>
  cond (decide (d1.2.1<=a0)) (Option.bind (Il N d1.1 d1.2.1 d1.2.2) fun aX=>
  ar ((bl (d1.2.1+(20:Int)))&&(true)) <|
  cz (d1.2.1,(d1.2.1+(20:Int)),aX)) (some (d1.1,d1.2.2))
def ach(N:Nat) (a0:Int) (tJ:Int):Nat->Unit->Option (Unit):=ch fun d5 tH=>
  cond (decide (((2:Int) * tJ)<=a0)) (ar ((bl ((0:Int)+tJ))&&(true)) <|
  none) (some ())
def aci(N:Nat) (a0:Int):Nat->Int->Option (Unit):=ch fun d4 l4=>
  cond (decide (d4 < a0)) (ar ((bl ((2:Int) * d4))&&(true)) <|
  Option.bind (ach N a0 d4 N ()) fun cx=>
  ar ((bl ((0:Int)+d4))&&(true)) <|
  cond (decide (((0:Int)+d4) < a0)) (none) (ar ((bl (d4 * (2:Int)))&&(true)) <|
  l4 (d4 * (2:Int)))) (some ())
def O6(N:Nat) (a0:Int) (aq:List b9):Option ((List b9)):=
  Option.bind (acg N a0 N ((0:Int),(20:Int),aq)) fun bj=>
  Option.bind (Il N bj.1 a0 bj.2) fun bG=>
  Option.bind (aci N a0 N (20:Int)) fun cE=>
  some bG
noncomputable def acj (N:Nat):bz bS:=b2 N bU (by kernel_rfl) [.c (.raw (.ak 2000000)),.c (.int .i64),.c (.fn 158 [])] [(2000000,.row 118 bW)] ⟨.dj [],[(2000000,.row 118 bW)],[]⟩ [acf N] [] (.s .d (.s .d (.s (.b (.eb 0 ⟨[(0,.a (.c (.raw (.ak 2000000)))),(7,.a (.c (.int .i64))),(8,.a (.c (.int .i64)))],[(2000000,.row 118 bW)],[1,2,6],[]⟩ ⟨[(0,.a (.c (.raw (.ak 2000000)))),(7,.a (.c (.int .i64)))],[(2000000,.row 118 bW)],[1,2,6],[]⟩ (.s .d (.b (.s (.r [.n 4,.c [(2000000,2000000)]]) .d))))) (.s (.r [.n 4,.c [(2000000,2000000)]]) (.b (.eb 2 ⟨[(0,.a (.c (.raw (.ak 2000000)))),(6,.a (.c (.int .i64)))],[],[1,2],[2000000]⟩ ⟨[],[],[],[2000000]⟩ (.s .d (.b (.s .d (.s (.b (.eb 4 ⟨[(0,.a (.c (.raw (.ak 2000000))))],[],[1,2,6,7,8],[2000000]⟩ ⟨[(0,.a (.c (.raw (.ak 2000000))))],[],[1,2,6,7],[2000000]⟩ .d)) .d)))))))))) [] 172 [] (fun d=>O6 N d.1 d.2.1) Tryz.func172 rfl rfl Tryz.ntmps172 rfl rfl rfl (fun d=>by kernel_rfl)
def O7(N:Nat) (a0:List b9):Option ((List b9)):=
  Option.bind (O6 N (a0.length:Int) a0) fun aP=>
  some aP
noncomputable def ack (N:Nat):bz bS:=b2 N bU (by kernel_rfl) [.c (.raw (.ak 2000000)),.c (.fn 158 [])] [(2000000,.row 118 bW)] ⟨.dj [],[(2000000,.row 118 bW)],[]⟩ [acj N] [] (.r [.n 4,.c [(2000000,2000000)]]) [] 157 [] (fun d=>O7 N d.1) Tryz.func157 rfl rfl Tryz.ntmps157 rfl rfl rfl (fun d=>by kernel_rfl)
def acm(N:Nat) (a0:List b9):Nat->Int->Option ((Unit)⊕(Int)):=ch fun d1 cz=>
  cond (decide (d1 < (a0.length:Int))) (ar ((aR d1 a0.length)&&((decide (d1.toNat < a0.length))&&(true))) <|
  Option.bind (Ik N (a0.getD d1.toNat bW.zero)) fun aX=>
  cond aX (some (.inr d1)) (ar ((bl (d1+(1:Int)))&&(true)) <|
  cz (d1+(1:Int)))) (some (.inl ()))
def O8(N:Nat) (a0:List b9):Option (Int):=
  Option.bind (acm N a0 N (0:Int)) fun(bj:(Unit)⊕(Int))=>
  sm bj (fun bj=>
  some (-1:Int)) (fun q=>some q)
noncomputable def acn (N:Nat):bz bS:=b2 N bU (by kernel_rfl) [.c (.raw (.ak 2000000)),.c (.fn 160 [])] [(2000000,.row 118 bW)] ⟨.a (.c (.int .i64)),[],[2000000]⟩ [O5 N] [] (.s .d (.s (.s .d (.b (.fh 0 ⟨[(0,.a (.c (.raw (.ak 2000000)))),(8,.a (.c (.int .i64)))],[],[1,7],[2000000]⟩ ⟨[],[],[],[2000000]⟩ .d))) .d)) [.tmp 4] 173 0 (fun d=>O8 N d.1) Tryz.func173 rfl rfl Tryz.ntmps173 rfl rfl rfl (fun d=>by kernel_rfl)
def O9(N:Nat) (a0:(List b9)):Option ((List b9)×Nat):=
  ar (((decide (0<=(a0.length:Int)))&&(decide ((a0.length:Int)<=(a0.length:Int)))&&(decide ((a0.length:Int)<=(a0.length:Int))))&&(true)) <|
  some ((a0.take (a0.length:Int).toNat),(a0.length:Int).toNat)
noncomputable def aco (N:Nat):bz bS:=b2 N bU (by kernel_rfl) [.c (.bd bW)] [] ⟨.a (.c (.jn bW)),[],[]⟩ [] [] (.d) [.tmp 2] 161 ([],0) (fun d=>O9 N d.1) Tryz.func161 rfl rfl Tryz.ntmps161 rfl rfl rfl (fun d=>by kernel_rfl)
end

section
set_option linter.unusedSimpArgs false
set_option linter.unusedVariables false
open Go.RowKit
def acp(N:Nat) :Nat->(Int×Int×(List b9))->Option (Int×(List b9)):=ch fun d2 e5=>
  cond (decide (d2.2.1 < (d2.2.2.length:Int))) (ar ((aR d2.2.1 d2.2.2.length)&&((decide (d2.2.1.toNat < d2.2.2.length))&&(true))) <|
  Option.bind (Ik N (d2.2.2.getD d2.2.1.toNat bW.zero)) fun bG=>
  cond (!bG) (ar ((aR d2.1 d2.2.2.length)&&(((decide (d2.1.toNat < d2.2.2.length))&&(true))&&(true))) <|
  ar ((bl (d2.1+(1:Int)))&&(true)) <|
  ar ((bl (d2.2.1+(1:Int)))&&(true)) <|
  e5 ((d2.1+(1:Int)),(d2.2.1+(1:Int)),(d2.2.2.set d2.1.toNat (d2.2.2.getD d2.2.1.toNat bW.zero)))) (ar ((bl (d2.2.1+(1:Int)))&&(true)) <|
  e5 (d2.1,(d2.2.1+(1:Int)),d2.2.2))) (some (d2.1,d2.2.2))
def Pa(N:Nat) (a0:List b9):Option ((List b9)):=
  Option.bind (O8 N a0) fun aP=>
  cond (decide (aP=(-1:Int))) (some a0) (ar ((bl (aP+(1:Int)))&&(true)) <|
  Option.bind (acp N N (aP,(aP+(1:Int)),a0)) fun bM=>
  none)
noncomputable def acq (N:Nat):bz bS:=b2 N bU (by kernel_rfl) [.c (.raw (.ak 1000000)),.c (.fn 160 [])] [(1000000,.row 118 bW)] ⟨.a (.c (.bd bW)),[],[]⟩ [acn N,O5 N] [] (.s .d (.s (.r [.n 2,.c [(2000000,1000000)]]) (.s (.s .d (.c (.s .d (.t [.dn 1000000])) .d)) (.s (.s .d (.b (.eb 0 ⟨[(0,.a (.c (.raw (.ak 1000000)))),(5,.a (.c (.int .i64))),(6,.a (.c (.int .i64)))],[(1000000,.row 118 bW)],[1],[]⟩ ⟨[(0,.a (.c (.raw (.ak 1000000)))),(5,.a (.c (.int .i64)))],[(1000000,.row 118 bW)],[],[]⟩ (.s .d (.s (.b (.s (.r [.n 6,.w (.b4 7 bW)]) .d)) .d))))) .d)))) [.tmp 4] 159 [] (fun d=>Pa N d.1) Tryz.func159 rfl rfl Tryz.ntmps159 rfl rfl rfl (fun d=>by kernel_rfl)
def acr(N:Nat) (aX:(List b9)):Nat->(Int×(List b9))->Option (((List b9))⊕((List b9)×Nat×Int)):=ch fun d3 eD=>
  cond (decide (d3.1 < (aX.length:Int))) (ar ((aR d3.1 aX.length)&&((decide (d3.1.toNat < aX.length))&&(true))) <|
  ar ((bl ((d3.2.length:Int) - (1:Int)))&&(true)) <|
  ar ((fr (!(decide (((d3.2.length:Int) - (1:Int)) < (0:Int)))) (aR ((d3.2.length:Int) - (1:Int)) d3.2.length))&&((fr (!(decide (((d3.2.length:Int) - (1:Int)) < (0:Int)))) (decide (((d3.2.length:Int) - (1:Int)).toNat < d3.2.length)))&&((fr (!(cond (decide (((d3.2.length:Int) - (1:Int)) < (0:Int))) true (!(ba.beq bf (d3.2.getD ((d3.2.length:Int) - (1:Int)).toNat bW.zero).1 (aX.getD d3.1.toNat bW.zero).1)))) (aR ((d3.2.length:Int) - (1:Int)) d3.2.length))&&((fr (!(cond (decide (((d3.2.length:Int) - (1:Int)) < (0:Int))) true (!(ba.beq bf (d3.2.getD ((d3.2.length:Int) - (1:Int)).toNat bW.zero).1 (aX.getD d3.1.toNat bW.zero).1)))) (decide (((d3.2.length:Int) - (1:Int)).toNat < d3.2.length)))&&(true))))) <|
  cond (cond (cond (decide (((d3.2.length:Int) - (1:Int)) < (0:Int))) true (!(ba.beq bf (d3.2.getD ((d3.2.length:Int) - (1:Int)).toNat bW.zero).1 (aX.getD d3.1.toNat bW.zero).1))) true (!(ba.beq bf (d3.2.getD ((d3.2.length:Int) - (1:Int)).toNat bW.zero).2.1 (aX.getD d3.1.toNat bW.zero).2.1))) (ar ((ee 40 (d3.2.length+[(aX.getD d3.1.toNat bW.zero)].length))&&(true)) <|
  ar ((bl (d3.1+(1:Int)))&&(true)) <|
  eD ((d3.1+(1:Int)),(d3.2++[(aX.getD d3.1.toNat bW.zero)]))) (ar ((aR ((d3.2.length:Int) - (1:Int)) d3.2.length)&&((decide (((d3.2.length:Int) - (1:Int)).toNat < d3.2.length))&&((bl ((d3.2.getD ((d3.2.length:Int) - (1:Int)).toNat bW.zero).2.2+(aX.getD d3.1.toNat bW.zero).2.2))&&((aR ((d3.2.length:Int) - (1:Int)) d3.2.length)&&(((decide (((d3.2.length:Int) - (1:Int)).toNat < d3.2.length))&&(true))&&(true)))))) <|
  ar ((aR ((d3.2.length:Int) - (1:Int)) (d3.2.set ((d3.2.length:Int) - (1:Int)).toNat ((d3.2.getD ((d3.2.length:Int) - (1:Int)).toNat bW.zero).1,((d3.2.getD ((d3.2.length:Int) - (1:Int)).toNat bW.zero).2.1,((d3.2.getD ((d3.2.length:Int) - (1:Int)).toNat bW.zero).2.2+(aX.getD d3.1.toNat bW.zero).2.2)))).length)&&((decide (((d3.2.length:Int) - (1:Int)).toNat < (d3.2.set ((d3.2.length:Int) - (1:Int)).toNat ((d3.2.getD ((d3.2.length:Int) - (1:Int)).toNat bW.zero).1,((d3.2.getD ((d3.2.length:Int) - (1:Int)).toNat bW.zero).2.1,((d3.2.getD ((d3.2.length:Int) - (1:Int)).toNat bW.zero).2.2+(aX.getD d3.1.toNat bW.zero).2.2)))).length))&&((fr (!(decide ((1048576:Int) < ((d3.2.set ((d3.2.length:Int) - (1:Int)).toNat ((d3.2.getD ((d3.2.length:Int) - (1:Int)).toNat bW.zero).1,((d3.2.getD ((d3.2.length:Int) - (1:Int)).toNat bW.zero).2.1,((d3.2.getD ((d3.2.length:Int) - (1:Int)).toNat bW.zero).2.2+(aX.getD d3.1.toNat bW.zero).2.2)))).getD ((d3.2.length:Int) - (1:Int)).toNat bW.zero).2.2))) (aR ((d3.2.length:Int) - (1:Int)) (d3.2.set ((d3.2.length:Int) - (1:Int)).toNat ((d3.2.getD ((d3.2.length:Int) - (1:Int)).toNat bW.zero).1,((d3.2.getD ((d3.2.length:Int) - (1:Int)).toNat bW.zero).2.1,((d3.2.getD ((d3.2.length:Int) - (1:Int)).toNat bW.zero).2.2+(aX.getD d3.1.toNat bW.zero).2.2)))).length))&&((fr (!(decide ((1048576:Int) < ((d3.2.set ((d3.2.length:Int) - (1:Int)).toNat ((d3.2.getD ((d3.2.length:Int) - (1:Int)).toNat bW.zero).1,((d3.2.getD ((d3.2.length:Int) - (1:Int)).toNat bW.zero).2.1,((d3.2.getD ((d3.2.length:Int) - (1:Int)).toNat bW.zero).2.2+(aX.getD d3.1.toNat bW.zero).2.2)))).getD ((d3.2.length:Int) - (1:Int)).toNat bW.zero).2.2))) (decide (((d3.2.length:Int) - (1:Int)).toNat < (d3.2.set ((d3.2.length:Int) - (1:Int)).toNat ((d3.2.getD ((d3.2.length:Int) - (1:Int)).toNat bW.zero).1,((d3.2.getD ((d3.2.length:Int) - (1:Int)).toNat bW.zero).2.1,((d3.2.getD ((d3.2.length:Int) - (1:Int)).toNat bW.zero).2.2+(aX.getD d3.1.toNat bW.zero).2.2)))).length)))&&(true))))) <|
  cond (cond (decide ((1048576:Int) < ((d3.2.set ((d3.2.length:Int) - (1:Int)).toNat ((d3.2.getD ((d3.2.length:Int) - (1:Int)).toNat bW.zero).1,((d3.2.getD ((d3.2.length:Int) - (1:Int)).toNat bW.zero).2.1,((d3.2.getD ((d3.2.length:Int) - (1:Int)).toNat bW.zero).2.2+(aX.getD d3.1.toNat bW.zero).2.2)))).getD ((d3.2.length:Int) - (1:Int)).toNat bW.zero).2.2)) true (decide (((d3.2.set ((d3.2.length:Int) - (1:Int)).toNat ((d3.2.getD ((d3.2.length:Int) - (1:Int)).toNat bW.zero).1,((d3.2.getD ((d3.2.length:Int) - (1:Int)).toNat bW.zero).2.1,((d3.2.getD ((d3.2.length:Int) - (1:Int)).toNat bW.zero).2.2+(aX.getD d3.1.toNat bW.zero).2.2)))).getD ((d3.2.length:Int) - (1:Int)).toNat bW.zero).2.2 < (-1048576:Int)))) (some (.inr (([]:List b9),0,(3:Int)))) (ar ((bl (d3.1+(1:Int)))&&(true)) <|
  eD ((d3.1+(1:Int)),(d3.2.set ((d3.2.length:Int) - (1:Int)).toNat ((d3.2.getD ((d3.2.length:Int) - (1:Int)).toNat bW.zero).1,((d3.2.getD ((d3.2.length:Int) - (1:Int)).toNat bW.zero).2.1,((d3.2.getD ((d3.2.length:Int) - (1:Int)).toNat bW.zero).2.2+(aX.getD d3.1.toNat bW.zero).2.2)))))))) (some (.inl d3.2))
def Db(N:Nat) (a0:(List b9)) (aq:(List b9)):Option ((List b9)×Nat×Int):=
  Option.bind (zx N [a0,aq]) fun aP=>
  Option.bind (O7 N aP) fun aX=>
  ar (((decide ((0:Int)<=(aX.length:Int)))&&(eo 40 (aX.length:Int)))&&(true)) <|
  Option.bind (acr N aX N ((0:Int),([]:List b9))) fun(cd:((List b9))⊕((List b9)×Nat×Int))=>
  sm cd (fun cd=>
  Option.bind (Pa N cd) fun cf=>
  Option.bind (O9 N cf) fun cw=>
  some (cw.1,cw.2,(0:Int))) (fun q=>some q)
noncomputable def acs (N:Nat):bz bS:=b2 N bU (by kernel_rfl) [.c (.bd bW),.c (.bd bW)] [] ⟨.dj [.c (.jn bW),.c (.int .i64)],[],[]⟩ [aca N,ack N,acq N,aco N] [] (.s .d (.s (.r [.n 3,.w (.dn 13),.c [(22,14)]]) (.s (.r [.n 1,.c [(2000000,14)]]) (.s .d (.s (.s .d (.b (.fh 0 ⟨[(7,.a (.c (.raw (.ak 19)))),(20,.a (.c (.raw (.ak 14)))),(22,.a (.c (.int .i64)))],[(19,.row 118 bW)],[21],[14]⟩ ⟨[(7,.a (.c (.raw (.ak 19))))],[(19,.row 118 bW)],[],[]⟩ (.s .d (.s .d (.s (.b (.s (.r [.n 4,.w (.b4 9 bW)]) (.s .d (.s (.s (.lf [8,9,18,19] [.t 0 0,.t 1 0,.t 2 0,.t 3 0,.t 4 0,.t 5 0,.t 6 0,.t 7 3,.t 8 0,.t 9 1,.t 10 0,.t 11 0,.t 12 0,.t 13 0,.t 14 0,.t 15 0,.t 16 0,.t 17 3,.t 18 0,.t 19 1,.t 20 0,.t 21 0] []) .d) (.s (.o [] [.t 0 0,.t 1 0,.t 2 0,.t 3 0,.t 5 0,.t 6 1,.s 4,.t 7 0,.t 8 0,.t 9 0,.s 10] []) .d))))) .d)))))) (.s (.r [.n 1,.c [(1000000,19)]]) .d)))))) [.tmp 4,.tmp 5] 138 ([],0,0) (fun d=>Db N d.1 d.2.1) Tryz.func138 rfl rfl Tryz.ntmps138 rfl rfl rfl (fun d=>by kernel_rfl)
end

section
set_option linter.unusedSimpArgs false
set_option linter.unusedVariables false
open Go.RowKit
def Dc(N:Nat) (a0:(List bL)):Option ((List bL)):=
  ar (((decide (0<=(a0.length:Int)))&&(decide ((a0.length:Int)<=(a0.length:Int)))&&(eo 56 (a0.length:Int)))&&(true)) <|
  ar ((Nat.beq a0.length (List.replicate (a0.length:Int).toNat (cO.zero:bL)).length)&&(true)) <|
  some a0
noncomputable def acu (N:Nat):bz bS:=b2 N bU (by kernel_rfl) [.c (.bd cO)] [] ⟨.a (.c (.raw (.ak 6))),[(6,.row 112 cO)],[]⟩ [] [] (.d) [.tmp 2] 133 [] (fun d=>Dc N d.1) Tryz.func133 rfl rfl Tryz.ntmps133 rfl rfl rfl (fun d=>by kernel_rfl)
def Im(N:Nat) (a0:(List bL)):Nat->(Int×(List bL))->Option ((List bL)):=ch fun d2 e5=>
  cond (decide (d2.1 < (a0.length:Int))) (ar ((aR d2.1 a0.length)&&(true)) <|
  Option.bind (qt N (a0.getD d2.1.toNat cO.zero).2.2.2.2) fun bG=>
  ar ((aR d2.1 d2.2.length)&&(((decide (d2.1.toNat < d2.2.length))&&(true))&&(true))) <|
  ar ((bl (d2.1+(1:Int)))&&(true)) <|
  e5 ((d2.1+(1:Int)),(d2.2.set d2.1.toNat ((d2.2.getD d2.1.toNat cO.zero).1,((d2.2.getD d2.1.toNat cO.zero).2.1,((d2.2.getD d2.1.toNat cO.zero).2.2.1,((d2.2.getD d2.1.toNat cO.zero).2.2.2.1,bG.1))))))) (some d2.2)
def rV(N:Nat) (a0:(List bL)):Option ((List bL)):=
  Option.bind (Dc N a0) fun aP=>
  Option.bind (Im N a0 N ((0:Int),aP)) fun bM=>
  some bM
noncomputable def Pb (N:Nat):bz bS:=b2 N bU (by kernel_rfl) [.c (.bd cO)] [] ⟨.a (.c (.raw (.ak 7))),[(7,.row 112 cO)],[]⟩ [acu N,HA N] [] (.s .d (.s (.r [.n 1,.c [(6,7)]]) (.s (.s .d (.b (.eb 0 ⟨[(3,.a (.c (.raw (.ak 7)))),(10,.a (.c (.int .i64)))],[(7,.row 112 cO)],[8,9],[]⟩ ⟨[(3,.a (.c (.raw (.ak 7))))],[(7,.row 112 cO)],[],[]⟩ (.s .d (.s .d (.s (.b (.s (.r [.n 6,.w (.b4 5 cO)]) .d)) .d)))))) .d))) [.tmp 2] 115 [] (fun d=>rV N d.1) Tryz.func115 rfl rfl Tryz.ntmps115 rfl rfl rfl (fun d=>by kernel_rfl)
def zy(N:Nat) (a0:(List b9)):Option ((List b9)×Nat):=
  ar (((decide (0<=(a0.length:Int)))&&(decide ((a0.length:Int)<=(a0.length:Int)))&&(eo 40 (a0.length:Int)))&&(true)) <|
  ar ((Nat.beq a0.length (List.replicate (a0.length:Int).toNat (bW.zero:b9)).length)&&(true)) <|
  some (a0,(a0.length:Int).toNat)
noncomputable def Pc (N:Nat):bz bS:=b2 N bU (by kernel_rfl) [.c (.bd bW)] [] ⟨.a (.c (.jn bW)),[],[]⟩ [] [] (.s .d (.s .d (.s .d (.s .d (.t [.dn 6]))))) [.tmp 2] 135 ([],0) (fun d=>zy N d.1) Tryz.func135 rfl rfl Tryz.ntmps135 rfl rfl rfl (fun d=>by kernel_rfl)
def Io(N:Nat) (a0:eC):Option (eC):=
  Option.bind (wg N a0.1) fun aP=>
  Option.bind (zy N a0.2.1) fun aX=>
  Option.bind (nK N a0.2.2.1) fun bG=>
  Option.bind (nK N a0.2.2.2) fun cf=>
  some ((aP.map (·.2)),(aX.1,(bG.1,cf.1)))
noncomputable def acv (N:Nat):bz bS:=b2 N bU (by kernel_rfl) [.c9 fW] [] ⟨.a (.c9 fW),[],[]⟩ [Ok N,Pc N,zd N] [] (.s (.r [.n 2,.w (.b4 1 fW)]) (.s (.o [] [.t 0 0,.t 1 1,.t 3 0,.t 4 1,.t 6 0,.t 7 1,.t 9 0,.t 10 1,.c 2 [(10,5)],.c 5 [],.c 8 [],.c 11 [],.t 12 0,.s 13] []) (.t [.t (.dn 5)]))) [.cell 2 41] 116 fW.zero (fun d=>Io N d.1) Tryz.func116 rfl rfl Tryz.ntmps116 rfl rfl rfl (fun d=>by kernel_rfl)
def wx(N:Nat) (a0:eV):Option (eV):=
  Option.bind (wm N a0.1) fun aP=>
  Option.bind (rV N a0.2.1) fun aX=>
  Option.bind (Io N a0.2.2.1) fun bG=>
  some (aP,(aX,(bG,a0.2.2.2)))
noncomputable def acw (N:Nat):bz bS:=b2 N bU (by kernel_rfl) [.c9 hH] [] ⟨.a (.c9 hH),[],[]⟩ [OK N,Pb N,acv N] [] (.s (.r [.n 2,.w (.b4 1 hH)]) (.s (.o [] [.t 0 0,.t 1 1,.t 3 0,.t 4 1,.t 6 0,.t 7 1,.t 9 0,.t 10 1,.c 2 [(7,5)],.c 5 [(7,8)],.c 8 [],.t 11 0,.s 12] []) (.t [.dn 5,.dn 8]))) [.cell 2 74] 84 hH.zero (fun d=>wx N d.1) Tryz.func84 rfl rfl Tryz.ntmps84 rfl rfl rfl (fun d=>by kernel_rfl)
def acx(N:Nat) (bj:Int) (aX:(List aB)) (db:Int) (cf:(List aB)):Nat->(Int×(List b9))->Option ((List b9)):=ch fun d5 tH=>
  cond (decide (d5.1 < (cf.length:Int))) (ar ((aR d5.1 cf.length)&&(true)) <|
  Option.bind (ow N (aX.getD db.toNat bf.zero) (cf.getD d5.1.toNat bf.zero)) fun gR=>
  cond (decide ((0:Int) < gR)) (ar ((ee 40 (d5.2.length+[((cf.getD d5.1.toNat bf.zero),((aX.getD db.toNat bf.zero),bj))].length))&&(true)) <|
  ar ((bl (d5.1+(1:Int)))&&(true)) <|
  tH ((d5.1+(1:Int)),(d5.2++[((cf.getD d5.1.toNat bf.zero),((aX.getD db.toNat bf.zero),bj))]))) (ar ((ee 40 (d5.2.length+[((aX.getD db.toNat bf.zero),((cf.getD d5.1.toNat bf.zero),bj))].length))&&(true)) <|
  ar ((bl (d5.1+(1:Int)))&&(true)) <|
  tH ((d5.1+(1:Int)),(d5.2++[((aX.getD db.toNat bf.zero),((cf.getD d5.1.toNat bf.zero),bj))])))) (some d5.2)
def acy(N:Nat) (a0:(List bD)) (aq:aN) (bj:Int) (aX:(List aB)):Nat->(Int×(List b9))->Option ((List b9)):=ch fun d3 eD=>
  cond (decide (d3.1 < (aX.length:Int))) (ar ((aR d3.1 aX.length)&&(true)) <|
  ar (((decide (0<=aq.2.2.1))&&(decide (aq.2.2.1<=(a0.length:Int))))&&(true)) <|
  Option.bind (qu N (a0.drop aq.2.2.1.toNat)) fun cf=>
  Option.bind (acx N bj aX d3.1 cf N ((0:Int),d3.2)) fun cx=>
  ar ((bl (d3.1+(1:Int)))&&(true)) <|
  eD ((d3.1+(1:Int)),cx)) (some d3.2)
def Pd(N:Nat) (a0:(List bD)) (aq:aN):Option ((List b9)):=
  Option.bind (cond aq.2.2.2.2 (some (1:Int)) (some (-1:Int))) fun bj=>
  ar (((decide (0<=aq.2.2.1))&&(decide (aq.2.2.1<=(a0.length:Int))))&&(true)) <|
  Option.bind (qu N (a0.take aq.2.2.1.toNat)) fun aX=>
  Option.bind (acy N a0 aq bj aX N ((0:Int),([]:List b9))) fun cd=>
  some cd
noncomputable def acz (N:Nat):bz bS:=b2 N bU (by kernel_rfl) [.c (.bd b3),.c9 bN] [] ⟨.a (.c (.bd bW)),[],[]⟩ [ze N,wv N] [] (.s (.r [.n 2,.w (.b4 3 bN)]) (.s .d (.j ⟨[(5,.a (.c (.int .i64)))],[],[0,3],[]⟩ .d (.s (.r [.n 1,.w (.nil 6 6 118 bW)]) (.s (.s .d (.b (.eb 0 ⟨[(6,.a (.c (.raw (.ak 6)))),(20,.a (.c (.int .i64)))],[(6,.row 118 bW)],[0,3,5,18,19],[]⟩ ⟨[(6,.a (.c (.raw (.ak 6))))],[(6,.row 118 bW)],[],[]⟩ (.s .d (.s .d (.s (.b (.s (.r [.n 4,.w (.b4 8 bf)]) (.s .d (.b (.eb 2 ⟨[(6,.a (.c (.raw (.ak 6)))),(30,.a (.c (.int .i64)))],[(6,.row 118 bW)],[0,3,5,8,18,19,20,28,29],[]⟩ ⟨[(6,.a (.c (.raw (.ak 6))))],[(6,.row 118 bW)],[0,3,5,18,19,20],[]⟩ (.s .d (.s .d (.s (.b (.s (.r [.n 4,.w (.b4 10 bf)]) (.s .d (.s (.s .d (.c (.o [] [.t 0 1,.t 1 1,.t 2 0,.s 3,.t 4 0,.s 5] []) .d)) .d)))) .d)))))))) .d)))))) (.s .d (.t [.dn 6]))))))) [.tmp 4] 136 [] (fun d=>Pd N d.1 d.2.1) Tryz.func136 rfl rfl Tryz.ntmps136 rfl rfl rfl (fun d=>by kernel_rfl)
end

section
set_option linter.unusedSimpArgs false
set_option linter.unusedVariables false
open Go.RowKit
def Dd(N:Nat) (a0:eC):Option ((List b9)×(List aB)×(List aB)×(List (Bool×List aQ))):=
  Option.bind (wg N a0.1) fun aP=>
  Option.bind (zy N a0.2.1) fun aX=>
  Option.bind (nK N a0.2.2.1) fun bG=>
  Option.bind (nK N a0.2.2.2) fun cf=>
  some (aX.1,bG.1,cf.1,aP)
noncomputable def acA (N:Nat):bz bS:=b2 N bU (by kernel_rfl) [.c9 fW] [] ⟨.a (.agg [.raw (.ak 5),.bd bW,.bd bf,.bd bf]),[(5,.bQ 47 51 bT)],[]⟩ [Ok N,Pc N,zd N] [] (.s (.r [.n 2,.w (.b4 1 fW)]) (.s (.o [] [.t 0 0,.t 1 1,.t 3 0,.t 4 1,.t 6 0,.t 7 1,.t 9 0,.t 10 1,.c 2 [(10,5)],.c 5 [],.c 8 [],.c 11 [],.t 12 0,.s 13] []) .d)) [.cell 2 41] 116 ([],[],[],[]) (fun d=>Dd N d.1) Tryz.func116 rfl rfl Tryz.ntmps116 rfl rfl rfl (fun d=>by kernel_rfl)
def Ip(N:Nat) (db:List bD) (cf:Int):Nat->(Int×(List Int))->Option ((List Int)):=ch fun d5 tH=>
  cond (decide (d5.1 < ((List.replicate cf.toNat (0:Int)).length:Int))) (ar ((aR d5.1 db.length)&&((aR d5.1 d5.2.length)&&(((decide (d5.1.toNat < d5.2.length))&&(true))&&(true)))) <|
  ar ((bl (d5.1+(1:Int)))&&(true)) <|
  tH ((d5.1+(1:Int)),(d5.2.set d5.1.toNat ((db.getD d5.1.toNat b3.zero).2.length:Int)))) (some d5.2)
def Iq(N:Nat) (aq:(List aN)):Nat->(List bD)×Int×(List (Bool×List bD))->Option (((List (Bool×List bD)))⊕((List b9)×(List aB)×(List aB)×Int×(List (Bool×List bD))×(List (Bool×List aQ)))):=ch fun d3 eD=>
  cond (decide (d3.2.1 < (aq.length:Int))) (ar ((aR d3.2.1 aq.length)&&(true)) <|
  Option.bind (qs N (aq.getD d3.2.1.toNat bN.zero)) fun cf=>
  ar (((decide (0<=cf))&&(decide (cf<=cf))&&(eo 8 cf))&&(true)) <|
  Option.bind (Ip N d3.1 cf N ((0:Int),(List.replicate cf.toNat (0:Int)))) fun cx=>
  Option.bind (tI N (aq.getD d3.2.1.toNat bN.zero) cx) fun gR=>
  cond (!(decide (gR.2=(0:Int)))) (some (.inr (([]:List b9),([]:List aB),([]:List aB),(9:Int),(([]:List (List bD)).map fun x=>(false,x)),(([]:List (List aQ)).map fun x=>(false,x))))) (ar (((decide (0<=cf))&&(decide (cf<=(d3.1.length:Int))))&&((aR d3.2.1 d3.2.2.length)&&((decide (d3.2.1.toNat < d3.2.2.length))&&(true)))) <|
  ar (((decide (0<=cf))&&(decide (cf<=(d3.1.length:Int))))&&(true)) <|
  ar ((bl (d3.2.1+(1:Int)))&&(true)) <|
  eD ((d3.1.drop cf.toNat),(d3.2.1+(1:Int)),(d3.2.2.set d3.2.1.toNat (false,(d3.1.take cf.toNat)))))) (some (.inl d3.2.2))
def Ir(N:Nat) (aq:(List aN)):Nat->(Int×(List b9)×(List (Bool×List bD)))->Option ((List b9)×(List (Bool×List bD))):=ch fun d7 acB=>
  cond (decide (d7.1 < (aq.length:Int))) (ar ((aR d7.1 aq.length)&&(true)) <|
  Option.bind (cond (decide ((aq.getD d7.1.toNat bN.zero).1=(8:Int))) (ar ((aR d7.1 d7.2.2.length)&&(((decide (d7.1.toNat < d7.2.2.length))&&(!(d7.2.2.getD d7.1.toNat (false,[])).1))&&(true))) <|
  Option.bind (Pd N (d7.2.2.getD d7.1.toNat (false,[])).2 (aq.getD d7.1.toNat bN.zero)) fun j4=>
  ar ((ee 40 (d7.2.1.length+j4.length))&&(true)) <|
  some (d7.2.1++j4)) (some d7.2.1)) fun tO=>
  ar ((aR d7.1 d7.2.2.length)&&(((decide (d7.1.toNat < d7.2.2.length))&&(!(d7.2.2.getD d7.1.toNat (false,[])).1))&&(true))) <|
  Option.bind (CP N (d7.2.2.getD d7.1.toNat (false,[])).2 (aq.getD d7.1.toNat bN.zero)) fun dh=>
  ar ((aR d7.1 d7.2.2.length)&&((decide (d7.1.toNat < d7.2.2.length))&&(true))) <|
  ar ((bl (d7.1+(1:Int)))&&(true)) <|
  acB ((d7.1+(1:Int)),tO,(d7.2.2.set d7.1.toNat (true,dh)))) (some (d7.2.1,d7.2.2))
def zz(N:Nat) (a0:eV) (aq:(List aN)):Option ((List b9)×(List aB)×(List aB)×Int×(List (Bool×List bD))×(List (Bool×List aQ))):=
  Option.bind (tG N aq) fun aP=>
  cond (!(decide (aP=(0:Int)))) (some (([]:List b9),([]:List aB),([]:List aB),aP,(([]:List (List bD)).map fun x=>(false,x)),(([]:List (List aQ)).map fun x=>(false,x)))) (Option.bind (ov N aq) fun aX=>
  cond (!(decide (aX=(a0.1.length:Int)))) (some (([]:List b9),([]:List aB),([]:List aB),(14:Int),(([]:List (List bD)).map fun x=>(false,x)),(([]:List (List aQ)).map fun x=>(false,x)))) (ar (((decide (0<=(aq.length:Int)))&&(decide ((aq.length:Int)<=(aq.length:Int)))&&(eo 24 (aq.length:Int)))&&(true)) <|
  Option.bind (Iq N aq N (a0.1,(0:Int),(List.replicate (aq.length:Int).toNat ((true,[]):Bool×List bD)))) fun(cd:((List (Bool×List bD)))⊕((List b9)×(List aB)×(List aB)×Int×(List (Bool×List bD))×(List (Bool×List aQ))))=>
  sm cd (fun cd=>
  Option.bind (Ir N aq N ((0:Int),([]:List b9),cd)) fun gU=>
  Option.bind (Dd N a0.2.2.1) fun jv=>
  Option.bind (Db N jv.1 gU.1) fun km=>
  cond (!(decide (km.2.2=(0:Int)))) (some (([]:List b9),([]:List aB),([]:List aB),km.2.2,(([]:List (List bD)).map fun x=>(false,x)),(([]:List (List aQ)).map fun x=>(false,x)))) (Option.bind (qv N gU.2) fun gT=>
  Option.bind (qu N gT.1) fun gD=>
  some (km.1,gD,jv.2.2.1,(0:Int),gT.2,jv.2.2.2))) (fun q=>some q)))
noncomputable def acC (N:Nat):bz bS:=b2 N bU (by kernel_rfl) [.c9 hH,.c (.bd bN)] [] ⟨.dj [.c (.raw (.ak 38)),.agg [.raw (.ak 116),.bd bW,.bd bf,.bd bf],.c (.int .i64)],[(38,.bQ 70 121 b3),(116,.bQ 47 51 bT)],[]⟩ [ON N,zq N,Cy N,OO N,acz N,abD N,acA N,acs N,HN N,ze N] [] (.s (.r [.n 4,.w (.b4 2 hH)]) (.s (.s .d (.s .d (.c (.s .d (.t [.nr 5 0 116 47 (.ak bT),.t (.oo 116 51),.nil 4 38 70 (.ak b3),.t (.oo 38 121)])) .d))) (.s (.s (.o [] [.t 0 0,.t 2 0,.t 3 1,.t 4 0,.c 1 [],.t 5 0] []) (.c (.s .d (.t [.nr 5 0 116 47 (.ak bT),.t (.oo 116 51),.nil 4 38 70 (.ak b3),.t (.oo 38 121)])) .d)) (.s (.r [.n 2,.t .mk]) (.s .d (.s (.s .d (.b (.fh 0 ⟨[(5,.a (.c (.raw (.ptr 5 0)))),(8,.a (.c (.raw (.ak 38)))),(9,.a (.c (.bd b3))),(43,.a (.c (.int .i64)))],[(5,.cells 41 [.raw (.val (.slice none 0 0)),.raw (.val (.slice none 0 0)),.raw (.val (.slice none 0 0)),.raw (.val (.slice none 0 0))]),(38,.bQ 70 121 b3)],[1,2,41,42],[]⟩ ⟨[(5,.a (.c (.raw (.ptr 5 0)))),(8,.a (.c (.raw (.ak 38))))],[(5,.cells 41 [.raw (.val (.slice none 0 0)),.raw (.val (.slice none 0 0)),.raw (.val (.slice none 0 0)),.raw (.val (.slice none 0 0))]),(38,.bQ 70 121 b3)],[1,2],[]⟩ (.s .d (.s .d (.s (.b (.s (.r [.n 6,.w (.b4 11 bN)]) (.s .d (.s .d (.s (.s .d (.b (.eb 2 ⟨[(5,.a (.c (.raw (.ptr 5 0)))),(8,.a (.c (.raw (.ak 38)))),(13,.a (.c (.raw (.ak 51)))),(54,.a (.c (.int .i64)))],[(51,.row 3 (.int .i64))],[1,2,9,10,11,12,41,42,43,53],[5,38]⟩ ⟨[(5,.a (.c (.raw (.ptr 5 0)))),(8,.a (.c (.raw (.ak 38)))),(13,.a (.c (.raw (.ak 51))))],[(51,.row 3 (.int .i64))],[1,2,9,10,11,12,41,42,43],[5,38]⟩ .d))) (.s (.s (.r [.n 2,.w (.dn 51)]) (.s .d (.c (.s .d (.t [.nr 5 0 116 47 (.ak bT),.t (.oo 116 51),.nil 4 38 70 (.ak b3),.t (.oo 38 121)])) .d))) (.s (.r [.n 6,.t .st]) .d))))))) .d)))))) (.s (.r [.n 1,.w (.nil 17 17 118 bW)]) (.s (.s .d (.b (.eb 4 ⟨[(5,.a (.c (.raw (.ptr 5 0)))),(8,.a (.c (.raw (.ak 38)))),(17,.a (.c (.raw (.ak 17)))),(88,.a (.c (.int .i64)))],[(5,.cells 41 [.raw (.val (.slice none 0 0)),.raw (.val (.slice none 0 0)),.raw (.val (.slice none 0 0)),.raw (.val (.slice none 0 0))]),(17,.row 118 bW),(38,.bQ 70 121 b3)],[2,86,87],[]⟩ ⟨[(5,.a (.c (.raw (.ptr 5 0)))),(8,.a (.c (.raw (.ak 38)))),(17,.a (.c (.raw (.ak 17))))],[(5,.cells 41 [.raw (.val (.slice none 0 0)),.raw (.val (.slice none 0 0)),.raw (.val (.slice none 0 0)),.raw (.val (.slice none 0 0))]),(17,.row 118 bW),(38,.bQ 70 121 b3)],[2],[]⟩ (.s .d (.s .d (.s (.b (.s (.r [.n 6,.w (.b4 19 bN)]) (.j ⟨[(5,.a (.c (.raw (.ptr 5 0)))),(8,.a (.c (.raw (.ak 38)))),(17,.a (.c (.raw (.ak 17))))],[(17,.row 118 bW)],[2,18,19,86,87,88],[5,38]⟩ (.s .d (.c (.o [] [.t 0 0,.t 1 0,.t 2 0,.t 3 0,.t 5 1,.u 4 .Gp,.c 6 [],.s 7,.t 8 0] []) .d)) (.o [] [.t 0 0,.t 1 0,.t 2 0,.t 3 0,.t 4 0,.t 6 1,.u 5 .Gp,.c 7 [(16,111)],.t 8 0,.u 9 .st] [(.t (.close 38 111))])))) .d)))))) (.s (.r [.n 2,.c [(5,116)]]) (.s (.r [.n 3,.w (.dn 17)]) (.s (.s .d (.c (.s .d (.t [.nr 5 0 116 47 (.ak bT),.t (.oo 116 51),.nil 4 38 70 (.ak b3),.t (.oo 38 121)])) .d)) (.s .d (.s (.r [.n 1,.c [(2000000,38)]]) (.s (.o [2] [.t 0 0,.t 1 3,.t 2 0,.s 3,.t 4 0] []) .d)))))))))))))) [.tmp 4,.cell 5 41,.tmp 6] 117 ([],[],[],0,[],[]) (fun d=>zz N d.1 d.2.1) Tryz.func117 rfl rfl Tryz.ntmps117 rfl rfl rfl (fun d=>by kernel_rfl)
end

section
set_option linter.unusedSimpArgs false
set_option linter.unusedVariables false
open Go.RowKit
def Is(N:Nat) (a0:aN) (aq:Int):Option (Bool):=
  some (decide (a0.2.1=aq))
noncomputable def acD (N:Nat):bz bS:=b2 N bU (by kernel_rfl) [.c9 bN,.c (.fK (.int .u8) 0)] [] ⟨.a (.c .bool),[],[]⟩ [] [] (.s (.r [.n 2,.w (.b4 2 bN)]) .d) [.tmp 3] 140 false (fun d=>Is N d.1 d.2.1) Tryz.func140 rfl rfl Tryz.ntmps140 rfl rfl rfl (fun d=>by kernel_rfl)
def It(N:Nat) (a0:(List aN)) (aq:Int):Nat->Int->Option ((Unit)⊕(Int)):=ch fun d1 cz=>
  cond (decide (d1 < (a0.length:Int))) (ar ((aR d1 a0.length)&&(true)) <|
  Option.bind (Is N (a0.getD d1.toNat bN.zero) aq) fun aX=>
  cond aX (some (.inr d1)) (ar ((bl (d1+(1:Int)))&&(true)) <|
  cz (d1+(1:Int)))) (some (.inl ()))
def Iu(N:Nat) (a0:(List aN)) (aq:Int):Option (Int):=
  Option.bind (It N a0 aq N (0:Int)) fun(bj:(Unit)⊕(Int))=>
  sm bj (fun bj=>
  some (-1:Int)) (fun q=>some q)
noncomputable def acE (N:Nat):bz bS:=b2 N bU (by kernel_rfl) [.c (.bd bN),.c (.fn 140 [.cL (.int .u8)])] [] ⟨.a (.c (.int .i64)),[],[]⟩ [acD N] [] (.s .d (.s (.s .d (.b (.fh 0 ⟨[(8,.a (.c (.int .i64)))],[],[0,1,7],[]⟩ ⟨[],[],[],[]⟩ .d))) .d)) [.tmp 4] 162 0 (fun d=>Iu N d.1 d.2.1) Tryz.func162 rfl rfl Tryz.ntmps162 rfl rfl rfl (fun d=>by kernel_rfl)
def zA(N:Nat) (a0:(List aN)) (aq:Int):Option (Bool):=
  Option.bind (Iu N a0 aq) fun aP=>
  some (decide ((0:Int)<=aP))
noncomputable def acF (N:Nat):bz bS:=b2 N bU (by kernel_rfl) [.c (.bd bN),.c (.fn 140 [.cL (.int .u8)])] [] ⟨.a (.c .bool),[],[]⟩ [acE N] [] (.d) [.tmp 4] 141 false (fun d=>zA N d.1 d.2.1) Tryz.func141 rfl rfl Tryz.ntmps141 rfl rfl rfl (fun d=>by kernel_rfl)
def tP(N:Nat) (b:Bool) (a0:(List aN)):Nat->Int->Option ((List (Int×Unit))):=ch fun d1 cz=>
  cond (decide (d1<=(6:Int))) (Option.bind (zA N a0 d1) fun aX=>
  cond aX (we b (d1,()) (cond (cond true (!false) false) (some []) (cz (IntKind.wrap .u8 (d1+(1:Int)))))
  (cond (cond true (!true) false) (some []) (cz (IntKind.wrap .u8 (d1+(1:Int))))))
  (cond (cond false (!false) false) (some []) (cz (IntKind.wrap .u8 (d1+(1:Int)))))) (some [])
def tQ(N:Nat) (b:Bool) (a0:(List aN)):Option (List (Int×Unit)):=
  tP N b a0 N (1:Int)
noncomputable def acG (N:Nat):ju bS:=Hz N bU (by kernel_rfl) [.cL (.ak bN)] [] [.c (.int .u8)] [acF N] [] (.s .d (.b (.l ⟨[(3,.a (.c (.raw (.ptr 3 0))))],[(3,.cells 5 [.int .u8])],[0,1],[]⟩ (.s .d (.s (.b (.s .d (.s (.r [.n 2,.w (.b4 3 (.int .u8)),.n 2,.BU 13,.n 2,.tf]) .d))) .d))))) 139 (fun b d=>tQ N b d.1) Tryz.func139 rfl rfl Tryz.ntmps139 (fun _=>rfl) rfl rfl (fun id d=>by kernel_rfl)
def wy(N:Nat) (a0:(List aN)):Option ((List aN)):=
  some a0
noncomputable def acH (N:Nat):bz bS:=b2 N bU (by kernel_rfl) [.c (.bd bN)] [] ⟨.a (.c (.fn 139 [.cL (.ak bN)])),[],[]⟩ [] [] (.s (.r [.n 2,.w (.b4 1 (.ak bN))]) .d) [.tmp 2] 118 [] (fun d=>wy N d.1) Tryz.func118 rfl rfl Tryz.ntmps118 rfl rfl rfl (fun d=>by kernel_rfl)
end

section
set_option linter.unusedSimpArgs false
set_option linter.unusedVariables false
open Go.RowKit
def qC(N:Nat) (a0:eV) (aq:(List aN)):Option (eV×Int):=
  Option.bind (zz N a0 aq) fun aP=>
  cond (!(decide (aP.2.2.2.1=(0:Int)))) (some ((([]:List bD),(([]:List bL),((([]:List (List aQ)),(([]:List b9),(([]:List aB),([]:List aB)))),(0:Int)))),aP.2.2.2.1)) (Option.bind (rV N a0.2.1) fun aX=>
  Option.bind (wy N aq) fun bG=>
  Option.bind (tQ N true bG) fun tR=>l2 (fun(qD:Int×Unit) (fs:(List (Bool×List bD))×(List bL)×(List aN)×Int×(List (Bool×List aQ))×(List b9)×(List aB)×(List aB)) (mm:(List (Bool×List bD))×(List bL)×(List aN)×Int×(List (Bool×List aQ))×(List b9)×(List aB)×(List aB)->Option (eV×Int))=>
  Option.bind (rT N qD.1 fs.2.2.1 fs.2.2.2.1 fs.1 fs.2.2.2.2.1 fs.2.1) fun cw=>
  cond (!(decide (cw.1=(0:Int)))) (some ((([]:List bD),(([]:List bL),((([]:List (List aQ)),(([]:List b9),(([]:List aB),([]:List aB)))),(0:Int)))),cw.1)) (mm (cw.2.2.2.1,cw.2.2.2.2.2,cw.2.1,cw.2.2.1,cw.2.2.2.2.1,fs.2.2.2.2.2.1,fs.2.2.2.2.2.2.1,fs.2.2.2.2.2.2.2))) tR (aP.2.2.2.2.1,aX,aq,a0.2.2.2,aP.2.2.2.2.2,aP.1,aP.2.1,aP.2.2.1) fun cE=>
  Option.bind (qv N cE.1) fun gR=>
  Option.bind (rS N cE.2.2.2.2.2.1 cE.2.2.2.2.2.2.1 cE.2.2.2.2.2.2.2 gR.1 cE.2.2.1 cE.2.2.2.1 cE.2.2.2.2.1 cE.2.1) fun gb=>
  some (gb,(0:Int)))
noncomputable def De (N:Nat) (a0:eV) (aq:(List aN)):Option (eV×Int):=
  Option.bind (zz N a0 aq) fun aP=>
  cond (!(decide (aP.2.2.2.1=(0:Int)))) (some ((([]:List bD),(([]:List bL),((([]:List (List aQ)),(([]:List b9),(([]:List aB),([]:List aB)))),(0:Int)))),aP.2.2.2.1)) (jc (Option.bind (rV N a0.2.1) fun aX=>
  jc (Option.bind (wy N aq) fun bG=>
  Option.bind (tQ N true bG) fun tR=>l2 (fun(qD:Int×Unit) (fs:(List (Bool×List bD))×(List bL)×(List aN)×Int×(List (Bool×List aQ))×(List b9)×(List aB)×(List aB)) (mm:(List (Bool×List bD))×(List bL)×(List aN)×Int×(List (Bool×List aQ))×(List b9)×(List aB)×(List aB)->Option (eV×Int))=>
  Option.bind (rT N qD.1 fs.2.2.1 fs.2.2.2.1 fs.1 fs.2.2.2.2.1 fs.2.1) fun cw=>
  cond (!(decide (cw.1=(0:Int)))) (some ((([]:List bD),(([]:List bL),((([]:List (List aQ)),(([]:List b9),(([]:List aB),([]:List aB)))),(0:Int)))),cw.1)) (mm (cw.2.2.2.1,cw.2.2.2.2.2,cw.2.1,cw.2.2.1,cw.2.2.2.2.1,fs.2.2.2.2.2.1,fs.2.2.2.2.2.2.1,fs.2.2.2.2.2.2.2))) tR (aP.2.2.2.2.1,aX,aq,a0.2.2.2,aP.2.2.2.2.2,aP.1,aP.2.1,aP.2.2.1) fun cE=>
  Option.bind (qv N cE.1) fun gR=>
  Option.bind (rS N cE.2.2.2.2.2.1 cE.2.2.2.2.2.2.1 cE.2.2.2.2.2.2.2 gR.1 cE.2.2.1 cE.2.2.2.1 cE.2.2.2.2.1 cE.2.1) fun gb=>
  some (gb,(0:Int))) (Option.bind (wy N aq) fun bG=>
  Option.bind (tQ N true bG) fun tR=>l2 (fun(qD:Int×Unit) (fs:(List (Bool×List bD))×(List bL)×(List aN)×Int×(List (Bool×List aQ))×(List b9)×(List aB)×(List aB)) (mm:(List (Bool×List bD))×(List bL)×(List aN)×Int×(List (Bool×List aQ))×(List b9)×(List aB)×(List aB)->Option (eV×Int))=>
  Option.bind (rT N qD.1 fs.2.2.1 fs.2.2.2.1 fs.1 fs.2.2.2.2.1 fs.2.1) fun cw=>
  cond (!(decide (cw.1=(0:Int)))) (some ((([]:List bD),(([]:List bL),((([]:List (List aQ)),(([]:List b9),(([]:List aB),([]:List aB)))),(0:Int)))),cw.1)) (mm (cw.2.2.2.1,cw.2.2.2.2.2,cw.2.1,cw.2.2.1,cw.2.2.2.2.1,fs.2.2.2.2.2.1,fs.2.2.2.2.2.2.1,fs.2.2.2.2.2.2.2))) tR (aP.2.2.2.2.1,aX,aq,a0.2.2.2,aP.2.2.2.2.2,aP.1,aP.2.1,aP.2.2.1) fun cE=>
  Option.bind (qv N cE.1) fun gR=>
  Option.bind (rS N cE.2.2.2.2.2.1 cE.2.2.2.2.2.2.1 cE.2.2.2.2.2.2.2 gR.1 cE.2.2.1 cE.2.2.2.1 cE.2.2.2.2.1 cE.2.1) fun gb=>
  some (gb,(0:Int)))) (Option.bind (rV N a0.2.1) fun aX=>
  Option.bind (wy N aq) fun bG=>
  Option.bind (tQ N true bG) fun tR=>l2 (fun(qD:Int×Unit) (fs:(List (Bool×List bD))×(List bL)×(List aN)×Int×(List (Bool×List aQ))×(List b9)×(List aB)×(List aB)) (mm:(List (Bool×List bD))×(List bL)×(List aN)×Int×(List (Bool×List aQ))×(List b9)×(List aB)×(List aB)->Option (eV×Int))=>
  Option.bind (rT N qD.1 fs.2.2.1 fs.2.2.2.1 fs.1 fs.2.2.2.2.1 fs.2.1) fun cw=>
  cond (!(decide (cw.1=(0:Int)))) (some ((([]:List bD),(([]:List bL),((([]:List (List aQ)),(([]:List b9),(([]:List aB),([]:List aB)))),(0:Int)))),cw.1)) (mm (cw.2.2.2.1,cw.2.2.2.2.2,cw.2.1,cw.2.2.1,cw.2.2.2.2.1,fs.2.2.2.2.2.1,fs.2.2.2.2.2.2.1,fs.2.2.2.2.2.2.2))) tR (aP.2.2.2.2.1,aX,aq,a0.2.2.2,aP.2.2.2.2.2,aP.1,aP.2.1,aP.2.2.1) fun cE=>
  Option.bind (qv N cE.1) fun gR=>
  Option.bind (rS N cE.2.2.2.2.2.1 cE.2.2.2.2.2.2.1 cE.2.2.2.2.2.2.2 gR.1 cE.2.2.1 cE.2.2.2.1 cE.2.2.2.2.1 cE.2.1) fun gb=>
  some (gb,(0:Int))))
theorem acI:De=qC:=by
 unfold De qC
 first | rfl | (simp only[mW]; done) | (funext; simp (disch:=(simp only[nG,fc,nF]; first | done | first | rfl | (refine gl (fun h=>?_) (fun h=>?_); (focus (rw[h]; first | done | (simp only[fc]; first | done | first | rfl | (refine gl (fun h=>?_) (fun h=>?_); (focus (rw[h]; first | done | (simp only[fc]; first | done | first | rfl | (refine gl (fun h=>?_) (fun h=>?_); (focus (rw[h]; first | done | (simp only[fc]; first | done | rfl))); (focus (rw[h]; first | done | simp only[gi,gj])))))); (focus (rw[h]; first | done | simp only[gi,gj])))))); (focus (rw[h]; first | done | simp only[gi,gj]))))) only[nH])
noncomputable def acJ (N:Nat):bz bS:=v7 N bU (by kernel_rfl) [.c9 hH,.c (.bd bN)] [] ⟨.dj [.c9 hH,.c (.int .i64)],[],[]⟩ [acC N,Pb N,acH N,abx N,HN N,OD N] [acG N] (.s (.r [.n 3,.w (.b4 2 hH)]) (.s (.r [.n 2,.c [(38,15),(116,48)]]) (.s .d (.s (.iF [] [4,7,8,10,11,1000012] (.b [.t 0 0,.t 1 0,.t 2 0,.t 3 1,.t 5 0,.t 6 3,.t 7 0,.t 8 1] 4 11 [(7,27)] [] (.b [.t 9 0] 10 11 [] [] (.f [.k 11,.s 12]) (.f [.k 10,.s 12])) (.f [.c 4 [(7,27)],.t 9 0,.k 10,.s 12])) [] false) (.s (.s .d (.b (.pd [(4,56),(5,57),(7,59),(9,61)] ⟨[],[(15,.bQ 70 121 b3),(27,.row 112 cO),(33,.cells 160 [.bd bN,.raw (.ak 15),.raw (.ak 27),.raw (.ak 48),.int .u8]),(48,.bQ 47 51 bT),(59,.cells 41 [.raw (.ak 48),.bd bW,.bd bf,.bd bf]),(61,.cells 157 [.raw (.ptr 33 0)])],[],[56,57]⟩ (.b (.s (.r [.n 2,.c [(1000000,33),(2000000,15),(2000002,48),(2000001,27)]]) .d))))) (.s (.o [1,2,3,4,5,6,1000007,1000008,1000009] [.t 0 3,.t 1 3,.t 2 3,.t 3 0,.t 4 0,.t 5 3,.c 6 [(2000000,15)],.c 7 [(1000000,33),(2000000,15),(2000002,48),(2000001,27)],.s 8,.s 9] []) .d)))))) [.cell 4 74,.cell 5 31] 85 (hH.zero,0) (fun d=>De N d.1 d.2.1) (fun d=>qC N d.1 d.2.1) (fun d=>(by rw[acI]:De N d.1 d.2.1=qC N d.1 d.2.1)) Tryz.func85 rfl rfl Tryz.ntmps85 rfl rfl rfl (fun d=>by kernel_rfl)
end

section
set_option linter.unusedSimpArgs false
set_option linter.unusedVariables false
open Go.RowKit
def qE(N:Nat) (a0:(List (List aQ))) (aq:aB):Option (Bool):=
  ar ((fr (decide ((1:Int)<=aq.1)) (bl aq.1))&&((fr (cond (cond (decide ((1:Int)<=aq.1)) (decide (aq.1<=(a0.length:Int))) false) (decide ((0:Int)<=aq.2)) false) (aR (IntKind.wrap .u8 (aq.1 - (1:Int))) a0.length))&&(true))) <|
  some (cond (cond (cond (decide ((1:Int)<=aq.1)) (decide (aq.1<=(a0.length:Int))) false) (decide ((0:Int)<=aq.2)) false) (decide (aq.2 < ((a0.getD (IntKind.wrap .u8 (aq.1 - (1:Int))).toNat []).length:Int))) false)
noncomputable def Pe (N:Nat):bz bS:=b2 N bU (by kernel_rfl) [.c (.bd (.ak bT)),.c9 bf] [] ⟨.a (.c .bool),[],[]⟩ [] [] (.s (.r [.n 2,.w (.b4 3 bf)]) (.s (.o [] [.t 0 0,.t 1 1,.t 2 0,.t 3 0,.t 4 0,.t 5 1,.t 6 0,.t 7 0,.t 8 0,.t 9 0,.t 10 0,.t 11 0,.t 12 0,.t 13 1,.t 14 0,.t 15 0,.t 16 0,.t 17 0,.t 18 1,.t 19 0,.t 20 0,.t 21 1,.t 22 0,.t 23 0,.t 24 1,.t 25 0,.t 26 0,.t 27 0,.t 28 0] []) .d)) [.tmp 4] 96 false (fun d=>qE N d.1 d.2.1) Tryz.func96 rfl rfl Tryz.ntmps96 rfl rfl rfl (fun d=>by kernel_rfl)
def zB(N:Nat) (a0:(List (List aQ))) (aq:aQ):Nat->Int->Option ((Unit)⊕(Bool)):=ch fun d1 cz=>
  cond (decide (d1 < (aq.2.2.1.length:Int))) (ar ((aR d1 aq.2.2.1.length)&&(true)) <|
  Option.bind (qE N a0 (aq.2.2.1.getD d1.toNat bf.zero)) fun aX=>
  cond (!aX) (some (.inr false)) (ar ((bl (d1+(1:Int)))&&(true)) <|
  cz (d1+(1:Int)))) (some (.inl ()))
def zC(N:Nat) (a0:(List (List aQ))) (aq:aQ):Nat->Int->Option ((Unit)⊕(Bool)):=ch fun d3 eD=>
  cond (decide (d3 < (aq.2.2.2.length:Int))) (ar ((aR d3 aq.2.2.2.length)&&(true)) <|
  Option.bind (qE N a0 (aq.2.2.2.getD d3.toNat ds.zero).1) fun cf=>
  cond (cond (!cf) true (cond (!(decide ((aq.2.2.2.getD d3.toNat ds.zero).2.2=(0:Int)))) (!(decide ((aq.2.2.2.getD d3.toNat ds.zero).2.2=(1:Int)))) false)) (some (.inr false)) (ar ((bl (d3+(1:Int)))&&(true)) <|
  eD (d3+(1:Int)))) (some (.inl ()))
def wz(N:Nat) (a0:(List (List aQ))) (aq:aQ):Option (Bool):=
  cond (cond (!(decide (aq.1=(0:Int)))) (!(decide (aq.1=(1:Int)))) false) (some false) (cond (cond (decide ((4:Int) < (aq.2.2.1.length:Int))) true (decide ((4096:Int) < (aq.2.2.2.length:Int)))) (some false) (Option.bind (zB N a0 aq N (0:Int)) fun(bj:(Unit)⊕(Bool))=>
  sm bj (fun bj=>
  Option.bind (zC N a0 aq N (0:Int)) fun(cd:(Unit)⊕(Bool))=>
  sm cd (fun cd=>
  Option.bind (zk N aq.2.2.2) fun cw=>
  some (decide ((cw.1.length:Int)=(aq.2.2.2.length:Int)))) (fun q=>some q)) (fun q=>some q)))
noncomputable def acK (N:Nat):bz bS:=b2 N bU (by kernel_rfl) [.c (.bd (.ak bT)),.c9 bT] [] ⟨.a (.c .bool),[],[]⟩ [Pe N,abf N] [] (.s (.r [.n 2,.w (.b4 3 bT)]) (.s .d (.s .d (.s (.s .d (.b (.fh 0 ⟨[(30,.a (.c (.int .i64)))],[],[0,3,28,29],[]⟩ ⟨[],[],[0,3],[]⟩ (.s .d (.s .d (.s (.b (.s (.r [.n 4,.w (.b4 6 bf)]) .d)) .d)))))) (.s (.s .d (.b (.fh 2 ⟨[(42,.a (.c (.int .i64)))],[],[0,3,40,41],[]⟩ ⟨[],[],[3],[]⟩ (.s .d (.s .d (.s (.b (.s (.r [.n 4,.w (.b4 8 ds)]) .d)) .d)))))) (.s (.o [] [.t 0 0,.t 1 1,.t 4 0,.t 5 1,.t 6 0,.c 2 [],.t 3 0,.t 7 0,.t 8 0] []) .d)))))) [.tmp 4] 127 false (fun d=>wz N d.1 d.2.1) Tryz.func127 rfl rfl Tryz.ntmps127 rfl rfl rfl (fun d=>by kernel_rfl)
def zD(N:Nat) (a0:(List (List aQ))) (cX:Int):Nat->Int->Option ((Unit)⊕((Unit)⊕(Int))):=ch fun d2 e5=>
  cond (decide (d2 < ((a0.getD cX.toNat []).length:Int))) (ar ((aR d2 (a0.getD cX.toNat []).length)&&(true)) <|
  Option.bind (wz N a0 ((a0.getD cX.toNat []).getD d2.toNat bT.zero)) fun bG=>
  cond (cond (!bG) true (cond (decide (d2=(0:Int))) (!((a0.getD cX.toNat []).getD d2.toNat bT.zero).2.1) false)) (some (.inr (.inr (1:Int)))) (ar ((bl (d2+(1:Int)))&&(true)) <|
  e5 (d2+(1:Int)))) (some (.inl ()))
def zE(N:Nat) (a0:(List (List aQ))):Nat->Int->Option ((Unit)⊕(Int)):=ch fun d1 cz=>
  cond (decide (d1 < (a0.length:Int))) (ar ((aR d1 a0.length)&&(true)) <|
  Option.bind (zD N a0 d1 N (0:Int)) fun(bM:(Unit)⊕((Unit)⊕(Int)))=>
  sm bM (fun bM=>
  ar ((bl (d1+(1:Int)))&&(true)) <|
  cz (d1+(1:Int))) (fun q=>some q)) (some (.inl ()))
def wA(N:Nat) (a0:(List (List aQ))):Option (Int):=
  Option.bind (zE N a0 N (0:Int)) fun(bj:(Unit)⊕(Int))=>
  sm bj (fun bj=>
  some (0:Int)) (fun q=>some q)
noncomputable def acL (N:Nat):bz bS:=b2 N bU (by kernel_rfl) [.c (.bd (.ak bT))] [] ⟨.a (.c (.int .i64)),[],[]⟩ [acK N] [] (.s .d (.s (.s .d (.b (.fh 0 ⟨[(9,.a (.c (.int .i64)))],[],[0,7,8],[]⟩ ⟨[],[],[],[]⟩ (.s .d (.s .d (.s (.b (.s .d (.s .d (.b (.fh 2 ⟨[(15,.a (.c (.int .i64)))],[],[0,7,8,9,13,14],[]⟩ ⟨[],[],[0,7,8,9],[]⟩ (.s .d (.s .d (.s (.b (.s (.r [.n 6,.w (.b4 6 bT)]) .d)) .d)))))))) .d)))))) .d)) [.tmp 2] 98 0 (fun d=>wA N d.1) Tryz.func98 rfl rfl Tryz.ntmps98 rfl rfl rfl (fun d=>by kernel_rfl)
def tS(N:Nat) (a0:aQ) (aq:Int):Option (aB):=
  cond (decide (aq < (a0.2.2.1.length:Int))) (ar ((aR aq a0.2.2.1.length)&&(true)) <|
  some (a0.2.2.1.getD aq.toNat bf.zero)) (ar ((bl (aq - (a0.2.2.1.length:Int)))&&((aR (aq - (a0.2.2.1.length:Int)) a0.2.2.2.length)&&(true))) <|
  some (a0.2.2.2.getD (aq - (a0.2.2.1.length:Int)).toNat ds.zero).1)
noncomputable def acM (N:Nat):bz bS:=b2 N bU (by kernel_rfl) [.c9 bT,.c (.int .i64)] [] ⟨.a (.c9 bf),[],[]⟩ [] [] (.s (.r [.n 2,.w (.b4 2 bT)]) .d) [.cell 4 30] 128 bf.zero (fun d=>tS N d.1 d.2.1) Tryz.func128 rfl rfl Tryz.ntmps128 rfl rfl rfl (fun d=>by kernel_rfl)
def tT(N:Nat) (a0:(List aB)):Option ((List aB)×Nat):=
  ar (((decide (0<=(a0.length:Int)))&&(decide ((a0.length:Int)<=(a0.length:Int)))&&(eo 16 (a0.length:Int)))&&(true)) <|
  ar ((Nat.beq a0.length (List.replicate (a0.length:Int).toNat (bf.zero:aB)).length)&&(true)) <|
  some (a0,(a0.length:Int).toNat)
noncomputable def Pf (N:Nat):bz bS:=b2 N bU (by kernel_rfl) [.c (.bd bf)] [] ⟨.a (.c (.jn bf)),[],[]⟩ [] [] (.s .d (.s .d (.s .d (.s .d (.t [.dn 6]))))) [.tmp 2] 101 ([],0) (fun d=>tT N d.1) Tryz.func101 rfl rfl Tryz.ntmps101 rfl rfl rfl (fun d=>by kernel_rfl)
def zF(N:Nat) (a0:(List (List aQ))) (cX:Int) (gp:Int):Nat->(Int×(List (aB×Int)))->Option (((List (aB×Int)))⊕(((List (aB×Int)))⊕((Unit)⊕(Int)))):=ch fun d3 eD=>
  cond (decide (d3.1 < (((a0.getD cX.toNat []).getD gp.toNat bT.zero).2.2.1.length:Int))) (ar ((aR d3.1 ((a0.getD cX.toNat []).getD gp.toNat bT.zero).2.2.1.length)&&(true)) <|
  ar ((true&&((bl (((hF bf (.int .i64) d3.2 (((a0.getD cX.toNat []).getD gp.toNat bT.zero).2.2.1.getD d3.1.toNat bf.zero)).getD 0)+(1:Int)))&&true))&&(true)) <|
  cond (decide ((1:Int) < ((hF bf (.int .i64) (ib bf (.int .i64) d3.2 (((a0.getD cX.toNat []).getD gp.toNat bT.zero).2.2.1.getD d3.1.toNat bf.zero) (((hF bf (.int .i64) d3.2 (((a0.getD cX.toNat []).getD gp.toNat bT.zero).2.2.1.getD d3.1.toNat bf.zero)).getD 0)+(1:Int))) (((a0.getD cX.toNat []).getD gp.toNat bT.zero).2.2.1.getD d3.1.toNat bf.zero)).getD 0))) (some (.inr (.inr (.inr (8:Int))))) (ar ((bl (d3.1+(1:Int)))&&(true)) <|
  eD ((d3.1+(1:Int)),(ib bf (.int .i64) d3.2 (((a0.getD cX.toNat []).getD gp.toNat bT.zero).2.2.1.getD d3.1.toNat bf.zero) (((hF bf (.int .i64) d3.2 (((a0.getD cX.toNat []).getD gp.toNat bT.zero).2.2.1.getD d3.1.toNat bf.zero)).getD 0)+(1:Int)))))) (some (.inl d3.2))
def zG(N:Nat) (a0:(List (List aQ))) (cX:Int):Nat->(Int×(List (aB×Int)))->Option (((List (aB×Int)))⊕((Unit)⊕(Int))):=ch fun d2 e5=>
  cond (decide (d2.1 < ((a0.getD cX.toNat []).length:Int))) (ar ((aR d2.1 (a0.getD cX.toNat []).length)&&(true)) <|
  Option.bind (zF N a0 cX d2.1 N ((0:Int),d2.2)) fun(cd:((List (aB×Int)))⊕(((List (aB×Int)))⊕((Unit)⊕(Int))))=>
  sm cd (fun cd=>
  ar ((bl (d2.1+(1:Int)))&&(true)) <|
  e5 ((d2.1+(1:Int)),cd)) (fun q=>some q)) (some (.inl d2.2))
def zH(N:Nat) (a0:(List (List aQ))):Nat->(Int×(List (aB×Int)))->Option ((Unit)⊕(Int)):=ch fun d1 cz=>
  cond (decide (d1.1 < (a0.length:Int))) (ar ((aR d1.1 a0.length)&&(true)) <|
  Option.bind (zG N a0 d1.1 N ((0:Int),d1.2)) fun(bM:((List (aB×Int)))⊕((Unit)⊕(Int)))=>
  sm bM (fun bM=>
  ar ((bl (d1.1+(1:Int)))&&(true)) <|
  cz ((d1.1+(1:Int)),bM)) (fun q=>some q)) (some (.inl ()))
def wB(N:Nat) (a0:(List (List aQ))):Option (Int):=
  Option.bind (zH N a0 N ((0:Int),([]:List (aB×Int)))) fun(bj:(Unit)⊕(Int))=>
  sm bj (fun bj=>
  some (0:Int)) (fun q=>some q)
noncomputable def acN (N:Nat):bz bS:=b2 N bU (by kernel_rfl) [.c (.bd (.ak bT))] [] ⟨.a (.c (.int .i64)),[],[]⟩ [] [] (.s .d (.s (.r [.t (.Gq bf (.int .i64))]) (.s (.s .d (.b (.fh 0 ⟨[(3,.a (.c (.raw (.eP 10)))),(13,.a (.c (.int .i64)))],[(10,.mp bf (.int .i64))],[11,12],[]⟩ ⟨[],[],[],[]⟩ (.s .d (.s .d (.s (.b (.s .d (.s .d (.b (.fh 2 ⟨[(3,.a (.c (.raw (.eP 10)))),(19,.a (.c (.int .i64)))],[(10,.mp bf (.int .i64))],[11,12,13,17,18],[]⟩ ⟨[(3,.a (.c (.raw (.eP 10))))],[(10,.mp bf (.int .i64))],[11,12,13],[]⟩ (.s .d (.s .d (.s (.b (.s (.r [.n 4,.w (.b4 7 bT)]) (.s .d (.b (.fh 4 ⟨[(3,.a (.c (.raw (.eP 10)))),(26,.a (.c (.int .i64)))],[(10,.mp bf (.int .i64))],[11,12,13,17,18,19,24,25],[]⟩ ⟨[(3,.a (.c (.raw (.eP 10))))],[(10,.mp bf (.int .i64))],[11,12,13,17,18,19],[]⟩ (.s .d (.s .d (.s (.b (.s (.r [.n 4,.w (.b4 9 bf)]) (.s (.o [] [.t 0 0,.t 1 1,.w 2 3 4] []) (.s (.r [.n 2,.t .Gr]) .d)))) .d)))))))) .d)))))))) .d)))))) .d))) [.tmp 2] 99 0 (fun d=>wB N d.1) Tryz.func99 rfl rfl Tryz.ntmps99 rfl rfl rfl (fun d=>by kernel_rfl)
def tU(N:Nat) (a0:(List (List aQ))) (dT:List Int) (db:Int) (eD:(Int×(List Int))->Option ((List aB)×(List Int)×(List Int))):Nat->(List Int)->Option (((List Int))⊕((List aB)×(List Int)×(List Int))):=ch fun d4 l4=>
  ar ((aR db d4.length)&&((bl ((((a0.getD db.toNat []).getD (dT.getD db.toNat 0).toNat bT.zero).2.2.1.length:Int)+(((a0.getD db.toNat []).getD (dT.getD db.toNat 0).toNat bT.zero).2.2.2.length:Int)))&&((decide (db.toNat < d4.length))&&(true)))) <|
  cond (decide ((d4.getD db.toNat 0) < ((((a0.getD db.toNat []).getD (dT.getD db.toNat 0).toNat bT.zero).2.2.1.length:Int)+(((a0.getD db.toNat []).getD (dT.getD db.toNat 0).toNat bT.zero).2.2.2.length:Int)))) (ar ((aR db d4.length)&&(true)) <|
  ar ((decide (db.toNat < d4.length))&&(true)) <|
  Option.bind (tS N ((a0.getD db.toNat []).getD (dT.getD db.toNat 0).toNat bT.zero) (d4.getD db.toNat 0)) fun cw=>
  ar ((aR (IntKind.wrap .u8 (cw.1 - (1:Int))) dT.length)&&((decide ((IntKind.wrap .u8 (cw.1 - (1:Int))).toNat < dT.length))&&(true))) <|
  cond (decide ((dT.getD (IntKind.wrap .u8 (cw.1 - (1:Int))).toNat 0)<=cw.2)) (Option.bind (ar ((bl (db+(1:Int)))&&(true)) <|
  eD ((db+(1:Int)),d4)) fun q=>some (.inr q)) (ar ((aR db d4.length)&&((decide (db.toNat < d4.length))&&((bl ((d4.getD db.toNat 0)+(1:Int)))&&((aR db d4.length)&&(((decide (db.toNat < d4.length))&&(true))&&(true)))))) <|
  l4 (d4.set db.toNat ((d4.getD db.toNat 0)+(1:Int))))) (some (.inl d4))
def tV(N:Nat) (a0:(List (List aQ))) (gp:List aB) (dT:List Int):Nat->(Int×(List Int))->Option ((List aB)×(List Int)×(List Int)):=ch fun d3 eD=>
  cond (decide (d3.1 < (a0.length:Int))) (ar ((aR d3.1 a0.length)&&(true)) <|
  ar ((aR d3.1 dT.length)&&((decide (d3.1.toNat < dT.length))&&(true))) <|
  cond (decide ((dT.getD d3.1.toNat 0)=((a0.getD d3.1.toNat []).length:Int))) (ar ((bl (d3.1+(1:Int)))&&(true)) <|
  eD ((d3.1+(1:Int)),d3.2)) (ar ((aR d3.1 dT.length)&&((decide (d3.1.toNat < dT.length))&&((aR (dT.getD d3.1.toNat 0) (a0.getD d3.1.toNat []).length)&&(true)))) <|
  Option.bind (tU N a0 dT d3.1 eD N d3.2) fun(cE:((List Int))⊕((List aB)×(List Int)×(List Int)))=>
  sm cE (fun cE=>
  ar ((bl (d3.1+(1:Int)))&&((aR d3.1 dT.length)&&((decide (d3.1.toNat < dT.length))&&((ee 16 (gp.length+[((IntKind.wrap .u8 (d3.1+(1:Int))),(dT.getD d3.1.toNat 0))].length))&&(true))))) <|
  ar ((aR d3.1 dT.length)&&((decide (d3.1.toNat < dT.length))&&((bl ((dT.getD d3.1.toNat 0)+(1:Int)))&&((aR d3.1 dT.length)&&(((decide (d3.1.toNat < dT.length))&&(true))&&(true)))))) <|
  ar ((aR d3.1 cE.length)&&(((decide (d3.1.toNat < cE.length))&&(true))&&(true))) <|
  some ((gp++[((IntKind.wrap .u8 (d3.1+(1:Int))),(dT.getD d3.1.toNat 0))]),(dT.set d3.1.toNat ((dT.getD d3.1.toNat 0)+(1:Int))),(cE.set d3.1.toNat (0:Int)))) (fun q=>some q))) (some (gp,dT,d3.2))
def tW(N:Nat) (a0:(List (List aQ))) (aP:Int):Nat->(List aB)×(List Int)×(List Int)->Option ((List aB)):=ch fun d2 e5=>
  cond (decide ((d2.1.length:Int) < aP)) (Option.bind (tV N a0 d2.1 d2.2.1 N ((0:Int),d2.2.2)) fun cd=>
  cond (decide ((cd.1.length:Int)=(d2.1.length:Int))) (some cd.1) (e5 (cd.1,cd.2.1,cd.2.2))) (some d2.1)
def qF(N:Nat) (a0:(List (List aQ))):Option ((List aB)):=
  Option.bind (qw N a0) fun aP=>
  ar (((decide ((0:Int)<=aP))&&(eo 16 aP))&&(true)) <|
  ar (((decide (0<=(a0.length:Int)))&&(decide ((a0.length:Int)<=(a0.length:Int)))&&(eo 8 (a0.length:Int)))&&(true)) <|
  ar (((decide (0<=(a0.length:Int)))&&(decide ((a0.length:Int)<=(a0.length:Int)))&&(eo 8 (a0.length:Int)))&&(true)) <|
  Option.bind (tW N a0 aP N (([]:List aB),(List.replicate (a0.length:Int).toNat (0:Int)),(List.replicate (a0.length:Int).toNat (0:Int)))) fun bM=>
  some bM
noncomputable def Iv (N:Nat) (a0:(List (List aQ))) (dT:List Int) (db:Int) (eD:(Int×(List Int))->Option ((List aB)×(List Int)×(List Int))):Nat->(List Int)->Option (((List Int))⊕((List aB)×(List Int)×(List Int))):=ch fun d4 l4=>
  ar ((aR db d4.length)&&((bl ((((a0.getD db.toNat []).getD (dT.getD db.toNat 0).toNat bT.zero).2.2.1.length:Int)+(((a0.getD db.toNat []).getD (dT.getD db.toNat 0).toNat bT.zero).2.2.2.length:Int)))&&((decide (db.toNat < d4.length))&&(true)))) <|
  cond (decide ((d4.getD db.toNat 0) < ((((a0.getD db.toNat []).getD (dT.getD db.toNat 0).toNat bT.zero).2.2.1.length:Int)+(((a0.getD db.toNat []).getD (dT.getD db.toNat 0).toNat bT.zero).2.2.2.length:Int)))) (ar ((aR db d4.length)&&(true)) <|
  jc (ar ((decide (db.toNat < d4.length))&&(true)) <|
  jc (Option.bind (tS N ((a0.getD db.toNat []).getD (dT.getD db.toNat 0).toNat bT.zero) (d4.getD db.toNat 0)) fun cw=>
  ar ((aR (IntKind.wrap .u8 (cw.1 - (1:Int))) dT.length)&&((decide ((IntKind.wrap .u8 (cw.1 - (1:Int))).toNat < dT.length))&&(true))) <|
  cond (decide ((dT.getD (IntKind.wrap .u8 (cw.1 - (1:Int))).toNat 0)<=cw.2)) (Option.bind (ar ((bl (db+(1:Int)))&&(true)) <|
  eD ((db+(1:Int)),d4)) fun q=>some (.inr q)) (ar ((aR db d4.length)&&((decide (db.toNat < d4.length))&&((bl ((d4.getD db.toNat 0)+(1:Int)))&&((aR db d4.length)&&(((decide (db.toNat < d4.length))&&(true))&&(true)))))) <|
  l4 (d4.set db.toNat ((d4.getD db.toNat 0)+(1:Int))))) (Option.bind (tS N ((a0.getD db.toNat []).getD (dT.getD db.toNat 0).toNat bT.zero) (d4.getD db.toNat 0)) fun cw=>
  ar ((aR (IntKind.wrap .u8 (cw.1 - (1:Int))) dT.length)&&((decide ((IntKind.wrap .u8 (cw.1 - (1:Int))).toNat < dT.length))&&(true))) <|
  cond (decide ((dT.getD (IntKind.wrap .u8 (cw.1 - (1:Int))).toNat 0)<=cw.2)) (Option.bind (ar ((bl (db+(1:Int)))&&(true)) <|
  eD ((db+(1:Int)),d4)) fun q=>some (.inr q)) (ar ((aR db d4.length)&&((decide (db.toNat < d4.length))&&((bl ((d4.getD db.toNat 0)+(1:Int)))&&((aR db d4.length)&&(((decide (db.toNat < d4.length))&&(true))&&(true)))))) <|
  l4 (d4.set db.toNat ((d4.getD db.toNat 0)+(1:Int)))))) (ar ((decide (db.toNat < d4.length))&&(true)) <|
  Option.bind (tS N ((a0.getD db.toNat []).getD (dT.getD db.toNat 0).toNat bT.zero) (d4.getD db.toNat 0)) fun cw=>
  ar ((aR (IntKind.wrap .u8 (cw.1 - (1:Int))) dT.length)&&((decide ((IntKind.wrap .u8 (cw.1 - (1:Int))).toNat < dT.length))&&(true))) <|
  cond (decide ((dT.getD (IntKind.wrap .u8 (cw.1 - (1:Int))).toNat 0)<=cw.2)) (Option.bind (ar ((bl (db+(1:Int)))&&(true)) <|
  eD ((db+(1:Int)),d4)) fun q=>some (.inr q)) (ar ((aR db d4.length)&&((decide (db.toNat < d4.length))&&((bl ((d4.getD db.toNat 0)+(1:Int)))&&((aR db d4.length)&&(((decide (db.toNat < d4.length))&&(true))&&(true)))))) <|
  l4 (d4.set db.toNat ((d4.getD db.toNat 0)+(1:Int)))))) (some (.inl d4))
noncomputable def Iw (N:Nat) (a0:(List (List aQ))) (gp:List aB) (dT:List Int):Nat->(Int×(List Int))->Option ((List aB)×(List Int)×(List Int)):=ch fun d3 eD=>
  cond (decide (d3.1 < (a0.length:Int))) (ar ((aR d3.1 a0.length)&&(true)) <|
  ar ((aR d3.1 dT.length)&&((decide (d3.1.toNat < dT.length))&&(true))) <|
  cond (decide ((dT.getD d3.1.toNat 0)=((a0.getD d3.1.toNat []).length:Int))) (ar ((bl (d3.1+(1:Int)))&&(true)) <|
  eD ((d3.1+(1:Int)),d3.2)) (ar ((aR d3.1 dT.length)&&((decide (d3.1.toNat < dT.length))&&((aR (dT.getD d3.1.toNat 0) (a0.getD d3.1.toNat []).length)&&(true)))) <|
  Option.bind (Iv N a0 dT d3.1 eD N d3.2) fun(cE:((List Int))⊕((List aB)×(List Int)×(List Int)))=>
  sm cE (fun cE=>
  ar ((bl (d3.1+(1:Int)))&&((aR d3.1 dT.length)&&((decide (d3.1.toNat < dT.length))&&((ee 16 (gp.length+[((IntKind.wrap .u8 (d3.1+(1:Int))),(dT.getD d3.1.toNat 0))].length))&&(true))))) <|
  ar ((aR d3.1 dT.length)&&((decide (d3.1.toNat < dT.length))&&((bl ((dT.getD d3.1.toNat 0)+(1:Int)))&&((aR d3.1 dT.length)&&(((decide (d3.1.toNat < dT.length))&&(true))&&(true)))))) <|
  ar ((aR d3.1 cE.length)&&(((decide (d3.1.toNat < cE.length))&&(true))&&(true))) <|
  some ((gp++[((IntKind.wrap .u8 (d3.1+(1:Int))),(dT.getD d3.1.toNat 0))]),(dT.set d3.1.toNat ((dT.getD d3.1.toNat 0)+(1:Int))),(cE.set d3.1.toNat (0:Int)))) (fun q=>some q))) (some (gp,dT,d3.2))
noncomputable def Ix (N:Nat) (a0:(List (List aQ))) (aP:Int):Nat->(List aB)×(List Int)×(List Int)->Option ((List aB)):=ch fun d2 e5=>
  cond (decide ((d2.1.length:Int) < aP)) (Option.bind (Iw N a0 d2.1 d2.2.1 N ((0:Int),d2.2.2)) fun cd=>
  cond (decide ((cd.1.length:Int)=(d2.1.length:Int))) (some cd.1) (e5 (cd.1,cd.2.1,cd.2.2))) (some d2.1)
noncomputable def Df (N:Nat) (a0:(List (List aQ))):Option ((List aB)):=
  Option.bind (qw N a0) fun aP=>
  ar (((decide ((0:Int)<=aP))&&(eo 16 aP))&&(true)) <|
  ar (((decide (0<=(a0.length:Int)))&&(decide ((a0.length:Int)<=(a0.length:Int)))&&(eo 8 (a0.length:Int)))&&(true)) <|
  ar (((decide (0<=(a0.length:Int)))&&(decide ((a0.length:Int)<=(a0.length:Int)))&&(eo 8 (a0.length:Int)))&&(true)) <|
  Option.bind (Ix N a0 aP N (([]:List aB),(List.replicate (a0.length:Int).toNat (0:Int)),(List.replicate (a0.length:Int).toNat (0:Int)))) fun bM=>
  some bM
theorem wC:Iv=tU:=by
 unfold Iv tU
 first | rfl | (simp only[mW]; done) | (funext; simp (disch:=(simp only[nG,fc,nF]; first | done | first | rfl | (refine gl (fun h=>?_) (fun h=>?_); (focus (rw[h]; first | done | (simp only[fc]; first | done | first | rfl | (refine gl (fun h=>?_) (fun h=>?_); (focus (rw[h]; first | done | (simp only[fc]; first | done | first | rfl | (refine gl (fun h=>?_) (fun h=>?_); (focus (rw[h]; first | done | (simp only[fc]; first | done | rfl))); (focus (rw[h]; first | done | simp only[gi,gj])))))); (focus (rw[h]; first | done | simp only[gi,gj])))))); (focus (rw[h]; first | done | simp only[gi,gj]))))) only[nH])
theorem Dg:Iw=tV:=by
 unfold Iw tV
 first | (simp only[mW,wC]; done) | (funext; simp (disch:=(simp only[nG,fc,nF]; first | done | first | rfl | (refine gl (fun h=>?_) (fun h=>?_); (focus (rw[h]; first | done | (simp only[fc]; first | done | first | rfl | (refine gl (fun h=>?_) (fun h=>?_); (focus (rw[h]; first | done | (simp only[fc]; first | done | first | rfl | (refine gl (fun h=>?_) (fun h=>?_); (focus (rw[h]; first | done | (simp only[fc]; first | done | rfl))); (focus (rw[h]; first | done | simp only[gi,gj])))))); (focus (rw[h]; first | done | simp only[gi,gj])))))); (focus (rw[h]; first | done | simp only[gi,gj]))))) only[nH,wC]) | rfl
theorem Pg:Ix=tW:=by
 unfold Ix tW
 first | (simp only[mW,wC,Dg]; done) | (funext; simp (disch:=(simp only[nG,fc,nF]; first | done | first | rfl | (refine gl (fun h=>?_) (fun h=>?_); (focus (rw[h]; first | done | (simp only[fc]; first | done | first | rfl | (refine gl (fun h=>?_) (fun h=>?_); (focus (rw[h]; first | done | (simp only[fc]; first | done | first | rfl | (refine gl (fun h=>?_) (fun h=>?_); (focus (rw[h]; first | done | (simp only[fc]; first | done | rfl))); (focus (rw[h]; first | done | simp only[gi,gj])))))); (focus (rw[h]; first | done | simp only[gi,gj])))))); (focus (rw[h]; first | done | simp only[gi,gj]))))) only[nH,wC,Dg]) | rfl
theorem acO:Df=qF:=by
 unfold Df qF
 first | (simp only[mW,wC,Dg,Pg]; done) | (funext; simp (disch:=(simp only[nG,fc,nF]; first | done | first | rfl | (refine gl (fun h=>?_) (fun h=>?_); (focus (rw[h]; first | done | (simp only[fc]; first | done | first | rfl | (refine gl (fun h=>?_) (fun h=>?_); (focus (rw[h]; first | done | (simp only[fc]; first | done | first | rfl | (refine gl (fun h=>?_) (fun h=>?_); (focus (rw[h]; first | done | (simp only[fc]; first | done | rfl))); (focus (rw[h]; first | done | simp only[gi,gj])))))); (focus (rw[h]; first | done | simp only[gi,gj])))))); (focus (rw[h]; first | done | simp only[gi,gj]))))) only[nH,wC,Dg,Pg]) | rfl
noncomputable def acP (N:Nat):bz bS:=v7 N bU (by kernel_rfl) [.c (.bd (.ak bT))] [] ⟨.a (.c (.bd bf)),[],[]⟩ [HP N,acM N] [] (.s .d (.s .d (.s .d (.s .d (.s .d (.s (.b (.eb 0 ⟨[(4,.a (.c (.raw (.ak 15)))),(5,.a (.c (.raw (.ak 18)))),(6,.a (.c (.raw (.ak 21))))],[(15,.row 30 bf),(18,.row 3 (.int .i64)),(21,.row 3 (.int .i64))],[0,3],[]⟩ ⟨[(4,.a (.c (.raw (.ak 15))))],[(15,.row 30 bf)],[],[]⟩ (.s .d (.b (.b (.s .d (.s .d (.s (.s .d (.b (.eb 2 ⟨[(4,.a (.c (.raw (.ak 15)))),(5,.a (.c (.raw (.ak 18)))),(6,.a (.c (.raw (.ak 21)))),(30,.a (.c (.int .i64)))],[(21,.row 3 (.int .i64))],[0,3,7,28,29],[15,18]⟩ ⟨[(4,.a (.c (.raw (.ak 15)))),(5,.a (.c (.raw (.ak 18)))),(6,.a (.c (.raw (.ak 21))))],[(15,.row 30 bf),(18,.row 3 (.int .i64)),(21,.row 3 (.int .i64))],[0,3,7],[]⟩ (.s .d (.s .d (.s (.b (.s .d (.s .d (.s (.r [.n 9,.w (.b4 10 bT)]) (.s (.b (.fh 4 ⟨[(4,.a (.c (.raw (.ak 15)))),(5,.a (.c (.raw (.ak 18)))),(6,.a (.c (.raw (.ak 21))))],[(21,.row 3 (.int .i64))],[0,3,7,8,10,28,29,30],[15,18]⟩ ⟨[(4,.a (.c (.raw (.ak 15)))),(5,.a (.c (.raw (.ak 18)))),(6,.a (.c (.raw (.ak 21))))],[(21,.row 3 (.int .i64))],[0,3,7,8],[15,18]⟩ (.s (.s (.o [] [.t 0 0,.t 1 0,.t 2 0,.t 4 0,.t 5 1,.t 6 0,.t 7 0,.t 8 1,.t 9 0,.t 10 0,.s 3,.t 11 0] []) .d) (.b (.s (.s (.iF [] [] (.b [.t 0 1,.t 1 0,.t 2 0,.t 3 0] 4 6 [] [] (.b [] 5 6 [] [] (.f [.s 6,.s 7]) (.f [.c 5 [],.s 7])) (.f [.f,.s 4,.c 5 [],.s 7])) [(.b4 11 bf)] false) (.s (.o [] [.t 0 0,.t 1 1,.t 2 0,.t 3 0,.t 4 1,.t 5 0,.t 6 0,.s 7,.t 8 0] []) .d)) .d))))) .d))))) .d)))))) .d)))))))) (.s .d (.t [.dn 15])))))))) [.tmp 2] 100 [] (fun d=>Df N d.1) (fun d=>qF N d.1) (fun d=>(by rw[acO]:Df N d.1=qF N d.1)) Tryz.func100 rfl rfl Tryz.ntmps100 rfl rfl rfl (fun d=>by kernel_rfl)
end
end Go.Proofs.YtldjgdggcodgeaaGreat
