/- Part 4 of 6 of the proof. -/
import Derived.Test.YtijeenjclhajhaaGreatDoorRh03
import Derived.Shelf.Strings.Builder1
set_option linter.all false
set_option maxRecDepth 100000
namespace Go.Proofs.YtijeenjclhajhaaGreatDoor
open Go.Proofs.Tryz
open _root_.Nat (beq ble blt eq_of_beq_eq_true le_trans lt_of_lt_of_le)
open _root_.Int (fdiv tmod)
open _root_.List (append append_assoc append_nil length_cons map_nil mem_append_left mem_cons_of_mem mem_cons_self replicate)
open Go.RowKit
noncomputable section
section
structure hC(X:bz)(M:Bool)(n:Nat)(rr:Option Nat)(aX:Type) where
 In:aX->aQ->Act->World->Prop
 frame:∀ {c:Code} {st:aQ} {Q:Exit->aQ->Prop} {r:aX} {a:Act} {w:World},hd X M n rr c st Q->In r st a w->mg rr X.P c (λe a w=>∃s,Q e s/\In r s a w) a w
 step:∀ {ops:List Oper} {o:Oper} {st st':aQ} {r:aX} {a:Act} {w:World},LC X n ops o st st'->In r st a w->∀ {KK:Act->World->Prop},(∀a w,In r st' a w->KK a w)->fj X.P ops.toArray o KK a w
 fq:∀ {st st':aQ} {r:aX} {a:Act} {w:World},hL X M n st st'->In r st a w->In r st' a w
 z7:∀ {st:aQ} {r:aX} {a:Act} {w:World},In r st a w->∃R W aD aq env B ai H,bM X R W aD n aq env B ai H st a w
variable {X:bz} {M:Bool} {n:Nat} {rr:Option Nat} {aX:Type}
def hC.Gv(R:Nat->Prop)(W:World)(aD:fk)(f:aX):hC X M n rr aX where
 In r st a w:=r=f/\mO X R W aD M n st a w
 frame h hi:=wpIn_mono (h R W aD _ _ hi.2) λ_ _ _ ⟨s,I,J⟩=>⟨s,I,hi.1,J⟩
 step h hi KK b2:=by
  obtain⟨b,aq,env,B,ai,H,c,ad⟩:=hi;exact h R W aD aq env B ai H _ _ ad _ λaU w' env' B' e H' d=>b2 _ _ ⟨b,aq,env',B',e,H',c,d⟩
 fq h hi:=⟨hi.1,h _ _ _ _ _ hi.2⟩
 z7 hi:=by
  obtain⟨_,aq,env,B,ai,H,_,ad⟩:=hi;exact⟨_,_,_,_,_,_,_,_,ad⟩
def hC.const{b:Type}(Γ:hC X M n rr aX)(r:aX)(d0:b):hC X M n rr b where
 In d st a w:=d=d0/\Γ.In r st a w
 frame h hi:=wpIn_mono (Γ.frame h hi.2) λ_ _ _ ⟨s,I,J⟩=>⟨s,I,hi.1,J⟩
 step h hi KK b2:=Γ.step h hi.2 λa w h=>b2 a w ⟨hi.1,h⟩
 fq h hi:=⟨hi.1,Γ.fq h hi.2⟩
 z7 hi:=Γ.z7 hi.2
def jd(Γ:hC X M n rr aX)(c:Code)(r:aX)(st:aQ)(Q:Exit->aQ->aX->Prop):Prop:=∀a w,Γ.In r st a w->mg rr X.P c (λe a w=>∃s b,Q e s b/\Γ.In b s a w) a w
section
variable {Γ:hC X M n rr aX} {c fD cK:Code} {r:aX} {st st':aQ} {Q rj:Exit->aQ->aX->Prop}
theorem xO{Q:Exit->aQ->Prop}(h:hd X M n rr c st Q):jd Γ c r st (λe s b=>Q e s/\b=r):=λa w hi=>wpIn_mono (Γ.frame h hi) λ_ _ _ ⟨s,I,J⟩=>⟨s,r,⟨I,rfl⟩,J⟩
theorem l5(h:jd Γ c r st Q)(d:∀e s b,Q e s b->rj e s b):jd Γ c r st rj:=λa w hi=>wpIn_mono (h a w hi) λ_ _ _ ⟨s,b,I,J⟩=>⟨s,b,d _ _ _ I,J⟩
theorem Gw{b:Type}{d0:b}{Q:Exit->aQ->b->Prop}(h:jd (Γ.const r d0) c d0 st Q):jd Γ c r st (λe s f=>f=r/\Q e s d0):=λa w hi=>wpIn_mono (h a w ⟨rfl,hi⟩) λ_ _ _ ⟨s,d,I,J,ag⟩=>⟨s,r,⟨rfl,J ▸ I⟩,ag⟩
theorem z8(hw:hL X M n st st')(h:jd Γ c r st' Q):jd Γ c r st Q:=λa w hi=>h a w (Γ.fq hw hi)
def agP(Γ:hC X M n rr aX)(c:Code)(Q:Exit->aQ->aX->Prop):Exit->aQ->aX->Prop
 |.normal,st,r=>jd Γ c r st Q
 |e,st,r=>Q e st r
theorem Md(h:jd Γ fD r st (agP Γ cK Q)):jd Γ (.seq fD cK) r st Q:=λa w hi=>by
 refine wpIn_seq (wpIn_mono (h a w hi) ?_);rintro e a w ⟨s,b,I,J⟩;cases e with
 |normal=>exact I a w J
 |_=>exact⟨s,b,I,J⟩
theorem agQ{x:Operand}{g b:Bool}(an:bx X st.L x=some (g,.c (.val (.bool b))))(d:g=true)(I:b=true->jd Γ fD r st Q)(c:b=false->jd Γ cK r st Q):jd Γ (.cond x fD cK) r st Q:=λa w hi=>by
 obtain⟨R,W,aD,aq,env,B,ai,H,ad⟩:=Γ.z7 hi;obtain⟨v,J,ag⟩:=ad.aJ an d;rw[show v=_ from ag]at J;exact PU ad.sym J (λab=>I ab a w hi) (λab=>c ab a w hi)
def T0(id:Nat)(Q:Exit->aQ->aX->Prop):Exit->aQ->aX->Prop
 |.exit a,st,r=>match beq a id with
  |true=>Q .normal st r
  |false=>Q (.exit a) st r
 |e,st,r=>Q e st r
theorem agR{id:Nat}(h:jd Γ c r st (T0 id Q)):jd Γ (.block id c) r st Q:=λa w hi=>by
 refine PT (wpIn_mono (h a w hi) ?_);rintro e a w ⟨s,b,I,J⟩;cases e with
 |exit f=>
  simp only[T0]at I
  split at I
  ·rename_i ab
   have:=eq_of_beq_eq_true ab
   subst this;simp only[Exit.inBlock,if_true];exact⟨s,b,I,J⟩
  ·rename_i ab
   have d:=Nat.ne_of_beq_eq_false ab;simp only[Exit.inBlock,if_neg d];exact⟨s,b,I,J⟩
 |_=>exact⟨s,b,I,J⟩
def agS(Q:Exit->aQ->aX->Prop):Exit->aQ->aX->Prop
 |.goto _,_,_=>False
 |e,st,r=>Q e st r
theorem agT(h:jd Γ c r st (agS Q)):jd Γ (.scope c) r st Q:=λa w hi=>by
 refine adO (wpIn_mono (h a w hi) ?_);rintro e a w ⟨s,b,I,J⟩;cases e with
 |goto l=>exact I.elim
 |_=>exact⟨s,b,I,J⟩
def agU{α:Type}(M:Bool)(n:Nat)(X:bz)(a6:α->aQ)(bQ:α->aX->Prop)(m:α->Nat)(x:α)(Q:Exit->aQ->aX->Prop):Exit->aQ->aX->Prop
 |.normal,st,r=>∃y,bQ y r/\m y<m x/\hL X M n st (a6 y)
 |e,st,r=>Q e st r
theorem Me{α:Type}(a6:α->aQ)(bQ:α->aX->Prop)(m:α->Nat)(b:α)(g:bQ b r)(hw:hL X M n st (a6 b))(i:∀x r,bQ x r->jd Γ c r (a6 x) (agU M n X a6 bQ m x Q)):jd Γ (.loop c) r st Q:=λa w hi=>by
 refine PV (λx a w=>∃r,bQ x r/\Γ.In r (a6 x) a w) m b ⟨r,g,Γ.fq hw hi⟩ λx a w ⟨r,j,hi⟩=>wpIn_mono (i x r j a w hi) ?_
 rintro e a w ⟨s,d,I,J⟩;cases e with
 |normal=>
  obtain⟨y,ag,h,f⟩:=I;exact⟨y,⟨d,ag,Γ.fq f J⟩,h⟩
 |_=>exact⟨s,d,I,J⟩
theorem Gx{c:Code}{st:aQ}{Q:Exit->aQ->aX->Prop}{r:aX}(h:∀R W aD,jd (hC.Gv (X:=X) (M:=M) (n:=n) (rr:=rr) R W aD r) c r st Q):hd X M n rr c st (λe s=>Q e s r):=λR W aD a w ad=>by
 refine wpIn_mono (h R W aD a w ⟨rfl,ad⟩) ?_;rintro e a w ⟨s,b,I,rfl,J⟩;exact⟨s,I,J⟩
end
theorem agV(u:X.aY.ok X.P){f:FuncId}{fn:Func}{c:Code}{args:ej}{h:bC}{Q:b8->bC->Prop}{res:List ResultVar}(aC:X.P.funcs[f]?=some fn)(ab:fn.body=some c)(a1:fn.ntmps=n)(ah:ble args.length n=true)(ba:ble n mi=true)(y:fn.results=res.toArray)(A:hd X true n none c ⟨rm 0 args,h⟩ (λe st=>(e=.ret\/e=.normal)/\∃st',hL X true n st st'/\∃c sv,tw X st' res=some (c,sv)/\c=true/\Q sv st'.H)):AC X f args h Q:=by
 intro B ai env vs H W r bm C g;have F:=bm.length;have hle:vs.length<=n:=by rw[F];exact Nat.le_of_ble_eq_true ah
 refine(callsIn_wide (n:=0)).1 (callsIn_of_wp_marks aC ab trivial ?_);have m:gP B ai B W:=⟨λ_ h=>h,λk aa=>g.below.block k aa⟩
 have E:∀k,B k->hc W H k:=λk aa=>⟨g.base k aa,λc U e=>((g.ok c U).lt e).1 aa⟩
 have q:=Jp a1 hle _ rfl;have ad:bM X (hc W H) W ⟨B,λid l=>((mi<=id/\∃b,l=.blk b)\/iG<=id)/\env id=l,[]⟩ n [] env B W H ⟨rm 0 args,h⟩ { tmps:=vs.toArray++Array.replicate (fn.ntmps-vs.toArray.size) undef,defers:=[] } W:=by
  refine⟨q.size,rfl,λs sv K=>?_,C.up m,?_,λ_ h=>h,λ_ h=>.inl h,λid l ak=>⟨le_trans (Nat.le_of_ble_eq_true ba) (ak.1.elim (λh=>h.1) (λh=>le_trans (by decide) h)),ak.2,ak.1.imp (λh=>h.2) (λh=>h)⟩,ds.refl _ _,λi x an=>(r i x an).up m⟩
  ·obtain⟨_,v,I,J⟩:=EV bm K
   refine⟨v,?_,J.up m⟩;have z:=(List.getElem?_eq_some_iff.1 I).1;rw[Array.getElem?_append_left (by simpa using z)]
   simpa using I
  ·have I:=g.rest
   simp only[map_nil,append_nil];exact⟨ds.refl _ _,λk aa=>aa.elim (λh=>h.1) (λh=>g.base k h),λc U=>(I.ok c U).base λb ab aa=>aa.elim (λh=>((I.ok c U).lt ab).1 h) (λh=>((I.ok c U).lt ab).1 (E b h)),I.apart⟩
 refine wpIn_mono (A _ _ _ _ _ ⟨[],env,B,W,H,⟨(λh=>by cases h),λ_ id l (ak:((mi<=id/\∃b,l=.blk b)\/iG<=id)/\env id=l)=>ak.1.elim (λh=>h.1) (λh=>le_trans (by decide) h)⟩,ad⟩) ?_;rintro e a w ⟨st,⟨he,st',hw,c,sv,L,U,D⟩,J⟩;obtain⟨aq,env',B',j,H',N,d⟩:=hw _ _ _ _ _ J;have G:bM X (hc W H) W ⟨B,λid l=>((mi<=id/\∃b,l=.blk b)\/iG<=id)/\env id=l,[]⟩ n [] env' B' j H' st' { tmps:=a.tmps,defers:=[] } w:=
  ⟨d.size,rfl,d.has,d.heap,by simpa using d.aT.fq (List.sublist_append_left _ _),d.sub,d.new,d.dP,d.base,d.eu⟩
 obtain⟨v,ag,t⟩:=QV u G y L U;have M:Sym n (aq.map wH) (full a) (λk=>hc W H k\/B' k) j (aq.map (λk=>bo.obj k (.deferred (some [])))++H') a w:=⟨by have c7:=d.bW;simpa [j9] using c7,d.aT.perm List.perm_append_comm⟩
 have key:=P2 (R:=wQ X env B H W Q) aq M (λw hw=>t w (by simpa using hw)) λw hw=>⟨env',B',j,H',sv,st'.H,D,d.sub,d.new,d.base,ag,d.heap,hw,λid l p o=>(d.dP id l ⟨p,o⟩).2.1⟩
 rcases he with rfl|rfl
 ·exact key
 ·exact key
end
section
inductive gl where
 |d
 |r (l:List In)
 |t (l:List nc)
 |o (E:bX) (l:List sR) (w:List nc)
 |nU (E:bX) (l:List sR) (w:List nc)
 |s (a b:gl)
 |j (br:eG) (a b:gl)
 |Gy (br:eG) (a b:gl)
 |c (a b:gl)
 |l (br:eG) (a:gl)
 |fv (id:Nat) (br hI:eG) (a:gl)
 |gL (id:Nat) (br hI:eG) (a:gl)
 |b (a:gl)
 |pW (di:List (Nat×Nat)) (br:eG) (a:gl)
 |p (w:List nc) (a:gl)
 |c3 (ai:List nc) (E:bX) (t:ue) (w:List nc) (al:Bool)
def gl.fst:gl->gl
 |.s x _=>x
 |.j _ x _=>x
 |.Gy _ x _=>x
 |.c x _=>x
 |.l _ x=>x
 |.fv _ _ _ x=>x
 |.gL _ _ _ x=>x
 |.b x=>x
 |.pW _ _ x=>x
 |_=>.d
def gl.snd:gl->gl
 |.s _ x=>x
 |.j _ _ x=>x
 |.Gy _ _ x=>x
 |.c _ x=>x
 |_=>.d
def gl.ins:gl->List In
 |.r x=>x
 |_=>[]
def gl.Aa:gl->List nc
 |.t x=>x
 |_=>[]
def gl.pre:gl->List nc
 |.p w _=>w
 |.c3 w _ _ _ _=>w
 |_=>[]
def gl.T1:gl->Bool
 |.nU _ _ _=>true
 |.p _ (.nU _ _ _)=>true
 |.c3 _ _ _ _ al=>al
 |_=>false
def gl.rQ:gl->bX×ue×List nc
 |.o x y z=>(x,.f y,z)
 |.nU x y z=>(x,.f y,z)
 |.p _ (.o x y z)=>(x,.f y,z)
 |.p _ (.nU x y z)=>(x,.f y,z)
 |.c3 _ x y z _=>(x,y,z)
 |_=>([],.f [],[])
def p2{aX:Type}(n:Nat):List nc->bX->aQ->(bX->aQ->Option aX)->Option aX
 |[],V,st,k=>k V st
 |x::l,V,st,k=>match zI n x st with
  |some (c,st')=>ay c (p2 n l (x.zG++V) st' k)
  |none=>none
theorem Ab{X:bz}{aX:Type}{n:Nat}{k:bX->aQ->Option aX}{r:aX}{fG:aQ}:∀ {l:List nc} {V:bX} {st:aQ},dt V fG st->p2 n l V st k=some r->∃a st',bP X n st st'/\dt a fG st'/\k a st'=some r
 |[],V,st,b,h=>⟨V,st,bP.refl _,b,h⟩
 |x::l,V,st,b,h=>by
  unfold p2 at h
  split at h
  ·rename_i c d e
   obtain⟨U,h⟩:=e3 h;obtain⟨a,st',I,J,ag⟩:=Ab (b.trans (SH e)) h;exact⟨a,st',(SC e U).trans I,J,ag⟩
  ·cases h
def T2{α:Type}(v:Value)(k:Value->α):α:=match v with
 |.int q z=>k (.int q z)
 |.bool b=>k (.bool b)
 |.slice a m c=>k (.slice a m c)
 |v=>k v
def Gz{α:Type}:eB->(eB->α)->α
 |[],k=>k []
 |.id i::r,k=>Gz r λr=>k (.id i::r)
 |.fr g x::r,k=>Gz r λr=>k (.fr g x::r)
def Mf{α:Type}(c:bs)(k:bs->α):α:=match c with
 |.val v=>T2 v λv=>k (.val v)
 |.str s=>k (.str s)
 |.dead=>k .dead
 |.ptr i o=>k (.ptr i o)
 |.fg i s j o=>k (.fg i s j o)
 |.gb g x o=>k (.gb g x o)
 |.par g l=>k (.par g l)
 |.aI i=>k (.aI i)
 |.bJ g l c=>k (.bJ g l c)
 |.fn f ids=>Gz ids λids=>k (.fn f ids)
 |.dI i=>k (.dI i)
 |.jR f i=>k (.jR f i)
 |.iF i o=>k (.iF i o)
 |.jS i s o=>k (.jS i s o)
 |.j7 i=>k (.j7 i)
 |.iV b i=>k (.iV b i)
def GA{α:Type}:dT->(dT->α)->α
 |[],k=>k []
 |c::r,k=>Mf c λc=>GA r λr=>k (c::r)
def GB{α:Type}(x:bp)(k:bp->α):α:=match x with
 |.c c=>Mf c λc=>k (.c c)
 |.agg cs=>GA cs λcs=>k (.agg cs)
 |.arr g l=>k (.arr g l)
def Mg{α:Type}:ej->(ej->α)->α
 |[],k=>k []
 |c::r,k=>GB c λc=>Mg r λr=>k (c::r)
def T3{α:Type}(v:b8)(k:b8->α):α:=match v with
 |.a x=>GB x λx=>k (.a x)
 |.may g x=>GB x λx=>k (.may g x)
 |.cY xs=>Mg xs λxs=>k (.cY xs)
def Mh{α:Type}:c6->(c6->α)->α
 |[],k=>k []
 |(s,v)::r,k=>T3 v λv=>Mh r λr=>k ((s,v)::r)
def T4{α:Type}(b:cC)(k:cC->α):α:=match b with
 |.cells t cs=>GA cs λcs=>k (.cells t cs)
 |.row t g l c=>k (.row t g l c)
 |.hl t g l=>k (.hl t g l)
 |.mp g h l o=>k (.mp g h l o)
 |.cf t u g l c h=>k (.cf t u g l c h)
 |b=>k b
def Mi{α:Type}:bC->(bC->α)->α
 |[],k=>k []
 |(s,v)::r,k=>T4 v λv=>Mi r λr=>k ((s,v)::r)
def xP{α:Type}(st:aQ)(k:aQ->α):α:=Mh st.L λL=>Mi st.H λH=>k ⟨L,H⟩
theorem agW{α:Type}(v:Value)(k:Value->α):T2 v k=k v:=by cases v<;>rfl
theorem Mj{α:Type}:∀(l:eB) (k:eB->α),Gz l k=k l
 |[],_=>rfl
 |.id i::r,k=>Mj r _
 |.fr g x::r,k=>Mj r _
theorem T5{α:Type}(c:bs)(k:bs->α):Mf c k=k c:=by
 cases c with
 |val v=>exact agW v (λv=>k (.val v))
 |fn f ids=>exact Mj ids (λids=>k (.fn f ids))
 |_=>rfl
theorem Mk{α:Type}:∀(l:dT) (k:dT->α),GA l k=k l
 |[],_=>rfl
 |c::r,k=>(T5 c _).trans (Mk r _)
theorem Ml{α:Type}(x:bp)(k:bp->α):GB x k=k x:=by
 cases x with
 |c c=>exact T5 c (λc=>k (.c c))
 |agg cs=>exact Mk cs (λcs=>k (.agg cs))
 |arr g l=>rfl
theorem T6{α:Type}:∀(l:ej) (k:ej->α),Mg l k=k l
 |[],_=>rfl
 |c::r,k=>(Ml c _).trans (T6 r _)
theorem agX{α:Type}(v:b8)(k:b8->α):T3 v k=k v:=by
 cases v with
 |a x=>exact Ml x (λx=>k (.a x))
 |may g x=>exact Ml x (λx=>k (.may g x))
 |cY xs=>exact T6 xs (λxs=>k (.cY xs))
theorem T7{α:Type}:∀(l:c6) (k:c6->α),Mh l k=k l
 |[],_=>rfl
 |(s,v)::r,k=>(agX v _).trans (T7 r _)
theorem agY{α:Type}(b:cC)(k:cC->α):T4 b k=k b:=by
 cases b with
 |cells t cs=>exact Mk cs (λcs=>k (.cells t cs))
 |_=>rfl
theorem T8{α:Type}:∀(l:bC) (k:bC->α),Mi l k=k l
 |[],_=>rfl
 |(s,v)::r,k=>(agY v _).trans (T8 r _)
theorem CL{α:Type}(st:aQ)(k:aQ->α):xP st k=k st:=(T7 _ _).trans (T8 _ _)
def cx{a aX:Type}(step:a->(a->Option aX)->Option aX):Nat->a->Option aX
 |0,_=>none
 |n+1,d=>step d (cx step n)
abbrev pe(aX:Type):=Exit->bX->aQ->Option aX
abbrev uk:={a:Type}->l3 a->gl->aQ->pe a->Option a
def GC{aX:Type}(cq:l3 aX)(cd:gl)(a b:uk)(st:aQ)(k:pe aX):Option aX:=match cd with
 |.j c x y=>(a none x st λe V st'=>match e with
  |.normal=>c.get st V st'
  |_=>none).bind λd=>b cq y (c.S st d) λe V s=>k e (V++c.ids) s
 |.Gy c x y=>(a none x st λe V st'=>match e with
  |.normal=>match c.get st V st' with
   |some d=>some (.inl d)
   |none=>none
  |e=>match k e V st' with
   |some r=>some (.inr r)
   |none=>none).bind λ(o:c.D⊕aX)=>sm o (λd=>b cq y (c.S st d) λe V s=>k e (V++c.ids) s) (λr=>some r)
 |cd=>a cq cd.fst st λe V st'=>match e with
  |.normal=>b cq cd.snd st' λe V2 s=>k e (V2++V) s
  |e=>k e V st'
def CM:bX->bX->Bool
 |[],_=>true
 |k::r,l=>match fP k l with
  |true=>CM r l
  |false=>false
def Ac(a b:eG):Bool:=match CM b.tQ a.tQ,CM b.nL a.nL,CN b.tQ (eP a.L),CN b.nL (eP a.H)with
 |true,true,true,true=>true
 |_,_,_,_=>false
where CN:bX->bX->Bool
 |[],_=>true
 |k::r,l=>match fP k l with
  |true=>false
  |false=>CN r l
def qK{a aX:Type}(o:Option a)(f:a->Option aX):Option aX:=match o with
 |some d=>f d
 |none=>none
theorem sT{a aX:Type}{o:Option a}{f:a->Option aX}{r:aX}(h:qK o f=some r):∃d,o=some d/\f d=some r:=by
 unfold qK at h
 split at h
 ·exact⟨_,rfl,h⟩
 ·cases h
def GD{aX:Type}(N:Nat)(cq:l3 aX)(f:gl)(a:uk)(st:aQ)(k:pe aX):Option aX:=match f with
 |.l b x=>qK (b.get st [] st) (cx (λd rec=>a cq x (b.S st d) λe V st'=>match e with
  |.normal=>qK (b.get st V st') rec
  |e=>k e (V++b.ids) st') N)
 |.fv id b c x=>(qK (b.get st [] st) (cx (λd rec=>a none x (b.S st d) λe V st'=>match e with
  |.normal=>qK (b.get st V st') rec
  |.exit i=>match beq i id,Ac b c with
   |true,true=>c.get st V st'
   |_,_=>none
  |_=>none) N)).bind λd=>k (.exit id) c.ids (c.S st d)
 |.gL id b c x=>(qK (b.get st [] st) (cx (λd rec=>a none x (b.S st d) λe V st'=>match e with
  |.normal=>qK (b.get st V st') rec
  |.exit i=>match beq i id,Ac b c with
   |true,true=>match c.get st V st' with
    |some d=>some (.inl d)
    |none=>none
   |false,_=>match k (.exit i) (V++b.ids) st' with
    |some r=>some (.inr r)
    |none=>none
   |_,_=>none
  |e=>match k e (V++b.ids) st' with
   |some r=>some (.inr r)
   |none=>none) N)).bind λ(o:c.D⊕aX)=>sm o (λd=>k (.exit id) c.ids (c.S st d)) (λr=>some r)
 |_=>none
structure l6(X:bz) where
 f:FuncId
 fn:Func
 C:List vk
 G:List (Nat×gX)
 E:eH
 m:dy (sI C (ov G []))->Option (List (dy (ki E [])))
 aC:X.P.funcs[f]?=some fn
 ba : (fn.name == "runtime.NumGoroutine") = false
 ab:fn.body.isNone=false
 ok:∀d l,m d=some l->xL X f (nK C d).1 (kH G (nK C d).2).1 l (λx=>(jA E x).1)
def kJ{α a aX:Type}(step:α->a->(a->Option aX)->Option aX):List α->a->(a->Option aX)->Option aX
 |[],d,k=>k d
 |x::l,d,k=>step x d λb=>kJ step l b k
def vD:bX->bC->Option (bC×bC)
 |[],H=>some ([],H)
 |i::is,H=>match bj H i with
  |some b=>match vD is (oe i H)with
   |some (h,H')=>some ((i,b)::h,H')
   |none=>none
  |none=>none
def xQ{X:bz}{aX:Type}(f:FuncId)(gV:eB)(H:bC)(K:(E:eH)->bX->bC->List (dy (ki E []))->Option aX):List (l6 X)->Option aX
 |[]=>none
 |e::r=>match beq e.f f,vD (eP e.G) H with
  |true,some (h,H')=>match xb (T:=[]) e.G h ()with
   |some t=>match vl (T:=ov e.G []) e.C gV t with
    |some d=>(e.m d).bind λl=>K e.E (eP e.G) H' l
    |none=>xQ f gV H K r
   |none=>xQ f gV H K r
  |_,_=>xQ f gV H K r
def fo:List (Nat×Nat)->aQ->aQ
 |[],st=>st
 |p::l,st=>fo l ⟨gC (kC p.1 p.2) st.L,pP (kC p.1 p.2) st.H⟩
def mC:List (Nat×Nat)->bX
 |[]=>[]
 |p::l=>mC l++[p.2,p.1]
def GF:List (Nat×Nat)->Bool
 |[]=>true
 |p::l=>match blt p.2 mi with
  |true=>GF l
  |false=>false
def CO(n:Nat):Code->Option (List (Nat×Nat))
 |.region _ ⟨ops⟩ false=>zf n ops
 |.skip=>some []
 |.seq a b=>match CO n a,CO n b with
  |some x,some y=>some (x++y)
  |_,_=>none
 |_=>none
def agZ(a:eG):Bool:=match a.L,a.tQ with
 |[],[]=>true
 |_,_=>false
def GG{aX:Type}(n:Nat)(b:eG)(ms:List (Nat×Nat))(pl di:bX)(E:eH)(st:aQ)(cq:l3 aX)(a:uk)(x:gl)(k:pe aX)(e:dy (ki E []))(y:b.D)(c:b.D->Option aX):Option aX:=
 a cq x ⟨tH ms (vc pl (jA E e).1 (gC (hH n) st.L)),(b.S st y).H⟩ λe V s=>match e with
  |.normal=>qK (b.get st V s) c
  |.ret=>k .ret ((V++b.ids)++di) ⟨gC (hH n) st.L,s.H⟩
  |.exit i=>k (.exit i) ((V++b.ids)++di) ⟨gC (hH n) st.L,s.H⟩
  |_=>none
def stepG{aX:Type}(n:Nat)(c:eG)(pl di:bX)(E:eH)(st:aQ)(b a:uk)(x:gl)(k:pe aX)(e:dy (ki E []))(y:c.D)(f:c.D->Option aX):Option aX:=
 b none .d ⟨vc pl (jA E e).1 (gC (hH n) st.L),(c.S st y).H⟩ λg d h=>match g with
  |.normal=>a none x h λe V s=>match e with
   |.normal=>qK (c.get st (V++d) s) f
   |.ret=>k .ret (((V++d)++c.ids)++di) ⟨gC (hH n) st.L,s.H⟩
   |.exit i=>k (.exit i) (((V++d)++c.ids)++di) ⟨gC (hH n) st.L,s.H⟩
   |_=>none
  |_=>none
def CP{aX:Type}(X:bz)(n:Nat)(bK:List (l6 X))(m:Bool)(g:Operand)(pl:bX)(j:Code)(cq:l3 aX)(b a:uk)(i:gl)(fG:aQ)(k:pe aX):Option aX:=match i with
 |.pW di d x=>match m,GF di,agZ d,ble n iG with
  |true,true,true,true=>match bx X (fo di fG).L g,CO n j with
   |some (c,.c (.fn f gV)),some ms=>ay c (xQ f gV (fo di fG).H (λE gs e l=>match beq E.length pl.length,nJ n pl,nJ n (ms.map (·.1))with
    |true,true,true=>qK (d.get ⟨(fo di fG).L,e⟩ [] ⟨(fo di fG).L,e⟩) λh=>kJ (GG n d ms pl (gs++mC di) E ⟨(fo di fG).L,e⟩ cq a x k) l h λy=>k .normal (d.ids++(gs++mC di)) ⟨gC (hH n) (fo di fG).L,(d.S ⟨(fo di fG).L,e⟩ y).H⟩
    |_,_,_=>none) bK)
   |some (c,.c (.fn f gV)),none=>match cq with
    |none=>ay c (xQ f gV (fo di fG).H (λE gs e l=>match beq E.length pl.length,nJ n pl with
     |true,true=>qK (d.get ⟨(fo di fG).L,e⟩ [] ⟨(fo di fG).L,e⟩) λh=>kJ (stepG n d pl (gs++mC di) E ⟨(fo di fG).L,e⟩ b a x k) l h λy=>k .normal (d.ids++(gs++mC di)) ⟨gC (hH n) (fo di fG).L,(d.S ⟨(fo di fG).L,e⟩ y).H⟩
     |_,_=>none) bK)
    |some _=>none
   |_,_=>none
  |_,_,_,_=>none
 |_=>none
def kn(X:bz)(N n:Nat)(T:List (bI X))(bK:List (l6 X)):Bool->Code->{aX:Type}->l3 aX->gl->aQ->pe aX->Option aX
 |_,.skip,_,_,c,st,k=>p2 n c.Aa [] st λV st'=>k .normal V st'
 |_,.exit id,_,_,c,st,k=>p2 n c.Aa [] st λV st'=>k (.exit id) V st'
 |_,.ret,_,_,c,st,k=>p2 n c.Aa [] st λV st'=>k .ret V st'
 |_,.label _,_,_,_,st,k=>k .normal [] st
 |_,.region _ ops true,_,_,c,st,k=>xP st λst=>p2 n c.pre [] st λf st=>xP st λst=>match beq ops.toList.length (nR c.rQ.2.1)with
  |true=>sS X n T ops.toList c.rQ.1 c.rQ.2.1 ⟨Array.replicate (nR c.rQ.2.1) false,true,true,true,c.T1⟩ [] f [] st λV st'=>p2 n c.rQ.2.2 V st' λV st'=>k .normal V st'
  |false=>none
 |_,.region _ ops false,_,cq,c,st,k=>xP st λst=>ly X n T cq (eN ops.toList) c.ins ops.toList [] [] [] st λV st'=>k .normal V st'
 |m,.seq a b,_,cq,c,st,k=>GC cq c (λcq c st k=>kn X N n T bK m a cq c st k) (λcq c st k=>kn X N n T bK m b cq c st k) st k
 |m,.cond x a b,_,cq,c,st,k=>match bx X st.L x with
  |some (g,.c (.val (.bool q)))=>ay g (cond q (kn X N n T bK m a cq c.fst st k) (kn X N n T bK m b cq c.snd st k))
  |_=>none
 |m,.block id a,_,cq,c,st,k=>kn X N n T bK m a cq c.fst st λe V st'=>match e with
  |.exit i=>match beq i id with
   |true=>k .normal V st'
   |false=>k (.exit i) V st'
  |e=>k e V st'
 |m,.scope a,_,cq,c,st,k=>kn X N n T bK m a cq c.fst st λe V st'=>match e with
  |.goto _=>none
  |e=>k e V st'
 |m,.loop a,_,cq,c,st,k=>xP st λst=>GD N cq c (λcq c st k=>kn X N n T bK m a cq c st k) st k
 |m,.rangeFunc g aB d body,_,cq,c,st,k=>xP st λst=>CP X n bK m g aB.toList d cq (λcq c st k=>kn X N n T bK false d cq c st k) (λcq c st k=>kn X N n T bK false body cq c st k) c st k
 |_,_,_,_,_,_,_=>none
section
variable {X:bz} {M:Bool} {N n:Nat} {rr:Option Nat} {T:List (bI X)} {bK:List (l6 X)}
def sU(X:bz)(M:Bool)(n:Nat){aX:Type}(st:aQ)(k:pe aX):Exit->aQ->aX->Prop:=λe s r=>∃V a,hL X M n s a/\dt V st a/\k e V a=some r
def Ad{aX:Type}(Γ:hC X M n rr aX)(cq:l3 aX):Prop:=∀(ops:List Oper) (Q:Exit->Act->World->Prop),S8 X n ops cq (λl r st=>∀a w,Γ.In r st a w->tk rr X.P ops.toArray Q l a w)
def ag0{aX:Type}(Γ:hC X M n rr aX)(cq:l3 aX):Prop:=M=true->rr=none->∃F:(id:Nat)->hC X false n (some id) aX->Prop,(∀id p3,F id p3->Ad p3 cq) /\
 ∀ {α β:Type} {st:aQ} {Q:Exit->aQ->aX->Prop} {g:Operand} {pl:bX} {assign body:Code} {iz:FuncId} {fn:Func} {gV:eB} {mz:α->ej} {l:List α} {b:Bool} {ms:List (Nat×Nat)} {ak fA:bC} {fz:aX},
  bx X st.L g = some (b, .c (.fn iz gV)) → b = true → X.P.funcs[iz]? = some fn → (fn.name == "runtime.NumGoroutine") = false → fn.body.isNone = false → xL X iz gV ak l mz → (∀ x, (mz x).length = pl.length) → nJ n pl = true → mX n assign ms → nJ n (ms.map (·.1)) = true → ble n iG = true →
  ∀(hz:β->bC) (bQ:List α->β->aX->Prop) (mB:Exit->bC->aX->Prop) (iP:β),bQ l iP fz->st.H=ak++fA->(∀ {env:Nat->Loc} {B:Nat->Prop} {w:World} {H:cI},bG env B w fA H->∃H' Y,H.Perm (H'++Y)/\bG env B w (hz iP) H') ->
  (∀id x rest y r (p3:hC X false n (some id) aX),F id p3->bQ (x::rest) y r->jd p3 body r ⟨tH ms (vc pl (mz x) (gC (hH n) st.L)),hz y⟩ (λe s cS=>(e=.normal/\∃oy,bQ rest oy cS/\∃ea,hL X false n s ⟨ea,hz oy⟩)\/(e≠.normal/\Fa e=true/\∃aR,mB e aR cS/\∃ea,hL X false n s ⟨ea,aR⟩))) ->
  (∀y r,bQ [] y r->Q .normal ⟨gC (hH n) st.L,hz y⟩ r)->(∀e aR r,mB e aR r->Q e ⟨gC (hH n) st.L,aR⟩ r)->jd Γ (.rangeFunc g pl.toArray assign body) fz st Q
def oA{aX:Type}(Γ:hC X M n rr aX)(cq:l3 aX):Prop:=Ad Γ cq/\ag0 Γ cq
theorem Ad.inner{aX:Type}{id:Nat}{Γ:hC X false n (some id) aX}{cq:l3 aX}(h:Ad Γ cq):oA Γ cq:=⟨h,λh=>by cases h⟩
theorem oA.none{aX:Type}{Γ:hC X M n rr aX}:oA Γ none:=⟨λ_ _ _ h=>(by cases h),λj c=>by
 subst j c;refine⟨λid A=>∃R W aD a,A=hC.Gv R W aD a,λ_ _ _ _ _ _ h=>(by cases h),?_⟩;intro α β st Q g pl assign body H fn gV K l b ms ak G a f ab m C z o p t D v ba q bQ u r d c7 k E w B;exact l5 (xO (agO (Q:=λe s=>Q e s a) f ab m C z o p t D v ba q (λl y=>bQ l y a) (λe h=>u e h a) r d c7 k (λid x rest y aG=>Gx λR W aD=>E id x rest y a _ ⟨R,W,aD,a,rfl⟩ aG) (λy aG=>w y a aG) (λe i h=>B e i a h))) λe s F ⟨I,J⟩=>by rw[J];exact I⟩
def Ae(X:bz)(M:Bool)(n:Nat)(rr:Option Nat)(c:Code)(f:uk):Prop:=
 ∀(aX:Type) (Γ:hC X M n rr aX) (cq:l3 aX),oA Γ cq->∀(a:gl) (st:aQ) (k:pe aX) (r:aX),f cq a st k=some r->jd Γ c r st (sU X M n st k)
theorem ag1{aX:Type}{Γ:hC X M n rr aX}{cq:l3 aX}(aG:oA Γ cq){fD cK:Code}{a b:uk}(bm:Ae X M n rr fD a)(ab:Ae X M n rr cK b){z:gl}{st:aQ}{k:pe aX}{r:aX}(h:GC cq z a b st k=some r):jd Γ (.seq fD cK) r st (sU X M n st k):=by
 unfold GC at h
 split at h
 ·rename_i g x y
  obtain⟨d,I,J⟩:=ct h;refine Md (l5 (Gw (bm _ (Γ.const r d) none oA.none _ _ _ _ I)) λe s v ⟨t,V,p,hw,f,c⟩=>?_);subst t;cases e with
  |normal=>exact z8 (hw.trans (eG.jL (k7.self g st) f c).m) (l5 (ab _ Γ cq aG _ _ _ _ J) λe s u ⟨V2,l,j,m,i⟩=>⟨_,l,j,(eG.aq g st d).trans m,i⟩)
  |_=>cases c
 ·rename_i g x y
  obtain⟨o,I,J⟩:=ct h;refine Md (l5 (Gw (bm _ (Γ.const r o) none oA.none _ _ _ _ I)) λe s v ⟨t,V,p,hw,f,c⟩=>?_);subst t;cases e with
  |normal=>
   simp only at c
   split at c
   ·rename_i d az
    cases c;exact z8 (hw.trans (eG.jL (k7.self g st) f az).m) (l5 (ab _ Γ cq aG _ _ _ _ J) λe s u ⟨V2,l,j,m,i⟩=>⟨_,l,j,(eG.aq g st d).trans m,i⟩)
   ·cases c
  |_=>
   simp only at c
   split at c
   ·rename_i q w
    cases c;cases J;exact⟨V,p,hw,f,w⟩
   ·cases c
 ·refine Md (l5 (bm _ Γ cq aG _ _ _ _ h) λe s v ⟨V,p,hw,f,c⟩=>?_)
  cases e with
  |normal=>exact z8 hw (l5 (ab _ Γ cq aG _ _ _ _ c) λe s u ⟨V2,l,j,m,i⟩=>⟨_,l,j,f.trans m,i⟩)
  |_=>exact⟨V,p,hw,f,c⟩
theorem Mn{q:Nat}{l:bX}:∀ {aq:bX},CM aq l=true->q∈aq->fP q l=true
 |[],_,h=>by cases h
 |k::r,h,hm=>by
  unfold CM at h
  split at h
  ·rename_i I
   rcases List.mem_cons.1 hm with rfl|hm
   ·exact I
   ·exact Mn h hm
  ·cases h
theorem Mo{q:Nat}{l:bX}:∀ {aq:bX},Ac.CN aq l=true->q∈aq->fP q l=false
 |[],_,h=>by cases h
 |k::r,h,hm=>by
  unfold Ac.CN at h
  split at h
  ·cases h
  ·rename_i I
   rcases List.mem_cons.1 hm with rfl|hm
   ·exact I
   ·exact Mo h hm
theorem Mp{q:Nat}:∀ {l:bX},fP q l=true->q∈l
 |[],h=>by cases h
 |k::r,h=>by
  unfold fP at h
  split at h
  ·rename_i e
   rw[eq_of_beq_eq_true e];exact mem_cons_self
  ·exact mem_cons_of_mem _ (Mp h)
theorem GJ{p:Nat×b8}:∀ {aq:bX} {L:c6},p∈lz aq L->p.1∈aq
 |[],_,h=>by cases h
 |k::r,L,h=>by
  unfold lz at h
  split at h
  ·split at h
   ·rcases List.mem_cons.1 h with rfl|h
    ·exact mem_cons_self
    ·exact mem_cons_of_mem _ (GJ h)
   ·exact mem_cons_of_mem _ (GJ h)
  ·exact mem_cons_of_mem _ (GJ h)
theorem GK{p:Nat×cC}:∀ {aq:bX} {L:bC},p∈h4 aq L->p.1∈aq
 |[],_,h=>by cases h
 |k::r,L,h=>by
  unfold h4 at h
  split at h
  ·split at h
   ·rcases List.mem_cons.1 h with rfl|h
    ·exact mem_cons_self
    ·exact mem_cons_of_mem _ (GK h)
   ·exact mem_cons_of_mem _ (GK h)
  ·exact mem_cons_of_mem _ (GK h)
theorem T9{q:Nat}{v:b8}:∀ {aq:bX} {L:c6},q∈aq->bj L q=some v->v.free=true->(q,v)∈lz aq L
 |[],_,h,_,_=>by cases h
 |k::r,L,h,ah,aC=>by
  unfold lz
  rcases List.mem_cons.1 h with rfl|h
  ·simp only[ah,aC];exact mem_cons_self
  ·have:=T9 h ah aC
   split
   ·split
    ·exact mem_cons_of_mem _ this
    ·exact this
   ·exact this
theorem Ua{q:Nat}{v:cC}:∀ {aq:bX} {L:bC},q∈aq->bj L q=some v->v.free=true->(q,v)∈h4 aq L
 |[],_,h,_,_=>by cases h
 |k::r,L,h,ah,aC=>by
  unfold h4
  rcases List.mem_cons.1 h with rfl|h
  ·simp only[ah,aC];exact mem_cons_self
  ·have:=Ua h ah aC
   split
   ·split
    ·exact mem_cons_of_mem _ this
    ·exact this
   ·exact this
theorem k7.out{a e:eG}(an:Ac a e=true)(st:aQ)(d:a.D):k7 e st (a.S st d):=by
 unfold Ac at an
 split at an
 ·rename_i I J ag f
  refine⟨λp ak _=>?_,λp ak _=>?_⟩
  ·have aa:=GJ ak
   obtain⟨b,c⟩:=xy ak;exact(k7.step a st d).1 p (T9 (Mp (Mn I aa)) b c) (Mo ag aa)
  ·have aa:=GK ak
   obtain⟨b,c⟩:=rN ak;exact(k7.step a st d).2 p (Ua (Mp (Mn J aa)) b c) (Mo f aa)
 ·cases an
theorem ag2{aX:Type}{Γ:hC X M n rr aX}{cq:l3 aX}(aG:oA Γ cq){c:Code}{a:uk}(bm:Ae X M n rr c a){E:gl}{st:aQ}{k:pe aX}{r:aX}(h:GD N cq E a st k=some r):jd Γ (.loop c) r st (sU X M n st k):=by
 unfold GD at h
 split at h
 ·rename_i f x
  obtain⟨d,I,J⟩:=sT h;refine Me (λ(y:Nat×f.D)=>f.S st y.2) (λy r=>cx _ y.1 y.2=some r) (λy=>y.1) (N,d) J (eG.jL (k7.self f st) (dt.refl st) I).m λy r g=>?_
  obtain⟨m,d2⟩:=y;cases m with
  |zero=>cases g
  |succ m=>
   refine l5 (bm _ Γ cq aG _ _ _ _ g) λe s l ⟨V,u,hw,j,b⟩=>?_
   cases e with
   |normal=>
    obtain⟨t,ag,p⟩:=sT b;exact⟨(m,t),p,Nat.lt_succ_self _,hw.trans (eG.jL (k7.step f st d2) j ag).m⟩
   |_=>exact⟨_,u,hw,(eG.aq f st d2).trans j,b⟩
 ·rename_i id f w x
  obtain⟨o,h,v⟩:=ct h;obtain⟨d,I,J⟩:=sT h;refine Me (λ(y:Nat×f.D)=>f.S st y.2) (λy l=>cx _ y.1 y.2=some o/\l=r) (λy=>y.1) (N,d) ⟨J,rfl⟩ (eG.jL (k7.self f st) (dt.refl (V:=[]) st) I).m λy l g=>?_
  obtain⟨m,d2⟩:=y;obtain⟨g,rfl⟩:=g;cases m with
  |zero=>cases g
  |succ m=>
   refine l5 (Gw (d0:=o) (bm _ (Γ.const l o) none oA.none _ _ _ _ g)) λe s B ⟨z,V,u,hw,j,b⟩=>?_
   subst z;cases e with
   |normal=>
    obtain⟨t,ag,p⟩:=sT b;exact⟨(m,t),⟨p,rfl⟩,Nat.lt_succ_self _,hw.trans (eG.jL (k7.step f st d2) j ag).m⟩
   |exit i=>
    simp only at b
    split at b
    ·rename_i hi an
     have:=eq_of_beq_eq_true hi
     subst this;exact⟨_,_,hw.trans (eG.jL (k7.out an st d2) j b).m,eG.aq w st o,v⟩
    ·cases b
   |_=>cases b
 ·rename_i id f w x
  obtain⟨o,h,v⟩:=ct h;obtain⟨d,I,J⟩:=sT h;refine Me (λ(y:Nat×f.D)=>f.S st y.2) (λy l=>cx _ y.1 y.2=some o/\l=r) (λy=>y.1) (N,d) ⟨J,rfl⟩ (eG.jL (k7.self f st) (dt.refl (V:=[]) st) I).m λy l g=>?_
  obtain⟨m,d2⟩:=y;obtain⟨g,rfl⟩:=g;cases m with
  |zero=>cases g
  |succ m=>
   refine l5 (Gw (d0:=o) (bm _ (Γ.const l o) none oA.none _ _ _ _ g)) λe s B ⟨z,V,u,hw,j,b⟩=>?_
   subst z;have key:∀A,(match k A (V++f.ids) u with
     |some r=>some (Sum.inr r)
     |none=>(none:Option (w.D⊕aX)))=some o->sU X M n st k A s B:=λA b=>by
    split at b
    ·rename_i q D
     cases b;cases v;exact⟨_,u,hw,(eG.aq f st d2).trans j,D⟩
    ·cases b
   cases e with
   |normal=>
    obtain⟨t,ag,p⟩:=sT b;exact⟨(m,t),⟨p,rfl⟩,Nat.lt_succ_self _,hw.trans (eG.jL (k7.step f st d2) j ag).m⟩
   |exit i=>
    simp only at b
    split at b
    ·rename_i hi an
     have:=eq_of_beq_eq_true hi
     subst this
     split at b
     ·rename_i F C
      cases b;exact⟨_,_,hw.trans (eG.jL (k7.out an st d2) j C).m,eG.aq w st F,v⟩
     ·cases b
    ·exact key _ b
    ·cases b
   |_=>exact key _ b
 ·cases h
theorem hL.di{i j:Nat}(d:blt j mi=true){st:aQ}:hL X true n st ⟨gC (kC i j) st.L,pP (kC i j) st.H⟩:=by
 rintro R W aD a w ⟨aq,env,B,ai,H,b,ad⟩;obtain⟨H',I,J⟩:=bG.dp (E9) ad.heap;refine⟨aq,lP env j (env i),B,ai,H',b,ad.size,ad.defs,λs sv e=>?_,J,ad.aT.fq (I.append_right _),ad.sub,ad.new,wM ad.dP (λq ak=>by have I:=b.2 rfl _ _ ak;have J:=dS d;omega),ad.base,ad.eu⟩;obtain⟨u,ag,rfl⟩:=w3 e;obtain⟨v,f,c⟩:=ad.has s u ag;exact⟨v,f,e7.dp E9 c⟩
theorem Mr:∀ {l:List (Nat×Nat)} {st:aQ},GF l=true->hL X true n st (fo l st)
 |[],st,_=>hL.refl st
 |p::l,st,h=>by
  unfold GF at h
  split at h
  ·rename_i I
   exact(hL.di I).trans (Mr h)
  ·cases h
theorem Ms:∀ {c:Code} {ms:List (Nat×Nat)},CO n c=some ms->mX n c ms
 |.region _ ⟨ops⟩ false,_,h=>mX.region h
 |.skip,_,h=>by cases h;exact mX.skip
 |.seq a b,ms,h=>by
  unfold CO at h
  split at h
  ·rename_i x y I J
   cases h;exact mX.seq (Ms I) (Ms J)
  ·cases h
theorem GL:∀ {A:eH} {T:List Type} (d:dy (ki A T)),(jA A d).1.length=A.length
 |[],_,_=>rfl
 |x::A,T,d=>by
  unfold jA;rw[length_cons,length_cons,GL]
theorem Ub{bQ:iK}:∀ {cs:eB},tG cs=true->sA bQ cs=some cs
 |[],_=>rfl
 |.id _::_,h=>by cases h
 |.fr g x::cs,h=>by
  unfold sA;rw[Ub (cs:=cs) h]
theorem Uc{bQ:iK}{c:bs}(h:c.free=true):c.dp bQ=c:=by
 cases c with
 |fn f cs=>simp only[bs.dp];rw[Ub h]
 |_=>first|rfl|cases h
theorem Mt{bQ:iK}:∀ {cs:dT},tT cs=true->vb bQ cs=cs
 |[],_=>rfl
 |c::r,h=>by
  unfold tT at h
  split at h
  ·rename_i e
   show c.dp bQ::vb bQ r=_;rw[Uc e,Mt h]
  ·cases h
theorem Mu{bQ:iK}{x:bp}(h:x.free=true):x.dp bQ=x:=by
 cases x with
 |c x=>simp only[bp.dp];rw[Uc h]
 |agg cs=>simp only[bp.dp];rw[Mt h]
 |arr g l=>rfl
theorem Ud{bQ:iK}:∀ {xs:ej},na xs=true->w2 bQ xs=xs
 |[],_=>rfl
 |c::r,h=>by
  unfold na at h
  split at h
  ·rename_i e
   show c.dp bQ::w2 bQ r=_;rw[Mu e,Ud h]
  ·cases h
theorem ag3{bQ:iK}{v:b8}(h:v.free=true):v.dp bQ=v:=by
 cases v with
 |a x=>simp only[b8.dp];rw[Mu h]
 |may g x=>simp only[b8.dp];rw[Mu h]
 |cY xs=>simp only[b8.dp];rw[Ud h]
theorem ag4{bQ:iK}{b:cC}(h:b.free=true):b.dp bQ=b:=by
 cases b with
 |cells t cs=>simp only[cC.dp];rw[Mt h]
 |cf T T' g l c q=>rcases q with _|⟨i,_|d⟩<;>first|rfl|cases h
 |_=>first|rfl|cases h
theorem Mv(bQ:iK)(L:c6){V:bX}:zD V L (gC bQ L):=cB.map (f:=λv=>v.dp bQ) (λ_ h=>ag3 h) λ_ _ h=>w3 h
theorem Ue(i j:Nat):∀H:bC,nM [j,i] H (pP (kC i j) H)
 |[]=>cB.refl []
 |(k,b)::r=>λq v d ah=>by
  obtain⟨I,J⟩:=hj d;obtain⟨J,_⟩:=hj J;have a:=Ue i j r q v d;unfold pP at ah;rw[cX];have c:kC i j b.qw k=match beq k i with
   |true=>some j
   |false=>match beq k j with
    |true=>none
    |false=>some k:=rfl
  cases aE:beq k i with
  |true=>
   rw[c,aE]at ah;rw[cX,if_neg I]at ah
   have:=eq_of_beq_eq_true aE
   rw[if_neg (by omega)];exact a ah
  |false=>
   cases bb:beq k j with
   |true=>
    rw[c,aE,bb]at ah
    have:=eq_of_beq_eq_true bb
    rw[if_neg (by omega)];exact a ah
   |false=>
    rw[c,aE,bb]at ah;rw[cX]at ah
    split at ah
    ·rename_i e
     cases ah;rw[if_pos e];exact⟨b,rfl,λaC=>ag4 aC⟩
    ·rename_i e
     rw[if_neg e];exact a ah
theorem Mw:∀(l:List (Nat×Nat)) (st:aQ),dt (mC l) st (fo l st)
 |[],st=>dt.refl st
 |p::l,st=>by
  have I:dt [p.2,p.1] st ⟨gC (kC p.1 p.2) st.L,pP (kC p.1 p.2) st.H⟩:=⟨Mv _ _,Ue _ _ _⟩
  exact I.trans (Mw l _)
theorem eG.Uf{X:bz}{n:Nat}{b:eG}{st st':aQ}{f:bC}{V:bX}{d:b.D}(hw:∀p∈h4 b.nL st.H,fP p.1 (eP b.H)=false->bj f p.1=some p.2)(l:nM V f st'.H)(h:b.get st V st'=some d):bP X n st' ⟨st'.L,(b.S st d).H⟩:=by
 unfold eG.get at h
 split at h
 ·rename_i F q A
  split at h
  ·rename_i f j
   split at h
   ·rename_i u k
    split at h
    ·rename_i C o
     cases h;obtain⟨I,J⟩:=xc k;obtain⟨ag,E⟩:=Fw o;have D:∀p∈h4 b.nL st.H,bj st'.H p.1=some p.2:=λp ak=>by
      obtain⟨r,g2,v,g⟩:=Cq q ak;obtain⟨u,i,s⟩:=l p.1 v r g;rw[hw p ak g2]at i;cases i;rw[g,s (rN ak).2]
     rintro R W aD M a w ⟨aq,env,B,ai,H,m,ad⟩;have t:=F8 (y1 j) D (by rw[Cr j];exact A);obtain⟨H',c⟩:=ad.fq (st':=⟨[],f++h4 b.nL st.H⟩) .nil t;refine⟨aq,env,B,ai,H',m,c.size,c.defs,ad.has,?_,c.aT,c.sub,c.new,c.dP,c.base,c.eu⟩;show bG env B ai ((kH b.H (o8 b.L (ou b.T (rD b.T C))).2).1++h4 b.nL st.H) H';rw[w9,ag];obtain⟨H1,H2,e,z,y⟩:=eG.jL.bG.split c.heap;rw[e];exact(J _ _ _ _ z).append y
    ·cases h
   ·cases h
  ·cases h
 ·cases h
theorem Ug{env:Nat->Loc}{B:Nat->Prop}{w:World}:∀ {is:bX} {H h H':bC} {C:cI},vD is H=some (h,H')->bG env B w H C->∃a,C.Perm a/\bG env B w (h++H') a
 |[],H,h,H',C,ak,cF=>by cases ak;exact⟨C,List.Perm.refl _,cF⟩
 |i::is,H,h,H',C,ak,cF=>by
  unfold vD at ak
  split at ak
  ·rename_i b ab
   split at ak
   ·rename_i I H1 e
    cases ak;obtain⟨c,H2,d,f,g⟩:=cF.erase ab;obtain⟨a,k,j⟩:=Ug e g;exact⟨c::a,f.trans (List.Perm.cons _ k),⟨c,a,rfl,d,j⟩⟩
   ·cases ak
  ·cases ak
theorem Mx:∀ {is:bX} {H h H':bC},vD is H=some (h,H')->nM is H H'
 |[],H,h,H',ak=>by cases ak;exact cB.refl _
 |i::is,H,h,H',ak=>by
  unfold vD at ak
  split at ak
  ·split at ak
   ·rename_i I H1 e
    cases ak;exact((Lo H).trans (Mx e)).more λq a=>by
     obtain⟨I,J⟩:=hj a;exact rH.2 ⟨J,sM.2 ⟨I,rfl⟩⟩
   ·cases ak
  ·cases ak
theorem Uh{st:aQ}{is:bX}{h H':bC}(he:vD is st.H=some (h,H')):bP X n st ⟨st.L,h++H'⟩:=λ_ _ _ _ _ _ ⟨aq,env,B,ai,H,b,ad⟩=>by
 obtain⟨d,a,c⟩:=Ug he ad.heap;exact⟨aq,env,B,ai,d,b,ad.size,ad.defs,ad.has,c,ad.aT.perm (a.append_right _),ad.sub,ad.new,ad.dP,ad.base,ad.eu⟩
theorem CR{aX:Type}{f:FuncId}{gV:eB}{H:bC}{K:(E:eH)->bX->bC->List (dy (ki E []))->Option aX}{r:aX}:∀ {bK:List (l6 X)},xQ f gV H K bK=some r->∃e:l6 X,e.f=f/\∃h H' ak l,vD (eP e.G) H=some (h,H')/\(∀env B w C,bG env B w h C->bG env B w ak C)/\xL X f gV ak l (λx=>(jA e.E x).1)/\K e.E (eP e.G) H' l=some r
 |[],h=>by cases h
 |e::bK,h=>by
  unfold xQ at h
  split at h
  ·rename_i c H' aC b
   split at h
   ·rename_i t bg
    split at h
    ·rename_i d az
     obtain⟨l,I,J⟩:=ct h;have a:=eq_of_beq_eq_true aC;have U:=Fs az
     have:=e.ok d l I
     rw[U]at this;exact⟨e,a,c,H',_,l,b,(xc bg).2,a ▸ this,J⟩
    ·exact CR h
   ·exact CR h
  ·exact CR h
theorem eG.Ui{a:eG}{L:c6}{b:bC}{d:a.D}(h:a.get ⟨L,b⟩ [] ⟨L,b⟩=some d){env:Nat->Loc}{B:Nat->Prop}{w:World}{H:cI}(j:bG env B w b H):∃H' Y,H.Perm (H'++Y)/\bG env B w (a.S ⟨L,b⟩ d).H H':=by
 unfold eG.get at h
 split at h
 ·rename_i z t q
  split at h
  ·rename_i I c
   split at h
   ·rename_i u f
    split at h
    ·rename_i r g
     cases h;obtain⟨v,g2⟩:=xc f;obtain⟨l,y⟩:=Fw g;have s:∀p∈h4 a.nL b,bj b p.1=some p.2:=λp ak=>(rN ak).1
     have m:=F8 (y1 c) s (by rw[Cr c];exact q);obtain⟨H',Y,o,n⟩:=m.JV j;refine⟨H',Y,o,?_⟩;show bG env B w ((kH a.H (o8 a.L (ou a.T (rD a.T r))).2).1++h4 a.nL b) H';rw[w9,l];obtain⟨H1,H2,e,i,k⟩:=bG.split n;rw[e];exact(g2 _ _ _ _ i).append k
    ·cases h
   ·cases h
  ·cases h
 ·cases h
theorem ag5(A:M=true)(ay:rr=none){aX:Type}{Γ:hC X M n rr aX}{cq:l3 aX}(aG:oA Γ cq){g:Operand}{pl:bX}{ap body:Code}{m:Bool}{b a:uk}(aL:∀id,Ae X false n (some id) ap b)(bm:∀id,Ae X false n (some id) body a){aF:gl}{st:aQ}{k:pe aX}{r:aX}(h:CP X n bK m g pl ap cq b a aF st k=some r):jd Γ (.rangeFunc g pl.toArray ap body) r st (sU X M n st k):=by
 subst A;subst ay;obtain⟨F,aI,aB⟩:=aG.2 rfl rfl;unfold CP at h
 split at h
 ·rename_i di j x
  split at h
  ·rename_i au aR ba
   split at h
   ·rename_i c f gV ms Y ax
    obtain⟨U,h⟩:=e3 h;obtain⟨e,P,aH,d,ak,l,E,S,al,h⟩:=CR h
    split at h
    ·rename_i ae an aM
     obtain⟨am,K,ar⟩:=sT h;have L:=eq_of_beq_eq_true ae;subst P;have z:∀ {V:bX} {o:bC},nM V d o->dt (V++(eP e.G++mC di)) st ⟨gC (hH n) (fo di st).L,o⟩:=λ{V o} aa=>(Mw di st).trans (dt.trans (b:=⟨(fo di st).L,d⟩) ⟨cB.refl _,Mx E⟩ ⟨Mv _ _,aa⟩) |>.more λq t=>by
      rw[<- append_assoc]at t;exact t
     have N:bP X n (fo di st) ⟨(fo di st).L,ak++d⟩:=λR W aD M a w T=>by
      obtain⟨aq,env,B,ai,H,A,ad⟩:=Uh E _ _ _ _ _ _ T;obtain⟨H1,H2,aj,ab,af⟩:=bG.split ad.heap;exact⟨aq,env,B,ai,H,A,ad.size,ad.defs,ad.has,by rw[aj];exact(S _ _ _ _ ab).append af,ad.aT,ad.sub,ad.new,ad.dP,ad.base,ad.eu⟩
     refine z8 ((Mr au).trans N.m) (aB Y U e.aC e.ba e.ab al (λx=>by rw[GL];exact L) an (Ms ax) aM ba (λy=>(j.S ⟨(fo di st).L,d⟩ y).H) (λl y G=>kJ (GG n j ms pl (eP e.G++mC di) e.E ⟨(fo di st).L,d⟩ cq a x k) l y (λy=>k .normal (j.ids++(eP e.G++mC di)) ⟨gC (hH n) (fo di st).L,(j.S ⟨(fo di st).L,d⟩ y).H⟩)=some G) (λe o G=>∃V,dt V st ⟨gC (hH n) (fo di st).L,o⟩/\k e V ⟨gC (hH n) (fo di st).L,o⟩=some G) am ar rfl (λac=>eG.Ui K ac) ?_ ?_ ?_)
     ·intro id q rest y Z aw aC t
      have ao:GG n j ms pl (eP e.G++mC di) e.E ⟨(fo di st).L,d⟩ cq a x k q y (λah=>kJ (GG n j ms pl (eP e.G++mC di) e.E ⟨(fo di st).L,d⟩ cq a x k) rest ah (λy=>k .normal (j.ids++(eP e.G++mC di)) ⟨gC (hH n) (fo di st).L,(j.S ⟨(fo di st).L,d⟩ y).H⟩))=some Z:=t;refine l5 (bm id _ aw cq (aI id aw aC).inner _ _ _ _ ao) λC s aP ⟨V,u,hw,D,p⟩=>?_
      cases C with
      |normal=>
       obtain⟨d2,ag,v⟩:=sT p;exact .inl ⟨rfl,d2,v,_,hw.trans (eG.Uf (k7.step j ⟨(fo di st).L,d⟩ y).2 D.2 ag).m⟩
      |ret=>exact .inr ⟨(λh=>by cases h),rfl,u.H,⟨_,z ((eG.aq j ⟨(fo di st).L,d⟩ y).2.trans D.2),p⟩,u.L,hw⟩
      |exit i=>exact .inr ⟨(λh=>by cases h),rfl,u.H,⟨_,z ((eG.aq j ⟨(fo di st).L,d⟩ y).2.trans D.2),p⟩,u.L,hw⟩
      |_=>cases p
     ·intro y Z aG
      exact⟨_,_,hL.refl _,z (eG.aq j ⟨(fo di st).L,d⟩ y).2,aG⟩
     ·rintro C o Z ⟨V,ag,v⟩
      exact⟨V,_,hL.refl _,ag,v⟩
    ·cases h
   ·rename_i c f gV Y ax
    split at h
    ·obtain⟨U,h⟩:=e3 h
     obtain⟨e,P,aH,d,ak,l,E,S,al,h⟩:=CR h
     split at h
     ·rename_i ae an
      obtain⟨am,K,ar⟩:=sT h;have L:=eq_of_beq_eq_true ae;subst P;have z:∀ {V:bX} {o:bC},nM V d o->dt (V++(eP e.G++mC di)) st ⟨gC (hH n) (fo di st).L,o⟩:=λ{V o} aa=>(Mw di st).trans (dt.trans (b:=⟨(fo di st).L,d⟩) ⟨cB.refl _,Mx E⟩ ⟨Mv _ _,aa⟩) |>.more λq t=>by
       rw[<- append_assoc]at t;exact t
      have N:bP X n (fo di st) ⟨(fo di st).L,ak++d⟩:=λR W aD M a w T=>by
       obtain⟨aq,env,B,ai,H,A,ad⟩:=Uh E _ _ _ _ _ _ T;obtain⟨H1,H2,aj,ab,af⟩:=bG.split ad.heap;exact⟨aq,env,B,ai,H,A,ad.size,ad.defs,ad.has,by rw[aj];exact(S _ _ _ _ ab).append af,ad.aT,ad.sub,ad.new,ad.dP,ad.base,ad.eu⟩
      refine z8 ((Mr au).trans N.m) (l5 (xO (TW (Q:=λe s=>sU X true n st k e s r) Y U e.aC e.ba e.ab al (λx=>by rw[GL];exact L) an ba (λy=>(j.S ⟨(fo di st).L,d⟩ y).H) (λl y=>kJ (stepG n j pl (eP e.G++mC di) e.E ⟨(fo di st).L,d⟩ b a x k) l y (λy=>k .normal (j.ids++(eP e.G++mC di)) ⟨gC (hH n) (fo di st).L,(j.S ⟨(fo di st).L,d⟩ y).H⟩)=some r) (λe o=>∃V,dt V st ⟨gC (hH n) (fo di st).L,o⟩/\k e V ⟨gC (hH n) (fo di st).L,o⟩=some r) am ar rfl (λac=>eG.Ui K ac) ?_ ?_ ?_)) λe s G ⟨I,J⟩=>by rw[J];exact I)
      ·intro id q rest y t
       have ao:stepG n j pl (eP e.G++mC di) e.E ⟨(fo di st).L,d⟩ b a x k q y (λah=>kJ (stepG n j pl (eP e.G++mC di) e.E ⟨(fo di st).L,d⟩ b a x k) rest ah (λy=>k .normal (j.ids++(eP e.G++mC di)) ⟨gC (hH n) (fo di st).L,(j.S ⟨(fo di st).L,d⟩ y).H⟩))=some r:=t;refine JY (Gx λR W aD=>aL id _ (hC.Gv R W aD r) none oA.none _ _ _ _ ao) λaA aS I=>?_
       obtain⟨aN,aO,aK,aE,av⟩:=I;cases aA with
       |normal=>
        refine⟨rfl,λR W aD az aJ J=>?_⟩;refine JY (Gx λR W aD=>bm id _ (hC.Gv R W aD r) none oA.none _ _ _ _ av) (λC s J=>?_) R W aD az aJ (aK _ _ _ _ _ J);obtain⟨V,u,hw,D,p⟩:=J;have O:=aE.trans D;cases C with
        |normal=>
         obtain⟨d2,ag,v⟩:=sT p;exact .inl ⟨rfl,d2,v,_,hw.trans (eG.Uf (k7.step j ⟨(fo di st).L,d⟩ y).2 O.2 ag).m⟩
        |ret=>exact .inr ⟨(λh=>by cases h),rfl,u.H,⟨_,z ((eG.aq j ⟨(fo di st).L,d⟩ y).2.trans O.2),p⟩,u.L,hw⟩
        |exit i=>exact .inr ⟨(λh=>by cases h),rfl,u.H,⟨_,z ((eG.aq j ⟨(fo di st).L,d⟩ y).2.trans O.2),p⟩,u.L,hw⟩
        |_=>cases p
       |_=>cases av
      ·intro y aG
       exact⟨_,_,hL.refl _,z (eG.aq j ⟨(fo di st).L,d⟩ y).2,aG⟩
      ·rintro C o ⟨V,ag,v⟩
       exact⟨V,_,hL.refl _,ag,v⟩
     ·cases h
    ·cases h
   ·cases h
  ·cases h
 ·cases h
theorem rS(v:X.aY.ok X.P)(y:X.P.follows .mixedOrders=true):∀(c:Code) (m M:Bool) (rr:Option Nat),(m=true->M=true/\rr=none)->Ae X M n rr c (λcq d st k=>kn X N n T bK m c cq d st k)
 |.skip,m,M,rr,_=>λaX Γ cq aG d st k r h=>by
  obtain⟨V,p,hw,o,j⟩:=Ab (dt.refl (V:=[]) st) (show p2 n d.Aa [] st (λV st'=>k .normal V st')=some r by cases m<;>exact h);exact l5 (xO (jX ⟨V,p,hw.m,o,j⟩)) λe s t ⟨I,J⟩=>J ▸ I
 |.exit id,m,M,rr,_=>λaX Γ cq aG d st k r h=>by
  obtain⟨V,p,hw,o,j⟩:=Ab (dt.refl (V:=[]) st) (show p2 n d.Aa [] st (λV st'=>k (.exit id) V st')=some r by cases m<;>exact h);exact l5 (xO (rk ⟨V,p,hw.m,o,j⟩)) λe s t ⟨I,J⟩=>J ▸ I
 |.ret,m,M,rr,_=>λaX Γ cq aG d st k r h=>by
  obtain⟨V,p,hw,o,j⟩:=Ab (dt.refl (V:=[]) st) (show p2 n d.Aa [] st (λV st'=>k .ret V st')=some r by cases m<;>exact h);exact l5 (xO (kc ⟨V,p,hw.m,o,j⟩)) λe s t ⟨I,J⟩=>J ▸ I
 |.label l,m,M,rr,_=>λaX Γ cq aG d st k r h=>by
  exact l5 (xO (adP ⟨[],st,hL.refl _,dt.refl st,by cases m<;>exact h⟩)) λe s t ⟨I,J⟩=>J ▸ I
 |.region id ops false,m,M,rr,_=>λaX Γ cq aG d st k r h=>by
  have f:ly X n T cq (eN ops.toList) d.ins ops.toList [] [] [] st (λV st'=>k .normal V st')=some r:=by cases m<;>exact(CL st _).symm.trans h
  intro a w hi;have G:F5 X n ops.toList (λl r K=>∀a w,Γ.In r K a w->tk rr X.P ops.toList.toArray (λe a w=>∃s t,sU X M n st k e s t/\Γ.In t s a w) l a w):=⟨λj A a w hi=>nu (Γ.step j hi λa w h=>A a w h),λhw A a w hi=>A a w (Γ.fq hw.m hi)⟩
  have:=Jl (id:=id) (vu v G (aG.1 _ _) fa.nil (dt.refl st) f (λV p t o j a w hi=>Jc ⟨p,t,⟨V,p,hL.refl _,o,j⟩,hi⟩) a w hi)
  exact this
 |.region id ops true,m,M,rr,_=>λaX Γ cq aG d st k r h=>by
  have f:p2 n d.pre [] st (λC st=>xP st λst=>match beq ops.toList.length (nR d.rQ.2.1)with
   |true=>sS X n T ops.toList d.rQ.1 d.rQ.2.1 ⟨Array.replicate (nR d.rQ.2.1) false,true,true,true,d.T1⟩ [] C [] st λV st'=>p2 n d.rQ.2.2 V st' λV st'=>k .normal V st'
   |false=>none)=some r:=by cases m<;>exact(CL st _).symm.trans h
  obtain⟨C,P,D,E,f⟩:=Ab (dt.refl st) f;rw[CL]at f
  split at f
  ·rename_i e
   have ah:=eq_of_beq_eq_true e
   have:=BG (M:=M) (Q:=λe s=>sU X M n st k e s r) (id:=id) (r:=rr) d.rQ.1 y ah (xE v (λV st' o j=>by
    obtain⟨V2,L,hw,O,H⟩:=Ab o j;exact⟨V2,L,hw.m,O,H⟩) fa.nil E f)
   exact z8 D.m (l5 (xO this) λe s t ⟨I,J⟩=>J ▸ I)
  ·cases f
 |.seq a b,m,M,rr,u=>λaX Γ cq aG d st k r h=>ag1 aG (rS v y a m M rr u) (rS v y b m M rr u) (show GC cq d (λcq d st k=>kn X N n T bK m a cq d st k) (λcq d st k=>kn X N n T bK m b cq d st k) st k=some r by cases m<;>exact h)
 |.cond x a b,m,M,rr,u=>λaX Γ cq aG d st k r h=>by
  have f:(match bx X st.L x with
   |some (g,.c (.val (.bool q)))=>ay g (cond q (kn X N n T bK m a cq d.fst st k) (kn X N n T bK m b cq d.snd st k))
   |_=>none)=some r:=by cases m<;>exact h
  split at f
  ·rename_i g q an
   obtain⟨F,f⟩:=e3 f;exact agQ an F (λz=>rS v y a m M rr u _ Γ cq aG _ _ _ _ (iL z f)) (λz=>rS v y b m M rr u _ Γ cq aG _ _ _ _ (kf z f))
  ·cases f
 |.block id a,m,M,rr,u=>λaX Γ cq aG d st k r h=>by
  have f:(kn X N n T bK m a cq d.fst st λe V st'=>match e with
   |.exit i=>match beq i id with
    |true=>k .normal V st'
    |false=>k (.exit i) V st'
   |e=>k e V st')=some r:=by cases m<;>exact h
  refine agR (l5 (rS v y a m M rr u _ Γ cq aG _ _ _ _ f) λe s t ⟨V,p,hw,o,j⟩=>?_);cases e with
  |exit i=>
   show match beq i id with|true=>sU X M n st k .normal s t|false=>sU X M n st k (.exit i) s t
   simp only at j
   split at j
   ·exact⟨V,p,hw,o,j⟩
   ·exact⟨V,p,hw,o,j⟩
  |_=>exact⟨V,p,hw,o,j⟩
 |.scope a,m,M,rr,u=>λaX Γ cq aG d st k r h=>by
  have f:(kn X N n T bK m a cq d.fst st λe V st'=>match e with
   |.goto _=>none
   |e=>k e V st')=some r:=by cases m<;>exact h
  refine agT (l5 (rS v y a m M rr u _ Γ cq aG _ _ _ _ f) λe s t ⟨V,p,hw,o,j⟩=>?_);cases e with
  |goto l=>cases j
  |_=>exact⟨V,p,hw,o,j⟩
 |.loop a,m,M,rr,u=>λaX Γ cq aG d st k r h=>ag2 aG (rS v y a m M rr u) (show GD N cq d (λcq d st k=>kn X N n T bK m a cq d st k) st k=some r by cases m<;>exact(CL st _).symm.trans h)
 |.rangeFunc g aB B body,m,M,rr,u=>λaX Γ cq aG d st k r h=>by
  have f:CP X n bK m g aB.toList B cq (λcq d st k=>kn X N n T bK false B cq d st k) (λcq d st k=>kn X N n T bK false body cq d st k) d st k=some r:=by cases m<;>exact(CL st _).symm.trans h
  cases m with
  |false=>
   unfold CP at f
   split at f
   ·cases f
   ·cases f
  |true=>
   obtain⟨I,J⟩:=u rfl;exact ag5 I J aG (λid=>rS v y B false false (some id) (λh=>by cases h)) (λid=>rS v y body false false (some id) (λh=>by cases h)) f
 |.goto _,m,_,_,_=>λ_ _ _ _ _ _ _ _ h=>by cases m<;>cases h
 |.refuse _,m,_,_,_=>λ_ _ _ _ _ _ _ _ h=>by cases m<;>cases h
structure l7 where
 R:mu
 H:List (Nat×gX):=[]
 k:bX:=[]
abbrev l7.ty(R:l7):Type:=BW (R.R.LT (ov R.H []))
def l7.out(R:l7)(a:bC)(r:R.ty):b8×bC:=((R.R.S (ou _ r)).1,(kH R.H (R.R.S (ou _ r)).2).1++h4 R.k a)
def l7.get(R:l7)(a:bC)(V:bX)(H:bC)(sv:b8):Option R.ty:=
 match zS V (eP R.H) H (h4 R.k a),rq (eP R.H++eP (h4 R.k a))with
 |true,true=>match u2 H (eP R.H)with
  |some h=>match xb (T:=[]) R.H h ()with
   |some u=>match R.R.get sv u with
    |some u=>some (rD _ u)
    |none=>none
   |none=>none
  |none=>none
 |_,_=>none
theorem l7.jL{R:l7}{fG st:aQ}{V:bX}{sv:b8}{r:R.ty}(j:dt V fG st)(h:R.get fG.H V st.H sv=some r):∃a,xa sv (R.out fG.H r).1/\od st.H a/\∀env B w H,bG env B w a H->bG env B w (R.out fG.H r).2 H:=by
 unfold l7.get at h
 split at h
 ·rename_i m t
  split at h
  ·rename_i i d
   split at h
   ·rename_i u g
    split at h
    ·rename_i f l
     cases h;obtain⟨I,J⟩:=xc g;obtain⟨ag,k⟩:=mu.jL l;have y:∀p∈h4 R.k fG.H,bj st.H p.1=some p.2:=λp ak=>by
      obtain⟨n,g2,v,b⟩:=Cq m ak;obtain⟨u,c,o⟩:=j.2 p.1 v n b;rw[(rN ak).1]at c;cases c;rw[b,o (rN ak).2]
     refine⟨i++h4 R.k fG.H,?_,F8 (y1 d) y (by rw[Cr d];exact t),λenv B w H a=>?_⟩
     ·show xa sv (R.R.S (ou _ (rD _ f))).1
      rw[w9];exact k
     ·show bG env B w ((kH R.H (R.R.S (ou _ (rD _ f))).2).1++h4 R.k fG.H) H
      rw[w9,ag];obtain⟨H1,H2,e,s,q⟩:=eG.jL.bG.split a;rw[e];exact(J _ _ _ _ s).append q
    ·cases h
   ·cases h
  ·cases h
 ·cases h
def ag9(X:bz)(res:List ResultVar)(R:l7)(a:bC):pe R.ty
 |.goto _,_,_=>none
 |.exit _,_,_=>none
 |.panic _,_,_=>none
 |.outgrown,_,_=>none
 |_,V,st=>match tw X st res with
  |some (c,sv)=>ay c (R.get a V st.H sv)
  |none=>none
abbrev xS(A:eH)(eO:List (Nat×gX)):Type:=dy (ki A (ov eO []))
def oB(A:eH)(eO:List (Nat×gX))(d:xS A eO):ej×bC:=((jA A d).1,(kH eO (jA A d).2).1)
def CT(X:bz)(N n:Nat)(T:List (bI X))(bK:List (l6 X))(c:Code)(a:gl)(res:List ResultVar)(A:eH)(eO:List (Nat×gX))(R:l7)(d:xS A eO):Option R.ty:=
 kn X N n T bK true c none a ⟨rm 0 (oB A eO d).1,(oB A eO d).2⟩ (ag9 X res R (oB A eO d).2)
theorem AC.aha{f:FuncId}{args:ej}{h:bC}{Q d:b8->bC->Prop}(cF:AC X f args h Q)(j:∀sv b,Q sv b->∃a J c,xa sv a/\od b c/\(∀env B w H,bG env B w c H->bG env B w J H)/\d a J):AC X f args h d:=λB ai env vs H W i bm o c=>by
 refine q8.mono (cF B ai env vs H W i bm o c) λv w' ⟨env',B',n,H',sv,b,I,J,ag,k,g,e,l,p⟩=>?_
 obtain⟨a,y,z,m,q,u,s⟩:=j sv b I;obtain⟨H2,Y,t,r⟩:=q.JV e;exact⟨env',B',n,H2,a,y,s,J,ag,k,m _ _ _ _ g,u _ _ _ _ r,(l.perm t).fq (List.sublist_append_left _ _),p⟩
theorem Uk(N:Nat)(i:X.aY.ok X.P)(q:X.P.follows .mixedOrders=true){f:FuncId}{fn:Func}{c:Code}{A:eH}{eO:List (Nat×gX)}{R:l7}(T:List (bI X))(bK:List (l6 X))(j:gl){res:List ResultVar}(aC:X.P.funcs[f]?=some fn)(ab:fn.body=some c)(a1:fn.ntmps=n)(ah:ble A.length n=true)(ba:ble n mi=true)(l:fn.results=res.toArray){d:xS A eO}{r:R.ty}(h:CT X N n T bK c j res A eO R d=some r):AC X f (oB A eO d).1 (oB A eO d).2 (λsv h=>sv=(R.out (oB A eO d).2 r).1/\h=(R.out (oB A eO d).2 r).2):=by
 refine AC.aha (agV (Q:=λsv g=>∃a,xa sv (R.out (oB A eO d).2 r).1/\od g a/\∀env B w H,bG env B w a H->bG env B w (R.out (oB A eO d).2 r).2 H) i aC ab a1 (by show ble (jA A d).1.length n=true;rw[GL];exact ah) ba l (JY (Gx λgM Ul u=>rS i q c true true none (λ_=>⟨rfl,rfl⟩) _ _ none oA.none _ _ _ _ (show kn X N n T bK true c none j _ _=some r from h)) λe s ⟨V,b,hw,o,a⟩=>?_)) λsv g ⟨a,m,p,t⟩=>⟨_,_,a,m,p,t,rfl,rfl⟩
 have key:(match tw X b res with
  |some (c,sv)=>ay c (R.get (oB A eO d).2 V b.H sv)
  |none=>none)=some r->∃st',hL X true n s st'/\∃c sv,tw X st' res=some (c,sv)/\c=true/\∃a,xa sv (R.out (oB A eO d).2 r).1/\od st'.H a/\∀env B w H,bG env B w a H->bG env B w (R.out (oB A eO d).2 r).2 H:=λaa=>by
  split at aa
  ·rename_i c sv k
   obtain⟨U,aa⟩:=e3 aa;exact⟨b,hw,c,sv,k,U,l7.jL o aa⟩
  ·cases aa
 cases e with
 |ret=>exact⟨.inl rfl,key a⟩
 |normal=>exact⟨.inr rfl,key a⟩
 |_=>cases a
def ahb(N : Nat)(av : X.aY.ok X.P)(hm : X.P.follows .mixedOrders = true){fn : Func}{c : Code}(A : eH)(eO : List (Nat × gX))(R : l7)(T : List (bI X))(bK : List (l6 X))(cd : gl)(res : List ResultVar)(f : FuncId)(mv : R.ty)(m : xS A eO → Option R.ty)(aC : X.P.funcs[f]? = some fn)(aP : (fn.name == "runtime.NumGoroutine") = false)(ab : fn.body = some c)(a1 : fn.ntmps = n)(ah : ble A.length n = true)(ba : ble n mi = true)(ax : fn.results = res.toArray)(h:∀d,CT X N n T bK c cd res A eO R d=m d):bI X:=
 { f:=f,fn:=fn,A:=A,eO:=eO,aX:=R.ty,mv:=mv,m:=m,out:=λd r=>R.out (oB A eO d).2 r,aC:=aC,ba:=aP,ab:=by rw[ab];rfl,ok:=λd r he=>Uk N av hm T bK cd aC ab a1 ah ba ax ((h d).trans he) }
def ahc{fn : Func}{c : Code}(A : eH)(eO : List (Nat × gX))(R : l7)(f : FuncId)(mv : R.ty)(aC : X.P.funcs[f]? = some fn)(aP : (fn.name == "runtime.NumGoroutine") = false)(ab : fn.body = some c) : bI X :=
 { f:=f,fn:=fn,A:=A,eO:=eO,aX:=R.ty,mv:=mv,m:=λ_=>none,out:=λd r=>R.out (oB A eO d).2 r,aC:=aC,ba:=aP,ab:=by rw[ab];rfl,ok:=λd r he=>by cases he }
def ahd(N : Nat)(av : X.aY.ok X.P)(hm : X.P.follows .mixedOrders = true){fn : Func}{c : Code}(A : eH)(eO : List (Nat × gX))(R : l7)(T : List (bI X))(bK : List (l6 X))(cd : gl)(res : List ResultVar)(f : FuncId)(mv : R.ty)(m dZ : xS A eO → Option R.ty)(heq : ∀ d, m d = dZ d)(aC : X.P.funcs[f]? = some fn)(aP : (fn.name == "runtime.NumGoroutine") = false)(ab : fn.body = some c)(a1 : fn.ntmps = n)(ah : ble A.length n = true)(ba : ble n mi = true)(ax : fn.results = res.toArray)(h:∀d,CT X N n T bK c cd res A eO R d=m d):bI X:=
 { f:=f,fn:=fn,A:=A,eO:=eO,aX:=R.ty,mv:=mv,m:=dZ,out:=λd r=>R.out (oB A eO d).2 r,aC:=aC,ba:=aP,ab:=by rw[ab];rfl,ok:=λd r he=>Uk N av hm T bK cd aC ab a1 ah ba ax ((h d).trans ((heq d).trans he)) }
def cu(N : Nat)(av : X.aY.ok X.P){fn : Func}{c : Code}{f : FuncId}(A : eH)(eO : List (Nat × gX))(R : l7)(T : List (bI X))(bK : List (l6 X))(cd : gl)(res : List ResultVar)(mv : R.ty)(m : xS A eO → Option R.ty)(aC : X.P.funcs[f]? = some fn)(a1 : fn.ntmps = n)(hm : X.P.follows .mixedOrders = true := by kernel_rfl)(aP : (fn.name == "runtime.NumGoroutine") = false := by rfl)(ab : fn.body = some c := by rfl)(ah : ble A.length n = true := by rfl)(ba : ble n mi = true := by rfl)(ax : fn.results = res.toArray := by rfl)(h:∀d,CT X N n T bK c cd res A eO R d=m d:=by intro d;kernel_rfl):bI X:=ahb N av hm A eO R T bK cd res f mv m aC aP ab a1 ah ba ax h
def oC(N : Nat)(av : X.aY.ok X.P){fn : Func}{c : Code}{f : FuncId}(A : eH)(eO : List (Nat × gX))(R : l7)(T : List (bI X))(bK : List (l6 X))(cd : gl)(res : List ResultVar)(mv : R.ty)(m dZ : xS A eO → Option R.ty)(heq : ∀ d, m d = dZ d)(aC : X.P.funcs[f]? = some fn)(a1 : fn.ntmps = n)(hm : X.P.follows .mixedOrders = true := by kernel_rfl)(aP : (fn.name == "runtime.NumGoroutine") = false := by rfl)(ab : fn.body = some c := by rfl)(ah : ble A.length n = true := by rfl)(ba : ble n mi = true := by rfl)(ax : fn.results = res.toArray := by rfl)(h:∀d,CT X N n T bK c cd res A eO R d=m d:=by intro d;kernel_rfl):bI X:=ahd N av hm A eO R T bK cd res f mv m dZ heq aC aP ab a1 ah ba ax h
end
end
section
theorem bM.Um{X:bz}{gM C o y B':Nat->Prop}{t ai w f:World}{n:Nat}{aq:bX}{env:Nat->Loc}{H:cI}{st:aQ}{a:Act}(h:bM X (λk=>gM k\/C k) t ⟨y,λ_ _=>False,[]⟩ n aq env B' ai H st a w)(j:Grow B' C o w f)(cF:∀k,o k->k<f.heap.size){d:Nat}(az:blt d n=true)(v:Value) :
  bM X (λk=>gM k\/o k) f ⟨B',λ_ _=>False,[]⟩ n aq env B' f H ⟨(d,.c (.val v))::st.L,st.H⟩ (a.put (some d) v) f:=by
 have l:=h.bW.put d v (dS az);have q:∀k,(gM k\/C k)\/B' k->k<w.heap.size:=λk aa=>h.aT.base k aa
 have B:∀k,B' k->f.heap[k]?=w.heap[k]?:=λk aa=>j.et.block k (.inl aa)
 have p:gP B' ai B' f:=⟨λ_ h=>h,λk aa=>(B k aa).trans (h.aT.below.block k (.inr aa))⟩
 have z:∀b,b<w.heap.size->¬((gM b\/C b)\/B' b)->¬(gM b\/o b):=λb ab ba ax=>by
  rcases ax with ax|ax
  ·exact ba (.inl (.inl ax))
  ·rcases j.new b ax with I|I|I
   ·exact ba (.inl (.inr I))
   ·omega
   ·exact ba (.inr I)
 refine⟨l.size,l.defs,λs sv m=>?_,h.heap.up p,⟨ds.refl _ _,λk aa=>?_,λc U=>?_,h.aT.apart⟩,λ_ h=>h,λ_ h=>.inl h,λ_ _ h=>h.elim,ds.refl _ _,λi x an=>(h.eu i x an).up p⟩
 ·rw[cX]at m
  split at m
  ·rename_i e;subst e;cases m;exact⟨v,l.this,rfl⟩
  ·rename_i e
   obtain⟨u,I,J⟩:=h.has s sv m;exact⟨u,l.other e I,J.up p⟩
 ·rcases aa with(aa|aa)|aa
  ·exact lt_of_lt_of_le (q k (.inl (.inl aa))) j.et.size
  ·exact cF k aa
  ·exact lt_of_lt_of_le (q k (.inr aa)) j.et.size
 ·have g:=h.aT.ok c U
  have A:=g.et (w':=f) λb ab=>j.et.block b (.inr ⟨(g.lt ab).2,λr=>(g.lt ab).1 (.inl (.inr r))⟩)
  exact A.base λb ab ax=>by
   rcases ax with ax|ax
   ·exact z b (g.lt ab).2 (g.lt ab).1 ax
   ·exact(g.lt ab).1 (.inr ax)
section
variable {X:bz} {n:Nat} {α:Type}
def hC.it(gM:Nat->Prop)(j:List α->(Nat->Prop)->(Nat->Prop)->World->Prop)(l:Unit->(Nat->Prop)->World->Prop):hC X true n none (List α) where
 In r st a w:=∃C b c,(j r C c b\/(r=[]/\l () C b))/\mO X (λk=>gM k\/C k) b ⟨c,λ_ _=>False,[]⟩ true n st a w
 frame h hi:=by
  obtain⟨C,b,c,I,ag⟩:=hi;exact wpIn_mono (h _ _ _ _ _ ag) λ_ _ _ ⟨s,f,e⟩=>⟨s,f,C,b,c,I,e⟩
 step h hi KK b2:=by
  obtain⟨C,b,c,I,aq,env,B',ai,H,d,ad⟩:=hi;exact h _ _ _ _ _ _ _ _ _ _ ad _ λaU w' env' B' i H' g=>b2 _ _ ⟨C,b,c,I,aq,env',B',i,H',d,g⟩
 fq h hi:=by
  obtain⟨C,b,c,I,ag⟩:=hi;exact⟨C,b,c,I,h _ _ _ _ _ ag⟩
 z7 hi:=by
  obtain⟨C,b,c,I,aq,env,B',ai,H,d,ad⟩:=hi;exact⟨_,_,_,_,_,_,_,_,ad⟩
def vE{α:Type}(b:Bool)(x:α)(f t:Option (List α)):Option (List α):=match b,f,t with
 |true,some [],some l=>some (x::l)
 |_,_,_=>none
def xT(E:eH)(id l:Nat)(args:ej)(f t:Option (List (dy (ki E [])))):Option (List (dy (ki E []))):=match na args,zy (T:=[]) E args ()with
 |true,some x=>vE (beq l id) x f t
 |_,_=>none
theorem YieldAt.zero{P:Program}{l:Nat}{args:Array Value}{W:World}{R:Ending->World->Prop}(h:YieldAt Fence.wide 1 P l args W R):YieldAt Fence.wide 0 P l args W R:=by
 obtain⟨fn,tmps,assign,body,I,J,ag⟩:=h;exact⟨fn,tmps,assign,body,I,J,λc cs _=>ag c cs (room_wide _)⟩
theorem Un{sv:Option b8}{l:Nat}(h:Cj sv=some l):sv=some (.a (.c (.val (.func (.yield l) #[] #[])))):=by
 unfold Cj at h
 split at h
 ·cases h;rfl
 ·cases h
theorem dO.no{env:Nat->Loc}{B:Nat->Prop}{w:World}:∀ {xs:ej} {vs:bY},na xs=true->dO env B w xs vs->dO (λ_=>.no) B w xs vs
 |[],_,_,h=>h
 |.c x::xs,_,aC,⟨v,r,e,I,J⟩=>by
  unfold na at aC
  split at aC
  ·rename_i an
   refine⟨v,r,e,?_,dO.no aC J⟩;have a:x.free=true:=an;cases x with
   |fn f cs=>
    obtain⟨vs,e,ak⟩:=I;exact⟨vs,e,ak.Kn a⟩
   |_=>first|exact I|cases a
  ·cases aC
 |.agg cs::xs,_,aC,⟨v,r,e,⟨vs,b,I⟩,J⟩=>by
  unfold na at aC
  split at aC
  ·rename_i an
   refine⟨v,r,e,⟨vs,b,?_⟩,dO.no aC J⟩;have a:tT cs=true:=an
   clear an e b J
   induction cs generalizing vs with
   |nil=>exact I
   |cons x cs i=>
    obtain⟨v,r,e,ag,d⟩:=I;unfold tT at a
    split at a
    ·rename_i c
     refine⟨v,r,e,?_,i _ d a⟩;cases x with
     |fn f cs=>
      obtain⟨vs,e,ak⟩:=ag;exact⟨vs,e,ak.Kn c⟩
     |_=>first|exact ag|cases c
    ·cases a
  ·cases aC
 |.arr g l::xs,_,aC,⟨v,r,e,I,J⟩=>by
  unfold na at aC
  split at aC
  ·exact⟨v,r,e,I,dO.no aC J⟩
  ·cases aC
structure Cons(X:bz)(E:eH)(id:Nat)(fb:List (dy (ki E []))->(Nat->Prop)->(Nat->Prop)->World->Prop)(hB:Unit->(Nat->Prop)->World->Prop):Prop where
 Af:CB fb
 fS:CA hB
 lt:∀r C b4 W,fb r C b4 W->∀k,C k->k<W.heap.size
 Uo:∀r C W,hB r C W->∀k,C k->k<W.heap.size
 take:∀x rest C b4 ef b0 vs,fb (x::rest) C b4 b0->xF C b4 ef b0->dO (λ_=>.no) ef b0 (jA E x).1 vs->YieldAt Fence.wide 1 X.P id vs.toArray b0 λe dk=>
   (e=.returned (.bool true)/\∃c4,fb rest c4 ef dk/\Grow ef C c4 b0 dk)\/(e=.returned (.bool false)/\∃c4,hB () c4 dk/\Grow ef C c4 b0 dk)
end
end
section
theorem bM.Up{X:bz}{gM C o z r B':Nat->Prop}{p:Nat->Loc->Prop}{A ai w f:World}{n:Nat}{aq:bX}{env:Nat->Loc}{H:cI}{st:aQ}{a:Act}(h:bM X (λk=>gM k\/C k) A ⟨z,p,[]⟩ n aq env B' ai H st a w)(j:Grow B' C o w f)(cF:∀k,o k->k<f.heap.size)(ab:∀k,r k↔B' k){d:Nat}(az:blt d n=true)(v:Value) :
  bM X (λk=>gM k\/o k) f ⟨r,p,[]⟩ n aq env B' f H ⟨(d,.c (.val v))::st.L,st.H⟩ (a.put (some d) v) f:=by
 have l:=h.bW.put d v (dS az);have t:∀k,(gM k\/C k)\/B' k->k<w.heap.size:=λk aa=>h.aT.base k aa
 have E:∀k,B' k->f.heap[k]?=w.heap[k]?:=λk aa=>j.et.block k (.inl aa)
 have q:gP B' ai B' f:=⟨λ_ h=>h,λk aa=>(E k aa).trans (h.aT.below.block k (.inr aa))⟩
 have B:∀b,b<w.heap.size->¬((gM b\/C b)\/B' b)->¬(gM b\/o b):=λb ab ba ax=>by
  rcases ax with ax|ax
  ·exact ba (.inl (.inl ax))
  ·rcases j.new b ax with I|I|I
   ·exact ba (.inl (.inr I))
   ·omega
   ·exact ba (.inr I)
 refine⟨l.size,l.defs,λs sv m=>?_,h.heap.up q,⟨ds.refl _ _,λk aa=>?_,λc U=>?_,h.aT.apart⟩,λk aa=>(ab k).1 aa,λk aa=>.inl ((ab k).2 aa),h.dP,ds.refl _ _,λi x an=>(h.eu i x an).up q⟩
 ·rw[cX]at m
  split at m
  ·rename_i e;subst e;cases m;exact⟨v,l.this,rfl⟩
  ·rename_i e
   obtain⟨u,I,J⟩:=h.has s sv m;exact⟨u,l.other e I,J.up q⟩
 ·rcases aa with(aa|aa)|aa
  ·exact lt_of_lt_of_le (t k (.inl (.inl aa))) j.et.size
  ·exact cF k aa
  ·exact lt_of_lt_of_le (t k (.inr aa)) j.et.size
 ·have g:=h.aT.ok c U
  have D:=g.et (w':=f) λb ab=>j.et.block b (.inr ⟨(g.lt ab).2,λy=>(g.lt ab).1 (.inl (.inr y))⟩)
  exact D.base λb ab ax=>by
   rcases ax with ax|ax
   ·exact B b (g.lt ab).2 (g.lt ab).1 ax
   ·exact(g.lt ab).1 (.inr ax)
section
variable {X:bz} {M:Bool} {n:Nat} {rr:Option Nat} {α:Type}
structure MG where
 gM:Nat->Prop
 gZ:Nat->Prop
 cL:Nat->Prop
 iO:Nat->Prop
 Ul:World
 p:Nat->Loc->Prop
structure MH(D:MG)(C b4:Nat->Prop)(b0:World):Prop where
 cH:∀k,D.gZ k->b4 k\/(¬C k/\tq b0 k)
 xU:ds (λk=>(D.gM k/\¬D.iO k)\/D.gZ k) D.Ul b0
 GN:∀k,D.gM k->¬D.iO k->C k->D.gZ k
 MI:∀k,D.gM k->b4 k->D.gZ k
 MJ:∀k,D.cL k->b4 k
 MK:∀k,D.gZ k->D.gM k
def hC.ML(D:MG)(j:List α->(Nat->Prop)->(Nat->Prop)->World->Prop)(l:Unit->(Nat->Prop)->World->Prop):hC X M n rr (List α) where
 In r st a w:=∃C b c,(j r C c b\/(r=[]/\l () C b))/\MH D C c b/\mO X (λk=>D.gM k\/C k) b ⟨λk=>c k\/D.gZ k,D.p,[]⟩ M n st a w
 frame h hi:=by
  obtain⟨C,b,c,I,J,ag⟩:=hi;exact wpIn_mono (h _ _ _ _ _ ag) λ_ _ _ ⟨s,f,e⟩=>⟨s,f,C,b,c,I,J,e⟩
 step h hi KK b2:=by
  obtain⟨C,b,c,I,J,aq,env,B',ai,H,d,ad⟩:=hi;exact h _ _ _ _ _ _ _ _ _ _ ad _ λaU w' env' B' i H' g=>b2 _ _ ⟨C,b,c,I,J,aq,env',B',i,H',d,g⟩
 fq h hi:=by
  obtain⟨C,b,c,I,J,ag⟩:=hi;exact⟨C,b,c,I,J,h _ _ _ _ _ ag⟩
 z7 hi:=by
  obtain⟨C,b,c,I,J,aq,env,B',ai,H,d,ad⟩:=hi;exact⟨_,_,_,_,_,_,_,_,ad⟩
theorem ahf(ax:X.aY.ok X.P){E:eH}{id:Nat}{D:MG}{K:List (dy (ki E []))->(Nat->Prop)->(Nat->Prop)->World->Prop}{L:Unit->(Nat->Prop)->World->Prop}(U:Cons X E id K L):Ad (Γ:=hC.ML (X:=X) (M:=M) (n:=n) (rr:=rr) D K L) (some (xT E id)):=by
 rintro ops Q em P l args f t r p;cases P;unfold xT at p
 split at p
 ·rename_i x av au
  unfold vE at p
  split at p
  ·rename_i aA ah
   cases p;have ap:=eq_of_beq_eq_true ah;subst ap;refine⟨_,_,rfl,rfl,?_⟩;intro o rest st d s us ay c A B az aG O an S T a w hi;obtain⟨C,ae,af,u,i,aq,env,B',ai,H,v,ad⟩:=hi
   rcases u with u|⟨u,_⟩
   ·obtain⟨vs,I,J⟩:=u4 ad O an
    obtain⟨ft,ag,ac⟩:=ad.has _ _ (Un aG);rw[show ft=_ from ac]at ag;have ak:gP B' ai B' w:=⟨λ_ h=>h,λk aa=>ad.aT.below.block k (.inr aa)⟩
    have Z:=(BY au).2;have ar:=Z _ _ _ _ (dO.no av (J.up ak));have g:ds (λk=>D.gM k\/C k) ae w:=⟨(ad.aT.below.os).trans ad.base.os,(ad.aT.below.tape).trans ad.base.tape,(ad.aT.below.output).trans ad.base.output,le_trans ad.base.size ad.aT.below.size,λk aa=>(ad.aT.below.block k (.inl aa)).trans (ad.base.block k aa)⟩
    have aw:=U.Af _ _ _ _ _ u ⟨g.os,g.tape,g.output,g.size,λk aa=>g.block k (.inr aa)⟩;have ao:xF C af B' w:=⟨λk aa=>ad.sub k (.inl aa),λk aa=>by
     rcases ad.new k aa with(aF|aF)|⟨aF,j⟩
     ·exact .inl aF
     ·exact(i.cH k aF).imp_right λj=>⟨j.1,j.2.et (g.block k (.inl (i.MK k aF)))⟩
     ·exact .inr ⟨λh=>aF (.inr h),j.et (ad.aT.below.block k (.inr aa))⟩⟩
    obtain⟨fn,tmps,assign,body,V,W⟩:=YieldAt.zero (U.take _ _ _ _ _ _ _ aw ao ar);have hw:=B.1 ad;show(if Region.wanted o (yielded ops.toArray a.tmps)then _ else _);rw[if_pos hw];refine⟨λ_ _=>trivial,?_⟩;have al:(execOp a.eval o).run X.P w=.ok (.round l fn tmps assign body) w:=by
     have Y:=ad.bW.aJ (x:=.tmp s) (hs ag);have aj:=Ru ad.bW I;simp only[execOp,A,resolve,Y]
     simp[Deferred.ofValue,invoke,aj,V,go_sem]
    have z:∀k,D.gM k->B' k->D.gZ k:=λk aF j=>by
     rcases ad.new k j with(b1|b1)|⟨b1,_⟩
     ·exact i.MI k aF b1
     ·exact b1
     ·exact absurd (.inl aF) b1
    have G:∀ {q:Nat->Prop} {m:World},Grow B' C q w m->MH D q B' m:=λ{q m} b=>by
     refine⟨λk aa=>.inl (ad.sub k (.inr aa)),?_,λk aF j b1=>?_,z,λk aa=>ad.sub k (.inl (i.MJ k aa)),i.MK⟩
     ·refine i.xU.trans ⟨b.et.os.trans g.os,b.et.tape.trans g.tape,b.et.output.trans g.output,le_trans g.size b.et.size,λk aa=>?_⟩
      have F:=aa.elim (λh=>h.1) (i.MK k);refine(b.et.block k ?_).trans (g.block k (.inl F))
      rcases aa with aa|aa
      ·by_cases N:C k
       ·exact .inl (ad.sub k (.inr (i.GN k aa.1 aa.2 N)))
       ·exact .inr ⟨ad.aT.base k (.inl (.inl F)),N⟩
      ·exact .inl (ad.sub k (.inr aa))
     ·rcases b.new k b1 with dn|dn|dn
      ·exact i.GN k aF j dn
      ·have:=ad.aT.base k (.inl (.inl aF))
       omega
      ·exact z k aF dn
    have y:∀k,(B' k\/D.gZ k)↔B' k:=λk=>⟨λh=>h.elim id λh=>ad.sub k (.inr h),.inl⟩
    rw[Oper.semAt_eq _ _ _ (λc h=>by rw[A]at h;cases h),al];have am:∀ {R:Ending->World->Prop},RoundIn Fence.wide 0 X.P l fn tmps assign body w R->RoundIn (WF rr) 0 X.P l fn tmps assign body w R:=λh=>by cases rr<;>exact h
    refine⟨(λh=>by cases rr<;>cases h),RoundIn.mono (am W) ?_⟩;intro e m ab;rw[B.2]
    rcases ab with⟨rfl,q,rU,b⟩|⟨rfl,q,rU,b⟩
    ·exact T _ _ ⟨q,m,B',.inl rU,G b,aq,env,B',m,H,⟨v.1,v.2⟩,bM.Up ad b (U.lt _ _ _ _ rU) y az _⟩
    ·exact S _ _ ⟨q,m,B',.inr ⟨rfl,rU⟩,G b,aq,env,B',m,H,⟨v.1,v.2⟩,bM.Up ad b (U.Uo _ _ _ rU) y az _⟩
   ·cases u
  ·cases p
 ·cases p
end
end
theorem bM.Us{X:bz}{R c b b':Nat->Prop}{p:Nat->Loc->Prop}{d:List Deferred}{W:World}{n:Nat}{aq:bX}{env:Nat->Loc}{B:Nat->Prop}{ai:World}{H:cI}{st:aQ}{a:Act}{w:World}(h:bM X R W ⟨b,p,d⟩ n aq env B ai H st a w)(g:∀k,R k↔c k)(ab:∀k,b k↔b' k):bM X c W ⟨b',p,d⟩ n aq env B ai H st a w:=by
 have e:=funext λk=>propext (g k)
 have f:=funext λk=>propext (ab k)
 subst e f;exact h
theorem ahg{α β hI:Type}{X:bz}{n:Nat}{st:aQ}{Q:Exit->aQ->List hI->Prop}{g:Operand}{pl:bX}{assign body:Code}{iz:FuncId}{fn:Func}{gV:eB}{mz:α->ej}{l:List α}{b:Bool}{ms:List (Nat×Nat)}{ak fA:bC}{gM:Nat->Prop}{fb:List hI->(Nat->Prop)->(Nat->Prop)->World->Prop}{hB:Unit->(Nat->Prop)->World->Prop}(Af:CB fb)(fS:CA hB){fz:List hI}(aP : bx X st.L g = some (b, .c (.fn iz gV)))(ab : b = true)(gO : X.P.funcs[iz]? = some fn)(pd : (fn.name == "runtime.NumGoroutine") = false)(p1 : fn.body.isNone = false)(hh : xL X iz gV ak l mz)(hlen : ∀ x, (mz x).length = pl.length)(ig : nJ n pl = true)(qI : mX n assign ms)(ob : nJ n (ms.map (·.1)) = true)(ba : ble n iG = true)(hz:β->bC)(bQ:List α->β->List hI->Prop)(mB:Exit->bC->List hI->Prop)(iP:β)(aO:bQ l iP fz)(c7:st.H=ak++fA)(dF:∀ {env:Nat->Loc} {B:Nat->Prop} {w:World} {H:cI},bG env B w fA H->∃H' Y,H.Perm (H'++Y)/\bG env B w (hz iP) H')(rP:∀id x rest y r D,bQ (x::rest) y r->jd (hC.ML (X:=X) (M:=false) (n:=n) (rr:=some id) D fb hB) body r ⟨tH ms (vc pl (mz x) (gC (hH n) st.L)),hz y⟩ (λe s cS=>(e=.normal/\∃oy,bQ rest oy cS/\∃ea,hL X false n s ⟨ea,hz oy⟩)\/(e≠.normal/\Fa e=true/\∃aR,mB e aR cS/\∃ea,hL X false n s ⟨ea,aR⟩)))(oq:∀y r,bQ [] y r->Q .normal ⟨gC (hH n) st.L,hz y⟩ r)(pZ:∀e aR r,mB e aR r->Q e ⟨gC (hH n) st.L,aR⟩ r):jd (hC.it (X:=X) (n:=n) gM fb hB) (.rangeFunc g pl.toArray assign body) fz st Q:=by
 intro a w hi;obtain⟨Ag,Ut,GO,ahh,aq,env,B,ai,oY,bL,fM⟩:=hi;have CF:=fM.heap;rw[c7]at CF;obtain⟨O,H2,L7,ji,iD⟩:=bG.split CF;obtain⟨H,Y,zC,sz⟩:=dF iD;subst L7;have ad:bM X (λk=>gM k\/Ag k) Ut ⟨GO,λ_ _=>False,[]⟩ n aq env B ai (O++H) ⟨st.L,ak++hz iP⟩ a w:=by
  refine⟨fM.size,fM.defs,fM.has,ji.append sz,?_,fM.sub,fM.new,fM.dP,fM.base,fM.eu⟩;have ao:((O++H2)++aq.map dB).Perm (((O++H)++aq.map dB)++Y):=by
   refine((zC.append_left O).append_right _).trans ?_;simp only[append_assoc];exact((List.perm_append_comm).append_left H).append_left O
  exact(fM.aT.perm ao).fq (List.sublist_append_left _ _)
 obtain⟨gv,ee,hE,rfl,dM⟩:=fM.aJ aP ab;obtain⟨nh,gT⟩:∃nh:Nat->Prop,nh=λk=>gM k\/B k:=⟨_,rfl⟩
 have CV:∀k,nh k↔gM k\/B k:=λk=>by rw[gT]
 have jq:bM X (λk=>nh k\/Ag k) w ⟨λk=>GO k\/B k,o0 n env,[]⟩ n aq env B w (O++H) ⟨st.L,ak++hz iP⟩ a w:=ad.Rs.Us (λk=>by rw[CV];constructor<;>(intro h;rcases h with(h|h)|h)<;>simp[h]) λk=>⟨.inr,λh=>h.elim (ad.sub k) id⟩
 have ui:gP B ai B w:=⟨λ_ h=>h,λk aa=>ad.aT.below.block k (.inr aa)⟩
 have xK:∀k,B k->k<w.heap.size:=λk aa=>ad.aT.base k (.inr aa)
 have xH:=hh B w hE env O xK (λi x an=>(ad.eu i x an).up ui) (dM.up ui) (ji.up ui);have ir:=Nat.le_of_ble_eq_true ba;have tz:(H++aq.map dB).Sublist ((O++H)++aq.map dB):=by
  rw[append_assoc];exact List.sublist_append_right _ _
 have L8:bT (mA (λk=>nh k\/Ag k) B H aq) w O w:=by
  have kR:=ad.aT.apart;rw[append_assoc,List.pairwise_append]at kR;refine⟨ds.refl _ _,λk aa=>?_,λc U=>?_,kR.1⟩
  ·rcases aa with aa|aa|⟨c,U,e⟩
   ·exact jq.aT.base k (.inl aa)
   ·exact ad.aT.base k (.inr aa)
   ·exact((ad.aT.ok c (tz.subset U)).lt e).2
  ·have hQ:=jq.aT.ok c (mem_append_left _ (mem_append_left _ U))
   refine hQ.base λb ab aa=>?_
   rcases aa with aa|aa|⟨c',eh,e⟩
   ·exact(hQ.lt ab).1 (.inl aa)
   ·exact(hQ.lt ab).1 (.inr aa)
   ·exact kR.2.2 c U c' eh b ab e
 let n3:=gC (hH n) st.L
 let In:bC->List hI->(Nat->Prop)->(Nat->Prop)->World->Prop:=λh r ahi ahj dk=>∃C p6 b4,(fb r C b4 p6\/(r=[]/\hB () C p6))/\∃env' B' cG H',bM X (λk=>nh k\/C k) p6 ⟨λk=>b4 k\/B k,o0 n env,[]⟩ n aq env' B' cG H' ⟨n3,h⟩ a dk/\(∀k,B' k->b4 k\/(¬C k/\tq dk k))/\(∀k,B k->dk.heap[k]?=w.heap[k]?)/\(∀k,GO k->b4 k)/\ahi=mA (λk=>nh k\/C k) B' H' aq/\∀k,ahj k->B' k
 let a6:List α->(Nat->Prop)->(Nat->Prop)->World->Prop:=λr C b4 dk=>∃y ro,bQ r y ro/\In (hz y) ro C b4 dk
 let my:Code->(Nat->Prop)->World->Prop:=λc C dk=>∃e aR ro b4,Rr e=some c/\mB e aR ro/\In aR ro C b4 dk
 have ahk:∀k,B k->nh k:=λk aa=>(CV k).2 (.inr aa)
 have CG:∀h r C b4 b0 nT,In h r C b4 b0->ds C b0 nT->In h r C b4 nT:=by
  rintro h r C b4 b0 nT ⟨jB,p6,pf,aN,env',B',cG,H',I,J,ag,ar,rfl,aF⟩ aa;exact⟨jB,p6,pf,aN,env',B',cG,H',I.L5 aa,λk c2=>(J k c2).imp_right λh=>⟨h.1,h.2.et (aa.block k (.inr (.inl c2)))⟩,λk c2=>(aa.block k (.inl (.inl (ahk k c2)))).trans (ag k c2),ar,rfl,aF⟩
 have CH:∀ {B':Nat->Prop} {cG:World} {env':Nat->Loc},(∀k,B k->B' k)->(∀k,B k->cG.heap[k]?=w.heap[k]?)->(∀id l,o0 n env id l->env' id=l)->∀s sv,bj n3 s=some sv->∃v,a.tmps[s]?=some v/\e7 env' B' cG sv v:=by
  intro B' cG env' c2 hw he s sv aj;obtain⟨u,I,rfl⟩:=w3 aj;obtain⟨v,J,ag⟩:=jq.has s u I;exact⟨v,J,e7.dp (Ro (λid l ar aF a7=>he id l ⟨ar,aF,a7⟩) ir) (ag.up ⟨c2,hw⟩)⟩
 have CI:∀ {h:bC} {r:List hI} {C b4:Nat->Prop} {b0:World} (k:Nat),w.heap.size<=k->¬C k->b0.heap[k]?=some (.deferred (some []))->In h r C b4 b0->(hC.it (X:=X) (n:=n) gM fb hB).In r ⟨n3,h⟩ { a with defers:={ target:=.collected k,args:=#[] }::a.defers } b0:=by
  rintro h r C b4 b0 k aa vB az ⟨jB,p6,pf,aN,env',B',cG,H',I,J,ag,ar,rfl,aF⟩;have kz:(dB k::(H'++aq.map dB)).Perm (H'++(k::aq).map dB):=by
   exact List.perm_middle.symm
  have er:bT (λq=>(gM q\/jB q)\/B' q) cG (dB k::(H'++aq.map dB)) b0:=by
   have vF:∀q,((gM q\/jB q)\/B' q)->((nh q\/jB q)\/B' q):=λq ao=>ao.imp_left λh=>h.imp_left λh=>(CV q).2 (.inl h)
   refine⟨⟨I.aT.below.os,I.aT.below.tape,I.aT.below.output,I.aT.below.size,λq ao=>I.aT.below.block q (vF q ao)⟩,λq ao=>I.aT.base q (vF q ao),λc U=>?_,List.Pairwise.cons (λc U q aE bb=>?_) I.aT.apart⟩
   ·rcases List.mem_cons.1 U with rfl|U
    ·exact⟨λao=>vB ((vF k ao).elim .inl λh=>.inr (.inl h)),az⟩
    ·exact(I.aT.ok c U).base λq GP ahl=>((I.aT.ok c U).lt GP).1 (vF q ahl)
   ·have:k=q:=Option.some.inj aE
    subst this;exact vB (.inr (.inr ⟨c,U,bb⟩))
  refine⟨jB,p6,pf,aN,k::aq,env',B',cG,H',⟨(λh=>by cases h),λ_ _ _ h=>h.elim⟩,I.size,congrArg (List.cons (wH k)) I.defs,I.has,I.heap,er.perm kz,λq ao=>I.sub q (.inl ao),λq ao=>?_,λ_ _ h=>h.elim,⟨I.base.os,I.base.tape,I.base.output,I.base.size,λq ao=>I.base.block q (ao.imp_left λh=>(CV q).2 (.inl h))⟩,I.eu⟩
  rcases I.new q ao with(a7|a7)|⟨a7,b1⟩
  ·exact .inl a7
  ·rcases fM.new q a7 with b1|⟨b1,_⟩
   ·exact .inl (ar q b1)
   ·refine(J q ao).imp_right λdn=>⟨λiW=>iW.elim (λh=>b1 (.inl h)) dn.1,dn.2.et (I.aT.below.block q (.inr ao)).symm⟩
  ·exact .inr ⟨λdn=>a7 (dn.imp_left λh=>(CV q).2 (.inl h)),b1⟩
 have dD:∀(c:Code) (m:Nat) (Q:Exit->Act->World->Prop) a w,c.wpIn Fence.wide m X.P Q a w↔c.wpIn Fence.wide 0 X.P Q a w:=λc m Q a w=>wpIn_wide.trans wpIn_wide.symm
 have CJ:∀(id:Nat) (c:Code) (m:Nat) (Q:Exit->Act->World->Prop) a w,c.wpIn (Fence.wide.inRound id) 0 X.P Q a w->c.wpIn (Fence.wide.inRound id) m X.P Q a w:=λid c m Q a w h=>by
  intro b k cs zv ab ax;exact h b k cs zv ab (λ_ h=>by cases h)
 refine(dD _ 2 _ _ _).1 ?_;have L9:∀vs:bY,(pl.toArray.zip vs.toArray).foldl (λt (p,v)=>t.setIfInBounds p v) a.tmps=(pl.zip vs).foldl (λt (p,v)=>t.setIfInBounds p v) a.tmps:=λx=>by
  rw[<- Array.foldl_toList,Array.toList_zip]
 refine agA (ad.bW.aJ ee) (λargs w=>P4 gO pd p1) xH (ds.refl _ _) xK (λef nT x vs h=>by have:=dO.length h;rw[hlen x]at this;simpa using this) (λef nT lE x vs aa h=>dO.up ⟨λ_ h=>h,λk ao=>aa.block k ao⟩ h)
  a6 my ?_ ?_ ?_ ?_ ?_ (mA (λk=>nh k\/Ag k) B H aq) ?_ L8 (λvs=>{ tmps:=tI ms ((pl.zip vs).foldl (λt (p,v)=>t.setIfInBounds p v) a.tmps),defers:=[] }) ?_ ?_ ?_ ?_
 ·rintro r C b4 b0 nT ⟨y,ro,aG,I⟩ aa
  exact⟨y,ro,aG,CG _ _ _ _ _ _ I aa⟩
 ·rintro c C b0 nT ⟨e,aR,ro,b4,he,oz,I⟩ aa
  exact⟨e,aR,ro,b4,he,oz,CG _ _ _ _ _ _ I aa⟩
 ·rintro r C b4 b0 ⟨y,ro,aG,jB,p6,pf,aN,env',B',cG,H',I,_,_,_,rfl,_⟩
  exact I.Gq
 ·rintro r C b4 b0 ⟨y,ro,aG,jB,p6,pf,aN,env',B',cG,H',I,_,_,_,rfl,J⟩ k aa
  exact .inr (.inl (J k aa))
 ·rintro c C b0 ⟨e,aR,ro,b4,he,oz,jB,p6,pf,aN,env',B',cG,H',I,_,_,_,rfl,_⟩
  exact I.Gq
 ·have Uu:ds Ag Ut w:=⟨fM.aT.below.os.trans fM.base.os,fM.aT.below.tape.trans fM.base.tape,fM.aT.below.output.trans fM.base.output,le_trans fM.base.size fM.aT.below.size,λk aa=>(fM.aT.below.block k (.inl (.inr aa))).trans (fM.base.block k (.inr aa))⟩
  exact⟨iP,fz,aO,Ag,w,GO,ahh.imp (λh=>Af _ _ _ _ _ h Uu) (λh=>⟨h.1,fS _ _ _ _ h.2 Uu⟩),env,B,w,H,⟨jq.size,jq.defs,CH (λ_ h=>h) (λ_ _=>rfl) (λ_ _ h=>h.2.1),sz.up ui,jq.aT.fq tz,jq.sub,jq.new,jq.dP,jq.base,jq.eu⟩,λk aa=>(fM.new k aa).imp_right λh=>⟨λU=>h.1 (.inr U),h.2.et (fM.aT.below.block k (.inr aa))⟩,λ_ _=>rfl,λ_ h=>h,rfl,λ_ h=>h⟩
 ·intro id x vs b0 K uY b2
  rw[L9];exact CJ _ _ _ _ _ _ (mX.ok qI b2)
 ·rintro id x rest vs C b4 ef b0 ⟨y,ro,aG,jB,p6,pf,aN,uj,c5,b6,H1,aO,CW,Uv,ahm,rfl,qH⟩ nS p0
  obtain⟨gZ,z6⟩:∃gZ:Nat->Prop,gZ=λk=>c5 k\/ef k:=⟨_,rfl⟩
  have MR:∀k,gZ k↔c5 k\/ef k:=λk=>by rw[z6]
  have I:bM X (λk=>nh k\/jB k) p6 ⟨λk=>pf k\/B k,o0 n env,[]⟩ n aq uj gZ b0 H1 ⟨n3,hz y⟩ a b0:=by
   rw[z6];exact aO.now.TV λk aa=>(nS.new k aa).imp (λh=>qH k h) λ⟨h,J⟩=>⟨h,J⟩
  have ahn:∀k,gZ k->pf k\/(¬jB k/\tq b0 k):=λk aa=>by
   rcases (MR k).1 aa with aa|aa
   ·exact CW k aa
   ·rcases nS.new k aa with h|⟨h,J⟩
    ·exact CW k (qH k h)
    ·exact .inr ⟨λU=>h (.inl (.inr U)),J⟩
  have xM:∀k,ef k->gZ k:=λk aa=>(MR k).2 (.inr aa)
  have GQ:∀k,B k->gZ k:=λk aa=>I.sub k (.inr aa)
  have fJ:=I.aT.fq (List.sublist_append_left _ _);have aho:gP gZ b0 gZ b0:=⟨λ_ h=>h,λk aa=>I.aT.below.block k (.inr aa)⟩
  have ahp:Has n uj gZ b0 n3 a.tmps:=⟨ad.size,λs sv aj=>by
   obtain⟨v,J,ag⟩:=I.has s sv aj;exact⟨v,J,ag.up aho⟩⟩
  have ax:=I.round (Has.di (Has.par ahp ig ((dO.any p0).up ⟨xM,λ_ _=>rfl⟩)) ob);have jz:∀k,(nh k\/jB k)\/gZ k->hc b0 H1 k:=λk aa=>⟨fJ.base k aa,λc U e=>((fJ.ok c U).lt e).1 aa⟩
  have Uw:ds jB p6 b0:=⟨I.base.os,I.base.tape,I.base.output,I.base.size,λk aa=>I.base.block k (.inr aa)⟩
  have zh:fb ro jB pf b0\/(ro=[]/\hB () jB b0):=aN.imp (λh=>Af _ _ _ _ _ h Uw) (λh=>⟨h.1,fS _ _ _ _ h.2 Uw⟩);have cT:MH ⟨hc b0 H1,gZ,pf,jB,b0,o0 n uj⟩ jB pf b0:=⟨ahn,ds.refl _ _,λk _ J ag=>absurd ag J,λk _ h=>I.sub k (.inl h),λ_ h=>h,λk h=>jz k (.inr h)⟩
  have Mb:=rP id x rest y ro ⟨hc b0 H1,gZ,pf,jB,b0,o0 n uj⟩ aG _ b0 ⟨jB,b0,pf,zh,cT,[],uj,gZ,b0,H1,⟨λ_=>rfl,λh=>by cases h⟩,ax.Us (λk=>⟨.inl,λh=>h.elim (λh=>h) λh=>jz k (.inl (.inr h))⟩) λk=>⟨.inr,λh=>h.elim (λh=>I.sub k (.inl h)) (λh=>h)⟩⟩;refine wpIn_mono (CJ _ _ 1 _ _ _ Mb) ?_;rintro e a3 lE ⟨s,cS,aj,J⟩;have key:∀aR ea,hL X false n s ⟨ea,aR⟩->∃c4,In aR cS c4 ef lE/\Grow ef (mA (λk=>nh k\/jB k) c5 H1 aq) c4 b0 lE:=by
   intro aR ea hw;obtain⟨u6,MS,Ux,ahq,pg,ahr⟩:=J;obtain⟨agN,Gs,vC,nQ,Gt,Gu,ag⟩:=hw _ _ _ _ _ ahr
   have:=Gu.1 rfl
   subst this;have Uy:∀k,hc b0 H1 k->lE.heap[k]?=MS.heap[k]?:=λk aa=>(ag.aT.below.block k (.inl (.inl aa))).trans (ag.base.block k (.inl aa))
   have vw:∀k,(hc b0 H1 k/\¬jB k)\/gZ k->lE.heap[k]?=b0.heap[k]?:=λk aa=>(Uy k (aa.elim (λh=>h.1) (λh=>jz k (.inr h)))).trans (pg.xU.block k aa)
   have GR:∀k,gZ k->vC k:=λk aa=>ag.sub k (.inr aa)
   have lF:=ag.aT;simp only[map_nil,append_nil]at lF;have MT:∀k,gZ k->nQ.heap[k]?=b0.heap[k]?:=λk aa=>(ag.base.block k (.inl (jz k (.inr aa)))).trans (pg.xU.block k (.inr aa))
   have n2:∀k∈aq,hc b0 H1 k/\¬jB k/\¬u6 k/\¬vC k/\¬nh k/\b0.heap[k]?=some (.deferred (some [])):=by
    intro k aa;have hm:dB k∈H1++aq.map dB:=List.mem_append_right _ (List.mem_map.2 ⟨k,aa,rfl⟩);obtain⟨fu,az⟩:=I.aT.ok (dB k) hm;have GS:hc b0 H1 k:=⟨((I.aT.ok _ hm).lt rfl).2,λc U e=>(List.pairwise_append.1 I.aT.apart).2.2 c U (dB k) (List.mem_map.2 ⟨k,aa,rfl⟩) k e rfl⟩
    have vB:¬jB k:=λh=>fu (.inl (.inr h))
    refine⟨GS,vB,λh=>fu (.inr (pg.GN k GS vB h)),λh=>?_,λh=>fu (.inl (.inl h)),az⟩
    rcases ag.new k h with(ar|ar)|⟨ar,_⟩
    ·exact fu (.inr (pg.MI k GS ar))
    ·exact fu (.inr ar)
    ·exact ar (.inl GS)
   have vF:∀q,((nh q\/u6 q)\/vC q)->((hc b0 H1 q\/u6 q)\/vC q):=λq ao=>ao.imp_left λh=>h.imp_left λh=>jz q (.inl (.inl h))
   have ar:bM X (λk=>nh k\/u6 k) MS ⟨λk=>Ux k\/B k,o0 n env,[]⟩ n aq Gs vC nQ Gt ⟨n3,aR⟩ a lE:=by
    refine⟨I.size,I.defs,CH (λk aa=>GR k (GQ k aa)) (λk aa=>(MT k (GQ k aa)).trans (Uv k aa)) (λid l ak=>(ag.dP id l ⟨(I.dP id l ak).1,(I.dP id l ak).2.1,(I.dP id l ak).2.2⟩).2.1),ag.heap,⟨⟨lF.below.os,lF.below.tape,lF.below.output,lF.below.size,λk aa=>lF.below.block k (vF k aa)⟩,λk aa=>lF.base k (vF k aa),λc U=>?_,?_⟩,λk aa=>aa.elim (λh=>ag.sub k (.inl h)) (λh=>GR k (GQ k h)),λk aa=>?_,λid l ak=>?_,⟨ag.base.os,ag.base.tape,ag.base.output,ag.base.size,λk aa=>ag.base.block k (aa.imp_left λh=>jz k (.inl (.inl h)))⟩,λi x an=>(I.eu i x an).up ⟨GR,MT⟩⟩
    ·rcases List.mem_append.1 U with U|U
     ·exact(lF.ok c U).base λb ab aa=>((lF.ok c U).lt ab).1 (vF b aa)
     ·obtain⟨k,aa,rfl⟩:=List.mem_map.1 U
      obtain⟨g1,g2,g3,g4,g5,g6⟩:=n2 k aa;exact⟨λao=>ao.elim (λh=>h.elim g5 g3) g4,(vw k (.inl ⟨g1,g2⟩)).trans g6⟩
    ·refine List.pairwise_append.2 ⟨lF.apart,(List.pairwise_append.1 I.aT.apart).2.1,λc U c' eh q aE bb=>?_⟩
     obtain⟨k,aa,rfl⟩:=List.mem_map.1 eh
     have:k=q:=Option.some.inj bb
     subst this;exact((lF.ok c U).lt aE).1 (.inl (.inl (n2 k aa).1))
    ·rcases ag.new k aa with(aF|aF)|⟨aF,a7⟩
     ·exact .inl (.inl aF)
     ·rcases I.new k aF with(a7|a7)|⟨a7,b1⟩
      ·exact .inl (.inl (pg.MJ k a7))
      ·exact .inl (.inr a7)
      ·rcases pg.cH k aF with dn|⟨dn,_⟩
       ·exact .inl (.inl dn)
       ·exact .inr ⟨λh=>h.elim (λh=>a7 (.inl h)) dn,b1.et (MT k aF)⟩
     ·exact .inr ⟨λh=>aF (h.imp_left λh=>jz k (.inl (.inl h))),a7⟩
    ·obtain⟨g1,g2,g3⟩:=I.dP id l ak
     exact⟨g1,(ag.dP id l ⟨g1,g2,g3⟩).2.1,g3⟩
   refine⟨_,⟨u6,MS,Ux,ahq,Gs,vC,nQ,Gt,ar,λk aa=>?_,λk aa=>(vw k (.inr (GQ k aa))).trans (Uv k aa),λk aa=>pg.MJ k (ahm k aa),rfl,λk aa=>GR k (xM k aa)⟩,⟨⟨?_,?_,?_,?_,λk aa=>?_⟩,λk aa=>?_⟩⟩
   ·rcases ag.new k aa with(aF|aF)|⟨aF,a7⟩
    ·exact .inl aF
    ·exact(pg.cH k aF).imp_right λh=>⟨h.1,h.2.et (Uy k (jz k (.inr aF)))⟩
    ·exact .inr ⟨λh=>aF (.inr h),a7.et (lF.below.block k (.inr aa))⟩
   ·exact lF.below.os.trans (ag.base.os.trans pg.xU.os)
   ·exact lF.below.tape.trans (ag.base.tape.trans pg.xU.tape)
   ·exact lF.below.output.trans (ag.base.output.trans pg.xU.output)
   ·exact le_trans pg.xU.size (le_trans ag.base.size lF.below.size)
   ·rcases aa with aa|⟨hg,jm⟩
    ·exact vw k (.inr (xM k aa))
    ·exact vw k (.inl ⟨⟨hg,λc U e=>jm (.inr (.inr ⟨c,mem_append_left _ U,e⟩))⟩,λh=>jm (.inl (.inr h))⟩)
   ·by_cases bk:b0.heap.size<=k
    ·exact .inr (.inl bk)
    ·have Mc:k<b0.heap.size:=by omega
     by_cases hg:mA (λk=>nh k\/jB k) c5 H1 aq k
     ·exact .inl hg
     ·by_cases jm:ef k
      ·exact .inr (.inr jm)
      exfalso
      have xN:hc b0 H1 k:=⟨Mc,λc U e=>hg (.inr (.inr ⟨c,mem_append_left _ U,e⟩))⟩
      have ahs:¬jB k:=λh=>hg (.inl (.inr h))
      have MU:¬gZ k:=λh=>((MR k).1 h).elim (λh=>hg (.inr (.inl h))) jm
      rcases aa with aa|aa|⟨c,U,e⟩
      ·rcases aa with aa|aa
       ·exact hg (.inl (.inl aa))
       ·exact MU (pg.GN k xN ahs aa)
      ·rcases ag.new k aa with(aF|aF)|⟨aF,_⟩
       ·exact MU (pg.MI k xN aF)
       ·exact MU aF
       ·exact aF (.inl xN)
      ·rcases List.mem_append.1 U with U|U
       ·exact((lF.ok c U).lt e).1 (.inl (.inl xN))
       ·exact hg (.inr (.inr ⟨c,List.mem_append_right _ U,e⟩))
  rcases aj with⟨rfl,oy,iu,ea,hw⟩|⟨cz,hex,aR,oz,ea,hw⟩
  ·obtain⟨c4,aF,a7⟩:=key _ _ hw
   exact⟨c4,⟨oy,cS,iu,aF⟩,a7⟩
  ·obtain⟨c4,aF,a7⟩:=key _ _ hw
   cases e with
   |normal=>exact absurd rfl cz
   |ret=>exact⟨c4,⟨.ret,aR,cS,_,rfl,oz,aF⟩,a7⟩
   |exit i=>exact⟨c4,⟨.exit i,aR,cS,_,rfl,oz,aF⟩,a7⟩
   |goto t=>cases hex
   |panic c=>cases hex
   |outgrown=>cases hex
 ·rintro k C b4 b0 aa cF ⟨y,ro,aG,I⟩ az
  exact⟨_,_,oq y ro aG,CI k aa cF az I⟩
 ·rintro k c C b0 aa cF ⟨e,aR,ro,b4,he,oz,I⟩ az
  have CK:=CI k aa cF az I;have ao:=pZ e aR ro oz;cases e with
  |ret=>cases he;exact wpIn_ret ⟨_,_,ao,CK⟩
  |exit id=>cases he;exact(dD _ 2 _ _ _).2 (Jm ⟨_,_,ao,CK⟩)
  |normal=>cases he
  |goto t=>cases he
  |panic c=>cases he
  |outgrown=>cases he
section
section
variable {X:bz} {n:Nat} {α:Type}
theorem aht(ae:X.aY.ok X.P){E:eH}{id:Nat}{gM:Nat->Prop}{p:List (dy (ki E []))->(Nat->Prop)->(Nat->Prop)->World->Prop}{q:Unit->(Nat->Prop)->World->Prop}(U:Cons X E id p q):Ad (Γ:=hC.it (X:=X) (n:=n) gM p q) (some (xT E id)):=by
 rintro ops Q em y l args f t r b;cases y;unfold xT at b
 split at b
 ·rename_i x ab Z
  unfold vE at b
  split at b
  ·rename_i aj ah
   cases b;have W:=eq_of_beq_eq_true ah;subst W;refine⟨_,_,rfl,rfl,?_⟩;intro o rest st d s us af c F m az aG u T z A a w hi;obtain⟨C,N,O,g,aq,env,B',ai,H,j,ad⟩:=hi
   rcases g with g|⟨g,_⟩
   ·obtain⟨vs,I,J⟩:=u4 ad u T
    obtain⟨ft,ag,M⟩:=ad.has _ _ (Un aG);rw[show ft=_ from M]at ag;have R:gP B' ai B' w:=⟨λ_ h=>h,λk aa=>ad.aT.below.block k (.inr aa)⟩
    have K:=(BY Z).2;have Y:=K _ _ _ _ (dO.no ab (J.up R));have v:ds C N w:=⟨(ad.aT.below.os).trans ad.base.os,(ad.aT.below.tape).trans ad.base.tape,(ad.aT.below.output).trans ad.base.output,le_trans ad.base.size ad.aT.below.size,λk aa=>(ad.aT.below.block k (.inl (.inr aa))).trans (ad.base.block k (.inr aa))⟩
    have ac:=U.Af _ _ _ _ _ g v;have V:xF C O B' w:=⟨ad.sub,λk aa=>(ad.new k aa).imp_right λ⟨aF,a7⟩=>⟨λh=>aF (.inr h),a7.et (ad.aT.below.block k (.inr aa))⟩⟩
    obtain⟨fn,tmps,assign,body,B,D⟩:=YieldAt.zero (U.take _ _ _ _ _ _ _ ac V Y);have hw:=m.1 ad;show(if Region.wanted o (yielded ops.toArray a.tmps)then _ else _);rw[if_pos hw];refine⟨λ_ _=>trivial,?_⟩;have S:(execOp a.eval o).run X.P w=.ok (.round l fn tmps assign body) w:=by
     have G:=ad.bW.aJ (x:=.tmp s) (hs ag);have P:=Ru ad.bW I;simp only[execOp,F,resolve,G]
     simp[Deferred.ofValue,invoke,P,B,go_sem]
    show Oper.uponIn _ _ _ _ _ _ _ ((o.semAt none a.eval).run X.P w);rw[Oper.semAt_none,S];refine⟨(λh=>by cases h),RoundIn.mono D ?_⟩;intro e i L;rw[m.2]
    rcases L with⟨rfl,c4,rU,cw⟩|⟨rfl,c4,rU,cw⟩
    ·exact A _ _ ⟨c4,i,B',.inl rU,aq,env,B',i,H,⟨j.1,λ_ _ _ h=>h.elim⟩,bM.Um ad cw (U.lt _ _ _ _ rU) az _⟩
    ·exact z _ _ ⟨c4,i,B',.inr ⟨rfl,rU⟩,aq,env,B',i,H,⟨j.1,λ_ _ _ h=>h.elim⟩,bM.Um ad cw (U.Uo _ _ _ rU) az _⟩
   ·cases g
  ·cases b
 ·cases b
theorem ahu(c:X.aY.ok X.P){E:eH}{id:Nat}{gM:Nat->Prop}{a:List (dy (ki E []))->(Nat->Prop)->(Nat->Prop)->World->Prop}{b:Unit->(Nat->Prop)->World->Prop}(U:Cons X E id a b):oA (Γ:=hC.it (X:=X) (n:=n) gM a b) (some (xT E id)):=
 ⟨aht c U,λ_ _=>⟨λi d=>∃D,d=hC.ML D a b,λi d ⟨D,h⟩=>by rw[h];exact ahf c U,λf ab j w u k l p z s ba m bQ q o e c7 g A t v=>
  ahg U.Af U.fS f ab j w u k l p z s ba m bQ q o e c7 g (λid x rest y r D h=>A id x rest y r _ ⟨D,rfl⟩ h) t v⟩⟩
def MV{α:Type}:pe (List α)
 |.normal,_,_=>some []
 |.ret,_,_=>some []
 |_,_,_=>none
theorem ahv(G:X.aY.ok X.P)(am:X.P.follows .mixedOrders=true){N:Nat}{T:List (bI X)}{bK:List (l6 X)}{f:FuncId}{fn:Func}{c:Code}{H:gl}{gV:eB}{ak:bC}{E:eH}{l:List (dy (ki E []))}(aC:X.P.funcs[f]?=some fn)(ab:fn.body=some c)(a1:fn.ntmps=n)(ah:ble (qq gV).length (n-1)=true)(ba:blt 0 n=true)(Z:fn.results=#[])(h:∀id,kn X N n T bK true c (some (xT E id)) H ⟨rm 0 (.c (.val (.func (.yield id) #[] #[]))::qq gV),ak⟩ MV=some l):xL X f gV ak l (λx=>(jA E x).1):=by
 intro B ai j env A ae P Q S id r t W F _ K L q M ap ao C y p;have u:gP B ai B W:=⟨λ_ h=>h,λk aa=>F.block k aa⟩
 have bm:dO env B W (.c (.val (.func (.yield id) #[] #[]))::qq gV) (.func (.yield id) #[] #[]::j):=⟨_,_,rfl,rfl,(By Q).up u⟩
 have al:=bm.length;have hle:(Value.func (.yield id) #[] #[]::j).length<=n:=by
  rw[al,length_cons];have I:=Nat.le_of_ble_eq_true ah;have J:=dS ba;omega
 have O:=Jp a1 hle _ rfl;have e:#[Value.func (.yield id) #[] #[]]++j.toArray=(Value.func (.yield id) #[] #[]::j).toArray:=by simp
 rw[e];refine CallsIn.mono (R:=λe w'=>∃v,e=.returned v/\∃d,(∃o,r [] d o w')\/t () d w') ((callsIn_wide).2 ((callsIn_wide (n:=0)).1 (callsIn_of_wp_marks aC ab trivial ?_))) (λe w' ⟨v,I,J⟩=>⟨⟨v,I⟩,J⟩);obtain⟨gM,D⟩:∃gM:Nat->Prop,gM=λk=>k<W.heap.size/\¬∃c∈A,c.has k:=⟨_,rfl⟩
 have ad:bM X (λk=>gM k\/C k) W ⟨B,λ_ _=>False,[]⟩ n [] env B W A ⟨rm 0 (.c (.val (.func (.yield id) #[] #[]))::qq gV),ak⟩ { tmps:=(Value.func (.yield id) #[] #[]::j).toArray++Array.replicate (fn.ntmps-(Value.func (.yield id) #[] #[]::j).toArray.size) undef,defers:=[] } W:=by
  refine⟨O.size,rfl,λs sv Y=>?_,S.up u,?_,λ_ h=>h,λ_ h=>.inl h,λ_ _ h=>h.elim,ds.refl _ _,λi x an=>(P i x an).up u⟩
  rotate_left
  ·rw[map_nil,append_nil]
   refine⟨ds.refl _ _,λk aa=>?_,λc U=>(p.ok c U).base λb ab aa=>?_,p.apart⟩
   ·rcases aa with(aa|aa)|aa
    ·rw[D]at aa
     exact aa.1
    ·exact q _ _ _ _ y k aa
    ·exact lt_of_lt_of_le (ae k aa) F.size
   ·rcases aa with(aa|aa)|aa
    ·rw[D]at aa
     exact aa.2 ⟨c,U,ab⟩
    ·exact((p.ok c U).lt ab).1 aa
    ·exact((p.ok c U).lt ab).1 (ap _ _ _ _ y b aa)
  obtain⟨_,v,I,J⟩:=EV bm Y;refine⟨v,?_,J⟩;have q:=(List.getElem?_eq_some_iff.1 I).1;rw[Array.getElem?_append_left (by simpa using q)]
  simpa using I
 refine wpIn_mono (rS G am c true true none (λ_=>⟨rfl,rfl⟩) _ (hC.it gM r t) _ (ahu G ⟨K,L,q,M,ao⟩) H _ MV l (h id) _ _ ⟨C,W,B,.inl y,[],_,_,_,_,⟨λh=>(by cases h),λ_ _ _ h=>h.elim⟩,ad⟩) ?_;rintro e a w ⟨st,ag,⟨V,aw,hw,ax,aa⟩,hi⟩;obtain⟨d,ac,o,m,aq,env',B',af,H',av,g⟩:=(hC.it gM r t).fq hw hi;have aj:ag=[]/\(e=.ret\/e=.normal):=by
  cases e<;>first|(cases aa;exact⟨rfl,.inr rfl⟩)|(cases aa;exact⟨rfl,.inl rfl⟩)|cases aa
 obtain⟨rfl,he⟩:=aj;have au:Sym n (aq.map wH) (full a) (λk=>(gM k\/d k)\/B' k) af (aq.map (λk=>bo.obj k (.deferred (some [])))++H') a w:=⟨by have c7:=g.bW;simpa [j9] using c7,g.aT.perm List.perm_append_comm⟩
 have ar:∀w,(results fn a.tmps).run X.P w=.ok (.tuple #[]) w:=λw=>by
  simp[results,Z,go_sem]
 have key:=P2 (R:=λ_ w'=>∃d,(∃o,r [] d o w')\/t () d w') aq au (λw hw=>ar w) λw hw=>by
  have z:ds d ac w:=⟨hw.below.os.trans g.base.os,hw.below.tape.trans g.base.tape,hw.below.output.trans g.base.output,le_trans g.base.size hw.below.size,λk aa=>(hw.below.block k (.inl (.inr aa))).trans (g.base.block k (.inr aa))⟩
  rcases m with m|⟨_,m⟩
  ·exact⟨d,.inl ⟨o,K _ _ _ _ _ m z⟩⟩
  ·exact⟨d,.inr (L _ _ _ _ m z)⟩
 rcases he with rfl|rfl
 ·exact key
 ·exact key
def MW(N : Nat)(av : X.aY.ok X.P)(hm : X.P.follows .mixedOrders = true){fn : Func}{c : Code}(C : List vk)(G : List (Nat × gX))(E : eH)(T : List (bI X))(bK : List (l6 X))(cd : gl)(f : FuncId)(m : Bool → dy (sI C (ov G [])) → Option (List (dy (ki E []))))(aC : X.P.funcs[f]? = some fn)(aP : (fn.name == "runtime.NumGoroutine") = false)(ab : fn.body = some c)(a1 : fn.ntmps = n)(ah : ∀ d : dy (sI C (ov G [])), ble (qq (nK C d).1).length (n - 1) = true)(ba : blt 0 n = true)(ax : fn.results = #[])(h:∀id d,kn X N n T bK true c (some (xT E id)) cd ⟨rm 0 (.c (.val (.func (.yield id) #[] #[]))::qq (nK C d).1),(kH G (nK C d).2).1⟩ MV=m (beq id id) d):l6 X:=
 { f:=f,fn:=fn,C:=C,G:=G,E:=E,m:=m true,aC:=aC,ba:=aP,ab:=by rw[ab];rfl,ok:=λd l he=>ahv av hm aC ab a1 (ah d) ba ax λid=>(h id d).trans (by rw[show beq id id=true from Nat.beq_refl id];exact he) }
end
abbrev fm:Nat×gX:=(1000000,.cells 123 [.int .i64,.bJ (.aI aS),.bJ (.aI aS),.raw (.aI 2000000),.raw (.aI 2000001),.raw (.dI 1000001),.raw (.aI 1000002)])
abbrev jT:Nat×gX:=(1000000,.cells 201 [.raw (.aI 1000001),.int .i64])
abbrev jU:List (Nat×Nat):=[(1000000,1000000),(2000001,2000001),(1000001,1000001),(2000000,2000000),(1000002,1000002)]
abbrev tt:Nat×gX:=(9,.cells 225 [.raw (.dI 61)])
abbrev Ah:Nat×gX:=(1000000,.cells 160 [.raw (.aI 1000001)])
abbrev CX:Nat×gX:=(97,.cells 155 [.raw (.dI 60)])
abbrev GW:Nat×gX:=(1000000,.cells 225 [.raw (.dI 1000001)])
abbrev GX:List (Nat×Nat):=[(1000000,1000000),(1000001,1000001)]
abbrev GY:Nat×gX:=(9,.cells 201 [.raw (.aI 24),.int .i64])
abbrev MX:Nat×gX:=(34,.cells 123 [.int .i64,.bJ (.aI aS),.bJ (.aI aS),.raw (.aI 19),.raw (.aI 23),.raw (.dI 28),.raw (.aI 32)])
abbrev UB:Nat×gX:=(1000000,.cells 123 [.int .i64,.bJ (.aI aS),.bJ (.aI aS),.raw (.aI 2000000),.raw (.aI 2000001),.raw (.dI 1000002),.raw (.aI 1000003)])
abbrev UC:Nat×gX:=(24,.cells 123 [.int .i64,.bJ (.aI aS),.bJ (.aI aS),.raw (.aI 42),.raw (.aI 38),.raw (.dI 31),.raw (.aI 29)])
def UD(N:Nat) :Nat->(Int×Int×eg)->Option (eg):=cx λd1 eC=>
  cond (decide (d1.1<d1.2.1)) (ay ((aW d1.2.1 d1.2.2.length)&&((decide (d1.2.1.toNat<d1.2.2.length))&&((aW d1.1 d1.2.2.length)&&((decide (d1.1.toNat<d1.2.2.length))&&((aW d1.1 d1.2.2.length)&&(((decide (d1.1.toNat<d1.2.2.length))&&(true))&&((aW d1.2.1 (d1.2.2.set d1.1.toNat (d1.2.2.getD d1.2.1.toNat eF.zero)).length)&&(((decide (d1.2.1.toNat<(d1.2.2.set d1.1.toNat (d1.2.2.getD d1.2.1.toNat eF.zero)).length))&&(true))&&(true))))))))) <|
  ay ((bd (d1.1+1))&&((bd (d1.2.1-1))&&(true))) <|
  eC ((d1.1+1),(d1.2.1-1),((d1.2.2.set d1.1.toNat (d1.2.2.getD d1.2.1.toNat eF.zero)).set d1.2.1.toNat (d1.2.2.getD d1.1.toNat eF.zero)))) (some d1.2.2)
def Ai(N:Nat)(a:eg):Option (eg):=
  ay ((bd ((a.length:Int)-1))&&(true)) <|
  (UD N N (0,((a.length:Int)-1),a)).bind λb=>
  some b
def UE(N:Nat):bI bR:=cu N aZ [.c (.raw (.aI 2000000))] [(2000000,.row 97 eF)] ⟨.cY [],[(2000000,.row 97 eF)],[]⟩ [] [] (.s .d (.b (.fv 0 ⟨[(0,.a (.c (.raw (.aI 2000000)))),(2,.a (.c (.int .i64))),(3,.a (.c (.int .i64)))],[(2000000,.row 97 eF)],[],[]⟩ ⟨[],[(2000000,.row 97 eF)],[],[]⟩ (.s .d (.s (.b (.nU [8,9,10,11] [.t 0 0,.t 1 0,.t 2 0,.t 3 0,.t 4 0,.t 5 0,.t 6 0,.t 7 3,.t 8 0,.t 9 0,.t 10 0,.t 11 3,.t 12 0,.s 13,.t 14 0,.s 15] [])) .d))))) [] [] (λd=>Ai N d.1) func113 ntmps113
def Aj(N:Nat)(a:Int):Option (Bool):=
  some (cond (decide (a=0)) true (decide (a=1)))
def MY(N:Nat):bI bR:=cu N aZ [.c (.int .u8)] [] ⟨.a (.c .bool),[],[]⟩ [] [] (.d) [.tmp 2] false (λd=>Aj N d.1) func111 ntmps111
def Ak(N:Nat)(a:ae):Option (Bool):=
  some (cond (cond (cond (decide (1<=a.1)) (decide (a.1<=6)) false) (decide (0<=a.2)) false) (decide (a.2<2048)) false)
def MZ(N:Nat):bI bR:=cu N aZ [.dc aS] [] ⟨.a (.c .bool),[],[]⟩ [] [] (.s (.r [.n 2,.w (.cg 1 aS)]) .d) [.tmp 2] false (λd=>Ak N d.1) func83 ntmps83
def CY(N:Nat)(a:cU):Option (Bool):=
  (Ak N a.1).bind λb=>
  Option.bind (cond b (Aj N a.2.2) (some false)) λc=>
  some (cond b c false)
def UF(N:Nat):bI bR:=cu N aZ [.dc eF] [] ⟨.a (.c .bool),[],[]⟩ [MZ N,MY N] [] (.s (.r [.n 2,.w (.cg 1 eF)]) .d) [.tmp 2] false (λd=>CY N d.1) func85 ntmps85
def xV(N:Nat)(a:Int):Option (Bool):=
  some (cond (cond (!(decide ((tmod a 2)=0))) (decide ((-13:Int)<=a)) false) (decide (a<=179)) false)
def UG(N:Nat):bI bR:=cu N aZ [.c (.int .i64)] [] ⟨.a (.c .bool),[],[]⟩ [] [] (.d) [.tmp 2] false (λd=>xV N d.1) func84 ntmps84
def CZ(N:Nat)(a:cU)(b:cU):Option (Bool):=
  (Aj N a.2.2).bind λc=>
  Option.bind (cond (!(!c)) (Aj N b.2.2) (some false)) λd=>
  cond (cond (cond (!c) true (!d)) true (decide (a.2.2=b.2.2))) (some false) (some (aV.beq eF a (b.1,(b.2.1,a.2.2))))
def UH(N:Nat):bI bR:=cu N aZ [.dc eF,.dc eF] [] ⟨.a (.c .bool),[],[]⟩ [MY N] [] (.s (.r [.n 3,.w (.cg 2 eF)]) .d) [.tmp 4] false (λd=>CZ N d.1 d.2.1) func86 ntmps86
def UI(N:Nat)(a:eg):Nat->(Int×eg)->Option (eg):=cx λd1 eC=>
  cond (decide (d1.1<(a.length:Int))) (ay ((aW d1.1 a.length)&&(true)) <|
  ay ((dK (decide (0<(d1.2.length:Int))) (bd ((d1.2.length:Int)-1)))&&((dK (decide (0<(d1.2.length:Int))) (aW ((d1.2.length:Int)-1) d1.2.length))&&((dK (decide (0<(d1.2.length:Int))) (decide (((d1.2.length:Int)-1).toNat<d1.2.length)))&&(true)))) <|
  Option.bind (cond (decide (0<(d1.2.length:Int))) (CZ N (d1.2.getD ((d1.2.length:Int)-1).toNat eF.zero) (a.getD d1.1.toNat eF.zero)) (some false)) λb=>
  cond (cond (decide (0<(d1.2.length:Int))) b false) (ay ((bd ((d1.2.length:Int)-1))&&(((decide (0<=((d1.2.length:Int)-1)))&&(decide (((d1.2.length:Int)-1)<=(d1.2.length:Int))))&&(true))) <|
  ay ((bd (d1.1+1))&&(true)) <|
  eC ((d1.1+1),(d1.2.take ((d1.2.length:Int)-1).toNat))) (ay ((dA 24 (d1.2.length+[(a.getD d1.1.toNat eF.zero)].length))&&(true)) <|
  ay ((bd (d1.1+1))&&(true)) <|
  eC ((d1.1+1),(d1.2++[(a.getD d1.1.toNat eF.zero)])))) (some d1.2)
def C0(N:Nat)(a:eg)(b:eg):Option (eg):=
  (UI N a N (0,b)).bind λc=>
  some c
def UJ(N:Nat):bI bR:=cu N aZ [.c (.raw (.aI 1000000)),.c (.bJ eF)] [(1000000,.row 97 eF)] ⟨.a (.c (.raw (.aI 1000000))),[(1000000,.row 97 eF)],[]⟩ [UH N] [] (.s .d (.s (.s .d (.b (.fv 0 ⟨[(0,.a (.c (.raw (.aI 1000000)))),(10,.a (.c (.int .i64)))],[(1000000,.row 97 eF)],[8,9],[]⟩ ⟨[(0,.a (.c (.raw (.aI 1000000))))],[(1000000,.row 97 eF)],[],[]⟩ (.s .d (.s .d (.s (.b (.s (.r [.n 4,.w (.cg 6 eF)]) (.s .d (.s (.nU [8] [.t 0 0,.t 1 0,.t 2 0,.t 3 0,.t 4 0,.t 5 0,.t 6 0,.t 7 3,.t 8 1,.g 9,.t 10 0] []) .d)))) .d)))))) .d)) [.tmp 4] [] (λd=>C0 N d.1 d.2.1) func177 ntmps177
def xW(N:Nat)(a:eg):Option (eg×Nat):=
  ay (((decide (0<=(a.length:Int)))&&(decide ((a.length:Int)<=(a.length:Int)))&&(gR 24 (a.length:Int)))&&(true)) <|
  ay ((beq a.length (replicate (a.length:Int).toNat (eF.zero:cU)).length)&&(true)) <|
  some (a,(a.length:Int).toNat)
def M0(N:Nat):bI bR:=cu N aZ [.c (.bJ eF)] [] ⟨.a (.c (.jK eF)),[],[]⟩ [] [] (.s .d (.s .d (.s .d (.s .d (.t [.dV 6]))))) [.tmp 2] ([],0) (λd=>xW N d.1) func178 ntmps178
def UK(N:Nat)(a:bq):Nat->Int->Option ((Unit)⊕(Int)):=cx λd2 fQ=>
  cond (decide (d2<(a.2.2.2.2.length:Int))) (ay ((aW d2 a.2.2.2.2.length)&&(true)) <|
  (CY N (a.2.2.2.2.getD d2.toNat eF.zero)).bind λb=>
  ay ((dK ((!(!b))&&(decide (0<d2))) (bd (d2-1)))&&((dK ((!(!b))&&(decide (0<d2))) (aW (d2-1) a.2.2.2.2.length))&&(true))) <|
  Option.bind (cond ((!(!b))&&(decide (0<d2))) (CZ N (a.2.2.2.2.getD (d2-1).toNat eF.zero) (a.2.2.2.2.getD d2.toNat eF.zero)) (some false)) λc=>
  cond (cond (!b) true (cond (decide (0<d2)) c false)) (some (.inr 1)) (ay ((bd (d2+1))&&(true)) <|
  fQ (d2+1))) (some (.inl ()))
def um(N:Nat)(a:bq):Option (Int):=
  cond (cond (decide (a.2.2.1<0)) true (decide (2048<a.2.2.1))) (some 1) (cond (!a.1) (cond (cond (cond (!(decide (a.2.1=0))) true a.2.2.2.1) true (decide (0<(a.2.2.2.2.length:Int)))) (some 1) (some 0)) ((xV N a.2.1).bind λc=>
  cond (cond (!c) true (decide (4096<(a.2.2.2.2.length:Int)))) (some 1) ((UK N a N 0).bind λ(b:(Unit)⊕(Int))=>
  sm b (λb=>
  some 0) (λq=>some q))))
def C1(N:Nat):bI bR:=cu N aZ [.dc b5] [] ⟨.a (.c (.int .i64)),[],[]⟩ [UG N,UF N,UH N] [] (.s (.r [.n 2,.w (.cg 1 b5)]) (.s .d (.s .d (.s .d (.s (.s .d (.b (.gL 0 ⟨[(42,.a (.c (.int .i64)))],[],[1,40,41],[]⟩ ⟨[],[],[],[]⟩ (.s .d (.s .d (.s (.b (.s (.r [.n 6,.w (.cg 4 eF)]) (.s (.o [] [.t 0 1,.c 1 [],.f,.t 2 0,.t 3 0,.t 4 0,.t 5 0,.t 6 0,.t 7 0,.t 8 1,.t 9 0,.t 10 0,.t 11 0,.t 12 1,.t 13 1,.g 14,.t 15 0,.t 16 0] []) .d))) .d)))))) .d))))) [.tmp 2] 0 (λd=>um N d.1) func44 ntmps44
def GZ(N:Nat)(a:eg):Option (eg×Nat):=
  ay (((decide (0<=(a.length:Int)))&&(gR 24 (a.length:Int)))&&(true)) <|
  (C0 N a ([]:eg)).bind λc=>
  (xW N c).bind λb=>
  some (b.1,b.2)
def ahy(N:Nat):bI bR:=cu N aZ [.c (.bJ eF)] [] ⟨.a (.c (.jK eF)),[],[]⟩ [UJ N,M0 N] [] (.s .d (.s (.r [.n 4,.c [(1000000,5)],.w (.dV 5)]) .d)) [.tmp 2] ([],0) (λd=>GZ N d.1) func226 ntmps226
def UL(N:Nat)(b:eg):Nat->Int->Option ((Unit)⊕(bq×Int)):=cx λa ik=>
  cond (decide (a<(b.length:Int))) (ay ((aW a b.length)&&(true)) <|
  (CY N (b.getD a.toNat eF.zero)).bind λc=>
  cond (!c) (some (.inr ((false,(0,(0,(false,([]:eg))))),1))) (ay ((bd (a+1))&&(true)) <|
  ik (a+1))) (some (.inl ()))
def xX(N:Nat)(a:bq)(c:Int)(b:eg):Option (bq×Int):=
  (um N a).bind λd=>
  cond (!(decide (d=0))) (some ((false,(0,(0,(false,([]:eg))))),d)) ((xV N c).bind λg=>
  cond (!g) (some ((false,(0,(0,(false,([]:eg))))),1)) ((UL N b N 0).bind λ(f:(Unit)⊕(bq×Int))=>
  sm f (λf=>
  cond (!a.1) (some ((false,(0,(0,(false,([]:eg))))),12)) (ay ((bd ((a.2.2.2.2.length:Int)+(b.length:Int)))&&(((decide (0<=((a.2.2.2.2.length:Int)+(b.length:Int))))&&(gR 24 ((a.2.2.2.2.length:Int)+(b.length:Int))))&&(true))) <|
  ay ((dA 24 (([]:eg).length+a.2.2.2.2.length))&&(true)) <|
  (C0 N b (([]:eg)++a.2.2.2.2)).bind λe=>
  cond (decide (4096<(e.length:Int))) (some ((false,(0,(0,(false,([]:eg))))),3)) ((xW N e).bind λh=>
  some ((a.1,(c,(a.2.2.1,(a.2.2.2.1,h.1)))),0)))) (λq=>some q)))
def UM(N:Nat):bI bR:=cu N aZ [.dc b5,.c (.int .i64),.c (.bJ eF)] [] ⟨.cY [.dc b5,.c (.int .i64)],[],[]⟩ [C1 N,UG N,UF N,UJ N,M0 N] [] (.s .d (.s .d (.s .d (.s (.s .d (.b (.gL 0 ⟨[(3,.a (.c (.raw (.ptr 3 0)))),(6,.a (.c (.raw (.ptr 6 0)))),(24,.a (.c (.int .i64)))],[],[1,2,22,23],[3,6]⟩ ⟨[(3,.a (.c (.raw (.ptr 3 0)))),(6,.a (.c (.raw (.ptr 6 0))))],[],[1,2],[3,6]⟩ (.s .d (.s .d (.s (.b (.s (.r [.n 4,.w (.cg 10 eF)]) .d)) .d)))))) (.s .d (.s .d (.s (.r [.n 5,.c [(1000000,43)]]) (.s .d (.s .d (.s (.r [.n 1,.w (.dV 43)]) .d)))))))))) [.cell 6 52,.tmp 7] (b5.zero,0) (λd=>xX N d.1 d.2.1 d.2.2.1) func114 ntmps114
def Al(N:Nat)(a:bq)(b:Int):Option (bq×Int):=
  (um N a).bind λc=>
  cond (!(decide (c=0))) (some ((false,(0,(0,(false,([]:eg))))),c)) ((Aj N b).bind λd=>
  cond (!d) (some ((false,(0,(0,(false,([]:eg))))),1)) (cond a.1 (some ((false,(0,(0,(false,([]:eg))))),12)) (cond (decide (b=1)) (some ((true,(179,(a.2.2.1,(true,([]:eg))))),0)) (some ((true,((-13:Int),(a.2.2.1,(true,([]:eg))))),0)))))
def ahz(N:Nat):bI bR:=cu N aZ [.dc b5,.c (.int .u8)] [] ⟨.cY [.dc b5,.c (.int .i64)],[],[]⟩ [C1 N,MY N] [] (.s (.r [.n 3,.w (.cg 2 b5)]) .d) [.cell 4 52,.tmp 5] (b5.zero,0) (λd=>Al N d.1 d.2.1) func68 ntmps68
def uo(N:Nat)(a:bq):Option (bq×KB×Int):=
  (um N a).bind λb=>
  cond (!(decide (b=0))) (some ((false,(0,(0,(false,([]:eg))))),(0,(false,([]:eg))),b)) (cond (!a.1) (some ((false,(0,(0,(false,([]:eg))))),(0,(false,([]:eg))),12)) (cond (decide (a.2.2.1=2048)) (some ((false,(0,(0,(false,([]:eg))))),(0,(false,([]:eg))),3)) ((xW N a.2.2.2.2).bind λc=>
  ay ((bd (a.2.2.1+1))&&(true)) <|
  some ((true,(a.2.1,((a.2.2.1+1),(false,([]:eg))))),(a.2.2.1,(a.2.2.2.1,c.1)),0))))
def G0(N:Nat)(a:bq):Option (bq×KB×Int):=
  (um N a).bind λb=>
  cond (!(decide (b=0))) (some ((false,(0,(0,(false,([]:eg))))),(0,(false,([]:eg))),b)) (cond (!a.1) (some ((false,(0,(0,(false,([]:eg))))),(0,(false,([]:eg))),12)) (cond (decide (a.2.2.1=2048)) (some ((false,(0,(0,(false,([]:eg))))),(0,(false,([]:eg))),3)) (gY ((xW N a.2.2.2.2).bind λc=>
  ay ((bd (a.2.2.1+1))&&(true)) <|
  some ((true,(a.2.1,((a.2.2.1+1),(false,([]:eg))))),(a.2.2.1,(a.2.2.2.1,c.1)),0)))))
theorem ahA:G0=uo:=by
 unfold G0 uo;simp only[gY,ox]
def ahB(N:Nat):bI bR:=oC N aZ [.dc b5] [] ⟨.cY [.dc b5,.dc zu,.c (.int .i64)],[],[]⟩ [C1 N,M0 N] [] (.s (.r [.n 4,.w (.cg 1 b5)]) (.s .d (.s .d (.s .d (.s (.c3 [] [] (.b [.t 0 0,.t 1 1,.t 2 0,.t 3 1,.t 4 0,.t 5 1] 6 8 [] [] none none (.f [.t 7 0,.s 8,.s 9]) (.f [.c 6 [],.t 7 0,.s 9])) [(.cg 6 zu)] false) (.s (.o [] [.t 0 0,.t 1 1,.t 2 0,.t 3 1,.t 4 0,.t 5 0,.t 6 1,.s 7,.s 8,.t 9 0] []) .d)))))) [.cell 2 52,.cell 3 195,.tmp 4] (b5.zero,zu.zero,0) (λd=>G0 N d.1) (λd=>uo N d.1) (λd=>(by rw[ahA]:G0 N d.1=uo N d.1)) func115 ntmps115
def UN(N:Nat)(a:cj):Nat->(Int×Int)->Option (Int):=cx λd1 eC=>
  cond (decide (d1.2<(a.length:Int))) (ay ((aW d1.2 a.length)&&(true)) <|
  ay ((bd (d1.1+((a.getD d1.2.toNat []).length:Int)))&&(true)) <|
  ay ((bd (d1.2+1))&&(true)) <|
  eC ((d1.1+((a.getD d1.2.toNat []).length:Int)),(d1.2+1))) (some d1.1)
def xY(N:Nat)(a:cj):Option (Int):=
  (UN N a N (0,0)).bind λb=>
  some b
def UO(N:Nat):bI bR:=cu N aZ [.c (.bJ (.aI cE))] [] ⟨.a (.c (.int .i64)),[],[]⟩ [] [] (.s .d (.s .d (.s (.s .d (.b (.fv 0 ⟨[(3,.a (.c (.int .i64))),(8,.a (.c (.int .i64)))],[],[6,7],[]⟩ ⟨[(3,.a (.c (.int .i64)))],[],[],[]⟩ .d))) .d))) [.tmp 2] 0 (λd=>xY N d.1) func150 ntmps150
def UP(N:Nat)(a:List (Bool×dv)):Nat->(Int×Int×(List (Bool×dv)))->Option (Int×(List (Bool×dv))):=cx λd1 eC=>
  cond (decide (d1.2.1<(a.length:Int))) (ay ((aW d1.2.1 d1.2.2.length)&&(((decide (d1.2.1.toNat<d1.2.2.length))&&(d1.2.2.getD d1.2.1.toNat (false,[])).1)&&(true))) <|
  ay ((bd (d1.1+((d1.2.2.getD d1.2.1.toNat (false,[])).2.length:Int)))&&(true)) <|
  ay ((bd (d1.2.1+1))&&(true)) <|
  eC ((d1.1+((d1.2.2.getD d1.2.1.toNat (false,[])).2.length:Int)),(d1.2.1+1),(d1.2.2.set d1.2.1.toNat (true,(d1.2.2.getD d1.2.1.toNat (false,[])).2)))) (some (d1.1,d1.2.2))
def C2(N:Nat)(a:List (Bool×dv)):Option (Int×(List (Bool×dv))):=
  (UP N a N (0,0,a)).bind λb=>
  some (b.1,b.2)
def ahC(N:Nat):bI bR:=cu N aZ [.c (.raw (.aI 2000000))] [(2000000,.cf 90 93 cE)] ⟨.a (.c (.int .i64)),[(2000000,.cf 90 93 cE)],[]⟩ [] [] (.s .d (.s .d (.s (.s .d (.b (.fv 0 ⟨[(3,.a (.c (.int .i64))),(6,.a (.c (.raw (.aI 2000000)))),(8,.a (.c (.int .i64)))],[(2000000,.cf 90 93 cE)],[7],[]⟩ ⟨[(3,.a (.c (.int .i64)))],[(2000000,.cf 90 93 cE)],[],[]⟩ (.s .d (.s .d (.s (.b (.s (.r [.n 1,.t .Lv]) (.r [.n 5,.w (.t (.close 2000000 11))]))) .d)))))) .d))) [.tmp 2] (0,[]) (λd=>C2 N d.1) func150 ntmps150
def UQ(N:Nat) :Option ((List (Bool×dv))):=
  some (replicate (6:Int).toNat ((true,[]):Bool×dv))
def ahD(N:Nat):bI bR:=cu N aZ [] [] ⟨.a (.c (.raw (.aI 1))),[(1,.cf 90 93 cE)],[]⟩ [] [] (.s .d (.s (.r [.t .mk]) .d)) [.tmp 0] [] (λd=>UQ N ) func66 ntmps66
def M1(N:Nat) :Option (ed×b7×b7×(List (Bool×dv))):=
  (UQ N).bind λa=>
  some (([]:ed),([]:b7),([]:b7),a)
def ahE(N:Nat):bI bR:=cu N aZ [] [] ⟨.a (.agg [.raw (.aI 1),.bJ cO,.bJ aS,.bJ aS]),[(1,.cf 90 93 cE)],[]⟩ [ahD N] [] (.s .d (.s (.r [.c [(1,1)]]) .d)) [.cell 0 44] ([],[],[],[]) (λd=>M1 N ) func21 ntmps21
end
section
open Go.RowKit Go.Shelf
section
set_option maxHeartbeats 1000000
set_option maxRecDepth 100000
end
def M3(N:Nat)(a:Int):Option (Bool):=
  some (!(decide (a=a)))
def ahF(N:Nat):bI bR:=cu N aZ [.c (.int .u8)] [] ⟨.a (.c .bool),[],[]⟩ [] [] (.d) [.tmp 2] false (λd=>M3 N d.1) func162 ntmps162
def UR(N:Nat)(a:Int)(b:Int):Option (Int):=
  (M3 N a).bind λd=>
  (M3 N b).bind λc=>
  cond d (cond c (some 0) (some (-1:Int))) (cond c (some 1) (cond (decide (a<b)) (some (-1:Int)) (cond (decide (b<a)) (some 1) (some 0))))
def ahG(N:Nat):bI bR:=cu N aZ [.c (.int .u8),.c (.int .u8)] [] ⟨.a (.c (.int .i64)),[],[]⟩ [ahF N] [] (.d) [.tmp 4] 0 (λd=>UR N d.1 d.2.1) func105 ntmps105
def C3(N:Nat)(a:Int):Option (Bool):=
  some (!(decide (a=a)))
def ahH(N:Nat):bI bR:=cu N aZ [.c (.int .i64)] [] ⟨.a (.c .bool),[],[]⟩ [] [] (.d) [.tmp 2] false (λd=>C3 N d.1) func163 ntmps163
def C4(N:Nat)(a:Int)(b:Int):Option (Int):=
  (C3 N a).bind λd=>
  (C3 N b).bind λc=>
  cond d (cond c (some 0) (some (-1:Int))) (cond c (some 1) (cond (decide (a<b)) (some (-1:Int)) (cond (decide (b<a)) (some 1) (some 0))))
def US(N:Nat):bI bR:=cu N aZ [.c (.int .i64),.c (.int .i64)] [] ⟨.a (.c (.int .i64)),[],[]⟩ [ahH N] [] (.d) [.tmp 4] 0 (λd=>C4 N d.1 d.2.1) func106 ntmps106
def ahI(N:Nat)(a:bZ):Nat->Int->Option ((Unit)⊕(Int)):=cx λd1 eC=>
  cond (decide (d1<(a.length:Int))) (ay ((aW d1 a.length)&&(true)) <|
  cond (!(decide ((a.getD d1.toNat 0)=0))) (some (.inr (a.getD d1.toNat 0))) (ay ((bd (d1+1))&&(true)) <|
  eC (d1+1))) (some (.inl ()))
def M4(N:Nat)(b:bZ):Option (Int):=
  (ahI N b N 0).bind λ(a:(Unit)⊕(Int))=>
  sm a (λa=>
  some 0) (λq=>some q)
def UT(N:Nat):bI bR:=cu N aZ [.c (.bJ (.int .i64))] [] ⟨.a (.c (.int .i64)),[],[]⟩ [] [] (.s .d (.s .d (.s (.s .d (.b (.gL 0 ⟨[(8,.a (.c (.int .i64)))],[],[3,6,7],[]⟩ ⟨[],[],[3],[]⟩ .d))) .d))) [.tmp 2] 0 (λd=>M4 N d.1) func104 ntmps104
def vG(N:Nat)(a:ae)(b:ae):Option (Int):=
  (UR N a.1 b.1).bind λc=>
  (C4 N a.2 b.2).bind λd=>
  (M4 N [c,d]).bind λe=>
  some e
def C5(N:Nat):bI bR:=cu N aZ [.dc aS,.dc aS] [] ⟨.a (.c (.int .i64)),[],[]⟩ [ahG N,US N,UT N] [] (.s (.r [.n 3,.w (.cg 2 aS),.w (.cg 3 aS)]) (.s (.o [] [.t 0 0,.t 1 1,.t 2 0,.t 3 1,.t 5 0,.t 6 1,.t 7 0,.t 8 1,.c 4 [],.c 9 [],.s 10,.z 15,.c 11 [],.t 12 0] []) .d)) [.tmp 4] 0 (λd=>vG N d.1 d.2.1) func62 ntmps62
def UU(N:Nat)(a:b3)(b:b3):Option (Int):=
  (vG N a.1 b.1).bind λc=>
  (vG N a.2.1 b.2.1).bind λd=>
  (M4 N [c,d]).bind λe=>
  some e
def ahJ(N:Nat):bI bR:=cu N aZ [.dc cO,.dc cO] [] ⟨.a (.c (.int .i64)),[],[]⟩ [C5 N,UT N] [] (.s (.r [.n 3,.w (.cg 2 cO),.w (.cg 3 cO)]) (.s (.o [] [.t 0 0,.t 1 1,.t 2 0,.t 3 1,.t 5 0,.t 6 1,.t 7 0,.t 8 1,.c 4 [],.c 9 [],.s 10,.z 15,.c 11 [],.t 12 0] []) .d)) [.tmp 4] 0 (λd=>UU N d.1 d.2.1) func139 ntmps139
def C6(N:Nat)(b:cj)(a:ae):Option (Bool):=
  ay ((dK (decide (1<=a.1)) (bd a.1))&&((dK (cond (cond (decide (1<=a.1)) (decide (a.1<=(b.length:Int))) false) (decide (0<=a.2)) false) (aW (IntKind.wrap .u8 (a.1-1)) b.length))&&(true))) <|
  some (cond (cond (cond (decide (1<=a.1)) (decide (a.1<=(b.length:Int))) false) (decide (0<=a.2)) false) (decide (a.2<((b.getD (IntKind.wrap .u8 (a.1-1)).toNat []).length:Int))) false)
def ahK(N:Nat):bI bR:=cu N aZ [.c (.bJ (.aI cE)),.dc aS] [] ⟨.a (.c .bool),[],[]⟩ [] [] (.s (.r [.n 2,.w (.cg 3 aS)]) (.s (.o [] [.t 0 0,.t 1 1,.t 2 0,.t 3 0,.t 4 0,.t 5 1,.t 6 0,.t 7 0,.t 8 0,.t 9 0,.t 10 0,.t 11 0,.t 12 0,.t 13 1,.t 14 0,.t 15 0,.t 16 0,.t 17 0,.t 18 1,.t 19 0,.t 20 0,.t 21 1,.t 22 0,.t 23 0,.t 24 1,.t 25 0,.t 26 0,.t 27 0,.t 28 0] []) .d)) [.tmp 4] false (λd=>C6 N d.1 d.2.1) func225 ntmps225
def UW(N:Nat)(b:cj)(a:bA):Nat->Int->Option ((Unit)⊕(Bool)):=cx λd1 eC=>
  cond (decide (d1<(a.2.2.1.length:Int))) (ay ((aW d1 a.2.2.1.length)&&(true)) <|
  (C6 N b (a.2.2.1.getD d1.toNat aS.zero)).bind λc=>
  cond (!c) (some (.inr false)) (ay ((bd (d1+1))&&(true)) <|
  eC (d1+1))) (some (.inl ()))
def UX(N:Nat)(c:cj)(b:bA):Nat->Int->Option ((Unit)⊕(Bool)):=cx λa ik=>
  cond (decide (a<(b.2.2.2.length:Int))) (ay ((aW a b.2.2.2.length)&&(true)) <|
  (C6 N c (b.2.2.2.getD a.toNat eF.zero).1).bind λd=>
  cond (cond (!d) true (cond (!(decide ((b.2.2.2.getD a.toNat eF.zero).2.2=0))) (!(decide ((b.2.2.2.getD a.toNat eF.zero).2.2=1))) false)) (some (.inr false)) (ay ((bd (a+1))&&(true)) <|
  ik (a+1))) (some (.inl ()))
def G1(N:Nat)(b:cj)(a:bA):Option (Bool):=
  cond (cond (!(decide (a.1=0))) (!(decide (a.1=1))) false) (some false) (cond (cond (decide (4<(a.2.2.1.length:Int))) true (decide (4096<(a.2.2.2.length:Int)))) (some false) ((UW N b a N 0).bind λ(c:(Unit)⊕(Bool))=>
  sm c (λc=>
  (UX N b a N 0).bind λ(d:(Unit)⊕(Bool))=>
  sm d (λd=>
  (GZ N a.2.2.2).bind λe=>
  some (decide ((e.1.length:Int)=(a.2.2.2.length:Int)))) (λq=>some q)) (λq=>some q)))
def ahL(N:Nat):bI bR:=cu N aZ [.c (.bJ (.aI cE)),.dc cE] [] ⟨.a (.c .bool),[],[]⟩ [ahK N,ahy N] [] (.s (.r [.n 2,.w (.cg 3 cE)]) (.s .d (.s .d (.s (.s .d (.b (.gL 0 ⟨[(30,.a (.c (.int .i64)))],[],[0,3,28,29],[]⟩ ⟨[],[],[0,3],[]⟩ (.s .d (.s .d (.s (.b (.s (.r [.n 4,.w (.cg 6 aS)]) .d)) .d)))))) (.s (.s .d (.b (.gL 2 ⟨[(42,.a (.c (.int .i64)))],[],[0,3,40,41],[]⟩ ⟨[],[],[3],[]⟩ (.s .d (.s .d (.s (.b (.s (.r [.n 4,.w (.cg 8 eF)]) .d)) .d)))))) (.s (.o [] [.t 0 0,.t 1 1,.t 4 0,.t 5 1,.t 6 0,.c 2 [],.t 3 0,.t 7 0,.t 8 0] []) .d)))))) [.tmp 4] false (λd=>G1 N d.1 d.2.1) func211 ntmps211
def UY(N:Nat)(a:cj)(b:Int):Nat->Int->Option ((Unit)⊕((Unit)⊕(Int))):=cx λd2 fQ=>
  cond (decide (d2<((a.getD b.toNat []).length:Int))) (ay ((aW d2 (a.getD b.toNat []).length)&&(true)) <|
  (G1 N a ((a.getD b.toNat []).getD d2.toNat cE.zero)).bind λc=>
  cond (cond (!c) true (cond (decide (d2=0)) (!((a.getD b.toNat []).getD d2.toNat cE.zero).2.1) false)) (some (.inr (.inr 1))) (ay ((bd (d2+1))&&(true)) <|
  fQ (d2+1))) (some (.inl ()))
def UZ(N:Nat)(a:cj):Nat->Int->Option ((Unit)⊕(Int)):=cx λd1 eC=>
  cond (decide (d1<(a.length:Int))) (ay ((aW d1 a.length)&&(true)) <|
  (UY N a d1 N 0).bind λ(b:(Unit)⊕((Unit)⊕(Int)))=>
  sm b (λb=>
  ay ((bd (d1+1))&&(true)) <|
  eC (d1+1)) (λq=>some q)) (some (.inl ()))
def G2(N:Nat)(b:cj):Option (Int):=
  (UZ N b N 0).bind λ(a:(Unit)⊕(Int))=>
  sm a (λa=>
  some 0) (λq=>some q)
def ahM(N:Nat):bI bR:=cu N aZ [.c (.bJ (.aI cE))] [] ⟨.a (.c (.int .i64)),[],[]⟩ [ahL N] [] (.s .d (.s (.s .d (.b (.gL 0 ⟨[(9,.a (.c (.int .i64)))],[],[0,7,8],[]⟩ ⟨[],[],[],[]⟩ (.s .d (.s .d (.s (.b (.s .d (.s .d (.b (.gL 2 ⟨[(15,.a (.c (.int .i64)))],[],[0,7,8,9,13,14],[]⟩ ⟨[],[],[0,7,8,9],[]⟩ (.s .d (.s .d (.s (.b (.s (.r [.n 6,.w (.cg 6 cE)]) .d)) .d)))))))) .d)))))) .d)) [.tmp 2] 0 (λd=>G2 N d.1) func189 ntmps189
def Am(N:Nat)(a:bA)(b:Int):Option (ae):=
  cond (decide (b<(a.2.2.1.length:Int))) (ay ((aW b a.2.2.1.length)&&(true)) <|
  some (a.2.2.1.getD b.toNat aS.zero)) (ay ((bd (b-(a.2.2.1.length:Int)))&&((aW (b-(a.2.2.1.length:Int)) a.2.2.2.length)&&(true))) <|
  some (a.2.2.2.getD (b-(a.2.2.1.length:Int)).toNat eF.zero).1)
def ahN(N:Nat):bI bR:=cu N aZ [.dc cE,.c (.int .i64)] [] ⟨.a (.dc aS),[],[]⟩ [] [] (.s (.r [.n 2,.w (.cg 2 cE)]) .d) [.cell 4 58] aS.zero (λd=>Am N d.1 d.2.1) func212 ntmps212
def G3(N:Nat)(a:b7):Option (b7×Nat):=
  ay (((decide (0<=(a.length:Int)))&&(decide ((a.length:Int)<=(a.length:Int)))&&(gR 16 (a.length:Int)))&&(true)) <|
  ay ((beq a.length (replicate (a.length:Int).toNat (aS.zero:ae)).length)&&(true)) <|
  some (a,(a.length:Int).toNat)
def ahO(N:Nat):bI bR:=cu N aZ [.c (.bJ aS)] [] ⟨.a (.c (.jK aS)),[],[]⟩ [] [] (.s .d (.s .d (.s .d (.s .d (.t [.dV 6]))))) [.tmp 2] ([],0) (λd=>G3 N d.1) func192 ntmps192
def U0(N:Nat)(b:cj)(c:Int)(d:Int):Nat->(Int×(List (ae×Int)))->Option (((List (ae×Int)))⊕(((List (ae×Int)))⊕((Unit)⊕(Int)))):=cx λa ik=>
  cond (decide (a.1<(((b.getD c.toNat []).getD d.toNat cE.zero).2.2.1.length:Int))) (ay ((aW a.1 ((b.getD c.toNat []).getD d.toNat cE.zero).2.2.1.length)&&(true)) <|
  ay ((true&&((bd (((de aS (.int .i64) a.2 (((b.getD c.toNat []).getD d.toNat cE.zero).2.2.1.getD a.1.toNat aS.zero)).getD 0)+1))&&true))&&(true)) <|
  cond (decide (1<((de aS (.int .i64) (eS aS (.int .i64) a.2 (((b.getD c.toNat []).getD d.toNat cE.zero).2.2.1.getD a.1.toNat aS.zero) (((de aS (.int .i64) a.2 (((b.getD c.toNat []).getD d.toNat cE.zero).2.2.1.getD a.1.toNat aS.zero)).getD 0)+1)) (((b.getD c.toNat []).getD d.toNat cE.zero).2.2.1.getD a.1.toNat aS.zero)).getD 0))) (some (.inr (.inr (.inr 8)))) (ay ((bd (a.1+1))&&(true)) <|
  ik ((a.1+1),(eS aS (.int .i64) a.2 (((b.getD c.toNat []).getD d.toNat cE.zero).2.2.1.getD a.1.toNat aS.zero) (((de aS (.int .i64) a.2 (((b.getD c.toNat []).getD d.toNat cE.zero).2.2.1.getD a.1.toNat aS.zero)).getD 0)+1))))) (some (.inl a.2))
def U1(N:Nat)(a:cj)(c:Int):Nat->(Int×(List (ae×Int)))->Option (((List (ae×Int)))⊕((Unit)⊕(Int))):=cx λd2 fQ=>
  cond (decide (d2.1<((a.getD c.toNat []).length:Int))) (ay ((aW d2.1 (a.getD c.toNat []).length)&&(true)) <|
  (U0 N a c d2.1 N (0,d2.2)).bind λ(b:((List (ae×Int)))⊕(((List (ae×Int)))⊕((Unit)⊕(Int))))=>
  sm b (λb=>
  ay ((bd (d2.1+1))&&(true)) <|
  fQ ((d2.1+1),b)) (λq=>some q)) (some (.inl d2.2))
def U2(N:Nat)(a:cj):Nat->(Int×(List (ae×Int)))->Option ((Unit)⊕(Int)):=cx λd1 eC=>
  cond (decide (d1.1<(a.length:Int))) (ay ((aW d1.1 a.length)&&(true)) <|
  (U1 N a d1.1 N (0,d1.2)).bind λ(b:((List (ae×Int)))⊕((Unit)⊕(Int)))=>
  sm b (λb=>
  ay ((bd (d1.1+1))&&(true)) <|
  eC ((d1.1+1),b)) (λq=>some q)) (some (.inl ()))
def G4(N:Nat)(b:cj):Option (Int):=
  (U2 N b N (0,([]:List (ae×Int)))).bind λ(a:(Unit)⊕(Int))=>
  sm a (λa=>
  some 0) (λq=>some q)
def ahP(N:Nat):bI bR:=cu N aZ [.c (.bJ (.aI cE))] [] ⟨.a (.c (.int .i64)),[],[]⟩ [] [] (.s .d (.s (.r [.t (.pc aS (.int .i64))]) (.s (.s .d (.b (.gL 0 ⟨[(3,.a (.c (.raw (.dI 10)))),(13,.a (.c (.int .i64)))],[(10,.mp aS (.int .i64))],[11,12],[]⟩ ⟨[],[],[],[]⟩ (.s .d (.s .d (.s (.b (.s .d (.s .d (.b (.gL 2 ⟨[(3,.a (.c (.raw (.dI 10)))),(19,.a (.c (.int .i64)))],[(10,.mp aS (.int .i64))],[11,12,13,17,18],[]⟩ ⟨[(3,.a (.c (.raw (.dI 10))))],[(10,.mp aS (.int .i64))],[11,12,13],[]⟩ (.s .d (.s .d (.s (.b (.s (.r [.n 4,.w (.cg 7 cE)]) (.s .d (.b (.gL 4 ⟨[(3,.a (.c (.raw (.dI 10)))),(26,.a (.c (.int .i64)))],[(10,.mp aS (.int .i64))],[11,12,13,17,18,19,24,25],[]⟩ ⟨[(3,.a (.c (.raw (.dI 10))))],[(10,.mp aS (.int .i64))],[11,12,13,17,18,19],[]⟩ (.s .d (.s .d (.s (.b (.s (.r [.n 4,.w (.cg 9 aS)]) (.s (.o [] [.t 0 0,.t 1 1,.w 2 3 4] []) (.s (.r [.n 2,.t .Cf]) .d)))) .d)))))))) .d)))))))) .d)))))) .d))) [.tmp 2] 0 (λd=>G4 N d.1) func190 ntmps190
def G5(N:Nat)(d:cj)(c:bZ)(a:Int)(ik:(Int×bZ)->Option (b7×bZ×bZ)):Nat->bZ->Option ((bZ)⊕(b7×bZ×bZ)):=cx λb rV=>
  ay ((aW a b.length)&&((bd ((((d.getD a.toNat []).getD (c.getD a.toNat 0).toNat cE.zero).2.2.1.length:Int)+(((d.getD a.toNat []).getD (c.getD a.toNat 0).toNat cE.zero).2.2.2.length:Int)))&&((decide (a.toNat<b.length))&&(true)))) <|
  cond (decide ((b.getD a.toNat 0)<((((d.getD a.toNat []).getD (c.getD a.toNat 0).toNat cE.zero).2.2.1.length:Int)+(((d.getD a.toNat []).getD (c.getD a.toNat 0).toNat cE.zero).2.2.2.length:Int)))) (ay ((aW a b.length)&&(true)) <|
  ay ((decide (a.toNat<b.length))&&(true)) <|
  (Am N ((d.getD a.toNat []).getD (c.getD a.toNat 0).toNat cE.zero) (b.getD a.toNat 0)).bind λe=>
  ay ((aW (IntKind.wrap .u8 (e.1-1)) c.length)&&((decide ((IntKind.wrap .u8 (e.1-1)).toNat<c.length))&&(true))) <|
  cond (decide ((c.getD (IntKind.wrap .u8 (e.1-1)).toNat 0)<=e.2)) (Option.bind (ay ((bd (a+1))&&(true)) <|
  ik ((a+1),b)) λq=>some (.inr q)) (ay ((aW a b.length)&&((decide (a.toNat<b.length))&&((bd ((b.getD a.toNat 0)+1))&&((aW a b.length)&&(((decide (a.toNat<b.length))&&(true))&&(true)))))) <|
  rV (b.set a.toNat ((b.getD a.toNat 0)+1)))) (some (.inl b))
def G6(N:Nat)(c:cj)(e:b7)(b:bZ):Nat->(Int×bZ)->Option (b7×bZ×bZ):=cx λa ik=>
  cond (decide (a.1<(c.length:Int))) (ay ((aW a.1 c.length)&&(true)) <|
  ay ((aW a.1 b.length)&&((decide (a.1.toNat<b.length))&&(true))) <|
  cond (decide ((b.getD a.1.toNat 0)=((c.getD a.1.toNat []).length:Int))) (ay ((bd (a.1+1))&&(true)) <|
  ik ((a.1+1),a.2)) (ay ((aW a.1 b.length)&&((decide (a.1.toNat<b.length))&&((aW (b.getD a.1.toNat 0) (c.getD a.1.toNat []).length)&&(true)))) <|
  (G5 N c b a.1 ik N a.2).bind λ(d:(bZ)⊕(b7×bZ×bZ))=>
  sm d (λd=>
  ay ((bd (a.1+1))&&((aW a.1 b.length)&&((decide (a.1.toNat<b.length))&&((dA 16 (e.length+[((IntKind.wrap .u8 (a.1+1)),(b.getD a.1.toNat 0))].length))&&(true))))) <|
  ay ((aW a.1 b.length)&&((decide (a.1.toNat<b.length))&&((bd ((b.getD a.1.toNat 0)+1))&&((aW a.1 b.length)&&(((decide (a.1.toNat<b.length))&&(true))&&(true)))))) <|
  ay ((aW a.1 d.length)&&(((decide (a.1.toNat<d.length))&&(true))&&(true))) <|
  some ((e++[((IntKind.wrap .u8 (a.1+1)),(b.getD a.1.toNat 0))]),(b.set a.1.toNat ((b.getD a.1.toNat 0)+1)),(d.set a.1.toNat 0))) (λq=>some q))) (some (e,b,a.2))
def G7(N:Nat)(b:cj)(c:Int):Nat->b7×bZ×bZ->Option (b7):=cx λd2 d=>
  cond (decide ((d2.1.length:Int)<c)) ((G6 N b d2.1 d2.2.1 N (0,d2.2.2)).bind λa=>
  cond (decide ((a.1.length:Int)=(d2.1.length:Int))) (some a.1) (d (a.1,a.2.1,a.2.2))) (some d2.1)
def xZ(N:Nat)(a:cj):Option (b7):=
  (xY N a).bind λb=>
  ay (((decide (0<=b))&&(gR 16 b))&&(true)) <|
  ay (((decide (0<=(a.length:Int)))&&(decide ((a.length:Int)<=(a.length:Int)))&&(gR 8 (a.length:Int)))&&(true)) <|
  ay (((decide (0<=(a.length:Int)))&&(decide ((a.length:Int)<=(a.length:Int)))&&(gR 8 (a.length:Int)))&&(true)) <|
  (G7 N a b N (([]:b7),(replicate (a.length:Int).toNat 0),(replicate (a.length:Int).toNat 0))).bind λc=>
  some c
def M5(N:Nat)(e:cj)(c:bZ)(a:Int)(ik:(Int×bZ)->Option (b7×bZ×bZ)):Nat->bZ->Option ((bZ)⊕(b7×bZ×bZ)):=cx λb rV=>
  ay ((aW a b.length)&&((bd ((((e.getD a.toNat []).getD (c.getD a.toNat 0).toNat cE.zero).2.2.1.length:Int)+(((e.getD a.toNat []).getD (c.getD a.toNat 0).toNat cE.zero).2.2.2.length:Int)))&&((decide (a.toNat<b.length))&&(true)))) <|
  cond (decide ((b.getD a.toNat 0)<((((e.getD a.toNat []).getD (c.getD a.toNat 0).toNat cE.zero).2.2.1.length:Int)+(((e.getD a.toNat []).getD (c.getD a.toNat 0).toNat cE.zero).2.2.2.length:Int)))) (ay ((aW a b.length)&&(true)) <|
  (λ(f:_->Option _)=>
  iy (ay ((decide (a.toNat<b.length))&&(true)) <|
  gY ((Am N ((e.getD a.toNat []).getD (c.getD a.toNat 0).toNat cE.zero) (b.getD a.toNat 0)).bind λd=>
  f d)) (ay ((decide (a.toNat<b.length))&&(true)) <|
  (Am N ((e.getD a.toNat []).getD (c.getD a.toNat 0).toNat cE.zero) (b.getD a.toNat 0)).bind λd=>
  f d)) (λd=>
  ay ((aW (IntKind.wrap .u8 (d.1-1)) c.length)&&((decide ((IntKind.wrap .u8 (d.1-1)).toNat<c.length))&&(true))) <|
  cond (decide ((c.getD (IntKind.wrap .u8 (d.1-1)).toNat 0)<=d.2)) (Option.bind (ay ((bd (a+1))&&(true)) <|
  ik ((a+1),b)) λq=>some (.inr q)) (ay ((aW a b.length)&&((decide (a.toNat<b.length))&&((bd ((b.getD a.toNat 0)+1))&&((aW a b.length)&&(((decide (a.toNat<b.length))&&(true))&&(true)))))) <|
  rV (b.set a.toNat ((b.getD a.toNat 0)+1))))) (some (.inl b))
def M6(N:Nat)(c:cj)(e:b7)(b:bZ):Nat->(Int×bZ)->Option (b7×bZ×bZ):=cx λa ik=>
  cond (decide (a.1<(c.length:Int))) (ay ((aW a.1 c.length)&&(true)) <|
  ay ((aW a.1 b.length)&&((decide (a.1.toNat<b.length))&&(true))) <|
  cond (decide ((b.getD a.1.toNat 0)=((c.getD a.1.toNat []).length:Int))) (ay ((bd (a.1+1))&&(true)) <|
  ik ((a.1+1),a.2)) (ay ((aW a.1 b.length)&&((decide (a.1.toNat<b.length))&&((aW (b.getD a.1.toNat 0) (c.getD a.1.toNat []).length)&&(true)))) <|
  (M5 N c b a.1 ik N a.2).bind λ(d:(bZ)⊕(b7×bZ×bZ))=>
  sm d (λd=>
  ay ((bd (a.1+1))&&((aW a.1 b.length)&&((decide (a.1.toNat<b.length))&&((dA 16 (e.length+[((IntKind.wrap .u8 (a.1+1)),(b.getD a.1.toNat 0))].length))&&(true))))) <|
  ay ((aW a.1 b.length)&&((decide (a.1.toNat<b.length))&&((bd ((b.getD a.1.toNat 0)+1))&&((aW a.1 b.length)&&(((decide (a.1.toNat<b.length))&&(true))&&(true)))))) <|
  ay ((aW a.1 d.length)&&(((decide (a.1.toNat<d.length))&&(true))&&(true))) <|
  some ((e++[((IntKind.wrap .u8 (a.1+1)),(b.getD a.1.toNat 0))]),(b.set a.1.toNat ((b.getD a.1.toNat 0)+1)),(d.set a.1.toNat 0))) (λq=>some q))) (some (e,b,a.2))
def M7(N:Nat)(b:cj)(c:Int):Nat->b7×bZ×bZ->Option (b7):=cx λd2 d=>
  cond (decide ((d2.1.length:Int)<c)) ((M6 N b d2.1 d2.2.1 N (0,d2.2.2)).bind λa=>
  cond (decide ((a.1.length:Int)=(d2.1.length:Int))) (some a.1) (d (a.1,a.2.1,a.2.2))) (some d2.1)
def G8(N:Nat)(a:cj):Option (b7):=
  (xY N a).bind λb=>
  ay (((decide (0<=b))&&(gR 16 b))&&(true)) <|
  ay (((decide (0<=(a.length:Int)))&&(decide ((a.length:Int)<=(a.length:Int)))&&(gR 8 (a.length:Int)))&&(true)) <|
  ay (((decide (0<=(a.length:Int)))&&(decide ((a.length:Int)<=(a.length:Int)))&&(gR 8 (a.length:Int)))&&(true)) <|
  (M7 N a b N (([]:b7),(replicate (a.length:Int).toNat 0),(replicate (a.length:Int).toNat 0))).bind λc=>
  some c
theorem ahQ:M5=G5:=by
 unfold M5 G5;simp only[gY,ox]
theorem ahR:M6=G6:=by
 unfold M6 G6;rw[ahQ]
theorem ahS:M7=G7:=by
 unfold M7 G7;rw[ahR]
theorem ahT:G8=xZ:=by
 unfold G8 xZ;rw[ahS]
def ahU(N:Nat):bI bR:=oC N aZ [.c (.bJ (.aI cE))] [] ⟨.a (.c (.bJ aS)),[],[]⟩ [UO N,ahN N] [] (.s .d (.s .d (.s .d (.s .d (.s .d (.s (.b (.fv 0 ⟨[(4,.a (.c (.raw (.aI 15)))),(5,.a (.c (.raw (.aI 18)))),(6,.a (.c (.raw (.aI 21))))],[(15,.row 58 aS),(18,.row 3 (.int .i64)),(21,.row 3 (.int .i64))],[0,3],[]⟩ ⟨[(4,.a (.c (.raw (.aI 15))))],[(15,.row 58 aS)],[],[]⟩ (.s .d (.b (.b (.s .d (.s .d (.s (.s .d (.b (.fv 2 ⟨[(4,.a (.c (.raw (.aI 15)))),(5,.a (.c (.raw (.aI 18)))),(6,.a (.c (.raw (.aI 21)))),(30,.a (.c (.int .i64)))],[(21,.row 3 (.int .i64))],[0,3,7,28,29],[15,18]⟩ ⟨[(4,.a (.c (.raw (.aI 15)))),(5,.a (.c (.raw (.aI 18)))),(6,.a (.c (.raw (.aI 21))))],[(15,.row 58 aS),(18,.row 3 (.int .i64)),(21,.row 3 (.int .i64))],[0,3,7],[]⟩ (.s .d (.s .d (.s (.b (.s .d (.s .d (.s (.r [.n 9,.w (.cg 10 cE)]) (.s (.b (.gL 4 ⟨[(4,.a (.c (.raw (.aI 15)))),(5,.a (.c (.raw (.aI 18)))),(6,.a (.c (.raw (.aI 21))))],[(21,.row 3 (.int .i64))],[0,3,7,8,10,28,29,30],[15,18]⟩ ⟨[(4,.a (.c (.raw (.aI 15)))),(5,.a (.c (.raw (.aI 18)))),(6,.a (.c (.raw (.aI 21))))],[(21,.row 3 (.int .i64))],[0,3,7,8],[15,18]⟩ (.s (.s (.o [] [.t 0 0,.t 1 0,.t 2 0,.t 4 0,.t 5 1,.t 6 0,.t 7 0,.t 8 1,.t 9 0,.t 10 0,.s 3,.t 11 0] []) .d) (.b (.s (.s (.c3 [] [] (.b [.t 0 1,.t 1 0,.t 2 0,.t 3 0] 4 6 [] [] none none (.b [] 5 6 [] [] none none (.f [.s 6,.s 7]) (.f [.c 5 [],.s 7])) (.f [.f,.s 4,.c 5 [],.s 7])) [(.cg 11 aS)] false) (.s (.o [] [.t 0 0,.t 1 1,.t 2 0,.t 3 0,.t 4 1,.t 5 0,.t 6 0,.s 7,.t 8 0] []) .d)) .d))))) .d))))) .d)))))) .d)))))))) (.s .d (.t [.dV 15])))))))) [.tmp 2] [] (λd=>G8 N d.1) (λd=>xZ N d.1) (λd=>(by rw[ahT]:G8 N d.1=xZ N d.1)) func191 ntmps191
def M8(N:Nat)(a:cj):Option (b7×Nat×Int):=
  cond (!(decide ((a.length:Int)=6))) (some (([]:b7),0,5)) ((xY N a).bind λf=>
  cond (decide (2048<f)) (some (([]:b7),0,3)) ((G2 N a).bind λc=>
  cond (!(decide (c=0))) (some (([]:b7),0,c)) ((G4 N a).bind λd=>
  cond (!(decide (d=0))) (some (([]:b7),0,d)) ((xZ N a).bind λb=>
  (xY N a).bind λg=>
  cond (decide ((b.length:Int)<g)) (some (([]:b7),0,6)) ((G3 N b).bind λe=>
  some (e.1,e.2,0))))))
def ahV(N:Nat):bI bR:=cu N aZ [.c (.bJ (.aI cE))] [] ⟨.cY [.c (.jK aS),.c (.int .i64)],[],[]⟩ [UO N,ahM N,ahP N,ahU N,ahO N] [] (.d) [.tmp 2,.tmp 3] ([],0,0) (λd=>M8 N d.1) func137 ntmps137
def G9(N:Nat)(a:cj):Option (Int):=
  (M8 N a).bind λb=>
  some b.2.2
def ahW(N:Nat):bI bR:=cu N aZ [.c (.bJ (.aI cE))] [] ⟨.a (.c (.int .i64)),[],[]⟩ [ahV N] [] (.d) [.tmp 2] 0 (λd=>G9 N d.1) func87 ntmps87
def C7(N:Nat)(b:cj)(a:ae):Option (Bool):=
  ay ((dK (decide (1<=a.1)) (bd a.1))&&((dK (cond (cond (decide (1<=a.1)) (decide (a.1<=(b.length:Int))) false) (decide (0<=a.2)) false) (aW (IntKind.wrap .u8 (a.1-1)) b.length))&&(true))) <|
  some (cond (cond (cond (decide (1<=a.1)) (decide (a.1<=(b.length:Int))) false) (decide (0<=a.2)) false) (decide (a.2<((b.getD (IntKind.wrap .u8 (a.1-1)).toNat []).length:Int))) false)
def U3(N:Nat):bI bR:=cu N aZ [.c (.bJ (.aI cE)),.dc aS] [] ⟨.a (.c .bool),[],[]⟩ [] [] (.s (.r [.n 2,.w (.cg 3 aS)]) (.s (.o [] [.t 0 0,.t 1 1,.t 2 0,.t 3 0,.t 4 0,.t 5 1,.t 6 0,.t 7 0,.t 8 0,.t 9 0,.t 10 0,.t 11 0,.t 12 0,.t 13 1,.t 14 0,.t 15 0,.t 16 0,.t 17 0,.t 18 1,.t 19 0,.t 20 0,.t 21 1,.t 22 0,.t 23 0,.t 24 1,.t 25 0,.t 26 0,.t 27 0,.t 28 0] []) .d)) [.tmp 4] false (λd=>C7 N d.1 d.2.1) func138 ntmps138
def U4(N:Nat)(a:o7):Nat->Int->Option ((Unit)⊕(Int)):=cx λd1 eC=>
  cond (decide (d1<(a.2.1.length:Int))) (ay ((aW d1 a.2.1.length)&&(true)) <|
  (C7 N a.1 (a.2.1.getD d1.toNat cO.zero).1).bind λb=>
  Option.bind (cond (!(!b)) (C7 N a.1 (a.2.1.getD d1.toNat cO.zero).2.1) (some false)) λc=>
  Option.bind (cond (!(cond (!b) true (!c))) (vG N (a.2.1.getD d1.toNat cO.zero).1 (a.2.1.getD d1.toNat cO.zero).2.1) (some 0)) λd=>
  cond (cond (cond (!b) true (!c)) true (decide (0<=d))) (some (.inr 1)) (cond (cond (cond (decide ((a.2.1.getD d1.toNat cO.zero).2.2<(-1048576:Int))) true (decide (1048576<(a.2.1.getD d1.toNat cO.zero).2.2))) true (decide ((a.2.1.getD d1.toNat cO.zero).2.2=0))) (some (.inr 1)) (ay ((dK (decide (0<d1)) (bd (d1-1)))&&((dK (decide (0<d1)) (aW (d1-1) a.2.1.length))&&(true))) <|
  Option.bind (cond (decide (0<d1)) (UU N (a.2.1.getD (d1-1).toNat cO.zero) (a.2.1.getD d1.toNat cO.zero)) (some 0)) λe=>
  cond (cond (decide (0<d1)) (decide (0<=e)) false) (some (.inr 1)) (ay ((bd (d1+1))&&(true)) <|
  eC (d1+1))))) (some (.inl ()))
def Ha(N:Nat)(b:o7):Option (Int):=
  (U4 N b N 0).bind λ(a:(Unit)⊕(Int))=>
  sm a (λa=>
  some 0) (λq=>some q)
def ahX(N:Nat):bI bR:=cu N aZ [.dc w7] [] ⟨.a (.c (.int .i64)),[],[]⟩ [U3 N,C5 N,ahJ N] [] (.s (.r [.n 2,.w (.cg 1 w7)]) (.s (.s .d (.b (.gL 0 ⟨[(8,.a (.c (.int .i64)))],[],[1,6,7],[]⟩ ⟨[],[],[],[]⟩ (.s .d (.s .d (.s (.b (.s (.r [.n 6,.w (.cg 4 cO)]) (.s .d (.s .d (.s (.o [] [.t 0 0,.t 1 0,.t 2 0,.t 3 0,.t 4 1,.t 5 0,.t 6 0,.t 7 0,.t 8 1,.t 9 1,.g 10,.t 11 0,.t 12 0] []) .d))))) .d)))))) .d)) [.tmp 2] 0 (λd=>Ha N d.1) func88 ntmps88
def U5(N:Nat)(a:b7):Nat->(Int×(List (ae×Int)))->Option ((List (ae×Int))):=cx λd1 eC=>
  cond (decide (d1.1<(a.length:Int))) (ay ((aW d1.1 a.length)&&(true)) <|
  ay ((true&&((bd (((de aS (.int .i64) d1.2 (a.getD d1.1.toNat aS.zero)).getD 0)+1))&&true))&&(true)) <|
  ay ((bd (d1.1+1))&&(true)) <|
  eC ((d1.1+1),(eS aS (.int .i64) d1.2 (a.getD d1.1.toNat aS.zero) (((de aS (.int .i64) d1.2 (a.getD d1.1.toNat aS.zero)).getD 0)+1)))) (some d1.2)
def An(N:Nat)(a:b7)(b:List (ae×Int)):Option ((List (ae×Int))):=
  (U5 N a N (0,b)).bind λc=>
  some c
def ahY(N:Nat):bI bR:=cu N aZ [.c (.bJ aS),.c (.raw (.ptr 1000000 0))] [GW,(1000001,.mp aS (.int .i64))] ⟨.cY [],[GW,(1000001,.mp aS (.int .i64))],[]⟩ [] [] (.s .d (.b (.fv 0 ⟨[(1,.a (.c (.raw (.ptr 1000000 0)))),(7,.a (.c (.int .i64)))],[GW,(1000001,.mp aS (.int .i64))],[5,6],[]⟩ ⟨[],[GW,(1000001,.mp aS (.int .i64))],[],[]⟩ (.s .d (.s .d (.s (.b (.s (.r [.n 4,.w (.cg 4 aS)]) (.o [1] [.t 0 3,.t 1 1,.w 2 3 4] []))) .d)))))) [] [] (λd=>An N d.1 d.2.1) func140 ntmps140
def Hb(N:Nat)(a:o7)(b:Int):Nat->Int->Option ((Unit)⊕((Unit)⊕(Int))):=cx λd2 fQ=>
  cond (decide (d2<((([a.2.2.1,a.2.2.2]:bV).getD b.toNat []).length:Int))) (ay ((aW d2 (([a.2.2.1,a.2.2.2]:bV).getD b.toNat []).length)&&(true)) <|
  (C7 N a.1 ((([a.2.2.1,a.2.2.2]:bV).getD b.toNat []).getD d2.toNat aS.zero)).bind λc=>
  cond (!c) (some (.inr (.inr 7))) (ay ((bd (d2+1))&&(true)) <|
  fQ (d2+1))) (some (.inl ()))
def M9(N:Nat)(a:o7):Nat->Int->Option ((Unit)⊕(Int)):=cx λd1 eC=>
  cond (decide (d1<2)) (ay (((aW d1 2)&&(aW d1 ([a.2.2.1,a.2.2.2]:bV).length))&&(true)) <|
  (Hb N a d1 N 0).bind λ(b:(Unit)⊕((Unit)⊕(Int)))=>
  sm b (λb=>
  ay ((bd (d1+1))&&(true)) <|
  eC (d1+1)) (λq=>some q)) (some (.inl ()))
def Na(N:Nat)(b:o7):Nat->Int->Option ((Unit)⊕(Int)):=cx λa rV=>
  cond (decide (a<(b.2.2.2.length:Int))) (ay ((aW a b.2.2.2.length)&&(true)) <|
  ay ((dK (decide (0<a)) (bd (a-1)))&&((dK (decide (0<a)) (aW (a-1) b.2.2.2.length))&&(true))) <|
  Option.bind (cond (decide (0<a)) (vG N (b.2.2.2.getD (a-1).toNat aS.zero) (b.2.2.2.getD a.toNat aS.zero)) (some 0)) λc=>
  cond (cond (decide (0<a)) (decide (0<=c)) false) (some (.inr 6)) (ay ((bd (a+1))&&(true)) <|
  rV (a+1))) (some (.inl ()))
def Nb(N:Nat)(c:o7)(b:Int):Nat->(Int×(List (ae×Int)))->Option ((List (ae×Int))):=cx λa ahZ=>
  cond (decide (a.1<((c.1.getD b.toNat []).length:Int))) (ay ((aW a.1 (c.1.getD b.toNat []).length)&&(true)) <|
  (An N ((c.1.getD b.toNat []).getD a.1.toNat cE.zero).2.2.1 a.2).bind λd=>
  ay ((bd (a.1+1))&&(true)) <|
  ahZ ((a.1+1),d)) (some a.2)
def Nd(N:Nat)(b:o7):Nat->(Int×(List (ae×Int)))->Option ((List (ae×Int))):=cx λa Nf=>
  cond (decide (a.1<(b.1.length:Int))) (ay ((aW a.1 b.1.length)&&(true)) <|
  (Nb N b a.1 N (0,a.2)).bind λc=>
  ay ((bd (a.1+1))&&(true)) <|
  Nf ((a.1+1),c)) (some a.2)
def Ng(N:Nat)(b:o7)(c:(List (ae×Int)))(a:Int):Nat->Int->Option ((Unit)⊕((Unit)⊕(Int))):=cx λd12 Nh=>
  cond (decide (d12<((b.1.getD a.toNat []).length:Int))) (ay ((bd (a+1))&&(true)) <|
  cond (!(decide (((de aS (.int .i64) c ((IntKind.wrap .u8 (a+1)),d12)).getD 0)=1))) (some (.inr (.inr 6))) (ay ((bd (d12+1))&&(true)) <|
  Nh (d12+1))) (some (.inl ()))
def Ni(N:Nat)(a:o7)(c:(List (ae×Int))):Nat->Int->Option ((Unit)⊕(Int)):=cx λd11 ah1=>
  cond (decide (d11<(a.1.length:Int))) (ay ((aW d11 a.1.length)&&(true)) <|
  (Ng N a c d11 N 0).bind λ(b:(Unit)⊕((Unit)⊕(Int)))=>
  sm b (λb=>
  ay ((bd (d11+1))&&(true)) <|
  ah1 (d11+1)) (λq=>some q)) (some (.inl ()))
def Hc(N:Nat)(a:o7):Option (Int):=
  (M9 N a N 0).bind λ(c:(Unit)⊕(Int))=>
  sm c (λc=>
  (Na N a N 0).bind λ(d:(Unit)⊕(Int))=>
  sm d (λd=>
  (An N a.2.2.1 ([]:List (ae×Int))).bind λe=>
  (An N a.2.2.2 e).bind λf=>
  (Nd N a N (0,f)).bind λg=>
  (Ni N a g N 0).bind λ(b:(Unit)⊕(Int))=>
  sm b (λb=>
  some 0) (λq=>some q)) (λq=>some q)) (λq=>some q)
def ah2(N:Nat):bI bR:=cu N aZ [.dc w7] [] ⟨.a (.c (.int .i64)),[],[]⟩ [U3 N,C5 N,ahY N] [] (.s (.r [.n 2,.w (.cg 1 w7)]) (.s (.s .d (.b (.gL 0 ⟨[(23,.a (.c (.int .i64)))],[],[1,22],[]⟩ ⟨[],[],[1],[]⟩ (.s .d (.s .d (.s (.b (.s .d (.s .d (.b (.gL 2 ⟨[(28,.a (.c (.int .i64)))],[],[1,22,23,26,27],[]⟩ ⟨[],[],[1,22,23],[]⟩ (.s .d (.s .d (.s (.b (.s (.r [.n 4,.w (.cg 6 aS)]) .d)) .d)))))))) .d)))))) (.s (.s .d (.b (.gL 4 ⟨[(42,.a (.c (.int .i64)))],[],[1,40,41],[]⟩ ⟨[],[],[1],[]⟩ (.s .d (.s .d (.s (.b (.s (.r [.n 6,.w (.cg 8 aS)]) (.s (.o [] [.t 0 0,.t 1 0,.t 2 0,.t 3 0,.t 4 1,.t 5 0,.t 6 0,.t 7 0,.t 8 1,.t 9 1,.g 10,.t 11 0,.t 12 0] []) .d))) .d)))))) (.s (.r [.t (.pc aS (.int .i64))]) (.s .d (.s (.r [.n 3,.c [(1000000,9),(1000001,61)]]) (.s (.r [.n 3,.c [(1000000,9),(1000001,61)]]) (.s (.s .d (.b (.fv 6 ⟨[(9,.a (.c (.raw (.ptr 9 0)))),(10,.a (.c (.fn 140 [.id 9]))),(74,.a (.c (.int .i64)))],[tt,(61,.mp aS (.int .i64))],[1,72,73],[]⟩ ⟨[(9,.a (.c (.raw (.ptr 9 0))))],[tt,(61,.mp aS (.int .i64))],[1],[]⟩ (.s .d (.s .d (.s (.b (.s .d (.s .d (.b (.fv 8 ⟨[(9,.a (.c (.raw (.ptr 9 0)))),(10,.a (.c (.fn 140 [.id 9]))),(80,.a (.c (.int .i64)))],[tt,(61,.mp aS (.int .i64))],[1,72,73,74,78,79],[]⟩ ⟨[(9,.a (.c (.raw (.ptr 9 0)))),(10,.a (.c (.fn 140 [.id 9])))],[tt,(61,.mp aS (.int .i64))],[1,72,73,74],[]⟩ (.s .d (.s .d (.s (.b (.s (.r [.n 4,.w (.cg 14 cE)]) (.r [.n 3,.c [(1000000,9),(1000001,61)]]))) .d)))))))) .d)))))) (.s (.s .d (.b (.gL 10 ⟨[(9,.a (.c (.raw (.ptr 9 0)))),(93,.a (.c (.int .i64)))],[tt],[91,92],[61]⟩ ⟨[],[],[],[]⟩ (.s .d (.s .d (.s (.b (.s .d (.s .d (.b (.gL 12 ⟨[(9,.a (.c (.raw (.ptr 9 0)))),(100,.a (.c (.int .i64)))],[tt],[15,91,92,93,99],[61]⟩ ⟨[(9,.a (.c (.raw (.ptr 9 0))))],[tt],[91,92,93],[61]⟩ (.s .d (.s .d (.s (.b (.s .d (.s (.r [.n 6,.t .Cf]) .d))) .d)))))))) .d)))))) .d))))))))) [.tmp 2] 0 (λd=>Hc N d.1) func89 ntmps89
def Hd(N:Nat)(a:o7):Option (Int):=
  (G9 N a.1).bind λb=>
  cond (!(decide (b=0))) (some b) ((Ha N a).bind λc=>
  cond (!(decide (c=0))) (some c) ((Hc N a).bind λd=>
  some d))
def ah3(N:Nat):bI bR:=cu N aZ [.dc w7] [] ⟨.a (.c (.int .i64)),[],[]⟩ [ahW N,ahX N,ah2 N] [] (.s (.r [.n 2,.w (.cg 1 w7)]) .d) [.tmp 2] 0 (λd=>Hd N d.1) func45 ntmps45
def U6(N:Nat)(a:b7)(b:b7):Nat->Int->Option ((Unit)⊕(Bool)):=cx λd1 eC=>
  cond (decide (d1<(a.length:Int))) (ay ((aW d1 a.length)&&((aW d1 b.length)&&(true))) <|
  cond (!(aV.beq aS (a.getD d1.toNat aS.zero) (b.getD d1.toNat aS.zero))) (some (.inr false)) (ay ((bd (d1+1))&&(true)) <|
  eC (d1+1))) (some (.inl ()))
def He(N:Nat)(a:b7)(b:b7):Option (Bool):=
  cond (!(decide ((a.length:Int)=(b.length:Int)))) (some false) ((U6 N a b N 0).bind λ(c:(Unit)⊕(Bool))=>
  sm c (λc=>
  some true) (λq=>some q))
def ah4(N:Nat):bI bR:=cu N aZ [.c (.bJ aS),.c (.bJ aS)] [] ⟨.a (.c .bool),[],[]⟩ [] [] (.s .d (.s .d (.s (.s .d (.b (.gL 0 ⟨[(13,.a (.c (.int .i64)))],[],[0,1,12],[]⟩ ⟨[],[],[],[]⟩ (.s .d (.s .d (.s (.b (.s .d (.s (.o [] [.t 0 0,.t 1 0,.t 2 0,.t 3 1,.t 4 0,.t 5 0,.t 6 0,.t 7 1,.t 8 0] []) .d))) .d)))))) .d))) [.tmp 4] false (λd=>He N d.1 d.2.1) func31 ntmps31
def vH:dU:=(append (append (append [0,1,2,2,3,3,3,3,4,4,4,4,4,4,4,4,5,5,5,5,5,5,5,5,5,5,5,5,5,5,5,5,6,6,6,6,6,6,6,6,6,6,6,6,6,6,6,6,6,6,6,6,6,6,6,6,6,6,6,6,6,6,6,6] [7,7,7,7,7,7,7,7,7,7,7,7,7,7,7,7,7,7,7,7,7,7,7,7,7,7,7,7,7,7,7,7,7,7,7,7,7,7,7,7,7,7,7,7,7,7,7,7,7,7,7,7,7,7,7,7,7,7,7,7,7,7,7,7]) [8,8,8,8,8,8,8,8,8,8,8,8,8,8,8,8,8,8,8,8,8,8,8,8,8,8,8,8,8,8,8,8,8,8,8,8,8,8,8,8,8,8,8,8,8,8,8,8,8,8,8,8,8,8,8,8,8,8,8,8,8,8,8,8]) [8,8,8,8,8,8,8,8,8,8,8,8,8,8,8,8,8,8,8,8,8,8,8,8,8,8,8,8,8,8,8,8,8,8,8,8,8,8,8,8,8,8,8,8,8,8,8,8,8,8,8,8,8,8,8,8,8,8,8,8,8,8,8,8])
def U7(N:Nat)(c:Int):Option (Int):=
  Option.bind (cond (decide (4294967296<=c)) (some ((fdiv c (2 ^ (min (32:Int).toNat (IntKind.bits .u64)))),32)) (some (c,0))) λb=>
  Option.bind (cond (decide (65536<=b.1)) (ay ((bd (b.2+16))&&(true)) <|
  some ((fdiv b.1 (2 ^ (min (16:Int).toNat (IntKind.bits .u64)))),(b.2+16))) (some (b.1,b.2))) λa=>
  cond (decide (256<=a.1)) (ay ((bd (a.2+8))&&(true)) <|
  ay ((aW (IntKind.wrap .u8 (fdiv a.1 (2 ^ (min (8:Int).toNat (IntKind.bits .u64))))) vH.length)&&((bd ((vH.getD (IntKind.wrap .u8 (fdiv a.1 (2 ^ (min (8:Int).toNat (IntKind.bits .u64))))).toNat 0).toNat:Int))&&((bd ((a.2+8)+((vH.getD (IntKind.wrap .u8 (fdiv a.1 (2 ^ (min (8:Int).toNat (IntKind.bits .u64))))).toNat 0).toNat:Int)))&&(true)))) <|
  some ((a.2+8)+((vH.getD (IntKind.wrap .u8 (fdiv a.1 (2 ^ (min (8:Int).toNat (IntKind.bits .u64))))).toNat 0).toNat:Int))) (ay ((aW (IntKind.wrap .u8 a.1) vH.length)&&((bd ((vH.getD (IntKind.wrap .u8 a.1).toNat 0).toNat:Int))&&((bd (a.2+((vH.getD (IntKind.wrap .u8 a.1).toNat 0).toNat:Int)))&&(true)))) <|
  some (a.2+((vH.getD (IntKind.wrap .u8 a.1).toNat 0).toNat:Int)))
def ah5(N:Nat):bI bR:=cu N aZ [.c (.int .u64)] [] ⟨.a (.c (.int .i64)),[],[]⟩ [] [] (.s .d (.j ⟨[(0,.a (.c (.int .u64))),(2,.a (.c (.int .i64)))],[],[],[]⟩ .d (.j ⟨[(0,.a (.c (.int .u64))),(2,.a (.c (.int .i64)))],[],[],[]⟩ .d .d))) [.tmp 2] 0 (λd=>U7 N d.1) func136 ntmps136
def Hf(N:Nat)(a:Int):Option (Int):=
  (U7 N a).bind λb=>
  some b
def Nk(N:Nat):bI bR:=cu N aZ [.c (.int .u64)] [] ⟨.a (.c (.int .i64)),[],[]⟩ [ah5 N] [] (.d) [.tmp 2] 0 (λd=>Hf N d.1) func82 ntmps82
def ah6(N:Nat)(a:Int):Nat->(Int×b7)->Option (b7):=cx λd2 fQ=>
  ay ((dK (decide (a<d2.1)) (aW d2.1 d2.2.length))&&((dK (decide (a<d2.1)) (decide (d2.1.toNat<d2.2.length)))&&((dK (decide (a<d2.1)) (bd (d2.1-1)))&&((dK (decide (a<d2.1)) (aW (d2.1-1) d2.2.length))&&((dK (decide (a<d2.1)) (decide ((d2.1-1).toNat<d2.2.length)))&&(true)))))) <|
  Option.bind (cond (decide (a<d2.1)) (vG N (d2.2.getD d2.1.toNat aS.zero) (d2.2.getD (d2.1-1).toNat aS.zero)) (some 0)) λb=>
  cond (cond (decide (a<d2.1)) (decide (b<0)) false) (ay ((bd (d2.1-1))&&((bd (d2.1-1))&&((aW (d2.1-1) d2.2.length)&&((decide ((d2.1-1).toNat<d2.2.length))&&((aW d2.1 d2.2.length)&&((decide (d2.1.toNat<d2.2.length))&&((aW d2.1 d2.2.length)&&(((decide (d2.1.toNat<d2.2.length))&&(true))&&((aW (d2.1-1) (d2.2.set d2.1.toNat (d2.2.getD (d2.1-1).toNat aS.zero)).length)&&(((decide ((d2.1-1).toNat<(d2.2.set d2.1.toNat (d2.2.getD (d2.1-1).toNat aS.zero)).length))&&(true))&&(true))))))))))) <|
  ay ((bd (d2.1-1))&&(true)) <|
  fQ ((d2.1-1),((d2.2.set d2.1.toNat (d2.2.getD (d2.1-1).toNat aS.zero)).set (d2.1-1).toNat (d2.2.getD d2.1.toNat aS.zero)))) (some d2.2)
def ah7(N:Nat)(a:Int)(b:Int):Nat->(Int×b7)->Option (b7):=cx λd1 eC=>
  cond (decide (d1.1<b)) ((ah6 N a N (d1.1,d1.2)).bind λc=>
  ay ((bd (d1.1+1))&&(true)) <|
  eC ((d1.1+1),c)) (some d1.2)
def U8(N:Nat)(a:Int)(c:Int)(b:b7):Option (b7):=
  ay ((bd (a+1))&&(true)) <|
  (ah7 N a c N ((a+1),b)).bind λd=>
  some d
def ah8(N:Nat):bI bR:=cu N aZ [.c (.raw (.aI 2000000)),.c (.int .i64),.c (.int .i64),.c (.fn 62 [])] [(2000000,.row 58 aS)] ⟨.cY [],[(2000000,.row 58 aS)],[]⟩ [C5 N] [] (.s .d (.b (.fv 0 ⟨[(0,.a (.c (.raw (.aI 2000000)))),(8,.a (.c (.int .i64)))],[(2000000,.row 58 aS)],[1,2,3],[]⟩ ⟨[],[(2000000,.row 58 aS)],[],[]⟩ (.s .d (.s (.b (.s .d (.b (.fv 2 ⟨[(0,.a (.c (.raw (.aI 2000000)))),(9,.a (.c (.int .i64)))],[(2000000,.row 58 aS)],[1,2,3,8],[]⟩ ⟨[(0,.a (.c (.raw (.aI 2000000))))],[(2000000,.row 58 aS)],[1,2,3,8],[]⟩ (.s (.s (.nU [9,10,11,12,13] [.t 0 0,.t 1 0,.t 2 0,.t 3 0,.t 4 0,.t 5 0,.t 6 0,.t 7 0,.t 8 3,.t 9 0,.t 10 0,.t 11 0,.t 12 0,.t 13 3,.g 14,.t 15 0,.t 16 0] []) .d) (.s (.b (.nU [10,11,12,13] [.t 0 0,.t 1 0,.t 2 0,.t 3 0,.t 4 0,.t 5 0,.t 6 0,.t 7 0,.t 8 0,.t 9 3,.t 10 0,.t 11 0,.t 12 0,.t 13 3,.t 14 0,.s 15,.t 16 0,.s 17] [])) .d)))))) .d))))) [] [] (λd=>U8 N d.1 d.2.1 d.2.2.1) func164 ntmps164
def ah9(N:Nat)(a:Int)(b:Int)(c:Int)(d:b7):Nat->Unit->Option ((Unit)⊕(b7)):=cx λd1 g=>
  ay ((bd (b-a))&&(true)) <|
  cond (decide ((b-a)<=12)) ((U8 N a b d).bind λe=>
  some (.inr e)) (cond (decide (c=0)) (none) (Option.bind (some ()) λf=>
  none))
def U9(N:Nat)(b:Int)(e:Int)(c:Int)(d:b7):Option (b7):=
  (ah9 N b e c d N ()).bind λ(a:(Unit)⊕(b7))=>
  sm a (λa=>
  none) (λq=>some q)
def aia(N:Nat):bI bR:=cu N aZ [.c (.raw (.aI 2000000)),.c (.int .i64),.c (.int .i64),.c (.int .i64),.c (.fn 62 [])] [(2000000,.row 58 aS)] ⟨.cY [],[(2000000,.row 58 aS)],[]⟩ [ah8 N] [] (.s .d (.s .d (.b (.gL 0 ⟨[(0,.a (.c (.raw (.aI 2000000))))],[],[1,2,3,4,10,11],[2000000]⟩ ⟨[],[],[],[]⟩ (.b (.s .d (.s (.s .d (.c (.s (.r [.n 4,.c [(2000000,2000000)]]) .d) .d)) (.s .d (.j ⟨[(0,.a (.c (.raw (.aI 2000000))))],[],[1,2,3,4,10,11,12],[2000000]⟩ .d .d))))))))) [] [] (λd=>U9 N d.1 d.2.1 d.2.2.1 d.2.2.2.1) func107 ntmps107
def Hg(N:Nat)(a:b7):Option (b7):=
  (Hf N (IntKind.wrap .u64 (a.length:Int))).bind λb=>
  (U9 N 0 (a.length:Int) b a).bind λc=>
  some c
def aib(N:Nat):bI bR:=cu N aZ [.c (.raw (.aI 2000000)),.c (.fn 62 [])] [(2000000,.row 58 aS)] ⟨.cY [],[(2000000,.row 58 aS)],[]⟩ [Nk N,aia N] [] (.s .d (.r [.n 6,.c [(2000000,2000000)]])) [] [] (λd=>Hg N d.1) func64 ntmps64
def Va(N:Nat) :Nat->(Int×Int×b7)->Option (b7):=cx λd1 eC=>
  cond (decide (d1.1<d1.2.1)) (ay ((aW d1.2.1 d1.2.2.length)&&((decide (d1.2.1.toNat<d1.2.2.length))&&((aW d1.1 d1.2.2.length)&&((decide (d1.1.toNat<d1.2.2.length))&&((aW d1.1 d1.2.2.length)&&(((decide (d1.1.toNat<d1.2.2.length))&&(true))&&((aW d1.2.1 (d1.2.2.set d1.1.toNat (d1.2.2.getD d1.2.1.toNat aS.zero)).length)&&(((decide (d1.2.1.toNat<(d1.2.2.set d1.1.toNat (d1.2.2.getD d1.2.1.toNat aS.zero)).length))&&(true))&&(true))))))))) <|
  ay ((bd (d1.1+1))&&((bd (d1.2.1-1))&&(true))) <|
  eC ((d1.1+1),(d1.2.1-1),((d1.2.2.set d1.1.toNat (d1.2.2.getD d1.2.1.toNat aS.zero)).set d1.2.1.toNat (d1.2.2.getD d1.1.toNat aS.zero)))) (some d1.2.2)
def Ap(N:Nat)(a:b7):Option (b7):=
  ay ((bd ((a.length:Int)-1))&&(true)) <|
  (Va N N (0,((a.length:Int)-1),a)).bind λb=>
  some b
def aic(N:Nat):bI bR:=cu N aZ [.c (.raw (.aI 2000000))] [(2000000,.row 58 aS)] ⟨.cY [],[(2000000,.row 58 aS)],[]⟩ [] [] (.s .d (.b (.fv 0 ⟨[(0,.a (.c (.raw (.aI 2000000)))),(2,.a (.c (.int .i64))),(3,.a (.c (.int .i64)))],[(2000000,.row 58 aS)],[],[]⟩ ⟨[],[(2000000,.row 58 aS)],[],[]⟩ (.s .d (.s (.b (.nU [8,9,10,11] [.t 0 0,.t 1 0,.t 2 0,.t 3 0,.t 4 0,.t 5 0,.t 6 0,.t 7 3,.t 8 0,.t 9 0,.t 10 0,.t 11 3,.t 12 0,.s 13,.t 14 0,.s 15] [])) .d))))) [] [] (λd=>Ap N d.1) func197 ntmps197
end
section
set_option linter.unusedSectionVars false
def aid(X:bz)(f:FuncId)(args:ej)(h:bC)(Q:b8->bC->Prop):Prop:=
 ∀(B:Nat->Prop) (ai:World) (env:Nat->Loc) (vs:bY) (H:cI) (W:World),y2 X B ai->dO env B ai args vs->bG env B ai h H->bT B ai H W->∀u,CallsDIn Fence.wide 0 X.P f vs.toArray u W (λe a w'=>a=u/\∃v,e=.returned v/\wQ X env B H W Q v w')
structure aie(X:bz) where
 c:bI X
 apb:∀d r,c.m d=some r->aid X c.f (jA c.A d).1 (kH c.eO (jA c.A d).2).1 (λsv h=>sv=(c.out d r).1/\h=(c.out d r).2)
section
variable {X:bz} {n:Nat}
end
section
variable {X:bz} {R:Nat->Prop} {W:World} {aD:fk} {n:Nat} {env:Nat->Loc} {B:Nat->Prop} {ai:World} {H:cI} {st:aQ} {a:Act} {w:World}
end
end
section
set_option linter.unusedSectionVars false
section
variable {X:bz} {R:Nat->Prop} {W:World} {aD:fk} {n:Nat} {env:Nat->Loc} {B:Nat->Prop} {ai:World} {H:cI} {st:aQ} {a:Act} {w:World}
end
section
variable {X:bz} {N n:Nat} {T:List (bI X)} {bK:List (l6 X)} {apc:aie X} {ms:List (Nat×Nat)} {aB:ev} {apd:Nat} {res:List ResultVar} {ape:l7} {fn:Func}
end
def Aq(N:Nat)(b:Bool)(a:h3):Option (List (Int×bV×Unit)):=
  vE b (0,a.1,()) (some [])
  (vE b (1,a.2,()) (some [])
  (some []))
def Vb(N:Nat):l6 bR:=MW N aZ (by kernel_rfl) [.fr fW] [] [.c (.int .u8),.c (.bJ (.aI aS))] [] [] (.s (.r [.n 3,.y]) (.c (.r [.n 3,.y]) .d)) 120 (λb d=>Aq N b d.1) func120 rfl rfl ntmps120 (λ_=>rfl) rfl rfl (λid d=>by kernel_rfl)
def Ar(N:Nat)(a:h3):Option (h3):=
  some a
def Vc(N:Nat):bI bR:=cu N aZ [.dc fW] [] ⟨.a (.c (.fn 120 [.fr fW])),[],[]⟩ [] [] (.s (.r [.n 2,.w (.cg 1 fW)]) .d) [.tmp 2] fW.zero (λd=>Ar N d.1) func77 ntmps77
def Hh(N:Nat)(b:Bool)(c:(Int×bV×Unit))(d:Unit->Option ((List (ae×b7×Unit)))):Nat->Int->Option ((List (ae×b7×Unit))):=cx λa ik=>
  cond (decide (a<(c.2.1.length:Int))) (ay ((aW a c.2.1.length)&&(true)) <|
  cond (decide (40<=a)) (d ()) (ay ((bd (a+1))&&(true)) <|
  vE b ((c.1,(a+1)),(c.2.1.getD a.toNat []),()) (some [])
  (ay ((bd (a+1))&&(true)) <|
  ik (a+1)))) (d ())
def As(N:Nat)(b:Bool)(a:h3):Option (List (ae×b7×Unit)):=
  (Ar N a).bind λc=>
  (Aq N true c).bind λd=>kJ (λ(f:Int×bV×Unit) (h:Unit) (e:Unit->Option (List (ae×b7×Unit)))=>
  Hh N b f e N 0) d () λg=>
  some []
def Vd(N:Nat):l6 bR:=MW N aZ (by kernel_rfl) [.fr fW] [] [.dc aS,.c (.bJ aS)] [Vc N] [Vb N] (.s .d (.s .d (.b (.pW [(2,31)] ⟨[],[],[],[31]⟩ (.b (.s .d (.b (.l ⟨[(2,.a (.c (.raw (.ptr 31 0)))),(13,.a (.c (.int .i64)))],[],[3,11,12],[31]⟩ (.s .d (.s .d (.s (.b (.s .d (.s .d (.s (.r [.n 6,.y]) .d)))) .d))))))))))) 76 (λb d=>As N b d.1) func76 rfl rfl ntmps76 (λ_=>rfl) rfl rfl (λid d=>by kernel_rfl)
def Nl(N:Nat)(a:h3):Option (h3):=
  some a
def Ve(N:Nat):bI bR:=cu N aZ [.dc fW] [] ⟨.a (.c (.fn 76 [.fr fW])),[],[]⟩ [] [] (.s (.r [.n 2,.w (.cg 1 fW)]) .d) [.tmp 2] fW.zero (λd=>Nl N d.1) func37 ntmps37
def Hi(N:Nat)(c:h3):Option (Int):=
  (Nl N c).bind λd=>
  (As N true d).bind λe=>kJ (λ(a:ae×b7×Unit) (b:Int) (eT:Int->Option (Int))=>
  ay ((bd (b+(a.2.1.length:Int)))&&(true)) <|
  eT (b+(a.2.1.length:Int))) e 0 λf=>
  some f
def Vf(N:Nat):bI bR:=cu N aZ [.dc fW] [] ⟨.a (.c (.int .i64)),[],[]⟩ [Ve N] [Vd N] (.s (.r [.n 2,.w (.cg 1 fW)]) (.s .d (.s (.s .d (.b (.pW [(3,18)] ⟨[],[(18,.cells 3 [.int .i64])],[],[]⟩ .d))) .d))) [.tmp 2] 0 (λd=>Hi N d.1) func14 ntmps14
def Hj(N:Nat)(b:(Int×bV×Unit)):Nat->Int->Option ((Int×Bool)⊕(Int)):=cx λa ik=>
  cond (decide (a<(b.2.1.length:Int))) (ay ((aW a b.2.1.length)&&(true)) <|
  cond (decide (4<((b.2.1.getD a.toNat []).length:Int))) (some (.inr 9)) (ay ((bd (a+1))&&(true)) <|
  ik (a+1))) (some (.inl (a,(decide (a<(b.2.1.length:Int))))))
def Vg(N:Nat)(b:(Int×bV×Unit))(c:Int):Nat->Int->Option ((Unit)⊕((Int×Bool)⊕(Int))):=cx λa sY=>
  cond (decide (a<((b.2.1.getD c.toNat []).length:Int))) (ay ((aW a (b.2.1.getD c.toNat []).length)&&(true)) <|
  (Ak N ((b.2.1.getD c.toNat []).getD a.toNat aS.zero)).bind λd=>
  cond (!d) (some (.inr (.inr 1))) (ay ((bd (a+1))&&(true)) <|
  sY (a+1))) (some (.inl ()))
def Hk(N:Nat)(b:(Int×bV×Unit)):Nat->Int->Option ((Int×Bool)⊕(Int)):=cx λa Au=>
  cond (decide (a<(b.2.1.length:Int))) (ay ((aW a b.2.1.length)&&(true)) <|
  (Vg N b a N 0).bind λ(c:(Unit)⊕((Int×Bool)⊕(Int)))=>
  sm c (λc=>
  ay ((bd (a+1))&&(true)) <|
  Au (a+1)) (λq=>some q)) (some (.inl (a,(decide (a<(b.2.1.length:Int))))))
def Vh(N:Nat)(b:(Int×bV×Unit))(a:Int):Nat->(Int×(List (ae×Bool)))->Option (((List (ae×Bool)))⊕((Int×Bool×(List (ae×Bool)))⊕(Int))):=cx λd13 aif=>
  cond (decide (d13.1<((b.2.1.getD a.toNat []).length:Int))) (ay ((aW d13.1 (b.2.1.getD a.toNat []).length)&&(true)) <|
  cond ((de aS .bool d13.2 ((b.2.1.getD a.toNat []).getD d13.1.toNat aS.zero)).getD false) (some (.inr (.inr 8))) (ay ((true&&true)&&(true)) <|
  ay ((bd (d13.1+1))&&(true)) <|
  aif ((d13.1+1),(eS aS .bool d13.2 ((b.2.1.getD a.toNat []).getD d13.1.toNat aS.zero) true)))) (some (.inl d13.2))
def Hm(N:Nat)(a:(Int×bV×Unit)):Nat->(Int×(List (ae×Bool)))->Option ((Int×Bool×(List (ae×Bool)))⊕(Int)):=cx λd12 Nh=>
  cond (decide (d12.1<(a.2.1.length:Int))) (ay ((aW d12.1 a.2.1.length)&&(true)) <|
  (Vh N a d12.1 N (0,d12.2)).bind λ(b:((List (ae×Bool)))⊕((Int×Bool×(List (ae×Bool)))⊕(Int)))=>
  sm b (λb=>
  ay ((bd (d12.1+1))&&(true)) <|
  Nh ((d12.1+1),b)) (λq=>some q)) (some (.inl (d12.1,(decide (d12.1<(a.2.1.length:Int))),d12.2)))
def Av(N:Nat)(a:h3):Option (Int):=
  (Ar N a).bind λk=>
  (Aq N true k).bind λl=>kJ (λ(e:Int×bV×Unit) (y:Unit) (n:Unit->Option (Int))=>
  cond (decide (40<(e.2.1.length:Int))) (some 9) ((Hj N e N 0).bind λ(c:(Int×Bool)⊕(Int))=>
  sm c (λc=>
  n ()) (λq=>some q))) l () λu=>
  (Ar N a).bind λm=>
  (Aq N true m).bind λg=>kJ (λ(r:Int×bV×Unit) (t:Unit) (f:Unit->Option (Int))=>
  (Hk N r N 0).bind λ(d:(Int×Bool)⊕(Int))=>
  sm d (λd=>
  f ()) (λq=>some q)) g () λv=>
  (Hi N a).bind λw=>
  (Ar N a).bind λo=>
  (Aq N true o).bind λh=>kJ (λ(p:Int×bV×Unit) (i:(List (ae×Bool))) (j:(List (ae×Bool))->Option (Int))=>
  (Hm N p N (0,i)).bind λ(b:(Int×Bool×(List (ae×Bool)))⊕(Int))=>
  sm b (λb=>
  j b.2.2) (λq=>some q)) h ([]:List (ae×Bool)) λs=>
  some 0
def Hn(N:Nat):bI bR:=cu N aZ [.dc fW] [] ⟨.a (.c (.int .i64)),[],[]⟩ [Vc N,MZ N,Vf N] [Vb N] (.s (.r [.n 2,.w (.cg 1 fW)]) (.s (.s .d (.b (.pW [(2,86)] ⟨[],[],[],[86]⟩ (.b (.s .d (.s .d (.b (.gL 2 ⟨[(2,.a (.c (.raw (.ptr 86 0)))),(29,.a (.c (.int .i64)))],[],[1,24,25,26,27,28],[86]⟩ ⟨[(2,.a (.c (.raw (.ptr 86 0)))),(29,.a (.c (.int .i64))),(30,.a (.c .bool))],[],[1,24,25,26,27,28],[86]⟩ .d)))))))) (.s (.s .d (.b (.pW [] ⟨[],[],[],[86]⟩ (.b (.s .d (.b (.gL 6 ⟨[(2,.a (.c (.raw (.ptr 86 0)))),(43,.a (.c (.int .i64)))],[],[1,41,42],[86]⟩ ⟨[(2,.a (.c (.raw (.ptr 86 0)))),(43,.a (.c (.int .i64))),(44,.a (.c .bool))],[],[1,41,42],[86]⟩ (.s .d (.s .d (.s (.b (.s .d (.s .d (.b (.gL 8 ⟨[(2,.a (.c (.raw (.ptr 86 0)))),(49,.a (.c (.int .i64)))],[],[1,41,42,43,47,48],[86]⟩ ⟨[(2,.a (.c (.raw (.ptr 86 0))))],[],[1,41,42,43],[86]⟩ (.s .d (.s .d (.s (.b (.s (.r [.n 4,.w (.cg 12 aS)]) .d)) .d)))))))) .d)))))))))) (.s (.r [.n 2,.t (.pc aS .bool)]) (.s (.s .d (.b (.pW [(13,97)] ⟨[],[(60,.mp aS .bool),CX],[],[86]⟩ (.b (.s .d (.b (.gL 12 ⟨[(2,.a (.c (.raw (.ptr 86 0)))),(13,.a (.c (.raw (.ptr 97 0)))),(67,.a (.c (.int .i64)))],[(60,.mp aS .bool),CX],[65,66],[86]⟩ ⟨[(2,.a (.c (.raw (.ptr 86 0)))),(13,.a (.c (.raw (.ptr 97 0)))),(67,.a (.c (.int .i64))),(68,.a (.c .bool))],[(60,.mp aS .bool),CX],[65,66],[86]⟩ (.s .d (.s .d (.s (.b (.s .d (.s .d (.b (.gL 14 ⟨[(2,.a (.c (.raw (.ptr 86 0)))),(13,.a (.c (.raw (.ptr 97 0)))),(73,.a (.c (.int .i64)))],[(60,.mp aS .bool),CX],[65,66,67,71,72],[86]⟩ ⟨[(2,.a (.c (.raw (.ptr 86 0)))),(13,.a (.c (.raw (.ptr 97 0))))],[(60,.mp aS .bool),CX],[65,66,67],[86]⟩ (.s .d (.s .d (.s (.b (.s (.r [.n 4,.w (.cg 19 aS)]) (.s (.s (.r [.n 2,.t .Cf]) .d) (.r [.n 2,.t .FV])))) .d)))))))) .d)))))))))) .d))))) [.cell 2 29] 0 (λd=>Av N d.1) func43 ntmps43
def gn(a b:Int):Int:=if a<b then b else a
def jr(a b:Int):Int:=if b<a then b else a
def x0(N:Nat)(a:c9):Option (c9×Nat):=
  ay (((decide (0<=(a.length:Int)))&&(decide ((a.length:Int)<=(a.length:Int)))&&(decide ((a.length:Int)<=(a.length:Int))))&&(true)) <|
  some ((a.take (a.length:Int).toNat),(a.length:Int).toNat)
def Nn(N:Nat):bI bR:=cu N aZ [.c (.bJ df)] [] ⟨.a (.c (.jK df)),[],[]⟩ [] [] (.d) [.tmp 2] ([],0) (λd=>x0 N d.1) func42 ntmps42
def Ho(N:Nat)(a:bZ):Nat->Int->Option ((Unit)⊕(Int)):=cx λd1 eC=>
  cond (decide (d1<(a.length:Int))) (ay ((aW d1 a.length)&&(true)) <|
  ay ((dK ((!(cond (decide ((a.getD d1.toNat 0)<1)) true (decide (40<(a.getD d1.toNat 0)))))&&(decide (0<d1))) (bd (d1-1)))&&((dK ((!(cond (decide ((a.getD d1.toNat 0)<1)) true (decide (40<(a.getD d1.toNat 0)))))&&(decide (0<d1))) (aW (d1-1) a.length))&&(true))) <|
  cond (cond (cond (decide ((a.getD d1.toNat 0)<1)) true (decide (40<(a.getD d1.toNat 0)))) true (cond (decide (0<d1)) (decide ((a.getD d1.toNat 0)<=(a.getD (d1-1).toNat 0))) false)) (some (.inr 1)) (ay ((bd (d1+1))&&(true)) <|
  eC (d1+1))) (some (.inl ()))
def vJ(N:Nat)(b:bZ):Option (Int):=
  (Ho N b N 0).bind λ(a:(Unit)⊕(Int))=>
  sm a (λa=>
  some 0) (λq=>some q)
def Vi(N:Nat):bI bR:=cu N aZ [.c (.bJ (.int .i64))] [] ⟨.a (.c (.int .i64)),[],[]⟩ [] [] (.s .d (.s (.s .d (.b (.gL 0 ⟨[(7,.a (.c (.int .i64)))],[],[0,5,6],[]⟩ ⟨[],[],[],[]⟩ .d))) .d)) [.tmp 2] 0 (λd=>vJ N d.1) func121 ntmps121
def x1(N:Nat)(a:c9)(c:Int)(b:c9):Option (Int×c9):=
  ay ((dA 40 (b.length+a.length))&&(true)) <|
  some (c,(b++a))
def Vj(N:Nat):bI bR:=cu N aZ [.c (.raw (.ptr 1000000 0)),.c (.bJ df)] [jT,(1000001,.row 76 df)] ⟨.cY [],[jT,(1000001,.row 76 df)],[]⟩ [] [] (.d) [] (0,[]) (λd=>x1 N d.1 d.2.1 d.2.2.1) func183 ntmps183
def Hp(N:Nat)(a:bZ):Option (bZ):=
  ay ((decide (0<a.length))&&(true)) <|
  ay ((dA 8 (([]:bZ).length+a.length))&&(true)) <|
  some (([]:bZ)++a)
def ail(N:Nat):bI bR:=cu N aZ [.c (.bJ (.int .i64))] [] ⟨.a (.c (.raw (.aI 5))),[(5,.row 3 (.int .i64))],[]⟩ [] [] (.s (.r [.n 1,.w (.nil 2 5 3 (.int .i64))]) .d) [.tmp 2] [] (λd=>Hp N d.1) func180 ntmps180
def x2(N:Nat)(a:Int)(b:Int)(c:c9):Option (Int×c9):=
  cond (!(decide (b=a))) ((x1 N [(3,(0,((0,0),(0,a))))] b c).bind λd=>
  some (a,d.2)) (some (b,c))
def Vk(N:Nat):bI bR:=cu N aZ [.c (.raw (.ptr 1000000 0)),.c (.int .i64)] [jT,(1000001,.row 76 df)] ⟨.cY [],[jT,(1000001,.row 76 df)],[]⟩ [Vj N] [] (.s .d (.c (.s (.r [.n 4,.w (.dV 13),.c GX]) .d) .d)) [] (0,[]) (λd=>x2 N d.1 d.2.1 d.2.2.1) func125 ntmps125
def Vl(N:Nat)(d:Int)(b:Int)(a:bZ):Nat->(Int×Int×c9)->Option (Int×c9):=cx λd1 eC=>
  cond (decide (d1.1<(a.length:Int))) (ay ((aW d1.1 a.length)&&((decide (d1.1.toNat<a.length))&&(true))) <|
  ay ((bd ((a.getD d1.1.toNat 0)-b))&&(true)) <|
  (x1 N [(7,(0,((d,((a.getD d1.1.toNat 0)-b)),(0,0))))] d1.2.1 d1.2.2).bind λc=>
  ay ((bd (d1.1+1))&&(true)) <|
  eC ((d1.1+1),c.1,c.2)) (some (d1.2.1,d1.2.2))
def C8(N:Nat)(b:Int)(f:Int)(c:Int)(d:c9)(e:bZ):Option (Int×c9):=
  (Vl N b f e N (0,c,d)).bind λa=>
  some (a.1,a.2)
def aim(N:Nat):bI bR:=cu N aZ [.c (.raw (.ptr 1000000 0)),.c (.int .u8),.c (.raw (.aI 2000000)),.c (.int .i64)] [jT,(1000001,.row 76 df),(2000000,.row 3 (.int .i64))] ⟨.cY [],[jT,(1000001,.row 76 df)],[2000000]⟩ [Vj N] [] (.s .d (.b (.fv 0 ⟨[(0,.a (.c (.raw (.ptr 1000000 0)))),(10,.a (.c (.raw (.aI 2000000)))),(12,.a (.c (.int .i64)))],[jT,(1000001,.row 76 df)],[1,3,11],[2000000]⟩ ⟨[],[jT,(1000001,.row 76 df)],[],[2000000]⟩ (.s .d (.s .d (.s (.b (.s .d (.r [.n 8,.w (.dV 23),.c GX]))) .d)))))) [] (0,[]) (λd=>C8 N d.1 d.2.1 d.2.2.1 d.2.2.2.1 d.2.2.2.2.1) func181 ntmps181
def Vm(N:Nat)(b:Int)(c:bZ):Nat->(Int×bZ×Int)->Option (bZ×Int):=cx λa sY=>
  cond (decide (a.1<(c.length:Int))) (ay ((aW a.1 a.2.1.length)&&((decide (a.1.toNat<a.2.1.length))&&((bd ((a.2.1.getD a.1.toNat 0)+(gn (-8:Int) (if b<8 then b else 8))))&&((aW a.1 a.2.1.length)&&(((decide (a.1.toNat<a.2.1.length))&&(true))&&(true)))))) <|
  ay ((bd (a.1+1))&&(true)) <|
  sY ((a.1+1),(a.2.1.set a.1.toNat ((a.2.1.getD a.1.toNat 0)+(gn (-8:Int) (if b<8 then b else 8)))),a.2.2)) (some (a.2.1,a.2.2))
def Vn(N:Nat) :Nat->(Int×bZ×Int×c9)->Option (Int×c9):=cx λd2 fQ=>
  cond (!(decide (d2.1=0))) (ay ((bd ((-4:Int)-(gn (-8:Int) (if d2.1<8 then d2.1 else 8))))&&((bd ((d2.2.1.length:Int)-1))&&((aW ((d2.2.1.length:Int)-1) d2.2.1.length)&&((decide (((d2.2.1.length:Int)-1).toNat<d2.2.1.length))&&((bd ((d2.2.1.getD ((d2.2.1.length:Int)-1).toNat 0)-40))&&(true)))))) <|
  ay ((bd (4-(gn (-8:Int) (if d2.1<8 then d2.1 else 8))))&&((aW 0 d2.2.1.length)&&((decide ((0:Int).toNat<d2.2.1.length))&&((bd ((d2.2.1.getD (0:Int).toNat 0)-1))&&(true))))) <|
  (x2 N (gn (gn (gn (-4:Int) ((-4:Int)-(gn (-8:Int) (if d2.1<8 then d2.1 else 8)))) ((d2.2.1.getD ((d2.2.1.length:Int)-1).toNat 0)-40)) (jr (jr (jr 4 (4-(gn (-8:Int) (if d2.1<8 then d2.1 else 8)))) ((d2.2.1.getD (0:Int).toNat 0)-1)) d2.2.2.1)) d2.2.2.1 d2.2.2.2).bind λb=>
  (C8 N 0 0 b.1 b.2 d2.2.1).bind λa=>
  ay ((bd ((gn (gn (gn (-4:Int) ((-4:Int)-(gn (-8:Int) (if d2.1<8 then d2.1 else 8)))) ((d2.2.1.getD ((d2.2.1.length:Int)-1).toNat 0)-40)) (jr (jr (jr 4 (4-(gn (-8:Int) (if d2.1<8 then d2.1 else 8)))) ((d2.2.1.getD (0:Int).toNat 0)-1)) d2.2.2.1))+(gn (-8:Int) (if d2.1<8 then d2.1 else 8))))&&(true)) <|
  (x2 N ((gn (gn (gn (-4:Int) ((-4:Int)-(gn (-8:Int) (if d2.1<8 then d2.1 else 8)))) ((d2.2.1.getD ((d2.2.1.length:Int)-1).toNat 0)-40)) (jr (jr (jr 4 (4-(gn (-8:Int) (if d2.1<8 then d2.1 else 8)))) ((d2.2.1.getD (0:Int).toNat 0)-1)) d2.2.2.1))+(gn (-8:Int) (if d2.1<8 then d2.1 else 8))) a.1 a.2).bind λc=>
  (C8 N 1 (gn (gn (gn (-4:Int) ((-4:Int)-(gn (-8:Int) (if d2.1<8 then d2.1 else 8)))) ((d2.2.1.getD ((d2.2.1.length:Int)-1).toNat 0)-40)) (jr (jr (jr 4 (4-(gn (-8:Int) (if d2.1<8 then d2.1 else 8)))) ((d2.2.1.getD (0:Int).toNat 0)-1)) d2.2.2.1)) c.1 c.2 d2.2.1).bind λd=>
  (Vm N d2.1 d2.2.1 N (0,d2.2.1,d.1)).bind λe=>
  ay ((bd (d2.1-(gn (-8:Int) (if d2.1<8 then d2.1 else 8))))&&(true)) <|
  fQ ((d2.1-(gn (-8:Int) (if d2.1<8 then d2.1 else 8))),e.1,e.2,d.2)) (some (d2.2.2.1,d2.2.2.2))
def vK(N:Nat)(b:bZ)(e:Int)(c:Int)(d:c9):Option (Int×c9):=
  (Hp N b).bind λf=>
  (Vn N N (e,f,c,d)).bind λa=>
  some (a.1,a.2)
def ain(N:Nat):bI bR:=cu N aZ [.c (.raw (.ptr 1000000 0)),.c (.bJ (.int .i64)),.c (.int .i64)] [jT,(1000001,.row 76 df)] ⟨.cY [],[jT,(1000001,.row 76 df)],[]⟩ [ail N,Vk N,aim N] [] (.s (.r [.n 1,.c [(5,12)]]) (.b (.fv 0 ⟨[(0,.a (.c (.raw (.ptr 1000000 0)))),(1,.a (.c (.raw (.aI 12)))),(2,.a (.c (.int .i64)))],[(12,.row 3 (.int .i64)),jT,(1000001,.row 76 df)],[],[]⟩ ⟨[],[jT,(1000001,.row 76 df)],[],[]⟩ (.s .d (.b (.s .d (.s .d (.s .d (.s .d (.s (.r [.n 2,.c GX]) (.s (.r [.n 2,.c [(1000000,1000000),(1000001,1000001),(2000000,12)]]) (.s (.r [.n 4,.c GX]) (.s (.r [.n 3,.c [(1000000,1000000),(1000001,1000001),(2000000,12)]]) (.s (.s .d (.b (.fv 2 ⟨[(0,.a (.c (.raw (.ptr 1000000 0)))),(1,.a (.c (.raw (.aI 12)))),(60,.a (.c (.int .i64)))],[(12,.row 3 (.int .i64)),jT],[2,6,59],[1000001]⟩ ⟨[(0,.a (.c (.raw (.ptr 1000000 0)))),(1,.a (.c (.raw (.aI 12))))],[(12,.row 3 (.int .i64)),jT],[2,6],[1000001]⟩ .d))) .d)))))))))))))) [] (0,[]) (λd=>vK N d.1 d.2.1 d.2.2.1 d.2.2.2.1) func122 ntmps122
def Hq(N:Nat)(c:Int)(b:bZ)(a:bZ):Nat->Int->Option (Int):=cx λd1 eC=>
  ay ((dK (decide (d1<(b.length:Int))) (aW d1 a.length))&&((dK (decide (d1<(b.length:Int))) (aW c a.length))&&(true))) <|
  cond (cond (decide (d1<(b.length:Int))) (decide ((a.getD d1.toNat 0)=(a.getD c.toNat 0))) false) (ay ((bd (d1+1))&&(true)) <|
  eC (d1+1)) (some d1)
def ur(N:Nat)(a:Int)(c:bZ)(b:bZ):Option (Int):=
  ay ((bd (a+1))&&(true)) <|
  (Hq N a c b N (a+1)).bind λd=>
  some d
def aio(N:Nat):bI bR:=cu N aZ [.c (.int .i64),.c (.gb (.aI (.int .i64)) 0),.c (.gb (.aI (.int .i64)) 0)] [] ⟨.a (.c (.int .i64)),[],[]⟩ [] [] (.s .d (.s .d (.s (.b (.fv 0 ⟨[(5,.a (.c (.int .i64)))],[],[0,1,2],[]⟩ ⟨[(5,.a (.c (.int .i64)))],[],[],[]⟩ (.s (.s (.o [] [.t 0 0,.t 1 1,.t 2 0,.t 3 0,.t 4 0,.t 5 1,.t 6 0,.t 7 0,.t 8 1,.t 9 1,.t 10 0,.t 11 0,.t 12 1,.t 13 0,.t 14 0] []) .d) .d))) .d))) [.tmp 4] 0 (λd=>ur N d.1 d.2.1 d.2.2.1) func123 ntmps123
def Vo(N:Nat)(b:Bool)(a:bZ):Nat->Int->Option ((List (Int×Int×Unit))):=cx λd1 eC=>
  cond (decide (0<=d1)) (ay ((aW d1 a.length)&&(true)) <|
  vE b (d1,(a.getD d1.toNat 0),()) (some [])
  (ay ((bd (d1-1))&&(true)) <|
  eC (d1-1))) (some [])
def C9(N:Nat)(b:Bool)(a:bZ):Option (List (Int×Int×Unit)):=
  ay ((bd ((a.length:Int)-1))&&(true)) <|
  Vo N b a N ((a.length:Int)-1)
def aip(N:Nat):l6 bR:=MW N aZ (by kernel_rfl) [.fr (.aI (.int .i64))] [] [.c (.int .i64),.c (.int .i64)] [] [] (.s .d (.b (.l ⟨[(3,.a (.c (.int .i64)))],[],[0,1],[]⟩ (.s .d (.s (.b (.s (.r [.n 6,.y]) .d)) .d))))) 182 (λb d=>C9 N b d.1) func182 rfl rfl ntmps182 (λ_=>rfl) rfl rfl (λid d=>by kernel_rfl)
def Hr(N:Nat)(a:bZ):Option (bZ):=
  some a
def aiq(N:Nat):bI bR:=cu N aZ [.c (.bJ (.int .i64))] [] ⟨.a (.c (.fn 182 [.fr (.aI (.int .i64))])),[],[]⟩ [] [] (.s (.r [.n 2,.w (.cg 1 (.aI (.int .i64)))]) .d) [.tmp 2] [] (λd=>Hr N d.1) func124 ntmps124
def Hs(N:Nat)(a:bZ):Nat->Int->Option ((Unit)⊕(c9×Nat×Int)):=cx λd2 fQ=>
  cond (decide (d2<(a.length:Int))) (ay ((aW d2 a.length)&&(true)) <|
  ay ((dK ((!(cond (decide ((a.getD d2.toNat 0)<1)) true (decide (40<(a.getD d2.toNat 0)))))&&(decide (0<d2))) (bd (d2-1)))&&((dK ((!(cond (decide ((a.getD d2.toNat 0)<1)) true (decide (40<(a.getD d2.toNat 0)))))&&(decide (0<d2))) (aW (d2-1) a.length))&&(true))) <|
  cond (cond (cond (decide ((a.getD d2.toNat 0)<1)) true (decide (40<(a.getD d2.toNat 0)))) true (cond (decide (0<d2)) (decide ((a.getD d2.toNat 0)<(a.getD (d2-1).toNat 0))) false)) (some (.inr (([]:c9),0,1))) (ay ((bd (d2+1))&&(true)) <|
  fQ (d2+1))) (some (.inl ()))
def Da(N:Nat)(b:bZ)(c:bZ):Nat->(Int×Int×bZ×bZ×c9)->Option (Int×bZ×bZ×c9):=cx λa qM=>
  cond (decide (a.1<(b.length:Int))) (ay ((aW a.1 b.length)&&(true)) <|
  ay ((bd (a.1+1))&&((dK (decide ((a.1+1)<(b.length:Int))) (aW a.1 c.length))&&((dK (decide ((a.1+1)<(b.length:Int))) (bd (a.1+1)))&&((dK (decide ((a.1+1)<(b.length:Int))) (aW (a.1+1) c.length))&&(true))))) <|
  cond (cond (decide ((a.1+1)<(b.length:Int))) (decide ((c.getD a.1.toNat 0)=(c.getD (a.1+1).toNat 0))) false) (ay ((bd (a.1+1))&&(((decide (0<=a.1))&&(decide (a.1<=(a.1+1)))&&(decide ((a.1+1)<=(b.length:Int))))&&((bd (a.1+1))&&((aW (a.1+1) b.length)&&((bd ((b.getD (a.1+1).toNat 0)-(b.getD a.1.toNat 0)))&&(true)))))) <|
  (vK N ((b.take (a.1+1).toNat).drop a.1.toNat) ((b.getD (a.1+1).toNat 0)-(b.getD a.1.toNat 0)) a.2.1 a.2.2.2.2).bind λd=>
  ay ((bd (a.1+1))&&(true)) <|
  qM ((a.1+1),d.1,a.2.2.1,a.2.2.2.1,d.2)) (ay ((aW a.1 c.length)&&((bd ((c.getD a.1.toNat 0)-(b.getD a.1.toNat 0)))&&(true))) <|
  ay ((dA 8 (a.2.2.1.length+[(b.getD a.1.toNat 0)].length))&&((dA 8 (a.2.2.2.1.length+[((c.getD a.1.toNat 0)-(b.getD a.1.toNat 0))].length))&&(true))) <|
  ay ((bd (a.1+1))&&(true)) <|
  qM ((a.1+1),a.2.1,(a.2.2.1++[(b.getD a.1.toNat 0)]),(a.2.2.2.1++[((c.getD a.1.toNat 0)-(b.getD a.1.toNat 0))]),a.2.2.2.2))) (some (a.2.1,a.2.2.1,a.2.2.2.1,a.2.2.2.2))
def Ht(N:Nat)(a:Int×bZ×bZ×c9):Nat->(Int×Int×bZ)->Option (Int×bZ):=cx λd10 b=>
  cond (decide (d10.1<(a.2.1.length:Int))) (ay ((dA 8 (d10.2.2.length+[d10.1].length))&&(true)) <|
  (ur N d10.1 a.2.1 a.2.2.1).bind λc=>
  b (c,d10.2.1,(d10.2.2++[d10.1]))) (some (d10.2.1,d10.2.2))
def Hu(N:Nat)(b:Int×bZ×bZ×c9)(a:Int×bZ):Nat->(Int×c9×Int)->Option (c9×Int):=cx λd16 Vp=>
  cond (decide (d16.1<(a.2.length:Int))) (ay ((aW d16.1 a.2.length)&&(true)) <|
  ay ((aW (a.2.getD d16.1.toNat 0) b.2.2.1.length)&&(true)) <|
  cond (decide ((b.2.2.1.getD (a.2.getD d16.1.toNat 0).toNat 0)<0)) (ay ((aW (a.2.getD d16.1.toNat 0) b.2.2.1.length)&&(true)) <|
  (ur N (a.2.getD d16.1.toNat 0) b.2.1 b.2.2.1).bind λc=>
  ay (((decide (0<=(a.2.getD d16.1.toNat 0)))&&(decide ((a.2.getD d16.1.toNat 0)<=c))&&(decide (c<=(b.2.1.length:Int))))&&(true)) <|
  (vK N ((b.2.1.take c.toNat).drop (a.2.getD d16.1.toNat 0).toNat) (b.2.2.1.getD (a.2.getD d16.1.toNat 0).toNat 0) d16.2.2 d16.2.1).bind λd=>
  ay ((bd (d16.1+1))&&(true)) <|
  Vp ((d16.1+1),d.2,d.1)) (ay ((bd (d16.1+1))&&(true)) <|
  Vp ((d16.1+1),d16.2.1,d16.2.2))) (some (d16.2.1,d16.2.2))
def vL(N:Nat)(d:bZ)(e:bZ):Option (c9×Nat×Int):=
  (vJ N d).bind λl=>
  cond (!(decide (l=0))) (some (([]:c9),0,l)) (cond (!(decide ((e.length:Int)=(d.length:Int)))) (some (([]:c9),0,5)) ((Hs N e N 0).bind λ(m:(Unit)⊕(c9×Nat×Int))=>
  sm m (λm=>
  (Da N d e N (0,0,([]:bZ),([]:bZ),([]:c9))).bind λa=>
  (Ht N a N (0,a.1,([]:bZ))).bind λf=>
  (Hr N f.2).bind λr=>
  (C9 N true r).bind λo=>kJ (λ(b:Int×Int×Unit) (c:c9×Int) (h:c9×Int->Option (c9×Nat×Int))=>
  ay ((aW b.2.1 a.2.2.1.length)&&(true)) <|
  cond (decide (0<(a.2.2.1.getD b.2.1.toNat 0))) (ay ((aW b.2.1 a.2.2.1.length)&&(true)) <|
  (ur N b.2.1 a.2.1 a.2.2.1).bind λg=>
  ay (((decide (0<=b.2.1))&&(decide (b.2.1<=g))&&(decide (g<=(a.2.1.length:Int))))&&(true)) <|
  (vK N ((a.2.1.take g.toNat).drop b.2.1.toNat) (a.2.2.1.getD b.2.1.toNat 0) c.2 c.1).bind λi=>
  h (i.2,i.1)) (h (c.1,c.2))) o (a.2.2.2,f.1) λn=>
  (Hu N a f N (0,n.1,n.2)).bind λj=>
  (x2 N 0 j.2 j.1).bind λp=>
  (x0 N p.2).bind λk=>
  some (k.1,k.2,0)) (λq=>some q)))
def Nr(N:Nat)(b:bZ)(c:bZ):Nat->(Int×Int×bZ×bZ×c9)->Option (Int×bZ×bZ×c9):=cx λa qM=>
  cond (decide (a.1<(b.length:Int))) (ay ((aW a.1 b.length)&&(true)) <|
  ay ((bd (a.1+1))&&((dK (decide ((a.1+1)<(b.length:Int))) (aW a.1 c.length))&&((dK (decide ((a.1+1)<(b.length:Int))) (bd (a.1+1)))&&((dK (decide ((a.1+1)<(b.length:Int))) (aW (a.1+1) c.length))&&(true))))) <|
  cond (cond (decide ((a.1+1)<(b.length:Int))) (decide ((c.getD a.1.toNat 0)=(c.getD (a.1+1).toNat 0))) false) (ay ((bd (a.1+1))&&(((decide (0<=a.1))&&(decide (a.1<=(a.1+1)))&&(decide ((a.1+1)<=(b.length:Int))))&&((bd (a.1+1))&&((aW (a.1+1) b.length)&&((bd ((b.getD (a.1+1).toNat 0)-(b.getD a.1.toNat 0)))&&(true)))))) <|
  (vK N ((b.take (a.1+1).toNat).drop a.1.toNat) ((b.getD (a.1+1).toNat 0)-(b.getD a.1.toNat 0)) a.2.1 a.2.2.2.2).bind λd=>
  ay ((bd (a.1+1))&&(true)) <|
  qM ((a.1+1),d.1,a.2.2.1,a.2.2.2.1,d.2)) (ay ((aW a.1 c.length)&&((bd ((c.getD a.1.toNat 0)-(b.getD a.1.toNat 0)))&&(true))) <|
  (λ(kk2:Option _)=>
  iy (gY (ay ((dA 8 (a.2.2.1.length+[(b.getD a.1.toNat 0)].length))&&((dA 8 (a.2.2.2.1.length+[((c.getD a.1.toNat 0)-(b.getD a.1.toNat 0))].length))&&(true))) <|
  kk2)) (ay ((dA 8 (a.2.2.1.length+[(b.getD a.1.toNat 0)].length))&&((dA 8 (a.2.2.2.1.length+[((c.getD a.1.toNat 0)-(b.getD a.1.toNat 0))].length))&&(true))) <|
  kk2)) (ay ((bd (a.1+1))&&(true)) <|
  qM ((a.1+1),a.2.1,(a.2.2.1++[(b.getD a.1.toNat 0)]),(a.2.2.2.1++[((c.getD a.1.toNat 0)-(b.getD a.1.toNat 0))]),a.2.2.2.2)))) (some (a.2.1,a.2.2.1,a.2.2.2.1,a.2.2.2.2))
def Hv(N:Nat)(d:bZ)(e:bZ):Option (c9×Nat×Int):=
  (vJ N d).bind λl=>
  cond (!(decide (l=0))) (some (([]:c9),0,l)) (cond (!(decide ((e.length:Int)=(d.length:Int)))) (some (([]:c9),0,5)) ((Hs N e N 0).bind λ(m:(Unit)⊕(c9×Nat×Int))=>
  sm m (λm=>
  (Nr N d e N (0,0,([]:bZ),([]:bZ),([]:c9))).bind λa=>
  (Ht N a N (0,a.1,([]:bZ))).bind λf=>
  (Hr N f.2).bind λr=>
  (C9 N true r).bind λo=>kJ (λ(b:Int×Int×Unit) (c:c9×Int) (h:c9×Int->Option (c9×Nat×Int))=>
  ay ((aW b.2.1 a.2.2.1.length)&&(true)) <|
  cond (decide (0<(a.2.2.1.getD b.2.1.toNat 0))) (ay ((aW b.2.1 a.2.2.1.length)&&(true)) <|
  (ur N b.2.1 a.2.1 a.2.2.1).bind λg=>
  ay (((decide (0<=b.2.1))&&(decide (b.2.1<=g))&&(decide (g<=(a.2.1.length:Int))))&&(true)) <|
  (vK N ((a.2.1.take g.toNat).drop b.2.1.toNat) (a.2.2.1.getD b.2.1.toNat 0) c.2 c.1).bind λi=>
  h (i.2,i.1)) (h (c.1,c.2))) o (a.2.2.2,f.1) λn=>
  (Hu N a f N (0,n.1,n.2)).bind λj=>
  (x2 N 0 j.2 j.1).bind λp=>
  (x0 N p.2).bind λk=>
  some (k.1,k.2,0)) (λq=>some q)))
theorem ais:Nr=Da:=by
 unfold Nr Da;simp only[gY,ox]
theorem ait:Hv=vL:=by
 unfold Hv vL;rw[ais]
def aiu(N:Nat):bI bR:=oC N aZ [.c (.bJ (.int .i64)),.c (.bJ (.int .i64))] [] ⟨.cY [.c (.jK df),.c (.int .i64)],[],[]⟩ [Vi N,ain N,aio N,aiq N,Vk N,Nn N] [aip N] (.s .d (.s .d (.s .d (.s (.s .d (.b (.gL 0 ⟨[(33,.a (.c (.int .i64)))],[],[0,1,31,32],[]⟩ ⟨[],[],[0,1],[]⟩ .d))) (.s .d (.s (.r [.n 2,.w (.tJ 10 0 21 3 (.int .i64)),.w (.tJ 11 0 23 3 (.int .i64))]) (.s (.s (.r [.n 3,.w (.tJ 9 0 24 76 df)]) (.b (.fv 2 ⟨[(9,.a (.c (.raw (.ptr 9 0)))),(10,.a (.c (.raw (.ptr 10 0)))),(11,.a (.c (.raw (.ptr 11 0)))),(60,.a (.c (.int .i64)))],[GY,(10,.cells 32 [.raw (.aI 21)]),(11,.cells 32 [.raw (.aI 23)]),(21,.row 3 (.int .i64)),(23,.row 3 (.int .i64)),(24,.row 76 df)],[0,1,58,59],[]⟩ ⟨[(9,.a (.c (.raw (.ptr 9 0)))),(10,.a (.c (.raw (.ptr 10 0)))),(11,.a (.c (.raw (.ptr 11 0))))],[GY,(10,.cells 32 [.raw (.aI 21)]),(11,.cells 32 [.raw (.aI 23)]),(21,.row 3 (.int .i64)),(23,.row 3 (.int .i64)),(24,.row 76 df)],[],[]⟩ (.s .d (.s .d (.s (.b (.s .d (.s (.s (.o [] [.t 0 0,.t 1 0,.t 2 0,.t 3 0,.t 4 0,.t 5 0,.t 6 0,.t 7 0,.t 8 0,.t 9 1,.t 10 0,.t 11 0,.t 12 0,.t 13 0,.t 14 1,.t 15 0,.t 16 0] []) (.c (.s (.o [] [.t 0 0,.t 1 0,.t 2 0,.t 3 0,.t 4 0,.t 5 0,.t 6 0,.t 7 0,.t 8 0,.t 9 1,.t 10 0,.t 11 0,.c 12 [(1000000,9),(1000001,24)]] []) .d) .d)) (.c3 [] [1,2,3,4,5,6,7,8,9,10,11,1000012,1000013,1000014] (.b [.t 0 3,.t 1 0,.t 4 3,.t 5 0,.t 6 0,.t 7 0,.t 8 1,.t 9 0,.t 10 0] 2 11 [] [] none none (.b [] 3 11 [] [] none none (.f [.k 11,.s 12,.s 13,.s 14]) (.f [.k 3,.s 12,.s 13,.s 14])) (.f [.k 2,.k 3,.s 12,.s 13,.s 14])) [] false)))) .d)))))) (.s .d (.s (.r [.n 1,.w (.nil 15 15 3 (.int .i64))]) (.s (.s (.r [.n 1,.w (.dV 21),.w (.cg 10 (.aI (.int .i64))),.w (.dV 23),.w (.cg 11 (.aI (.int .i64)))]) (.b (.fv 4 ⟨[(9,.a (.c (.raw (.ptr 9 0)))),(14,.a (.c (.raw (.ptr 14 0)))),(15,.a (.c (.raw (.aI 15)))),(16,.a (.c (.int .i64)))],[GY,(15,.row 3 (.int .i64))],[10,11],[14,24]⟩ ⟨[(9,.a (.c (.raw (.ptr 9 0)))),(14,.a (.c (.raw (.ptr 14 0)))),(15,.a (.c (.raw (.aI 15))))],[GY,(15,.row 3 (.int .i64))],[10,11],[14,24]⟩ .d))) (.s (.s (.r [.n 1,.w (.dV 15)]) (.b (.pW [(9,177),(14,182)] ⟨[],[(24,.row 76 df),(177,.cells 201 [.raw (.aI 24),.int .i64])],[],[182]⟩ (.b (.s .d (.c (.o [3,4,5,6,7,8,9,1000010] [.t 0 1,.t 1 0,.t 2 3,.t 3 0,.t 6 1,.t 7 0,.t 8 0,.t 9 1,.c 4 [],.t 5 0,.c 10 [(1000000,177),(1000001,24)]] []) .d)))))) (.s (.s .d (.b (.fv 8 ⟨[(9,.a (.c (.raw (.ptr 177 0)))),(14,.a (.c (.raw (.ptr 182 0)))),(143,.a (.c (.int .i64)))],[(24,.row 76 df),(177,.cells 201 [.raw (.aI 24),.int .i64])],[10,11,141,142],[182]⟩ ⟨[(9,.a (.c (.raw (.ptr 177 0))))],[(24,.row 76 df),(177,.cells 201 [.raw (.aI 24),.int .i64])],[],[]⟩ (.s .d (.s .d (.s (.b (.s .d (.s .d (.c (.o [3,4,5,6,7,8,9,1000010] [.t 0 1,.t 1 0,.t 2 3,.t 3 0,.t 6 1,.t 7 0,.t 8 0,.t 9 1,.c 4 [],.t 5 0,.c 10 [(1000000,177),(1000001,24)]] []) .d)))) .d)))))) (.s (.r [.c [(1000000,177),(1000001,24)]]) (.s (.r [.n 2,.w (.dV 24)]) .d)))))))))))))) [.tmp 4,.tmp 5] ([],0,0) (λd=>Hv N d.1 d.2.1) (λd=>vL N d.1 d.2.1) (λd=>(by rw[ait]:Hv N d.1 d.2.1=vL N d.1 d.2.1)) func80 ntmps80
def mD(N:Nat)(a:ae):Option (Int):=
  cond (cond (!(decide (a.1=0))) (!(decide (a.1=1))) false) (some 1) (cond (cond (decide (a.2<1)) true (decide (40<a.2))) (some 1) (some 0))
def vM(N:Nat):bI bR:=cu N aZ [.dc aS] [] ⟨.a (.c (.int .i64)),[],[]⟩ [] [] (.s (.r [.n 2,.w (.cg 1 aS)]) .d) [.tmp 2] 0 (λd=>mD N d.1) func22 ntmps22
def x4(N:Nat)(a:Int):Option (Bool):=
  some (cond (decide ((-4:Int)<=a)) (decide (a<=4)) false)
def Vr(N:Nat):bI bR:=cu N aZ [.c (.int .i64)] [] ⟨.a (.c .bool),[],[]⟩ [] [] (.d) [.tmp 2] false (λd=>x4 N d.1) func151 ntmps151
def ph(N:Nat)(a:ae)(b:Int):Option (Int):=
  (mD N a).bind λc=>
  Option.bind (cond (!(!(decide (c=0)))) (x4 N b) (some false)) λd=>
  cond (cond (!(decide (c=0))) true (!d)) (some 0) (cond (decide (a.1=0)) (ay ((bd (4 * a.2))&&((bd ((4 * a.2)+2))&&(true))) <|
  some ((4 * a.2)+2)) (ay ((bd (a.2+b))&&((bd (4 * (a.2+b)))&&(true))) <|
  some (4 * (a.2+b))))
def Hw(N:Nat):bI bR:=cu N aZ [.dc aS,.c (.int .i64)] [] ⟨.a (.c (.int .i64)),[],[]⟩ [vM N,Vr N] [] (.s (.r [.n 2,.w (.cg 2 aS)]) .d) [.tmp 4] 0 (λd=>ph N d.1 d.2.1) func99 ntmps99
def Df(N:Nat)(a:ae)(b:Int):Option (ae×Int):=
  (mD N a).bind λd=>
  cond (!(decide (d=0))) (some ((0,0),1)) ((x4 N b).bind λf=>
  cond (!f) (some ((0,0),11)) (ay ((bd (a.2-b))&&(true)) <|
  Option.bind (cond (decide (a.1=1)) (ay ((bd (a.2+b))&&(true)) <|
  some (0,(a.2+b))) (some (1,(a.2-b)))) λc=>
  (mD N c).bind λe=>
  cond (!(decide (e=0))) (some ((0,0),11)) (some (c,0))))
def aiv(N:Nat):bI bR:=cu N aZ [.dc aS,.c (.int .i64)] [] ⟨.cY [.dc aS,.c (.int .i64)],[],[]⟩ [vM N,Vr N] [] (.s (.r [.n 3,.w (.cg 2 aS)]) (.s .d (.s .d (.s .d (.j ⟨[(4,.a (.c (.raw (.ptr 4 0)))),(6,.a (.c (.raw (.ptr 6 0))))],[(6,.cells 56 [.int .u8,.int .i64])],[],[4]⟩ .d .d))))) [.cell 4 56,.tmp 5] (aS.zero,0) (λd=>Df N d.1 d.2.1) func98 ntmps98
def uv(N:Nat) :Option ((List (Int×RP))):=
  some (eS (.int .u8) eV (eS (.int .u8) eV (eS (.int .u8) eV (eS (.int .u8) eV (eS (.int .u8) eV (eS (.int .u8) eV (eS (.int .u8) eV (eS (.int .u8) eV ([]:List (Int×RP)) 1 (true,(false,(true,false)))) 2 (false,(false,(true,false)))) 3 (false,(false,(false,true)))) 4 (true,(true,(true,false)))) 5 (true,(true,(true,false)))) 6 (true,(true,(true,false)))) 7 (false,(true,(false,false)))) 8 (false,(true,(false,false))))
def aiw(N:Nat):bI bR:=cu N aZ [] [] ⟨.a (.c (.raw (.dI 1))),[(1,.mp (.int .u8) eV)],[]⟩ [] [] (.s .d (.s (.r [.t (.pc (.int .u8) eV),.n 1,.t .ng,.n 1,.t .ng,.n 1,.t .ng,.n 1,.t .ng,.n 1,.t .ng,.n 1,.t .ng,.n 1,.t .ng,.n 1,.t .ng]) .d)) [.tmp 0] [] (λd=>uv N ) func153 ntmps153
def oD(N:Nat)(a:bH):Option (Bool):=
  (uv N).bind λb=>
  cond (!((de (.int .u8) eV b a.1).isSome)) (some false) (cond (cond (cond (cond ((de (.int .u8) eV b a.1).getD eV.zero).1 (!(decide (a.2.1=0))) false) (!(decide (a.2.1=1))) false) true (cond (!((de (.int .u8) eV b a.1).getD eV.zero).1) (!(decide (a.2.1=0))) false)) (some false) (Option.bind (cond ((de (.int .u8) eV b a.1).getD eV.zero).2.1 (mD N a.2.2.1) (some 0)) λc=>
  cond (cond (cond ((de (.int .u8) eV b a.1).getD eV.zero).2.1 (!(decide (c=0))) false) true (cond (!((de (.int .u8) eV b a.1).getD eV.zero).2.1) (!(aV.beq aS a.2.2.1 (0,0))) false)) (some false) (cond (cond (cond ((de (.int .u8) eV b a.1).getD eV.zero).2.2.1 (cond (decide (a.2.2.2.1<1)) true (decide (6<a.2.2.2.1))) false) true (cond (!((de (.int .u8) eV b a.1).getD eV.zero).2.2.1) (!(decide (a.2.2.2.1=0))) false)) (some false) (some (cond ((de (.int .u8) eV b a.1).getD eV.zero).2.2.2 true (decide (a.2.2.2.2=0)))))))
def Hx(N:Nat)(a:bH):Option (Bool):=
  (λ(d:_->_->Option _)=>
  iy ((uv N).bind λb=>
  gY (cond (!((de (.int .u8) eV b a.1).isSome)) (some false) (cond (cond (cond (cond ((de (.int .u8) eV b a.1).getD eV.zero).1 (!(decide (a.2.1=0))) false) (!(decide (a.2.1=1))) false) true (cond (!((de (.int .u8) eV b a.1).getD eV.zero).1) (!(decide (a.2.1=0))) false)) (some false) (Option.bind (cond ((de (.int .u8) eV b a.1).getD eV.zero).2.1 (mD N a.2.2.1) (some 0)) λc=>
  d b c)))) ((uv N).bind λb=>
  cond (!((de (.int .u8) eV b a.1).isSome)) (some false) (cond (cond (cond (cond ((de (.int .u8) eV b a.1).getD eV.zero).1 (!(decide (a.2.1=0))) false) (!(decide (a.2.1=1))) false) true (cond (!((de (.int .u8) eV b a.1).getD eV.zero).1) (!(decide (a.2.1=0))) false)) (some false) (Option.bind (cond ((de (.int .u8) eV b a.1).getD eV.zero).2.1 (mD N a.2.2.1) (some 0)) λc=>
  d b c)))) (λb c=>
  cond (cond (cond ((de (.int .u8) eV b a.1).getD eV.zero).2.1 (!(decide (c=0))) false) true (cond (!((de (.int .u8) eV b a.1).getD eV.zero).2.1) (!(aV.beq aS a.2.2.1 (0,0))) false)) (some false) (cond (cond (cond ((de (.int .u8) eV b a.1).getD eV.zero).2.2.1 (cond (decide (a.2.2.2.1<1)) true (decide (6<a.2.2.2.1))) false) true (cond (!((de (.int .u8) eV b a.1).getD eV.zero).2.2.1) (!(decide (a.2.2.2.1=0))) false)) (some false) (some (cond ((de (.int .u8) eV b a.1).getD eV.zero).2.2.2 true (decide (a.2.2.2.2=0))))))
theorem aix:Hx=oD:=by
 unfold Hx oD;simp only[gY,ox]
def aiy(N:Nat):bI bR:=oC N aZ [.dc df] [] ⟨.a (.c .bool),[],[]⟩ [aiw N,vM N] [] (.s (.r [.n 2,.w (.cg 1 df)]) (.s (.c3 [] [] (.b [.t 1 0,.t 2 1] 0 7 [(1,6)] [] none none (.b [] 3 7 [] [] (some .FW) none (.f [.m 4,.t 5 0,.t 6 0,.s 7,.s 8,.t 9 0]) (.f [.u 3 .FW,.m 4,.t 5 0,.t 6 0,.s 8,.t 9 0])) (.f [.c 0 [(1,6)],.u 3 .FW,.m 4,.t 5 0,.t 6 0,.s 8,.t 9 0])) [(.cg 3 eV)] false) .d)) [.tmp 2] false (λd=>Hx N d.1) (λd=>oD N d.1) (λd=>(by rw[aix]:Hx N d.1=oD N d.1)) func102 ntmps102
def l8(N:Nat)(a:bH):Option (Int):=
  (oD N a).bind λb=>
  cond (!b) (some 1) (cond (cond (decide (a.2.2.2.2<(-4:Int))) true (decide (4<a.2.2.2.2))) (some 11) (some 0))
def Vs(N:Nat):bI bR:=cu N aZ [.dc df] [] ⟨.a (.c (.int .i64)),[],[]⟩ [aiy N] [] (.s (.r [.n 2,.w (.cg 1 df)]) .d) [.tmp 2] 0 (λd=>l8 N d.1) func59 ntmps59
def Hy(N:Nat)(a:Int)(b:bZ):Option (Int):=
  Option.bind (cond (!(cond (decide (a<1)) true (decide (6<a)))) (vJ N b) (some 0)) λc=>
  cond (cond (cond (cond (decide (a<1)) true (decide (6<a))) true (!(decide (c=0)))) true (decide ((b.length:Int)=0))) (some 1) (some 0)
def aiz(N:Nat):bI bR:=cu N aZ [.c (.int .u8),.c (.bJ (.int .i64))] [] ⟨.a (.c (.int .i64)),[],[]⟩ [Vi N] [] (.d) [.tmp 4] 0 (λd=>Hy N d.1 d.2.1) func78 ntmps78
def Dg(N:Nat)(a:Int)(b:bZ):Option (ae):=
  ay ((aW a b.length)&&(true)) <|
  some (0,(b.getD a.toNat 0))
def aiA(N:Nat):bI bR:=cu N aZ [.c (.int .i64),.c (.gb (.aI (.int .i64)) 0)] [] ⟨.a (.dc aS),[],[]⟩ [] [] (.d) [.cell 3 56] aS.zero (λd=>Dg N d.1 d.2.1) func79 ntmps79
def Vt(N:Nat)(d:Int)(a:bZ):Nat->(Int×c9)->Option ((c9)⊕(c9×Nat×Int)):=cx λd2 fQ=>
  cond (decide (d2.1<(a.length:Int))) (Option.bind (cond (decide (0<d2.1)) (ay ((bd (d2.1-1))&&(((decide (0<=(d2.1-1)))&&(decide ((d2.1-1)<=d2.1))&&(decide (d2.1<=(a.length:Int))))&&((bd (d2.1+1))&&(((decide (0<=d2.1))&&(decide (d2.1<=(d2.1+1)))&&(decide ((d2.1+1)<=(a.length:Int))))&&(true))))) <|
  (vL N ((a.take d2.1.toNat).drop (d2.1-1).toNat) ((a.take (d2.1+1).toNat).drop d2.1.toNat)).bind λb=>
  cond (!(decide (b.2.2=0))) (some (.inr (.inr (([]:c9),0,b.2.2)))) (ay ((dA 40 (d2.2.length+b.1.length))&&(true)) <|
  some (.inl (d2.2++b.1)))) (some (.inl d2.2))) λ(c:(c9)⊕((c9)⊕(c9×Nat×Int)))=>
  sm c (λc=>
  (Dg N d2.1 a).bind λe=>
  ay ((dA 40 (c.length+[(4,(1,(e,(d,0))))].length))&&(true)) <|
  ay ((bd (d2.1+1))&&(true)) <|
  fQ ((d2.1+1),(c++[(4,(1,(e,(d,0))))]))) (λq=>some q)) (some (.inl d2.2))
def Hz(N:Nat)(c:Int)(a:bZ):Option (c9×Nat×Int):=
  (Hy N c a).bind λd=>
  cond (!(decide (d=0))) (some (([]:c9),0,d)) ((Vt N c a N (0,([]:c9))).bind λ(b:(c9)⊕(c9×Nat×Int))=>
  sm b (λb=>
  ay ((bd ((a.length:Int)-1))&&(true)) <|
  (Dg N ((a.length:Int)-1) a).bind λe=>
  ay ((dA 40 (b.length+[(8,(0,(e,(0,0))))].length))&&(true)) <|
  (x0 N (b++[(8,(0,(e,(0,0))))])).bind λf=>
  some (f.1,f.2,0)) (λq=>some q))
def aiB(N:Nat):bI bR:=cu N aZ [.c (.int .u8),.c (.bJ (.int .i64))] [] ⟨.cY [.c (.jK df),.c (.int .i64)],[],[]⟩ [aiz N,aiu N,aiA N,Nn N] [] (.s (.r [.n 3,.w (.cg 3 (.aI (.int .i64)))]) (.s .d (.s .d (.s (.r [.n 1,.w (.nil 8 8 76 df)]) (.s (.s .d (.b (.gL 0 ⟨[(8,.a (.c (.raw (.aI 8)))),(21,.a (.c (.int .i64)))],[(8,.row 76 df)],[0,3,7,20],[]⟩ ⟨[(8,.a (.c (.raw (.aI 8))))],[(8,.row 76 df)],[3,7],[]⟩ (.s .d (.s .d (.s (.b (.s .d (.Gy ⟨[(8,.a (.c (.raw (.aI 8))))],[(8,.row 76 df)],[0,3,7,9,20,21],[]⟩ (.s .d (.c (.s (.o [] [.t 0 1,.t 1 0,.t 2 0,.t 3 0,.t 4 0,.t 5 1,.t 6 0,.t 7 0,.t 8 0,.t 9 0,.c 10 [],.m 11,.t 12 0,.t 13 0,.t 14 0,.t 15 0] []) .d) .d)) .d))) .d)))))) (.s .d (.s (.r [.n 1,.w (.dV 8)]) .d))))))) [.tmp 4,.tmp 5] ([],0,0) (λd=>Hz N d.1 d.2.1) func39 ntmps39
def aiC(N:Nat)(a:bZ):Nat->Int->Option ((Unit)⊕(c9×Int)):=cx λd1 eC=>
  cond (decide (d1<(a.length:Int))) (ay ((aW d1 a.length)&&(true)) <|
  ay ((dK ((!(cond (decide ((a.getD d1.toNat 0)<1)) true (decide (6<(a.getD d1.toNat 0)))))&&(decide (0<d1))) (bd (d1-1)))&&((dK ((!(cond (decide ((a.getD d1.toNat 0)<1)) true (decide (6<(a.getD d1.toNat 0)))))&&(decide (0<d1))) (aW (d1-1) a.length))&&(true))) <|
  cond (cond (cond (decide ((a.getD d1.toNat 0)<1)) true (decide (6<(a.getD d1.toNat 0)))) true (cond (decide (0<d1)) (decide ((a.getD d1.toNat 0)<=(a.getD (d1-1).toNat 0))) false)) (some (.inr (([]:c9),1))) (ay ((bd (d1+1))&&(true)) <|
  eC (d1+1))) (some (.inl ()))
def aiD(N:Nat)(a:bZ):Nat->(Int×c9)->Option (c9):=cx λd2 fQ=>
  cond (decide (d2.1<(a.length:Int))) (ay ((aW d2.1 a.length)&&((aW d2.1 d2.2.length)&&(((decide (d2.1.toNat<d2.2.length))&&(true))&&(true)))) <|
  ay ((bd (d2.1+1))&&(true)) <|
  fQ ((d2.1+1),(d2.2.set d2.1.toNat (2,(0,((0,0),((a.getD d2.1.toNat 0),0))))))) (some d2.2)
def Vu(N:Nat)(a:bZ):Option (c9×Int):=
  (aiC N a N 0).bind λ(b:(Unit)⊕(c9×Int))=>
  sm b (λb=>
  ay (((decide (0<=(a.length:Int)))&&(decide ((a.length:Int)<=(a.length:Int)))&&(gR 40 (a.length:Int)))&&(true)) <|
  (aiD N a N (0,(replicate (a.length:Int).toNat (df.zero:bH)))).bind λc=>
  some (c,0)) (λq=>some q)
def aiE(N:Nat):bI bR:=cu N aZ [.c (.bJ (.int .u8))] [] ⟨.cY [.c (.bJ df),.c (.int .i64)],[],[]⟩ [] [] (.s .d (.s (.s .d (.b (.gL 0 ⟨[(10,.a (.c (.int .i64)))],[],[0,8,9],[]⟩ ⟨[],[],[0],[]⟩ .d))) (.s .d (.s (.s .d (.b (.fv 2 ⟨[(6,.a (.c (.raw (.aI 37)))),(40,.a (.c (.int .i64)))],[(37,.row 76 df)],[0,39],[]⟩ ⟨[(6,.a (.c (.raw (.aI 37))))],[(37,.row 76 df)],[],[]⟩ .d))) (.s .d (.t [.dV 37])))))) [.tmp 2,.tmp 3] ([],0) (λd=>Vu N d.1) func41 ntmps41
def uw(N:Nat)(a:Int):Option (Bool):=
  some (cond (decide ((-4:Int)<=a)) (decide (a<=4)) false)
def Vv(N:Nat):bI bR:=cu N aZ [.c (.int .i64)] [] ⟨.a (.c .bool),[],[]⟩ [] [] (.d) [.tmp 2] false (λd=>uw N d.1) func193 ntmps193
def ux(N:Nat)(b:h3)(c:Int):Option (Int):=
  (Av N b).bind λa=>
  cond (!(decide (a=0))) (some a) ((uw N c).bind λd=>
  cond (!d) (some 11) (some 0))
def Vw(N:Nat):bI bR:=cu N aZ [.dc fW,.c (.int .i64)] [] ⟨.a (.c (.int .i64)),[],[]⟩ [Hn N,Vv N] [] (.s (.r [.n 2,.w (.cg 2 fW)]) .d) [.tmp 4] 0 (λd=>ux N d.1 d.2.1) func141 ntmps141
def Vx(N:Nat)(c:Int)(b:bV)(e:Int)(a:Int):Nat->(Int×ed)->Option (ed):=cx λd2 fQ=>
  cond (decide (d2.1<((b.getD a.toNat []).length:Int))) (ay ((aW d2.1 (b.getD a.toNat []).length)&&(true)) <|
  (ph N (c,(a+1)) e).bind λd=>
  ay ((dA 40 (d2.2.length+[(((b.getD a.toNat []).getD d2.1.toNat aS.zero),((c,(a+1)),d))].length))&&(true)) <|
  ay ((bd (d2.1+1))&&(true)) <|
  fQ ((d2.1+1),(d2.2++[(((b.getD a.toNat []).getD d2.1.toNat aS.zero),((c,(a+1)),d))]))) (some d2.2)
def Vy(N:Nat)(b:Int)(a:bV)(c:Int):Nat->(Int×ed)->Option (ed):=cx λd1 eC=>
  cond (decide (d1.1<(a.length:Int))) (ay ((aW d1.1 a.length)&&(true)) <|
  ay ((bd (d1.1+1))&&(true)) <|
  (Vx N b a c d1.1 N (0,d1.2)).bind λd=>
  ay ((bd (d1.1+1))&&(true)) <|
  eC ((d1.1+1),d)) (some d1.2)
def Dh(N:Nat)(a:Int)(d:bV)(b:Int)(c:ed):Option (ed):=
  (Vy N a d b N (0,c)).bind λe=>
  some e
def aiF(N:Nat):bI bR:=cu N aZ [.c (.int .u8),.c (.bJ (.aI aS)),.c (.raw (.ptr 1000000 0)),.c (.gb (.int .i64) 0)] [Ah,(1000001,.row 164 cO)] ⟨.cY [],[Ah,(1000001,.row 164 cO)],[]⟩ [Hw N] [] (.s .d (.b (.fv 0 ⟨[(2,.a (.c (.raw (.ptr 1000000 0)))),(13,.a (.c (.int .i64)))],[Ah,(1000001,.row 164 cO)],[0,3,11,12],[]⟩ ⟨[],[Ah,(1000001,.row 164 cO)],[],[]⟩ (.s .d (.s .d (.s (.b (.s .d (.s (.r [.n 6,.w (.cg 8 aS)]) (.s .d (.b (.fv 2 ⟨[(2,.a (.c (.raw (.ptr 1000000 0)))),(24,.a (.c (.int .i64)))],[Ah,(1000001,.row 164 cO)],[0,3,8,11,12,13,22,23],[]⟩ ⟨[(2,.a (.c (.raw (.ptr 1000000 0))))],[Ah,(1000001,.row 164 cO)],[0,3,11,12,13],[]⟩ (.s .d (.s .d (.s (.b (.s (.r [.n 4,.w (.cg 10 aS)]) (.o [0,1,2,3,4,5,6,7,1000008,1000009] [.t 0 3,.t 1 1,.t 2 1,.t 3 1,.t 4 1,.c 5 [],.t 6 0,.k 7,.s 8,.s 9] []))) .d))))))))) .d)))))) [] [] (λd=>Dh N d.1 d.2.1 d.2.2.1 d.2.2.2.1) func142 ntmps142
def Aw(N:Nat)(a:b3)(b:b3):Option (Int):=
  (C4 N a.2.2 b.2.2).bind λc=>
  some c
def aiG(N:Nat):bI bR:=cu N aZ [.dc cO,.dc cO] [] ⟨.a (.c (.int .i64)),[],[]⟩ [US N] [] (.s (.r [.n 3,.w (.cg 2 cO),.w (.cg 3 cO)]) .d) [.tmp 4] 0 (λd=>Aw N d.1 d.2.1) func144 ntmps144
def Di(N:Nat)(a:Int):Nat->(Int×ed)->Option (ed):=cx λd2 fQ=>
  ay ((dK (decide (a<d2.1)) (aW d2.1 d2.2.length))&&((dK (decide (a<d2.1)) (decide (d2.1.toNat<d2.2.length)))&&((dK (decide (a<d2.1)) (bd (d2.1-1)))&&((dK (decide (a<d2.1)) (aW (d2.1-1) d2.2.length))&&((dK (decide (a<d2.1)) (decide ((d2.1-1).toNat<d2.2.length)))&&(true)))))) <|
  Option.bind (cond (decide (a<d2.1)) (Aw N (d2.2.getD d2.1.toNat cO.zero) (d2.2.getD (d2.1-1).toNat cO.zero)) (some 0)) λb=>
  cond (cond (decide (a<d2.1)) (decide (b<0)) false) (ay ((bd (d2.1-1))&&((bd (d2.1-1))&&((aW (d2.1-1) d2.2.length)&&((decide ((d2.1-1).toNat<d2.2.length))&&((aW d2.1 d2.2.length)&&((decide (d2.1.toNat<d2.2.length))&&((aW d2.1 d2.2.length)&&(((decide (d2.1.toNat<d2.2.length))&&(true))&&((aW (d2.1-1) (d2.2.set d2.1.toNat (d2.2.getD (d2.1-1).toNat cO.zero)).length)&&(((decide ((d2.1-1).toNat<(d2.2.set d2.1.toNat (d2.2.getD (d2.1-1).toNat cO.zero)).length))&&(true))&&(true))))))))))) <|
  ay ((bd (d2.1-1))&&(true)) <|
  fQ ((d2.1-1),((d2.2.set d2.1.toNat (d2.2.getD (d2.1-1).toNat cO.zero)).set (d2.1-1).toNat (d2.2.getD d2.1.toNat cO.zero)))) (some d2.2)
def Ns(N:Nat)(a:Int)(b:Int):Nat->(Int×ed)->Option (ed):=cx λd1 eC=>
  cond (decide (d1.1<b)) ((Di N a N (d1.1,d1.2)).bind λc=>
  ay ((bd (d1.1+1))&&(true)) <|
  eC ((d1.1+1),c)) (some d1.2)
def x5(N:Nat)(a:Int)(c:Int)(b:ed):Option (ed):=
  ay ((bd (a+1))&&(true)) <|
  (Ns N a c N ((a+1),b)).bind λd=>
  some d
def aiH(N:Nat):bI bR:=cu N aZ [.c (.raw (.aI 2000000)),.c (.int .i64),.c (.int .i64),.c (.fn 144 [])] [(2000000,.row 164 cO)] ⟨.cY [],[(2000000,.row 164 cO)],[]⟩ [aiG N] [] (.s .d (.b (.fv 0 ⟨[(0,.a (.c (.raw (.aI 2000000)))),(8,.a (.c (.int .i64)))],[(2000000,.row 164 cO)],[1,2,3],[]⟩ ⟨[],[(2000000,.row 164 cO)],[],[]⟩ (.s .d (.s (.b (.s .d (.b (.fv 2 ⟨[(0,.a (.c (.raw (.aI 2000000)))),(9,.a (.c (.int .i64)))],[(2000000,.row 164 cO)],[1,2,3,8],[]⟩ ⟨[(0,.a (.c (.raw (.aI 2000000))))],[(2000000,.row 164 cO)],[1,2,3,8],[]⟩ (.s (.s (.nU [9,10,11,12,13] [.t 0 0,.t 1 0,.t 2 0,.t 3 0,.t 4 0,.t 5 0,.t 6 0,.t 7 0,.t 8 3,.t 9 0,.t 10 0,.t 11 0,.t 12 0,.t 13 3,.g 14,.t 15 0,.t 16 0] []) .d) (.s (.b (.nU [10,11,12,13] [.t 0 0,.t 1 0,.t 2 0,.t 3 0,.t 4 0,.t 5 0,.t 6 0,.t 7 0,.t 8 0,.t 9 3,.t 10 0,.t 11 0,.t 12 0,.t 13 3,.t 14 0,.s 15,.t 16 0,.s 17] [])) .d)))))) .d))))) [] [] (λd=>x5 N d.1 d.2.1 d.2.2.1) func213 ntmps213
def Nt(N:Nat)(a:Int):Nat->(Int×Int×ed)->Option (Int×ed):=cx λd1 eC=>
  cond (decide (d1.2.1<=a)) ((x5 N d1.1 d1.2.1 d1.2.2).bind λb=>
  ay ((bd (d1.2.1+20))&&(true)) <|
  eC (d1.2.1,(d1.2.1+20),b)) (some (d1.1,d1.2.2))
def aiI(N:Nat)(b:Int)(a:Int):Nat->Unit->Option (Unit):=cx λc d=>
  cond (decide ((2 * a)<=b)) (ay ((bd (0+a))&&(true)) <|
  none) (some ())
def Nu(N:Nat)(b:Int):Nat->Int->Option (Unit):=cx λa rV=>
  cond (decide (a<b)) (ay ((bd (2 * a))&&(true)) <|
  (aiI N b a N ()).bind λc=>
  ay ((bd (0+a))&&(true)) <|
  cond (decide ((0+a)<b)) (none) (ay ((bd (a * 2))&&(true)) <|
  rV (a * 2))) (some ())
def HA(N:Nat)(a:Int)(c:ed):Option (ed):=
  (Nt N a N (0,20,c)).bind λb=>
  (x5 N b.1 a b.2).bind λd=>
  (Nu N a N 20).bind λe=>
  some d
def aiJ(N:Nat):bI bR:=cu N aZ [.c (.raw (.aI 2000000)),.c (.int .i64),.c (.fn 144 [])] [(2000000,.row 164 cO)] ⟨.cY [],[(2000000,.row 164 cO)],[]⟩ [aiH N] [] (.s .d (.s .d (.s (.b (.fv 0 ⟨[(0,.a (.c (.raw (.aI 2000000)))),(7,.a (.c (.int .i64))),(8,.a (.c (.int .i64)))],[(2000000,.row 164 cO)],[1,2,6],[]⟩ ⟨[(0,.a (.c (.raw (.aI 2000000)))),(7,.a (.c (.int .i64)))],[(2000000,.row 164 cO)],[1,2,6],[]⟩ (.s .d (.b (.s (.r [.n 4,.c [(2000000,2000000)]]) .d))))) (.s (.r [.n 4,.c [(2000000,2000000)]]) (.b (.fv 2 ⟨[(0,.a (.c (.raw (.aI 2000000)))),(6,.a (.c (.int .i64)))],[],[1,2],[2000000]⟩ ⟨[],[],[],[2000000]⟩ (.s .d (.b (.s .d (.s (.b (.fv 4 ⟨[(0,.a (.c (.raw (.aI 2000000))))],[],[1,2,6,7,8],[2000000]⟩ ⟨[(0,.a (.c (.raw (.aI 2000000))))],[],[1,2,6,7],[2000000]⟩ .d)) .d)))))))))) [] [] (λd=>HA N d.1 d.2.1) func194 ntmps194
def x6(N:Nat)(a:ed):Option (ed):=
  (HA N (a.length:Int) a).bind λb=>
  some b
def aiK(N:Nat):bI bR:=cu N aZ [.c (.raw (.aI 2000000)),.c (.fn 144 [])] [(2000000,.row 164 cO)] ⟨.cY [],[(2000000,.row 164 cO)],[]⟩ [aiJ N] [] (.r [.n 4,.c [(2000000,2000000)]]) [] [] (λd=>x6 N d.1) func143 ntmps143
def HB(N:Nat)(a:ed):Option (ed×Nat):=
  ay (((decide (0<=(a.length:Int)))&&(decide ((a.length:Int)<=(a.length:Int)))&&(gR 40 (a.length:Int)))&&(true)) <|
  ay ((beq a.length (replicate (a.length:Int).toNat (cO.zero:b3)).length)&&(true)) <|
  some (a,(a.length:Int).toNat)
def aiL(N:Nat):bI bR:=cu N aZ [.c (.bJ cO)] [] ⟨.a (.c (.jK cO)),[],[]⟩ [] [] (.s .d (.s .d (.s .d (.s .d (.t [.dV 6]))))) [.tmp 2] ([],0) (λd=>HB N d.1) func145 ntmps145
def qN(N:Nat)(a:h3)(b:Int):Option (ed×Nat×Int):=
  (ux N a b).bind λc=>
  cond (!(decide (c=0))) (some (([]:ed),0,c)) ((Hi N a).bind λd=>
  ay (((decide (0<=d))&&(gR 40 d))&&(true)) <|
  (Dh N 0 a.1 b ([]:ed)).bind λg=>
  (Dh N 1 a.2 b g).bind λf=>
  (x6 N f).bind λh=>
  (HB N h).bind λe=>
  some (e.1,e.2,0))
def Vz(N:Nat):bI bR:=cu N aZ [.dc fW,.c (.int .i64)] [] ⟨.cY [.c (.jK cO),.c (.int .i64)],[],[]⟩ [Vw N,Vf N,aiF N,aiK N,aiL N] [] (.s (.r [.n 4,.w (.cg 2 fW),.w (.cg 3 (.int .i64))]) (.s .d (.s .d (.s .d (.s (.r [.n 3,.c [(1000000,7),(1000001,17)]]) (.s (.r [.n 3,.c [(1000000,7),(1000001,17)]]) (.s (.r [.n 1,.c [(2000000,17)]]) (.s (.r [.n 1,.w (.dV 17)]) .d)))))))) [.tmp 4,.tmp 5] ([],0,0) (λd=>qN N d.1 d.2.1) func90 ntmps90
def Dj(N:Nat)(d:h3)(b:Int)(a:Int):Option (Int):=
  (ux N d b).bind λc=>
  cond (!(decide (c=0))) (some c) (cond (cond (!(decide (a=0))) (!(decide (a=1))) false) (some 1) (ay (((aW a 2)&&(aW a lr.length))&&((bd (b+(lr.getD a.toNat 0)))&&(true))) <|
  (uw N (b+(lr.getD a.toNat 0))).bind λe=>
  cond (!e) (some 11) (some 0)))
def VA(N:Nat):bI bR:=cu N aZ [.dc fW,.c (.int .i64),.c (.int .u8)] [] ⟨.a (.c (.int .i64)),[],[]⟩ [Vw N,Vv N] [] (.s (.r [.n 2,.w (.cg 3 fW)]) .d) [.tmp 6] 0 (λd=>Dj N d.1 d.2.1 d.2.2.1) func195 ntmps195
def sZ(N:Nat)(a:eg):Option (eg×Nat):=
  ay (((decide (0<=(a.length:Int)))&&(decide ((a.length:Int)<=(a.length:Int)))&&(gR 24 (a.length:Int)))&&(true)) <|
  ay ((beq a.length (replicate (a.length:Int).toNat (eF.zero:cU)).length)&&(true)) <|
  some (a,(a.length:Int).toNat)
def VB(N:Nat):bI bR:=cu N aZ [.c (.bJ eF)] [] ⟨.a (.c (.jK eF)),[],[]⟩ [] [] (.s .d (.s .d (.s .d (.s .d (.t [.dV 6]))))) [.tmp 2] ([],0) (λd=>sZ N d.1) func196 ntmps196
def VC(N:Nat)(b:h3)(d:Int)(c:Int):Nat->(Int×eg)->Option (eg):=cx λa qM=>
  cond (decide (a.1<((b.2.getD c.toNat []).length:Int))) (ay ((aW a.1 (b.2.getD c.toNat []).length)&&(true)) <|
  ay ((dA 24 (a.2.length+[(((b.2.getD c.toNat []).getD a.1.toNat aS.zero),(true,d))].length))&&(true)) <|
  ay ((bd (a.1+1))&&(true)) <|
  qM ((a.1+1),(a.2++[(((b.2.getD c.toNat []).getD a.1.toNat aS.zero),(true,d))]))) (some a.2)
def VD(N:Nat)(e:h3)(f:Int)(a:Int)(d:Int)(g:Int):Nat->(Int×eg)->Option (eg):=cx λb ik=>
  cond (decide (b.1<(e.2.length:Int))) (ay ((aW b.1 e.2.length)&&(true)) <|
  ay ((bd (b.1+1))&&(true)) <|
  (ph N (1,(b.1+1)) f).bind λc=>
  ay (((aW a 2)&&(aW a lr.length))&&((bd (c+(lr.getD a.toNat 0)))&&((dK (!(decide (d=(c+(lr.getD a.toNat 0))))) ((aW a 2)&&(aW a lr.length)))&&((dK (!(decide (d=(c+(lr.getD a.toNat 0))))) (bd (3 * (lr.getD a.toNat 0))))&&((dK (!(decide (d=(c+(lr.getD a.toNat 0))))) (bd (c+(3 * (lr.getD a.toNat 0)))))&&(true)))))) <|
  cond (cond (!(decide (d=(c+(lr.getD a.toNat 0))))) (!(decide (d=(c+(3 * (lr.getD a.toNat 0)))))) false) (ay ((bd (b.1+1))&&(true)) <|
  ik ((b.1+1),b.2)) ((VC N e g b.1 N (0,b.2)).bind λh=>
  ay ((bd (b.1+1))&&(true)) <|
  ik ((b.1+1),h))) (some b.2)
def HC(N:Nat)(b:h3)(d:Int)(a:Int)(c:Int):Option (eg×Nat×Int):=
  (Dj N b d a).bind λe=>
  cond (!(decide (e=0))) (some (([]:eg),0,e)) (cond (decide ((tmod c 2)=0)) (some (([]:eg),0,1)) (Option.bind (cond (decide (a=0)) (some 1) (some 0)) λf=>
  (VD N b d a c f N (0,([]:eg))).bind λg=>
  Option.bind (cond (decide (f=0)) ((Ai N g).bind λi=>
  some i) (some g)) λj=>
  (sZ N j).bind λh=>
  some (h.1,h.2,0)))
def aiM(N:Nat):bI bR:=cu N aZ [.dc fW,.c (.int .i64),.c (.int .u8),.c (.int .i64)] [] ⟨.cY [.c (.jK eF),.c (.int .i64)],[],[]⟩ [VA N,Hw N,UE N,VB N] [] (.s (.r [.n 3,.w (.cg 4 fW)]) (.s .d (.s .d (.s .d (.j ⟨[(11,.a (.c (.int .u8)))],[],[1,2,3,4],[]⟩ .d (.s (.r [.n 1,.w (.nil 12 12 97 eF)]) (.s (.s .d (.b (.fv 0 ⟨[(12,.a (.c (.raw (.aI 12)))),(33,.a (.c (.int .i64)))],[(12,.row 97 eF)],[1,2,3,11,31,32],[]⟩ ⟨[(12,.a (.c (.raw (.aI 12))))],[(12,.row 97 eF)],[11],[]⟩ (.s .d (.s .d (.s (.b (.s .d (.s .d (.s .d (.s .d (.b (.fv 2 ⟨[(12,.a (.c (.raw (.aI 12)))),(62,.a (.c (.int .i64)))],[(12,.row 97 eF)],[1,2,3,11,31,32,33,60,61],[]⟩ ⟨[(12,.a (.c (.raw (.aI 12))))],[(12,.row 97 eF)],[1,2,3,11,31,32,33],[]⟩ (.s .d (.s .d (.s (.b (.s (.r [.n 4,.w (.cg 17 aS)]) .d)) .d)))))))))) .d)))))) (.j ⟨[(12,.a (.c (.raw (.aI 12))))],[(12,.row 97 eF)],[],[]⟩ (.s .d (.c (.r [.n 1,.c [(2000000,12)]]) .d)) (.s (.r [.n 1,.w (.dV 12)]) .d))))))))) [.tmp 8,.tmp 9] ([],0,0) (λd=>HC N d.1 d.2.1 d.2.2.1 d.2.2.2.1) func146 ntmps146
def x7(N:Nat)(a:ed)(b:Int×Int×Int):Nat->(Int×eg)->Option (eg):=cx λd2 fQ=>
  cond (decide (d2.1<(a.length:Int))) (ay ((aW d2.1 a.length)&&(true)) <|
  cond (cond (decide (b.1<(a.getD d2.1.toNat cO.zero).2.2)) (decide ((a.getD d2.1.toNat cO.zero).2.2<b.2.1)) false) (ay ((dA 24 (d2.2.length+[((a.getD d2.1.toNat cO.zero).1,((decide ((a.getD d2.1.toNat cO.zero).2.1.1=1)),b.2.2))].length))&&(true)) <|
  ay ((bd (d2.1+1))&&(true)) <|
  fQ ((d2.1+1),(d2.2++[((a.getD d2.1.toNat cO.zero).1,((decide ((a.getD d2.1.toNat cO.zero).2.1.1=1)),b.2.2))]))) (ay ((bd (d2.1+1))&&(true)) <|
  fQ ((d2.1+1),d2.2))) (some d2.2)
def p8(N:Nat)(f:ed)(b:Int)(a:Int):Option (eg×Nat):=
  Option.bind (cond (decide (b<a)) (some (b,a,1)) (some (a,b,0))) λc=>
  (x7 N f c N (0,([]:eg))).bind λe=>
  Option.bind (cond (decide (c.2.2=0)) ((Ai N e).bind λg=>
  some g) (some e)) λh=>
  (sZ N h).bind λd=>
  some (d.1,d.2)
def aiN(N:Nat):bI bR:=cu N aZ [.c (.bJ cO),.c (.int .i64),.c (.int .i64)] [] ⟨.a (.c (.jK eF)),[],[]⟩ [UE N,VB N] [] (.s .d (.s .d (.j ⟨[(7,.a (.c (.int .i64))),(8,.a (.c (.int .i64))),(9,.a (.c (.int .u8)))],[],[0],[]⟩ .d (.s (.r [.n 1,.w (.nil 10 10 97 eF)]) (.s (.s .d (.b (.fv 0 ⟨[(10,.a (.c (.raw (.aI 10)))),(22,.a (.c (.int .i64)))],[(10,.row 97 eF)],[7,8,9,20,21],[]⟩ ⟨[(10,.a (.c (.raw (.aI 10))))],[(10,.row 97 eF)],[9],[]⟩ (.s .d (.s .d (.s (.b (.s (.r [.n 4,.w (.cg 12 cO)]) .d)) .d)))))) (.j ⟨[(10,.a (.c (.raw (.aI 10))))],[(10,.row 97 eF)],[],[]⟩ (.s .d (.c (.r [.n 1,.c [(2000000,10)]]) .d)) (.s (.r [.n 1,.w (.dV 10)]) .d))))))) [.tmp 6] ([],0) (λd=>p8 N d.1 d.2.1 d.2.2.1) func149 ntmps149
def HD(N:Nat)(a:b7):Option (b7):=
  ay (((decide (0<=(a.length:Int)))&&(decide ((a.length:Int)<=(a.length:Int)))&&(gR 16 (a.length:Int)))&&(true)) <|
  ay ((beq a.length (replicate (a.length:Int).toNat (aS.zero:ae)).length)&&(true)) <|
  some a
def aiO(N:Nat):bI bR:=cu N aZ [.c (.bJ aS)] [] ⟨.a (.c (.raw (.aI 6))),[(6,.row 58 aS)],[]⟩ [] [] (.d) [.tmp 2] [] (λd=>HD N d.1) func23 ntmps23
def vN(N:Nat)(a:b7):Option (b7×Nat):=
  ay (((decide (0<=(a.length:Int)))&&(decide ((a.length:Int)<=(a.length:Int)))&&(gR 16 (a.length:Int)))&&(true)) <|
  ay ((beq a.length (replicate (a.length:Int).toNat (aS.zero:ae)).length)&&(true)) <|
  some (a,(a.length:Int).toNat)
def Nv(N:Nat):bI bR:=cu N aZ [.c (.bJ aS)] [] ⟨.a (.c (.jK aS)),[],[]⟩ [] [] (.s .d (.s .d (.s .d (.s .d (.t [.dV 6]))))) [.tmp 2] ([],0) (λd=>vN N d.1) func23 ntmps23
def Dk(N:Nat)(c:h3)(a:ae):Option (b7):=
  (mD N a).bind λd=>
  cond (!(decide (d=0))) (some ([]:b7)) (Option.bind (cond (decide (a.1=1)) (some c.2) (some c.1)) λb=>
  cond (decide ((b.length:Int)<a.2)) (some ([]:b7)) (ay ((bd (a.2-1))&&((aW (a.2-1) b.length)&&(true))) <|
  (HD N (b.getD (a.2-1).toNat [])).bind λe=>
  some e))
def aiP(N:Nat):bI bR:=cu N aZ [.dc fW,.dc aS] [] ⟨.a (.c (.raw (.aI 27))),[(27,.row 58 aS)],[]⟩ [vM N,aiO N] [] (.s (.r [.n 3,.w (.cg 2 fW),.w (.cg 3 aS)]) (.s (.s .d (.c (.s .d (.t [.nil 4 27 58 aS])) .d)) (.s .d (.j ⟨[(5,.a (.c (.bJ (.aI aS))))],[],[3],[]⟩ .d (.s (.s .d (.c (.s .d (.t [.nil 4 27 58 aS])) .d)) (.s (.r [.n 6,.c [(6,27)]]) .d)))))) [.tmp 4] [] (λd=>Dk N d.1 d.2.1) func10 ntmps10
def nV(N:Nat)(c:h3)(a:ae):Option (b7×Nat):=
  (mD N a).bind λe=>
  cond (!(decide (e=0))) (some (([]:b7),0)) (Option.bind (cond (decide (a.1=1)) (some c.2) (some c.1)) λb=>
  cond (decide ((b.length:Int)<a.2)) (some (([]:b7),0)) (ay ((bd (a.2-1))&&((aW (a.2-1) b.length)&&(true))) <|
  (vN N (b.getD (a.2-1).toNat [])).bind λd=>
  some (d.1,d.2)))
def Ax(N:Nat):bI bR:=cu N aZ [.dc fW,.dc aS] [] ⟨.a (.c (.jK aS)),[],[]⟩ [vM N,Nv N] [] (.s (.r [.n 3,.w (.cg 2 fW),.w (.cg 3 aS)]) (.s .d (.s .d (.j ⟨[(5,.a (.c (.bJ (.aI aS))))],[],[3],[]⟩ .d .d)))) [.tmp 4] ([],0) (λd=>nV N d.1 d.2.1) func10 ntmps10
def aiQ(N:Nat) :Nat->(Int×Int×ed)->Option (ed):=cx λd1 eC=>
  cond (decide (d1.1<d1.2.1)) (ay ((aW d1.2.1 d1.2.2.length)&&((decide (d1.2.1.toNat<d1.2.2.length))&&((aW d1.1 d1.2.2.length)&&((decide (d1.1.toNat<d1.2.2.length))&&((aW d1.1 d1.2.2.length)&&(((decide (d1.1.toNat<d1.2.2.length))&&(true))&&((aW d1.2.1 (d1.2.2.set d1.1.toNat (d1.2.2.getD d1.2.1.toNat cO.zero)).length)&&(((decide (d1.2.1.toNat<(d1.2.2.set d1.1.toNat (d1.2.2.getD d1.2.1.toNat cO.zero)).length))&&(true))&&(true))))))))) <|
  ay ((bd (d1.1+1))&&((bd (d1.2.1-1))&&(true))) <|
  eC ((d1.1+1),(d1.2.1-1),((d1.2.2.set d1.1.toNat (d1.2.2.getD d1.2.1.toNat cO.zero)).set d1.2.1.toNat (d1.2.2.getD d1.1.toNat cO.zero)))) (some d1.2.2)
def Nw(N:Nat)(a:ed):Option (ed):=
  ay ((bd ((a.length:Int)-1))&&(true)) <|
  (aiQ N N (0,((a.length:Int)-1),a)).bind λb=>
  some b
def aiR(N:Nat):bI bR:=cu N aZ [.c (.raw (.aI 2000000))] [(2000000,.row 238 cO)] ⟨.cY [],[(2000000,.row 238 cO)],[]⟩ [] [] (.s .d (.b (.fv 0 ⟨[(0,.a (.c (.raw (.aI 2000000)))),(2,.a (.c (.int .i64))),(3,.a (.c (.int .i64)))],[(2000000,.row 238 cO)],[],[]⟩ ⟨[],[(2000000,.row 238 cO)],[],[]⟩ (.s .d (.s (.b (.nU [8,9,10,11] [.t 0 0,.t 1 0,.t 2 0,.t 3 0,.t 4 0,.t 5 0,.t 6 0,.t 7 3,.t 8 0,.t 9 0,.t 10 0,.t 11 3,.t 12 0,.s 13,.t 14 0,.s 15] [])) .d))))) [] [] (λd=>Nw N d.1) func198 ntmps198
def Nx(N:Nat)(a:ed):Option (ed×Nat):=
  ay (((decide (0<=(a.length:Int)))&&(decide ((a.length:Int)<=(a.length:Int)))&&(gR 40 (a.length:Int)))&&(true)) <|
  ay ((beq a.length (replicate (a.length:Int).toNat (cO.zero:b3)).length)&&(true)) <|
  some (a,(a.length:Int).toNat)
def aiS(N:Nat):bI bR:=cu N aZ [.c (.bJ cO)] [] ⟨.a (.c (.jK cO)),[],[]⟩ [] [] (.s .d (.s .d (.s .d (.s .d (.t [.dV 6]))))) [.tmp 2] ([],0) (λd=>Nx N d.1) func199 ntmps199
def VE(N:Nat)(c:h3)(f:Int)(d:Int)(b:b7)(e:Int):Nat->(Int×ed)->Option (ed):=cx λa sY=>
  cond (decide (a.1<(b.length:Int))) (ay ((aW a.1 b.length)&&((decide (a.1.toNat<b.length))&&(true))) <|
  cond (decide (f=0)) (ay ((dA 40 (a.2.length+[((b.getD a.1.toNat aS.zero),(((c.2.getD d.toNat []).getD e.toNat aS.zero),1))].length))&&(true)) <|
  ay ((bd (a.1+1))&&(true)) <|
  sY ((a.1+1),(a.2++[((b.getD a.1.toNat aS.zero),(((c.2.getD d.toNat []).getD e.toNat aS.zero),1))]))) (ay ((dA 40 (a.2.length+[(((c.2.getD d.toNat []).getD e.toNat aS.zero),((b.getD a.1.toNat aS.zero),(-1:Int)))].length))&&(true)) <|
  ay ((bd (a.1+1))&&(true)) <|
  sY ((a.1+1),(a.2++[(((c.2.getD d.toNat []).getD e.toNat aS.zero),((b.getD a.1.toNat aS.zero),(-1:Int)))])))) (some a.2)
def Ny(N:Nat)(b:h3)(d:Int)(c:Int)(e:b7):Nat->(Int×ed)->Option (ed):=cx λa Au=>
  cond (decide (a.1<((b.2.getD c.toNat []).length:Int))) (ay ((aW a.1 (b.2.getD c.toNat []).length)&&(true)) <|
  (VE N b d c e a.1 N (0,a.2)).bind λf=>
  ay ((bd (a.1+1))&&(true)) <|
  Au ((a.1+1),f)) (some a.2)
def VF(N:Nat)(a:h3)(b:Int)(c:Int):Nat->(Int×ed)->Option (ed):=cx λd2 fQ=>
  cond (decide (d2.1<(a.2.length:Int))) (ay ((aW d2.1 a.2.length)&&(true)) <|
  ay ((bd (d2.1+1))&&((bd ((d2.1+1)+b))&&(true))) <|
  Option.bind (cond (decide (c=0)) (ay ((bd (((d2.1+1)+b)-1))&&(true)) <|
  some (((d2.1+1)+b)-1)) (some ((d2.1+1)+b))) λf=>
  (Dk N a (0,f)).bind λd=>
  (Ap N d).bind λe=>
  (Ny N a c d2.1 e N (0,d2.2)).bind λg=>
  ay ((bd (d2.1+1))&&(true)) <|
  fQ ((d2.1+1),g)) (some d2.2)
def HE(N:Nat)(b:h3)(c:Int)(a:Int):Option (ed×Nat×Int):=
  (Dj N b c a).bind λd=>
  cond (!(decide (d=0))) (some (([]:ed),0,d)) ((VF N b c a N (0,([]:ed))).bind λe=>
  Option.bind (cond (decide (a=1)) ((Nw N e).bind λg=>
  some g) (some e)) λh=>
  (Nx N h).bind λf=>
  some (f.1,f.2,0))
def aiT(N:Nat):bI bR:=cu N aZ [.dc fW,.c (.int .i64),.c (.int .u8)] [] ⟨.cY [.c (.jK cO),.c (.int .i64)],[],[]⟩ [VA N,aiP N,aic N,aiR N,aiS N] [] (.s (.r [.n 3,.w (.cg 3 fW)]) (.s .d (.s (.r [.n 1,.w (.nil 9 9 238 cO)]) (.s (.s .d (.b (.fv 0 ⟨[(9,.a (.c (.raw (.aI 9)))),(28,.a (.c (.int .i64)))],[(9,.row 238 cO)],[1,2,3,26,27],[]⟩ ⟨[(9,.a (.c (.raw (.aI 9))))],[(9,.row 238 cO)],[2],[]⟩ (.s .d (.s .d (.s (.b (.s .d (.s .d (.j ⟨[(9,.a (.c (.raw (.aI 9)))),(12,.a (.c (.int .i64)))],[],[1,2,3,11,26,27,28],[9]⟩ .d (.s (.r [.n 3,.c [(27,44)]]) (.s (.r [.n 1,.c [(2000000,44)]]) (.s .d (.b (.fv 2 ⟨[(9,.a (.c (.raw (.aI 9)))),(13,.a (.c (.raw (.aI 44)))),(49,.a (.c (.int .i64)))],[(9,.row 238 cO)],[1,2,3,26,27,28,47,48],[44]⟩ ⟨[(9,.a (.c (.raw (.aI 9))))],[(9,.row 238 cO)],[1,2,3,26,27,28],[]⟩ (.s .d (.s .d (.s (.b (.s (.r [.n 4,.w (.cg 15 aS)]) (.s .d (.b (.fv 4 ⟨[(9,.a (.c (.raw (.aI 9)))),(13,.a (.c (.raw (.aI 44)))),(53,.a (.c (.raw (.aI 44)))),(55,.a (.c (.int .i64)))],[(9,.row 238 cO)],[1,2,3,15,26,27,28,47,48,49,54],[44]⟩ ⟨[(9,.a (.c (.raw (.aI 9)))),(13,.a (.c (.raw (.aI 44))))],[(9,.row 238 cO)],[1,2,3,26,27,28,47,48,49],[44]⟩ (.s .d (.s .d (.s (.b (.s (.r [.n 4,.w (.cg 17 aS)]) .d)) .d)))))))) .d)))))))))))) .d)))))) (.j ⟨[(9,.a (.c (.raw (.aI 9))))],[(9,.row 238 cO)],[],[]⟩ (.s .d (.c (.r [.n 1,.c [(2000000,9)]]) .d)) (.s (.r [.n 1,.w (.dV 9)]) .d)))))) [.tmp 6,.tmp 7] ([],0,0) (λd=>HE N d.1 d.2.1 d.2.2.1) func147 ntmps147
def HF(N:Nat)(a:bV):Nat->Int->Option (Int):=cx λd1 eC=>
  ay ((dK (decide (0<d1)) (bd (d1-1)))&&((dK (decide (0<d1)) (aW (d1-1) a.length))&&(true))) <|
  cond (cond (decide (0<d1)) (decide (((a.getD (d1-1).toNat []).length:Int)=0)) false) (ay ((bd (d1-1))&&(true)) <|
  eC (d1-1)) (some d1)
def Ay(N:Nat)(a:bV):Option (Int):=
  (HF N a N (a.length:Int)).bind λb=>
  some b
def aiU(N:Nat):bI bR:=cu N aZ [.c (.bJ (.aI aS))] [] ⟨.a (.c (.int .i64)),[],[]⟩ [] [] (.s .d (.s .d (.s (.b (.fv 0 ⟨[(3,.a (.c (.int .i64)))],[],[0],[]⟩ ⟨[(3,.a (.c (.int .i64)))],[],[],[]⟩ .d)) .d))) [.tmp 2] 0 (λd=>Ay N d.1) func216 ntmps216
def HG(N:Nat)(a:bV):Option (bV):=
  ay (((decide (0<=(a.length:Int)))&&(decide ((a.length:Int)<=(a.length:Int)))&&(gR 24 (a.length:Int)))&&(true)) <|
  ay ((beq a.length (replicate (a.length:Int).toNat ([]:b7)).length)&&(true)) <|
  some a
def aiV(N:Nat):bI bR:=cu N aZ [.c (.bJ (.aI aS))] [] ⟨.a (.c (.raw (.aI 6))),[(6,.row 42 (.aI aS))],[]⟩ [] [] (.d) [.tmp 2] [] (λd=>HG N d.1) func215 ntmps215
def VG(N:Nat)(b:bV):Nat->(Int×bV)->Option (bV):=cx λa rV=>
  cond (decide (a.1<(b.length:Int))) (ay ((aW a.1 a.2.length)&&((decide (a.1.toNat<a.2.length))&&(true))) <|
  (vN N (a.2.getD a.1.toNat [])).bind λc=>
  ay ((aW a.1 a.2.length)&&(((decide (a.1.toNat<a.2.length))&&(true))&&(true))) <|
  ay ((bd (a.1+1))&&(true)) <|
  rV ((a.1+1),(a.2.set a.1.toNat c.1))) (some a.2)
def uy(N:Nat)(a:bV)(b:Int)(f:b7):Option (bV):=
  ay (((decide (0<=(if (a.length:Int)<b then b else(a.length:Int))))&&(decide ((if (a.length:Int)<b then b else(a.length:Int))<=(if (a.length:Int)<b then b else(a.length:Int))))&&(gR 24 (if (a.length:Int)<b then b else(a.length:Int))))&&(true)) <|
  ay ((decide (a.length<=(replicate (if (a.length:Int)<b then b else(a.length:Int)).toNat ([]:b7)).length))&&(true)) <|
  Option.bind (cond (decide (0<b)) (ay ((bd (b-1))&&((aW (b-1) (a++(replicate (if (a.length:Int)<b then b else(a.length:Int)).toNat ([]:b7)).drop a.length).length)&&(((decide ((b-1).toNat<(a++(replicate (if (a.length:Int)<b then b else(a.length:Int)).toNat ([]:b7)).drop a.length).length))&&(true))&&(true)))) <|
  some ((a++(replicate (if (a.length:Int)<b then b else(a.length:Int)).toNat ([]:b7)).drop a.length).set (b-1).toNat f)) (some (a++(replicate (if (a.length:Int)<b then b else(a.length:Int)).toNat ([]:b7)).drop a.length))) λc=>
  (Ay N c).bind λd=>
  ay (((decide (0<=d))&&(decide (d<=(c.length:Int))))&&(true)) <|
  (HG N (c.take d.toNat)).bind λe=>
  (VG N e N (0,e)).bind λg=>
  some g
def aiW(N:Nat):bI bR:=cu N aZ [.c (.bJ (.aI aS)),.c (.int .i64),.c (.bJ aS)] [] ⟨.a (.c (.bJ (.aI aS))),[],[]⟩ [aiU N,aiV N,Nv N] [] (.s .d (.s .d (.s (.r [.n 2,.t .uQ]) (.j ⟨[(7,.a (.c (.raw (.aI 14))))],[(14,.row 42 (.aI aS))],[],[]⟩ .d (.s (.r [.n 2,.w (.dV 14),.n 2,.c [(6,29)]]) (.s (.s .d (.b (.fv 0 ⟨[(7,.a (.c (.raw (.aI 29)))),(30,.a (.c (.raw (.aI 29)))),(32,.a (.c (.int .i64)))],[(29,.row 42 (.aI aS))],[31],[]⟩ ⟨[(7,.a (.c (.raw (.aI 29))))],[(29,.row 42 (.aI aS))],[],[]⟩ .d))) (.s .d (.t [.dV 29])))))))) [.tmp 6] [] (λd=>uy N d.1 d.2.1 d.2.2.1) func200 ntmps200
def vO(N:Nat)(a:h3)(b:ae)(c:b7):Option (h3):=
  cond (decide (b.1=0)) ((uy N a.1 b.2 c).bind λd=>
  (uy N a.2 0 ([]:b7)).bind λf=>
  some (d,f)) ((uy N a.1 0 ([]:b7)).bind λg=>
  (uy N a.2 b.2 c).bind λe=>
  some (g,e))
def VH(N:Nat):bI bR:=cu N aZ [.dc fW,.dc aS,.c (.bJ aS)] [] ⟨.a (.dc fW),[],[]⟩ [aiW N] [] (.s (.r [.n 3,.w (.cg 3 fW),.w (.cg 4 aS)]) (.s (.s .d (.c (.s (.o [] [.t 0 0,.t 1 1,.t 2 0,.t 3 1,.t 4 0,.t 6 0,.t 7 1,.c 5 [],.c 8 [],.t 9 0,.s 10] []) .d) .d)) (.s (.o [] [.t 0 0,.t 1 1,.t 3 0,.t 4 1,.t 5 0,.t 6 1,.t 7 0,.c 2 [],.c 8 [],.t 9 0,.s 10] []) .d))) [.cell 6 37] fW.zero (λd=>vO N d.1 d.2.1 d.2.2.1) func152 ntmps152
def Nz(N:Nat)(b:b7):Nat->Int->Option ((Unit)⊕(h3×Int)):=cx λa ik=>
  cond (decide (a<(b.length:Int))) (ay ((aW a b.length)&&(true)) <|
  (Ak N (b.getD a.toNat aS.zero)).bind λc=>
  cond (!c) (some (.inr ((([]:bV),([]:bV)),1))) (ay ((bd (a+1))&&(true)) <|
  ik (a+1))) (some (.inl ()))
def Dl(N:Nat)(b:(ae×b7×Unit)):Nat->(Int×(List (ae×Bool)))->Option (Int×Bool×(List (ae×Bool))):=cx λa sY=>
  cond (decide (a.1<(b.2.1.length:Int))) (ay ((aW a.1 b.2.1.length)&&(true)) <|
  ay ((true&&true)&&(true)) <|
  ay ((bd (a.1+1))&&(true)) <|
  sY ((a.1+1),(eS aS .bool a.2 (b.2.1.getD a.1.toNat aS.zero) true))) (some (a.1,(decide (a.1<(b.2.1.length:Int))),a.2))
def NA(N:Nat)(b:b7):Nat->(Int×(List (ae×Bool)))->Option ((Unit)⊕(h3×Int)):=cx λa Nf=>
  cond (decide (a.1<(b.length:Int))) (ay ((aW a.1 b.length)&&(true)) <|
  cond ((de aS .bool a.2 (b.getD a.1.toNat aS.zero)).getD false) (some (.inr ((([]:bV),([]:bV)),8))) (ay ((true&&true)&&(true)) <|
  ay ((bd (a.1+1))&&(true)) <|
  Nf ((a.1+1),(eS aS .bool a.2 (b.getD a.1.toNat aS.zero) true)))) (some (.inl ()))
def uz(N:Nat)(b:h3)(c:ae)(a:b7):Option (h3×Int):=
  (Av N b).bind λf=>
  cond (!(decide (f=0))) (some ((([]:bV),([]:bV)),f)) ((mD N c).bind λk=>
  cond (!(decide (k=0))) (some ((([]:bV),([]:bV)),1)) ((Nz N a N 0).bind λ(g:(Unit)⊕(h3×Int))=>
  sm g (λg=>
  cond (decide (4<(a.length:Int))) (some ((([]:bV),([]:bV)),9)) ((Nl N b).bind λl=>
  (As N true l).bind λj=>kJ (λ(h:ae×b7×Unit) (d:(List (ae×Bool))) (e:(List (ae×Bool))->Option (h3×Int))=>
  cond (!(aV.beq aS h.1 c)) ((Dl N h N (0,d)).bind λo=>
  e o.2.2) (e d)) j ([]:List (ae×Bool)) λm=>
  (NA N a N (0,m)).bind λ(i:(Unit)⊕(h3×Int))=>
  sm i (λi=>
  (vO N b c a).bind λn=>
  some (n,0)) (λq=>some q))) (λq=>some q)))
def VI(N:Nat):bI bR:=cu N aZ [.dc fW,.dc aS,.c (.bJ aS)] [] ⟨.cY [.dc fW,.c (.int .i64)],[],[]⟩ [Hn N,vM N,MZ N,Ve N,VH N] [Vd N] (.s (.r [.n 4,.w (.cg 3 fW),.w (.cg 4 aS)]) (.s .d (.s .d (.s (.s .d (.b (.gL 0 ⟨[(6,.a (.c (.raw (.ptr 6 0)))),(30,.a (.c (.int .i64)))],[],[2,3,4,28,29],[6]⟩ ⟨[(6,.a (.c (.raw (.ptr 6 0))))],[],[2,3,4],[6]⟩ (.s .d (.s .d (.s (.b (.s (.r [.n 4,.w (.cg 10 aS)]) .d)) .d)))))) (.s .d (.s (.r [.t (.pc aS .bool)]) (.s (.s .d (.b (.pW [(6,83),(11,88)] ⟨[],[(43,.mp aS .bool),(88,.cells 155 [.raw (.dI 43)])],[],[83]⟩ (.b (.s .d (.c (.s .d (.b (.fv 4 ⟨[(6,.a (.c (.raw (.ptr 83 0)))),(11,.a (.c (.raw (.ptr 88 0)))),(53,.a (.c (.int .i64)))],[(43,.mp aS .bool),(88,.cells 155 [.raw (.dI 43)])],[2,3,4,12,13,48,49,50,51,52],[83]⟩ ⟨[(6,.a (.c (.raw (.ptr 83 0)))),(11,.a (.c (.raw (.ptr 88 0)))),(53,.a (.c (.int .i64))),(54,.a (.c .bool))],[(43,.mp aS .bool),(88,.cells 155 [.raw (.dI 43)])],[2,3,4,12,13,48,49,50,51,52],[83]⟩ (.s .d (.s .d (.s (.b (.s (.r [.n 4,.w (.cg 15 aS)]) (.r [.n 2,.t .FV]))) .d)))))) .d)))))) (.s (.s .d (.b (.gL 6 ⟨[(6,.a (.c (.raw (.ptr 83 0)))),(11,.a (.c (.raw (.ptr 88 0)))),(62,.a (.c (.int .i64)))],[(43,.mp aS .bool),(88,.cells 155 [.raw (.dI 43)])],[2,3,4,60,61],[83]⟩ ⟨[(6,.a (.c (.raw (.ptr 83 0))))],[],[2,3,4],[83]⟩ (.s .d (.s .d (.s (.b (.s (.r [.n 4,.w (.cg 17 aS)]) (.s (.s (.r [.n 2,.t .Cf]) .d) (.r [.n 2,.t .FV])))) .d)))))) .d)))))))) [.cell 6 37,.tmp 7] (fW.zero,0) (λd=>uz N d.1 d.2.1 d.2.2.1) func101 ntmps101
def Dp(N:Nat)(d:h3)(b:ae)(e:ae):Option (h3×Int):=
  (Av N d).bind λh=>
  cond (!(decide (h=0))) (some ((([]:bV),([]:bV)),h)) ((mD N b).bind λi=>
  Option.bind (cond (!(!(decide (i=0)))) (mD N e) (some 0)) λj=>
  cond (cond (cond (!(decide (i=0))) true (!(decide (j=0)))) true (decide (b.1=e.1))) (some ((([]:bV),([]:bV)),1)) ((nV N d b).bind λa=>
  (nV N d e).bind λc=>
  cond (decide ((a.1.length:Int)=0)) (some ((([]:bV),([]:bV)),13)) (ay ((bd ((a.1.length:Int)+(c.1.length:Int)))&&(true)) <|
  cond (decide (4<((a.1.length:Int)+(c.1.length:Int)))) (some ((([]:bV),([]:bV)),9)) ((vN N c.1).bind λf=>
  ay (((dA 16 (f.1.length+a.1.length))&&(decide (f.2=f.1.length)))&&(true)) <|
  Option.bind (cond (decide (b.1=1)) ((vN N a.1).bind λg=>
  ay (((dA 16 (g.1.length+c.1.length))&&(decide (g.2=g.1.length)))&&(true)) <|
  some (g.1++c.1)) (some (f.1++a.1))) λk=>
  ay (true) <|
  (vO N d b ([]:b7)).bind λl=>
  (vO N l e k).bind λm=>
  some (m,0)))))
def aiY(N:Nat):bI bR:=cu N aZ [.dc fW,.dc aS,.dc aS] [] ⟨.cY [.dc fW,.c (.int .i64)],[],[]⟩ [Hn N,vM N,Ax N,Nv N,VH N] [] (.s (.r [.n 5,.w (.cg 3 fW),.w (.cg 4 aS),.w (.cg 5 aS)]) (.s .d (.s .d (.s (.o [] [.t 0 1,.t 1 1,.t 3 1,.t 4 1,.c 2 [],.c 5 [],.t 6 0,.t 7 0] []) (.s .d (.s .d (.s .d (.j ⟨[(6,.a (.c (.raw (.ptr 6 0)))),(11,.a (.c (.raw (.aI 61))))],[(61,.hl 58 aS)],[3,4,5],[6]⟩ (.s .d (.c .d (.t [.t (.di 54 61)]))) (.s (.p [.tO 61] (.o [] [.t 0 1,.t 1 1,.t 3 1,.t 4 0,.c 2 [],.c 5 [],.s 6,.t 7 0] [])) .d))))))))) [.cell 6 37,.tmp 7] (fW.zero,0) (λd=>Dp N d.1 d.2.1 d.2.2.1) func100 ntmps100
def vP(N:Nat) :Option (lY):=
  (M1 N).bind λa=>
  some (0,((([]:bV),([]:bV)),((replicate (6:Int).toNat (b5.zero:bq)),((a.2.2.2.map (·.2)),(a.1,(a.2.1,a.2.2.1))))))
def HH(N:Nat) :Option (lY):=
  gY ((M1 N).bind λa=>
  some (0,((([]:bV),([]:bV)),((replicate (6:Int).toNat (b5.zero:bq)),((a.2.2.2.map (·.2)),(a.1,(a.2.1,a.2.2.1)))))))
theorem aiZ:HH=vP:=by
 unfold HH vP;simp only[gY,ox]
def ai0(N:Nat):bI bR:=oC N aZ [] [] ⟨.a (.dc pT),[],[]⟩ [ahE N] [] (.s .d (.s (.c3 [] [] (.b [] 0 1 [] [(1,2)] none none (.f [.c 1 [(1,2)],.t 2 0,.s 3]) (.f [.s 0,.t 2 0,.s 3])) [] false) (.t [.dV 1,.t (.dV 2)]))) [.cell 0 46] pT.zero (λd=>HH N ) (λd=>vP N ) (λd=>(by rw[aiZ]:HH N =vP N )) func9 ntmps9
def HI(N:Nat)(a:ed×Nat×Int):Nat->(Int×b7)->Option (b7):=cx λd2 fQ=>
  cond (decide (d2.1<(a.1.length:Int))) (ay ((aW d2.1 a.1.length)&&(true)) <|
  ay ((aW d2.1 d2.2.length)&&(((decide (d2.1.toNat<d2.2.length))&&(true))&&(true))) <|
  ay ((bd (d2.1+1))&&(true)) <|
  fQ ((d2.1+1),(d2.2.set d2.1.toNat (a.1.getD d2.1.toNat cO.zero).1))) (some d2.2)
def pj(N:Nat)(b:h3)(c:Int):Option (b7):=
  (qN N b c).bind λa=>
  ay (((decide (0<=(a.1.length:Int)))&&(decide ((a.1.length:Int)<=(a.1.length:Int)))&&(gR 16 (a.1.length:Int)))&&(true)) <|
  (HI N a N (0,(replicate (a.1.length:Int).toNat (aS.zero:ae)))).bind λd=>
  some d
def VJ(N:Nat):bI bR:=cu N aZ [.dc fW,.c (.int .i64)] [] ⟨.a (.c (.bJ aS)),[],[]⟩ [Vz N] [] (.s (.r [.n 2,.w (.cg 2 fW)]) (.s .d (.s .d (.s (.s .d (.b (.fv 0 ⟨[(7,.a (.c (.raw (.aI 18)))),(21,.a (.c (.int .i64)))],[(18,.row 58 aS)],[19,20],[]⟩ ⟨[(7,.a (.c (.raw (.aI 18))))],[(18,.row 58 aS)],[],[]⟩ (.s .d (.s .d (.s (.b (.s (.r [.n 6,.w (.cg 9 cO)]) .d)) .d)))))) (.s .d (.t [.dV 18])))))) [.tmp 4] [] (λd=>pj N d.1 d.2.1) func46 ntmps46
def VK(N:Nat)(a:lY):Nat->Int->Option ((Unit)⊕(Int)):=cx λd2 fQ=>
  cond (decide (d2<(a.2.2.1.length:Int))) (ay ((aW d2 a.2.2.1.length)&&(true)) <|
  (um N (a.2.2.1.getD d2.toNat b5.zero)).bind λb=>
  cond (!(decide (b=0))) (some (.inr b)) (ay ((bd (d2+1))&&(true)) <|
  fQ (d2+1))) (some (.inl ()))
def VL(N:Nat)(b:lY):Nat->Int->Option ((Unit)⊕(Int)):=cx λa sY=>
  cond (decide (a<(b.2.2.1.length:Int))) (ay ((aW a b.2.2.1.length)&&(true)) <|
  ay ((aW a b.2.2.2.1.length)&&(true)) <|
  cond (!(decide ((b.2.2.1.getD a.toNat b5.zero).2.2.1=((b.2.2.2.1.getD a.toNat []).length:Int)))) (some (.inr 6)) (ay ((bd (a+1))&&(true)) <|
  sY (a+1))) (some (.inl ()))
def HJ(N:Nat)(a:lY):Option (Int):=
  cond (cond (decide (a.1<(-4:Int))) true (decide (4<a.1))) (some 11) ((Av N a.2.1).bind λb=>
  cond (!(decide (b=0))) (some b) (cond (!(decide ((a.2.2.1.length:Int)=6))) (some 5) ((VK N a N 0).bind λ(d:(Unit)⊕(Int))=>
  sm d (λd=>
  (Hd N a.2.2.2).bind λc=>
  cond (!(decide (c=0))) (some c) ((pj N a.2.1 a.1).bind λf=>
  (He N a.2.2.2.2.2.1 f).bind λg=>
  cond (!g) (some 6) ((VL N a N 0).bind λ(e:(Unit)⊕(Int))=>
  sm e (λe=>
  some 0) (λq=>some q)))) (λq=>some q))))
def ai1(N:Nat):bI bR:=cu N aZ [.dc pT] [] ⟨.a (.c (.int .i64)),[],[]⟩ [Hn N,C1 N,ah3 N,VJ N,ah4 N] [] (.s (.r [.n 2,.w (.cg 1 pT)]) (.s .d (.s .d (.s .d (.s (.s .d (.b (.gL 0 ⟨[(31,.a (.c (.int .i64)))],[],[1,29,30],[]⟩ ⟨[],[],[1],[]⟩ (.s .d (.s .d (.s (.b (.s (.r [.n 4,.w (.cg 5 b5)]) .d)) .d)))))) (.s .d (.s (.s (.o [] [.t 0 0,.t 1 0,.t 2 1,.t 3 0,.t 4 1,.t 5 0,.t 6 1,.c 7 [],.c 8 [],.t 9 0] []) .d) (.s (.s .d (.b (.gL 2 ⟨[(60,.a (.c (.int .i64)))],[],[1,58,59],[]⟩ ⟨[],[],[],[]⟩ (.s .d (.s .d (.s (.b (.s (.r [.n 6,.w (.cg 9 b5)]) (.s (.o [] [.t 0 0,.t 1 1,.t 2 0,.t 3 0,.t 4 1,.t 5 0,.t 6 0,.t 7 1,.t 8 0,.t 9 0] []) .d))) .d)))))) .d)))))))) [.tmp 2] 0 (λd=>HJ N d.1) func16 ntmps16
def x8(N:Nat)(a:b7):Option (b7×Nat):=
  ay (((decide (0<=(a.length:Int)))&&(decide ((a.length:Int)<=(a.length:Int)))&&(gR 16 (a.length:Int)))&&(true)) <|
  ay ((beq a.length (replicate (a.length:Int).toNat (aS.zero:ae)).length)&&(true)) <|
  some (a,(a.length:Int).toNat)
def NB(N:Nat):bI bR:=cu N aZ [.c (.bJ aS)] [] ⟨.a (.c (.jK aS)),[],[]⟩ [] [] (.s .d (.s .d (.s .d (.s .d (.t [.dV 6]))))) [.tmp 2] ([],0) (λd=>x8 N d.1) func50 ntmps50
def p9(N:Nat)(a:b7):Option (b7):=
  ay (((decide (0<=(a.length:Int)))&&(decide ((a.length:Int)<=(a.length:Int)))&&(gR 16 (a.length:Int)))&&(true)) <|
  ay ((beq a.length (replicate (a.length:Int).toNat (aS.zero:ae)).length)&&(true)) <|
  some a
def VM(N:Nat):bI bR:=cu N aZ [.c (.bJ aS)] [] ⟨.a (.c (.raw (.aI 6))),[(6,.row 58 aS)],[]⟩ [] [] (.d) [.tmp 2] [] (λd=>p9 N d.1) func50 ntmps50
def HK(N:Nat)(a:bV):Nat->Int->Option (Int):=cx λd1 eC=>
  ay ((dK (decide (0<d1)) (bd (d1-1)))&&((dK (decide (0<d1)) (aW (d1-1) a.length))&&(true))) <|
  cond (cond (decide (0<d1)) (decide (((a.getD (d1-1).toNat []).length:Int)=0)) false) (ay ((bd (d1-1))&&(true)) <|
  eC (d1-1)) (some d1)
def VN(N:Nat)(a:bV)(b:Int):Nat->(Int×bV)->Option (bV):=cx λd2 fQ=>
  cond (decide (d2.1<b)) (ay ((aW d2.1 a.length)&&(true)) <|
  (x8 N (a.getD d2.1.toNat [])).bind λc=>
  ay ((aW d2.1 d2.2.length)&&(((decide (d2.1.toNat<d2.2.length))&&(true))&&(true))) <|
  ay ((bd (d2.1+1))&&(true)) <|
  fQ ((d2.1+1),(d2.2.set d2.1.toNat c.1))) (some d2.2)
def s3(N:Nat)(b:bV):Option (bV):=
  (HK N b N (b.length:Int)).bind λa=>
  ay (((decide (0<=a))&&(decide (a<=a))&&(gR 24 a))&&(true)) <|
  (VN N b a N (0,(replicate a.toNat ([]:b7)))).bind λc=>
  some c
def ai2(N:Nat):bI bR:=cu N aZ [.c (.bJ (.aI aS))] [] ⟨.a (.c (.bJ (.aI aS))),[],[]⟩ [NB N] [] (.s .d (.s .d (.s (.b (.fv 0 ⟨[(3,.a (.c (.int .i64)))],[],[0],[]⟩ ⟨[(3,.a (.c (.int .i64)))],[],[0],[]⟩ .d)) (.s .d (.s (.s .d (.b (.fv 2 ⟨[(4,.a (.c (.raw (.aI 22)))),(24,.a (.c (.int .i64)))],[(22,.row 42 (.aI aS))],[0,23],[]⟩ ⟨[(4,.a (.c (.raw (.aI 22))))],[(22,.row 42 (.aI aS))],[],[]⟩ .d))) (.s .d (.t [.dV 22]))))))) [.tmp 2] [] (λd=>s3 N d.1) func47 ntmps47
def HL(N:Nat)(a:dd):Option (dd):=
  ay (((decide (0<=(a.length:Int)))&&(decide ((a.length:Int)<=(a.length:Int)))&&(gR 56 (a.length:Int)))&&(true)) <|
  ay ((beq a.length (replicate (a.length:Int).toNat (b5.zero:bq)).length)&&(true)) <|
  some a
def ai3(N:Nat):bI bR:=cu N aZ [.c (.bJ b5)] [] ⟨.a (.c (.raw (.aI 6))),[(6,.row 52 b5)],[]⟩ [] [] (.d) [.tmp 2] [] (λd=>HL N d.1) func91 ntmps91
def Dq(N:Nat)(a:eg):Option (eg×Nat):=
  ay (((decide (0<=(a.length:Int)))&&(decide ((a.length:Int)<=(a.length:Int)))&&(gR 24 (a.length:Int)))&&(true)) <|
  ay ((beq a.length (replicate (a.length:Int).toNat (eF.zero:cU)).length)&&(true)) <|
  some (a,(a.length:Int).toNat)
def VO(N:Nat):bI bR:=cu N aZ [.c (.bJ eF)] [] ⟨.a (.c (.jK eF)),[],[]⟩ [] [] (.s .d (.s .d (.s .d (.s .d (.t [.dV 6]))))) [.tmp 2] ([],0) (λd=>Dq N d.1) func92 ntmps92
def VP(N:Nat)(a:dd):Nat->(Int×dd)->Option (dd):=cx λd2 fQ=>
  cond (decide (d2.1<(a.length:Int))) (ay ((aW d2.1 d2.2.length)&&((decide (d2.1.toNat<d2.2.length))&&(true))) <|
  (Dq N (d2.2.getD d2.1.toNat b5.zero).2.2.2.2).bind λb=>
  ay ((aW d2.1 d2.2.length)&&(((decide (d2.1.toNat<d2.2.length))&&(true))&&(true))) <|
  ay ((bd (d2.1+1))&&(true)) <|
  fQ ((d2.1+1),(d2.2.set d2.1.toNat ((d2.2.getD d2.1.toNat b5.zero).1,((d2.2.getD d2.1.toNat b5.zero).2.1,((d2.2.getD d2.1.toNat b5.zero).2.2.1,((d2.2.getD d2.1.toNat b5.zero).2.2.2.1,b.1))))))) (some d2.2)
def vQ(N:Nat)(b:dd):Option (dd):=
  (HL N b).bind λa=>
  (VP N a N (0,a)).bind λc=>
  some c
def ai4(N:Nat):bI bR:=cu N aZ [.c (.bJ b5)] [] ⟨.a (.c (.raw (.aI 6))),[(6,.row 52 b5)],[]⟩ [ai3 N,VO N] [] (.s .d (.s (.r [.n 1,.c [(6,6)]]) (.s (.s .d (.b (.fv 0 ⟨[(3,.a (.c (.raw (.aI 6)))),(9,.a (.c (.int .i64)))],[(6,.row 52 b5)],[8],[]⟩ ⟨[(3,.a (.c (.raw (.aI 6))))],[(6,.row 52 b5)],[],[]⟩ .d))) .d))) [.tmp 2] [] (λd=>vQ N d.1) func48 ntmps48
def Dr(N:Nat)(a:dv):Option (dv):=
  ay (((decide (0<=(a.length:Int)))&&(decide ((a.length:Int)<=(a.length:Int)))&&(gR 56 (a.length:Int)))&&(true)) <|
  ay ((beq a.length (replicate (a.length:Int).toNat (cE.zero:bA)).length)&&(true)) <|
  some a
def VQ(N:Nat):bI bR:=cu N aZ [.c (.bJ cE)] [] ⟨.a (.c (.raw (.aI 6))),[(6,.row 93 cE)],[]⟩ [] [] (.d) [.tmp 2] [] (λd=>Dr N d.1) func63 ntmps63
def VR(N:Nat)(d:cj)(b:Int):Nat->(Int×(List (Bool×dv)))->Option ((List (Bool×dv))):=cx λa ik=>
  cond (decide (a.1<((d.getD b.toNat []).length:Int))) (ay ((aW a.1 (d.getD b.toNat []).length)&&(true)) <|
  ay (((decide (b.toNat<a.2.length))&&(a.2.getD b.toNat (false,[])).1)) <|
  ay ((aW b a.2.length)&&((decide (b.toNat=b.toNat))&&(true))) <|
  (x8 N ((d.getD b.toNat []).getD a.1.toNat cE.zero).2.2.1).bind λc=>
  ay ((aW a.1 (a.2.getD b.toNat (false,[])).2.length)&&(((decide (a.1.toNat<(a.2.getD b.toNat (false,[])).2.length))&&(true))&&(true))) <|
  ay ((aW b a.2.length)&&((decide (b.toNat=b.toNat))&&(true))) <|
  (Dq N ((d.getD b.toNat []).getD a.1.toNat cE.zero).2.2.2).bind λe=>
  ay ((aW a.1 ((a.2.getD b.toNat (false,[])).2.set a.1.toNat (((a.2.getD b.toNat (false,[])).2.getD a.1.toNat cE.zero).1,(((a.2.getD b.toNat (false,[])).2.getD a.1.toNat cE.zero).2.1,(c.1,((a.2.getD b.toNat (false,[])).2.getD a.1.toNat cE.zero).2.2.2)))).length)&&(((decide (a.1.toNat<((a.2.getD b.toNat (false,[])).2.set a.1.toNat (((a.2.getD b.toNat (false,[])).2.getD a.1.toNat cE.zero).1,(((a.2.getD b.toNat (false,[])).2.getD a.1.toNat cE.zero).2.1,(c.1,((a.2.getD b.toNat (false,[])).2.getD a.1.toNat cE.zero).2.2.2)))).length))&&(true))&&(true))) <|
  ay ((bd (a.1+1))&&(true)) <|
  ik ((a.1+1),(a.2.set b.toNat (true,(((a.2.getD b.toNat (false,[])).2.set a.1.toNat (((a.2.getD b.toNat (false,[])).2.getD a.1.toNat cE.zero).1,(((a.2.getD b.toNat (false,[])).2.getD a.1.toNat cE.zero).2.1,(c.1,((a.2.getD b.toNat (false,[])).2.getD a.1.toNat cE.zero).2.2.2)))).set a.1.toNat ((((a.2.getD b.toNat (false,[])).2.set a.1.toNat (((a.2.getD b.toNat (false,[])).2.getD a.1.toNat cE.zero).1,(((a.2.getD b.toNat (false,[])).2.getD a.1.toNat cE.zero).2.1,(c.1,((a.2.getD b.toNat (false,[])).2.getD a.1.toNat cE.zero).2.2.2)))).getD a.1.toNat cE.zero).1,((((a.2.getD b.toNat (false,[])).2.set a.1.toNat (((a.2.getD b.toNat (false,[])).2.getD a.1.toNat cE.zero).1,(((a.2.getD b.toNat (false,[])).2.getD a.1.toNat cE.zero).2.1,(c.1,((a.2.getD b.toNat (false,[])).2.getD a.1.toNat cE.zero).2.2.2)))).getD a.1.toNat cE.zero).2.1,((((a.2.getD b.toNat (false,[])).2.set a.1.toNat (((a.2.getD b.toNat (false,[])).2.getD a.1.toNat cE.zero).1,(((a.2.getD b.toNat (false,[])).2.getD a.1.toNat cE.zero).2.1,(c.1,((a.2.getD b.toNat (false,[])).2.getD a.1.toNat cE.zero).2.2.2)))).getD a.1.toNat cE.zero).2.2.1,e.1)))))))) (some a.2)
def VS(N:Nat)(a:cj):Nat->(Int×(List (Bool×dv)))->Option ((List (Bool×dv))):=cx λd1 eC=>
  cond (decide (d1.1<(a.length:Int))) (ay ((aW d1.1 a.length)&&(true)) <|
  (Dr N (a.getD d1.1.toNat [])).bind λb=>
  ay ((aW d1.1 d1.2.length)&&((decide (d1.1.toNat<d1.2.length))&&(true))) <|
  (VR N a d1.1 N (0,(d1.2.set d1.1.toNat (true,b)))).bind λc=>
  ay ((bd (d1.1+1))&&(true)) <|
  eC ((d1.1+1),c)) (some d1.2)
def vR(N:Nat)(a:cj):Option ((List (Bool×dv))):=
  ay (((decide (0<=(a.length:Int)))&&(decide ((a.length:Int)<=(a.length:Int)))&&(gR 24 (a.length:Int)))&&(true)) <|
  (VS N a N (0,(replicate (a.length:Int).toNat ((true,[]):Bool×dv)))).bind λb=>
  some b
def ai5(N:Nat):bI bR:=cu N aZ [.c (.bJ (.aI cE))] [] ⟨.a (.c (.raw (.aI 10))),[(10,.cf 90 93 cE)],[]⟩ [VQ N,NB N,VO N] [] (.s .d (.s (.r [.n 2,.t .mk]) (.s (.s .d (.b (.fv 0 ⟨[(3,.a (.c (.raw (.aI 10)))),(13,.a (.c (.int .i64)))],[(10,.cf 90 93 cE)],[11,12],[]⟩ ⟨[(3,.a (.c (.raw (.aI 10))))],[(10,.cf 90 93 cE)],[],[]⟩ (.s .d (.s .d (.s (.b (.s .d (.s (.r [.n 3,.c [(6,21)],.n 1,.t .st]) (.s (.r [.n 3,.w (.t (.close 10 21))]) (.b (.fv 2 ⟨[(3,.a (.c (.raw (.aI 10)))),(25,.a (.c (.int .i64)))],[(10,.cf 90 93 cE)],[4,11,12,13,23,24],[]⟩ ⟨[(3,.a (.c (.raw (.aI 10))))],[(10,.cf 90 93 cE)],[11,12,13],[]⟩ (.s .d (.s .d (.s (.b (.s (.r [.n 6,.w (.cg 7 cE)]) (.s (.p [.t (.op 10 4 33)] (.nU [4,5,6,7,1000010] [.t 0 0,.t 1 0,.t 2 0,.t 3 3,.t 4 0,.t 5 0,.t 6 1,.c 7 [],.t 8 0,.t 9 0,.s 10] [])) (.nU [4,5,6,7,1000010] [.t 0 0,.t 1 0,.t 2 0,.t 3 3,.t 4 0,.t 5 0,.t 6 1,.c 7 [],.t 8 0,.t 9 0,.s 10] [(.t (.close 10 33))])))) .d))))))))) .d)))))) .d))) [.tmp 2] [] (λd=>vR N d.1) func49 ntmps49
def Ds(N:Nat)(b:lY):Nat->(Int×bV×bV)->Option (Int×bV×bV):=cx λa c=>
  cond (decide (0<(b.2.2.2.2.1.length:Int))) (ay ((aW 0 b.2.2.2.2.1.length)&&(true)) <|
  none) (some (a.1,a.2.1,a.2.2))
def x9(N:Nat)(a:lY):Option (Int×bV×bV×dd×(List (Bool×dv))×(List (e9×Int))×b7):=
  (s3 N a.2.1.1).bind λc=>
  (s3 N a.2.1.2).bind λe=>
  (vQ N a.2.2.1).bind λf=>
  (vR N a.2.2.2.1).bind λd=>
  (p9 N a.2.2.2.2.2.2).bind λg=>
  (Ds N a N (a.1,c,e)).bind λb=>
  some (b.1,b.2.1,b.2.2,f,d,([]:List (e9×Int)),g)
def HM(N:Nat)(a:lY):Option (Int×bV×bV×dd×(List (Bool×dv))×(List (e9×Int))×b7):=
  iy ((s3 N a.2.1.1).bind λg=>
  (λ(i:_->_->Option _)=>
  iy ((s3 N a.2.1.2).bind λf=>
  iy ((vQ N a.2.2.1).bind λd=>
  (λ(h:_->_->Option _)=>
  iy ((vR N a.2.2.2.1).bind λc=>
  gY ((p9 N a.2.2.2.2.2.2).bind λe=>
  h c e)) ((vR N a.2.2.2.1).bind λc=>
  (p9 N a.2.2.2.2.2.2).bind λe=>
  h c e)) (λc e=>
  (Ds N a N (a.1,g,f)).bind λb=>
  some (b.1,b.2.1,b.2.2,d,c,([]:List (e9×Int)),e))) ((vQ N a.2.2.1).bind λd=>
  i f d)) ((s3 N a.2.1.2).bind λf=>
  (vQ N a.2.2.1).bind λd=>
  i f d)) (λf d=>
  (vR N a.2.2.2.1).bind λc=>
  (p9 N a.2.2.2.2.2.2).bind λe=>
  (Ds N a N (a.1,g,f)).bind λb=>
  some (b.1,b.2.1,b.2.2,d,c,([]:List (e9×Int)),e))) ((s3 N a.2.1.1).bind λg=>
  (s3 N a.2.1.2).bind λf=>
  (vQ N a.2.2.1).bind λd=>
  (vR N a.2.2.2.1).bind λc=>
  (p9 N a.2.2.2.2.2.2).bind λe=>
  (Ds N a N (a.1,g,f)).bind λb=>
  some (b.1,b.2.1,b.2.2,d,c,([]:List (e9×Int)),e))
theorem ai6:HM=x9:=by
 unfold HM x9;simp only[gY,ox]
def ai7(N:Nat):bI bR:=oC N aZ [.dc pT] [] ⟨.a (.c (.raw (.ptr 34 0))),[MX,(19,.row 52 b5),(23,.cf 90 93 cE),(28,.mp hK (.int .i64)),(32,.row 58 aS)],[]⟩ [ai2 N,ai4 N,ai5 N,VM N] [] (.s (.r [.n 2,.w (.cg 1 pT)]) (.s (.c3 [] [] (.b [.t 0 0,.t 1 1,.t 2 0,.t 3 0,.t 4 1,.t 6 0,.t 7 0,.t 8 1,.t 11 0,.t 12 1,.t 14 0,.t 15 0,.t 16 1,.t 18 0,.t 19 0,.t 20 1,.t 21 0,.t 23 0,.t 24 0,.t 25 1] 5 22 [] [] none (some (.pc hK (.int .i64))) (.b [] 9 22 [] [] none (some (.pc hK (.int .i64))) (.b [.t 10 0] 13 22 [(6,19)] [] none (some (.pc hK (.int .i64))) (.b [] 17 22 [(10,23)] [] none (some (.pc hK (.int .i64))) (.b [] 22 26 [] [(6,32)] (some (.pc hK (.int .i64))) none (.f [.c 26 [(6,32)],.t 27 0,.s 28,.t 29 0]) (.f [.u 22 (.pc hK (.int .i64)),.t 27 0,.s 28,.t 29 0])) (.f [.c 17 [(10,23)],.c 26 [(6,32)],.t 27 0,.s 28,.t 29 0])) (.f [.c 13 [(6,19)],.c 17 [(10,23)],.c 26 [(6,32)],.t 27 0,.s 28,.t 29 0])) (.f [.c 9 [],.t 10 0,.c 13 [(6,19)],.c 17 [(10,23)],.c 26 [(6,32)],.t 27 0,.s 28,.t 29 0])) (.f [.c 5 [],.c 9 [],.t 10 0,.c 13 [(6,19)],.c 17 [(10,23)],.c 26 [(6,32)],.t 27 0,.s 28,.t 29 0])) [] false) (.s (.s .d (.b (.fv 0 ⟨[(3,.a (.c (.raw (.ptr 34 0))))],[MX],[37,38,39],[19,23,28,32]⟩ ⟨[(3,.a (.c (.raw (.ptr 34 0))))],[MX],[],[19,23,28,32]⟩ (.s .d (.s .d (.s (.b (.s (.r [.n 4,.w (.cg 5 cO)]) .d)) .d)))))) .d))) [.tmp 2] (0,[],[],[],[],[],[]) (λd=>HM N d.1) (λd=>x9 N d.1) (λd=>(by rw[ai6]:HM N d.1=x9 N d.1)) func17 ntmps17
def Dt(N:Nat)(a:ed):Option (ed×Nat):=
  ay (((decide (0<=(a.length:Int)))&&(decide ((a.length:Int)<=(a.length:Int)))&&(gR 40 (a.length:Int)))&&(true)) <|
  ay ((beq a.length (replicate (a.length:Int).toNat (cO.zero:b3)).length)&&(true)) <|
  some (a,(a.length:Int).toNat)
def ai8(N:Nat):bI bR:=cu N aZ [.c (.bJ cO)] [] ⟨.a (.c (.jK cO)),[],[]⟩ [] [] (.s .d (.s .d (.s .d (.s .d (.t [.dV 6]))))) [.tmp 2] ([],0) (λd=>Dt N d.1) func65 ntmps65
def vS(N:Nat)(a:bH)(f:Int)(d:bV)(e:bV)(g:List (Bool×dv))(h:List (e9×Int))(b:dd)(i:b7):Option (Int×Int×bV×bV×dd):=
  ay ((aW (IntKind.wrap .u8 (a.2.2.2.1-1)) b.length)&&(true)) <|
  ay ((decide ((IntKind.wrap .u8 (a.2.2.2.1-1)).toNat<b.length))&&(true)) <|
  (Al N (b.getD (IntKind.wrap .u8 (a.2.2.2.1-1)).toNat b5.zero) a.2.1).bind λc=>
  cond (decide (c.2=0)) (ay ((aW (IntKind.wrap .u8 (a.2.2.2.1-1)) b.length)&&(((decide ((IntKind.wrap .u8 (a.2.2.2.1-1)).toNat<b.length))&&(true))&&(true))) <|
  some (c.2,f,d,e,(b.set (IntKind.wrap .u8 (a.2.2.2.1-1)).toNat c.1))) (some (c.2,f,d,e,b))
def HN(N:Nat)(a:bH)(f:Int)(d:bV)(e:bV)(h:List (Bool×dv))(i:List (e9×Int))(b:dd)(j:b7):Option (Int×Int×bV×bV×dd):=
  ay ((aW (IntKind.wrap .u8 (a.2.2.2.1-1)) b.length)&&(true)) <|
  (λ(g:_->Option _)=>
  iy (ay ((decide ((IntKind.wrap .u8 (a.2.2.2.1-1)).toNat<b.length))&&(true)) <|
  gY ((Al N (b.getD (IntKind.wrap .u8 (a.2.2.2.1-1)).toNat b5.zero) a.2.1).bind λc=>
  g c)) (ay ((decide ((IntKind.wrap .u8 (a.2.2.2.1-1)).toNat<b.length))&&(true)) <|
  (Al N (b.getD (IntKind.wrap .u8 (a.2.2.2.1-1)).toNat b5.zero) a.2.1).bind λc=>
  g c)) (λc=>
  cond (decide (c.2=0)) (ay ((aW (IntKind.wrap .u8 (a.2.2.2.1-1)) b.length)&&(((decide ((IntKind.wrap .u8 (a.2.2.2.1-1)).toNat<b.length))&&(true))&&(true))) <|
  some (c.2,f,d,e,(b.set (IntKind.wrap .u8 (a.2.2.2.1-1)).toNat c.1))) (some (c.2,f,d,e,b)))
theorem ai9:HN=vS:=by
 unfold HN vS;simp only[gY,ox]
def aja(N:Nat):bI bR:=oC N aZ [.c (.raw (.ptr 1000000 0)),.dc df] [fm,(2000001,.cf 90 93 cE),(1000001,.mp hK (.int .i64)),(2000000,.row 52 b5),(1000002,.row 58 aS)] ⟨.a (.c (.int .i64)),[fm,(2000000,.row 52 b5)],[2000001,1000001,1000002]⟩ [ahz N] [] (.s (.r [.n 2,.w (.cg 3 df)]) (.s (.c3 [] [4,5,6,8,9,10,15,1000011,1000016] (.b [.t 0 0,.t 1 0,.t 2 0,.t 3 3,.t 4 0,.t 5 1,.t 6 0,.t 7 0,.t 9 0,.t 10 1] 8 15 [] [] none none (.b [] 11 15 [] [] none none (.f [.m 12,.t 13 0,.t 14 0,.s 15,.s 16,.t 17 0]) (.f [.c 11 [],.m 12,.t 13 0,.t 14 0,.s 16,.t 17 0])) (.f [.f,.k 8,.c 11 [],.m 12,.t 13 0,.t 14 0,.s 16,.t 17 0])) [(.cg 5 b5)] false) (.s (.s .d (.c (.o [4,5,6,7] [.t 0 0,.t 1 0,.t 2 0,.t 3 3,.t 4 0,.t 5 1,.t 6 0,.t 7 1,.t 8 0,.s 9] []) .d)) .d))) [.tmp 4] (0,0,[],[],[]) (λd=>HN N d.1 d.2.1 d.2.2.1 d.2.2.2.1 d.2.2.2.2.1 d.2.2.2.2.2.1 d.2.2.2.2.2.2.1 d.2.2.2.2.2.2.2.1) (λd=>vS N d.1 d.2.1 d.2.2.1 d.2.2.2.1 d.2.2.2.2.1 d.2.2.2.2.2.1 d.2.2.2.2.2.2.1 d.2.2.2.2.2.2.2.1) (λd=>(by rw[ai9]:HN N d.1 d.2.1 d.2.2.1 d.2.2.2.1 d.2.2.2.2.1 d.2.2.2.2.2.1 d.2.2.2.2.2.2.1 d.2.2.2.2.2.2.2.1=vS N d.1 d.2.1 d.2.2.1 d.2.2.2.1 d.2.2.2.2.1 d.2.2.2.2.2.1 d.2.2.2.2.2.2.1 d.2.2.2.2.2.2.2.1)) func51 ntmps51
def NC(N:Nat)(a:bq):Option (bq×Int):=
  (um N a).bind λb=>
  cond (!(decide (b=0))) (some ((false,(0,(0,(false,([]:eg))))),b)) (cond (!a.1) (some ((false,(0,(0,(false,([]:eg))))),12)) (some ((false,(0,(a.2.2.1,(false,([]:eg))))),0)))
def ajb(N:Nat):bI bR:=cu N aZ [.dc b5] [] ⟨.cY [.dc b5,.c (.int .i64)],[],[]⟩ [C1 N] [] (.s (.r [.n 3,.w (.cg 1 b5)]) .d) [.cell 2 52,.tmp 3] (b5.zero,0) (λd=>NC N d.1) func93 ntmps93
def Du(N:Nat)(b:bH)(f:Int)(d:bV)(e:bV)(g:List (Bool×dv))(h:List (e9×Int))(a:dd)(i:b7):Option (Int×Int×bV×bV×dd):=
  ay ((aW (IntKind.wrap .u8 (b.2.2.2.1-1)) a.length)&&((decide ((IntKind.wrap .u8 (b.2.2.2.1-1)).toNat<a.length))&&(true))) <|
  (NC N (a.getD (IntKind.wrap .u8 (b.2.2.2.1-1)).toNat b5.zero)).bind λc=>
  cond (decide (c.2=0)) (ay ((aW (IntKind.wrap .u8 (b.2.2.2.1-1)) a.length)&&(((decide ((IntKind.wrap .u8 (b.2.2.2.1-1)).toNat<a.length))&&(true))&&(true))) <|
  some (c.2,f,d,e,(a.set (IntKind.wrap .u8 (b.2.2.2.1-1)).toNat c.1))) (some (c.2,f,d,e,a))
def HO(N:Nat)(b:bH)(f:Int)(d:bV)(e:bV)(g:List (Bool×dv))(h:List (e9×Int))(a:dd)(i:b7):Option (Int×Int×bV×bV×dd):=
  ay ((aW (IntKind.wrap .u8 (b.2.2.2.1-1)) a.length)&&((decide ((IntKind.wrap .u8 (b.2.2.2.1-1)).toNat<a.length))&&(true))) <|
  gY ((NC N (a.getD (IntKind.wrap .u8 (b.2.2.2.1-1)).toNat b5.zero)).bind λc=>
  cond (decide (c.2=0)) (ay ((aW (IntKind.wrap .u8 (b.2.2.2.1-1)) a.length)&&(((decide ((IntKind.wrap .u8 (b.2.2.2.1-1)).toNat<a.length))&&(true))&&(true))) <|
  some (c.2,f,d,e,(a.set (IntKind.wrap .u8 (b.2.2.2.1-1)).toNat c.1))) (some (c.2,f,d,e,a)))
theorem ajc:HO=Du:=by
 unfold HO Du;simp only[gY,ox]
def ajd(N:Nat):bI bR:=oC N aZ [.c (.raw (.ptr 1000000 0)),.dc df] [fm,(2000001,.cf 90 93 cE),(1000001,.mp hK (.int .i64)),(2000000,.row 52 b5),(1000002,.row 58 aS)] ⟨.a (.c (.int .i64)),[fm,(2000000,.row 52 b5)],[2000001,1000001,1000002]⟩ [ajb N] [] (.s (.r [.n 2,.w (.cg 3 df)]) (.s (.c3 [] [4,5,6,13,1000009,1000014] (.b [.t 0 0,.t 1 0,.t 2 0,.t 3 3,.t 4 0,.t 5 1,.t 6 0,.t 7 0,.t 8 3] 9 13 [] [] none none (.f [.m 10,.t 11 0,.t 12 0,.s 13,.s 14,.t 15 0]) (.f [.c 9 [],.m 10,.t 11 0,.t 12 0,.s 14,.t 15 0])) [(.cg 5 b5)] true) (.s (.s .d (.c (.o [4,5,6,7] [.t 0 0,.t 1 0,.t 2 0,.t 3 3,.t 4 0,.t 5 1,.t 6 0,.t 7 1,.t 8 0,.s 9] []) .d)) .d))) [.tmp 4] (0,0,[],[],[]) (λd=>HO N d.1 d.2.1 d.2.2.1 d.2.2.2.1 d.2.2.2.2.1 d.2.2.2.2.2.1 d.2.2.2.2.2.2.1 d.2.2.2.2.2.2.2.1) (λd=>Du N d.1 d.2.1 d.2.2.1 d.2.2.2.1 d.2.2.2.2.1 d.2.2.2.2.2.1 d.2.2.2.2.2.2.1 d.2.2.2.2.2.2.2.1) (λd=>(by rw[ajc]:HO N d.1 d.2.1 d.2.2.1 d.2.2.2.1 d.2.2.2.2.1 d.2.2.2.2.2.1 d.2.2.2.2.2.2.1 d.2.2.2.2.2.2.2.1=Du N d.1 d.2.1 d.2.2.1 d.2.2.2.1 d.2.2.2.2.1 d.2.2.2.2.2.1 d.2.2.2.2.2.2.1 d.2.2.2.2.2.2.2.1)) func52 ntmps52
def aje(N:Nat)(a:b3)(f:Int)(b:bV)(c:bV)(d:List (Bool×dv))(e:List (e9×Int))(g:dd)(h:b7):Option (Int×Int×bV×bV):=
  none
def ajf(N:Nat):bI bR:=ahc [.c (.raw (.ptr 1000000 0)),.dc cO] [fm,(2000001,.cf 90 93 cE),(1000001,.mp hK (.int .i64)),(2000000,.row 52 b5),(1000002,.row 58 aS)] ⟨.a (.c (.int .i64)),[fm],[2000001,1000001,2000000,1000002]⟩ 148 (0,0,[],[]) func148 rfl rfl
def rZ(N:Nat)(b:bH)(c:Int)(d:bV)(e:bV)(g:List (Bool×dv))(h:List (e9×Int))(f:dd)(i:b7):Option (Int×Int×Int×Int×bV×bV):=
  ay ((aW (IntKind.wrap .u8 (b.2.2.2.1-1)) f.length)&&(true)) <|
  ay ((decide ((IntKind.wrap .u8 (b.2.2.2.1-1)).toNat<f.length))&&(true)) <|
  (ph N b.2.2.1 c).bind λa=>
  cond (!(f.getD (IntKind.wrap .u8 (b.2.2.2.1-1)).toNat b5.zero).1) (some (0,0,12,c,d,e)) (cond (decide (b.2.1=1)) (cond (decide (a<(f.getD (IntKind.wrap .u8 (b.2.2.2.1-1)).toNat b5.zero).2.1)) (some (0,0,12,c,d,e)) (ay ((bd (a+1))&&(true)) <|
  some ((a+1),a,0,c,d,e))) (cond (decide ((f.getD (IntKind.wrap .u8 (b.2.2.2.1-1)).toNat b5.zero).2.1<a)) (some (0,0,12,c,d,e)) (ay ((bd (a-1))&&(true)) <|
  some ((a-1),a,0,c,d,e))))
def HP(N:Nat)(b:bH)(c:Int)(e:bV)(f:bV)(h:List (Bool×dv))(i:List (e9×Int))(d:dd)(j:b7):Option (Int×Int×Int×Int×bV×bV):=
  ay ((aW (IntKind.wrap .u8 (b.2.2.2.1-1)) d.length)&&(true)) <|
  (λ(g:_->Option _)=>
  iy (ay ((decide ((IntKind.wrap .u8 (b.2.2.2.1-1)).toNat<d.length))&&(true)) <|
  gY ((ph N b.2.2.1 c).bind λa=>
  g a)) ((λ(kk8:_->Option _)=>
  iy ((ph N b.2.2.1 c).bind λa=>
  gY (ay ((decide ((IntKind.wrap .u8 (b.2.2.2.1-1)).toNat<d.length))&&(true)) <|
  kk8 a)) ((λ(kk7:_->Option _)=>
  iy (ay ((decide ((IntKind.wrap .u8 (b.2.2.2.1-1)).toNat<d.length))&&(true)) <|
  (ph N b.2.2.1 c).bind λa=>
  kk7 a) ((ph N b.2.2.1 c).bind λa=>
  ay ((decide ((IntKind.wrap .u8 (b.2.2.2.1-1)).toNat<d.length))&&(true)) <|
  kk7 a)) (λa=>
  kk8 a))) (λa=>
  g a))) (λa=>
  cond (!(d.getD (IntKind.wrap .u8 (b.2.2.2.1-1)).toNat b5.zero).1) (some (0,0,12,c,e,f)) (cond (decide (b.2.1=1)) (cond (decide (a<(d.getD (IntKind.wrap .u8 (b.2.2.2.1-1)).toNat b5.zero).2.1)) (some (0,0,12,c,e,f)) (ay ((bd (a+1))&&(true)) <|
  some ((a+1),a,0,c,e,f))) (cond (decide ((d.getD (IntKind.wrap .u8 (b.2.2.2.1-1)).toNat b5.zero).2.1<a)) (some (0,0,12,c,e,f)) (ay ((bd (a-1))&&(true)) <|
  some ((a-1),a,0,c,e,f)))))
theorem ajg:HP=rZ:=by
 unfold HP rZ
 funext;simp (disch:=simp only[TO,Cx,TN]) only[gY,TP]
def ND(N:Nat):bI bR:=oC N aZ [.c (.raw (.ptr 1000000 0)),.dc df] [fm,(2000001,.cf 90 93 cE),(1000001,.mp hK (.int .i64)),(2000000,.row 52 b5),(1000002,.row 58 aS)] ⟨.cY [.c (.int .i64),.c (.int .i64),.c (.int .i64)],[fm],[2000001,1000001,2000000,1000002]⟩ [Hw N] [] (.s (.r [.n 4,.w (.cg 3 df)]) (.s (.c3 [] [4,5,6,8,9,10,11,12,13,14,15,16,1000017] (.t [.t 0 0,.t 1 0,.t 2 0,.t 3 3,.t 4 0,.t 5 1,.t 6 0,.t 7 0,.t 9 0,.t 10 1,.t 11 0,.t 12 0,.t 13 0,.t 14 3] 8 15 16 [] [] [] none none none (.b [] 15 16 [] [] none none (.f [.k 16,.s 17,.t 18 0]) (.f [.c 15 [],.s 17,.t 18 0])) (.b [.f] 8 16 [] [] none none (.f [.k 16,.s 17,.t 18 0]) (.f [.f,.k 8,.s 17,.t 18 0])) (.b [.f] 8 15 [] [] none none (.f [.c 15 [],.s 17,.t 18 0]) (.f [.f,.k 8,.s 17,.t 18 0]))) [(.cg 7 b5)] false) .d)) [.tmp 4,.tmp 5,.tmp 6] (0,0,0,0,[],[]) (λd=>HP N d.1 d.2.1 d.2.2.1 d.2.2.2.1 d.2.2.2.2.1 d.2.2.2.2.2.1 d.2.2.2.2.2.2.1 d.2.2.2.2.2.2.2.1) (λd=>rZ N d.1 d.2.1 d.2.2.1 d.2.2.2.1 d.2.2.2.2.1 d.2.2.2.2.2.1 d.2.2.2.2.2.2.1 d.2.2.2.2.2.2.2.1) (λd=>(by rw[ajg]:HP N d.1 d.2.1 d.2.2.1 d.2.2.2.1 d.2.2.2.2.1 d.2.2.2.2.2.1 d.2.2.2.2.2.2.1 d.2.2.2.2.2.2.2.1=rZ N d.1 d.2.1 d.2.2.1 d.2.2.2.1 d.2.2.2.2.1 d.2.2.2.2.2.1 d.2.2.2.2.2.2.1 d.2.2.2.2.2.2.2.1)) func95 ntmps95
def pk(N:Nat)(b:Int)(i:Int)(h:Int)(c:Int)(d:bV)(e:bV)(l:List (Bool×dv))(m:List (e9×Int))(a:dd)(k:b7):Option (Int×Int×bV×bV×dd):=
  (qN N (d,e) c).bind λg=>
  cond (!(decide (g.2.2=0))) (some (g.2.2,c,d,e,a)) (ay ((aW (IntKind.wrap .u8 (b-1)) a.length)&&((decide ((IntKind.wrap .u8 (b-1)).toNat<a.length))&&(true))) <|
  (p8 N g.1 (a.getD (IntKind.wrap .u8 (b-1)).toNat b5.zero).2.1 h).bind λj=>
  (xX N (a.getD (IntKind.wrap .u8 (b-1)).toNat b5.zero) i j.1).bind λf=>
  cond (decide (f.2=0)) (ay ((aW (IntKind.wrap .u8 (b-1)) a.length)&&(((decide ((IntKind.wrap .u8 (b-1)).toNat<a.length))&&(true))&&(true))) <|
  some (f.2,c,d,e,(a.set (IntKind.wrap .u8 (b-1)).toNat f.1))) (some (f.2,c,d,e,a)))
def HQ(N:Nat)(b:Int)(j:Int)(i:Int)(d:Int)(e:bV)(f:bV)(m:List (Bool×dv))(n:List (e9×Int))(a:dd)(l:b7):Option (Int×Int×bV×bV×dd):=
  (qN N (e,f) d).bind λg=>
  cond (!(decide (g.2.2=0))) (some (g.2.2,d,e,f,a)) (ay ((aW (IntKind.wrap .u8 (b-1)) a.length)&&((decide ((IntKind.wrap .u8 (b-1)).toNat<a.length))&&(true))) <|
  (λ(k:_->Option _)=>
  iy ((p8 N g.1 (a.getD (IntKind.wrap .u8 (b-1)).toNat b5.zero).2.1 i).bind λh=>
  gY ((xX N (a.getD (IntKind.wrap .u8 (b-1)).toNat b5.zero) j h.1).bind λc=>
  k c)) ((p8 N g.1 (a.getD (IntKind.wrap .u8 (b-1)).toNat b5.zero).2.1 i).bind λh=>
  (xX N (a.getD (IntKind.wrap .u8 (b-1)).toNat b5.zero) j h.1).bind λc=>
  k c)) (λc=>
  cond (decide (c.2=0)) (ay ((aW (IntKind.wrap .u8 (b-1)) a.length)&&(((decide ((IntKind.wrap .u8 (b-1)).toNat<a.length))&&(true))&&(true))) <|
  some (c.2,d,e,f,(a.set (IntKind.wrap .u8 (b-1)).toNat c.1))) (some (c.2,d,e,f,a))))
theorem ajh:HQ=pk:=by
 unfold HQ pk;simp only[gY,ox]
def NF(N:Nat):bI bR:=oC N aZ [.c (.raw (.ptr 1000000 0)),.c (.int .u8),.c (.int .i64),.c (.int .i64)] [fm,(2000001,.cf 90 93 cE),(1000001,.mp hK (.int .i64)),(2000000,.row 52 b5),(1000002,.row 58 aS)] ⟨.a (.c (.int .i64)),[fm,(2000000,.row 52 b5)],[2000001,1000001,1000002]⟩ [Vz N,aiN N,UM N] [] (.s .d (.s (.o [4,5,6,7] [.t 0 0,.t 1 0,.t 2 0,.t 3 3,.t 4 0,.t 5 0,.t 6 0,.t 7 3,.c 8 [],.m 9,.t 10 0,.t 11 0,.t 12 0,.t 13 0] []) (.s .d (.s (.r [.n 10,.w (.cg 11 b5)]) (.s (.c3 [] [] (.b [.t 0 1,.t 1 0,.t 2 0,.t 3 0,.t 4 1,.t 5 0] 6 11 [] [] none none (.b [] 7 11 [] [] none none (.f [.m 8,.t 9 0,.t 10 0,.s 11,.s 12,.t 13 0]) (.f [.c 7 [],.m 8,.t 9 0,.t 10 0,.s 12,.t 13 0])) (.f [.c 6 [],.c 7 [],.m 8,.t 9 0,.t 10 0,.s 12,.t 13 0])) [(.cg 12 b5)] false) (.s (.s .d (.c (.o [4,5,6] [.t 0 0,.t 1 0,.t 2 0,.t 3 3,.t 4 0,.t 5 0,.t 6 1,.t 7 0,.s 8] []) .d)) .d)))))) [.tmp 8] (0,0,[],[],[]) (λd=>HQ N d.1 d.2.1 d.2.2.1 d.2.2.2.1 d.2.2.2.2.1 d.2.2.2.2.2.1 d.2.2.2.2.2.2.1 d.2.2.2.2.2.2.2.1 d.2.2.2.2.2.2.2.2.1 d.2.2.2.2.2.2.2.2.2.1) (λd=>pk N d.1 d.2.1 d.2.2.1 d.2.2.2.1 d.2.2.2.2.1 d.2.2.2.2.2.1 d.2.2.2.2.2.2.1 d.2.2.2.2.2.2.2.1 d.2.2.2.2.2.2.2.2.1 d.2.2.2.2.2.2.2.2.2.1) (λd=>(by rw[ajh]:HQ N d.1 d.2.1 d.2.2.1 d.2.2.2.1 d.2.2.2.2.1 d.2.2.2.2.2.1 d.2.2.2.2.2.2.1 d.2.2.2.2.2.2.2.1 d.2.2.2.2.2.2.2.2.1 d.2.2.2.2.2.2.2.2.2.1=pk N d.1 d.2.1 d.2.2.1 d.2.2.2.1 d.2.2.2.2.1 d.2.2.2.2.2.1 d.2.2.2.2.2.2.1 d.2.2.2.2.2.2.2.1 d.2.2.2.2.2.2.2.2.1 d.2.2.2.2.2.2.2.2.2.1)) func96 ntmps96
def VT(N:Nat)(f:Int)(c:List (Bool×dv))(d:List (e9×Int))(g:dd)(e:b7):Nat->(Int×Int×bV×bV×dd)->Option ((Int×bV×bV×dd)⊕(Int×Int×bV×bV×(List (Bool×dv))×(List (e9×Int))×dd×b7)):=cx λd1 eC=>
  cond (decide (d1.1<(g.length:Int))) (ay ((aW d1.1 d1.2.2.2.2.length)&&((decide (d1.1.toNat<d1.2.2.2.2.length))&&(true))) <|
  cond (!(d1.2.2.2.2.getD d1.1.toNat b5.zero).1) (ay ((bd (d1.1+1))&&(true)) <|
  eC ((d1.1+1),d1.2.1,d1.2.2.1,d1.2.2.2.1,d1.2.2.2.2)) ((HC N (d1.2.2.1,d1.2.2.2.1) d1.2.1 f (d1.2.2.2.2.getD d1.1.toNat b5.zero).2.1).bind λb=>
  cond (!(decide (b.2.2=0))) (some (.inr (b.2.2,d1.2.1,d1.2.2.1,d1.2.2.2.1,c,d,d1.2.2.2.2,e))) ((xX N (d1.2.2.2.2.getD d1.1.toNat b5.zero) (d1.2.2.2.2.getD d1.1.toNat b5.zero).2.1 b.1).bind λa=>
  ay ((aW d1.1 d1.2.2.2.2.length)&&(((decide (d1.1.toNat<d1.2.2.2.2.length))&&(true))&&(true))) <|
  cond (!(decide (a.2=0))) (some (.inr (a.2,d1.2.1,d1.2.2.1,d1.2.2.2.1,c,d,(d1.2.2.2.2.set d1.1.toNat a.1),e))) (ay ((bd (d1.1+1))&&(true)) <|
  eC ((d1.1+1),d1.2.1,d1.2.2.1,d1.2.2.2.1,(d1.2.2.2.2.set d1.1.toNat a.1)))))) (some (.inl (d1.2.1,d1.2.2.1,d1.2.2.2.1,d1.2.2.2.2)))
def VU(N:Nat)(c:ed×Nat×Int):Nat->(Int×Int×bV×bV×(List (e9×Int))×b7×dd×(List (Bool×dv)))->Option ((Int×bV×bV×(List (e9×Int))×b7×dd×(List (Bool×dv)))⊕(Int×Int×bV×bV×(List (Bool×dv))×(List (e9×Int))×dd×b7)):=cx λa qM=>
  cond (decide (a.1<(c.1.length:Int))) (ay ((aW a.1 c.1.length)&&(true)) <|
  (aje N (c.1.getD a.1.toNat cO.zero) a.2.1 a.2.2.1 a.2.2.2.1 a.2.2.2.2.2.2.2 a.2.2.2.2.1 a.2.2.2.2.2.2.1 a.2.2.2.2.2.1).bind λb=>
  cond (!(decide (b.1=0))) (some (.inr (b.1,b.2.1,b.2.2.1,b.2.2.2,a.2.2.2.2.2.2.2,a.2.2.2.2.1,a.2.2.2.2.2.2.1,a.2.2.2.2.2.1))) (ay ((bd (a.1+1))&&(true)) <|
  qM ((a.1+1),b.2.1,b.2.2.1,b.2.2.2,a.2.2.2.2.1,a.2.2.2.2.2.1,a.2.2.2.2.2.2.1,a.2.2.2.2.2.2.2))) (some (.inl (a.2.1,a.2.2.1,a.2.2.2.1,a.2.2.2.2.1,a.2.2.2.2.2.1,a.2.2.2.2.2.2.1,a.2.2.2.2.2.2.2)))
def vT(N:Nat)(g:Int)(k:Int)(i:bV)(j:bV)(c:List (Bool×dv))(d:List (e9×Int))(h:dd)(f:b7):Option (Int×Int×bV×bV×(List (Bool×dv))×(List (e9×Int))×dd×b7):=
  (VT N g c d h f N (0,k,i,j,h)).bind λ(a:(Int×bV×bV×dd)⊕(Int×Int×bV×bV×(List (Bool×dv))×(List (e9×Int))×dd×b7))=>
  sm a (λa=>
  (HE N (a.2.1,a.2.2.1) a.1 g).bind λe=>
  cond (!(decide (e.2.2=0))) (some (e.2.2,a.1,a.2.1,a.2.2.1,c,d,a.2.2.2,f)) ((VU N e N (0,a.1,a.2.1,a.2.2.1,d,f,a.2.2.2,c)).bind λ(b:(Int×bV×bV×(List (e9×Int))×b7×dd×(List (Bool×dv)))⊕(Int×Int×bV×bV×(List (Bool×dv))×(List (e9×Int))×dd×b7))=>
  sm b (λb=>
  some (0,b.1,b.2.1,b.2.2.1,b.2.2.2.2.2.2,b.2.2.2.1,b.2.2.2.2.2.1,b.2.2.2.2.1)) (λq=>some q))) (λq=>some q)
def aji(N:Nat):bI bR:=cu N aZ [.c (.raw (.ptr 1000000 0)),.c (.int .u8)] [fm,(2000001,.cf 90 93 cE),(1000001,.mp hK (.int .i64)),(2000000,.row 52 b5),(1000002,.row 58 aS)] ⟨.a (.c (.int .i64)),[fm,(2000001,.cf 90 93 cE),(1000001,.mp hK (.int .i64)),(2000000,.row 52 b5),(1000002,.row 58 aS)],[]⟩ [aiM N,UM N,aiT N,ajf N] [] (.s .d (.s (.s .d (.b (.gL 0 ⟨[(0,.a (.c (.raw (.ptr 1000000 0)))),(17,.a (.c (.raw (.aI 2000000)))),(19,.a (.c (.int .i64)))],[fm,(2000000,.row 52 b5)],[1,18],[1000001,1000002,2000001]⟩ ⟨[(0,.a (.c (.raw (.ptr 1000000 0))))],[fm,(2000000,.row 52 b5)],[1],[1000001,1000002,2000001]⟩ (.s .d (.s .d (.s (.b (.s (.r [.n 6,.w (.cg 6 b5)]) (.s .d (.s (.o [4,5,6,7,8,9,10] [.t 0 0,.t 1 0,.t 2 0,.t 3 3,.t 4 0,.t 5 0,.t 6 0,.t 7 3,.t 8 0,.t 9 0,.t 10 1,.c 11 [],.m 12,.t 13 0,.t 14 0,.t 15 0,.t 16 0] []) (.s .d (.s (.o [4,5,6,7,8,9,10,11,12,13,1000014] [.t 0 0,.t 1 0,.t 2 0,.t 3 3,.t 4 0,.t 5 1,.t 6 0,.t 7 1,.t 8 0,.c 9 [],.m 10,.t 11 0,.t 12 5,.t 13 0,.s 14,.t 15 0] []) .d)))))) .d)))))) (.s (.o [4,5,6,7,8] [.t 0 0,.t 1 0,.t 2 0,.t 3 3,.t 4 0,.t 5 0,.t 6 0,.t 7 3,.t 8 0,.c 9 [],.m 10,.t 11 0,.t 12 0,.t 13 0,.t 14 0] []) (.s .d (.s (.s .d (.b (.gL 2 ⟨[(0,.a (.c (.raw (.ptr 1000000 0)))),(81,.a (.c (.int .i64)))],[fm,(1000001,.mp hK (.int .i64)),(1000002,.row 58 aS),(2000000,.row 52 b5),(2000001,.cf 90 93 cE)],[79,80],[]⟩ ⟨[],[fm,(1000001,.mp hK (.int .i64)),(1000002,.row 58 aS),(2000000,.row 52 b5),(2000001,.cf 90 93 cE)],[],[]⟩ (.s .d (.s .d (.s (.b (.s (.r [.n 4,.w (.cg 12 cO)]) (.s (.r [.n 2,.c jU]) .d))) .d)))))) .d))))) [.tmp 4] (0,0,[],[],[],[],[],[]) (λd=>vT N d.1 d.2.1 d.2.2.1 d.2.2.2.1 d.2.2.2.2.1 d.2.2.2.2.2.1 d.2.2.2.2.2.2.1 d.2.2.2.2.2.2.2.1) func94 ntmps94
def NG(N:Nat)(c:bH):Nat->(Int×bV×bV×(List (e9×Int))×b7×dd×(List (Bool×dv)))->Option ((Int×bV×bV×(List (e9×Int))×b7×dd×(List (Bool×dv)))⊕(Int×Int×bV×bV×(List (Bool×dv))×(List (e9×Int))×dd×b7)):=cx λd1 d=>
  cond (!(decide (d1.1=c.2.2.2.2))) (ay ((bd (d1.1+1))&&(true)) <|
  Option.bind (cond (decide (c.2.2.2.2<d1.1)) (ay ((bd (d1.1-1))&&(true)) <|
  some (0,(d1.1-1),d1.1,d1.2.1,d1.2.2.1)) (some (1,(d1.1+1),d1.1,d1.2.1,d1.2.2.1))) λb=>
  (vT N b.1 b.2.2.1 b.2.2.2.1 b.2.2.2.2 d1.2.2.2.2.2.2 d1.2.2.2.1 d1.2.2.2.2.2.1 d1.2.2.2.2.1).bind λa=>
  cond (!(decide (a.1=0))) (some (.inr (a.1,a.2.1,a.2.2.1,a.2.2.2.1,a.2.2.2.2.1,a.2.2.2.2.2.1,a.2.2.2.2.2.2.1,a.2.2.2.2.2.2.2))) (d (b.2.1,a.2.2.1,a.2.2.2.1,a.2.2.2.2.2.1,a.2.2.2.2.2.2.2,a.2.2.2.2.2.2.1,a.2.2.2.2.1))) (some (.inl (d1.1,d1.2.1,d1.2.2.1,d1.2.2.2.1,d1.2.2.2.2.1,d1.2.2.2.2.2.1,d1.2.2.2.2.2.2)))
def vU(N:Nat)(b:bH)(g:Int)(c:bV)(d:bV)(e:List (Bool×dv))(f:List (e9×Int))(h:dd)(i:b7):Option (Int×Int×bV×bV×(List (Bool×dv))×(List (e9×Int))×dd×b7):=
  (NG N b N (g,c,d,f,i,h,e)).bind λ(a:(Int×bV×bV×(List (e9×Int))×b7×dd×(List (Bool×dv)))⊕(Int×Int×bV×bV×(List (Bool×dv))×(List (e9×Int))×dd×b7))=>
  sm a (λa=>
  some (0,a.1,a.2.1,a.2.2.1,a.2.2.2.2.2.2,a.2.2.2.1,a.2.2.2.2.2.1,a.2.2.2.2.1)) (λq=>some q)
def ajj(N:Nat):bI bR:=cu N aZ [.c (.raw (.ptr 1000000 0)),.dc df] [fm,(2000001,.cf 90 93 cE),(1000001,.mp hK (.int .i64)),(2000000,.row 52 b5),(1000002,.row 58 aS)] ⟨.a (.c (.int .i64)),[fm,(2000001,.cf 90 93 cE),(1000001,.mp hK (.int .i64)),(2000000,.row 52 b5),(1000002,.row 58 aS)],[]⟩ [aji N] [] (.s (.r [.n 2,.w (.cg 3 df)]) (.s (.b (.gL 0 ⟨[(0,.a (.c (.raw (.ptr 1000000 0))))],[fm,(1000001,.mp hK (.int .i64)),(1000002,.row 58 aS),(2000000,.row 52 b5),(2000001,.cf 90 93 cE)],[3],[]⟩ ⟨[],[fm,(1000001,.mp hK (.int .i64)),(1000002,.row 58 aS),(2000000,.row 52 b5),(2000001,.cf 90 93 cE)],[],[]⟩ (.s (.s (.o [4,5] [.t 0 0,.t 1 0,.t 2 0,.t 3 3,.t 4 0,.t 5 1,.t 6 0] []) .d) (.b (.s (.o [5] [.t 0 0,.t 1 0,.t 2 0,.t 3 3,.t 4 0,.t 5 0,.t 6 0] []) (.j ⟨[(0,.a (.c (.raw (.ptr 1000000 0)))),(5,.a (.c (.int .u8))),(6,.a (.c (.int .i64)))],[fm],[3],[1000001,1000002,2000000,2000001]⟩ (.s (.o [] [.t 0 0,.t 1 1,.t 2 0,.t 3 0,.t 4 0,.t 5 3,.t 6 0] []) (.c (.o [5] [.t 0 0,.t 1 0,.t 2 0,.t 3 3,.t 4 0,.t 5 0,.t 6 0] []) .d)) (.s (.s (.r [.n 2,.c jU]) .d) .d))))))) .d)) [.tmp 4] (0,0,[],[],[],[],[],[]) (λd=>vU N d.1 d.2.1 d.2.2.1 d.2.2.2.1 d.2.2.2.2.1 d.2.2.2.2.2.1 d.2.2.2.2.2.2.1 d.2.2.2.2.2.2.2.1) func53 ntmps53
end
end
end Go.Proofs.YtijeenjclhajhaaGreatDoor
