/- Part 4 of 6 of the proof. -/
import Derived.Test.YtijeenjclhajhaaGreatDoorRm03
import Derived.Shelf.Strings.Builder1
set_option linter.all false
set_option maxRecDepth 100000
namespace Go.Proofs.YtijeenjclhajhaaGreatDoor
open Go.Proofs.Tryz
open _root_.Nat (beq ble blt eq_of_beq_eq_true le_trans lt_of_lt_of_le)
open _root_.Int (fdiv tmod)
open _root_.List (append append_assoc length_cons map_nil mem_append_left mem_cons_of_mem replicate)
open Go.RowKit
noncomputable section
variable{aT α:Type}{st:aP}{bP:iu}{env:Nat->Loc}{w:World}
section
inductive fQ where
 |d
 |r (l:List In)
 |t (l:List ng)
 |o (E:bG) (l:List sM) (w:List ng)
 |l1 (E:bG) (l:List sM) (w:List ng)
 |s (a b:fQ)
 |j (bq:eo) (a b:fQ)
 |CS (bq:eo) (a b:fQ)
 |c (a b:fQ)
 |l (bq:eo) (a:fQ)
 |eB (id:Nat) (bq hy:eo) (a:fQ)
 |ff (id:Nat) (bq hy:eo) (a:fQ)
 |b (a:fQ)
 |p1 (cZ:List (Nat×Nat)) (bq:eo) (a:fQ)
 |p (w:List ng) (a:fQ)
 |dm (ai:List ng) (E:bG) (t:uk) (w:List ng) (al:Bool)
def fQ.fst:fQ->fQ
 |.s x _=>x
 |.j _ x _=>x
 |.CS _ x _=>x
 |.c x _=>x
 |.l _ x=>x
 |.eB _ _ _ x=>x
 |.ff _ _ _ x=>x
 |.b x=>x
 |.p1 _ _ x=>x
 |_=>.d
def fQ.snd:fQ->fQ
 |.s _ x=>x
 |.j _ _ x=>x
 |.CS _ _ x=>x
 |.c _ x=>x
 |_=>.d
def fQ.ins:fQ->List In
 |.r x=>x
 |_=>[]
def fQ.Ak:fQ->List ng
 |.t x=>x
 |_=>[]
def fQ.pre:fQ->List ng
 |.p w _=>w
 |.dm w _ _ _ _=>w
 |_=>[]
def fQ.Uy:fQ->Bool
 |.l1 _ _ _=>true
 |.p _ (.l1 _ _ _)=>true
 |.dm _ _ _ _ al=>al
 |_=>false
def fQ.p7:fQ->bG×uk×List ng
 |.o x y z=>(x,.f y,z)
 |.l1 x y z=>(x,.f y,z)
 |.p _ (.o x y z)=>(x,.f y,z)
 |.p _ (.l1 x y z)=>(x,.f y,z)
 |.dm _ x y z _=>(x,y,z)
 |_=>([],.f [],[])
def pg{aT:Type}(n:Nat):List ng->bG->aP->(bG->aP->Option aT)->Option aT
 |[],V,st,k=>k V st
 |x::l,V,st,k=>match zP n x st with
  |some (c,st')=>ar c (pg n l (x.zN++V) st' k)
  |none=>none
theorem Al{X:bx}{n:Nat}{k:bG->aP->Option aT}{r:aT}{st0:aP}:∀ {l:List ng} {V:bG} {st:aP},di V st0 st->pg n l V st k=some r->∃a st',cj X n st st'/\di a st0 st'/\k a st'=some r
 |[],V,st,b,h=>⟨V,st,cj.refl _,b,h⟩
 |x::l,V,st,b,h=>by
  unfold pg at h
  split at h
  ·rename_i c d e
   obtain⟨aa,h⟩:=e7 h;obtain⟨a,st',J,U,ah⟩:=Al (X:=X) (b.trans (Ti e)) h;exact⟨a,st',(Td e aa).trans J,U,ah⟩
  grind
def Uz{α:Type}(v:Value)(k:Value->α):α:=match v with
 |.int q z=>k (.int q z)
 |.bool b=>k (.bool b)
 |.slice a m c=>k (.slice a m c)
 |v=>k v
def GI{α:Type}:dY->(dY->α)->α
 |[],k=>k []
 |.id i::r,k=>GI r λr=>k (.id i::r)
 |.eC g x::r,k=>GI r λr=>k (.eC g x::r)
def Mv{α:Type}(c:bs)(k:bs->α):α:=match c with
 |.val v=>Uz v λv=>k (.val v)
 |.str s=>k (.str s)
 |.dead=>k .dead
 |.ptr i o=>k (.ptr i o)
 |.eT i s j o=>k (.eT i s j o)
 |.fu g x o=>k (.fu g x o)
 |.par g l=>k (.par g l)
 |.ax i=>k (.ax i)
 |.bz g l c=>k (.bz g l c)
 |.fn f ids=>GI ids λids=>k (.fn f ids)
 |.dv i=>k (.dv i)
 |.jD f i=>k (.jD f i)
 |.il i o=>k (.il i o)
 |.jE i s o=>k (.jE i s o)
 |.jV i=>k (.jV i)
 |.iC b i=>k (.iC b i)
def GJ{α:Type}:dP->(dP->α)->α
 |[],k=>k []
 |c::r,k=>Mv c λc=>GJ r λr=>k (c::r)
def GK{α:Type}(x:bn)(k:bn->α):α:=match x with
 |.c c=>Mv c λc=>k (.c c)
 |.agg cs=>GJ cs λcs=>k (.agg cs)
 |.arr g l=>k (.arr g l)
def Mw{α:Type}:dT->(dT->α)->α
 |[],k=>k []
 |c::r,k=>GK c λc=>Mw r λr=>k (c::r)
def UA{α:Type}(v:b7)(k:b7->α):α:=match v with
 |.a x=>GK x λx=>k (.a x)
 |.may g x=>GK x λx=>k (.may g x)
 |.cE xs=>Mw xs λxs=>k (.cE xs)
def Mx{α:Type}:cS->(cS->α)->α
 |[],k=>k []
 |(s,v)::r,k=>UA v λv=>Mx r λr=>k ((s,v)::r)
def UB{α:Type}(b:cz)(k:cz->α):α:=match b with
 |.cells t cs=>GJ cs λcs=>k (.cells t cs)
 |.row t g l c=>k (.row t g l c)
 |.gT t g l=>k (.gT t g l)
 |.mp g h l o=>k (.mp g h l o)
 |.bS t u g l c h=>k (.bS t u g l c h)
 |b=>k b
def My{α:Type}:bC->(bC->α)->α
 |[],k=>k []
 |(s,v)::r,k=>UB v λv=>My r λr=>k ((s,v)::r)
def xX{α:Type}(st:aP)(k:aP->α):α:=Mx st.L λL=>My st.H λH=>k ⟨L,H⟩
theorem aho(v:Value)(k:Value->α):Uz v k=k v:=by cases v<;>rfl
theorem Mz:∀(l:dY) (k:dY->α),GI l k=k l
 |[],_=>rfl
 |.id i::r,k=>Mz r _
 |.eC g x::r,k=>Mz r _
theorem UC(c:bs)(k:bs->α):Mv c k=k c:=by
 cases c with
 |val v=>exact aho v (λv=>k (.val v))
 |fn f ids=>exact Mz ids (λids=>k (.fn f ids))
 |_=>rfl
theorem MA:∀(l:dP) (k:dP->α),GJ l k=k l
 |[],_=>rfl
 |c::r,k=>(UC c _).trans (MA r _)
theorem MB(x:bn)(k:bn->α):GK x k=k x:=by
 cases x with
 |c c=>exact UC c (λc=>k (.c c))
 |agg cs=>exact MA cs (λcs=>k (.agg cs))
 |arr g l=>rfl
theorem UD:∀(l:dT) (k:dT->α),Mw l k=k l
 |[],_=>rfl
 |c::r,k=>(MB c _).trans (UD r _)
theorem ahp(v:b7)(k:b7->α):UA v k=k v:=by
 cases v with
 |a x=>exact MB x (λx=>k (.a x))
 |may g x=>exact MB x (λx=>k (.may g x))
 |cE xs=>exact UD xs (λxs=>k (.cE xs))
theorem UE:∀(l:cS) (k:cS->α),Mx l k=k l
 |[],_=>rfl
 |(s,v)::r,k=>(ahp v _).trans (UE r _)
theorem ahq(b:cz)(k:cz->α):UB b k=k b:=by
 cases b with
 |cells t cs=>exact MA cs (λcs=>k (.cells t cs))
 |_=>rfl
theorem UF:∀(l:bC) (k:bC->α),My l k=k l
 |[],_=>rfl
 |(s,v)::r,k=>(ahq v _).trans (UF r _)
theorem CT(st:aP)(k:aP->α):xX st k=k st:=(UE _ _).trans (UF _ _)
def b4{a aT:Type}(step:a->(a->Option aT)->Option aT):Nat->a->Option aT
 |0,_=>none
 |n+1,d=>step d (b4 step n)
abbrev ph(aT:Type):=Exit->bG->aP->Option aT
abbrev ur:={a:Type}->lW a->fQ->aP->ph a->Option a
def GL{aT:Type}(ct:lW aT)(cf:fQ)(a b:ur)(st:aP)(k:ph aT):Option aT:=match cf with
 |.j c x y=>(a none x st λe V st'=>match e with
  |.normal=>c.get st V st'
  |_=>none).bind λd=>b ct y (c.S st d) λe V s=>k e (V++c.ids) s
 |.CS c x y=>(a none x st λe V st'=>match e with
  |.normal=>match c.get st V st' with
   |some d=>some (.inl d)
   |none=>none
  |e=>match k e V st' with
   |some r=>some (.inr r)
   |none=>none).bind λ(o:c.D⊕aT)=>sm o (λd=>b ct y (c.S st d) λe V s=>k e (V++c.ids) s) (λr=>some r)
 |cf=>a ct cf.fst st λe V st'=>match e with
  |.normal=>b ct cf.snd st' λe V2 s=>k e (V2++V) s
  |e=>k e V st'
def CU:bG->bG->Bool
 |[],_=>true
 |k::r,l=>match fs k l with
  |true=>CU r l
  |false=>false
def Am(a b:eo):Bool:=match CU b.tT a.tT,CU b.ll a.ll,CV b.tT (ep a.L),CV b.ll (ep a.H)with
 |true,true,true,true=>true
 |_,_,_,_=>false
where CV:bG->bG->Bool
 |[],_=>true
 |k::r,l=>match fs k l with
  |true=>false
  |false=>CV r l
def q4{a aT:Type}(o:Option a)(f:a->Option aT):Option aT:=match o with
 |some d=>f d
 |none=>none
theorem sR{a:Type}{o:Option a}{f:a->Option aT}{r:aT}(h:q4 o f=some r):∃d,o=some d/\f d=some r:=by
 unfold q4 at h
 split at h
 ·grind
 grind
def GM{aT:Type}(N:Nat)(ct:lW aT)(f:fQ)(a:ur)(st:aP)(k:ph aT):Option aT:=match f with
 |.l b x=>q4 (b.get st [] st) (b4 (λd rec=>a ct x (b.S st d) λe V st'=>match e with
  |.normal=>q4 (b.get st V st') rec
  |e=>k e (V++b.ids) st') N)
 |.eB id b c x=>(q4 (b.get st [] st) (b4 (λd rec=>a none x (b.S st d) λe V st'=>match e with
  |.normal=>q4 (b.get st V st') rec
  |.exit i=>match beq i id,Am b c with
   |true,true=>c.get st V st'
   |_,_=>none
  |_=>none) N)).bind λd=>k (.exit id) c.ids (c.S st d)
 |.ff id b c x=>(q4 (b.get st [] st) (b4 (λd rec=>a none x (b.S st d) λe V st'=>match e with
  |.normal=>q4 (b.get st V st') rec
  |.exit i=>match beq i id,Am b c with
   |true,true=>match c.get st V st' with
    |some d=>some (.inl d)
    |none=>none
   |false,_=>match k (.exit i) (V++b.ids) st' with
    |some r=>some (.inr r)
    |none=>none
   |_,_=>none
  |e=>match k e (V++b.ids) st' with
   |some r=>some (.inr r)
   |none=>none) N)).bind λ(o:c.D⊕aT)=>sm o (λd=>k (.exit id) c.ids (c.S st d)) (λr=>some r)
 |_=>none
structure l2(X:bx) where
 f:FuncId
 fn:Func
 C:List vl
 G:List (Nat×fD)
 E:er
 m:dn (sF C (ot G []))->Option (List (dn (j6 E [])))
 aF:X.P.funcs[f]?=some fn
 bc : (fn.name == "runtime.NumGoroutine") = false
 ag:fn.body.isNone=false
 ok:∀d l,m d=some l->xV X f (nO C d).1 (kt G (nO C d).2).1 l (λx=>(iH E x).1)
def ky{α a aT:Type}(step:α->a->(a->Option aT)->Option aT):List α->a->(a->Option aT)->Option aT
 |[],d,k=>k d
 |x::l,d,k=>step x d λb=>ky step l b k
def vH:bG->bC->Option (bC×bC)
 |[],H=>some ([],H)
 |i::is,H=>match bh H i with
  |some b=>match vH is (nF i H)with
   |some (h,H')=>some ((i,b)::h,H')
   |none=>none
  |none=>none
def xY{X:bx}{aT:Type}(f:FuncId)(gH:dY)(H:bC)(K:(E:er)->bG->bC->List (dn (j6 E []))->Option aT):List (l2 X)->Option aT
 |[]=>none
 |e::r=>match beq e.f f,vH (ep e.G) H with
  |true,some (h,H')=>match xk (T:=[]) e.G h ()with
   |some t=>match vm (T:=ot e.G []) e.C gH t with
    |some d=>(e.m d).bind λl=>K e.E (ep e.G) H' l
    |none=>xY f gH H K r
   |none=>xY f gH H K r
  |_,_=>xY f gH H K r
def eW:List (Nat×Nat)->aP->aP
 |[],st=>st
 |p::l,st=>eW l ⟨gg (km p.1 p.2) st.L,pV (km p.1 p.2) st.H⟩
def mD:List (Nat×Nat)->bG
 |[]=>[]
 |p::l=>mD l++[p.2,p.1]
def GN:List (Nat×Nat)->Bool
 |[]=>true
 |p::l=>match blt p.2 lJ with
  |true=>GN l
  |false=>false
def CW(n:Nat):Code->Option (List (Nat×Nat))
 |.region _ ⟨ops⟩ false=>zq n ops
 |.skip=>some []
 |.seq a b=>match CW n a,CW n b with
  |some x,some y=>some (x++y)
  |_,_=>none
 |_=>none
def ahr(a:eo):Bool:=match a.L,a.tT with
 |[],[]=>true
 |_,_=>false
def CX{aT:Type}(n:Nat)(b:eo)(ms:List (Nat×Nat))(pl cZ:bG)(E:er)(st:aP)(ct:lW aT)(a:ur)(x:fQ)(k:ph aT)(e:dn (j6 E []))(y:b.D)(c:b.D->Option aT):Option aT:=
 a ct x ⟨tH ms (vf pl (iH E e).1 (gg (hv n) st.L)),(b.S st y).H⟩ λe V s=>match e with
  |.normal=>q4 (b.get st V s) c
  |.ret=>k .ret ((V++b.ids)++cZ) ⟨gg (hv n) st.L,s.H⟩
  |.exit i=>k (.exit i) ((V++b.ids)++cZ) ⟨gg (hv n) st.L,s.H⟩
  |_=>none
def stepG{aT:Type}(n:Nat)(c:eo)(pl cZ:bG)(E:er)(st:aP)(b a:ur)(x:fQ)(k:ph aT)(e:dn (j6 E []))(y:c.D)(f:c.D->Option aT):Option aT:=
 b none .d ⟨vf pl (iH E e).1 (gg (hv n) st.L),(c.S st y).H⟩ λg d h=>match g with
  |.normal=>a none x h λe V s=>match e with
   |.normal=>q4 (c.get st (V++d) s) f
   |.ret=>k .ret (((V++d)++c.ids)++cZ) ⟨gg (hv n) st.L,s.H⟩
   |.exit i=>k (.exit i) (((V++d)++c.ids)++cZ) ⟨gg (hv n) st.L,s.H⟩
   |_=>none
  |_=>none
def CY{aT:Type}(X:bx)(n:Nat)(bI:List (l2 X))(m:Bool)(g:Operand)(pl:bG)(j:Code)(ct:lW aT)(b a:ur)(i:fQ)(st0:aP)(k:ph aT):Option aT:=match i with
 |.p1 cZ d x=>match m,GN cZ,ahr d,ble n h1 with
  |true,true,true,true=>match bu X (eW cZ st0).L g,CW n j with
   |some (c,.c (.fn f gH)),some ms=>ar c (xY f gH (eW cZ st0).H (λE gs e l=>match beq E.length pl.length,nL n pl,nL n (ms.map (·.1))with
    |true,true,true=>q4 (d.get ⟨(eW cZ st0).L,e⟩ [] ⟨(eW cZ st0).L,e⟩) λh=>ky (CX n d ms pl (gs++mD cZ) E ⟨(eW cZ st0).L,e⟩ ct a x k) l h λy=>k .normal (d.ids++(gs++mD cZ)) ⟨gg (hv n) (eW cZ st0).L,(d.S ⟨(eW cZ st0).L,e⟩ y).H⟩
    |_,_,_=>none) bI)
   |some (c,.c (.fn f gH)),none=>match ct with
    |none=>ar c (xY f gH (eW cZ st0).H (λE gs e l=>match beq E.length pl.length,nL n pl with
     |true,true=>q4 (d.get ⟨(eW cZ st0).L,e⟩ [] ⟨(eW cZ st0).L,e⟩) λh=>ky (stepG n d pl (gs++mD cZ) E ⟨(eW cZ st0).L,e⟩ b a x k) l h λy=>k .normal (d.ids++(gs++mD cZ)) ⟨gg (hv n) (eW cZ st0).L,(d.S ⟨(eW cZ st0).L,e⟩ y).H⟩
     |_,_=>none) bI)
    |some _=>none
   |_,_=>none
  |_,_,_,_=>none
 |_=>none
def kb(X:bx)(N n:Nat)(T:List (bA X))(bI:List (l2 X)):Bool->Code->{aT:Type}->lW aT->fQ->aP->ph aT->Option aT
 |_,.skip,_,_,c,st,k=>pg n c.Ak [] st λV st'=>k .normal V st'
 |_,.exit id,_,_,c,st,k=>pg n c.Ak [] st λV st'=>k (.exit id) V st'
 |_,.ret,_,_,c,st,k=>pg n c.Ak [] st λV st'=>k .ret V st'
 |_,.label _,_,_,_,st,k=>k .normal [] st
 |_,.region _ ops true,_,_,c,st,k=>xX st λst=>pg n c.pre [] st λf st=>xX st λst=>match beq ops.toList.length (nj c.p7.2.1)with
  |true=>sO X n T ops.toList c.p7.1 c.p7.2.1 ⟨Array.replicate (nj c.p7.2.1) false,true,true,true,c.Uy⟩ [] f [] st λV st'=>pg n c.p7.2.2 V st' λV st'=>k .normal V st'
  |false=>none
 |_,.region _ ops false,_,ct,c,st,k=>xX st λst=>lq X n T ct (ey ops.toList) c.ins ops.toList [] [] [] st λV st'=>k .normal V st'
 |m,.seq a b,_,ct,c,st,k=>GL ct c (λct c st k=>kb X N n T bI m a ct c st k) (λct c st k=>kb X N n T bI m b ct c st k) st k
 |m,.cond x a b,_,ct,c,st,k=>match bu X st.L x with
  |some (g,.c (.val (.bool q)))=>ar g (cond q (kb X N n T bI m a ct c.fst st k) (kb X N n T bI m b ct c.snd st k))
  |_=>none
 |m,.block id a,_,ct,c,st,k=>kb X N n T bI m a ct c.fst st λe V st'=>match e with
  |.exit i=>match beq i id with
   |true=>k .normal V st'
   |false=>k (.exit i) V st'
  |e=>k e V st'
 |m,.scope a,_,ct,c,st,k=>kb X N n T bI m a ct c.fst st λe V st'=>match e with
  |.goto _=>none
  |e=>k e V st'
 |m,.loop a,_,ct,c,st,k=>xX st λst=>GM N ct c (λct c st k=>kb X N n T bI m a ct c st k) st k
 |m,.rangeFunc g ps d body,_,ct,c,st,k=>xX st λst=>CY X n bI m g ps.toList d ct (λct c st k=>kb X N n T bI false d ct c st k) (λct c st k=>kb X N n T bI false body ct c st k) c st k
 |_,_,_,_,_,_,_=>none
section
variable {X:bx} {M:Bool} {N n:Nat} {rr:Option Nat} {T:List (bA X)} {bI:List (l2 X)}
def oC(X:bx)(M:Bool)(n:Nat){aT:Type}(st:aP)(k:ph aT):Exit->aP->aT->Prop:=λe s r=>∃V a,hA X M n s a/\di V st a/\k e V a=some r
def An{aT:Type}(Γ:hl X M n rr aT)(ct:lW aT):Prop:=∀(ops:List Oper) (Q:Exit->Act->World->Prop),TJ X n ops ct (λl r st=>∀a w,Γ.In r st a w->tn rr X.P ops.toArray Q l a w)
def ahs{aT:Type}(Γ:hl X M n rr aT)(ct:lW aT):Prop:=M=true->rr=none->∃F:(id:Nat)->hl X false n (some id) aT->Prop,(∀id p8,F id p8->An p8 ct) /\
 ∀ {α β:Type} {st:aP} {Q:Exit->aP->aT->Prop} {g:Operand} {pl:bG} {assign body:Code} {gf:FuncId} {fn:Func} {gH:dY} {mA:α->dT} {l:List α} {b:Bool} {ms:List (Nat×Nat)} {an e9:bC} {eG:aT},
  bu X st.L g = some (b, .c (.fn gf gH)) → b = true → X.P.funcs[gf]? = some fn → (fn.name == "runtime.NumGoroutine") = false → fn.body.isNone = false → xV X gf gH an l mA → (∀ x, (mA x).length = pl.length) → nL n pl = true → mY n assign ms → nL n (ms.map (·.1)) = true → ble n h1 = true →
  ∀(gX:β->bC) (bP:List α->β->aT->Prop) (mC:Exit->bC->aT->Prop) (iv:β),bP l iv eG->st.H=an++e9->(∀ {env:Nat->Loc} {B:Nat->Prop} {w:World} {H:cW},bE env B w e9 H->∃H' Y,H.Perm (H'++Y)/\bE env B w (gX iv) H') ->
  (∀id x rest y r (p8:hl X false n (some id) aT),F id p8->bP (x::rest) y r->iJ p8 body r ⟨tH ms (vf pl (mA x) (gg (hv n) st.L)),gX y⟩ (λe s cH=>(e=.normal/\∃oz,bP rest oz cH/\∃dJ,hA X false n s ⟨dJ,gX oz⟩)\/(e≠.normal/\Fu e=true/\∃aW,mC e aW cH/\∃dJ,hA X false n s ⟨dJ,aW⟩))) ->
  (∀y r,bP [] y r->Q .normal ⟨gg (hv n) st.L,gX y⟩ r)->(∀e aW r,mC e aW r->Q e ⟨gg (hv n) st.L,aW⟩ r)->iJ Γ (.rangeFunc g pl.toArray assign body) eG st Q
def oD{aT:Type}(Γ:hl X M n rr aT)(ct:lW aT):Prop:=An Γ ct/\ahs Γ ct
theorem An.inner{id:Nat}{Γ:hl X false n (some id) aT}{ct:lW aT}(h:An Γ ct):oD Γ ct:=⟨h,λh=>by cases h⟩
theorem oD.none{Γ:hl X M n rr aT}:oD Γ none:=⟨λ_ _ _ h=>(by cases h),λj c=>by
 subst j c;refine⟨λid C=>∃R W aC a,C=hl.GF R W aC a,λ_ _ _ _ _ _ h=>(by cases h),?_⟩;intro α β st Q g pl assign body gf fn gH I l b ms an H a f ag m F B q t p D w bc o bP v u d cY k E z A;exact l0 (xW (ahg (Q:=λe s=>Q e s a) f ag m F B q t p D w bc o (λl y=>bP l y a) (λe h=>v e h a) u d cY k (λid x rest y aA=>GH (r:=a) λR W aC=>E id x rest y a _ ⟨R,W,aC,a,rfl⟩ aA) (λy aA=>z y a aA) (λe i h=>A e i a h))) λe s G ⟨J,U⟩=>by rw[U];exact J⟩
def Ao(X:bx)(M:Bool)(n:Nat)(rr:Option Nat)(c:Code)(f:ur):Prop:=
 ∀(aT:Type) (Γ:hl X M n rr aT) (ct:lW aT),oD Γ ct->∀(a:fQ) (st:aP) (k:ph aT) (r:aT),f ct a st k=some r->iJ Γ c r st (oC X M n st k)
theorem aht{Γ:hl X M n rr aT}{ct:lW aT}(aA:oD Γ ct){fp cC:Code}{a b:ur}(bl:Ao X M n rr fp a)(ag:Ao X M n rr cC b){z:fQ}{k:ph aT}{r:aT}(h:GL ct z a b st k=some r):iJ Γ (.seq fp cC) r st (oC X M n st k):=by
 unfold GL at h
 split at h
 ·rename_i g x y
  obtain⟨d,J,U⟩:=cx h;refine Mt (l0 (GG (d0:=d) (bl _ (Γ.const r d) none oD.none _ _ _ _ J)) λe s v ⟨t,V,p,hw,f,c⟩=>?_);subst t;cases e with
  |normal=>exact Aj (hw.trans (eo.jv (kZ.self g st) f c).m) (l0 (ag _ Γ ct aA _ _ _ _ U) λe s u ⟨V2,l,j,m,i⟩=>⟨_,l,j,(eo.ks g st d).trans m,i⟩)
  |_=>cases c
 ·rename_i g x y
  obtain⟨o,J,U⟩:=cx h;refine Mt (l0 (GG (d0:=o) (bl _ (Γ.const r o) none oD.none _ _ _ _ J)) λe s v ⟨t,V,p,hw,f,c⟩=>?_);subst t;cases e with
  |normal=>
   simp only at c
   split at c
   ·rename_i d az
    cases c;exact Aj (hw.trans (eo.jv (kZ.self g st) f az).m) (l0 (ag _ Γ ct aA _ _ _ _ U) λe s u ⟨V2,l,j,m,i⟩=>⟨_,l,j,(eo.ks g st d).trans m,i⟩)
   grind
  |_=>
   simp only at c
   split at c
   ·rename_i q w
    cases c;cases U;exact⟨V,p,hw,f,w⟩
   grind
 ·refine Mt (l0 (bl _ Γ ct aA _ _ _ _ h) λe s v ⟨V,p,hw,f,c⟩=>?_)
  cases e with
  |normal=>exact Aj hw (l0 (ag _ Γ ct aA _ _ _ _ c) λe s u ⟨V2,l,j,m,i⟩=>⟨_,l,j,f.trans m,i⟩)
  |_=>exact⟨V,p,hw,f,c⟩
theorem MD{q:Nat}{l:bG}:∀ {ks:bG},CU ks l=true->q∈ks->fs q l=true
 |[],_,h=>by cases h
 |k::r,h,hm=>by
  unfold CU at h
  split at h
  ·rename_i J
   rcases List.mem_cons.1 hm with rfl|hm
   ·grind
   ·exact MD h hm
  grind
theorem ME{q:Nat}{l:bG}:∀ {ks:bG},Am.CV ks l=true->q∈ks->fs q l=false
 |[],_,h=>by cases h
 |k::r,h,hm=>by
  unfold Am.CV at h
  split at h
  ·grind
  ·rename_i J
   rcases List.mem_cons.1 hm with rfl|hm
   ·grind
   ·exact ME h hm
theorem MF{q:Nat}:∀ {l:bG},fs q l=true->q∈l
 |[],h=>by cases h
 |k::r,h=>by
  unfold fs at h
  split at h
  ·grind [eq_of_beq_eq_true,List.mem_cons_self]
  ·exact mem_cons_of_mem _ (MF h)
theorem GQ{p:Nat×b7}:∀ {ks:bG} {L:cS},p∈lr ks L->p.1∈ks
 |[],_,h=>by cases h
 |k::r,L,h=>by
  unfold lr at h
  split at h
  ·split at h
   ·rcases List.mem_cons.1 h with rfl|h
    ·grind
    ·exact mem_cons_of_mem _ (GQ h)
   ·exact mem_cons_of_mem _ (GQ h)
  ·exact mem_cons_of_mem _ (GQ h)
theorem GR{p:Nat×cz}:∀ {ks:bG} {L:bC},p∈gZ ks L->p.1∈ks
 |[],_,h=>by cases h
 |k::r,L,h=>by
  unfold gZ at h
  split at h
  ·split at h
   ·rcases List.mem_cons.1 h with rfl|h
    ·grind
    ·exact mem_cons_of_mem _ (GR h)
   ·exact mem_cons_of_mem _ (GR h)
  ·exact mem_cons_of_mem _ (GR h)
theorem UG{q:Nat}{v:b7}:∀ {ks:bG} {L:cS},q∈ks->bh L q=some v->v.free=true->(q,v)∈lr ks L
 |[],_,h,_,_=>by cases h
 |k::r,L,h,ao,aF=>by
  unfold lr
  rcases List.mem_cons.1 h with rfl|h
  ·grind
  ·have:=UG h ao aF
   split
   ·grind
   grind
theorem UH{q:Nat}{v:cz}:∀ {ks:bG} {L:bC},q∈ks->bh L q=some v->v.free=true->(q,v)∈gZ ks L
 |[],_,h,_,_=>by cases h
 |k::r,L,h,ao,aF=>by
  unfold gZ
  rcases List.mem_cons.1 h with rfl|h
  ·grind
  ·have:=UH h ao aF
   split
   ·grind
   grind
theorem kZ.out{a e:eo}(ak:Am a e=true)(st:aP)(d:a.D):kZ e st (a.S st d):=by
 unfold Am at ak
 split at ak
 ·rename_i J U ah f
  refine⟨λp an _=>?_,λp an _=>?_⟩
  ·have ab:=GQ an
   obtain⟨b,c⟩:=xH an;exact(kZ.step a st d).1 p (UG (MF (MD J ab)) b c) (ME ah ab)
  ·have ab:=GR an
   obtain⟨b,c⟩:=q0 an;exact(kZ.step a st d).2 p (UH (MF (MD U ab)) b c) (ME f ab)
 grind
theorem ahu{Γ:hl X M n rr aT}{ct:lW aT}(aA:oD Γ ct){c:Code}{a:ur}(bl:Ao X M n rr c a){E:fQ}{k:ph aT}{r:aT}(h:GM N ct E a st k=some r):iJ Γ (.loop c) r st (oC X M n st k):=by
 unfold GM at h
 split at h
 ·rename_i f x
  obtain⟨d,J,U⟩:=sR h;refine Mu (λ(y:Nat×f.D)=>f.S st y.2) (λy r=>b4 _ y.1 y.2=some r) (λy=>y.1) (N,d) U (eo.jv (kZ.self f st) (di.refl (V:=[]) st) J).m λy r g=>?_
  obtain⟨m,d2⟩:=y;cases m with
  |zero=>cases g
  |succ m=>
   refine l0 (bl _ Γ ct aA _ _ _ _ g) λe s l ⟨V,u,hw,j,b⟩=>?_
   cases e with
   |normal=>
    obtain⟨t,ah,p⟩:=sR b;exact⟨(m,t),p,Nat.lt_succ_self _,hw.trans (eo.jv (kZ.step f st d2) j ah).m⟩
   |_=>exact⟨_,u,hw,(eo.ks f st d2).trans j,b⟩
 ·rename_i id f w x
  obtain⟨o,h,v⟩:=cx h;obtain⟨d,J,U⟩:=sR h;refine Mu (λ(y:Nat×f.D)=>f.S st y.2) (λy l=>b4 _ y.1 y.2=some o/\l=r) (λy=>y.1) (N,d) ⟨U,rfl⟩ (eo.jv (kZ.self f st) (di.refl (V:=[]) st) J).m λy l g=>?_
  obtain⟨m,d2⟩:=y;obtain⟨g,rfl⟩:=g;cases m with
  |zero=>cases g
  |succ m=>
   refine l0 (GG (d0:=o) (bl _ (Γ.const l o) none oD.none _ _ _ _ g)) λe s B ⟨z,V,u,hw,j,b⟩=>?_
   subst z;cases e with
   |normal=>
    obtain⟨t,ah,p⟩:=sR b;exact⟨(m,t),⟨p,rfl⟩,Nat.lt_succ_self _,hw.trans (eo.jv (kZ.step f st d2) j ah).m⟩
   |exit i=>
    simp only at b
    split at b
    ·rename_i hi ak
     have:=eq_of_beq_eq_true hi
     subst this;exact⟨_,_,hw.trans (eo.jv (kZ.out ak st d2) j b).m,eo.ks w st o,v⟩
    grind
   |_=>cases b
 ·rename_i id f w x
  obtain⟨o,h,v⟩:=cx h;obtain⟨d,J,U⟩:=sR h;refine Mu (λ(y:Nat×f.D)=>f.S st y.2) (λy l=>b4 _ y.1 y.2=some o/\l=r) (λy=>y.1) (N,d) ⟨U,rfl⟩ (eo.jv (kZ.self f st) (di.refl (V:=[]) st) J).m λy l g=>?_
  obtain⟨m,d2⟩:=y;obtain⟨g,rfl⟩:=g;cases m with
  |zero=>cases g
  |succ m=>
   refine l0 (GG (d0:=o) (bl _ (Γ.const l o) none oD.none _ _ _ _ g)) λe s B ⟨z,V,u,hw,j,b⟩=>?_
   subst z;have key:∀A,(match k A (V++f.ids) u with
     |some r=>some (Sum.inr r)
     |none=>(none:Option (w.D⊕aT)))=some o->oC X M n st k A s B:=λA b=>by
    split at b
    ·rename_i q D
     cases b;cases v;exact⟨_,u,hw,(eo.ks f st d2).trans j,D⟩
    ·grind
   cases e with
   |normal=>
    obtain⟨t,ah,p⟩:=sR b;exact⟨(m,t),⟨p,rfl⟩,Nat.lt_succ_self _,hw.trans (eo.jv (kZ.step f st d2) j ah).m⟩
   |exit i=>
    simp only at b
    split at b
    ·rename_i hi ak
     have:=eq_of_beq_eq_true hi
     subst this
     split at b
     ·rename_i F C
      cases b;exact⟨_,_,hw.trans (eo.jv (kZ.out ak st d2) j C).m,eo.ks w st F,v⟩
     grind
    ·exact key _ b
    grind
   |_=>exact key _ b
 ·grind
theorem hA.cZ{i j:Nat}(d:blt j lJ=true):hA X true n st ⟨gg (km i j) st.L,pV (km i j) st.H⟩:=by
 rintro R W aC a w ⟨ks,env,B,ai,H,b,ae⟩;obtain⟨H',J,U⟩:=bE.db (Ft (i:=i) (j:=j)) ae.heap;refine⟨ks,lL env j (env i),B,ai,H',b,ae.size,ae.defs,λs sv e=>?_,U,ae.aQ.fb (J.append_right _),ae.sub,ae.new,wX ae.dB (λq an=>by have J:=b.2 rfl _ _ an;have U:=dH d;omega),ae.base,ae.eg⟩;obtain⟨u,ah,rfl⟩:=xb e;obtain⟨v,f,c⟩:=ae.has s u ah;exact⟨v,f,eI.db Ft c⟩
theorem MH:∀ {l:List (Nat×Nat)} {st:aP},GN l=true->hA X true n st (eW l st)
 |[],st,_=>hA.refl st
 |p::l,st,h=>by
  unfold GN at h
  split at h
  ·rename_i J
   exact(hA.cZ J).trans (MH h)
  grind
theorem MI:∀ {c:Code} {ms:List (Nat×Nat)},CW n c=some ms->mY n c ms
 |.region _ ⟨ops⟩ false,_,h=>mY.region h
 |.skip,_,h=>by cases h;exact mY.skip
 |.seq a b,ms,h=>by
  unfold CW at h
  split at h
  ·rename_i x y J U
   cases h;exact mY.seq (MI J) (MI U)
  grind
theorem GS:∀ {A:er} {T:List Type} (d:dn (j6 A T)),(iH A d).1.length=A.length
 |[],_,_=>rfl
 |x::A,T,d=>by
  unfold iH;rw[length_cons,length_cons,GS]
theorem UI:∀ {cs:dY},tG cs=true->sz bP cs=some cs
 |[],_=>rfl
 |.id _::_,h=>by cases h
 |.eC g x::cs,h=>by
  unfold sz;rw[UI (cs:=cs) h]
theorem UJ{c:bs}(h:c.free=true):c.db bP=c:=by
 cases c with
 |fn f cs=>simp only[bs.db];rw[UI h]
 |_=>first|rfl|cases h
theorem MJ:∀ {cs:dP},tX cs=true->ve bP cs=cs
 |[],_=>rfl
 |c::r,h=>by
  unfold tX at h
  split at h
  ·rename_i e
   show c.db bP::ve bP r=_;rw[UJ e,MJ h]
  grind
theorem MK{x:bn}(h:x.free=true):x.db bP=x:=by
 cases x with
 |c x=>simp only[bn.db];rw[UJ h]
 |agg cs=>simp only[bn.db];rw[MJ h]
 |arr g l=>rfl
theorem UK:∀ {xs:dT},nb xs=true->xa bP xs=xs
 |[],_=>rfl
 |c::r,h=>by
  unfold nb at h
  split at h
  ·rename_i e
   show c.db bP::xa bP r=_;rw[MK e,UK h]
  grind
theorem ahv{v:b7}(h:v.free=true):v.db bP=v:=by
 cases v with
 |a x=>simp only[b7.db];rw[MK h]
 |may g x=>simp only[b7.db];rw[MK h]
 |cE xs=>simp only[b7.db];rw[UK h]
theorem ahw{b:cz}(h:b.free=true):b.db bP=b:=by
 cases b with
 |cells t cs=>simp only[cz.db];rw[MJ h]
 |bS T T' g l c q=>rcases q with _|⟨i,_|d⟩<;>first|rfl|cases h
 |_=>first|rfl|cases h
theorem ML(bP:iu)(L:cS){V:bG}:zK V L (gg bP L):=cy.map (f:=λv=>v.db bP) (λ_ h=>ahv h) λ_ _ h=>xb h
theorem UL(i j:Nat):∀H:bC,nc [j,i] H (pV (km i j) H)
 |[]=>cy.refl []
 |(k,b)::r=>λq v a ao=>by
  obtain⟨J,U⟩:=gY a;obtain⟨U,_⟩:=gY U;have c:=UL i j r q v a
  grind [pV,cO,km,beq,eq_of_beq_eq_true,ahw]
theorem MM:∀(l:List (Nat×Nat)) (st:aP),di (mD l) st (eW l st)
 |[],st=>di.refl st
 |p::l,st=>by
  have J:di [p.2,p.1] st ⟨gg (km p.1 p.2) st.L,pV (km p.1 p.2) st.H⟩:=⟨ML _ _,UL _ _ _⟩
  exact J.trans (MM l _)
theorem eo.UM{X:bx}{n:Nat}{b:eo}{st':aP}{f:bC}{V:bG}{d:b.D}(hw:∀p∈gZ b.ll st.H,fs p.1 (ep b.H)=false->bh f p.1=some p.2)(m:nc V f st'.H)(h:b.get st V st'=some d):cj X n st' ⟨st'.L,(b.S st d).H⟩:=by
 unfold eo.get at h
 split at h
 ·rename_i G r C
  split at h
  ·rename_i f j
   split at h
   ·rename_i u k
    split at h
    ·rename_i D q
     cases h;obtain⟨J,U⟩:=xl k;obtain⟨ah,F⟩:=FL q;have E:∀p∈gZ b.ll st.H,bh st'.H p.1=some p.2:=λp an=>by
      obtain⟨s,g2,v,g⟩:=Cx r an;obtain⟨u,i,t⟩:=m p.1 v s g;rw[hw p an g2]at i;cases i;rw[g,t (q0 an).2]
     rintro R W aC M a w ⟨ks,env,B,ai,H,o,ae⟩;have y:mi st'.H (f++gZ b.ll st.H):=Gl (zb j) E (by rw[Cy j];exact C);obtain⟨H',c⟩:=ae.fb (st':=⟨[],f++gZ b.ll st.H⟩) .nil y;refine⟨ks,env,B,ai,H',o,c.size,c.defs,ae.has,?_,c.aQ,c.sub,c.new,c.dB,c.base,c.eg⟩;show bE env B ai ((kt b.H (o9 b.L (oq b.T (rK b.T D))).2).1++gZ b.ll st.H) H';rw[xi,ah];obtain⟨H1,H2,e,A,z⟩:=eo.jv.bE.split (l:=f) c.heap;rw[e];exact(U _ _ _ _ A).append z
    grind
   ·grind
  ·grind
 ·grind
theorem UN{B:Nat->Prop}:∀ {is:bG} {H h H':bC} {C:cW},vH is H=some (h,H')->bE env B w H C->∃a,C.Perm a/\bE env B w (h++H') a
 |[],H,h,H',C,an,cA=>by cases an;exact⟨C,List.Perm.refl _,cA⟩
 |i::is,H,h,H',C,an,cA=>by
  unfold vH at an
  split at an
  ·rename_i b ag
   split at an
   ·rename_i J H1 e
    cases an;obtain⟨c,H2,d,f,g⟩:=cA.erase ag;obtain⟨a,k,j⟩:=UN e g;exact⟨c::a,f.trans (List.Perm.cons _ k),⟨c,a,rfl,d,j⟩⟩
   grind
  grind
theorem MN:∀ {is:bG} {H h H':bC},vH is H=some (h,H')->nc is H H'
 |[],H,h,H',an=>by cases an;exact cy.refl _
 |i::is,H,h,H',an=>by
  unfold vH at an
  split at an
  ·split at an
   ·rename_i J H1 e
    cases an;exact((LI (id:=i) H).trans (MN e)).more λq a=>by
     obtain⟨J,U⟩:=gY a;exact sH.2 ⟨U,xA.2 ⟨J,rfl⟩⟩
   grind
  grind
theorem UO{is:bG}{h H':bC}(he:vH is st.H=some (h,H')):cj X n st ⟨st.L,h++H'⟩:=λ_ _ _ _ _ _ ⟨ks,env,B,ai,H,b,ae⟩=>by
 obtain⟨d,a,c⟩:=UN he ae.heap;exact⟨ks,env,B,ai,d,b,ae.size,ae.defs,ae.has,c,ae.aQ.perm (a.append_right _),ae.sub,ae.new,ae.dB,ae.base,ae.eg⟩
theorem C0{f:FuncId}{gH:dY}{H:bC}{K:(E:er)->bG->bC->List (dn (j6 E []))->Option aT}{r:aT}:∀ {bI:List (l2 X)},xY f gH H K bI=some r->∃e:l2 X,e.f=f/\∃h H' an l,vH (ep e.G) H=some (h,H')/\(∀env B w C,bE env B w h C->bE env B w an C)/\xV X f gH an l (λx=>(iH e.E x).1)/\K e.E (ep e.G) H' l=some r
 |[],h=>by cases h
 |e::bI,h=>by
  unfold xY at h
  split at h
  ·rename_i b H' aF a
   split at h
   ·rename_i t bj
    split at h
    ·rename_i d az
     obtain⟨l,J,U⟩:=cx h;have c:=eq_of_beq_eq_true aF;have aa:=FH az
     have:=e.ok d l J
     grind [xl]
    ·exact C0 h
   ·exact C0 h
  ·exact C0 h
theorem eo.UP{b:eo}{L:cS}{a:bC}{d:b.D}(h:b.get ⟨L,a⟩ [] ⟨L,a⟩=some d){B:Nat->Prop}{H:cW}(j:bE env B w a H):∃H' Y,H.Perm (H'++Y)/\bE env B w (b.S ⟨L,a⟩ d).H H':=by
 have hw:∀p∈gZ b.ll a,fs p.1 (ep b.H)=false->bh a p.1=some p.2:=λp an _=>(q0 an).1
 have v:nc [] a a:=cy.refl _;unfold eo.get at h
 split at h
 ·rename_i C y r
  split at h
  ·rename_i J c
   split at h
   ·rename_i u f
    split at h
    ·rename_i s g
     cases h;obtain⟨z,g2⟩:=xl f;obtain⟨m,A⟩:=FL g;have t:∀p∈gZ b.ll a,bh a p.1=some p.2:=λp an=>(q0 an).1
     have n:mi a (J++gZ b.ll a):=Gl (zb c) t (by rw[Cy c];exact r);obtain⟨H',Y,q,o⟩:=n.Kc j;refine⟨H',Y,q,?_⟩;show bE env B w ((kt b.H (o9 b.L (oq b.T (rK b.T s))).2).1++gZ b.ll a) H';rw[xi,m];obtain⟨H1,H2,e,i,k⟩:=bE.split (l:=J) o;rw[e];exact(g2 _ _ _ _ i).append k
    grind
   grind
  grind
 ·grind
theorem ahx(C:M=true)(ay:rr=none){Γ:hl X M n rr aT}{ct:lW aT}(aA:oD Γ ct){g:Operand}{pl:bG}{aq body:Code}{m:Bool}{b a:ur}(aK:∀id,Ao X false n (some id) aq b)(bl:∀id,Ao X false n (some id) body a){aG:fQ}{k:ph aT}{r:aT}(h:CY X n bI m g pl aq ct b a aG st k=some r):iJ Γ (.rangeFunc g pl.toArray aq body) r st (oC X M n st k):=by
 subst C;subst ay;obtain⟨F,aH,aE⟩:=aA.2 rfl rfl;unfold CY at h
 split at h
 ·rename_i cZ j x
  split at h
  ·rename_i au aQ bc
   split at h
   ·rename_i c f gH ms Z ax
    obtain⟨aa,h⟩:=e7 h;obtain⟨e,K,ac,d,an,l,I,L,ao,h⟩:=C0 h;dsimp only at h
    split at h
    ·rename_i ak am aL
     obtain⟨ap,N,ar⟩:=sR h;have O:=eq_of_beq_eq_true ak;subst K;have v:∀ {V:bG} {o:bC},nc V d o->di (V++(ep e.G++mD cZ)) st ⟨gg (hv n) (eW cZ st).L,o⟩:=λ{V o} ab=>(MM cZ st).trans (di.trans (b:=⟨(eW cZ st).L,d⟩) ⟨cy.refl _,MN I⟩ ⟨ML _ _,ab⟩) |>.more λq A=>by
      grind
     have P:cj X n (eW cZ st) ⟨(eW cZ st).L,an++d⟩:=λR W aC M a w Y=>by
      obtain⟨ks,env,B,ai,H,C,ae⟩:=UO (n:=n) I _ _ _ _ _ _ Y;obtain⟨H1,H2,al,ad,ag⟩:=bE.split (l:=ac) ae.heap;exact⟨ks,env,B,ai,H,C,ae.size,ae.defs,ae.has,by rw[al];exact(L _ _ _ _ ad).append ag,ae.aQ,ae.sub,ae.new,ae.dB,ae.base,ae.eg⟩
     refine Aj ((MH au).trans P.m) (aE (st:=⟨(eW cZ st).L,an++d⟩) (Q:=λe s z=>oC X true n st k e s z) Z aa e.aF e.bc e.ag ao (λx=>by rw[GS];exact O) am (MI ax) aL bc (λy=>(j.S ⟨(eW cZ st).L,d⟩ y).H) (λl y z=>ky (CX n j ms pl (ep e.G++mD cZ) e.E ⟨(eW cZ st).L,d⟩ ct a x k) l y (λy=>k .normal (j.ids++(ep e.G++mD cZ)) ⟨gg (hv n) (eW cZ st).L,(j.S ⟨(eW cZ st).L,d⟩ y).H⟩)=some z) (λe o z=>∃V,di V st ⟨gg (hv n) (eW cZ st).L,o⟩/\k e V ⟨gg (hv n) (eW cZ st).L,o⟩=some z) ap ar rfl (λaf=>eo.UP N af) ?_ ?_ ?_)
     ·intro id q rest y T aw aF A
      have G:CX n j ms pl (ep e.G++mD cZ) e.E ⟨(eW cZ st).L,d⟩ ct a x k q y (λaj=>ky (CX n j ms pl (ep e.G++mD cZ) e.E ⟨(eW cZ st).L,d⟩ ct a x k) rest aj (λy=>k .normal (j.ids++(ep e.G++mD cZ)) ⟨gg (hv n) (eW cZ st).L,(j.S ⟨(eW cZ st).L,d⟩ y).H⟩))=some T:=A;unfold CX at G;refine l0 (bl id _ aw ct (aH id aw aF).inner _ _ _ _ G) λD s aN ⟨V,t,hw,E,p⟩=>?_
      cases D with
      |normal=>
       obtain⟨d2,ah,u⟩:=sR p;exact .inl ⟨rfl,d2,u,_,hw.trans (eo.UM (kZ.step j ⟨(eW cZ st).L,d⟩ y).2 E.2 ah).m⟩
      |ret=>exact .inr ⟨(λh=>by cases h),rfl,t.H,⟨_,v ((eo.ks j ⟨(eW cZ st).L,d⟩ y).2.trans E.2),p⟩,t.L,hw⟩
      |exit i=>exact .inr ⟨(λh=>by cases h),rfl,t.H,⟨_,v ((eo.ks j ⟨(eW cZ st).L,d⟩ y).2.trans E.2),p⟩,t.L,hw⟩
      |_=>cases p
     ·intro y T aA
      exact⟨_,_,hA.refl _,v (eo.ks j ⟨(eW cZ st).L,d⟩ y).2,aA⟩
     ·rintro D o T ⟨V,ah,u⟩
      exact⟨V,_,hA.refl _,ah,u⟩
    ·grind
   ·rename_i c f gH Z ax
    split at h
    ·obtain⟨aa,h⟩:=e7 h
     obtain⟨e,K,ac,d,an,l,I,L,ao,h⟩:=C0 h;dsimp only at h
     split at h
     ·rename_i ak am
      obtain⟨ap,N,ar⟩:=sR h;have O:=eq_of_beq_eq_true ak;subst K;have v:∀ {V:bG} {o:bC},nc V d o->di (V++(ep e.G++mD cZ)) st ⟨gg (hv n) (eW cZ st).L,o⟩:=λ{V o} ab=>(MM cZ st).trans (di.trans (b:=⟨(eW cZ st).L,d⟩) ⟨cy.refl _,MN I⟩ ⟨ML _ _,ab⟩) |>.more λq A=>by
       grind
      have P:cj X n (eW cZ st) ⟨(eW cZ st).L,an++d⟩:=λR W aC M a w Y=>by
       obtain⟨ks,env,B,ai,H,C,ae⟩:=UO (n:=n) I _ _ _ _ _ _ Y;obtain⟨H1,H2,al,ad,ag⟩:=bE.split (l:=ac) ae.heap;exact⟨ks,env,B,ai,H,C,ae.size,ae.defs,ae.has,by rw[al];exact(L _ _ _ _ ad).append ag,ae.aQ,ae.sub,ae.new,ae.dB,ae.base,ae.eg⟩
      refine Aj ((MH au).trans P.m) (l0 (xW (Us (st:=⟨(eW cZ st).L,an++d⟩) (Q:=λe s=>oC X true n st k e s r) Z aa e.aF e.bc e.ag ao (λx=>by rw[GS];exact O) am bc (λy=>(j.S ⟨(eW cZ st).L,d⟩ y).H) (λl y=>ky (stepG n j pl (ep e.G++mD cZ) e.E ⟨(eW cZ st).L,d⟩ b a x k) l y (λy=>k .normal (j.ids++(ep e.G++mD cZ)) ⟨gg (hv n) (eW cZ st).L,(j.S ⟨(eW cZ st).L,d⟩ y).H⟩)=some r) (λe o=>∃V,di V st ⟨gg (hv n) (eW cZ st).L,o⟩/\k e V ⟨gg (hv n) (eW cZ st).L,o⟩=some r) ap ar rfl (λaf=>eo.UP N af) ?_ ?_ ?_)) λe s z ⟨J,U⟩=>by rw[U];exact J)
      ·intro id q rest y A
       have G:stepG n j pl (ep e.G++mD cZ) e.E ⟨(eW cZ st).L,d⟩ b a x k q y (λaj=>ky (stepG n j pl (ep e.G++mD cZ) e.E ⟨(eW cZ st).L,d⟩ b a x k) rest aj (λy=>k .normal (j.ids++(ep e.G++mD cZ)) ⟨gg (hv n) (eW cZ st).L,(j.S ⟨(eW cZ st).L,d⟩ y).H⟩))=some r:=A;unfold stepG at G;refine Kf (GH (r:=r) λR W aC=>aK id _ (hl.GF R W aC r) none oD.none _ _ _ _ G) λaB aR J=>?_
       obtain⟨aM,aO,aI,aD,av⟩:=J;cases aB with
       |normal=>
        refine⟨rfl,λR W aC az aJ U=>?_⟩;refine Kf (GH (r:=r) λR W aC=>bl id _ (hl.GF R W aC r) none oD.none _ _ _ _ av) (λD s U=>?_) R W aC az aJ (aI _ _ _ _ _ U);obtain⟨V,t,hw,E,p⟩:=U;have S:=aD.trans E;cases D with
        |normal=>
         obtain⟨d2,ah,u⟩:=sR p;exact .inl ⟨rfl,d2,u,_,hw.trans (eo.UM (kZ.step j ⟨(eW cZ st).L,d⟩ y).2 S.2 ah).m⟩
        |ret=>exact .inr ⟨(λh=>by cases h),rfl,t.H,⟨_,v ((eo.ks j ⟨(eW cZ st).L,d⟩ y).2.trans S.2),p⟩,t.L,hw⟩
        |exit i=>exact .inr ⟨(λh=>by cases h),rfl,t.H,⟨_,v ((eo.ks j ⟨(eW cZ st).L,d⟩ y).2.trans S.2),p⟩,t.L,hw⟩
        |_=>cases p
       |_=>cases av
      ·intro y aA
       exact⟨_,_,hA.refl _,v (eo.ks j ⟨(eW cZ st).L,d⟩ y).2,aA⟩
      ·rintro D o ⟨V,ah,u⟩
       exact⟨V,_,hA.refl _,ah,u⟩
     ·grind
    ·grind
   ·grind
  ·grind
 ·grind
theorem rV(y:X.a1.ok X.P)(z:X.P.follows .mixedOrders=true):∀(c:Code) (m M:Bool) (rr:Option Nat),(m=true->M=true/\rr=none)->Ao X M n rr c (λct d st k=>kb X N n T bI m c ct d st k)
 |.skip,m,M,rr,_=>λaT Γ ct aA d st k r h=>by
  obtain⟨V,p,hw,o,j⟩:=Al (X:=X) (di.refl (V:=[]) st) (show pg n d.Ak [] st (λV st'=>k .normal V st')=some r by cases m<;>exact h);exact l0 (xW (oc (Q:=λe s=>oC X M n st k e s r) ⟨V,p,hw.m,o,j⟩)) λe s u ⟨J,U⟩=>U ▸ J
 |.exit id,m,M,rr,_=>λaT Γ ct aA d st k r h=>by
  obtain⟨V,p,hw,o,j⟩:=Al (X:=X) (di.refl (V:=[]) st) (show pg n d.Ak [] st (λV st'=>k (.exit id) V st')=some r by cases m<;>exact h);exact l0 (xW (u3 (Q:=λe s=>oC X M n st k e s r) ⟨V,p,hw.m,o,j⟩)) λe s u ⟨J,U⟩=>U ▸ J
 |.ret,m,M,rr,_=>λaT Γ ct aA d st k r h=>by
  obtain⟨V,p,hw,o,j⟩:=Al (X:=X) (di.refl (V:=[]) st) (show pg n d.Ak [] st (λV st'=>k .ret V st')=some r by cases m<;>exact h);exact l0 (xW (od (Q:=λe s=>oC X M n st k e s r) ⟨V,p,hw.m,o,j⟩)) λe s u ⟨J,U⟩=>U ▸ J
 |.label l,m,M,rr,_=>λaT Γ ct aA d st k r h=>by
  exact l0 (xW (aei (Q:=λe s=>oC X M n st k e s r) ⟨[],st,hA.refl _,di.refl st,by cases m<;>exact h⟩)) λe s u ⟨J,U⟩=>U ▸ J
 |.region id ops false,m,M,rr,_=>λaT Γ ct aA d st k r h=>by
  have f:lq X n T ct (ey ops.toList) d.ins ops.toList [] [] [] st (λV st'=>k .normal V st')=some r:=by cases m<;>exact(CT st _).symm.trans h
  intro a w hi;have K:Gh X n ops.toList (λl r O=>∀a w,Γ.In r O a w->tn rr X.P ops.toList.toArray (λe a w=>∃s u,oC X M n st k e s u/\Γ.In u s a w) l a w):=⟨λj C a w hi=>nx (Γ.step j hi λa w h=>C a w h),λhw C a w hi=>C a w (Γ.fb hw.m hi)⟩
  have:=JD (id:=id) (vA (st0:=st) (T:=T) (is:=d.ins) (V:=[]) (A:=[]) y K (aA.1 _ _) eK.nil (di.refl (V:=[]) st) f (λV p u o j a w hi=>Jv ⟨p,u,⟨V,p,hA.refl _,o,j⟩,hi⟩) a w hi)
  exact this
 |.region id ops true,m,M,rr,_=>λaT Γ ct aA d st k r h=>by
  have f:pg n d.pre [] st (λE st=>xX st λst=>match beq ops.toList.length (nj d.p7.2.1)with
   |true=>sO X n T ops.toList d.p7.1 d.p7.2.1 ⟨Array.replicate (nj d.p7.2.1) false,true,true,true,d.Uy⟩ [] E [] st λV st'=>pg n d.p7.2.2 V st' λV st'=>k .normal V st'
   |false=>none)=some r:=by cases m<;>exact(CT st _).symm.trans h
  obtain⟨E,F,G,H,f⟩:=Al (X:=X) (di.refl (V:=[]) st) f;rw[CT]at f
  split at f
  ·rename_i e
   have ao:=eq_of_beq_eq_true e
   have:=Kw (X:=X) (M:=M) (n:=n) (st:=F) (Q:=λe s=>oC X M n st k e s r) (ops:=ops.toList) (id:=id) (r:=rr) d.p7.1 z ao (xO (t:=d.p7.2.1) y (k:=λV st'=>pg n d.p7.2.2 V st' λV st'=>k .normal V st') (λV st' o j=>by
    obtain⟨V2,P,hw,R,L⟩:=Al (X:=X) o j;exact⟨V2,P,hw.m,R,L⟩) eK.nil H f)
   exact Aj G.m (l0 (xW this) λe s u ⟨J,U⟩=>U ▸ J)
  grind
 |.seq a b,m,M,rr,v=>λaT Γ ct aA d st k r h=>aht aA (rV y z a m M rr v) (rV y z b m M rr v) (show GL ct d (λct d st k=>kb X N n T bI m a ct d st k) (λct d st k=>kb X N n T bI m b ct d st k) st k=some r by cases m<;>exact h)
 |.cond x a b,m,M,rr,v=>λaT Γ ct aA d st k r h=>by
  have f:(match bu X st.L x with
   |some (g,.c (.val (.bool q)))=>ar g (cond q (kb X N n T bI m a ct d.fst st k) (kb X N n T bI m b ct d.snd st k))
   |_=>none)=some r:=by cases m<;>exact h
  split at f
  ·rename_i g q ak
   obtain⟨I,f⟩:=e7 f;exact ahi ak I (λB=>rV y z a m M rr v _ Γ ct aA _ _ _ _ (mZ B f)) (λB=>rV y z b m M rr v _ Γ ct aA _ _ _ _ (o4 B f))
  grind
 |.block id a,m,M,rr,v=>λaT Γ ct aA d st k r h=>by
  have f:(kb X N n T bI m a ct d.fst st λe V st'=>match e with
   |.exit i=>match beq i id with
    |true=>k .normal V st'
    |false=>k (.exit i) V st'
   |e=>k e V st')=some r:=by cases m<;>exact h
  refine ahj (l0 (rV y z a m M rr v _ Γ ct aA _ _ _ _ f) λe s u ⟨V,p,hw,o,j⟩=>?_);cases e with
  |exit i=>
   show match beq i id with|true=>oC X M n st k .normal s u|false=>oC X M n st k (.exit i) s u
   simp only at j
   split at j
   ·exact⟨V,p,hw,o,j⟩
   ·exact⟨V,p,hw,o,j⟩
  |_=>exact⟨V,p,hw,o,j⟩
 |.scope a,m,M,rr,v=>λaT Γ ct aA d st k r h=>by
  have f:(kb X N n T bI m a ct d.fst st λe V st'=>match e with
   |.goto _=>none
   |e=>k e V st')=some r:=by cases m<;>exact h
  refine ahl (l0 (rV y z a m M rr v _ Γ ct aA _ _ _ _ f) λe s u ⟨V,p,hw,o,j⟩=>?_);cases e with
  |goto l=>cases j
  |_=>exact⟨V,p,hw,o,j⟩
 |.loop a,m,M,rr,v=>λaT Γ ct aA d st k r h=>ahu aA (rV y z a m M rr v) (show GM N ct d (λct d st k=>kb X N n T bI m a ct d st k) st k=some r by cases m<;>exact(CT st _).symm.trans h)
 |.rangeFunc g ps D body,m,M,rr,v=>λaT Γ ct aA d st k r h=>by
  have f:CY X n bI m g ps.toList D ct (λct d st k=>kb X N n T bI false D ct d st k) (λct d st k=>kb X N n T bI false body ct d st k) d st k=some r:=by cases m<;>exact(CT st _).symm.trans h
  cases m with
  |false=>
   unfold CY at f
   split at f
   ·cases f
   grind
  |true=>
   obtain⟨J,U⟩:=v rfl;exact ahx J U aA (λid=>rV y z D false false (some id) (λh=>by cases h)) (λid=>rV y z body false false (some id) (λh=>by cases h)) f
 |.goto _,m,_,_,_=>λ_ _ _ _ _ _ _ _ h=>by cases m<;>cases h
 |.refuse _,m,_,_,_=>λ_ _ _ _ _ _ _ _ h=>by cases m<;>cases h
structure l3 where
 R:mv
 H:List (Nat×fD):=[]
 k:bG:=[]
abbrev l3.ty(R:l3):Type:=B4 (R.R.LT (ot R.H []))
def l3.out(R:l3)(a:bC)(r:R.ty):b7×bC:=((R.R.S (oq _ r)).1,(kt R.H (R.R.S (oq _ r)).2).1++gZ R.k a)
def l3.get(R:l3)(a:bC)(V:bG)(H:bC)(sv:b7):Option R.ty:=
 match zZ V (ep R.H) H (gZ R.k a),rC (ep R.H++ep (gZ R.k a))with
 |true,true=>match u4 H (ep R.H)with
  |some h=>match xk (T:=[]) R.H h ()with
   |some u=>match R.R.get sv u with
    |some u=>some (rK _ u)
    |none=>none
   |none=>none
  |none=>none
 |_,_=>none
theorem l3.jv{R:l3}{st0:aP}{V:bG}{sv:b7}{r:R.ty}(j:di V st0 st)(h:R.get st0.H V st.H sv=some r):∃a,xj sv (R.out st0.H r).1/\mi st.H a/\∀env B w H,bE env B w a H->bE env B w (R.out st0.H r).2 H:=by
 unfold l3.get at h
 split at h
 ·rename_i m t
  split at h
  ·rename_i b f
   split at h
   ·rename_i u i
    split at h
    ·rename_i g k
     cases h;obtain⟨J,U⟩:=xl i;obtain⟨ah,z⟩:=mv.jv k;have y:∀p∈gZ R.k st0.H,bh st.H p.1=some p.2:=λp an=>by
      obtain⟨n,g2,v,c⟩:=Cx m an;obtain⟨u,d,o⟩:=j.2 p.1 v n c;rw[(q0 an).1]at d;cases d;rw[c,o (q0 an).2]
     refine⟨b++gZ R.k st0.H,?_,Gl (zb f) y (by rw[Cy f];exact t),λenv B w H a=>?_⟩
     ·show xj sv (R.R.S (oq _ (rK _ g))).1
      grind [xi]
     ·show bE env B w ((kt R.H (R.R.S (oq _ (rK _ g))).2).1++gZ R.k st0.H) H
      rw[xi,ah];obtain⟨H1,H2,e,s,q⟩:=eo.jv.bE.split (l:=b) a;rw[e];exact(U _ _ _ _ s).append q
    grind
   ·grind
  ·grind
 ·grind
def ahB(X:bx)(res:List ResultVar)(R:l3)(a:bC):ph R.ty
 |.goto _,_,_=>none
 |.exit _,_,_=>none
 |.panic _,_,_=>none
 |.outgrown,_,_=>none
 |_,V,st=>match tA X st res with
  |some (c,sv)=>ar c (R.get a V st.H sv)
  |none=>none
abbrev x0(A:er)(ec:List (Nat×fD)):Type:=dn (j6 A (ot ec []))
def oE(A:er)(ec:List (Nat×fD))(d:x0 A ec):dT×bC:=((iH A d).1,(kt ec (iH A d).2).1)
def C2(X:bx)(N n:Nat)(T:List (bA X))(bI:List (l2 X))(c:Code)(a:fQ)(res:List ResultVar)(A:er)(ec:List (Nat×fD))(R:l3)(d:x0 A ec):Option R.ty:=
 kb X N n T bI true c none a ⟨rA 0 (oE A ec d).1,(oE A ec d).2⟩ (ahB X res R (oE A ec d).2)
theorem AC.ahC{f:FuncId}{args:dT}{h:bC}{Q d:b7->bC->Prop}(cA:AC X f args h Q)(i:∀sv b,Q sv b->∃a U c,xj sv a/\mi b c/\(∀env B w H,bE env B w c H->bE env B w U H)/\d a U):AC X f args h d:=λB ai env vs H W g bl n c=>by
 refine qx.mono (cA B ai env vs H W g bl n c) λv w' ⟨env',B',l,H',sv,b,J,U,ah,j,e,k,m,p⟩=>?_
 obtain⟨a,y,z,o,q,s,u⟩:=i sv b J;obtain⟨H2,Y,t,r⟩:=q.Kc k;exact⟨env',B',l,H2,a,y,u,U,ah,j,o _ _ _ _ e,s _ _ _ _ r,(m.perm t).fb (List.sublist_append_left _ _),p⟩
theorem UR(N:Nat)(i:X.a1.ok X.P)(q:X.P.follows .mixedOrders=true){f:FuncId}{fn:Func}{c:Code}{A:er}{ec:List (Nat×fD)}{R:l3}(T:List (bA X))(bI:List (l2 X))(j:fQ){res:List ResultVar}(aF:X.P.funcs[f]?=some fn)(ag:fn.body=some c)(aR:fn.ntmps=n)(ao:ble A.length n=true)(bc:ble n lJ=true)(l:fn.results=res.toArray){d:x0 A ec}{r:R.ty}(h:C2 X N n T bI c j res A ec R d=some r):AC X f (oE A ec d).1 (oE A ec d).2 (λsv h=>sv=(R.out (oE A ec d).2 r).1/\h=(R.out (oE A ec d).2 r).2):=by
 refine AC.ahC (ahn (Q:=λsv g=>∃a,xj sv (R.out (oE A ec d).2 r).1/\mi g a/\∀env B w H,bE env B w a H->bE env B w (R.out (oE A ec d).2 r).2 H) i aF ag aR (by show ble (iH A d).1.length n=true;rw[GS];exact ao) bc l (Kf (GH (r:=r) λgj US u=>rV i q c true true none (λ_=>⟨rfl,rfl⟩) _ _ none oD.none _ _ _ _ (show kb X N n T bI true c none j _ _=some r from h)) λe s ⟨V,b,hw,p,a⟩=>?_)) λsv g ⟨a,m,o,t⟩=>⟨_,_,a,m,o,t,rfl,rfl⟩
 have key:(match tA X b res with
  |some (c,sv)=>ar c (R.get (oE A ec d).2 V b.H sv)
  |none=>none)=some r->∃st',hA X true n s st'/\∃c sv,tA X st' res=some (c,sv)/\c=true/\∃a,xj sv (R.out (oE A ec d).2 r).1/\mi st'.H a/\∀env B w H,bE env B w a H->bE env B w (R.out (oE A ec d).2 r).2 H:=λab=>by
  split at ab
  ·rename_i c sv k
   obtain⟨aa,ab⟩:=e7 ab;exact⟨b,hw,c,sv,k,aa,l3.jv p ab⟩
  ·cases ab
 cases e with
 |ret=>exact⟨.inl rfl,key a⟩
 |normal=>exact⟨.inr rfl,key a⟩
 |_=>cases a
def ahD(N : Nat)(ay : X.a1.ok X.P)(hm : X.P.follows .mixedOrders = true){fn : Func}{c : Code}(A : er)(ec : List (Nat × fD))(R : l3)(T : List (bA X))(bI : List (l2 X))(cf : fQ)(res : List ResultVar)(f : FuncId)(kW : R.ty)(m : x0 A ec → Option R.ty)(aF : X.P.funcs[f]? = some fn)(aV : (fn.name == "runtime.NumGoroutine") = false)(ag : fn.body = some c)(aR : fn.ntmps = n)(ao : ble A.length n = true)(bc : ble n lJ = true)(av : fn.results = res.toArray)(h:∀d,C2 X N n T bI c cf res A ec R d=m d):bA X:=
 { f:=f,fn:=fn,A:=A,ec:=ec,aT:=R.ty,kW:=kW,m:=m,out:=λd r=>R.out (oE A ec d).2 r,aF:=aF,bc:=aV,ag:=by rw[ag];rfl,ok:=λd r he=>UR N ay hm T bI cf aF ag aR ao bc av ((h d).trans he) }
def UT{fn : Func}{c : Code}(A : er)(ec : List (Nat × fD))(R : l3)(f : FuncId)(kW : R.ty)(aF : X.P.funcs[f]? = some fn)(aV : (fn.name == "runtime.NumGoroutine") = false)(ag : fn.body = some c) : bA X :=
 { f:=f,fn:=fn,A:=A,ec:=ec,aT:=R.ty,kW:=kW,m:=λ_=>none,out:=λd r=>R.out (oE A ec d).2 r,aF:=aF,bc:=aV,ag:=by rw[ag];rfl,ok:=λd r he=>by cases he }
def ahE(N : Nat)(ay : X.a1.ok X.P)(hm : X.P.follows .mixedOrders = true){fn : Func}{c : Code}(A : er)(ec : List (Nat × fD))(R : l3)(T : List (bA X))(bI : List (l2 X))(cf : fQ)(res : List ResultVar)(f : FuncId)(kW : R.ty)(m dL : x0 A ec → Option R.ty)(heq : ∀ d, m d = dL d)(aF : X.P.funcs[f]? = some fn)(aV : (fn.name == "runtime.NumGoroutine") = false)(ag : fn.body = some c)(aR : fn.ntmps = n)(ao : ble A.length n = true)(bc : ble n lJ = true)(av : fn.results = res.toArray)(h:∀d,C2 X N n T bI c cf res A ec R d=m d):bA X:=
 { f:=f,fn:=fn,A:=A,ec:=ec,aT:=R.ty,kW:=kW,m:=dL,out:=λd r=>R.out (oE A ec d).2 r,aF:=aF,bc:=aV,ag:=by rw[ag];rfl,ok:=λd r he=>UR N ay hm T bI cf aF ag aR ao bc av ((h d).trans ((heq d).trans he)) }
def b0(N : Nat)(ay : X.a1.ok X.P){fn : Func}{c : Code}{f : FuncId}(A : er)(ec : List (Nat × fD))(R : l3)(T : List (bA X))(bI : List (l2 X))(cf : fQ)(res : List ResultVar)(kW : R.ty)(m : x0 A ec → Option R.ty)(aF : X.P.funcs[f]? = some fn)(aR : fn.ntmps = n)(hm : X.P.follows .mixedOrders = true := by kernel_rfl)(aV : (fn.name == "runtime.NumGoroutine") = false := by rfl)(ag : fn.body = some c := by rfl)(ao : ble A.length n = true := by rfl)(bc : ble n lJ = true := by rfl)(av : fn.results = res.toArray := by rfl)(h:∀d,C2 X N n T bI c cf res A ec R d=m d:=by intro d;kernel_rfl):bA X:=ahD N ay hm A ec R T bI cf res f kW m aF aV ag aR ao bc av h
def l4(N : Nat)(ay : X.a1.ok X.P){fn : Func}{c : Code}{f : FuncId}(A : er)(ec : List (Nat × fD))(R : l3)(T : List (bA X))(bI : List (l2 X))(cf : fQ)(res : List ResultVar)(kW : R.ty)(m dL : x0 A ec → Option R.ty)(heq : ∀ d, m d = dL d)(aF : X.P.funcs[f]? = some fn)(aR : fn.ntmps = n)(hm : X.P.follows .mixedOrders = true := by kernel_rfl)(aV : (fn.name == "runtime.NumGoroutine") = false := by rfl)(ag : fn.body = some c := by rfl)(ao : ble A.length n = true := by rfl)(bc : ble n lJ = true := by rfl)(av : fn.results = res.toArray := by rfl)(h:∀d,C2 X N n T bI c cf res A ec R d=m d:=by intro d;kernel_rfl):bA X:=ahE N ay hm A ec R T bI cf res f kW m dL heq aF aV ag aR ao bc av h
end
end
section
theorem bO.UU{X:bx}{gj C o t B':Nat->Prop}{y ai f:World}{n:Nat}{ks:bG}{H:cW}{a:Act}(h:bO X (λk=>gj k\/C k) y ⟨t,λ_ _=>False,[]⟩ n ks env B' ai H st a w)(j:Grow B' C o w f)(cA:∀k,o k->k<f.heap.size){d:Nat}(az:blt d n=true)(v:Value) :
  bO X (λk=>gj k\/o k) f ⟨B',λ_ _=>False,[]⟩ n ks env B' f H ⟨(d,.c (.val v))::st.L,st.H⟩ (a.put (some d) v) f:=by
 have l:=h.bV.put d v (dH az);have q:∀k,(gj k\/C k)\/B' k->k<w.heap.size:=λk ab=>h.aQ.base k ab
 have B:∀k,B' k->f.heap[k]?=w.heap[k]?:=λk ab=>j.eb.block k (.inl ab)
 have p:gm B' ai B' f:=⟨λ_ h=>h,λk ab=>(B k ab).trans (h.aQ.below.block k (.inr ab))⟩
 have z:∀b,b<w.heap.size->¬((gj b\/C b)\/B' b)->¬(gj b\/o b):=λb ag bc av=>by
  rcases av with av|av
  ·grind
  ·rcases j.new b av with J|J|J
   ·grind
   ·omega
   grind
 refine⟨l.size,l.defs,λs sv m=>?_,h.heap.up p,⟨cV.refl _ _,λk ab=>?_,λc aa=>?_,h.aQ.apart⟩,λ_ h=>h,λ_ h=>.inl h,λ_ _ h=>h.elim,cV.refl _ _,λi x ak=>(h.eg i x ak).up p⟩
 ·rw[cO]at m
  split at m
  ·rename_i e;subst e;cases m;exact⟨v,l.this,rfl⟩
  ·rename_i e
   obtain⟨u,J,U⟩:=h.has s sv m;exact⟨u,l.other e J,U.up p⟩
 ·rcases ab with(ab|ab)|ab
  ·exact lt_of_lt_of_le (q k (.inl (.inl ab))) j.eb.size
  ·exact cA k ab
  ·exact lt_of_lt_of_le (q k (.inr ab)) j.eb.size
 ·have g:=h.aQ.ok c aa
  have A:=g.eb (w':=f) λb ag=>j.eb.block b (.inr ⟨(g.lt ag).2,λr=>(g.lt ag).1 (.inl (.inr r))⟩)
  exact A.base λb ag av=>by
   rcases av with av|av
   ·exact z b (g.lt ag).2 (g.lt ag).1 av
   ·exact(g.lt ag).1 (.inr av)
section
variable {X:bx} {n:Nat} {α:Type}
def hl.it(gj:Nat->Prop)(j:List α->(Nat->Prop)->(Nat->Prop)->World->Prop)(l:Unit->(Nat->Prop)->World->Prop):hl X true n none (List α) where
 In r st a w:=∃C b c,(j r C c b\/(r=[]/\l () C b))/\me X (λk=>gj k\/C k) b ⟨c,λ_ _=>False,[]⟩ true n st a w
 frame h hi:=by
  obtain⟨C,b,c,J,ah⟩:=hi;exact wpIn_mono (h _ _ _ _ _ ah) λ_ _ _ ⟨s,f,e⟩=>⟨s,f,C,b,c,J,e⟩
 step h hi KK ch:=by
  obtain⟨C,b,c,J,ks,env,B',ai,H,d,ae⟩:=hi;exact h _ _ _ _ _ _ _ _ _ _ ae _ λaS w' env' B' i H' g=>ch _ _ ⟨C,b,c,J,ks,env',B',i,H',d,g⟩
 fb h hi:=by
  obtain⟨C,b,c,J,ah⟩:=hi;exact⟨C,b,c,J,h _ _ _ _ _ ah⟩
 Ai hi:=by
  obtain⟨C,b,c,J,ks,env,B',ai,H,d,ae⟩:=hi;exact⟨_,_,_,_,_,_,_,_,ae⟩
def vI{α:Type}(b:Bool)(x:α)(f t:Option (List α)):Option (List α):=match b,f,t with
 |true,some [],some l=>some (x::l)
 |_,_,_=>none
def x1(E:er)(id l:Nat)(args:dT)(f t:Option (List (dn (j6 E [])))):Option (List (dn (j6 E []))):=match nb args,zE (T:=[]) E args ()with
 |true,some x=>vI (beq l id) x f t
 |_,_=>none
theorem YieldAt.zero{P:Program}{l:Nat}{args:Array Value}{W:World}{R:Ending->World->Prop}(h:YieldAt Fence.wide 1 P l args W R):YieldAt Fence.wide 0 P l args W R:=by
 obtain⟨fn,tmps,assign,body,J,U,ah⟩:=h;exact⟨fn,tmps,assign,body,J,U,λc cs _=>ah c cs (room_wide _)⟩
theorem UW{sv:Option b7}{l:Nat}(h:Cq sv=some l):sv=some (.a (.c (.val (.func (.yield l) #[] #[])))):=by
 unfold Cq at h
 split at h
 ·grind
 grind
theorem dx.no{B:Nat->Prop}:∀ {xs:dT} {vs:bQ},nb xs=true->dx env B w xs vs->dx (λ_=>.no) B w xs vs
 |[],_,_,h=>h
 |.c x::xs,_,aF,⟨v,r,e,J,U⟩=>by
  unfold nb at aF
  split at aF
  ·rename_i ak
   refine⟨v,r,e,?_,dx.no aF U⟩;have a:x.free=true:=ak;cases x with
   |fn f cs=>
    obtain⟨vs,e,an⟩:=J;exact⟨vs,e,an.KI a⟩
   |_=>first|exact J|cases a
  grind
 |.agg cs::xs,_,aF,⟨v,r,e,⟨vs,b,J⟩,U⟩=>by
  unfold nb at aF
  split at aF
  ·rename_i ak
   refine⟨v,r,e,⟨vs,b,?_⟩,dx.no aF U⟩;have a:tX cs=true:=ak
   clear ak e b U
   induction cs generalizing vs with
   |nil=>exact J
   |cons x cs i=>
    obtain⟨v,r,e,ah,d⟩:=J;unfold tX at a
    split at a
    ·rename_i c
     refine⟨v,r,e,?_,i _ d a⟩;cases x with
     |fn f cs=>
      obtain⟨vs,e,an⟩:=ah;exact⟨vs,e,an.KI c⟩
     |_=>first|exact ah|cases c
    grind
  ·grind
 |.arr g l::xs,_,aF,⟨v,r,e,J,U⟩=>by
  unfold nb at aF
  split at aF
  ·exact⟨v,r,e,J,dx.no aF U⟩
  grind
structure Cons(X:bx)(E:er)(id:Nat)(eN:List (dn (j6 E []))->(Nat->Prop)->(Nat->Prop)->World->Prop)(hk:Unit->(Nat->Prop)->World->Prop):Prop where
 Ap:CH eN
 fx:CG hk
 lt:∀r C b8 W,eN r C b8 W->∀k,C k->k<W.heap.size
 UX:∀r C W,hk r C W->∀k,C k->k<W.heap.size
 take:∀x rest C b8 dR bT vs,eN (x::rest) C b8 bT->xP C b8 dR bT->dx (λ_=>.no) dR bT (iH E x).1 vs->YieldAt Fence.wide 1 X.P id vs.toArray bT λe c9=>
   (e=.returned (.bool true)/\∃cP,eN rest cP dR c9/\Grow dR C cP bT c9)\/(e=.returned (.bool false)/\∃cP,hk () cP c9/\Grow dR C cP bT c9)
end
end
section
theorem bO.UY{X:bx}{gj C o z r B':Nat->Prop}{p:Nat->Loc->Prop}{A ai f:World}{n:Nat}{ks:bG}{H:cW}{a:Act}(h:bO X (λk=>gj k\/C k) A ⟨z,p,[]⟩ n ks env B' ai H st a w)(j:Grow B' C o w f)(cA:∀k,o k->k<f.heap.size)(ag:∀k,r k↔B' k){d:Nat}(az:blt d n=true)(v:Value) :
  bO X (λk=>gj k\/o k) f ⟨r,p,[]⟩ n ks env B' f H ⟨(d,.c (.val v))::st.L,st.H⟩ (a.put (some d) v) f:=by
 have l:=h.bV.put d v (dH az);have t:∀k,(gj k\/C k)\/B' k->k<w.heap.size:=λk ab=>h.aQ.base k ab
 have E:∀k,B' k->f.heap[k]?=w.heap[k]?:=λk ab=>j.eb.block k (.inl ab)
 have q:gm B' ai B' f:=⟨λ_ h=>h,λk ab=>(E k ab).trans (h.aQ.below.block k (.inr ab))⟩
 have B:∀b,b<w.heap.size->¬((gj b\/C b)\/B' b)->¬(gj b\/o b):=λb ag bc av=>by
  rcases av with av|av
  ·grind
  ·rcases j.new b av with J|J|J
   ·grind
   ·omega
   grind
 refine⟨l.size,l.defs,λs sv m=>?_,h.heap.up q,⟨cV.refl _ _,λk ab=>?_,λc aa=>?_,h.aQ.apart⟩,λk ab=>(ag k).1 ab,λk ab=>.inl ((ag k).2 ab),h.dB,cV.refl _ _,λi x ak=>(h.eg i x ak).up q⟩
 ·rw[cO]at m
  split at m
  ·rename_i e;subst e;cases m;exact⟨v,l.this,rfl⟩
  ·rename_i e
   obtain⟨u,J,U⟩:=h.has s sv m;exact⟨u,l.other e J,U.up q⟩
 ·rcases ab with(ab|ab)|ab
  ·exact lt_of_lt_of_le (t k (.inl (.inl ab))) j.eb.size
  ·exact cA k ab
  ·exact lt_of_lt_of_le (t k (.inr ab)) j.eb.size
 ·have g:=h.aQ.ok c aa
  have D:=g.eb (w':=f) λb ag=>j.eb.block b (.inr ⟨(g.lt ag).2,λy=>(g.lt ag).1 (.inl (.inr y))⟩)
  exact D.base λb ag av=>by
   rcases av with av|av
   ·exact B b (g.lt ag).2 (g.lt ag).1 av
   ·exact(g.lt ag).1 (.inr av)
section
variable {X:bx} {M:Bool} {n:Nat} {rr:Option Nat} {α:Type}
structure MW where
 gj:Nat->Prop
 fP:Nat->Prop
 ru:Nat->Prop
 ie:Nat->Prop
 US:World
 p:Nat->Loc->Prop
structure MX(D:MW)(C b8:Nat->Prop)(bT:World):Prop where
 la:∀k,D.fP k->b8 k\/(¬C k/\tt bT k)
 x2:cV (λk=>(D.gj k/\¬D.ie k)\/D.fP k) D.US bT
 GV:∀k,D.gj k->¬D.ie k->C k->D.fP k
 MY:∀k,D.gj k->b8 k->D.fP k
 MZ:∀k,D.ru k->b8 k
 M0:∀k,D.fP k->D.gj k
def hl.M1(D:MW)(j:List α->(Nat->Prop)->(Nat->Prop)->World->Prop)(l:Unit->(Nat->Prop)->World->Prop):hl X M n rr (List α) where
 In r st a w:=∃C b c,(j r C c b\/(r=[]/\l () C b))/\MX D C c b/\me X (λk=>D.gj k\/C k) b ⟨λk=>c k\/D.fP k,D.p,[]⟩ M n st a w
 frame h hi:=by
  obtain⟨C,b,c,J,U,ah⟩:=hi;exact wpIn_mono (h _ _ _ _ _ ah) λ_ _ _ ⟨s,f,e⟩=>⟨s,f,C,b,c,J,U,e⟩
 step h hi KK ch:=by
  obtain⟨C,b,c,J,U,ks,env,B',ai,H,d,ae⟩:=hi;exact h _ _ _ _ _ _ _ _ _ _ ae _ λaS w' env' B' i H' g=>ch _ _ ⟨C,b,c,J,U,ks,env',B',i,H',d,g⟩
 fb h hi:=by
  obtain⟨C,b,c,J,U,ah⟩:=hi;exact⟨C,b,c,J,U,h _ _ _ _ _ ah⟩
 Ai hi:=by
  obtain⟨C,b,c,J,U,ks,env,B',ai,H,d,ae⟩:=hi;exact⟨_,_,_,_,_,_,_,_,ae⟩
theorem ahG(aw:X.a1.ok X.P){E:er}{id:Nat}{D:MW}{B:List (dn (j6 E []))->(Nat->Prop)->(Nat->Prop)->World->Prop}{I:Unit->(Nat->Prop)->World->Prop}(aa:Cons X E id B I):An (Γ:=hl.M1 (X:=X) (M:=M) (n:=n) (rr:=rr) D B I) (some (x1 E id)):=by
 rintro ops Q em N l args f t r q;cases N;unfold x1 at q
 split at q
 ·rename_i x au ar
  unfold vI at q
  split at q
  ·rename_i ay ao
   cases q;have ap:=eq_of_beq_eq_true ao;subst ap;refine⟨_,_,rfl,rfl,?_⟩;intro o rest st d s us ax c A z az aA L am O P a w hi;obtain⟨C,af,ad,u,i,ks,env,B',ai,H,v,ae⟩:=hi
   rcases u with u|⟨u,_⟩
   ·obtain⟨vs,J,U⟩:=w5 ae L am
    obtain⟨e6,ah,ac⟩:=ae.has _ _ (UW aA);rw[show e6=_ from ac]at ah;have ak:gm B' ai B' w:=⟨λ_ h=>h,λk ab=>ae.aQ.below.block k (.inr ab)⟩
    have W:=(B6 ar).2;have aq:dx (λ_=>.no) B' w (iH E x).1 vs:=W _ _ _ _ (dx.no au (U.up ak));have g:cV (λk=>D.gj k\/C k) af w:=⟨(ae.aQ.below.os).trans ae.base.os,(ae.aQ.below.tape).trans ae.base.tape,(ae.aQ.below.output).trans ae.base.output,le_trans ae.base.size ae.aQ.below.size,λk ab=>(ae.aQ.below.block k (.inl ab)).trans (ae.base.block k ab)⟩
    have av:=aa.Ap _ _ _ _ _ u ⟨g.os,g.tape,g.output,g.size,λk ab=>g.block k (.inr ab)⟩;have an:xP C ad B' w:=⟨λk ab=>ae.sub k (.inl ab),λk ab=>by
     rcases ae.new k ab with(aI|aI)|⟨aI,j⟩
     ·exact .inl aI
     ·exact(i.la k aI).imp_right λj=>⟨j.1,j.2.eb (g.block k (.inl (i.M0 k aI)))⟩
     ·exact .inr ⟨λh=>aI (.inr h),j.eb (ae.aQ.below.block k (.inr ab))⟩⟩
    obtain⟨fn,tmps,assign,body,T,S⟩:=YieldAt.zero (aa.take _ _ _ _ _ _ _ av an aq);have hw:Region.wanted o (yielded ops.toArray a.tmps)=true:=z.1 ae;show(if Region.wanted o (yielded ops.toArray a.tmps)then _ else _);rw[if_pos hw];refine⟨λ_ _=>trivial,?_⟩;have aj:(execOp a.eval o).run X.P w=.ok (.round l fn tmps assign body) w:=by
     have V:=ae.bV.aD (x:=.tmp s) (hr ah);have ag:(us.toArray.map a.eval)=vs.toArray:=R4 ae.bV J;simp only[execOp,A,resolve,V]
     simp[Deferred.ofValue,invoke,ag,T,go_sem]
    have Y:∀k,D.gj k->B' k->D.fP k:=λk aI j=>by
     rcases ae.new k j with(cl|cl)|⟨cl,_⟩
     ·exact i.MY k aI cl
     ·exact cl
     ·exact absurd (.inl aI) cl
    have G:∀ {p:Nat->Prop} {m:World},Grow B' C p w m->MX D p B' m:=λ{p m} b=>by
     refine⟨λk ab=>.inl (ae.sub k (.inr ab)),?_,λk aI j cl=>?_,Y,λk ab=>ae.sub k (.inl (i.MZ k ab)),i.M0⟩
     ·refine i.x2.trans ⟨b.eb.os.trans g.os,b.eb.tape.trans g.tape,b.eb.output.trans g.output,le_trans g.size b.eb.size,λk ab=>?_⟩
      have F:D.gj k:=ab.elim (λh=>h.1) (i.M0 k);refine(b.eb.block k ?_).trans (g.block k (.inl F))
      rcases ab with ab|ab
      ·by_cases K:C k
       ·exact .inl (ae.sub k (.inr (i.GV k ab.1 ab.2 K)))
       ·exact .inr ⟨ae.aQ.base k (.inl (.inl F)),K⟩
      ·exact .inl (ae.sub k (.inr ab))
     ·rcases b.new k cl with de|de|de
      ·exact i.GV k aI j de
      ·have:=ae.aQ.base k (.inl (.inl aI))
       omega
      grind
    have y:∀k,(B' k\/D.fP k)↔B' k:=λk=>⟨λh=>h.elim id λh=>ae.sub k (.inr h),.inl⟩
    show Oper.uponIn _ _ _ _ _ _ _ ((o.semAt _ a.eval).run X.P w);rw[Oper.semAt_eq _ _ _ (λc h=>by rw[A]at h;cases h),aj];have al:∀ {R:Ending->World->Prop},RoundIn Fence.wide 0 X.P l fn tmps assign body w R->RoundIn (WF rr) 0 X.P l fn tmps assign body w R:=λh=>by cases rr<;>exact h
    refine⟨(λh=>by cases rr<;>cases h),RoundIn.mono (al S) ?_⟩;intro e m Z;rw[z.2]
    rcases Z with⟨rfl,p,rX,b⟩|⟨rfl,p,rX,b⟩
    ·exact P _ _ ⟨p,m,B',.inl rX,G b,ks,env,B',m,H,⟨v.1,v.2⟩,bO.UY ae b (aa.lt _ _ _ _ rX) y az _⟩
    ·exact O _ _ ⟨p,m,B',.inr ⟨rfl,rX⟩,G b,ks,env,B',m,H,⟨v.1,v.2⟩,bO.UY ae b (aa.UX _ _ _ rX) y az _⟩
   ·grind
  ·grind
 ·grind
end
end
theorem bO.U1{X:bx}{R c b b':Nat->Prop}{p:Nat->Loc->Prop}{d:List Deferred}{W:World}{n:Nat}{ks:bG}{B:Nat->Prop}{ai:World}{H:cW}{a:Act}(h:bO X R W ⟨b,p,d⟩ n ks env B ai H st a w)(e:∀k,R k↔c k)(ag:∀k,b k↔b' k):bO X c W ⟨b',p,d⟩ n ks env B ai H st a w:=by
 have f:R=c:=funext λk=>propext (e k)
 have g:b=b':=funext λk=>propext (ag k)
 grind
theorem ahI{β hy:Type}{X:bx}{n:Nat}{Q:Exit->aP->List hy->Prop}{g:Operand}{pl:bG}{assign body:Code}{gf:FuncId}{fn:Func}{gH:dY}{mA:α->dT}{l:List α}{b:Bool}{ms:List (Nat×Nat)}{an e9:bC}{gj:Nat->Prop}{eN:List hy->(Nat->Prop)->(Nat->Prop)->World->Prop}{hk:Unit->(Nat->Prop)->World->Prop}(Ap:CH eN)(fx:CG hk){eG:List hy}(aV : bu X st.L g = some (b, .c (.fn gf gH)))(ag : b = true)(gL : X.P.funcs[gf]? = some fn)(sP : (fn.name == "runtime.NumGoroutine") = false)(p6 : fn.body.isNone = false)(hg : xV X gf gH an l mA)(hlen : ∀ x, (mA x).length = pl.length)(hN : nL n pl = true)(q3 : mY n assign ms)(oa : nL n (ms.map (·.1)) = true)(bc : ble n h1 = true)(gX:β->bC)(bP:List α->β->List hy->Prop)(mC:Exit->bC->List hy->Prop)(iv:β)(aM:bP l iv eG)(cY:st.H=an++e9)(dE:∀ {env:Nat->Loc} {B:Nat->Prop} {w:World} {H:cW},bE env B w e9 H->∃H' Y,H.Perm (H'++Y)/\bE env B w (gX iv) H')(rS:∀id x rest y r D,bP (x::rest) y r->iJ (hl.M1 (X:=X) (M:=false) (n:=n) (rr:=some id) D eN hk) body r ⟨tH ms (vf pl (mA x) (gg (hv n) st.L)),gX y⟩ (λe s cH=>(e=.normal/\∃oz,bP rest oz cH/\∃dJ,hA X false n s ⟨dJ,gX oz⟩)\/(e≠.normal/\Fu e=true/\∃aW,mC e aW cH/\∃dJ,hA X false n s ⟨dJ,aW⟩)))(oo:∀y r,bP [] y r->Q .normal ⟨gg (hv n) st.L,gX y⟩ r)(p4:∀e aW r,mC e aW r->Q e ⟨gg (hv n) st.L,aW⟩ r):iJ (hl.it (X:=X) (n:=n) gj eN hk) (.rangeFunc g pl.toArray assign body) eG st Q:=by
 intro a w hi;obtain⟨Aq,U2,GW,ahJ,ks,env,B,ai,oZ,bM,fw⟩:=hi;have CL:=fw.heap;rw[cY]at CL;obtain⟨O,H2,Mn,ia,hR⟩:=bE.split (l:=an) CL;obtain⟨H,Y,zI,qN⟩:=dE hR;subst Mn;have ae:bO X (λk=>gj k\/Aq k) U2 ⟨GW,λ_ _=>False,[]⟩ n ks env B ai (O++H) ⟨st.L,an++gX iv⟩ a w:=by
  refine⟨fw.size,fw.defs,fw.has,ia.append qN,?_,fw.sub,fw.new,fw.dB,fw.base,fw.eg⟩;have aq:((O++H2)++ks.map dj).Perm (((O++H)++ks.map dj)++Y):=by
   refine((zI.append_left O).append_right _).trans ?_;simp only[append_assoc];exact((List.perm_append_comm).append_left H).append_left O
  exact(fw.aQ.perm aq).fb (List.sublist_append_left _ _)
 obtain⟨gv,dK,lb,rfl,dr⟩:=fw.aD aV ag;obtain⟨mE,gq⟩:∃mE:Nat->Prop,mE=λk=>gj k\/B k:=⟨_,rfl⟩
 have C4:∀k,mE k↔gj k\/B k:=λk=>by rw[gq]
 have iY:bO X (λk=>mE k\/Aq k) w ⟨λk=>GW k\/B k,om n env,[]⟩ n ks env B w (O++H) ⟨st.L,an++gX iv⟩ a w:=ae.R2.U1 (λk=>by rw[C4];constructor<;>(intro h;rcases h with(h|h)|h)<;>simp[h]) λk=>⟨.inr,λh=>h.elim (ae.sub k) id⟩
 have uq:gm B ai B w:=⟨λ_ h=>h,λk ab=>ae.aQ.below.block k (.inr ab)⟩
 have xT:∀k,B k->k<w.heap.size:=λk ab=>ae.aQ.base k (.inr ab)
 have xQ:=hg B w lb env O xT (λi x ak=>(ae.eg i x ak).up uq) (dr.up uq) (ia.up uq);have ij:=Nat.le_of_ble_eq_true bc;have tC:(H++ks.map dj).Sublist ((O++H)++ks.map dj):=by
  rw[append_assoc];exact List.sublist_append_right _ _
 have Mo:bK (mB (λk=>mE k\/Aq k) B H ks) w O w:=by
  have kK:=ae.aQ.apart;rw[append_assoc,List.pairwise_append]at kK;refine⟨cV.refl _ _,λk ab=>?_,λc aa=>?_,kK.1⟩
  ·rcases ab with ab|ab|⟨c,aa,e⟩
   ·exact iY.aQ.base k (.inl ab)
   ·exact ae.aQ.base k (.inr ab)
   ·exact((ae.aQ.ok c (tC.subset aa)).lt e).2
  ·have gM:=iY.aQ.ok c (mem_append_left _ (mem_append_left _ aa))
   refine gM.base λb ag ab=>?_
   rcases ab with ab|ab|⟨c',eD,e⟩
   ·exact(gM.lt ag).1 (.inl ab)
   ·exact(gM.lt ag).1 (.inr ab)
   ·exact kK.2.2 c aa c' eD b ag e
 let mP:=gg (hv n) st.L
 let In:bC->List hy->(Nat->Prop)->(Nat->Prop)->World->Prop:=λh r ahK ahL c9=>∃C qa b8,(eN r C b8 qa\/(r=[]/\hk () C qa))/\∃env' B' cD H',bO X (λk=>mE k\/C k) qa ⟨λk=>b8 k\/B k,om n env,[]⟩ n ks env' B' cD H' ⟨mP,h⟩ a c9/\(∀k,B' k->b8 k\/(¬C k/\tt c9 k))/\(∀k,B k->c9.heap[k]?=w.heap[k]?)/\(∀k,GW k->b8 k)/\ahK=mB (λk=>mE k\/C k) B' H' ks/\∀k,ahL k->B' k
 let I:List α->(Nat->Prop)->(Nat->Prop)->World->Prop:=λr C b8 c9=>∃y ro,bP r y ro/\In (gX y) ro C b8 c9
 let mz:Code->(Nat->Prop)->World->Prop:=λc C c9=>∃e aW ro b8,R1 e=some c/\mC e aW ro/\In aW ro C b8 c9
 have ahM:∀k,B k->mE k:=λk ab=>(C4 k).2 (.inr ab)
 have CM:∀h r C b8 bT nV,In h r C b8 bT->cV C bT nV->In h r C b8 nV:=by
  rintro h r C b8 bT nV ⟨iZ,qa,pj,aX,env',B',cD,H',J,U,ah,aw,rfl,aI⟩ ab;exact⟨iZ,qa,pj,aX,env',B',cD,H',J.Ml ab,λk cG=>(U k cG).imp_right λh=>⟨h.1,h.2.eb (ab.block k (.inr (.inl cG)))⟩,λk cG=>(ab.block k (.inl (.inl (ahM k cG)))).trans (ah k cG),aw,rfl,aI⟩
 have CN:∀ {B':Nat->Prop} {cD:World} {env':Nat->Loc},(∀k,B k->B' k)->(∀k,B k->cD.heap[k]?=w.heap[k]?)->(∀id l,om n env id l->env' id=l)->∀s sv,bh mP s=some sv->∃v,a.tmps[s]?=some v/\eI env' B' cD sv v:=by
  intro B' cD env' cG hw he s sv aj;obtain⟨u,J,rfl⟩:=xb aj;obtain⟨v,U,ah⟩:=iY.has s u J;exact⟨v,U,eI.db (RW (λid l aw aI bb=>he id l ⟨aw,aI,bb⟩) ij) (ah.up ⟨cG,hw⟩)⟩
 have CO:∀ {h:bC} {r:List hy} {C b8:Nat->Prop} {bT:World} (k:Nat),w.heap.size<=k->¬C k->bT.heap[k]?=some (.deferred (some []))->In h r C b8 bT->(hl.it (X:=X) (n:=n) gj eN hk).In r ⟨mP,h⟩ { a with defers:={ target:=.collected k,args:=#[] }::a.defers } bT:=by
  rintro h r C b8 bT k ab vE az ⟨iZ,qa,pj,aX,env',B',cD,H',J,U,ah,aw,rfl,aI⟩;have art:∀q,B q->B' q:=λq aq=>J.sub q (.inr aq)
  have jf:(dj k::(H'++ks.map dj)).Perm (H'++(k::ks).map dj):=by
   rw[List.map_cons];exact List.perm_middle.symm
  have ea:bK (λq=>(gj q\/iZ q)\/B' q) cD (dj k::(H'++ks.map dj)) bT:=by
   have vJ:∀q,((gj q\/iZ q)\/B' q)->((mE q\/iZ q)\/B' q):=λq aq=>aq.imp_left λh=>h.imp_left λh=>(C4 q).2 (.inl h)
   refine⟨⟨J.aQ.below.os,J.aQ.below.tape,J.aQ.below.output,J.aQ.below.size,λq aq=>J.aQ.below.block q (vJ q aq)⟩,λq aq=>J.aQ.base q (vJ q aq),λc aa=>?_,List.Pairwise.cons (λc aa q aH bk=>?_) J.aQ.apart⟩
   ·rcases List.mem_cons.1 aa with rfl|aa
    ·exact⟨λaq=>vE ((vJ k aq).elim .inl λh=>.inr (.inl h)),az⟩
    ·exact(J.aQ.ok c aa).base λq GX ahN=>((J.aQ.ok c aa).lt GX).1 (vJ q ahN)
   ·have:k=q:=Option.some.inj aH
    subst this;exact vE (.inr (.inr ⟨c,aa,bk⟩))
  refine⟨iZ,qa,pj,aX,k::ks,env',B',cD,H',⟨(λh=>by cases h),λ_ _ _ h=>h.elim⟩,J.size,congrArg (List.cons (wQ k)) J.defs,J.has,J.heap,ea.perm jf,λq aq=>J.sub q (.inl aq),λq aq=>?_,λ_ _ h=>h.elim,⟨J.base.os,J.base.tape,J.base.output,J.base.size,λq aq=>J.base.block q (aq.imp_left λh=>(C4 q).2 (.inl h))⟩,J.eg⟩
  rcases J.new q aq with(bb|bb)|⟨bb,cl⟩
  ·exact .inl bb
  ·rcases fw.new q bb with cl|⟨cl,_⟩
   ·exact .inl (aw q cl)
   ·refine(U q aq).imp_right λde=>⟨λiD=>iD.elim (λh=>cl (.inl h)) de.1,de.2.eb (J.aQ.below.block q (.inr aq)).symm⟩
  ·exact .inr ⟨λde=>bb (de.imp_left λh=>(C4 q).2 (.inl h)),cl⟩
 have ds:∀(c:Code) (m:Nat) (Q:Exit->Act->World->Prop) a w,c.wpIn Fence.wide m X.P Q a w↔c.wpIn Fence.wide 0 X.P Q a w:=λc m Q a w=>wpIn_wide.trans wpIn_wide.symm
 have CP:∀(id:Nat) (c:Code) (m:Nat) (Q:Exit->Act->World->Prop) a w,c.wpIn (Fence.wide.inRound id) 0 X.P Q a w->c.wpIn (Fence.wide.inRound id) m X.P Q a w:=λid c m Q a w h=>by
  intro b k cs tQ ag av;exact h b k cs tQ ag (λ_ h=>by cases h)
 refine(ds _ 2 _ _ _).1 ?_;have Mp:∀vs:bQ,(pl.toArray.zip vs.toArray).foldl (λt (p,v)=>t.setIfInBounds p v) a.tmps=(pl.zip vs).foldl (λt (p,v)=>t.setIfInBounds p v) a.tmps:=λx=>by
  rw[<- Array.foldl_toList,Array.toList_zip]
 refine ag2 (gf:=gf) (lb:=lb) (ae.bV.aD dK) (λargs w=>QG gL sP p6) xQ (cV.refl _ _) xT (λdR nV x vs h=>by have:=dx.length h;rw[hlen x]at this;simpa using this) (λdR nV lv x vs ab h=>dx.up ⟨λ_ h=>h,λk aq=>ab.block k aq⟩ h)
  I mz ?_ ?_ ?_ ?_ ?_ (mB (λk=>mE k\/Aq k) B H ks) ?_ Mo (λvs=>{ tmps:=tI ms ((pl.zip vs).foldl (λt (p,v)=>t.setIfInBounds p v) a.tmps),defers:=[] }) ?_ ?_ ?_ ?_
 ·rintro r C b8 bT nV ⟨y,ro,aA,J⟩ ab
  exact⟨y,ro,aA,CM _ _ _ _ _ _ J ab⟩
 ·rintro c C bT nV ⟨e,aW,ro,b8,he,oB,J⟩ ab
  exact⟨e,aW,ro,b8,he,oB,CM _ _ _ _ _ _ J ab⟩
 ·rintro r C b8 bT ⟨y,ro,aA,iZ,qa,pj,aX,env',B',cD,H',J,_,_,_,rfl,_⟩
  exact J.GB
 ·rintro r C b8 bT ⟨y,ro,aA,iZ,qa,pj,aX,env',B',cD,H',J,_,_,_,rfl,U⟩ k ab
  exact .inr (.inl (U k ab))
 ·rintro c C bT ⟨e,aW,ro,b8,he,oB,iZ,qa,pj,aX,env',B',cD,H',J,_,_,_,rfl,_⟩
  exact J.GB
 ·have U3:cV Aq U2 w:=⟨fw.aQ.below.os.trans fw.base.os,fw.aQ.below.tape.trans fw.base.tape,fw.aQ.below.output.trans fw.base.output,le_trans fw.base.size fw.aQ.below.size,λk ab=>(fw.aQ.below.block k (.inl (.inr ab))).trans (fw.base.block k (.inr ab))⟩
  exact⟨iv,eG,aM,Aq,w,GW,ahJ.imp (λh=>Ap _ _ _ _ _ h U3) (λh=>⟨h.1,fx _ _ _ _ h.2 U3⟩),env,B,w,H,⟨iY.size,iY.defs,CN (λ_ h=>h) (λ_ _=>rfl) (λ_ _ h=>h.2.1),qN.up uq,iY.aQ.fb tC,iY.sub,iY.new,iY.dB,iY.base,iY.eg⟩,λk ab=>(fw.new k ab).imp_right λh=>⟨λaa=>h.1 (.inr aa),h.2.eb (fw.aQ.below.block k (.inr ab))⟩,λ_ _=>rfl,λ_ h=>h,rfl,λ_ h=>h⟩
 ·intro id x vs bT K uY ch
  rw[Mp];exact CP _ _ _ _ _ _ (mY.ok (l:=id) q3 ch)
 ·rintro id x rest vs C b8 dR bT ⟨y,ro,aA,iZ,qa,pj,aX,sQ,c7,b9,H1,aM,C5,U4,ahO,rfl,q2⟩ nU p5
  obtain⟨fP,Af⟩:∃fP:Nat->Prop,fP=λk=>c7 k\/dR k:=⟨_,rfl⟩
  have M7:∀k,fP k↔c7 k\/dR k:=λk=>by rw[Af]
  have J:bO X (λk=>mE k\/iZ k) qa ⟨λk=>pj k\/B k,om n env,[]⟩ n ks sQ fP bT H1 ⟨mP,gX y⟩ a bT:=by
   rw[Af];exact aM.now.Ur λk ab=>(nU.new k ab).imp (λh=>q2 k h) λ⟨h,U⟩=>⟨h,U⟩
  have ahP:∀k,fP k->pj k\/(¬iZ k/\tt bT k):=λk ab=>by
   rcases (M7 k).1 ab with ab|ab
   ·exact C5 k ab
   ·rcases nU.new k ab with h|⟨h,U⟩
    ·exact C5 k (q2 k h)
    ·exact .inr ⟨λaa=>h (.inl (.inr aa)),U⟩
  have Ag:∀k,dR k->fP k:=λk ab=>(M7 k).2 (.inr ab)
  have GY:∀k,B k->fP k:=λk ab=>J.sub k (.inr ab)
  clear aM
  have fc:bK (λk=>(mE k\/iZ k)\/fP k) bT H1 bT:=J.aQ.fb (List.sublist_append_left _ _);have Uw:gm fP bT fP bT:=⟨λ_ h=>h,λk ab=>J.aQ.below.block k (.inr ab)⟩
  have ahQ:Has n sQ fP bT mP a.tmps:=⟨ae.size,λs sv aj=>by
   obtain⟨v,U,ah⟩:=J.has s sv aj;exact⟨v,U,ah.up Uw⟩⟩
  have av:=J.round (Has.cZ (Has.par ahQ hN ((dx.any p5).up ⟨Ag,λ_ _=>rfl⟩)) oa);have j1:∀k,(mE k\/iZ k)\/fP k->ga bT H1 k:=λk ab=>⟨fc.base k ab,λc aa e=>((fc.ok c aa).lt e).1 ab⟩
  have U5:cV iZ qa bT:=⟨J.base.os,J.base.tape,J.base.output,J.base.size,λk ab=>J.base.block k (.inr ab)⟩
  have KJ:eN ro iZ pj bT\/(ro=[]/\hk () iZ bT):=aX.imp (λh=>Ap _ _ _ _ _ h U5) (λh=>⟨h.1,fx _ _ _ _ h.2 U5⟩);have cT:MX ⟨ga bT H1,fP,pj,iZ,bT,om n sQ⟩ iZ pj bT:=⟨ahP,cV.refl _ _,λk _ U ah=>absurd ah U,λk _ h=>J.sub k (.inl h),λ_ h=>h,λk h=>j1 k (.inr h)⟩
  have Mr:=rS id x rest y ro ⟨ga bT H1,fP,pj,iZ,bT,om n sQ⟩ aA _ bT ⟨iZ,bT,pj,KJ,cT,[],sQ,fP,bT,H1,⟨λ_=>rfl,λh=>by cases h⟩,av.U1 (λk=>⟨.inl,λh=>h.elim (λh=>h) λh=>j1 k (.inl (.inr h))⟩) λk=>⟨.inr,λh=>h.elim (λh=>J.sub k (.inl h)) (λh=>h)⟩⟩;refine wpIn_mono (CP _ _ 1 _ _ _ Mr) ?_;rintro e a3 lv ⟨s,cH,aj,U⟩;have key:∀aW dJ,hA X false n s ⟨dJ,aW⟩->∃cP,In aW cH cP dR lv/\Grow dR (mB (λk=>mE k\/iZ k) c7 H1 ks) cP bT lv:=by
   intro aW dJ hw;obtain⟨u9,M8,U6,ahR,pk,ahS⟩:=U;obtain⟨ahf,GC,vF,nS,Ah,GD,ah⟩:=hw _ _ _ _ _ ahS
   have:=GD.1 rfl
   subst this;have U7:∀k,ga bT H1 k->lv.heap[k]?=M8.heap[k]?:=λk ab=>(ah.aQ.below.block k (.inl (.inl ab))).trans (ah.base.block k (.inl ab))
   have vB:∀k,(ga bT H1 k/\¬iZ k)\/fP k->lv.heap[k]?=bT.heap[k]?:=λk ab=>(U7 k (ab.elim (λh=>h.1) (λh=>j1 k (.inr h)))).trans (pk.x2.block k ab)
   have GZ:∀k,fP k->vF k:=λk ab=>ah.sub k (.inr ab)
   have lx:=ah.aQ;simp only[map_nil,List.append_nil]at lx;have M9:∀k,fP k->nS.heap[k]?=bT.heap[k]?:=λk ab=>(ah.base.block k (.inl (j1 k (.inr ab)))).trans (pk.x2.block k (.inr ab))
   have n1:∀k∈ks,ga bT H1 k/\¬iZ k/\¬u9 k/\¬vF k/\¬mE k/\bT.heap[k]?=some (.deferred (some [])):=by
    intro k ab;have hm:dj k∈H1++ks.map dj:=List.mem_append_right _ (List.mem_map.2 ⟨k,ab,rfl⟩);obtain⟨e2,az⟩:=J.aQ.ok (dj k) hm;have Na:ga bT H1 k:=⟨((J.aQ.ok _ hm).lt rfl).2,λc aa e=>(List.pairwise_append.1 J.aQ.apart).2.2 c aa (dj k) (List.mem_map.2 ⟨k,ab,rfl⟩) k e rfl⟩
    have vE:¬iZ k:=λh=>e2 (.inl (.inr h))
    refine⟨Na,vE,λh=>e2 (.inr (pk.GV k Na vE h)),λh=>?_,λh=>e2 (.inl (.inl h)),az⟩
    rcases ah.new k h with(aw|aw)|⟨aw,_⟩
    ·exact e2 (.inr (pk.MY k Na aw))
    ·exact e2 (.inr aw)
    grind
   have vJ:∀q,((mE q\/u9 q)\/vF q)->((ga bT H1 q\/u9 q)\/vF q):=λq aq=>aq.imp_left λh=>h.imp_left λh=>j1 q (.inl (.inl h))
   have aw:bO X (λk=>mE k\/u9 k) M8 ⟨λk=>U6 k\/B k,om n env,[]⟩ n ks GC vF nS Ah ⟨mP,aW⟩ a lv:=by
    refine⟨J.size,J.defs,CN (λk ab=>GZ k (GY k ab)) (λk ab=>(M9 k (GY k ab)).trans (U4 k ab)) (λid l an=>(ah.dB id l ⟨(J.dB id l an).1,(J.dB id l an).2.1,(J.dB id l an).2.2⟩).2.1),ah.heap,⟨⟨lx.below.os,lx.below.tape,lx.below.output,lx.below.size,λk ab=>lx.below.block k (vJ k ab)⟩,λk ab=>lx.base k (vJ k ab),λc aa=>?_,?_⟩,λk ab=>ab.elim (λh=>ah.sub k (.inl h)) (λh=>GZ k (GY k h)),λk ab=>?_,λid l an=>?_,⟨ah.base.os,ah.base.tape,ah.base.output,ah.base.size,λk ab=>ah.base.block k (ab.imp_left λh=>j1 k (.inl (.inl h)))⟩,λi x ak=>(J.eg i x ak).up ⟨GZ,M9⟩⟩
    ·rcases List.mem_append.1 aa with aa|aa
     ·exact(lx.ok c aa).base λb ag ab=>((lx.ok c aa).lt ag).1 (vJ b ab)
     ·obtain⟨k,ab,rfl⟩:=List.mem_map.1 aa
      obtain⟨g1,g2,g3,g4,g5,g6⟩:=n1 k ab;exact⟨λaq=>aq.elim (λh=>h.elim g5 g3) g4,(vB k (.inl ⟨g1,g2⟩)).trans g6⟩
    ·refine List.pairwise_append.2 ⟨lx.apart,(List.pairwise_append.1 J.aQ.apart).2.1,λc aa c' eD q aH bk=>?_⟩
     obtain⟨k,ab,rfl⟩:=List.mem_map.1 eD
     have:k=q:=Option.some.inj bk
     subst this;exact((lx.ok c aa).lt aH).1 (.inl (.inl (n1 k ab).1))
    ·rcases ah.new k ab with(aI|aI)|⟨aI,bb⟩
     ·grind
     ·rcases J.new k aI with(bb|bb)|⟨bb,cl⟩
      ·exact .inl (.inl (pk.MZ k bb))
      ·grind
      ·rcases pk.la k aI with de|⟨de,_⟩
       ·grind
       ·exact .inr ⟨λh=>h.elim (λh=>bb (.inl h)) de,cl.eb (M9 k aI)⟩
     grind
    ·obtain⟨g1,g2,g3⟩:=J.dB id l an
     exact⟨g1,(ah.dB id l ⟨g1,g2,g3⟩).2.1,g3⟩
   refine⟨_,⟨u9,M8,U6,ahR,GC,vF,nS,Ah,aw,λk ab=>?_,λk ab=>(vB k (.inr (GY k ab))).trans (U4 k ab),λk ab=>pk.MZ k (ahO k ab),rfl,λk ab=>GZ k (Ag k ab)⟩,⟨⟨?_,?_,?_,?_,λk ab=>?_⟩,λk ab=>?_⟩⟩
   ·rcases ah.new k ab with(aI|aI)|⟨aI,bb⟩
    ·exact .inl aI
    ·exact(pk.la k aI).imp_right λh=>⟨h.1,h.2.eb (U7 k (j1 k (.inr aI)))⟩
    ·exact .inr ⟨λh=>aI (.inr h),bb.eb (lx.below.block k (.inr ab))⟩
   ·exact lx.below.os.trans (ah.base.os.trans pk.x2.os)
   ·exact lx.below.tape.trans (ah.base.tape.trans pk.x2.tape)
   ·exact lx.below.output.trans (ah.base.output.trans pk.x2.output)
   ·exact le_trans pk.x2.size (le_trans ah.base.size lx.below.size)
   ·rcases ab with ab|⟨ji,jj⟩
    ·exact vB k (.inr (Ag k ab))
    ·exact vB k (.inl ⟨⟨ji,λc aa e=>jj (.inr (.inr ⟨c,mem_append_left _ aa,e⟩))⟩,λh=>jj (.inl (.inr h))⟩)
   ·by_cases bg:bT.heap.size<=k
    ·exact .inr (.inl bg)
    ·have Ms:k<bT.heap.size:=by omega
     by_cases ji:mB (λk=>mE k\/iZ k) c7 H1 ks k
     ·grind
     ·by_cases jj:dR k
      ·grind
      exfalso
      have vG:ga bT H1 k:=⟨Ms,λc aa e=>ji (.inr (.inr ⟨c,mem_append_left _ aa,e⟩))⟩
      have ahT:¬iZ k:=λh=>ji (.inl (.inr h))
      have U8:¬fP k:=λh=>((M7 k).1 h).elim (λh=>ji (.inr (.inl h))) jj
      rcases ab with ab|ab|⟨c,aa,e⟩
      ·rcases ab with ab|ab
       ·exact ji (.inl (.inl ab))
       ·exact U8 (pk.GV k vG ahT ab)
      ·rcases ah.new k ab with(aI|aI)|⟨aI,_⟩
       ·exact U8 (pk.MY k vG aI)
       ·grind
       ·grind
      ·rcases List.mem_append.1 aa with aa|aa
       ·exact((lx.ok c aa).lt e).1 (.inl (.inl vG))
       ·exact ji (.inr (.inr ⟨c,List.mem_append_right _ aa,e⟩))
  rcases aj with⟨rfl,oz,h6,dJ,hw⟩|⟨cQ,hex,aW,oB,dJ,hw⟩
  ·obtain⟨cP,aI,bb⟩:=key _ _ hw
   exact⟨cP,⟨oz,cH,h6,aI⟩,bb⟩
  ·obtain⟨cP,aI,bb⟩:=key _ _ hw
   cases e with
   |normal=>exact absurd rfl cQ
   |ret=>exact⟨cP,⟨.ret,aW,cH,_,rfl,oB,aI⟩,bb⟩
   |exit i=>exact⟨cP,⟨.exit i,aW,cH,_,rfl,oB,aI⟩,bb⟩
   |goto t=>cases hex
   |panic c=>cases hex
   |outgrown=>cases hex
 ·rintro k C b8 bT ab cA ⟨y,ro,aA,J⟩ az
  exact⟨_,_,oo y ro aA,CO k ab cA az J⟩
 ·rintro k c C bT ab cA ⟨e,aW,ro,b8,he,oB,J⟩ az
  have CR:=CO k ab cA az J;have aq:=p4 e aW ro oB;cases e with
  |ret=>cases he;exact wpIn_ret ⟨_,_,aq,CR⟩
  |exit id=>cases he;exact(ds _ 2 _ _ _).2 (JE ⟨_,_,aq,CR⟩)
  |normal=>cases he
  |goto t=>cases he
  |panic c=>cases he
  |outgrown=>cases he
section
section
variable {X:bx} {n:Nat} {α:Type}
theorem ahU(ac:X.a1.ok X.P){E:er}{id:Nat}{gj:Nat->Prop}{p:List (dn (j6 E []))->(Nat->Prop)->(Nat->Prop)->World->Prop}{q:Unit->(Nat->Prop)->World->Prop}(aa:Cons X E id p q):An (Γ:=hl.it (X:=X) (n:=n) gj p q) (some (x1 E id)):=by
 rintro ops Q em y l args f t r b;cases y;unfold x1 at b
 split at b
 ·rename_i x T S
  unfold vI at b
  split at b
  ·rename_i ag ao
   cases b;have P:=eq_of_beq_eq_true ao;subst P;refine⟨_,_,rfl,rfl,?_⟩;intro o rest st d s us af c Y j az aA u N z A a w hi;obtain⟨C,K,I,g,ks,env,B',ai,H,m,ae⟩:=hi
   rcases g with g|⟨g,_⟩
   ·obtain⟨vs,J,U⟩:=w5 ae u N
    obtain⟨e6,ah,G⟩:=ae.has _ _ (UW aA);rw[show e6=_ from G]at ah;have M:gm B' ai B' w:=⟨λ_ h=>h,λk ab=>ae.aQ.below.block k (.inr ab)⟩
    have D:=(B6 S).2;have R:dx (λ_=>.no) B' w (iH E x).1 vs:=D _ _ _ _ (dx.no T (U.up M));have v:cV C K w:=⟨(ae.aQ.below.os).trans ae.base.os,(ae.aQ.below.tape).trans ae.base.tape,(ae.aQ.below.output).trans ae.base.output,le_trans ae.base.size ae.aQ.below.size,λk ab=>(ae.aQ.below.block k (.inl (.inr ab))).trans (ae.base.block k (.inr ab))⟩
    have V:=aa.Ap _ _ _ _ _ g v;have O:xP C I B' w:=⟨ae.sub,λk ab=>(ae.new k ab).imp_right λ⟨aI,bb⟩=>⟨λh=>aI (.inr h),bb.eb (ae.aQ.below.block k (.inr ab))⟩⟩
    obtain⟨fn,tmps,assign,body,W,B⟩:=YieldAt.zero (aa.take _ _ _ _ _ _ _ V O R);have hw:Region.wanted o (yielded ops.toArray a.tmps)=true:=j.1 ae;show(if Region.wanted o (yielded ops.toArray a.tmps)then _ else _);rw[if_pos hw];refine⟨λ_ _=>trivial,?_⟩;have L:(execOp a.eval o).run X.P w=.ok (.round l fn tmps assign body) w:=by
     have Z:=ae.bV.aD (x:=.tmp s) (hr ah);have ad:(us.toArray.map a.eval)=vs.toArray:=R4 ae.bV J
     grind [execOp,resolve,Deferred.ofValue,invoke]
    show Oper.uponIn _ _ _ _ _ _ _ ((o.semAt none a.eval).run X.P w);rw[Oper.semAt_none,L];refine⟨(λh=>by cases h),RoundIn.mono B ?_⟩;intro e i F;rw[j.2]
    rcases F with⟨rfl,cP,rX,cu⟩|⟨rfl,cP,rX,cu⟩
    ·exact A _ _ ⟨cP,i,B',.inl rX,ks,env,B',i,H,⟨m.1,λ_ _ _ h=>h.elim⟩,bO.UU ae cu (aa.lt _ _ _ _ rX) az _⟩
    ·exact z _ _ ⟨cP,i,B',.inr ⟨rfl,rX⟩,ks,env,B',i,H,⟨m.1,λ_ _ _ h=>h.elim⟩,bO.UU ae cu (aa.UX _ _ _ rX) az _⟩
   grind
  ·grind
 ·grind
theorem ahV(c:X.a1.ok X.P){E:er}{id:Nat}{gj:Nat->Prop}{a:List (dn (j6 E []))->(Nat->Prop)->(Nat->Prop)->World->Prop}{b:Unit->(Nat->Prop)->World->Prop}(aa:Cons X E id a b):oD (Γ:=hl.it (X:=X) (n:=n) gj a b) (some (x1 E id)):=
 ⟨ahU c aa,λ_ _=>⟨λi d=>∃D,d=hl.M1 D a b,λi d ⟨D,h⟩=>by rw[h];exact ahG c aa,λf ag j A v m o l w s bc k bP q p e cY g z t u=>
  ahI aa.Ap aa.fx f ag j A v m o l w s bc k bP q p e cY g (λid x rest y r D h=>z id x rest y r _ ⟨D,rfl⟩ h) t u⟩⟩
def Nb{α:Type}:ph (List α)
 |.normal,_,_=>some []
 |.ret,_,_=>some []
 |_,_,_=>none
theorem ahW(A:X.a1.ok X.P)(ah:X.P.follows .mixedOrders=true){N:Nat}{T:List (bA X)}{bI:List (l2 X)}{f:FuncId}{fn:Func}{c:Code}{F:fQ}{gH:dY}{an:bC}{E:er}{l:List (dn (j6 E []))}(aF:X.P.funcs[f]?=some fn)(ag:fn.body=some c)(aR:fn.ntmps=n)(ao:ble (qJ gH).length (n-1)=true)(bc:blt 0 n=true)(Q:fn.results=#[])(h:∀id,kb X N n T bI true c (some (x1 E id)) F ⟨rA 0 (.c (.val (.func (.yield id) #[] #[]))::qJ gH),an⟩ Nb=some l):xV X f gH an l (λx=>(iH E x).1):=by
 intro B ai lb env y Z L M O id p q W z _ G H D I al aj C t o;have r:gm B ai B W:=⟨λ_ h=>h,λk ab=>z.block k ab⟩
 have bl:dx env B W (.c (.val (.func (.yield id) #[] #[]))::qJ gH) (.func (.yield id) #[] #[]::lb):=⟨_,_,rfl,rfl,(BI M).up r⟩
 have af:=bl.length;have hle:(Value.func (.yield id) #[] #[]::lb).length<=n:=by
  rw[af,length_cons];have J:=Nat.le_of_ble_eq_true ao;have U:=dH bc;omega
 have K:=JG (fn:=fn) aR hle _ rfl (vs:=.func (.yield id) #[] #[]::lb);have e:#[Value.func (.yield id) #[] #[]]++lb.toArray=(Value.func (.yield id) #[] #[]::lb).toArray:=by simp
 rw[e];refine CallsIn.mono (R:=λe w'=>∃v,e=.returned v/\∃d,(∃m,p [] d m w')\/q () d w') ((callsIn_wide (n:=1)).2 ((callsIn_wide (n:=0)).1 (callsIn_of_wp_marks aF ag trivial ?_))) (λe w' ⟨v,J,U⟩=>⟨⟨v,J⟩,U⟩);obtain⟨gj,aq⟩:∃gj:Nat->Prop,gj=λk=>k<W.heap.size/\¬∃c∈y,c.has k:=⟨_,rfl⟩
 have ae:bO X (λk=>gj k\/C k) W ⟨B,λ_ _=>False,[]⟩ n [] env B W y ⟨rA 0 (.c (.val (.func (.yield id) #[] #[]))::qJ gH),an⟩ { tmps:=(Value.func (.yield id) #[] #[]::lb).toArray++Array.replicate (fn.ntmps-(Value.func (.yield id) #[] #[]::lb).toArray.size) undef,defers:=[] } W:=by
  refine⟨K.size,rfl,λs sv P=>?_,O.up r,?_,λ_ h=>h,λ_ h=>.inl h,λ_ _ h=>h.elim,cV.refl _ _,λi x ak=>(L i x ak).up r⟩
  rotate_left
  ·rw[map_nil,List.append_nil]
   refine⟨cV.refl _ _,λk ab=>?_,λc aa=>(o.ok c aa).base λb ag ab=>?_,o.apart⟩
   ·rcases ab with(ab|ab)|ab
    ·grind
    ·exact D _ _ _ _ t k ab
    ·exact lt_of_lt_of_le (Z k ab) z.size
   ·rcases ab with(ab|ab)|ab
    ·grind
    ·exact((o.ok c aa).lt ag).1 ab
    ·exact((o.ok c aa).lt ag).1 (al _ _ _ _ t b ab)
  obtain⟨_,v,J,U⟩:=E5 bl P
  grind
 refine wpIn_mono (rV A ah c true true none (λ_=>⟨rfl,rfl⟩) _ (hl.it gj p q) _ (ahV A ⟨G,H,D,I,aj⟩) F _ Nb l (h id) _ _ ⟨C,W,B,.inl t,[],_,_,_,_,⟨λh=>(by cases h),λ_ _ _ h=>h.elim⟩,ae⟩) ?_;rintro e a w ⟨st,ac,⟨V,au,hw,av,ab⟩,hi⟩;obtain⟨d,S,m,j,ks,env',B',Y,H',ar,g⟩:=(hl.it gj p q).fb hw hi;have ad:ac=[]/\(e=.ret\/e=.normal):=by
  cases e<;>first|(cases ab;exact⟨rfl,.inr rfl⟩)|(cases ab;exact⟨rfl,.inl rfl⟩)|cases ab
 obtain⟨rfl,he⟩:=ad;have ap:Sym n (ks.map wQ) (full a) (λk=>(gj k\/d k)\/B' k) Y (ks.map (λk=>bm.obj k (.deferred (some [])))++H') a w:=⟨by have cY:=g.bV;simpa [kf] using cY,g.aQ.perm List.perm_append_comm⟩
 have am:∀w,(results fn a.tmps).run X.P w=.ok (.tuple #[]) w:=λw=>by
  simp[results,Q,go_sem]
 have key:=QE (fn:=fn) (R:=λ_ w'=>∃d,(∃m,p [] d m w')\/q () d w') ks ap (λw hw=>am w) λw hw=>by
  have u:cV d S w:=⟨hw.below.os.trans g.base.os,hw.below.tape.trans g.base.tape,hw.below.output.trans g.base.output,le_trans g.base.size hw.below.size,λk ab=>(hw.below.block k (.inl (.inr ab))).trans (g.base.block k (.inr ab))⟩
  rcases j with j|⟨_,j⟩
  ·exact⟨d,.inl ⟨m,G _ _ _ _ _ j u⟩⟩
  ·exact⟨d,.inr (H _ _ _ _ j u)⟩
 rcases he with rfl|rfl
 ·exact key
 ·exact key
def Nc(N : Nat)(ay : X.a1.ok X.P)(hm : X.P.follows .mixedOrders = true){fn : Func}{c : Code}(C : List vl)(G : List (Nat × fD))(E : er)(T : List (bA X))(bI : List (l2 X))(cf : fQ)(f : FuncId)(m : Bool → dn (sF C (ot G [])) → Option (List (dn (j6 E []))))(aF : X.P.funcs[f]? = some fn)(aV : (fn.name == "runtime.NumGoroutine") = false)(ag : fn.body = some c)(aR : fn.ntmps = n)(ao : ∀ d : dn (sF C (ot G [])), ble (qJ (nO C d).1).length (n - 1) = true)(bc : blt 0 n = true)(av : fn.results = #[])(h:∀id d,kb X N n T bI true c (some (x1 E id)) cf ⟨rA 0 (.c (.val (.func (.yield id) #[] #[]))::qJ (nO C d).1),(kt G (nO C d).2).1⟩ Nb=m (beq id id) d):l2 X:=
 { f:=f,fn:=fn,C:=C,G:=G,E:=E,m:=m true,aF:=aF,bc:=aV,ag:=by rw[ag];rfl,ok:=λd l he=>ahW ay hm aF ag aR (ao d) bc av λid=>(h id d).trans (by rw[show beq id id=true from Nat.beq_refl id];exact he) }
end
abbrev eP:Nat×fD:=(1000000,.cells 123 [.int .i64,.bz (.ax aJ),.bz (.ax aJ),.raw (.ax 2000000),.raw (.ax 2000001),.raw (.dv 1000001),.raw (.ax 1000002)])
abbrev hF:Nat×fD:=(1000000,.cells 84 [.raw (.ptr 1000001 0)])
abbrev gn:Nat×fD:=(1000001,.cells 86 [.raw (.ax 2000000),.raw (.ax 2000001),.raw (.ax 2000002),.raw (.ax 2000003)])
abbrev nC:Nat×fD:=(1000000,.cells 201 [.raw (.ax 1000001),.int .i64])
abbrev x3:Nat×fD:=(9,.cells 225 [.raw (.dv 61)])
abbrev x4:List (Nat×Nat):=[(1000000,1000000),(2000001,2000001),(1000001,1000001),(2000000,2000000),(1000002,1000002)]
abbrev x5:Nat×fD:=(1000000,.cells 86 [.raw (.ax 2000000),.raw (.ax 2000001),.raw (.ax 2000002),.raw (.ax 2000003)])
abbrev Ar:Nat×fD:=(1000000,.cells 160 [.raw (.ax 1000001)])
abbrev As:Nat×fD:=(1000002,.cells 50 [.bz c3])
abbrev Au:Nat×fD:=(1000003,.cells 42 [.bz aJ])
abbrev C6:Nat×fD:=(97,.cells 155 [.raw (.dv 60)])
abbrev C7:Nat×fD:=(1000000,.cells 98 [.fn 30 []])
abbrev G2:Nat×fD:=(1000000,.cells 225 [.raw (.dv 1000001)])
abbrev G4:List (Nat×Nat):=[(1000000,1000000),(1000001,1000001)]
abbrev G5:Nat×fD:=(9,.cells 201 [.raw (.ax 24),.int .i64])
abbrev G6:Nat×fD:=(5,.cells 44 [.raw (.ax 20),.bz cB,.bz aJ,.bz aJ])
abbrev G7:Nat×fD:=(31,.cells 86 [.raw (.ax 21),.raw (.ax 20),.raw (.ax 26),.raw (.ax 29)])
abbrev Nd:Nat×fD:=(34,.cells 123 [.int .i64,.bz (.ax aJ),.bz (.ax aJ),.raw (.ax 19),.raw (.ax 23),.raw (.dv 28),.raw (.ax 32)])
abbrev Va:Nat×fD:=(1000000,.cells 123 [.int .i64,.bz (.ax aJ),.bz (.ax aJ),.raw (.ax 2000000),.raw (.ax 2000001),.raw (.dv 1000002),.raw (.ax 1000003)])
abbrev Vb:Nat×fD:=(24,.cells 123 [.int .i64,.bz (.ax aJ),.bz (.ax aJ),.raw (.ax 42),.raw (.ax 38),.raw (.dv 31),.raw (.ax 29)])
abbrev Vc:List (Nat×Nat):=[(1000000,1000000),(1000001,1000001),(2000001,2000001),(2000000,2000000),(2000002,2000002),(2000003,2000003)]
def Vd(N:Nat)(a:bF):Nat->(Int×Int)->Option (Int):=b4 λd1 cU=>
  cond (decide (d1.2<(a.length:Int))) (ar ((a6 d1.2 a.length)&&(true)) <|
  ar ((bf (d1.1+((a.getD d1.2.toNat []).length:Int)))&&(true)) <|
  ar ((bf (d1.2+1))&&(true)) <|
  cU ((d1.1+((a.getD d1.2.toNat []).length:Int)),(d1.2+1))) (some d1.1)
def Ve(N:Nat)(a:bF):Nat->(Int×Int×bJ)->Option (bJ):=b4 λd2 eL=>
  cond (decide (d2.2.1<(a.length:Int))) (ar ((a6 d2.2.1 a.length)&&(true)) <|
  ar (((decide (0<=d2.1))&&(decide (d2.1<=(d2.2.2.length:Int))))&&((decide (d2.1.toNat+(a.getD d2.2.1.toNat []).length<=d2.2.2.length))&&((bf (d2.1+((a.getD d2.2.1.toNat []).length:Int)))&&(true)))) <|
  ar ((bf (d2.2.1+1))&&(true)) <|
  eL ((d2.1+((a.getD d2.2.1.toNat []).length:Int)),(d2.2.1+1),(d2.2.2.take d2.1.toNat++(a.getD d2.2.1.toNat [])++d2.2.2.drop (d2.1.toNat+(a.getD d2.2.1.toNat []).length)))) (some d2.2.2)
def G8(N:Nat)(b:bF):Option (bJ):=
  (Vd N b N (0,0)).bind λa=>
  ar (((decide (0<=a))&&(decide (a<=a))&&(fh 16 a))&&(true)) <|
  (Ve N b N (0,0,(replicate a.toNat (aJ.zero:ad)))).bind λc=>
  some c
def ahZ(N:Nat):bA bD:=b0 N ba [.c (.bz (.ax aJ))] [] ⟨.a (.c (.bz aJ)),[],[]⟩ [] [] (.s .d (.s .d (.s (.s .d (.b (.eB 0 ⟨[(3,.a (.c (.int .i64))),(12,.a (.c (.int .i64)))],[],[0,10,11],[]⟩ ⟨[(3,.a (.c (.int .i64)))],[],[0],[]⟩ .d))) (.s .d (.s .d (.s (.s .d (.b (.eB 2 ⟨[(6,.a (.c (.raw (.ax 22)))),(7,.a (.c (.int .i64))),(25,.a (.c (.int .i64)))],[(22,.row 58 aJ)],[23,24],[]⟩ ⟨[(6,.a (.c (.raw (.ax 22))))],[(22,.row 58 aJ)],[],[]⟩ .d))) (.s .d (.t [.da 22])))))))) [.tmp 2] [] (λd=>G8 N d.1) func176 ntmps176
def Vf(N:Nat)(a:(List mr)):Nat->(Int×bF)->Option (bF):=b4 λd1 cU=>
  cond (decide (d1.1<(a.length:Int))) (ar ((a6 d1.1 a.length)&&(true)) <|
  ar ((a6 d1.1 d1.2.length)&&(((decide (d1.1.toNat<d1.2.length))&&(true))&&(true))) <|
  ar ((bf (d1.1+1))&&(true)) <|
  cU ((d1.1+1),(d1.2.set d1.1.toNat (a.getD d1.1.toNat qS.zero).2))) (some d1.2)
def G9(N:Nat)(a:(List mr)):Option (bJ):=
  ar (((decide (0<=(a.length:Int)))&&(decide ((a.length:Int)<=(a.length:Int)))&&(fh 24 (a.length:Int)))&&(true)) <|
  (Vf N a N (0,(replicate (a.length:Int).toNat ([]:bJ)))).bind λc=>
  (G8 N c).bind λb=>
  some b
def ah0(N:Nat):bA bD:=b0 N ba [.c (.bz qS)] [] ⟨.a (.c (.bz aJ)),[],[]⟩ [ahZ N] [] (.s .d (.s .d (.s (.s .d (.b (.eB 0 ⟨[(3,.a (.c (.raw (.ax 8)))),(11,.a (.c (.int .i64)))],[(8,.row 42 (.ax aJ))],[9,10],[]⟩ ⟨[(3,.a (.c (.raw (.ax 8))))],[(8,.row 42 (.ax aJ))],[],[]⟩ (.s .d (.s .d (.s (.b (.s (.r [.n 6,.w (.bX 5 qS)]) .d)) .d)))))) (.s (.r [.n 1,.w (.da 8)]) .d)))) [.tmp 2] [] (λd=>G9 N d.1) func112 ntmps112
def Vg(N:Nat) :Nat->(Int×Int×dd)->Option (dd):=b4 λd1 cU=>
  cond (decide (d1.1<d1.2.1)) (ar ((a6 d1.2.1 d1.2.2.length)&&((decide (d1.2.1.toNat<d1.2.2.length))&&((a6 d1.1 d1.2.2.length)&&((decide (d1.1.toNat<d1.2.2.length))&&((a6 d1.1 d1.2.2.length)&&(((decide (d1.1.toNat<d1.2.2.length))&&(true))&&((a6 d1.2.1 (d1.2.2.set d1.1.toNat (d1.2.2.getD d1.2.1.toNat c3.zero)).length)&&(((decide (d1.2.1.toNat<(d1.2.2.set d1.1.toNat (d1.2.2.getD d1.2.1.toNat c3.zero)).length))&&(true))&&(true))))))))) <|
  ar ((bf (d1.1+1))&&((bf (d1.2.1-1))&&(true))) <|
  cU ((d1.1+1),(d1.2.1-1),((d1.2.2.set d1.1.toNat (d1.2.2.getD d1.2.1.toNat c3.zero)).set d1.2.1.toNat (d1.2.2.getD d1.1.toNat c3.zero)))) (some d1.2.2)
def x6(N:Nat)(a:dd):Option (dd):=
  ar ((bf ((a.length:Int)-1))&&(true)) <|
  (Vg N N (0,((a.length:Int)-1),a)).bind λb=>
  some b
def Nf(N:Nat):bA bD:=b0 N ba [.c (.raw (.ax 2000000))] [(2000000,.row 97 c3)] ⟨.cE [],[(2000000,.row 97 c3)],[]⟩ [] [] (.s .d (.b (.eB 0 ⟨[(0,.a (.c (.raw (.ax 2000000)))),(2,.a (.c (.int .i64))),(3,.a (.c (.int .i64)))],[(2000000,.row 97 c3)],[],[]⟩ ⟨[],[(2000000,.row 97 c3)],[],[]⟩ (.s .d (.s (.b (.l1 [8,9,10,11] [.t 0 0,.t 1 0,.t 2 0,.t 3 0,.t 4 0,.t 5 0,.t 6 0,.t 7 3,.t 8 0,.t 9 0,.t 10 0,.t 11 3,.t 12 0,.s 13,.t 14 0,.s 15] [])) .d))))) [] [] (λd=>x6 N d.1) func113 ntmps113
def Ng(N:Nat)(b:(List mr))(d:Int)(c:Int):Nat->(Int×dd)->Option (dd):=b4 λa gJ=>
  cond (decide (a.1<((b.getD c.toNat qS.zero).2.length:Int))) (ar ((a6 a.1 (b.getD c.toNat qS.zero).2.length)&&(true)) <|
  ar ((dk 24 (a.2.length+[(((b.getD c.toNat qS.zero).2.getD a.1.toNat aJ.zero),((decide ((b.getD c.toNat qS.zero).1=1)),d))].length))&&(true)) <|
  ar ((bf (a.1+1))&&(true)) <|
  gJ ((a.1+1),(a.2++[(((b.getD c.toNat qS.zero).2.getD a.1.toNat aJ.zero),((decide ((b.getD c.toNat qS.zero).1=1)),d))]))) (some a.2)
def Vh(N:Nat)(a:(List mr))(b:Int):Nat->(Int×dd)->Option (dd):=b4 λd2 eL=>
  cond (decide (d2.1<(a.length:Int))) (ar ((a6 d2.1 a.length)&&(true)) <|
  (Ng N a b d2.1 N (0,d2.2)).bind λc=>
  ar ((bf (d2.1+1))&&(true)) <|
  eL ((d2.1+1),c)) (some d2.2)
def uu(N:Nat)(a:(List mr))(c:Int):Option (dd):=
  (G9 N a).bind λb=>
  ar (((decide (0<=(b.length:Int)))&&(fh 24 (b.length:Int)))&&(true)) <|
  (Vh N a c N (0,([]:dd))).bind λd=>
  cond (!(decide (c=1))) ((x6 N d).bind λe=>
  some e) (some d)
def Vi(N:Nat):bA bD:=b0 N ba [.c (.bz qS),.c (.int .u8)] [] ⟨.a (.c (.bz c3)),[],[]⟩ [ah0 N,Nf N] [] (.s .d (.s .d (.s .d (.s (.s .d (.b (.eB 0 ⟨[(6,.a (.c (.raw (.ax 15)))),(18,.a (.c (.int .i64)))],[(15,.row 97 c3)],[1,16,17],[]⟩ ⟨[(6,.a (.c (.raw (.ax 15))))],[(15,.row 97 c3)],[1],[]⟩ (.s .d (.s .d (.s (.b (.s (.r [.n 4,.w (.bX 8 qS)]) (.s .d (.b (.eB 2 ⟨[(6,.a (.c (.raw (.ax 15)))),(25,.a (.c (.int .i64)))],[(15,.row 97 c3)],[1,8,16,17,18,23,24],[]⟩ ⟨[(6,.a (.c (.raw (.ax 15))))],[(15,.row 97 c3)],[1,16,17,18],[]⟩ (.s .d (.s .d (.s (.b (.s (.r [.n 4,.w (.bX 10 aJ)]) .d)) .d)))))))) .d)))))) (.s (.s .d (.c (.r [.n 1,.c [(2000000,15)]]) .d)) (.s .d (.t [.da 15]))))))) [.tmp 4] [] (λd=>uu N d.1 d.2.1) func71 ntmps71
def Av(N:Nat)(a:Int):Option (Bool):=
  some (cond (decide (a=0)) true (decide (a=1)))
def Nh(N:Nat):bA bD:=b0 N ba [.c (.int .u8)] [] ⟨.a (.c .bool),[],[]⟩ [] [] (.d) [.tmp 2] false (λd=>Av N d.1) func111 ntmps111
def Aw(N:Nat)(a:ad):Option (Bool):=
  some (cond (cond (cond (decide (1<=a.1)) (decide (a.1<=6)) false) (decide (0<=a.2)) false) (decide (a.2<2048)) false)
def Ni(N:Nat):bA bD:=b0 N ba [.cK aJ] [] ⟨.a (.c .bool),[],[]⟩ [] [] (.s (.r [.n 2,.w (.bX 1 aJ)]) .d) [.tmp 2] false (λd=>Aw N d.1) func83 ntmps83
def C8(N:Nat)(a:b5):Option (Bool):=
  (Aw N a.1).bind λb=>
  Option.bind (cond b (Av N a.2.2) (some false)) λc=>
  some (cond b c false)
def Vj(N:Nat):bA bD:=b0 N ba [.cK c3] [] ⟨.a (.c .bool),[],[]⟩ [Ni N,Nh N] [] (.s (.r [.n 2,.w (.bX 1 c3)]) .d) [.tmp 2] false (λd=>C8 N d.1) func85 ntmps85
def x7(N:Nat)(a:Int):Option (Bool):=
  some (cond (cond (!(decide ((tmod a 2)=0))) (decide ((-13:Int)<=a)) false) (decide (a<=179)) false)
def Vk(N:Nat):bA bD:=b0 N ba [.c (.int .i64)] [] ⟨.a (.c .bool),[],[]⟩ [] [] (.d) [.tmp 2] false (λd=>x7 N d.1) func84 ntmps84
def C9(N:Nat)(a:b5)(b:b5):Option (Bool):=
  (Av N a.2.2).bind λc=>
  Option.bind (cond (!(!c)) (Av N b.2.2) (some false)) λd=>
  cond (cond (cond (!c) true (!d)) true (decide (a.2.2=b.2.2))) (some false) (some (aZ.beq c3 a (b.1,(b.2.1,a.2.2))))
def Vl(N:Nat):bA bD:=b0 N ba [.cK c3,.cK c3] [] ⟨.a (.c .bool),[],[]⟩ [Nh N] [] (.s (.r [.n 3,.w (.bX 2 c3)]) .d) [.tmp 4] false (λd=>C9 N d.1 d.2.1) func86 ntmps86
def Vm(N:Nat)(a:dd):Nat->(Int×dd)->Option (dd):=b4 λd1 cU=>
  cond (decide (d1.1<(a.length:Int))) (ar ((a6 d1.1 a.length)&&(true)) <|
  ar ((ew (decide (0<(d1.2.length:Int))) (bf ((d1.2.length:Int)-1)))&&((ew (decide (0<(d1.2.length:Int))) (a6 ((d1.2.length:Int)-1) d1.2.length))&&((ew (decide (0<(d1.2.length:Int))) (decide (((d1.2.length:Int)-1).toNat<d1.2.length)))&&(true)))) <|
  Option.bind (cond (decide (0<(d1.2.length:Int))) (C9 N (d1.2.getD ((d1.2.length:Int)-1).toNat c3.zero) (a.getD d1.1.toNat c3.zero)) (some false)) λb=>
  cond (cond (decide (0<(d1.2.length:Int))) b false) (ar ((bf ((d1.2.length:Int)-1))&&(((decide (0<=((d1.2.length:Int)-1)))&&(decide (((d1.2.length:Int)-1)<=(d1.2.length:Int))))&&(true))) <|
  ar ((bf (d1.1+1))&&(true)) <|
  cU ((d1.1+1),(d1.2.take ((d1.2.length:Int)-1).toNat))) (ar ((dk 24 (d1.2.length+[(a.getD d1.1.toNat c3.zero)].length))&&(true)) <|
  ar ((bf (d1.1+1))&&(true)) <|
  cU ((d1.1+1),(d1.2++[(a.getD d1.1.toNat c3.zero)])))) (some d1.2)
def Da(N:Nat)(a:dd)(c:dd):Option (dd):=
  (Vm N a N (0,c)).bind λb=>
  some b
def Vn(N:Nat):bA bD:=b0 N ba [.c (.raw (.ax 1000000)),.c (.bz c3)] [(1000000,.row 97 c3)] ⟨.a (.c (.raw (.ax 1000000))),[(1000000,.row 97 c3)],[]⟩ [Vl N] [] (.s .d (.s (.s .d (.b (.eB 0 ⟨[(0,.a (.c (.raw (.ax 1000000)))),(10,.a (.c (.int .i64)))],[(1000000,.row 97 c3)],[8,9],[]⟩ ⟨[(0,.a (.c (.raw (.ax 1000000))))],[(1000000,.row 97 c3)],[],[]⟩ (.s .d (.s .d (.s (.b (.s (.r [.n 4,.w (.bX 6 c3)]) (.s .d (.s (.l1 [8] [.t 0 0,.t 1 0,.t 2 0,.t 3 0,.t 4 0,.t 5 0,.t 6 0,.t 7 3,.t 8 1,.g 9,.t 10 0] []) .d)))) .d)))))) .d)) [.tmp 4] [] (λd=>Da N d.1 d.2.1) func177 ntmps177
def x8(N:Nat)(a:dd):Option (dd×Nat):=
  ar (((decide (0<=(a.length:Int)))&&(decide ((a.length:Int)<=(a.length:Int)))&&(fh 24 (a.length:Int)))&&(true)) <|
  ar ((beq a.length (replicate (a.length:Int).toNat (c3.zero:b5)).length)&&(true)) <|
  some (a,(a.length:Int).toNat)
def Nj(N:Nat):bA bD:=b0 N ba [.c (.bz c3)] [] ⟨.a (.c (.iG c3)),[],[]⟩ [] [] (.s .d (.s .d (.s .d (.s .d (.t [.da 6]))))) [.tmp 2] ([],0) (λd=>x8 N d.1) func178 ntmps178
def Vo(N:Nat)(a:aU):Nat->Int->Option ((Unit)⊕(Int)):=b4 λd2 eL=>
  cond (decide (d2<(a.2.2.2.2.length:Int))) (ar ((a6 d2 a.2.2.2.2.length)&&(true)) <|
  (C8 N (a.2.2.2.2.getD d2.toNat c3.zero)).bind λb=>
  ar ((ew ((!(!b))&&(decide (0<d2))) (bf (d2-1)))&&((ew ((!(!b))&&(decide (0<d2))) (a6 (d2-1) a.2.2.2.2.length))&&(true))) <|
  Option.bind (cond ((!(!b))&&(decide (0<d2))) (C9 N (a.2.2.2.2.getD (d2-1).toNat c3.zero) (a.2.2.2.2.getD d2.toNat c3.zero)) (some false)) λc=>
  cond (cond (!b) true (cond (decide (0<d2)) c false)) (some (.inr 1)) (ar ((bf (d2+1))&&(true)) <|
  eL (d2+1))) (some (.inl ()))
def uv(N:Nat)(a:aU):Option (Int):=
  cond (cond (decide (a.2.2.1<0)) true (decide (2048<a.2.2.1))) (some 1) (cond (!a.1) (cond (cond (cond (!(decide (a.2.1=0))) true a.2.2.2.1) true (decide (0<(a.2.2.2.2.length:Int)))) (some 1) (some 0)) ((x7 N a.2.1).bind λc=>
  cond (cond (!c) true (decide (4096<(a.2.2.2.2.length:Int)))) (some 1) ((Vo N a N 0).bind λ(b:(Unit)⊕(Int))=>
  sm b (λb=>
  some 0) (λq=>some q))))
def Db(N:Nat):bA bD:=b0 N ba [.cK bU] [] ⟨.a (.c (.int .i64)),[],[]⟩ [Vk N,Vj N,Vl N] [] (.s (.r [.n 2,.w (.bX 1 bU)]) (.s .d (.s .d (.s .d (.s (.s .d (.b (.ff 0 ⟨[(42,.a (.c (.int .i64)))],[],[1,40,41],[]⟩ ⟨[],[],[],[]⟩ (.s .d (.s .d (.s (.b (.s (.r [.n 6,.w (.bX 4 c3)]) (.s (.o [] [.t 0 1,.c 1 [],.f,.t 2 0,.t 3 0,.t 4 0,.t 5 0,.t 6 0,.t 7 0,.t 8 1,.t 9 0,.t 10 0,.t 11 0,.t 12 1,.t 13 1,.g 14,.t 15 0,.t 16 0] []) .d))) .d)))))) .d))))) [.tmp 2] 0 (λd=>uv N d.1) func44 ntmps44
def Ha(N:Nat)(a:dd):Option (dd×Nat):=
  ar (((decide (0<=(a.length:Int)))&&(fh 24 (a.length:Int)))&&(true)) <|
  (Da N a ([]:dd)).bind λc=>
  (x8 N c).bind λb=>
  some (b.1,b.2)
def ah1(N:Nat):bA bD:=b0 N ba [.c (.bz c3)] [] ⟨.a (.c (.iG c3)),[],[]⟩ [Vn N,Nj N] [] (.s .d (.s (.r [.n 4,.c [(1000000,5)],.w (.da 5)]) .d)) [.tmp 2] ([],0) (λd=>Ha N d.1) func226 ntmps226
def Vp(N:Nat)(b:dd):Nat->Int->Option ((Unit)⊕(aU×Int)):=b4 λa gJ=>
  cond (decide (a<(b.length:Int))) (ar ((a6 a b.length)&&(true)) <|
  (C8 N (b.getD a.toNat c3.zero)).bind λc=>
  cond (!c) (some (.inr ((false,(0,(0,(false,([]:dd))))),1))) (ar ((bf (a+1))&&(true)) <|
  gJ (a+1))) (some (.inl ()))
def uw(N:Nat)(a:aU)(d:Int)(b:dd):Option (aU×Int):=
  (uv N a).bind λc=>
  cond (!(decide (c=0))) (some ((false,(0,(0,(false,([]:dd))))),c)) ((x7 N d).bind λg=>
  cond (!g) (some ((false,(0,(0,(false,([]:dd))))),1)) ((Vp N b N 0).bind λ(e:(Unit)⊕(aU×Int))=>
  sm e (λe=>
  cond (!a.1) (some ((false,(0,(0,(false,([]:dd))))),12)) (ar ((bf ((a.2.2.2.2.length:Int)+(b.length:Int)))&&(((decide (0<=((a.2.2.2.2.length:Int)+(b.length:Int))))&&(fh 24 ((a.2.2.2.2.length:Int)+(b.length:Int))))&&(true))) <|
  ar ((dk 24 (([]:dd).length+a.2.2.2.2.length))&&(true)) <|
  (Da N b (([]:dd)++a.2.2.2.2)).bind λf=>
  cond (decide (4096<(f.length:Int))) (some ((false,(0,(0,(false,([]:dd))))),3)) ((x8 N f).bind λh=>
  some ((a.1,(d,(a.2.2.1,(a.2.2.2.1,h.1)))),0)))) (λq=>some q)))
def Nk(N:Nat):bA bD:=b0 N ba [.cK bU,.c (.int .i64),.c (.bz c3)] [] ⟨.cE [.cK bU,.c (.int .i64)],[],[]⟩ [Db N,Vk N,Vj N,Vn N,Nj N] [] (.s .d (.s .d (.s .d (.s (.s .d (.b (.ff 0 ⟨[(3,.a (.c (.raw (.ptr 3 0)))),(6,.a (.c (.raw (.ptr 6 0)))),(24,.a (.c (.int .i64)))],[],[1,2,22,23],[3,6]⟩ ⟨[(3,.a (.c (.raw (.ptr 3 0)))),(6,.a (.c (.raw (.ptr 6 0))))],[],[1,2],[3,6]⟩ (.s .d (.s .d (.s (.b (.s (.r [.n 4,.w (.bX 10 c3)]) .d)) .d)))))) (.s .d (.s .d (.s (.r [.n 5,.c [(1000000,43)]]) (.s .d (.s .d (.s (.r [.n 1,.w (.da 43)]) .d)))))))))) [.cell 6 52,.tmp 7] (bU.zero,0) (λd=>uw N d.1 d.2.1 d.2.2.1) func114 ntmps114
def x9(N:Nat)(a:aU)(c:Int):Option (aU×Int):=
  (uv N a).bind λb=>
  cond (!(decide (b=0))) (some ((false,(0,(0,(false,([]:dd))))),b)) ((Av N c).bind λd=>
  cond (!d) (some ((false,(0,(0,(false,([]:dd))))),1)) (cond a.1 (some ((false,(0,(0,(false,([]:dd))))),12)) (cond (decide (c=1)) (some ((true,(179,(a.2.2.1,(true,([]:dd))))),0)) (some ((true,((-13:Int),(a.2.2.1,(true,([]:dd))))),0)))))
def Vq(N:Nat):bA bD:=b0 N ba [.cK bU,.c (.int .u8)] [] ⟨.cE [.cK bU,.c (.int .i64)],[],[]⟩ [Db N,Nh N] [] (.s (.r [.n 3,.w (.bX 2 bU)]) .d) [.cell 4 52,.tmp 5] (bU.zero,0) (λd=>x9 N d.1 d.2.1) func68 ntmps68
def rY(N:Nat)(a:aU):Option (aU×KY×Int):=
  (uv N a).bind λb=>
  cond (!(decide (b=0))) (some ((false,(0,(0,(false,([]:dd))))),(0,(false,([]:dd))),b)) (cond (!a.1) (some ((false,(0,(0,(false,([]:dd))))),(0,(false,([]:dd))),12)) (cond (decide (a.2.2.1=2048)) (some ((false,(0,(0,(false,([]:dd))))),(0,(false,([]:dd))),3)) ((x8 N a.2.2.2.2).bind λc=>
  ar ((bf (a.2.2.1+1))&&(true)) <|
  some ((true,(a.2.1,((a.2.2.1+1),(false,([]:dd))))),(a.2.2.1,(a.2.2.2.1,c.1)),0))))
def Hb(N:Nat)(a:aU):Option (aU×KY×Int):=
  (uv N a).bind λb=>
  cond (!(decide (b=0))) (some ((false,(0,(0,(false,([]:dd))))),(0,(false,([]:dd))),b)) (cond (!a.1) (some ((false,(0,(0,(false,([]:dd))))),(0,(false,([]:dd))),12)) (cond (decide (a.2.2.1=2048)) (some ((false,(0,(0,(false,([]:dd))))),(0,(false,([]:dd))),3)) (hP ((x8 N a.2.2.2.2).bind λc=>
  ar ((bf (a.2.2.1+1))&&(true)) <|
  some ((true,(a.2.1,((a.2.2.1+1),(false,([]:dd))))),(a.2.2.1,(a.2.2.2.1,c.1)),0)))))
theorem ah2:Hb=rY:=by
 unfold Hb rY;simp only[jO,lZ]
def Vr(N:Nat):bA bD:=l4 N ba [.cK bU] [] ⟨.cE [.cK bU,.cK xg,.c (.int .i64)],[],[]⟩ [Db N,Nj N] [] (.s (.r [.n 4,.w (.bX 1 bU)]) (.s .d (.s .d (.s .d (.s (.dm [] [] (.b [.t 0 0,.t 1 1,.t 2 0,.t 3 1,.t 4 0,.t 5 1] 6 8 [] [] none none (.f [.t 7 0,.s 8,.s 9]) (.f [.c 6 [],.t 7 0,.s 9])) [(.bX 6 xg)] false) (.s (.o [] [.t 0 0,.t 1 1,.t 2 0,.t 3 1,.t 4 0,.t 5 0,.t 6 1,.s 7,.s 8,.t 9 0] []) .d)))))) [.cell 2 52,.cell 3 195,.tmp 4] (bU.zero,xg.zero,0) (λd=>Hb N d.1) (λd=>rY N d.1) (λd=>(by rw[ah2]:Hb N d.1=rY N d.1)) func115 ntmps115
def Vs(N:Nat)(a:bY):Nat->(Int×Int)->Option (Int):=b4 λd1 cU=>
  cond (decide (d1.2<(a.length:Int))) (ar ((a6 d1.2 a.length)&&(true)) <|
  ar ((bf (d1.1+((a.getD d1.2.toNat []).length:Int)))&&(true)) <|
  ar ((bf (d1.2+1))&&(true)) <|
  cU ((d1.1+((a.getD d1.2.toNat []).length:Int)),(d1.2+1))) (some d1.1)
def ya(N:Nat)(a:bY):Option (Int):=
  (Vs N a N (0,0)).bind λb=>
  some b
def Vt(N:Nat):bA bD:=b0 N ba [.c (.bz (.ax bW))] [] ⟨.a (.c (.int .i64)),[],[]⟩ [] [] (.s .d (.s .d (.s (.s .d (.b (.eB 0 ⟨[(3,.a (.c (.int .i64))),(8,.a (.c (.int .i64)))],[],[6,7],[]⟩ ⟨[(3,.a (.c (.int .i64)))],[],[],[]⟩ .d))) .d))) [.tmp 2] 0 (λd=>ya N d.1) func150 ntmps150
def Vu(N:Nat)(a:List (Bool×cq)):Nat->(Int×Int×(List (Bool×cq)))->Option (Int×(List (Bool×cq))):=b4 λd1 cU=>
  cond (decide (d1.2.1<(a.length:Int))) (ar ((a6 d1.2.1 d1.2.2.length)&&(((decide (d1.2.1.toNat<d1.2.2.length))&&(d1.2.2.getD d1.2.1.toNat (false,[])).1)&&(true))) <|
  ar ((bf (d1.1+((d1.2.2.getD d1.2.1.toNat (false,[])).2.length:Int)))&&(true)) <|
  ar ((bf (d1.2.1+1))&&(true)) <|
  cU ((d1.1+((d1.2.2.getD d1.2.1.toNat (false,[])).2.length:Int)),(d1.2.1+1),(d1.2.2.set d1.2.1.toNat (true,(d1.2.2.getD d1.2.1.toNat (false,[])).2)))) (some (d1.1,d1.2.2))
def Dc(N:Nat)(a:List (Bool×cq)):Option (Int×(List (Bool×cq))):=
  (Vu N a N (0,0,a)).bind λb=>
  some (b.1,b.2)
def ah3(N:Nat):bA bD:=b0 N ba [.c (.raw (.ax 2000000))] [(2000000,.bS 90 93 bW)] ⟨.a (.c (.int .i64)),[(2000000,.bS 90 93 bW)],[]⟩ [] [] (.s .d (.s .d (.s (.s .d (.b (.eB 0 ⟨[(3,.a (.c (.int .i64))),(6,.a (.c (.raw (.ax 2000000)))),(8,.a (.c (.int .i64)))],[(2000000,.bS 90 93 bW)],[7],[]⟩ ⟨[(3,.a (.c (.int .i64)))],[(2000000,.bS 90 93 bW)],[],[]⟩ (.s .d (.s .d (.s (.b (.s (.r [.n 1,.t .F7]) (.r [.n 5,.w (.t (.close 2000000 11))]))) .d)))))) .d))) [.tmp 2] (0,[]) (λd=>Dc N d.1) func150 ntmps150
def Hc(N:Nat)(a:cq):Option (cq×Nat):=
  ar (((decide (0<=(a.length:Int)))&&(decide ((a.length:Int)<=(a.length:Int)))&&(decide ((a.length:Int)<=(a.length:Int))))&&(true)) <|
  some ((a.take (a.length:Int).toNat),(a.length:Int).toNat)
def ah4(N:Nat):bA bD:=b0 N ba [.c (.bz bW)] [] ⟨.a (.c (.iG bW)),[],[]⟩ [] [] (.d) [.tmp 2] ([],0) (λd=>Hc N d.1) func29 ntmps29
def Vv(N:Nat) :Option ((List (Bool×cq))):=
  some (replicate (6:Int).toNat ((true,[]):Bool×cq))
def ah5(N:Nat):bA bD:=b0 N ba [] [] ⟨.a (.c (.raw (.ax 1))),[(1,.bS 90 93 bW)],[]⟩ [] [] (.s .d (.s (.r [.t .mk]) .d)) [.tmp 0] [] (λd=>Vv N ) func66 ntmps66
def Ax(N:Nat) :Option (dI×bJ×bJ×(List (Bool×cq))):=
  (Vv N).bind λa=>
  some (([]:dI),([]:bJ),([]:bJ),a)
def Vw(N:Nat):bA bD:=b0 N ba [] [] ⟨.a (.agg [.raw (.ax 1),.bz cB,.bz aJ,.bz aJ]),[(1,.bS 90 93 bW)],[]⟩ [ah5 N] [] (.s .d (.s (.r [.c [(1,1)]]) .d)) [.cell 0 44] ([],[],[],[]) (λd=>Ax N ) func21 ntmps21
end
section
open Go.RowKit Go.Shelf
section
set_option maxHeartbeats 1000000
set_option maxRecDepth 100000
end
def Nl(N:Nat)(a:Int):Option (Bool):=
  some (!(decide (a=a)))
def ah6(N:Nat):bA bD:=b0 N ba [.c (.int .u8)] [] ⟨.a (.c .bool),[],[]⟩ [] [] (.d) [.tmp 2] false (λd=>Nl N d.1) func162 ntmps162
def Vx(N:Nat)(a:Int)(b:Int):Option (Int):=
  (Nl N a).bind λd=>
  (Nl N b).bind λc=>
  cond d (cond c (some 0) (some (-1:Int))) (cond c (some 1) (cond (decide (a<b)) (some (-1:Int)) (cond (decide (b<a)) (some 1) (some 0))))
def ah7(N:Nat):bA bD:=b0 N ba [.c (.int .u8),.c (.int .u8)] [] ⟨.a (.c (.int .i64)),[],[]⟩ [ah6 N] [] (.d) [.tmp 4] 0 (λd=>Vx N d.1 d.2.1) func105 ntmps105
def Dd(N:Nat)(a:Int):Option (Bool):=
  some (!(decide (a=a)))
def ah8(N:Nat):bA bD:=b0 N ba [.c (.int .i64)] [] ⟨.a (.c .bool),[],[]⟩ [] [] (.d) [.tmp 2] false (λd=>Dd N d.1) func163 ntmps163
def De(N:Nat)(a:Int)(b:Int):Option (Int):=
  (Dd N a).bind λd=>
  (Dd N b).bind λc=>
  cond d (cond c (some 0) (some (-1:Int))) (cond c (some 1) (cond (decide (a<b)) (some (-1:Int)) (cond (decide (b<a)) (some 1) (some 0))))
def Vy(N:Nat):bA bD:=b0 N ba [.c (.int .i64),.c (.int .i64)] [] ⟨.a (.c (.int .i64)),[],[]⟩ [ah8 N] [] (.d) [.tmp 4] 0 (λd=>De N d.1 d.2.1) func106 ntmps106
def ah9(N:Nat)(a:bR):Nat->Int->Option ((Unit)⊕(Int)):=b4 λd1 cU=>
  cond (decide (d1<(a.length:Int))) (ar ((a6 d1 a.length)&&(true)) <|
  cond (!(decide ((a.getD d1.toNat 0)=0))) (some (.inr (a.getD d1.toNat 0))) (ar ((bf (d1+1))&&(true)) <|
  cU (d1+1))) (some (.inl ()))
def Nn(N:Nat)(b:bR):Option (Int):=
  (ah9 N b N 0).bind λ(a:(Unit)⊕(Int))=>
  sm a (λa=>
  some 0) (λq=>some q)
def Vz(N:Nat):bA bD:=b0 N ba [.c (.bz (.int .i64))] [] ⟨.a (.c (.int .i64)),[],[]⟩ [] [] (.s .d (.s .d (.s (.s .d (.b (.ff 0 ⟨[(8,.a (.c (.int .i64)))],[],[3,6,7],[]⟩ ⟨[],[],[3],[]⟩ .d))) .d))) [.tmp 2] 0 (λd=>Nn N d.1) func104 ntmps104
def vK(N:Nat)(a:ad)(b:ad):Option (Int):=
  (Vx N a.1 b.1).bind λc=>
  (De N a.2 b.2).bind λd=>
  (Nn N [c,d]).bind λe=>
  some e
def Df(N:Nat):bA bD:=b0 N ba [.cK aJ,.cK aJ] [] ⟨.a (.c (.int .i64)),[],[]⟩ [ah7 N,Vy N,Vz N] [] (.s (.r [.n 3,.w (.bX 2 aJ),.w (.bX 3 aJ)]) (.s (.o [] [.t 0 0,.t 1 1,.t 2 0,.t 3 1,.t 5 0,.t 6 1,.t 7 0,.t 8 1,.c 4 [],.c 9 [],.s 10,.z 15,.c 11 [],.t 12 0] []) .d)) [.tmp 4] 0 (λd=>vK N d.1 d.2.1) func62 ntmps62
def VA(N:Nat)(a:cb)(b:cb):Option (Int):=
  (vK N a.1 b.1).bind λc=>
  (vK N a.2.1 b.2.1).bind λd=>
  (Nn N [c,d]).bind λe=>
  some e
def aia(N:Nat):bA bD:=b0 N ba [.cK cB,.cK cB] [] ⟨.a (.c (.int .i64)),[],[]⟩ [Df N,Vz N] [] (.s (.r [.n 3,.w (.bX 2 cB),.w (.bX 3 cB)]) (.s (.o [] [.t 0 0,.t 1 1,.t 2 0,.t 3 1,.t 5 0,.t 6 1,.t 7 0,.t 8 1,.c 4 [],.c 9 [],.s 10,.z 15,.c 11 [],.t 12 0] []) .d)) [.tmp 4] 0 (λd=>VA N d.1 d.2.1) func139 ntmps139
def Dg(N:Nat)(b:bY)(a:ad):Option (Bool):=
  ar ((ew (decide (1<=a.1)) (bf a.1))&&((ew (cond (cond (decide (1<=a.1)) (decide (a.1<=(b.length:Int))) false) (decide (0<=a.2)) false) (a6 (IntKind.wrap .u8 (a.1-1)) b.length))&&(true))) <|
  some (cond (cond (cond (decide (1<=a.1)) (decide (a.1<=(b.length:Int))) false) (decide (0<=a.2)) false) (decide (a.2<((b.getD (IntKind.wrap .u8 (a.1-1)).toNat []).length:Int))) false)
def aib(N:Nat):bA bD:=b0 N ba [.c (.bz (.ax bW)),.cK aJ] [] ⟨.a (.c .bool),[],[]⟩ [] [] (.s (.r [.n 2,.w (.bX 3 aJ)]) (.s (.o [] [.t 0 0,.t 1 1,.t 2 0,.t 3 0,.t 4 0,.t 5 1,.t 6 0,.t 7 0,.t 8 0,.t 9 0,.t 10 0,.t 11 0,.t 12 0,.t 13 1,.t 14 0,.t 15 0,.t 16 0,.t 17 0,.t 18 1,.t 19 0,.t 20 0,.t 21 1,.t 22 0,.t 23 0,.t 24 1,.t 25 0,.t 26 0,.t 27 0,.t 28 0] []) .d)) [.tmp 4] false (λd=>Dg N d.1 d.2.1) func225 ntmps225
def VB(N:Nat)(b:bY)(a:a7):Nat->Int->Option ((Unit)⊕(Bool)):=b4 λd1 cU=>
  cond (decide (d1<(a.2.2.1.length:Int))) (ar ((a6 d1 a.2.2.1.length)&&(true)) <|
  (Dg N b (a.2.2.1.getD d1.toNat aJ.zero)).bind λc=>
  cond (!c) (some (.inr false)) (ar ((bf (d1+1))&&(true)) <|
  cU (d1+1))) (some (.inl ()))
def VC(N:Nat)(c:bY)(b:a7):Nat->Int->Option ((Unit)⊕(Bool)):=b4 λa gJ=>
  cond (decide (a<(b.2.2.2.length:Int))) (ar ((a6 a b.2.2.2.length)&&(true)) <|
  (Dg N c (b.2.2.2.getD a.toNat c3.zero).1).bind λd=>
  cond (cond (!d) true (cond (!(decide ((b.2.2.2.getD a.toNat c3.zero).2.2=0))) (!(decide ((b.2.2.2.getD a.toNat c3.zero).2.2=1))) false)) (some (.inr false)) (ar ((bf (a+1))&&(true)) <|
  gJ (a+1))) (some (.inl ()))
def Hd(N:Nat)(b:bY)(a:a7):Option (Bool):=
  cond (cond (!(decide (a.1=0))) (!(decide (a.1=1))) false) (some false) (cond (cond (decide (4<(a.2.2.1.length:Int))) true (decide (4096<(a.2.2.2.length:Int)))) (some false) ((VB N b a N 0).bind λ(c:(Unit)⊕(Bool))=>
  sm c (λc=>
  (VC N b a N 0).bind λ(d:(Unit)⊕(Bool))=>
  sm d (λd=>
  (Ha N a.2.2.2).bind λe=>
  some (decide ((e.1.length:Int)=(a.2.2.2.length:Int)))) (λq=>some q)) (λq=>some q)))
def aic(N:Nat):bA bD:=b0 N ba [.c (.bz (.ax bW)),.cK bW] [] ⟨.a (.c .bool),[],[]⟩ [aib N,ah1 N] [] (.s (.r [.n 2,.w (.bX 3 bW)]) (.s .d (.s .d (.s (.s .d (.b (.ff 0 ⟨[(30,.a (.c (.int .i64)))],[],[0,3,28,29],[]⟩ ⟨[],[],[0,3],[]⟩ (.s .d (.s .d (.s (.b (.s (.r [.n 4,.w (.bX 6 aJ)]) .d)) .d)))))) (.s (.s .d (.b (.ff 2 ⟨[(42,.a (.c (.int .i64)))],[],[0,3,40,41],[]⟩ ⟨[],[],[3],[]⟩ (.s .d (.s .d (.s (.b (.s (.r [.n 4,.w (.bX 8 c3)]) .d)) .d)))))) (.s (.o [] [.t 0 0,.t 1 1,.t 4 0,.t 5 1,.t 6 0,.c 2 [],.t 3 0,.t 7 0,.t 8 0] []) .d)))))) [.tmp 4] false (λd=>Hd N d.1 d.2.1) func211 ntmps211
def VD(N:Nat)(a:bY)(b:Int):Nat->Int->Option ((Unit)⊕((Unit)⊕(Int))):=b4 λd2 eL=>
  cond (decide (d2<((a.getD b.toNat []).length:Int))) (ar ((a6 d2 (a.getD b.toNat []).length)&&(true)) <|
  (Hd N a ((a.getD b.toNat []).getD d2.toNat bW.zero)).bind λc=>
  cond (cond (!c) true (cond (decide (d2=0)) (!((a.getD b.toNat []).getD d2.toNat bW.zero).2.1) false)) (some (.inr (.inr 1))) (ar ((bf (d2+1))&&(true)) <|
  eL (d2+1))) (some (.inl ()))
def VE(N:Nat)(a:bY):Nat->Int->Option ((Unit)⊕(Int)):=b4 λd1 cU=>
  cond (decide (d1<(a.length:Int))) (ar ((a6 d1 a.length)&&(true)) <|
  (VD N a d1 N 0).bind λ(b:(Unit)⊕((Unit)⊕(Int)))=>
  sm b (λb=>
  ar ((bf (d1+1))&&(true)) <|
  cU (d1+1)) (λq=>some q)) (some (.inl ()))
def He(N:Nat)(b:bY):Option (Int):=
  (VE N b N 0).bind λ(a:(Unit)⊕(Int))=>
  sm a (λa=>
  some 0) (λq=>some q)
def aid(N:Nat):bA bD:=b0 N ba [.c (.bz (.ax bW))] [] ⟨.a (.c (.int .i64)),[],[]⟩ [aic N] [] (.s .d (.s (.s .d (.b (.ff 0 ⟨[(9,.a (.c (.int .i64)))],[],[0,7,8],[]⟩ ⟨[],[],[],[]⟩ (.s .d (.s .d (.s (.b (.s .d (.s .d (.b (.ff 2 ⟨[(15,.a (.c (.int .i64)))],[],[0,7,8,9,13,14],[]⟩ ⟨[],[],[0,7,8,9],[]⟩ (.s .d (.s .d (.s (.b (.s (.r [.n 6,.w (.bX 6 bW)]) .d)) .d)))))))) .d)))))) .d)) [.tmp 2] 0 (λd=>He N d.1) func189 ntmps189
def Ay(N:Nat)(a:a7)(b:Int):Option (ad):=
  cond (decide (b<(a.2.2.1.length:Int))) (ar ((a6 b a.2.2.1.length)&&(true)) <|
  some (a.2.2.1.getD b.toNat aJ.zero)) (ar ((bf (b-(a.2.2.1.length:Int)))&&((a6 (b-(a.2.2.1.length:Int)) a.2.2.2.length)&&(true))) <|
  some (a.2.2.2.getD (b-(a.2.2.1.length:Int)).toNat c3.zero).1)
def aie(N:Nat):bA bD:=b0 N ba [.cK bW,.c (.int .i64)] [] ⟨.a (.cK aJ),[],[]⟩ [] [] (.s (.r [.n 2,.w (.bX 2 bW)]) .d) [.cell 4 58] aJ.zero (λd=>Ay N d.1 d.2.1) func212 ntmps212
def Hf(N:Nat)(a:bJ):Option (bJ×Nat):=
  ar (((decide (0<=(a.length:Int)))&&(decide ((a.length:Int)<=(a.length:Int)))&&(fh 16 (a.length:Int)))&&(true)) <|
  ar ((beq a.length (replicate (a.length:Int).toNat (aJ.zero:ad)).length)&&(true)) <|
  some (a,(a.length:Int).toNat)
def aif(N:Nat):bA bD:=b0 N ba [.c (.bz aJ)] [] ⟨.a (.c (.iG aJ)),[],[]⟩ [] [] (.s .d (.s .d (.s .d (.s .d (.t [.da 6]))))) [.tmp 2] ([],0) (λd=>Hf N d.1) func192 ntmps192
def VF(N:Nat)(b:bY)(c:Int)(d:Int):Nat->(Int×(List (ad×Int)))->Option (((List (ad×Int)))⊕(((List (ad×Int)))⊕((Unit)⊕(Int)))):=b4 λa gJ=>
  cond (decide (a.1<(((b.getD c.toNat []).getD d.toNat bW.zero).2.2.1.length:Int))) (ar ((a6 a.1 ((b.getD c.toNat []).getD d.toNat bW.zero).2.2.1.length)&&(true)) <|
  ar ((true&&((bf (((cX aJ (.int .i64) a.2 (((b.getD c.toNat []).getD d.toNat bW.zero).2.2.1.getD a.1.toNat aJ.zero)).getD 0)+1))&&true))&&(true)) <|
  cond (decide (1<((cX aJ (.int .i64) (ez aJ (.int .i64) a.2 (((b.getD c.toNat []).getD d.toNat bW.zero).2.2.1.getD a.1.toNat aJ.zero) (((cX aJ (.int .i64) a.2 (((b.getD c.toNat []).getD d.toNat bW.zero).2.2.1.getD a.1.toNat aJ.zero)).getD 0)+1)) (((b.getD c.toNat []).getD d.toNat bW.zero).2.2.1.getD a.1.toNat aJ.zero)).getD 0))) (some (.inr (.inr (.inr 8)))) (ar ((bf (a.1+1))&&(true)) <|
  gJ ((a.1+1),(ez aJ (.int .i64) a.2 (((b.getD c.toNat []).getD d.toNat bW.zero).2.2.1.getD a.1.toNat aJ.zero) (((cX aJ (.int .i64) a.2 (((b.getD c.toNat []).getD d.toNat bW.zero).2.2.1.getD a.1.toNat aJ.zero)).getD 0)+1))))) (some (.inl a.2))
def VG(N:Nat)(a:bY)(c:Int):Nat->(Int×(List (ad×Int)))->Option (((List (ad×Int)))⊕((Unit)⊕(Int))):=b4 λd2 eL=>
  cond (decide (d2.1<((a.getD c.toNat []).length:Int))) (ar ((a6 d2.1 (a.getD c.toNat []).length)&&(true)) <|
  (VF N a c d2.1 N (0,d2.2)).bind λ(b:((List (ad×Int)))⊕(((List (ad×Int)))⊕((Unit)⊕(Int))))=>
  sm b (λb=>
  ar ((bf (d2.1+1))&&(true)) <|
  eL ((d2.1+1),b)) (λq=>some q)) (some (.inl d2.2))
def VH(N:Nat)(a:bY):Nat->(Int×(List (ad×Int)))->Option ((Unit)⊕(Int)):=b4 λd1 cU=>
  cond (decide (d1.1<(a.length:Int))) (ar ((a6 d1.1 a.length)&&(true)) <|
  (VG N a d1.1 N (0,d1.2)).bind λ(b:((List (ad×Int)))⊕((Unit)⊕(Int)))=>
  sm b (λb=>
  ar ((bf (d1.1+1))&&(true)) <|
  cU ((d1.1+1),b)) (λq=>some q)) (some (.inl ()))
def Hg(N:Nat)(b:bY):Option (Int):=
  (VH N b N (0,([]:List (ad×Int)))).bind λ(a:(Unit)⊕(Int))=>
  sm a (λa=>
  some 0) (λq=>some q)
def aih(N:Nat):bA bD:=b0 N ba [.c (.bz (.ax bW))] [] ⟨.a (.c (.int .i64)),[],[]⟩ [] [] (.s .d (.s (.r [.t (.pe aJ (.int .i64))]) (.s (.s .d (.b (.ff 0 ⟨[(3,.a (.c (.raw (.dv 10)))),(13,.a (.c (.int .i64)))],[(10,.mp aJ (.int .i64))],[11,12],[]⟩ ⟨[],[],[],[]⟩ (.s .d (.s .d (.s (.b (.s .d (.s .d (.b (.ff 2 ⟨[(3,.a (.c (.raw (.dv 10)))),(19,.a (.c (.int .i64)))],[(10,.mp aJ (.int .i64))],[11,12,13,17,18],[]⟩ ⟨[(3,.a (.c (.raw (.dv 10))))],[(10,.mp aJ (.int .i64))],[11,12,13],[]⟩ (.s .d (.s .d (.s (.b (.s (.r [.n 4,.w (.bX 7 bW)]) (.s .d (.b (.ff 4 ⟨[(3,.a (.c (.raw (.dv 10)))),(26,.a (.c (.int .i64)))],[(10,.mp aJ (.int .i64))],[11,12,13,17,18,19,24,25],[]⟩ ⟨[(3,.a (.c (.raw (.dv 10))))],[(10,.mp aJ (.int .i64))],[11,12,13,17,18,19],[]⟩ (.s .d (.s .d (.s (.b (.s (.r [.n 4,.w (.bX 9 aJ)]) (.s (.o [] [.t 0 0,.t 1 1,.w 2 3 4] []) (.s (.r [.n 2,.t .Cm]) .d)))) .d)))))))) .d)))))))) .d)))))) .d))) [.tmp 2] 0 (λd=>Hg N d.1) func190 ntmps190
def Hh(N:Nat)(d:bY)(c:bR)(a:Int)(gJ:(Int×bR)->Option (bJ×bR×bR)):Nat->bR->Option ((bR)⊕(bJ×bR×bR)):=b4 λb rZ=>
  ar ((a6 a b.length)&&((bf ((((d.getD a.toNat []).getD (c.getD a.toNat 0).toNat bW.zero).2.2.1.length:Int)+(((d.getD a.toNat []).getD (c.getD a.toNat 0).toNat bW.zero).2.2.2.length:Int)))&&((decide (a.toNat<b.length))&&(true)))) <|
  cond (decide ((b.getD a.toNat 0)<((((d.getD a.toNat []).getD (c.getD a.toNat 0).toNat bW.zero).2.2.1.length:Int)+(((d.getD a.toNat []).getD (c.getD a.toNat 0).toNat bW.zero).2.2.2.length:Int)))) (ar ((a6 a b.length)&&(true)) <|
  ar ((decide (a.toNat<b.length))&&(true)) <|
  (Ay N ((d.getD a.toNat []).getD (c.getD a.toNat 0).toNat bW.zero) (b.getD a.toNat 0)).bind λe=>
  ar ((a6 (IntKind.wrap .u8 (e.1-1)) c.length)&&((decide ((IntKind.wrap .u8 (e.1-1)).toNat<c.length))&&(true))) <|
  cond (decide ((c.getD (IntKind.wrap .u8 (e.1-1)).toNat 0)<=e.2)) (Option.bind (ar ((bf (a+1))&&(true)) <|
  gJ ((a+1),b)) λq=>some (.inr q)) (ar ((a6 a b.length)&&((decide (a.toNat<b.length))&&((bf ((b.getD a.toNat 0)+1))&&((a6 a b.length)&&(((decide (a.toNat<b.length))&&(true))&&(true)))))) <|
  rZ (b.set a.toNat ((b.getD a.toNat 0)+1)))) (some (.inl b))
def Hi(N:Nat)(c:bY)(e:bJ)(b:bR):Nat->(Int×bR)->Option (bJ×bR×bR):=b4 λa gJ=>
  cond (decide (a.1<(c.length:Int))) (ar ((a6 a.1 c.length)&&(true)) <|
  ar ((a6 a.1 b.length)&&((decide (a.1.toNat<b.length))&&(true))) <|
  cond (decide ((b.getD a.1.toNat 0)=((c.getD a.1.toNat []).length:Int))) (ar ((bf (a.1+1))&&(true)) <|
  gJ ((a.1+1),a.2)) (ar ((a6 a.1 b.length)&&((decide (a.1.toNat<b.length))&&((a6 (b.getD a.1.toNat 0) (c.getD a.1.toNat []).length)&&(true)))) <|
  (Hh N c b a.1 gJ N a.2).bind λ(d:(bR)⊕(bJ×bR×bR))=>
  sm d (λd=>
  ar ((bf (a.1+1))&&((a6 a.1 b.length)&&((decide (a.1.toNat<b.length))&&((dk 16 (e.length+[((IntKind.wrap .u8 (a.1+1)),(b.getD a.1.toNat 0))].length))&&(true))))) <|
  ar ((a6 a.1 b.length)&&((decide (a.1.toNat<b.length))&&((bf ((b.getD a.1.toNat 0)+1))&&((a6 a.1 b.length)&&(((decide (a.1.toNat<b.length))&&(true))&&(true)))))) <|
  ar ((a6 a.1 d.length)&&(((decide (a.1.toNat<d.length))&&(true))&&(true))) <|
  some ((e++[((IntKind.wrap .u8 (a.1+1)),(b.getD a.1.toNat 0))]),(b.set a.1.toNat ((b.getD a.1.toNat 0)+1)),(d.set a.1.toNat 0))) (λq=>some q))) (some (e,b,a.2))
def Hj(N:Nat)(b:bY)(c:Int):Nat->bJ×bR×bR->Option (bJ):=b4 λd2 d=>
  cond (decide ((d2.1.length:Int)<c)) ((Hi N b d2.1 d2.2.1 N (0,d2.2.2)).bind λa=>
  cond (decide ((a.1.length:Int)=(d2.1.length:Int))) (some a.1) (d (a.1,a.2.1,a.2.2))) (some d2.1)
def yb(N:Nat)(a:bY):Option (bJ):=
  (ya N a).bind λb=>
  ar (((decide (0<=b))&&(fh 16 b))&&(true)) <|
  ar (((decide (0<=(a.length:Int)))&&(decide ((a.length:Int)<=(a.length:Int)))&&(fh 8 (a.length:Int)))&&(true)) <|
  ar (((decide (0<=(a.length:Int)))&&(decide ((a.length:Int)<=(a.length:Int)))&&(fh 8 (a.length:Int)))&&(true)) <|
  (Hj N a b N (([]:bJ),(replicate (a.length:Int).toNat 0),(replicate (a.length:Int).toNat 0))).bind λc=>
  some c
def No(N:Nat)(e:bY)(c:bR)(a:Int)(gJ:(Int×bR)->Option (bJ×bR×bR)):Nat->bR->Option ((bR)⊕(bJ×bR×bR)):=b4 λb rZ=>
  ar ((a6 a b.length)&&((bf ((((e.getD a.toNat []).getD (c.getD a.toNat 0).toNat bW.zero).2.2.1.length:Int)+(((e.getD a.toNat []).getD (c.getD a.toNat 0).toNat bW.zero).2.2.2.length:Int)))&&((decide (a.toNat<b.length))&&(true)))) <|
  cond (decide ((b.getD a.toNat 0)<((((e.getD a.toNat []).getD (c.getD a.toNat 0).toNat bW.zero).2.2.1.length:Int)+(((e.getD a.toNat []).getD (c.getD a.toNat 0).toNat bW.zero).2.2.2.length:Int)))) (ar ((a6 a b.length)&&(true)) <|
  (λ(f:_->Option _)=>
  fX (ar ((decide (a.toNat<b.length))&&(true)) <|
  hP ((Ay N ((e.getD a.toNat []).getD (c.getD a.toNat 0).toNat bW.zero) (b.getD a.toNat 0)).bind λd=>
  f d)) (ar ((decide (a.toNat<b.length))&&(true)) <|
  (Ay N ((e.getD a.toNat []).getD (c.getD a.toNat 0).toNat bW.zero) (b.getD a.toNat 0)).bind λd=>
  f d)) (λd=>
  ar ((a6 (IntKind.wrap .u8 (d.1-1)) c.length)&&((decide ((IntKind.wrap .u8 (d.1-1)).toNat<c.length))&&(true))) <|
  cond (decide ((c.getD (IntKind.wrap .u8 (d.1-1)).toNat 0)<=d.2)) (Option.bind (ar ((bf (a+1))&&(true)) <|
  gJ ((a+1),b)) λq=>some (.inr q)) (ar ((a6 a b.length)&&((decide (a.toNat<b.length))&&((bf ((b.getD a.toNat 0)+1))&&((a6 a b.length)&&(((decide (a.toNat<b.length))&&(true))&&(true)))))) <|
  rZ (b.set a.toNat ((b.getD a.toNat 0)+1))))) (some (.inl b))
def Np(N:Nat)(c:bY)(e:bJ)(b:bR):Nat->(Int×bR)->Option (bJ×bR×bR):=b4 λa gJ=>
  cond (decide (a.1<(c.length:Int))) (ar ((a6 a.1 c.length)&&(true)) <|
  ar ((a6 a.1 b.length)&&((decide (a.1.toNat<b.length))&&(true))) <|
  cond (decide ((b.getD a.1.toNat 0)=((c.getD a.1.toNat []).length:Int))) (ar ((bf (a.1+1))&&(true)) <|
  gJ ((a.1+1),a.2)) (ar ((a6 a.1 b.length)&&((decide (a.1.toNat<b.length))&&((a6 (b.getD a.1.toNat 0) (c.getD a.1.toNat []).length)&&(true)))) <|
  (No N c b a.1 gJ N a.2).bind λ(d:(bR)⊕(bJ×bR×bR))=>
  sm d (λd=>
  ar ((bf (a.1+1))&&((a6 a.1 b.length)&&((decide (a.1.toNat<b.length))&&((dk 16 (e.length+[((IntKind.wrap .u8 (a.1+1)),(b.getD a.1.toNat 0))].length))&&(true))))) <|
  ar ((a6 a.1 b.length)&&((decide (a.1.toNat<b.length))&&((bf ((b.getD a.1.toNat 0)+1))&&((a6 a.1 b.length)&&(((decide (a.1.toNat<b.length))&&(true))&&(true)))))) <|
  ar ((a6 a.1 d.length)&&(((decide (a.1.toNat<d.length))&&(true))&&(true))) <|
  some ((e++[((IntKind.wrap .u8 (a.1+1)),(b.getD a.1.toNat 0))]),(b.set a.1.toNat ((b.getD a.1.toNat 0)+1)),(d.set a.1.toNat 0))) (λq=>some q))) (some (e,b,a.2))
def Nq(N:Nat)(b:bY)(c:Int):Nat->bJ×bR×bR->Option (bJ):=b4 λd2 d=>
  cond (decide ((d2.1.length:Int)<c)) ((Np N b d2.1 d2.2.1 N (0,d2.2.2)).bind λa=>
  cond (decide ((a.1.length:Int)=(d2.1.length:Int))) (some a.1) (d (a.1,a.2.1,a.2.2))) (some d2.1)
def Hk(N:Nat)(a:bY):Option (bJ):=
  (ya N a).bind λb=>
  ar (((decide (0<=b))&&(fh 16 b))&&(true)) <|
  ar (((decide (0<=(a.length:Int)))&&(decide ((a.length:Int)<=(a.length:Int)))&&(fh 8 (a.length:Int)))&&(true)) <|
  ar (((decide (0<=(a.length:Int)))&&(decide ((a.length:Int)<=(a.length:Int)))&&(fh 8 (a.length:Int)))&&(true)) <|
  (Nq N a b N (([]:bJ),(replicate (a.length:Int).toNat 0),(replicate (a.length:Int).toNat 0))).bind λc=>
  some c
theorem aii:No=Hh:=by
 unfold No Hh;simp only[jO,lZ]
theorem aij:Np=Hi:=by
 unfold Np Hi;rw[aii]
theorem aik:Nq=Hj:=by
 unfold Nq Hj;rw[aij]
theorem ail:Hk=yb:=by
 unfold Hk yb;rw[aik]
def aim(N:Nat):bA bD:=l4 N ba [.c (.bz (.ax bW))] [] ⟨.a (.c (.bz aJ)),[],[]⟩ [Vt N,aie N] [] (.s .d (.s .d (.s .d (.s .d (.s .d (.s (.b (.eB 0 ⟨[(4,.a (.c (.raw (.ax 15)))),(5,.a (.c (.raw (.ax 18)))),(6,.a (.c (.raw (.ax 21))))],[(15,.row 58 aJ),(18,.row 3 (.int .i64)),(21,.row 3 (.int .i64))],[0,3],[]⟩ ⟨[(4,.a (.c (.raw (.ax 15))))],[(15,.row 58 aJ)],[],[]⟩ (.s .d (.b (.b (.s .d (.s .d (.s (.s .d (.b (.eB 2 ⟨[(4,.a (.c (.raw (.ax 15)))),(5,.a (.c (.raw (.ax 18)))),(6,.a (.c (.raw (.ax 21)))),(30,.a (.c (.int .i64)))],[(21,.row 3 (.int .i64))],[0,3,7,28,29],[15,18]⟩ ⟨[(4,.a (.c (.raw (.ax 15)))),(5,.a (.c (.raw (.ax 18)))),(6,.a (.c (.raw (.ax 21))))],[(15,.row 58 aJ),(18,.row 3 (.int .i64)),(21,.row 3 (.int .i64))],[0,3,7],[]⟩ (.s .d (.s .d (.s (.b (.s .d (.s .d (.s (.r [.n 9,.w (.bX 10 bW)]) (.s (.b (.ff 4 ⟨[(4,.a (.c (.raw (.ax 15)))),(5,.a (.c (.raw (.ax 18)))),(6,.a (.c (.raw (.ax 21))))],[(21,.row 3 (.int .i64))],[0,3,7,8,10,28,29,30],[15,18]⟩ ⟨[(4,.a (.c (.raw (.ax 15)))),(5,.a (.c (.raw (.ax 18)))),(6,.a (.c (.raw (.ax 21))))],[(21,.row 3 (.int .i64))],[0,3,7,8],[15,18]⟩ (.s (.s (.o [] [.t 0 0,.t 1 0,.t 2 0,.t 4 0,.t 5 1,.t 6 0,.t 7 0,.t 8 1,.t 9 0,.t 10 0,.s 3,.t 11 0] []) .d) (.b (.s (.s (.dm [] [] (.b [.t 0 1,.t 1 0,.t 2 0,.t 3 0] 4 6 [] [] none none (.b [] 5 6 [] [] none none (.f [.s 6,.s 7]) (.f [.c 5 [],.s 7])) (.f [.f,.s 4,.c 5 [],.s 7])) [(.bX 11 aJ)] false) (.s (.o [] [.t 0 0,.t 1 1,.t 2 0,.t 3 0,.t 4 1,.t 5 0,.t 6 0,.s 7,.t 8 0] []) .d)) .d))))) .d))))) .d)))))) .d)))))))) (.s .d (.t [.da 15])))))))) [.tmp 2] [] (λd=>Hk N d.1) (λd=>yb N d.1) (λd=>(by rw[ail]:Hk N d.1=yb N d.1)) func191 ntmps191
def Nr(N:Nat)(a:bY):Option (bJ×Nat×Int):=
  cond (!(decide ((a.length:Int)=6))) (some (([]:bJ),0,5)) ((ya N a).bind λf=>
  cond (decide (2048<f)) (some (([]:bJ),0,3)) ((He N a).bind λb=>
  cond (!(decide (b=0))) (some (([]:bJ),0,b)) ((Hg N a).bind λd=>
  cond (!(decide (d=0))) (some (([]:bJ),0,d)) ((yb N a).bind λc=>
  (ya N a).bind λg=>
  cond (decide ((c.length:Int)<g)) (some (([]:bJ),0,6)) ((Hf N c).bind λe=>
  some (e.1,e.2,0))))))
def ain(N:Nat):bA bD:=b0 N ba [.c (.bz (.ax bW))] [] ⟨.cE [.c (.iG aJ),.c (.int .i64)],[],[]⟩ [Vt N,aid N,aih N,aim N,aif N] [] (.d) [.tmp 2,.tmp 3] ([],0,0) (λd=>Nr N d.1) func137 ntmps137
def Hl(N:Nat)(a:bY):Option (Int):=
  (Nr N a).bind λb=>
  some b.2.2
def aio(N:Nat):bA bD:=b0 N ba [.c (.bz (.ax bW))] [] ⟨.a (.c (.int .i64)),[],[]⟩ [ain N] [] (.d) [.tmp 2] 0 (λd=>Hl N d.1) func87 ntmps87
def Dh(N:Nat)(b:bY)(a:ad):Option (Bool):=
  ar ((ew (decide (1<=a.1)) (bf a.1))&&((ew (cond (cond (decide (1<=a.1)) (decide (a.1<=(b.length:Int))) false) (decide (0<=a.2)) false) (a6 (IntKind.wrap .u8 (a.1-1)) b.length))&&(true))) <|
  some (cond (cond (cond (decide (1<=a.1)) (decide (a.1<=(b.length:Int))) false) (decide (0<=a.2)) false) (decide (a.2<((b.getD (IntKind.wrap .u8 (a.1-1)).toNat []).length:Int))) false)
def VI(N:Nat):bA bD:=b0 N ba [.c (.bz (.ax bW)),.cK aJ] [] ⟨.a (.c .bool),[],[]⟩ [] [] (.s (.r [.n 2,.w (.bX 3 aJ)]) (.s (.o [] [.t 0 0,.t 1 1,.t 2 0,.t 3 0,.t 4 0,.t 5 1,.t 6 0,.t 7 0,.t 8 0,.t 9 0,.t 10 0,.t 11 0,.t 12 0,.t 13 1,.t 14 0,.t 15 0,.t 16 0,.t 17 0,.t 18 1,.t 19 0,.t 20 0,.t 21 1,.t 22 0,.t 23 0,.t 24 1,.t 25 0,.t 26 0,.t 27 0,.t 28 0] []) .d)) [.tmp 4] false (λd=>Dh N d.1 d.2.1) func138 ntmps138
def VJ(N:Nat)(a:kV):Nat->Int->Option ((Unit)⊕(Int)):=b4 λd1 cU=>
  cond (decide (d1<(a.2.1.length:Int))) (ar ((a6 d1 a.2.1.length)&&(true)) <|
  (Dh N a.1 (a.2.1.getD d1.toNat cB.zero).1).bind λb=>
  Option.bind (cond (!(!b)) (Dh N a.1 (a.2.1.getD d1.toNat cB.zero).2.1) (some false)) λc=>
  Option.bind (cond (!(cond (!b) true (!c))) (vK N (a.2.1.getD d1.toNat cB.zero).1 (a.2.1.getD d1.toNat cB.zero).2.1) (some 0)) λd=>
  cond (cond (cond (!b) true (!c)) true (decide (0<=d))) (some (.inr 1)) (cond (cond (cond (decide ((a.2.1.getD d1.toNat cB.zero).2.2<(-1048576:Int))) true (decide (1048576<(a.2.1.getD d1.toNat cB.zero).2.2))) true (decide ((a.2.1.getD d1.toNat cB.zero).2.2=0))) (some (.inr 1)) (ar ((ew (decide (0<d1)) (bf (d1-1)))&&((ew (decide (0<d1)) (a6 (d1-1) a.2.1.length))&&(true))) <|
  Option.bind (cond (decide (0<d1)) (VA N (a.2.1.getD (d1-1).toNat cB.zero) (a.2.1.getD d1.toNat cB.zero)) (some 0)) λe=>
  cond (cond (decide (0<d1)) (decide (0<=e)) false) (some (.inr 1)) (ar ((bf (d1+1))&&(true)) <|
  cU (d1+1))))) (some (.inl ()))
def Hm(N:Nat)(b:kV):Option (Int):=
  (VJ N b N 0).bind λ(a:(Unit)⊕(Int))=>
  sm a (λa=>
  some 0) (λq=>some q)
def aip(N:Nat):bA bD:=b0 N ba [.cK o8] [] ⟨.a (.c (.int .i64)),[],[]⟩ [VI N,Df N,aia N] [] (.s (.r [.n 2,.w (.bX 1 o8)]) (.s (.s .d (.b (.ff 0 ⟨[(8,.a (.c (.int .i64)))],[],[1,6,7],[]⟩ ⟨[],[],[],[]⟩ (.s .d (.s .d (.s (.b (.s (.r [.n 6,.w (.bX 4 cB)]) (.s .d (.s .d (.s (.o [] [.t 0 0,.t 1 0,.t 2 0,.t 3 0,.t 4 1,.t 5 0,.t 6 0,.t 7 0,.t 8 1,.t 9 1,.g 10,.t 11 0,.t 12 0] []) .d))))) .d)))))) .d)) [.tmp 2] 0 (λd=>Hm N d.1) func88 ntmps88
def VK(N:Nat)(a:bJ):Nat->(Int×(List (ad×Int)))->Option ((List (ad×Int))):=b4 λd1 cU=>
  cond (decide (d1.1<(a.length:Int))) (ar ((a6 d1.1 a.length)&&(true)) <|
  ar ((true&&((bf (((cX aJ (.int .i64) d1.2 (a.getD d1.1.toNat aJ.zero)).getD 0)+1))&&true))&&(true)) <|
  ar ((bf (d1.1+1))&&(true)) <|
  cU ((d1.1+1),(ez aJ (.int .i64) d1.2 (a.getD d1.1.toNat aJ.zero) (((cX aJ (.int .i64) d1.2 (a.getD d1.1.toNat aJ.zero)).getD 0)+1)))) (some d1.2)
def Az(N:Nat)(a:bJ)(c:List (ad×Int)):Option ((List (ad×Int))):=
  (VK N a N (0,c)).bind λb=>
  some b
def aiq(N:Nat):bA bD:=b0 N ba [.c (.bz aJ),.c (.raw (.ptr 1000000 0))] [G2,(1000001,.mp aJ (.int .i64))] ⟨.cE [],[G2,(1000001,.mp aJ (.int .i64))],[]⟩ [] [] (.s .d (.b (.eB 0 ⟨[(1,.a (.c (.raw (.ptr 1000000 0)))),(7,.a (.c (.int .i64)))],[G2,(1000001,.mp aJ (.int .i64))],[5,6],[]⟩ ⟨[],[G2,(1000001,.mp aJ (.int .i64))],[],[]⟩ (.s .d (.s .d (.s (.b (.s (.r [.n 4,.w (.bX 4 aJ)]) (.o [1] [.t 0 3,.t 1 1,.w 2 3 4] []))) .d)))))) [] [] (λd=>Az N d.1 d.2.1) func140 ntmps140
def Ns(N:Nat)(a:kV)(b:Int):Nat->Int->Option ((Unit)⊕((Unit)⊕(Int))):=b4 λd2 eL=>
  cond (decide (d2<((([a.2.2.1,a.2.2.2]:bF).getD b.toNat []).length:Int))) (ar ((a6 d2 (([a.2.2.1,a.2.2.2]:bF).getD b.toNat []).length)&&(true)) <|
  (Dh N a.1 ((([a.2.2.1,a.2.2.2]:bF).getD b.toNat []).getD d2.toNat aJ.zero)).bind λc=>
  cond (!c) (some (.inr (.inr 7))) (ar ((bf (d2+1))&&(true)) <|
  eL (d2+1))) (some (.inl ()))
def VL(N:Nat)(a:kV):Nat->Int->Option ((Unit)⊕(Int)):=b4 λd1 cU=>
  cond (decide (d1<2)) (ar (((a6 d1 2)&&(a6 d1 ([a.2.2.1,a.2.2.2]:bF).length))&&(true)) <|
  (Ns N a d1 N 0).bind λ(b:(Unit)⊕((Unit)⊕(Int)))=>
  sm b (λb=>
  ar ((bf (d1+1))&&(true)) <|
  cU (d1+1)) (λq=>some q)) (some (.inl ()))
def VM(N:Nat)(b:kV):Nat->Int->Option ((Unit)⊕(Int)):=b4 λa rZ=>
  cond (decide (a<(b.2.2.2.length:Int))) (ar ((a6 a b.2.2.2.length)&&(true)) <|
  ar ((ew (decide (0<a)) (bf (a-1)))&&((ew (decide (0<a)) (a6 (a-1) b.2.2.2.length))&&(true))) <|
  Option.bind (cond (decide (0<a)) (vK N (b.2.2.2.getD (a-1).toNat aJ.zero) (b.2.2.2.getD a.toNat aJ.zero)) (some 0)) λc=>
  cond (cond (decide (0<a)) (decide (0<=c)) false) (some (.inr 6)) (ar ((bf (a+1))&&(true)) <|
  rZ (a+1))) (some (.inl ()))
def VN(N:Nat)(c:kV)(b:Int):Nat->(Int×(List (ad×Int)))->Option ((List (ad×Int))):=b4 λa air=>
  cond (decide (a.1<((c.1.getD b.toNat []).length:Int))) (ar ((a6 a.1 (c.1.getD b.toNat []).length)&&(true)) <|
  (Az N ((c.1.getD b.toNat []).getD a.1.toNat bW.zero).2.2.1 a.2).bind λd=>
  ar ((bf (a.1+1))&&(true)) <|
  air ((a.1+1),d)) (some a.2)
def VO(N:Nat)(b:kV):Nat->(Int×(List (ad×Int)))->Option ((List (ad×Int))):=b4 λa Di=>
  cond (decide (a.1<(b.1.length:Int))) (ar ((a6 a.1 b.1.length)&&(true)) <|
  (VN N b a.1 N (0,a.2)).bind λc=>
  ar ((bf (a.1+1))&&(true)) <|
  Di ((a.1+1),c)) (some a.2)
def VP(N:Nat)(b:kV)(c:(List (ad×Int)))(a:Int):Nat->Int->Option ((Unit)⊕((Unit)⊕(Int))):=b4 λd12 Nu=>
  cond (decide (d12<((b.1.getD a.toNat []).length:Int))) (ar ((bf (a+1))&&(true)) <|
  cond (!(decide (((cX aJ (.int .i64) c ((IntKind.wrap .u8 (a+1)),d12)).getD 0)=1))) (some (.inr (.inr 6))) (ar ((bf (d12+1))&&(true)) <|
  Nu (d12+1))) (some (.inl ()))
def VQ(N:Nat)(a:kV)(c:(List (ad×Int))):Nat->Int->Option ((Unit)⊕(Int)):=b4 λd11 ait=>
  cond (decide (d11<(a.1.length:Int))) (ar ((a6 d11 a.1.length)&&(true)) <|
  (VP N a c d11 N 0).bind λ(b:(Unit)⊕((Unit)⊕(Int)))=>
  sm b (λb=>
  ar ((bf (d11+1))&&(true)) <|
  ait (d11+1)) (λq=>some q)) (some (.inl ()))
def Hn(N:Nat)(a:kV):Option (Int):=
  (VL N a N 0).bind λ(c:(Unit)⊕(Int))=>
  sm c (λc=>
  (VM N a N 0).bind λ(d:(Unit)⊕(Int))=>
  sm d (λd=>
  (Az N a.2.2.1 ([]:List (ad×Int))).bind λe=>
  (Az N a.2.2.2 e).bind λf=>
  (VO N a N (0,f)).bind λg=>
  (VQ N a g N 0).bind λ(b:(Unit)⊕(Int))=>
  sm b (λb=>
  some 0) (λq=>some q)) (λq=>some q)) (λq=>some q)
def aiu(N:Nat):bA bD:=b0 N ba [.cK o8] [] ⟨.a (.c (.int .i64)),[],[]⟩ [VI N,Df N,aiq N] [] (.s (.r [.n 2,.w (.bX 1 o8)]) (.s (.s .d (.b (.ff 0 ⟨[(23,.a (.c (.int .i64)))],[],[1,22],[]⟩ ⟨[],[],[1],[]⟩ (.s .d (.s .d (.s (.b (.s .d (.s .d (.b (.ff 2 ⟨[(28,.a (.c (.int .i64)))],[],[1,22,23,26,27],[]⟩ ⟨[],[],[1,22,23],[]⟩ (.s .d (.s .d (.s (.b (.s (.r [.n 4,.w (.bX 6 aJ)]) .d)) .d)))))))) .d)))))) (.s (.s .d (.b (.ff 4 ⟨[(42,.a (.c (.int .i64)))],[],[1,40,41],[]⟩ ⟨[],[],[1],[]⟩ (.s .d (.s .d (.s (.b (.s (.r [.n 6,.w (.bX 8 aJ)]) (.s (.o [] [.t 0 0,.t 1 0,.t 2 0,.t 3 0,.t 4 1,.t 5 0,.t 6 0,.t 7 0,.t 8 1,.t 9 1,.g 10,.t 11 0,.t 12 0] []) .d))) .d)))))) (.s (.r [.t (.pe aJ (.int .i64))]) (.s .d (.s (.r [.n 3,.c [(1000000,9),(1000001,61)]]) (.s (.r [.n 3,.c [(1000000,9),(1000001,61)]]) (.s (.s .d (.b (.eB 6 ⟨[(9,.a (.c (.raw (.ptr 9 0)))),(10,.a (.c (.fn 140 [.id 9]))),(74,.a (.c (.int .i64)))],[x3,(61,.mp aJ (.int .i64))],[1,72,73],[]⟩ ⟨[(9,.a (.c (.raw (.ptr 9 0))))],[x3,(61,.mp aJ (.int .i64))],[1],[]⟩ (.s .d (.s .d (.s (.b (.s .d (.s .d (.b (.eB 8 ⟨[(9,.a (.c (.raw (.ptr 9 0)))),(10,.a (.c (.fn 140 [.id 9]))),(80,.a (.c (.int .i64)))],[x3,(61,.mp aJ (.int .i64))],[1,72,73,74,78,79],[]⟩ ⟨[(9,.a (.c (.raw (.ptr 9 0)))),(10,.a (.c (.fn 140 [.id 9])))],[x3,(61,.mp aJ (.int .i64))],[1,72,73,74],[]⟩ (.s .d (.s .d (.s (.b (.s (.r [.n 4,.w (.bX 14 bW)]) (.r [.n 3,.c [(1000000,9),(1000001,61)]]))) .d)))))))) .d)))))) (.s (.s .d (.b (.ff 10 ⟨[(9,.a (.c (.raw (.ptr 9 0)))),(93,.a (.c (.int .i64)))],[x3],[91,92],[61]⟩ ⟨[],[],[],[]⟩ (.s .d (.s .d (.s (.b (.s .d (.s .d (.b (.ff 12 ⟨[(9,.a (.c (.raw (.ptr 9 0)))),(100,.a (.c (.int .i64)))],[x3],[15,91,92,93,99],[61]⟩ ⟨[(9,.a (.c (.raw (.ptr 9 0))))],[x3],[91,92,93],[61]⟩ (.s .d (.s .d (.s (.b (.s .d (.s (.r [.n 6,.t .Cm]) .d))) .d)))))))) .d)))))) .d))))))))) [.tmp 2] 0 (λd=>Hn N d.1) func89 ntmps89
def Ho(N:Nat)(a:kV):Option (Int):=
  (Hl N a.1).bind λb=>
  cond (!(decide (b=0))) (some b) ((Hm N a).bind λc=>
  cond (!(decide (c=0))) (some c) ((Hn N a).bind λd=>
  some d))
def aiv(N:Nat):bA bD:=b0 N ba [.cK o8] [] ⟨.a (.c (.int .i64)),[],[]⟩ [aio N,aip N,aiu N] [] (.s (.r [.n 2,.w (.bX 1 o8)]) .d) [.tmp 2] 0 (λd=>Ho N d.1) func45 ntmps45
def Hp(N:Nat)(a:bJ)(b:bJ):Nat->Int->Option ((Unit)⊕(Bool)):=b4 λd1 cU=>
  cond (decide (d1<(a.length:Int))) (ar ((a6 d1 a.length)&&((a6 d1 b.length)&&(true))) <|
  cond (!(aZ.beq aJ (a.getD d1.toNat aJ.zero) (b.getD d1.toNat aJ.zero))) (some (.inr false)) (ar ((bf (d1+1))&&(true)) <|
  cU (d1+1))) (some (.inl ()))
def ux(N:Nat)(a:bJ)(c:bJ):Option (Bool):=
  cond (!(decide ((a.length:Int)=(c.length:Int)))) (some false) ((Hp N a c N 0).bind λ(b:(Unit)⊕(Bool))=>
  sm b (λb=>
  some true) (λq=>some q))
def Nw(N:Nat):bA bD:=b0 N ba [.c (.bz aJ),.c (.bz aJ)] [] ⟨.a (.c .bool),[],[]⟩ [] [] (.s .d (.s .d (.s (.s .d (.b (.ff 0 ⟨[(13,.a (.c (.int .i64)))],[],[0,1,12],[]⟩ ⟨[],[],[],[]⟩ (.s .d (.s .d (.s (.b (.s .d (.s (.o [] [.t 0 0,.t 1 0,.t 2 0,.t 3 1,.t 4 0,.t 5 0,.t 6 0,.t 7 1,.t 8 0] []) .d))) .d)))))) .d))) [.tmp 4] false (λd=>ux N d.1 d.2.1) func31 ntmps31
def vL:dQ:=(append (append (append [0,1,2,2,3,3,3,3,4,4,4,4,4,4,4,4,5,5,5,5,5,5,5,5,5,5,5,5,5,5,5,5,6,6,6,6,6,6,6,6,6,6,6,6,6,6,6,6,6,6,6,6,6,6,6,6,6,6,6,6,6,6,6,6] [7,7,7,7,7,7,7,7,7,7,7,7,7,7,7,7,7,7,7,7,7,7,7,7,7,7,7,7,7,7,7,7,7,7,7,7,7,7,7,7,7,7,7,7,7,7,7,7,7,7,7,7,7,7,7,7,7,7,7,7,7,7,7,7]) [8,8,8,8,8,8,8,8,8,8,8,8,8,8,8,8,8,8,8,8,8,8,8,8,8,8,8,8,8,8,8,8,8,8,8,8,8,8,8,8,8,8,8,8,8,8,8,8,8,8,8,8,8,8,8,8,8,8,8,8,8,8,8,8]) [8,8,8,8,8,8,8,8,8,8,8,8,8,8,8,8,8,8,8,8,8,8,8,8,8,8,8,8,8,8,8,8,8,8,8,8,8,8,8,8,8,8,8,8,8,8,8,8,8,8,8,8,8,8,8,8,8,8,8,8,8,8,8,8])
def VR(N:Nat)(c:Int):Option (Int):=
  Option.bind (cond (decide (4294967296<=c)) (some ((fdiv c (2 ^ (min (32:Int).toNat (IntKind.bits .u64)))),32)) (some (c,0))) λb=>
  Option.bind (cond (decide (65536<=b.1)) (ar ((bf (b.2+16))&&(true)) <|
  some ((fdiv b.1 (2 ^ (min (16:Int).toNat (IntKind.bits .u64)))),(b.2+16))) (some (b.1,b.2))) λa=>
  cond (decide (256<=a.1)) (ar ((bf (a.2+8))&&(true)) <|
  ar ((a6 (IntKind.wrap .u8 (fdiv a.1 (2 ^ (min (8:Int).toNat (IntKind.bits .u64))))) vL.length)&&((bf ((vL.getD (IntKind.wrap .u8 (fdiv a.1 (2 ^ (min (8:Int).toNat (IntKind.bits .u64))))).toNat 0).toNat:Int))&&((bf ((a.2+8)+((vL.getD (IntKind.wrap .u8 (fdiv a.1 (2 ^ (min (8:Int).toNat (IntKind.bits .u64))))).toNat 0).toNat:Int)))&&(true)))) <|
  some ((a.2+8)+((vL.getD (IntKind.wrap .u8 (fdiv a.1 (2 ^ (min (8:Int).toNat (IntKind.bits .u64))))).toNat 0).toNat:Int))) (ar ((a6 (IntKind.wrap .u8 a.1) vL.length)&&((bf ((vL.getD (IntKind.wrap .u8 a.1).toNat 0).toNat:Int))&&((bf (a.2+((vL.getD (IntKind.wrap .u8 a.1).toNat 0).toNat:Int)))&&(true)))) <|
  some (a.2+((vL.getD (IntKind.wrap .u8 a.1).toNat 0).toNat:Int)))
def aiw(N:Nat):bA bD:=b0 N ba [.c (.int .u64)] [] ⟨.a (.c (.int .i64)),[],[]⟩ [] [] (.s .d (.j ⟨[(0,.a (.c (.int .u64))),(2,.a (.c (.int .i64)))],[],[],[]⟩ .d (.j ⟨[(0,.a (.c (.int .u64))),(2,.a (.c (.int .i64)))],[],[],[]⟩ .d .d))) [.tmp 2] 0 (λd=>VR N d.1) func136 ntmps136
def Hq(N:Nat)(a:Int):Option (Int):=
  (VR N a).bind λb=>
  some b
def Nx(N:Nat):bA bD:=b0 N ba [.c (.int .u64)] [] ⟨.a (.c (.int .i64)),[],[]⟩ [aiw N] [] (.d) [.tmp 2] 0 (λd=>Hq N d.1) func82 ntmps82
def aix(N:Nat)(a:Int):Nat->(Int×bJ)->Option (bJ):=b4 λd2 eL=>
  ar ((ew (decide (a<d2.1)) (a6 d2.1 d2.2.length))&&((ew (decide (a<d2.1)) (decide (d2.1.toNat<d2.2.length)))&&((ew (decide (a<d2.1)) (bf (d2.1-1)))&&((ew (decide (a<d2.1)) (a6 (d2.1-1) d2.2.length))&&((ew (decide (a<d2.1)) (decide ((d2.1-1).toNat<d2.2.length)))&&(true)))))) <|
  Option.bind (cond (decide (a<d2.1)) (vK N (d2.2.getD d2.1.toNat aJ.zero) (d2.2.getD (d2.1-1).toNat aJ.zero)) (some 0)) λb=>
  cond (cond (decide (a<d2.1)) (decide (b<0)) false) (ar ((bf (d2.1-1))&&((bf (d2.1-1))&&((a6 (d2.1-1) d2.2.length)&&((decide ((d2.1-1).toNat<d2.2.length))&&((a6 d2.1 d2.2.length)&&((decide (d2.1.toNat<d2.2.length))&&((a6 d2.1 d2.2.length)&&(((decide (d2.1.toNat<d2.2.length))&&(true))&&((a6 (d2.1-1) (d2.2.set d2.1.toNat (d2.2.getD (d2.1-1).toNat aJ.zero)).length)&&(((decide ((d2.1-1).toNat<(d2.2.set d2.1.toNat (d2.2.getD (d2.1-1).toNat aJ.zero)).length))&&(true))&&(true))))))))))) <|
  ar ((bf (d2.1-1))&&(true)) <|
  eL ((d2.1-1),((d2.2.set d2.1.toNat (d2.2.getD (d2.1-1).toNat aJ.zero)).set (d2.1-1).toNat (d2.2.getD d2.1.toNat aJ.zero)))) (some d2.2)
def aiy(N:Nat)(a:Int)(b:Int):Nat->(Int×bJ)->Option (bJ):=b4 λd1 cU=>
  cond (decide (d1.1<b)) ((aix N a N (d1.1,d1.2)).bind λc=>
  ar ((bf (d1.1+1))&&(true)) <|
  cU ((d1.1+1),c)) (some d1.2)
def VS(N:Nat)(a:Int)(d:Int)(b:bJ):Option (bJ):=
  ar ((bf (a+1))&&(true)) <|
  (aiy N a d N ((a+1),b)).bind λc=>
  some c
def aiz(N:Nat):bA bD:=b0 N ba [.c (.raw (.ax 2000000)),.c (.int .i64),.c (.int .i64),.c (.fn 62 [])] [(2000000,.row 58 aJ)] ⟨.cE [],[(2000000,.row 58 aJ)],[]⟩ [Df N] [] (.s .d (.b (.eB 0 ⟨[(0,.a (.c (.raw (.ax 2000000)))),(8,.a (.c (.int .i64)))],[(2000000,.row 58 aJ)],[1,2,3],[]⟩ ⟨[],[(2000000,.row 58 aJ)],[],[]⟩ (.s .d (.s (.b (.s .d (.b (.eB 2 ⟨[(0,.a (.c (.raw (.ax 2000000)))),(9,.a (.c (.int .i64)))],[(2000000,.row 58 aJ)],[1,2,3,8],[]⟩ ⟨[(0,.a (.c (.raw (.ax 2000000))))],[(2000000,.row 58 aJ)],[1,2,3,8],[]⟩ (.s (.s (.l1 [9,10,11,12,13] [.t 0 0,.t 1 0,.t 2 0,.t 3 0,.t 4 0,.t 5 0,.t 6 0,.t 7 0,.t 8 3,.t 9 0,.t 10 0,.t 11 0,.t 12 0,.t 13 3,.g 14,.t 15 0,.t 16 0] []) .d) (.s (.b (.l1 [10,11,12,13] [.t 0 0,.t 1 0,.t 2 0,.t 3 0,.t 4 0,.t 5 0,.t 6 0,.t 7 0,.t 8 0,.t 9 3,.t 10 0,.t 11 0,.t 12 0,.t 13 3,.t 14 0,.s 15,.t 16 0,.s 17] [])) .d)))))) .d))))) [] [] (λd=>VS N d.1 d.2.1 d.2.2.1) func164 ntmps164
def aiA(N:Nat)(a:Int)(b:Int)(c:Int)(d:bJ):Nat->Unit->Option ((Unit)⊕(bJ)):=b4 λd1 g=>
  ar ((bf (b-a))&&(true)) <|
  cond (decide ((b-a)<=12)) ((VS N a b d).bind λe=>
  some (.inr e)) (cond (decide (c=0)) (none) (Option.bind (some ()) λf=>
  none))
def VT(N:Nat)(b:Int)(e:Int)(c:Int)(d:bJ):Option (bJ):=
  (aiA N b e c d N ()).bind λ(a:(Unit)⊕(bJ))=>
  sm a (λa=>
  none) (λq=>some q)
def aiB(N:Nat):bA bD:=b0 N ba [.c (.raw (.ax 2000000)),.c (.int .i64),.c (.int .i64),.c (.int .i64),.c (.fn 62 [])] [(2000000,.row 58 aJ)] ⟨.cE [],[(2000000,.row 58 aJ)],[]⟩ [aiz N] [] (.s .d (.s .d (.b (.ff 0 ⟨[(0,.a (.c (.raw (.ax 2000000))))],[],[1,2,3,4,10,11],[2000000]⟩ ⟨[],[],[],[]⟩ (.b (.s .d (.s (.s .d (.c (.s (.r [.n 4,.c [(2000000,2000000)]]) .d) .d)) (.s .d (.j ⟨[(0,.a (.c (.raw (.ax 2000000))))],[],[1,2,3,4,10,11,12],[2000000]⟩ .d .d))))))))) [] [] (λd=>VT N d.1 d.2.1 d.2.2.1 d.2.2.2.1) func107 ntmps107
def Dj(N:Nat)(a:bJ):Option (bJ):=
  (Hq N (IntKind.wrap .u64 (a.length:Int))).bind λb=>
  (VT N 0 (a.length:Int) b a).bind λc=>
  some c
def aiC(N:Nat):bA bD:=b0 N ba [.c (.raw (.ax 2000000)),.c (.fn 62 [])] [(2000000,.row 58 aJ)] ⟨.cE [],[(2000000,.row 58 aJ)],[]⟩ [Nx N,aiB N] [] (.s .d (.r [.n 6,.c [(2000000,2000000)]])) [] [] (λd=>Dj N d.1) func64 ntmps64
def Ny(N:Nat)(a:bJ):Option (bJ×Nat):=
  ar (((decide (0<=(a.length:Int)))&&(decide ((a.length:Int)<=(a.length:Int)))&&(decide ((a.length:Int)<=(a.length:Int))))&&(true)) <|
  some ((a.take (a.length:Int).toNat),(a.length:Int).toNat)
def aiD(N:Nat):bA bD:=b0 N ba [.c (.bz aJ)] [] ⟨.a (.c (.iG aJ)),[],[]⟩ [] [] (.d) [.tmp 2] ([],0) (λd=>Ny N d.1) func118 ntmps118
def VU(N:Nat) :Nat->(Int×Int×bJ)->Option (bJ):=b4 λd1 cU=>
  cond (decide (d1.1<d1.2.1)) (ar ((a6 d1.2.1 d1.2.2.length)&&((decide (d1.2.1.toNat<d1.2.2.length))&&((a6 d1.1 d1.2.2.length)&&((decide (d1.1.toNat<d1.2.2.length))&&((a6 d1.1 d1.2.2.length)&&(((decide (d1.1.toNat<d1.2.2.length))&&(true))&&((a6 d1.2.1 (d1.2.2.set d1.1.toNat (d1.2.2.getD d1.2.1.toNat aJ.zero)).length)&&(((decide (d1.2.1.toNat<(d1.2.2.set d1.1.toNat (d1.2.2.getD d1.2.1.toNat aJ.zero)).length))&&(true))&&(true))))))))) <|
  ar ((bf (d1.1+1))&&((bf (d1.2.1-1))&&(true))) <|
  cU ((d1.1+1),(d1.2.1-1),((d1.2.2.set d1.1.toNat (d1.2.2.getD d1.2.1.toNat aJ.zero)).set d1.2.1.toNat (d1.2.2.getD d1.1.toNat aJ.zero)))) (some d1.2.2)
def AB(N:Nat)(a:bJ):Option (bJ):=
  ar ((bf ((a.length:Int)-1))&&(true)) <|
  (VU N N (0,((a.length:Int)-1),a)).bind λb=>
  some b
def aiE(N:Nat):bA bD:=b0 N ba [.c (.raw (.ax 2000000))] [(2000000,.row 58 aJ)] ⟨.cE [],[(2000000,.row 58 aJ)],[]⟩ [] [] (.s .d (.b (.eB 0 ⟨[(0,.a (.c (.raw (.ax 2000000)))),(2,.a (.c (.int .i64))),(3,.a (.c (.int .i64)))],[(2000000,.row 58 aJ)],[],[]⟩ ⟨[],[(2000000,.row 58 aJ)],[],[]⟩ (.s .d (.s (.b (.l1 [8,9,10,11] [.t 0 0,.t 1 0,.t 2 0,.t 3 0,.t 4 0,.t 5 0,.t 6 0,.t 7 3,.t 8 0,.t 9 0,.t 10 0,.t 11 3,.t 12 0,.s 13,.t 14 0,.s 15] [])) .d))))) [] [] (λd=>AB N d.1) func197 ntmps197
def Nz(N:Nat)(a:dd)(b:dd):Nat->Int->Option ((Unit)⊕(Bool)):=b4 λd1 cU=>
  cond (decide (d1<(a.length:Int))) (ar ((a6 d1 a.length)&&((a6 d1 b.length)&&(true))) <|
  cond (!(aZ.beq c3 (a.getD d1.toNat c3.zero) (b.getD d1.toNat c3.zero))) (some (.inr false)) (ar ((bf (d1+1))&&(true)) <|
  cU (d1+1))) (some (.inl ()))
def Hr(N:Nat)(a:dd)(c:dd):Option (Bool):=
  cond (!(decide ((a.length:Int)=(c.length:Int)))) (some false) ((Nz N a c N 0).bind λ(b:(Unit)⊕(Bool))=>
  sm b (λb=>
  some true) (λq=>some q))
def aiF(N:Nat):bA bD:=b0 N ba [.c (.bz c3),.c (.bz c3)] [] ⟨.a (.c .bool),[],[]⟩ [] [] (.s .d (.s .d (.s (.s .d (.b (.ff 0 ⟨[(13,.a (.c (.int .i64)))],[],[0,1,12],[]⟩ ⟨[],[],[],[]⟩ (.s .d (.s .d (.s (.b (.s .d (.s (.o [] [.t 0 0,.t 1 0,.t 2 0,.t 3 1,.t 4 0,.t 5 0,.t 6 0,.t 7 1,.t 8 0] []) .d))) .d)))))) .d))) [.tmp 4] false (λd=>Hr N d.1 d.2.1) func32 ntmps32
def aiG(N:Nat)(a:dI)(b:dI):Nat->Int->Option ((Unit)⊕(Bool)):=b4 λd1 cU=>
  cond (decide (d1<(a.length:Int))) (ar ((a6 d1 a.length)&&((a6 d1 b.length)&&(true))) <|
  cond (!(aZ.beq cB (a.getD d1.toNat cB.zero) (b.getD d1.toNat cB.zero))) (some (.inr false)) (ar ((bf (d1+1))&&(true)) <|
  cU (d1+1))) (some (.inl ()))
def NA(N:Nat)(a:dI)(c:dI):Option (Bool):=
  cond (!(decide ((a.length:Int)=(c.length:Int)))) (some false) ((aiG N a c N 0).bind λ(b:(Unit)⊕(Bool))=>
  sm b (λb=>
  some true) (λq=>some q))
def aiH(N:Nat):bA bD:=b0 N ba [.c (.bz cB),.c (.bz cB)] [] ⟨.a (.c .bool),[],[]⟩ [] [] (.s .d (.s .d (.s (.s .d (.b (.ff 0 ⟨[(13,.a (.c (.int .i64)))],[],[0,1,12],[]⟩ ⟨[],[],[],[]⟩ (.s .d (.s .d (.s (.b (.s .d (.s (.o [] [.t 0 0,.t 1 0,.t 2 0,.t 3 1,.t 4 0,.t 5 0,.t 6 0,.t 7 1,.t 8 0] []) .d))) .d)))))) .d))) [.tmp 4] false (λd=>NA N d.1 d.2.1) func36 ntmps36
def Hs(N:Nat)(a:a7)(b:a7):Option (Bool):=
  Option.bind (cond (cond (decide (a.1=b.1)) (a.2.1==b.2.1) false) (ux N a.2.2.1 b.2.2.1) (some false)) λc=>
  Option.bind (cond (cond (cond (decide (a.1=b.1)) (a.2.1==b.2.1) false) c false) (Hr N a.2.2.2 b.2.2.2) (some false)) λd=>
  some (cond (cond (cond (decide (a.1=b.1)) (a.2.1==b.2.1) false) c false) d false)
def aiI(N:Nat):bA bD:=b0 N ba [.cK bW,.cK bW] [] ⟨.a (.c .bool),[],[]⟩ [Nw N,aiF N] [] (.s (.r [.n 3,.w (.bX 2 bW),.w (.bX 3 bW)]) .d) [.tmp 4] false (λd=>Hs N d.1 d.2.1) func30 ntmps30
end
section
set_option linter.unusedSectionVars false
def aiJ(X:bx)(f:FuncId)(args:dT)(h:bC)(Q:b7->bC->Prop):Prop:=
 ∀(B:Nat->Prop) (ai:World) (env:Nat->Loc) (vs:bQ) (H:cW) (W:World),zc X B ai->dx env B ai args vs->bE env B ai h H->bK B ai H W->∀u,CallsDIn Fence.wide 0 X.P f vs.toArray u W (λe a w'=>a=u/\∃v,e=.returned v/\tz X env B H W Q v w')
structure aiK(X:bx) where
 c:bA X
 arv:∀d r,c.m d=some r->aiJ X c.f (iH c.A d).1 (kt c.ec (iH c.A d).2).1 (λsv h=>sv=(c.out d r).1/\h=(c.out d r).2)
section
variable {X:bx} {n:Nat}
end
section
variable {X:bx} {R:Nat->Prop} {W:World} {aC:fe} {n:Nat} {env:Nat->Loc} {B:Nat->Prop} {ai:World} {H:cW} {st:aP} {a:Act} {w:World}
end
end
section
set_option linter.unusedSectionVars false
section
variable {X:bx} {R:Nat->Prop} {W:World} {aC:fe} {n:Nat} {env:Nat->Loc} {B:Nat->Prop} {ai:World} {H:cW} {st:aP} {a:Act} {w:World}
end
section
variable {X:bx} {N n:Nat} {T:List (bA X)} {bI:List (l2 X)} {arw:aiK X} {ms:List (Nat×Nat)} {ps:eh} {arx:Nat} {res:List ResultVar} {ary:l3} {fn:Func}
end
def AD(N:Nat)(b:Bool)(a:hI):Option (List (Int×bF×Unit)):=
  vI b (0,a.1,()) (some [])
  (vI b (1,a.2,()) (some [])
  (some []))
def VV(N:Nat):l2 bD:=Nc N ba (by kernel_rfl) [.eC fC] [] [.c (.int .u8),.c (.bz (.ax aJ))] [] [] (.s (.r [.n 3,.y]) (.c (.r [.n 3,.y]) .d)) 120 (λb d=>AD N b d.1) func120 rfl rfl ntmps120 (λ_=>rfl) rfl rfl (λid d=>by kernel_rfl)
def AE(N:Nat)(a:hI):Option (hI):=
  some a
def VW(N:Nat):bA bD:=b0 N ba [.cK fC] [] ⟨.a (.c (.fn 120 [.eC fC])),[],[]⟩ [] [] (.s (.r [.n 2,.w (.bX 1 fC)]) .d) [.tmp 2] fC.zero (λd=>AE N d.1) func77 ntmps77
def Ht(N:Nat)(b:Bool)(c:(Int×bF×Unit))(d:Unit->Option ((List (ad×bJ×Unit)))):Nat->Int->Option ((List (ad×bJ×Unit))):=b4 λa gJ=>
  cond (decide (a<(c.2.1.length:Int))) (ar ((a6 a c.2.1.length)&&(true)) <|
  cond (decide (40<=a)) (d ()) (ar ((bf (a+1))&&(true)) <|
  vI b ((c.1,(a+1)),(c.2.1.getD a.toNat []),()) (some [])
  (ar ((bf (a+1))&&(true)) <|
  gJ (a+1)))) (d ())
def AF(N:Nat)(b:Bool)(a:hI):Option (List (ad×bJ×Unit)):=
  (AE N a).bind λc=>
  (AD N true c).bind λd=>ky (λ(f:Int×bF×Unit) (h:Unit) (e:Unit->Option (List (ad×bJ×Unit)))=>
  Ht N b f e N 0) d () λg=>
  some []
def VX(N:Nat):l2 bD:=Nc N ba (by kernel_rfl) [.eC fC] [] [.cK aJ,.c (.bz aJ)] [VW N] [VV N] (.s .d (.s .d (.b (.p1 [(2,31)] ⟨[],[],[],[31]⟩ (.b (.s .d (.b (.l ⟨[(2,.a (.c (.raw (.ptr 31 0)))),(13,.a (.c (.int .i64)))],[],[3,11,12],[31]⟩ (.s .d (.s .d (.s (.b (.s .d (.s .d (.s (.r [.n 6,.y]) .d)))) .d))))))))))) 76 (λb d=>AF N b d.1) func76 rfl rfl ntmps76 (λ_=>rfl) rfl rfl (λid d=>by kernel_rfl)
def NB(N:Nat)(a:hI):Option (hI):=
  some a
def VY(N:Nat):bA bD:=b0 N ba [.cK fC] [] ⟨.a (.c (.fn 76 [.eC fC])),[],[]⟩ [] [] (.s (.r [.n 2,.w (.bX 1 fC)]) .d) [.tmp 2] fC.zero (λd=>NB N d.1) func37 ntmps37
def AG(N:Nat)(c:hI):Option (Int):=
  (NB N c).bind λd=>
  (AF N true d).bind λe=>ky (λ(a:ad×bJ×Unit) (b:Int) (ev:Int->Option (Int))=>
  ar ((bf (b+(a.2.1.length:Int)))&&(true)) <|
  ev (b+(a.2.1.length:Int))) e 0 λf=>
  some f
def NC(N:Nat):bA bD:=b0 N ba [.cK fC] [] ⟨.a (.c (.int .i64)),[],[]⟩ [VY N] [VX N] (.s (.r [.n 2,.w (.bX 1 fC)]) (.s .d (.s (.s .d (.b (.p1 [(3,18)] ⟨[],[(18,.cells 3 [.int .i64])],[],[]⟩ .d))) .d))) [.tmp 2] 0 (λd=>AG N d.1) func14 ntmps14
def Hu(N:Nat)(b:(Int×bF×Unit)):Nat->Int->Option ((Int×Bool)⊕(Int)):=b4 λa gJ=>
  cond (decide (a<(b.2.1.length:Int))) (ar ((a6 a b.2.1.length)&&(true)) <|
  cond (decide (4<((b.2.1.getD a.toNat []).length:Int))) (some (.inr 9)) (ar ((bf (a+1))&&(true)) <|
  gJ (a+1))) (some (.inl (a,(decide (a<(b.2.1.length:Int))))))
def VZ(N:Nat)(b:(Int×bF×Unit))(c:Int):Nat->Int->Option ((Unit)⊕((Int×Bool)⊕(Int))):=b4 λa sU=>
  cond (decide (a<((b.2.1.getD c.toNat []).length:Int))) (ar ((a6 a (b.2.1.getD c.toNat []).length)&&(true)) <|
  (Aw N ((b.2.1.getD c.toNat []).getD a.toNat aJ.zero)).bind λd=>
  cond (!d) (some (.inr (.inr 1))) (ar ((bf (a+1))&&(true)) <|
  sU (a+1))) (some (.inl ()))
def Hv(N:Nat)(b:(Int×bF×Unit)):Nat->Int->Option ((Int×Bool)⊕(Int)):=b4 λa AH=>
  cond (decide (a<(b.2.1.length:Int))) (ar ((a6 a b.2.1.length)&&(true)) <|
  (VZ N b a N 0).bind λ(c:(Unit)⊕((Int×Bool)⊕(Int)))=>
  sm c (λc=>
  ar ((bf (a+1))&&(true)) <|
  AH (a+1)) (λq=>some q)) (some (.inl (a,(decide (a<(b.2.1.length:Int))))))
def V0(N:Nat)(b:(Int×bF×Unit))(a:Int):Nat->(Int×(List (ad×Bool)))->Option (((List (ad×Bool)))⊕((Int×Bool×(List (ad×Bool)))⊕(Int))):=b4 λd13 aiL=>
  cond (decide (d13.1<((b.2.1.getD a.toNat []).length:Int))) (ar ((a6 d13.1 (b.2.1.getD a.toNat []).length)&&(true)) <|
  cond ((cX aJ .bool d13.2 ((b.2.1.getD a.toNat []).getD d13.1.toNat aJ.zero)).getD false) (some (.inr (.inr 8))) (ar ((true&&true)&&(true)) <|
  ar ((bf (d13.1+1))&&(true)) <|
  aiL ((d13.1+1),(ez aJ .bool d13.2 ((b.2.1.getD a.toNat []).getD d13.1.toNat aJ.zero) true)))) (some (.inl d13.2))
def Hx(N:Nat)(a:(Int×bF×Unit)):Nat->(Int×(List (ad×Bool)))->Option ((Int×Bool×(List (ad×Bool)))⊕(Int)):=b4 λd12 Nu=>
  cond (decide (d12.1<(a.2.1.length:Int))) (ar ((a6 d12.1 a.2.1.length)&&(true)) <|
  (V0 N a d12.1 N (0,d12.2)).bind λ(b:((List (ad×Bool)))⊕((Int×Bool×(List (ad×Bool)))⊕(Int)))=>
  sm b (λb=>
  ar ((bf (d12.1+1))&&(true)) <|
  Nu ((d12.1+1),b)) (λq=>some q)) (some (.inl (d12.1,(decide (d12.1<(a.2.1.length:Int))),d12.2)))
def AI(N:Nat)(a:hI):Option (Int):=
  (AE N a).bind λg=>
  (AD N true g).bind λl=>ky (λ(e:Int×bF×Unit) (y:Unit) (n:Unit->Option (Int))=>
  cond (decide (40<(e.2.1.length:Int))) (some 9) ((Hu N e N 0).bind λ(c:(Int×Bool)⊕(Int))=>
  sm c (λc=>
  n ()) (λq=>some q))) l () λu=>
  (AE N a).bind λm=>
  (AD N true m).bind λh=>ky (λ(r:Int×bF×Unit) (t:Unit) (f:Unit->Option (Int))=>
  (Hv N r N 0).bind λ(d:(Int×Bool)⊕(Int))=>
  sm d (λd=>
  f ()) (λq=>some q)) h () λv=>
  (AG N a).bind λw=>
  (AE N a).bind λo=>
  (AD N true o).bind λi=>ky (λ(p:Int×bF×Unit) (j:(List (ad×Bool))) (k:(List (ad×Bool))->Option (Int))=>
  (Hx N p N (0,j)).bind λ(b:(Int×Bool×(List (ad×Bool)))⊕(Int))=>
  sm b (λb=>
  k b.2.2) (λq=>some q)) i ([]:List (ad×Bool)) λs=>
  some 0
def Hy(N:Nat):bA bD:=b0 N ba [.cK fC] [] ⟨.a (.c (.int .i64)),[],[]⟩ [VW N,Ni N,NC N] [VV N] (.s (.r [.n 2,.w (.bX 1 fC)]) (.s (.s .d (.b (.p1 [(2,86)] ⟨[],[],[],[86]⟩ (.b (.s .d (.s .d (.b (.ff 2 ⟨[(2,.a (.c (.raw (.ptr 86 0)))),(29,.a (.c (.int .i64)))],[],[1,24,25,26,27,28],[86]⟩ ⟨[(2,.a (.c (.raw (.ptr 86 0)))),(29,.a (.c (.int .i64))),(30,.a (.c .bool))],[],[1,24,25,26,27,28],[86]⟩ .d)))))))) (.s (.s .d (.b (.p1 [] ⟨[],[],[],[86]⟩ (.b (.s .d (.b (.ff 6 ⟨[(2,.a (.c (.raw (.ptr 86 0)))),(43,.a (.c (.int .i64)))],[],[1,41,42],[86]⟩ ⟨[(2,.a (.c (.raw (.ptr 86 0)))),(43,.a (.c (.int .i64))),(44,.a (.c .bool))],[],[1,41,42],[86]⟩ (.s .d (.s .d (.s (.b (.s .d (.s .d (.b (.ff 8 ⟨[(2,.a (.c (.raw (.ptr 86 0)))),(49,.a (.c (.int .i64)))],[],[1,41,42,43,47,48],[86]⟩ ⟨[(2,.a (.c (.raw (.ptr 86 0))))],[],[1,41,42,43],[86]⟩ (.s .d (.s .d (.s (.b (.s (.r [.n 4,.w (.bX 12 aJ)]) .d)) .d)))))))) .d)))))))))) (.s (.r [.n 2,.t (.pe aJ .bool)]) (.s (.s .d (.b (.p1 [(13,97)] ⟨[],[(60,.mp aJ .bool),C6],[],[86]⟩ (.b (.s .d (.b (.ff 12 ⟨[(2,.a (.c (.raw (.ptr 86 0)))),(13,.a (.c (.raw (.ptr 97 0)))),(67,.a (.c (.int .i64)))],[(60,.mp aJ .bool),C6],[65,66],[86]⟩ ⟨[(2,.a (.c (.raw (.ptr 86 0)))),(13,.a (.c (.raw (.ptr 97 0)))),(67,.a (.c (.int .i64))),(68,.a (.c .bool))],[(60,.mp aJ .bool),C6],[65,66],[86]⟩ (.s .d (.s .d (.s (.b (.s .d (.s .d (.b (.ff 14 ⟨[(2,.a (.c (.raw (.ptr 86 0)))),(13,.a (.c (.raw (.ptr 97 0)))),(73,.a (.c (.int .i64)))],[(60,.mp aJ .bool),C6],[65,66,67,71,72],[86]⟩ ⟨[(2,.a (.c (.raw (.ptr 86 0)))),(13,.a (.c (.raw (.ptr 97 0))))],[(60,.mp aJ .bool),C6],[65,66,67],[86]⟩ (.s .d (.s .d (.s (.b (.s (.r [.n 4,.w (.bX 19 aJ)]) (.s (.s (.r [.n 2,.t .Cm]) .d) (.r [.n 2,.t .F8])))) .d)))))))) .d)))))))))) .d))))) [.cell 2 29] 0 (λd=>AI N d.1) func43 ntmps43
def fR(a b:Int):Int:=if a<b then b else a
def ja(a b:Int):Int:=if b<a then b else a
def yc(N:Nat)(a:dc):Option (dc×Nat):=
  ar (((decide (0<=(a.length:Int)))&&(decide ((a.length:Int)<=(a.length:Int)))&&(decide ((a.length:Int)<=(a.length:Int))))&&(true)) <|
  some ((a.take (a.length:Int).toNat),(a.length:Int).toNat)
def ND(N:Nat):bA bD:=b0 N ba [.c (.bz c4)] [] ⟨.a (.c (.iG c4)),[],[]⟩ [] [] (.d) [.tmp 2] ([],0) (λd=>yc N d.1) func42 ntmps42
def Dk(N:Nat)(a:bR):Nat->Int->Option ((Unit)⊕(Int)):=b4 λd1 cU=>
  cond (decide (d1<(a.length:Int))) (ar ((a6 d1 a.length)&&(true)) <|
  ar ((ew ((!(cond (decide ((a.getD d1.toNat 0)<1)) true (decide (40<(a.getD d1.toNat 0)))))&&(decide (0<d1))) (bf (d1-1)))&&((ew ((!(cond (decide ((a.getD d1.toNat 0)<1)) true (decide (40<(a.getD d1.toNat 0)))))&&(decide (0<d1))) (a6 (d1-1) a.length))&&(true))) <|
  cond (cond (cond (decide ((a.getD d1.toNat 0)<1)) true (decide (40<(a.getD d1.toNat 0)))) true (cond (decide (0<d1)) (decide ((a.getD d1.toNat 0)<=(a.getD (d1-1).toNat 0))) false)) (some (.inr 1)) (ar ((bf (d1+1))&&(true)) <|
  cU (d1+1))) (some (.inl ()))
def vN(N:Nat)(b:bR):Option (Int):=
  (Dk N b N 0).bind λ(a:(Unit)⊕(Int))=>
  sm a (λa=>
  some 0) (λq=>some q)
def V1(N:Nat):bA bD:=b0 N ba [.c (.bz (.int .i64))] [] ⟨.a (.c (.int .i64)),[],[]⟩ [] [] (.s .d (.s (.s .d (.b (.ff 0 ⟨[(7,.a (.c (.int .i64)))],[],[0,5,6],[]⟩ ⟨[],[],[],[]⟩ .d))) .d)) [.tmp 2] 0 (λd=>vN N d.1) func121 ntmps121
def yd(N:Nat)(a:dc)(c:Int)(b:dc):Option (Int×dc):=
  ar ((dk 40 (b.length+a.length))&&(true)) <|
  some (c,(b++a))
def V3(N:Nat):bA bD:=b0 N ba [.c (.raw (.ptr 1000000 0)),.c (.bz c4)] [nC,(1000001,.row 76 c4)] ⟨.cE [],[nC,(1000001,.row 76 c4)],[]⟩ [] [] (.d) [] (0,[]) (λd=>yd N d.1 d.2.1 d.2.2.1) func183 ntmps183
def Hz(N:Nat)(a:bR):Option (bR):=
  ar ((decide (0<a.length))&&(true)) <|
  ar ((dk 8 (([]:bR).length+a.length))&&(true)) <|
  some (([]:bR)++a)
def aiQ(N:Nat):bA bD:=b0 N ba [.c (.bz (.int .i64))] [] ⟨.a (.c (.raw (.ax 5))),[(5,.row 3 (.int .i64))],[]⟩ [] [] (.s (.r [.n 1,.w (.nil 2 5 3 (.int .i64))]) .d) [.tmp 2] [] (λd=>Hz N d.1) func180 ntmps180
def ye(N:Nat)(a:Int)(b:Int)(c:dc):Option (Int×dc):=
  cond (!(decide (b=a))) ((yd N [(3,(0,((0,0),(0,a))))] b c).bind λd=>
  some (a,d.2)) (some (b,c))
def V4(N:Nat):bA bD:=b0 N ba [.c (.raw (.ptr 1000000 0)),.c (.int .i64)] [nC,(1000001,.row 76 c4)] ⟨.cE [],[nC,(1000001,.row 76 c4)],[]⟩ [V3 N] [] (.s .d (.c (.s (.r [.n 4,.w (.da 13),.c G4]) .d) .d)) [] (0,[]) (λd=>ye N d.1 d.2.1 d.2.2.1) func125 ntmps125
def V5(N:Nat)(d:Int)(c:Int)(a:bR):Nat->(Int×Int×dc)->Option (Int×dc):=b4 λd1 cU=>
  cond (decide (d1.1<(a.length:Int))) (ar ((a6 d1.1 a.length)&&((decide (d1.1.toNat<a.length))&&(true))) <|
  ar ((bf ((a.getD d1.1.toNat 0)-c))&&(true)) <|
  (yd N [(7,(0,((d,((a.getD d1.1.toNat 0)-c)),(0,0))))] d1.2.1 d1.2.2).bind λb=>
  ar ((bf (d1.1+1))&&(true)) <|
  cU ((d1.1+1),b.1,b.2)) (some (d1.2.1,d1.2.2))
def Dl(N:Nat)(b:Int)(f:Int)(c:Int)(d:dc)(e:bR):Option (Int×dc):=
  (V5 N b f e N (0,c,d)).bind λa=>
  some (a.1,a.2)
def aiR(N:Nat):bA bD:=b0 N ba [.c (.raw (.ptr 1000000 0)),.c (.int .u8),.c (.raw (.ax 2000000)),.c (.int .i64)] [nC,(1000001,.row 76 c4),(2000000,.row 3 (.int .i64))] ⟨.cE [],[nC,(1000001,.row 76 c4)],[2000000]⟩ [V3 N] [] (.s .d (.b (.eB 0 ⟨[(0,.a (.c (.raw (.ptr 1000000 0)))),(10,.a (.c (.raw (.ax 2000000)))),(12,.a (.c (.int .i64)))],[nC,(1000001,.row 76 c4)],[1,3,11],[2000000]⟩ ⟨[],[nC,(1000001,.row 76 c4)],[],[2000000]⟩ (.s .d (.s .d (.s (.b (.s .d (.r [.n 8,.w (.da 23),.c G4]))) .d)))))) [] (0,[]) (λd=>Dl N d.1 d.2.1 d.2.2.1 d.2.2.2.1 d.2.2.2.2.1) func181 ntmps181
def V6(N:Nat)(b:Int)(c:bR):Nat->(Int×bR×Int)->Option (bR×Int):=b4 λa sU=>
  cond (decide (a.1<(c.length:Int))) (ar ((a6 a.1 a.2.1.length)&&((decide (a.1.toNat<a.2.1.length))&&((bf ((a.2.1.getD a.1.toNat 0)+(fR (-8:Int) (if b<8 then b else 8))))&&((a6 a.1 a.2.1.length)&&(((decide (a.1.toNat<a.2.1.length))&&(true))&&(true)))))) <|
  ar ((bf (a.1+1))&&(true)) <|
  sU ((a.1+1),(a.2.1.set a.1.toNat ((a.2.1.getD a.1.toNat 0)+(fR (-8:Int) (if b<8 then b else 8)))),a.2.2)) (some (a.2.1,a.2.2))
def V7(N:Nat) :Nat->(Int×bR×Int×dc)->Option (Int×dc):=b4 λd2 eL=>
  cond (!(decide (d2.1=0))) (ar ((bf ((-4:Int)-(fR (-8:Int) (if d2.1<8 then d2.1 else 8))))&&((bf ((d2.2.1.length:Int)-1))&&((a6 ((d2.2.1.length:Int)-1) d2.2.1.length)&&((decide (((d2.2.1.length:Int)-1).toNat<d2.2.1.length))&&((bf ((d2.2.1.getD ((d2.2.1.length:Int)-1).toNat 0)-40))&&(true)))))) <|
  ar ((bf (4-(fR (-8:Int) (if d2.1<8 then d2.1 else 8))))&&((a6 0 d2.2.1.length)&&((decide ((0:Int).toNat<d2.2.1.length))&&((bf ((d2.2.1.getD (0:Int).toNat 0)-1))&&(true))))) <|
  (ye N (fR (fR (fR (-4:Int) ((-4:Int)-(fR (-8:Int) (if d2.1<8 then d2.1 else 8)))) ((d2.2.1.getD ((d2.2.1.length:Int)-1).toNat 0)-40)) (ja (ja (ja 4 (4-(fR (-8:Int) (if d2.1<8 then d2.1 else 8)))) ((d2.2.1.getD (0:Int).toNat 0)-1)) d2.2.2.1)) d2.2.2.1 d2.2.2.2).bind λc=>
  (Dl N 0 0 c.1 c.2 d2.2.1).bind λa=>
  ar ((bf ((fR (fR (fR (-4:Int) ((-4:Int)-(fR (-8:Int) (if d2.1<8 then d2.1 else 8)))) ((d2.2.1.getD ((d2.2.1.length:Int)-1).toNat 0)-40)) (ja (ja (ja 4 (4-(fR (-8:Int) (if d2.1<8 then d2.1 else 8)))) ((d2.2.1.getD (0:Int).toNat 0)-1)) d2.2.2.1))+(fR (-8:Int) (if d2.1<8 then d2.1 else 8))))&&(true)) <|
  (ye N ((fR (fR (fR (-4:Int) ((-4:Int)-(fR (-8:Int) (if d2.1<8 then d2.1 else 8)))) ((d2.2.1.getD ((d2.2.1.length:Int)-1).toNat 0)-40)) (ja (ja (ja 4 (4-(fR (-8:Int) (if d2.1<8 then d2.1 else 8)))) ((d2.2.1.getD (0:Int).toNat 0)-1)) d2.2.2.1))+(fR (-8:Int) (if d2.1<8 then d2.1 else 8))) a.1 a.2).bind λb=>
  (Dl N 1 (fR (fR (fR (-4:Int) ((-4:Int)-(fR (-8:Int) (if d2.1<8 then d2.1 else 8)))) ((d2.2.1.getD ((d2.2.1.length:Int)-1).toNat 0)-40)) (ja (ja (ja 4 (4-(fR (-8:Int) (if d2.1<8 then d2.1 else 8)))) ((d2.2.1.getD (0:Int).toNat 0)-1)) d2.2.2.1)) b.1 b.2 d2.2.1).bind λd=>
  (V6 N d2.1 d2.2.1 N (0,d2.2.1,d.1)).bind λe=>
  ar ((bf (d2.1-(fR (-8:Int) (if d2.1<8 then d2.1 else 8))))&&(true)) <|
  eL ((d2.1-(fR (-8:Int) (if d2.1<8 then d2.1 else 8))),e.1,e.2,d.2)) (some (d2.2.2.1,d2.2.2.2))
def vO(N:Nat)(b:bR)(f:Int)(c:Int)(d:dc):Option (Int×dc):=
  (Hz N b).bind λe=>
  (V7 N N (f,e,c,d)).bind λa=>
  some (a.1,a.2)
def aiS(N:Nat):bA bD:=b0 N ba [.c (.raw (.ptr 1000000 0)),.c (.bz (.int .i64)),.c (.int .i64)] [nC,(1000001,.row 76 c4)] ⟨.cE [],[nC,(1000001,.row 76 c4)],[]⟩ [aiQ N,V4 N,aiR N] [] (.s (.r [.n 1,.c [(5,12)]]) (.b (.eB 0 ⟨[(0,.a (.c (.raw (.ptr 1000000 0)))),(1,.a (.c (.raw (.ax 12)))),(2,.a (.c (.int .i64)))],[(12,.row 3 (.int .i64)),nC,(1000001,.row 76 c4)],[],[]⟩ ⟨[],[nC,(1000001,.row 76 c4)],[],[]⟩ (.s .d (.b (.s .d (.s .d (.s .d (.s .d (.s (.r [.n 2,.c G4]) (.s (.r [.n 2,.c [(1000000,1000000),(1000001,1000001),(2000000,12)]]) (.s (.r [.n 4,.c G4]) (.s (.r [.n 3,.c [(1000000,1000000),(1000001,1000001),(2000000,12)]]) (.s (.s .d (.b (.eB 2 ⟨[(0,.a (.c (.raw (.ptr 1000000 0)))),(1,.a (.c (.raw (.ax 12)))),(60,.a (.c (.int .i64)))],[(12,.row 3 (.int .i64)),nC],[2,6,59],[1000001]⟩ ⟨[(0,.a (.c (.raw (.ptr 1000000 0)))),(1,.a (.c (.raw (.ax 12))))],[(12,.row 3 (.int .i64)),nC],[2,6],[1000001]⟩ .d))) .d)))))))))))))) [] (0,[]) (λd=>vO N d.1 d.2.1 d.2.2.1 d.2.2.2.1) func122 ntmps122
def HA(N:Nat)(c:Int)(b:bR)(a:bR):Nat->Int->Option (Int):=b4 λd1 cU=>
  ar ((ew (decide (d1<(b.length:Int))) (a6 d1 a.length))&&((ew (decide (d1<(b.length:Int))) (a6 c a.length))&&(true))) <|
  cond (cond (decide (d1<(b.length:Int))) (decide ((a.getD d1.toNat 0)=(a.getD c.toNat 0))) false) (ar ((bf (d1+1))&&(true)) <|
  cU (d1+1)) (some d1)
def uz(N:Nat)(a:Int)(d:bR)(b:bR):Option (Int):=
  ar ((bf (a+1))&&(true)) <|
  (HA N a d b N (a+1)).bind λc=>
  some c
def aiT(N:Nat):bA bD:=b0 N ba [.c (.int .i64),.c (.fu (.ax (.int .i64)) 0),.c (.fu (.ax (.int .i64)) 0)] [] ⟨.a (.c (.int .i64)),[],[]⟩ [] [] (.s .d (.s .d (.s (.b (.eB 0 ⟨[(5,.a (.c (.int .i64)))],[],[0,1,2],[]⟩ ⟨[(5,.a (.c (.int .i64)))],[],[],[]⟩ (.s (.s (.o [] [.t 0 0,.t 1 1,.t 2 0,.t 3 0,.t 4 0,.t 5 1,.t 6 0,.t 7 0,.t 8 1,.t 9 1,.t 10 0,.t 11 0,.t 12 1,.t 13 0,.t 14 0] []) .d) .d))) .d))) [.tmp 4] 0 (λd=>uz N d.1 d.2.1 d.2.2.1) func123 ntmps123
def V8(N:Nat)(b:Bool)(a:bR):Nat->Int->Option ((List (Int×Int×Unit))):=b4 λd1 cU=>
  cond (decide (0<=d1)) (ar ((a6 d1 a.length)&&(true)) <|
  vI b (d1,(a.getD d1.toNat 0),()) (some [])
  (ar ((bf (d1-1))&&(true)) <|
  cU (d1-1))) (some [])
def Dm(N:Nat)(b:Bool)(a:bR):Option (List (Int×Int×Unit)):=
  ar ((bf ((a.length:Int)-1))&&(true)) <|
  V8 N b a N ((a.length:Int)-1)
def aiU(N:Nat):l2 bD:=Nc N ba (by kernel_rfl) [.eC (.ax (.int .i64))] [] [.c (.int .i64),.c (.int .i64)] [] [] (.s .d (.b (.l ⟨[(3,.a (.c (.int .i64)))],[],[0,1],[]⟩ (.s .d (.s (.b (.s (.r [.n 6,.y]) .d)) .d))))) 182 (λb d=>Dm N b d.1) func182 rfl rfl ntmps182 (λ_=>rfl) rfl rfl (λid d=>by kernel_rfl)
def HB(N:Nat)(a:bR):Option (bR):=
  some a
def aiV(N:Nat):bA bD:=b0 N ba [.c (.bz (.int .i64))] [] ⟨.a (.c (.fn 182 [.eC (.ax (.int .i64))])),[],[]⟩ [] [] (.s (.r [.n 2,.w (.bX 1 (.ax (.int .i64)))]) .d) [.tmp 2] [] (λd=>HB N d.1) func124 ntmps124
def HC(N:Nat)(a:bR):Nat->Int->Option ((Unit)⊕(dc×Nat×Int)):=b4 λd2 eL=>
  cond (decide (d2<(a.length:Int))) (ar ((a6 d2 a.length)&&(true)) <|
  ar ((ew ((!(cond (decide ((a.getD d2.toNat 0)<1)) true (decide (40<(a.getD d2.toNat 0)))))&&(decide (0<d2))) (bf (d2-1)))&&((ew ((!(cond (decide ((a.getD d2.toNat 0)<1)) true (decide (40<(a.getD d2.toNat 0)))))&&(decide (0<d2))) (a6 (d2-1) a.length))&&(true))) <|
  cond (cond (cond (decide ((a.getD d2.toNat 0)<1)) true (decide (40<(a.getD d2.toNat 0)))) true (cond (decide (0<d2)) (decide ((a.getD d2.toNat 0)<(a.getD (d2-1).toNat 0))) false)) (some (.inr (([]:dc),0,1))) (ar ((bf (d2+1))&&(true)) <|
  eL (d2+1))) (some (.inl ()))
def Dn(N:Nat)(b:bR)(c:bR):Nat->(Int×Int×bR×bR×dc)->Option (Int×bR×bR×dc):=b4 λa q6=>
  cond (decide (a.1<(b.length:Int))) (ar ((a6 a.1 b.length)&&(true)) <|
  ar ((bf (a.1+1))&&((ew (decide ((a.1+1)<(b.length:Int))) (a6 a.1 c.length))&&((ew (decide ((a.1+1)<(b.length:Int))) (bf (a.1+1)))&&((ew (decide ((a.1+1)<(b.length:Int))) (a6 (a.1+1) c.length))&&(true))))) <|
  cond (cond (decide ((a.1+1)<(b.length:Int))) (decide ((c.getD a.1.toNat 0)=(c.getD (a.1+1).toNat 0))) false) (ar ((bf (a.1+1))&&(((decide (0<=a.1))&&(decide (a.1<=(a.1+1)))&&(decide ((a.1+1)<=(b.length:Int))))&&((bf (a.1+1))&&((a6 (a.1+1) b.length)&&((bf ((b.getD (a.1+1).toNat 0)-(b.getD a.1.toNat 0)))&&(true)))))) <|
  (vO N ((b.take (a.1+1).toNat).drop a.1.toNat) ((b.getD (a.1+1).toNat 0)-(b.getD a.1.toNat 0)) a.2.1 a.2.2.2.2).bind λd=>
  ar ((bf (a.1+1))&&(true)) <|
  q6 ((a.1+1),d.1,a.2.2.1,a.2.2.2.1,d.2)) (ar ((a6 a.1 c.length)&&((bf ((c.getD a.1.toNat 0)-(b.getD a.1.toNat 0)))&&(true))) <|
  ar ((dk 8 (a.2.2.1.length+[(b.getD a.1.toNat 0)].length))&&((dk 8 (a.2.2.2.1.length+[((c.getD a.1.toNat 0)-(b.getD a.1.toNat 0))].length))&&(true))) <|
  ar ((bf (a.1+1))&&(true)) <|
  q6 ((a.1+1),a.2.1,(a.2.2.1++[(b.getD a.1.toNat 0)]),(a.2.2.2.1++[((c.getD a.1.toNat 0)-(b.getD a.1.toNat 0))]),a.2.2.2.2))) (some (a.2.1,a.2.2.1,a.2.2.2.1,a.2.2.2.2))
def HD(N:Nat)(a:Int×bR×bR×dc):Nat->(Int×Int×bR)->Option (Int×bR):=b4 λd10 b=>
  cond (decide (d10.1<(a.2.1.length:Int))) (ar ((dk 8 (d10.2.2.length+[d10.1].length))&&(true)) <|
  (uz N d10.1 a.2.1 a.2.2.1).bind λc=>
  b (c,d10.2.1,(d10.2.2++[d10.1]))) (some (d10.2.1,d10.2.2))
def HE(N:Nat)(b:Int×bR×bR×dc)(a:Int×bR):Nat->(Int×dc×Int)->Option (dc×Int):=b4 λd16 V9=>
  cond (decide (d16.1<(a.2.length:Int))) (ar ((a6 d16.1 a.2.length)&&(true)) <|
  ar ((a6 (a.2.getD d16.1.toNat 0) b.2.2.1.length)&&(true)) <|
  cond (decide ((b.2.2.1.getD (a.2.getD d16.1.toNat 0).toNat 0)<0)) (ar ((a6 (a.2.getD d16.1.toNat 0) b.2.2.1.length)&&(true)) <|
  (uz N (a.2.getD d16.1.toNat 0) b.2.1 b.2.2.1).bind λc=>
  ar (((decide (0<=(a.2.getD d16.1.toNat 0)))&&(decide ((a.2.getD d16.1.toNat 0)<=c))&&(decide (c<=(b.2.1.length:Int))))&&(true)) <|
  (vO N ((b.2.1.take c.toNat).drop (a.2.getD d16.1.toNat 0).toNat) (b.2.2.1.getD (a.2.getD d16.1.toNat 0).toNat 0) d16.2.2 d16.2.1).bind λd=>
  ar ((bf (d16.1+1))&&(true)) <|
  V9 ((d16.1+1),d.2,d.1)) (ar ((bf (d16.1+1))&&(true)) <|
  V9 ((d16.1+1),d16.2.1,d16.2.2))) (some (d16.2.1,d16.2.2))
def vP(N:Nat)(d:bR)(e:bR):Option (dc×Nat×Int):=
  (vN N d).bind λl=>
  cond (!(decide (l=0))) (some (([]:dc),0,l)) (cond (!(decide ((e.length:Int)=(d.length:Int)))) (some (([]:dc),0,5)) ((HC N e N 0).bind λ(m:(Unit)⊕(dc×Nat×Int))=>
  sm m (λm=>
  (Dn N d e N (0,0,([]:bR),([]:bR),([]:dc))).bind λa=>
  (HD N a N (0,a.1,([]:bR))).bind λf=>
  (HB N f.2).bind λr=>
  (Dm N true r).bind λo=>ky (λ(b:Int×Int×Unit) (c:dc×Int) (h:dc×Int->Option (dc×Nat×Int))=>
  ar ((a6 b.2.1 a.2.2.1.length)&&(true)) <|
  cond (decide (0<(a.2.2.1.getD b.2.1.toNat 0))) (ar ((a6 b.2.1 a.2.2.1.length)&&(true)) <|
  (uz N b.2.1 a.2.1 a.2.2.1).bind λg=>
  ar (((decide (0<=b.2.1))&&(decide (b.2.1<=g))&&(decide (g<=(a.2.1.length:Int))))&&(true)) <|
  (vO N ((a.2.1.take g.toNat).drop b.2.1.toNat) (a.2.2.1.getD b.2.1.toNat 0) c.2 c.1).bind λi=>
  h (i.2,i.1)) (h (c.1,c.2))) o (a.2.2.2,f.1) λn=>
  (HE N a f N (0,n.1,n.2)).bind λj=>
  (ye N 0 j.2 j.1).bind λp=>
  (yc N p.2).bind λk=>
  some (k.1,k.2,0)) (λq=>some q)))
def NI(N:Nat)(b:bR)(c:bR):Nat->(Int×Int×bR×bR×dc)->Option (Int×bR×bR×dc):=b4 λa q6=>
  cond (decide (a.1<(b.length:Int))) (ar ((a6 a.1 b.length)&&(true)) <|
  ar ((bf (a.1+1))&&((ew (decide ((a.1+1)<(b.length:Int))) (a6 a.1 c.length))&&((ew (decide ((a.1+1)<(b.length:Int))) (bf (a.1+1)))&&((ew (decide ((a.1+1)<(b.length:Int))) (a6 (a.1+1) c.length))&&(true))))) <|
  cond (cond (decide ((a.1+1)<(b.length:Int))) (decide ((c.getD a.1.toNat 0)=(c.getD (a.1+1).toNat 0))) false) (ar ((bf (a.1+1))&&(((decide (0<=a.1))&&(decide (a.1<=(a.1+1)))&&(decide ((a.1+1)<=(b.length:Int))))&&((bf (a.1+1))&&((a6 (a.1+1) b.length)&&((bf ((b.getD (a.1+1).toNat 0)-(b.getD a.1.toNat 0)))&&(true)))))) <|
  (vO N ((b.take (a.1+1).toNat).drop a.1.toNat) ((b.getD (a.1+1).toNat 0)-(b.getD a.1.toNat 0)) a.2.1 a.2.2.2.2).bind λd=>
  ar ((bf (a.1+1))&&(true)) <|
  q6 ((a.1+1),d.1,a.2.2.1,a.2.2.2.1,d.2)) (ar ((a6 a.1 c.length)&&((bf ((c.getD a.1.toNat 0)-(b.getD a.1.toNat 0)))&&(true))) <|
  (λ(kk2:Option _)=>
  fX (hP (ar ((dk 8 (a.2.2.1.length+[(b.getD a.1.toNat 0)].length))&&((dk 8 (a.2.2.2.1.length+[((c.getD a.1.toNat 0)-(b.getD a.1.toNat 0))].length))&&(true))) <|
  kk2)) (ar ((dk 8 (a.2.2.1.length+[(b.getD a.1.toNat 0)].length))&&((dk 8 (a.2.2.2.1.length+[((c.getD a.1.toNat 0)-(b.getD a.1.toNat 0))].length))&&(true))) <|
  kk2)) (ar ((bf (a.1+1))&&(true)) <|
  q6 ((a.1+1),a.2.1,(a.2.2.1++[(b.getD a.1.toNat 0)]),(a.2.2.2.1++[((c.getD a.1.toNat 0)-(b.getD a.1.toNat 0))]),a.2.2.2.2)))) (some (a.2.1,a.2.2.1,a.2.2.2.1,a.2.2.2.2))
def HF(N:Nat)(d:bR)(e:bR):Option (dc×Nat×Int):=
  (vN N d).bind λl=>
  cond (!(decide (l=0))) (some (([]:dc),0,l)) (cond (!(decide ((e.length:Int)=(d.length:Int)))) (some (([]:dc),0,5)) ((HC N e N 0).bind λ(m:(Unit)⊕(dc×Nat×Int))=>
  sm m (λm=>
  (NI N d e N (0,0,([]:bR),([]:bR),([]:dc))).bind λa=>
  (HD N a N (0,a.1,([]:bR))).bind λf=>
  (HB N f.2).bind λr=>
  (Dm N true r).bind λo=>ky (λ(b:Int×Int×Unit) (c:dc×Int) (h:dc×Int->Option (dc×Nat×Int))=>
  ar ((a6 b.2.1 a.2.2.1.length)&&(true)) <|
  cond (decide (0<(a.2.2.1.getD b.2.1.toNat 0))) (ar ((a6 b.2.1 a.2.2.1.length)&&(true)) <|
  (uz N b.2.1 a.2.1 a.2.2.1).bind λg=>
  ar (((decide (0<=b.2.1))&&(decide (b.2.1<=g))&&(decide (g<=(a.2.1.length:Int))))&&(true)) <|
  (vO N ((a.2.1.take g.toNat).drop b.2.1.toNat) (a.2.2.1.getD b.2.1.toNat 0) c.2 c.1).bind λi=>
  h (i.2,i.1)) (h (c.1,c.2))) o (a.2.2.2,f.1) λn=>
  (HE N a f N (0,n.1,n.2)).bind λj=>
  (ye N 0 j.2 j.1).bind λp=>
  (yc N p.2).bind λk=>
  some (k.1,k.2,0)) (λq=>some q)))
theorem aiX:NI=Dn:=by
 unfold NI Dn;simp only[jO,lZ]
theorem aiY:HF=vP:=by
 unfold HF vP;rw[aiX]
def aiZ(N:Nat):bA bD:=l4 N ba [.c (.bz (.int .i64)),.c (.bz (.int .i64))] [] ⟨.cE [.c (.iG c4),.c (.int .i64)],[],[]⟩ [V1 N,aiS N,aiT N,aiV N,V4 N,ND N] [aiU N] (.s .d (.s .d (.s .d (.s (.s .d (.b (.ff 0 ⟨[(33,.a (.c (.int .i64)))],[],[0,1,31,32],[]⟩ ⟨[],[],[0,1],[]⟩ .d))) (.s .d (.s (.r [.n 2,.w (.rG 10 0 21 3 (.int .i64)),.w (.rG 11 0 23 3 (.int .i64))]) (.s (.s (.r [.n 3,.w (.rG 9 0 24 76 c4)]) (.b (.eB 2 ⟨[(9,.a (.c (.raw (.ptr 9 0)))),(10,.a (.c (.raw (.ptr 10 0)))),(11,.a (.c (.raw (.ptr 11 0)))),(60,.a (.c (.int .i64)))],[G5,(10,.cells 32 [.raw (.ax 21)]),(11,.cells 32 [.raw (.ax 23)]),(21,.row 3 (.int .i64)),(23,.row 3 (.int .i64)),(24,.row 76 c4)],[0,1,58,59],[]⟩ ⟨[(9,.a (.c (.raw (.ptr 9 0)))),(10,.a (.c (.raw (.ptr 10 0)))),(11,.a (.c (.raw (.ptr 11 0))))],[G5,(10,.cells 32 [.raw (.ax 21)]),(11,.cells 32 [.raw (.ax 23)]),(21,.row 3 (.int .i64)),(23,.row 3 (.int .i64)),(24,.row 76 c4)],[],[]⟩ (.s .d (.s .d (.s (.b (.s .d (.s (.s (.o [] [.t 0 0,.t 1 0,.t 2 0,.t 3 0,.t 4 0,.t 5 0,.t 6 0,.t 7 0,.t 8 0,.t 9 1,.t 10 0,.t 11 0,.t 12 0,.t 13 0,.t 14 1,.t 15 0,.t 16 0] []) (.c (.s (.o [] [.t 0 0,.t 1 0,.t 2 0,.t 3 0,.t 4 0,.t 5 0,.t 6 0,.t 7 0,.t 8 0,.t 9 1,.t 10 0,.t 11 0,.c 12 [(1000000,9),(1000001,24)]] []) .d) .d)) (.dm [] [1,2,3,4,5,6,7,8,9,10,11,1000012,1000013,1000014] (.b [.t 0 3,.t 1 0,.t 4 3,.t 5 0,.t 6 0,.t 7 0,.t 8 1,.t 9 0,.t 10 0] 2 11 [] [] none none (.b [] 3 11 [] [] none none (.f [.k 11,.s 12,.s 13,.s 14]) (.f [.k 3,.s 12,.s 13,.s 14])) (.f [.k 2,.k 3,.s 12,.s 13,.s 14])) [] false)))) .d)))))) (.s .d (.s (.r [.n 1,.w (.nil 15 15 3 (.int .i64))]) (.s (.s (.r [.n 1,.w (.da 21),.w (.bX 10 (.ax (.int .i64))),.w (.da 23),.w (.bX 11 (.ax (.int .i64)))]) (.b (.eB 4 ⟨[(9,.a (.c (.raw (.ptr 9 0)))),(14,.a (.c (.raw (.ptr 14 0)))),(15,.a (.c (.raw (.ax 15)))),(16,.a (.c (.int .i64)))],[G5,(15,.row 3 (.int .i64))],[10,11],[14,24]⟩ ⟨[(9,.a (.c (.raw (.ptr 9 0)))),(14,.a (.c (.raw (.ptr 14 0)))),(15,.a (.c (.raw (.ax 15))))],[G5,(15,.row 3 (.int .i64))],[10,11],[14,24]⟩ .d))) (.s (.s (.r [.n 1,.w (.da 15)]) (.b (.p1 [(9,177),(14,182)] ⟨[],[(24,.row 76 c4),(177,.cells 201 [.raw (.ax 24),.int .i64])],[],[182]⟩ (.b (.s .d (.c (.o [3,4,5,6,7,8,9,1000010] [.t 0 1,.t 1 0,.t 2 3,.t 3 0,.t 6 1,.t 7 0,.t 8 0,.t 9 1,.c 4 [],.t 5 0,.c 10 [(1000000,177),(1000001,24)]] []) .d)))))) (.s (.s .d (.b (.eB 8 ⟨[(9,.a (.c (.raw (.ptr 177 0)))),(14,.a (.c (.raw (.ptr 182 0)))),(143,.a (.c (.int .i64)))],[(24,.row 76 c4),(177,.cells 201 [.raw (.ax 24),.int .i64])],[10,11,141,142],[182]⟩ ⟨[(9,.a (.c (.raw (.ptr 177 0))))],[(24,.row 76 c4),(177,.cells 201 [.raw (.ax 24),.int .i64])],[],[]⟩ (.s .d (.s .d (.s (.b (.s .d (.s .d (.c (.o [3,4,5,6,7,8,9,1000010] [.t 0 1,.t 1 0,.t 2 3,.t 3 0,.t 6 1,.t 7 0,.t 8 0,.t 9 1,.c 4 [],.t 5 0,.c 10 [(1000000,177),(1000001,24)]] []) .d)))) .d)))))) (.s (.r [.c [(1000000,177),(1000001,24)]]) (.s (.r [.n 2,.w (.da 24)]) .d)))))))))))))) [.tmp 4,.tmp 5] ([],0,0) (λd=>HF N d.1 d.2.1) (λd=>vP N d.1 d.2.1) (λd=>(by rw[aiY]:HF N d.1 d.2.1=vP N d.1 d.2.1)) func80 ntmps80
def mF(N:Nat)(a:ad):Option (Int):=
  cond (cond (!(decide (a.1=0))) (!(decide (a.1=1))) false) (some 1) (cond (cond (decide (a.2<1)) true (decide (40<a.2))) (some 1) (some 0))
def vQ(N:Nat):bA bD:=b0 N ba [.cK aJ] [] ⟨.a (.c (.int .i64)),[],[]⟩ [] [] (.s (.r [.n 2,.w (.bX 1 aJ)]) .d) [.tmp 2] 0 (λd=>mF N d.1) func22 ntmps22
def yg(N:Nat)(a:Int):Option (Bool):=
  some (cond (decide ((-4:Int)<=a)) (decide (a<=4)) false)
def Wb(N:Nat):bA bD:=b0 N ba [.c (.int .i64)] [] ⟨.a (.c .bool),[],[]⟩ [] [] (.d) [.tmp 2] false (λd=>yg N d.1) func151 ntmps151
def pn(N:Nat)(a:ad)(b:Int):Option (Int):=
  (mF N a).bind λc=>
  Option.bind (cond (!(!(decide (c=0)))) (yg N b) (some false)) λd=>
  cond (cond (!(decide (c=0))) true (!d)) (some 0) (cond (decide (a.1=0)) (ar ((bf (4 * a.2))&&((bf ((4 * a.2)+2))&&(true))) <|
  some ((4 * a.2)+2)) (ar ((bf (a.2+b))&&((bf (4 * (a.2+b)))&&(true))) <|
  some (4 * (a.2+b))))
def HG(N:Nat):bA bD:=b0 N ba [.cK aJ,.c (.int .i64)] [] ⟨.a (.c (.int .i64)),[],[]⟩ [vQ N,Wb N] [] (.s (.r [.n 2,.w (.bX 2 aJ)]) .d) [.tmp 4] 0 (λd=>pn N d.1 d.2.1) func99 ntmps99
def Dt(N:Nat)(a:ad)(b:Int):Option (ad×Int):=
  (mF N a).bind λd=>
  cond (!(decide (d=0))) (some ((0,0),1)) ((yg N b).bind λe=>
  cond (!e) (some ((0,0),11)) (ar ((bf (a.2-b))&&(true)) <|
  Option.bind (cond (decide (a.1=1)) (ar ((bf (a.2+b))&&(true)) <|
  some (0,(a.2+b))) (some (1,(a.2-b)))) λc=>
  (mF N c).bind λf=>
  cond (!(decide (f=0))) (some ((0,0),11)) (some (c,0))))
def ai0(N:Nat):bA bD:=b0 N ba [.cK aJ,.c (.int .i64)] [] ⟨.cE [.cK aJ,.c (.int .i64)],[],[]⟩ [vQ N,Wb N] [] (.s (.r [.n 3,.w (.bX 2 aJ)]) (.s .d (.s .d (.s .d (.j ⟨[(4,.a (.c (.raw (.ptr 4 0)))),(6,.a (.c (.raw (.ptr 6 0))))],[(6,.cells 56 [.int .u8,.int .i64])],[],[4]⟩ .d .d))))) [.cell 4 56,.tmp 5] (aJ.zero,0) (λd=>Dt N d.1 d.2.1) func98 ntmps98
def sV(N:Nat) :Option ((List (Int×Sn))):=
  some (ez (.int .u8) eA (ez (.int .u8) eA (ez (.int .u8) eA (ez (.int .u8) eA (ez (.int .u8) eA (ez (.int .u8) eA (ez (.int .u8) eA (ez (.int .u8) eA ([]:List (Int×Sn)) 1 (true,(false,(true,false)))) 2 (false,(false,(true,false)))) 3 (false,(false,(false,true)))) 4 (true,(true,(true,false)))) 5 (true,(true,(true,false)))) 6 (true,(true,(true,false)))) 7 (false,(true,(false,false)))) 8 (false,(true,(false,false))))
def ai1(N:Nat):bA bD:=b0 N ba [] [] ⟨.a (.c (.raw (.dv 1))),[(1,.mp (.int .u8) eA)],[]⟩ [] [] (.s .d (.s (.r [.t (.pe (.int .u8) eA),.n 1,.t .nh,.n 1,.t .nh,.n 1,.t .nh,.n 1,.t .nh,.n 1,.t .nh,.n 1,.t .nh,.n 1,.t .nh,.n 1,.t .nh]) .d)) [.tmp 0] [] (λd=>sV N ) func153 ntmps153
def nn(N:Nat)(a:bH):Option (Bool):=
  (sV N).bind λb=>
  cond (!((cX (.int .u8) eA b a.1).isSome)) (some false) (cond (cond (cond (cond ((cX (.int .u8) eA b a.1).getD eA.zero).1 (!(decide (a.2.1=0))) false) (!(decide (a.2.1=1))) false) true (cond (!((cX (.int .u8) eA b a.1).getD eA.zero).1) (!(decide (a.2.1=0))) false)) (some false) (Option.bind (cond ((cX (.int .u8) eA b a.1).getD eA.zero).2.1 (mF N a.2.2.1) (some 0)) λc=>
  cond (cond (cond ((cX (.int .u8) eA b a.1).getD eA.zero).2.1 (!(decide (c=0))) false) true (cond (!((cX (.int .u8) eA b a.1).getD eA.zero).2.1) (!(aZ.beq aJ a.2.2.1 (0,0))) false)) (some false) (cond (cond (cond ((cX (.int .u8) eA b a.1).getD eA.zero).2.2.1 (cond (decide (a.2.2.2.1<1)) true (decide (6<a.2.2.2.1))) false) true (cond (!((cX (.int .u8) eA b a.1).getD eA.zero).2.2.1) (!(decide (a.2.2.2.1=0))) false)) (some false) (some (cond ((cX (.int .u8) eA b a.1).getD eA.zero).2.2.2 true (decide (a.2.2.2.2=0)))))))
def HH(N:Nat)(a:bH):Option (Bool):=
  (λ(d:_->_->Option _)=>
  fX ((sV N).bind λb=>
  hP (cond (!((cX (.int .u8) eA b a.1).isSome)) (some false) (cond (cond (cond (cond ((cX (.int .u8) eA b a.1).getD eA.zero).1 (!(decide (a.2.1=0))) false) (!(decide (a.2.1=1))) false) true (cond (!((cX (.int .u8) eA b a.1).getD eA.zero).1) (!(decide (a.2.1=0))) false)) (some false) (Option.bind (cond ((cX (.int .u8) eA b a.1).getD eA.zero).2.1 (mF N a.2.2.1) (some 0)) λc=>
  d b c)))) ((sV N).bind λb=>
  cond (!((cX (.int .u8) eA b a.1).isSome)) (some false) (cond (cond (cond (cond ((cX (.int .u8) eA b a.1).getD eA.zero).1 (!(decide (a.2.1=0))) false) (!(decide (a.2.1=1))) false) true (cond (!((cX (.int .u8) eA b a.1).getD eA.zero).1) (!(decide (a.2.1=0))) false)) (some false) (Option.bind (cond ((cX (.int .u8) eA b a.1).getD eA.zero).2.1 (mF N a.2.2.1) (some 0)) λc=>
  d b c)))) (λb c=>
  cond (cond (cond ((cX (.int .u8) eA b a.1).getD eA.zero).2.1 (!(decide (c=0))) false) true (cond (!((cX (.int .u8) eA b a.1).getD eA.zero).2.1) (!(aZ.beq aJ a.2.2.1 (0,0))) false)) (some false) (cond (cond (cond ((cX (.int .u8) eA b a.1).getD eA.zero).2.2.1 (cond (decide (a.2.2.2.1<1)) true (decide (6<a.2.2.2.1))) false) true (cond (!((cX (.int .u8) eA b a.1).getD eA.zero).2.2.1) (!(decide (a.2.2.2.1=0))) false)) (some false) (some (cond ((cX (.int .u8) eA b a.1).getD eA.zero).2.2.2 true (decide (a.2.2.2.2=0))))))
theorem ai2:HH=nn:=by
 unfold HH nn;simp only[jO,lZ]
def ai3(N:Nat):bA bD:=l4 N ba [.cK c4] [] ⟨.a (.c .bool),[],[]⟩ [ai1 N,vQ N] [] (.s (.r [.n 2,.w (.bX 1 c4)]) (.s (.dm [] [] (.b [.t 1 0,.t 2 1] 0 7 [(1,6)] [] none none (.b [] 3 7 [] [] (some .F9) none (.f [.m 4,.t 5 0,.t 6 0,.s 7,.s 8,.t 9 0]) (.f [.u 3 .F9,.m 4,.t 5 0,.t 6 0,.s 8,.t 9 0])) (.f [.c 0 [(1,6)],.u 3 .F9,.m 4,.t 5 0,.t 6 0,.s 8,.t 9 0])) [(.bX 3 eA)] false) .d)) [.tmp 2] false (λd=>HH N d.1) (λd=>nn N d.1) (λd=>(by rw[ai2]:HH N d.1=nn N d.1)) func102 ntmps102
def kz(N:Nat)(a:bH):Option (Int):=
  (nn N a).bind λb=>
  cond (!b) (some 1) (cond (cond (decide (a.2.2.2.2<(-4:Int))) true (decide (4<a.2.2.2.2))) (some 11) (some 0))
def Wc(N:Nat):bA bD:=b0 N ba [.cK c4] [] ⟨.a (.c (.int .i64)),[],[]⟩ [ai3 N] [] (.s (.r [.n 2,.w (.bX 1 c4)]) .d) [.tmp 2] 0 (λd=>kz N d.1) func59 ntmps59
def HI(N:Nat)(a:Int)(b:bR):Option (Int):=
  Option.bind (cond (!(cond (decide (a<1)) true (decide (6<a)))) (vN N b) (some 0)) λc=>
  cond (cond (cond (cond (decide (a<1)) true (decide (6<a))) true (!(decide (c=0)))) true (decide ((b.length:Int)=0))) (some 1) (some 0)
def ai4(N:Nat):bA bD:=b0 N ba [.c (.int .u8),.c (.bz (.int .i64))] [] ⟨.a (.c (.int .i64)),[],[]⟩ [V1 N] [] (.d) [.tmp 4] 0 (λd=>HI N d.1 d.2.1) func78 ntmps78
def Du(N:Nat)(a:Int)(b:bR):Option (ad):=
  ar ((a6 a b.length)&&(true)) <|
  some (0,(b.getD a.toNat 0))
def ai5(N:Nat):bA bD:=b0 N ba [.c (.int .i64),.c (.fu (.ax (.int .i64)) 0)] [] ⟨.a (.cK aJ),[],[]⟩ [] [] (.d) [.cell 3 56] aJ.zero (λd=>Du N d.1 d.2.1) func79 ntmps79
def Wd(N:Nat)(d:Int)(a:bR):Nat->(Int×dc)->Option ((dc)⊕(dc×Nat×Int)):=b4 λd2 eL=>
  cond (decide (d2.1<(a.length:Int))) (Option.bind (cond (decide (0<d2.1)) (ar ((bf (d2.1-1))&&(((decide (0<=(d2.1-1)))&&(decide ((d2.1-1)<=d2.1))&&(decide (d2.1<=(a.length:Int))))&&((bf (d2.1+1))&&(((decide (0<=d2.1))&&(decide (d2.1<=(d2.1+1)))&&(decide ((d2.1+1)<=(a.length:Int))))&&(true))))) <|
  (vP N ((a.take d2.1.toNat).drop (d2.1-1).toNat) ((a.take (d2.1+1).toNat).drop d2.1.toNat)).bind λc=>
  cond (!(decide (c.2.2=0))) (some (.inr (.inr (([]:dc),0,c.2.2)))) (ar ((dk 40 (d2.2.length+c.1.length))&&(true)) <|
  some (.inl (d2.2++c.1)))) (some (.inl d2.2))) λ(b:(dc)⊕((dc)⊕(dc×Nat×Int)))=>
  sm b (λb=>
  (Du N d2.1 a).bind λe=>
  ar ((dk 40 (b.length+[(4,(1,(e,(d,0))))].length))&&(true)) <|
  ar ((bf (d2.1+1))&&(true)) <|
  eL ((d2.1+1),(b++[(4,(1,(e,(d,0))))]))) (λq=>some q)) (some (.inl d2.2))
def Dv(N:Nat)(c:Int)(a:bR):Option (dc×Nat×Int):=
  (HI N c a).bind λd=>
  cond (!(decide (d=0))) (some (([]:dc),0,d)) ((Wd N c a N (0,([]:dc))).bind λ(b:(dc)⊕(dc×Nat×Int))=>
  sm b (λb=>
  ar ((bf ((a.length:Int)-1))&&(true)) <|
  (Du N ((a.length:Int)-1) a).bind λe=>
  ar ((dk 40 (b.length+[(8,(0,(e,(0,0))))].length))&&(true)) <|
  (yc N (b++[(8,(0,(e,(0,0))))])).bind λf=>
  some (f.1,f.2,0)) (λq=>some q))
def ai6(N:Nat):bA bD:=b0 N ba [.c (.int .u8),.c (.bz (.int .i64))] [] ⟨.cE [.c (.iG c4),.c (.int .i64)],[],[]⟩ [ai4 N,aiZ N,ai5 N,ND N] [] (.s (.r [.n 3,.w (.bX 3 (.ax (.int .i64)))]) (.s .d (.s .d (.s (.r [.n 1,.w (.nil 8 8 76 c4)]) (.s (.s .d (.b (.ff 0 ⟨[(8,.a (.c (.raw (.ax 8)))),(21,.a (.c (.int .i64)))],[(8,.row 76 c4)],[0,3,7,20],[]⟩ ⟨[(8,.a (.c (.raw (.ax 8))))],[(8,.row 76 c4)],[3,7],[]⟩ (.s .d (.s .d (.s (.b (.s .d (.CS ⟨[(8,.a (.c (.raw (.ax 8))))],[(8,.row 76 c4)],[0,3,7,9,20,21],[]⟩ (.s .d (.c (.s (.o [] [.t 0 1,.t 1 0,.t 2 0,.t 3 0,.t 4 0,.t 5 1,.t 6 0,.t 7 0,.t 8 0,.t 9 0,.c 10 [],.m 11,.t 12 0,.t 13 0,.t 14 0,.t 15 0] []) .d) .d)) .d))) .d)))))) (.s .d (.s (.r [.n 1,.w (.da 8)]) .d))))))) [.tmp 4,.tmp 5] ([],0,0) (λd=>Dv N d.1 d.2.1) func39 ntmps39
def ai7(N:Nat)(a:bR):Nat->Int->Option ((Unit)⊕(dc×Int)):=b4 λd1 cU=>
  cond (decide (d1<(a.length:Int))) (ar ((a6 d1 a.length)&&(true)) <|
  ar ((ew ((!(cond (decide ((a.getD d1.toNat 0)<1)) true (decide (6<(a.getD d1.toNat 0)))))&&(decide (0<d1))) (bf (d1-1)))&&((ew ((!(cond (decide ((a.getD d1.toNat 0)<1)) true (decide (6<(a.getD d1.toNat 0)))))&&(decide (0<d1))) (a6 (d1-1) a.length))&&(true))) <|
  cond (cond (cond (decide ((a.getD d1.toNat 0)<1)) true (decide (6<(a.getD d1.toNat 0)))) true (cond (decide (0<d1)) (decide ((a.getD d1.toNat 0)<=(a.getD (d1-1).toNat 0))) false)) (some (.inr (([]:dc),1))) (ar ((bf (d1+1))&&(true)) <|
  cU (d1+1))) (some (.inl ()))
def ai8(N:Nat)(a:bR):Nat->(Int×dc)->Option (dc):=b4 λd2 eL=>
  cond (decide (d2.1<(a.length:Int))) (ar ((a6 d2.1 a.length)&&((a6 d2.1 d2.2.length)&&(((decide (d2.1.toNat<d2.2.length))&&(true))&&(true)))) <|
  ar ((bf (d2.1+1))&&(true)) <|
  eL ((d2.1+1),(d2.2.set d2.1.toNat (2,(0,((0,0),((a.getD d2.1.toNat 0),0))))))) (some d2.2)
def We(N:Nat)(a:bR):Option (dc×Int):=
  (ai7 N a N 0).bind λ(b:(Unit)⊕(dc×Int))=>
  sm b (λb=>
  ar (((decide (0<=(a.length:Int)))&&(decide ((a.length:Int)<=(a.length:Int)))&&(fh 40 (a.length:Int)))&&(true)) <|
  (ai8 N a N (0,(replicate (a.length:Int).toNat (c4.zero:bH)))).bind λc=>
  some (c,0)) (λq=>some q)
def ai9(N:Nat):bA bD:=b0 N ba [.c (.bz (.int .u8))] [] ⟨.cE [.c (.bz c4),.c (.int .i64)],[],[]⟩ [] [] (.s .d (.s (.s .d (.b (.ff 0 ⟨[(10,.a (.c (.int .i64)))],[],[0,8,9],[]⟩ ⟨[],[],[0],[]⟩ .d))) (.s .d (.s (.s .d (.b (.eB 2 ⟨[(6,.a (.c (.raw (.ax 37)))),(40,.a (.c (.int .i64)))],[(37,.row 76 c4)],[0,39],[]⟩ ⟨[(6,.a (.c (.raw (.ax 37))))],[(37,.row 76 c4)],[],[]⟩ .d))) (.s .d (.t [.da 37])))))) [.tmp 2,.tmp 3] ([],0) (λd=>We N d.1) func41 ntmps41
def Wf(N:Nat)(a:cq)(b:cq):Nat->Int->Option ((Unit)⊕(Bool)):=b4 λd1 cU=>
  cond (decide (d1<(a.length:Int))) (ar ((a6 d1 a.length)&&(true)) <|
  ar ((a6 d1 b.length)&&(true)) <|
  (Hs N (a.getD d1.toNat bW.zero) (b.getD d1.toNat bW.zero)).bind λc=>
  cond (!c) (some (.inr false)) (ar ((bf (d1+1))&&(true)) <|
  cU (d1+1))) (some (.inl ()))
def HJ(N:Nat)(a:cq)(c:cq):Option (Bool):=
  cond (!(decide ((a.length:Int)=(c.length:Int)))) (some false) ((Wf N a c N 0).bind λ(b:(Unit)⊕(Bool))=>
  sm b (λb=>
  some true) (λq=>some q))
def aja(N:Nat):bA bD:=b0 N ba [.c (.bz bW),.c (.bz bW),.c (.fn 30 [])] [] ⟨.a (.c .bool),[],[]⟩ [aiI N] [] (.s .d (.s .d (.s (.s .d (.b (.ff 0 ⟨[(17,.a (.c (.int .i64)))],[],[1,2,15,16],[]⟩ ⟨[],[],[],[]⟩ (.s .d (.s .d (.s (.b (.s (.r [.n 6,.w (.bX 8 bW)]) (.s (.r [.n 6,.w (.bX 9 bW)]) .d))) .d)))))) .d))) [.tmp 6] false (λd=>HJ N d.1 d.2.1) func34 ntmps34
def HK(N:Nat)(a:cq)(c:cq):Option (Bool):=
  (HJ N a c).bind λb=>
  some b
def ajb(N:Nat):bA bD:=b0 N ba [.c (.bz bW),.c (.bz bW),.c (.raw (.ptr 1000000 0))] [C7] ⟨.a (.c .bool),[],[1000000]⟩ [aja N] [] (.d) [.tmp 5] false (λd=>HK N d.1 d.2.1) func33 ntmps33
def Wg(N:Nat)(a:bY)(b:bY):Nat->Int->Option ((Unit)⊕(Bool)):=b4 λd1 cU=>
  cond (decide (d1<(a.length:Int))) (ar ((a6 d1 a.length)&&(true)) <|
  ar ((a6 d1 b.length)&&(true)) <|
  (HK N (a.getD d1.toNat []) (b.getD d1.toNat [])).bind λc=>
  cond (!c) (some (.inr false)) (ar ((bf (d1+1))&&(true)) <|
  cU (d1+1))) (some (.inl ()))
def HL(N:Nat)(a:bY)(c:bY):Option (Bool):=
  cond (!(decide ((a.length:Int)=(c.length:Int)))) (some false) ((Wg N a c N 0).bind λ(b:(Unit)⊕(Bool))=>
  sm b (λb=>
  some true) (λq=>some q))
def ajc(N:Nat):bA bD:=b0 N ba [.c (.bz (.ax bW)),.c (.bz (.ax bW)),.c (.fn 33 [.id 1000000])] [C7] ⟨.a (.c .bool),[C7],[]⟩ [ajb N] [] (.s .d (.s .d (.s (.s .d (.b (.ff 0 ⟨[(2,.a (.c (.fn 33 [.id 1000000]))),(17,.a (.c (.int .i64)))],[C7],[1,15,16],[]⟩ ⟨[],[C7],[],[]⟩ (.s .d (.s .d (.s (.b (.s .d (.s .d (.s (.r [.n 3,.c [(1000000,1000000)]]) .d)))) .d)))))) .d))) [.tmp 6] false (λd=>HL N d.1 d.2.1) func35 ntmps35
def HM(N:Nat)(a:kV)(c:kV):Option (Bool):=
  (HL N a.1 c.1).bind λb=>
  Option.bind (cond b (NA N a.2.1 c.2.1) (some false)) λd=>
  Option.bind (cond (cond b d false) (ux N a.2.2.1 c.2.2.1) (some false)) λe=>
  Option.bind (cond (cond (cond b d false) e false) (ux N a.2.2.2 c.2.2.2) (some false)) λf=>
  some (cond (cond (cond b d false) e false) f false)
def ajd(N:Nat):bA bD:=b0 N ba [.cK o8,.cK o8] [] ⟨.a (.c .bool),[],[]⟩ [ajc N,aiH N,Nw N] [] (.s (.r [.n 3,.w (.bX 2 o8),.w (.bX 3 o8)]) (.s .d (.s .d (.s (.r [.n 5,.c [(1000000,5)]]) .d)))) [.tmp 4] false (λd=>HM N d.1 d.2.1) func13 ntmps13
def uB(N:Nat)(a:Int):Option (Bool):=
  some (cond (decide ((-4:Int)<=a)) (decide (a<=4)) false)
def Wh(N:Nat):bA bD:=b0 N ba [.c (.int .i64)] [] ⟨.a (.c .bool),[],[]⟩ [] [] (.d) [.tmp 2] false (λd=>uB N d.1) func193 ntmps193
def uC(N:Nat)(b:hI)(d:Int):Option (Int):=
  (AI N b).bind λa=>
  cond (!(decide (a=0))) (some a) ((uB N d).bind λc=>
  cond (!c) (some 11) (some 0))
def Wi(N:Nat):bA bD:=b0 N ba [.cK fC,.c (.int .i64)] [] ⟨.a (.c (.int .i64)),[],[]⟩ [Hy N,Wh N] [] (.s (.r [.n 2,.w (.bX 2 fC)]) .d) [.tmp 4] 0 (λd=>uC N d.1 d.2.1) func141 ntmps141
def Wj(N:Nat)(c:Int)(b:bF)(e:Int)(a:Int):Nat->(Int×dI)->Option (dI):=b4 λd2 eL=>
  cond (decide (d2.1<((b.getD a.toNat []).length:Int))) (ar ((a6 d2.1 (b.getD a.toNat []).length)&&(true)) <|
  (pn N (c,(a+1)) e).bind λd=>
  ar ((dk 40 (d2.2.length+[(((b.getD a.toNat []).getD d2.1.toNat aJ.zero),((c,(a+1)),d))].length))&&(true)) <|
  ar ((bf (d2.1+1))&&(true)) <|
  eL ((d2.1+1),(d2.2++[(((b.getD a.toNat []).getD d2.1.toNat aJ.zero),((c,(a+1)),d))]))) (some d2.2)
def Wk(N:Nat)(b:Int)(a:bF)(c:Int):Nat->(Int×dI)->Option (dI):=b4 λd1 cU=>
  cond (decide (d1.1<(a.length:Int))) (ar ((a6 d1.1 a.length)&&(true)) <|
  ar ((bf (d1.1+1))&&(true)) <|
  (Wj N b a c d1.1 N (0,d1.2)).bind λd=>
  ar ((bf (d1.1+1))&&(true)) <|
  cU ((d1.1+1),d)) (some d1.2)
def Dw(N:Nat)(a:Int)(e:bF)(b:Int)(c:dI):Option (dI):=
  (Wk N a e b N (0,c)).bind λd=>
  some d
def aje(N:Nat):bA bD:=b0 N ba [.c (.int .u8),.c (.bz (.ax aJ)),.c (.raw (.ptr 1000000 0)),.c (.fu (.int .i64) 0)] [Ar,(1000001,.row 164 cB)] ⟨.cE [],[Ar,(1000001,.row 164 cB)],[]⟩ [HG N] [] (.s .d (.b (.eB 0 ⟨[(2,.a (.c (.raw (.ptr 1000000 0)))),(13,.a (.c (.int .i64)))],[Ar,(1000001,.row 164 cB)],[0,3,11,12],[]⟩ ⟨[],[Ar,(1000001,.row 164 cB)],[],[]⟩ (.s .d (.s .d (.s (.b (.s .d (.s (.r [.n 6,.w (.bX 8 aJ)]) (.s .d (.b (.eB 2 ⟨[(2,.a (.c (.raw (.ptr 1000000 0)))),(24,.a (.c (.int .i64)))],[Ar,(1000001,.row 164 cB)],[0,3,8,11,12,13,22,23],[]⟩ ⟨[(2,.a (.c (.raw (.ptr 1000000 0))))],[Ar,(1000001,.row 164 cB)],[0,3,11,12,13],[]⟩ (.s .d (.s .d (.s (.b (.s (.r [.n 4,.w (.bX 10 aJ)]) (.o [0,1,2,3,4,5,6,7,1000008,1000009] [.t 0 3,.t 1 1,.t 2 1,.t 3 1,.t 4 1,.c 5 [],.t 6 0,.k 7,.s 8,.s 9] []))) .d))))))))) .d)))))) [] [] (λd=>Dw N d.1 d.2.1 d.2.2.1 d.2.2.2.1) func142 ntmps142
def AJ(N:Nat)(a:cb)(c:cb):Option (Int):=
  (De N a.2.2 c.2.2).bind λb=>
  some b
def ajf(N:Nat):bA bD:=b0 N ba [.cK cB,.cK cB] [] ⟨.a (.c (.int .i64)),[],[]⟩ [Vy N] [] (.s (.r [.n 3,.w (.bX 2 cB),.w (.bX 3 cB)]) .d) [.tmp 4] 0 (λd=>AJ N d.1 d.2.1) func144 ntmps144
def Dx(N:Nat)(a:Int):Nat->(Int×dI)->Option (dI):=b4 λd2 eL=>
  ar ((ew (decide (a<d2.1)) (a6 d2.1 d2.2.length))&&((ew (decide (a<d2.1)) (decide (d2.1.toNat<d2.2.length)))&&((ew (decide (a<d2.1)) (bf (d2.1-1)))&&((ew (decide (a<d2.1)) (a6 (d2.1-1) d2.2.length))&&((ew (decide (a<d2.1)) (decide ((d2.1-1).toNat<d2.2.length)))&&(true)))))) <|
  Option.bind (cond (decide (a<d2.1)) (AJ N (d2.2.getD d2.1.toNat cB.zero) (d2.2.getD (d2.1-1).toNat cB.zero)) (some 0)) λb=>
  cond (cond (decide (a<d2.1)) (decide (b<0)) false) (ar ((bf (d2.1-1))&&((bf (d2.1-1))&&((a6 (d2.1-1) d2.2.length)&&((decide ((d2.1-1).toNat<d2.2.length))&&((a6 d2.1 d2.2.length)&&((decide (d2.1.toNat<d2.2.length))&&((a6 d2.1 d2.2.length)&&(((decide (d2.1.toNat<d2.2.length))&&(true))&&((a6 (d2.1-1) (d2.2.set d2.1.toNat (d2.2.getD (d2.1-1).toNat cB.zero)).length)&&(((decide ((d2.1-1).toNat<(d2.2.set d2.1.toNat (d2.2.getD (d2.1-1).toNat cB.zero)).length))&&(true))&&(true))))))))))) <|
  ar ((bf (d2.1-1))&&(true)) <|
  eL ((d2.1-1),((d2.2.set d2.1.toNat (d2.2.getD (d2.1-1).toNat cB.zero)).set (d2.1-1).toNat (d2.2.getD d2.1.toNat cB.zero)))) (some d2.2)
def NJ(N:Nat)(a:Int)(b:Int):Nat->(Int×dI)->Option (dI):=b4 λd1 cU=>
  cond (decide (d1.1<b)) ((Dx N a N (d1.1,d1.2)).bind λc=>
  ar ((bf (d1.1+1))&&(true)) <|
  cU ((d1.1+1),c)) (some d1.2)
def yh(N:Nat)(a:Int)(d:Int)(b:dI):Option (dI):=
  ar ((bf (a+1))&&(true)) <|
  (NJ N a d N ((a+1),b)).bind λc=>
  some c
def ajg(N:Nat):bA bD:=b0 N ba [.c (.raw (.ax 2000000)),.c (.int .i64),.c (.int .i64),.c (.fn 144 [])] [(2000000,.row 164 cB)] ⟨.cE [],[(2000000,.row 164 cB)],[]⟩ [ajf N] [] (.s .d (.b (.eB 0 ⟨[(0,.a (.c (.raw (.ax 2000000)))),(8,.a (.c (.int .i64)))],[(2000000,.row 164 cB)],[1,2,3],[]⟩ ⟨[],[(2000000,.row 164 cB)],[],[]⟩ (.s .d (.s (.b (.s .d (.b (.eB 2 ⟨[(0,.a (.c (.raw (.ax 2000000)))),(9,.a (.c (.int .i64)))],[(2000000,.row 164 cB)],[1,2,3,8],[]⟩ ⟨[(0,.a (.c (.raw (.ax 2000000))))],[(2000000,.row 164 cB)],[1,2,3,8],[]⟩ (.s (.s (.l1 [9,10,11,12,13] [.t 0 0,.t 1 0,.t 2 0,.t 3 0,.t 4 0,.t 5 0,.t 6 0,.t 7 0,.t 8 3,.t 9 0,.t 10 0,.t 11 0,.t 12 0,.t 13 3,.g 14,.t 15 0,.t 16 0] []) .d) (.s (.b (.l1 [10,11,12,13] [.t 0 0,.t 1 0,.t 2 0,.t 3 0,.t 4 0,.t 5 0,.t 6 0,.t 7 0,.t 8 0,.t 9 3,.t 10 0,.t 11 0,.t 12 0,.t 13 3,.t 14 0,.s 15,.t 16 0,.s 17] [])) .d)))))) .d))))) [] [] (λd=>yh N d.1 d.2.1 d.2.2.1) func213 ntmps213
def NK(N:Nat)(a:Int):Nat->(Int×Int×dI)->Option (Int×dI):=b4 λd1 cU=>
  cond (decide (d1.2.1<=a)) ((yh N d1.1 d1.2.1 d1.2.2).bind λb=>
  ar ((bf (d1.2.1+20))&&(true)) <|
  cU (d1.2.1,(d1.2.1+20),b)) (some (d1.1,d1.2.2))
def ajh(N:Nat)(b:Int)(a:Int):Nat->Unit->Option (Unit):=b4 λc d=>
  cond (decide ((2 * a)<=b)) (ar ((bf (0+a))&&(true)) <|
  none) (some ())
def NL(N:Nat)(b:Int):Nat->Int->Option (Unit):=b4 λa rZ=>
  cond (decide (a<b)) (ar ((bf (2 * a))&&(true)) <|
  (ajh N b a N ()).bind λc=>
  ar ((bf (0+a))&&(true)) <|
  cond (decide ((0+a)<b)) (none) (ar ((bf (a * 2))&&(true)) <|
  rZ (a * 2))) (some ())
def HN(N:Nat)(a:Int)(c:dI):Option (dI):=
  (NK N a N (0,20,c)).bind λb=>
  (yh N b.1 a b.2).bind λd=>
  (NL N a N 20).bind λe=>
  some d
def aji(N:Nat):bA bD:=b0 N ba [.c (.raw (.ax 2000000)),.c (.int .i64),.c (.fn 144 [])] [(2000000,.row 164 cB)] ⟨.cE [],[(2000000,.row 164 cB)],[]⟩ [ajg N] [] (.s .d (.s .d (.s (.b (.eB 0 ⟨[(0,.a (.c (.raw (.ax 2000000)))),(7,.a (.c (.int .i64))),(8,.a (.c (.int .i64)))],[(2000000,.row 164 cB)],[1,2,6],[]⟩ ⟨[(0,.a (.c (.raw (.ax 2000000)))),(7,.a (.c (.int .i64)))],[(2000000,.row 164 cB)],[1,2,6],[]⟩ (.s .d (.b (.s (.r [.n 4,.c [(2000000,2000000)]]) .d))))) (.s (.r [.n 4,.c [(2000000,2000000)]]) (.b (.eB 2 ⟨[(0,.a (.c (.raw (.ax 2000000)))),(6,.a (.c (.int .i64)))],[],[1,2],[2000000]⟩ ⟨[],[],[],[2000000]⟩ (.s .d (.b (.s .d (.s (.b (.eB 4 ⟨[(0,.a (.c (.raw (.ax 2000000))))],[],[1,2,6,7,8],[2000000]⟩ ⟨[(0,.a (.c (.raw (.ax 2000000))))],[],[1,2,6,7],[2000000]⟩ .d)) .d)))))))))) [] [] (λd=>HN N d.1 d.2.1) func194 ntmps194
def yi(N:Nat)(a:dI):Option (dI):=
  (HN N (a.length:Int) a).bind λb=>
  some b
def ajj(N:Nat):bA bD:=b0 N ba [.c (.raw (.ax 2000000)),.c (.fn 144 [])] [(2000000,.row 164 cB)] ⟨.cE [],[(2000000,.row 164 cB)],[]⟩ [aji N] [] (.r [.n 4,.c [(2000000,2000000)]]) [] [] (λd=>yi N d.1) func143 ntmps143
def HO(N:Nat)(a:dI):Option (dI×Nat):=
  ar (((decide (0<=(a.length:Int)))&&(decide ((a.length:Int)<=(a.length:Int)))&&(fh 40 (a.length:Int)))&&(true)) <|
  ar ((beq a.length (replicate (a.length:Int).toNat (cB.zero:cb)).length)&&(true)) <|
  some (a,(a.length:Int).toNat)
def ajk(N:Nat):bA bD:=b0 N ba [.c (.bz cB)] [] ⟨.a (.c (.iG cB)),[],[]⟩ [] [] (.s .d (.s .d (.s .d (.s .d (.t [.da 6]))))) [.tmp 2] ([],0) (λd=>HO N d.1) func145 ntmps145
def r3(N:Nat)(a:hI)(b:Int):Option (dI×Nat×Int):=
  (uC N a b).bind λc=>
  cond (!(decide (c=0))) (some (([]:dI),0,c)) ((AG N a).bind λd=>
  ar (((decide (0<=d))&&(fh 40 d))&&(true)) <|
  (Dw N 0 a.1 b ([]:dI)).bind λh=>
  (Dw N 1 a.2 b h).bind λf=>
  (yi N f).bind λg=>
  (HO N g).bind λe=>
  some (e.1,e.2,0))
def Wm(N:Nat):bA bD:=b0 N ba [.cK fC,.c (.int .i64)] [] ⟨.cE [.c (.iG cB),.c (.int .i64)],[],[]⟩ [Wi N,NC N,aje N,ajj N,ajk N] [] (.s (.r [.n 4,.w (.bX 2 fC),.w (.bX 3 (.int .i64))]) (.s .d (.s .d (.s .d (.s (.r [.n 3,.c [(1000000,7),(1000001,17)]]) (.s (.r [.n 3,.c [(1000000,7),(1000001,17)]]) (.s (.r [.n 1,.c [(2000000,17)]]) (.s (.r [.n 1,.w (.da 17)]) .d)))))))) [.tmp 4,.tmp 5] ([],0,0) (λd=>r3 N d.1 d.2.1) func90 ntmps90
def Dy(N:Nat)(d:hI)(b:Int)(a:Int):Option (Int):=
  (uC N d b).bind λc=>
  cond (!(decide (c=0))) (some c) (cond (cond (!(decide (a=0))) (!(decide (a=1))) false) (some 1) (ar (((a6 a 2)&&(a6 a lf.length))&&((bf (b+(lf.getD a.toNat 0)))&&(true))) <|
  (uB N (b+(lf.getD a.toNat 0))).bind λe=>
  cond (!e) (some 11) (some 0)))
def Wn(N:Nat):bA bD:=b0 N ba [.cK fC,.c (.int .i64),.c (.int .u8)] [] ⟨.a (.c (.int .i64)),[],[]⟩ [Wi N,Wh N] [] (.s (.r [.n 2,.w (.bX 3 fC)]) .d) [.tmp 6] 0 (λd=>Dy N d.1 d.2.1 d.2.2.1) func195 ntmps195
def sW(N:Nat)(a:dd):Option (dd×Nat):=
  ar (((decide (0<=(a.length:Int)))&&(decide ((a.length:Int)<=(a.length:Int)))&&(fh 24 (a.length:Int)))&&(true)) <|
  ar ((beq a.length (replicate (a.length:Int).toNat (c3.zero:b5)).length)&&(true)) <|
  some (a,(a.length:Int).toNat)
def Wo(N:Nat):bA bD:=b0 N ba [.c (.bz c3)] [] ⟨.a (.c (.iG c3)),[],[]⟩ [] [] (.s .d (.s .d (.s .d (.s .d (.t [.da 6]))))) [.tmp 2] ([],0) (λd=>sW N d.1) func196 ntmps196
def Wp(N:Nat)(b:hI)(d:Int)(c:Int):Nat->(Int×dd)->Option (dd):=b4 λa q6=>
  cond (decide (a.1<((b.2.getD c.toNat []).length:Int))) (ar ((a6 a.1 (b.2.getD c.toNat []).length)&&(true)) <|
  ar ((dk 24 (a.2.length+[(((b.2.getD c.toNat []).getD a.1.toNat aJ.zero),(true,d))].length))&&(true)) <|
  ar ((bf (a.1+1))&&(true)) <|
  q6 ((a.1+1),(a.2++[(((b.2.getD c.toNat []).getD a.1.toNat aJ.zero),(true,d))]))) (some a.2)
def Wq(N:Nat)(e:hI)(f:Int)(a:Int)(d:Int)(g:Int):Nat->(Int×dd)->Option (dd):=b4 λb gJ=>
  cond (decide (b.1<(e.2.length:Int))) (ar ((a6 b.1 e.2.length)&&(true)) <|
  ar ((bf (b.1+1))&&(true)) <|
  (pn N (1,(b.1+1)) f).bind λc=>
  ar (((a6 a 2)&&(a6 a lf.length))&&((bf (c+(lf.getD a.toNat 0)))&&((ew (!(decide (d=(c+(lf.getD a.toNat 0))))) ((a6 a 2)&&(a6 a lf.length)))&&((ew (!(decide (d=(c+(lf.getD a.toNat 0))))) (bf (3 * (lf.getD a.toNat 0))))&&((ew (!(decide (d=(c+(lf.getD a.toNat 0))))) (bf (c+(3 * (lf.getD a.toNat 0)))))&&(true)))))) <|
  cond (cond (!(decide (d=(c+(lf.getD a.toNat 0))))) (!(decide (d=(c+(3 * (lf.getD a.toNat 0)))))) false) (ar ((bf (b.1+1))&&(true)) <|
  gJ ((b.1+1),b.2)) ((Wp N e g b.1 N (0,b.2)).bind λh=>
  ar ((bf (b.1+1))&&(true)) <|
  gJ ((b.1+1),h))) (some b.2)
def HP(N:Nat)(b:hI)(e:Int)(a:Int)(c:Int):Option (dd×Nat×Int):=
  (Dy N b e a).bind λd=>
  cond (!(decide (d=0))) (some (([]:dd),0,d)) (cond (decide ((tmod c 2)=0)) (some (([]:dd),0,1)) (Option.bind (cond (decide (a=0)) (some 1) (some 0)) λg=>
  (Wq N b e a c g N (0,([]:dd))).bind λf=>
  Option.bind (cond (decide (g=0)) ((x6 N f).bind λj=>
  some j) (some f)) λi=>
  (sW N i).bind λh=>
  some (h.1,h.2,0)))
def ajl(N:Nat):bA bD:=b0 N ba [.cK fC,.c (.int .i64),.c (.int .u8),.c (.int .i64)] [] ⟨.cE [.c (.iG c3),.c (.int .i64)],[],[]⟩ [Wn N,HG N,Nf N,Wo N] [] (.s (.r [.n 3,.w (.bX 4 fC)]) (.s .d (.s .d (.s .d (.j ⟨[(11,.a (.c (.int .u8)))],[],[1,2,3,4],[]⟩ .d (.s (.r [.n 1,.w (.nil 12 12 97 c3)]) (.s (.s .d (.b (.eB 0 ⟨[(12,.a (.c (.raw (.ax 12)))),(33,.a (.c (.int .i64)))],[(12,.row 97 c3)],[1,2,3,11,31,32],[]⟩ ⟨[(12,.a (.c (.raw (.ax 12))))],[(12,.row 97 c3)],[11],[]⟩ (.s .d (.s .d (.s (.b (.s .d (.s .d (.s .d (.s .d (.b (.eB 2 ⟨[(12,.a (.c (.raw (.ax 12)))),(62,.a (.c (.int .i64)))],[(12,.row 97 c3)],[1,2,3,11,31,32,33,60,61],[]⟩ ⟨[(12,.a (.c (.raw (.ax 12))))],[(12,.row 97 c3)],[1,2,3,11,31,32,33],[]⟩ (.s .d (.s .d (.s (.b (.s (.r [.n 4,.w (.bX 17 aJ)]) .d)) .d)))))))))) .d)))))) (.j ⟨[(12,.a (.c (.raw (.ax 12))))],[(12,.row 97 c3)],[],[]⟩ (.s .d (.c (.r [.n 1,.c [(2000000,12)]]) .d)) (.s (.r [.n 1,.w (.da 12)]) .d))))))))) [.tmp 8,.tmp 9] ([],0,0) (λd=>HP N d.1 d.2.1 d.2.2.1 d.2.2.2.1) func146 ntmps146
def vR(N:Nat)(a:dI)(b:Int×Int×Int):Nat->(Int×dd)->Option (dd):=b4 λd2 eL=>
  cond (decide (d2.1<(a.length:Int))) (ar ((a6 d2.1 a.length)&&(true)) <|
  cond (cond (decide (b.1<(a.getD d2.1.toNat cB.zero).2.2)) (decide ((a.getD d2.1.toNat cB.zero).2.2<b.2.1)) false) (ar ((dk 24 (d2.2.length+[((a.getD d2.1.toNat cB.zero).1,((decide ((a.getD d2.1.toNat cB.zero).2.1.1=1)),b.2.2))].length))&&(true)) <|
  ar ((bf (d2.1+1))&&(true)) <|
  eL ((d2.1+1),(d2.2++[((a.getD d2.1.toNat cB.zero).1,((decide ((a.getD d2.1.toNat cB.zero).2.1.1=1)),b.2.2))]))) (ar ((bf (d2.1+1))&&(true)) <|
  eL ((d2.1+1),d2.2))) (some d2.2)
def qd(N:Nat)(f:dI)(b:Int)(a:Int):Option (dd×Nat):=
  Option.bind (cond (decide (b<a)) (some (b,a,1)) (some (a,b,0))) λc=>
  (vR N f c N (0,([]:dd))).bind λe=>
  Option.bind (cond (decide (c.2.2=0)) ((x6 N e).bind λh=>
  some h) (some e)) λg=>
  (sW N g).bind λd=>
  some (d.1,d.2)
def ajm(N:Nat):bA bD:=b0 N ba [.c (.bz cB),.c (.int .i64),.c (.int .i64)] [] ⟨.a (.c (.iG c3)),[],[]⟩ [Nf N,Wo N] [] (.s .d (.s .d (.j ⟨[(7,.a (.c (.int .i64))),(8,.a (.c (.int .i64))),(9,.a (.c (.int .u8)))],[],[0],[]⟩ .d (.s (.r [.n 1,.w (.nil 10 10 97 c3)]) (.s (.s .d (.b (.eB 0 ⟨[(10,.a (.c (.raw (.ax 10)))),(22,.a (.c (.int .i64)))],[(10,.row 97 c3)],[7,8,9,20,21],[]⟩ ⟨[(10,.a (.c (.raw (.ax 10))))],[(10,.row 97 c3)],[9],[]⟩ (.s .d (.s .d (.s (.b (.s (.r [.n 4,.w (.bX 12 cB)]) .d)) .d)))))) (.j ⟨[(10,.a (.c (.raw (.ax 10))))],[(10,.row 97 c3)],[],[]⟩ (.s .d (.c (.r [.n 1,.c [(2000000,10)]]) .d)) (.s (.r [.n 1,.w (.da 10)]) .d))))))) [.tmp 6] ([],0) (λd=>qd N d.1 d.2.1 d.2.2.1) func149 ntmps149
def HQ(N:Nat)(a:bJ):Option (bJ):=
  ar (((decide (0<=(a.length:Int)))&&(decide ((a.length:Int)<=(a.length:Int)))&&(fh 16 (a.length:Int)))&&(true)) <|
  ar ((beq a.length (replicate (a.length:Int).toNat (aJ.zero:ad)).length)&&(true)) <|
  some a
def ajn(N:Nat):bA bD:=b0 N ba [.c (.bz aJ)] [] ⟨.a (.c (.raw (.ax 6))),[(6,.row 58 aJ)],[]⟩ [] [] (.d) [.tmp 2] [] (λd=>HQ N d.1) func23 ntmps23
def vS(N:Nat)(a:bJ):Option (bJ×Nat):=
  ar (((decide (0<=(a.length:Int)))&&(decide ((a.length:Int)<=(a.length:Int)))&&(fh 16 (a.length:Int)))&&(true)) <|
  ar ((beq a.length (replicate (a.length:Int).toNat (aJ.zero:ad)).length)&&(true)) <|
  some (a,(a.length:Int).toNat)
def NM(N:Nat):bA bD:=b0 N ba [.c (.bz aJ)] [] ⟨.a (.c (.iG aJ)),[],[]⟩ [] [] (.s .d (.s .d (.s .d (.s .d (.t [.da 6]))))) [.tmp 2] ([],0) (λd=>vS N d.1) func23 ntmps23
def Dz(N:Nat)(c:hI)(a:ad):Option (bJ):=
  (mF N a).bind λd=>
  cond (!(decide (d=0))) (some ([]:bJ)) (Option.bind (cond (decide (a.1=1)) (some c.2) (some c.1)) λb=>
  cond (decide ((b.length:Int)<a.2)) (some ([]:bJ)) (ar ((bf (a.2-1))&&((a6 (a.2-1) b.length)&&(true))) <|
  (HQ N (b.getD (a.2-1).toNat [])).bind λe=>
  some e))
def ajo(N:Nat):bA bD:=b0 N ba [.cK fC,.cK aJ] [] ⟨.a (.c (.raw (.ax 27))),[(27,.row 58 aJ)],[]⟩ [vQ N,ajn N] [] (.s (.r [.n 3,.w (.bX 2 fC),.w (.bX 3 aJ)]) (.s (.s .d (.c (.s .d (.t [.nil 4 27 58 aJ])) .d)) (.s .d (.j ⟨[(5,.a (.c (.bz (.ax aJ))))],[],[3],[]⟩ .d (.s (.s .d (.c (.s .d (.t [.nil 4 27 58 aJ])) .d)) (.s (.r [.n 6,.c [(6,27)]]) .d)))))) [.tmp 4] [] (λd=>Dz N d.1 d.2.1) func10 ntmps10
def sX(N:Nat)(c:hI)(a:ad):Option (bJ×Nat):=
  (mF N a).bind λe=>
  cond (!(decide (e=0))) (some (([]:bJ),0)) (Option.bind (cond (decide (a.1=1)) (some c.2) (some c.1)) λb=>
  cond (decide ((b.length:Int)<a.2)) (some (([]:bJ),0)) (ar ((bf (a.2-1))&&((a6 (a.2-1) b.length)&&(true))) <|
  (vS N (b.getD (a.2-1).toNat [])).bind λd=>
  some (d.1,d.2)))
def HR(N:Nat):bA bD:=b0 N ba [.cK fC,.cK aJ] [] ⟨.a (.c (.iG aJ)),[],[]⟩ [vQ N,NM N] [] (.s (.r [.n 3,.w (.bX 2 fC),.w (.bX 3 aJ)]) (.s .d (.s .d (.j ⟨[(5,.a (.c (.bz (.ax aJ))))],[],[3],[]⟩ .d .d)))) [.tmp 4] ([],0) (λd=>sX N d.1 d.2.1) func10 ntmps10
def ajp(N:Nat) :Nat->(Int×Int×dI)->Option (dI):=b4 λd1 cU=>
  cond (decide (d1.1<d1.2.1)) (ar ((a6 d1.2.1 d1.2.2.length)&&((decide (d1.2.1.toNat<d1.2.2.length))&&((a6 d1.1 d1.2.2.length)&&((decide (d1.1.toNat<d1.2.2.length))&&((a6 d1.1 d1.2.2.length)&&(((decide (d1.1.toNat<d1.2.2.length))&&(true))&&((a6 d1.2.1 (d1.2.2.set d1.1.toNat (d1.2.2.getD d1.2.1.toNat cB.zero)).length)&&(((decide (d1.2.1.toNat<(d1.2.2.set d1.1.toNat (d1.2.2.getD d1.2.1.toNat cB.zero)).length))&&(true))&&(true))))))))) <|
  ar ((bf (d1.1+1))&&((bf (d1.2.1-1))&&(true))) <|
  cU ((d1.1+1),(d1.2.1-1),((d1.2.2.set d1.1.toNat (d1.2.2.getD d1.2.1.toNat cB.zero)).set d1.2.1.toNat (d1.2.2.getD d1.1.toNat cB.zero)))) (some d1.2.2)
def NN(N:Nat)(a:dI):Option (dI):=
  ar ((bf ((a.length:Int)-1))&&(true)) <|
  (ajp N N (0,((a.length:Int)-1),a)).bind λb=>
  some b
def ajq(N:Nat):bA bD:=b0 N ba [.c (.raw (.ax 2000000))] [(2000000,.row 238 cB)] ⟨.cE [],[(2000000,.row 238 cB)],[]⟩ [] [] (.s .d (.b (.eB 0 ⟨[(0,.a (.c (.raw (.ax 2000000)))),(2,.a (.c (.int .i64))),(3,.a (.c (.int .i64)))],[(2000000,.row 238 cB)],[],[]⟩ ⟨[],[(2000000,.row 238 cB)],[],[]⟩ (.s .d (.s (.b (.l1 [8,9,10,11] [.t 0 0,.t 1 0,.t 2 0,.t 3 0,.t 4 0,.t 5 0,.t 6 0,.t 7 3,.t 8 0,.t 9 0,.t 10 0,.t 11 3,.t 12 0,.s 13,.t 14 0,.s 15] [])) .d))))) [] [] (λd=>NN N d.1) func198 ntmps198
def NO(N:Nat)(a:dI):Option (dI×Nat):=
  ar (((decide (0<=(a.length:Int)))&&(decide ((a.length:Int)<=(a.length:Int)))&&(fh 40 (a.length:Int)))&&(true)) <|
  ar ((beq a.length (replicate (a.length:Int).toNat (cB.zero:cb)).length)&&(true)) <|
  some (a,(a.length:Int).toNat)
def ajr(N:Nat):bA bD:=b0 N ba [.c (.bz cB)] [] ⟨.a (.c (.iG cB)),[],[]⟩ [] [] (.s .d (.s .d (.s .d (.s .d (.t [.da 6]))))) [.tmp 2] ([],0) (λd=>NO N d.1) func199 ntmps199
def Wr(N:Nat)(c:hI)(f:Int)(d:Int)(b:bJ)(e:Int):Nat->(Int×dI)->Option (dI):=b4 λa sU=>
  cond (decide (a.1<(b.length:Int))) (ar ((a6 a.1 b.length)&&((decide (a.1.toNat<b.length))&&(true))) <|
  cond (decide (f=0)) (ar ((dk 40 (a.2.length+[((b.getD a.1.toNat aJ.zero),(((c.2.getD d.toNat []).getD e.toNat aJ.zero),1))].length))&&(true)) <|
  ar ((bf (a.1+1))&&(true)) <|
  sU ((a.1+1),(a.2++[((b.getD a.1.toNat aJ.zero),(((c.2.getD d.toNat []).getD e.toNat aJ.zero),1))]))) (ar ((dk 40 (a.2.length+[(((c.2.getD d.toNat []).getD e.toNat aJ.zero),((b.getD a.1.toNat aJ.zero),(-1:Int)))].length))&&(true)) <|
  ar ((bf (a.1+1))&&(true)) <|
  sU ((a.1+1),(a.2++[(((c.2.getD d.toNat []).getD e.toNat aJ.zero),((b.getD a.1.toNat aJ.zero),(-1:Int)))])))) (some a.2)
def NP(N:Nat)(b:hI)(d:Int)(c:Int)(e:bJ):Nat->(Int×dI)->Option (dI):=b4 λa AH=>
  cond (decide (a.1<((b.2.getD c.toNat []).length:Int))) (ar ((a6 a.1 (b.2.getD c.toNat []).length)&&(true)) <|
  (Wr N b d c e a.1 N (0,a.2)).bind λf=>
  ar ((bf (a.1+1))&&(true)) <|
  AH ((a.1+1),f)) (some a.2)
def Ws(N:Nat)(a:hI)(b:Int)(c:Int):Nat->(Int×dI)->Option (dI):=b4 λd2 eL=>
  cond (decide (d2.1<(a.2.length:Int))) (ar ((a6 d2.1 a.2.length)&&(true)) <|
  ar ((bf (d2.1+1))&&((bf ((d2.1+1)+b))&&(true))) <|
  Option.bind (cond (decide (c=0)) (ar ((bf (((d2.1+1)+b)-1))&&(true)) <|
  some (((d2.1+1)+b)-1)) (some ((d2.1+1)+b))) λd=>
  (Dz N a (0,d)).bind λe=>
  (AB N e).bind λf=>
  (NP N a c d2.1 f N (0,d2.2)).bind λg=>
  ar ((bf (d2.1+1))&&(true)) <|
  eL ((d2.1+1),g)) (some d2.2)
def HS(N:Nat)(b:hI)(d:Int)(a:Int):Option (dI×Nat×Int):=
  (Dy N b d a).bind λc=>
  cond (!(decide (c=0))) (some (([]:dI),0,c)) ((Ws N b d a N (0,([]:dI))).bind λe=>
  Option.bind (cond (decide (a=1)) ((NN N e).bind λg=>
  some g) (some e)) λh=>
  (NO N h).bind λf=>
  some (f.1,f.2,0))
def ajs(N:Nat):bA bD:=b0 N ba [.cK fC,.c (.int .i64),.c (.int .u8)] [] ⟨.cE [.c (.iG cB),.c (.int .i64)],[],[]⟩ [Wn N,ajo N,aiE N,ajq N,ajr N] [] (.s (.r [.n 3,.w (.bX 3 fC)]) (.s .d (.s (.r [.n 1,.w (.nil 9 9 238 cB)]) (.s (.s .d (.b (.eB 0 ⟨[(9,.a (.c (.raw (.ax 9)))),(28,.a (.c (.int .i64)))],[(9,.row 238 cB)],[1,2,3,26,27],[]⟩ ⟨[(9,.a (.c (.raw (.ax 9))))],[(9,.row 238 cB)],[2],[]⟩ (.s .d (.s .d (.s (.b (.s .d (.s .d (.j ⟨[(9,.a (.c (.raw (.ax 9)))),(12,.a (.c (.int .i64)))],[],[1,2,3,11,26,27,28],[9]⟩ .d (.s (.r [.n 3,.c [(27,44)]]) (.s (.r [.n 1,.c [(2000000,44)]]) (.s .d (.b (.eB 2 ⟨[(9,.a (.c (.raw (.ax 9)))),(13,.a (.c (.raw (.ax 44)))),(49,.a (.c (.int .i64)))],[(9,.row 238 cB)],[1,2,3,26,27,28,47,48],[44]⟩ ⟨[(9,.a (.c (.raw (.ax 9))))],[(9,.row 238 cB)],[1,2,3,26,27,28],[]⟩ (.s .d (.s .d (.s (.b (.s (.r [.n 4,.w (.bX 15 aJ)]) (.s .d (.b (.eB 4 ⟨[(9,.a (.c (.raw (.ax 9)))),(13,.a (.c (.raw (.ax 44)))),(53,.a (.c (.raw (.ax 44)))),(55,.a (.c (.int .i64)))],[(9,.row 238 cB)],[1,2,3,15,26,27,28,47,48,49,54],[44]⟩ ⟨[(9,.a (.c (.raw (.ax 9)))),(13,.a (.c (.raw (.ax 44))))],[(9,.row 238 cB)],[1,2,3,26,27,28,47,48,49],[44]⟩ (.s .d (.s .d (.s (.b (.s (.r [.n 4,.w (.bX 17 aJ)]) .d)) .d)))))))) .d)))))))))))) .d)))))) (.j ⟨[(9,.a (.c (.raw (.ax 9))))],[(9,.row 238 cB)],[],[]⟩ (.s .d (.c (.r [.n 1,.c [(2000000,9)]]) .d)) (.s (.r [.n 1,.w (.da 9)]) .d)))))) [.tmp 6,.tmp 7] ([],0,0) (λd=>HS N d.1 d.2.1 d.2.2.1) func147 ntmps147
def HT(N:Nat)(a:bF):Nat->Int->Option (Int):=b4 λd1 cU=>
  ar ((ew (decide (0<d1)) (bf (d1-1)))&&((ew (decide (0<d1)) (a6 (d1-1) a.length))&&(true))) <|
  cond (cond (decide (0<d1)) (decide (((a.getD (d1-1).toNat []).length:Int)=0)) false) (ar ((bf (d1-1))&&(true)) <|
  cU (d1-1)) (some d1)
def AK(N:Nat)(a:bF):Option (Int):=
  (HT N a N (a.length:Int)).bind λb=>
  some b
def ajt(N:Nat):bA bD:=b0 N ba [.c (.bz (.ax aJ))] [] ⟨.a (.c (.int .i64)),[],[]⟩ [] [] (.s .d (.s .d (.s (.b (.eB 0 ⟨[(3,.a (.c (.int .i64)))],[],[0],[]⟩ ⟨[(3,.a (.c (.int .i64)))],[],[],[]⟩ .d)) .d))) [.tmp 2] 0 (λd=>AK N d.1) func216 ntmps216
def HU(N:Nat)(a:bF):Option (bF):=
  ar (((decide (0<=(a.length:Int)))&&(decide ((a.length:Int)<=(a.length:Int)))&&(fh 24 (a.length:Int)))&&(true)) <|
  ar ((beq a.length (replicate (a.length:Int).toNat ([]:bJ)).length)&&(true)) <|
  some a
def aju(N:Nat):bA bD:=b0 N ba [.c (.bz (.ax aJ))] [] ⟨.a (.c (.raw (.ax 6))),[(6,.row 42 (.ax aJ))],[]⟩ [] [] (.d) [.tmp 2] [] (λd=>HU N d.1) func215 ntmps215
def Wt(N:Nat)(c:bF):Nat->(Int×bF)->Option (bF):=b4 λa rZ=>
  cond (decide (a.1<(c.length:Int))) (ar ((a6 a.1 a.2.length)&&((decide (a.1.toNat<a.2.length))&&(true))) <|
  (vS N (a.2.getD a.1.toNat [])).bind λb=>
  ar ((a6 a.1 a.2.length)&&(((decide (a.1.toNat<a.2.length))&&(true))&&(true))) <|
  ar ((bf (a.1+1))&&(true)) <|
  rZ ((a.1+1),(a.2.set a.1.toNat b.1))) (some a.2)
def uD(N:Nat)(a:bF)(b:Int)(f:bJ):Option (bF):=
  ar (((decide (0<=(if (a.length:Int)<b then b else(a.length:Int))))&&(decide ((if (a.length:Int)<b then b else(a.length:Int))<=(if (a.length:Int)<b then b else(a.length:Int))))&&(fh 24 (if (a.length:Int)<b then b else(a.length:Int))))&&(true)) <|
  ar ((decide (a.length<=(replicate (if (a.length:Int)<b then b else(a.length:Int)).toNat ([]:bJ)).length))&&(true)) <|
  Option.bind (cond (decide (0<b)) (ar ((bf (b-1))&&((a6 (b-1) (a++(replicate (if (a.length:Int)<b then b else(a.length:Int)).toNat ([]:bJ)).drop a.length).length)&&(((decide ((b-1).toNat<(a++(replicate (if (a.length:Int)<b then b else(a.length:Int)).toNat ([]:bJ)).drop a.length).length))&&(true))&&(true)))) <|
  some ((a++(replicate (if (a.length:Int)<b then b else(a.length:Int)).toNat ([]:bJ)).drop a.length).set (b-1).toNat f)) (some (a++(replicate (if (a.length:Int)<b then b else(a.length:Int)).toNat ([]:bJ)).drop a.length))) λd=>
  (AK N d).bind λc=>
  ar (((decide (0<=c))&&(decide (c<=(d.length:Int))))&&(true)) <|
  (HU N (d.take c.toNat)).bind λe=>
  (Wt N e N (0,e)).bind λg=>
  some g
def ajv(N:Nat):bA bD:=b0 N ba [.c (.bz (.ax aJ)),.c (.int .i64),.c (.bz aJ)] [] ⟨.a (.c (.bz (.ax aJ))),[],[]⟩ [ajt N,aju N,NM N] [] (.s .d (.s .d (.s (.r [.n 2,.t .uS]) (.j ⟨[(7,.a (.c (.raw (.ax 14))))],[(14,.row 42 (.ax aJ))],[],[]⟩ .d (.s (.r [.n 2,.w (.da 14),.n 2,.c [(6,29)]]) (.s (.s .d (.b (.eB 0 ⟨[(7,.a (.c (.raw (.ax 29)))),(30,.a (.c (.raw (.ax 29)))),(32,.a (.c (.int .i64)))],[(29,.row 42 (.ax aJ))],[31],[]⟩ ⟨[(7,.a (.c (.raw (.ax 29))))],[(29,.row 42 (.ax aJ))],[],[]⟩ .d))) (.s .d (.t [.da 29])))))))) [.tmp 6] [] (λd=>uD N d.1 d.2.1 d.2.2.1) func200 ntmps200
def vT(N:Nat)(a:hI)(b:ad)(c:bJ):Option (hI):=
  cond (decide (b.1=0)) ((uD N a.1 b.2 c).bind λd=>
  (uD N a.2 0 ([]:bJ)).bind λe=>
  some (d,e)) ((uD N a.1 0 ([]:bJ)).bind λg=>
  (uD N a.2 b.2 c).bind λf=>
  some (g,f))
def Wu(N:Nat):bA bD:=b0 N ba [.cK fC,.cK aJ,.c (.bz aJ)] [] ⟨.a (.cK fC),[],[]⟩ [ajv N] [] (.s (.r [.n 3,.w (.bX 3 fC),.w (.bX 4 aJ)]) (.s (.s .d (.c (.s (.o [] [.t 0 0,.t 1 1,.t 2 0,.t 3 1,.t 4 0,.t 6 0,.t 7 1,.c 5 [],.c 8 [],.t 9 0,.s 10] []) .d) .d)) (.s (.o [] [.t 0 0,.t 1 1,.t 3 0,.t 4 1,.t 5 0,.t 6 1,.t 7 0,.c 2 [],.c 8 [],.t 9 0,.s 10] []) .d))) [.cell 6 37] fC.zero (λd=>vT N d.1 d.2.1 d.2.2.1) func152 ntmps152
def NQ(N:Nat)(b:bJ):Nat->Int->Option ((Unit)⊕(hI×Int)):=b4 λa gJ=>
  cond (decide (a<(b.length:Int))) (ar ((a6 a b.length)&&(true)) <|
  (Aw N (b.getD a.toNat aJ.zero)).bind λc=>
  cond (!c) (some (.inr ((([]:bF),([]:bF)),1))) (ar ((bf (a+1))&&(true)) <|
  gJ (a+1))) (some (.inl ()))
def DA(N:Nat)(b:(ad×bJ×Unit)):Nat->(Int×(List (ad×Bool)))->Option (Int×Bool×(List (ad×Bool))):=b4 λa sU=>
  cond (decide (a.1<(b.2.1.length:Int))) (ar ((a6 a.1 b.2.1.length)&&(true)) <|
  ar ((true&&true)&&(true)) <|
  ar ((bf (a.1+1))&&(true)) <|
  sU ((a.1+1),(ez aJ .bool a.2 (b.2.1.getD a.1.toNat aJ.zero) true))) (some (a.1,(decide (a.1<(b.2.1.length:Int))),a.2))
def NR(N:Nat)(b:bJ):Nat->(Int×(List (ad×Bool)))->Option ((Unit)⊕(hI×Int)):=b4 λa Di=>
  cond (decide (a.1<(b.length:Int))) (ar ((a6 a.1 b.length)&&(true)) <|
  cond ((cX aJ .bool a.2 (b.getD a.1.toNat aJ.zero)).getD false) (some (.inr ((([]:bF),([]:bF)),8))) (ar ((true&&true)&&(true)) <|
  ar ((bf (a.1+1))&&(true)) <|
  Di ((a.1+1),(ez aJ .bool a.2 (b.getD a.1.toNat aJ.zero) true)))) (some (.inl ()))
def uE(N:Nat)(b:hI)(c:ad)(a:bJ):Option (hI×Int):=
  (AI N b).bind λf=>
  cond (!(decide (f=0))) (some ((([]:bF),([]:bF)),f)) ((mF N c).bind λj=>
  cond (!(decide (j=0))) (some ((([]:bF),([]:bF)),1)) ((NQ N a N 0).bind λ(g:(Unit)⊕(hI×Int))=>
  sm g (λg=>
  cond (decide (4<(a.length:Int))) (some ((([]:bF),([]:bF)),9)) ((NB N b).bind λl=>
  (AF N true l).bind λk=>ky (λ(i:ad×bJ×Unit) (d:(List (ad×Bool))) (e:(List (ad×Bool))->Option (hI×Int))=>
  cond (!(aZ.beq aJ i.1 c)) ((DA N i N (0,d)).bind λn=>
  e n.2.2) (e d)) k ([]:List (ad×Bool)) λm=>
  (NR N a N (0,m)).bind λ(h:(Unit)⊕(hI×Int))=>
  sm h (λh=>
  (vT N b c a).bind λo=>
  some (o,0)) (λq=>some q))) (λq=>some q)))
def Wv(N:Nat):bA bD:=b0 N ba [.cK fC,.cK aJ,.c (.bz aJ)] [] ⟨.cE [.cK fC,.c (.int .i64)],[],[]⟩ [Hy N,vQ N,Ni N,VY N,Wu N] [VX N] (.s (.r [.n 4,.w (.bX 3 fC),.w (.bX 4 aJ)]) (.s .d (.s .d (.s (.s .d (.b (.ff 0 ⟨[(6,.a (.c (.raw (.ptr 6 0)))),(30,.a (.c (.int .i64)))],[],[2,3,4,28,29],[6]⟩ ⟨[(6,.a (.c (.raw (.ptr 6 0))))],[],[2,3,4],[6]⟩ (.s .d (.s .d (.s (.b (.s (.r [.n 4,.w (.bX 10 aJ)]) .d)) .d)))))) (.s .d (.s (.r [.t (.pe aJ .bool)]) (.s (.s .d (.b (.p1 [(6,83),(11,88)] ⟨[],[(43,.mp aJ .bool),(88,.cells 155 [.raw (.dv 43)])],[],[83]⟩ (.b (.s .d (.c (.s .d (.b (.eB 4 ⟨[(6,.a (.c (.raw (.ptr 83 0)))),(11,.a (.c (.raw (.ptr 88 0)))),(53,.a (.c (.int .i64)))],[(43,.mp aJ .bool),(88,.cells 155 [.raw (.dv 43)])],[2,3,4,12,13,48,49,50,51,52],[83]⟩ ⟨[(6,.a (.c (.raw (.ptr 83 0)))),(11,.a (.c (.raw (.ptr 88 0)))),(53,.a (.c (.int .i64))),(54,.a (.c .bool))],[(43,.mp aJ .bool),(88,.cells 155 [.raw (.dv 43)])],[2,3,4,12,13,48,49,50,51,52],[83]⟩ (.s .d (.s .d (.s (.b (.s (.r [.n 4,.w (.bX 15 aJ)]) (.r [.n 2,.t .F8]))) .d)))))) .d)))))) (.s (.s .d (.b (.ff 6 ⟨[(6,.a (.c (.raw (.ptr 83 0)))),(11,.a (.c (.raw (.ptr 88 0)))),(62,.a (.c (.int .i64)))],[(43,.mp aJ .bool),(88,.cells 155 [.raw (.dv 43)])],[2,3,4,60,61],[83]⟩ ⟨[(6,.a (.c (.raw (.ptr 83 0))))],[],[2,3,4],[83]⟩ (.s .d (.s .d (.s (.b (.s (.r [.n 4,.w (.bX 17 aJ)]) (.s (.s (.r [.n 2,.t .Cm]) .d) (.r [.n 2,.t .F8])))) .d)))))) .d)))))))) [.cell 6 37,.tmp 7] (fC.zero,0) (λd=>uE N d.1 d.2.1 d.2.2.1) func101 ntmps101
def DD(N:Nat)(d:hI)(b:ad)(e:ad):Option (hI×Int):=
  (AI N d).bind λh=>
  cond (!(decide (h=0))) (some ((([]:bF),([]:bF)),h)) ((mF N b).bind λi=>
  Option.bind (cond (!(!(decide (i=0)))) (mF N e) (some 0)) λj=>
  cond (cond (cond (!(decide (i=0))) true (!(decide (j=0)))) true (decide (b.1=e.1))) (some ((([]:bF),([]:bF)),1)) ((sX N d b).bind λa=>
  (sX N d e).bind λc=>
  cond (decide ((a.1.length:Int)=0)) (some ((([]:bF),([]:bF)),13)) (ar ((bf ((a.1.length:Int)+(c.1.length:Int)))&&(true)) <|
  cond (decide (4<((a.1.length:Int)+(c.1.length:Int)))) (some ((([]:bF),([]:bF)),9)) ((vS N c.1).bind λf=>
  ar (((dk 16 (f.1.length+a.1.length))&&(decide (f.2=f.1.length)))&&(true)) <|
  Option.bind (cond (decide (b.1=1)) ((vS N a.1).bind λg=>
  ar (((dk 16 (g.1.length+c.1.length))&&(decide (g.2=g.1.length)))&&(true)) <|
  some (g.1++c.1)) (some (f.1++a.1))) λk=>
  ar (true) <|
  (vT N d b ([]:bJ)).bind λl=>
  (vT N l e k).bind λm=>
  some (m,0)))))
def ajx(N:Nat):bA bD:=b0 N ba [.cK fC,.cK aJ,.cK aJ] [] ⟨.cE [.cK fC,.c (.int .i64)],[],[]⟩ [Hy N,vQ N,HR N,NM N,Wu N] [] (.s (.r [.n 5,.w (.bX 3 fC),.w (.bX 4 aJ),.w (.bX 5 aJ)]) (.s .d (.s .d (.s (.o [] [.t 0 1,.t 1 1,.t 3 1,.t 4 1,.c 2 [],.c 5 [],.t 6 0,.t 7 0] []) (.s .d (.s .d (.s .d (.j ⟨[(6,.a (.c (.raw (.ptr 6 0)))),(11,.a (.c (.raw (.ax 61))))],[(61,.gT 58 aJ)],[3,4,5],[6]⟩ (.s .d (.c .d (.t [.t (.cZ 54 61)]))) (.s (.p [.tR 61] (.o [] [.t 0 1,.t 1 1,.t 3 1,.t 4 0,.c 2 [],.c 5 [],.s 6,.t 7 0] [])) .d))))))))) [.cell 6 37,.tmp 7] (fC.zero,0) (λd=>DD N d.1 d.2.1 d.2.2.1) func100 ntmps100
def AL(N:Nat) :Option (mu):=
  (Ax N).bind λa=>
  some (0,((([]:bF),([]:bF)),((replicate (6:Int).toNat (bU.zero:aU)),((a.2.2.2.map (·.2)),(a.1,(a.2.1,a.2.2.1))))))
def HV(N:Nat) :Option (mu):=
  hP ((Ax N).bind λa=>
  some (0,((([]:bF),([]:bF)),((replicate (6:Int).toNat (bU.zero:aU)),((a.2.2.2.map (·.2)),(a.1,(a.2.1,a.2.2.1)))))))
theorem ajy:HV=AL:=by
 unfold HV AL;simp only[jO,lZ]
def ajz(N:Nat):bA bD:=l4 N ba [] [] ⟨.a (.cK pY),[],[]⟩ [Vw N] [] (.s .d (.s (.dm [] [] (.b [] 0 1 [] [(1,2)] none none (.f [.c 1 [(1,2)],.t 2 0,.s 3]) (.f [.s 0,.t 2 0,.s 3])) [] false) (.t [.da 1,.t (.da 2)]))) [.cell 0 46] pY.zero (λd=>HV N ) (λd=>AL N ) (λd=>(by rw[ajy]:HV N =AL N )) func9 ntmps9
def NS(N:Nat)(a:dI×Nat×Int):Nat->(Int×bJ)->Option (bJ):=b4 λd2 eL=>
  cond (decide (d2.1<(a.1.length:Int))) (ar ((a6 d2.1 a.1.length)&&(true)) <|
  ar ((a6 d2.1 d2.2.length)&&(((decide (d2.1.toNat<d2.2.length))&&(true))&&(true))) <|
  ar ((bf (d2.1+1))&&(true)) <|
  eL ((d2.1+1),(d2.2.set d2.1.toNat (a.1.getD d2.1.toNat cB.zero).1))) (some d2.2)
def pq(N:Nat)(b:hI)(c:Int):Option (bJ):=
  (r3 N b c).bind λa=>
  ar (((decide (0<=(a.1.length:Int)))&&(decide ((a.1.length:Int)<=(a.1.length:Int)))&&(fh 16 (a.1.length:Int)))&&(true)) <|
  (NS N a N (0,(replicate (a.1.length:Int).toNat (aJ.zero:ad)))).bind λd=>
  some d
def Ww(N:Nat):bA bD:=b0 N ba [.cK fC,.c (.int .i64)] [] ⟨.a (.c (.bz aJ)),[],[]⟩ [Wm N] [] (.s (.r [.n 2,.w (.bX 2 fC)]) (.s .d (.s .d (.s (.s .d (.b (.eB 0 ⟨[(7,.a (.c (.raw (.ax 18)))),(21,.a (.c (.int .i64)))],[(18,.row 58 aJ)],[19,20],[]⟩ ⟨[(7,.a (.c (.raw (.ax 18))))],[(18,.row 58 aJ)],[],[]⟩ (.s .d (.s .d (.s (.b (.s (.r [.n 6,.w (.bX 9 cB)]) .d)) .d)))))) (.s .d (.t [.da 18])))))) [.tmp 4] [] (λd=>pq N d.1 d.2.1) func46 ntmps46
def NT(N:Nat)(a:mu):Nat->Int->Option ((Unit)⊕(Int)):=b4 λd2 eL=>
  cond (decide (d2<(a.2.2.1.length:Int))) (ar ((a6 d2 a.2.2.1.length)&&(true)) <|
  (uv N (a.2.2.1.getD d2.toNat bU.zero)).bind λb=>
  cond (!(decide (b=0))) (some (.inr b)) (ar ((bf (d2+1))&&(true)) <|
  eL (d2+1))) (some (.inl ()))
def NU(N:Nat)(b:mu):Nat->Int->Option ((Unit)⊕(Int)):=b4 λa sU=>
  cond (decide (a<(b.2.2.1.length:Int))) (ar ((a6 a b.2.2.1.length)&&(true)) <|
  ar ((a6 a b.2.2.2.1.length)&&(true)) <|
  cond (!(decide ((b.2.2.1.getD a.toNat bU.zero).2.2.1=((b.2.2.2.1.getD a.toNat []).length:Int)))) (some (.inr 6)) (ar ((bf (a+1))&&(true)) <|
  sU (a+1))) (some (.inl ()))
def HW(N:Nat)(a:mu):Option (Int):=
  cond (cond (decide (a.1<(-4:Int))) true (decide (4<a.1))) (some 11) ((AI N a.2.1).bind λb=>
  cond (!(decide (b=0))) (some b) (cond (!(decide ((a.2.2.1.length:Int)=6))) (some 5) ((NT N a N 0).bind λ(d:(Unit)⊕(Int))=>
  sm d (λd=>
  (Ho N a.2.2.2).bind λc=>
  cond (!(decide (c=0))) (some c) ((pq N a.2.1 a.1).bind λf=>
  (ux N a.2.2.2.2.2.1 f).bind λg=>
  cond (!g) (some 6) ((NU N a N 0).bind λ(e:(Unit)⊕(Int))=>
  sm e (λe=>
  some 0) (λq=>some q)))) (λq=>some q))))
def ajA(N:Nat):bA bD:=b0 N ba [.cK pY] [] ⟨.a (.c (.int .i64)),[],[]⟩ [Hy N,Db N,aiv N,Ww N,Nw N] [] (.s (.r [.n 2,.w (.bX 1 pY)]) (.s .d (.s .d (.s .d (.s (.s .d (.b (.ff 0 ⟨[(31,.a (.c (.int .i64)))],[],[1,29,30],[]⟩ ⟨[],[],[1],[]⟩ (.s .d (.s .d (.s (.b (.s (.r [.n 4,.w (.bX 5 bU)]) .d)) .d)))))) (.s .d (.s (.s (.o [] [.t 0 0,.t 1 0,.t 2 1,.t 3 0,.t 4 1,.t 5 0,.t 6 1,.c 7 [],.c 8 [],.t 9 0] []) .d) (.s (.s .d (.b (.ff 2 ⟨[(60,.a (.c (.int .i64)))],[],[1,58,59],[]⟩ ⟨[],[],[],[]⟩ (.s .d (.s .d (.s (.b (.s (.r [.n 6,.w (.bX 9 bU)]) (.s (.o [] [.t 0 0,.t 1 1,.t 2 0,.t 3 0,.t 4 1,.t 5 0,.t 6 0,.t 7 1,.t 8 0,.t 9 0] []) .d))) .d)))))) .d)))))))) [.tmp 2] 0 (λd=>HW N d.1) func16 ntmps16
def yj(N:Nat)(a:bJ):Option (bJ×Nat):=
  ar (((decide (0<=(a.length:Int)))&&(decide ((a.length:Int)<=(a.length:Int)))&&(fh 16 (a.length:Int)))&&(true)) <|
  ar ((beq a.length (replicate (a.length:Int).toNat (aJ.zero:ad)).length)&&(true)) <|
  some (a,(a.length:Int).toNat)
def NV(N:Nat):bA bD:=b0 N ba [.c (.bz aJ)] [] ⟨.a (.c (.iG aJ)),[],[]⟩ [] [] (.s .d (.s .d (.s .d (.s .d (.t [.da 6]))))) [.tmp 2] ([],0) (λd=>yj N d.1) func50 ntmps50
def qe(N:Nat)(a:bJ):Option (bJ):=
  ar (((decide (0<=(a.length:Int)))&&(decide ((a.length:Int)<=(a.length:Int)))&&(fh 16 (a.length:Int)))&&(true)) <|
  ar ((beq a.length (replicate (a.length:Int).toNat (aJ.zero:ad)).length)&&(true)) <|
  some a
def Wx(N:Nat):bA bD:=b0 N ba [.c (.bz aJ)] [] ⟨.a (.c (.raw (.ax 6))),[(6,.row 58 aJ)],[]⟩ [] [] (.d) [.tmp 2] [] (λd=>qe N d.1) func50 ntmps50
def HX(N:Nat)(a:bF):Nat->Int->Option (Int):=b4 λd1 cU=>
  ar ((ew (decide (0<d1)) (bf (d1-1)))&&((ew (decide (0<d1)) (a6 (d1-1) a.length))&&(true))) <|
  cond (cond (decide (0<d1)) (decide (((a.getD (d1-1).toNat []).length:Int)=0)) false) (ar ((bf (d1-1))&&(true)) <|
  cU (d1-1)) (some d1)
def Wy(N:Nat)(a:bF)(b:Int):Nat->(Int×bF)->Option (bF):=b4 λd2 eL=>
  cond (decide (d2.1<b)) (ar ((a6 d2.1 a.length)&&(true)) <|
  (yj N (a.getD d2.1.toNat [])).bind λc=>
  ar ((a6 d2.1 d2.2.length)&&(((decide (d2.1.toNat<d2.2.length))&&(true))&&(true))) <|
  ar ((bf (d2.1+1))&&(true)) <|
  eL ((d2.1+1),(d2.2.set d2.1.toNat c.1))) (some d2.2)
def sZ(N:Nat)(b:bF):Option (bF):=
  (HX N b N (b.length:Int)).bind λa=>
  ar (((decide (0<=a))&&(decide (a<=a))&&(fh 24 a))&&(true)) <|
  (Wy N b a N (0,(replicate a.toNat ([]:bJ)))).bind λc=>
  some c
def ajB(N:Nat):bA bD:=b0 N ba [.c (.bz (.ax aJ))] [] ⟨.a (.c (.bz (.ax aJ))),[],[]⟩ [NV N] [] (.s .d (.s .d (.s (.b (.eB 0 ⟨[(3,.a (.c (.int .i64)))],[],[0],[]⟩ ⟨[(3,.a (.c (.int .i64)))],[],[0],[]⟩ .d)) (.s .d (.s (.s .d (.b (.eB 2 ⟨[(4,.a (.c (.raw (.ax 22)))),(24,.a (.c (.int .i64)))],[(22,.row 42 (.ax aJ))],[0,23],[]⟩ ⟨[(4,.a (.c (.raw (.ax 22))))],[(22,.row 42 (.ax aJ))],[],[]⟩ .d))) (.s .d (.t [.da 22]))))))) [.tmp 2] [] (λd=>sZ N d.1) func47 ntmps47
def HY(N:Nat)(a:b2):Option (b2):=
  ar (((decide (0<=(a.length:Int)))&&(decide ((a.length:Int)<=(a.length:Int)))&&(fh 56 (a.length:Int)))&&(true)) <|
  ar ((beq a.length (replicate (a.length:Int).toNat (bU.zero:aU)).length)&&(true)) <|
  some a
def ajC(N:Nat):bA bD:=b0 N ba [.c (.bz bU)] [] ⟨.a (.c (.raw (.ax 6))),[(6,.row 52 bU)],[]⟩ [] [] (.d) [.tmp 2] [] (λd=>HY N d.1) func91 ntmps91
def DE(N:Nat)(a:dd):Option (dd×Nat):=
  ar (((decide (0<=(a.length:Int)))&&(decide ((a.length:Int)<=(a.length:Int)))&&(fh 24 (a.length:Int)))&&(true)) <|
  ar ((beq a.length (replicate (a.length:Int).toNat (c3.zero:b5)).length)&&(true)) <|
  some (a,(a.length:Int).toNat)
def Wz(N:Nat):bA bD:=b0 N ba [.c (.bz c3)] [] ⟨.a (.c (.iG c3)),[],[]⟩ [] [] (.s .d (.s .d (.s .d (.s .d (.t [.da 6]))))) [.tmp 2] ([],0) (λd=>DE N d.1) func92 ntmps92
def WA(N:Nat)(a:b2):Nat->(Int×b2)->Option (b2):=b4 λd2 eL=>
  cond (decide (d2.1<(a.length:Int))) (ar ((a6 d2.1 d2.2.length)&&((decide (d2.1.toNat<d2.2.length))&&(true))) <|
  (DE N (d2.2.getD d2.1.toNat bU.zero).2.2.2.2).bind λb=>
  ar ((a6 d2.1 d2.2.length)&&(((decide (d2.1.toNat<d2.2.length))&&(true))&&(true))) <|
  ar ((bf (d2.1+1))&&(true)) <|
  eL ((d2.1+1),(d2.2.set d2.1.toNat ((d2.2.getD d2.1.toNat bU.zero).1,((d2.2.getD d2.1.toNat bU.zero).2.1,((d2.2.getD d2.1.toNat bU.zero).2.2.1,((d2.2.getD d2.1.toNat bU.zero).2.2.2.1,b.1))))))) (some d2.2)
def vU(N:Nat)(b:b2):Option (b2):=
  (HY N b).bind λa=>
  (WA N a N (0,a)).bind λc=>
  some c
def ajD(N:Nat):bA bD:=b0 N ba [.c (.bz bU)] [] ⟨.a (.c (.raw (.ax 6))),[(6,.row 52 bU)],[]⟩ [ajC N,Wz N] [] (.s .d (.s (.r [.n 1,.c [(6,6)]]) (.s (.s .d (.b (.eB 0 ⟨[(3,.a (.c (.raw (.ax 6)))),(9,.a (.c (.int .i64)))],[(6,.row 52 bU)],[8],[]⟩ ⟨[(3,.a (.c (.raw (.ax 6))))],[(6,.row 52 bU)],[],[]⟩ .d))) .d))) [.tmp 2] [] (λd=>vU N d.1) func48 ntmps48
def DF(N:Nat)(a:cq):Option (cq):=
  ar (((decide (0<=(a.length:Int)))&&(decide ((a.length:Int)<=(a.length:Int)))&&(fh 56 (a.length:Int)))&&(true)) <|
  ar ((beq a.length (replicate (a.length:Int).toNat (bW.zero:a7)).length)&&(true)) <|
  some a
def WB(N:Nat):bA bD:=b0 N ba [.c (.bz bW)] [] ⟨.a (.c (.raw (.ax 6))),[(6,.row 93 bW)],[]⟩ [] [] (.d) [.tmp 2] [] (λd=>DF N d.1) func63 ntmps63
def WC(N:Nat)(d:bY)(b:Int):Nat->(Int×(List (Bool×cq)))->Option ((List (Bool×cq))):=b4 λa gJ=>
  cond (decide (a.1<((d.getD b.toNat []).length:Int))) (ar ((a6 a.1 (d.getD b.toNat []).length)&&(true)) <|
  ar (((decide (b.toNat<a.2.length))&&(a.2.getD b.toNat (false,[])).1)) <|
  ar ((a6 b a.2.length)&&((decide (b.toNat=b.toNat))&&(true))) <|
  (yj N ((d.getD b.toNat []).getD a.1.toNat bW.zero).2.2.1).bind λc=>
  ar ((a6 a.1 (a.2.getD b.toNat (false,[])).2.length)&&(((decide (a.1.toNat<(a.2.getD b.toNat (false,[])).2.length))&&(true))&&(true))) <|
  ar ((a6 b a.2.length)&&((decide (b.toNat=b.toNat))&&(true))) <|
  (DE N ((d.getD b.toNat []).getD a.1.toNat bW.zero).2.2.2).bind λe=>
  ar ((a6 a.1 ((a.2.getD b.toNat (false,[])).2.set a.1.toNat (((a.2.getD b.toNat (false,[])).2.getD a.1.toNat bW.zero).1,(((a.2.getD b.toNat (false,[])).2.getD a.1.toNat bW.zero).2.1,(c.1,((a.2.getD b.toNat (false,[])).2.getD a.1.toNat bW.zero).2.2.2)))).length)&&(((decide (a.1.toNat<((a.2.getD b.toNat (false,[])).2.set a.1.toNat (((a.2.getD b.toNat (false,[])).2.getD a.1.toNat bW.zero).1,(((a.2.getD b.toNat (false,[])).2.getD a.1.toNat bW.zero).2.1,(c.1,((a.2.getD b.toNat (false,[])).2.getD a.1.toNat bW.zero).2.2.2)))).length))&&(true))&&(true))) <|
  ar ((bf (a.1+1))&&(true)) <|
  gJ ((a.1+1),(a.2.set b.toNat (true,(((a.2.getD b.toNat (false,[])).2.set a.1.toNat (((a.2.getD b.toNat (false,[])).2.getD a.1.toNat bW.zero).1,(((a.2.getD b.toNat (false,[])).2.getD a.1.toNat bW.zero).2.1,(c.1,((a.2.getD b.toNat (false,[])).2.getD a.1.toNat bW.zero).2.2.2)))).set a.1.toNat ((((a.2.getD b.toNat (false,[])).2.set a.1.toNat (((a.2.getD b.toNat (false,[])).2.getD a.1.toNat bW.zero).1,(((a.2.getD b.toNat (false,[])).2.getD a.1.toNat bW.zero).2.1,(c.1,((a.2.getD b.toNat (false,[])).2.getD a.1.toNat bW.zero).2.2.2)))).getD a.1.toNat bW.zero).1,((((a.2.getD b.toNat (false,[])).2.set a.1.toNat (((a.2.getD b.toNat (false,[])).2.getD a.1.toNat bW.zero).1,(((a.2.getD b.toNat (false,[])).2.getD a.1.toNat bW.zero).2.1,(c.1,((a.2.getD b.toNat (false,[])).2.getD a.1.toNat bW.zero).2.2.2)))).getD a.1.toNat bW.zero).2.1,((((a.2.getD b.toNat (false,[])).2.set a.1.toNat (((a.2.getD b.toNat (false,[])).2.getD a.1.toNat bW.zero).1,(((a.2.getD b.toNat (false,[])).2.getD a.1.toNat bW.zero).2.1,(c.1,((a.2.getD b.toNat (false,[])).2.getD a.1.toNat bW.zero).2.2.2)))).getD a.1.toNat bW.zero).2.2.1,e.1)))))))) (some a.2)
def WD(N:Nat)(a:bY):Nat->(Int×(List (Bool×cq)))->Option ((List (Bool×cq))):=b4 λd1 cU=>
  cond (decide (d1.1<(a.length:Int))) (ar ((a6 d1.1 a.length)&&(true)) <|
  (DF N (a.getD d1.1.toNat [])).bind λb=>
  ar ((a6 d1.1 d1.2.length)&&((decide (d1.1.toNat<d1.2.length))&&(true))) <|
  (WC N a d1.1 N (0,(d1.2.set d1.1.toNat (true,b)))).bind λc=>
  ar ((bf (d1.1+1))&&(true)) <|
  cU ((d1.1+1),c)) (some d1.2)
def vV(N:Nat)(a:bY):Option ((List (Bool×cq))):=
  ar (((decide (0<=(a.length:Int)))&&(decide ((a.length:Int)<=(a.length:Int)))&&(fh 24 (a.length:Int)))&&(true)) <|
  (WD N a N (0,(replicate (a.length:Int).toNat ((true,[]):Bool×cq)))).bind λb=>
  some b
def ajE(N:Nat):bA bD:=b0 N ba [.c (.bz (.ax bW))] [] ⟨.a (.c (.raw (.ax 10))),[(10,.bS 90 93 bW)],[]⟩ [WB N,NV N,Wz N] [] (.s .d (.s (.r [.n 2,.t .mk]) (.s (.s .d (.b (.eB 0 ⟨[(3,.a (.c (.raw (.ax 10)))),(13,.a (.c (.int .i64)))],[(10,.bS 90 93 bW)],[11,12],[]⟩ ⟨[(3,.a (.c (.raw (.ax 10))))],[(10,.bS 90 93 bW)],[],[]⟩ (.s .d (.s .d (.s (.b (.s .d (.s (.r [.n 3,.c [(6,21)],.n 1,.t .st]) (.s (.r [.n 3,.w (.t (.close 10 21))]) (.b (.eB 2 ⟨[(3,.a (.c (.raw (.ax 10)))),(25,.a (.c (.int .i64)))],[(10,.bS 90 93 bW)],[4,11,12,13,23,24],[]⟩ ⟨[(3,.a (.c (.raw (.ax 10))))],[(10,.bS 90 93 bW)],[11,12,13],[]⟩ (.s .d (.s .d (.s (.b (.s (.r [.n 6,.w (.bX 7 bW)]) (.s (.p [.t (.op 10 4 33)] (.l1 [4,5,6,7,1000010] [.t 0 0,.t 1 0,.t 2 0,.t 3 3,.t 4 0,.t 5 0,.t 6 1,.c 7 [],.t 8 0,.t 9 0,.s 10] [])) (.l1 [4,5,6,7,1000010] [.t 0 0,.t 1 0,.t 2 0,.t 3 3,.t 4 0,.t 5 0,.t 6 1,.c 7 [],.t 8 0,.t 9 0,.s 10] [(.t (.close 10 33))])))) .d))))))))) .d)))))) .d))) [.tmp 2] [] (λd=>vV N d.1) func49 ntmps49
def DG(N:Nat)(b:mu):Nat->(Int×bF×bF)->Option (Int×bF×bF):=b4 λa c=>
  cond (decide (0<(b.2.2.2.2.1.length:Int))) (ar ((a6 0 b.2.2.2.2.1.length)&&(true)) <|
  none) (some (a.1,a.2.1,a.2.2))
def yk(N:Nat)(a:mu):Option (Int×bF×bF×b2×(List (Bool×cq))×(List (eJ×Int))×bJ):=
  (sZ N a.2.1.1).bind λc=>
  (sZ N a.2.1.2).bind λd=>
  (vU N a.2.2.1).bind λg=>
  (vV N a.2.2.2.1).bind λe=>
  (qe N a.2.2.2.2.2.2).bind λf=>
  (DG N a N (a.1,c,d)).bind λb=>
  some (b.1,b.2.1,b.2.2,g,e,([]:List (eJ×Int)),f)
def HZ(N:Nat)(a:mu):Option (Int×bF×bF×b2×(List (Bool×cq))×(List (eJ×Int))×bJ):=
  fX ((sZ N a.2.1.1).bind λg=>
  (λ(i:_->_->Option _)=>
  fX ((sZ N a.2.1.2).bind λf=>
  fX ((vU N a.2.2.1).bind λe=>
  (λ(h:_->_->Option _)=>
  fX ((vV N a.2.2.2.1).bind λc=>
  hP ((qe N a.2.2.2.2.2.2).bind λd=>
  h c d)) ((vV N a.2.2.2.1).bind λc=>
  (qe N a.2.2.2.2.2.2).bind λd=>
  h c d)) (λc d=>
  (DG N a N (a.1,g,f)).bind λb=>
  some (b.1,b.2.1,b.2.2,e,c,([]:List (eJ×Int)),d))) ((vU N a.2.2.1).bind λe=>
  i f e)) ((sZ N a.2.1.2).bind λf=>
  (vU N a.2.2.1).bind λe=>
  i f e)) (λf e=>
  (vV N a.2.2.2.1).bind λc=>
  (qe N a.2.2.2.2.2.2).bind λd=>
  (DG N a N (a.1,g,f)).bind λb=>
  some (b.1,b.2.1,b.2.2,e,c,([]:List (eJ×Int)),d))) ((sZ N a.2.1.1).bind λg=>
  (sZ N a.2.1.2).bind λf=>
  (vU N a.2.2.1).bind λe=>
  (vV N a.2.2.2.1).bind λc=>
  (qe N a.2.2.2.2.2.2).bind λd=>
  (DG N a N (a.1,g,f)).bind λb=>
  some (b.1,b.2.1,b.2.2,e,c,([]:List (eJ×Int)),d))
theorem ajF:HZ=yk:=by
 unfold HZ yk;simp only[jO,lZ]
def ajG(N:Nat):bA bD:=l4 N ba [.cK pY] [] ⟨.a (.c (.raw (.ptr 34 0))),[Nd,(19,.row 52 bU),(23,.bS 90 93 bW),(28,.mp hz (.int .i64)),(32,.row 58 aJ)],[]⟩ [ajB N,ajD N,ajE N,Wx N] [] (.s (.r [.n 2,.w (.bX 1 pY)]) (.s (.dm [] [] (.b [.t 0 0,.t 1 1,.t 2 0,.t 3 0,.t 4 1,.t 6 0,.t 7 0,.t 8 1,.t 11 0,.t 12 1,.t 14 0,.t 15 0,.t 16 1,.t 18 0,.t 19 0,.t 20 1,.t 21 0,.t 23 0,.t 24 0,.t 25 1] 5 22 [] [] none (some (.pe hz (.int .i64))) (.b [] 9 22 [] [] none (some (.pe hz (.int .i64))) (.b [.t 10 0] 13 22 [(6,19)] [] none (some (.pe hz (.int .i64))) (.b [] 17 22 [(10,23)] [] none (some (.pe hz (.int .i64))) (.b [] 22 26 [] [(6,32)] (some (.pe hz (.int .i64))) none (.f [.c 26 [(6,32)],.t 27 0,.s 28,.t 29 0]) (.f [.u 22 (.pe hz (.int .i64)),.t 27 0,.s 28,.t 29 0])) (.f [.c 17 [(10,23)],.c 26 [(6,32)],.t 27 0,.s 28,.t 29 0])) (.f [.c 13 [(6,19)],.c 17 [(10,23)],.c 26 [(6,32)],.t 27 0,.s 28,.t 29 0])) (.f [.c 9 [],.t 10 0,.c 13 [(6,19)],.c 17 [(10,23)],.c 26 [(6,32)],.t 27 0,.s 28,.t 29 0])) (.f [.c 5 [],.c 9 [],.t 10 0,.c 13 [(6,19)],.c 17 [(10,23)],.c 26 [(6,32)],.t 27 0,.s 28,.t 29 0])) [] false) (.s (.s .d (.b (.eB 0 ⟨[(3,.a (.c (.raw (.ptr 34 0))))],[Nd],[37,38,39],[19,23,28,32]⟩ ⟨[(3,.a (.c (.raw (.ptr 34 0))))],[Nd],[],[19,23,28,32]⟩ (.s .d (.s .d (.s (.b (.s (.r [.n 4,.w (.bX 5 cB)]) .d)) .d)))))) .d))) [.tmp 2] (0,[],[],[],[],[],[]) (λd=>HZ N d.1) (λd=>yk N d.1) (λd=>(by rw[ajF]:HZ N d.1=yk N d.1)) func17 ntmps17
def AM(N:Nat)(a:dI):Option (dI×Nat):=
  ar (((decide (0<=(a.length:Int)))&&(decide ((a.length:Int)<=(a.length:Int)))&&(fh 40 (a.length:Int)))&&(true)) <|
  ar ((beq a.length (replicate (a.length:Int).toNat (cB.zero:cb)).length)&&(true)) <|
  some (a,(a.length:Int).toNat)
def ajH(N:Nat):bA bD:=b0 N ba [.c (.bz cB)] [] ⟨.a (.c (.iG cB)),[],[]⟩ [] [] (.s .d (.s .d (.s .d (.s .d (.t [.da 6]))))) [.tmp 2] ([],0) (λd=>AM N d.1) func65 ntmps65
def vW(N:Nat)(a:bH)(f:Int)(d:bF)(e:bF)(g:List (Bool×cq))(h:List (eJ×Int))(b:b2)(i:bJ):Option (Int×Int×bF×bF×b2):=
  ar ((a6 (IntKind.wrap .u8 (a.2.2.2.1-1)) b.length)&&(true)) <|
  ar ((decide ((IntKind.wrap .u8 (a.2.2.2.1-1)).toNat<b.length))&&(true)) <|
  (x9 N (b.getD (IntKind.wrap .u8 (a.2.2.2.1-1)).toNat bU.zero) a.2.1).bind λc=>
  cond (decide (c.2=0)) (ar ((a6 (IntKind.wrap .u8 (a.2.2.2.1-1)) b.length)&&(((decide ((IntKind.wrap .u8 (a.2.2.2.1-1)).toNat<b.length))&&(true))&&(true))) <|
  some (c.2,f,d,e,(b.set (IntKind.wrap .u8 (a.2.2.2.1-1)).toNat c.1))) (some (c.2,f,d,e,b))
def H0(N:Nat)(a:bH)(f:Int)(d:bF)(e:bF)(h:List (Bool×cq))(i:List (eJ×Int))(b:b2)(j:bJ):Option (Int×Int×bF×bF×b2):=
  ar ((a6 (IntKind.wrap .u8 (a.2.2.2.1-1)) b.length)&&(true)) <|
  (λ(g:_->Option _)=>
  fX (ar ((decide ((IntKind.wrap .u8 (a.2.2.2.1-1)).toNat<b.length))&&(true)) <|
  hP ((x9 N (b.getD (IntKind.wrap .u8 (a.2.2.2.1-1)).toNat bU.zero) a.2.1).bind λc=>
  g c)) (ar ((decide ((IntKind.wrap .u8 (a.2.2.2.1-1)).toNat<b.length))&&(true)) <|
  (x9 N (b.getD (IntKind.wrap .u8 (a.2.2.2.1-1)).toNat bU.zero) a.2.1).bind λc=>
  g c)) (λc=>
  cond (decide (c.2=0)) (ar ((a6 (IntKind.wrap .u8 (a.2.2.2.1-1)) b.length)&&(((decide ((IntKind.wrap .u8 (a.2.2.2.1-1)).toNat<b.length))&&(true))&&(true))) <|
  some (c.2,f,d,e,(b.set (IntKind.wrap .u8 (a.2.2.2.1-1)).toNat c.1))) (some (c.2,f,d,e,b)))
theorem ajI:H0=vW:=by
 unfold H0 vW;simp only[jO,lZ]
def ajJ(N:Nat):bA bD:=l4 N ba [.c (.raw (.ptr 1000000 0)),.cK c4] [eP,(2000001,.bS 90 93 bW),(1000001,.mp hz (.int .i64)),(2000000,.row 52 bU),(1000002,.row 58 aJ)] ⟨.a (.c (.int .i64)),[eP,(2000000,.row 52 bU)],[2000001,1000001,1000002]⟩ [Vq N] [] (.s (.r [.n 2,.w (.bX 3 c4)]) (.s (.dm [] [4,5,6,8,9,10,15,1000011,1000016] (.b [.t 0 0,.t 1 0,.t 2 0,.t 3 3,.t 4 0,.t 5 1,.t 6 0,.t 7 0,.t 9 0,.t 10 1] 8 15 [] [] none none (.b [] 11 15 [] [] none none (.f [.m 12,.t 13 0,.t 14 0,.s 15,.s 16,.t 17 0]) (.f [.c 11 [],.m 12,.t 13 0,.t 14 0,.s 16,.t 17 0])) (.f [.f,.k 8,.c 11 [],.m 12,.t 13 0,.t 14 0,.s 16,.t 17 0])) [(.bX 5 bU)] false) (.s (.s .d (.c (.o [4,5,6,7] [.t 0 0,.t 1 0,.t 2 0,.t 3 3,.t 4 0,.t 5 1,.t 6 0,.t 7 1,.t 8 0,.s 9] []) .d)) .d))) [.tmp 4] (0,0,[],[],[]) (λd=>H0 N d.1 d.2.1 d.2.2.1 d.2.2.2.1 d.2.2.2.2.1 d.2.2.2.2.2.1 d.2.2.2.2.2.2.1 d.2.2.2.2.2.2.2.1) (λd=>vW N d.1 d.2.1 d.2.2.1 d.2.2.2.1 d.2.2.2.2.1 d.2.2.2.2.2.1 d.2.2.2.2.2.2.1 d.2.2.2.2.2.2.2.1) (λd=>(by rw[ajI]:H0 N d.1 d.2.1 d.2.2.1 d.2.2.2.1 d.2.2.2.2.1 d.2.2.2.2.2.1 d.2.2.2.2.2.2.1 d.2.2.2.2.2.2.2.1=vW N d.1 d.2.1 d.2.2.1 d.2.2.2.1 d.2.2.2.2.1 d.2.2.2.2.2.1 d.2.2.2.2.2.2.1 d.2.2.2.2.2.2.2.1)) func51 ntmps51
def DH(N:Nat)(a:aU):Option (aU×Int):=
  (uv N a).bind λb=>
  cond (!(decide (b=0))) (some ((false,(0,(0,(false,([]:dd))))),b)) (cond (!a.1) (some ((false,(0,(0,(false,([]:dd))))),12)) (some ((false,(0,(a.2.2.1,(false,([]:dd))))),0)))
def ajK(N:Nat):bA bD:=b0 N ba [.cK bU] [] ⟨.cE [.cK bU,.c (.int .i64)],[],[]⟩ [Db N] [] (.s (.r [.n 3,.w (.bX 1 bU)]) .d) [.cell 2 52,.tmp 3] (bU.zero,0) (λd=>DH N d.1) func93 ntmps93
def vX(N:Nat)(b:bH)(f:Int)(d:bF)(e:bF)(g:List (Bool×cq))(h:List (eJ×Int))(a:b2)(i:bJ):Option (Int×Int×bF×bF×b2):=
  ar ((a6 (IntKind.wrap .u8 (b.2.2.2.1-1)) a.length)&&((decide ((IntKind.wrap .u8 (b.2.2.2.1-1)).toNat<a.length))&&(true))) <|
  (DH N (a.getD (IntKind.wrap .u8 (b.2.2.2.1-1)).toNat bU.zero)).bind λc=>
  cond (decide (c.2=0)) (ar ((a6 (IntKind.wrap .u8 (b.2.2.2.1-1)) a.length)&&(((decide ((IntKind.wrap .u8 (b.2.2.2.1-1)).toNat<a.length))&&(true))&&(true))) <|
  some (c.2,f,d,e,(a.set (IntKind.wrap .u8 (b.2.2.2.1-1)).toNat c.1))) (some (c.2,f,d,e,a))
def H3(N:Nat)(b:bH)(f:Int)(d:bF)(e:bF)(g:List (Bool×cq))(h:List (eJ×Int))(a:b2)(i:bJ):Option (Int×Int×bF×bF×b2):=
  ar ((a6 (IntKind.wrap .u8 (b.2.2.2.1-1)) a.length)&&((decide ((IntKind.wrap .u8 (b.2.2.2.1-1)).toNat<a.length))&&(true))) <|
  hP ((DH N (a.getD (IntKind.wrap .u8 (b.2.2.2.1-1)).toNat bU.zero)).bind λc=>
  cond (decide (c.2=0)) (ar ((a6 (IntKind.wrap .u8 (b.2.2.2.1-1)) a.length)&&(((decide ((IntKind.wrap .u8 (b.2.2.2.1-1)).toNat<a.length))&&(true))&&(true))) <|
  some (c.2,f,d,e,(a.set (IntKind.wrap .u8 (b.2.2.2.1-1)).toNat c.1))) (some (c.2,f,d,e,a)))
theorem ajL:H3=vX:=by
 unfold H3 vX;simp only[jO,lZ]
def ajM(N:Nat):bA bD:=l4 N ba [.c (.raw (.ptr 1000000 0)),.cK c4] [eP,(2000001,.bS 90 93 bW),(1000001,.mp hz (.int .i64)),(2000000,.row 52 bU),(1000002,.row 58 aJ)] ⟨.a (.c (.int .i64)),[eP,(2000000,.row 52 bU)],[2000001,1000001,1000002]⟩ [ajK N] [] (.s (.r [.n 2,.w (.bX 3 c4)]) (.s (.dm [] [4,5,6,13,1000009,1000014] (.b [.t 0 0,.t 1 0,.t 2 0,.t 3 3,.t 4 0,.t 5 1,.t 6 0,.t 7 0,.t 8 3] 9 13 [] [] none none (.f [.m 10,.t 11 0,.t 12 0,.s 13,.s 14,.t 15 0]) (.f [.c 9 [],.m 10,.t 11 0,.t 12 0,.s 14,.t 15 0])) [(.bX 5 bU)] true) (.s (.s .d (.c (.o [4,5,6,7] [.t 0 0,.t 1 0,.t 2 0,.t 3 3,.t 4 0,.t 5 1,.t 6 0,.t 7 1,.t 8 0,.s 9] []) .d)) .d))) [.tmp 4] (0,0,[],[],[]) (λd=>H3 N d.1 d.2.1 d.2.2.1 d.2.2.2.1 d.2.2.2.2.1 d.2.2.2.2.2.1 d.2.2.2.2.2.2.1 d.2.2.2.2.2.2.2.1) (λd=>vX N d.1 d.2.1 d.2.2.1 d.2.2.2.1 d.2.2.2.2.1 d.2.2.2.2.2.1 d.2.2.2.2.2.2.1 d.2.2.2.2.2.2.2.1) (λd=>(by rw[ajL]:H3 N d.1 d.2.1 d.2.2.1 d.2.2.2.1 d.2.2.2.2.1 d.2.2.2.2.2.1 d.2.2.2.2.2.2.1 d.2.2.2.2.2.2.2.1=vX N d.1 d.2.1 d.2.2.1 d.2.2.2.1 d.2.2.2.2.1 d.2.2.2.2.2.1 d.2.2.2.2.2.2.1 d.2.2.2.2.2.2.2.1)) func52 ntmps52
def ajN(N:Nat)(a:cb)(f:Int)(b:bF)(c:bF)(d:List (Bool×cq))(e:List (eJ×Int))(g:b2)(h:bJ):Option (Int×Int×bF×bF):=
  none
def ajO(N:Nat):bA bD:=UT [.c (.raw (.ptr 1000000 0)),.cK cB] [eP,(2000001,.bS 90 93 bW),(1000001,.mp hz (.int .i64)),(2000000,.row 52 bU),(1000002,.row 58 aJ)] ⟨.a (.c (.int .i64)),[eP],[2000001,1000001,2000000,1000002]⟩ 148 (0,0,[],[]) func148 rfl rfl
def s0(N:Nat)(b:bH)(c:Int)(d:bF)(e:bF)(g:List (Bool×cq))(h:List (eJ×Int))(f:b2)(i:bJ):Option (Int×Int×Int×Int×bF×bF):=
  ar ((a6 (IntKind.wrap .u8 (b.2.2.2.1-1)) f.length)&&(true)) <|
  ar ((decide ((IntKind.wrap .u8 (b.2.2.2.1-1)).toNat<f.length))&&(true)) <|
  (pn N b.2.2.1 c).bind λa=>
  cond (!(f.getD (IntKind.wrap .u8 (b.2.2.2.1-1)).toNat bU.zero).1) (some (0,0,12,c,d,e)) (cond (decide (b.2.1=1)) (cond (decide (a<(f.getD (IntKind.wrap .u8 (b.2.2.2.1-1)).toNat bU.zero).2.1)) (some (0,0,12,c,d,e)) (ar ((bf (a+1))&&(true)) <|
  some ((a+1),a,0,c,d,e))) (cond (decide ((f.getD (IntKind.wrap .u8 (b.2.2.2.1-1)).toNat bU.zero).2.1<a)) (some (0,0,12,c,d,e)) (ar ((bf (a-1))&&(true)) <|
  some ((a-1),a,0,c,d,e))))
def H4(N:Nat)(b:bH)(c:Int)(e:bF)(f:bF)(h:List (Bool×cq))(i:List (eJ×Int))(d:b2)(j:bJ):Option (Int×Int×Int×Int×bF×bF):=
  ar ((a6 (IntKind.wrap .u8 (b.2.2.2.1-1)) d.length)&&(true)) <|
  (λ(g:_->Option _)=>
  fX (ar ((decide ((IntKind.wrap .u8 (b.2.2.2.1-1)).toNat<d.length))&&(true)) <|
  hP ((pn N b.2.2.1 c).bind λa=>
  g a)) ((λ(kk8:_->Option _)=>
  fX ((pn N b.2.2.1 c).bind λa=>
  hP (ar ((decide ((IntKind.wrap .u8 (b.2.2.2.1-1)).toNat<d.length))&&(true)) <|
  kk8 a)) ((λ(kk7:_->Option _)=>
  fX (ar ((decide ((IntKind.wrap .u8 (b.2.2.2.1-1)).toNat<d.length))&&(true)) <|
  (pn N b.2.2.1 c).bind λa=>
  kk7 a) ((pn N b.2.2.1 c).bind λa=>
  ar ((decide ((IntKind.wrap .u8 (b.2.2.2.1-1)).toNat<d.length))&&(true)) <|
  kk7 a)) (λa=>
  kk8 a))) (λa=>
  g a))) (λa=>
  cond (!(d.getD (IntKind.wrap .u8 (b.2.2.2.1-1)).toNat bU.zero).1) (some (0,0,12,c,e,f)) (cond (decide (b.2.1=1)) (cond (decide (a<(d.getD (IntKind.wrap .u8 (b.2.2.2.1-1)).toNat bU.zero).2.1)) (some (0,0,12,c,e,f)) (ar ((bf (a+1))&&(true)) <|
  some ((a+1),a,0,c,e,f))) (cond (decide ((d.getD (IntKind.wrap .u8 (b.2.2.2.1-1)).toNat bU.zero).2.1<a)) (some (0,0,12,c,e,f)) (ar ((bf (a-1))&&(true)) <|
  some ((a-1),a,0,c,e,f)))))
theorem ajP:H4=s0:=by
 unfold H4 s0
 funext;simp (disch:=simp only[z8,k3,z7]) only[jO,Aa]
def WE(N:Nat):bA bD:=l4 N ba [.c (.raw (.ptr 1000000 0)),.cK c4] [eP,(2000001,.bS 90 93 bW),(1000001,.mp hz (.int .i64)),(2000000,.row 52 bU),(1000002,.row 58 aJ)] ⟨.cE [.c (.int .i64),.c (.int .i64),.c (.int .i64)],[eP],[2000001,1000001,2000000,1000002]⟩ [HG N] [] (.s (.r [.n 4,.w (.bX 3 c4)]) (.s (.dm [] [4,5,6,8,9,10,11,12,13,14,15,16,1000017] (.t [.t 0 0,.t 1 0,.t 2 0,.t 3 3,.t 4 0,.t 5 1,.t 6 0,.t 7 0,.t 9 0,.t 10 1,.t 11 0,.t 12 0,.t 13 0,.t 14 3] 8 15 16 [] [] [] none none none (.b [] 15 16 [] [] none none (.f [.k 16,.s 17,.t 18 0]) (.f [.c 15 [],.s 17,.t 18 0])) (.b [.f] 8 16 [] [] none none (.f [.k 16,.s 17,.t 18 0]) (.f [.f,.k 8,.s 17,.t 18 0])) (.b [.f] 8 15 [] [] none none (.f [.c 15 [],.s 17,.t 18 0]) (.f [.f,.k 8,.s 17,.t 18 0]))) [(.bX 7 bU)] false) .d)) [.tmp 4,.tmp 5,.tmp 6] (0,0,0,0,[],[]) (λd=>H4 N d.1 d.2.1 d.2.2.1 d.2.2.2.1 d.2.2.2.2.1 d.2.2.2.2.2.1 d.2.2.2.2.2.2.1 d.2.2.2.2.2.2.2.1) (λd=>s0 N d.1 d.2.1 d.2.2.1 d.2.2.2.1 d.2.2.2.2.1 d.2.2.2.2.2.1 d.2.2.2.2.2.2.1 d.2.2.2.2.2.2.2.1) (λd=>(by rw[ajP]:H4 N d.1 d.2.1 d.2.2.1 d.2.2.2.1 d.2.2.2.2.1 d.2.2.2.2.2.1 d.2.2.2.2.2.2.1 d.2.2.2.2.2.2.2.1=s0 N d.1 d.2.1 d.2.2.1 d.2.2.2.1 d.2.2.2.2.1 d.2.2.2.2.2.1 d.2.2.2.2.2.2.1 d.2.2.2.2.2.2.2.1)) func95 ntmps95
def qf(N:Nat)(b:Int)(j:Int)(h:Int)(c:Int)(d:bF)(e:bF)(l:List (Bool×cq))(m:List (eJ×Int))(a:b2)(k:bJ):Option (Int×Int×bF×bF×b2):=
  (r3 N (d,e) c).bind λg=>
  cond (!(decide (g.2.2=0))) (some (g.2.2,c,d,e,a)) (ar ((a6 (IntKind.wrap .u8 (b-1)) a.length)&&((decide ((IntKind.wrap .u8 (b-1)).toNat<a.length))&&(true))) <|
  (qd N g.1 (a.getD (IntKind.wrap .u8 (b-1)).toNat bU.zero).2.1 h).bind λi=>
  (uw N (a.getD (IntKind.wrap .u8 (b-1)).toNat bU.zero) j i.1).bind λf=>
  cond (decide (f.2=0)) (ar ((a6 (IntKind.wrap .u8 (b-1)) a.length)&&(((decide ((IntKind.wrap .u8 (b-1)).toNat<a.length))&&(true))&&(true))) <|
  some (f.2,c,d,e,(a.set (IntKind.wrap .u8 (b-1)).toNat f.1))) (some (f.2,c,d,e,a)))
def H5(N:Nat)(b:Int)(j:Int)(i:Int)(d:Int)(e:bF)(f:bF)(m:List (Bool×cq))(n:List (eJ×Int))(a:b2)(l:bJ):Option (Int×Int×bF×bF×b2):=
  (r3 N (e,f) d).bind λg=>
  cond (!(decide (g.2.2=0))) (some (g.2.2,d,e,f,a)) (ar ((a6 (IntKind.wrap .u8 (b-1)) a.length)&&((decide ((IntKind.wrap .u8 (b-1)).toNat<a.length))&&(true))) <|
  (λ(k:_->Option _)=>
  fX ((qd N g.1 (a.getD (IntKind.wrap .u8 (b-1)).toNat bU.zero).2.1 i).bind λh=>
  hP ((uw N (a.getD (IntKind.wrap .u8 (b-1)).toNat bU.zero) j h.1).bind λc=>
  k c)) ((qd N g.1 (a.getD (IntKind.wrap .u8 (b-1)).toNat bU.zero).2.1 i).bind λh=>
  (uw N (a.getD (IntKind.wrap .u8 (b-1)).toNat bU.zero) j h.1).bind λc=>
  k c)) (λc=>
  cond (decide (c.2=0)) (ar ((a6 (IntKind.wrap .u8 (b-1)) a.length)&&(((decide ((IntKind.wrap .u8 (b-1)).toNat<a.length))&&(true))&&(true))) <|
  some (c.2,d,e,f,(a.set (IntKind.wrap .u8 (b-1)).toNat c.1))) (some (c.2,d,e,f,a))))
theorem ajQ:H5=qf:=by
 unfold H5 qf;simp only[jO,lZ]
def WG(N:Nat):bA bD:=l4 N ba [.c (.raw (.ptr 1000000 0)),.c (.int .u8),.c (.int .i64),.c (.int .i64)] [eP,(2000001,.bS 90 93 bW),(1000001,.mp hz (.int .i64)),(2000000,.row 52 bU),(1000002,.row 58 aJ)] ⟨.a (.c (.int .i64)),[eP,(2000000,.row 52 bU)],[2000001,1000001,1000002]⟩ [Wm N,ajm N,Nk N] [] (.s .d (.s (.o [4,5,6,7] [.t 0 0,.t 1 0,.t 2 0,.t 3 3,.t 4 0,.t 5 0,.t 6 0,.t 7 3,.c 8 [],.m 9,.t 10 0,.t 11 0,.t 12 0,.t 13 0] []) (.s .d (.s (.r [.n 10,.w (.bX 11 bU)]) (.s (.dm [] [] (.b [.t 0 1,.t 1 0,.t 2 0,.t 3 0,.t 4 1,.t 5 0] 6 11 [] [] none none (.b [] 7 11 [] [] none none (.f [.m 8,.t 9 0,.t 10 0,.s 11,.s 12,.t 13 0]) (.f [.c 7 [],.m 8,.t 9 0,.t 10 0,.s 12,.t 13 0])) (.f [.c 6 [],.c 7 [],.m 8,.t 9 0,.t 10 0,.s 12,.t 13 0])) [(.bX 12 bU)] false) (.s (.s .d (.c (.o [4,5,6] [.t 0 0,.t 1 0,.t 2 0,.t 3 3,.t 4 0,.t 5 0,.t 6 1,.t 7 0,.s 8] []) .d)) .d)))))) [.tmp 8] (0,0,[],[],[]) (λd=>H5 N d.1 d.2.1 d.2.2.1 d.2.2.2.1 d.2.2.2.2.1 d.2.2.2.2.2.1 d.2.2.2.2.2.2.1 d.2.2.2.2.2.2.2.1 d.2.2.2.2.2.2.2.2.1 d.2.2.2.2.2.2.2.2.2.1) (λd=>qf N d.1 d.2.1 d.2.2.1 d.2.2.2.1 d.2.2.2.2.1 d.2.2.2.2.2.1 d.2.2.2.2.2.2.1 d.2.2.2.2.2.2.2.1 d.2.2.2.2.2.2.2.2.1 d.2.2.2.2.2.2.2.2.2.1) (λd=>(by rw[ajQ]:H5 N d.1 d.2.1 d.2.2.1 d.2.2.2.1 d.2.2.2.2.1 d.2.2.2.2.2.1 d.2.2.2.2.2.2.1 d.2.2.2.2.2.2.2.1 d.2.2.2.2.2.2.2.2.1 d.2.2.2.2.2.2.2.2.2.1=qf N d.1 d.2.1 d.2.2.1 d.2.2.2.1 d.2.2.2.2.1 d.2.2.2.2.2.1 d.2.2.2.2.2.2.1 d.2.2.2.2.2.2.2.1 d.2.2.2.2.2.2.2.2.1 d.2.2.2.2.2.2.2.2.2.1)) func96 ntmps96
def WH(N:Nat)(f:Int)(c:List (Bool×cq))(d:List (eJ×Int))(g:b2)(e:bJ):Nat->(Int×Int×bF×bF×b2)->Option ((Int×bF×bF×b2)⊕(Int×Int×bF×bF×(List (Bool×cq))×(List (eJ×Int))×b2×bJ)):=b4 λd1 cU=>
  cond (decide (d1.1<(g.length:Int))) (ar ((a6 d1.1 d1.2.2.2.2.length)&&((decide (d1.1.toNat<d1.2.2.2.2.length))&&(true))) <|
  cond (!(d1.2.2.2.2.getD d1.1.toNat bU.zero).1) (ar ((bf (d1.1+1))&&(true)) <|
  cU ((d1.1+1),d1.2.1,d1.2.2.1,d1.2.2.2.1,d1.2.2.2.2)) ((HP N (d1.2.2.1,d1.2.2.2.1) d1.2.1 f (d1.2.2.2.2.getD d1.1.toNat bU.zero).2.1).bind λb=>
  cond (!(decide (b.2.2=0))) (some (.inr (b.2.2,d1.2.1,d1.2.2.1,d1.2.2.2.1,c,d,d1.2.2.2.2,e))) ((uw N (d1.2.2.2.2.getD d1.1.toNat bU.zero) (d1.2.2.2.2.getD d1.1.toNat bU.zero).2.1 b.1).bind λa=>
  ar ((a6 d1.1 d1.2.2.2.2.length)&&(((decide (d1.1.toNat<d1.2.2.2.2.length))&&(true))&&(true))) <|
  cond (!(decide (a.2=0))) (some (.inr (a.2,d1.2.1,d1.2.2.1,d1.2.2.2.1,c,d,(d1.2.2.2.2.set d1.1.toNat a.1),e))) (ar ((bf (d1.1+1))&&(true)) <|
  cU ((d1.1+1),d1.2.1,d1.2.2.1,d1.2.2.2.1,(d1.2.2.2.2.set d1.1.toNat a.1)))))) (some (.inl (d1.2.1,d1.2.2.1,d1.2.2.2.1,d1.2.2.2.2)))
def WI(N:Nat)(c:dI×Nat×Int):Nat->(Int×Int×bF×bF×(List (eJ×Int))×bJ×b2×(List (Bool×cq)))->Option ((Int×bF×bF×(List (eJ×Int))×bJ×b2×(List (Bool×cq)))⊕(Int×Int×bF×bF×(List (Bool×cq))×(List (eJ×Int))×b2×bJ)):=b4 λa q6=>
  cond (decide (a.1<(c.1.length:Int))) (ar ((a6 a.1 c.1.length)&&(true)) <|
  (ajN N (c.1.getD a.1.toNat cB.zero) a.2.1 a.2.2.1 a.2.2.2.1 a.2.2.2.2.2.2.2 a.2.2.2.2.1 a.2.2.2.2.2.2.1 a.2.2.2.2.2.1).bind λb=>
  cond (!(decide (b.1=0))) (some (.inr (b.1,b.2.1,b.2.2.1,b.2.2.2,a.2.2.2.2.2.2.2,a.2.2.2.2.1,a.2.2.2.2.2.2.1,a.2.2.2.2.2.1))) (ar ((bf (a.1+1))&&(true)) <|
  q6 ((a.1+1),b.2.1,b.2.2.1,b.2.2.2,a.2.2.2.2.1,a.2.2.2.2.2.1,a.2.2.2.2.2.2.1,a.2.2.2.2.2.2.2))) (some (.inl (a.2.1,a.2.2.1,a.2.2.2.1,a.2.2.2.2.1,a.2.2.2.2.2.1,a.2.2.2.2.2.2.1,a.2.2.2.2.2.2.2)))
def vY(N:Nat)(g:Int)(k:Int)(i:bF)(j:bF)(c:List (Bool×cq))(d:List (eJ×Int))(h:b2)(f:bJ):Option (Int×Int×bF×bF×(List (Bool×cq))×(List (eJ×Int))×b2×bJ):=
  (WH N g c d h f N (0,k,i,j,h)).bind λ(a:(Int×bF×bF×b2)⊕(Int×Int×bF×bF×(List (Bool×cq))×(List (eJ×Int))×b2×bJ))=>
  sm a (λa=>
  (HS N (a.2.1,a.2.2.1) a.1 g).bind λe=>
  cond (!(decide (e.2.2=0))) (some (e.2.2,a.1,a.2.1,a.2.2.1,c,d,a.2.2.2,f)) ((WI N e N (0,a.1,a.2.1,a.2.2.1,d,f,a.2.2.2,c)).bind λ(b:(Int×bF×bF×(List (eJ×Int))×bJ×b2×(List (Bool×cq)))⊕(Int×Int×bF×bF×(List (Bool×cq))×(List (eJ×Int))×b2×bJ))=>
  sm b (λb=>
  some (0,b.1,b.2.1,b.2.2.1,b.2.2.2.2.2.2,b.2.2.2.1,b.2.2.2.2.2.1,b.2.2.2.2.1)) (λq=>some q))) (λq=>some q)
def ajR(N:Nat):bA bD:=b0 N ba [.c (.raw (.ptr 1000000 0)),.c (.int .u8)] [eP,(2000001,.bS 90 93 bW),(1000001,.mp hz (.int .i64)),(2000000,.row 52 bU),(1000002,.row 58 aJ)] ⟨.a (.c (.int .i64)),[eP,(2000001,.bS 90 93 bW),(1000001,.mp hz (.int .i64)),(2000000,.row 52 bU),(1000002,.row 58 aJ)],[]⟩ [ajl N,Nk N,ajs N,ajO N] [] (.s .d (.s (.s .d (.b (.ff 0 ⟨[(0,.a (.c (.raw (.ptr 1000000 0)))),(17,.a (.c (.raw (.ax 2000000)))),(19,.a (.c (.int .i64)))],[eP,(2000000,.row 52 bU)],[1,18],[1000001,1000002,2000001]⟩ ⟨[(0,.a (.c (.raw (.ptr 1000000 0))))],[eP,(2000000,.row 52 bU)],[1],[1000001,1000002,2000001]⟩ (.s .d (.s .d (.s (.b (.s (.r [.n 6,.w (.bX 6 bU)]) (.s .d (.s (.o [4,5,6,7,8,9,10] [.t 0 0,.t 1 0,.t 2 0,.t 3 3,.t 4 0,.t 5 0,.t 6 0,.t 7 3,.t 8 0,.t 9 0,.t 10 1,.c 11 [],.m 12,.t 13 0,.t 14 0,.t 15 0,.t 16 0] []) (.s .d (.s (.o [4,5,6,7,8,9,10,11,12,13,1000014] [.t 0 0,.t 1 0,.t 2 0,.t 3 3,.t 4 0,.t 5 1,.t 6 0,.t 7 1,.t 8 0,.c 9 [],.m 10,.t 11 0,.t 12 5,.t 13 0,.s 14,.t 15 0] []) .d)))))) .d)))))) (.s (.o [4,5,6,7,8] [.t 0 0,.t 1 0,.t 2 0,.t 3 3,.t 4 0,.t 5 0,.t 6 0,.t 7 3,.t 8 0,.c 9 [],.m 10,.t 11 0,.t 12 0,.t 13 0,.t 14 0] []) (.s .d (.s (.s .d (.b (.ff 2 ⟨[(0,.a (.c (.raw (.ptr 1000000 0)))),(81,.a (.c (.int .i64)))],[eP,(1000001,.mp hz (.int .i64)),(1000002,.row 58 aJ),(2000000,.row 52 bU),(2000001,.bS 90 93 bW)],[79,80],[]⟩ ⟨[],[eP,(1000001,.mp hz (.int .i64)),(1000002,.row 58 aJ),(2000000,.row 52 bU),(2000001,.bS 90 93 bW)],[],[]⟩ (.s .d (.s .d (.s (.b (.s (.r [.n 4,.w (.bX 12 cB)]) (.s (.r [.n 2,.c x4]) .d))) .d)))))) .d))))) [.tmp 4] (0,0,[],[],[],[],[],[]) (λd=>vY N d.1 d.2.1 d.2.2.1 d.2.2.2.1 d.2.2.2.2.1 d.2.2.2.2.2.1 d.2.2.2.2.2.2.1 d.2.2.2.2.2.2.2.1) func94 ntmps94
def NW(N:Nat)(c:bH):Nat->(Int×bF×bF×(List (eJ×Int))×bJ×b2×(List (Bool×cq)))->Option ((Int×bF×bF×(List (eJ×Int))×bJ×b2×(List (Bool×cq)))⊕(Int×Int×bF×bF×(List (Bool×cq))×(List (eJ×Int))×b2×bJ)):=b4 λd1 d=>
  cond (!(decide (d1.1=c.2.2.2.2))) (ar ((bf (d1.1+1))&&(true)) <|
  Option.bind (cond (decide (c.2.2.2.2<d1.1)) (ar ((bf (d1.1-1))&&(true)) <|
  some (0,(d1.1-1),d1.1,d1.2.1,d1.2.2.1)) (some (1,(d1.1+1),d1.1,d1.2.1,d1.2.2.1))) λb=>
  (vY N b.1 b.2.2.1 b.2.2.2.1 b.2.2.2.2 d1.2.2.2.2.2.2 d1.2.2.2.1 d1.2.2.2.2.2.1 d1.2.2.2.2.1).bind λa=>
  cond (!(decide (a.1=0))) (some (.inr (a.1,a.2.1,a.2.2.1,a.2.2.2.1,a.2.2.2.2.1,a.2.2.2.2.2.1,a.2.2.2.2.2.2.1,a.2.2.2.2.2.2.2))) (d (b.2.1,a.2.2.1,a.2.2.2.1,a.2.2.2.2.2.1,a.2.2.2.2.2.2.2,a.2.2.2.2.2.2.1,a.2.2.2.2.1))) (some (.inl (d1.1,d1.2.1,d1.2.2.1,d1.2.2.2.1,d1.2.2.2.2.1,d1.2.2.2.2.2.1,d1.2.2.2.2.2.2)))
def vZ(N:Nat)(b:bH)(g:Int)(c:bF)(d:bF)(e:List (Bool×cq))(f:List (eJ×Int))(h:b2)(i:bJ):Option (Int×Int×bF×bF×(List (Bool×cq))×(List (eJ×Int))×b2×bJ):=
  (NW N b N (g,c,d,f,i,h,e)).bind λ(a:(Int×bF×bF×(List (eJ×Int))×bJ×b2×(List (Bool×cq)))⊕(Int×Int×bF×bF×(List (Bool×cq))×(List (eJ×Int))×b2×bJ))=>
  sm a (λa=>
  some (0,a.1,a.2.1,a.2.2.1,a.2.2.2.2.2.2,a.2.2.2.1,a.2.2.2.2.2.1,a.2.2.2.2.1)) (λq=>some q)
def ajS(N:Nat):bA bD:=b0 N ba [.c (.raw (.ptr 1000000 0)),.cK c4] [eP,(2000001,.bS 90 93 bW),(1000001,.mp hz (.int .i64)),(2000000,.row 52 bU),(1000002,.row 58 aJ)] ⟨.a (.c (.int .i64)),[eP,(2000001,.bS 90 93 bW),(1000001,.mp hz (.int .i64)),(2000000,.row 52 bU),(1000002,.row 58 aJ)],[]⟩ [ajR N] [] (.s (.r [.n 2,.w (.bX 3 c4)]) (.s (.b (.ff 0 ⟨[(0,.a (.c (.raw (.ptr 1000000 0))))],[eP,(1000001,.mp hz (.int .i64)),(1000002,.row 58 aJ),(2000000,.row 52 bU),(2000001,.bS 90 93 bW)],[3],[]⟩ ⟨[],[eP,(1000001,.mp hz (.int .i64)),(1000002,.row 58 aJ),(2000000,.row 52 bU),(2000001,.bS 90 93 bW)],[],[]⟩ (.s (.s (.o [4,5] [.t 0 0,.t 1 0,.t 2 0,.t 3 3,.t 4 0,.t 5 1,.t 6 0] []) .d) (.b (.s (.o [5] [.t 0 0,.t 1 0,.t 2 0,.t 3 3,.t 4 0,.t 5 0,.t 6 0] []) (.j ⟨[(0,.a (.c (.raw (.ptr 1000000 0)))),(5,.a (.c (.int .u8))),(6,.a (.c (.int .i64)))],[eP],[3],[1000001,1000002,2000000,2000001]⟩ (.s (.o [] [.t 0 0,.t 1 1,.t 2 0,.t 3 0,.t 4 0,.t 5 3,.t 6 0] []) (.c (.o [5] [.t 0 0,.t 1 0,.t 2 0,.t 3 3,.t 4 0,.t 5 0,.t 6 0] []) .d)) (.s (.s (.r [.n 2,.c x4]) .d) .d))))))) .d)) [.tmp 4] (0,0,[],[],[],[],[],[]) (λd=>vZ N d.1 d.2.1 d.2.2.1 d.2.2.2.1 d.2.2.2.2.1 d.2.2.2.2.2.1 d.2.2.2.2.2.2.1 d.2.2.2.2.2.2.2.1) func53 ntmps53
end
end
end Go.Proofs.YtijeenjclhajhaaGreatDoor
