/- Part 4 of 6 of the proof. -/
import Derived.Test.YtcheedjfedcbpaaGreatDoorEb03
import Derived.Shelf.Strings.Builder1
set_option linter.all false
set_option maxRecDepth 100000
namespace Go.Proofs.YtcheedjfedcbpaaGreatDoor
open Go.Proofs.Tryz
open _root_.Option (bind_some)
open _root_.Nat (beq ble ble_eq blt eq_of_beq_eq_true le_of_ble_eq_true le_trans lt_of_lt_of_le)
open _root_.Int (fdiv tmod)
open _root_.List (append append_assoc append_nil getD_eq_getElem?_getD getElem?_eq_getElem length_append length_cons length_nil length_take map_nil mem_append_left mem_cons_of_mem mem_cons_self mem_of_getElem? nil_append replicate sublist_append_left)
open Go.RowKit
noncomputable section
section
inductive fm where
 |d
 |r (l:List In)
 |t (l:List mz)
 |o (E:b6) (l:List rN) (w:List mz)
 |nr (E:b6) (l:List rN) (w:List mz)
 |s (a b:fm)
 |j (bA:et) (a b:fm)
 |BT (bA:et) (a b:fm)
 |c (a b:fm)
 |l (bA:et) (a:fm)
 |eh (id:Nat) (bA hK:et) (a:fm)
 |fr (id:Nat) (bA hK:et) (a:fm)
 |b (a:fm)
 |o5 (dc:List (Nat×Nat)) (bA:et) (a:fm)
 |p (w:List mz) (a:fm)
 |fw (ak:List mz) (E:b6) (t:s3) (w:List mz) (k0:Bool)
def fm.fst:fm->fm
 |.s x _=>x
 |.j _ x _=>x
 |.BT _ x _=>x
 |.c x _=>x
 |.l _ x=>x
 |.eh _ _ _ x=>x
 |.fr _ _ _ x=>x
 |.b x=>x
 |.o5 _ _ x=>x
 |_=>.d
def fm.snd:fm->fm
 |.s _ x=>x
 |.j _ _ x=>x
 |.BT _ _ x=>x
 |.c _ x=>x
 |_=>.d
def fm.ins:fm->List In
 |.r x=>x
 |_=>[]
def fm.y4:fm->List mz
 |.t x=>x
 |_=>[]
def fm.pre:fm->List mz
 |.p w _=>w
 |.fw w _ _ _ _=>w
 |_=>[]
def fm.SY:fm->Bool
 |.nr _ _ _=>true
 |.p _ (.nr _ _ _)=>true
 |.fw _ _ _ _ a=>a
 |_=>false
def fm.qK:fm->b6×s3×List mz
 |.o x y z=>(x,.f y,z)
 |.nr x y z=>(x,.f y,z)
 |.p _ (.o x y z)=>(x,.f y,z)
 |.p _ (.nr x y z)=>(x,.f y,z)
 |.fw _ x y z _=>(x,y,z)
 |_=>([],.f [],[])
def pc{aY:Type}(n:Nat):List mz->b6->aO->(b6->aO->Option aY)->Option aY
 |[],V,st,k=>k V st
 |x::l,V,st,k=>match yH n x st with
  |some (c,st')=>ao c (pc n l (x.yF++V) st' k)
  |none=>none
theorem y5{X:bu}{aY:Type}{n:Nat}{k:b6->aO->Option aY}{r:aY}{fy:aO}:∀ {l:List mz} {V:b6} {st:aO},db V fy st->pc n l V st k=some r->∃a st',ds X n st st'/\db a fy st'/\k a st'=some r
 |[],V,st,b,h=>⟨V,st,ds.refl _,b,h⟩
 |x::l,V,st,b,h=>by
  unfold pc at h
  split at h
  ·rename_i c d e
   obtain⟨U,h⟩:=hf h;obtain⟨a,st',I,J,ag⟩:=y5 (b.trans (RC e)) h;exact⟨a,st',(Rx e U).trans I,J,ag⟩
  ·cases h
def SZ{α:Type}(v:Value)(k:Value->α):α:=match v with
 |.int q z=>k (.int q z)
 |.bool b=>k (.bool b)
 |.slice a m c=>k (.slice a m c)
 |v=>k v
def FG{α:Type}:ep->(ep->α)->α
 |[],k=>k []
 |.id i::r,k=>FG r λr=>k (.id i::r)
 |.eF g x::r,k=>FG r λr=>k (.eF g x::r)
def LF{α:Type}(c:bs)(k:bs->α):α:=match c with
 |.val v=>SZ v λv=>k (.val v)
 |.str s=>k (.str s)
 |.dead=>k .dead
 |.ptr i o=>k (.ptr i o)
 |.e4 i s j o=>k (.e4 i s j o)
 |.gn g x o=>k (.gn g x o)
 |.par g l=>k (.par g l)
 |.ax i=>k (.ax i)
 |.bo g l c=>k (.bo g l c)
 |.fn f ids=>FG ids λids=>k (.fn f ids)
 |.dY i=>k (.dY i)
 |.jD f i=>k (.jD f i)
 |.il i o=>k (.il i o)
 |.jE i s o=>k (.jE i s o)
 |.jR i=>k (.jR i)
 |.iF b i=>k (.iF b i)
def FH{α:Type}:dI->(dI->α)->α
 |[],k=>k []
 |c::r,k=>LF c λc=>FH r λr=>k (c::r)
def FI{α:Type}(x:bq)(k:bq->α):α:=match x with
 |.c c=>LF c λc=>k (.c c)
 |.agg cs=>FH cs λcs=>k (.agg cs)
 |.arr g l=>k (.arr g l)
def LG{α:Type}:dO->(dO->α)->α
 |[],k=>k []
 |c::r,k=>FI c λc=>LG r λr=>k (c::r)
def S0{α:Type}(v:cd)(k:cd->α):α:=match v with
 |.a x=>FI x λx=>k (.a x)
 |.may g x=>FI x λx=>k (.may g x)
 |.da xs=>LG xs λxs=>k (.da xs)
def LH{α:Type}:cU->(cU->α)->α
 |[],k=>k []
 |(s,v)::r,k=>S0 v λv=>LH r λr=>k ((s,v)::r)
def S1{α:Type}(b:cD)(k:cD->α):α:=match b with
 |.cells t cs=>FH cs λcs=>k (.cells t cs)
 |.row t g l c=>k (.row t g l c)
 |.gT t g l=>k (.gT t g l)
 |.mp g h l o=>k (.mp g h l o)
 |.b0 t u g l c h=>k (.b0 t u g l c h)
 |b=>k b
def LI{α:Type}:bC->(bC->α)->α
 |[],k=>k []
 |(s,v)::r,k=>S1 v λv=>LI r λr=>k ((s,v)::r)
def tb{α:Type}(st:aO)(k:aO->α):α:=LH st.L λL=>LI st.H λH=>k ⟨L,H⟩
theorem afe{α:Type}(v:Value)(k:Value->α):SZ v k=k v:=by cases v<;>rfl
theorem LJ{α:Type}:∀(l:ep) (k:ep->α),FG l k=k l
 |[],_=>rfl
 |.id i::r,k=>LJ r _
 |.eF g x::r,k=>LJ r _
theorem S2{α:Type}(c:bs)(k:bs->α):LF c k=k c:=by
 cases c with
 |val v=>exact afe v (λv=>k (.val v))
 |fn f ids=>exact LJ ids (λids=>k (.fn f ids))
 |_=>rfl
theorem LK{α:Type}:∀(l:dI) (k:dI->α),FH l k=k l
 |[],_=>rfl
 |c::r,k=>(S2 c _).trans (LK r _)
theorem LL{α:Type}(x:bq)(k:bq->α):FI x k=k x:=by
 cases x with
 |c c=>exact S2 c (λc=>k (.c c))
 |agg cs=>exact LK cs (λcs=>k (.agg cs))
 |arr g l=>rfl
theorem S3{α:Type}:∀(l:dO) (k:dO->α),LG l k=k l
 |[],_=>rfl
 |c::r,k=>(LL c _).trans (S3 r _)
theorem aff{α:Type}(v:cd)(k:cd->α):S0 v k=k v:=by
 cases v with
 |a x=>exact LL x (λx=>k (.a x))
 |may g x=>exact LL x (λx=>k (.may g x))
 |da xs=>exact S3 xs (λxs=>k (.da xs))
theorem S4{α:Type}:∀(l:cU) (k:cU->α),LH l k=k l
 |[],_=>rfl
 |(s,v)::r,k=>(aff v _).trans (S4 r _)
theorem afg{α:Type}(b:cD)(k:cD->α):S1 b k=k b:=by
 cases b with
 |cells t cs=>exact LK cs (λcs=>k (.cells t cs))
 |_=>rfl
theorem S5{α:Type}:∀(l:bC) (k:bC->α),LI l k=k l
 |[],_=>rfl
 |(s,v)::r,k=>(afg v _).trans (S5 r _)
theorem wQ{α:Type}(st:aO)(k:aO->α):tb st k=k st:=(S4 _ _).trans (S5 _ _)
def b3{a aY:Type}(step:a->(a->Option aY)->Option aY):Nat->a->Option aY
 |0,_=>none
 |n+1,d=>step d (b3 step n)
abbrev oy(aY:Type):=Exit->b6->aO->Option aY
abbrev tc:={a:Type}->lD a->fm->aO->oy a->Option a
def FJ{aY:Type}(cv:lD aY)(bY:fm)(a b:tc)(st:aO)(k:oy aY):Option aY:=match bY with
 |.j c x y=>(a none x st λe V st'=>match e with
  |.normal=>c.get st V st'
  |_=>none).bind λd=>b cv y (c.S st d) λe V s=>k e (V++c.ids) s
 |.BT c x y=>(a none x st λe V st'=>match e with
  |.normal=>match c.get st V st' with
   |some d=>some (.inl d)
   |none=>none
  |e=>match k e V st' with
   |some r=>some (.inr r)
   |none=>none).bind λ(o:c.D⊕aY)=>sm o (λd=>b cv y (c.S st d) λe V s=>k e (V++c.ids) s) (λr=>some r)
 |bY=>a cv bY.fst st λe V st'=>match e with
  |.normal=>b cv bY.snd st' λe V2 s=>k e (V2++V) s
  |e=>k e V st'
def BU:b6->b6->Bool
 |[],_=>true
 |k::r,l=>match fC k l with
  |true=>BU r l
  |false=>false
def y6(a b:et):Bool:=match BU b.sM a.sM,BU b.nc a.nc,BV b.sM (ev a.L),BV b.nc (ev a.H)with
 |true,true,true,true=>true
 |_,_,_,_=>false
where BV:b6->b6->Bool
 |[],_=>true
 |k::r,l=>match fC k l with
  |true=>false
  |false=>BV r l
def p1{a aY:Type}(o:Option a)(f:a->Option aY):Option aY:=match o with
 |some d=>f d
 |none=>none
theorem rR{a aY:Type}{o:Option a}{f:a->Option aY}{r:aY}(h:p1 o f=some r):∃d,o=some d/\f d=some r:=by
 unfold p1 at h
 split at h
 ·exact⟨_,rfl,h⟩
 ·cases h
def FK{aY:Type}(N:Nat)(cv:lD aY)(f:fm)(a:tc)(st:aO)(k:oy aY):Option aY:=match f with
 |.l b x=>p1 (b.get st [] st) (b3 (λd rec=>a cv x (b.S st d) λe V st'=>match e with
  |.normal=>p1 (b.get st V st') rec
  |e=>k e (V++b.ids) st') N)
 |.eh id b c x=>(p1 (b.get st [] st) (b3 (λd rec=>a none x (b.S st d) λe V st'=>match e with
  |.normal=>p1 (b.get st V st') rec
  |.exit i=>match beq i id,y6 b c with
   |true,true=>c.get st V st'
   |_,_=>none
  |_=>none) N)).bind λd=>k (.exit id) c.ids (c.S st d)
 |.fr id b c x=>(p1 (b.get st [] st) (b3 (λd rec=>a none x (b.S st d) λe V st'=>match e with
  |.normal=>p1 (b.get st V st') rec
  |.exit i=>match beq i id,y6 b c with
   |true,true=>match c.get st V st' with
    |some d=>some (.inl d)
    |none=>none
   |false,_=>match k (.exit i) (V++b.ids) st' with
    |some r=>some (.inr r)
    |none=>none
   |_,_=>none
  |e=>match k e (V++b.ids) st' with
   |some r=>some (.inr r)
   |none=>none) N)).bind λ(o:c.D⊕aY)=>sm o (λd=>k (.exit id) c.ids (c.S st d)) (λr=>some r)
 |_=>none
structure j6(X:bu) where
 f:FuncId
 fn:Func
 C:List uh
 G:List (Nat×fx)
 E:eH
 m:dm (rE C (nO G []))->Option (List (dm (jY E [])))
 az:X.P.funcs[f]?=some fn
 bc : (fn.name == "runtime.NumGoroutine") = false
 ad:fn.body.isNone=false
 ok:∀d l,m d=some l->wM X f (nb C d).1 (jZ G (nb C d).2).1 l (λx=>(ix E x).1)
def ko{α a aY:Type}(step:α->a->(a->Option aY)->Option aY):List α->a->(a->Option aY)->Option aY
 |[],d,k=>k d
 |x::l,d,k=>step x d λb=>ko step l b k
def uC:b6->bC->Option (bC×bC)
 |[],H=>some ([],H)
 |i::is,H=>match bm H i with
  |some b=>match uC is (nJ i H)with
   |some (h,H')=>some ((i,b)::h,H')
   |none=>none
  |none=>none
def wR{X:bu}{aY:Type}(f:FuncId)(gH:ep)(H:bC)(K:(E:eH)->b6->bC->List (dm (jY E []))->Option aY):List (j6 X)->Option aY
 |[]=>none
 |e::r=>match beq e.f f,uC (ev e.G) H with
  |true,some (h,H')=>match vZ (T:=[]) e.G h ()with
   |some t=>match ui (T:=nO e.G []) e.C gH t with
    |some d=>(e.m d).bind λl=>K e.E (ev e.G) H' l
    |none=>wR f gH H K r
   |none=>wR f gH H K r
  |_,_=>wR f gH H K r
def e8:List (Nat×Nat)->aO->aO
 |[],st=>st
 |p::l,st=>e8 l ⟨gd (jF p.1 p.2) st.L,oi (jF p.1 p.2) st.H⟩
def l1:List (Nat×Nat)->b6
 |[]=>[]
 |p::l=>l1 l++[p.2,p.1]
def wS:List (Nat×Nat)->Bool
 |[]=>true
 |p::l=>match blt p.2 iT with
  |true=>wS l
  |false=>false
def BW(n:Nat):Code->Option (List (Nat×Nat))
 |.region _ ⟨ops⟩ false=>yk n ops
 |.skip=>some []
 |.seq a b=>match BW n a,BW n b with
  |some x,some y=>some (x++y)
  |_,_=>none
 |_=>none
def afh(a:et):Bool:=match a.L,a.sM with
 |[],[]=>true
 |_,_=>false
def FL{aY:Type}(n:Nat)(b:et)(ms:List (Nat×Nat))(pl dc:b6)(E:eH)(st:aO)(cv:lD aY)(a:tc)(x:fm)(k:oy aY)(e:dm (jY E []))(y:b.D)(c:b.D->Option aY):Option aY:=
 a cv x ⟨sF ms (ub pl (ix E e).1 (gd (hs n) st.L)),(b.S st y).H⟩ λe V s=>match e with
  |.normal=>p1 (b.get st V s) c
  |.ret=>k .ret ((V++b.ids)++dc) ⟨gd (hs n) st.L,s.H⟩
  |.exit i=>k (.exit i) ((V++b.ids)++dc) ⟨gd (hs n) st.L,s.H⟩
  |_=>none
def stepG{aY:Type}(n:Nat)(c:et)(pl dc:b6)(E:eH)(st:aO)(b a:tc)(x:fm)(k:oy aY)(e:dm (jY E []))(y:c.D)(f:c.D->Option aY):Option aY:=
 b none .d ⟨ub pl (ix E e).1 (gd (hs n) st.L),(c.S st y).H⟩ λg d h=>match g with
  |.normal=>a none x h λe V s=>match e with
   |.normal=>p1 (c.get st (V++d) s) f
   |.ret=>k .ret (((V++d)++c.ids)++dc) ⟨gd (hs n) st.L,s.H⟩
   |.exit i=>k (.exit i) (((V++d)++c.ids)++dc) ⟨gd (hs n) st.L,s.H⟩
   |_=>none
  |_=>none
def BX{aY:Type}(X:bu)(n:Nat)(bI:List (j6 X))(m:Bool)(g:Operand)(pl:b6)(j:Code)(cv:lD aY)(b a:tc)(i:fm)(fy:aO)(k:oy aY):Option aY:=match i with
 |.o5 dc d x=>match m,wS dc,afh d,ble n hZ with
  |true,true,true,true=>match bz X (e8 dc fy).L g,BW n j with
   |some (c,.c (.fn f gH)),some ms=>ao c (wR f gH (e8 dc fy).H (λE gs e l=>match beq E.length pl.length,mY n pl,mY n (ms.map (·.1))with
    |true,true,true=>p1 (d.get ⟨(e8 dc fy).L,e⟩ [] ⟨(e8 dc fy).L,e⟩) λh=>ko (FL n d ms pl (gs++l1 dc) E ⟨(e8 dc fy).L,e⟩ cv a x k) l h λy=>k .normal (d.ids++(gs++l1 dc)) ⟨gd (hs n) (e8 dc fy).L,(d.S ⟨(e8 dc fy).L,e⟩ y).H⟩
    |_,_,_=>none) bI)
   |some (c,.c (.fn f gH)),none=>match cv with
    |none=>ao c (wR f gH (e8 dc fy).H (λE gs e l=>match beq E.length pl.length,mY n pl with
     |true,true=>p1 (d.get ⟨(e8 dc fy).L,e⟩ [] ⟨(e8 dc fy).L,e⟩) λh=>ko (stepG n d pl (gs++l1 dc) E ⟨(e8 dc fy).L,e⟩ b a x k) l h λy=>k .normal (d.ids++(gs++l1 dc)) ⟨gd (hs n) (e8 dc fy).L,(d.S ⟨(e8 dc fy).L,e⟩ y).H⟩
     |_,_=>none) bI)
    |some _=>none
   |_,_=>none
  |_,_,_,_=>none
 |_=>none
def iX(X:bu)(N n:Nat)(T:List (bw X))(bI:List (j6 X)):Bool->Code->{aY:Type}->lD aY->fm->aO->oy aY->Option aY
 |_,.skip,_,_,c,st,k=>pc n c.y4 [] st λV st'=>k .normal V st'
 |_,.exit id,_,_,c,st,k=>pc n c.y4 [] st λV st'=>k (.exit id) V st'
 |_,.ret,_,_,c,st,k=>pc n c.y4 [] st λV st'=>k .ret V st'
 |_,.label _,_,_,_,st,k=>k .normal [] st
 |_,.region _ ops true,_,_,c,st,k=>tb st λst=>pc n c.pre [] st λf st=>tb st λst=>match beq ops.toList.length (nk c.qK.2.1)with
  |true=>rP X n T ops.toList c.qK.1 c.qK.2.1 ⟨Array.replicate (nk c.qK.2.1) false,true,true,true,c.SY⟩ [] f [] st λV st'=>pc n c.qK.2.2 V st' λV st'=>k .normal V st'
  |false=>none
 |_,.region _ ops false,_,cv,c,st,k=>tb st λst=>kK X n T cv (eU ops.toList) c.ins ops.toList [] [] [] st λV st'=>k .normal V st'
 |m,.seq a b,_,cv,c,st,k=>FJ cv c (λcv c st k=>iX X N n T bI m a cv c st k) (λcv c st k=>iX X N n T bI m b cv c st k) st k
 |m,.cond x a b,_,cv,c,st,k=>match bz X st.L x with
  |some (g,.c (.val (.bool q)))=>ao g (cond q (iX X N n T bI m a cv c.fst st k) (iX X N n T bI m b cv c.snd st k))
  |_=>none
 |m,.block id a,_,cv,c,st,k=>iX X N n T bI m a cv c.fst st λe V st'=>match e with
  |.exit i=>match beq i id with
   |true=>k .normal V st'
   |false=>k (.exit i) V st'
  |e=>k e V st'
 |m,.scope a,_,cv,c,st,k=>iX X N n T bI m a cv c.fst st λe V st'=>match e with
  |.goto _=>none
  |e=>k e V st'
 |m,.loop a,_,cv,c,st,k=>tb st λst=>FK N cv c (λcv c st k=>iX X N n T bI m a cv c st k) st k
 |m,.rangeFunc g aH d body,_,cv,c,st,k=>tb st λst=>BX X n bI m g aH.toList d cv (λcv c st k=>iX X N n T bI false d cv c st k) (λcv c st k=>iX X N n T bI false body cv c st k) c st k
 |_,_,_,_,_,_,_=>none
section
variable {X:bu} {M:Bool} {N n:Nat} {rr:Option Nat} {T:List (bw X)} {bI:List (j6 X)}
def rS(X:bu)(M:Bool)(n:Nat){aY:Type}(st:aO)(k:oy aY):Exit->aO->aY->Prop:=λe s r=>∃V a,gR X M n s a/\db V st a/\k e V a=some r
def y7{aY:Type}(Γ:gh X M n rr aY)(cv:lD aY):Prop:=∀(ops:List Oper) (Q:Exit->Act->World->Prop),R2 X n ops cv (λl r st=>∀a w,Γ.In r st a w->q4 rr X.P ops.toArray Q l a w)
def afi{aY:Type}(Γ:gh X M n rr aY)(cv:lD aY):Prop:=M=true->rr=none->∃F:(id:Nat)->gh X false n (some id) aY->Prop,(∀id pd,F id pd->y7 pd cv) /\
 ∀ {α β:Type} {st:aO} {Q:Exit->aO->aY->Prop} {g:Operand} {pl:b6} {assign body:Code} {ig:FuncId} {fn:Func} {gH:ep} {lY:α->dO} {l:List α} {b:Bool} {ms:List (Nat×Nat)} {al fq:bC} {fD:aY},
  bz X st.L g = some (b, .c (.fn ig gH)) → b = true → X.P.funcs[ig]? = some fn → (fn.name == "runtime.NumGoroutine") = false → fn.body.isNone = false → wM X ig gH al l lY → (∀ x, (lY x).length = pl.length) → mY n pl = true → mq n assign ms → mY n (ms.map (·.1)) = true → ble n hZ = true →
  ∀(gZ:β->bC) (bU:List α->β->aY->Prop) (l0:Exit->bC->aY->Prop) (iz:β),bU l iz fD->st.H=al++fq->(∀ {env:Nat->Loc} {B:Nat->Prop} {w:World} {H:c2},bJ env B w fq H->∃H' Y,H.Perm (H'++Y)/\bJ env B w (gZ iz) H') ->
  (∀id x rest y r (pd:gh X false n (some id) aY),F id pd->bU (x::rest) y r->iL pd body r ⟨sF ms (ub pl (lY x) (gd (hs n) st.L)),gZ y⟩ (λe s cF=>(e=.normal/\∃nS,bU rest nS cF/\∃eu,gR X false n s ⟨eu,gZ nS⟩)\/(e≠.normal/\Eo e=true/\∃aP,l0 e aP cF/\∃eu,gR X false n s ⟨eu,aP⟩))) ->
  (∀y r,bU [] y r->Q .normal ⟨gd (hs n) st.L,gZ y⟩ r)->(∀e aP r,l0 e aP r->Q e ⟨gd (hs n) st.L,aP⟩ r)->iL Γ (.rangeFunc g pl.toArray assign body) fD st Q
def l2{aY:Type}(Γ:gh X M n rr aY)(cv:lD aY):Prop:=y7 Γ cv/\afi Γ cv
theorem y7.inner{aY:Type}{id:Nat}{Γ:gh X false n (some id) aY}{cv:lD aY}(h:y7 Γ cv):l2 Γ cv:=⟨h,λh=>by cases h⟩
theorem l2.none{aY:Type}{Γ:gh X M n rr aY}:l2 Γ none:=⟨λ_ _ _ h=>(by cases h),λi E=>by
 subst i E;refine⟨λid C=>∃R W aE a,C=gh.ta R W aE a,λ_ _ _ _ _ _ h=>(by cases h),?_⟩;intro α β st Q g pl assign body H fn gH K l b ms al G a d ad m z B p q k A u bc o bU t r f dG j D w v;exact lF (wP (ae6 (Q:=λe s=>Q e s a) d ad m z B p q k A u bc o (λl y=>bU l y a) (λe h=>t e h a) r f dG j (λid x rest y aG=>BS λR W aE=>D id x rest y a _ ⟨R,W,aE,a,rfl⟩ aG) (λy aG=>w y a aG) (λe c h=>v e c a h))) λe s F ⟨I,J⟩=>by rw[J];exact I⟩
def y8(X:bu)(M:Bool)(n:Nat)(rr:Option Nat)(c:Code)(f:tc):Prop:=
 ∀(aY:Type) (Γ:gh X M n rr aY) (cv:lD aY),l2 Γ cv->∀(a:fm) (st:aO) (k:oy aY) (r:aY),f cv a st k=some r->iL Γ c r st (rS X M n st k)
theorem afj{aY:Type}{Γ:gh X M n rr aY}{cv:lD aY}(aG:l2 Γ cv){fu cG:Code}{a b:tc}(bh:y8 X M n rr fu a)(ad:y8 X M n rr cG b){A:fm}{st:aO}{k:oy aY}{r:aY}(h:FJ cv A a b st k=some r):iL Γ (.seq fu cG) r st (rS X M n st k):=by
 unfold FJ at h
 split at h
 ·rename_i i x y
  obtain⟨d,I,J⟩:=ek h;refine LC (lF (FF (bh _ (Γ.const r d) none l2.none _ _ _ _ I)) λe s w ⟨u,V,t,g,f,c⟩=>?_);subst u;cases e with
  |normal=>exact y3 (g.trans (et.iK (kL.self i st) f c).m) (lF (ad _ Γ cv aG _ _ _ _ J) λe s v ⟨V2,m,l,p,j⟩=>⟨_,m,l,(et.aq i st d).trans p,j⟩)
  |_=>cases c
 ·rename_i i x y
  obtain⟨o,I,J⟩:=ek h;refine LC (lF (FF (bh _ (Γ.const r o) none l2.none _ _ _ _ I)) λe s w ⟨u,V,t,g,f,c⟩=>?_);subst u;cases e with
  |normal=>
   simp only at c
   split at c
   ·rename_i d ay
    cases c;exact y3 (g.trans (et.iK (kL.self i st) f ay).m) (lF (ad _ Γ cv aG _ _ _ _ J) λe s v ⟨V2,m,l,p,j⟩=>⟨_,m,l,(et.aq i st d).trans p,j⟩)
   ·cases c
  |_=>
   simp only at c
   split at c
   ·rename_i q z
    cases c;cases J;exact⟨V,t,g,f,z⟩
   ·cases c
 ·refine LC (lF (bh _ Γ cv aG _ _ _ _ h) λe s w ⟨V,t,g,f,c⟩=>?_)
  cases e with
  |normal=>exact y3 g (lF (ad _ Γ cv aG _ _ _ _ c) λe s v ⟨V2,m,l,p,j⟩=>⟨_,m,l,f.trans p,j⟩)
  |_=>exact⟨V,t,g,f,c⟩
theorem LN{q:Nat}{l:b6}:∀ {aq:b6},BU aq l=true->q∈aq->fC q l=true
 |[],_,h=>by cases h
 |k::r,h,hm=>by
  unfold BU at h
  split at h
  ·rename_i I
   rcases List.mem_cons.1 hm with rfl|hm
   ·exact I
   ·exact LN h hm
  ·cases h
theorem LO{q:Nat}{l:b6}:∀ {aq:b6},y6.BV aq l=true->q∈aq->fC q l=false
 |[],_,h=>by cases h
 |k::r,h,hm=>by
  unfold y6.BV at h
  split at h
  ·cases h
  ·rename_i I
   rcases List.mem_cons.1 hm with rfl|hm
   ·exact I
   ·exact LO h hm
theorem LP{q:Nat}:∀ {l:b6},fC q l=true->q∈l
 |[],h=>by cases h
 |k::r,h=>by
  unfold fC at h
  split at h
  ·rename_i e
   rw[eq_of_beq_eq_true e];exact mem_cons_self
  ·exact mem_cons_of_mem _ (LP h)
theorem FO{p:Nat×cd}:∀ {aq:b6} {L:cU},p∈k5 aq L->p.1∈aq
 |[],_,h=>by cases h
 |k::r,L,h=>by
  unfold k5 at h
  split at h
  ·split at h
   ·rcases List.mem_cons.1 h with rfl|h
    ·exact mem_cons_self
    ·exact mem_cons_of_mem _ (FO h)
   ·exact mem_cons_of_mem _ (FO h)
  ·exact mem_cons_of_mem _ (FO h)
theorem FP{p:Nat×cD}:∀ {aq:b6} {L:bC},p∈hD aq L->p.1∈aq
 |[],_,h=>by cases h
 |k::r,L,h=>by
  unfold hD at h
  split at h
  ·split at h
   ·rcases List.mem_cons.1 h with rfl|h
    ·exact mem_cons_self
    ·exact mem_cons_of_mem _ (FP h)
   ·exact mem_cons_of_mem _ (FP h)
  ·exact mem_cons_of_mem _ (FP h)
theorem S6{q:Nat}{v:cd}:∀ {aq:b6} {L:cU},q∈aq->bm L q=some v->v.free=true->(q,v)∈k5 aq L
 |[],_,h,_,_=>by cases h
 |k::r,L,h,ae,az=>by
  unfold k5
  rcases List.mem_cons.1 h with rfl|h
  ·simp only[ae,az];exact mem_cons_self
  ·have:=S6 h ae az
   split
   ·split
    ·exact mem_cons_of_mem _ this
    ·exact this
   ·exact this
theorem S7{q:Nat}{v:cD}:∀ {aq:b6} {L:bC},q∈aq->bm L q=some v->v.free=true->(q,v)∈hD aq L
 |[],_,h,_,_=>by cases h
 |k::r,L,h,ae,az=>by
  unfold hD
  rcases List.mem_cons.1 h with rfl|h
  ·simp only[ae,az];exact mem_cons_self
  ·have:=S7 h ae az
   split
   ·split
    ·exact mem_cons_of_mem _ this
    ·exact this
   ·exact this
theorem kL.out{a e:et}(ai:y6 a e=true)(st:aO)(d:a.D):kL e st (a.S st d):=by
 unfold y6 at ai
 split at ai
 ·rename_i I J ag f
  refine⟨λp al _=>?_,λp al _=>?_⟩
  ·have aa:=FO al
   obtain⟨b,c⟩:=wz al;exact(kL.step a st d).1 p (S6 (LP (LN I aa)) b c) (LO ag aa)
  ·have aa:=FP al
   obtain⟨b,c⟩:=qH al;exact(kL.step a st d).2 p (S7 (LP (LN J aa)) b c) (LO f aa)
 ·cases ai
theorem afk{aY:Type}{Γ:gh X M n rr aY}{cv:lD aY}(aG:l2 Γ cv){c:Code}{a:tc}(bh:y8 X M n rr c a){F:fm}{st:aO}{k:oy aY}{r:aY}(h:FK N cv F a st k=some r):iL Γ (.loop c) r st (rS X M n st k):=by
 unfold FK at h
 split at h
 ·rename_i f x
  obtain⟨d,I,J⟩:=rR h;refine LD (λ(y:Nat×f.D)=>f.S st y.2) (λy r=>b3 _ y.1 y.2=some r) (λy=>y.1) (N,d) J (et.iK (kL.self f st) (db.refl st) I).m λy r g=>?_
  obtain⟨m,d2⟩:=y;cases m with
  |zero=>cases g
  |succ m=>
   refine lF (bh _ Γ cv aG _ _ _ _ g) λe s p ⟨V,v,l,j,b⟩=>?_
   cases e with
   |normal=>
    obtain⟨u,ag,t⟩:=rR b;exact⟨(m,u),t,Nat.lt_succ_self _,l.trans (et.iK (kL.step f st d2) j ag).m⟩
   |_=>exact⟨_,v,l,(et.aq f st d2).trans j,b⟩
 ·rename_i id f z x
  obtain⟨o,h,w⟩:=ek h;obtain⟨d,I,J⟩:=rR h;refine LD (λ(y:Nat×f.D)=>f.S st y.2) (λy p=>b3 _ y.1 y.2=some o/\p=r) (λy=>y.1) (N,d) ⟨J,rfl⟩ (et.iK (kL.self f st) (db.refl (V:=[]) st) I).m λy p g=>?_
  obtain⟨m,d2⟩:=y;obtain⟨g,rfl⟩:=g;cases m with
  |zero=>cases g
  |succ m=>
   refine lF (FF (d0:=o) (bh _ (Γ.const p o) none l2.none _ _ _ _ g)) λe s C ⟨A,V,v,l,j,b⟩=>?_
   subst A;cases e with
   |normal=>
    obtain⟨u,ag,t⟩:=rR b;exact⟨(m,u),⟨t,rfl⟩,Nat.lt_succ_self _,l.trans (et.iK (kL.step f st d2) j ag).m⟩
   |exit i=>
    simp only at b
    split at b
    ·rename_i hi ai
     have:=eq_of_beq_eq_true hi
     subst this;exact⟨_,_,l.trans (et.iK (kL.out ai st d2) j b).m,et.aq z st o,w⟩
    ·cases b
   |_=>cases b
 ·rename_i id f z x
  obtain⟨o,h,w⟩:=ek h;obtain⟨d,I,J⟩:=rR h;refine LD (λ(y:Nat×f.D)=>f.S st y.2) (λy p=>b3 _ y.1 y.2=some o/\p=r) (λy=>y.1) (N,d) ⟨J,rfl⟩ (et.iK (kL.self f st) (db.refl (V:=[]) st) I).m λy p g=>?_
  obtain⟨m,d2⟩:=y;obtain⟨g,rfl⟩:=g;cases m with
  |zero=>cases g
  |succ m=>
   refine lF (FF (d0:=o) (bh _ (Γ.const p o) none l2.none _ _ _ _ g)) λe s C ⟨A,V,v,l,j,b⟩=>?_
   subst A;have key:∀B,(match k B (V++f.ids) v with
     |some r=>some (Sum.inr r)
     |none=>(none:Option (z.D⊕aY)))=some o->rS X M n st k B s C:=λB b=>by
    split at b
    ·rename_i q E
     cases b;cases w;exact⟨_,v,l,(et.aq f st d2).trans j,E⟩
    ·cases b
   cases e with
   |normal=>
    obtain⟨u,ag,t⟩:=rR b;exact⟨(m,u),⟨t,rfl⟩,Nat.lt_succ_self _,l.trans (et.iK (kL.step f st d2) j ag).m⟩
   |exit i=>
    simp only at b
    split at b
    ·rename_i hi ai
     have:=eq_of_beq_eq_true hi
     subst this
     split at b
     ·rename_i G D
      cases b;exact⟨_,_,l.trans (et.iK (kL.out ai st d2) j D).m,et.aq z st G,w⟩
     ·cases b
    ·exact key _ b
    ·cases b
   |_=>exact key _ b
 ·cases h
theorem gR.dc{i j:Nat}(d:blt j iT=true){st:aO}:gR X true n st ⟨gd (jF i j) st.L,oi (jF i j) st.H⟩:=by
 rintro R W aE a w ⟨aq,env,B,ak,H,b,ah⟩;obtain⟨H',I,J⟩:=bJ.c8 (yj) ah.heap;refine⟨aq,kX env j (env i),B,ak,H',b,ah.size,ah.defs,λs sv e=>?_,J,ah.aU.e2 (I.append_right _),ah.sub,ah.new,tJ ah.dr (λq al=>by have I:=b.2 rfl _ _ al;have J:=ef d;omega),ah.base,ah.eg⟩;obtain⟨u,ag,rfl⟩:=ua e;obtain⟨v,f,c⟩:=ah.has s u ag;exact⟨v,f,eK.c8 yj c⟩
theorem LR:∀ {l:List (Nat×Nat)} {st:aO},wS l=true->gR X true n st (e8 l st)
 |[],st,_=>gR.refl st
 |p::l,st,h=>by
  unfold wS at h
  split at h
  ·rename_i I
   exact(gR.dc I).trans (LR h)
  ·cases h
theorem LS:∀ {c:Code} {ms:List (Nat×Nat)},BW n c=some ms->mq n c ms
 |.region _ ⟨ops⟩ false,_,h=>mq.region h
 |.skip,_,h=>by cases h;exact mq.skip
 |.seq a b,ms,h=>by
  unfold BW at h
  split at h
  ·rename_i x y I J
   cases h;exact mq.seq (LS I) (LS J)
  ·cases h
theorem y9:∀ {A:eH} {T:List Type} (d:dm (jY A T)),(ix A d).1.length=A.length
 |[],_,_=>rfl
 |x::A,T,d=>by
  unfold ix;rw[length_cons,length_cons,y9]
theorem S8{bU:iw}:∀ {cs:ep},sE cs=true->rz bU cs=some cs
 |[],_=>rfl
 |.id _::_,h=>by cases h
 |.eF g x::cs,h=>by
  unfold rz;rw[S8 (cs:=cs) h]
theorem S9{bU:iw}{c:bs}(h:c.free=true):c.c8 bU=c:=by
 cases c with
 |fn f cs=>simp only[bs.c8];rw[S8 h]
 |_=>first|rfl|cases h
theorem LU{bU:iw}:∀ {cs:dI},sQ cs=true->tZ bU cs=cs
 |[],_=>rfl
 |c::r,h=>by
  unfold sQ at h
  split at h
  ·rename_i e
   show c.c8 bU::tZ bU r=_;rw[S9 e,LU h]
  ·cases h
theorem LV{bU:iw}{x:bq}(h:x.free=true):x.c8 bU=x:=by
 cases x with
 |c x=>simp only[bq.c8];rw[S9 h]
 |agg cs=>simp only[bq.c8];rw[LU h]
 |arr g l=>rfl
theorem Ta{bU:iw}:∀ {xs:dO},mw xs=true->vQ bU xs=xs
 |[],_=>rfl
 |c::r,h=>by
  unfold mw at h
  split at h
  ·rename_i e
   show c.c8 bU::vQ bU r=_;rw[LV e,Ta h]
  ·cases h
theorem afl{bU:iw}{v:cd}(h:v.free=true):v.c8 bU=v:=by
 cases v with
 |a x=>simp only[cd.c8];rw[LV h]
 |may g x=>simp only[cd.c8];rw[LV h]
 |da xs=>simp only[cd.c8];rw[Ta h]
theorem afm{bU:iw}{b:cD}(h:b.free=true):b.c8 bU=b:=by
 cases b with
 |cells t cs=>simp only[cD.c8];rw[LU h]
 |b0 T T' g l c q=>rcases q with _|⟨i,_|d⟩<;>first|rfl|cases h
 |_=>first|rfl|cases h
theorem LW(bU:iw)(L:cU){V:b6}:yD V L (gd bU L):=cz.map (f:=λv=>v.c8 bU) (λ_ h=>afl h) λ_ _ h=>ua h
theorem Tb(i j:Nat):∀H:bC,nf [j,i] H (oi (jF i j) H)
 |[]=>cz.refl []
 |(k,b)::r=>λq v d ae=>by
  obtain⟨I,J⟩:=gN d;obtain⟨J,_⟩:=gN J;have a:=Tb i j r q v d;unfold oi at ae;rw[cI];have c:jF i j b.pN k=match beq k i with
   |true=>some j
   |false=>match beq k j with
    |true=>none
    |false=>some k:=rfl
  cases aC:beq k i with
  |true=>
   rw[c,aC]at ae;rw[cI,if_neg I]at ae
   have:=eq_of_beq_eq_true aC
   rw[if_neg (by omega)];exact a ae
  |false=>
   cases ba:beq k j with
   |true=>
    rw[c,aC,ba]at ae
    have:=eq_of_beq_eq_true ba
    rw[if_neg (by omega)];exact a ae
   |false=>
    rw[c,aC,ba]at ae;rw[cI]at ae
    split at ae
    ·rename_i e
     cases ae;rw[if_pos e];exact⟨b,rfl,λaz=>afm az⟩
    ·rename_i e
     rw[if_neg e];exact a ae
theorem LX:∀(l:List (Nat×Nat)) (st:aO),db (l1 l) st (e8 l st)
 |[],st=>db.refl st
 |p::l,st=>by
  have I:db [p.2,p.1] st ⟨gd (jF p.1 p.2) st.L,oi (jF p.1 p.2) st.H⟩:=⟨LW _ _,Tb _ _ _⟩
  exact I.trans (LX l _)
theorem et.Tc{X:bu}{n:Nat}{b:et}{st st':aO}{f:bC}{V:b6}{d:b.D}(y:∀p∈hD b.nc st.H,fC p.1 (ev b.H)=false->bm f p.1=some p.2)(k:nf V f st'.H)(h:b.get st V st'=some d):ds X n st' ⟨st'.L,(b.S st d).H⟩:=by
 unfold et.get at h
 split at h
 ·rename_i F o A
  split at h
  ·rename_i f i
   split at h
   ·rename_i u j
    split at h
    ·rename_i C l
     cases h;obtain⟨I,J⟩:=uj j;obtain⟨ag,E⟩:=ED l;have D:∀p∈hD b.nc st.H,bm st'.H p.1=some p.2:=λp al=>by
      obtain⟨r,g2,v,g3⟩:=Bu o al;obtain⟨u,g,s⟩:=k p.1 v r g3;rw[y p al g2]at g;cases g;rw[g3,s (qH al).2]
     rintro R W aE M a w ⟨aq,env,B,ak,H,m,ah⟩;have q:=Fh (x6 i) D (by rw[Bv i];exact A);obtain⟨H',c⟩:=ah.e2 (st':=⟨[],f++hD b.nc st.H⟩) .nil q;refine⟨aq,env,B,ak,H',m,c.size,c.defs,ah.has,?_,c.aU,c.sub,c.new,c.dr,c.base,c.eg⟩;show bJ env B ak ((jZ b.H (oq b.L (nN b.T (qy b.T C))).2).1++hD b.nc st.H) H';rw[vY,ag];obtain⟨H1,H2,e,z,t⟩:=et.iK.bJ.split c.heap;rw[e];exact(J _ _ _ _ z).append t
    ·cases h
   ·cases h
  ·cases h
 ·cases h
theorem Td{env:Nat->Loc}{B:Nat->Prop}{w:World}:∀ {is:b6} {H h H':bC} {C:c2},uC is H=some (h,H')->bJ env B w H C->∃a,C.Perm a/\bJ env B w (h++H') a
 |[],H,h,H',C,al,cJ=>by cases al;exact⟨C,List.Perm.refl _,cJ⟩
 |i::is,H,h,H',C,al,cJ=>by
  unfold uC at al
  split at al
  ·rename_i b ad
   split at al
   ·rename_i I H1 e
    cases al;obtain⟨c,H2,d,f,g⟩:=cJ.erase ad;obtain⟨a,j,k⟩:=Td e g;exact⟨c::a,f.trans (List.Perm.cons _ j),⟨c,a,rfl,d,k⟩⟩
   ·cases al
  ·cases al
theorem LY:∀ {is:b6} {H h H':bC},uC is H=some (h,H')->nf is H H'
 |[],H,h,H',al=>by cases al;exact cz.refl _
 |i::is,H,h,H',al=>by
  unfold uC at al
  split at al
  ·split at al
   ·rename_i I H1 e
    cases al;exact((KN H).trans (LY e)).more λq a=>by
     obtain⟨I,J⟩:=gN a;exact qC.2 ⟨J,rI.2 ⟨I,rfl⟩⟩
   ·cases al
  ·cases al
theorem Te{st:aO}{is:b6}{h H':bC}(he:uC is st.H=some (h,H')):ds X n st ⟨st.L,h++H'⟩:=λ_ _ _ _ _ _ ⟨aq,env,B,ak,H,d,ah⟩=>by
 obtain⟨c,a,b⟩:=Td he ah.heap;exact⟨aq,env,B,ak,c,d,ah.size,ah.defs,ah.has,b,ah.aU.perm (a.append_right _),ah.sub,ah.new,ah.dr,ah.base,ah.eg⟩
theorem BY{aY:Type}{f:FuncId}{gH:ep}{H:bC}{K:(E:eH)->b6->bC->List (dm (jY E []))->Option aY}{r:aY}:∀ {bI:List (j6 X)},wR f gH H K bI=some r->∃e:j6 X,e.f=f/\∃h H' al l,uC (ev e.G) H=some (h,H')/\(∀env B w C,bJ env B w h C->bJ env B w al C)/\wM X f gH al l (λx=>(ix e.E x).1)/\K e.E (ev e.G) H' l=some r
 |[],h=>by cases h
 |e::bI,h=>by
  unfold wR at h
  split at h
  ·rename_i c H' az b
   split at h
   ·rename_i t bk
    split at h
    ·rename_i d ay
     obtain⟨l,I,J⟩:=ek h;have a:=eq_of_beq_eq_true az;have U:=Ez ay
     have:=e.ok d l I
     rw[U]at this;exact⟨e,a,c,H',_,l,b,(uj bk).2,a ▸ this,J⟩
    ·exact BY h
   ·exact BY h
  ·exact BY h
theorem et.Tf{a:et}{L:cU}{b:bC}{d:a.D}(h:a.get ⟨L,b⟩ [] ⟨L,b⟩=some d){env:Nat->Loc}{B:Nat->Prop}{w:World}{H:c2}(j:bJ env B w b H):∃H' Y,H.Perm (H'++Y)/\bJ env B w (a.S ⟨L,b⟩ d).H H':=by
 unfold et.get at h
 split at h
 ·rename_i y s o
  split at h
  ·rename_i I c
   split at h
   ·rename_i u f
    split at h
    ·rename_i q g
     cases h;obtain⟨t,g2⟩:=uj f;obtain⟨g3,v⟩:=ED g;have r:∀p∈hD a.nc b,bm b p.1=some p.2:=λp al=>(qH al).1
     have l:=Fh (x6 c) r (by rw[Bv c];exact o);obtain⟨H',Y,n,m⟩:=l.D1 j;refine⟨H',Y,n,?_⟩;show bJ env B w ((jZ a.H (oq a.L (nN a.T (qy a.T q))).2).1++hD a.nc b) H';rw[vY,g3];obtain⟨H1,H2,e,i,k⟩:=bJ.split m;rw[e];exact(g2 _ _ _ _ i).append k
    ·cases h
   ·cases h
  ·cases h
 ·cases h
theorem afn(D:M=true)(aN:rr=none){aY:Type}{Γ:gh X M n rr aY}{cv:lD aY}(aG:l2 Γ cv){g:Operand}{pl:b6}{au body:Code}{m:Bool}{b a:tc}(aL:∀id,y8 X false n (some id) au b)(bh:∀id,y8 X false n (some id) body a){aH:fm}{st:aO}{k:oy aY}{r:aY}(h:BX X n bI m g pl au cv b a aH st k=some r):iL Γ (.rangeFunc g pl.toArray au body) r st (rS X M n st k):=by
 subst D;subst aN;obtain⟨F,aI,aB⟩:=aG.2 rfl rfl;unfold BX at h
 split at h
 ·rename_i dc j x
  split at h
  ·rename_i aw aS bc
   split at h
   ·rename_i c f gH ms ab ax
    obtain⟨U,h⟩:=hf h;obtain⟨e,T,aF,d,al,l,G,L,aj,h⟩:=BY h
    split at h
    ·rename_i am ai aM
     obtain⟨ao,N,ar⟩:=rR h;have O:=eq_of_beq_eq_true am;subst T;have A:∀ {V:b6} {o:bC},nf V d o->db (V++(ev e.G++l1 dc)) st ⟨gd (hs n) (e8 dc st).L,o⟩:=λ{V o} aa=>(LX dc st).trans (db.trans (b:=⟨(e8 dc st).L,d⟩) ⟨cz.refl _,LY G⟩ ⟨LW _ _,aa⟩) |>.more λq t=>by
      rw[<- append_assoc]at t;exact t
     have P:ds X n (e8 dc st) ⟨(e8 dc st).L,al++d⟩:=λR W aE M a w Y=>by
      obtain⟨aq,env,B,ak,H,D,ah⟩:=Te G _ _ _ _ _ _ Y;obtain⟨H1,H2,an,ac,af⟩:=bJ.split ah.heap;exact⟨aq,env,B,ak,H,D,ah.size,ah.defs,ah.has,by rw[an];exact(L _ _ _ _ ac).append af,ah.aU,ah.sub,ah.new,ah.dr,ah.base,ah.eg⟩
     refine y3 ((LR aw).trans P.m) (aB ab U e.az e.bc e.ad aj (λx=>by rw[y9];exact O) ai (LS ax) aM bc (λy=>(j.S ⟨(e8 dc st).L,d⟩ y).H) (λl y K=>ko (FL n j ms pl (ev e.G++l1 dc) e.E ⟨(e8 dc st).L,d⟩ cv a x k) l y (λy=>k .normal (j.ids++(ev e.G++l1 dc)) ⟨gd (hs n) (e8 dc st).L,(j.S ⟨(e8 dc st).L,d⟩ y).H⟩)=some K) (λe o K=>∃V,db V st ⟨gd (hs n) (e8 dc st).L,o⟩/\k e V ⟨gd (hs n) (e8 dc st).L,o⟩=some K) ao ar rfl (λad=>et.Tf N ad) ?_ ?_ ?_)
     ·intro id q rest y Z ay aC t
      have ap:FL n j ms pl (ev e.G++l1 dc) e.E ⟨(e8 dc st).L,d⟩ cv a x k q y (λae=>ko (FL n j ms pl (ev e.G++l1 dc) e.E ⟨(e8 dc st).L,d⟩ cv a x k) rest ae (λy=>k .normal (j.ids++(ev e.G++l1 dc)) ⟨gd (hs n) (e8 dc st).L,(j.S ⟨(e8 dc st).L,d⟩ y).H⟩))=some Z:=t;refine lF (bh id _ ay cv (aI id ay aC).inner _ _ _ _ ap) λC s aR ⟨V,u,z,E,p⟩=>?_
      cases C with
      |normal=>
       obtain⟨d2,ag,v⟩:=rR p;exact .inl ⟨rfl,d2,v,_,z.trans (et.Tc (kL.step j ⟨(e8 dc st).L,d⟩ y).2 E.2 ag).m⟩
      |ret=>exact .inr ⟨(λh=>by cases h),rfl,u.H,⟨_,A ((et.aq j ⟨(e8 dc st).L,d⟩ y).2.trans E.2),p⟩,u.L,z⟩
      |exit i=>exact .inr ⟨(λh=>by cases h),rfl,u.H,⟨_,A ((et.aq j ⟨(e8 dc st).L,d⟩ y).2.trans E.2),p⟩,u.L,z⟩
      |_=>cases p
     ·intro y Z aG
      exact⟨_,_,gR.refl _,A (et.aq j ⟨(e8 dc st).L,d⟩ y).2,aG⟩
     ·rintro C o Z ⟨V,ag,v⟩
      exact⟨V,_,gR.refl _,ag,v⟩
    ·cases h
   ·rename_i c f gH ab ax
    split at h
    ·obtain⟨U,h⟩:=hf h
     obtain⟨e,T,aF,d,al,l,G,L,aj,h⟩:=BY h
     split at h
     ·rename_i am ai
      obtain⟨ao,N,ar⟩:=rR h;have O:=eq_of_beq_eq_true am;subst T;have A:∀ {V:b6} {o:bC},nf V d o->db (V++(ev e.G++l1 dc)) st ⟨gd (hs n) (e8 dc st).L,o⟩:=λ{V o} aa=>(LX dc st).trans (db.trans (b:=⟨(e8 dc st).L,d⟩) ⟨cz.refl _,LY G⟩ ⟨LW _ _,aa⟩) |>.more λq t=>by
       rw[<- append_assoc]at t;exact t
      have P:ds X n (e8 dc st) ⟨(e8 dc st).L,al++d⟩:=λR W aE M a w Y=>by
       obtain⟨aq,env,B,ak,H,D,ah⟩:=Te G _ _ _ _ _ _ Y;obtain⟨H1,H2,an,ac,af⟩:=bJ.split ah.heap;exact⟨aq,env,B,ak,H,D,ah.size,ah.defs,ah.has,by rw[an];exact(L _ _ _ _ ac).append af,ah.aU,ah.sub,ah.new,ah.dr,ah.base,ah.eg⟩
      refine y3 ((LR aw).trans P.m) (lF (wP (SS (Q:=λe s=>rS X true n st k e s r) ab U e.az e.bc e.ad aj (λx=>by rw[y9];exact O) ai bc (λy=>(j.S ⟨(e8 dc st).L,d⟩ y).H) (λl y=>ko (stepG n j pl (ev e.G++l1 dc) e.E ⟨(e8 dc st).L,d⟩ b a x k) l y (λy=>k .normal (j.ids++(ev e.G++l1 dc)) ⟨gd (hs n) (e8 dc st).L,(j.S ⟨(e8 dc st).L,d⟩ y).H⟩)=some r) (λe o=>∃V,db V st ⟨gd (hs n) (e8 dc st).L,o⟩/\k e V ⟨gd (hs n) (e8 dc st).L,o⟩=some r) ao ar rfl (λad=>et.Tf N ad) ?_ ?_ ?_)) λe s K ⟨I,J⟩=>by rw[J];exact I)
      ·intro id q rest y t
       have ap:stepG n j pl (ev e.G++l1 dc) e.E ⟨(e8 dc st).L,d⟩ b a x k q y (λae=>ko (stepG n j pl (ev e.G++l1 dc) e.E ⟨(e8 dc st).L,d⟩ b a x k) rest ae (λy=>k .normal (j.ids++(ev e.G++l1 dc)) ⟨gd (hs n) (e8 dc st).L,(j.S ⟨(e8 dc st).L,d⟩ y).H⟩))=some r:=t;refine D4 (BS λR W aE=>aL id _ (gh.ta R W aE r) none l2.none _ _ _ _ ap) λaA aT I=>?_
       obtain⟨aP,aQ,aK,aD,av⟩:=I;cases aA with
       |normal=>
        refine⟨rfl,λR W aE az aJ J=>?_⟩;refine D4 (BS λR W aE=>bh id _ (gh.ta R W aE r) none l2.none _ _ _ _ av) (λC s J=>?_) R W aE az aJ (aK _ _ _ _ _ J);obtain⟨V,u,z,E,p⟩:=J;have S:=aD.trans E;cases C with
        |normal=>
         obtain⟨d2,ag,v⟩:=rR p;exact .inl ⟨rfl,d2,v,_,z.trans (et.Tc (kL.step j ⟨(e8 dc st).L,d⟩ y).2 S.2 ag).m⟩
        |ret=>exact .inr ⟨(λh=>by cases h),rfl,u.H,⟨_,A ((et.aq j ⟨(e8 dc st).L,d⟩ y).2.trans S.2),p⟩,u.L,z⟩
        |exit i=>exact .inr ⟨(λh=>by cases h),rfl,u.H,⟨_,A ((et.aq j ⟨(e8 dc st).L,d⟩ y).2.trans S.2),p⟩,u.L,z⟩
        |_=>cases p
       |_=>cases av
      ·intro y aG
       exact⟨_,_,gR.refl _,A (et.aq j ⟨(e8 dc st).L,d⟩ y).2,aG⟩
      ·rintro C o ⟨V,ag,v⟩
       exact⟨V,_,gR.refl _,ag,v⟩
     ·cases h
    ·cases h
   ·cases h
  ·cases h
 ·cases h
theorem oz(y:X.a6.ok X.P)(z:X.P.follows .mixedOrders=true):∀(c:Code) (m M:Bool) (rr:Option Nat),(m=true->M=true/\rr=none)->y8 X M n rr c (λcv d st k=>iX X N n T bI m c cv d st k)
 |.skip,m,M,rr,_=>λaY Γ cv aG d st k r h=>by
  obtain⟨V,t,p,o,j⟩:=y5 (db.refl (V:=[]) st) (show pc n d.y4 [] st (λV st'=>k .normal V st')=some r by cases m<;>exact h);exact lF (wP (D5 ⟨V,t,p.m,o,j⟩)) λe s u ⟨I,J⟩=>J ▸ I
 |.exit id,m,M,rr,_=>λaY Γ cv aG d st k r h=>by
  obtain⟨V,t,p,o,j⟩:=y5 (db.refl (V:=[]) st) (show pc n d.y4 [] st (λV st'=>k (.exit id) V st')=some r by cases m<;>exact h);exact lF (wP (P7 ⟨V,t,p.m,o,j⟩)) λe s u ⟨I,J⟩=>J ▸ I
 |.ret,m,M,rr,_=>λaY Γ cv aG d st k r h=>by
  obtain⟨V,t,p,o,j⟩:=y5 (db.refl (V:=[]) st) (show pc n d.y4 [] st (λV st'=>k .ret V st')=some r by cases m<;>exact h);exact lF (wP (Aw ⟨V,t,p.m,o,j⟩)) λe s u ⟨I,J⟩=>J ▸ I
 |.label l,m,M,rr,_=>λaY Γ cv aG d st k r h=>by
  exact lF (wP (ab2 ⟨[],st,gR.refl _,db.refl st,by cases m<;>exact h⟩)) λe s u ⟨I,J⟩=>J ▸ I
 |.region id ops false,m,M,rr,_=>λaY Γ cv aG d st k r h=>by
  have f:kK X n T cv (eU ops.toList) d.ins ops.toList [] [] [] st (λV st'=>k .normal V st')=some r:=by cases m<;>exact(wQ st _).symm.trans h
  intro a w hi;have H:Br X n ops.toList (λl r L=>∀a w,Γ.In r L a w->q4 rr X.P ops.toList.toArray (λe a w=>∃s u,rS X M n st k e s u/\Γ.In u s a w) l a w):=⟨λj B a w hi=>sn (Γ.step j hi λa w h=>B a w h),λp B a w hi=>B a w (Γ.e2 p.m hi)⟩
  have:=DD (id:=id) (sW y H (aG.1 _ _) eR.nil (db.refl st) f (λV t u o j a w hi=>IA ⟨t,u,⟨V,t,gR.refl _,o,j⟩,hi⟩) a w hi)
  exact this
 |.region id ops true,m,M,rr,_=>λaY Γ cv aG d st k r h=>by
  have f:pc n d.pre [] st (λD st=>tb st λst=>match beq ops.toList.length (nk d.qK.2.1)with
   |true=>rP X n T ops.toList d.qK.1 d.qK.2.1 ⟨Array.replicate (nk d.qK.2.1) false,true,true,true,d.SY⟩ [] D [] st λV st'=>pc n d.qK.2.2 V st' λV st'=>k .normal V st'
   |false=>none)=some r:=by cases m<;>exact(wQ st _).symm.trans h
  obtain⟨D,R,G,F,f⟩:=y5 (db.refl st) f;rw[wQ]at f
  split at f
  ·rename_i e
   have ae:=eq_of_beq_eq_true e
   have:=aap (M:=M) (Q:=λe s=>rS X M n st k e s r) (id:=id) (r:=rr) d.qK.1 z ae (wF y (λV st' o j=>by
    obtain⟨V2,O,p,P,K⟩:=y5 o j;exact⟨V2,O,p.m,P,K⟩) eR.nil F f)
   exact y3 G.m (lF (wP this) λe s u ⟨I,J⟩=>J ▸ I)
  ·cases f
 |.seq a b,m,M,rr,v=>λaY Γ cv aG d st k r h=>afj aG (oz y z a m M rr v) (oz y z b m M rr v) (show FJ cv d (λcv d st k=>iX X N n T bI m a cv d st k) (λcv d st k=>iX X N n T bI m b cv d st k) st k=some r by cases m<;>exact h)
 |.cond x a b,m,M,rr,v=>λaY Γ cv aG d st k r h=>by
  have f:(match bz X st.L x with
   |some (g,.c (.val (.bool q)))=>ao g (cond q (iX X N n T bI m a cv d.fst st k) (iX X N n T bI m b cv d.snd st k))
   |_=>none)=some r:=by cases m<;>exact h
  split at f
  ·rename_i g q ai
   obtain⟨E,f⟩:=hf f;exact ae8 ai E (λA=>oz y z a m M rr v _ Γ cv aG _ _ _ _ (Eu A f)) (λA=>oz y z b m M rr v _ Γ cv aG _ _ _ _ (Ev A f))
  ·cases f
 |.block id a,m,M,rr,v=>λaY Γ cv aG d st k r h=>by
  have f:(iX X N n T bI m a cv d.fst st λe V st'=>match e with
   |.exit i=>match beq i id with
    |true=>k .normal V st'
    |false=>k (.exit i) V st'
   |e=>k e V st')=some r:=by cases m<;>exact h
  refine ae9 (lF (oz y z a m M rr v _ Γ cv aG _ _ _ _ f) λe s u ⟨V,t,p,o,j⟩=>?_);cases e with
  |exit i=>
   show match beq i id with|true=>rS X M n st k .normal s u|false=>rS X M n st k (.exit i) s u
   simp only at j
   split at j
   ·exact⟨V,t,p,o,j⟩
   ·exact⟨V,t,p,o,j⟩
  |_=>exact⟨V,t,p,o,j⟩
 |.scope a,m,M,rr,v=>λaY Γ cv aG d st k r h=>by
  have f:(iX X N n T bI m a cv d.fst st λe V st'=>match e with
   |.goto _=>none
   |e=>k e V st')=some r:=by cases m<;>exact h
  refine afb (lF (oz y z a m M rr v _ Γ cv aG _ _ _ _ f) λe s u ⟨V,t,p,o,j⟩=>?_);cases e with
  |goto l=>cases j
  |_=>exact⟨V,t,p,o,j⟩
 |.loop a,m,M,rr,v=>λaY Γ cv aG d st k r h=>afk aG (oz y z a m M rr v) (show FK N cv d (λcv d st k=>iX X N n T bI m a cv d st k) st k=some r by cases m<;>exact(wQ st _).symm.trans h)
 |.rangeFunc g aH C body,m,M,rr,v=>λaY Γ cv aG d st k r h=>by
  have f:BX X n bI m g aH.toList C cv (λcv d st k=>iX X N n T bI false C cv d st k) (λcv d st k=>iX X N n T bI false body cv d st k) d st k=some r:=by cases m<;>exact(wQ st _).symm.trans h
  cases m with
  |false=>
   unfold BX at f
   split at f
   ·cases f
   ·cases f
  |true=>
   obtain⟨I,J⟩:=v rfl;exact afn I J aG (λid=>oz y z C false false (some id) (λh=>by cases h)) (λid=>oz y z body false false (some id) (λh=>by cases h)) f
 |.goto _,m,_,_,_=>λ_ _ _ _ _ _ _ _ h=>by cases m<;>cases h
 |.refuse _,m,_,_,_=>λ_ _ _ _ _ _ _ _ h=>by cases m<;>cases h
structure hn where
 R:lT
 H:List (Nat×fx):=[]
 k:b6:=[]
abbrev hn.ty(R:hn):Type:=AV (R.R.LT (nO R.H []))
def hn.out(R:hn)(a:bC)(r:R.ty):cd×bC:=((R.R.S (nN _ r)).1,(jZ R.H (R.R.S (nN _ r)).2).1++hD R.k a)
def hn.get(R:hn)(a:bC)(V:b6)(H:bC)(sv:cd):Option R.ty:=
 match yR V (ev R.H) H (hD R.k a),qo (ev R.H++ev (hD R.k a))with
 |true,true=>match tS H (ev R.H)with
  |some h=>match vZ (T:=[]) R.H h ()with
   |some u=>match R.R.get sv u with
    |some u=>some (qy _ u)
    |none=>none
   |none=>none
  |none=>none
 |_,_=>none
theorem hn.iK{R:hn}{fy st:aO}{V:b6}{sv:cd}{r:R.ty}(i:db V fy st)(h:R.get fy.H V st.H sv=some r):∃a,qz sv (R.out fy.H r).1/\lp st.H a/\∀env B w H,bJ env B w a H->bJ env B w (R.out fy.H r).2 H:=by
 unfold hn.get at h
 split at h
 ·rename_i l s
  split at h
  ·rename_i g c
   split at h
   ·rename_i u f
    split at h
    ·rename_i d k
     cases h;obtain⟨I,J⟩:=uj f;obtain⟨ag,j⟩:=lT.iK k;have t:∀p∈hD R.k fy.H,bm st.H p.1=some p.2:=λp al=>by
      obtain⟨m,g2,v,g3⟩:=Bu l al;obtain⟨u,b,n⟩:=i.2 p.1 v m g3;rw[(qH al).1]at b;cases b;rw[g3,n (qH al).2]
     refine⟨g++hD R.k fy.H,?_,Fh (x6 c) t (by rw[Bv c];exact s),λenv B w H a=>?_⟩
     ·show qz sv (R.R.S (nN _ (qy _ d))).1
      rw[vY];exact j
     ·show bJ env B w ((jZ R.H (R.R.S (nN _ (qy _ d))).2).1++hD R.k fy.H) H
      rw[vY,ag];obtain⟨H1,H2,e,q,o⟩:=et.iK.bJ.split a;rw[e];exact(J _ _ _ _ q).append o
    ·cases h
   ·cases h
  ·cases h
 ·cases h
def L5(X:bu)(res:List ResultVar)(R:hn)(a:bC):oy R.ty
 |.goto _,_,_=>none
 |.exit _,_,_=>none
 |.panic _,_,_=>none
 |.outgrown,_,_=>none
 |_,V,st=>match oe X st res with
  |some (c,sv)=>ao c (R.get a V st.H sv)
  |none=>none
abbrev rU(A:eH)(c3:List (Nat×fx)):Type:=dm (jY A (nO c3 []))
def hV(A:eH)(c3:List (Nat×fx))(d:rU A c3):dO×bC:=((ix A d).1,(jZ c3 (ix A d).2).1)
def za(X:bu)(N n:Nat)(T:List (bw X))(bI:List (j6 X))(c:Code)(a:fm)(res:List ResultVar)(A:eH)(c3:List (Nat×fx))(R:hn)(d:rU A c3):Option R.ty:=
 iX X N n T bI true c none a ⟨mh 0 (hV A c3 d).1,(hV A c3 d).2⟩ (L5 X res R (hV A c3 d).2)
theorem AC.afs{f:FuncId}{args:dO}{h:bC}{Q d:cd->bC->Prop}(cJ:AC X f args h Q)(j:∀sv a,Q sv a->∃c J b,qz sv c/\lp a b/\(∀env B w H,bJ env B w b H->bJ env B w J H)/\d c J):AC X f args h d:=λB ak env vs H W i bh l b=>by
 refine qc.mono (cJ B ak env vs H W i bh l b) λv w' ⟨env',B',o,H',sv,a,I,J,ag,k,g,e,n,p⟩=>?_
 obtain⟨c,y,z,m,q,s,u⟩:=j sv a I;obtain⟨H2,Y,t,r⟩:=q.D1 e;exact⟨env',B',o,H2,c,y,u,J,ag,k,m _ _ _ _ g,s _ _ _ _ r,(n.perm t).e2 (sublist_append_left _ _),p⟩
theorem Tg(N:Nat)(i:X.a6.ok X.P)(q:X.P.follows .mixedOrders=true){f:FuncId}{fn:Func}{c:Code}{A:eH}{c3:List (Nat×fx)}{R:hn}(T:List (bw X))(bI:List (j6 X))(j:fm){res:List ResultVar}(az:X.P.funcs[f]?=some fn)(ad:fn.body=some c)(aM:fn.ntmps=n)(ae:ble A.length n=true)(bc:ble n iT=true)(l:fn.results=res.toArray){d:rU A c3}{r:R.ty}(h:za X N n T bI c j res A c3 R d=some r):AC X f (hV A c3 d).1 (hV A c3 d).2 (λsv h=>sv=(R.out (hV A c3 d).2 r).1/\h=(R.out (hV A c3 d).2 r).2):=by
 refine AC.afs (afd (Q:=λsv g=>∃a,qz sv (R.out (hV A c3 d).2 r).1/\lp g a/\∀env B w H,bJ env B w a H->bJ env B w (R.out (hV A c3 d).2 r).2 H) i az ad aM (by show ble (ix A d).1.length n=true;rw[y9];exact ae) bc l (D4 (BS λgr L6 v=>oz i q c true true none (λ_=>⟨rfl,rfl⟩) _ _ none l2.none _ _ _ _ (show iX X N n T bI true c none j _ _=some r from h)) λe s ⟨V,b,u,o,a⟩=>?_)) λsv g ⟨a,m,p,t⟩=>⟨_,_,a,m,p,t,rfl,rfl⟩
 have key:(match oe X b res with
  |some (c,sv)=>ao c (R.get (hV A c3 d).2 V b.H sv)
  |none=>none)=some r->∃st',gR X true n s st'/\∃c sv,oe X st' res=some (c,sv)/\c=true/\∃a,qz sv (R.out (hV A c3 d).2 r).1/\lp st'.H a/\∀env B w H,bJ env B w a H->bJ env B w (R.out (hV A c3 d).2 r).2 H:=λaa=>by
  split at aa
  ·rename_i c sv k
   obtain⟨U,aa⟩:=hf aa;exact⟨b,u,c,sv,k,U,hn.iK o aa⟩
  ·cases aa
 cases e with
 |ret=>exact⟨.inl rfl,key a⟩
 |normal=>exact⟨.inr rfl,key a⟩
 |_=>cases a
def Th(N : Nat)(av : X.a6.ok X.P)(hm : X.P.follows .mixedOrders = true){fn : Func}{c : Code}(A : eH)(c3 : List (Nat × fx))(R : hn)(T : List (bw X))(bI : List (j6 X))(bY : fm)(res : List ResultVar)(f : FuncId)(kn : R.ty)(m : rU A c3 → Option R.ty)(az : X.P.funcs[f]? = some fn)(aR : (fn.name == "runtime.NumGoroutine") = false)(ad : fn.body = some c)(aM : fn.ntmps = n)(ae : ble A.length n = true)(bc : ble n iT = true)(aw : fn.results = res.toArray)(h:∀d,za X N n T bI c bY res A c3 R d=m d):bw X:=
 { f:=f,fn:=fn,A:=A,c3:=c3,aY:=R.ty,kn:=kn,m:=m,out:=λd r=>R.out (hV A c3 d).2 r,az:=az,bc:=aR,ad:=by rw[ad];rfl,ok:=λd r he=>Tg N av hm T bI bY az ad aM ae bc aw ((h d).trans he) }
def afv{fn : Func}{c : Code}(A : eH)(c3 : List (Nat × fx))(R : hn)(f : FuncId)(kn : R.ty)(az : X.P.funcs[f]? = some fn)(aR : (fn.name == "runtime.NumGoroutine") = false)(ad : fn.body = some c) : bw X :=
 { f:=f,fn:=fn,A:=A,c3:=c3,aY:=R.ty,kn:=kn,m:=λ_=>none,out:=λd r=>R.out (hV A c3 d).2 r,az:=az,bc:=aR,ad:=by rw[ad];rfl,ok:=λd r he=>by cases he }
def afw(N : Nat)(av : X.a6.ok X.P)(hm : X.P.follows .mixedOrders = true){fn : Func}{c : Code}(A : eH)(c3 : List (Nat × fx))(R : hn)(T : List (bw X))(bI : List (j6 X))(bY : fm)(res : List ResultVar)(f : FuncId)(kn : R.ty)(m dP : rU A c3 → Option R.ty)(heq : ∀ d, m d = dP d)(az : X.P.funcs[f]? = some fn)(aR : (fn.name == "runtime.NumGoroutine") = false)(ad : fn.body = some c)(aM : fn.ntmps = n)(ae : ble A.length n = true)(bc : ble n iT = true)(aw : fn.results = res.toArray)(h:∀d,za X N n T bI c bY res A c3 R d=m d):bw X:=
 { f:=f,fn:=fn,A:=A,c3:=c3,aY:=R.ty,kn:=kn,m:=dP,out:=λd r=>R.out (hV A c3 d).2 r,az:=az,bc:=aR,ad:=by rw[ad];rfl,ok:=λd r he=>Tg N av hm T bI bY az ad aM ae bc aw ((h d).trans ((heq d).trans he)) }
def b2(N : Nat)(av : X.a6.ok X.P){fn : Func}{c : Code}{f : FuncId}(A : eH)(c3 : List (Nat × fx))(R : hn)(T : List (bw X))(bI : List (j6 X))(bY : fm)(res : List ResultVar)(kn : R.ty)(m : rU A c3 → Option R.ty)(az : X.P.funcs[f]? = some fn)(aM : fn.ntmps = n)(hm : X.P.follows .mixedOrders = true := by kernel_rfl)(aR : (fn.name == "runtime.NumGoroutine") = false := by rfl)(ad : fn.body = some c := by rfl)(ae : ble A.length n = true := by rfl)(bc : ble n iT = true := by rfl)(aw : fn.results = res.toArray := by rfl)(h:∀d,za X N n T bI c bY res A c3 R d=m d:=by intro d;kernel_rfl):bw X:=Th N av hm A c3 R T bI bY res f kn m az aR ad aM ae bc aw h
def ns(N : Nat)(av : X.a6.ok X.P){fn : Func}{c : Code}{f : FuncId}(A : eH)(c3 : List (Nat × fx))(R : hn)(T : List (bw X))(bI : List (j6 X))(bY : fm)(res : List ResultVar)(kn : R.ty)(m dP : rU A c3 → Option R.ty)(heq : ∀ d, m d = dP d)(az : X.P.funcs[f]? = some fn)(aM : fn.ntmps = n)(hm : X.P.follows .mixedOrders = true := by kernel_rfl)(aR : (fn.name == "runtime.NumGoroutine") = false := by rfl)(ad : fn.body = some c := by rfl)(ae : ble A.length n = true := by rfl)(bc : ble n iT = true := by rfl)(aw : fn.results = res.toArray := by rfl)(h:∀d,za X N n T bI c bY res A c3 R d=m d:=by intro d;kernel_rfl):bw X:=afw N av hm A c3 R T bI bY res f kn m dP heq az aR ad aM ae bc aw h
end
end
theorem L7{b aY:Type}{step:b->(b->Option aY)->Option aY}(bb:Nat->b->Prop)(post:aY->Prop)(h:∀k d rec,bb k d->(∀k' a,k'<k->bb k' a->∃r,rec a=some r/\post r)->∃r,step d rec=some r/\post r):∀n k d,k<n->bb k d->∃r,b3 step n d=some r/\post r
 |0,_,_,aa,_=>by omega
 |n+1,k,d,aa,e=>h k d _ e λk' a f c=>L7 bb post h n k' a (by omega) c
theorem dK{b aY:Type}{step:b->(b->Option aY)->Option aY}(bb:Nat->b->Prop)(r:aY)(h:∀k d rec,bb k d->(∀k' a,k'<k->bb k' a->rec a=some r)->step d rec=some r)(n k:Nat)(d:b)(aa:k<n)(c:bb k d):b3 step n d=some r:=by
 obtain⟨i,I,rfl⟩:=L7 bb (λx=>x=r) (λk d rec c f=>⟨r,h k d rec c (λk' a g e=>by obtain⟨_,I,rfl⟩:=f k' a g e;exact I),rfl⟩) n k d aa c;exact I
theorem jI{α:Type}{c:Bool}{x:Option α}(h:c=true):ao c x=x:=by rw[h];rfl
def nU{α β:Type}(f:α->β)(z:β)(l:List α)(m:Nat):List β:=(l.take m).map f++replicate (l.length-m) z
theorem Ti{α β:Type}(f:α->β)(z:β)(l:List α):nU f z l 0=replicate l.length z:=by simp[nU]
theorem Tj{α β:Type}(f:α->β)(z:β)(l:List α):nU f z l l.length=l.map f:=by simp[nU]
theorem Tk{α β:Type}(f:α->β)(z:β)(l:List α)(m:Nat)(h:m<=l.length):(nU f z l m).length=l.length:=by simp[nU];omega
theorem L8{α β:Type}(f:α->β)(z:β)(l:List α)(m:Nat)(h:m<l.length)(x:α)(ai:l[m]?=some x):(nU f z l m).set m (f x)=nU f z l (m+1):=by
 obtain⟨c,rfl⟩:=List.getElem?_eq_some_iff.1 ai
 apply List.ext_getElem?
 intro i;simp only[nU,List.getElem?_set,List.getElem?_append,List.length_map,length_take,List.getElem?_map,List.getElem?_take,List.getElem?_replicate,length_append,List.length_replicate]
 by_cases I:m=i
 ·subst I
  have a:min m l.length+(l.length-m)=l.length:=by omega
  have b:m<min (m+1) l.length:=by omega
  simp[a,h,b]
 ·by_cases J:i<m
  ·simp[I,show i<min m l.length by omega,show i<min (m+1) l.length by omega,J,show i<m+1 by omega]
  ·simp only[if_neg I,if_neg (show ¬i<min m l.length by omega),if_neg (show ¬i<min (m+1) l.length by omega)]
   by_cases ag:i<l.length
   ·rw[if_pos (by omega),if_pos (by omega)]
   ·rw[if_neg (by omega),if_neg (by omega)]
theorem B1{x:Int}(I:-9223372036854775808<=x)(J:x<=9223372036854775807):bl x=true:=by
 exact DL.2 ⟨I,J⟩
theorem bS{α:Type}{l:List α}{m:Nat}{x z:α}(h:l[m]?=some x):l.getD m z=x:=by
 rw[getD_eq_getElem?_getD,h];rfl
theorem FQ{x:Int}(I:0<=x)(J:x<=255):IntKind.wrap .u8 x=x:=by
 simp[IntKind.wrap,IntKind.bits,IntKind.signed]
 omega
theorem qL{α:Type}{l:List α}{j:Nat}{x:α}(h:l[j]?=some x):l.set j x=l:=by
 obtain⟨I,J⟩:=List.getElem?_eq_some_iff.1 h;rw[<- J];exact List.set_getElem_self I
def T{α:Type}(x:Option α)(P:α->Prop):Prop:=∃r,x=some r/\P r
theorem td{α:Type}{r:α}{P:α->Prop}:T (some r) P↔P r:=
 ⟨λ⟨_,h,al⟩=>by cases h;exact al,λh=>⟨r,rfl,h⟩⟩
theorem Tl{α:Type}{c:Bool}{k:Option α}{P:α->Prop}:T (ao c k) P↔c=true/\T k P:=by
 cases c
 ·exact⟨λ⟨_,h,_⟩=>(by cases h),λh=>by cases h.1⟩
 ·exact⟨λh=>⟨rfl,h⟩,λh=>h.2⟩
theorem B2{α β:Type}{x:Option α}{f:α->Option β}{P:β->Prop}:T (Option.bind x f) P↔T x λr=>T (f r) P:=by
 cases x with
 |none=>exact⟨λ⟨_,h,_⟩=>(by cases h),λ⟨_,h,_⟩=>by cases h⟩
 |some a=>exact⟨λh=>⟨a,rfl,h⟩,λ⟨_,h,al⟩=>by cases h;exact al⟩
theorem uD{α:Type}{b:Bool}{x y:Option α}{P:α->Prop}:T (cond b x y) P↔(b=true->T x P)/\(b=false->T y P):=by
 cases b
 ·exact⟨λh=>⟨λe=>(by cases e),λ_=>h⟩,λh=>h.2 rfl⟩
 ·exact⟨λh=>⟨λ_=>h,λe=>by cases e⟩,λh=>h.1 rfl⟩
theorem afx{α β b:Type}{a:α}{f:α->Option b}{g:β->Option b}{P:b->Prop}:T (sm (.inl a) f g) P↔T (f a) P:=Iff.intro id id
theorem afy{α β a:Type}{b:β}{f:α->Option a}{g:β->Option a}{P:a->Prop}:T (sm (.inr b) f g) P↔T (g b) P:=Iff.intro id id
theorem T.mono{α:Type}{x:Option α}{P Q:α->Prop}(h:T x P)(a:∀r,P r->Q r):T x Q:=by
 obtain⟨r,I,J⟩:=h;exact⟨r,I,a r J⟩
theorem T.of{α:Type}{x:Option α}{r:α}(h:x=some r){P:α->Prop}(al:P r):T x P:=⟨r,h,al⟩
theorem T.eq{α:Type}{x:Option α}{r:α}(h:T x (·=r)):x=some r:=by
 obtain⟨_,I,J⟩:=h;rw[I,J]
theorem aT{α:Type}{x:Option α}{r:α}(h:x=some r){P:α->Prop}:T x P↔P r:=by rw[h];exact td
theorem mG{a aY:Type}{step:a->(a->Option aY)->Option aY}(bb:Nat->a->Prop)(post:aY->Prop)(h:∀k d rec,bb k d->(∀k' b,k'<k->bb k' b->T (rec b) post)->T (step d rec) post)(n k:Nat)(d:a)(aa:k<n)(c:bb k d):T (b3 step n d) post:=L7 bb post h n k d aa c
theorem afz{z:Int}{n:Nat}:a8 z n=true↔0<=z/\z<(n:Int):=by unfold a8;rw[Bool.and_eq_true,decide_eq_true_eq,decide_eq_true_eq]
theorem afA{b k:Nat}:dx b k=true↔k * b<=140737488355328/\k<=140737488355328:=by unfold dx;rw[Bool.and_eq_true,decide_eq_true_eq,decide_eq_true_eq]
theorem Tm{b:Nat}{z:Int}:eT b z=true↔b * z.toNat<=140737488355328/\z.toNat<=140737488355328:=by unfold eT;rw[Bool.and_eq_true,ble_eq,ble_eq]
theorem afB{a b:Bool}:ez a b=true↔(a=true->b=true):=by cases a<;>cases b<;>decide
theorem afC{a b:Bool}:cond a true b=true↔a=true\/b=true:=by cases a<;>cases b<;>decide
theorem afD{a b:Bool}:cond a true b=false↔a=false/\b=false:=by cases a<;>cases b<;>decide
theorem afE{a b:Bool}:cond a b false=true↔a=true/\b=true:=by cases a<;>cases b<;>decide
theorem L9{a b:Bool}:cond a b false=false↔a=false\/b=false:=by cases a<;>cases b<;>decide
theorem Ma{a:Bool}:(!a)=true↔a=false:=by cases a<;>decide
theorem Mb{a:Bool}:(!a)=false↔a=true:=by cases a<;>decide
theorem afF{a b:Nat}:beq a b=true↔a=b:=by rw[Nat.beq_eq]
theorem aJ:(∀ {α:Type} {r:α} {P:α->Prop},T (some r) P↔P r)/\(∀ {α:Type} {c:Bool} {k:Option α} {P:α->Prop},T (ao c k) P↔c=true/\T k P) /\
  (∀ {α β:Type} {x:Option α} {f:α->Option β} {P:β->Prop},T (Option.bind x f) P↔T x λr=>T (f r) P) /\
  (∀ {α:Type} {b:Bool} {x y:Option α} {P:α->Prop},T (cond b x y) P↔(b=true->T x P)/\(b=false->T y P)) /\
  (∀ {α β d:Type} {a:α} {f:α->Option d} {g:β->Option d} {P:d->Prop},T (sm (.inl a) f g) P↔T (f a) P) /\
  (∀ {α β d:Type} {b:β} {f:α->Option d} {g:β->Option d} {P:d->Prop},T (sm (.inr b) f g) P↔T (g b) P) /\
  (∀ {z:Int} {n:Nat},a8 z n=true↔0<=z/\z<(n:Int))/\(∀ {x:Int},bl x=true ↔ -9223372036854775808<=x/\x<=9223372036854775807) /\
  (∀ {b k:Nat},dx b k=true↔k * b<=140737488355328/\k<=140737488355328)/\(∀ {b:Nat} {z:Int},eT b z=true↔b * z.toNat<=140737488355328/\z.toNat<=140737488355328) /\
  (∀ {a b:Bool},ez a b=true↔(a=true->b=true))/\(∀ {a b:Bool},cond a true b=true↔a=true\/b=true)/\(∀ {a b:Bool},cond a true b=false↔a=false/\b=false) /\
  (∀ {a b:Bool},cond a b false=true↔a=true/\b=true)/\(∀ {a b:Bool},cond a b false=false↔a=false\/b=false) /\
  (∀ {a:Bool},(!a)=true↔a=false)/\(∀ {a:Bool},(!a)=false↔a=true)/\(∀ {a b:Nat},beq a b=true↔a=b) /\
  (∀ {p:Prop} [Decidable p],decide p=true↔p)/\(∀ {p:Prop} [Decidable p],decide p=false ↔ ¬p)/\(∀ {a b:Bool},(a&&b)=true↔a=true/\b=true)/\(∀ {a b:Bool},(a || b)=true↔a=true\/b=true)/\(∀ {a b:Bool},(a&&b)=false↔a=false\/b=false) /\
  (∀ {n:Nat},(n:Int).toNat=n)/\(∀ {p:Prop},(True/\p)↔p)/\(∀ {p:Prop},(p/\True)↔p)/\(∀ {p:Prop},(True->p)↔p)/\(∀ {p:Prop},(False->p)↔True)/\(∀ {p:Prop},(p->True)↔True) /\
  ((¬True)↔False)/\((¬False)↔True)/\(∀ {p:Prop},(True\/p)↔True)/\(∀ {p:Prop},(p\/True)↔True)/\(∀ {p:Prop},(False\/p)↔p)/\(∀ {p:Prop},(p\/False)↔p)/\(∀ {p:Prop},(False/\p)↔False)/\(∀ {p:Prop},(p/\False)↔False) /\
  (∀ {b:Bool},(true&&b)=b)/\(∀ {b:Bool},(false&&b)=false)/\(∀ {b:Bool},(b&&true)=b)/\(∀ {b:Bool},(b&&false)=false)/\((!true)=false)/\((!false)=true)/\(decide True=true)/\(decide False=false):=
 ⟨td,Tl,B2,uD,afx,afy,afz,DL,afA,Tm,afB,afC,afD,afE,L9,Ma,Mb,afF,decide_eq_true_iff,decide_eq_false_iff_not,Bool.and_eq_true_iff,Bool.or_eq_true_iff,Bool.and_eq_false_iff,
  Int.toNat_natCast _,by simp,by simp,by simp,by simp,by simp,by simp,by simp,by simp,by simp,by simp,by simp,by simp,by simp,by simp,by simp,by simp,by simp,rfl,rfl,by simp,by simp⟩
theorem cK:(∀ {α:Type} {a b:List α},(a++b).length=a.length+b.length)/\(∀ {α:Type} {a:α} {b:List α},(a::b).length=b.length+1)/\(∀ {α:Type},([]:List α).length=0):=
 ⟨length_append,length_cons,length_nil⟩
section
abbrev Mc:a7:=.pair (.int .u8) (.int .u8)
abbrev FR:Type:=Int×Int
abbrev aN:a7:=.pair (.int .u8) (.int .i64)
abbrev ab:Type:=Int×Int
abbrev b9:=List ab
abbrev bQ:=List b9
abbrev j7:a7:=.pair (.int .u8) Mc
abbrev B3:Type:=Int×FR
abbrev eC:a7:=.pair .bool (.pair .bool (.pair .bool .bool))
abbrev Tn:Type:=Bool×(Bool×(Bool×Bool))
abbrev dQ:a7:=.pair (.int .u8) (.ax aN)
abbrev dL:Type:=Int×b9
abbrev en:=List dL
abbrev c4:a7:=.pair aN (.pair .bool (.int .u8))
abbrev cn:Type:=ab×(Bool×Int)
abbrev dz:=List cn
abbrev hv:a7:=.pair aN aN
abbrev eW:Type:=ab×ab
abbrev afG:a7:=.pair (.ax aN) (.ax aN)
abbrev afH:Type:=b9×b9
abbrev FT:a7:=.pair (.int .u8) (.pair (.int .u8) (.pair (.int .i64) (.pair (.int .i64) .bool)))
abbrev lG:Type:=Int×(Int×(Int×(Int×Bool)))
abbrev cp:a7:=.pair aN (.pair aN (.int .i64))
abbrev bT:Type:=ab×(ab×Int)
abbrev dd:=List bT
abbrev fI:a7:=.pair (.ax (.ax aN)) (.ax (.ax aN))
abbrev hL:Type:=bQ×bQ
abbrev uE:a7:=.pair (.int .i64) (.pair .bool (.ax c4))
abbrev Md:Type:=Int×(Bool×dz)
abbrev dM:a7:=.pair (.int .u8) (.pair (.int .u8) hv)
abbrev cg:Type:=Int×(Int×eW)
abbrev dA:=List cg
abbrev bH:a7:=.pair .bool (.pair (.int .i64) uE)
abbrev bd:Type:=Bool×(Int×Md)
abbrev cA:=List bd
abbrev bV:a7:=.pair (.int .u8) (.pair .bool (.pair (.ax aN) (.ax c4)))
abbrev aZ:Type:=Int×(Bool×(b9×dz))
abbrev dh:=List aZ
abbrev ch:=List dh
abbrev nV:a7:=.pair (.ax (.ax bV)) (.pair (.ax cp) afG)
abbrev j8:Type:=ch×(dd×afH)
abbrev rW:a7:=.pair (.ax dQ) (.pair (.ax bH) (.pair nV (.int .u8)))
abbrev nt:Type:=en×(cA×(j8×Int))
abbrev nW:a7:=.pair (.int .i64) (.pair fI (.pair (.ax bH) nV))
abbrev kN:Type:=Int×(hL×(cA×j8))
end
section
theorem bK.To{X:bu}{gr C o y B':Nat->Prop}{t ak w f:World}{n:Nat}{aq:b6}{env:Nat->Loc}{H:c2}{st:aO}{a:Act}(h:bK X (λk=>gr k\/C k) t ⟨y,λ_ _=>False,[]⟩ n aq env B' ak H st a w)(j:Grow B' C o w f)(cJ:∀k,o k->k<f.heap.size){d:Nat}(ay:blt d n=true)(v:Value) :
  bK X (λk=>gr k\/o k) f ⟨B',λ_ _=>False,[]⟩ n aq env B' f H ⟨(d,.c (.val v))::st.L,st.H⟩ (a.put (some d) v) f:=by
 have l:=h.cf.put d v (ef ay);have q:∀k,(gr k\/C k)\/B' k->k<w.heap.size:=λk aa=>h.aU.base k aa
 have B:∀k,B' k->f.heap[k]?=w.heap[k]?:=λk aa=>j.ee.block k (.inl aa)
 have p:gm B' ak B' f:=⟨λ_ h=>h,λk aa=>(B k aa).trans (h.aU.below.block k (.inr aa))⟩
 have z:∀b,b<w.heap.size->¬((gr b\/C b)\/B' b)->¬(gr b\/o b):=λb ad bc aw=>by
  rcases aw with aw|aw
  ·exact bc (.inl (.inl aw))
  ·rcases j.new b aw with I|I|I
   ·exact bc (.inl (.inr I))
   ·omega
   ·exact bc (.inr I)
 refine⟨l.size,l.defs,λs sv m=>?_,h.heap.up p,⟨c9.refl _ _,λk aa=>?_,λc U=>?_,h.aU.apart⟩,λ_ h=>h,λ_ h=>.inl h,λ_ _ h=>h.elim,c9.refl _ _,λi x ai=>(h.eg i x ai).up p⟩
 ·rw[cI]at m
  split at m
  ·rename_i e;subst e;cases m;exact⟨v,l.this,rfl⟩
  ·rename_i e
   obtain⟨u,I,J⟩:=h.has s sv m;exact⟨u,l.other e I,J.up p⟩
 ·rcases aa with(aa|aa)|aa
  ·exact lt_of_lt_of_le (q k (.inl (.inl aa))) j.ee.size
  ·exact cJ k aa
  ·exact lt_of_lt_of_le (q k (.inr aa)) j.ee.size
 ·have g:=h.aU.ok c U
  have A:=g.ee (w':=f) λb ad=>j.ee.block b (.inr ⟨(g.lt ad).2,λr=>(g.lt ad).1 (.inl (.inr r))⟩)
  exact A.base λb ad aw=>by
   rcases aw with aw|aw
   ·exact z b (g.lt ad).2 (g.lt ad).1 aw
   ·exact(g.lt ad).1 (.inr aw)
section
variable {X:bu} {n:Nat} {α:Type}
def gh.it(gr:Nat->Prop)(j:List α->(Nat->Prop)->(Nat->Prop)->World->Prop)(l:Unit->(Nat->Prop)->World->Prop):gh X true n none (List α) where
 In r st a w:=∃C b c,(j r C c b\/(r=[]/\l () C b))/\mQ X (λk=>gr k\/C k) b ⟨c,λ_ _=>False,[]⟩ true n st a w
 frame h hi:=by
  obtain⟨C,b,c,I,ag⟩:=hi;exact wpIn_mono (h _ _ _ _ _ ag) λ_ _ _ ⟨s,f,e⟩=>⟨s,f,C,b,c,I,e⟩
 step h hi KK b4:=by
  obtain⟨C,b,c,I,aq,env,B',ak,H,d,ah⟩:=hi;exact h _ _ _ _ _ _ _ _ _ _ ah _ λaX w' env' B' i H' g=>b4 _ _ ⟨C,b,c,I,aq,env',B',i,H',d,g⟩
 e2 h hi:=by
  obtain⟨C,b,c,I,ag⟩:=hi;exact⟨C,b,c,I,h _ _ _ _ _ ag⟩
 y2 hi:=by
  obtain⟨C,b,c,I,aq,env,B',ak,H,d,ah⟩:=hi;exact⟨_,_,_,_,_,_,_,_,ah⟩
def uF{α:Type}(b:Bool)(x:α)(f t:Option (List α)):Option (List α):=match b,f,t with
 |true,some [],some l=>some (x::l)
 |_,_,_=>none
def wV(E:eH)(id l:Nat)(args:dO)(f t:Option (List (dm (jY E [])))):Option (List (dm (jY E []))):=match mw args,yv (T:=[]) E args ()with
 |true,some x=>uF (beq l id) x f t
 |_,_=>none
theorem YieldAt.zero{P:Program}{l:Nat}{args:Array Value}{W:World}{R:Ending->World->Prop}(h:YieldAt Fence.wide 1 P l args W R):YieldAt Fence.wide 0 P l args W R:=by
 obtain⟨fn,tmps,assign,body,I,J,ag⟩:=h;exact⟨fn,tmps,assign,body,I,J,λc cs _=>ag c cs (room_wide _)⟩
theorem Tp{sv:Option cd}{l:Nat}(h:Bl sv=some l):sv=some (.a (.c (.val (.func (.yield l) #[] #[])))):=by
 unfold Bl at h
 split at h
 ·cases h;rfl
 ·cases h
theorem dw.no{env:Nat->Loc}{B:Nat->Prop}{w:World}:∀ {xs:dO} {vs:cl},mw xs=true->dw env B w xs vs->dw (λ_=>.no) B w xs vs
 |[],_,_,h=>h
 |.c x::xs,_,az,⟨v,r,e,I,J⟩=>by
  unfold mw at az
  split at az
  ·rename_i ai
   refine⟨v,r,e,?_,dw.no az J⟩;have a:x.free=true:=ai;cases x with
   |fn f cs=>
    obtain⟨vs,e,al⟩:=I;exact⟨vs,e,al.JN a⟩
   |_=>first|exact I|cases a
  ·cases az
 |.agg cs::xs,_,az,⟨v,r,e,⟨vs,b,I⟩,J⟩=>by
  unfold mw at az
  split at az
  ·rename_i ai
   refine⟨v,r,e,⟨vs,b,?_⟩,dw.no az J⟩;have a:sQ cs=true:=ai
   clear ai e b J
   induction cs generalizing vs with
   |nil=>exact I
   |cons x cs i=>
    obtain⟨v,r,e,ag,d⟩:=I;unfold sQ at a
    split at a
    ·rename_i c
     refine⟨v,r,e,?_,i _ d a⟩;cases x with
     |fn f cs=>
      obtain⟨vs,e,al⟩:=ag;exact⟨vs,e,al.JN c⟩
     |_=>first|exact ag|cases c
    ·cases a
  ·cases az
 |.arr g l::xs,_,az,⟨v,r,e,I,J⟩=>by
  unfold mw at az
  split at az
  ·exact⟨v,r,e,I,dw.no az J⟩
  ·cases az
structure Cons(X:bu)(E:eH)(id:Nat)(eY:List (dm (jY E []))->(Nat->Prop)->(Nat->Prop)->World->Prop)(hl:Unit->(Nat->Prop)->World->Prop):Prop where
 zb:BF eY
 fG:BE hl
 lt:∀r C b8 W,eY r C b8 W->∀k,C k->k<W.heap.size
 Tq:∀r C W,hl r C W->∀k,C k->k<W.heap.size
 take:∀x rest C b8 dt b1 vs,eY (x::rest) C b8 b1->wG C b8 dt b1->dw (λ_=>.no) dt b1 (ix E x).1 vs->YieldAt Fence.wide 1 X.P id vs.toArray b1 λe dp=>
   (e=.returned (.bool true)/\∃cW,eY rest cW dt dp/\Grow dt C cW b1 dp)\/(e=.returned (.bool false)/\∃cW,hl () cW dp/\Grow dt C cW b1 dp)
end
end
section
theorem bK.Tr{X:bu}{gr C o z r B':Nat->Prop}{p:Nat->Loc->Prop}{A ak w f:World}{n:Nat}{aq:b6}{env:Nat->Loc}{H:c2}{st:aO}{a:Act}(h:bK X (λk=>gr k\/C k) A ⟨z,p,[]⟩ n aq env B' ak H st a w)(j:Grow B' C o w f)(cJ:∀k,o k->k<f.heap.size)(ad:∀k,r k↔B' k){d:Nat}(ay:blt d n=true)(v:Value) :
  bK X (λk=>gr k\/o k) f ⟨r,p,[]⟩ n aq env B' f H ⟨(d,.c (.val v))::st.L,st.H⟩ (a.put (some d) v) f:=by
 have l:=h.cf.put d v (ef ay);have t:∀k,(gr k\/C k)\/B' k->k<w.heap.size:=λk aa=>h.aU.base k aa
 have E:∀k,B' k->f.heap[k]?=w.heap[k]?:=λk aa=>j.ee.block k (.inl aa)
 have q:gm B' ak B' f:=⟨λ_ h=>h,λk aa=>(E k aa).trans (h.aU.below.block k (.inr aa))⟩
 have B:∀b,b<w.heap.size->¬((gr b\/C b)\/B' b)->¬(gr b\/o b):=λb ad bc aw=>by
  rcases aw with aw|aw
  ·exact bc (.inl (.inl aw))
  ·rcases j.new b aw with I|I|I
   ·exact bc (.inl (.inr I))
   ·omega
   ·exact bc (.inr I)
 refine⟨l.size,l.defs,λs sv m=>?_,h.heap.up q,⟨c9.refl _ _,λk aa=>?_,λc U=>?_,h.aU.apart⟩,λk aa=>(ad k).1 aa,λk aa=>.inl ((ad k).2 aa),h.dr,c9.refl _ _,λi x ai=>(h.eg i x ai).up q⟩
 ·rw[cI]at m
  split at m
  ·rename_i e;subst e;cases m;exact⟨v,l.this,rfl⟩
  ·rename_i e
   obtain⟨u,I,J⟩:=h.has s sv m;exact⟨u,l.other e I,J.up q⟩
 ·rcases aa with(aa|aa)|aa
  ·exact lt_of_lt_of_le (t k (.inl (.inl aa))) j.ee.size
  ·exact cJ k aa
  ·exact lt_of_lt_of_le (t k (.inr aa)) j.ee.size
 ·have g:=h.aU.ok c U
  have D:=g.ee (w':=f) λb ad=>j.ee.block b (.inr ⟨(g.lt ad).2,λy=>(g.lt ad).1 (.inl (.inr y))⟩)
  exact D.base λb ad aw=>by
   rcases aw with aw|aw
   ·exact B b (g.lt ad).2 (g.lt ad).1 aw
   ·exact(g.lt ad).1 (.inr aw)
section
variable {X:bu} {M:Bool} {n:Nat} {rr:Option Nat} {α:Type}
structure Mf where
 gr:Nat->Prop
 gg:Nat->Prop
 oM:Nat->Prop
 jv:Nat->Prop
 L6:World
 p:Nat->Loc->Prop
structure Mg(D:Mf)(C b8:Nat->Prop)(b1:World):Prop where
 x3:∀k,D.gg k->b8 k\/(¬C k/\sw b1 k)
 wW:c9 (λk=>(D.gr k/\¬D.jv k)\/D.gg k) D.L6 b1
 FU:∀k,D.gr k->¬D.jv k->C k->D.gg k
 Mh:∀k,D.gr k->b8 k->D.gg k
 Mi:∀k,D.oM k->b8 k
 Mj:∀k,D.gg k->D.gr k
def gh.Mk(D:Mf)(j:List α->(Nat->Prop)->(Nat->Prop)->World->Prop)(l:Unit->(Nat->Prop)->World->Prop):gh X M n rr (List α) where
 In r st a w:=∃C b c,(j r C c b\/(r=[]/\l () C b))/\Mg D C c b/\mQ X (λk=>D.gr k\/C k) b ⟨λk=>c k\/D.gg k,D.p,[]⟩ M n st a w
 frame h hi:=by
  obtain⟨C,b,c,I,J,ag⟩:=hi;exact wpIn_mono (h _ _ _ _ _ ag) λ_ _ _ ⟨s,f,e⟩=>⟨s,f,C,b,c,I,J,e⟩
 step h hi KK b4:=by
  obtain⟨C,b,c,I,J,aq,env,B',ak,H,d,ah⟩:=hi;exact h _ _ _ _ _ _ _ _ _ _ ah _ λaX w' env' B' i H' g=>b4 _ _ ⟨C,b,c,I,J,aq,env',B',i,H',d,g⟩
 e2 h hi:=by
  obtain⟨C,b,c,I,J,ag⟩:=hi;exact⟨C,b,c,I,J,h _ _ _ _ _ ag⟩
 y2 hi:=by
  obtain⟨C,b,c,I,J,aq,env,B',ak,H,d,ah⟩:=hi;exact⟨_,_,_,_,_,_,_,_,ah⟩
theorem afJ(az:X.a6.ok X.P){E:eH}{id:Nat}{D:Mf}{G:List (dm (jY E []))->(Nat->Prop)->(Nat->Prop)->World->Prop}{K:Unit->(Nat->Prop)->World->Prop}(U:Cons X E id G K):y7 (Γ:=gh.Mk (X:=X) (M:=M) (n:=n) (rr:=rr) D G K) (some (wV E id)):=by
 rintro ops Q em P l args f t r p;cases P;unfold wV at p
 split at p
 ·rename_i x au ap
  unfold uF at p
  split at p
  ·rename_i aB ae
   cases p;have av:=eq_of_beq_eq_true ae;subst av;refine⟨_,_,rfl,rfl,?_⟩;intro o rest st d s us aA c A B ay aG O ao S T a w hi;obtain⟨C,ad,af,u,i,aq,env,B',ak,H,v,ah⟩:=hi
   rcases u with u|⟨u,_⟩
   ·obtain⟨vs,I,J⟩:=vJ ah O ao
    obtain⟨gb,ag,ac⟩:=ah.has _ _ (Tp aG);rw[show gb=_ from ac]at ag;have al:gm B' ak B' w:=⟨λ_ h=>h,λk aa=>ah.aU.below.block k (.inr aa)⟩
    have Z:=(yw ap).2;have aw:=Z _ _ _ _ (dw.no au (J.up al));have g:c9 (λk=>D.gr k\/C k) ad w:=⟨(ah.aU.below.os).trans ah.base.os,(ah.aU.below.tape).trans ah.base.tape,(ah.aU.below.output).trans ah.base.output,le_trans ah.base.size ah.aU.below.size,λk aa=>(ah.aU.below.block k (.inl aa)).trans (ah.base.block k aa)⟩
    have ax:=U.zb _ _ _ _ _ u ⟨g.os,g.tape,g.output,g.size,λk aa=>g.block k (.inr aa)⟩;have ar:wG C af B' w:=⟨λk aa=>ah.sub k (.inl aa),λk aa=>by
     rcases ah.new k aa with(aD|aD)|⟨aD,j⟩
     ·exact .inl aD
     ·exact(i.x3 k aD).imp_right λj=>⟨j.1,j.2.ee (g.block k (.inl (i.Mj k aD)))⟩
     ·exact .inr ⟨λh=>aD (.inr h),j.ee (ah.aU.below.block k (.inr aa))⟩⟩
    obtain⟨fn,tmps,assign,body,V,W⟩:=YieldAt.zero (U.take _ _ _ _ _ _ _ ax ar aw);have an:=B.1 ah;show(if Region.wanted o (yielded ops.toArray a.tmps)then _ else _);rw[if_pos an];refine⟨λ_ _=>trivial,?_⟩;have aj:(execOp a.eval o).run X.P w=.ok (.round l fn tmps assign body) w:=by
     have Y:=ah.cf.aI (x:=.tmp s) (im ag);have ai:=QD ah.cf I;simp only[execOp,A,resolve,Y]
     simp[Deferred.ofValue,invoke,ai,V,go_sem]
    have z:∀k,D.gr k->B' k->D.gg k:=λk aD j=>by
     rcases ah.new k j with(ca|ca)|⟨ca,_⟩
     ·exact i.Mh k aD ca
     ·exact ca
     ·exact absurd (.inl aD) ca
    have L:∀ {q:Nat->Prop} {m:World},Grow B' C q w m->Mg D q B' m:=λ{q m} b=>by
     refine⟨λk aa=>.inl (ah.sub k (.inr aa)),?_,λk aD j ca=>?_,z,λk aa=>ah.sub k (.inl (i.Mi k aa)),i.Mj⟩
     ·refine i.wW.trans ⟨b.ee.os.trans g.os,b.ee.tape.trans g.tape,b.ee.output.trans g.output,le_trans g.size b.ee.size,λk aa=>?_⟩
      have F:=aa.elim (λh=>h.1) (i.Mj k);refine(b.ee.block k ?_).trans (g.block k (.inl F))
      rcases aa with aa|aa
      ·by_cases N:C k
       ·exact .inl (ah.sub k (.inr (i.FU k aa.1 aa.2 N)))
       ·exact .inr ⟨ah.aU.base k (.inl (.inl F)),N⟩
      ·exact .inl (ah.sub k (.inr aa))
     ·rcases b.new k ca with di|di|di
      ·exact i.FU k aD j di
      ·have:=ah.aU.base k (.inl (.inl aD))
       omega
      ·exact z k aD di
    have y:∀k,(B' k\/D.gg k)↔B' k:=λk=>⟨λh=>h.elim id λh=>ah.sub k (.inr h),.inl⟩
    rw[Oper.semAt_eq _ _ _ (λc h=>by rw[A]at h;cases h),aj];have am:∀ {R:Ending->World->Prop},RoundIn Fence.wide 0 X.P l fn tmps assign body w R->RoundIn (WF rr) 0 X.P l fn tmps assign body w R:=λh=>by cases rr<;>exact h
    refine⟨(λh=>by cases rr<;>cases h),RoundIn.mono (am W) ?_⟩;intro e m ab;rw[B.2]
    rcases ab with⟨rfl,q,qN,b⟩|⟨rfl,q,qN,b⟩
    ·exact T _ _ ⟨q,m,B',.inl qN,L b,aq,env,B',m,H,⟨v.1,v.2⟩,bK.Tr ah b (U.lt _ _ _ _ qN) y ay _⟩
    ·exact S _ _ ⟨q,m,B',.inr ⟨rfl,qN⟩,L b,aq,env,B',m,H,⟨v.1,v.2⟩,bK.Tr ah b (U.Tq _ _ _ qN) y ay _⟩
   ·cases u
  ·cases p
 ·cases p
end
end
theorem bK.Tu{X:bu}{R c b b':Nat->Prop}{p:Nat->Loc->Prop}{d:List Deferred}{W:World}{n:Nat}{aq:b6}{env:Nat->Loc}{B:Nat->Prop}{ak:World}{H:c2}{st:aO}{a:Act}{w:World}(h:bK X R W ⟨b,p,d⟩ n aq env B ak H st a w)(g:∀k,R k↔c k)(ad:∀k,b k↔b' k):bK X c W ⟨b',p,d⟩ n aq env B ak H st a w:=by
 have e:=funext λk=>propext (g k)
 have f:=funext λk=>propext (ad k)
 subst e f;exact h
theorem afK{α β hK:Type}{X:bu}{n:Nat}{st:aO}{Q:Exit->aO->List hK->Prop}{g:Operand}{pl:b6}{assign body:Code}{ig:FuncId}{fn:Func}{gH:ep}{lY:α->dO}{l:List α}{b:Bool}{ms:List (Nat×Nat)}{al fq:bC}{gr:Nat->Prop}{eY:List hK->(Nat->Prop)->(Nat->Prop)->World->Prop}{hl:Unit->(Nat->Prop)->World->Prop}(zb:BF eY)(fG:BE hl){fD:List hK}(aR : bz X st.L g = some (b, .c (.fn ig gH)))(ad : b = true)(gC : X.P.funcs[ig]? = some fn)(ox : (fn.name == "runtime.NumGoroutine") = false)(pb : fn.body.isNone = false)(hU : wM X ig gH al l lY)(hlen : ∀ x, (lY x).length = pl.length)(fH : mY n pl = true)(pZ : mq n assign ms)(nG : mY n (ms.map (·.1)) = true)(bc : ble n hZ = true)(gZ:β->bC)(bU:List α->β->List hK->Prop)(l0:Exit->bC->List hK->Prop)(iz:β)(aS:bU l iz fD)(dG:st.H=al++fq)(dH:∀ {env:Nat->Loc} {B:Nat->Prop} {w:World} {H:c2},bJ env B w fq H->∃H' Y,H.Perm (H'++Y)/\bJ env B w (gZ iz) H')(qJ:∀id x rest y r D,bU (x::rest) y r->iL (gh.Mk (X:=X) (M:=false) (n:=n) (rr:=some id) D eY hl) body r ⟨sF ms (ub pl (lY x) (gd (hs n) st.L)),gZ y⟩ (λe s cF=>(e=.normal/\∃nS,bU rest nS cF/\∃eu,gR X false n s ⟨eu,gZ nS⟩)\/(e≠.normal/\Eo e=true/\∃aP,l0 e aP cF/\∃eu,gR X false n s ⟨eu,aP⟩)))(o9:∀y r,bU [] y r->Q .normal ⟨gd (hs n) st.L,gZ y⟩ r)(nm:∀e aP r,l0 e aP r->Q e ⟨gd (hs n) st.L,aP⟩ r):iL (gh.it (X:=X) (n:=n) gr eY hl) (.rangeFunc g pl.toArray assign body) fD st Q:=by
 intro a w hi;obtain⟨zc,Tv,FV,afL,aq,env,B,ak,nq,cb,e7⟩:=hi;have BK:=e7.heap;rw[dG]at BK;obtain⟨O,H2,Lw,iu,hR⟩:=bJ.split BK;obtain⟨H,Y,yC,ry⟩:=dH hR;subst Lw;have ah:bK X (λk=>gr k\/zc k) Tv ⟨FV,λ_ _=>False,[]⟩ n aq env B ak (O++H) ⟨st.L,al++gZ iz⟩ a w:=by
  refine⟨e7.size,e7.defs,e7.has,iu.append ry,?_,e7.sub,e7.new,e7.dr,e7.base,e7.eg⟩;have ar:((O++H2)++aq.map dE).Perm (((O++H)++aq.map dE)++Y):=by
   refine((yC.append_left O).append_right _).trans ?_;simp only[append_assoc];exact((List.perm_append_comm).append_left H).append_left O
  exact(e7.aU.perm ar).e2 (sublist_append_left _ _)
 obtain⟨bj,dX,gG,rfl,dF⟩:=e7.aI aR ad;obtain⟨mH,gD⟩:∃mH:Nat->Prop,mH=λk=>gr k\/B k:=⟨_,rfl⟩
 have B5:∀k,mH k↔gr k\/B k:=λk=>by rw[gD]
 have h3:bK X (λk=>mH k\/zc k) w ⟨λk=>FV k\/B k,oj n env,[]⟩ n aq env B w (O++H) ⟨st.L,al++gZ iz⟩ a w:=ah.QB.Tu (λk=>by rw[B5];constructor<;>(intro h;rcases h with(h|h)|h)<;>simp[h]) λk=>⟨.inr,λh=>h.elim (ah.sub k) id⟩
 have s8:gm B ak B w:=⟨λ_ h=>h,λk aa=>ah.aU.below.block k (.inr aa)⟩
 have wK:∀k,B k->k<w.heap.size:=λk aa=>ah.aU.base k (.inr aa)
 have wH:=hU B w gG env O wK (λi x ai=>(ah.eg i x ai).up s8) (dF.up s8) (iu.up s8);have hQ:=le_of_ble_eq_true bc;have sB:(H++aq.map dE).Sublist ((O++H)++aq.map dE):=by
  rw[append_assoc];exact List.sublist_append_right _ _
 have Lx:bZ (lZ (λk=>mH k\/zc k) B H aq) w O w:=by
  have lf:=ah.aU.apart;rw[append_assoc,List.pairwise_append]at lf;refine⟨c9.refl _ _,λk aa=>?_,λc U=>?_,lf.1⟩
  ·rcases aa with aa|aa|⟨c,U,e⟩
   ·exact h3.aU.base k (.inl aa)
   ·exact ah.aU.base k (.inr aa)
   ·exact((ah.aU.ok c (sB.subset U)).lt e).2
  ·have ha:=h3.aU.ok c (mem_append_left _ (mem_append_left _ U))
   refine ha.base λb ad aa=>?_
   rcases aa with aa|aa|⟨c',dJ,e⟩
   ·exact(ha.lt ad).1 (.inl aa)
   ·exact(ha.lt ad).1 (.inr aa)
   ·exact lf.2.2 c U c' dJ b ad e
 let nA:=gd (hs n) st.L
 let In:bC->List hK->(Nat->Prop)->(Nat->Prop)->World->Prop:=λh r afM afN dp=>∃C pg b8,(eY r C b8 pg\/(r=[]/\hl () C pg))/\∃env' B' cw H',bK X (λk=>mH k\/C k) pg ⟨λk=>b8 k\/B k,oj n env,[]⟩ n aq env' B' cw H' ⟨nA,h⟩ a dp/\(∀k,B' k->b8 k\/(¬C k/\sw dp k))/\(∀k,B k->dp.heap[k]?=w.heap[k]?)/\(∀k,FV k->b8 k)/\afM=lZ (λk=>mH k\/C k) B' H' aq/\∀k,afN k->B' k
 let bb:List α->(Nat->Prop)->(Nat->Prop)->World->Prop:=λr C b8 dp=>∃y ro,bU r y ro/\In (gZ y) ro C b8 dp
 let lX:Code->(Nat->Prop)->World->Prop:=λc C dp=>∃e aP ro b8,QA e=some c/\l0 e aP ro/\In aP ro C b8 dp
 have afO:∀k,B k->mH k:=λk aa=>(B5 k).2 (.inr aa)
 have BL:∀h r C b8 b1 np,In h r C b8 b1->c9 C b1 np->In h r C b8 np:=by
  rintro h r C b8 b1 np ⟨jh,pg,oA,aL,env',B',cw,H',I,J,ag,au,rfl,aD⟩ aa;exact⟨jh,pg,oA,aL,env',B',cw,H',I.Lu aa,λk cB=>(J k cB).imp_right λh=>⟨h.1,h.2.ee (aa.block k (.inr (.inl cB)))⟩,λk cB=>(aa.block k (.inl (.inl (afO k cB)))).trans (ag k cB),au,rfl,aD⟩
 have BM:∀ {B':Nat->Prop} {cw:World} {env':Nat->Loc},(∀k,B k->B' k)->(∀k,B k->cw.heap[k]?=w.heap[k]?)->(∀id l,oj n env id l->env' id=l)->∀s sv,bm nA s=some sv->∃v,a.tmps[s]?=some v/\eK env' B' cw sv v:=by
  intro B' cw env' cB hw he s sv aj;obtain⟨u,I,rfl⟩:=ua aj;obtain⟨v,J,ag⟩:=h3.has s u I;exact⟨v,J,eK.c8 (Qx (λid l au aD a1=>he id l ⟨au,aD,a1⟩) hQ) (ag.up ⟨cB,hw⟩)⟩
 have BN:∀ {h:bC} {r:List hK} {C b8:Nat->Prop} {b1:World} (k:Nat),w.heap.size<=k->¬C k->b1.heap[k]?=some (.deferred (some []))->In h r C b8 b1->(gh.it (X:=X) (n:=n) gr eY hl).In r ⟨nA,h⟩ { a with defers:={ target:=.collected k,args:=#[] }::a.defers } b1:=by
  rintro h r C b8 b1 k aa uB ay ⟨jh,pg,oA,aL,env',B',cw,H',I,J,ag,au,rfl,aD⟩;have lr:(dE k::(H'++aq.map dE)).Perm (H'++(k::aq).map dE):=by
   exact List.perm_middle.symm
  have eb:bZ (λq=>(gr q\/jh q)\/B' q) cw (dE k::(H'++aq.map dE)) b1:=by
   have uG:∀q,((gr q\/jh q)\/B' q)->((mH q\/jh q)\/B' q):=λq ar=>ar.imp_left λh=>h.imp_left λh=>(B5 q).2 (.inl h)
   refine⟨⟨I.aU.below.os,I.aU.below.tape,I.aU.below.output,I.aU.below.size,λq ar=>I.aU.below.block q (uG q ar)⟩,λq ar=>I.aU.base q (uG q ar),λc U=>?_,List.Pairwise.cons (λc U q aC ba=>?_) I.aU.apart⟩
   ·rcases List.mem_cons.1 U with rfl|U
    ·exact⟨λar=>uB ((uG k ar).elim .inl λh=>.inr (.inl h)),ay⟩
    ·exact(I.aU.ok c U).base λq FW afP=>((I.aU.ok c U).lt FW).1 (uG q afP)
   ·have:k=q:=Option.some.inj aC
    subst this;exact uB (.inr (.inr ⟨c,U,ba⟩))
  refine⟨jh,pg,oA,aL,k::aq,env',B',cw,H',⟨(λh=>by cases h),λ_ _ _ h=>h.elim⟩,I.size,congrArg (List.cons (vt k)) I.defs,I.has,I.heap,eb.perm lr,λq ar=>I.sub q (.inl ar),λq ar=>?_,λ_ _ h=>h.elim,⟨I.base.os,I.base.tape,I.base.output,I.base.size,λq ar=>I.base.block q (ar.imp_left λh=>(B5 q).2 (.inl h))⟩,I.eg⟩
  rcases I.new q ar with(a1|a1)|⟨a1,ca⟩
  ·exact .inl a1
  ·rcases e7.new q a1 with ca|⟨ca,_⟩
   ·exact .inl (au q ca)
   ·refine(J q ar).imp_right λdi=>⟨λh1=>h1.elim (λh=>ca (.inl h)) di.1,di.2.ee (I.aU.below.block q (.inr ar)).symm⟩
  ·exact .inr ⟨λdi=>a1 (di.imp_left λh=>(B5 q).2 (.inl h)),ca⟩
 have dj:∀(c:Code) (m:Nat) (Q:Exit->Act->World->Prop) a w,c.wpIn Fence.wide m X.P Q a w↔c.wpIn Fence.wide 0 X.P Q a w:=λc m Q a w=>wpIn_wide.trans wpIn_wide.symm
 have BO:∀(id:Nat) (c:Code) (m:Nat) (Q:Exit->Act->World->Prop) a w,c.wpIn (Fence.wide.inRound id) 0 X.P Q a w->c.wpIn (Fence.wide.inRound id) m X.P Q a w:=λid c m Q a w h=>by
  intro b k cs yr ad aw;exact h b k cs yr ad (λ_ h=>by cases h)
 refine(dj _ 2 _ _ _).1 ?_;have Ly:∀vs:cl,(pl.toArray.zip vs.toArray).foldl (λt (p,v)=>t.setIfInBounds p v) a.tmps=(pl.zip vs).foldl (λt (p,v)=>t.setIfInBounds p v) a.tmps:=λx=>by
  rw[<- Array.foldl_toList,Array.toList_zip]
 refine aeS (ah.cf.aI dX) (λargs w=>Pj gC ox pb) wH (c9.refl _ _) wK (λdt np x vs h=>by have:=dw.length h;rw[hlen x]at this;simpa using this) (λdt np k8 x vs aa h=>dw.up ⟨λ_ h=>h,λk ar=>aa.block k ar⟩ h)
  bb lX ?_ ?_ ?_ ?_ ?_ (lZ (λk=>mH k\/zc k) B H aq) ?_ Lx (λvs=>{ tmps:=sG ms ((pl.zip vs).foldl (λt (p,v)=>t.setIfInBounds p v) a.tmps),defers:=[] }) ?_ ?_ ?_ ?_
 ·rintro r C b8 b1 np ⟨y,ro,aG,I⟩ aa
  exact⟨y,ro,aG,BL _ _ _ _ _ _ I aa⟩
 ·rintro c C b1 np ⟨e,aP,ro,b8,he,nT,I⟩ aa
  exact⟨e,aP,ro,b8,he,nT,BL _ _ _ _ _ _ I aa⟩
 ·rintro r C b8 b1 ⟨y,ro,aG,jh,pg,oA,aL,env',B',cw,H',I,_,_,_,rfl,_⟩
  exact I.FC
 ·rintro r C b8 b1 ⟨y,ro,aG,jh,pg,oA,aL,env',B',cw,H',I,_,_,_,rfl,J⟩ k aa
  exact .inr (.inl (J k aa))
 ·rintro c C b1 ⟨e,aP,ro,b8,he,nT,jh,pg,oA,aL,env',B',cw,H',I,_,_,_,rfl,_⟩
  exact I.FC
 ·have Tw:c9 zc Tv w:=⟨e7.aU.below.os.trans e7.base.os,e7.aU.below.tape.trans e7.base.tape,e7.aU.below.output.trans e7.base.output,le_trans e7.base.size e7.aU.below.size,λk aa=>(e7.aU.below.block k (.inl (.inr aa))).trans (e7.base.block k (.inr aa))⟩
  exact⟨iz,fD,aS,zc,w,FV,afL.imp (λh=>zb _ _ _ _ _ h Tw) (λh=>⟨h.1,fG _ _ _ _ h.2 Tw⟩),env,B,w,H,⟨h3.size,h3.defs,BM (λ_ h=>h) (λ_ _=>rfl) (λ_ _ h=>h.2.1),ry.up s8,h3.aU.e2 sB,h3.sub,h3.new,h3.dr,h3.base,h3.eg⟩,λk aa=>(e7.new k aa).imp_right λh=>⟨λU=>h.1 (.inr U),h.2.ee (e7.aU.below.block k (.inr aa))⟩,λ_ _=>rfl,λ_ h=>h,rfl,λ_ h=>h⟩
 ·intro id x vs b1 K tM b4
  rw[Ly];exact BO _ _ _ _ _ _ (mq.ok pZ b4)
 ·rintro id x rest vs C b8 dt b1 ⟨y,ro,aG,jh,pg,oA,aL,rQ,dy,b5,H1,aS,B6,Tx,afQ,rfl,pY⟩ nn pa
  obtain⟨gg,y1⟩:∃gg:Nat->Prop,gg=λk=>dy k\/dt k:=⟨_,rfl⟩
  have Mq:∀k,gg k↔dy k\/dt k:=λk=>by rw[y1]
  have I:bK X (λk=>mH k\/jh k) pg ⟨λk=>oA k\/B k,oj n env,[]⟩ n aq rQ gg b1 H1 ⟨nA,gZ y⟩ a b1:=by
   rw[y1];exact aS.now.SR λk aa=>(nn.new k aa).imp (λh=>pY k h) λ⟨h,J⟩=>⟨h,J⟩
  have afR:∀k,gg k->oA k\/(¬jh k/\sw b1 k):=λk aa=>by
   rcases (Mq k).1 aa with aa|aa
   ·exact B6 k aa
   ·rcases nn.new k aa with h|⟨h,J⟩
    ·exact B6 k (pY k h)
    ·exact .inr ⟨λU=>h (.inl (.inr U)),J⟩
  have wN:∀k,dt k->gg k:=λk aa=>(Mq k).2 (.inr aa)
  have FX:∀k,B k->gg k:=λk aa=>I.sub k (.inr aa)
  have fB:=I.aU.e2 (sublist_append_left _ _);have afS:gm gg b1 gg b1:=⟨λ_ h=>h,λk aa=>I.aU.below.block k (.inr aa)⟩
  have afT:Has n rQ gg b1 nA a.tmps:=⟨ah.size,λs sv aj=>by
   obtain⟨v,J,ag⟩:=I.has s sv aj;exact⟨v,J,ag.up afS⟩⟩
  have aw:=I.round (Has.dc (Has.par afT fH ((dw.any pa).up ⟨wN,λ_ _=>rfl⟩)) nG);have jd:∀k,(mH k\/jh k)\/gg k->gB b1 H1 k:=λk aa=>⟨fB.base k aa,λc U e=>((fB.ok c U).lt e).1 aa⟩
  have Ty:c9 jh pg b1:=⟨I.base.os,I.base.tape,I.base.output,I.base.size,λk aa=>I.base.block k (.inr aa)⟩
  have JQ:eY ro jh oA b1\/(ro=[]/\hl () jh b1):=aL.imp (λh=>zb _ _ _ _ _ h Ty) (λh=>⟨h.1,fG _ _ _ _ h.2 Ty⟩);have dT:Mg ⟨gB b1 H1,gg,oA,jh,b1,oj n rQ⟩ jh oA b1:=⟨afR,c9.refl _ _,λk _ J ag=>absurd ag J,λk _ h=>I.sub k (.inl h),λ_ h=>h,λk h=>jd k (.inr h)⟩
  have LA:=qJ id x rest y ro ⟨gB b1 H1,gg,oA,jh,b1,oj n rQ⟩ aG _ b1 ⟨jh,b1,oA,JQ,dT,[],rQ,gg,b1,H1,⟨λ_=>rfl,λh=>by cases h⟩,aw.Tu (λk=>⟨.inl,λh=>h.elim (λh=>h) λh=>jd k (.inl (.inr h))⟩) λk=>⟨.inr,λh=>h.elim (λh=>I.sub k (.inl h)) (λh=>h)⟩⟩;refine wpIn_mono (BO _ _ 1 _ _ _ LA) ?_;rintro e a3 k8 ⟨s,cF,aj,J⟩;have key:∀aP eu,gR X false n s ⟨eu,aP⟩->∃cW,In aP cF cW dt k8/\Grow dt (lZ (λk=>mH k\/jh k) dy H1 aq) cW b1 k8:=by
   intro aP eu hw;obtain⟨tW,Mr,Tz,afU,oB,afV⟩:=J;obtain⟨ae5,BP,s9,j3,BQ,FE,ag⟩:=hw _ _ _ _ _ afV
   have:=FE.1 rfl
   subst this;have TA:∀k,gB b1 H1 k->k8.heap[k]?=Mr.heap[k]?:=λk aa=>(ag.aU.below.block k (.inl (.inl aa))).trans (ag.base.block k (.inl aa))
   have uy:∀k,(gB b1 H1 k/\¬jh k)\/gg k->k8.heap[k]?=b1.heap[k]?:=λk aa=>(TA k (aa.elim (λh=>h.1) (λh=>jd k (.inr h)))).trans (oB.wW.block k aa)
   have FY:∀k,gg k->s9 k:=λk aa=>ag.sub k (.inr aa)
   have k9:=ag.aU;simp only[map_nil,append_nil]at k9;have Ms:∀k,gg k->j3.heap[k]?=b1.heap[k]?:=λk aa=>(ag.base.block k (.inl (jd k (.inr aa)))).trans (oB.wW.block k (.inr aa))
   have oa:∀k∈aq,gB b1 H1 k/\¬jh k/\¬tW k/\¬s9 k/\¬mH k/\b1.heap[k]?=some (.deferred (some [])):=by
    intro k aa;have hm:dE k∈H1++aq.map dE:=List.mem_append_right _ (List.mem_map.2 ⟨k,aa,rfl⟩);obtain⟨fL,ay⟩:=I.aU.ok (dE k) hm;have FZ:gB b1 H1 k:=⟨((I.aU.ok _ hm).lt rfl).2,λc U e=>(List.pairwise_append.1 I.aU.apart).2.2 c U (dE k) (List.mem_map.2 ⟨k,aa,rfl⟩) k e rfl⟩
    have uB:¬jh k:=λh=>fL (.inl (.inr h))
    refine⟨FZ,uB,λh=>fL (.inr (oB.FU k FZ uB h)),λh=>?_,λh=>fL (.inl (.inl h)),ay⟩
    rcases ag.new k h with(au|au)|⟨au,_⟩
    ·exact fL (.inr (oB.Mh k FZ au))
    ·exact fL (.inr au)
    ·exact au (.inl FZ)
   have uG:∀q,((mH q\/tW q)\/s9 q)->((gB b1 H1 q\/tW q)\/s9 q):=λq ar=>ar.imp_left λh=>h.imp_left λh=>jd q (.inl (.inl h))
   have au:bK X (λk=>mH k\/tW k) Mr ⟨λk=>Tz k\/B k,oj n env,[]⟩ n aq BP s9 j3 BQ ⟨nA,aP⟩ a k8:=by
    refine⟨I.size,I.defs,BM (λk aa=>FY k (FX k aa)) (λk aa=>(Ms k (FX k aa)).trans (Tx k aa)) (λid l al=>(ag.dr id l ⟨(I.dr id l al).1,(I.dr id l al).2.1,(I.dr id l al).2.2⟩).2.1),ag.heap,⟨⟨k9.below.os,k9.below.tape,k9.below.output,k9.below.size,λk aa=>k9.below.block k (uG k aa)⟩,λk aa=>k9.base k (uG k aa),λc U=>?_,?_⟩,λk aa=>aa.elim (λh=>ag.sub k (.inl h)) (λh=>FY k (FX k h)),λk aa=>?_,λid l al=>?_,⟨ag.base.os,ag.base.tape,ag.base.output,ag.base.size,λk aa=>ag.base.block k (aa.imp_left λh=>jd k (.inl (.inl h)))⟩,λi x ai=>(I.eg i x ai).up ⟨FY,Ms⟩⟩
    ·rcases List.mem_append.1 U with U|U
     ·exact(k9.ok c U).base λb ad aa=>((k9.ok c U).lt ad).1 (uG b aa)
     ·obtain⟨k,aa,rfl⟩:=List.mem_map.1 U
      obtain⟨g1,g2,g3,g4,g5,g6⟩:=oa k aa;exact⟨λar=>ar.elim (λh=>h.elim g5 g3) g4,(uy k (.inl ⟨g1,g2⟩)).trans g6⟩
    ·refine List.pairwise_append.2 ⟨k9.apart,(List.pairwise_append.1 I.aU.apart).2.1,λc U c' dJ q aC ba=>?_⟩
     obtain⟨k,aa,rfl⟩:=List.mem_map.1 dJ
     have:k=q:=Option.some.inj ba
     subst this;exact((k9.ok c U).lt aC).1 (.inl (.inl (oa k aa).1))
    ·rcases ag.new k aa with(aD|aD)|⟨aD,a1⟩
     ·exact .inl (.inl aD)
     ·rcases I.new k aD with(a1|a1)|⟨a1,ca⟩
      ·exact .inl (.inl (oB.Mi k a1))
      ·exact .inl (.inr a1)
      ·rcases oB.x3 k aD with di|⟨di,_⟩
       ·exact .inl (.inl di)
       ·exact .inr ⟨λh=>h.elim (λh=>a1 (.inl h)) di,ca.ee (Ms k aD)⟩
     ·exact .inr ⟨λh=>aD (h.imp_left λh=>jd k (.inl (.inl h))),a1⟩
    ·obtain⟨g1,g2,g3⟩:=I.dr id l al
     exact⟨g1,(ag.dr id l ⟨g1,g2,g3⟩).2.1,g3⟩
   refine⟨_,⟨tW,Mr,Tz,afU,BP,s9,j3,BQ,au,λk aa=>?_,λk aa=>(uy k (.inr (FX k aa))).trans (Tx k aa),λk aa=>oB.Mi k (afQ k aa),rfl,λk aa=>FY k (wN k aa)⟩,⟨⟨?_,?_,?_,?_,λk aa=>?_⟩,λk aa=>?_⟩⟩
   ·rcases ag.new k aa with(aD|aD)|⟨aD,a1⟩
    ·exact .inl aD
    ·exact(oB.x3 k aD).imp_right λh=>⟨h.1,h.2.ee (TA k (jd k (.inr aD)))⟩
    ·exact .inr ⟨λh=>aD (.inr h),a1.ee (k9.below.block k (.inr aa))⟩
   ·exact k9.below.os.trans (ag.base.os.trans oB.wW.os)
   ·exact k9.below.tape.trans (ag.base.tape.trans oB.wW.tape)
   ·exact k9.below.output.trans (ag.base.output.trans oB.wW.output)
   ·exact le_trans oB.wW.size (le_trans ag.base.size k9.below.size)
   ·rcases aa with aa|⟨j2,ju⟩
    ·exact uy k (.inr (wN k aa))
    ·exact uy k (.inl ⟨⟨j2,λc U e=>ju (.inr (.inr ⟨c,mem_append_left _ U,e⟩))⟩,λh=>ju (.inl (.inr h))⟩)
   ·by_cases aW:b1.heap.size<=k
    ·exact .inr (.inl aW)
    ·have LB:k<b1.heap.size:=by omega
     by_cases j2:lZ (λk=>mH k\/jh k) dy H1 aq k
     ·exact .inl j2
     ·by_cases ju:dt k
      ·exact .inr (.inr ju)
      exfalso
      have wO:gB b1 H1 k:=⟨LB,λc U e=>j2 (.inr (.inr ⟨c,mem_append_left _ U,e⟩))⟩
      have afW:¬jh k:=λh=>j2 (.inl (.inr h))
      have Mt:¬gg k:=λh=>((Mq k).1 h).elim (λh=>j2 (.inr (.inl h))) ju
      rcases aa with aa|aa|⟨c,U,e⟩
      ·rcases aa with aa|aa
       ·exact j2 (.inl (.inl aa))
       ·exact Mt (oB.FU k wO afW aa)
      ·rcases ag.new k aa with(aD|aD)|⟨aD,_⟩
       ·exact Mt (oB.Mh k wO aD)
       ·exact Mt aD
       ·exact aD (.inl wO)
      ·rcases List.mem_append.1 U with U|U
       ·exact((k9.ok c U).lt e).1 (.inl (.inl wO))
       ·exact j2 (.inr (.inr ⟨c,List.mem_append_right _ U,e⟩))
  rcases aj with⟨rfl,nS,jT,eu,hw⟩|⟨cC,hex,aP,nT,eu,hw⟩
  ·obtain⟨cW,aD,a1⟩:=key _ _ hw
   exact⟨cW,⟨nS,cF,jT,aD⟩,a1⟩
  ·obtain⟨cW,aD,a1⟩:=key _ _ hw
   cases e with
   |normal=>exact absurd rfl cC
   |ret=>exact⟨cW,⟨.ret,aP,cF,_,rfl,nT,aD⟩,a1⟩
   |exit i=>exact⟨cW,⟨.exit i,aP,cF,_,rfl,nT,aD⟩,a1⟩
   |goto t=>cases hex
   |panic c=>cases hex
   |outgrown=>cases hex
 ·rintro k C b8 b1 aa cJ ⟨y,ro,aG,I⟩ ay
  exact⟨_,_,o9 y ro aG,BN k aa cJ ay I⟩
 ·rintro k c C b1 aa cJ ⟨e,aP,ro,b8,he,nT,I⟩ ay
  have BR:=BN k aa cJ ay I;have ar:=nm e aP ro nT;cases e with
  |ret=>cases he;exact wpIn_ret ⟨_,_,ar,BR⟩
  |exit id=>cases he;exact(dj _ 2 _ _ _).2 (II ⟨_,_,ar,BR⟩)
  |normal=>cases he
  |goto t=>cases he
  |panic c=>cases he
  |outgrown=>cases he
section
section
variable {X:bu} {n:Nat} {α:Type}
theorem afX(af:X.a6.ok X.P){E:eH}{id:Nat}{gr:Nat->Prop}{p:List (dm (jY E []))->(Nat->Prop)->(Nat->Prop)->World->Prop}{q:Unit->(Nat->Prop)->World->Prop}(U:Cons X E id p q):y7 (Γ:=gh.it (X:=X) (n:=n) gr p q) (some (wV E id)):=by
 rintro ops Q em y l args f t r b;cases y;unfold wV at b
 split at b
 ·rename_i x Z W
  unfold uF at b
  split at b
  ·rename_i aj ae
   cases b;have ab:=eq_of_beq_eq_true ae;subst ab;refine⟨_,_,rfl,rfl,?_⟩;intro o rest st d s us ai c F j ay aG u V z A a w hi;obtain⟨C,N,O,g,aq,env,B',ak,H,m,ah⟩:=hi
   rcases g with g|⟨g,_⟩
   ·obtain⟨vs,I,J⟩:=vJ ah u V
    obtain⟨gb,ag,M⟩:=ah.has _ _ (Tp aG);rw[show gb=_ from M]at ag;have S:gm B' ak B' w:=⟨λ_ h=>h,λk aa=>ah.aU.below.block k (.inr aa)⟩
    have K:=(yw W).2;have ac:=K _ _ _ _ (dw.no Z (J.up S));have v:c9 C N w:=⟨(ah.aU.below.os).trans ah.base.os,(ah.aU.below.tape).trans ah.base.tape,(ah.aU.below.output).trans ah.base.output,le_trans ah.base.size ah.aU.below.size,λk aa=>(ah.aU.below.block k (.inl (.inr aa))).trans (ah.base.block k (.inr aa))⟩
    have ad:=U.zb _ _ _ _ _ g v;have Y:wG C O B' w:=⟨ah.sub,λk aa=>(ah.new k aa).imp_right λ⟨aD,a1⟩=>⟨λh=>aD (.inr h),a1.ee (ah.aU.below.block k (.inr aa))⟩⟩
    obtain⟨fn,tmps,assign,body,B,D⟩:=YieldAt.zero (U.take _ _ _ _ _ _ _ ad Y ac);have T:=j.1 ah;show(if Region.wanted o (yielded ops.toArray a.tmps)then _ else _);rw[if_pos T];refine⟨λ_ _=>trivial,?_⟩;have R:(execOp a.eval o).run X.P w=.ok (.round l fn tmps assign body) w:=by
     have G:=ah.cf.aI (x:=.tmp s) (im ag);have P:=QD ah.cf I;simp only[execOp,F,resolve,G]
     simp[Deferred.ofValue,invoke,P,B,go_sem]
    show Oper.uponIn _ _ _ _ _ _ _ ((o.semAt none a.eval).run X.P w);rw[Oper.semAt_none,R];refine⟨(λh=>by cases h),RoundIn.mono D ?_⟩;intro e i L;rw[j.2]
    rcases L with⟨rfl,cW,qN,cx⟩|⟨rfl,cW,qN,cx⟩
    ·exact A _ _ ⟨cW,i,B',.inl qN,aq,env,B',i,H,⟨m.1,λ_ _ _ h=>h.elim⟩,bK.To ah cx (U.lt _ _ _ _ qN) ay _⟩
    ·exact z _ _ ⟨cW,i,B',.inr ⟨rfl,qN⟩,aq,env,B',i,H,⟨m.1,λ_ _ _ h=>h.elim⟩,bK.To ah cx (U.Tq _ _ _ qN) ay _⟩
   ·cases g
  ·cases b
 ·cases b
theorem afY(c:X.a6.ok X.P){E:eH}{id:Nat}{gr:Nat->Prop}{a:List (dm (jY E []))->(Nat->Prop)->(Nat->Prop)->World->Prop}{b:Unit->(Nat->Prop)->World->Prop}(U:Cons X E id a b):l2 (Γ:=gh.it (X:=X) (n:=n) gr a b) (some (wV E id)):=
 ⟨afX c U,λ_ _=>⟨λi d=>∃D,d=gh.Mk D a b,λi d ⟨D,h⟩=>by rw[h];exact afJ c U,λe ad k v z m o j w s bc l bU q p f dG g A u t=>
  afK U.zb U.fG e ad k v z m o j w s bc l bU q p f dG g (λid x rest y r D h=>A id x rest y r _ ⟨D,rfl⟩ h) u t⟩⟩
def Mu{α:Type}:oy (List α)
 |.normal,_,_=>some []
 |.ret,_,_=>some []
 |_,_,_=>none
theorem afZ(H:X.a6.ok X.P)(ao:X.P.follows .mixedOrders=true){N:Nat}{T:List (bw X)}{bI:List (j6 X)}{f:FuncId}{fn:Func}{c:Code}{K:fm}{gH:ep}{al:bC}{E:eH}{l:List (dm (jY E []))}(az:X.P.funcs[f]?=some fn)(ad:fn.body=some c)(aM:fn.ntmps=n)(ae:ble (oX gH).length (n-1)=true)(bc:blt 0 n=true)(ab:fn.results=#[])(h:∀id,iX X N n T bI true c (some (wV E id)) K ⟨mh 0 (.c (.val (.func (.yield id) #[] #[]))::oX gH),al⟩ Mu=some l):wM X f gH al l (λx=>(ix E x).1):=by
 intro B ak m env D af Q S Y id t u W F _ L M r O ar au C z q;have y:gm B ak B W:=⟨λ_ h=>h,λk aa=>F.block k aa⟩
 have bh:dw env B W (.c (.val (.func (.yield id) #[] #[]))::oX gH) (.func (.yield id) #[] #[]::m):=⟨_,_,rfl,rfl,(ya S).up y⟩
 have an:=bh.length;have hle:(Value.func (.yield id) #[] #[]::m).length<=n:=by
  rw[an,length_cons];have I:=le_of_ble_eq_true ae;have J:=ef bc;omega
 have P:=DF aM hle _ rfl;have e:#[Value.func (.yield id) #[] #[]]++m.toArray=(Value.func (.yield id) #[] #[]::m).toArray:=by simp
 rw[e];refine CallsIn.mono (R:=λe w'=>∃v,e=.returned v/\∃d,(∃p,t [] d p w')\/u () d w') ((callsIn_wide).2 ((callsIn_wide (n:=0)).1 (callsIn_of_wp_marks az ad trivial ?_))) (λe w' ⟨v,I,J⟩=>⟨⟨v,I⟩,J⟩);obtain⟨gr,G⟩:∃gr:Nat->Prop,gr=λk=>k<W.heap.size/\¬∃c∈D,c.has k:=⟨_,rfl⟩
 have ah:bK X (λk=>gr k\/C k) W ⟨B,λ_ _=>False,[]⟩ n [] env B W D ⟨mh 0 (.c (.val (.func (.yield id) #[] #[]))::oX gH),al⟩ { tmps:=(Value.func (.yield id) #[] #[]::m).toArray++Array.replicate (fn.ntmps-(Value.func (.yield id) #[] #[]::m).toArray.size) undef,defers:=[] } W:=by
  refine⟨P.size,rfl,λs sv Z=>?_,Y.up y,?_,λ_ h=>h,λ_ h=>.inl h,λ_ _ h=>h.elim,c9.refl _ _,λi x ai=>(Q i x ai).up y⟩
  rotate_left
  ·rw[map_nil,append_nil]
   refine⟨c9.refl _ _,λk aa=>?_,λc U=>(q.ok c U).base λb ad aa=>?_,q.apart⟩
   ·rcases aa with(aa|aa)|aa
    ·rw[G]at aa
     exact aa.1
    ·exact r _ _ _ _ z k aa
    ·exact lt_of_lt_of_le (af k aa) F.size
   ·rcases aa with(aa|aa)|aa
    ·rw[G]at aa
     exact aa.2 ⟨c,U,ad⟩
    ·exact((q.ok c U).lt ad).1 aa
    ·exact((q.ok c U).lt ad).1 (ar _ _ _ _ z b aa)
  obtain⟨_,v,I,J⟩:=Ax bh Z;refine⟨v,?_,J⟩;have r:=(List.getElem?_eq_some_iff.1 I).1;rw[Array.getElem?_append_left (by simpa using r)]
  simpa using I
 refine wpIn_mono (oz H ao c true true none (λ_=>⟨rfl,rfl⟩) _ (gh.it gr t u) _ (afY H ⟨L,M,r,O,au⟩) K _ Mu l (h id) _ _ ⟨C,W,B,.inl z,[],_,_,_,_,⟨λh=>(by cases h),λ_ _ _ h=>h.elim⟩,ah⟩) ?_;rintro e a w ⟨st,ag,⟨V,ay,g,ax,aa⟩,hi⟩;obtain⟨d,ac,p,o,aq,env',B',aj,H',aw,j⟩:=(gh.it gr t u).e2 g hi;have am:ag=[]/\(e=.ret\/e=.normal):=by
  cases e<;>first|(cases aa;exact⟨rfl,.inr rfl⟩)|(cases aa;exact⟨rfl,.inl rfl⟩)|cases aa
 obtain⟨rfl,he⟩:=am;have av:Sym n (aq.map vt) (full a) (λk=>(gr k\/d k)\/B' k) aj (aq.map (λk=>bp.obj k (.deferred (some [])))++H') a w:=⟨by have dG:=j.cf;simpa [kW] using dG,j.aU.perm List.perm_append_comm⟩
 have ap:∀w,(results fn a.tmps).run X.P w=.ok (.tuple #[]) w:=λw=>by
  simp[results,ab,go_sem]
 have key:=Pg (R:=λ_ w'=>∃d,(∃p,t [] d p w')\/u () d w') aq av (λw g=>ap w) λw g=>by
  have A:c9 d ac w:=⟨g.below.os.trans j.base.os,g.below.tape.trans j.base.tape,g.below.output.trans j.base.output,le_trans j.base.size g.below.size,λk aa=>(g.below.block k (.inl (.inr aa))).trans (j.base.block k (.inr aa))⟩
  rcases o with o|⟨_,o⟩
  ·exact⟨d,.inl ⟨p,L _ _ _ _ _ o A⟩⟩
  ·exact⟨d,.inr (M _ _ _ _ o A)⟩
 rcases he with rfl|rfl
 ·exact key
 ·exact key
def Mv(N : Nat)(av : X.a6.ok X.P)(hm : X.P.follows .mixedOrders = true){fn : Func}{c : Code}(C : List uh)(G : List (Nat × fx))(E : eH)(T : List (bw X))(bI : List (j6 X))(bY : fm)(f : FuncId)(m : Bool → dm (rE C (nO G [])) → Option (List (dm (jY E []))))(az : X.P.funcs[f]? = some fn)(aR : (fn.name == "runtime.NumGoroutine") = false)(ad : fn.body = some c)(aM : fn.ntmps = n)(ae : ∀ d : dm (rE C (nO G [])), ble (oX (nb C d).1).length (n - 1) = true)(bc : blt 0 n = true)(aw : fn.results = #[])(h:∀id d,iX X N n T bI true c (some (wV E id)) bY ⟨mh 0 (.c (.val (.func (.yield id) #[] #[]))::oX (nb C d).1),(jZ G (nb C d).2).1⟩ Mu=m (beq id id) d):j6 X:=
 { f:=f,fn:=fn,C:=C,G:=G,E:=E,m:=m true,az:=az,bc:=aR,ad:=by rw[ad];rfl,ok:=λd l he=>afZ av hm az ad aM (ae d) bc aw λid=>(h id d).trans (by rw[show beq id id=true from Nat.beq_refl id];exact he) }
end
abbrev fg:Nat×fx:=(1000000,.cells 172 [.int .i64,.bo (.ax aN),.bo (.ax aN),.raw (.ax 2000000),.raw (.ax 2000001),.raw (.dY 1000001),.raw (.ax 1000002)])
abbrev h0:Nat×fx:=(1000000,.cells 87 [.raw (.ax 1000001),.int .i64])
abbrev ir:Nat×fx:=(1000000,.cells 132 [.bo FT,.raw (.ax 2000000),.raw (.ax 2000001),.raw (.ax 2000002),.int .u8])
abbrev nH:List (Nat×Nat):=[(1000000,1000000),(2000001,2000001),(1000001,1000001),(2000000,2000000),(1000002,1000002)]
abbrev uH:Nat×fx:=(9,.cells 233 [.raw (.dY 61)])
abbrev wX:Nat×fx:=(1000000,.cells 196 [.raw (.ax 1000001)])
abbrev B7:Nat×fx:=(97,.cells 193 [.raw (.dY 60)])
abbrev B8:Nat×fx:=(1000000,.cells 117 [.fn 49 []])
abbrev F2:Nat×fx:=(1000000,.cells 233 [.raw (.dY 1000001)])
abbrev F3:List (Nat×Nat):=[(1000000,1000000),(1000001,1000001)]
abbrev F4:Nat×fx:=(9,.cells 87 [.raw (.ax 24),.int .i64])
abbrev F5:Nat×fx:=(4,.cells 67 [.raw (.val (.slice none 0 0)),.raw (.val (.slice none 0 0)),.raw (.val (.slice none 0 0)),.raw (.val (.slice none 0 0)),.raw (.val (.slice none 0 0)),.raw (.val (.slice none 0 0)),.int .u8])
abbrev F6:Nat×fx:=(5,.cells 67 [.raw (.ax 12),.raw (.val (.slice none 0 0)),.bo (.ax bV),.bo cp,.bo aN,.bo aN,.int .u8])
abbrev Mw:Nat×fx:=(157,.cells 36 [.raw (.ax 74),.bo cp,.bo aN,.raw (.val (.slice none 0 0))])
abbrev Mx:Nat×fx:=(34,.cells 172 [.int .i64,.bo (.ax aN),.bo (.ax aN),.raw (.ax 19),.raw (.ax 23),.raw (.dY 28),.raw (.ax 32)])
abbrev My:Nat×fx:=(5,.cells 67 [.raw (.ax 12),.raw (.ax 14),.bo (.ax bV),.bo cp,.bo aN,.bo aN,.int .u8])
abbrev Mz:Nat×fx:=(12,.cells 38 [.int .i64,.bo (.ax aN),.bo (.ax aN),.bo bH,.bo (.ax bV),.bo cp,.bo aN,.bo aN])
abbrev TD:Nat×fx:=(1000000,.cells 172 [.int .i64,.bo (.ax aN),.bo (.ax aN),.raw (.ax 2000000),.raw (.ax 2000001),.raw (.dY 1000002),.raw (.ax 1000003)])
abbrev TE:Nat×fx:=(24,.cells 172 [.int .i64,.bo (.ax aN),.bo (.ax aN),.raw (.ax 42),.raw (.ax 38),.raw (.dY 31),.raw (.ax 29)])
def zd(N:Nat)(a:b9):Option (b9×Nat):=
  ao (((decide (0<=(a.length:Int)))&&(decide ((a.length:Int)<=(a.length:Int)))&&(eT 16 (a.length:Int)))&&(true)) <|
  ao ((beq a.length (replicate (a.length:Int).toNat (aN.zero:ab)).length)&&(true)) <|
  some (a,(a.length:Int).toNat)
def af2(N:Nat):bw bL:=b2 N bF [.c (.bo aN)] [] ⟨.a (.c (.ie aN)),[],[]⟩ [] [] (.s .d (.s .d (.s .d (.s .d (.t [.cT 6]))))) [.tmp 2] ([],0) (λd=>zd N d.1) func114 ntmps114
def ze(N:Nat)(a:dz):Option (dz×Nat):=
  ao (((decide (0<=(a.length:Int)))&&(decide ((a.length:Int)<=(a.length:Int)))&&(eT 24 (a.length:Int)))&&(true)) <|
  ao ((beq a.length (replicate (a.length:Int).toNat (c4.zero:cn)).length)&&(true)) <|
  some (a,(a.length:Int).toNat)
def af3(N:Nat):bw bL:=b2 N bF [.c (.bo c4)] [] ⟨.a (.c (.ie c4)),[],[]⟩ [] [] (.s .d (.s .d (.s .d (.s .d (.t [.cT 6]))))) [.tmp 2] ([],0) (λd=>ze N d.1) func115 ntmps115
def TF(N:Nat)(a:bQ):Nat->(Int×Int)->Option (Int):=b3 λd1 c5=>
  cond (decide (d1.2<(a.length:Int))) (ao ((a8 d1.2 a.length)&&(true)) <|
  ao ((bl (d1.1+((a.getD d1.2.toNat []).length:Int)))&&(true)) <|
  ao ((bl (d1.2+1))&&(true)) <|
  c5 ((d1.1+((a.getD d1.2.toNat []).length:Int)),(d1.2+1))) (some d1.1)
def TG(N:Nat)(a:bQ):Nat->(Int×Int×b9)->Option (b9):=b3 λd2 eD=>
  cond (decide (d2.2.1<(a.length:Int))) (ao ((a8 d2.2.1 a.length)&&(true)) <|
  ao (((decide (0<=d2.1))&&(decide (d2.1<=(d2.2.2.length:Int))))&&((decide (d2.1.toNat+(a.getD d2.2.1.toNat []).length<=d2.2.2.length))&&((bl (d2.1+((a.getD d2.2.1.toNat []).length:Int)))&&(true)))) <|
  ao ((bl (d2.2.1+1))&&(true)) <|
  eD ((d2.1+((a.getD d2.2.1.toNat []).length:Int)),(d2.2.1+1),(d2.2.2.take d2.1.toNat++(a.getD d2.2.1.toNat [])++d2.2.2.drop (d2.1.toNat+(a.getD d2.2.1.toNat []).length)))) (some d2.2.2)
def F7(N:Nat)(b:bQ):Option (b9):=
  (TF N b N (0,0)).bind λa=>
  ao (((decide (0<=a))&&(decide (a<=a))&&(eT 16 a))&&(true)) <|
  (TG N b N (0,0,(replicate a.toNat (aN.zero:ab)))).bind λc=>
  some c
def af4(N:Nat):bw bL:=b2 N bF [.c (.bo (.ax aN))] [] ⟨.a (.c (.bo aN)),[],[]⟩ [] [] (.s .d (.s .d (.s (.s .d (.b (.eh 0 ⟨[(3,.a (.c (.int .i64))),(12,.a (.c (.int .i64)))],[],[0,10,11],[]⟩ ⟨[(3,.a (.c (.int .i64)))],[],[0],[]⟩ .d))) (.s .d (.s .d (.s (.s .d (.b (.eh 2 ⟨[(6,.a (.c (.raw (.ax 22)))),(7,.a (.c (.int .i64))),(25,.a (.c (.int .i64)))],[(22,.row 102 aN)],[23,24],[]⟩ ⟨[(6,.a (.c (.raw (.ax 22))))],[(22,.row 102 aN)],[],[]⟩ .d))) (.s .d (.t [.cT 22])))))))) [.tmp 2] [] (λd=>F7 N d.1) func119 ntmps119
def TH(N:Nat)(a:en):Nat->(Int×bQ)->Option (bQ):=b3 λd1 c5=>
  cond (decide (d1.1<(a.length:Int))) (ao ((a8 d1.1 a.length)&&(true)) <|
  ao ((a8 d1.1 d1.2.length)&&(((decide (d1.1.toNat<d1.2.length))&&(true))&&(true))) <|
  ao ((bl (d1.1+1))&&(true)) <|
  c5 ((d1.1+1),(d1.2.set d1.1.toNat (a.getD d1.1.toNat dQ.zero).2))) (some d1.2)
def zf(N:Nat)(a:en):Option (b9):=
  ao (((decide (0<=(a.length:Int)))&&(decide ((a.length:Int)<=(a.length:Int)))&&(eT 24 (a.length:Int)))&&(true)) <|
  (TH N a N (0,(replicate (a.length:Int).toNat ([]:b9)))).bind λb=>
  (F7 N b).bind λc=>
  some c
def MA(N:Nat):bw bL:=b2 N bF [.c (.bo dQ)] [] ⟨.a (.c (.bo aN)),[],[]⟩ [af4 N] [] (.s .d (.s .d (.s (.s .d (.b (.eh 0 ⟨[(3,.a (.c (.raw (.ax 8)))),(11,.a (.c (.int .i64)))],[(8,.row 34 (.ax aN))],[9,10],[]⟩ ⟨[(3,.a (.c (.raw (.ax 8))))],[(8,.row 34 (.ax aN))],[],[]⟩ (.s .d (.s .d (.s (.b (.s (.r [.n 6,.w (.bX 5 dQ)]) .d)) .d)))))) (.s (.r [.n 1,.w (.cT 8)]) .d)))) [.tmp 2] [] (λd=>zf N d.1) func70 ntmps70
def TI(N:Nat) :Nat->(Int×Int×dz)->Option (dz):=b3 λd1 c5=>
  cond (decide (d1.1<d1.2.1)) (ao ((a8 d1.2.1 d1.2.2.length)&&((decide (d1.2.1.toNat<d1.2.2.length))&&((a8 d1.1 d1.2.2.length)&&((decide (d1.1.toNat<d1.2.2.length))&&((a8 d1.1 d1.2.2.length)&&(((decide (d1.1.toNat<d1.2.2.length))&&(true))&&((a8 d1.2.1 (d1.2.2.set d1.1.toNat (d1.2.2.getD d1.2.1.toNat c4.zero)).length)&&(((decide (d1.2.1.toNat<(d1.2.2.set d1.1.toNat (d1.2.2.getD d1.2.1.toNat c4.zero)).length))&&(true))&&(true))))))))) <|
  ao ((bl (d1.1+1))&&((bl (d1.2.1-1))&&(true))) <|
  c5 ((d1.1+1),(d1.2.1-1),((d1.2.2.set d1.1.toNat (d1.2.2.getD d1.2.1.toNat c4.zero)).set d1.2.1.toNat (d1.2.2.getD d1.1.toNat c4.zero)))) (some d1.2.2)
def wY(N:Nat)(a:dz):Option (dz):=
  ao ((bl ((a.length:Int)-1))&&(true)) <|
  (TI N N (0,((a.length:Int)-1),a)).bind λb=>
  some b
def MB(N:Nat):bw bL:=b2 N bF [.c (.raw (.ax 2000000))] [(2000000,.row 116 c4)] ⟨.da [],[(2000000,.row 116 c4)],[]⟩ [] [] (.s .d (.b (.eh 0 ⟨[(0,.a (.c (.raw (.ax 2000000)))),(2,.a (.c (.int .i64))),(3,.a (.c (.int .i64)))],[(2000000,.row 116 c4)],[],[]⟩ ⟨[],[(2000000,.row 116 c4)],[],[]⟩ (.s .d (.s (.b (.nr [8,9,10,11] [.t 0 0,.t 1 0,.t 2 0,.t 3 0,.t 4 0,.t 5 0,.t 6 0,.t 7 3,.t 8 0,.t 9 0,.t 10 0,.t 11 3,.t 12 0,.s 13,.t 14 0,.s 15] [])) .d))))) [] [] (λd=>wY N d.1) func71 ntmps71
def MC(N:Nat)(b:en)(d:Int)(c:Int):Nat->(Int×dz)->Option (dz):=b3 λa gA=>
  cond (decide (a.1<((b.getD c.toNat dQ.zero).2.length:Int))) (ao ((a8 a.1 (b.getD c.toNat dQ.zero).2.length)&&(true)) <|
  ao ((dx 24 (a.2.length+[(((b.getD c.toNat dQ.zero).2.getD a.1.toNat aN.zero),((decide ((b.getD c.toNat dQ.zero).1=1)),d))].length))&&(true)) <|
  ao ((bl (a.1+1))&&(true)) <|
  gA ((a.1+1),(a.2++[(((b.getD c.toNat dQ.zero).2.getD a.1.toNat aN.zero),((decide ((b.getD c.toNat dQ.zero).1=1)),d))]))) (some a.2)
def TJ(N:Nat)(a:en)(b:Int):Nat->(Int×dz)->Option (dz):=b3 λd2 eD=>
  cond (decide (d2.1<(a.length:Int))) (ao ((a8 d2.1 a.length)&&(true)) <|
  (MC N a b d2.1 N (0,d2.2)).bind λc=>
  ao ((bl (d2.1+1))&&(true)) <|
  eD ((d2.1+1),c)) (some d2.2)
def qO(N:Nat)(a:en)(c:Int):Option (dz):=
  (zf N a).bind λb=>
  ao (((decide (0<=(b.length:Int)))&&(eT 24 (b.length:Int)))&&(true)) <|
  (TJ N a c N (0,([]:dz))).bind λd=>
  cond (!(decide (c=1))) ((wY N d).bind λe=>
  some e) (some d)
def TK(N:Nat):bw bL:=b2 N bF [.c (.bo dQ),.c (.int .u8)] [] ⟨.a (.c (.bo c4)),[],[]⟩ [MA N,MB N] [] (.s .d (.s .d (.s .d (.s (.s .d (.b (.eh 0 ⟨[(6,.a (.c (.raw (.ax 15)))),(18,.a (.c (.int .i64)))],[(15,.row 116 c4)],[1,16,17],[]⟩ ⟨[(6,.a (.c (.raw (.ax 15))))],[(15,.row 116 c4)],[1],[]⟩ (.s .d (.s .d (.s (.b (.s (.r [.n 4,.w (.bX 8 dQ)]) (.s .d (.b (.eh 2 ⟨[(6,.a (.c (.raw (.ax 15)))),(25,.a (.c (.int .i64)))],[(15,.row 116 c4)],[1,8,16,17,18,23,24],[]⟩ ⟨[(6,.a (.c (.raw (.ax 15))))],[(15,.row 116 c4)],[1,16,17,18],[]⟩ (.s .d (.s .d (.s (.b (.s (.r [.n 4,.w (.bX 10 aN)]) .d)) .d)))))))) .d)))))) (.s (.s .d (.c (.r [.n 1,.c [(2000000,15)]]) .d)) (.s .d (.t [.cT 15]))))))) [.tmp 4] [] (λd=>qO N d.1 d.2.1) func25 ntmps25
def zg(N:Nat)(a:Int):Option (Bool):=
  some (cond (decide (a=0)) true (decide (a=1)))
def MD(N:Nat):bw bL:=b2 N bF [.c (.int .u8)] [] ⟨.a (.c .bool),[],[]⟩ [] [] (.d) [.tmp 2] false (λd=>zg N d.1) func72 ntmps72
def wZ(N:Nat)(a:ab):Option (Bool):=
  some (cond (cond (cond (decide (1<=a.1)) (decide (a.1<=6)) false) (decide (0<=a.2)) false) (decide (a.2<2048)) false)
def F8(N:Nat):bw bL:=b2 N bF [.cR aN] [] ⟨.a (.c .bool),[],[]⟩ [] [] (.s (.r [.n 2,.w (.bX 1 aN)]) .d) [.tmp 2] false (λd=>wZ N d.1) func118 ntmps118
def B9(N:Nat)(a:cn):Option (Bool):=
  (wZ N a.1).bind λb=>
  Option.bind (cond b (zg N a.2.2) (some false)) λc=>
  some (cond b c false)
def TL(N:Nat):bw bL:=b2 N bF [.cR c4] [] ⟨.a (.c .bool),[],[]⟩ [F8 N,MD N] [] (.s (.r [.n 2,.w (.bX 1 c4)]) .d) [.tmp 2] false (λd=>B9 N d.1) func67 ntmps67
def w0(N:Nat)(a:Int):Option (Bool):=
  some (cond (cond (!(decide ((tmod a 2)=0))) (decide ((-13:Int)<=a)) false) (decide (a<=179)) false)
def TM(N:Nat):bw bL:=b2 N bF [.c (.int .i64)] [] ⟨.a (.c .bool),[],[]⟩ [] [] (.d) [.tmp 2] false (λd=>w0 N d.1) func66 ntmps66
def Ca(N:Nat)(a:cn)(b:cn):Option (Bool):=
  (zg N a.2.2).bind λc=>
  Option.bind (cond (!(!c)) (zg N b.2.2) (some false)) λd=>
  cond (cond (cond (!c) true (!d)) true (decide (a.2.2=b.2.2))) (some false) (some (a7.beq c4 a (b.1,(b.2.1,a.2.2))))
def TN(N:Nat):bw bL:=b2 N bF [.cR c4,.cR c4] [] ⟨.a (.c .bool),[],[]⟩ [MD N] [] (.s (.r [.n 3,.w (.bX 2 c4)]) .d) [.tmp 4] false (λd=>Ca N d.1 d.2.1) func117 ntmps117
def TO(N:Nat)(a:dz):Nat->(Int×dz)->Option (dz):=b3 λd1 c5=>
  cond (decide (d1.1<(a.length:Int))) (ao ((a8 d1.1 a.length)&&(true)) <|
  ao ((ez (decide (0<(d1.2.length:Int))) (bl ((d1.2.length:Int)-1)))&&((ez (decide (0<(d1.2.length:Int))) (a8 ((d1.2.length:Int)-1) d1.2.length))&&((ez (decide (0<(d1.2.length:Int))) (decide (((d1.2.length:Int)-1).toNat<d1.2.length)))&&(true)))) <|
  Option.bind (cond (decide (0<(d1.2.length:Int))) (Ca N (d1.2.getD ((d1.2.length:Int)-1).toNat c4.zero) (a.getD d1.1.toNat c4.zero)) (some false)) λb=>
  cond (cond (decide (0<(d1.2.length:Int))) b false) (ao ((bl ((d1.2.length:Int)-1))&&(((decide (0<=((d1.2.length:Int)-1)))&&(decide (((d1.2.length:Int)-1)<=(d1.2.length:Int))))&&(true))) <|
  ao ((bl (d1.1+1))&&(true)) <|
  c5 ((d1.1+1),(d1.2.take ((d1.2.length:Int)-1).toNat))) (ao ((dx 24 (d1.2.length+[(a.getD d1.1.toNat c4.zero)].length))&&(true)) <|
  ao ((bl (d1.1+1))&&(true)) <|
  c5 ((d1.1+1),(d1.2++[(a.getD d1.1.toNat c4.zero)])))) (some d1.2)
def Cb(N:Nat)(a:dz)(b:dz):Option (dz):=
  (TO N a N (0,b)).bind λc=>
  some c
def TP(N:Nat):bw bL:=b2 N bF [.c (.raw (.ax 1000000)),.c (.bo c4)] [(1000000,.row 116 c4)] ⟨.a (.c (.raw (.ax 1000000))),[(1000000,.row 116 c4)],[]⟩ [TN N] [] (.s .d (.s (.s .d (.b (.eh 0 ⟨[(0,.a (.c (.raw (.ax 1000000)))),(10,.a (.c (.int .i64)))],[(1000000,.row 116 c4)],[8,9],[]⟩ ⟨[(0,.a (.c (.raw (.ax 1000000))))],[(1000000,.row 116 c4)],[],[]⟩ (.s .d (.s .d (.s (.b (.s (.r [.n 4,.w (.bX 6 c4)]) (.s .d (.s (.nr [8] [.t 0 0,.t 1 0,.t 2 0,.t 3 0,.t 4 0,.t 5 0,.t 6 0,.t 7 3,.t 8 1,.g 9,.t 10 0] []) .d)))) .d)))))) .d)) [.tmp 4] [] (λd=>Cb N d.1 d.2.1) func68 ntmps68
def w1(N:Nat)(a:dz):Option (dz×Nat):=
  ao (((decide (0<=(a.length:Int)))&&(decide ((a.length:Int)<=(a.length:Int)))&&(eT 24 (a.length:Int)))&&(true)) <|
  ao ((beq a.length (replicate (a.length:Int).toNat (c4.zero:cn)).length)&&(true)) <|
  some (a,(a.length:Int).toNat)
def ME(N:Nat):bw bL:=b2 N bF [.c (.bo c4)] [] ⟨.a (.c (.ie c4)),[],[]⟩ [] [] (.s .d (.s .d (.s .d (.s .d (.t [.cT 6]))))) [.tmp 2] ([],0) (λd=>w1 N d.1) func69 ntmps69
def TQ(N:Nat)(a:bd):Nat->Int->Option ((Unit)⊕(Int)):=b3 λd2 eD=>
  cond (decide (d2<(a.2.2.2.2.length:Int))) (ao ((a8 d2 a.2.2.2.2.length)&&(true)) <|
  (B9 N (a.2.2.2.2.getD d2.toNat c4.zero)).bind λb=>
  ao ((ez ((!(!b))&&(decide (0<d2))) (bl (d2-1)))&&((ez ((!(!b))&&(decide (0<d2))) (a8 (d2-1) a.2.2.2.2.length))&&(true))) <|
  Option.bind (cond ((!(!b))&&(decide (0<d2))) (Ca N (a.2.2.2.2.getD (d2-1).toNat c4.zero) (a.2.2.2.2.getD d2.toNat c4.zero)) (some false)) λc=>
  cond (cond (!b) true (cond (decide (0<d2)) c false)) (some (.inr 1)) (ao ((bl (d2+1))&&(true)) <|
  eD (d2+1))) (some (.inl ()))
def rY(N:Nat)(a:bd):Option (Int):=
  cond (cond (decide (a.2.2.1<0)) true (decide (2048<a.2.2.1))) (some 1) (cond (!a.1) (cond (cond (cond (!(decide (a.2.1=0))) true a.2.2.2.1) true (decide (0<(a.2.2.2.2.length:Int)))) (some 1) (some 0)) ((w0 N a.2.1).bind λc=>
  cond (cond (!c) true (decide (4096<(a.2.2.2.2.length:Int)))) (some 1) ((TQ N a N 0).bind λ(b:(Unit)⊕(Int))=>
  sm b (λb=>
  some 0) (λq=>some q))))
def zh(N:Nat):bw bL:=b2 N bF [.cR bH] [] ⟨.a (.c (.int .i64)),[],[]⟩ [TM N,TL N,TN N] [] (.s (.r [.n 2,.w (.bX 1 bH)]) (.s .d (.s .d (.s .d (.s (.s .d (.b (.fr 0 ⟨[(42,.a (.c (.int .i64)))],[],[1,40,41],[]⟩ ⟨[],[],[],[]⟩ (.s .d (.s .d (.s (.b (.s (.r [.n 6,.w (.bX 4 c4)]) (.s (.o [] [.t 0 1,.c 1 [],.f,.t 2 0,.t 3 0,.t 4 0,.t 5 0,.t 6 0,.t 7 0,.t 8 1,.t 9 0,.t 10 0,.t 11 0,.t 12 1,.t 13 1,.g 14,.t 15 0,.t 16 0] []) .d))) .d)))))) .d))))) [.tmp 2] 0 (λd=>rY N d.1) func65 ntmps65
def F9(N:Nat)(a:dz):Option (dz×Nat):=
  ao (((decide (0<=(a.length:Int)))&&(eT 24 (a.length:Int)))&&(true)) <|
  (Cb N a ([]:dz)).bind λc=>
  (w1 N c).bind λb=>
  some (b.1,b.2)
def af5(N:Nat):bw bL:=b2 N bF [.c (.bo c4)] [] ⟨.a (.c (.ie c4)),[],[]⟩ [TP N,ME N] [] (.s .d (.s (.r [.n 4,.c [(1000000,5)],.w (.cT 5)]) .d)) [.tmp 2] ([],0) (λd=>F9 N d.1) func226 ntmps226
def TR(N:Nat)(b:dz):Nat->Int->Option ((Unit)⊕(bd×Int)):=b3 λa gA=>
  cond (decide (a<(b.length:Int))) (ao ((a8 a b.length)&&(true)) <|
  (B9 N (b.getD a.toNat c4.zero)).bind λc=>
  cond (!c) (some (.inr ((false,(0,(0,(false,([]:dz))))),1))) (ao ((bl (a+1))&&(true)) <|
  gA (a+1))) (some (.inl ()))
def lH(N:Nat)(a:bd)(d:Int)(b:dz):Option (bd×Int):=
  (rY N a).bind λc=>
  cond (!(decide (c=0))) (some ((false,(0,(0,(false,([]:dz))))),c)) ((w0 N d).bind λg=>
  cond (!g) (some ((false,(0,(0,(false,([]:dz))))),1)) ((TR N b N 0).bind λ(f:(Unit)⊕(bd×Int))=>
  sm f (λf=>
  cond (!a.1) (some ((false,(0,(0,(false,([]:dz))))),12)) (ao ((bl ((a.2.2.2.2.length:Int)+(b.length:Int)))&&(((decide (0<=((a.2.2.2.2.length:Int)+(b.length:Int))))&&(eT 24 ((a.2.2.2.2.length:Int)+(b.length:Int))))&&(true))) <|
  ao ((dx 24 (([]:dz).length+a.2.2.2.2.length))&&(true)) <|
  (Cb N b (([]:dz)++a.2.2.2.2)).bind λe=>
  cond (decide (4096<(e.length:Int))) (some ((false,(0,(0,(false,([]:dz))))),3)) ((w1 N e).bind λh=>
  some ((a.1,(d,(a.2.2.1,(a.2.2.2.1,h.1)))),0)))) (λq=>some q)))
def Cc(N:Nat):bw bL:=b2 N bF [.cR bH,.c (.int .i64),.c (.bo c4)] [] ⟨.da [.cR bH,.c (.int .i64)],[],[]⟩ [zh N,TM N,TL N,TP N,ME N] [] (.s .d (.s .d (.s .d (.s (.s .d (.b (.fr 0 ⟨[(3,.a (.c (.raw (.ptr 3 0)))),(6,.a (.c (.raw (.ptr 6 0)))),(24,.a (.c (.int .i64)))],[],[1,2,22,23],[3,6]⟩ ⟨[(3,.a (.c (.raw (.ptr 3 0)))),(6,.a (.c (.raw (.ptr 6 0))))],[],[1,2],[3,6]⟩ (.s .d (.s .d (.s (.b (.s (.r [.n 4,.w (.bX 10 c4)]) .d)) .d)))))) (.s .d (.s .d (.s (.r [.n 5,.c [(1000000,43)]]) (.s .d (.s .d (.s (.r [.n 1,.w (.cT 43)]) .d)))))))))) [.cell 6 73,.tmp 7] (bH.zero,0) (λd=>lH N d.1 d.2.1 d.2.2.1) func24 ntmps24
def te(N:Nat)(a:bd)(c:Int):Option (bd×Int):=
  (rY N a).bind λb=>
  cond (!(decide (b=0))) (some ((false,(0,(0,(false,([]:dz))))),b)) ((zg N c).bind λd=>
  cond (!d) (some ((false,(0,(0,(false,([]:dz))))),1)) (cond a.1 (some ((false,(0,(0,(false,([]:dz))))),12)) (cond (decide (c=1)) (some ((true,(179,(a.2.2.1,(true,([]:dz))))),0)) (some ((true,((-13:Int),(a.2.2.1,(true,([]:dz))))),0)))))
def MF(N:Nat):bw bL:=b2 N bF [.cR bH,.c (.int .u8)] [] ⟨.da [.cR bH,.c (.int .i64)],[],[]⟩ [zh N,MD N] [] (.s (.r [.n 3,.w (.bX 2 bH)]) .d) [.cell 4 73,.tmp 5] (bH.zero,0) (λd=>te N d.1 d.2.1) func26 ntmps26
def nX(N:Nat)(a:bd):Option (bd×Md×Int):=
  (rY N a).bind λb=>
  cond (!(decide (b=0))) (some ((false,(0,(0,(false,([]:dz))))),(0,(false,([]:dz))),b)) (cond (!a.1) (some ((false,(0,(0,(false,([]:dz))))),(0,(false,([]:dz))),12)) (cond (decide (a.2.2.1=2048)) (some ((false,(0,(0,(false,([]:dz))))),(0,(false,([]:dz))),3)) ((w1 N a.2.2.2.2).bind λc=>
  ao ((bl (a.2.2.1+1))&&(true)) <|
  some ((true,(a.2.1,((a.2.2.1+1),(false,([]:dz))))),(a.2.2.1,(a.2.2.2.1,c.1)),0))))
def Ga(N:Nat)(a:bd):Option (bd×Md×Int):=
  (rY N a).bind λb=>
  cond (!(decide (b=0))) (some ((false,(0,(0,(false,([]:dz))))),(0,(false,([]:dz))),b)) (cond (!a.1) (some ((false,(0,(0,(false,([]:dz))))),(0,(false,([]:dz))),12)) (cond (decide (a.2.2.1=2048)) (some ((false,(0,(0,(false,([]:dz))))),(0,(false,([]:dz))),3)) (fM ((w1 N a.2.2.2.2).bind λc=>
  ao ((bl (a.2.2.1+1))&&(true)) <|
  some ((true,(a.2.1,((a.2.2.1+1),(false,([]:dz))))),(a.2.2.1,(a.2.2.2.1,c.1)),0)))))
theorem af6:Ga=nX:=by
 unfold Ga nX;simp only[fM,mF]
def MG(N:Nat):bw bL:=ns N bF [.cR bH] [] ⟨.da [.cR bH,.cR uE,.c (.int .i64)],[],[]⟩ [zh N,ME N] [] (.s (.r [.n 4,.w (.bX 1 bH)]) (.s .d (.s .d (.s .d (.s (.fw [] [] (.b [.t 0 0,.t 1 1,.t 2 0,.t 3 1,.t 4 0,.t 5 1] 6 8 [] [] none none (.f [.t 7 0,.s 8,.s 9]) (.f [.c 6 [],.t 7 0,.s 9])) [(.bX 6 uE)] false) (.s (.o [] [.t 0 0,.t 1 1,.t 2 0,.t 3 1,.t 4 0,.t 5 0,.t 6 1,.s 7,.s 8,.t 9 0] []) .d)))))) [.cell 2 73,.cell 3 157,.tmp 4] (bH.zero,uE.zero,0) (λd=>Ga N d.1) (λd=>nX N d.1) (λd=>(by rw[af6]:Ga N d.1=nX N d.1)) func81 ntmps81
def TS(N:Nat)(a:List (Bool×en)):Nat->(Int×Int×(List (Bool×en)))->Option (Int×(List (Bool×en))):=b3 λd1 c5=>
  cond (decide (d1.2.1<(a.length:Int))) (ao ((a8 d1.2.1 d1.2.2.length)&&(((decide (d1.2.1.toNat<d1.2.2.length))&&(d1.2.2.getD d1.2.1.toNat (false,[])).1)&&(true))) <|
  ao ((bl (d1.1+((d1.2.2.getD d1.2.1.toNat (false,[])).2.length:Int)))&&(true)) <|
  ao ((bl (d1.2.1+1))&&(true)) <|
  c5 ((d1.1+((d1.2.2.getD d1.2.1.toNat (false,[])).2.length:Int)),(d1.2.1+1),(d1.2.2.set d1.2.1.toNat (true,(d1.2.2.getD d1.2.1.toNat (false,[])).2)))) (some (d1.1,d1.2.2))
def TT(N:Nat)(a:Int×(List (Bool×en))):Nat->(Int×Int×en×(List (Bool×en)))->Option (en×(List (Bool×en))):=b3 λd2 eD=>
  cond (decide (d2.2.1<(a.2.length:Int))) (ao ((a8 d2.2.1 d2.2.2.2.length)&&(((decide (d2.2.1.toNat<d2.2.2.2.length))&&(d2.2.2.2.getD d2.2.1.toNat (false,[])).1)&&(true))) <|
  ao (((decide (0<=d2.1))&&(decide (d2.1<=(d2.2.2.1.length:Int))))&&((decide (d2.1.toNat+(d2.2.2.2.getD d2.2.1.toNat (false,[])).2.length<=d2.2.2.1.length))&&((bl (d2.1+((d2.2.2.2.getD d2.2.1.toNat (false,[])).2.length:Int)))&&(true)))) <|
  ao ((bl (d2.2.1+1))&&(true)) <|
  eD ((d2.1+((d2.2.2.2.getD d2.2.1.toNat (false,[])).2.length:Int)),(d2.2.1+1),(d2.2.2.1.take d2.1.toNat++(d2.2.2.2.getD d2.2.1.toNat (false,[])).2++d2.2.2.1.drop (d2.1.toNat+(d2.2.2.2.getD d2.2.1.toNat (false,[])).2.length)),(d2.2.2.2.set d2.2.1.toNat (true,(d2.2.2.2.getD d2.2.1.toNat (false,[])).2)))) (some (d2.2.2.1,d2.2.2.2))
def Gb(N:Nat)(b:List (Bool×en)):Option (en×(List (Bool×en))):=
  (TS N b N (0,0,b)).bind λa=>
  ao (((decide (0<=a.1))&&(decide (a.1<=a.1))&&(eT 32 a.1))&&(true)) <|
  (TT N a N (0,0,(replicate a.1.toNat (dQ.zero:dL)),a.2)).bind λc=>
  some (c.1,c.2)
def af7(N:Nat):bw bL:=b2 N bF [.c (.raw (.ax 2000000))] [(2000000,.b0 65 137 dQ)] ⟨.a (.c (.bo dQ)),[(2000000,.b0 65 137 dQ)],[]⟩ [] [] (.s .d (.s .d (.s (.s .d (.b (.eh 0 ⟨[(0,.a (.c (.raw (.ax 2000000)))),(3,.a (.c (.int .i64))),(10,.a (.c (.raw (.ax 2000000)))),(12,.a (.c (.int .i64)))],[(2000000,.b0 65 137 dQ)],[11],[]⟩ ⟨[(0,.a (.c (.raw (.ax 2000000)))),(3,.a (.c (.int .i64)))],[(2000000,.b0 65 137 dQ)],[],[]⟩ (.s .d (.s .d (.s (.b (.s (.r [.n 1,.t .Bg]) (.r [.n 5,.w (.t (.close 2000000 15))]))) .d)))))) (.s .d (.s .d (.s (.s .d (.b (.eh 2 ⟨[(6,.a (.c (.raw (.ax 22)))),(7,.a (.c (.int .i64))),(23,.a (.c (.raw (.ax 2000000)))),(25,.a (.c (.int .i64)))],[(22,.row 137 dQ),(2000000,.b0 65 137 dQ)],[24],[]⟩ ⟨[(6,.a (.c (.raw (.ax 22))))],[(22,.row 137 dQ),(2000000,.b0 65 137 dQ)],[],[]⟩ (.s .d (.s .d (.s (.b (.s (.r [.n 1,.t .Bg]) (.r [.n 8,.w (.t (.close 2000000 28))]))) .d)))))) (.s .d (.t [.cT 22])))))))) [.tmp 2] ([],[]) (λd=>Gb N d.1) func113 ntmps113
def w2(N:Nat)(a:Int):Option (Int):=
  cond (decide (a=0)) (some 1) (some 0)
def TU(N:Nat):bw bL:=b2 N bF [.c (.int .u8)] [] ⟨.a (.c (.int .u8)),[],[]⟩ [] [] (.d) [.tmp 2] 0 (λd=>w2 N d.1) func111 ntmps111
def Cd(N:Nat)(a:Int):Option (Int):=
  cond (decide (a=0)) (some (-13:Int)) (some 179)
def af8(N:Nat):bw bL:=b2 N bF [.c (.int .u8)] [] ⟨.a (.c (.int .i64)),[],[]⟩ [] [] (.d) [.tmp 2] 0 (λd=>Cd N d.1) func112 ntmps112
def Ce(N:Nat)(b:Int)(g:Int)(f:dz)(d:(List lG))(e:Int)(a:cA):Option (Int×(List lG)×Int×cA):=
  ao ((a8 (IntKind.wrap .u8 (b-1)) a.length)&&((decide ((IntKind.wrap .u8 (b-1)).toNat<a.length))&&(true))) <|
  (lH N (a.getD (IntKind.wrap .u8 (b-1)).toNat bH.zero) g f).bind λc=>
  cond (decide (c.2=0)) (ao ((a8 (IntKind.wrap .u8 (b-1)) a.length)&&(((decide ((IntKind.wrap .u8 (b-1)).toNat<a.length))&&(true))&&(true))) <|
  some (c.2,d,e,(a.set (IntKind.wrap .u8 (b-1)).toNat c.1))) (some (c.2,d,e,a))
def TV(N:Nat):bw bL:=b2 N bF [.c (.raw (.ptr 1000000 0)),.c (.int .u8),.c (.int .i64),.c (.bo c4)] [ir,(2000001,.row 73 bH)] ⟨.a (.c (.int .i64)),[ir,(2000001,.row 73 bH)],[]⟩ [Cc N] [] (.s .d (.s (.r [.n 17,.w (.bX 9 bH)]) (.s (.s .d (.c (.o [4,5,6] [.t 0 0,.t 1 0,.t 2 0,.t 3 3,.t 4 0,.t 5 0,.t 6 1,.t 7 0,.s 8] []) .d)) .d))) [.tmp 8] (0,[],0,[]) (λd=>Ce N d.1 d.2.1 d.2.2.1 d.2.2.2.1 d.2.2.2.2.1 d.2.2.2.2.2.1) func60 ntmps60
def Gc(N:Nat)(b:Int)(e:(List lG))(c:Int)(g:List (Bool×en))(a:cA):Option (Int×(List lG)×Int×(List (Bool×en))×cA):=
  (w2 N c).bind λd=>
  ao ((a8 (IntKind.wrap .u8 (b-1)) a.length)&&((decide ((IntKind.wrap .u8 (b-1)).toNat<a.length))&&(true))) <|
  cond (!(a.getD (IntKind.wrap .u8 (b-1)).toNat bH.zero).1) ((te N (a.getD (IntKind.wrap .u8 (b-1)).toNat bH.zero) d).bind λh=>
  Option.bind (cond (decide (h.2=0)) (ao ((a8 (IntKind.wrap .u8 (b-1)) a.length)&&(((decide ((IntKind.wrap .u8 (b-1)).toNat<a.length))&&(true))&&(true))) <|
  some (e,c,(a.set (IntKind.wrap .u8 (b-1)).toNat h.1))) (some (e,c,a))) λi=>
  some (h.2,i.1,i.2.1,g,i.2.2)) ((Cd N d).bind λk=>
  cond (decide ((a.getD (IntKind.wrap .u8 (b-1)).toNat bH.zero).2.1=k)) (some (0,e,c,g,a)) ((Cd N d).bind λl=>
  (Gb N g).bind λj=>
  (qO N j.1 d).bind λm=>
  (Ce N b l m e c a).bind λf=>
  some (f.1,f.2.1,f.2.2.1,j.2,f.2.2.2)))
def af9(N:Nat):bw bL:=b2 N bF [.c (.raw (.ptr 1000000 0)),.c (.int .u8)] [ir,(2000000,.b0 65 137 dQ),(2000001,.row 73 bH)] ⟨.a (.c (.int .i64)),[ir,(2000000,.b0 65 137 dQ),(2000001,.row 73 bH)],[]⟩ [TU N,MF N,af8 N,af7 N,TK N,TV N] [] (.s .d (.s .d (.s (.r [.n 10,.w (.bX 6 bH)]) (.s (.s .d (.c (.s (.r [.n 9,.w (.bX 7 bH)]) (.j ⟨[],[ir,(2000001,.row 73 bH)],[8],[2000000]⟩ (.s .d (.c (.o [4,5,6] [.t 0 0,.t 1 0,.t 2 0,.t 3 3,.t 4 0,.t 5 0,.t 6 1,.t 7 0,.s 8] []) .d)) .d)) .d)) (.s (.s (.o [] [.t 0 0,.t 1 1,.t 2 0,.c 3 [],.t 4 0] []) .d) (.s (.o [3,8,9,1000011] [.t 0 0,.t 1 0,.t 2 0,.t 4 0,.t 5 0,.t 6 0,.t 7 3,.t 9 0,.c 3 [],.c 8 [(2000000,2000000)],.c 10 [],.c 11 [(1000000,1000000),(2000000,2000000),(2000002,2000002),(2000001,2000001)],.t 12 0] []) .d)))))) [.tmp 4] (0,[],0,[],[]) (λd=>Gc N d.1 d.2.1 d.2.2.1 d.2.2.2.1 d.2.2.2.2.1) func58 ntmps58
def TW(N:Nat)(a:ch):Nat->(Int×Int)->Option (Int):=b3 λd1 c5=>
  cond (decide (d1.2<(a.length:Int))) (ao ((a8 d1.2 a.length)&&(true)) <|
  ao ((bl (d1.1+((a.getD d1.2.toNat []).length:Int)))&&(true)) <|
  ao ((bl (d1.2+1))&&(true)) <|
  c5 ((d1.1+((a.getD d1.2.toNat []).length:Int)),(d1.2+1))) (some d1.1)
def tf(N:Nat)(a:ch):Option (Int):=
  (TW N a N (0,0)).bind λb=>
  some b
def MH(N:Nat):bw bL:=b2 N bF [.c (.bo (.ax bV))] [] ⟨.a (.c (.int .i64)),[],[]⟩ [] [] (.s .d (.s .d (.s (.s .d (.b (.eh 0 ⟨[(3,.a (.c (.int .i64))),(8,.a (.c (.int .i64)))],[],[6,7],[]⟩ ⟨[(3,.a (.c (.int .i64)))],[],[],[]⟩ .d))) .d))) [.tmp 2] 0 (λd=>tf N d.1) func75 ntmps75
def TX(N:Nat)(a:List (Bool×dh)):Nat->(Int×Int×(List (Bool×dh)))->Option (Int×(List (Bool×dh))):=b3 λd1 c5=>
  cond (decide (d1.2.1<(a.length:Int))) (ao ((a8 d1.2.1 d1.2.2.length)&&(((decide (d1.2.1.toNat<d1.2.2.length))&&(d1.2.2.getD d1.2.1.toNat (false,[])).1)&&(true))) <|
  ao ((bl (d1.1+((d1.2.2.getD d1.2.1.toNat (false,[])).2.length:Int)))&&(true)) <|
  ao ((bl (d1.2.1+1))&&(true)) <|
  c5 ((d1.1+((d1.2.2.getD d1.2.1.toNat (false,[])).2.length:Int)),(d1.2.1+1),(d1.2.2.set d1.2.1.toNat (true,(d1.2.2.getD d1.2.1.toNat (false,[])).2)))) (some (d1.1,d1.2.2))
def w3(N:Nat)(a:List (Bool×dh)):Option (Int×(List (Bool×dh))):=
  (TX N a N (0,0,a)).bind λb=>
  some (b.1,b.2)
def TY(N:Nat):bw bL:=b2 N bF [.c (.raw (.ax 2000000))] [(2000000,.b0 118 113 bV)] ⟨.a (.c (.int .i64)),[(2000000,.b0 118 113 bV)],[]⟩ [] [] (.s .d (.s .d (.s (.s .d (.b (.eh 0 ⟨[(3,.a (.c (.int .i64))),(6,.a (.c (.raw (.ax 2000000)))),(8,.a (.c (.int .i64)))],[(2000000,.b0 118 113 bV)],[7],[]⟩ ⟨[(3,.a (.c (.int .i64)))],[(2000000,.b0 118 113 bV)],[],[]⟩ (.s .d (.s .d (.s (.b (.s (.r [.n 1,.t .Bg]) (.r [.n 5,.w (.t (.close 2000000 11))]))) .d)))))) .d))) [.tmp 2] (0,[]) (λd=>w3 N d.1) func75 ntmps75
def w4(N:Nat)(a:Int)(g:Int)(j:b9)(e:(List lG))(f:Int)(k:List (Bool×dh))(c:cA):Option (ab×Int×(List lG)×Int×(List (Bool×dh))×cA):=
  (w3 N k).bind λb=>
  cond (decide (2048<=b.1)) (some ((0,0),3,e,f,b.2,c)) (ao ((a8 (IntKind.wrap .u8 (a-1)) c.length)&&((decide ((IntKind.wrap .u8 (a-1)).toNat<c.length))&&(true))) <|
  (nX N (c.getD (IntKind.wrap .u8 (a-1)).toNat bH.zero)).bind λd=>
  cond (!(decide (d.2.2=0))) (some ((0,0),d.2.2,e,f,b.2,c)) (ao ((a8 (IntKind.wrap .u8 (a-1)) c.length)&&(((decide ((IntKind.wrap .u8 (a-1)).toNat<c.length))&&(true))&&(true))) <|
  (zd N j).bind λh=>
  (ze N d.2.1.2.2).bind λi=>
  ao (((decide ((IntKind.wrap .u8 (a-1)).toNat<b.2.length))&&(b.2.getD (IntKind.wrap .u8 (a-1)).toNat (false,[])).1)) <|
  ao ((a8 (IntKind.wrap .u8 (a-1)) b.2.length)&&(true)) <|
  ao ((decide ((IntKind.wrap .u8 (a-1)).toNat=(IntKind.wrap .u8 (a-1)).toNat))&&((dx 56 ((b.2.getD (IntKind.wrap .u8 (a-1)).toNat (false,[])).2.length+[(g,(d.2.1.2.1,(h.1,i.1)))].length))&&((a8 (IntKind.wrap .u8 (a-1)) b.2.length)&&(((decide ((IntKind.wrap .u8 (a-1)).toNat=(IntKind.wrap .u8 (a-1)).toNat))&&(decide ((IntKind.wrap .u8 (a-1)).toNat<b.2.length)))&&(true))))) <|
  some ((a,d.2.1.1),0,e,f,(b.2.set (IntKind.wrap .u8 (a-1)).toNat (true,((b.2.getD (IntKind.wrap .u8 (a-1)).toNat (false,[])).2++[(g,(d.2.1.2.1,(h.1,i.1)))]))),(c.set (IntKind.wrap .u8 (a-1)).toNat d.1))))
def Gd(N:Nat)(a:Int)(j:Int)(i:b9)(g:(List lG))(h:Int)(l:List (Bool×dh))(d:cA):Option (ab×Int×(List lG)×Int×(List (Bool×dh))×cA):=
  (w3 N l).bind λb=>
  cond (decide (2048<=b.1)) (some ((0,0),3,g,h,b.2,d)) (ao ((a8 (IntKind.wrap .u8 (a-1)) d.length)&&((decide ((IntKind.wrap .u8 (a-1)).toNat<d.length))&&(true))) <|
  (nX N (d.getD (IntKind.wrap .u8 (a-1)).toNat bH.zero)).bind λc=>
  cond (!(decide (c.2.2=0))) (some ((0,0),c.2.2,g,h,b.2,d)) (ao ((a8 (IntKind.wrap .u8 (a-1)) d.length)&&(((decide ((IntKind.wrap .u8 (a-1)).toNat<d.length))&&(true))&&(true))) <|
  (λ(k:_->_->Option _)=>
  hk ((zd N i).bind λe=>
  fM ((ze N c.2.1.2.2).bind λf=>
  k e f)) ((zd N i).bind λe=>
  (ze N c.2.1.2.2).bind λf=>
  k e f)) (λe f=>
  ao (((decide ((IntKind.wrap .u8 (a-1)).toNat<b.2.length))&&(b.2.getD (IntKind.wrap .u8 (a-1)).toNat (false,[])).1)) <|
  ao ((a8 (IntKind.wrap .u8 (a-1)) b.2.length)&&(true)) <|
  fM (ao ((decide ((IntKind.wrap .u8 (a-1)).toNat=(IntKind.wrap .u8 (a-1)).toNat))&&((dx 56 ((b.2.getD (IntKind.wrap .u8 (a-1)).toNat (false,[])).2.length+[(j,(c.2.1.2.1,(e.1,f.1)))].length))&&((a8 (IntKind.wrap .u8 (a-1)) b.2.length)&&(((decide ((IntKind.wrap .u8 (a-1)).toNat=(IntKind.wrap .u8 (a-1)).toNat))&&(decide ((IntKind.wrap .u8 (a-1)).toNat<b.2.length)))&&(true))))) <|
  some ((a,c.2.1.1),0,g,h,(b.2.set (IntKind.wrap .u8 (a-1)).toNat (true,((b.2.getD (IntKind.wrap .u8 (a-1)).toNat (false,[])).2++[(j,(c.2.1.2.1,(e.1,f.1)))]))),(d.set (IntKind.wrap .u8 (a-1)).toNat c.1))))))
theorem aga:Gd=w4:=by
 unfold Gd w4;simp only[fM,mF]
def agb(N:Nat):bw bL:=ns N bF [.c (.raw (.ptr 1000000 0)),.c (.int .u8),.c (.int .u8),.c (.bo aN)] [ir,(2000002,.b0 118 113 bV),(2000001,.row 73 bH)] ⟨.da [.cR aN,.c (.int .i64)],[ir,(2000002,.b0 118 113 bV),(2000001,.row 73 bH)],[]⟩ [TY N,MG N,af2 N,af3 N] [] (.s .d (.s (.s (.r [.n 4,.c [(2000000,2000002)]]) .d) (.s (.r [.n 18,.w (.bX 10 bH),.w (.bX 11 uE)]) (.s .d (.s (.o [4,5,6] [.t 0 0,.t 1 0,.t 2 0,.t 3 3,.t 4 0,.t 5 0,.t 6 1,.t 7 0,.s 8] []) (.s (.fw [] [] (.b [.t 0 0,.t 1 0,.t 2 1,.t 3 0,.t 5 0,.t 6 1] 4 9 [] [] none none (.b [] 7 9 [] [] none none (.f [.t 8 0,.s 9,.s 10]) (.f [.c 7 [],.t 8 0,.s 10])) (.f [.c 4 [],.c 7 [],.t 8 0,.s 10])) [(.bX 13 bV)] false) (.s (.fw [.t (.A5 2000002 1 68 .u8 1)] [4,5,6,7,8,9,10,11,12,13,14,15,16,1000018] (.b [.t 0 0,.t 1 0,.t 2 0,.t 3 3,.t 4 0,.t 5 0,.t 6 0,.t 7 0,.t 8 0,.t 9 3,.t 10 0,.t 11 0,.t 12 0,.t 14 1] 13 15 [] [] none none (.f [.k 15,.k 16,.t 17 0,.u 18 .st]) (.f [.f,.k 13,.k 16,.t 17 0,.u 18 .st])) [] false) (.s (.r [.n 6,.w (.t (.close 2000002 68))]) .d)))))))) [.cell 8 102,.tmp 9] (aN.zero,0,[],0,[],[]) (λd=>Gd N d.1 d.2.1 d.2.2.1 d.2.2.2.1 d.2.2.2.2.1 d.2.2.2.2.2.1 d.2.2.2.2.2.2.1) (λd=>w4 N d.1 d.2.1 d.2.2.1 d.2.2.2.1 d.2.2.2.2.1 d.2.2.2.2.2.1 d.2.2.2.2.2.2.1) (λd=>(by rw[aga]:Gd N d.1 d.2.1 d.2.2.1 d.2.2.2.1 d.2.2.2.2.1 d.2.2.2.2.2.1 d.2.2.2.2.2.2.1=w4 N d.1 d.2.1 d.2.2.1 d.2.2.2.1 d.2.2.2.2.1 d.2.2.2.2.2.1 d.2.2.2.2.2.2.1)) func59 ntmps59
def Ge(N:Nat)(a:dh):Option (dh×Nat):=
  ao (((decide (0<=(a.length:Int)))&&(decide ((a.length:Int)<=(a.length:Int)))&&(decide ((a.length:Int)<=(a.length:Int))))&&(true)) <|
  some ((a.take (a.length:Int).toNat),(a.length:Int).toNat)
def agc(N:Nat):bw bL:=b2 N bF [.c (.bo bV)] [] ⟨.a (.c (.ie bV)),[],[]⟩ [] [] (.d) [.tmp 2] ([],0) (λd=>Ge N d.1) func116 ntmps116
def TZ(N:Nat) :Option ((List (Bool×dh))):=
  some (replicate (6:Int).toNat ((true,[]):Bool×dh))
def agd(N:Nat):bw bL:=b2 N bF [] [] ⟨.a (.c (.raw (.ax 1))),[(1,.b0 118 113 bV)],[]⟩ [] [] (.s .d (.s (.r [.t .mk]) .d)) [.tmp 0] [] (λd=>TZ N ) func110 ntmps110
def Cf(N:Nat) :Option (dd×b9×b9×(List (Bool×dh))):=
  (TZ N).bind λa=>
  some (([]:dd),([]:b9),([]:b9),a)
def T0(N:Nat):bw bL:=b2 N bF [] [] ⟨.a (.agg [.raw (.ax 1),.bo cp,.bo aN,.bo aN]),[(1,.b0 118 113 bV)],[]⟩ [agd N] [] (.s .d (.s (.r [.c [(1,1)]]) .d)) [.cell 0 36] ([],[],[],[]) (λd=>Cf N ) func57 ntmps57
end
section
open Go.RowKit Go.Shelf
section
set_option maxHeartbeats 1000000
set_option maxRecDepth 100000
end
def MI(N:Nat)(a:Int):Option (Bool):=
  some (!(decide (a=a)))
def age(N:Nat):bw bL:=b2 N bF [.c (.int .u8)] [] ⟨.a (.c .bool),[],[]⟩ [] [] (.d) [.tmp 2] false (λd=>MI N d.1) func174 ntmps174
def T1(N:Nat)(a:Int)(b:Int):Option (Int):=
  (MI N a).bind λd=>
  (MI N b).bind λc=>
  cond d (cond c (some 0) (some (-1:Int))) (cond c (some 1) (cond (decide (a<b)) (some (-1:Int)) (cond (decide (b<a)) (some 1) (some 0))))
def agf(N:Nat):bw bL:=b2 N bF [.c (.int .u8),.c (.int .u8)] [] ⟨.a (.c (.int .i64)),[],[]⟩ [age N] [] (.d) [.tmp 4] 0 (λd=>T1 N d.1 d.2.1) func141 ntmps141
def Gf(N:Nat)(a:Int):Option (Bool):=
  some (!(decide (a=a)))
def agh(N:Nat):bw bL:=b2 N bF [.c (.int .i64)] [] ⟨.a (.c .bool),[],[]⟩ [] [] (.d) [.tmp 2] false (λd=>Gf N d.1) func175 ntmps175
def Gg(N:Nat)(a:Int)(b:Int):Option (Int):=
  (Gf N a).bind λd=>
  (Gf N b).bind λc=>
  cond d (cond c (some 0) (some (-1:Int))) (cond c (some 1) (cond (decide (a<b)) (some (-1:Int)) (cond (decide (b<a)) (some 1) (some 0))))
def T2(N:Nat):bw bL:=b2 N bF [.c (.int .i64),.c (.int .i64)] [] ⟨.a (.c (.int .i64)),[],[]⟩ [agh N] [] (.d) [.tmp 4] 0 (λd=>Gg N d.1 d.2.1) func142 ntmps142
def agi(N:Nat)(a:cZ):Nat->Int->Option ((Unit)⊕(Int)):=b3 λd1 c5=>
  cond (decide (d1<(a.length:Int))) (ao ((a8 d1 a.length)&&(true)) <|
  cond (!(decide ((a.getD d1.toNat 0)=0))) (some (.inr (a.getD d1.toNat 0))) (ao ((bl (d1+1))&&(true)) <|
  c5 (d1+1))) (some (.inl ()))
def MJ(N:Nat)(b:cZ):Option (Int):=
  (agi N b N 0).bind λ(a:(Unit)⊕(Int))=>
  sm a (λa=>
  some 0) (λq=>some q)
def T3(N:Nat):bw bL:=b2 N bF [.c (.bo (.int .i64))] [] ⟨.a (.c (.int .i64)),[],[]⟩ [] [] (.s .d (.s .d (.s (.s .d (.b (.fr 0 ⟨[(8,.a (.c (.int .i64)))],[],[3,6,7],[]⟩ ⟨[],[],[3],[]⟩ .d))) .d))) [.tmp 2] 0 (λd=>MJ N d.1) func140 ntmps140
def uI(N:Nat)(a:ab)(b:ab):Option (Int):=
  (T1 N a.1 b.1).bind λc=>
  (Gg N a.2 b.2).bind λe=>
  (MJ N [c,e]).bind λd=>
  some d
def Cg(N:Nat):bw bL:=b2 N bF [.cR aN,.cR aN] [] ⟨.a (.c (.int .i64)),[],[]⟩ [agf N,T2 N,T3 N] [] (.s (.r [.n 3,.w (.bX 2 aN),.w (.bX 3 aN)]) (.s (.o [] [.t 0 0,.t 1 1,.t 2 0,.t 3 1,.t 5 0,.t 6 1,.t 7 0,.t 8 1,.c 4 [],.c 9 [],.s 10,.z 15,.c 11 [],.t 12 0] []) .d)) [.tmp 4] 0 (λd=>uI N d.1 d.2.1) func105 ntmps105
def T4(N:Nat)(a:bT)(b:bT):Option (Int):=
  (uI N a.1 b.1).bind λc=>
  (uI N a.2.1 b.2.1).bind λe=>
  (MJ N [c,e]).bind λd=>
  some d
def agj(N:Nat):bw bL:=b2 N bF [.cR cp,.cR cp] [] ⟨.a (.c (.int .i64)),[],[]⟩ [Cg N,T3 N] [] (.s (.r [.n 3,.w (.bX 2 cp),.w (.bX 3 cp)]) (.s (.o [] [.t 0 0,.t 1 1,.t 2 0,.t 3 1,.t 5 0,.t 6 1,.t 7 0,.t 8 1,.c 4 [],.c 9 [],.s 10,.z 15,.c 11 [],.t 12 0] []) .d)) [.tmp 4] 0 (λd=>T4 N d.1 d.2.1) func151 ntmps151
def Ch(N:Nat)(b:ch)(a:ab):Option (Bool):=
  ao ((ez (decide (1<=a.1)) (bl a.1))&&((ez (cond (cond (decide (1<=a.1)) (decide (a.1<=(b.length:Int))) false) (decide (0<=a.2)) false) (a8 (IntKind.wrap .u8 (a.1-1)) b.length))&&(true))) <|
  some (cond (cond (cond (decide (1<=a.1)) (decide (a.1<=(b.length:Int))) false) (decide (0<=a.2)) false) (decide (a.2<((b.getD (IntKind.wrap .u8 (a.1-1)).toNat []).length:Int))) false)
def agk(N:Nat):bw bL:=b2 N bF [.c (.bo (.ax bV)),.cR aN] [] ⟨.a (.c .bool),[],[]⟩ [] [] (.s (.r [.n 2,.w (.bX 3 aN)]) (.s (.o [] [.t 0 0,.t 1 1,.t 2 0,.t 3 0,.t 4 0,.t 5 1,.t 6 0,.t 7 0,.t 8 0,.t 9 0,.t 10 0,.t 11 0,.t 12 0,.t 13 1,.t 14 0,.t 15 0,.t 16 0,.t 17 0,.t 18 1,.t 19 0,.t 20 0,.t 21 1,.t 22 0,.t 23 0,.t 24 1,.t 25 0,.t 26 0,.t 27 0,.t 28 0] []) .d)) [.tmp 4] false (λd=>Ch N d.1 d.2.1) func225 ntmps225
def T5(N:Nat)(b:ch)(a:aZ):Nat->Int->Option ((Unit)⊕(Bool)):=b3 λd1 c5=>
  cond (decide (d1<(a.2.2.1.length:Int))) (ao ((a8 d1 a.2.2.1.length)&&(true)) <|
  (Ch N b (a.2.2.1.getD d1.toNat aN.zero)).bind λc=>
  cond (!c) (some (.inr false)) (ao ((bl (d1+1))&&(true)) <|
  c5 (d1+1))) (some (.inl ()))
def T6(N:Nat)(c:ch)(b:aZ):Nat->Int->Option ((Unit)⊕(Bool)):=b3 λa gA=>
  cond (decide (a<(b.2.2.2.length:Int))) (ao ((a8 a b.2.2.2.length)&&(true)) <|
  (Ch N c (b.2.2.2.getD a.toNat c4.zero).1).bind λd=>
  cond (cond (!d) true (cond (!(decide ((b.2.2.2.getD a.toNat c4.zero).2.2=0))) (!(decide ((b.2.2.2.getD a.toNat c4.zero).2.2=1))) false)) (some (.inr false)) (ao ((bl (a+1))&&(true)) <|
  gA (a+1))) (some (.inl ()))
def Gh(N:Nat)(b:ch)(a:aZ):Option (Bool):=
  cond (cond (!(decide (a.1=0))) (!(decide (a.1=1))) false) (some false) (cond (cond (decide (4<(a.2.2.1.length:Int))) true (decide (4096<(a.2.2.2.length:Int)))) (some false) ((T5 N b a N 0).bind λ(c:(Unit)⊕(Bool))=>
  sm c (λc=>
  (T6 N b a N 0).bind λ(d:(Unit)⊕(Bool))=>
  sm d (λd=>
  (F9 N a.2.2.2).bind λe=>
  some (decide ((e.1.length:Int)=(a.2.2.2.length:Int)))) (λq=>some q)) (λq=>some q)))
def agl(N:Nat):bw bL:=b2 N bF [.c (.bo (.ax bV)),.cR bV] [] ⟨.a (.c .bool),[],[]⟩ [agk N,af5 N] [] (.s (.r [.n 2,.w (.bX 3 bV)]) (.s .d (.s .d (.s (.s .d (.b (.fr 0 ⟨[(30,.a (.c (.int .i64)))],[],[0,3,28,29],[]⟩ ⟨[],[],[0,3],[]⟩ (.s .d (.s .d (.s (.b (.s (.r [.n 4,.w (.bX 6 aN)]) .d)) .d)))))) (.s (.s .d (.b (.fr 2 ⟨[(42,.a (.c (.int .i64)))],[],[0,3,40,41],[]⟩ ⟨[],[],[3],[]⟩ (.s .d (.s .d (.s (.b (.s (.r [.n 4,.w (.bX 8 c4)]) .d)) .d)))))) (.s (.o [] [.t 0 0,.t 1 1,.t 4 0,.t 5 1,.t 6 0,.c 2 [],.t 3 0,.t 7 0,.t 8 0] []) .d)))))) [.tmp 4] false (λd=>Gh N d.1 d.2.1) func212 ntmps212
def T7(N:Nat)(a:ch)(b:Int):Nat->Int->Option ((Unit)⊕((Unit)⊕(Int))):=b3 λd2 eD=>
  cond (decide (d2<((a.getD b.toNat []).length:Int))) (ao ((a8 d2 (a.getD b.toNat []).length)&&(true)) <|
  (Gh N a ((a.getD b.toNat []).getD d2.toNat bV.zero)).bind λc=>
  cond (cond (!c) true (cond (decide (d2=0)) (!((a.getD b.toNat []).getD d2.toNat bV.zero).2.1) false)) (some (.inr (.inr 1))) (ao ((bl (d2+1))&&(true)) <|
  eD (d2+1))) (some (.inl ()))
def T8(N:Nat)(a:ch):Nat->Int->Option ((Unit)⊕(Int)):=b3 λd1 c5=>
  cond (decide (d1<(a.length:Int))) (ao ((a8 d1 a.length)&&(true)) <|
  (T7 N a d1 N 0).bind λ(b:(Unit)⊕((Unit)⊕(Int)))=>
  sm b (λb=>
  ao ((bl (d1+1))&&(true)) <|
  c5 (d1+1)) (λq=>some q)) (some (.inl ()))
def Gi(N:Nat)(b:ch):Option (Int):=
  (T8 N b N 0).bind λ(a:(Unit)⊕(Int))=>
  sm a (λa=>
  some 0) (λq=>some q)
def agm(N:Nat):bw bL:=b2 N bF [.c (.bo (.ax bV))] [] ⟨.a (.c (.int .i64)),[],[]⟩ [agl N] [] (.s .d (.s (.s .d (.b (.fr 0 ⟨[(9,.a (.c (.int .i64)))],[],[0,7,8],[]⟩ ⟨[],[],[],[]⟩ (.s .d (.s .d (.s (.b (.s .d (.s .d (.b (.fr 2 ⟨[(15,.a (.c (.int .i64)))],[],[0,7,8,9,13,14],[]⟩ ⟨[],[],[0,7,8,9],[]⟩ (.s .d (.s .d (.s (.b (.s (.r [.n 6,.w (.bX 6 bV)]) .d)) .d)))))))) .d)))))) .d)) [.tmp 2] 0 (λd=>Gi N d.1) func189 ntmps189
def zi(N:Nat)(a:aZ)(b:Int):Option (ab):=
  cond (decide (b<(a.2.2.1.length:Int))) (ao ((a8 b a.2.2.1.length)&&(true)) <|
  some (a.2.2.1.getD b.toNat aN.zero)) (ao ((bl (b-(a.2.2.1.length:Int)))&&((a8 (b-(a.2.2.1.length:Int)) a.2.2.2.length)&&(true))) <|
  some (a.2.2.2.getD (b-(a.2.2.1.length:Int)).toNat c4.zero).1)
def agn(N:Nat):bw bL:=b2 N bF [.cR bV,.c (.int .i64)] [] ⟨.a (.cR aN),[],[]⟩ [] [] (.s (.r [.n 2,.w (.bX 2 bV)]) .d) [.cell 4 102] aN.zero (λd=>zi N d.1 d.2.1) func213 ntmps213
def Gj(N:Nat)(a:b9):Option (b9×Nat):=
  ao (((decide (0<=(a.length:Int)))&&(decide ((a.length:Int)<=(a.length:Int)))&&(eT 16 (a.length:Int)))&&(true)) <|
  ao ((beq a.length (replicate (a.length:Int).toNat (aN.zero:ab)).length)&&(true)) <|
  some (a,(a.length:Int).toNat)
def ago(N:Nat):bw bL:=b2 N bF [.c (.bo aN)] [] ⟨.a (.c (.ie aN)),[],[]⟩ [] [] (.s .d (.s .d (.s .d (.s .d (.t [.cT 6]))))) [.tmp 2] ([],0) (λd=>Gj N d.1) func192 ntmps192
def T9(N:Nat)(b:ch)(c:Int)(d:Int):Nat->(Int×(List (ab×Int)))->Option (((List (ab×Int)))⊕(((List (ab×Int)))⊕((Unit)⊕(Int)))):=b3 λa gA=>
  cond (decide (a.1<(((b.getD c.toNat []).getD d.toNat bV.zero).2.2.1.length:Int))) (ao ((a8 a.1 ((b.getD c.toNat []).getD d.toNat bV.zero).2.2.1.length)&&(true)) <|
  ao ((true&&((bl (((dk aN (.int .i64) a.2 (((b.getD c.toNat []).getD d.toNat bV.zero).2.2.1.getD a.1.toNat aN.zero)).getD 0)+1))&&true))&&(true)) <|
  cond (decide (1<((dk aN (.int .i64) (e6 aN (.int .i64) a.2 (((b.getD c.toNat []).getD d.toNat bV.zero).2.2.1.getD a.1.toNat aN.zero) (((dk aN (.int .i64) a.2 (((b.getD c.toNat []).getD d.toNat bV.zero).2.2.1.getD a.1.toNat aN.zero)).getD 0)+1)) (((b.getD c.toNat []).getD d.toNat bV.zero).2.2.1.getD a.1.toNat aN.zero)).getD 0))) (some (.inr (.inr (.inr 8)))) (ao ((bl (a.1+1))&&(true)) <|
  gA ((a.1+1),(e6 aN (.int .i64) a.2 (((b.getD c.toNat []).getD d.toNat bV.zero).2.2.1.getD a.1.toNat aN.zero) (((dk aN (.int .i64) a.2 (((b.getD c.toNat []).getD d.toNat bV.zero).2.2.1.getD a.1.toNat aN.zero)).getD 0)+1))))) (some (.inl a.2))
def Ua(N:Nat)(a:ch)(c:Int):Nat->(Int×(List (ab×Int)))->Option (((List (ab×Int)))⊕((Unit)⊕(Int))):=b3 λd2 eD=>
  cond (decide (d2.1<((a.getD c.toNat []).length:Int))) (ao ((a8 d2.1 (a.getD c.toNat []).length)&&(true)) <|
  (T9 N a c d2.1 N (0,d2.2)).bind λ(b:((List (ab×Int)))⊕(((List (ab×Int)))⊕((Unit)⊕(Int))))=>
  sm b (λb=>
  ao ((bl (d2.1+1))&&(true)) <|
  eD ((d2.1+1),b)) (λq=>some q)) (some (.inl d2.2))
def Ub(N:Nat)(a:ch):Nat->(Int×(List (ab×Int)))->Option ((Unit)⊕(Int)):=b3 λd1 c5=>
  cond (decide (d1.1<(a.length:Int))) (ao ((a8 d1.1 a.length)&&(true)) <|
  (Ua N a d1.1 N (0,d1.2)).bind λ(b:((List (ab×Int)))⊕((Unit)⊕(Int)))=>
  sm b (λb=>
  ao ((bl (d1.1+1))&&(true)) <|
  c5 ((d1.1+1),b)) (λq=>some q)) (some (.inl ()))
def Gk(N:Nat)(b:ch):Option (Int):=
  (Ub N b N (0,([]:List (ab×Int)))).bind λ(a:(Unit)⊕(Int))=>
  sm a (λa=>
  some 0) (λq=>some q)
def agp(N:Nat):bw bL:=b2 N bF [.c (.bo (.ax bV))] [] ⟨.a (.c (.int .i64)),[],[]⟩ [] [] (.s .d (.s (.r [.t (.ov aN (.int .i64))]) (.s (.s .d (.b (.fr 0 ⟨[(3,.a (.c (.raw (.dY 10)))),(13,.a (.c (.int .i64)))],[(10,.mp aN (.int .i64))],[11,12],[]⟩ ⟨[],[],[],[]⟩ (.s .d (.s .d (.s (.b (.s .d (.s .d (.b (.fr 2 ⟨[(3,.a (.c (.raw (.dY 10)))),(19,.a (.c (.int .i64)))],[(10,.mp aN (.int .i64))],[11,12,13,17,18],[]⟩ ⟨[(3,.a (.c (.raw (.dY 10))))],[(10,.mp aN (.int .i64))],[11,12,13],[]⟩ (.s .d (.s .d (.s (.b (.s (.r [.n 4,.w (.bX 7 bV)]) (.s .d (.b (.fr 4 ⟨[(3,.a (.c (.raw (.dY 10)))),(26,.a (.c (.int .i64)))],[(10,.mp aN (.int .i64))],[11,12,13,17,18,19,24,25],[]⟩ ⟨[(3,.a (.c (.raw (.dY 10))))],[(10,.mp aN (.int .i64))],[11,12,13,17,18,19],[]⟩ (.s .d (.s .d (.s (.b (.s (.r [.n 4,.w (.bX 9 aN)]) (.s (.o [] [.t 0 0,.t 1 1,.w 2 3 4] []) (.s (.r [.n 2,.t .Bh]) .d)))) .d)))))))) .d)))))))) .d)))))) .d))) [.tmp 2] 0 (λd=>Gk N d.1) func190 ntmps190
def Gl(N:Nat)(d:ch)(c:cZ)(a:Int)(gA:(Int×cZ)->Option (b9×cZ×cZ)):Nat->cZ->Option ((cZ)⊕(b9×cZ×cZ)):=b3 λb ph=>
  ao ((a8 a b.length)&&((bl ((((d.getD a.toNat []).getD (c.getD a.toNat 0).toNat bV.zero).2.2.1.length:Int)+(((d.getD a.toNat []).getD (c.getD a.toNat 0).toNat bV.zero).2.2.2.length:Int)))&&((decide (a.toNat<b.length))&&(true)))) <|
  cond (decide ((b.getD a.toNat 0)<((((d.getD a.toNat []).getD (c.getD a.toNat 0).toNat bV.zero).2.2.1.length:Int)+(((d.getD a.toNat []).getD (c.getD a.toNat 0).toNat bV.zero).2.2.2.length:Int)))) (ao ((a8 a b.length)&&(true)) <|
  ao ((decide (a.toNat<b.length))&&(true)) <|
  (zi N ((d.getD a.toNat []).getD (c.getD a.toNat 0).toNat bV.zero) (b.getD a.toNat 0)).bind λe=>
  ao ((a8 (IntKind.wrap .u8 (e.1-1)) c.length)&&((decide ((IntKind.wrap .u8 (e.1-1)).toNat<c.length))&&(true))) <|
  cond (decide ((c.getD (IntKind.wrap .u8 (e.1-1)).toNat 0)<=e.2)) (Option.bind (ao ((bl (a+1))&&(true)) <|
  gA ((a+1),b)) λq=>some (.inr q)) (ao ((a8 a b.length)&&((decide (a.toNat<b.length))&&((bl ((b.getD a.toNat 0)+1))&&((a8 a b.length)&&(((decide (a.toNat<b.length))&&(true))&&(true)))))) <|
  ph (b.set a.toNat ((b.getD a.toNat 0)+1)))) (some (.inl b))
def Gm(N:Nat)(c:ch)(e:b9)(b:cZ):Nat->(Int×cZ)->Option (b9×cZ×cZ):=b3 λa gA=>
  cond (decide (a.1<(c.length:Int))) (ao ((a8 a.1 c.length)&&(true)) <|
  ao ((a8 a.1 b.length)&&((decide (a.1.toNat<b.length))&&(true))) <|
  cond (decide ((b.getD a.1.toNat 0)=((c.getD a.1.toNat []).length:Int))) (ao ((bl (a.1+1))&&(true)) <|
  gA ((a.1+1),a.2)) (ao ((a8 a.1 b.length)&&((decide (a.1.toNat<b.length))&&((a8 (b.getD a.1.toNat 0) (c.getD a.1.toNat []).length)&&(true)))) <|
  (Gl N c b a.1 gA N a.2).bind λ(d:(cZ)⊕(b9×cZ×cZ))=>
  sm d (λd=>
  ao ((bl (a.1+1))&&((a8 a.1 b.length)&&((decide (a.1.toNat<b.length))&&((dx 16 (e.length+[((IntKind.wrap .u8 (a.1+1)),(b.getD a.1.toNat 0))].length))&&(true))))) <|
  ao ((a8 a.1 b.length)&&((decide (a.1.toNat<b.length))&&((bl ((b.getD a.1.toNat 0)+1))&&((a8 a.1 b.length)&&(((decide (a.1.toNat<b.length))&&(true))&&(true)))))) <|
  ao ((a8 a.1 d.length)&&(((decide (a.1.toNat<d.length))&&(true))&&(true))) <|
  some ((e++[((IntKind.wrap .u8 (a.1+1)),(b.getD a.1.toNat 0))]),(b.set a.1.toNat ((b.getD a.1.toNat 0)+1)),(d.set a.1.toNat 0))) (λq=>some q))) (some (e,b,a.2))
def Gn(N:Nat)(b:ch)(c:Int):Nat->b9×cZ×cZ->Option (b9):=b3 λd2 d=>
  cond (decide ((d2.1.length:Int)<c)) ((Gm N b d2.1 d2.2.1 N (0,d2.2.2)).bind λa=>
  cond (decide ((a.1.length:Int)=(d2.1.length:Int))) (some a.1) (d (a.1,a.2.1,a.2.2))) (some d2.1)
def w5(N:Nat)(a:ch):Option (b9):=
  (tf N a).bind λb=>
  ao (((decide (0<=b))&&(eT 16 b))&&(true)) <|
  ao (((decide (0<=(a.length:Int)))&&(decide ((a.length:Int)<=(a.length:Int)))&&(eT 8 (a.length:Int)))&&(true)) <|
  ao (((decide (0<=(a.length:Int)))&&(decide ((a.length:Int)<=(a.length:Int)))&&(eT 8 (a.length:Int)))&&(true)) <|
  (Gn N a b N (([]:b9),(replicate (a.length:Int).toNat 0),(replicate (a.length:Int).toNat 0))).bind λc=>
  some c
def MK(N:Nat)(e:ch)(c:cZ)(a:Int)(gA:(Int×cZ)->Option (b9×cZ×cZ)):Nat->cZ->Option ((cZ)⊕(b9×cZ×cZ)):=b3 λb ph=>
  ao ((a8 a b.length)&&((bl ((((e.getD a.toNat []).getD (c.getD a.toNat 0).toNat bV.zero).2.2.1.length:Int)+(((e.getD a.toNat []).getD (c.getD a.toNat 0).toNat bV.zero).2.2.2.length:Int)))&&((decide (a.toNat<b.length))&&(true)))) <|
  cond (decide ((b.getD a.toNat 0)<((((e.getD a.toNat []).getD (c.getD a.toNat 0).toNat bV.zero).2.2.1.length:Int)+(((e.getD a.toNat []).getD (c.getD a.toNat 0).toNat bV.zero).2.2.2.length:Int)))) (ao ((a8 a b.length)&&(true)) <|
  (λ(f:_->Option _)=>
  hk (ao ((decide (a.toNat<b.length))&&(true)) <|
  fM ((zi N ((e.getD a.toNat []).getD (c.getD a.toNat 0).toNat bV.zero) (b.getD a.toNat 0)).bind λd=>
  f d)) (ao ((decide (a.toNat<b.length))&&(true)) <|
  (zi N ((e.getD a.toNat []).getD (c.getD a.toNat 0).toNat bV.zero) (b.getD a.toNat 0)).bind λd=>
  f d)) (λd=>
  ao ((a8 (IntKind.wrap .u8 (d.1-1)) c.length)&&((decide ((IntKind.wrap .u8 (d.1-1)).toNat<c.length))&&(true))) <|
  cond (decide ((c.getD (IntKind.wrap .u8 (d.1-1)).toNat 0)<=d.2)) (Option.bind (ao ((bl (a+1))&&(true)) <|
  gA ((a+1),b)) λq=>some (.inr q)) (ao ((a8 a b.length)&&((decide (a.toNat<b.length))&&((bl ((b.getD a.toNat 0)+1))&&((a8 a b.length)&&(((decide (a.toNat<b.length))&&(true))&&(true)))))) <|
  ph (b.set a.toNat ((b.getD a.toNat 0)+1))))) (some (.inl b))
def ML(N:Nat)(c:ch)(e:b9)(b:cZ):Nat->(Int×cZ)->Option (b9×cZ×cZ):=b3 λa gA=>
  cond (decide (a.1<(c.length:Int))) (ao ((a8 a.1 c.length)&&(true)) <|
  ao ((a8 a.1 b.length)&&((decide (a.1.toNat<b.length))&&(true))) <|
  cond (decide ((b.getD a.1.toNat 0)=((c.getD a.1.toNat []).length:Int))) (ao ((bl (a.1+1))&&(true)) <|
  gA ((a.1+1),a.2)) (ao ((a8 a.1 b.length)&&((decide (a.1.toNat<b.length))&&((a8 (b.getD a.1.toNat 0) (c.getD a.1.toNat []).length)&&(true)))) <|
  (MK N c b a.1 gA N a.2).bind λ(d:(cZ)⊕(b9×cZ×cZ))=>
  sm d (λd=>
  ao ((bl (a.1+1))&&((a8 a.1 b.length)&&((decide (a.1.toNat<b.length))&&((dx 16 (e.length+[((IntKind.wrap .u8 (a.1+1)),(b.getD a.1.toNat 0))].length))&&(true))))) <|
  ao ((a8 a.1 b.length)&&((decide (a.1.toNat<b.length))&&((bl ((b.getD a.1.toNat 0)+1))&&((a8 a.1 b.length)&&(((decide (a.1.toNat<b.length))&&(true))&&(true)))))) <|
  ao ((a8 a.1 d.length)&&(((decide (a.1.toNat<d.length))&&(true))&&(true))) <|
  some ((e++[((IntKind.wrap .u8 (a.1+1)),(b.getD a.1.toNat 0))]),(b.set a.1.toNat ((b.getD a.1.toNat 0)+1)),(d.set a.1.toNat 0))) (λq=>some q))) (some (e,b,a.2))
def MM(N:Nat)(b:ch)(c:Int):Nat->b9×cZ×cZ->Option (b9):=b3 λd2 d=>
  cond (decide ((d2.1.length:Int)<c)) ((ML N b d2.1 d2.2.1 N (0,d2.2.2)).bind λa=>
  cond (decide ((a.1.length:Int)=(d2.1.length:Int))) (some a.1) (d (a.1,a.2.1,a.2.2))) (some d2.1)
def Gp(N:Nat)(a:ch):Option (b9):=
  (tf N a).bind λb=>
  ao (((decide (0<=b))&&(eT 16 b))&&(true)) <|
  ao (((decide (0<=(a.length:Int)))&&(decide ((a.length:Int)<=(a.length:Int)))&&(eT 8 (a.length:Int)))&&(true)) <|
  ao (((decide (0<=(a.length:Int)))&&(decide ((a.length:Int)<=(a.length:Int)))&&(eT 8 (a.length:Int)))&&(true)) <|
  (MM N a b N (([]:b9),(replicate (a.length:Int).toNat 0),(replicate (a.length:Int).toNat 0))).bind λc=>
  some c
theorem agq:MK=Gl:=by
 unfold MK Gl;simp only[fM,mF]
theorem agr:ML=Gm:=by
 unfold ML Gm;rw[agq]
theorem ags:MM=Gn:=by
 unfold MM Gn;rw[agr]
theorem agt:Gp=w5:=by
 unfold Gp w5;rw[ags]
def agu(N:Nat):bw bL:=ns N bF [.c (.bo (.ax bV))] [] ⟨.a (.c (.bo aN)),[],[]⟩ [MH N,agn N] [] (.s .d (.s .d (.s .d (.s .d (.s .d (.s (.b (.eh 0 ⟨[(4,.a (.c (.raw (.ax 15)))),(5,.a (.c (.raw (.ax 18)))),(6,.a (.c (.raw (.ax 21))))],[(15,.row 102 aN),(18,.row 3 (.int .i64)),(21,.row 3 (.int .i64))],[0,3],[]⟩ ⟨[(4,.a (.c (.raw (.ax 15))))],[(15,.row 102 aN)],[],[]⟩ (.s .d (.b (.b (.s .d (.s .d (.s (.s .d (.b (.eh 2 ⟨[(4,.a (.c (.raw (.ax 15)))),(5,.a (.c (.raw (.ax 18)))),(6,.a (.c (.raw (.ax 21)))),(30,.a (.c (.int .i64)))],[(21,.row 3 (.int .i64))],[0,3,7,28,29],[15,18]⟩ ⟨[(4,.a (.c (.raw (.ax 15)))),(5,.a (.c (.raw (.ax 18)))),(6,.a (.c (.raw (.ax 21))))],[(15,.row 102 aN),(18,.row 3 (.int .i64)),(21,.row 3 (.int .i64))],[0,3,7],[]⟩ (.s .d (.s .d (.s (.b (.s .d (.s .d (.s (.r [.n 9,.w (.bX 10 bV)]) (.s (.b (.fr 4 ⟨[(4,.a (.c (.raw (.ax 15)))),(5,.a (.c (.raw (.ax 18)))),(6,.a (.c (.raw (.ax 21))))],[(21,.row 3 (.int .i64))],[0,3,7,8,10,28,29,30],[15,18]⟩ ⟨[(4,.a (.c (.raw (.ax 15)))),(5,.a (.c (.raw (.ax 18)))),(6,.a (.c (.raw (.ax 21))))],[(21,.row 3 (.int .i64))],[0,3,7,8],[15,18]⟩ (.s (.s (.o [] [.t 0 0,.t 1 0,.t 2 0,.t 4 0,.t 5 1,.t 6 0,.t 7 0,.t 8 1,.t 9 0,.t 10 0,.s 3,.t 11 0] []) .d) (.b (.s (.s (.fw [] [] (.b [.t 0 1,.t 1 0,.t 2 0,.t 3 0] 4 6 [] [] none none (.b [] 5 6 [] [] none none (.f [.s 6,.s 7]) (.f [.c 5 [],.s 7])) (.f [.f,.s 4,.c 5 [],.s 7])) [(.bX 11 aN)] false) (.s (.o [] [.t 0 0,.t 1 1,.t 2 0,.t 3 0,.t 4 1,.t 5 0,.t 6 0,.s 7,.t 8 0] []) .d)) .d))))) .d))))) .d)))))) .d)))))))) (.s .d (.t [.cT 15])))))))) [.tmp 2] [] (λd=>Gp N d.1) (λd=>w5 N d.1) (λd=>(by rw[agt]:Gp N d.1=w5 N d.1)) func191 ntmps191
def MN(N:Nat)(a:ch):Option (b9×Nat×Int):=
  cond (!(decide ((a.length:Int)=6))) (some (([]:b9),0,5)) ((tf N a).bind λf=>
  cond (decide (2048<f)) (some (([]:b9),0,3)) ((Gi N a).bind λd=>
  cond (!(decide (d=0))) (some (([]:b9),0,d)) ((Gk N a).bind λb=>
  cond (!(decide (b=0))) (some (([]:b9),0,b)) ((w5 N a).bind λc=>
  (tf N a).bind λg=>
  cond (decide ((c.length:Int)<g)) (some (([]:b9),0,6)) ((Gj N c).bind λe=>
  some (e.1,e.2,0))))))
def agv(N:Nat):bw bL:=b2 N bF [.c (.bo (.ax bV))] [] ⟨.da [.c (.ie aN),.c (.int .i64)],[],[]⟩ [MH N,agm N,agp N,agu N,ago N] [] (.d) [.tmp 2,.tmp 3] ([],0,0) (λd=>MN N d.1) func149 ntmps149
def Gq(N:Nat)(a:ch):Option (Int):=
  (MN N a).bind λb=>
  some b.2.2
def agw(N:Nat):bw bL:=b2 N bF [.c (.bo (.ax bV))] [] ⟨.a (.c (.int .i64)),[],[]⟩ [agv N] [] (.d) [.tmp 2] 0 (λd=>Gq N d.1) func123 ntmps123
def Ci(N:Nat)(b:ch)(a:ab):Option (Bool):=
  ao ((ez (decide (1<=a.1)) (bl a.1))&&((ez (cond (cond (decide (1<=a.1)) (decide (a.1<=(b.length:Int))) false) (decide (0<=a.2)) false) (a8 (IntKind.wrap .u8 (a.1-1)) b.length))&&(true))) <|
  some (cond (cond (cond (decide (1<=a.1)) (decide (a.1<=(b.length:Int))) false) (decide (0<=a.2)) false) (decide (a.2<((b.getD (IntKind.wrap .u8 (a.1-1)).toNat []).length:Int))) false)
def Uc(N:Nat):bw bL:=b2 N bF [.c (.bo (.ax bV)),.cR aN] [] ⟨.a (.c .bool),[],[]⟩ [] [] (.s (.r [.n 2,.w (.bX 3 aN)]) (.s (.o [] [.t 0 0,.t 1 1,.t 2 0,.t 3 0,.t 4 0,.t 5 1,.t 6 0,.t 7 0,.t 8 0,.t 9 0,.t 10 0,.t 11 0,.t 12 0,.t 13 1,.t 14 0,.t 15 0,.t 16 0,.t 17 0,.t 18 1,.t 19 0,.t 20 0,.t 21 1,.t 22 0,.t 23 0,.t 24 1,.t 25 0,.t 26 0,.t 27 0,.t 28 0] []) .d)) [.tmp 4] false (λd=>Ci N d.1 d.2.1) func150 ntmps150
def Ud(N:Nat)(a:j8):Nat->Int->Option ((Unit)⊕(Int)):=b3 λd1 c5=>
  cond (decide (d1<(a.2.1.length:Int))) (ao ((a8 d1 a.2.1.length)&&(true)) <|
  (Ci N a.1 (a.2.1.getD d1.toNat cp.zero).1).bind λb=>
  Option.bind (cond (!(!b)) (Ci N a.1 (a.2.1.getD d1.toNat cp.zero).2.1) (some false)) λc=>
  Option.bind (cond (!(cond (!b) true (!c))) (uI N (a.2.1.getD d1.toNat cp.zero).1 (a.2.1.getD d1.toNat cp.zero).2.1) (some 0)) λd=>
  cond (cond (cond (!b) true (!c)) true (decide (0<=d))) (some (.inr 1)) (cond (cond (cond (decide ((a.2.1.getD d1.toNat cp.zero).2.2<(-1048576:Int))) true (decide (1048576<(a.2.1.getD d1.toNat cp.zero).2.2))) true (decide ((a.2.1.getD d1.toNat cp.zero).2.2=0))) (some (.inr 1)) (ao ((ez (decide (0<d1)) (bl (d1-1)))&&((ez (decide (0<d1)) (a8 (d1-1) a.2.1.length))&&(true))) <|
  Option.bind (cond (decide (0<d1)) (T4 N (a.2.1.getD (d1-1).toNat cp.zero) (a.2.1.getD d1.toNat cp.zero)) (some 0)) λe=>
  cond (cond (decide (0<d1)) (decide (0<=e)) false) (some (.inr 1)) (ao ((bl (d1+1))&&(true)) <|
  c5 (d1+1))))) (some (.inl ()))
def Gr(N:Nat)(b:j8):Option (Int):=
  (Ud N b N 0).bind λ(a:(Unit)⊕(Int))=>
  sm a (λa=>
  some 0) (λq=>some q)
def agx(N:Nat):bw bL:=b2 N bF [.cR nV] [] ⟨.a (.c (.int .i64)),[],[]⟩ [Uc N,Cg N,agj N] [] (.s (.r [.n 2,.w (.bX 1 nV)]) (.s (.s .d (.b (.fr 0 ⟨[(8,.a (.c (.int .i64)))],[],[1,6,7],[]⟩ ⟨[],[],[],[]⟩ (.s .d (.s .d (.s (.b (.s (.r [.n 6,.w (.bX 4 cp)]) (.s .d (.s .d (.s (.o [] [.t 0 0,.t 1 0,.t 2 0,.t 3 0,.t 4 1,.t 5 0,.t 6 0,.t 7 0,.t 8 1,.t 9 1,.g 10,.t 11 0,.t 12 0] []) .d))))) .d)))))) .d)) [.tmp 2] 0 (λd=>Gr N d.1) func124 ntmps124
def Ue(N:Nat)(a:b9):Nat->(Int×(List (ab×Int)))->Option ((List (ab×Int))):=b3 λd1 c5=>
  cond (decide (d1.1<(a.length:Int))) (ao ((a8 d1.1 a.length)&&(true)) <|
  ao ((true&&((bl (((dk aN (.int .i64) d1.2 (a.getD d1.1.toNat aN.zero)).getD 0)+1))&&true))&&(true)) <|
  ao ((bl (d1.1+1))&&(true)) <|
  c5 ((d1.1+1),(e6 aN (.int .i64) d1.2 (a.getD d1.1.toNat aN.zero) (((dk aN (.int .i64) d1.2 (a.getD d1.1.toNat aN.zero)).getD 0)+1)))) (some d1.2)
def zj(N:Nat)(a:b9)(b:List (ab×Int)):Option ((List (ab×Int))):=
  (Ue N a N (0,b)).bind λc=>
  some c
def agy(N:Nat):bw bL:=b2 N bF [.c (.bo aN),.c (.raw (.ptr 1000000 0))] [F2,(1000001,.mp aN (.int .i64))] ⟨.da [],[F2,(1000001,.mp aN (.int .i64))],[]⟩ [] [] (.s .d (.b (.eh 0 ⟨[(1,.a (.c (.raw (.ptr 1000000 0)))),(7,.a (.c (.int .i64)))],[F2,(1000001,.mp aN (.int .i64))],[5,6],[]⟩ ⟨[],[F2,(1000001,.mp aN (.int .i64))],[],[]⟩ (.s .d (.s .d (.s (.b (.s (.r [.n 4,.w (.bX 4 aN)]) (.o [1] [.t 0 3,.t 1 1,.w 2 3 4] []))) .d)))))) [] [] (λd=>zj N d.1 d.2.1) func152 ntmps152
def MO(N:Nat)(a:j8)(b:Int):Nat->Int->Option ((Unit)⊕((Unit)⊕(Int))):=b3 λd2 eD=>
  cond (decide (d2<((([a.2.2.1,a.2.2.2]:bQ).getD b.toNat []).length:Int))) (ao ((a8 d2 (([a.2.2.1,a.2.2.2]:bQ).getD b.toNat []).length)&&(true)) <|
  (Ci N a.1 ((([a.2.2.1,a.2.2.2]:bQ).getD b.toNat []).getD d2.toNat aN.zero)).bind λc=>
  cond (!c) (some (.inr (.inr 7))) (ao ((bl (d2+1))&&(true)) <|
  eD (d2+1))) (some (.inl ()))
def Uf(N:Nat)(a:j8):Nat->Int->Option ((Unit)⊕(Int)):=b3 λd1 c5=>
  cond (decide (d1<2)) (ao (((a8 d1 2)&&(a8 d1 ([a.2.2.1,a.2.2.2]:bQ).length))&&(true)) <|
  (MO N a d1 N 0).bind λ(b:(Unit)⊕((Unit)⊕(Int)))=>
  sm b (λb=>
  ao ((bl (d1+1))&&(true)) <|
  c5 (d1+1)) (λq=>some q)) (some (.inl ()))
def Ug(N:Nat)(b:j8):Nat->Int->Option ((Unit)⊕(Int)):=b3 λa ph=>
  cond (decide (a<(b.2.2.2.length:Int))) (ao ((a8 a b.2.2.2.length)&&(true)) <|
  ao ((ez (decide (0<a)) (bl (a-1)))&&((ez (decide (0<a)) (a8 (a-1) b.2.2.2.length))&&(true))) <|
  Option.bind (cond (decide (0<a)) (uI N (b.2.2.2.getD (a-1).toNat aN.zero) (b.2.2.2.getD a.toNat aN.zero)) (some 0)) λc=>
  cond (cond (decide (0<a)) (decide (0<=c)) false) (some (.inr 6)) (ao ((bl (a+1))&&(true)) <|
  ph (a+1))) (some (.inl ()))
def Uh(N:Nat)(c:j8)(b:Int):Nat->(Int×(List (ab×Int)))->Option ((List (ab×Int))):=b3 λa MQ=>
  cond (decide (a.1<((c.1.getD b.toNat []).length:Int))) (ao ((a8 a.1 (c.1.getD b.toNat []).length)&&(true)) <|
  (zj N ((c.1.getD b.toNat []).getD a.1.toNat bV.zero).2.2.1 a.2).bind λd=>
  ao ((bl (a.1+1))&&(true)) <|
  MQ ((a.1+1),d)) (some a.2)
def Ui(N:Nat)(b:j8):Nat->(Int×(List (ab×Int)))->Option ((List (ab×Int))):=b3 λa MR=>
  cond (decide (a.1<(b.1.length:Int))) (ao ((a8 a.1 b.1.length)&&(true)) <|
  (Uh N b a.1 N (0,a.2)).bind λc=>
  ao ((bl (a.1+1))&&(true)) <|
  MR ((a.1+1),c)) (some a.2)
def Uj(N:Nat)(b:j8)(c:(List (ab×Int)))(a:Int):Nat->Int->Option ((Unit)⊕((Unit)⊕(Int))):=b3 λd12 zk=>
  cond (decide (d12<((b.1.getD a.toNat []).length:Int))) (ao ((bl (a+1))&&(true)) <|
  cond (!(decide (((dk aN (.int .i64) c ((IntKind.wrap .u8 (a+1)),d12)).getD 0)=1))) (some (.inr (.inr 6))) (ao ((bl (d12+1))&&(true)) <|
  zk (d12+1))) (some (.inl ()))
def Uk(N:Nat)(a:j8)(c:(List (ab×Int))):Nat->Int->Option ((Unit)⊕(Int)):=b3 λd11 agz=>
  cond (decide (d11<(a.1.length:Int))) (ao ((a8 d11 a.1.length)&&(true)) <|
  (Uj N a c d11 N 0).bind λ(b:(Unit)⊕((Unit)⊕(Int)))=>
  sm b (λb=>
  ao ((bl (d11+1))&&(true)) <|
  agz (d11+1)) (λq=>some q)) (some (.inl ()))
def Gs(N:Nat)(a:j8):Option (Int):=
  (Uf N a N 0).bind λ(c:(Unit)⊕(Int))=>
  sm c (λc=>
  (Ug N a N 0).bind λ(d:(Unit)⊕(Int))=>
  sm d (λd=>
  (zj N a.2.2.1 ([]:List (ab×Int))).bind λe=>
  (zj N a.2.2.2 e).bind λf=>
  (Ui N a N (0,f)).bind λg=>
  (Uk N a g N 0).bind λ(b:(Unit)⊕(Int))=>
  sm b (λb=>
  some 0) (λq=>some q)) (λq=>some q)) (λq=>some q)
def agA(N:Nat):bw bL:=b2 N bF [.cR nV] [] ⟨.a (.c (.int .i64)),[],[]⟩ [Uc N,Cg N,agy N] [] (.s (.r [.n 2,.w (.bX 1 nV)]) (.s (.s .d (.b (.fr 0 ⟨[(23,.a (.c (.int .i64)))],[],[1,22],[]⟩ ⟨[],[],[1],[]⟩ (.s .d (.s .d (.s (.b (.s .d (.s .d (.b (.fr 2 ⟨[(28,.a (.c (.int .i64)))],[],[1,22,23,26,27],[]⟩ ⟨[],[],[1,22,23],[]⟩ (.s .d (.s .d (.s (.b (.s (.r [.n 4,.w (.bX 6 aN)]) .d)) .d)))))))) .d)))))) (.s (.s .d (.b (.fr 4 ⟨[(42,.a (.c (.int .i64)))],[],[1,40,41],[]⟩ ⟨[],[],[1],[]⟩ (.s .d (.s .d (.s (.b (.s (.r [.n 6,.w (.bX 8 aN)]) (.s (.o [] [.t 0 0,.t 1 0,.t 2 0,.t 3 0,.t 4 1,.t 5 0,.t 6 0,.t 7 0,.t 8 1,.t 9 1,.g 10,.t 11 0,.t 12 0] []) .d))) .d)))))) (.s (.r [.t (.ov aN (.int .i64))]) (.s .d (.s (.r [.n 3,.c [(1000000,9),(1000001,61)]]) (.s (.r [.n 3,.c [(1000000,9),(1000001,61)]]) (.s (.s .d (.b (.eh 6 ⟨[(9,.a (.c (.raw (.ptr 9 0)))),(10,.a (.c (.fn 152 [.id 9]))),(74,.a (.c (.int .i64)))],[uH,(61,.mp aN (.int .i64))],[1,72,73],[]⟩ ⟨[(9,.a (.c (.raw (.ptr 9 0))))],[uH,(61,.mp aN (.int .i64))],[1],[]⟩ (.s .d (.s .d (.s (.b (.s .d (.s .d (.b (.eh 8 ⟨[(9,.a (.c (.raw (.ptr 9 0)))),(10,.a (.c (.fn 152 [.id 9]))),(80,.a (.c (.int .i64)))],[uH,(61,.mp aN (.int .i64))],[1,72,73,74,78,79],[]⟩ ⟨[(9,.a (.c (.raw (.ptr 9 0)))),(10,.a (.c (.fn 152 [.id 9])))],[uH,(61,.mp aN (.int .i64))],[1,72,73,74],[]⟩ (.s .d (.s .d (.s (.b (.s (.r [.n 4,.w (.bX 14 bV)]) (.r [.n 3,.c [(1000000,9),(1000001,61)]]))) .d)))))))) .d)))))) (.s (.s .d (.b (.fr 10 ⟨[(9,.a (.c (.raw (.ptr 9 0)))),(93,.a (.c (.int .i64)))],[uH],[91,92],[61]⟩ ⟨[],[],[],[]⟩ (.s .d (.s .d (.s (.b (.s .d (.s .d (.b (.fr 12 ⟨[(9,.a (.c (.raw (.ptr 9 0)))),(100,.a (.c (.int .i64)))],[uH],[15,91,92,93,99],[61]⟩ ⟨[(9,.a (.c (.raw (.ptr 9 0))))],[uH],[91,92,93],[61]⟩ (.s .d (.s .d (.s (.b (.s .d (.s (.r [.n 6,.t .Bh]) .d))) .d)))))))) .d)))))) .d))))))))) [.tmp 2] 0 (λd=>Gs N d.1) func125 ntmps125
def zl(N:Nat)(a:j8):Option (Int):=
  (Gq N a.1).bind λb=>
  cond (!(decide (b=0))) (some b) ((Gr N a).bind λc=>
  cond (!(decide (c=0))) (some c) ((Gs N a).bind λd=>
  some d))
def Ul(N:Nat):bw bL:=b2 N bF [.cR nV] [] ⟨.a (.c (.int .i64)),[],[]⟩ [agw N,agx N,agA N] [] (.s (.r [.n 2,.w (.bX 1 nV)]) .d) [.tmp 2] 0 (λd=>zl N d.1) func88 ntmps88
def Um(N:Nat)(a:bd)(b:ch):Nat->Int->Option ((Unit)⊕(Bool)):=b3 λd2 eD=>
  cond (decide (d2<(a.2.2.2.2.length:Int))) (ao ((a8 d2 a.2.2.2.2.length)&&(true)) <|
  (wZ N (a.2.2.2.2.getD d2.toNat c4.zero).1).bind λc=>
  ao ((ez (!(!c)) (a8 (IntKind.wrap .u8 ((a.2.2.2.2.getD d2.toNat c4.zero).1.1-1)) b.length))&&(true)) <|
  cond (cond (!c) true (decide (((b.getD (IntKind.wrap .u8 ((a.2.2.2.2.getD d2.toNat c4.zero).1.1-1)).toNat []).length:Int)<=(a.2.2.2.2.getD d2.toNat c4.zero).1.2))) (some (.inr false)) (ao ((bl (d2+1))&&(true)) <|
  eD (d2+1))) (some (.inl ()))
def Gt(N:Nat)(a:bd)(e:Int)(c:ch):Option (Bool):=
  (rY N a).bind λd=>
  cond (cond (!(decide (d=0))) true (!(decide (a.2.2.1=e)))) (some false) (cond (cond (cond a.1 (!(decide (a.2.1=(-13:Int)))) false) (!(decide (a.2.1=179))) false) (some false) ((Um N a c N 0).bind λ(b:(Unit)⊕(Bool))=>
  sm b (λb=>
  some true) (λq=>some q)))
def agB(N:Nat):bw bL:=b2 N bF [.cR bH,.c (.int .i64),.c (.bo (.ax bV))] [] ⟨.a (.c .bool),[],[]⟩ [zh N,F8 N] [] (.s (.r [.n 2,.w (.bX 3 bH)]) (.s .d (.s .d (.s (.s .d (.b (.fr 0 ⟨[(33,.a (.c (.int .i64)))],[],[2,31,32],[]⟩ ⟨[],[],[],[]⟩ (.s .d (.s .d (.s (.b (.s (.r [.n 4,.w (.bX 8 c4)]) (.s (.o [] [.t 0 0,.t 1 1,.c 2 [],.f,.t 3 0,.t 4 0,.t 5 0,.t 6 0,.t 7 1,.t 8 0,.t 9 0,.t 10 0,.t 11 1,.t 12 0,.t 13 0,.t 14 1,.t 15 0,.t 16 0,.t 17 0] []) .d))) .d)))))) .d)))) [.tmp 6] false (λd=>Gt N d.1 d.2.1 d.2.2.1) func120 ntmps120
def Gu(N:Nat)(a:b9)(b:b9):Nat->Int->Option ((Unit)⊕(Bool)):=b3 λd1 c5=>
  cond (decide (d1<(a.length:Int))) (ao ((a8 d1 a.length)&&((a8 d1 b.length)&&(true))) <|
  cond (!(a7.beq aN (a.getD d1.toNat aN.zero) (b.getD d1.toNat aN.zero))) (some (.inr false)) (ao ((bl (d1+1))&&(true)) <|
  c5 (d1+1))) (some (.inl ()))
def r0(N:Nat)(a:b9)(b:b9):Option (Bool):=
  cond (!(decide ((a.length:Int)=(b.length:Int)))) (some false) ((Gu N a b N 0).bind λ(c:(Unit)⊕(Bool))=>
  sm c (λc=>
  some true) (λq=>some q))
def Gv(N:Nat):bw bL:=b2 N bF [.c (.bo aN),.c (.bo aN)] [] ⟨.a (.c .bool),[],[]⟩ [] [] (.s .d (.s .d (.s (.s .d (.b (.fr 0 ⟨[(13,.a (.c (.int .i64)))],[],[0,1,12],[]⟩ ⟨[],[],[],[]⟩ (.s .d (.s .d (.s (.b (.s .d (.s (.o [] [.t 0 0,.t 1 0,.t 2 0,.t 3 1,.t 4 0,.t 5 0,.t 6 0,.t 7 1,.t 8 0] []) .d))) .d)))))) .d))) [.tmp 4] false (λd=>r0 N d.1 d.2.1) func48 ntmps48
def Un(N:Nat)(a:nt):Nat->Int->Option ((Unit)⊕(Int)):=b3 λd1 c5=>
  cond (decide (d1<(a.2.1.length:Int))) (ao ((a8 d1 a.2.1.length)&&(true)) <|
  ao ((a8 d1 a.2.2.1.1.length)&&(true)) <|
  (Gt N (a.2.1.getD d1.toNat bH.zero) ((a.2.2.1.1.getD d1.toNat []).length:Int) a.2.2.1.1).bind λb=>
  cond (!b) (some (.inr 1)) (ao ((bl (d1+1))&&(true)) <|
  c5 (d1+1))) (some (.inl ()))
def Uo(N:Nat)(b:nt):Nat->Int->Option ((Unit)⊕(Int)):=b3 λa gA=>
  cond (decide (a<(b.1.length:Int))) (ao ((a8 a b.1.length)&&(true)) <|
  cond (cond (cond (cond (!(decide ((b.1.getD a.toNat dQ.zero).1=0))) (!(decide ((b.1.getD a.toNat dQ.zero).1=1))) false) true (decide (((b.1.getD a.toNat dQ.zero).2.length:Int)<1))) true (decide (3<((b.1.getD a.toNat dQ.zero).2.length:Int)))) (some (.inr 1)) (ao ((bl (a+1))&&(true)) <|
  gA (a+1))) (some (.inl ()))
def Cj(N:Nat)(a:nt):Option (Int):=
  cond (cond (!(decide ((a.2.1.length:Int)=6))) true (!(decide ((a.2.2.1.1.length:Int)=6)))) (some 5) ((Un N a N 0).bind λ(c:(Unit)⊕(Int))=>
  sm c (λc=>
  cond (cond (cond (decide ((a.1.length:Int)<1)) true (decide (16<(a.1.length:Int)))) true (cond (!(decide (a.2.2.2=0))) (!(decide (a.2.2.2=1))) false)) (some 1) ((Uo N a N 0).bind λ(d:(Unit)⊕(Int))=>
  sm d (λd=>
  (zl N a.2.2.1).bind λb=>
  cond (!(decide (b=0))) (some b) ((zf N a.1).bind λe=>
  (r0 N e a.2.2.1.2.2.1).bind λf=>
  cond (!f) (some 6) (some 0))) (λq=>some q))) (λq=>some q))
def agC(N:Nat):bw bL:=b2 N bF [.cR rW] [] ⟨.a (.c (.int .i64)),[],[]⟩ [agB N,Ul N,MA N,Gv N] [] (.s (.r [.n 2,.w (.bX 1 rW)]) (.s .d (.s (.s .d (.b (.fr 0 ⟨[(22,.a (.c (.int .i64)))],[],[1,20,21],[]⟩ ⟨[],[],[1],[]⟩ (.s .d (.s .d (.s (.b (.s (.r [.n 6,.w (.bX 4 bH)]) (.s (.o [] [.t 0 1,.t 1 0,.t 2 0,.t 3 1,.t 4 0,.t 5 0,.t 6 1,.t 7 0,.t 8 0,.t 9 0,.t 10 1,.c 11 [],.t 12 0] []) .d))) .d)))))) (.s .d (.s (.s .d (.b (.fr 2 ⟨[(64,.a (.c (.int .i64)))],[],[1,62,63],[]⟩ ⟨[],[],[1],[]⟩ (.s .d (.s .d (.s (.b (.s (.r [.n 4,.w (.bX 6 dQ)]) .d)) .d)))))) (.s .d (.s (.s (.o [] [.t 0 0,.t 1 1,.t 3 0,.t 4 0,.t 5 1,.c 2 [],.c 6 [],.t 7 0] []) .d) .d))))))) [.tmp 2] 0 (λd=>Cj N d.1) func74 ntmps74
def zm(N:Nat)(a:b9):Option (b9×Nat):=
  ao (((decide (0<=(a.length:Int)))&&(decide ((a.length:Int)<=(a.length:Int)))&&(eT 16 (a.length:Int)))&&(true)) <|
  ao ((beq a.length (replicate (a.length:Int).toNat (aN.zero:ab)).length)&&(true)) <|
  some (a,(a.length:Int).toNat)
def Up(N:Nat):bw bL:=b2 N bF [.c (.bo aN)] [] ⟨.a (.c (.ie aN)),[],[]⟩ [] [] (.s .d (.s .d (.s .d (.s .d (.t [.cT 6]))))) [.tmp 2] ([],0) (λd=>zm N d.1) func78 ntmps78
def Ck(N:Nat)(a:dd):Option (dd×Nat):=
  ao (((decide (0<=(a.length:Int)))&&(decide ((a.length:Int)<=(a.length:Int)))&&(eT 40 (a.length:Int)))&&(true)) <|
  ao ((beq a.length (replicate (a.length:Int).toNat (cp.zero:bT)).length)&&(true)) <|
  some (a,(a.length:Int).toNat)
def agD(N:Nat):bw bL:=b2 N bF [.c (.bo cp)] [] ⟨.a (.c (.ie cp)),[],[]⟩ [] [] (.s .d (.s .d (.s .d (.s .d (.t [.cT 6]))))) [.tmp 2] ([],0) (λd=>Ck N d.1) func79 ntmps79
def w6(N:Nat)(a:dz):Option (dz×Nat):=
  ao (((decide (0<=(a.length:Int)))&&(decide ((a.length:Int)<=(a.length:Int)))&&(eT 24 (a.length:Int)))&&(true)) <|
  ao ((beq a.length (replicate (a.length:Int).toNat (c4.zero:cn)).length)&&(true)) <|
  some (a,(a.length:Int).toNat)
def Uq(N:Nat):bw bL:=b2 N bF [.c (.bo c4)] [] ⟨.a (.c (.ie c4)),[],[]⟩ [] [] (.s .d (.s .d (.s .d (.s .d (.t [.cT 6]))))) [.tmp 2] ([],0) (λd=>w6 N d.1) func83 ntmps83
def Ur(N:Nat)(c:ch)(b:Int):Nat->(Int×(List (Bool×dh)))->Option ((List (Bool×dh))):=b3 λa gA=>
  cond (decide (a.1<((c.getD b.toNat []).length:Int))) (ao ((a8 a.1 (c.getD b.toNat []).length)&&(true)) <|
  (zm N ((c.getD b.toNat []).getD a.1.toNat bV.zero).2.2.1).bind λd=>
  (w6 N ((c.getD b.toNat []).getD a.1.toNat bV.zero).2.2.2).bind λe=>
  ao (((decide (b.toNat<a.2.length))&&(a.2.getD b.toNat (false,[])).1)) <|
  ao ((a8 b a.2.length)&&((decide (b.toNat=b.toNat))&&((a8 a.1 (a.2.getD b.toNat (false,[])).2.length)&&(((decide (a.1.toNat<(a.2.getD b.toNat (false,[])).2.length))&&(true))&&(true))))) <|
  ao ((bl (a.1+1))&&(true)) <|
  gA ((a.1+1),(a.2.set b.toNat (true,((a.2.getD b.toNat (false,[])).2.set a.1.toNat (((c.getD b.toNat []).getD a.1.toNat bV.zero).1,(((c.getD b.toNat []).getD a.1.toNat bV.zero).2.1,(d.1,e.1)))))))) (some a.2)
def Us(N:Nat)(a:ch)(b:Int)(c:Int):Nat->(Int×(List (Bool×dh)))->Option ((List (Bool×dh))):=b3 λd1 c5=>
  cond (decide (d1.1<(a.length:Int))) (ao ((a8 d1.1 a.length)&&(true)) <|
  Option.bind (ao ((bl b)&&((bl (b-1))&&(true))) <|
  cond (decide (d1.1=(b-1))) (ao ((bl (((a.getD d1.1.toNat []).length:Int)+c))&&(true)) <|
  some (((a.getD d1.1.toNat []).length:Int)+c)) (some ((a.getD d1.1.toNat []).length:Int))) λd=>
  ao (((decide (0<=((a.getD d1.1.toNat []).length:Int)))&&(decide (((a.getD d1.1.toNat []).length:Int)<=d))&&(eT 56 d))&&((a8 d1.1 d1.2.length)&&((decide (d1.1.toNat<d1.2.length))&&(true)))) <|
  (Ur N a d1.1 N (0,(d1.2.set d1.1.toNat (true,(replicate ((a.getD d1.1.toNat []).length:Int).toNat (bV.zero:aZ)))))).bind λe=>
  ao ((bl (d1.1+1))&&(true)) <|
  c5 ((d1.1+1),e)) (some d1.2)
def Cl(N:Nat)(a:ch)(c:Int)(b:Int):Option ((List (Bool×dh))):=
  ao (((decide (0<=(a.length:Int)))&&(decide ((a.length:Int)<=(a.length:Int)))&&(eT 24 (a.length:Int)))&&(true)) <|
  (Us N a c b N (0,(replicate (a.length:Int).toNat ((true,[]):Bool×dh)))).bind λd=>
  some d
def agE(N:Nat):bw bL:=b2 N bF [.c (.bo (.ax bV)),.c (.int .u8),.c (.int .i64)] [] ⟨.a (.c (.raw (.ax 15))),[(15,.b0 118 113 bV)],[]⟩ [Up N,Uq N] [] (.s .d (.s (.r [.n 2,.t .mk]) (.s (.s .d (.b (.eh 0 ⟨[(7,.a (.c (.raw (.ax 15)))),(18,.a (.c (.int .i64)))],[(15,.b0 118 113 bV)],[1,2,16,17],[]⟩ ⟨[(7,.a (.c (.raw (.ax 15))))],[(15,.b0 118 113 bV)],[],[]⟩ (.s .d (.s .d (.s (.b (.s .d (.s .d (.j ⟨[(7,.a (.c (.raw (.ax 15)))),(10,.a (.c (.int .i64)))],[],[1,2,8,9,16,17,18],[15]⟩ .d (.s (.r [.n 7,.t .st]) (.s (.r [.n 3,.w (.t (.close 15 38))]) (.b (.eh 2 ⟨[(7,.a (.c (.raw (.ax 15)))),(42,.a (.c (.int .i64)))],[(15,.b0 118 113 bV)],[1,2,8,16,17,18,40,41],[]⟩ ⟨[(7,.a (.c (.raw (.ax 15))))],[(15,.b0 118 113 bV)],[1,2,16,17,18],[]⟩ (.s .d (.s .d (.s (.b (.s .d (.s .d (.s .d (.p [.t (.op 15 8 58)] (.o [3] [.t 0 0,.t 1 0,.t 2 0,.t 4 0,.t 5 3,.k 3,.t 6 0,.s 7] [(.t (.close 15 58))])))))) .d))))))))))) .d)))))) .d))) [.tmp 6] [] (λd=>Cl N d.1 d.2.1 d.2.2.1) func80 ntmps80
def uJ:dV:=(append (append (append [0,1,2,2,3,3,3,3,4,4,4,4,4,4,4,4,5,5,5,5,5,5,5,5,5,5,5,5,5,5,5,5,6,6,6,6,6,6,6,6,6,6,6,6,6,6,6,6,6,6,6,6,6,6,6,6,6,6,6,6,6,6,6,6] [7,7,7,7,7,7,7,7,7,7,7,7,7,7,7,7,7,7,7,7,7,7,7,7,7,7,7,7,7,7,7,7,7,7,7,7,7,7,7,7,7,7,7,7,7,7,7,7,7,7,7,7,7,7,7,7,7,7,7,7,7,7,7,7]) [8,8,8,8,8,8,8,8,8,8,8,8,8,8,8,8,8,8,8,8,8,8,8,8,8,8,8,8,8,8,8,8,8,8,8,8,8,8,8,8,8,8,8,8,8,8,8,8,8,8,8,8,8,8,8,8,8,8,8,8,8,8,8,8]) [8,8,8,8,8,8,8,8,8,8,8,8,8,8,8,8,8,8,8,8,8,8,8,8,8,8,8,8,8,8,8,8,8,8,8,8,8,8,8,8,8,8,8,8,8,8,8,8,8,8,8,8,8,8,8,8,8,8,8,8,8,8,8,8])
def Ut(N:Nat)(c:Int):Option (Int):=
  Option.bind (cond (decide (4294967296<=c)) (some ((fdiv c (2 ^ (min (32:Int).toNat (IntKind.bits .u64)))),32)) (some (c,0))) λb=>
  Option.bind (cond (decide (65536<=b.1)) (ao ((bl (b.2+16))&&(true)) <|
  some ((fdiv b.1 (2 ^ (min (16:Int).toNat (IntKind.bits .u64)))),(b.2+16))) (some (b.1,b.2))) λa=>
  cond (decide (256<=a.1)) (ao ((bl (a.2+8))&&(true)) <|
  ao ((a8 (IntKind.wrap .u8 (fdiv a.1 (2 ^ (min (8:Int).toNat (IntKind.bits .u64))))) uJ.length)&&((bl ((uJ.getD (IntKind.wrap .u8 (fdiv a.1 (2 ^ (min (8:Int).toNat (IntKind.bits .u64))))).toNat 0).toNat:Int))&&((bl ((a.2+8)+((uJ.getD (IntKind.wrap .u8 (fdiv a.1 (2 ^ (min (8:Int).toNat (IntKind.bits .u64))))).toNat 0).toNat:Int)))&&(true)))) <|
  some ((a.2+8)+((uJ.getD (IntKind.wrap .u8 (fdiv a.1 (2 ^ (min (8:Int).toNat (IntKind.bits .u64))))).toNat 0).toNat:Int))) (ao ((a8 (IntKind.wrap .u8 a.1) uJ.length)&&((bl ((uJ.getD (IntKind.wrap .u8 a.1).toNat 0).toNat:Int))&&((bl (a.2+((uJ.getD (IntKind.wrap .u8 a.1).toNat 0).toNat:Int)))&&(true)))) <|
  some (a.2+((uJ.getD (IntKind.wrap .u8 a.1).toNat 0).toNat:Int)))
def agF(N:Nat):bw bL:=b2 N bF [.c (.int .u64)] [] ⟨.a (.c (.int .i64)),[],[]⟩ [] [] (.s .d (.j ⟨[(0,.a (.c (.int .u64))),(2,.a (.c (.int .i64)))],[],[],[]⟩ .d (.j ⟨[(0,.a (.c (.int .u64))),(2,.a (.c (.int .i64)))],[],[],[]⟩ .d .d))) [.tmp 2] 0 (λd=>Ut N d.1) func173 ntmps173
def MU(N:Nat)(a:Int):Option (Int):=
  (Ut N a).bind λb=>
  some b
def Uu(N:Nat):bw bL:=b2 N bF [.c (.int .u64)] [] ⟨.a (.c (.int .i64)),[],[]⟩ [agF N] [] (.d) [.tmp 2] 0 (λd=>MU N d.1) func139 ntmps139
def agG(N:Nat)(a:Int):Nat->(Int×b9)->Option (b9):=b3 λd2 eD=>
  ao ((ez (decide (a<d2.1)) (a8 d2.1 d2.2.length))&&((ez (decide (a<d2.1)) (decide (d2.1.toNat<d2.2.length)))&&((ez (decide (a<d2.1)) (bl (d2.1-1)))&&((ez (decide (a<d2.1)) (a8 (d2.1-1) d2.2.length))&&((ez (decide (a<d2.1)) (decide ((d2.1-1).toNat<d2.2.length)))&&(true)))))) <|
  Option.bind (cond (decide (a<d2.1)) (uI N (d2.2.getD d2.1.toNat aN.zero) (d2.2.getD (d2.1-1).toNat aN.zero)) (some 0)) λb=>
  cond (cond (decide (a<d2.1)) (decide (b<0)) false) (ao ((bl (d2.1-1))&&((bl (d2.1-1))&&((a8 (d2.1-1) d2.2.length)&&((decide ((d2.1-1).toNat<d2.2.length))&&((a8 d2.1 d2.2.length)&&((decide (d2.1.toNat<d2.2.length))&&((a8 d2.1 d2.2.length)&&(((decide (d2.1.toNat<d2.2.length))&&(true))&&((a8 (d2.1-1) (d2.2.set d2.1.toNat (d2.2.getD (d2.1-1).toNat aN.zero)).length)&&(((decide ((d2.1-1).toNat<(d2.2.set d2.1.toNat (d2.2.getD (d2.1-1).toNat aN.zero)).length))&&(true))&&(true))))))))))) <|
  ao ((bl (d2.1-1))&&(true)) <|
  eD ((d2.1-1),((d2.2.set d2.1.toNat (d2.2.getD (d2.1-1).toNat aN.zero)).set (d2.1-1).toNat (d2.2.getD d2.1.toNat aN.zero)))) (some d2.2)
def agH(N:Nat)(a:Int)(b:Int):Nat->(Int×b9)->Option (b9):=b3 λd1 c5=>
  cond (decide (d1.1<b)) ((agG N a N (d1.1,d1.2)).bind λc=>
  ao ((bl (d1.1+1))&&(true)) <|
  c5 ((d1.1+1),c)) (some d1.2)
def Uv(N:Nat)(a:Int)(c:Int)(b:b9):Option (b9):=
  ao ((bl (a+1))&&(true)) <|
  (agH N a c N ((a+1),b)).bind λd=>
  some d
def agI(N:Nat):bw bL:=b2 N bF [.c (.raw (.ax 2000000)),.c (.int .i64),.c (.int .i64),.c (.fn 105 [])] [(2000000,.row 102 aN)] ⟨.da [],[(2000000,.row 102 aN)],[]⟩ [Cg N] [] (.s .d (.b (.eh 0 ⟨[(0,.a (.c (.raw (.ax 2000000)))),(8,.a (.c (.int .i64)))],[(2000000,.row 102 aN)],[1,2,3],[]⟩ ⟨[],[(2000000,.row 102 aN)],[],[]⟩ (.s .d (.s (.b (.s .d (.b (.eh 2 ⟨[(0,.a (.c (.raw (.ax 2000000)))),(9,.a (.c (.int .i64)))],[(2000000,.row 102 aN)],[1,2,3,8],[]⟩ ⟨[(0,.a (.c (.raw (.ax 2000000))))],[(2000000,.row 102 aN)],[1,2,3,8],[]⟩ (.s (.s (.nr [9,10,11,12,13] [.t 0 0,.t 1 0,.t 2 0,.t 3 0,.t 4 0,.t 5 0,.t 6 0,.t 7 0,.t 8 3,.t 9 0,.t 10 0,.t 11 0,.t 12 0,.t 13 3,.g 14,.t 15 0,.t 16 0] []) .d) (.s (.b (.nr [10,11,12,13] [.t 0 0,.t 1 0,.t 2 0,.t 3 0,.t 4 0,.t 5 0,.t 6 0,.t 7 0,.t 8 0,.t 9 3,.t 10 0,.t 11 0,.t 12 0,.t 13 3,.t 14 0,.s 15,.t 16 0,.s 17] [])) .d)))))) .d))))) [] [] (λd=>Uv N d.1 d.2.1 d.2.2.1) func176 ntmps176
def agJ(N:Nat)(a:Int)(b:Int)(c:Int)(d:b9):Nat->Unit->Option ((Unit)⊕(b9)):=b3 λd1 f=>
  ao ((bl (b-a))&&(true)) <|
  cond (decide ((b-a)<=12)) ((Uv N a b d).bind λe=>
  some (.inr e)) (cond (decide (c=0)) (none) (Option.bind (some ()) λg=>
  none))
def Uw(N:Nat)(b:Int)(e:Int)(c:Int)(d:b9):Option (b9):=
  (agJ N b e c d N ()).bind λ(a:(Unit)⊕(b9))=>
  sm a (λa=>
  none) (λq=>some q)
def agK(N:Nat):bw bL:=b2 N bF [.c (.raw (.ax 2000000)),.c (.int .i64),.c (.int .i64),.c (.int .i64),.c (.fn 105 [])] [(2000000,.row 102 aN)] ⟨.da [],[(2000000,.row 102 aN)],[]⟩ [agI N] [] (.s .d (.s .d (.b (.fr 0 ⟨[(0,.a (.c (.raw (.ax 2000000))))],[],[1,2,3,4,10,11],[2000000]⟩ ⟨[],[],[],[]⟩ (.b (.s .d (.s (.s .d (.c (.s (.r [.n 4,.c [(2000000,2000000)]]) .d) .d)) (.s .d (.j ⟨[(0,.a (.c (.raw (.ax 2000000))))],[],[1,2,3,4,10,11,12],[2000000]⟩ .d .d))))))))) [] [] (λd=>Uw N d.1 d.2.1 d.2.2.1 d.2.2.2.1) func143 ntmps143
def uK(N:Nat)(a:b9):Option (b9):=
  (MU N (IntKind.wrap .u64 (a.length:Int))).bind λb=>
  (Uw N 0 (a.length:Int) b a).bind λc=>
  some c
def Ux(N:Nat):bw bL:=b2 N bF [.c (.raw (.ax 2000000)),.c (.fn 105 [])] [(2000000,.row 102 aN)] ⟨.da [],[(2000000,.row 102 aN)],[]⟩ [Uu N,agK N] [] (.s .d (.r [.n 6,.c [(2000000,2000000)]])) [] [] (λd=>uK N d.1) func107 ntmps107
def zn(N:Nat)(a:b9):Option (b9×Nat):=
  ao (((decide (0<=(a.length:Int)))&&(decide ((a.length:Int)<=(a.length:Int)))&&(decide ((a.length:Int)<=(a.length:Int))))&&(true)) <|
  some ((a.take (a.length:Int).toNat),(a.length:Int).toNat)
def agL(N:Nat):bw bL:=b2 N bF [.c (.bo aN)] [] ⟨.a (.c (.ie aN)),[],[]⟩ [] [] (.d) [.tmp 2] ([],0) (λd=>zn N d.1) func82 ntmps82
def Gw(N:Nat)(a:b9)(b:ab):Option (b9):=
  ao ((bl ((a.length:Int)+1))&&(((decide (0<=((a.length:Int)+1)))&&(eT 16 ((a.length:Int)+1)))&&(true))) <|
  ao ((dx 16 (([]:b9).length+a.length))&&(true)) <|
  ao ((dx 16 ((([]:b9)++a).length+[b].length))&&(true)) <|
  (uK N ((([]:b9)++a)++[b])).bind λc=>
  some c
def agM(N:Nat):bw bL:=b2 N bF [.c (.bo aN),.cR aN] [] ⟨.a (.c (.bo aN)),[],[]⟩ [Ux N] [] (.s (.r [.n 2,.w (.bX 3 aN)]) (.s .d (.s .d (.s .d (.s (.r [.n 1,.c [(2000000,9)]]) (.s .d (.t [.cT 9]))))))) [.tmp 4] [] (λd=>Gw N d.1 d.2.1) func77 ntmps77
def Uy(N:Nat) :Nat->(Int×Int×b9)->Option (b9):=b3 λd1 c5=>
  cond (decide (d1.1<d1.2.1)) (ao ((a8 d1.2.1 d1.2.2.length)&&((decide (d1.2.1.toNat<d1.2.2.length))&&((a8 d1.1 d1.2.2.length)&&((decide (d1.1.toNat<d1.2.2.length))&&((a8 d1.1 d1.2.2.length)&&(((decide (d1.1.toNat<d1.2.2.length))&&(true))&&((a8 d1.2.1 (d1.2.2.set d1.1.toNat (d1.2.2.getD d1.2.1.toNat aN.zero)).length)&&(((decide (d1.2.1.toNat<(d1.2.2.set d1.1.toNat (d1.2.2.getD d1.2.1.toNat aN.zero)).length))&&(true))&&(true))))))))) <|
  ao ((bl (d1.1+1))&&((bl (d1.2.1-1))&&(true))) <|
  c5 ((d1.1+1),(d1.2.1-1),((d1.2.2.set d1.1.toNat (d1.2.2.getD d1.2.1.toNat aN.zero)).set d1.2.1.toNat (d1.2.2.getD d1.1.toNat aN.zero)))) (some d1.2.2)
def zo(N:Nat)(a:b9):Option (b9):=
  ao ((bl ((a.length:Int)-1))&&(true)) <|
  (Uy N N (0,((a.length:Int)-1),a)).bind λb=>
  some b
def agN(N:Nat):bw bL:=b2 N bF [.c (.raw (.ax 2000000))] [(2000000,.row 102 aN)] ⟨.da [],[(2000000,.row 102 aN)],[]⟩ [] [] (.s .d (.b (.eh 0 ⟨[(0,.a (.c (.raw (.ax 2000000)))),(2,.a (.c (.int .i64))),(3,.a (.c (.int .i64)))],[(2000000,.row 102 aN)],[],[]⟩ ⟨[],[(2000000,.row 102 aN)],[],[]⟩ (.s .d (.s (.b (.nr [8,9,10,11] [.t 0 0,.t 1 0,.t 2 0,.t 3 0,.t 4 0,.t 5 0,.t 6 0,.t 7 3,.t 8 0,.t 9 0,.t 10 0,.t 11 3,.t 12 0,.s 13,.t 14 0,.s 15] [])) .d))))) [] [] (λd=>zo N d.1) func197 ntmps197
def MV(N:Nat)(a:dz)(b:dz):Nat->Int->Option ((Unit)⊕(Bool)):=b3 λd1 c5=>
  cond (decide (d1<(a.length:Int))) (ao ((a8 d1 a.length)&&((a8 d1 b.length)&&(true))) <|
  cond (!(a7.beq c4 (a.getD d1.toNat c4.zero) (b.getD d1.toNat c4.zero))) (some (.inr false)) (ao ((bl (d1+1))&&(true)) <|
  c5 (d1+1))) (some (.inl ()))
def Gx(N:Nat)(a:dz)(b:dz):Option (Bool):=
  cond (!(decide ((a.length:Int)=(b.length:Int)))) (some false) ((MV N a b N 0).bind λ(c:(Unit)⊕(Bool))=>
  sm c (λc=>
  some true) (λq=>some q))
def agO(N:Nat):bw bL:=b2 N bF [.c (.bo c4),.c (.bo c4)] [] ⟨.a (.c .bool),[],[]⟩ [] [] (.s .d (.s .d (.s (.s .d (.b (.fr 0 ⟨[(13,.a (.c (.int .i64)))],[],[0,1,12],[]⟩ ⟨[],[],[],[]⟩ (.s .d (.s .d (.s (.b (.s .d (.s (.o [] [.t 0 0,.t 1 0,.t 2 0,.t 3 1,.t 4 0,.t 5 0,.t 6 0,.t 7 1,.t 8 0] []) .d))) .d)))))) .d))) [.tmp 4] false (λd=>Gx N d.1 d.2.1) func50 ntmps50
def agP(N:Nat)(a:dd)(b:dd):Nat->Int->Option ((Unit)⊕(Bool)):=b3 λd1 c5=>
  cond (decide (d1<(a.length:Int))) (ao ((a8 d1 a.length)&&((a8 d1 b.length)&&(true))) <|
  cond (!(a7.beq cp (a.getD d1.toNat cp.zero) (b.getD d1.toNat cp.zero))) (some (.inr false)) (ao ((bl (d1+1))&&(true)) <|
  c5 (d1+1))) (some (.inl ()))
def MW(N:Nat)(a:dd)(b:dd):Option (Bool):=
  cond (!(decide ((a.length:Int)=(b.length:Int)))) (some false) ((agP N a b N 0).bind λ(c:(Unit)⊕(Bool))=>
  sm c (λc=>
  some true) (λq=>some q))
def agQ(N:Nat):bw bL:=b2 N bF [.c (.bo cp),.c (.bo cp)] [] ⟨.a (.c .bool),[],[]⟩ [] [] (.s .d (.s .d (.s (.s .d (.b (.fr 0 ⟨[(13,.a (.c (.int .i64)))],[],[0,1,12],[]⟩ ⟨[],[],[],[]⟩ (.s .d (.s .d (.s (.b (.s .d (.s (.o [] [.t 0 0,.t 1 0,.t 2 0,.t 3 1,.t 4 0,.t 5 0,.t 6 0,.t 7 1,.t 8 0] []) .d))) .d)))))) .d))) [.tmp 4] false (λd=>MW N d.1 d.2.1) func54 ntmps54
def Gy(N:Nat)(a:aZ)(b:aZ):Option (Bool):=
  Option.bind (cond (cond (decide (a.1=b.1)) (a.2.1==b.2.1) false) (r0 N a.2.2.1 b.2.2.1) (some false)) λc=>
  Option.bind (cond (cond (cond (decide (a.1=b.1)) (a.2.1==b.2.1) false) c false) (Gx N a.2.2.2 b.2.2.2) (some false)) λd=>
  some (cond (cond (cond (decide (a.1=b.1)) (a.2.1==b.2.1) false) c false) d false)
def agR(N:Nat):bw bL:=b2 N bF [.cR bV,.cR bV] [] ⟨.a (.c .bool),[],[]⟩ [Gv N,agO N] [] (.s (.r [.n 3,.w (.bX 2 bV),.w (.bX 3 bV)]) .d) [.tmp 4] false (λd=>Gy N d.1 d.2.1) func49 ntmps49
end
def uL(p q:(Int×Int)×Bool×Int):Bool:=!decide (p.2.2=q.2.2)&&(decide (p.1=q.1)&&(p.2.1==q.2.1))
def oC(l:List ((Int×Int)×Bool×Int)):Prop:=∀i p q,l[i]?=some p->l[i+1]?=some q->uL p q=false
def mI(s:List ((Int×Int)×Bool×Int))(p:(Int×Int)×Bool×Int):List ((Int×Int)×Bool×Int):=
 match s.getLast? with
 |none=>[p]
 |some q=>if uL q p=true then s.dropLast else s++[p]
def eO(s l:List ((Int×Int)×Bool×Int)):List ((Int×Int)×Bool×Int):=l.foldl mI s
theorem oC.dropLast{s:List ((Int×Int)×Bool×Int)}(h:oC s):oC s.dropLast:=by
 intro i p q al a;rw[List.getElem?_dropLast]at al a
 split at al
 ·split at a
  ·exact h i p q al a
  ·cases a
 ·cases al
theorem oC.mI{s:List ((Int×Int)×Bool×Int)}(h:oC s)(p:(Int×Int)×Bool×Int):oC (mI s p):=by
 unfold Go.Proofs.YtcheedjfedcbpaaGreatDoor.mI
 split
 ·intro i a b bh ad
  simp at ad
 ·rename_i q c
  split
  ·exact h.dropLast
  ·rename_i U
   intro i a b bh ad;rw[List.getElem?_append]at bh ad;have ae:s≠[]:=by intro e;rw[e]at c;cases c
   rw[List.getLast?_eq_getElem?]at c
   split at ad
   ·rw[if_pos (by omega)]at bh
    exact h i a b bh ad
   ·rename_i hi
    by_cases d:i<s.length
    ·rw[if_pos d]at bh
     have e:i=s.length-1:=by omega
     rw[e,c]at bh;cases bh;rw[show i+1-s.length=0 by omega]at ad;cases ad;exact Bool.eq_false_iff.2 U
    ·rw[show i+1-s.length=(i-s.length)+1 by omega]at ad
     simp at ad
theorem agT(s:List ((Int×Int)×Bool×Int))(p):(mI s p).length<=s.length+1:=by
 unfold mI
 split
 ·simp
 ·split
  ·simp;omega
  ·simp
theorem agU{s:List ((Int×Int)×Bool×Int)}{p x}(h:x∈mI s p):x∈s\/x=p:=by
 unfold mI at h
 split at h
 ·right;simpa using h
 ·split at h
  ·left;exact List.dropLast_subset _ h
  ·simp at h;exact h
theorem oC.eO{s:List ((Int×Int)×Bool×Int)}(h:oC s)(l):oC (eO s l):=by
 induction l generalizing s with
 |nil=>exact h
 |cons p l a=>exact a (h.mI p)
theorem zp(s l:List ((Int×Int)×Bool×Int)):(eO s l).length<=s.length+l.length:=by
 induction l generalizing s with
 |nil=>simp[eO]
 |cons p l a=>
  have:=a (mI s p)
  have I:=agT s p;show(eO (mI s p) l).length<=_
  simp;omega
theorem Gz{s l:List ((Int×Int)×Bool×Int)}{x}(h:x∈eO s l):x∈s\/x∈l:=by
 induction l generalizing s with
 |nil=>exact Or.inl h
 |cons p l a=>
  rcases a h with h|h
  ·rcases agU h with h|h
   ·exact Or.inl h
   ·exact Or.inr (by rw[h];exact mem_cons_self)
  ·exact Or.inr (mem_cons_of_mem _ h)
theorem Uz(s l:List ((Int×Int)×Bool×Int))(p):eO s (l++[p])=mI (eO s l) p:=by simp[eO]
theorem agV{l:List ((Int×Int)×Bool×Int)}(h:oC l):eO [] l=l:=by
 have:∀j,j<=l.length->eO [] (l.take j)=l.take j:=by
  intro j f
  induction j with
  |zero=>rfl
  |succ j c=>
   have b:j<l.length:=by omega
   rw[List.take_succ_eq_append_getElem b,Uz,c (by omega)];unfold mI
   split
   ·rename_i bc
    rw[List.getLast?_eq_none_iff]at bc;rw[bc];rfl
   ·rename_i q a
    rw[List.getLast?_eq_getElem?,length_take,List.getElem?_take]at a;have d:j≠0:=by
     intro e;subst e;simp at a
    rw[if_pos (by omega),show min j l.length-1=j-1 by omega]at a
    have:=h (j-1) q l[j] a (by rw[show j-1+1=j by omega];exact getElem?_eq_getElem b)
    rw[this];rfl
 have J:=this l.length (Nat.le_refl _)
 rwa [List.take_length]at J
abbrev gJ:=Int×(Bool×((List (Int×Int))×(List ((Int×Int)×(Bool×Int)))))
abbrev ei:=List (List gJ)
def iA(t:ei)(a:Int×Int):Option gJ:=
 if 1<=a.1/\0<=a.2 then(t.getD (a.1-1).toNat [])[a.2.toNat]? else none
def gi(t:ei)(a:Int×Int):Prop:=∃l,iA t a=some l
theorem r1(t:ei)(y n:Nat):iA t ((y:Int)+1,(n:Int))=(t.getD y [])[n]?:=by
 unfold iA;rw[if_pos ⟨by show(1:Int)<=y+1;omega,by show(0:Int)<=n;omega⟩];rw[show((y:Int)+1-1).toNat=y by omega,Int.toNat_natCast]
theorem pj{t:ei}{a:Int×Int}:gi t a↔1<=a.1/\0<=a.2/\a.2<((t.getD (a.1-1).toNat []).length:Int):=by
 unfold gi iA;constructor
 ·rintro⟨l,h⟩
  split at h
  ·rename_i I
   have:=(List.getElem?_eq_some_iff.1 h).1
   omega
  ·cases h
 ·rintro⟨I,J,ag⟩
  rw[if_pos ⟨I,J⟩];exact⟨_,getElem?_eq_getElem (by omega)⟩
theorem Cm{t:ei}{a:Int×Int}(h:gi t a):a.1<=t.length:=by
 rw[pj]at h
 by_cases ae:(a.1-1).toNat<t.length
 ·omega
 ·rw[getD_eq_getElem?_getD,List.getElem?_eq_none (by omega)]at h
  simp at h
  omega
instance (t:ei)(a:Int×Int):Decidable (gi t a):=decidable_of_iff _ pj.symm
def gK(t:ei)(y:Nat)(l:gJ):ei:=t.set y (t.getD y []++[l])
theorem MX(t:ei)(y:Nat)(l:gJ):(gK t y l).length=t.length:=by simp[gK]
theorem Cn{t:ei}{y:Nat}(aG:y<t.length)(l:gJ)(z:Nat):(gK t y l).getD z []=if z=y then t.getD y []++[l] else t.getD z []:=by
 unfold gK;rw[getD_eq_getElem?_getD,List.getElem?_set]
 by_cases e:y=z
 ·subst e
  simp[aG]
 ·rw[if_neg e,if_neg (λh=>e h.symm),<- getD_eq_getElem?_getD]
theorem agW{t:ei}{y:Nat}(aG:y<t.length)(l:gJ){a:Int×Int}{k:gJ}(h:iA t a=some k):iA (gK t y l) a=some k:=by
 unfold iA at h ⊢
 split at h
 ·rename_i I
  rw[if_pos I,Cn aG]
  split
  ·rename_i e
   rw[e]at h;rw[List.getElem?_append_left (List.getElem?_eq_some_iff.1 h).1,h]
  ·exact h
 ·cases h
theorem gi.put{t:ei}{y:Nat}(aG:y<t.length)(l:gJ){a:Int×Int}(h:gi t a):gi (gK t y l) a:=by
 obtain⟨k,h⟩:=h;exact⟨k,agW aG l h⟩
theorem agX{t:ei}{y:Nat}(aG:y<t.length)(l:gJ):iA (gK t y l) ((y:Int)+1,((t.getD y []).length:Int))=some l:=by
 rw[r1,Cn aG,if_pos rfl]
 simp
theorem uM{t:ei}{y:Nat}(aG:y<t.length){l:gJ}{a:Int×Int}{k:gJ}(h:iA (gK t y l) a=some k) :
  (a=((y:Int)+1,((t.getD y []).length:Int))/\k=l)\/(iA t a=some k):=by
 unfold iA at h ⊢
 split at h
 ·rename_i I
  rw[Cn aG]at h;rw[if_pos I]
  split at h
  ·rename_i e
   rw[List.getElem?_append]at h
   split at h
   ·right;rw[e];exact h
   ·left
    have b:=(List.getElem?_eq_some_iff.1 h).1;simp only[length_cons,length_nil]at b;have c:a.2.toNat-(t.getD y []).length=0:=by omega
    rw[c]at h;cases h;refine⟨Prod.ext ?_ ?_,rfl⟩
    ·show a.1=(y:Int)+1;omega
    ·show a.2=((t.getD y []).length:Int);omega
  ·exact Or.inr h
 ·cases h
theorem Co{t:ei}{y:Nat}(aG:y<t.length)(l:gJ):¬gi t ((y:Int)+1,((t.getD y []).length:Int)):=by
 rintro⟨k,h⟩;rw[r1]at h
 have:=(List.getElem?_eq_some_iff.1 h).1
 omega
theorem Cp{t:ei}{y:Nat}(aG:y<t.length)(l:gJ){a:Int×Int}:gi (gK t y l) a↔a=((y:Int)+1,((t.getD y []).length:Int))\/gi t a:=by
 constructor
 ·rintro⟨k,h⟩
  rcases uM aG h with⟨h,_⟩|h
  ·exact Or.inl h
  ·exact Or.inr ⟨k,h⟩
 ·rintro(h|h)
  ·rw[h];exact⟨l,agX aG l⟩
  ·exact h.put aG l
def dD(t:ei):Nat:=(t.map List.length).sum
def hM(t:ei):List (Int×Int):=t.flatten.flatMap (·.2.2.1)
theorem GB{α:Type}:∀ {l:List α} {j:Nat} (_:j<l.length) (z x:α),∃a b,l=a++l.getD j z::b/\l.set j x=a++x::b
 |[],_,h,_,_=>by simp at h
 |y::l,0,_,z,x=>⟨[],l,by simp,by simp⟩
 |y::l,j+1,h,z,x=>by
  obtain⟨a,b,I,J⟩:=GB (by simpa using h) z x;exact⟨y::a,b,by simp;rw[getD_eq_getElem?_getD]at I;exact I,by simp;exact J⟩
theorem Cq{t:ei}{y:Nat}(aG:y<t.length)(l:gJ):dD (gK t y l)=dD t+1:=by
 obtain⟨a,b,I,J⟩:=GB aG [] (t.getD y []++[l]);unfold dD gK;rw[J]
 conv=>rhs;rw[I]
 simp
 omega
theorem agY{t:ei}{y:Nat}(aG:y<t.length)(l:gJ)(a:Int×Int):(hM (gK t y l)).count a=(hM t).count a+l.2.2.1.count a:=by
 obtain⟨p,q,I,J⟩:=GB aG [] (t.getD y []++[l]);unfold hM gK;rw[J]
 conv=>rhs;rw[I]
 simp[List.flatten_append,List.flatMap_append,List.count_append]
 omega
theorem oD{t:ei}(y:Nat):(t.getD y []).length<=dD t:=by
 by_cases aG:y<t.length
 ·obtain⟨a,b,I,_⟩:=GB aG [] []
  unfold dD
  conv=>rhs;rw[I]
  simp
  omega
 ·rw[getD_eq_getElem?_getD,List.getElem?_eq_none (by omega)]
  simp
structure nu(t:ei)(aY:Int×Int->Nat):Prop where
 len:t.length=6
 GC:∀a,gi t a->aY a<dD t
 mono:∀a b,gi t b->a.1=b.1->0<=a.2->a.2<b.2->aY a<aY b
 Cr:∀a l,iA t a=some l->l.1=0\/l.1=1
 thr:∀a l,iA t a=some l->∀b∈l.2.2.1,gi t b/\aY b<aY a
 pk:∀a l,iA t a=some l->∀p∈l.2.2.2,gi t p.1/\aY p.1<aY a/\(p.2.2=0\/p.2.2=1)
 w7:∀a l,iA t a=some l->l.2.2.1.length<=4
 GD:∀a l,iA t a=some l->l.2.2.2.length<=4096
 red:∀a l,iA t a=some l->oC l.2.2.2
 new:∀a l,iA t a=some l->a.2=0->l.2.1=true
theorem nu.put{t:ei}{aY:Int×Int->Nat}(h:nu t aY){y:Nat}(aG:y<6){l:gJ}(ad:l.1=0\/l.1=1)(bk:∀b∈l.2.2.1,gi t b)(al:∀p∈l.2.2.2,gi t p.1/\(p.2.2=0\/p.2.2=1))(n:l.2.2.1.length<=4)(r:l.2.2.2.length<=4096)(o:oC l.2.2.2)(bc:(t.getD y []).length=0->l.2.1=true) :
  nu (gK t y l) λa=>if a=((y:Int)+1,((t.getD y []).length:Int))then dD t else aY a:=by
 have c:y<t.length:=by rw[h.len];exact aG
 have kU:∀a,gi t a->a≠((y:Int)+1,((t.getD y []).length:Int)):=λa bh e=>Co c l (e ▸ bh)
 have cH:∀ {a k},iA t a=some k->gi t a:=λh=>⟨_,h⟩
 refine⟨by rw[MX,h.len],?_,?_,?_,?_,?_,?_,?_,?_,?_⟩
 ·intro a bh
  rw[Cq c]
  rcases (Cp c l).1 bh with e|bh
  ·rw[if_pos e];omega
  ·rw[if_neg (kU a bh)]
   have:=h.GC a bh
   omega
 ·intro a b ad e d f
  have s:b≠((y:Int)+1,((t.getD y []).length:Int))->gi t b:=λg=>((Cp c l).1 ad).resolve_left g
  have j:gi t a/\a≠((y:Int)+1,((t.getD y []).length:Int)):=by
   have:gi t a:=by
    rw[pj]
    rcases (Cp c l).1 ad with q|ad
    ·rw[q]at e f
     rw[e];refine⟨by omega,d,?_⟩;rw[show((y:Int)+1-1).toNat=y by omega];exact f
    ·rw[pj]at ad
     rw[e];exact⟨ad.1,d,by omega⟩
   exact⟨this,kU a this⟩
  rw[if_neg j.2]
  split
  ·exact h.GC a j.1
  ·rename_i g
   exact h.mono a b (s g) e d f
 ·intro a k aa
  rcases uM c aa with⟨_,rfl⟩|aa
  ·exact ad
  ·exact h.Cr a k aa
 ·intro a k aa b i
  rcases uM c aa with⟨e,rfl⟩|aa
  ·have:=bk b i
   refine⟨this.put c _,?_⟩;rw[if_neg (kU b this),if_pos e];exact h.GC b this
  ·have:=h.thr a k aa b i
   refine⟨this.1.put c _,?_⟩;rw[if_neg (kU b this.1),if_neg (kU a (cH aa))];exact this.2
 ·intro a k aa p m
  rcases uM c aa with⟨e,rfl⟩|aa
  ·have:=al p m
   refine⟨this.1.put c _,?_,this.2⟩;rw[if_neg (kU _ this.1),if_pos e];exact h.GC _ this.1
  ·have:=h.pk a k aa p m
   refine⟨this.1.put c _,?_,this.2.2⟩;rw[if_neg (kU _ this.1),if_neg (kU a (cH aa))];exact this.2.1
 ·intro a k aa
  rcases uM c aa with⟨_,rfl⟩|aa
  ·exact n
  ·exact h.w7 a k aa
 ·intro a k aa
  rcases uM c aa with⟨_,rfl⟩|aa
  ·exact r
  ·exact h.GD a k aa
 ·intro a k aa
  rcases uM c aa with⟨_,rfl⟩|aa
  ·exact o
  ·exact h.red a k aa
 ·intro a k aa d
  rcases uM c aa with⟨e,rfl⟩|aa
  ·apply bc
   rw[e]at d;omega
  ·exact h.new a k aa d
def r2(t:ei)(l:List (Int×Int)):Prop:=∀a,(l++hM t).count a=if gi t a then 1 else 0
section
def pn(p:cn):Prop:=(1<=p.1.1/\p.1.1<=6/\0<=p.1.2/\p.1.2<2048)/\(p.2.2=0\/p.2.2=1)
theorem GF(N:Nat){a:ab}(h:1<=a.1/\a.1<=6/\0<=a.2/\a.2<2048):wZ N a=some true:=by
 unfold wZ;rw[decide_eq_true h.1,decide_eq_true h.2.1,decide_eq_true h.2.2.1,decide_eq_true h.2.2.2]
 rfl
theorem GG(N:Nat){d:Int}(h:d=0\/d=1):zg N d=some true:=by
 rcases h with rfl|rfl<;>rfl
theorem UC(N:Nat){p:cn}(h:pn p):B9 N p=some true:=by
 unfold B9;rw[GF N h.1,bind_some,cond_true,GG N h.2]
 rfl
theorem UD(N:Nat){p q:cn}(al:p.2.2=0\/p.2.2=1)(a:q.2.2=0\/q.2.2=1):Ca N p q=some (uL p q):=by
 unfold Ca;rw[GG N al,bind_some,show(!(!true))=true from rfl,cond_true,GG N a,bind_some];unfold uL
 by_cases e:p.2.2=q.2.2
 ·rw[decide_eq_true e];rfl
 ·rw[decide_eq_false e]
  show some (a7.beq c4 p (q.1,(q.2.1,p.2.2)))=some (true&&_)
  congr 1
  rw[Bool.eq_iff_iff,beq_iff _ _ rfl];simp only[Bool.true_and,Bool.and_eq_true,decide_eq_true_eq,beq_iff_eq];constructor
  ·intro h
   rw[h];exact⟨rfl,rfl⟩
  ·rintro⟨I,J⟩
   exact Prod.ext I (Prod.ext J rfl)
theorem UE{N:Nat}(l s:dz)(aM:l.length<N)(ae:∀p∈l,p.2.2=0\/p.2.2=1)(w:∀p∈s,p.2.2=0\/p.2.2=1)(ad:l.length+s.length<=100000):Cb N l s=some (eO s l):=by
 have cY:TO N l N (0,s)=some (eO s l):=by
  refine dK (λk d=>∃j:Nat,j+k=l.length/\d=((j:Int),eO s (l.take j))) _ ?_ N l.length _ (by omega) ⟨0,by omega,by simp[eO]⟩;rintro k d rec ⟨j,C,rfl⟩ y;obtain⟨S,c⟩:∃S,S=eO s (l.take j):=⟨_,rfl⟩
  have B:S.length<=l.length+s.length:=by
   rw[c]
   have:=zp s (l.take j)
   rw[length_take]at this;omega
  have A:∀p∈S,p.2.2=0\/p.2.2=1:=by
   intro p al;rw[c]at al
   rcases Gz al with h|h
   ·exact w p h
   ·exact ae p (List.mem_of_mem_take h)
  rw[<- c]
  apply T.eq
  by_cases i:j<l.length
  ·obtain⟨x,ai⟩:∃x,l[j]?=some x:=⟨_,getElem?_eq_getElem i⟩
   have v:=ae x (mem_of_getElem? ai);have t:eO s (l.take (j+1))=mI S x:=by
    rw[List.take_succ_eq_append_getElem i,Uz,c,(List.getElem?_eq_some_iff.1 ai).2]
   have g:∀S',S'=mI S x->T (rec ((j:Int)+1,S')) (·=eO s l):=λS' e=>⟨_,y (k-1) _ (by omega) ⟨j+1,by omega,by rw[t,e];rfl⟩,rfl⟩
   have f:(j:Int)<(l.length:Int):=by omega
   simp only[aJ,reduceCtorEq,f,bS ai];cases sY:S.getLast? with
   |none=>
    have r:=List.getLast?_eq_none_iff.1 sY;subst r
    have:=g [x] rfl
    simp only[aJ,length_nil,nil_append,List.length_singleton,show ¬(0<((0:Nat):Int)) by omega]
    and_intros<;>first|omega|exact this
   |some q=>
    have D:0<S.length:=by
     cases S with
     |nil=>cases sY
     |cons a b=>simp
    have m:S[S.length-1]?=some q:=by rw[<- sY,List.getLast?_eq_getElem?]
    have n:=A q (mem_of_getElem? m);have u:0<(S.length:Int):=by omega
    have o:((S.length:Int)-1).toNat=S.length-1:=by omega
    simp only[u,o,bS m,aT (UD N n v),aJ]
    by_cases U:uL q x=true
    ·have:=g (S.take (S.length-1)) (by unfold mI;rw[sY];show _=if uL q x=true then _ else _;rw[if_pos U,List.dropLast_eq_take])
     simp only[U,aJ,reduceCtorEq]
     and_intros<;>first|omega|(simp only[cK];omega)|exact this|trivial
    ·have:=g (S++[x]) (by unfold mI;rw[sY];show _=if uL q x=true then _ else _;rw[if_neg U])
     have z:uL q x=false:=by simpa using U
     simp only[z,aJ,reduceCtorEq]
     and_intros<;>first|omega|(simp only[cK];omega)|exact this|trivial
  ·have f:¬(j:Int)<(l.length:Int):=by omega
   simp only[aJ,reduceCtorEq,f];rw[c,List.take_of_length_le (by omega)]
 unfold Cb;rw[cY,bind_some]
theorem MY(N:Nat)(l:dz)(h:l.length<=100000):w1 N l=some (l,l.length):=by
 unfold w1
 apply T.eq
 simp only[aJ,List.length_replicate];omega
theorem ag2{N:Nat}{l:dz}(aM:l.length<N)(ae:∀p∈l,p.2.2=0\/p.2.2=1)(ad:l.length<=100000)(a:oC l):F9 N l=some (l,l.length):=by
 unfold F9;have I:=UE l [] aM ae (λ_ h=>by cases h) (by simp;omega);rw[agV a]at I
 apply T.eq
 simp only[aJ,aT I,aT (MY N l ad)];omega
structure ih(y:bd):Prop where
 iB:0<=y.2.2.1/\y.2.2.1<=2048
 out:y.1=false->y.2.1=0/\y.2.2.2.1=false/\y.2.2.2.2=[]
 at':y.1=true->tmod y.2.1 2≠0/\-13<=y.2.1/\y.2.1<=179
 cV:y.2.2.2.2.length<=4096
 ok:∀p∈y.2.2.2.2,pn p
 red:oC y.2.2.2.2
theorem zq{N:Nat}{y:bd}(h:ih y)(aM:y.2.2.2.2.length<N):rY N y=some 0:=by
 have cY:TQ N y N 0=some (.inl ()):=by
  refine dK (λk d=>∃j:Nat,j+k=y.2.2.2.2.length/\d=(j:Int)) _ ?_ N y.2.2.2.2.length _ (by omega) ⟨0,by omega,rfl⟩;rintro k d rec ⟨j,m,rfl⟩ i;have az:=h.cV
  apply T.eq
  by_cases f:j<y.2.2.2.2.length
  ·obtain⟨x,ai⟩:∃x,y.2.2.2.2[j]?=some x:=⟨_,getElem?_eq_getElem f⟩
   have c:=h.ok x (mem_of_getElem? ai);have a:(j:Int)<(y.2.2.2.2.length:Int):=by omega
   have n:T (rec ((j:Int)+1)) (·=.inl ()):=⟨_,i (k-1) _ (by omega) ⟨j+1,by omega,rfl⟩,rfl⟩
   simp only[aJ,reduceCtorEq,a,bS ai,aT (UC N c)]
   by_cases e:j=0
   ·subst e
    simp only[aJ,show ¬(0<((0:Nat):Int)) by omega]
    and_intros<;>first|omega|(simp only[cK];omega)|exact this|trivial
   ·have l:0<(j:Int):=by omega
    obtain⟨q,b⟩:∃x,y.2.2.2.2[j-1]?=some x:=⟨_,getElem?_eq_getElem (by omega)⟩
    have g:=h.ok q (mem_of_getElem? b);have U:=h.red (j-1) q x b (by rw[show j-1+1=j by omega];exact ai);simp only[aJ,reduceCtorEq,l,show((j:Int)-1).toNat=j-1 by omega,bS b,aT (UD N g.2 c.2),U]
    and_intros<;>first|omega|(simp only[cK];omega)|exact this|trivial
  ·have a:¬(j:Int)<(y.2.2.2.2.length:Int):=by omega
   simp only[aJ,reduceCtorEq,a]
 have U:=h.iB;have az:=h.cV;unfold rY
 apply T.eq
 cases cH:y.1 with
 |false=>
  obtain⟨I,J,ag⟩:=h.out cH;simp only[aJ,Int.reduceEq,reduceCtorEq,I,J,ag,length_nil,show ¬y.2.2.1<0 by omega,show ¬2048<y.2.2.1 by omega]
  decide
 |true=>
  obtain⟨I,J,ag⟩:=h.at' cH;have al:w0 N y.2.1=some true:=by
   unfold w0
   apply T.eq
   simp only[aJ];exact⟨⟨I,J⟩,ag⟩
  simp only[aJ,Int.reduceEq,reduceCtorEq,aT al,aT cY,show ¬y.2.2.1<0 by omega,show ¬2048<y.2.2.1 by omega,show ¬4096<(y.2.2.2.2.length:Int) by omega]
theorem uN{N:Nat}{y:bd}(h:ih y)(cH:y.1=true)(aM:5000<N){place:Int}(al:tmod place 2≠0/\-13<=place/\place<=179){l:dz}(ae:∀p∈l,pn p)(ad:l.length+y.2.2.2.2.length<=4096) :
  lH N y place l=some ((true,place,y.2.2.1,y.2.2.2.1,eO y.2.2.2.2 l),0):=by
 have cY:TR N l N 0=some (.inl ()):=by
  refine dK (λk d=>∃j:Nat,j+k=l.length/\d=(j:Int)) _ ?_ N l.length _ (by omega) ⟨0,by omega,rfl⟩;rintro k d rec ⟨j,g,rfl⟩ e
  apply T.eq
  by_cases b:j<l.length
  ·obtain⟨x,ai⟩:∃x,l[j]?=some x:=⟨_,getElem?_eq_getElem b⟩
   have a:(j:Int)<(l.length:Int):=by omega
   have this:T (rec ((j:Int)+1)) (·=.inl ()):=⟨_,e (k-1) _ (by omega) ⟨j+1,by omega,rfl⟩,rfl⟩
   simp only[aJ,reduceCtorEq,a,bS ai,aT (UC N (ae x (mem_of_getElem? ai)))]
   and_intros<;>first|omega|exact this
  ·have a:¬(j:Int)<(l.length:Int):=by omega
   simp only[aJ,reduceCtorEq,a]
 have f:w0 N place=some true:=by
  unfold w0;rw[decide_eq_false al.1,decide_eq_true al.2.1,decide_eq_true al.2.2]
  rfl
 have c:=UE l y.2.2.2.2 (by omega:l.length<N) (λp h=>(ae p h).2) (λp al=>(h.ok p al).2) (by omega);have i:=zp y.2.2.2.2 l;unfold lH
 apply T.eq
 simp only[aJ,reduceCtorEq,aT (zq (N:=N) h (by omega)),aT f,aT cY,cH,nil_append,length_nil,aT c,aT (MY N _ (show(eO y.2.2.2.2 l).length<=100000 by omega)),show ¬4096<((eO y.2.2.2.2 l).length:Int) by omega];omega
theorem uO{y:bd}(h:ih y){place:Int}(al:tmod place 2≠0/\-13<=place/\place<=179){l:dz}(ae:∀p∈l,pn p)(ad:l.length+y.2.2.2.2.length<=4096) :
  ih (true,place,y.2.2.1,y.2.2.2.1,eO y.2.2.2.2 l):=by
 have a:=zp y.2.2.2.2 l;exact⟨h.iB,λh=>(by cases h),λ_=>al,by show(eO y.2.2.2.2 l).length<=4096;omega,λp al=>(Gz al).elim (h.ok p) (ae p),h.red.eO l⟩
theorem GH{N:Nat}{y:bd}(h:ih y)(b:y.1=false)(aM:5000<N){side:Int}(a:side=0\/side=1):te N y side=some ((true,(if side=1 then 179 else -13),y.2.2.1,true,[]),0):=by
 have az:=h.cV;unfold te
 apply T.eq
 simp only[aJ,reduceCtorEq,aT (zq (N:=N) h (by omega)),aT (GG N a),b]
 rcases a with rfl|rfl
 ·simp
 ·simp
theorem GI{N:Nat}{y:bd}(h:ih y)(cH:y.1=true)(aM:5000<N)(a:y.2.2.1<2048):nX N y=some ((true,y.2.1,y.2.2.1+1,false,[]),(y.2.2.1,y.2.2.2.1,y.2.2.2.2),0):=by
 have az:=h.cV;have U:=h.iB;unfold nX
 apply T.eq
 simp only[aJ,reduceCtorEq,aT (zq (N:=N) h (by omega)),cH,aT (MY N _ (show y.2.2.2.2.length<=100000 by omega)),show ¬y.2.2.1=2048 by omega];omega
theorem ag5{y:bd}(h:ih y)(cH:y.1=true)(a:y.2.2.1<2048):ih (true,y.2.1,y.2.2.1+1,false,[]):=by
 have U:=h.iB;exact⟨by show 0<=y.2.2.1+1/\y.2.2.1+1<=2048;omega,λh=>(by cases h),λ_=>h.at' cH,by simp,λ_ h=>(by cases h),λi p q h=>by cases h⟩
def zr(N:Nat)(b:Bool)(a:hL):Option (List (Int×bQ×Unit)):=
  uF b (0,a.1,()) (some [])
  (uF b (1,a.2,()) (some [])
  (some []))
def UG(N:Nat):j6 bL:=Mv N bF (by kernel_rfl) [.eF fI] [] [.c (.int .u8),.c (.bo (.ax aN))] [] [] (.s (.r [.n 3,.y]) (.c (.r [.n 3,.y]) .d)) 147 (λb d=>zr N b d.1) func147 rfl rfl ntmps147 (λ_=>rfl) rfl rfl (λid d=>by kernel_rfl)
def zt(N:Nat)(a:hL):Option (hL):=
  some a
def UH(N:Nat):bw bL:=b2 N bF [.cR fI] [] ⟨.a (.c (.fn 147 [.eF fI])),[],[]⟩ [] [] (.s (.r [.n 2,.w (.bX 1 fI)]) .d) [.tmp 2] fI.zero (λd=>zt N d.1) func121 ntmps121
def GJ(N:Nat)(b:Bool)(c:(Int×bQ×Unit))(d:Unit->Option ((List (ab×b9×Unit)))):Nat->Int->Option ((List (ab×b9×Unit))):=b3 λa gA=>
  cond (decide (a<(c.2.1.length:Int))) (ao ((a8 a c.2.1.length)&&(true)) <|
  cond (decide (40<=a)) (d ()) (ao ((bl (a+1))&&(true)) <|
  uF b ((c.1,(a+1)),(c.2.1.getD a.toNat []),()) (some [])
  (ao ((bl (a+1))&&(true)) <|
  gA (a+1)))) (d ())
def w9(N:Nat)(b:Bool)(a:hL):Option (List (ab×b9×Unit)):=
  (zt N a).bind λc=>
  (zr N true c).bind λd=>ko (λ(f:Int×bQ×Unit) (h:Unit) (e:Unit->Option (List (ab×b9×Unit)))=>
  GJ N b f e N 0) d () λg=>
  some []
def UI(N:Nat):j6 bL:=Mv N bF (by kernel_rfl) [.eF fI] [] [.cR aN,.c (.bo aN)] [UH N] [UG N] (.s .d (.s .d (.b (.o5 [(2,31)] ⟨[],[],[],[31]⟩ (.b (.s .d (.b (.l ⟨[(2,.a (.c (.raw (.ptr 31 0)))),(13,.a (.c (.int .i64)))],[],[3,11,12],[31]⟩ (.s .d (.s .d (.s (.b (.s .d (.s .d (.s (.r [.n 6,.y]) .d)))) .d))))))))))) 188 (λb d=>w9 N b d.1) func188 rfl rfl ntmps188 (λ_=>rfl) rfl rfl (λid d=>by kernel_rfl)
def MZ(N:Nat)(a:hL):Option (hL):=
  some a
def UJ(N:Nat):bw bL:=b2 N bF [.cR fI] [] ⟨.a (.c (.fn 188 [.eF fI])),[],[]⟩ [] [] (.s (.r [.n 2,.w (.bX 1 fI)]) .d) [.tmp 2] fI.zero (λd=>MZ N d.1) func148 ntmps148
def GK(N:Nat)(c:hL):Option (Int):=
  (MZ N c).bind λd=>
  (w9 N true d).bind λe=>ko (λ(a:ab×b9×Unit) (b:Int) (ey:Int->Option (Int))=>
  ao ((bl (b+(a.2.1.length:Int)))&&(true)) <|
  ey (b+(a.2.1.length:Int))) e 0 λf=>
  some f
def UK(N:Nat):bw bL:=b2 N bF [.cR fI] [] ⟨.a (.c (.int .i64)),[],[]⟩ [UJ N] [UI N] (.s (.r [.n 2,.w (.bX 1 fI)]) (.s .d (.s (.s .d (.b (.o5 [(3,18)] ⟨[],[(18,.cells 3 [.int .i64])],[],[]⟩ .d))) .d))) [.tmp 2] 0 (λd=>GK N d.1) func122 ntmps122
def GL(N:Nat)(b:(Int×bQ×Unit)):Nat->Int->Option ((Int×Bool)⊕(Int)):=b3 λa gA=>
  cond (decide (a<(b.2.1.length:Int))) (ao ((a8 a b.2.1.length)&&(true)) <|
  cond (decide (4<((b.2.1.getD a.toNat []).length:Int))) (some (.inr 9)) (ao ((bl (a+1))&&(true)) <|
  gA (a+1))) (some (.inl (a,(decide (a<(b.2.1.length:Int))))))
def UL(N:Nat)(b:(Int×bQ×Unit))(c:Int):Nat->Int->Option ((Unit)⊕((Int×Bool)⊕(Int))):=b3 λa r4=>
  cond (decide (a<((b.2.1.getD c.toNat []).length:Int))) (ao ((a8 a (b.2.1.getD c.toNat []).length)&&(true)) <|
  (wZ N ((b.2.1.getD c.toNat []).getD a.toNat aN.zero)).bind λd=>
  cond (!d) (some (.inr (.inr 1))) (ao ((bl (a+1))&&(true)) <|
  r4 (a+1))) (some (.inl ()))
def GM(N:Nat)(b:(Int×bQ×Unit)):Nat->Int->Option ((Int×Bool)⊕(Int)):=b3 λa uQ=>
  cond (decide (a<(b.2.1.length:Int))) (ao ((a8 a b.2.1.length)&&(true)) <|
  (UL N b a N 0).bind λ(c:(Unit)⊕((Int×Bool)⊕(Int)))=>
  sm c (λc=>
  ao ((bl (a+1))&&(true)) <|
  uQ (a+1)) (λq=>some q)) (some (.inl (a,(decide (a<(b.2.1.length:Int))))))
def UM(N:Nat)(b:(Int×bQ×Unit))(a:Int):Nat->(Int×(List (ab×Bool)))->Option (((List (ab×Bool)))⊕((Int×Bool×(List (ab×Bool)))⊕(Int))):=b3 λd13 ag6=>
  cond (decide (d13.1<((b.2.1.getD a.toNat []).length:Int))) (ao ((a8 d13.1 (b.2.1.getD a.toNat []).length)&&(true)) <|
  cond ((dk aN .bool d13.2 ((b.2.1.getD a.toNat []).getD d13.1.toNat aN.zero)).getD false) (some (.inr (.inr 8))) (ao ((true&&true)&&(true)) <|
  ao ((bl (d13.1+1))&&(true)) <|
  ag6 ((d13.1+1),(e6 aN .bool d13.2 ((b.2.1.getD a.toNat []).getD d13.1.toNat aN.zero) true)))) (some (.inl d13.2))
def GO(N:Nat)(a:(Int×bQ×Unit)):Nat->(Int×(List (ab×Bool)))->Option ((Int×Bool×(List (ab×Bool)))⊕(Int)):=b3 λd12 zk=>
  cond (decide (d12.1<(a.2.1.length:Int))) (ao ((a8 d12.1 a.2.1.length)&&(true)) <|
  (UM N a d12.1 N (0,d12.2)).bind λ(b:((List (ab×Bool)))⊕((Int×Bool×(List (ab×Bool)))⊕(Int)))=>
  sm b (λb=>
  ao ((bl (d12.1+1))&&(true)) <|
  zk ((d12.1+1),b)) (λq=>some q)) (some (.inl (d12.1,(decide (d12.1<(a.2.1.length:Int))),d12.2)))
def zu(N:Nat)(a:hL):Option (Int):=
  (zt N a).bind λg=>
  (zr N true g).bind λl=>ko (λ(e:Int×bQ×Unit) (y:Unit) (o:Unit->Option (Int))=>
  cond (decide (40<(e.2.1.length:Int))) (some 9) ((GL N e N 0).bind λ(c:(Int×Bool)⊕(Int))=>
  sm c (λc=>
  o ()) (λq=>some q))) l () λu=>
  (zt N a).bind λm=>
  (zr N true m).bind λh=>ko (λ(r:Int×bQ×Unit) (t:Unit) (f:Unit->Option (Int))=>
  (GM N r N 0).bind λ(d:(Int×Bool)⊕(Int))=>
  sm d (λd=>
  f ()) (λq=>some q)) h () λv=>
  (GK N a).bind λw=>
  (zt N a).bind λn=>
  (zr N true n).bind λi=>ko (λ(p:Int×bQ×Unit) (j:(List (ab×Bool))) (k:(List (ab×Bool))->Option (Int))=>
  (GO N p N (0,j)).bind λ(b:(Int×Bool×(List (ab×Bool)))⊕(Int))=>
  sm b (λb=>
  k b.2.2) (λq=>some q)) i ([]:List (ab×Bool)) λs=>
  some 0
def GP(N:Nat):bw bL:=b2 N bF [.cR fI] [] ⟨.a (.c (.int .i64)),[],[]⟩ [UH N,F8 N,UK N] [UG N] (.s (.r [.n 2,.w (.bX 1 fI)]) (.s (.s .d (.b (.o5 [(2,86)] ⟨[],[],[],[86]⟩ (.b (.s .d (.s .d (.b (.fr 2 ⟨[(2,.a (.c (.raw (.ptr 86 0)))),(29,.a (.c (.int .i64)))],[],[1,24,25,26,27,28],[86]⟩ ⟨[(2,.a (.c (.raw (.ptr 86 0)))),(29,.a (.c (.int .i64))),(30,.a (.c .bool))],[],[1,24,25,26,27,28],[86]⟩ .d)))))))) (.s (.s .d (.b (.o5 [] ⟨[],[],[],[86]⟩ (.b (.s .d (.b (.fr 6 ⟨[(2,.a (.c (.raw (.ptr 86 0)))),(43,.a (.c (.int .i64)))],[],[1,41,42],[86]⟩ ⟨[(2,.a (.c (.raw (.ptr 86 0)))),(43,.a (.c (.int .i64))),(44,.a (.c .bool))],[],[1,41,42],[86]⟩ (.s .d (.s .d (.s (.b (.s .d (.s .d (.b (.fr 8 ⟨[(2,.a (.c (.raw (.ptr 86 0)))),(49,.a (.c (.int .i64)))],[],[1,41,42,43,47,48],[86]⟩ ⟨[(2,.a (.c (.raw (.ptr 86 0))))],[],[1,41,42,43],[86]⟩ (.s .d (.s .d (.s (.b (.s (.r [.n 4,.w (.bX 12 aN)]) .d)) .d)))))))) .d)))))))))) (.s (.r [.n 2,.t (.ov aN .bool)]) (.s (.s .d (.b (.o5 [(13,97)] ⟨[],[(60,.mp aN .bool),B7],[],[86]⟩ (.b (.s .d (.b (.fr 12 ⟨[(2,.a (.c (.raw (.ptr 86 0)))),(13,.a (.c (.raw (.ptr 97 0)))),(67,.a (.c (.int .i64)))],[(60,.mp aN .bool),B7],[65,66],[86]⟩ ⟨[(2,.a (.c (.raw (.ptr 86 0)))),(13,.a (.c (.raw (.ptr 97 0)))),(67,.a (.c (.int .i64))),(68,.a (.c .bool))],[(60,.mp aN .bool),B7],[65,66],[86]⟩ (.s .d (.s .d (.s (.b (.s .d (.s .d (.b (.fr 14 ⟨[(2,.a (.c (.raw (.ptr 86 0)))),(13,.a (.c (.raw (.ptr 97 0)))),(73,.a (.c (.int .i64)))],[(60,.mp aN .bool),B7],[65,66,67,71,72],[86]⟩ ⟨[(2,.a (.c (.raw (.ptr 86 0)))),(13,.a (.c (.raw (.ptr 97 0))))],[(60,.mp aN .bool),B7],[65,66,67],[86]⟩ (.s .d (.s .d (.s (.b (.s (.r [.n 4,.w (.bX 19 aN)]) (.s (.s (.r [.n 2,.t .Bh]) .d) (.r [.n 2,.t .E4])))) .d)))))))) .d)))))))))) .d))))) [.cell 2 41] 0 (λd=>zu N d.1) func87 ntmps87
theorem M0{c aY:Type}{step:c->(c->Option aY)->Option aY}(bb:Nat->c->aY->Prop)(h:∀k d r rec,bb k d r->(∀k' b a,k'<k->bb k' b a->rec b=some a)->step d rec=some r):∀n k d r,k<n->bb k d r->b3 step n d=some r
 |0,_,_,_,aa,_=>by omega
 |n+1,k,d,r,aa,f=>h k d r _ f λk' b a g e=>M0 bb h n k' b a (by omega) e
theorem UO{α:Type}{x:α}{k:Option (List α)}{P:List α->Prop}:T (uF true x (some []) k) P↔T k λl=>P (x::l):=by
 cases k with
 |none=>exact⟨λ⟨_,h,_⟩=>(by cases h),λ⟨_,h,_⟩=>by cases h⟩
 |some l=>exact⟨λ⟨_,h,al⟩=>⟨l,rfl,by cases h;exact al⟩,λ⟨_,h,al⟩=>⟨_,rfl,by cases h;exact al⟩⟩
def mK(a:ab):Prop:=1<=a.1/\a.1<=6/\0<=a.2/\a.2<2048
def hy(l:b9):List (ab×Bool):=l.map λa=>(a,true)
theorem M1(a b:ab):a7.beq aN a b=decide (a=b):=by
 rw[Bool.eq_iff_iff,beq_iff _ _ rfl,decide_eq_true_eq]
theorem M3:∀(l:b9) (a:ab),a ∉ l->dk aN .bool (hy l) a=none
 |[],_,_=>rfl
 |x::l,a,h=>by
  show(match a7.beq aN x a with|true=>some true|false=>dk aN .bool (hy l) a)=none;rw[M1,decide_eq_false (λe=>h (by rw[e];exact mem_cons_self))];exact M3 l a λb=>h (mem_cons_of_mem _ b)
theorem GQ:∀(l:b9) (a:ab),a ∉ l->e6 aN .bool (hy l) a true=hy (l++[a])
 |[],_,_=>rfl
 |x::l,a,h=>by
  show(match a7.beq aN x a with|true=>(x,true)::hy l|false=>(x,true)::e6 aN .bool (hy l) a true)=_;rw[M1,decide_eq_false (λe=>h (by rw[e];exact mem_cons_self))];rw[GQ l a λb=>h (mem_cons_of_mem _ b)]
  rfl
def iN(b:Int):Nat->bQ->List (ab×b9×Unit)
 |_,[]=>[]
 |i,s::r=>((b,(i:Int)+1),s,())::iN b (i+1) r
theorem uR{α:Type}{l:List α}{i:Nat}{x:α}(h:l[i]?=some x):l.drop i=x::l.drop (i+1):=by
 obtain⟨I,J⟩:=List.getElem?_eq_some_iff.1 h;rw[List.drop_eq_getElem_cons I,J]
theorem UP{N:Nat}(b:Int)(l:bQ)(ae:l.length<=40)(aM:5000<N){c:Unit->Option (List (ab×b9×Unit))}{R:List (ab×b9×Unit)}(j:c ()=some R) :
  GJ N true (b,l,()) c N 0=some (iN b 0 l++R):=by
 refine M0 (λk d r=>∃i:Nat,i+k=l.length/\d=(i:Int)/\r=iN b i (l.drop i)++R) ?_ N l.length _ _ (by omega) ⟨0,by omega,rfl,rfl⟩;rintro k d r rec ⟨i,hi,rfl,rfl⟩ h
 apply T.eq
 by_cases f:i<l.length
 ·obtain⟨x,ai⟩:∃x,l[i]?=some x:=⟨_,getElem?_eq_getElem f⟩
  have a:(i:Int)<(l.length:Int):=by omega
  have e:¬40<=(i:Int):=by omega
  have g:=h (k-1) ((i:Int)+1) _ (by omega) ⟨i+1,by omega,rfl,rfl⟩;rw[uR ai];simp only[aJ,reduceCtorEq,a,e,UO,bS ai,aT g]
  and_intros<;>first|omega|exact this|trivial
 ·have a:¬(i:Int)<(l.length:Int):=by omega
  rw[List.drop_eq_nil_of_le (by omega)];simp only[aJ,reduceCtorEq,a,aT j]
  rfl
theorem M4{N:Nat}(aM:5000<N){f g:bQ}(az:f.length<=40)(a:g.length<=40):w9 N true (f,g)=some (iN 0 0 f++(iN 1 0 g++[])):=by
 show GJ N true (0,f,()) (λ_=>GJ N true (1,g,()) (λ_=>some []) N 0) N 0=_;exact UP 0 f az aM (UP 1 g a aM rfl)
def lens(E:List (ab×b9×Unit)):Nat:=(E.map λx=>x.2.1.length).sum
theorem UR(b:Int)(l:bQ):∀i,lens (iN b i l)=l.flatten.length:=by
 induction l with
 |nil=>intro i;rfl
 |cons s r a=>
  intro i;show s.length+lens (iN b (i+1) r)=(s++r.flatten).length;rw[a,length_append]
theorem ahb(E:List (ab×b9×Unit)):∀c:Nat,c+lens E<=100000 ->
  ko (λ(a:ab×b9×Unit) (b:Int) (ey:Int->Option Int)=>ao ((bl (b+(a.2.1.length:Int)))&&(true))<|ey (b+(a.2.1.length:Int))) E (c:Int) (λo=>some o)=some ((c+lens E:Nat):Int):=by
 induction E with
 |nil=>intro c _;rfl
 |cons e E d=>
  intro c h;have ae:lens (e::E)=e.2.1.length+lens E:=rfl;show ao ((bl ((c:Int)+(e.2.1.length:Int)))&&(true)) (ko _ E ((c:Int)+(e.2.1.length:Int)) _)=_;rw[jI (by rw[Bool.and_true];exact B1 (by omega) (by omega)),ae,<- Nat.add_assoc];exact d (c+e.2.1.length) (by omega)
theorem US{N:Nat}(aM:5000<N){f g:bQ}(az:f.length<=40)(a:g.length<=40)(U:f.flatten.length+g.flatten.length<=100000):GK N (f,g)=some ((f.flatten.length+g.flatten.length:Nat):Int):=by
 have ae:lens (iN 0 0 f++(iN 1 0 g++[]))=f.flatten.length+g.flatten.length:=by
  rw[append_nil];unfold lens;rw[List.map_append,List.sum_append];exact congr (congrArg _ (UR 0 f 0)) (UR 1 g 0)
 show Option.bind (w9 N true (f,g)) _=_;rw[M4 aM az a,bind_some]
 have:=ahb (iN 0 0 f++(iN 1 0 g++[])) 0 (by omega)
 rw[ae,Nat.zero_add]at this;exact this
structure gL(l:bQ):Prop where
 len:l.length<=40
 cV:∀s∈l,s.length<=4
 ok:∀s∈l,∀a∈s,mK a
theorem UT{N:Nat}(aM:5000<N)(b:Int){l:bQ}(h:gL l):GL N (b,l,()) N (0:Int)=some (.inl ((l.length:Int),false)):=by
 have j:=h.len;refine dK (λk d=>∃i:Nat,i+k=l.length/\d=(i:Int)) _ ?_ N l.length _ (by omega) ⟨0,by omega,rfl⟩;rintro k d rec ⟨i,hi,rfl⟩ f
 apply T.eq
 by_cases c:i<l.length
 ·obtain⟨x,ai⟩:∃x,l[i]?=some x:=⟨_,getElem?_eq_getElem c⟩
  have a:(i:Int)<(l.length:Int):=by omega
  have g:=h.cV x (mem_of_getElem? ai);have e:¬4<(x.length:Int):=by omega
  have this:T (rec ((i:Int)+1)) (·=.inl ((l.length:Int),false)):=⟨_,f (k-1) _ (by omega) ⟨i+1,by omega,rfl⟩,rfl⟩
  simp only[aJ,reduceCtorEq,a,bS ai,e]
  and_intros<;>first|omega|exact this
 ·have a:¬(i:Int)<(l.length:Int):=by omega
  simp only[aJ,reduceCtorEq,a];rw[show i=l.length by omega]
theorem ahd{N:Nat}(aM:5000<N)(b:Int){l:bQ}(h:gL l){i:Nat}{s:b9}(c:l[i]?=some s):UL N (b,l,()) (i:Int) N (0:Int)=some (.inl ()):=by
 have e:=mem_of_getElem? c;have n:=h.cV s e;refine dK (λk d=>∃j:Nat,j+k=s.length/\d=(j:Int)) _ ?_ N s.length _ (by omega) ⟨0,by omega,rfl⟩;rintro k d rec ⟨j,m,rfl⟩ g
 apply T.eq
 by_cases f:j<s.length
 ·obtain⟨x,ai⟩:∃x,s[j]?=some x:=⟨_,getElem?_eq_getElem f⟩
  have a:(j:Int)<(s.length:Int):=by omega
  have this:T (rec ((j:Int)+1)) (·=.inl ()):=⟨_,g (k-1) _ (by omega) ⟨j+1,by omega,rfl⟩,rfl⟩
  simp only[aJ,reduceCtorEq,bS c,a,bS ai,aT (GF N (h.ok s e x (mem_of_getElem? ai)))]
  and_intros<;>first|omega|exact this
 ·have a:¬(j:Int)<(s.length:Int):=by omega
  simp only[aJ,reduceCtorEq,bS c,a]
theorem UU{N:Nat}(aM:5000<N)(b:Int){l:bQ}(h:gL l):GM N (b,l,()) N (0:Int)=some (.inl ((l.length:Int),false)):=by
 have f:=h.len;refine dK (λk d=>∃i:Nat,i+k=l.length/\d=(i:Int)) _ ?_ N l.length _ (by omega) ⟨0,by omega,rfl⟩;rintro k d rec ⟨i,hi,rfl⟩ e
 apply T.eq
 by_cases c:i<l.length
 ·obtain⟨x,ai⟩:∃x,l[i]?=some x:=⟨_,getElem?_eq_getElem c⟩
  have a:(i:Int)<(l.length:Int):=by omega
  have this:T (rec ((i:Int)+1)) (·=.inl ((l.length:Int),false)):=⟨_,e (k-1) _ (by omega) ⟨i+1,by omega,rfl⟩,rfl⟩
  simp only[aJ,reduceCtorEq,a,aT (ahd aM b h ai)]
  and_intros<;>first|omega|exact this
 ·have a:¬(i:Int)<(l.length:Int):=by omega
  simp only[aJ,reduceCtorEq,a];rw[show i=l.length by omega]
theorem M5{α:Type}{P Q:List α}{x:α}(h:(P++x::Q).Nodup):x ∉ P:=λai=>(List.nodup_append.1 h).2.2 x ai x mem_cons_self rfl
theorem oE{α:Type}{l:List α}{i:Nat}{x:α}(h:l[i]?=some x):l.take (i+1)=l.take i++[x]:=by
 obtain⟨I,J⟩:=List.getElem?_eq_some_iff.1 h;rw[List.take_succ_eq_append_getElem I,J]
theorem ahe{N:Nat}(aM:5000<N)(b:Int){l:bQ}(h:gL l){i:Nat}{s:b9}(f:l[i]?=some s)(a Q:b9)(bc:(a++(s++Q)).Nodup) :
  UM N (b,l,()) (i:Int) N (0,hy a)=some (.inl (hy (a++s))):=by
 have p:=h.cV s (mem_of_getElem? f);refine dK (λk d=>∃j:Nat,j+k=s.length/\d=((j:Int),hy (a++s.take j))) _ ?_ N s.length _ (by omega) ⟨0,by omega,by simp⟩;rintro k d rec ⟨j,o,rfl⟩ n
 apply T.eq
 by_cases m:j<s.length
 ·obtain⟨x,ai⟩:∃x,s[j]?=some x:=⟨_,getElem?_eq_getElem m⟩
  have c:(j:Int)<(s.length:Int):=by omega
  have g:x ∉ a++s.take j:=by
   refine M5 (Q:=s.drop (j+1)++Q) ?_;have e:a++s.take j++x::(s.drop (j+1)++Q)=a++(s++Q):=by
    conv=>rhs;rw[<- List.take_append_drop j s,uR ai]
    simp only[append_assoc,List.cons_append]
   rw[e];exact bc
  have this:T (rec ((j:Int)+1,hy (a++s.take j++[x]))) (·=.inl (hy (a++s))):=⟨_,n (k-1) _ (by omega) ⟨j+1,by omega,by rw[oE ai,append_assoc];rfl⟩,rfl⟩
  simp only[aJ,reduceCtorEq,bS f,c,bS ai,M3 _ _ g,GQ _ _ g,Option.getD_none,Bool.false_eq_true]
  and_intros<;>first|omega|exact this
 ·have c:¬(j:Int)<(s.length:Int):=by omega
  simp only[aJ,reduceCtorEq,bS f,c];rw[List.take_of_length_le (by omega)]
theorem UW{N:Nat}(aM:5000<N)(b:Int){l:bQ}(h:gL l)(a:b9)(bc:(a++l.flatten).Nodup) :
  GO N (b,l,()) N (0,hy a)=some (.inl ((l.length:Int),false,hy (a++l.flatten))):=by
 have n:=h.len;refine dK (λk d=>∃i:Nat,i+k=l.length/\d=((i:Int),hy (a++(l.take i).flatten))) _ ?_ N l.length _ (by omega) ⟨0,by omega,by simp⟩;rintro k d rec ⟨i,hi,rfl⟩ g
 apply T.eq
 by_cases f:i<l.length
 ·obtain⟨x,ai⟩:∃x,l[i]?=some x:=⟨_,getElem?_eq_getElem f⟩
  have c:(i:Int)<(l.length:Int):=by omega
  have e:(l.take (i+1)).flatten=(l.take i).flatten++x:=by rw[oE ai,List.flatten_append,List.flatten_singleton]
  have m:(a++(l.take i).flatten++(x++(l.drop (i+1)).flatten)).Nodup:=by
   have j:a++(l.take i).flatten++(x++(l.drop (i+1)).flatten)=a++l.flatten:=by
    conv=>rhs;rw[<- List.take_append_drop i l,uR ai,List.flatten_append,List.flatten_cons]
    simp only[append_assoc]
   rw[j];exact bc
  have this:T (rec ((i:Int)+1,hy (a++(l.take i).flatten++x))) (·=.inl ((l.length:Int),false,hy (a++l.flatten))):=⟨_,g (k-1) _ (by omega) ⟨i+1,by omega,by rw[e,append_assoc];rfl⟩,rfl⟩
  simp only[aJ,reduceCtorEq,c,aT (ahe aM b h ai _ _ m)]
  and_intros<;>first|omega|exact this
 ·have c:¬(i:Int)<(l.length:Int):=by omega
  simp only[aJ,reduceCtorEq,c];rw[show i=l.length by omega,List.take_length]
theorem zv{N:Nat}(aM:5000<N){f g:bQ}(az:gL f)(a:gL g)(bc:(f.flatten++g.flatten).Nodup)(U:f.flatten.length+g.flatten.length<=100000):zu N (f,g)=some 0:=by
 have d:=az.len;have b:=a.len;have e:=UW aM 0 az [] (by rw[nil_append];exact(List.nodup_append.1 bc).1);have c:=UW aM 1 a f.flatten bc;have ad:zt N (f,g)=some (f,g):=rfl;have h:zr N true (f,g)=some [(0,f,()),(1,g,())]:=rfl;show cond (decide (40<(f.length:Int))) _ (Option.bind (GL N (0,f,()) N 0) _)=_;rw[decide_eq_false (by omega),cond_false,UT aM 0 az,bind_some];show cond (decide (40<(g.length:Int))) _ (Option.bind (GL N (1,g,()) N 0) _)=_;rw[decide_eq_false (by omega),cond_false,UT aM 1 a,bind_some];show Option.bind (GM N (0,f,()) N 0) _=_;rw[UU aM 0 az,bind_some];show Option.bind (GM N (1,g,()) N 0) _=_;rw[UU aM 1 a,bind_some];rw[US aM d b U,bind_some];show Option.bind (GO N (0,f,()) N (0,hy [])) _=_;rw[e,bind_some];show Option.bind (GO N (1,g,()) N (0,hy f.flatten)) _=_;rw[c,bind_some]
 rfl
end
section
set_option linter.unusedSectionVars false
def M7(X:bu)(f:FuncId)(args:dO)(h:bC)(Q:cd->bC->Prop):Prop:=
 ∀(B:Nat->Prop) (ak:World) (env:Nat->Loc) (vs:cl) (H:c2) (W:World),vF X B ak->dw env B ak args vs->bJ env B ak h H->bZ B ak H W->∀u,CallsDIn Fence.wide 0 X.P f vs.toArray u W (λe a w'=>a=u/\∃v,e=.returned v/\pI X env B H W Q v w')
theorem pI.mono{X:bu}{env:Nat->Loc}{B:Nat->Prop}{H:c2}{W:World}{Q c:cd->bC->Prop}{v:Value}{w':World}(h:pI X env B H W Q v w')(g:∀sv a,Q sv a->∃b J d,qz sv b/\lp a d/\(∀env B w H,bJ env B w d H->bJ env B w J H)/\c b J):pI X env B H W c v w':=by
 obtain⟨env',B',l,H',sv,a,I,J,ag,i,f,e,k,m⟩:=h;obtain⟨b,s,t,j,n,p,r⟩:=g sv a I;obtain⟨H2,Y,q,o⟩:=n.D1 e;exact⟨env',B',l,H2,b,s,r,J,ag,i,j _ _ _ _ f,p _ _ _ _ o,(k.perm q).e2 (sublist_append_left _ _),m⟩
theorem UX{X:bu}{n:Nat}{fn:Func}{args:dO}{h:bC}{B:Nat->Prop}{ak:World}{env:Nat->Loc}{vs:cl}{H:c2}{W:World}(aM:fn.ntmps=n)(ae:ble args.length n=true)(bc:ble n iT=true)(g:vF X B ak)(bh:dw env B ak args vs)(m:bJ env B ak h H)(a:bZ B ak H W) :
  bK X (gB W H) W ⟨B,λid l=>((iT<=id/\∃b,l=.blk b)\/hZ<=id)/\env id=l,[]⟩ n [] env B W H ⟨mh 0 args,h⟩ { tmps:=vs.toArray++Array.replicate (fn.ntmps-vs.toArray.size) undef,defers:=[] } W:=by
 have p:=bh.length;have hle:vs.length<=n:=by rw[p];exact le_of_ble_eq_true ae
 have d:gm B ak B W:=⟨λ_ h=>h,λk aa=>a.below.block k aa⟩
 have o:∀k,B k->gB W H k:=λk aa=>⟨a.base k aa,λc U e=>((a.ok c U).lt e).1 aa⟩
 have f:=DF aM hle _ rfl;refine⟨f.size,rfl,λs sv q=>?_,m.up d,?_,λ_ h=>h,λ_ h=>.inl h,λid l al=>⟨le_trans (le_of_ble_eq_true bc) (al.1.elim (λh=>h.1) (λh=>le_trans (by decide) h)),al.2,al.1.imp (λh=>h.2) (λh=>h)⟩,c9.refl _ _,λi x ai=>(g i x ai).up d⟩
 ·obtain⟨_,v,I,J⟩:=Ax bh q
  refine⟨v,?_,J.up d⟩;have j:=(List.getElem?_eq_some_iff.1 I).1;rw[Array.getElem?_append_left (by simpa using j)]
  simpa using I
 ·have I:=a.rest
  simp only[map_nil,append_nil];exact⟨c9.refl _ _,λk aa=>aa.elim (λh=>h.1) (λh=>a.base k h),λc U=>(I.ok c U).base λb ad aa=>aa.elim (λh=>((I.ok c U).lt ad).1 h) (λh=>((I.ok c U).lt ad).1 (o b h)),I.apart⟩
theorem ahg{X:bu}{n:Nat}(p:X.a6.ok X.P){f:FuncId}{fn:Func}{c:Code}{args:dO}{h:bC}{Q:cd->bC->Prop}{res:List ResultVar}(az:X.P.funcs[f]?=some fn)(ad:fn.body=some c)(aM:fn.ntmps=n)(ae:ble args.length n=true)(bc:ble n iT=true)(q:fn.results=res.toArray)(s:gQ X false n none c ⟨mh 0 args,h⟩ (λe st=>(e=.ret\/e=.normal)/\∃st',gR X false n st st'/\∃c sv,oe X st' res=some (c,sv)/\c=true/\Q sv st'.H)):M7 X f args h Q:=by
 intro B ak env vs H W k bh r m u;have ah:=UX aM ae bc k bh r m;refine CallsDIn.mono (callsDIn_of_wp az ad trivial ?_) λ_ _ _ h=>h
 refine wpIn_mono (s _ _ _ _ _ ⟨[],env,B,W,H,⟨(λ_=>rfl),λh=>by cases h⟩,ah⟩) ?_;rintro e a w ⟨st,⟨he,st',d,c,sv,C,U,A⟩,J⟩;obtain⟨aq,env',B',y,H',t,b⟩:=d _ _ _ _ _ J;have z:=t.1 rfl;subst z;obtain⟨v,ag,o⟩:=Ay p b q C U;have d:=b.aU;have key:a.defers=[]/\∃v,(results fn a.tmps).run X.P w=.ok v w/\∃g,Ending.returned v=.returned g/\pI X env B H W Q g w:=by
  refine⟨b.defs,v,o w d,v,rfl,env',B',y,H',sv,st'.H,A,b.sub,b.new,b.base,ag,b.heap,?_,λid l j i=>(b.dr id l ⟨j,i⟩).2.1⟩
  simpa using d
 rcases he with rfl|rfl
 ·exact key
 ·exact key
structure xa(X:bu) where
 c:bw X
 UY:∀d r,c.m d=some r->M7 X c.f (ix c.A d).1 (jZ c.c3 (ix c.A d).2).1 (λsv h=>sv=(c.out d r).1/\h=(c.out d r).2)
section
variable {X:bu} {n:Nat}
theorem ahh(N:Nat)(i:X.a6.ok X.P)(y:X.P.follows .mixedOrders=true){f:FuncId}{fn:Func}{c:Code}{A:eH}{c3:List (Nat×fx)}{R:hn}(T:List (bw X))(bI:List (j6 X))(o:fm){res:List ResultVar}(az:X.P.funcs[f]?=some fn)(ad:fn.body=some c)(aM:fn.ntmps=n)(ae:ble A.length n=true)(bc:ble n iT=true)(l:fn.results=res.toArray){d:rU A c3}{r:R.ty}(h:iX X N n T bI false c none o ⟨mh 0 (hV A c3 d).1,(hV A c3 d).2⟩ (L5 X res R (hV A c3 d).2)=some r):M7 X f (hV A c3 d).1 (hV A c3 d).2 (λsv h=>sv=(R.out (hV A c3 d).2 r).1/\h=(R.out (hV A c3 d).2 r).2):=by
 have cJ:=ahg (Q:=λsv g=>∃a,qz sv (R.out (hV A c3 d).2 r).1/\lp g a/\∀env B w H,bJ env B w a H->bJ env B w (R.out (hV A c3 d).2 r).2 H) i az ad aM (by show ble (ix A d).1.length n=true;rw[y9];exact ae) bc l (D4 (BS λgr L6 D=>oz i y c false false none (λh=>by cases h) _ _ none l2.none _ _ _ _ h) λe s ⟨V,b,C,q,a⟩=>?_)
 ·exact λB ak env vs H W k bh m a u=>CallsDIn.mono (cJ B ak env vs H W k bh m a u) λ_ _ _ ⟨I,v,J,ag⟩=>⟨I,v,J,ag.mono λsv g ⟨a,p,t,z⟩=>⟨_,_,a,p,t,z,rfl,rfl⟩⟩
 ·have key:(match oe X b res with
   |some (c,sv)=>ao c (R.get (hV A c3 d).2 V b.H sv)
   |none=>none)=some r->∃st',gR X false n s st'/\∃c sv,oe X st' res=some (c,sv)/\c=true/\∃a,qz sv (R.out (hV A c3 d).2 r).1/\lp st'.H a/\∀env B w H,bJ env B w a H->bJ env B w (R.out (hV A c3 d).2 r).2 H:=λaa=>by
   split at aa
   ·rename_i c sv j
    obtain⟨U,aa⟩:=hf aa;exact⟨b,C,c,sv,j,U,hn.iK q aa⟩
   ·cases aa
  cases e with
  |ret=>exact⟨.inl rfl,key a⟩
  |normal=>exact⟨.inr rfl,key a⟩
  |_=>cases a
def ahi(N : Nat)(av : X.a6.ok X.P)(hm : X.P.follows .mixedOrders = true){fn : Func}{c : Code}(A : eH)(c3 : List (Nat × fx))(R : hn)(T : List (bw X))(bI : List (j6 X))(bY : fm)(res : List ResultVar)(f : FuncId)(kn : R.ty)(m : rU A c3 → Option R.ty)(az : X.P.funcs[f]? = some fn)(aR : (fn.name == "runtime.NumGoroutine") = false)(ad : fn.body = some c)(aM : fn.ntmps = n)(ae : ble A.length n = true)(bc : ble n iT = true)(aw : fn.results = res.toArray)(h:∀d,za X N n T bI c bY res A c3 R d=m d)(J:∀d,iX X N n T bI false c none bY ⟨mh 0 (hV A c3 d).1,(hV A c3 d).2⟩ (L5 X res R (hV A c3 d).2)=m d):xa X:=
 { c:=Th N av hm A c3 R T bI bY res f kn m az aR ad aM ae bc aw h,UY:=λd r he=>ahh N av hm T bI bY az ad aM ae bc aw ((J d).trans he) }
end
theorem bK.UZ{X:bu}{R:Nat->Prop}{W:World}{aE:fj}{n:Nat}{env:Nat->Loc}{B:Nat->Prop}{ak:World}{H:c2}{st:aO}{a:Act}{w:World}(h:bK X R W aE n [] env B ak H st a w)(D:List Deferred):bK X R W ⟨aE.b,aE.p,D⟩ n [] env B ak H st { tmps:=a.tmps,defers:=D } w:=
 ⟨h.size,rfl,h.has,h.heap,h.aU,h.sub,h.new,h.dr,h.base,h.eg⟩
section
variable {X:bu} {R:Nat->Prop} {W:World} {aE:fj} {n:Nat} {env:Nat->Loc} {B:Nat->Prop} {ak:World} {H:c2} {st:aO} {a:Act} {w:World}
theorem bK.ahj(h:bK X R W aE n [] env B ak H st a w){p':Nat->Loc->Prop}(al:∀id l,p' id l->n<=id/\env id=l/\((∃b,l=.blk b)\/hZ<=id)):bK X (λk=>R k\/B k) ak ⟨B,p',aE.d⟩ n [] env B ak H st a w:=
 ⟨h.size,h.defs,h.has,h.heap,by
  have e:(λk=>(R k\/B k)\/B k)=(λk=>R k\/B k):=funext λk=>propext ⟨λh=>h.elim id .inr,.inl⟩
  rw[e];exact h.aU,λ_ h=>h,λk aa=>.inl aa,al,c9.refl _ _,h.eg⟩
theorem bK.back{p':Nat->Loc->Prop}{D:List Deferred}{j:Nat->Loc}{c:Nat->Prop}{i:World}{H2:c2}{g:aO}{d:Act}{w':World}(b:bK X R W aE n [] env B ak H st a w)(h:bK X (λk=>R k\/B k) ak ⟨B,p',D⟩ n [] j c i H2 g d w')(al:∀id l,aE.p id l->p' id l):bK X R W ⟨aE.b,aE.p,D⟩ n [] j c i H2 g d w':=
 ⟨h.size,h.defs,h.has,h.heap,by
  have e:(λk=>(R k\/B k)\/c k)=(λk=>R k\/c k):=funext λk=>propext ⟨λI=>I.elim (λJ=>J.imp_right (h.sub k)) .inr,λI=>I.imp_left .inl⟩
  have ag:=h.aU;rw[show(λk=>(λk=>R k\/B k) k\/c k)=(λk=>R k\/c k)from e]at ag;exact ag,λk aa=>h.sub k (b.sub k aa),λk aa=>(h.new k aa).elim (λf=>(b.new k f).imp_right λ⟨lU,lV⟩=>⟨lU,lV.ee (h.base.block k (.inr f))⟩) (λ⟨lU,lV⟩=>.inr ⟨λm=>lU (.inl m),lV⟩),λid l o=>h.dr id l (al id l o),
  ⟨h.base.os.trans b.base.os,h.base.tape.trans b.base.tape,h.base.output.trans b.base.output,le_trans b.base.size h.base.size,λk aa=>(h.base.block k (.inl aa)).trans (b.base.block k aa)⟩,h.eg⟩
theorem bK.ahk{aq:b6}{i j:Nat}(ah:bK X R W aE n aq env B ak H st a w)(c:∀l,¬aE.p j l):∃H',bK X R W aE n aq (kX env j (env i)) B ak H' ⟨gd (jF i j) st.L,oi (jF i j) st.H⟩ a w:=by
 obtain⟨H',I,J⟩:=bJ.c8 (yj) ah.heap;refine⟨H',ah.size,ah.defs,λs sv d=>?_,J,ah.aU.e2 (I.append_right _),ah.sub,ah.new,tJ ah.dr c,ah.base,ah.eg⟩;obtain⟨u,ag,rfl⟩:=ua d;obtain⟨v,e,b⟩:=ah.has s u ag;exact⟨v,e,eK.c8 yj b⟩
theorem bK.U0(al:∀id l,aE.p id l->iT<=id):∀ {l:List (Nat×Nat)} {env:Nat->Loc} {H:c2} {st:aO},wS l=true->bK X R W aE n [] env B ak H st a w->∃env' H',bK X R W aE n [] env' B ak H' (e8 l st) a w
 |[],env,H,st,_,h=>⟨env,H,h⟩
 |p::l,env,H,st,h,ah=>by
  unfold wS at h
  split at h
  ·rename_i I
   obtain⟨H',J⟩:=ah.ahk (j:=p.2) (λq b=>by have c:=al _ _ b;have g2:=ef I;omega);have ag:=bK.U0 al h J;exact ag
  ·cases h
end
end
section
set_option linter.unusedSectionVars false
theorem ahl{P : Program}{f : FuncId}{fn : Func}{vs : cl}{w : World}(gC : P.funcs[f]? = some fn)(bc : (fn.name == "runtime.NumGoroutine") = false)(ad : fn.body.isNone = false) : (invoke (.fn (.func f) vs.toArray) #[]).run P w = .ok (.enter f vs.toArray) w := by
 have hQ : fn.name ≠ "runtime.NumGoroutine" := by simpa using bc
 have er:fn.body≠none:=by intro h;rw[h]at ad;cases ad
 simp[invoke,callFunc,program,Sem.run,gC,hQ,er]
section
variable {X:bu} {R:Nat->Prop} {W:World} {aE:fj} {n:Nat} {env:Nat->Loc} {B:Nat->Prop} {ak:World} {H:c2} {st:aO} {a:Act} {w:World}
def zw(d:Nat):cU->cU
 |[]=>[]
 |(s,v)::r=>match beq s d with
  |true=>zw d r
  |false=>(s,v)::zw d r
theorem M8{d q:Nat}{v:cd}:∀ {L:cU},bm (zw d L) q=some v->q≠d/\bm L q=some v
 |[],h=>by cases h
 |(s,u)::r,h=>by
  unfold zw at h
  split at h
  ·rename_i e
   have e:=eq_of_beq_eq_true e;obtain⟨I,J⟩:=M8 h;exact⟨I,by rw[cI,if_neg (by rw[e];exact I)];exact J⟩
  ·rename_i e
   have e:=Nat.ne_of_beq_eq_false e;rw[cI]at h
   split at h
   ·rename_i a
    subst a;exact⟨e,by rw[cI,if_pos rfl];exact h⟩
   ·rename_i a
    obtain⟨I,J⟩:=M8 h;exact⟨I,by rw[cI,if_neg a];exact J⟩
theorem bK.ahm{d:Nat}{v:Value}{L:cU}(ay:d<n)(b:a.tmps.size=n)(h:bK X R W aE n [] env B ak H ⟨L,st.H⟩ (a.put (some d) v) w):bK X R W aE n [] env B ak H ⟨zw d L,st.H⟩ a w:=by
 refine⟨b,h.defs,λq u c=>?_,h.heap,h.aU,h.sub,h.new,h.dr,h.base,h.eg⟩;obtain⟨I,J⟩:=M8 c;obtain⟨x,ag,e⟩:=h.has q u J;refine⟨x,?_,e⟩;rw[<- ag];show _=(a.tmps.setIfInBounds d v)[q]?;rw[Array.getElem?_setIfInBounds_ne (Ne.symm I)]
def Cu(ct:b6):ep->Bool
 |[]=>true
 |.eF _ _::r=>Cu ct r
 |.id i::r=>ct.elem i&&Cu ct r
theorem M9{ct:b6}{d:Nat->Loc}{a:Nat->Prop}{c:World}(he:∀j,ct.elem j=true->d j=env j)(hu:gm B ak a c):∀ {ids:ep} {vs:cl},Cu ct ids=true->fb env B ak ids vs->fb d a c ids vs
 |[],_,_,h=>h
 |.eF _ _::ids,_,U,⟨v,r,e,I,h⟩=>by
  have J:fb env B ak [.eF _ _] [v]:=⟨v,[],rfl,I,rfl⟩
  obtain⟨k,g,f,ag,_⟩:=J.up hu;cases f;exact⟨v,r,e,ag,M9 he hu U h⟩
 |.id i::ids,_,U,⟨v,r,e,⟨b,I,J⟩,h⟩=>by
  unfold Cu at U;rw[Bool.and_eq_true]at U;exact⟨v,r,e,⟨b,(he i U.1).trans I,J⟩,M9 he hu U.2 h⟩
def Cv(X:bu)(n:Nat)(j9:xa X)(aH:dZ)(l3:Nat)(res:List ResultVar)(R:hn)(f:FuncId)(ids:ep)(st:aO):Option R.ty:=
 match beq j9.c.f f,blt l3 n,rH X n j9.c aH st.H (oX ids)with
 |true,true,some p=>(j9.c.m p.d).bind λq=>match after X j9.c aH st l3 p q with
  |some a=>match oe X ⟨zw l3 a.L,a.H⟩ res with
   |some (c,sv)=>ao c (R.get a.H [] a.H sv)
   |none=>none
  |none=>none
 |_,_,_=>none
def GS(X:bu)(R:Nat->Prop)(W:World)(aE:fj)(n:Nat)(hn:hn)(r:hn.ty)(v:Value)(w:World):Prop:=
 ∃env B ak H st a b sv c,bK X R W ⟨aE.b,aE.p,[]⟩ n [] env B ak H st a w/\eK env B ak sv v/\qz sv (hn.out b r).1/\lp st.H c/\(hD hn.k b=[]->True)/\∀env B w H,bJ env B w c H->bJ env B w (hn.out b r).2 H
theorem ahn(Y:X.a6.ok X.P){j9:xa X}{aH:dZ}{l3:Nat}{res:List ResultVar}{l4:hn}{f:FuncId}{ids:ep}{r:l4.ty}{fn:Func}{vs:cl}(Z:fn.results=res.toArray)(h:Cv X n j9 aH l3 res l4 f ids st=some r)(ah:bK X R W ⟨aE.b,aE.p,[⟨.fn (.func f) vs.toArray,#[]⟩]⟩ n [] env B ak H st a w)(al:fb env B ak ids vs):LeavesIn Fence.wide 0 X.P fn a.tmps (λe w'=>∃v,e=.returned v/\GS X R W aE n l4 r v w') [⟨.fn (.func f) vs.toArray,#[]⟩] .returning w:=by
 unfold Cv at h
 split at h
 ·rename_i p az ay g
  have az:=eq_of_beq_eq_true az;subst az;obtain⟨q,T,h⟩:=ek h
  split at h
  ·rename_i am l
   split at h
   ·rename_i c sv au
    obtain⟨U,av⟩:=hf h;have m:=ah.UZ [];unfold rH at g
    split at g
    ·rename_i aG I H1 K aA s
     split at g
     ·rename_i u hu
      split at g
      ·rename_i E aC
       cases g;have C:=K;simp only[vH,Bool.and_eq_true]at C;obtain⟨⟨ot,aD⟩,aK⟩:=C;have L:=vI ot;have M:=vI aD;obtain⟨aI,aB⟩:=uj hu;obtain⟨aF,P⟩:=yw aC;have he:∀i j,bm aH i=some j->(λi=>match bm aH i with|some j=>env j|none=>Loc.no) i=env j:=λi j ar=>by simp only[ar]
       obtain⟨t,aP,D,an,ao⟩:=Ka L M he s m.heap;have y:bZ B ak t w:=by
        have d:=(m.aU.perm (D.append_right (([]:b6).map dE))).e2 (H':=t) (by rw[append_assoc];exact sublist_append_left _ _);exact⟨⟨d.below.os,d.below.tape,d.below.output,d.below.size,λk aa=>d.below.block k (.inr aa)⟩,λk aa=>d.base k (.inr aa),λc U=>(d.ok c U).base λb ad aa=>((d.ok c U).lt ad).1 (.inr aa),d.apart⟩
       have cJ:bJ (λi=>match bm aH i with|some j=>env j|none=>Loc.no) B ak (jZ j9.c.c3 (ix j9.c.A E).2).1 t:=by rw[aF];exact aB _ _ _ _ an
       have J:=(dw.dv (env':=λi=>match bm aH i with|some j=>env j|none=>Loc.no) (λj i ap=>he i j ((EG L M).1 ap)) aA).1 (ya al);have S:=j9.UY E q T B ak _ vs t w (λi x ai=>m.eg i x ai) (P _ _ _ _ J) cJ y .returning;refine leavesIn_cons (by intro h;cases h) (by intro h;cases h) ?_ (λ_ _=>trivial) (CallsDIn.mono S ?_)
       ·exact ahl j9.c.az j9.c.bc j9.c.ad
       ·rintro e aM w' ⟨rfl,v,rfl,aw⟩
        have Q:=m.cf.put l3 v (ef ay);obtain⟨aQ,aJ,⟨rfl,rfl⟩,ax⟩:=m.called K D cJ ao aw Q;unfold after at l
        split at l
        ·rename_i F G af aj
         obtain⟨env',B',z,H',o,aN,aL,aO⟩:=ax F G af aj;have O:bK X R W ⟨aE.b,aE.p,[]⟩ n [] env' B' z H' am (({ tmps:=a.tmps,defers:=[] }:Act).put (some l3) v) w':=by
          split at l
          ·cases l
           have ac:H1=st.H:=by
            cases h1:j9.c.c3 with
            |nil=>rw[h1]at s;cases s;rfl
            |cons q _=>rw[h1]at s;cases s
           have o:bK X R W _ n [] env' B' z H' ⟨(l3,F)::oV [] st.L,G++iW [] [] H1⟩ _ w':=o;rw[Jx,Jy,ac]at o;exact o
          ·cases l
           exact o
         have A:=bK.ahm (a:=({ tmps:=a.tmps,defers:=[] }:Act)) (ef ay) ah.size O;obtain⟨N,ag,V⟩:=Ay Y A Z au U;obtain⟨y,ab,ae,aq⟩:=hn.iK (db.refl _) av;exact⟨N,V _ A.aU,N,rfl,env',B',z,H',_,_,_,sv,y,A,ag,ab,ae,λ_=>trivial,aq⟩
        ·cases l
      ·cases g
     ·cases g
    ·cases g
   ·cases h
  ·cases h
 ·cases h
end
def GU:Oper->Option Nat
 |⟨none,.defer ⟨.value (.tmp s),⟨[]⟩,_⟩,_,_,_,none⟩=>some s
 |_=>none
def GV:List Oper->Option (List Oper×Nat)
 |[]=>none
 |o::l=>match l with
  |[]=>match GU o with
   |some s=>some ([],s)
   |none=>none
  |_=>match GV l with
   |some (l',s)=>some (o::l',s)
   |none=>none
theorem ahp{o:Oper}{s:Nat}(h:GU o=some s):(∃a,o.op=.defer ⟨.value (.tmp s),#[],a⟩)/\o.guard=none/\o.dst=none:=by
 unfold GU at h
 split at h
 ·cases h;exact⟨⟨_,rfl⟩,rfl,rfl⟩
 ·cases h
theorem U1{s:Nat}:∀ {l pre:List Oper},GV l=some (pre,s)->∃o,l=pre++[o]/\GU o=some s
 |[],_,h=>by cases h
 |o::l,pre,h=>by
  unfold GV at h
  split at h
  ·split at h
   ·rename_i e;cases h;exact⟨o,rfl,e⟩
   ·cases h
  ·split at h
   ·rename_i e
    cases h;obtain⟨a,I,J⟩:=U1 e;exact⟨a,by rw[I];rfl,J⟩
   ·cases h
def GW(n:Nat)(H:bC):List (Nat×Nat)->Bool
 |[]=>true
 |p::r=>match ble n p.2,bm H p.2 with
  |true,some (.cells _ _)=>GW n H r
  |_,_=>false
theorem U2{n:Nat}{env:Nat->Loc}{B:Nat->Prop}{w:World}{st:bC}{H:c2}(a:bJ env B w st H):∀ {l:List (Nat×Nat)},GW n st l=true->∀j,(l.map (·.2)).elem j=true->n<=j/\∃b,env j=.blk b
 |[],_,j,aL=>by cases aL
 |p::r,h,j,aL=>by
  unfold GW at h
  split at h
  ·rename_i t cs I J
   have d:j=p.2\/(r.map (·.2)).elem j=true:=by
    rw[List.map_cons,List.elem_eq_mem,decide_eq_true_eq,List.mem_cons]at aL;rw[List.elem_eq_mem,decide_eq_true_eq];exact aL
   rcases d with aL|aL
   ·subst aL
    obtain⟨c,K,⟨b,vs,ag,_⟩,_⟩:=a.gU J;exact⟨le_of_ble_eq_true I,b,ag⟩
   ·exact U2 a h j aL
  ·cases h
def Na(X:bu)(res:List ResultVar)(R:hn)(st:aO):Option R.ty:=match oe X st res with
 |some (c,sv)=>ao c (R.get st.H [] st.H sv)
 |none=>none
def zy(X:bu)(N n:Nat)(T:List (bw X))(bI:List (j6 X))(j9:xa X)(ms:List (Nat×Nat))(aH:dZ)(l3:Nat)(res:List ResultVar)(R:hn):Nat->Code->fm->aO->Option R.ty
 |0,.seq (.region _ ops false) b,c,st=>match GV ops.toList with
  |some (pre,s)=>tb st λst=>kK X n T none (eU ops.toList) c.fst.ins pre [] [] [] st λ_ g=>tb (e8 ms g) λd=>match bm d.L s,wS ms,GW n d.H ms with
   |some (.a (.c (.fn f ids))),true,true=>match Cu (ms.map (·.2)) ids with
    |true=>iX X N n T bI false b none c.snd d λe _ s=>match e with
     |.ret=>Cv X n j9 aH l3 res R f ids s
     |.normal=>Cv X n j9 aH l3 res R f ids s
     |_=>none
    |false=>none
   |_,_,_=>none
  |none=>none
 |k+1,.seq a b,c,st=>iX X N n T bI false a none c.fst st λe _ s=>match e with
  |.normal=>zy X N n T bI j9 ms aH l3 res R k b c.snd s
  |.ret=>Na X res R s
  |_=>none
 |_,_,_,_=>none
section
variable {X:bu} {N n:Nat} {T:List (bw X)} {bI:List (j6 X)} {j9:xa X} {ms:List (Nat×Nat)} {aH:dZ} {l3:Nat} {res:List ResultVar} {l4:hn} {fn:Func}
theorem U3(q:X.a6.ok X.P)(K:X.P.follows .mixedOrders=true)(i:fn.results=res.toArray):∀(k:Nat) (c:Code) (F:fm) (st:aO) (r:l4.ty),zy X N n T bI j9 ms aH l3 res l4 k c F st=some r ->
  ∀(R:Nat->Prop) (W:World) (b:Nat->Prop) (p:Nat->Loc->Prop) (env:Nat->Loc) (B:Nat->Prop) (ak:World) (H:c2) (a:Act) (w:World),(∀id l,p id l->iT<=id)->bK X R W ⟨b,p,[]⟩ n [] env B ak H st a w ->
  kS none X.P c (bodyPostDIn Fence.wide 0 X.P fn (λe w'=>∃v,e=.returned v/\GS X R W ⟨b,p,[]⟩ n l4 r v w')) a w
 |k+1,.seq fu cG,F,st,r,h=>λR W b p env B ak H a w al ah=>by
  unfold zy at h;have E:=oz q K fu false false none (λh=>by cases h) _ (gh.ta R W ⟨b,p,[]⟩ r) none l2.none _ _ _ _ h;refine wpIn_seq (wpIn_mono (E a w ⟨rfl,[],env,B,ak,H,⟨λ_=>rfl,λh=>by cases h⟩,ah⟩) ?_);rintro e a w ⟨s,A,⟨V,aA,o,g,d⟩,rfl,J⟩;obtain⟨aq,env',B',ax,H',u,t⟩:=o _ _ _ _ _ J;have g:=u.1 rfl;subst g;cases e with
  |normal=>exact U3 q K i k cG _ _ _ d _ _ _ _ _ _ _ _ _ _ al t
  |ret=>
   show LeavesIn _ _ _ _ _ _ a.defers _ _;rw[show a.defers=[] from t.defs];replace d:Na X res l4 aA=some _:=d;unfold Na at d
   split at d
   ·rename_i c sv aM
    obtain⟨U,aN⟩:=hf d;obtain⟨S,ag,ar⟩:=Ay q t i aM U;obtain⟨d,av,aB,aI⟩:=hn.iK (db.refl _) aN;exact⟨S,ar _ t.aU,S,rfl,env',B',ax,H',_,_,_,sv,d,t,ag,av,aB,λ_=>trivial,aI⟩
   ·cases d
  |_=>cases d
 |0,.seq (.region id ops false) cG,F,st,r,h=>λR W b p env B ak H a w al ah=>by
  unfold zy at h
  split at h
  ·rename_i pre s ai
   obtain⟨z,ae,ab⟩:=U1 ai;obtain⟨⟨aU,ac⟩,aj,am⟩:=ahp ab;rw[wQ]at h;refine wpIn_seq ?_
   generalize aE:(bodyPostDIn Fence.wide 0 X.P fn (λe w'=>∃v,e=.returned v/\GS X R W ⟨b,p,[]⟩ n l4 r v w'))=U4
   have au:Br X n ops.toList (λl A aJ=>∀a w,(gh.ta (M:=false) (rr:=none) R W ⟨b,p,[]⟩ r).In A aJ a w->q4 none X.P ops.toList.toArray (Exit.then (λa w=>kS none X.P cG U4 a w) U4) (l++[z]) a w):=⟨λd i a w hi=>sn (gh.step (gh.ta R W ⟨b,p,[]⟩ r) d hi λa w h=>i a w h),λo i a w hi=>i a w (gh.e2 (gh.ta R W ⟨b,p,[]⟩ r) o.m hi)⟩
   have Q:=sW q au (λ_ h=>by cases h) eR.nil (db.refl st) h (λV aX A g d a w hi=>?_) a w ⟨rfl,[],env,B,ak,H,⟨λ_=>rfl,λh=>by cases h⟩,ah⟩
   ·rw[<- ae]at Q
    exact DD Q
   ·obtain⟨aR,aq,aW,gg,b5,H1,u,az⟩:=hi
    rw[aR]at d;have g:=u.1 rfl;subst g;rw[wQ]at d
    split at d
    ·rename_i f ids aw aP aQ
     split at d
     ·rename_i aG
      obtain⟨y,H2,m⟩:=az.U0 al aP;obtain⟨gb,aK,G,rfl,aF⟩:=m.has _ _ aw;have an:=U2 m.heap aQ;have ay:(execOp a.eval z).run X.P w=.ok (.defer ⟨.fn (.func f) G.toArray,#[]⟩) w:=by
       have ad:=m.cf.aI (x:=.tmp s) (im aK);simp only[execOp,ac,resolve,ad]
       simp[Deferred.ofValue,go_sem]
      obtain⟨p',L⟩:∃p':Nat->Loc->Prop,p'=λid l=>p id l\/((ms.map (·.2)).elem id=true/\y id=l):=⟨_,rfl⟩
      have Y:=(m.ahj (p':=p') (λid l P=>(show p id l\/((ms.map (·.2)).elem id=true/\y id=l) by rw[L]at P;exact P).elim (λh=>m.dr id l h) λ⟨I,J⟩=>by
       obtain⟨aC,b',g2⟩:=an id I;exact⟨aC,J,.inl ⟨b',J ▸ g2⟩⟩)).UZ [⟨.fn (.func f) G.toArray,#[]⟩]
      have o:Region.wanted z (yielded ops.toList.toArray a.tmps)=true:=by simp[Region.wanted,aj]
      show(if Region.wanted z (yielded ops.toList.toArray a.tmps)then _ else _);rw[if_pos o];refine⟨λ_ _=>trivial,?_⟩;show Oper.uponIn _ _ _ _ _ _ _ ((z.semAt none a.eval).run X.P w);rw[Oper.semAt_none,ay,Oper.uponIn_defer,am];have ao:=m.defs;have E:=oz q K cG false false none (λh=>by cases h) _ (gh.ta (λk=>R k\/gg k) b5 ⟨gg,p',[⟨.fn (.func f) G.toArray,#[]⟩]⟩ r) none l2.none _ _ _ _ d;rw[ao];refine wpIn_mono (E _ w ⟨rfl,[],y,gg,b5,H2,⟨λ_=>rfl,λh=>by cases h⟩,Y⟩) ?_;rintro e D aD ⟨aY,A,⟨V,Z,o,g,d⟩,aL,J⟩;rw[aL]at d;obtain⟨aq,aS,aZ,aV,aT,u,C⟩:=o _ _ _ _ _ J;have g:=u.1 rfl;subst g;have O:=m.back C (λ_ _ h=>by rw[L];exact .inl h);have ap:=M9 (λj af=>(C.dr j (y j) (by show p' j (y j);rw[L];exact .inr ⟨af,rfl⟩)).2.1) ⟨C.sub,λk aa=>C.base.block k (.inr aa)⟩ aG aF;have key:Cv X n j9 aH l3 res l4 f ids Z=some r->LeavesIn Fence.wide 0 X.P fn D.tmps (λe w'=>∃v,e=.returned v/\GS X R W ⟨b,p,[]⟩ n l4 r v w') D.defers .returning aD:=λd=>by
       rw[show D.defers=_ from O.defs];exact ahn q i d O ap
      subst aE;cases e with
      |normal=>exact key d
      |ret=>exact key d
      |_=>cases d
     ·cases d
    ·cases d
  ·cases h
theorem ahw(w:X.a6.ok X.P)(F:X.P.follows .mixedOrders=true){f:FuncId}{c:Code}{args:dO}{al:bC}(aa:l4.k=[]){k:Nat}{j:fm}(az:X.P.funcs[f]?=some fn)(ad:fn.body=some c)(aM:fn.ntmps=n)(ae:ble args.length n=true)(bc:ble n iT=true)(y:fn.results=res.toArray){r:l4.ty}(h:zy X N n T bI j9 ms aH l3 res l4 k c j ⟨mh 0 args,al⟩=some r):AC X f args al (λsv h=>sv=(l4.out [] r).1/\h=(l4.out [] r).2):=by
 intro B ak env vs H W t bh b d;have ah:=UX aM ae bc t bh b d;have cJ:=(callsIn_wide).1 (callsIn_of_wp_defers az ad trivial (U3 w F y k c j _ r h _ _ _ _ _ _ _ _ _ _ (λid l u=>u.1.elim (λh=>h.1) λh=>le_trans (by decide) h) ah));refine Calls.mono cJ ?_;rintro e w' ⟨v,he,env',B',A,H',st,a,I,sv,d,ah,p,g,D,_,b⟩;have C:=ah.aU;have G:pI X env B H W (λm i=>m=sv/\i=st.H) v w':=⟨env',B',A,H',sv,st.H,⟨rfl,rfl⟩,ah.sub,ah.new,ah.base,p,ah.heap,by simpa using C,λid l s o=>(ah.dr id l ⟨s,o⟩).2.1⟩
 have E:l4.out I r=l4.out [] r:=by
  unfold hn.out;rw[aa]
  rfl
 rw[E]at g b;exact⟨v,he,G.mono λm i ⟨q,z⟩=>⟨_,_,d,by rw[q];exact g,by rw[z];exact D,b,rfl,rfl⟩⟩
def ahx(N : Nat)(av : X.a6.ok X.P)(hm : X.P.follows .mixedOrders = true){fn : Func}{c : Code}(A : eH)(c3 : List (Nat × fx))(R : hn)(aa : R.k = [])(T : List (bw X))(bI : List (j6 X))(j9 : xa X)(ms : List (Nat × Nat))(aH : dZ)(l3 k : Nat)(bY : fm)(res : List ResultVar)(f : FuncId)(kn : R.ty)(m dP : rU A c3 → Option R.ty)(heq : ∀ d, m d = dP d)(az : X.P.funcs[f]? = some fn)(aR : (fn.name == "runtime.NumGoroutine") = false)(ad : fn.body = some c)(aM : fn.ntmps = n)(ae : ble A.length n = true)(bc : ble n iT = true)(aw : fn.results = res.toArray)(h:∀d,zy X N n T bI j9 ms aH l3 res R k c bY ⟨mh 0 (hV A c3 d).1,(hV A c3 d).2⟩=m d):bw X:=
 { f:=f,fn:=fn,A:=A,c3:=c3,aY:=R.ty,kn:=kn,m:=dP,out:=λ_ r=>R.out [] r,az:=az,bc:=aR,ad:=by rw[ad];rfl,ok:=λd r he=>ahw av hm aa az ad aM (by show ble (ix A d).1.length n=true;rw[y9];exact ae) bc aw ((h d).trans ((heq d).trans he)) }
end
def th(N:Nat)(c:nt)(g:Int)(a:ch)(b:dd)(d:b9)(e:b9)(h:Int)(i:Int):Option (ch×dd×b9×b9):=
  cond (decide (g=0)) ((Gw N c.2.2.1.2.2.2 (h,i)).bind λf=>
  some (a,b,([]:b9),f)) (some (a,b,d,e))
def U6(N:Nat):xa bL:=ahi N bF (by kernel_rfl) [.c (.raw (.ptr 1000000 0)),.c (.raw (.ptr 1000001 0)),.c (.gn rW 0),.c (.raw (.ptr 1000002 0))] [(1000000,.cells 41 [.int .i64]),(1000001,.cells 36 [.bo (.ax bV),.bo cp,.bo aN,.bo aN]),(1000002,.cells 102 [.int .u8,.int .i64])] ⟨.da [],[(1000001,.cells 36 [.bo (.ax bV),.bo cp,.bo aN,.bo aN])],[1000000,1000002]⟩ [agM N] [] (.d) [] 76 ([],[],[],[]) (λd=>th N d.1 d.2.1 d.2.2.1 d.2.2.2.1 d.2.2.2.2.1 d.2.2.2.2.2.1 d.2.2.2.2.2.2.1 d.2.2.2.2.2.2.2.1) func76 rfl rfl ntmps76 rfl rfl rfl (λd=>by kernel_rfl) (λd=>by kernel_rfl)
def ahy(N:Nat):bw bL:=(U6 N).c
def Cw(N:Nat)(d:nt)(b:Int):Nat->(nt×Int×Bool×Int×Int×Bool×dz×(List (Bool×dh))×dd×b9×Int×Int)->Option ((nt×(List (Bool×dh))×dd×b9×Int×Int)⊕(j8×Int)):=b3 λa uQ=>
  cond (decide (a.2.1<(d.1.length:Int))) (ao ((a8 a.2.1 d.1.length)&&(true)) <|
  ao ((bl (1+((d.1.getD a.2.1.toNat dQ.zero).2.length:Int)))&&(((decide (0<=(1+((d.1.getD a.2.1.toNat dQ.zero).2.length:Int))))&&(eT 16 (1+((d.1.getD a.2.1.toNat dQ.zero).2.length:Int))))&&(true))) <|
  Option.bind (cond (decide (0<a.2.1)) (ao ((dx 16 (([]:b9).length+[(a.2.2.2.2.2.2.2.2.2.2.1,a.2.2.2.2.2.2.2.2.2.2.2)].length))&&(true)) <|
  some ([((a.2.2.2.2.2.2.2.2.2.2.1,a.2.2.2.2.2.2.2.2.2.2.2),(true,0))],a.1,(([]:b9)++[(a.2.2.2.2.2.2.2.2.2.2.1,a.2.2.2.2.2.2.2.2.2.2.2)]),a.2.2.2.2.2.2.2.2.1,a.2.2.2.2.2.2.2.2.2.1)) (some (([]:dz),a.1,([]:b9),a.2.2.2.2.2.2.2.2.1,a.2.2.2.2.2.2.2.2.2.1))) λe=>
  ao ((dx 16 (e.2.2.1.length+(d.1.getD a.2.1.toNat dQ.zero).2.length))&&(true)) <|
  (lH N (a.2.2.1,(a.2.2.2.1,(a.2.2.2.2.1,(a.2.2.2.2.2.1,a.2.2.2.2.2.2.1)))) a.2.2.2.1 e.1).bind λf=>
  cond (!(decide (f.2=0))) (Option.bind ((th N d f.2 ([]:ch) ([]:dd) ([]:b9) ([]:b9) a.2.2.2.2.2.2.2.2.2.2.1 a.2.2.2.2.2.2.2.2.2.2.2).bind λi=>
  some (i,f.2)) λq=>some (.inr q)) ((nX N f.1).bind λc=>
  cond (!(decide (c.2.2=0))) (Option.bind ((th N d c.2.2 ([]:ch) ([]:dd) ([]:b9) ([]:b9) a.2.2.2.2.2.2.2.2.2.2.1 a.2.2.2.2.2.2.2.2.2.2.2).bind λj=>
  some (j,c.2.2)) λq=>some (.inr q)) (ao (true) <|
  (zn N (e.2.2.1++(d.1.getD a.2.1.toNat dQ.zero).2)).bind λh=>
  (w6 N c.2.1.2.2).bind λg=>
  ao (((decide ((IntKind.wrap .u8 (b-1)).toNat<a.2.2.2.2.2.2.2.1.length))&&(a.2.2.2.2.2.2.2.1.getD (IntKind.wrap .u8 (b-1)).toNat (false,[])).1)) <|
  ao ((a8 (IntKind.wrap .u8 (b-1)) a.2.2.2.2.2.2.2.1.length)&&(true)) <|
  ao ((decide ((IntKind.wrap .u8 (b-1)).toNat=(IntKind.wrap .u8 (b-1)).toNat))&&((dx 56 ((a.2.2.2.2.2.2.2.1.getD (IntKind.wrap .u8 (b-1)).toNat (false,[])).2.length+[(0,(c.2.1.2.1,(h.1,g.1)))].length))&&((a8 (IntKind.wrap .u8 (b-1)) a.2.2.2.2.2.2.2.1.length)&&(((decide ((IntKind.wrap .u8 (b-1)).toNat=(IntKind.wrap .u8 (b-1)).toNat))&&(decide ((IntKind.wrap .u8 (b-1)).toNat<a.2.2.2.2.2.2.2.1.length)))&&(true))))) <|
  ao ((bl (a.2.1+1))&&(true)) <|
  uQ (e.2.1,(a.2.1+1),c.1.1,c.1.2.1,c.1.2.2.1,c.1.2.2.2.1,c.1.2.2.2.2,(a.2.2.2.2.2.2.2.1.set (IntKind.wrap .u8 (b-1)).toNat (true,((a.2.2.2.2.2.2.2.1.getD (IntKind.wrap .u8 (b-1)).toNat (false,[])).2++[(0,(c.2.1.2.1,(h.1,g.1)))]))),e.2.2.2.1,e.2.2.2.2,b,c.2.1.1)))) (some (.inl (a.1,a.2.2.2.2.2.2.2.1,a.2.2.2.2.2.2.2.2.1,a.2.2.2.2.2.2.2.2.2.1,a.2.2.2.2.2.2.2.2.2.2.1,a.2.2.2.2.2.2.2.2.2.2.2)))
def tj(N:Nat)(a:nt)(b:Int):Option (j8×Int):=
  (Cj N a).bind λd=>
  cond (!(decide (d=0))) (some ((([]:ch),(([]:dd),(([]:b9),([]:b9)))),d)) (cond (cond (decide (b<1)) true (decide (6<b))) (some ((([]:ch),(([]:dd),(([]:b9),([]:b9)))),1)) (ao ((a8 (IntKind.wrap .u8 (b-1)) a.2.1.length)&&(true)) <|
  cond (cond (!(a.2.1.getD (IntKind.wrap .u8 (b-1)).toNat bH.zero).1) true (!(decide ((a.2.1.getD (IntKind.wrap .u8 (b-1)).toNat bH.zero).2.1=(-13:Int))))) (some ((([]:ch),(([]:dd),(([]:b9),([]:b9)))),12)) ((tf N a.2.2.1.1).bind λe=>
  ao ((bl (e+(a.1.length:Int)))&&(true)) <|
  cond (decide (2048<(e+(a.1.length:Int)))) (some ((([]:ch),(([]:dd),(([]:b9),([]:b9)))),3)) ((zm N a.2.2.1.2.2.1).bind λf=>
  (Ck N a.2.2.1.2.1).bind λg=>
  (Cl N a.2.2.1.1 b (a.1.length:Int)).bind λh=>
  (Cw N a b N (a,0,(a.2.1.getD (IntKind.wrap .u8 (b-1)).toNat bH.zero).1,(a.2.1.getD (IntKind.wrap .u8 (b-1)).toNat bH.zero).2.1,(a.2.1.getD (IntKind.wrap .u8 (b-1)).toNat bH.zero).2.2.1,(a.2.1.getD (IntKind.wrap .u8 (b-1)).toNat bH.zero).2.2.2.1,(a.2.1.getD (IntKind.wrap .u8 (b-1)).toNat bH.zero).2.2.2.2,h,g.1,f.1,0,0)).bind λ(c:(nt×(List (Bool×dh))×dd×b9×Int×Int)⊕(j8×Int))=>
  sm c (λc=>
  (th N a 0 (c.2.1.map (·.2)) c.2.2.1 c.2.2.2.1 ([]:b9) c.2.2.2.2.1 c.2.2.2.2.2).bind λi=>
  some (i,0)) (λq=>some q)))))
def Nb(N:Nat)(d:nt)(b:Int):Nat->(nt×Int×Bool×Int×Int×Bool×dz×(List (Bool×dh))×dd×b9×Int×Int)->Option ((nt×(List (Bool×dh))×dd×b9×Int×Int)⊕(j8×Int)):=b3 λa uQ=>
  cond (decide (a.2.1<(d.1.length:Int))) (ao ((a8 a.2.1 d.1.length)&&(true)) <|
  ao ((bl (1+((d.1.getD a.2.1.toNat dQ.zero).2.length:Int)))&&(((decide (0<=(1+((d.1.getD a.2.1.toNat dQ.zero).2.length:Int))))&&(eT 16 (1+((d.1.getD a.2.1.toNat dQ.zero).2.length:Int))))&&(true))) <|
  Option.bind (cond (decide (0<a.2.1)) (ao ((dx 16 (([]:b9).length+[(a.2.2.2.2.2.2.2.2.2.2.1,a.2.2.2.2.2.2.2.2.2.2.2)].length))&&(true)) <|
  some ([((a.2.2.2.2.2.2.2.2.2.2.1,a.2.2.2.2.2.2.2.2.2.2.2),(true,0))],a.1,(([]:b9)++[(a.2.2.2.2.2.2.2.2.2.2.1,a.2.2.2.2.2.2.2.2.2.2.2)]),a.2.2.2.2.2.2.2.2.1,a.2.2.2.2.2.2.2.2.2.1)) (some (([]:dz),a.1,([]:b9),a.2.2.2.2.2.2.2.2.1,a.2.2.2.2.2.2.2.2.2.1))) λe=>
  ao ((dx 16 (e.2.2.1.length+(d.1.getD a.2.1.toNat dQ.zero).2.length))&&(true)) <|
  (lH N (a.2.2.1,(a.2.2.2.1,(a.2.2.2.2.1,(a.2.2.2.2.2.1,a.2.2.2.2.2.2.1)))) a.2.2.2.1 e.1).bind λh=>
  cond (!(decide (h.2=0))) (Option.bind ((th N d h.2 ([]:ch) ([]:dd) ([]:b9) ([]:b9) a.2.2.2.2.2.2.2.2.2.2.1 a.2.2.2.2.2.2.2.2.2.2.2).bind λj=>
  some (j,h.2)) λq=>some (.inr q)) ((nX N h.1).bind λc=>
  cond (!(decide (c.2.2=0))) (Option.bind ((th N d c.2.2 ([]:ch) ([]:dd) ([]:b9) ([]:b9) a.2.2.2.2.2.2.2.2.2.2.1 a.2.2.2.2.2.2.2.2.2.2.2).bind λk=>
  some (k,c.2.2)) λq=>some (.inr q)) (ao (true) <|
  (λ(i:_->_->Option _)=>
  hk ((zn N (e.2.2.1++(d.1.getD a.2.1.toNat dQ.zero).2)).bind λg=>
  fM ((w6 N c.2.1.2.2).bind λf=>
  i g f)) ((zn N (e.2.2.1++(d.1.getD a.2.1.toNat dQ.zero).2)).bind λg=>
  (w6 N c.2.1.2.2).bind λf=>
  i g f)) (λg f=>
  ao (((decide ((IntKind.wrap .u8 (b-1)).toNat<a.2.2.2.2.2.2.2.1.length))&&(a.2.2.2.2.2.2.2.1.getD (IntKind.wrap .u8 (b-1)).toNat (false,[])).1)) <|
  ao ((a8 (IntKind.wrap .u8 (b-1)) a.2.2.2.2.2.2.2.1.length)&&(true)) <|
  fM (ao ((decide ((IntKind.wrap .u8 (b-1)).toNat=(IntKind.wrap .u8 (b-1)).toNat))&&((dx 56 ((a.2.2.2.2.2.2.2.1.getD (IntKind.wrap .u8 (b-1)).toNat (false,[])).2.length+[(0,(c.2.1.2.1,(g.1,f.1)))].length))&&((a8 (IntKind.wrap .u8 (b-1)) a.2.2.2.2.2.2.2.1.length)&&(((decide ((IntKind.wrap .u8 (b-1)).toNat=(IntKind.wrap .u8 (b-1)).toNat))&&(decide ((IntKind.wrap .u8 (b-1)).toNat<a.2.2.2.2.2.2.2.1.length)))&&(true))))) <|
  ao ((bl (a.2.1+1))&&(true)) <|
  uQ (e.2.1,(a.2.1+1),c.1.1,c.1.2.1,c.1.2.2.1,c.1.2.2.2.1,c.1.2.2.2.2,(a.2.2.2.2.2.2.2.1.set (IntKind.wrap .u8 (b-1)).toNat (true,((a.2.2.2.2.2.2.2.1.getD (IntKind.wrap .u8 (b-1)).toNat (false,[])).2++[(0,(c.2.1.2.1,(g.1,f.1)))]))),e.2.2.2.1,e.2.2.2.2,b,c.2.1.1)))))) (some (.inl (a.1,a.2.2.2.2.2.2.2.1,a.2.2.2.2.2.2.2.2.1,a.2.2.2.2.2.2.2.2.2.1,a.2.2.2.2.2.2.2.2.2.2.1,a.2.2.2.2.2.2.2.2.2.2.2)))
def GY(N:Nat)(a:nt)(b:Int):Option (j8×Int):=
  (Cj N a).bind λd=>
  cond (!(decide (d=0))) (some ((([]:ch),(([]:dd),(([]:b9),([]:b9)))),d)) (cond (cond (decide (b<1)) true (decide (6<b))) (some ((([]:ch),(([]:dd),(([]:b9),([]:b9)))),1)) (ao ((a8 (IntKind.wrap .u8 (b-1)) a.2.1.length)&&(true)) <|
  cond (cond (!(a.2.1.getD (IntKind.wrap .u8 (b-1)).toNat bH.zero).1) true (!(decide ((a.2.1.getD (IntKind.wrap .u8 (b-1)).toNat bH.zero).2.1=(-13:Int))))) (some ((([]:ch),(([]:dd),(([]:b9),([]:b9)))),12)) ((tf N a.2.2.1.1).bind λe=>
  ao ((bl (e+(a.1.length:Int)))&&(true)) <|
  cond (decide (2048<(e+(a.1.length:Int)))) (some ((([]:ch),(([]:dd),(([]:b9),([]:b9)))),3)) ((zm N a.2.2.1.2.2.1).bind λf=>
  (Ck N a.2.2.1.2.1).bind λg=>
  (Cl N a.2.2.1.1 b (a.1.length:Int)).bind λh=>
  (Nb N a b N (a,0,(a.2.1.getD (IntKind.wrap .u8 (b-1)).toNat bH.zero).1,(a.2.1.getD (IntKind.wrap .u8 (b-1)).toNat bH.zero).2.1,(a.2.1.getD (IntKind.wrap .u8 (b-1)).toNat bH.zero).2.2.1,(a.2.1.getD (IntKind.wrap .u8 (b-1)).toNat bH.zero).2.2.2.1,(a.2.1.getD (IntKind.wrap .u8 (b-1)).toNat bH.zero).2.2.2.2,h,g.1,f.1,0,0)).bind λ(c:(nt×(List (Bool×dh))×dd×b9×Int×Int)⊕(j8×Int))=>
  sm c (λc=>
  (th N a 0 (c.2.1.map (·.2)) c.2.2.1 c.2.2.2.1 ([]:b9) c.2.2.2.2.1 c.2.2.2.2.2).bind λi=>
  some (i,0)) (λq=>some q)))))
theorem ahz:Nb=Cw:=by
 unfold Nb Cw;simp only[fM,mF]
theorem ahA:GY=tj:=by
 unfold GY tj;rw[ahz]
def ahB(N:Nat):bw bL:=ahx N bF (by kernel_rfl) [.cR rW,.c (.int .u8)] [] ⟨.da [.cR nV,.c (.int .i64)],[],[]⟩ rfl [agC N,MH N,Up N,agD N,agE N,Cc N,ahy N,MG N,agL N,Uq N] [] (U6 N) [(5,158),(4,157),(8,161)] [(1000000,158),(1000001,157),(1000002,161)] 56 7 (.s (.r [.n 3,.w (.bX 2 rW)]) (.s .d (.s .d (.s .d (.s .d (.s (.s (.o [] [.t 0 0,.t 1 0,.t 2 1,.t 4 0,.t 5 1,.t 6 0,.c 3 [],.t 7 0,.t 8 0] []) .d) (.s .d (.s .d (.s .d (.s .d (.s (.r [.n 7,.c [(15,74)]]) (.s (.s .d (.b (.fr 0 ⟨[(4,.a (.c (.raw (.ptr 157 0)))),(5,.a (.c (.raw (.ptr 158 0)))),(7,.a (.c (.raw (.ptr 7 0)))),(8,.a (.c (.raw (.ptr 161 0)))),(56,.a (.c (.fn 76 [.id 158,.id 157,.eF rW,.id 161]))),(79,.a (.c (.int .i64)))],[(7,.cells 73 [.bool,.int .i64,.int .i64,.bool,.bo c4]),(74,.b0 118 113 bV),Mw,(161,.cells 102 [.int .u8,.int .i64])],[1,77,78],[158]⟩ ⟨[(4,.a (.c (.raw (.ptr 157 0)))),(5,.a (.c (.raw (.ptr 158 0)))),(56,.a (.c (.fn 76 [.id 158,.id 157,.eF rW,.id 161])))],[(74,.b0 118 113 bV),Mw,(161,.cells 102 [.int .u8,.int .i64])],[],[158]⟩ (.s .d (.s .d (.s (.b (.s (.r [.n 6,.w (.bX 10 dQ)]) (.s .d (.s .d (.j ⟨[(4,.a (.c (.raw (.ptr 157 0)))),(5,.a (.c (.raw (.ptr 158 0)))),(7,.a (.c (.raw (.ptr 7 0)))),(8,.a (.c (.raw (.ptr 161 0)))),(11,.a (.c (.raw (.ax 88)))),(12,.a (.c (.bo c4))),(56,.a (.c (.fn 76 [.id 158,.id 157,.eF rW,.id 161])))],[(88,.row 102 aN),Mw],[1,10,77,78,79],[7,74,158,161]⟩ (.s .d (.c (.s (.r [.n 5,.w (.cT 93)]) (.r [.n 4,.w (.cT 97)])) .d)) (.s .d (.s (.r [.n 11,.w (.bX 13 bH)]) (.s .d (.s (.r [.n 11,.w (.bX 15 bH),.w (.bX 16 uE)]) (.s .d (.s .d (.s (.fw [.cT 88] [] (.b [.t 0 0,.t 1 1,.t 2 0,.t 4 0,.t 5 1] 3 8 [] [] none none (.b [] 6 8 [] [] none none (.f [.t 7 0,.s 8,.s 9]) (.f [.c 6 [],.t 7 0,.s 9])) (.f [.c 3 [],.c 6 [],.t 7 0,.s 9])) [(.bX 17 bV)] false) (.s (.fw [.t (.A5 74 1 142 .u8 1)] [2,3,4,5,6,7,8,9,10,11,12,1000014] (.b [.t 0 0,.t 1 3,.t 2 0,.t 3 0,.t 4 0,.t 5 3,.t 6 0,.t 7 0,.t 8 0,.t 10 1] 9 11 [] [] none none (.f [.k 11,.k 12,.t 13 0,.u 14 .st]) (.f [.f,.k 9,.k 12,.t 13 0,.u 14 .st])) [(.cT 144)] false) (.r [.n 5,.w (.t (.close 74 142))])))))))))))))) .d)))))) (.s .d (.t [.t (.cT 74)])))))))))))))) [.cell 4 36,.cell 5 41] 29 (nV.zero,0) (λd=>GY N d.1 d.2.1) (λd=>tj N d.1 d.2.1) (λd=>(by rw[ahA]:GY N d.1 d.2.1=tj N d.1 d.2.1)) func29 rfl rfl ntmps29 rfl rfl rfl (λd=>by kernel_rfl)
def fT(a b:Int):Int:=if a<b then b else a
def iY(a b:Int):Int:=if b<a then b else a
def zz(N:Nat)(a:dA):Option (dA×Nat):=
  ao (((decide (0<=(a.length:Int)))&&(decide ((a.length:Int)<=(a.length:Int)))&&(decide ((a.length:Int)<=(a.length:Int))))&&(true)) <|
  some ((a.take (a.length:Int).toNat),(a.length:Int).toNat)
def U7(N:Nat):bw bL:=b2 N bF [.c (.bo dM)] [] ⟨.a (.c (.ie dM)),[],[]⟩ [] [] (.d) [.tmp 2] ([],0) (λd=>zz N d.1) func35 ntmps35
def lJ(N:Nat)(a:ab):Option (Int):=
  cond (cond (!(decide (a.1=0))) (!(decide (a.1=1))) false) (some 1) (cond (cond (decide (a.2<1)) true (decide (40<a.2))) (some 1) (some 0))
def uT(N:Nat):bw bL:=b2 N bF [.cR aN] [] ⟨.a (.c (.int .i64)),[],[]⟩ [] [] (.s (.r [.n 2,.w (.bX 1 aN)]) .d) [.tmp 2] 0 (λd=>lJ N d.1) func41 ntmps41
def xb(N:Nat)(a:Int):Option (Bool):=
  some (cond (decide ((-4:Int)<=a)) (decide (a<=4)) false)
def U8(N:Nat):bw bL:=b2 N bF [.c (.int .i64)] [] ⟨.a (.c .bool),[],[]⟩ [] [] (.d) [.tmp 2] false (λd=>xb N d.1) func62 ntmps62
def oF(N:Nat)(a:ab)(b:Int):Option (Int):=
  (lJ N a).bind λc=>
  Option.bind (cond (!(!(decide (c=0)))) (xb N b) (some false)) λd=>
  cond (cond (!(decide (c=0))) true (!d)) (some 0) (cond (decide (a.1=0)) (ao ((bl (4 * a.2))&&((bl ((4 * a.2)+2))&&(true))) <|
  some ((4 * a.2)+2)) (ao ((bl (a.2+b))&&((bl (4 * (a.2+b)))&&(true))) <|
  some (4 * (a.2+b))))
def GZ(N:Nat):bw bL:=b2 N bF [.cR aN,.c (.int .i64)] [] ⟨.a (.c (.int .i64)),[],[]⟩ [uT N,U8 N] [] (.s (.r [.n 2,.w (.bX 2 aN)]) .d) [.tmp 4] 0 (λd=>oF N d.1 d.2.1) func22 ntmps22
def Cx(N:Nat)(a:ab)(b:Int):Option (ab×Int):=
  (lJ N a).bind λd=>
  cond (!(decide (d=0))) (some ((0,0),1)) ((xb N b).bind λf=>
  cond (!f) (some ((0,0),11)) (ao ((bl (a.2-b))&&(true)) <|
  Option.bind (cond (decide (a.1=1)) (ao ((bl (a.2+b))&&(true)) <|
  some (0,(a.2+b))) (some (1,(a.2-b)))) λc=>
  (lJ N c).bind λe=>
  cond (!(decide (e=0))) (some ((0,0),11)) (some (c,0))))
def ahC(N:Nat):bw bL:=b2 N bF [.cR aN,.c (.int .i64)] [] ⟨.da [.cR aN,.c (.int .i64)],[],[]⟩ [uT N,U8 N] [] (.s (.r [.n 3,.w (.bX 2 aN)]) (.s .d (.s .d (.s .d (.j ⟨[(4,.a (.c (.raw (.ptr 4 0)))),(6,.a (.c (.raw (.ptr 6 0))))],[(6,.cells 50 [.int .u8,.int .i64])],[],[4]⟩ .d .d))))) [.cell 4 50,.tmp 5] (aN.zero,0) (λd=>Cx N d.1 d.2.1) func134 ntmps134
def tk(N:Nat) :Option ((List (Int×Tn))):=
  some (e6 (.int .u8) eC (e6 (.int .u8) eC (e6 (.int .u8) eC (e6 (.int .u8) eC (e6 (.int .u8) eC (e6 (.int .u8) eC (e6 (.int .u8) eC (e6 (.int .u8) eC ([]:List (Int×Tn)) 1 (true,(false,(true,false)))) 2 (false,(false,(true,false)))) 3 (false,(false,(false,true)))) 4 (true,(true,(true,false)))) 5 (true,(true,(true,false)))) 6 (true,(true,(true,false)))) 7 (false,(true,(false,false)))) 8 (false,(true,(false,false))))
def ahD(N:Nat):bw bL:=b2 N bF [] [] ⟨.a (.c (.raw (.dY 1))),[(1,.mp (.int .u8) eC)],[]⟩ [] [] (.s .d (.s (.r [.t (.ov (.int .u8) eC),.n 1,.t .mC,.n 1,.t .mC,.n 1,.t .mC,.n 1,.t .mC,.n 1,.t .mC,.n 1,.t .mC,.n 1,.t .mC,.n 1,.t .mC]) .d)) [.tmp 0] [] (λd=>tk N ) func163 ntmps163
def nY(N:Nat)(a:cg):Option (Bool):=
  (tk N).bind λb=>
  cond (!((dk (.int .u8) eC b a.1).isSome)) (some false) (cond (cond (cond (cond ((dk (.int .u8) eC b a.1).getD eC.zero).1 (!(decide (a.2.1=0))) false) (!(decide (a.2.1=1))) false) true (cond (!((dk (.int .u8) eC b a.1).getD eC.zero).1) (!(decide (a.2.1=0))) false)) (some false) (Option.bind (cond ((dk (.int .u8) eC b a.1).getD eC.zero).2.1 (lJ N a.2.2.1) (some 0)) λc=>
  cond (cond (cond ((dk (.int .u8) eC b a.1).getD eC.zero).2.1 (!(decide (c=0))) false) true (cond (!((dk (.int .u8) eC b a.1).getD eC.zero).2.1) (!(a7.beq aN a.2.2.1 (0,0))) false)) (some false) (cond (cond (cond ((dk (.int .u8) eC b a.1).getD eC.zero).2.2.1 (cond (decide (a.2.2.2.1<1)) true (decide (6<a.2.2.2.1))) false) true (cond (!((dk (.int .u8) eC b a.1).getD eC.zero).2.2.1) (!(decide (a.2.2.2.1=0))) false)) (some false) (some (cond ((dk (.int .u8) eC b a.1).getD eC.zero).2.2.2 true (decide (a.2.2.2.2=0)))))))
def G0(N:Nat)(a:cg):Option (Bool):=
  (λ(d:_->_->Option _)=>
  hk ((tk N).bind λb=>
  fM (cond (!((dk (.int .u8) eC b a.1).isSome)) (some false) (cond (cond (cond (cond ((dk (.int .u8) eC b a.1).getD eC.zero).1 (!(decide (a.2.1=0))) false) (!(decide (a.2.1=1))) false) true (cond (!((dk (.int .u8) eC b a.1).getD eC.zero).1) (!(decide (a.2.1=0))) false)) (some false) (Option.bind (cond ((dk (.int .u8) eC b a.1).getD eC.zero).2.1 (lJ N a.2.2.1) (some 0)) λc=>
  d b c)))) ((tk N).bind λb=>
  cond (!((dk (.int .u8) eC b a.1).isSome)) (some false) (cond (cond (cond (cond ((dk (.int .u8) eC b a.1).getD eC.zero).1 (!(decide (a.2.1=0))) false) (!(decide (a.2.1=1))) false) true (cond (!((dk (.int .u8) eC b a.1).getD eC.zero).1) (!(decide (a.2.1=0))) false)) (some false) (Option.bind (cond ((dk (.int .u8) eC b a.1).getD eC.zero).2.1 (lJ N a.2.2.1) (some 0)) λc=>
  d b c)))) (λb c=>
  cond (cond (cond ((dk (.int .u8) eC b a.1).getD eC.zero).2.1 (!(decide (c=0))) false) true (cond (!((dk (.int .u8) eC b a.1).getD eC.zero).2.1) (!(a7.beq aN a.2.2.1 (0,0))) false)) (some false) (cond (cond (cond ((dk (.int .u8) eC b a.1).getD eC.zero).2.2.1 (cond (decide (a.2.2.2.1<1)) true (decide (6<a.2.2.2.1))) false) true (cond (!((dk (.int .u8) eC b a.1).getD eC.zero).2.2.1) (!(decide (a.2.2.2.1=0))) false)) (some false) (some (cond ((dk (.int .u8) eC b a.1).getD eC.zero).2.2.2 true (decide (a.2.2.2.2=0))))))
theorem ahE:G0=nY:=by
 unfold G0 nY;simp only[fM,mF]
def ahF(N:Nat):bw bL:=ns N bF [.cR dM] [] ⟨.a (.c .bool),[],[]⟩ [ahD N,uT N] [] (.s (.r [.n 2,.w (.bX 1 dM)]) (.s (.fw [] [] (.b [.t 1 0,.t 2 1] 0 7 [(1,6)] [] none none (.b [] 3 7 [] [] (some .E5) none (.f [.m 4,.t 5 0,.t 6 0,.s 7,.s 8,.t 9 0]) (.f [.u 3 .E5,.m 4,.t 5 0,.t 6 0,.s 8,.t 9 0])) (.f [.c 0 [(1,6)],.u 3 .E5,.m 4,.t 5 0,.t 6 0,.s 8,.t 9 0])) [(.bX 3 eC)] false) .d)) [.tmp 2] false (λd=>G0 N d.1) (λd=>nY N d.1) (λd=>(by rw[ahE]:G0 N d.1=nY N d.1)) func137 ntmps137
def la(N:Nat)(a:cg):Option (Int):=
  (nY N a).bind λb=>
  cond (!b) (some 1) (cond (cond (decide (a.2.2.2.2<(-4:Int))) true (decide (4<a.2.2.2.2))) (some 11) (some 0))
def U9(N:Nat):bw bL:=b2 N bF [.cR dM] [] ⟨.a (.c (.int .i64)),[],[]⟩ [ahF N] [] (.s (.r [.n 2,.w (.bX 1 dM)]) .d) [.tmp 2] 0 (λd=>la N d.1) func102 ntmps102
end
end
end Go.Proofs.YtcheedjfedcbpaaGreatDoor
