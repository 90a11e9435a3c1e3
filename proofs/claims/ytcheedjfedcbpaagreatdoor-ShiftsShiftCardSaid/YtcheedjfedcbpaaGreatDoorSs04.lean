/- Part 4 of 6 of the proof. -/
import Derived.Test.YtcheedjfedcbpaaGreatDoorSs03
import Derived.Shelf.Strings.Builder1
set_option linter.unusedSimpArgs false
set_option linter.unusedVariables false
set_option maxRecDepth 100000
namespace Go.Proofs.YtcheedjfedcbpaaGreatDoor
open Go.RowKit
section
inductive fA where
 | d
 | r (l:List In)
 | t (l:List lF)
 | o (E:List Nat) (l:List qv) (w:List lF)
 | me (E:List Nat) (l:List qv) (w:List lF)
 | s (a b:fA)
 | j (bo:dW) (a b:fA)
 | Ix (bo:dW) (a b:fA)
 | c (a b:fA)
 | l (bo:dW) (a:fA)
 | eO (id:Nat) (bo gW:dW) (a:fA)
 | fD (id:Nat) (bo gW:dW) (a:fA)
 | b (a:fA)
 | nR (cP:List (Nat×Nat)) (bo:dW) (a:fA)
 | p (w:List lF) (a:fA)
 | hn (al:List lF) (E:List Nat) (t:rR) (w:List lF) (j5:Bool)
def fA.fst:fA->fA
 | .s x _=>x
 | .j _ x _=>x
 | .Ix _ x _=>x
 | .c x _=>x
 | .l _ x=>x
 | .eO _ _ _ x=>x
 | .fD _ _ _ x=>x
 | .b x=>x
 | .nR _ _ x=>x
 | _=>.d
def fA.snd:fA->fA
 | .s _ x=>x
 | .j _ _ x=>x
 | .Ix _ _ x=>x
 | .c _ x=>x
 | _=>.d
def fA.ins:fA->List In
 | .r x=>x
 | _=>[]
def fA.xl:fA->List lF
 | .t x=>x
 | _=>[]
def fA.pre:fA->List lF
 | .p w _=>w
 | .hn w _ _ _ _=>w
 | _=>[]
def fA.PL:fA->Bool
 | .me _ _ _=>true
 | .p _ (.me _ _ _)=>true
 | .hn _ _ _ _ j5=>j5
 | _=>false
def fA.nW:fA->List Nat×rR×List lF
 | .o x y z=>(x,.f y,z)
 | .me x y z=>(x,.f y,z)
 | .p _ (.o x y z)=>(x,.f y,z)
 | .p _ (.me x y z)=>(x,.f y,z)
 | .hn _ x y z _=>(x,y,z)
 | _=>([],.f [],[])
def nr{aR:Type} (n:Nat):List lF->List Nat->aO->(List Nat->aO->Option aR)->Option aR
 | [],V,st,k=>k V st
 | x :: l,V,st,k=>match wY n x st with
  | some (c,st')=>au c (nr n l (x.wW++V) st' k)
  | none=>none
theorem xm{X:bs} {aR:Type} {n:Nat} {k:List Nat->aO->Option aR} {r:aR} {st0:aO}:∀ {l:List lF} {V:List Nat} {st:aO},cZ V st0 st->nr n l V st k=some r->∃ fj st',fq X n st st'/\cZ fj st0 st'/\k fj st'=some r
 | [],V,st,aN,h=>⟨V,st,fq.refl _,aN,h⟩
 | x :: l,V,st,aN,h=>by
  unfold nr at h
  split at h
  ·rename_i c CN e
   obtain⟨aa,h⟩:=iq h;obtain⟨fj,st',J,U,ag⟩:=xm (X:=X) (aN.trans (Ot e)) h;exact⟨fj,st',(Om e aa).trans J,U,ag⟩
  ·cases h
def PM{α:Type} (v:Value) (k:Value->α):α:=match v with
 | .int q z=>k (.int q z)
 | .bool b=>k (.bool b)
 | .slice a m c=>k (.slice a m c)
 | v=>k v
def Dc{α:Type}:List e4->(List e4->α)->α
 | [],k=>k []
 | .id i :: r,k=>Dc r fun r=>k (.id i :: r)
 | .eT g x :: r,k=>Dc r fun r=>k (.eT g x :: r)
def Iy{α:Type} (c:bm) (k:bm->α):α:=match c with
 | .val v=>PM v fun v=>k (.val v)
 | .str s=>k (.str s)
 | .dead=>k .dead
 | .ptr i o=>k (.ptr i o)
 | .eG i s j o=>k (.eG i s j o)
 | .fO g x o=>k (.fO g x o)
 | .par g l=>k (.par g l)
 | .ai i=>k (.ai i)
 | .bk g l c=>k (.bk g l c)
 | .fn f ids=>Dc ids fun ids=>k (.fn f ids)
 | .b8 i=>k (.b8 i)
 | .iH f i=>k (.iH f i)
 | .hG i o=>k (.hG i o)
 | .iI i s o=>k (.iI i s o)
 | .iU i=>k (.iU i)
 | .hQ b i=>k (.hQ b i)
def Dd{α:Type}:List bm->(List bm->α)->α
 | [],k=>k []
 | c :: r,k=>Iy c fun c=>Dd r fun r=>k (c :: r)
def De{α:Type} (x:bl) (k:bl->α):α:=match x with
 | .c c=>Iy c fun c=>k (.c c)
 | .agg cs=>Dd cs fun cs=>k (.agg cs)
 | .arr g l=>k (.arr g l)
def Iz{α:Type}:List bl->(List bl->α)->α
 | [],k=>k []
 | c :: r,k=>De c fun c=>Iz r fun r=>k (c :: r)
def PN{α:Type} (v:b3) (k:b3->α):α:=match v with
 | .a x=>De x fun x=>k (.a x)
 | .may g x=>De x fun x=>k (.may g x)
 | .c3 xs=>Iz xs fun xs=>k (.c3 xs)
def IA{α:Type}:cX->(cX->α)->α
 | [],k=>k []
 | (s,v) :: r,k=>PN v fun v=>IA r fun r=>k ((s,v) :: r)
def PO{α:Type} (b:cv) (k:cv->α):α:=match b with
 | .cells t cs=>Dd cs fun cs=>k (.cells t cs)
 | .row t g l c=>k (.row t g l c)
 | .gl t g l=>k (.gl t g l)
 | .mp g h l o=>k (.mp g h l o)
 | .b2 t u g l c h=>k (.b2 t u g l c h)
 | b=>k b
def IB{α:Type}:bz->(bz->α)->α
 | [],k=>k []
 | (s,v) :: r,k=>PO v fun v=>IB r fun r=>k ((s,v) :: r)
def u1{α:Type} (st:aO) (k:aO->α):α:=IA st.L fun L=>IB st.H fun H=>k ⟨L,H⟩
theorem acL{α:Type} (v:Value) (k:Value->α):PM v k=k v:=by cases v<;>rfl
theorem IC{α:Type}:∀ (l:List e4) (k:List e4->α),Dc l k=k l
 | [],_=>rfl
 | .id i :: r,k=>IC r _
 | .eT g x :: r,k=>IC r _
theorem PQ{α:Type} (c:bm) (k:bm->α):Iy c k=k c:=by
 cases c with
 | val v=>exact acL v (fun v=>k (.val v))
 | fn f ids=>exact IC ids (fun ids=>k (.fn f ids))
 | _=>rfl
theorem ID{α:Type}:∀ (l:List bm) (k:List bm->α),Dd l k=k l
 | [],_=>rfl
 | c :: r,k=>(PQ c _).trans (ID r _)
theorem IE{α:Type} (x:bl) (k:bl->α):De x k=k x:=by
 cases x with
 | c c=>exact PQ c (fun c=>k (.c c))
 | agg cs=>exact ID cs (fun cs=>k (.agg cs))
 | arr g l=>rfl
theorem PR{α:Type}:∀ (l:List bl) (k:List bl->α),Iz l k=k l
 | [],_=>rfl
 | c :: r,k=>(IE c _).trans (PR r _)
theorem acM{α:Type} (v:b3) (k:b3->α):PN v k=k v:=by
 cases v with
 | a x=>exact IE x (fun x=>k (.a x))
 | may g x=>exact IE x (fun x=>k (.may g x))
 | c3 xs=>exact PR xs (fun xs=>k (.c3 xs))
theorem PS{α:Type}:∀ (l:cX) (k:cX->α),IA l k=k l
 | [],_=>rfl
 | (s,v) :: r,k=>(acM v _).trans (PS r _)
theorem acN{α:Type} (b:cv) (k:cv->α):PO b k=k b:=by
 cases b with
 | cells t cs=>exact ID cs (fun cs=>k (.cells t cs))
 | _=>rfl
theorem PT{α:Type}:∀ (l:bz) (k:bz->α),IB l k=k l
 | [],_=>rfl
 | (s,v) :: r,k=>(acN v _).trans (PT r _)
theorem zQ{α:Type} (st:aO) (k:aO->α):u1 st k=k st:=(PS _ _).trans (PT _ _)
def cn{hd aR:Type} (step:hd->(hd->Option aR)->Option aR):Nat->hd->Option aR
 | 0,_=>none
 | n+1,d=>step d (cn step n)
abbrev ns (aR:Type):=Exit->List Nat->aO->Option aR
abbrev rX:={bo:Type}->kE bo->fA->aO->ns bo->Option bo
def Df{aR:Type} (cf:kE aR) (b4:fA) (a b:rX) (st:aO) (k:ns aR):Option aR:=match b4 with
 | .j bo x y=>(a none x st fun e V st'=>match e with
  | .normal=>bo.get st V st'
  | _=>none).bind fun d=>b cf y (bo.S st d) fun e V s=>k e (V++bo.ids) s
 | .Ix bo x y=>(a none x st fun e V st'=>match e with
  | .normal=>match bo.get st V st' with
   | some d=>some (.inl d)
   | none=>none
  | e=>match k e V st' with
   | some r=>some (.inr r)
   | none=>none).bind fun(o:bo.D⊕aR)=>sm o (fun d=>b cf y (bo.S st d) fun e V s=>k e (V++bo.ids) s) (fun r=>some r)
 | b4=>a cf b4.fst st fun e V st'=>match e with
  | .normal=>b cf b4.snd st' fun e V2 s=>k e (V2++V) s
  | e=>k e V st'
def zR:List Nat->List Nat->Bool
 | [],_=>true
 | k :: r,l=>match e2 k l with
  | true=>zR r l
  | false=>false
def xn(bo gW:dW):Bool:=match zR gW.rz bo.rz,zR gW.j6 bo.j6,zS gW.rz (dX bo.L),zS gW.j6 (dX bo.H)with
 | true,true,true,true=>true
 | _,_,_,_=>false
where zS:List Nat->List Nat->Bool
 | [],_=>true
 | k :: r,l=>match e2 k l with
  | true=>false
  | false=>zS r l
def oO{hd aR:Type} (o:Option hd) (f:hd->Option aR):Option aR:=match o with
 | some d=>f d
 | none=>none
theorem qA{hd aR:Type} {o:Option hd} {f:hd->Option aR} {r:aR} (h:oO o f=some r):∃ d,o=some d/\f d=some r:=by
 unfold oO at h
 split at h
 ·exact⟨_,rfl,h⟩
 ·cases h
def Dg{aR:Type} (N:Nat) (cf:kE aR) (b4:fA) (a:rX) (st:aO) (k:ns aR):Option aR:=match b4 with
 | .l bo x=>oO (bo.get st [] st) (cn (fun d rec=>a cf x (bo.S st d) fun e V st'=>match e with
  | .normal=>oO (bo.get st V st') rec
  | e=>k e (V++bo.ids) st') N)
 | .eO id bo gW x=>(oO (bo.get st [] st) (cn (fun d rec=>a none x (bo.S st d) fun e V st'=>match e with
  | .normal=>oO (bo.get st V st') rec
  | .exit i=>match Nat.beq i id,xn bo gW with
   | true,true=>gW.get st V st'
   | _,_=>none
  | _=>none) N)).bind fun d=>k (.exit id) gW.ids (gW.S st d)
 | .fD id bo gW x=>(oO (bo.get st [] st) (cn (fun d rec=>a none x (bo.S st d) fun e V st'=>match e with
  | .normal=>oO (bo.get st V st') rec
  | .exit i=>match Nat.beq i id,xn bo gW with
   | true,true=>match gW.get st V st' with
    | some d=>some (.inl d)
    | none=>none
   | false,_=>match k (.exit i) (V++bo.ids) st' with
    | some r=>some (.inr r)
    | none=>none
   | _,_=>none
  | e=>match k e (V++bo.ids) st' with
   | some r=>some (.inr r)
   | none=>none) N)).bind fun(o:gW.D⊕aR)=>sm o (fun d=>k (.exit id) gW.ids (gW.S st d)) (fun r=>some r)
 | _=>none
structure lJ(X:bs) where
 f:FuncId
 fn:Func
 C:List sK
 G:List (Nat×ia)
 E:List fW
 m:c8 (qn C (mC G []))->Option (List (c8 (jc E [])))
 az:X.P.funcs[f]?=some fn
 aV : (fn.name == "runtime.NumGoroutine") = false
 ae:fn.body.isNone=false
 ok:∀ d l,m d=some l->uX X f (l4 C d).1 (ju G (l4 C d).2).1 l (fun x=>(hX E x).1)
def ji{α hd aR:Type} (step:α->hd->(hd->Option aR)->Option aR):List α->hd->(hd->Option aR)->Option aR
 | [],d,k=>k d
 | x :: l,d,k=>step x d fun c5=>ji step l c5 k
def s7:List Nat->bz->Option (bz×bz)
 | [],H=>some ([],H)
 | i :: is,H=>match bd H i with
  | some b=>match s7 is (mz i H)with
   | some (h,H')=>some ((i,b) :: h,H')
   | none=>none
  | none=>none
def u2{X:bs} {aR:Type} (f:FuncId) (fP:List e4) (H:bz) (K:(E:List fW)->List Nat->bz->List (c8 (jc E []))->Option aR):List (lJ X)->Option aR
 | []=>none
 | e :: r=>match Nat.beq e.f f,s7 (dX e.G) H with
  | true,some (h,H')=>match um (T:=[]) e.G h ()with
   | some t=>match sL (T:=mC e.G []) e.C fP t with
    | some d=>(e.m d).bind fun l=>K e.E (dX e.G) H' l
    | none=>u2 f fP H K r
   | none=>u2 f fP H K r
  | _,_=>u2 f fP H K r
def eJ:List (Nat×Nat)->aO->aO
 | [],st=>st
 | p :: l,st=>eJ l ⟨fC (jr p.1 p.2) st.L,nM (jr p.1 p.2) st.H⟩
def k2:List (Nat×Nat)->List Nat
 | []=>[]
 | p :: l=>k2 l++[p.2,p.1]
def Dh:List (Nat×Nat)->Bool
 | []=>true
 | p :: l=>match Nat.blt p.2 mZ with
  | true=>Dh l
  | false=>false
def zT(n:Nat):Code->Option (List (Nat×Nat))
 | .region _ ⟨ops⟩ false=>wH n ops
 | .skip=>some []
 | .seq a b=>match zT n a,zT n b with
  | some x,some y=>some (x++y)
  | _,_=>none
 | _=>none
def acO(bo:dW):Bool:=match bo.L,bo.rz with
 | [],[]=>true
 | _,_=>false
def zU{aR:Type} (n:Nat) (bo:dW) (ms:List (Nat×Nat)) (pl cP:List Nat) (E:List fW) (st:aO) (cf:kE aR) (a:rX) (x:fA) (k:ns aR) (e:c8 (jc E [])) (y:bo.D) (IF:bo.D->Option aR):Option aR:=
 a cf x ⟨rl ms (sE pl (hX E e).1 (fC (gE n) st.L)),(bo.S st y).H⟩ fun e V s=>match e with
  | .normal=>oO (bo.get st V s) IF
  | .ret=>k .ret ((V++bo.ids)++cP) ⟨fC (gE n) st.L,s.H⟩
  | .exit i=>k (.exit i) ((V++bo.ids)++cP) ⟨fC (gE n) st.L,s.H⟩
  | _=>none
def stepG{aR:Type} (n:Nat) (bo:dW) (pl cP:List Nat) (E:List fW) (st:aO) (b a:rX) (x:fA) (k:ns aR) (e:c8 (jc E [])) (y:bo.D) (IF:bo.D->Option aR):Option aR:=
 b none .d ⟨sE pl (hX E e).1 (fC (gE n) st.L),(bo.S st y).H⟩ fun ay Di s1=>match ay with
  | .normal=>a none x s1 fun e V s=>match e with
   | .normal=>oO (bo.get st (V++Di) s) IF
   | .ret=>k .ret (((V++Di)++bo.ids)++cP) ⟨fC (gE n) st.L,s.H⟩
   | .exit i=>k (.exit i) (((V++Di)++bo.ids)++cP) ⟨fC (gE n) st.L,s.H⟩
   | _=>none
  | _=>none
def zV{aR:Type} (X:bs) (n:Nat) (bD:List (lJ X)) (m:Bool) (g:Operand) (pl:List Nat) (oP:Code) (cf:kE aR) (b a:rX) (b4:fA) (st0:aO) (k:ns aR):Option aR:=match b4 with
 | .nR cP bo x=>match m,Dh cP,acO bo,Nat.ble n h5 with
  | true,true,true,true=>match bp X (eJ cP st0).L g,zT n oP with
   | some (c,.c (.fn f fP)),some ms=>au c (u2 f fP (eJ cP st0).H (fun E gs eR l=>match Nat.beq E.length pl.length,l0 n pl,l0 n (ms.map (·.1))with
    | true,true,true=>oO (bo.get ⟨(eJ cP st0).L,eR⟩ [] ⟨(eJ cP st0).L,eR⟩) fun hN=>ji (zU n bo ms pl (gs++k2 cP) E ⟨(eJ cP st0).L,eR⟩ cf a x k) l hN fun y=>k .normal (bo.ids++(gs++k2 cP)) ⟨fC (gE n) (eJ cP st0).L,(bo.S ⟨(eJ cP st0).L,eR⟩ y).H⟩
    | _,_,_=>none) bD)
   | some (c,.c (.fn f fP)),none=>match cf with
    | none=>au c (u2 f fP (eJ cP st0).H (fun E gs eR l=>match Nat.beq E.length pl.length,l0 n pl with
     | true,true=>oO (bo.get ⟨(eJ cP st0).L,eR⟩ [] ⟨(eJ cP st0).L,eR⟩) fun hN=>ji (stepG n bo pl (gs++k2 cP) E ⟨(eJ cP st0).L,eR⟩ b a x k) l hN fun y=>k .normal (bo.ids++(gs++k2 cP)) ⟨fC (gE n) (eJ cP st0).L,(bo.S ⟨(eJ cP st0).L,eR⟩ y).H⟩
     | _,_=>none) bD)
    | some _=>none
   | _,_=>none
  | _,_,_,_=>none
 | _=>none
noncomputable def jj (X:bs) (N n:Nat) (T:List (bC X)) (bD:List (lJ X)):Bool->Code->{aR:Type}->kE aR->fA->aO->ns aR->Option aR
 | _,.skip,_,_,b4,st,k=>nr n b4.xl [] st fun V st'=>k .normal V st'
 | _,.exit id,_,_,b4,st,k=>nr n b4.xl [] st fun V st'=>k (.exit id) V st'
 | _,.ret,_,_,b4,st,k=>nr n b4.xl [] st fun V st'=>k .ret V st'
 | _,.label _,_,_,_,st,k=>k .normal [] st
 | _,.region _ ops true,_,_,b4,st,k=>u1 st fun st=>nr n b4.pre [] st fun Dj st=>u1 st fun st=>match Nat.beq ops.toList.length (lI b4.nW.2.1)with
  | true=>qw X n T ops.toList b4.nW.1 b4.nW.2.1 ⟨Array.replicate (lI b4.nW.2.1) false,true,true,true,b4.PL⟩ [] Dj [] st fun V st'=>nr n b4.nW.2.2 V st' fun V st'=>k .normal V st'
  | false=>none
 | _,.region _ ops false,_,cf,b4,st,k=>u1 st fun st=>j9 X n T cf (e1 ops.toList) b4.ins ops.toList [] [] [] st fun V st'=>k .normal V st'
 | m,.seq a b,_,cf,b4,st,k=>Df cf b4 (fun cf b4 st k=>jj X N n T bD m a cf b4 st k) (fun cf b4 st k=>jj X N n T bD m b cf b4 st k) st k
 | m,.cond x a b,_,cf,b4,st,k=>match bp X st.L x with
  | some (g,.c (.val (.bool q)))=>au g (cond q (jj X N n T bD m a cf b4.fst st k) (jj X N n T bD m b cf b4.snd st k))
  | _=>none
 | m,.block id a,_,cf,b4,st,k=>jj X N n T bD m a cf b4.fst st fun e V st'=>match e with
  | .exit i=>match Nat.beq i id with
   | true=>k .normal V st'
   | false=>k (.exit i) V st'
  | e=>k e V st'
 | m,.scope a,_,cf,b4,st,k=>jj X N n T bD m a cf b4.fst st fun e V st'=>match e with
  | .goto _=>none
  | e=>k e V st'
 | m,.loop a,_,cf,b4,st,k=>u1 st fun st=>Dg N cf b4 (fun cf b4 st k=>jj X N n T bD m a cf b4 st k) st k
 | m,.rangeFunc g ps oP body,_,cf,b4,st,k=>u1 st fun st=>zV X n bD m g ps.toList oP cf (fun cf b4 st k=>jj X N n T bD false oP cf b4 st k) (fun cf b4 st k=>jj X N n T bD false body cf b4 st k) b4 st k
 | _,_,_,_,_,_,_=>none
section
variable {X:bs} {M:Bool} {N n:Nat} {rr:Option Nat} {T:List (bC X)} {bD:List (lJ X)}
def mJ(X:bs) (M:Bool) (n:Nat) {aR:Type} (st:aO) (k:ns aR):Exit->aO->aR->Prop:=fun e s r=>∃ V ej,gF X M n s ej/\cZ V st ej/\k e V ej=some r
def xo{aR:Type} (Γ:gr X M n rr aR) (cf:kE aR):Prop:=∀ (ops:List Oper) (Q:Exit->Act->World->Prop),OT X n ops cf (fun l r st=>∀ a w,Γ.In r st a w->se rr X.P ops.toArray Q l a w)
def acP{aR:Type} (Γ:gr X M n rr aR) (cf:kE aR):Prop:=M=true->rr=none->∃ F:(id:Nat)->gr X false n (some id) aR->Prop,(∀ id nX,F id nX->xo nX cf) /\
 ∀ {α β:Type} {st:aO} {Q:Exit->aO->aR->Prop} {g:Operand} {pl:List Nat} {assign body:Code} {gf:FuncId} {fn:Func} {fP:List e4} {kZ:α->List bl} {l:List α} {b:Bool} {ms:List (Nat×Nat)} {ao eR:bz} {eI:aR},
  bp X st.L g = some (b, .c (.fn gf fP)) → b = true → X.P.funcs[gf]? = some fn → (fn.name == "runtime.NumGoroutine") = false → fn.body.isNone = false → uX X gf fP ao l kZ → (∀ x, (kZ x).length = pl.length) → l0 n pl = true → lx n assign ms → l0 n (ms.map (·.1)) = true → Nat.ble n h5 = true →
  ∀ (hc:β->bz) (bN:List α->β->aR->Prop) (k1:Exit->bz->aR->Prop) (hN:β),bN l hN eI->st.H=ao++eR->(∀ {env:Nat->Loc} {B:Nat->Prop} {w:World} {H:List bf},bA env B w eR H->∃ H' Y,H.Perm (H'++Y)/\bA env B w (hc hN) H') ->
  (∀ id x rest y r (nX:gr X false n (some id) aR),F id nX->bN (x :: rest) y r->hY nX body r ⟨rl ms (sE pl (kZ x) (fC (gE n) st.L)),hc y⟩ (fun e s cy=>(e=.normal/\∃ mc,bN rest mc cy/\∃ L',gF X false n s ⟨L',hc mc⟩)\/(e≠.normal/\B6 e=true/\∃ aK,k1 e aK cy/\∃ L',gF X false n s ⟨L',aK⟩))) ->
  (∀ y r,bN [] y r->Q .normal ⟨fC (gE n) st.L,hc y⟩ r)->(∀ e aK r,k1 e aK r->Q e ⟨fC (gE n) st.L,aK⟩ r)->hY Γ (.rangeFunc g pl.toArray assign body) eI st Q
def mK{aR:Type} (Γ:gr X M n rr aR) (cf:kE aR):Prop:=xo Γ cf/\acP Γ cf
theorem xo.inner{aR:Type} {id:Nat} {Γ:gr X false n (some id) aR} {cf:kE aR} (h:xo Γ cf):mK Γ cf:=⟨h,fun h=>by cases h⟩
theorem mK.none{aR:Type} {Γ:gr X M n rr aR}:mK Γ none:=⟨fun _ _ _ h=>(by cases h),fun bL zW=>by
 subst bL zW;refine⟨fun id nX=>∃ R W aJ eI,nX=gr.C9 R W aJ eI,fun _ _ _ _ _ _ h=>(by cases h),?_⟩;intro α β st Q g pl assign body gf fn fP kZ l b ms ao eR eI aQ ae gX rV jU mD hlen gT oN mv aV hc bN k1 hN aN cU dt pH nU kY;exact kG (u0 (acD (Q:=fun e s=>Q e s eI) aQ ae gX rV jU mD hlen gT oN mv aV hc (fun l y=>bN l y eI) (fun e h=>k1 e h eI) hN aN cU dt (fun id x rest y aL=>Db (r:=eI) fun R W aJ=>pH id x rest y eI _ ⟨R,W,aJ,eI,rfl⟩ aL) (fun y aL=>nU y eI aL) (fun e aK h=>kY e aK eI h))) fun e s cy ⟨J,U⟩=>by rw[U]; exact J⟩
def xp(X:bs) (M:Bool) (n:Nat) (rr:Option Nat) (c:Code) (f:rX):Prop:=
 ∀ (aR:Type) (Γ:gr X M n rr aR) (cf:kE aR),mK Γ cf->∀ (b4:fA) (st:aO) (k:ns aR) (r:aR),f cf b4 st k=some r->hY Γ c r st (mJ X M n st k)
theorem acQ{aR:Type} {Γ:gr X M n rr aR} {cf:kE aR} (aL:mK Γ cf) {fw cL:Code} {a b:rX} (aX:xp X M n rr fw a) (ae:xp X M n rr cL b) {b4:fA} {st:aO} {k:ns aR} {r:aR} (h:Df cf b4 a b st k=some r):hY Γ (.seq fw cL) r st (mJ X M n st k):=by
 unfold Df at h
 split at h
 ·rename_i bo x y
  obtain⟨d,J,U⟩:=hl h;refine Iv (kG (Da (d0:=d) (aX _ (Γ.const r d) none mK.none _ _ _ _ J)) fun e s cy ⟨aw,V,ej,hw,fs,an⟩=>?_);subst aw;cases e with
  | normal=>exact xk (hw.trans (dW.iA (jT.self bo st) fs an).m) (kG (ae _ Γ cf aL _ _ _ _ U) fun e s a7 ⟨V2,s2,oJ,u3,ih⟩=>⟨_,s2,oJ,(dW.ks bo st d).trans u3,ih⟩)
  | _=>cases an
 ·rename_i bo x y
  obtain⟨o,J,U⟩:=hl h;refine Iv (kG (Da (d0:=o) (aX _ (Γ.const r o) none mK.none _ _ _ _ J)) fun e s cy ⟨aw,V,ej,hw,fs,an⟩=>?_);subst aw;cases e with
  | normal=>
   simp only at an
   split at an
   ·rename_i d ax
    cases an;exact xk (hw.trans (dW.iA (jT.self bo st) fs ax).m) (kG (ae _ Γ cf aL _ _ _ _ U) fun e s a7 ⟨V2,s2,oJ,u3,ih⟩=>⟨_,s2,oJ,(dW.ks bo st d).trans u3,ih⟩)
   ·cases an
  | _=>
   simp only at an
   split at an
   ·rename_i q ar
    cases an;cases U;exact⟨V,ej,hw,fs,ar⟩
   ·cases an
 ·refine Iv (kG (aX _ Γ cf aL _ _ _ _ h) fun e s cy ⟨V,ej,hw,fs,an⟩=>?_)
  cases e with
  | normal=>exact xk hw (kG (ae _ Γ cf aL _ _ _ _ an) fun e s a7 ⟨V2,s2,oJ,u3,ih⟩=>⟨_,s2,oJ,fs.trans u3,ih⟩)
  | _=>exact⟨V,ej,hw,fs,an⟩
theorem IG{q:Nat} {l:List Nat}:∀ {ks:List Nat},zR ks l=true->q∈ks->e2 q l=true
 | [],_,h=>by cases h
 | k :: r,h,hm=>by
  unfold zR at h
  split at h
  ·rename_i J
   rcases List.mem_cons.1 hm with rfl | hm
   ·exact J
   ·exact IG h hm
  ·cases h
theorem IH{q:Nat} {l:List Nat}:∀ {ks:List Nat},xn.zS ks l=true->q∈ks->e2 q l=false
 | [],_,h=>by cases h
 | k :: r,h,hm=>by
  unfold xn.zS at h
  split at h
  ·cases h
  ·rename_i J
   rcases List.mem_cons.1 hm with rfl | hm
   ·exact J
   ·exact IH h hm
theorem II{q:Nat}:∀ {l:List Nat},e2 q l=true->q∈l
 | [],h=>by cases h
 | k :: r,h=>by
  unfold e2 at h
  split at h
  ·rename_i e
   rw[Nat.eq_of_beq_eq_true e];exact List.mem_cons_self
  ·exact List.mem_cons_of_mem _ (II h)
theorem Dk{p:Nat×b3}:∀ {ks:List Nat} {L:cX},p∈ka ks L->p.1∈ks
 | [],_,h=>by cases h
 | k :: r,L,h=>by
  unfold ka at h
  split at h
  ·split at h
   ·rcases List.mem_cons.1 h with rfl | h
    ·exact List.mem_cons_self
    ·exact List.mem_cons_of_mem _ (Dk h)
   ·exact List.mem_cons_of_mem _ (Dk h)
  ·exact List.mem_cons_of_mem _ (Dk h)
theorem Dl{p:Nat×cv}:∀ {ks:List Nat} {L:bz},p∈gh ks L->p.1∈ks
 | [],_,h=>by cases h
 | k :: r,L,h=>by
  unfold gh at h
  split at h
  ·split at h
   ·rcases List.mem_cons.1 h with rfl | h
    ·exact List.mem_cons_self
    ·exact List.mem_cons_of_mem _ (Dl h)
   ·exact List.mem_cons_of_mem _ (Dl h)
  ·exact List.mem_cons_of_mem _ (Dl h)
theorem PU{q:Nat} {v:b3}:∀ {ks:List Nat} {L:cX},q∈ks->bd L q=some v->v.free=true->(q,v)∈ka ks L
 | [],_,h,_,_=>by cases h
 | k :: r,L,h,ah,az=>by
  unfold ka
  rcases List.mem_cons.1 h with rfl | h
  ·simp only[ah,az]; exact List.mem_cons_self
  ·have:=PU h ah az
   split
   ·split
    ·exact List.mem_cons_of_mem _ this
    ·exact this
   ·exact this
theorem PV{q:Nat} {v:cv}:∀ {ks:List Nat} {L:bz},q∈ks->bd L q=some v->v.free=true->(q,v)∈gh ks L
 | [],_,h,_,_=>by cases h
 | k :: r,L,h,ah,az=>by
  unfold gh
  rcases List.mem_cons.1 h with rfl | h
  ·simp only[ah,az]; exact List.mem_cons_self
  ·have:=PV h ah az
   split
   ·split
    ·exact List.mem_cons_of_mem _ this
    ·exact this
   ·exact this
theorem jT.out{bo gW:dW} (ak:xn bo gW=true) (st:aO) (d:bo.D):jT gW st (bo.S st d):=by
 unfold xn at ak
 split at ak
 ·rename_i J U ag aq
  refine⟨fun p ao _=>?_,fun p ao _=>?_⟩
  ·have ab:=Dk ao
   obtain⟨ay,aS⟩:=uL ao;exact(jT.step bo st d).1 p (PU (II (IG J ab)) ay aS) (IH ag ab)
  ·have ab:=Dl ao
   obtain⟨ay,aS⟩:=oH ao;exact(jT.step bo st d).2 p (PV (II (IG U ab)) ay aS) (IH aq ab)
 ·cases ak
theorem acR{aR:Type} {Γ:gr X M n rr aR} {cf:kE aR} (aL:mK Γ cf) {c:Code} {a:rX} (aX:xp X M n rr c a) {b4:fA} {st:aO} {k:ns aR} {r:aR} (h:Dg N cf b4 a st k=some r):hY Γ (.loop c) r st (mJ X M n st k):=by
 unfold Dg at h
 split at h
 ·rename_i bo x
  obtain⟨d,J,U⟩:=qA h;refine Iw (fun(y:Nat×bo.D)=>bo.S st y.2) (fun y r=>cn _ y.1 y.2=some r) (fun y=>y.1) (N,d) U (dW.iA (jT.self bo st) (cZ.refl (V:=[]) st) J).m fun y r iW=>?_
  obtain⟨m,d2⟩:=y;cases m with
  | zero=>cases iW
  | succ m=>
   refine kG (aX _ Γ cf aL _ _ _ _ iW) fun e s cy ⟨V,ej,hw,fs,an⟩=>?_
   cases e with
   | normal=>
    obtain⟨d3,ag,aq⟩:=qA an;exact⟨(m,d3),aq,Nat.lt_succ_self _,hw.trans (dW.iA (jT.step bo st d2) fs ag).m⟩
   | _=>exact⟨_,ej,hw,(dW.ks bo st d2).trans fs,an⟩
 ·rename_i id bo gW x
  obtain⟨o,h,aE⟩:=hl h;obtain⟨d,J,U⟩:=qA h;refine Iw (fun(y:Nat×bo.D)=>bo.S st y.2) (fun y cy=>cn _ y.1 y.2=some o/\cy=r) (fun y=>y.1) (N,d) ⟨U,rfl⟩ (dW.iA (jT.self bo st) (cZ.refl (V:=[]) st) J).m fun y cy iW=>?_
  obtain⟨m,d2⟩:=y;obtain⟨iW,rfl⟩:=iW;cases m with
  | zero=>cases iW
  | succ m=>
   refine kG (Da (d0:=o) (aX _ (Γ.const cy o) none mK.none _ _ _ _ iW)) fun e s a7 ⟨aw,V,ej,hw,fs,an⟩=>?_
   subst aw;cases e with
   | normal=>
    obtain⟨d3,ag,aq⟩:=qA an;exact⟨(m,d3),⟨aq,rfl⟩,Nat.lt_succ_self _,hw.trans (dW.iA (jT.step bo st d2) fs ag).m⟩
   | exit i=>
    simp only at an
    split at an
    ·rename_i hi ak
     have:=Nat.eq_of_beq_eq_true hi
     subst this;exact⟨_,_,hw.trans (dW.iA (jT.out ak st d2) fs an).m,dW.ks gW st o,aE⟩
    ·cases an
   | _=>cases an
 ·rename_i id bo gW x
  obtain⟨o,h,aE⟩:=hl h;obtain⟨d,J,U⟩:=qA h;refine Iw (fun(y:Nat×bo.D)=>bo.S st y.2) (fun y cy=>cn _ y.1 y.2=some o/\cy=r) (fun y=>y.1) (N,d) ⟨U,rfl⟩ (dW.iA (jT.self bo st) (cZ.refl (V:=[]) st) J).m fun y cy iW=>?_
  obtain⟨m,d2⟩:=y;obtain⟨iW,rfl⟩:=iW;cases m with
  | zero=>cases iW
  | succ m=>
   refine kG (Da (d0:=o) (aX _ (Γ.const cy o) none mK.none _ _ _ _ iW)) fun e s a7 ⟨aw,V,ej,hw,fs,an⟩=>?_
   subst aw;have key:∀ cj,(match k cj (V++bo.ids) ej with
     | some r=>some (Sum.inr r)
     | none=>(none:Option (gW.D⊕aR)))=some o->mJ X M n st k cj s a7:=fun cj an=>by
    split at an
    ·rename_i q ar
     cases an;cases aE;exact⟨_,ej,hw,(dW.ks bo st d2).trans fs,ar⟩
    ·cases an
   cases e with
   | normal=>
    obtain⟨d3,ag,aq⟩:=qA an;exact⟨(m,d3),⟨aq,rfl⟩,Nat.lt_succ_self _,hw.trans (dW.iA (jT.step bo st d2) fs ag).m⟩
   | exit i=>
    simp only at an
    split at an
    ·rename_i hi ak
     have:=Nat.eq_of_beq_eq_true hi
     subst this
     split at an
     ·rename_i d4 IJ
      cases an;exact⟨_,_,hw.trans (dW.iA (jT.out ak st d2) fs IJ).m,dW.ks gW st d4,aE⟩
     ·cases an
    ·exact key _ an
    ·cases an
   | _=>exact key _ an
 ·cases h
theorem gF.cP{i j:Nat} (aH:Nat.blt j mZ=true) {st:aO}:gF X true n st ⟨fC (jr i j) st.L,nM (jr i j) st.H⟩:=by
 rintro R W aJ a w ⟨ks,env,B,al,H,bL,aj⟩;obtain⟨H',J,U⟩:=bA.cQ (B5 (i:=i) (j:=j)) aj.heap;refine⟨ks,kr env j (env i),B,al,H',bL,aj.size,aj.defs,fun s sv an=>?_,U,aj.aM.e6 (J.append_right _),aj.sub,aj.new,tR aj.dL (fun q ao=>by have J:=bL.2 rfl _ _ ao; have U:=dY aH; omega),aj.base,aj.et⟩;obtain⟨u,ag,rfl⟩:=ud an;obtain⟨v,aq,aE⟩:=aj.has s u ag;exact⟨v,aq,eH.cQ B5 aE⟩
theorem IK:∀ {l:List (Nat×Nat)} {st:aO},Dh l=true->gF X true n st (eJ l st)
 | [],st,_=>gF.refl st
 | p :: l,st,h=>by
  unfold Dh at h
  split at h
  ·rename_i J
   exact(gF.cP J).trans (IK h)
  ·cases h
theorem IL:∀ {c:Code} {ms:List (Nat×Nat)},zT n c=some ms->lx n c ms
 | .region _ ⟨ops⟩ false,_,h=>lx.region h
 | .skip,_,h=>by cases h; exact lx.skip
 | .seq a b,ms,h=>by
  unfold zT at h
  split at h
  ·rename_i x y J U
   cases h;exact lx.seq (IL J) (IL U)
  ·cases h
theorem Dm:∀ {A:List fW} {T:List Type} (d:c8 (jc A T)),(hX A d).1.length=A.length
 | [],_,_=>rfl
 | x :: A,T,d=>by
  unfold hX;rw[List.length_cons,List.length_cons,Dm]
theorem PW{bN:hK}:∀ {cs:List e4},rk cs=true->qj bN cs=some cs
 | [],_=>rfl
 | .id _ :: _,h=>by cases h
 | .eT g x :: cs,h=>by
  unfold qj;rw[PW (cs:=cs) h]
theorem PX{bN:hK} {c:bm} (h:c.free=true):c.cQ bN=c:=by
 cases c with
 | fn f cs=>simp only[bm.cQ]; rw[PW h]
 | _=>first | rfl | cases h
theorem IM{bN:hK}:∀ {cs:List bm},rH cs=true->sD bN cs=cs
 | [],_=>rfl
 | c :: r,h=>by
  unfold rH at h
  split at h
  ·rename_i e
   show c.cQ bN :: sD bN r=_;rw[PX e,IM h]
  ·cases h
theorem IN{bN:hK} {x:bl} (h:x.free=true):x.cQ bN=x:=by
 cases x with
 | c x=>simp only[bl.cQ]; rw[PX h]
 | agg cs=>simp only[bl.cQ]; rw[IM h]
 | arr g l=>rfl
theorem PY{bN:hK}:∀ {xs:List bl},lB xs=true->ub bN xs=xs
 | [],_=>rfl
 | c :: r,h=>by
  unfold lB at h
  split at h
  ·rename_i e
   show c.cQ bN :: ub bN r=_;rw[IN e,PY h]
  ·cases h
theorem acS{bN:hK} {v:b3} (h:v.free=true):v.cQ bN=v:=by
 cases v with
 | a x=>simp only[b3.cQ]; rw[IN h]
 | may g x=>simp only[b3.cQ]; rw[IN h]
 | c3 xs=>simp only[b3.cQ]; rw[PY h]
theorem acT{bN:hK} {b:cv} (h:b.free=true):b.cQ bN=b:=by
 cases b with
 | cells t cs=>simp only[cv.cQ]; rw[IM h]
 | b2 T T' g l c q=>rcases q with _ | ⟨i,_ | d⟩<;>first | rfl | cases h
 | _=>first | rfl | cases h
theorem IP(bN:hK) (L:cX) {V:List Nat}:wU V L (fC bN L):=cp.map (f:=fun v=>v.cQ bN) (fun _ h=>acS h) fun _ _ h=>ud h
theorem PZ(i j:Nat):∀ H:bz,lC [j,i] H (nM (jr i j) H)
 | []=>cp.refl []
 | (k,b) :: r=>fun q v ar ah=>by
  obtain⟨J,U⟩:=fY ar;obtain⟨U,_⟩:=fY U;have br:=PZ i j r q v ar;unfold nM at ah;rw[cI];have zP:jr i j b.ou k=match Nat.beq k i with
   | true=>some j
   | false=>match Nat.beq k j with
    | true=>none
    | false=>some k:=rfl
  cases ay:Nat.beq k i with
  | true=>
   rw[zP,ay]at ah;dsimp only at ah;rw[cI,if_neg J]at ah
   have:=Nat.eq_of_beq_eq_true ay
   rw[if_neg (by omega)];exact br ah
  | false=>
   cases aS:Nat.beq k j with
   | true=>
    rw[zP,ay,aS]at ah;dsimp only at ah
    have:=Nat.eq_of_beq_eq_true aS
    rw[if_neg (by omega)];exact br ah
   | false=>
    rw[zP,ay,aS]at ah;dsimp only at ah;rw[cI]at ah
    split at ah
    ·rename_i e
     cases ah;rw[if_pos e];exact⟨b,rfl,fun az=>acT az⟩
    ·rename_i e
     rw[if_neg e];exact br ah
theorem IQ:∀ (l:List (Nat×Nat)) (st:aO),cZ (k2 l) st (eJ l st)
 | [],st=>cZ.refl st
 | p :: l,st=>by
  have J:cZ [p.2,p.1] st ⟨fC (jr p.1 p.2) st.L,nM (jr p.1 p.2) st.H⟩:=⟨IP _ _,PZ _ _ _⟩
  exact J.trans (IQ l _)
theorem dW.P0{X:bs} {n:Nat} {bo:dW} {st st':aO} {aN:bz} {V:List Nat} {d:bo.D} (hw:∀ p∈gh bo.j6 st.H,e2 p.1 (dX bo.H)=false->bd aN p.1=some p.2) (an:lC V aN st'.H) (h:bo.get st V st'=some d):fq X n st' ⟨st'.L,(bo.S st d).H⟩:=by
 unfold dW.get at h
 split at h
 ·rename_i j4 en l6
  split at h
  ·rename_i aN gA
   split at h
   ·rename_i u ay
    split at h
    ·rename_i nO aS
     cases h;obtain⟨J,U⟩:=uo ay;obtain⟨ag,aq⟩:=Ci aS;have uM:∀ p∈gh bo.j6 st.H,bd st'.H p.1=some p.2:=fun p ao=>by
      obtain⟨g1,g2,v,g3⟩:=zt en ao;obtain⟨u,g4,g5⟩:=an p.1 v g1 g3;rw[hw p ao g2]at g4;cases g4;rw[g3,g5 (oH ao).2]
     rintro R W aJ M a w ⟨ks,env,B,al,H,bL,aj⟩;have gL:lj st'.H (aN++gh bo.j6 st.H):=CP (yz gA) uM (by rw[zu gA]; exact l6);obtain⟨H',ck⟩:=aj.e6 (st':=⟨[],aN++gh bo.j6 st.H⟩) .nil gL;refine⟨ks,env,B,al,H',bL,ck.size,ck.defs,aj.has,?_,ck.aM,ck.sub,ck.new,ck.dL,ck.base,ck.et⟩;show bA env B al ((ju bo.H (nj bo.L (mB bo.T (px bo.T nO))).2).1++gh bo.j6 st.H) H';rw[uj,ag];obtain⟨H1,H2,e,h8,hF⟩:=dW.iA.bA.split (l:=aN) ck.heap;rw[e];exact(U _ _ _ _ h8).append hF
    ·cases h
   ·cases h
  ·cases h
 ·cases h
theorem P1{env:Nat->Loc} {B:Nat->Prop} {w:World}:∀ {is:List Nat} {H h H':bz} {C:List bf},s7 is H=some (h,H')->bA env B w H C->∃ cK,C.Perm cK/\bA env B w (h++H') cK
 | [],H,h,H',C,ao,dA=>by cases ao; exact⟨C,List.Perm.refl _,dA⟩
 | i :: is,H,h,H',C,ao,dA=>by
  unfold s7 at ao
  split at ao
  ·rename_i b ae
   split at ao
   ·rename_i J H1 e
    cases ao;obtain⟨c,H2,ay,aS,cz⟩:=dA.erase ae;obtain⟨cK,hh,hL⟩:=P1 e cz;exact⟨c :: cK,aS.trans (List.Perm.cons _ hh),⟨c,cK,rfl,ay,hL⟩⟩
   ·cases ao
  ·cases ao
theorem IS:∀ {is:List Nat} {H h H':bz},s7 is H=some (h,H')->lC is H H'
 | [],H,h,H',ao=>by cases ao; exact cp.refl _
 | i :: is,H,h,H',ao=>by
  unfold s7 at ao
  split at ao
  ·split at ao
   ·rename_i J H1 e
    cases ao;exact((Hy (id:=i) H).trans (IS e)).more fun q ar=>by
     obtain⟨J,U⟩:=fY ar;exact pE.2 ⟨U,qq.2 ⟨J,rfl⟩⟩
   ·cases ao
  ·cases ao
theorem P2{st:aO} {is:List Nat} {h H':bz} (he:s7 is st.H=some (h,H')):fq X n st ⟨st.L,h++H'⟩:=fun _ _ _ _ _ _ ⟨ks,env,B,al,H,bL,aj⟩=>by
 obtain⟨cK,ay,aS⟩:=P1 he aj.heap;exact⟨ks,env,B,al,cK,bL,aj.size,aj.defs,aj.has,aS,aj.aM.perm (ay.append_right _),aj.sub,aj.new,aj.dL,aj.base,aj.et⟩
theorem zX{aR:Type} {f:FuncId} {fP:List e4} {H:bz} {K:(E:List fW)->List Nat->bz->List (c8 (jc E []))->Option aR} {r:aR}:∀ {bD:List (lJ X)},u2 f fP H K bD=some r->∃ e:lJ X,e.f=f/\∃ h H' ao l,s7 (dX e.G) H=some (h,H')/\(∀ env B w C,bA env B w h C->bA env B w ao C)/\uX X f fP ao l (fun x=>(hX e.E x).1)/\K e.E (dX e.G) H' l=some r
 | [],h=>by cases h
 | e :: bD,h=>by
  unfold u2 at h
  split at h
  ·rename_i cg H' az aQ
   split at h
   ·rename_i t a8
    split at h
    ·rename_i d ax
     obtain⟨l,J,U⟩:=hl h;have gR:=Nat.eq_of_beq_eq_true az;have aa:=Ce ax
     have:=e.ok d l J
     rw[aa]at this;exact⟨e,gR,cg,H',_,l,aQ,(uo a8).2,gR ▸ this,U⟩
    ·exact zX h
   ·exact zX h
  ·exact zX h
theorem dW.P3{bo:dW} {L:cX} {aN:bz} {d:bo.D} (h:bo.get ⟨L,aN⟩ [] ⟨L,aN⟩=some d) {env:Nat->Loc} {B:Nat->Prop} {w:World} {H:List bf} (dt:bA env B w aN H):∃ H' Y,H.Perm (H'++Y)/\bA env B w (bo.S ⟨L,aN⟩ d).H H':=by
 have hw:∀ p∈gh bo.j6 aN,e2 p.1 (dX bo.H)=false->bd aN p.1=some p.2:=fun p ao _=>(oH ao).1
 have an:lC [] aN aN:=cp.refl _;unfold dW.get at h
 split at h
 ·rename_i j4 en l6
  split at h
  ·rename_i J gA
   split at h
   ·rename_i u ay
    split at h
    ·rename_i nO aS
     cases h;obtain⟨g1,g2⟩:=uo ay;obtain⟨g3,g4⟩:=Ci aS;have uM:∀ p∈gh bo.j6 aN,bd aN p.1=some p.2:=fun p ao=>(oH ao).1
     have gL:lj aN (J++gh bo.j6 aN):=CP (yz gA) uM (by rw[zu gA]; exact l6);obtain⟨H',Y,h8,hF⟩:=gL.F1 dt;refine⟨H',Y,h8,?_⟩;show bA env B w ((ju bo.H (nj bo.L (mB bo.T (px bo.T nO))).2).1++gh bo.j6 aN) H';rw[uj,g3];obtain⟨H1,H2,e,db,eB⟩:=bA.split (l:=J) hF;rw[e];exact(g2 _ _ _ _ db).append eB
    ·cases h
   ·cases h
  ·cases h
 ·cases h
theorem acU(bL:M=true) (zW:rr=none) {aR:Type} {Γ:gr X M n rr aR} {cf:kE aR} (aL:mK Γ cf) {g:Operand} {pl:List Nat} {oP body:Code} {m:Bool} {b a:rX} (kM:∀ id,xp X false n (some id) oP b) (aX:∀ id,xp X false n (some id) body a) {b4:fA} {st:aO} {k:ns aR} {r:aR} (h:zV X n bD m g pl oP cf b a b4 st k=some r):hY Γ (.rangeFunc g pl.toArray oP body) r st (mJ X M n st k):=by
 subst bL;subst zW;obtain⟨F,hy,acV⟩:=aL.2 rfl rfl;unfold zV at h
 split at h
 ·rename_i cP bo x
  split at h
  ·rename_i qB hnL aV
   split at h
   ·rename_i c f fP ms aQ oN
    obtain⟨aa,h⟩:=iq h;obtain⟨e,IT,cg,eR,ao,l,pI,IU,mD,h⟩:=zX h;dsimp only at h
    split at h
    ·rename_i gn gT mv
     obtain⟨hN,IV,q9⟩:=qA h;have IW:=Nat.eq_of_beq_eq_true gn;subst IT;have qC:∀ {V:List Nat} {aK:bz},lC V eR aK->cZ (V++(dX e.G++k2 cP)) st ⟨fC (gE n) (eJ cP st).L,aK⟩:=fun {V aK} ab=>(IQ cP st).trans (cZ.trans (b:=⟨(eJ cP st).L,eR⟩) ⟨cp.refl _,IS pI⟩ ⟨IP _ _,ab⟩) |>.more fun q ar=>by
      rw[<- List.append_assoc]at ar;exact ar
     have IX:fq X n (eJ cP st) ⟨(eJ cP st).L,ao++eR⟩:=fun R W aJ M a w aE=>by
      obtain⟨ks,env,B,al,H,bL,aj⟩:=P2 (n:=n) pI _ _ _ _ _ _ aE;obtain⟨H1,H2,hL,db,eB⟩:=bA.split (l:=cg) aj.heap;exact⟨ks,env,B,al,H,bL,aj.size,aj.defs,aj.has,by rw[hL]; exact(IU _ _ _ _ db).append eB,aj.aM,aj.sub,aj.new,aj.dL,aj.base,aj.et⟩
     refine xk ((IK qB).trans IX.m) (acV (st:=⟨(eJ cP st).L,ao++eR⟩) (Q:=fun e s cy=>mJ X true n st k e s cy) aQ aa e.az e.aV e.ae mD (fun x=>by rw[Dm]; exact IW) gT (IL oN) mv aV (fun y=>(bo.S ⟨(eJ cP st).L,eR⟩ y).H) (fun l y cy=>ji (zU n bo ms pl (dX e.G++k2 cP) e.E ⟨(eJ cP st).L,eR⟩ cf a x k) l y (fun y=>k .normal (bo.ids++(dX e.G++k2 cP)) ⟨fC (gE n) (eJ cP st).L,(bo.S ⟨(eJ cP st).L,eR⟩ y).H⟩)=some cy) (fun e aK cy=>∃ V,cZ V st ⟨fC (gE n) (eJ cP st).L,aK⟩/\k e V ⟨fC (gE n) (eJ cP st).L,aK⟩=some cy) hN q9 rfl (fun dt=>dW.P3 IV dt) ?_ ?_ ?_)
     ·intro id q rest y aF nX acW ar
      have jf:zU n bo ms pl (dX e.G++k2 cP) e.E ⟨(eJ cP st).L,eR⟩ cf a x k q y (fun c5=>ji (zU n bo ms pl (dX e.G++k2 cP) e.E ⟨(eJ cP st).L,eR⟩ cf a x k) rest c5 (fun y=>k .normal (bo.ids++(dX e.G++k2 cP)) ⟨fC (gE n) (eJ cP st).L,(bo.S ⟨(eJ cP st).L,eR⟩ y).H⟩))=some aF:=ar;unfold zU at jf;refine kG (aX id _ nX cf (hy id nX acW).inner _ _ _ _ jf) fun aS s a7 ⟨V,ej,hw,fs,an⟩=>?_
      cases aS with
      | normal=>
       obtain⟨d2,ag,aq⟩:=qA an;exact .inl ⟨rfl,d2,aq,_,hw.trans (dW.P0 (jT.step bo ⟨(eJ cP st).L,eR⟩ y).2 fs.2 ag).m⟩
      | ret=>exact .inr ⟨(fun h=>by cases h),rfl,ej.H,⟨_,qC ((dW.ks bo ⟨(eJ cP st).L,eR⟩ y).2.trans fs.2),an⟩,ej.L,hw⟩
      | exit i=>exact .inr ⟨(fun h=>by cases h),rfl,ej.H,⟨_,qC ((dW.ks bo ⟨(eJ cP st).L,eR⟩ y).2.trans fs.2),an⟩,ej.L,hw⟩
      | _=>cases an
     ·intro y aF aL
      exact⟨_,_,gF.refl _,qC (dW.ks bo ⟨(eJ cP st).L,eR⟩ y).2,aL⟩
     ·rintro aS aK aF ⟨V,ag,aq⟩
      exact⟨V,_,gF.refl _,ag,aq⟩
    ·cases h
   ·rename_i c f fP aQ oN
    split at h
    ·obtain⟨aa,h⟩:=iq h
     obtain⟨e,IT,cg,eR,ao,l,pI,IU,mD,h⟩:=zX h;dsimp only at h
     split at h
     ·rename_i gn gT
      obtain⟨hN,IV,q9⟩:=qA h;have IW:=Nat.eq_of_beq_eq_true gn;subst IT;have qC:∀ {V:List Nat} {aK:bz},lC V eR aK->cZ (V++(dX e.G++k2 cP)) st ⟨fC (gE n) (eJ cP st).L,aK⟩:=fun {V aK} ab=>(IQ cP st).trans (cZ.trans (b:=⟨(eJ cP st).L,eR⟩) ⟨cp.refl _,IS pI⟩ ⟨IP _ _,ab⟩) |>.more fun q ar=>by
       rw[<- List.append_assoc]at ar;exact ar
      have IX:fq X n (eJ cP st) ⟨(eJ cP st).L,ao++eR⟩:=fun R W aJ M a w aE=>by
       obtain⟨ks,env,B,al,H,bL,aj⟩:=P2 (n:=n) pI _ _ _ _ _ _ aE;obtain⟨H1,H2,hL,db,eB⟩:=bA.split (l:=cg) aj.heap;exact⟨ks,env,B,al,H,bL,aj.size,aj.defs,aj.has,by rw[hL]; exact(IU _ _ _ _ db).append eB,aj.aM,aj.sub,aj.new,aj.dL,aj.base,aj.et⟩
      refine xk ((IK qB).trans IX.m) (kG (u0 (PF (st:=⟨(eJ cP st).L,ao++eR⟩) (Q:=fun e s=>mJ X true n st k e s r) aQ aa e.az e.aV e.ae mD (fun x=>by rw[Dm]; exact IW) gT aV (fun y=>(bo.S ⟨(eJ cP st).L,eR⟩ y).H) (fun l y=>ji (stepG n bo pl (dX e.G++k2 cP) e.E ⟨(eJ cP st).L,eR⟩ b a x k) l y (fun y=>k .normal (bo.ids++(dX e.G++k2 cP)) ⟨fC (gE n) (eJ cP st).L,(bo.S ⟨(eJ cP st).L,eR⟩ y).H⟩)=some r) (fun e aK=>∃ V,cZ V st ⟨fC (gE n) (eJ cP st).L,aK⟩/\k e V ⟨fC (gE n) (eJ cP st).L,aK⟩=some r) hN q9 rfl (fun dt=>dW.P3 IV dt) ?_ ?_ ?_)) fun e s cy ⟨J,U⟩=>by rw[U]; exact J)
      ·intro id q rest y ar
       have jf:stepG n bo pl (dX e.G++k2 cP) e.E ⟨(eJ cP st).L,eR⟩ b a x k q y (fun c5=>ji (stepG n bo pl (dX e.G++k2 cP) e.E ⟨(eJ cP st).L,eR⟩ b a x k) rest c5 (fun y=>k .normal (bo.ids++(dX e.G++k2 cP)) ⟨fC (gE n) (eJ cP st).L,(bo.S ⟨(eJ cP st).L,eR⟩ y).H⟩))=some r:=ar;unfold stepG at jf;refine F3 (Db (r:=r) fun R W aJ=>kM id _ (gr.C9 R W aJ r) none mK.none _ _ _ _ jf) fun ay s1 J=>?_
       obtain⟨Di,akk,oI,acX,fb⟩:=J;cases ay with
       | normal=>
        refine⟨rfl,fun R W aJ a2 hI U=>?_⟩;refine F3 (Db (r:=r) fun R W aJ=>aX id _ (gr.C9 R W aJ r) none mK.none _ _ _ _ fb) (fun aS s U=>?_) R W aJ a2 hI (oI _ _ _ _ _ U);obtain⟨V,ej,hw,fs,an⟩:=U;have IY:=acX.trans fs;cases aS with
        | normal=>
         obtain⟨d2,ag,aq⟩:=qA an;exact .inl ⟨rfl,d2,aq,_,hw.trans (dW.P0 (jT.step bo ⟨(eJ cP st).L,eR⟩ y).2 IY.2 ag).m⟩
        | ret=>exact .inr ⟨(fun h=>by cases h),rfl,ej.H,⟨_,qC ((dW.ks bo ⟨(eJ cP st).L,eR⟩ y).2.trans IY.2),an⟩,ej.L,hw⟩
        | exit i=>exact .inr ⟨(fun h=>by cases h),rfl,ej.H,⟨_,qC ((dW.ks bo ⟨(eJ cP st).L,eR⟩ y).2.trans IY.2),an⟩,ej.L,hw⟩
        | _=>cases an
       | _=>cases fb
      ·intro y aL
       exact⟨_,_,gF.refl _,qC (dW.ks bo ⟨(eJ cP st).L,eR⟩ y).2,aL⟩
      ·rintro aS aK ⟨V,ag,aq⟩
       exact⟨V,_,gF.refl _,ag,aq⟩
     ·cases h
    ·cases h
   ·cases h
  ·cases h
 ·cases h
theorem pJ(av:X.tt.ok X.P) (hm:X.P.follows .mixedOrders=true):∀ (c:Code) (m M:Bool) (rr:Option Nat),(m=true->M=true/\rr=none)->xp X M n rr c (fun cf b4 st k=>jj X N n T bD m c cf b4 st k)
 | .skip,m,M,rr,_=>fun aR Γ cf aL b4 st k r h=>by
  obtain⟨V,ej,hw,fs,an⟩:=xm (X:=X) (cZ.refl (V:=[]) st) (show nr n b4.xl [] st (fun V st'=>k .normal V st')=some r by cases m<;>exact h);exact kG (u0 (Vy (Q:=fun e s=>mJ X M n st k e s r) ⟨V,ej,hw.m,fs,an⟩)) fun e s cy ⟨J,U⟩=>U ▸ J
 | .exit id,m,M,rr,_=>fun aR Γ cf aL b4 st k r h=>by
  obtain⟨V,ej,hw,fs,an⟩:=xm (X:=X) (cZ.refl (V:=[]) st) (show nr n b4.xl [] st (fun V st'=>k (.exit id) V st')=some r by cases m<;>exact h);exact kG (u0 (Vz (Q:=fun e s=>mJ X M n st k e s r) ⟨V,ej,hw.m,fs,an⟩)) fun e s cy ⟨J,U⟩=>U ▸ J
 | .ret,m,M,rr,_=>fun aR Γ cf aL b4 st k r h=>by
  obtain⟨V,ej,hw,fs,an⟩:=xm (X:=X) (cZ.refl (V:=[]) st) (show nr n b4.xl [] st (fun V st'=>k .ret V st')=some r by cases m<;>exact h);exact kG (u0 (VA (Q:=fun e s=>mJ X M n st k e s r) ⟨V,ej,hw.m,fs,an⟩)) fun e s cy ⟨J,U⟩=>U ▸ J
 | .label l,m,M,rr,_=>fun aR Γ cf aL b4 st k r h=>by
  exact kG (u0 (Zs (Q:=fun e s=>mJ X M n st k e s r) ⟨[],st,gF.refl _,cZ.refl st,by cases m<;>exact h⟩)) fun e s cy ⟨J,U⟩=>U ▸ J
 | .region id ops false,m,M,rr,_=>fun aR Γ cf aL b4 st k r h=>by
  have aK:j9 X n T cf (e1 ops.toList) b4.ins ops.toList [] [] [] st (fun V st'=>k .normal V st')=some r:=by cases m<;>exact(zQ st _).symm.trans h
  intro a w hi;have iB:CL X n ops.toList (fun l r fz=>∀ a w,Γ.In r fz a w->se rr X.P ops.toList.toArray (fun e a w=>∃ s cy,mJ X M n st k e s cy/\Γ.In cy s a w) l a w):=⟨fun an aw a w hi=>LV (Γ.step an hi fun a w h=>aw a w h),fun hw aw a w hi=>aw a w (Γ.e6 hw.m hi)⟩
  have:=L6 (id:=id) (sX (st0:=st) (T:=T) (is:=b4.ins) (V:=[]) (A:=[]) av iB (aL.1 _ _) ez.nil (cZ.refl (V:=[]) st) aK (fun V ej cy fs an a w hi=>LW ⟨ej,cy,⟨V,ej,gF.refl _,fs,an⟩,hi⟩) a w hi)
  exact this
 | .region id ops true,m,M,rr,_=>fun aR Γ cf aL b4 st k r h=>by
  have aK:nr n b4.pre [] st (fun Dj st=>u1 st fun st=>match Nat.beq ops.toList.length (lI b4.nW.2.1)with
   | true=>qw X n T ops.toList b4.nW.1 b4.nW.2.1 ⟨Array.replicate (lI b4.nW.2.1) false,true,true,true,b4.PL⟩ [] Dj [] st fun V st'=>nr n b4.nW.2.2 V st' fun V st'=>k .normal V st'
   | false=>none)=some r:=by cases m<;>exact(zQ st _).symm.trans h
  obtain⟨Dj,CN,acY,aN,aK⟩:=xm (X:=X) (cZ.refl (V:=[]) st) aK;rw[zQ]at aK
  split at aK
  ·rename_i e
   have ah:=Nat.eq_of_beq_eq_true e
   have:=VT (X:=X) (M:=M) (n:=n) (st:=CN) (Q:=fun e s=>mJ X M n st k e s r) (ops:=ops.toList) (id:=id) (r:=rr) b4.nW.1 hm ah (uR (t:=b4.nW.2.1) av (k:=fun V st'=>nr n b4.nW.2.2 V st' fun V st'=>k .normal V st') (fun V st' fs an=>by
    obtain⟨V2,s2,hw,u3,ih⟩:=xm (X:=X) fs an;exact⟨V2,s2,hw.m,u3,ih⟩) ez.nil aN aK)
   exact xk acY.m (kG (u0 this) fun e s cy ⟨J,U⟩=>U ▸ J)
  ·cases aK
 | .seq a b,m,M,rr,lK=>fun aR Γ cf aL b4 st k r h=>acQ aL (pJ av hm a m M rr lK) (pJ av hm b m M rr lK) (show Df cf b4 (fun cf b4 st k=>jj X N n T bD m a cf b4 st k) (fun cf b4 st k=>jj X N n T bD m b cf b4 st k) st k=some r by cases m<;>exact h)
 | .cond x a b,m,M,rr,lK=>fun aR Γ cf aL b4 st k r h=>by
  have aK:(match bp X st.L x with
   | some (g,.c (.val (.bool q)))=>au g (cond q (jj X N n T bD m a cf b4.fst st k) (jj X N n T bD m b cf b4.snd st k))
   | _=>none)=some r:=by cases m<;>exact h
  split at aK
  ·rename_i g q ak
   obtain⟨aQ,aK⟩:=iq aK;exact acF ak aQ (fun ar=>pJ av hm a m M rr lK _ Γ cf aL _ _ _ _ (Y9 ar aK)) (fun ar=>pJ av hm b m M rr lK _ Γ cf aL _ _ _ _ (Za ar aK))
  ·cases aK
 | .block id a,m,M,rr,lK=>fun aR Γ cf aL b4 st k r h=>by
  have aK:(jj X N n T bD m a cf b4.fst st fun e V st'=>match e with
   | .exit i=>match Nat.beq i id with
    | true=>k .normal V st'
    | false=>k (.exit i) V st'
   | e=>k e V st')=some r:=by cases m<;>exact h
  refine acG (kG (pJ av hm a m M rr lK _ Γ cf aL _ _ _ _ aK) fun e s cy ⟨V,ej,hw,fs,an⟩=>?_);cases e with
  | exit i=>
   show match Nat.beq i id with | true=>mJ X M n st k .normal s cy | false=>mJ X M n st k (.exit i) s cy
   simp only at an
   split at an
   ·exact⟨V,ej,hw,fs,an⟩
   ·exact⟨V,ej,hw,fs,an⟩
  | _=>exact⟨V,ej,hw,fs,an⟩
 | .scope a,m,M,rr,lK=>fun aR Γ cf aL b4 st k r h=>by
  have aK:(jj X N n T bD m a cf b4.fst st fun e V st'=>match e with
   | .goto _=>none
   | e=>k e V st')=some r:=by cases m<;>exact h
  refine acI (kG (pJ av hm a m M rr lK _ Γ cf aL _ _ _ _ aK) fun e s cy ⟨V,ej,hw,fs,an⟩=>?_);cases e with
  | goto l=>cases an
  | _=>exact⟨V,ej,hw,fs,an⟩
 | .loop a,m,M,rr,lK=>fun aR Γ cf aL b4 st k r h=>acR aL (pJ av hm a m M rr lK) (show Dg N cf b4 (fun cf b4 st k=>jj X N n T bD m a cf b4 st k) st k=some r by cases m<;>exact(zQ st _).symm.trans h)
 | .rangeFunc g ps oP body,m,M,rr,lK=>fun aR Γ cf aL b4 st k r h=>by
  have aK:zV X n bD m g ps.toList oP cf (fun cf b4 st k=>jj X N n T bD false oP cf b4 st k) (fun cf b4 st k=>jj X N n T bD false body cf b4 st k) b4 st k=some r:=by cases m<;>exact(zQ st _).symm.trans h
  cases m with
  | false=>
   unfold zV at aK
   split at aK
   ·cases aK
   ·cases aK
  | true=>
   obtain⟨J,U⟩:=lK rfl;exact acU J U aL (fun id=>pJ av hm oP false false (some id) (fun h=>by cases h)) (fun id=>pJ av hm body false false (some id) (fun h=>by cases h)) aK
 | .goto _,m,_,_,_=>fun _ _ _ _ _ _ _ _ h=>by cases m<;>cases h
 | .refuse _,m,_,_,_=>fun _ _ _ _ _ _ _ _ h=>by cases m<;>cases h
structure lL where
 R:kV
 H:List (Nat×ia):=[]
 k:List Nat:=[]
abbrev lL.ty (R:lL):Type:=yY (R.R.LT (mC R.H []))
def lL.out(R:lL) (qx:bz) (r:R.ty):b3×bz:=((R.R.S (mB _ r)).1,(ju R.H (R.R.S (mB _ r)).2).1++gh R.k qx)
def lL.get(R:lL) (qx:bz) (V:List Nat) (H:bz) (sv:b3):Option R.ty:=
 match w8 V (dX R.H) H (gh R.k qx),ph (dX R.H++dX (gh R.k qx))with
 | true,true=>match tU H (dX R.H)with
  | some h=>match um (T:=[]) R.H h ()with
   | some u=>match R.R.get sv u with
    | some u=>some (px _ u)
    | none=>none
   | none=>none
  | none=>none
 | _,_=>none
theorem lL.iA{R:lL} {st0 st:aO} {V:List Nat} {sv:b3} {r:R.ty} (an:cZ V st0 st) (h:R.get st0.H V st.H sv=some r):∃ cg,uk sv (R.out st0.H r).1/\lj st.H cg/\∀ env B w H,bA env B w cg H->bA env B w (R.out st0.H r).2 H:=by
 unfold lL.get at h
 split at h
 ·rename_i en l6
  split at h
  ·rename_i aN gA
   split at h
   ·rename_i u ay
    split at h
    ·rename_i nO aS
     cases h;obtain⟨J,U⟩:=uo ay;obtain⟨ag,aq⟩:=kV.iA aS;have uM:∀ p∈gh R.k st0.H,bd st.H p.1=some p.2:=fun p ao=>by
      obtain⟨g1,g2,v,g3⟩:=zt en ao;obtain⟨u,g4,g5⟩:=an.2 p.1 v g1 g3;rw[(oH ao).1]at g4;cases g4;rw[g3,g5 (oH ao).2]
     refine⟨aN++gh R.k st0.H,?_,CP (yz gA) uM (by rw[zu gA]; exact l6),fun env B w H cg=>?_⟩
     ·show uk sv (R.R.S (mB _ (px _ nO))).1
      rw[uj];exact aq
     ·show bA env B w ((ju R.H (R.R.S (mB _ (px _ nO))).2).1++gh R.k st0.H) H
      rw[uj,ag];obtain⟨H1,H2,e,h8,hF⟩:=dW.iA.bA.split (l:=aN) cg;rw[e];exact(U _ _ _ _ h8).append hF
    ·cases h
   ·cases h
  ·cases h
 ·cases h
noncomputable def acZ (X:bs) (res:List ResultVar) (R:lL) (qx:bz):ns R.ty
 | .goto _,_,_=>none
 | .exit _,_,_=>none
 | .panic _,_,_=>none
 | .outgrown,_,_=>none
 | _,V,st=>match wu X st res with
  | some (c,sv)=>au c (R.get qx V st.H sv)
  | none=>none
abbrev zY (A:List fW) (eN:List (Nat×ia)):Type:=c8 (jc A (mC eN []))
def mL(A:List fW) (eN:List (Nat×ia)) (d:zY A eN):List bl×bz:=((hX A d).1,(ju eN (hX A d).2).1)
noncomputable def IZ (X:bs) (N n:Nat) (T:List (bC X)) (bD:List (lJ X)) (c:Code) (b4:fA) (res:List ResultVar) (A:List fW) (eN:List (Nat×ia)) (R:lL) (d:zY A eN):Option R.ty:=
 jj X N n T bD true c none b4 ⟨re 0 (mL A eN d).1,(mL A eN d).2⟩ (acZ X res R (mL A eN d).2)
theorem AC.ac0{f:FuncId} {args:List bl} {h:bz} {Q P4:b3->bz->Prop} (dA:AC X f args h Q) (ar:∀ sv aK,Q sv aK->∃ Dn U an,uk sv Dn/\lj aK an/\(∀ env B w H,bA env B w an H->bA env B w U H)/\P4 Dn U):AC X f args h P4:=fun B al env vs H W aQ aX cg an=>by
 refine o4.mono (dA B al env vs H W aQ aX cg an) fun v w' ⟨env',B',cC,H',sv,aK,J,U,ag,aq,aE,bb,bX,dj⟩=>?_
 obtain⟨Dn,Ga,akl,db,eB,hM,iJ⟩:=ar sv aK J;obtain⟨H2,Y,h8,hF⟩:=eB.F1 bb;exact⟨env',B',cC,H2,Dn,Ga,iJ,U,ag,aq,db _ _ _ _ aE,hM _ _ _ _ hF,(bX.perm h8).e6 (List.sublist_append_left _ _),dj⟩
theorem P5(N:Nat) (av:X.tt.ok X.P) (hm:X.P.follows .mixedOrders=true) {f:FuncId} {fn:Func} {c:Code} {A:List fW} {eN:List (Nat×ia)} {R:lL} (T:List (bC X)) (bD:List (lJ X)) (b4:fA) {res:List ResultVar} (az:X.P.funcs[f]?=some fn) (ae:fn.body=some c) (a6:fn.ntmps=n) (ah:Nat.ble A.length n=true) (aV:Nat.ble n mZ=true) (aw:fn.results=res.toArray)
  {d:zY A eN} {r:R.ty} (h:IZ X N n T bD c b4 res A eN R d=some r):AC X f (mL A eN d).1 (mL A eN d).2 (fun sv h=>sv=(R.out (mL A eN d).2 r).1/\h=(R.out (mL A eN d).2 r).2):=by
 refine AC.ac0 (acK (Q:=fun sv aK=>∃ an,uk sv (R.out (mL A eN d).2 r).1/\lj aK an/\∀ env B w H,bA env B w an H->bA env B w (R.out (mL A eN d).2 r).2 H) av az ae a6 (by show Nat.ble (hX A d).1.length n=true; rw[Dm]; exact ah) aV aw (F3 (Db (r:=r) fun fE P6 akm=>pJ av hm c true true none (fun _=>⟨rfl,rfl⟩) _ _ none mK.none _ _ _ _ (show jj X N n T bD true c none b4 _ _=some r from h)) fun e s ⟨V,ej,hw,fs,an⟩=>?_)) fun sv aK ⟨an,db,eB,hM⟩=>⟨_,_,an,db,eB,hM,rfl,rfl⟩
 have key:(match wu X ej res with
  | some (c,sv)=>au c (R.get (mL A eN d).2 V ej.H sv)
  | none=>none)=some r->∃ st',gF X true n s st'/\∃ c sv,wu X st' res=some (c,sv)/\c=true/\∃ an,uk sv (R.out (mL A eN d).2 r).1/\lj st'.H an/\∀ env B w H,bA env B w an H->bA env B w (R.out (mL A eN d).2 r).2 H:=fun ab=>by
  split at ab
  ·rename_i c sv ay
   obtain⟨aa,ab⟩:=iq ab;exact⟨ej,hw,c,sv,ay,aa,lL.iA fs ab⟩
  ·cases ab
 cases e with
 | ret=>exact⟨.inl rfl,key an⟩
 | normal=>exact⟨.inr rfl,key an⟩
 | _=>cases an
def ch (N : Nat) (av : X.tt.ok X.P) (hm : X.P.follows .mixedOrders = true) {fn : Func} {c : Code} (A : List fW) (eN : List (Nat × ia)) (R : lL) (T : List (bC X)) (bD : List (lJ X)) (b4 : fA) (res : List ResultVar) (f : FuncId) (oz : R.ty) (m : zY A eN → Option R.ty) (az : X.P.funcs[f]? = some fn) (aQ : (fn.name == "runtime.NumGoroutine") = false) (ae : fn.body = some c) (a6 : fn.ntmps = n) (ah : Nat.ble A.length n = true) (aV : Nat.ble n mZ = true) (aw : fn.results = res.toArray)
  (h:∀ d,IZ X N n T bD c b4 res A eN R d=m d):bC X:=
 { f:=f,fn:=fn,A:=A,eN:=eN,aR:=R.ty,oz:=oz,m:=m,out:=fun d r=>R.out (mL A eN d).2 r,az:=az,aV:=aQ,ae:=by rw[ae]; rfl,ok:=fun d r he=>P5 N av hm T bD b4 az ae a6 ah aV aw ((h d).trans he) }
def I0 {fn : Func} {c : Code} (A : List fW) (eN : List (Nat × ia)) (R : lL) (f : FuncId) (oz : R.ty) (az : X.P.funcs[f]? = some fn) (aQ : (fn.name == "runtime.NumGoroutine") = false) (ae : fn.body = some c) : bC X :=
 { f:=f,fn:=fn,A:=A,eN:=eN,aR:=R.ty,oz:=oz,m:=fun _=>none,out:=fun d r=>R.out (mL A eN d).2 r,az:=az,aV:=aQ,ae:=by rw[ae]; rfl,ok:=fun d r he=>by cases he }
def nY (N : Nat) (av : X.tt.ok X.P) (hm : X.P.follows .mixedOrders = true) {fn : Func} {c : Code} (A : List fW) (eN : List (Nat × ia)) (R : lL) (T : List (bC X)) (bD : List (lJ X)) (b4 : fA) (res : List ResultVar) (f : FuncId) (oz : R.ty) (m ca : zY A eN → Option R.ty) (heq : ∀ d, m d = ca d) (az : X.P.funcs[f]? = some fn) (aQ : (fn.name == "runtime.NumGoroutine") = false) (ae : fn.body = some c) (a6 : fn.ntmps = n) (ah : Nat.ble A.length n = true) (aV : Nat.ble n mZ = true) (aw : fn.results = res.toArray)
  (h:∀ d,IZ X N n T bD c b4 res A eN R d=m d):bC X:=
 { f:=f,fn:=fn,A:=A,eN:=eN,aR:=R.ty,oz:=oz,m:=ca,out:=fun d r=>R.out (mL A eN d).2 r,az:=az,aV:=aQ,ae:=by rw[ae]; rfl,ok:=fun d r he=>P5 N av hm T bD b4 az ae a6 ah aV aw ((h d).trans ((heq d).trans he)) }
end
end
theorem I1{hd aR:Type} {step:hd->(hd->Option aR)->Option aR} (I:Nat->hd->Prop) (post:aR->Prop)
  (h:∀ k d rec,I k d->(∀ k' c5,k' < k->I k' c5->∃ r,rec c5=some r/\post r)->∃ r,step d rec=some r/\post r):∀ n k d,k < n->I k d->∃ r,cn step n d=some r/\post r
 | 0,_,_,ab,_=>by omega
 | n+1,k,d,ab,gV=>h k d _ gV fun k' c5 hS zZ=>I1 I post h n k' c5 (by omega) zZ
theorem e3{hd aR:Type} {step:hd->(hd->Option aR)->Option aR} (I:Nat->hd->Prop) (r:aR)
  (h:∀ k d rec,I k d->(∀ k' c5,k' < k->I k' c5->rec c5=some r)->step d rec=some r) (n k:Nat) (d:hd) (ab:k < n) (gV:I k d):cn step n d=some r:=by
 obtain⟨cy,J,rfl⟩:=I1 I (fun x=>x=r) (fun k d rec gV aw=>⟨r,h k d rec gV (fun k' c5 hS zZ=>by obtain⟨_,J,rfl⟩:=aw k' c5 hS zZ; exact J),rfl⟩) n k d ab gV;exact J
theorem pK{α:Type} {c:Bool} {x:Option α} (h:c=true):au c x=x:=by rw[h]; rfl
def nZ{α β:Type} (f:α->β) (z:β) (l:List α) (m:Nat):List β:=(l.take m).map f++List.replicate (l.length - m) z
theorem ac1{α β:Type} (f:α->β) (z:β) (l:List α):nZ f z l 0=List.replicate l.length z:=by simp[nZ]
theorem ac2{α β:Type} (f:α->β) (z:β) (l:List α):nZ f z l l.length=l.map f:=by simp[nZ]
theorem ac3{α β:Type} (f:α->β) (z:β) (l:List α) (m:Nat) (h:m<=l.length):(nZ f z l m).length=l.length:=by simp[nZ]; omega
theorem P7{α β:Type} (f:α->β) (z:β) (l:List α) (m:Nat) (h:m < l.length) (x:α) (ak:l[m]?=some x):(nZ f z l m).set m (f x)=nZ f z l (m+1):=by
 obtain⟨aW,rfl⟩:=List.getElem?_eq_some_iff.1 ak
 apply List.ext_getElem?
 intro i;simp only[nZ,List.getElem?_set,List.getElem?_append,List.length_map,List.length_take,List.getElem?_map,List.getElem?_take,List.getElem?_replicate,List.length_append,List.length_replicate]
 by_cases J:m=i
 ·subst J
  have ay:min m l.length+(l.length - m)=l.length:=by omega
  have aS:m < min (m+1) l.length:=by omega
  simp[ay,h,aS]
 ·by_cases U:i < m
  ·simp[J,show i < min m l.length by omega,show i < min (m+1) l.length by omega,U,show i < m+1 by omega]
  ·simp only[if_neg J,if_neg (show ¬ i < min m l.length by omega),if_neg (show ¬ i < min (m+1) l.length by omega)]
   rw[show min m l.length=m by omega,show min (m+1) l.length=m+1 by omega]
   by_cases ag:i < l.length
   ·rw[if_pos (by omega),if_pos (by omega)]
   ·rw[if_neg (by omega),if_neg (by omega)]
theorem z1{x:Int} (J:-9223372036854775808<=x) (U:x<=9223372036854775807):bj x=true:=by
 exact Bw.2 ⟨J,U⟩
theorem cb{α:Type} {l:List α} {m:Nat} {x z:α} (h:l[m]?=some x):l.getD m z=x:=by
 rw[List.getD_eq_getElem?_getD,h]; rfl
theorem I2{x:Int} (J:0<=x) (U:x<=255):IntKind.wrap .u8 x=x:=by
 simp[IntKind.wrap,IntKind.bits,IntKind.signed]
 omega
theorem z6{α:Type} {l:List α} {j:Nat} {x:α} (h:l[j]?=some x):l.set j x=l:=by
 obtain⟨J,U⟩:=List.getElem?_eq_some_iff.1 h;rw[<- U];exact List.set_getElem_self J
def T{α:Type} (x:Option α) (P:α->Prop):Prop:=∃ r,x=some r/\P r
theorem s8{α:Type} {r:α} {P:α->Prop}:T (some r) P ↔ P r:=
 ⟨fun⟨_,h,ao⟩=>by cases h; exact ao,fun h=>⟨r,rfl,h⟩⟩
theorem ac4{α:Type} {c:Bool} {k:Option α} {P:α->Prop}:T (au c k) P ↔ c=true/\T k P:=by
 cases c
 ·exact⟨fun⟨_,h,_⟩=>(by cases h),fun h=>by cases h.1⟩
 ·exact⟨fun h=>⟨rfl,h⟩,fun h=>h.2⟩
theorem s9{α β:Type} {x:Option α} {f:α->Option β} {P:β->Prop}:T (Option.bind x f) P ↔ T x fun r=>T (f r) P:=by
 cases x with
 | none=>exact⟨fun⟨_,h,_⟩=>(by cases h),fun⟨_,h,_⟩=>by cases h⟩
 | some a=>exact⟨fun h=>⟨a,rfl,h⟩,fun⟨_,h,ao⟩=>by cases h; exact ao⟩
theorem ta{α:Type} {b:Bool} {x y:Option α} {P:α->Prop}:T (cond b x y) P ↔ (b=true->T x P)/\(b=false->T y P):=by
 cases b
 ·exact⟨fun h=>⟨fun e=>(by cases e),fun _=>h⟩,fun h=>h.2 rfl⟩
 ·exact⟨fun h=>⟨fun _=>h,fun e=>by cases e⟩,fun h=>h.1 rfl⟩
theorem ac5{α β kB:Type} {a:α} {f:α->Option kB} {g:β->Option kB} {P:kB->Prop}:T (sm (.inl a) f g) P ↔ T (f a) P:=Iff.intro id id
theorem ac6{α β kB:Type} {b:β} {f:α->Option kB} {g:β->Option kB} {P:kB->Prop}:T (sm (.inr b) f g) P ↔ T (g b) P:=Iff.intro id id
theorem T.mono{α:Type} {x:Option α} {P Q:α->Prop} (h:T x P) (ar:∀ r,P r->Q r):T x Q:=by
 obtain⟨r,J,U⟩:=h;exact⟨r,J,ar r U⟩
theorem T.of{α:Type} {x:Option α} {r:α} (h:x=some r) {P:α->Prop} (ao:P r):T x P:=⟨r,h,ao⟩
theorem T.eq{α:Type} {x:Option α} {r:α} (h:T x (·=r)):x=some r:=by
 obtain⟨_,J,U⟩:=h;rw[J,U]
theorem bn{α:Type} {x:Option α} {r:α} (h:x=some r) {P:α->Prop}:T x P ↔ P r:=by rw[h]; exact s8
theorem kH{hd aR:Type} {step:hd->(hd->Option aR)->Option aR} (I:Nat->hd->Prop) (post:aR->Prop)
  (h:∀ k d rec,I k d->(∀ k' c5,k' < k->I k' c5->T (rec c5) post)->T (step d rec) post) (n k:Nat) (d:hd) (ab:k < n) (gV:I k d):T (cn step n d) post:=I1 I post h n k d ab gV
theorem P8{z:Int} {n:Nat}:bc z n=true ↔ 0<=z/\z < (n:Int):=by unfold bc; rw[Bool.and_eq_true,decide_eq_true_eq,decide_eq_true_eq]
theorem ac7{b k:Nat}:eg b k=true ↔ k * b<=140737488355328/\k<=140737488355328:=by unfold eg; rw[Bool.and_eq_true,decide_eq_true_eq,decide_eq_true_eq]
theorem ac8{b:Nat} {z:Int}:gd b z=true ↔ b * z.toNat<=140737488355328/\z.toNat<=140737488355328:=by unfold gd; rw[Bool.and_eq_true,Nat.ble_eq,Nat.ble_eq]
theorem ac9{a b:Bool}:eo a b=true ↔ (a=true->b=true):=by cases a<;>cases b<;>decide
theorem ada{a b:Bool}:cond a true b=true ↔ a=true\/b=true:=by cases a<;>cases b<;>decide
theorem adb{a b:Bool}:cond a true b=false ↔ a=false/\b=false:=by cases a<;>cases b<;>decide
theorem ade{a b:Bool}:cond a b false=true ↔ a=true/\b=true:=by cases a<;>cases b<;>decide
theorem I3{a b:Bool}:cond a b false=false ↔ a=false\/b=false:=by cases a<;>cases b<;>decide
theorem I4{a:Bool}:(!a)=true ↔ a=false:=by cases a<;>decide
theorem I5{a:Bool}:(!a)=false ↔ a=true:=by cases a<;>decide
theorem adf{a b:Nat}:Nat.beq a b=true ↔ a=b:=by rw[Nat.beq_eq]
theorem aZ:(∀ {α:Type} {r:α} {P:α->Prop},T (some r) P ↔ P r)/\(∀ {α:Type} {c:Bool} {k:Option α} {P:α->Prop},T (au c k) P ↔ c=true/\T k P) /\
  (∀ {α β:Type} {x:Option α} {f:α->Option β} {P:β->Prop},T (Option.bind x f) P ↔ T x fun r=>T (f r) P) /\
  (∀ {α:Type} {b:Bool} {x y:Option α} {P:α->Prop},T (cond b x y) P ↔ (b=true->T x P)/\(b=false->T y P)) /\
  (∀ {α β kB:Type} {a:α} {f:α->Option kB} {g:β->Option kB} {P:kB->Prop},T (sm (.inl a) f g) P ↔ T (f a) P) /\
  (∀ {α β kB:Type} {b:β} {f:α->Option kB} {g:β->Option kB} {P:kB->Prop},T (sm (.inr b) f g) P ↔ T (g b) P) /\
  (∀ {z:Int} {n:Nat},bc z n=true ↔ 0<=z/\z < (n:Int))/\(∀ {x:Int},bj x=true ↔ -9223372036854775808<=x/\x<=9223372036854775807) /\
  (∀ {b k:Nat},eg b k=true ↔ k * b<=140737488355328/\k<=140737488355328)/\(∀ {b:Nat} {z:Int},gd b z=true ↔ b * z.toNat<=140737488355328/\z.toNat<=140737488355328) /\
  (∀ {a b:Bool},eo a b=true ↔ (a=true->b=true))/\(∀ {a b:Bool},cond a true b=true ↔ a=true\/b=true)/\(∀ {a b:Bool},cond a true b=false ↔ a=false/\b=false) /\
  (∀ {a b:Bool},cond a b false=true ↔ a=true/\b=true)/\(∀ {a b:Bool},cond a b false=false ↔ a=false\/b=false) /\
  (∀ {a:Bool},(!a)=true ↔ a=false)/\(∀ {a:Bool},(!a)=false ↔ a=true)/\(∀ {a b:Nat},Nat.beq a b=true ↔ a=b) /\
  (∀ {p:Prop} [Decidable p],decide p=true ↔ p)/\(∀ {p:Prop} [Decidable p],decide p=false ↔ ¬ p)/\(∀ {a b:Bool},(a&&b)=true ↔ a=true/\b=true)/\(∀ {a b:Bool},(a || b)=true ↔ a=true\/b=true)/\(∀ {a b:Bool},(a&&b)=false ↔ a=false\/b=false) /\
  (∀ {n:Nat},(n:Int).toNat=n)/\(∀ {p:Prop},(True/\p) ↔ p)/\(∀ {p:Prop},(p/\True) ↔ p)/\(∀ {p:Prop},(True->p) ↔ p)/\(∀ {p:Prop},(False->p) ↔ True)/\(∀ {p:Prop},(p->True) ↔ True) /\
  ((¬ True) ↔ False)/\((¬ False) ↔ True)/\(∀ {p:Prop},(True\/p) ↔ True)/\(∀ {p:Prop},(p\/True) ↔ True)/\(∀ {p:Prop},(False\/p) ↔ p)/\(∀ {p:Prop},(p\/False) ↔ p)/\(∀ {p:Prop},(False/\p) ↔ False)/\(∀ {p:Prop},(p/\False) ↔ False) /\
  (∀ {b:Bool},(true&&b)=b)/\(∀ {b:Bool},(false&&b)=false)/\(∀ {b:Bool},(b&&true)=b)/\(∀ {b:Bool},(b&&false)=false)/\((!true)=false)/\((!false)=true)/\(decide True=true)/\(decide False=false):=
 ⟨s8,ac4,s9,ta,ac5,ac6,P8,Bw,ac7,ac8,ac9,ada,adb,ade,I3,I4,I5,adf,decide_eq_true_iff,decide_eq_false_iff_not,Bool.and_eq_true_iff,Bool.or_eq_true_iff,Bool.and_eq_false_iff,
  Int.toNat_natCast _,by simp,by simp,by simp,by simp,by simp,by simp,by simp,by simp,by simp,by simp,by simp,by simp,by simp,by simp,by simp,by simp,by simp,rfl,rfl,by simp,by simp⟩
theorem bB:(∀ {α:Type} {a b:List α},(a++b).length=a.length+b.length)/\(∀ {α:Type} {a:α} {b:List α},(a :: b).length=b.length+1)/\(∀ {α:Type},([]:List α).length=0):=
 ⟨List.length_append,List.length_cons,List.length_nil⟩
section
open Go.RowKit
abbrev adg:aU:=.pair (.int .u8) (.int .u8)
abbrev adh:Type:=Int×Int
abbrev aB:aU:=.pair (.int .u8) (.int .i64)
abbrev ad:Type:=Int×Int
abbrev jy:aU:=.pair (.int .u8) adg
abbrev I6:Type:=Int×adh
abbrev cS:aU:=.pair .bool (.pair .bool (.pair .bool .bool))
abbrev P9:Type:=Bool×(Bool×(Bool×Bool))
abbrev ep:aU:=.pair aB (.pair .bool (.int .u8))
abbrev c9:Type:=ad×(Bool×Int)
abbrev gG:aU:=.pair aB aB
abbrev ev:Type:=ad×ad
abbrev adi:aU:=.pair (.ai aB) (.ai aB)
abbrev adj:Type:=(List ad)×(List ad)
abbrev cx:aU:=.pair aB (.pair aB (.int .i64))
abbrev cB:Type:=ad×(ad×Int)
abbrev fm:aU:=.pair (.ai (.ai aB)) (.ai (.ai aB))
abbrev ho:Type:=(List (List ad))×(List (List ad))
abbrev xq:aU:=.pair (.int .i64) (.pair .bool (.ai ep))
abbrev I7:Type:=Int×(Bool×(List c9))
abbrev ed:aU:=.pair (.int .u8) (.pair (.int .u8) gG)
abbrev cl:Type:=Int×(Int×ev)
abbrev bT:aU:=.pair .bool (.pair (.int .i64) xq)
abbrev bJ:Type:=Bool×(Int×I7)
abbrev ct:aU:=.pair (.int .u8) (.pair .bool (.pair (.ai aB) (.ai ep)))
abbrev bu:Type:=Int×(Bool×((List ad)×(List c9)))
abbrev u4:aU:=.pair (.ai (.ai ct)) (.pair (.ai cx) adi)
abbrev nt:Type:=(List (List bu))×((List cB)×adj)
abbrev lM:aU:=.pair (.int .i64) (.pair fm (.pair (.ai bT) u4))
abbrev jk:Type:=Int×(ho×((List bJ)×nt))
end
section
open Go.RowKit
end
section
theorem bH.Qa{X:bs} {fE C cK bV B':Nat->Prop} {bK al w da:World} {n:Nat} {ks:List Nat} {env:Nat->Loc} {H:List bf} {st:aO} {a:Act} (h:bH X (fun k=>fE k\/C k) bK ⟨bV,fun _ _=>False,[]⟩ n ks env B' al H st a w) (aQ:Grow B' C cK w da) (dA:∀ k,cK k->k < da.heap.size) {d:Nat} (ax:Nat.blt d n=true) (v:Value) :
  bH X (fun k=>fE k\/cK k) da ⟨B',fun _ _=>False,[]⟩ n ks env B' da H ⟨(d,.c (.val v)) :: st.L,st.H⟩ (a.put (some d) v) da:=by
 have aI:=h.bZ.put d v (dY ax);have aW:∀ k,(fE k\/C k)\/B' k->k < w.heap.size:=fun k ab=>h.aM.base k ab
 have jM:∀ k,B' k->da.heap[k]?=w.heap[k]?:=fun k ab=>aQ.dQ.block k (.inl ab)
 have dp:fJ B' al B' da:=⟨fun _ h=>h,fun k ab=>(jM k ab).trans (h.aM.below.block k (.inr ab))⟩
 have ff:∀ b,b < w.heap.size->¬ ((fE b\/C b)\/B' b)->¬ (fE b\/cK b):=fun b ae aV aw=>by
  rcases aw with aw | aw
  ·exact aV (.inl (.inl aw))
  ·rcases aQ.new b aw with J | J | J
   ·exact aV (.inl (.inr J))
   ·omega
   ·exact aV (.inr J)
 refine⟨aI.size,aI.defs,fun s sv an=>?_,h.heap.up dp,⟨c6.refl _ _,fun k ab=>?_,fun c aa=>?_,h.aM.apart⟩,fun _ h=>h,fun _ h=>.inl h,fun _ _ h=>h.elim,c6.refl _ _,fun i x ak=>(h.et i x ak).up dp⟩
 ·rw[cI]at an
  split at an
  ·rename_i e; subst e; cases an; exact⟨v,aI.this,rfl⟩
  ·rename_i e
   obtain⟨u,J,U⟩:=h.has s sv an;exact⟨u,aI.other e J,U.up dp⟩
 ·rcases ab with(ab | ab) | ab
  ·exact Nat.lt_of_lt_of_le (aW k (.inl (.inl ab))) aQ.dQ.size
  ·exact dA k ab
  ·exact Nat.lt_of_lt_of_le (aW k (.inr ab)) aQ.dQ.size
 ·have fU:=h.aM.ok c aa
  have hz:=fU.dQ (w':=da) fun b ae=>aQ.dQ.block b (.inr ⟨(fU.lt ae).2,fun I8=>(fU.lt ae).1 (.inl (.inr I8))⟩)
  exact hz.base fun b ae aw=>by
   rcases aw with aw | aw
   ·exact ff b (fU.lt ae).2 (fU.lt ae).1 aw
   ·exact(fU.lt ae).1 (.inr aw)
section
variable {X:bs} {n:Nat} {α:Type}
def gr.it(fE:Nat->Prop) (eA:List α->(Nat->Prop)->(Nat->Prop)->World->Prop) (gq:Unit->(Nat->Prop)->World->Prop):gr X true n none (List α) where
 In r st a w:=∃ C bK bV,(eA r C bV bK\/(r=[]/\gq () C bK))/\lV X (fun k=>fE k\/C k) bK ⟨bV,fun _ _=>False,[]⟩ true n st a w
 frame h hi:=by
  obtain⟨C,bK,bV,J,ag⟩:=hi;exact wpIn_mono (h _ _ _ _ _ ag) fun _ _ _ ⟨s,aq,aE⟩=>⟨s,aq,C,bK,bV,J,aE⟩
 step h hi KK bQ:=by
  obtain⟨C,bK,bV,J,ks,env,B',al,H,bL,aj⟩:=hi;exact h _ _ _ _ _ _ _ _ _ _ aj _ fun aP w' env' B' cC H' ck=>bQ _ _ ⟨C,bK,bV,J,ks,env',B',cC,H',bL,ck⟩
 e6 h hi:=by
  obtain⟨C,bK,bV,J,ag⟩:=hi;exact⟨C,bK,bV,J,h _ _ _ _ _ ag⟩
 xj hi:=by
  obtain⟨C,bK,bV,J,ks,env,B',al,H,bL,aj⟩:=hi;exact⟨_,_,_,_,_,_,_,_,aj⟩
def tb{α:Type} (b:Bool) (x:α) (f t:Option (List α)):Option (List α):=match b,f,t with
 | true,some [],some l=>some (x :: l)
 | _,_,_=>none
def u5(E:List fW) (id l:Nat) (args:List bl) (f t:Option (List (c8 (jc E [])))):Option (List (c8 (jc E []))):=match lB args,wP (T:=[]) E args ()with
 | true,some x=>tb (Nat.beq l id) x f t
 | _,_=>none
theorem YieldAt.zero{P:Program} {l:Nat} {args:Array Value} {W:World} {R:Ending->World->Prop} (h:YieldAt Fence.wide 1 P l args W R):YieldAt Fence.wide 0 P l args W R:=by
 obtain⟨fn,tmps,assign,body,J,U,ag⟩:=h;exact⟨fn,tmps,assign,body,J,U,fun c cs _=>ag c cs (room_wide _)⟩
theorem Qb{sv:Option b3} {l:Nat} (h:zm sv=some l):sv=some (.a (.c (.val (.func (.yield l) #[] #[])))):=by
 unfold zm at h
 split at h
 ·cases h; rfl
 ·cases h
theorem dn.no{env:Nat->Loc} {B:Nat->Prop} {w:World}:∀ {xs:List bl} {vs:List Value},lB xs=true->dn env B w xs vs->dn (fun _=>.no) B w xs vs
 | [],_,_,h=>h
 | .c x :: xs,_,az,⟨v,r,e,J,U⟩=>by
  unfold lB at az
  split at az
  ·rename_i ak
   refine⟨v,r,e,?_,dn.no az U⟩;have ni:x.free=true:=ak;cases x with
   | fn f cs=>
    obtain⟨vs,e,ao⟩:=J;exact⟨vs,e,ao.Gr ni⟩
   | _=>first | exact J | cases ni
  ·cases az
 | .agg cs :: xs,_,az,⟨v,r,e,⟨vs,aS,J⟩,U⟩=>by
  unfold lB at az
  split at az
  ·rename_i ak
   refine⟨v,r,e,⟨vs,aS,?_⟩,dn.no az U⟩;have ni:rH cs=true:=ak
   clear ak e aS U
   induction cs generalizing vs with
   | nil=>exact J
   | cons x cs br=>
    obtain⟨v,r,e,ag,aq⟩:=J;unfold rH at ni
    split at ni
    ·rename_i nq
     refine⟨v,r,e,?_,br _ aq ni⟩;cases x with
     | fn f cs=>
      obtain⟨vs,e,ao⟩:=ag;exact⟨vs,e,ao.Gr nq⟩
     | _=>first | exact ag | cases nq
    ·cases ni
  ·cases az
 | .arr g l :: xs,_,az,⟨v,r,e,J,U⟩=>by
  unfold lB at az
  split at az
  ·exact⟨v,r,e,J,dn.no az U⟩
  ·cases az
structure Cons(X:bs) (E:List fW) (id:Nat) (eA:List (c8 (jc E []))->(Nat->Prop)->(Nat->Prop)->World->Prop) (gq:Unit->(Nat->Prop)->World->Prop):Prop where
 xr:zD eA
 e7:zC gq
 lt:∀ r C bV W,eA r C bV W->∀ k,C k->k < W.heap.size
 Qc:∀ r C W,gq r C W->∀ k,C k->k < W.heap.size
 take:∀ x rest C bV dK bK vs,eA (x :: rest) C bV bK->uS C bV dK bK->dn (fun _=>.no) dK bK (hX E x).1 vs->YieldAt Fence.wide 1 X.P id vs.toArray bK fun e da=>
   (e=.returned (.bool true)/\∃ cK,eA rest cK dK da/\Grow dK C cK bK da)\/(e=.returned (.bool false)/\∃ cK,gq () cK da/\Grow dK C cK bK da)
end
end
section
theorem bH.Qd{X:bs} {fE C cK adk Qe B':Nat->Prop} {p:Nat->Loc->Prop} {bK al w da:World} {n:Nat} {ks:List Nat} {env:Nat->Loc} {H:List bf} {st:aO} {a:Act} (h:bH X (fun k=>fE k\/C k) bK ⟨adk,p,[]⟩ n ks env B' al H st a w) (aQ:Grow B' C cK w da) (dA:∀ k,cK k->k < da.heap.size) (ae:∀ k,Qe k ↔ B' k) {d:Nat} (ax:Nat.blt d n=true) (v:Value) :
  bH X (fun k=>fE k\/cK k) da ⟨Qe,p,[]⟩ n ks env B' da H ⟨(d,.c (.val v)) :: st.L,st.H⟩ (a.put (some d) v) da:=by
 have aI:=h.bZ.put d v (dY ax);have aW:∀ k,(fE k\/C k)\/B' k->k < w.heap.size:=fun k ab=>h.aM.base k ab
 have jM:∀ k,B' k->da.heap[k]?=w.heap[k]?:=fun k ab=>aQ.dQ.block k (.inl ab)
 have dp:fJ B' al B' da:=⟨fun _ h=>h,fun k ab=>(jM k ab).trans (h.aM.below.block k (.inr ab))⟩
 have ff:∀ b,b < w.heap.size->¬ ((fE b\/C b)\/B' b)->¬ (fE b\/cK b):=fun b ae aV aw=>by
  rcases aw with aw | aw
  ·exact aV (.inl (.inl aw))
  ·rcases aQ.new b aw with J | J | J
   ·exact aV (.inl (.inr J))
   ·omega
   ·exact aV (.inr J)
 refine⟨aI.size,aI.defs,fun s sv an=>?_,h.heap.up dp,⟨c6.refl _ _,fun k ab=>?_,fun c aa=>?_,h.aM.apart⟩,fun k ab=>(ae k).1 ab,fun k ab=>.inl ((ae k).2 ab),h.dL,c6.refl _ _,fun i x ak=>(h.et i x ak).up dp⟩
 ·rw[cI]at an
  split at an
  ·rename_i e; subst e; cases an; exact⟨v,aI.this,rfl⟩
  ·rename_i e
   obtain⟨u,J,U⟩:=h.has s sv an;exact⟨u,aI.other e J,U.up dp⟩
 ·rcases ab with(ab | ab) | ab
  ·exact Nat.lt_of_lt_of_le (aW k (.inl (.inl ab))) aQ.dQ.size
  ·exact dA k ab
  ·exact Nat.lt_of_lt_of_le (aW k (.inr ab)) aQ.dQ.size
 ·have fU:=h.aM.ok c aa
  have hz:=fU.dQ (w':=da) fun b ae=>aQ.dQ.block b (.inr ⟨(fU.lt ae).2,fun I8=>(fU.lt ae).1 (.inl (.inr I8))⟩)
  exact hz.base fun b ae aw=>by
   rcases aw with aw | aw
   ·exact ff b (fU.lt ae).2 (fU.lt ae).1 aw
   ·exact(fU.lt ae).1 (.inr aw)
section
variable {X:bs} {M:Bool} {n:Nat} {rr:Option Nat} {α:Type}
structure I9 where
 fE:Nat->Prop
 fk:Nat->Prop
 pa:Nat->Prop
 ir:Nat->Prop
 P6:World
 p:Nat->Loc->Prop
structure Ja(D:I9) (C bV:Nat->Prop) (bK:World):Prop where
 wi:∀ k,D.fk k->bV k\/(¬ C k/\q2 bK k)
 u6:c6 (fun k=>(D.fE k/\¬ D.ir k)\/D.fk k) D.P6 bK
 Dp:∀ k,D.fE k->¬ D.ir k->C k->D.fk k
 Jb:∀ k,D.fE k->bV k->D.fk k
 Jc:∀ k,D.pa k->bV k
 Jd:∀ k,D.fk k->D.fE k
def gr.Je(D:I9) (eA:List α->(Nat->Prop)->(Nat->Prop)->World->Prop) (gq:Unit->(Nat->Prop)->World->Prop):gr X M n rr (List α) where
 In r st a w:=∃ C bK bV,(eA r C bV bK\/(r=[]/\gq () C bK))/\Ja D C bV bK/\lV X (fun k=>D.fE k\/C k) bK ⟨fun k=>bV k\/D.fk k,D.p,[]⟩ M n st a w
 frame h hi:=by
  obtain⟨C,bK,bV,J,U,ag⟩:=hi;exact wpIn_mono (h _ _ _ _ _ ag) fun _ _ _ ⟨s,aq,aE⟩=>⟨s,aq,C,bK,bV,J,U,aE⟩
 step h hi KK bQ:=by
  obtain⟨C,bK,bV,J,U,ks,env,B',al,H,bL,aj⟩:=hi;exact h _ _ _ _ _ _ _ _ _ _ aj _ fun aP w' env' B' cC H' ck=>bQ _ _ ⟨C,bK,bV,J,U,ks,env',B',cC,H',bL,ck⟩
 e6 h hi:=by
  obtain⟨C,bK,bV,J,U,ag⟩:=hi;exact⟨C,bK,bV,J,U,h _ _ _ _ _ ag⟩
 xj hi:=by
  obtain⟨C,bK,bV,J,U,ks,env,B',al,H,bL,aj⟩:=hi;exact⟨_,_,_,_,_,_,_,_,aj⟩
theorem adl(av:X.tt.ok X.P) {E:List fW} {id:Nat} {D:I9} {eA:List (c8 (jc E []))->(Nat->Prop)->(Nat->Prop)->World->Prop} {gq:Unit->(Nat->Prop)->World->Prop} (aa:Cons X E id eA gq):xo (Γ:=gr.Je (X:=X) (M:=M) (n:=n) (rr:=rr) D eA gq) (some (u5 E id)):=by
 rintro ops Q em rY l args f t r aw;cases rY;unfold u5 at aw
 split at aw
 ·rename_i x lq q7
  unfold tb at aw
  split at aw
  ·rename_i rt ah
   cases aw;have hU:=Nat.eq_of_beq_eq_true ah;subst hU;refine⟨_,_,rfl,rfl,?_⟩;intro o rest st d s us fN c aA bg ax aL yR h4 Jf Jg a w hi;obtain⟨C,bK,bV,aH,dD,ks,env,B',al,H,bL,aj⟩:=hi
   rcases aH with aH | ⟨aH,_⟩
   ·obtain⟨vs,J,U⟩:=yE aj yR h4
    obtain⟨fX,ag,aq⟩:=aj.has _ _ (Qb aL);rw[show fX=_ from aq]at ag;have dp:fJ B' al B' w:=⟨fun _ h=>h,fun k ab=>aj.aM.below.block k (.inr ab)⟩
    have aQ:=(y0 q7).2;have nV:dn (fun _=>.no) B' w (hX E x).1 vs:=aQ _ _ _ _ (dn.no lq (U.up dp));have pL:c6 (fun k=>D.fE k\/C k) bK w:=⟨(aj.aM.below.os).trans aj.base.os,(aj.aM.below.tape).trans aj.base.tape,(aj.aM.below.output).trans aj.base.output,Nat.le_trans aj.base.size aj.aM.below.size,fun k ab=>(aj.aM.below.block k (.inl ab)).trans (aj.base.block k ab)⟩
    have du:=aa.xr _ _ _ _ _ aH ⟨pL.os,pL.tape,pL.output,pL.size,fun k ab=>pL.block k (.inr ab)⟩;have ma:uS C bV B' w:=⟨fun k ab=>aj.sub k (.inl ab),fun k ab=>by
     rcases aj.new k ab with(aE | aE) | ⟨aE,bb⟩
     ·exact .inl aE
     ·exact(dD.wi k aE).imp_right fun bb=>⟨bb.1,bb.2.dQ (pL.block k (.inl (dD.Jd k aE)))⟩
     ·exact .inr ⟨fun h=>aE (.inr h),bb.dQ (aj.aM.below.block k (.inr ab))⟩⟩
    obtain⟨fn,tmps,assign,body,Jh,Ji⟩:=YieldAt.zero (aa.take _ _ _ _ _ _ _ du ma nV);have hw:Region.wanted o (yielded ops.toArray a.tmps)=true:=bg.1 aj;show(if Region.wanted o (yielded ops.toArray a.tmps)then _ else _);rw[if_pos hw];refine⟨fun _ _=>trivial,?_⟩;have dy:(execOp a.eval o).run X.P w=.ok (.round l fn tmps assign body) w:=by
     have ay:=aj.bZ.aD (x:=.tmp s) (h6 ag);have aS:(us.toArray.map a.eval)=vs.toArray:=Nq aj.bZ J;simp only[execOp,aA,resolve,ay]
     simp[Deferred.ofValue,invoke,aS,Jh,go_sem]
    have Qf:∀ k,D.fE k->B' k->D.fk k:=fun k aE bb=>by
     rcases aj.new k bb with(bX | bX) | ⟨bX,_⟩
     ·exact dD.Jb k aE bX
     ·exact bX
     ·exact absurd (.inl aE) bX
    have gD:∀ {cK:Nat->Prop} {hI:World},Grow B' C cK w hI->Ja D cK B' hI:=fun {cK hI} bR=>by
     refine⟨fun k ab=>.inl (aj.sub k (.inr ab)),?_,fun k aE bb bX=>?_,Qf,fun k ab=>aj.sub k (.inl (dD.Jc k ab)),dD.Jd⟩
     ·refine dD.u6.trans ⟨bR.dQ.os.trans pL.os,bR.dQ.tape.trans pL.tape,bR.dQ.output.trans pL.output,Nat.le_trans pL.size bR.dQ.size,fun k ab=>?_⟩
      have dT:D.fE k:=ab.elim (fun h=>h.1) (dD.Jd k);refine(bR.dQ.block k ?_).trans (pL.block k (.inl dT))
      rcases ab with ab | ab
      ·by_cases ik:C k
       ·exact .inl (aj.sub k (.inr (dD.Dp k ab.1 ab.2 ik)))
       ·exact .inr ⟨aj.aM.base k (.inl (.inl dT)),ik⟩
      ·exact .inl (aj.sub k (.inr ab))
     ·rcases bR.new k bX with dj | dj | dj
      ·exact dD.Dp k aE bb dj
      ·have:=aj.aM.base k (.inl (.inl aE))
       omega
      ·exact Qf k aE dj
    have z7:∀ k,(B' k\/D.fk k) ↔ B' k:=fun k=>⟨fun h=>h.elim id fun h=>aj.sub k (.inr h),.inl⟩
    show Oper.uponIn _ _ _ _ _ _ _ ((o.semAt _ a.eval).run X.P w);rw[Oper.semAt_eq _ _ _ (fun c h=>by rw[aA]at h; cases h),dy];have fS:∀ {R:Ending->World->Prop},RoundIn Fence.wide 0 X.P l fn tmps assign body w R->RoundIn (WF rr) 0 X.P l fn tmps assign body w R:=fun h=>by cases rr<;>exact h
    refine⟨(fun h=>by cases rr<;>cases h),RoundIn.mono (fS Ji) ?_⟩;intro e hI ar;rw[bg.2]
    rcases ar with⟨rfl,cK,jV,bR⟩ | ⟨rfl,cK,jV,bR⟩
    ·exact Jg _ _ ⟨cK,hI,B',.inl jV,gD bR,ks,env,B',hI,H,⟨bL.1,bL.2⟩,bH.Qd aj bR (aa.lt _ _ _ _ jV) z7 ax _⟩
    ·exact Jf _ _ ⟨cK,hI,B',.inr ⟨rfl,jV⟩,gD bR,ks,env,B',hI,H,⟨bL.1,bL.2⟩,bH.Qd aj bR (aa.Qc _ _ _ jV) z7 ax _⟩
   ·cases aH
  ·cases aw
 ·cases aw
end
end
theorem bH.Qg{X:bs} {R qX b b':Nat->Prop} {p:Nat->Loc->Prop} {d:List Deferred} {W:World} {n:Nat} {ks:List Nat} {env:Nat->Loc} {B:Nat->Prop} {al:World} {H:List bf} {st:aO} {a:Act} {w:World} (h:bH X R W ⟨b,p,d⟩ n ks env B al H st a w) (dT:∀ k,R k ↔ qX k) (ae:∀ k,b k ↔ b' k):bH X qX W ⟨b',p,d⟩ n ks env B al H st a w:=by
 have ay:R=qX:=funext fun k=>propext (dT k)
 have aS:b=b':=funext fun k=>propext (ae k)
 subst ay aS;exact h
theorem adm{α β gW:Type} {X:bs} {n:Nat} {st:aO} {Q:Exit->aO->List gW->Prop} {g:Operand} {pl:List Nat} {assign body:Code} {gf:FuncId} {fn:Func} {fP:List e4} {kZ:α->List bl} {l:List α} {b:Bool} {ms:List (Nat×Nat)} {ao eR:bz}
  {fE:Nat->Prop} {eA:List gW->(Nat->Prop)->(Nat->Prop)->World->Prop} {gq:Unit->(Nat->Prop)->World->Prop} (xr:zD eA) (e7:zC gq) {eI:List gW}
  (aQ : bp X st.L g = some (b, .c (.fn gf fP))) (ae : b = true) (gX : X.P.funcs[gf]? = some fn) (rV : (fn.name == "runtime.NumGoroutine") = false) (jU : fn.body.isNone = false) (mD : uX X gf fP ao l kZ) (hlen : ∀ x, (kZ x).length = pl.length) (gT : l0 n pl = true) (oN : lx n assign ms) (mv : l0 n (ms.map (·.1)) = true) (aV : Nat.ble n h5 = true)
  (hc:β->bz) (bN:List α->β->List gW->Prop) (k1:Exit->bz->List gW->Prop) (hN:β) (aN:bN l hN eI) (cU:st.H=ao++eR) (dt:∀ {env:Nat->Loc} {B:Nat->Prop} {w:World} {H:List bf},bA env B w eR H->∃ H' Y,H.Perm (H'++Y)/\bA env B w (hc hN) H')
  (pH:∀ id x rest y r D,bN (x :: rest) y r->hY (gr.Je (X:=X) (M:=false) (n:=n) (rr:=some id) D eA gq) body r ⟨rl ms (sE pl (kZ x) (fC (gE n) st.L)),hc y⟩ (fun e s cy=>(e=.normal/\∃ mc,bN rest mc cy/\∃ L',gF X false n s ⟨L',hc mc⟩)\/(e≠.normal/\B6 e=true/\∃ aK,k1 e aK cy/\∃ L',gF X false n s ⟨L',aK⟩)))
  (nU:∀ y r,bN [] y r->Q .normal ⟨fC (gE n) st.L,hc y⟩ r)
  (kY:∀ e aK r,k1 e aK r->Q e ⟨fC (gE n) st.L,aK⟩ r):hY (gr.it (X:=X) (n:=n) fE eA gq) (.rangeFunc g pl.toArray assign body) eI st Q:=by
 intro a w hi;obtain⟨xt,Qh,Dq,adn,ks,env,B,al,qx,bL,fe⟩:=hi;have zJ:=fe.heap;rw[cU]at zJ;obtain⟨O,H2,Io,h8,hF⟩:=bA.split (l:=ao) zJ;obtain⟨H,Y,qp,qi⟩:=dt hF;subst Io;have aj:bH X (fun k=>fE k\/xt k) Qh ⟨Dq,fun _ _=>False,[]⟩ n ks env B al (O++H) ⟨st.L,ao++hc hN⟩ a w:=by
  refine⟨fe.size,fe.defs,fe.has,h8.append qi,?_,fe.sub,fe.new,fe.dL,fe.base,fe.et⟩;have ar:((O++H2)++ks.map dk).Perm (((O++H)++ks.map dk)++Y):=by
   refine((qp.append_left O).append_right _).trans ?_;simp only[List.append_assoc];exact((List.perm_append_comm).append_left H).append_left O
  exact(fe.aM.perm ar).e6 (List.sublist_append_left _ _)
 obtain⟨aY,dN,lb,rfl,dm⟩:=fe.aD aQ ae;obtain⟨k3,fS⟩:∃ k3:Nat->Prop,k3=fun k=>fE k\/B k:=⟨_,rfl⟩
 have z8:∀ k,k3 k ↔ fE k\/B k:=fun k=>by rw[fS]
 have hA:bH X (fun k=>k3 k\/xt k) w ⟨fun k=>Dq k\/B k,mA n env,[]⟩ n ks env B w (O++H) ⟨st.L,ao++hc hN⟩ a w:=aj.No.Qg (fun k=>by rw[z8]; constructor<;>(intro h; rcases h with(h | h) | h)<;>simp[h]) fun k=>⟨.inr,fun h=>h.elim (aj.sub k) id⟩
 have rW:fJ B al B w:=⟨fun _ h=>h,fun k ab=>aj.aM.below.block k (.inr ab)⟩
 have uW:∀ k,B k->k < w.heap.size:=fun k ab=>aj.aM.base k (.inr ab)
 have uU:=mD B w lb env O uW (fun i x ak=>(aj.et i x ak).up rW) (dm.up rW) (h8.up rW);have hr:=Nat.le_of_ble_eq_true aV;have ri:(H++ks.map dk).Sublist ((O++H)++ks.map dk):=by
  rw[List.append_assoc];exact List.sublist_append_right _ _
 have Ip:bE (k0 (fun k=>k3 k\/xt k) B H ks) w O w:=by
  have kl:=aj.aM.apart;rw[List.append_assoc,List.pairwise_append]at kl;refine⟨c6.refl _ _,fun k ab=>?_,fun c aa=>?_,kl.1⟩
  ·rcases ab with ab | ab | ⟨c,aa,e⟩
   ·exact hA.aM.base k (.inl ab)
   ·exact aj.aM.base k (.inr ab)
   ·exact((aj.aM.ok c (ri.subset aa)).lt e).2
  ·have fU:=hA.aM.ok c (List.mem_append_left _ (List.mem_append_left _ aa))
   refine fU.base fun b ae ab=>?_
   rcases ab with ab | ab | ⟨c',dE,e⟩
   ·exact(fU.lt ae).1 (.inl ab)
   ·exact(fU.lt ae).1 (.inr ab)
   ·exact kl.2.2 c aa c' dE b ae e
 let la:=fC (gE n) st.L
 let In:bz->List gW->(Nat->Prop)->(Nat->Prop)->World->Prop:=fun h r ado adp da=>∃ C n0 bV,(eA r C bV n0\/(r=[]/\gq () C n0))/\∃ env' B' cC H',bH X (fun k=>k3 k\/C k) n0 ⟨fun k=>bV k\/B k,mA n env,[]⟩ n ks env' B' cC H' ⟨la,h⟩ a da/\(∀ k,B' k->bV k\/(¬ C k/\q2 da k))/\(∀ k,B k->da.heap[k]?=w.heap[k]?)/\(∀ k,Dq k->bV k)/\ado=k0 (fun k=>k3 k\/C k) B' H' ks/\∀ k,adp k->B' k
 let I:List α->(Nat->Prop)->(Nat->Prop)->World->Prop:=fun r C bV da=>∃ y ro,bN r y ro/\In (hc y) ro C bV da
 let kX:Code->(Nat->Prop)->World->Prop:=fun c C da=>∃ e aK ro bV,Nn e=some c/\k1 e aK ro/\In aK ro C bV da
 have adq:∀ k,B k->k3 k:=fun k ab=>(z8 k).2 (.inr ab)
 have s3:∀ h r C bV bK mb,In h r C bV bK->c6 C bK mb->In h r C bV mb:=by
  rintro h r C bV bK mb ⟨ib,n0,nu,aH,env',B',cC,H',J,U,ag,aq,rfl,aE⟩ ab;exact⟨ib,n0,nu,aH,env',B',cC,H',J.Il ab,fun k cm=>(U k cm).imp_right fun h=>⟨h.1,h.2.dQ (ab.block k (.inr (.inl cm)))⟩,fun k cm=>(ab.block k (.inl (.inl (adq k cm)))).trans (ag k cm),aq,rfl,aE⟩
 have zK:∀ {B':Nat->Prop} {cC:World} {env':Nat->Loc},(∀ k,B k->B' k)->(∀ k,B k->cC.heap[k]?=w.heap[k]?)->(∀ id l,mA n env id l->env' id=l)->∀ s sv,bd la s=some sv->∃ v,a.tmps[s]?=some v/\eH env' B' cC sv v:=by
  intro B' cC env' cm hw he s sv an;obtain⟨u,J,rfl⟩:=ud an;obtain⟨v,U,ag⟩:=hA.has s u J;exact⟨v,U,eH.cQ (Nj (fun id l aq aE bb=>he id l ⟨aq,aE,bb⟩) hr) (ag.up ⟨cm,hw⟩)⟩
 have zL:∀ {h:bz} {r:List gW} {C bV:Nat->Prop} {bK:World} (k:Nat),w.heap.size<=k->¬ C k->bK.heap[k]?=some (.deferred (some []))->In h r C bV bK->(gr.it (X:=X) (n:=n) fE eA gq).In r ⟨la,h⟩ { a with defers:={ target:=.collected k,args:=#[] } :: a.defers } bK:=by
  rintro h r C bV bK k ab s5 ax ⟨ib,n0,nu,aH,env',B',cC,H',J,U,ag,aq,rfl,aE⟩;have akn:∀ q,B q->B' q:=fun q ar=>J.sub q (.inr ar)
  have pj:(dk k :: (H'++ks.map dk)).Perm (H'++(k :: ks).map dk):=by
   rw[List.map_cons];exact List.perm_middle.symm
  have dP:bE (fun q=>(fE q\/ib q)\/B' q) cC (dk k :: (H'++ks.map dk)) bK:=by
   have oQ:∀ q,((fE q\/ib q)\/B' q)->((k3 q\/ib q)\/B' q):=fun q ar=>ar.imp_left fun h=>h.imp_left fun h=>(z8 q).2 (.inl h)
   refine⟨⟨J.aM.below.os,J.aM.below.tape,J.aM.below.output,J.aM.below.size,fun q ar=>J.aM.below.block q (oQ q ar)⟩,fun q ar=>J.aM.base q (oQ q ar),fun c aa=>?_,List.Pairwise.cons (fun c aa q ay aS=>?_) J.aM.apart⟩
   ·rcases List.mem_cons.1 aa with rfl | aa
    ·exact⟨fun ar=>s5 ((oQ k ar).elim .inl fun h=>.inr (.inl h)),ax⟩
    ·exact(J.aM.ok c aa).base fun q adr ads=>((J.aM.ok c aa).lt adr).1 (oQ q ads)
   ·have:k=q:=Option.some.inj ay
    subst this;exact s5 (.inr (.inr ⟨c,aa,aS⟩))
  refine⟨ib,n0,nu,aH,k :: ks,env',B',cC,H',⟨(fun h=>by cases h),fun _ _ _ h=>h.elim⟩,J.size,congrArg (List.cons (tI k)) J.defs,J.has,J.heap,dP.perm pj,fun q ar=>J.sub q (.inl ar),fun q ar=>?_,fun _ _ h=>h.elim,⟨J.base.os,J.base.tape,J.base.output,J.base.size,fun q ar=>J.base.block q (ar.imp_left fun h=>(z8 q).2 (.inl h))⟩,J.et⟩
  rcases J.new q ar with(bb | bb) | ⟨bb,bX⟩
  ·exact .inl bb
  ·rcases fe.new q bb with bX | ⟨bX,_⟩
   ·exact .inl (aq q bX)
   ·refine(U q ar).imp_right fun dj=>⟨fun il=>il.elim (fun h=>bX (.inl h)) dj.1,dj.2.dQ (J.aM.below.block q (.inr ar)).symm⟩
  ·exact .inr ⟨fun dj=>bb (dj.imp_left fun h=>(z8 q).2 (.inl h)),bX⟩
 have dp:∀ (c:Code) (m:Nat) (Q:Exit->Act->World->Prop) a w,c.wpIn Fence.wide m X.P Q a w ↔ c.wpIn Fence.wide 0 X.P Q a w:=fun c m Q a w=>wpIn_wide.trans wpIn_wide.symm
 have zM:∀ (id:Nat) (c:Code) (m:Nat) (Q:Exit->Act->World->Prop) a w,c.wpIn (Fence.wide.inRound id) 0 X.P Q a w->c.wpIn (Fence.wide.inRound id) m X.P Q a w:=fun id c m Q a w h=>by
  intro b k cs ui ae aw;exact h b k cs ui ae (fun _ h=>by cases h)
 refine(dp _ 2 _ _ _).1 ?_;have Iq:∀ vs:List Value,(pl.toArray.zip vs.toArray).foldl (fun t (p,v)=>t.setIfInBounds p v) a.tmps=(pl.zip vs).foldl (fun t (p,v)=>t.setIfInBounds p v) a.tmps:=fun x=>by
  rw[<- Array.foldl_toList,Array.toList_zip]
 refine acp (gf:=gf) (lb:=lb) (aj.bZ.aD dN) (fun args w=>Mh gX rV jU) uU (c6.refl _ _) uW (fun dK mb x vs h=>by have:=dn.length h; rw[hlen x]at this; simpa using this) (fun dK mb kc x vs ab h=>dn.up ⟨fun _ h=>h,fun k ar=>ab.block k ar⟩ h)
  I kX ?_ ?_ ?_ ?_ ?_ (k0 (fun k=>k3 k\/xt k) B H ks) ?_ Ip (fun vs=>{ tmps:=rm ms ((pl.zip vs).foldl (fun t (p,v)=>t.setIfInBounds p v) a.tmps),defers:=[] }) ?_ ?_ ?_ ?_
 ·rintro r C bV bK mb ⟨y,ro,aL,J⟩ ab
  exact⟨y,ro,aL,s3 _ _ _ _ _ _ J ab⟩
 ·rintro c C bK mb ⟨e,aK,ro,bV,he,mI,J⟩ ab
  exact⟨e,aK,ro,bV,he,mI,s3 _ _ _ _ _ _ J ab⟩
 ·rintro r C bV bK ⟨y,ro,aL,ib,n0,nu,aH,env',B',cC,H',J,_,_,_,rfl,_⟩
  exact J.C5
 ·rintro r C bV bK ⟨y,ro,aL,ib,n0,nu,aH,env',B',cC,H',J,_,_,_,rfl,U⟩ k ab
  exact .inr (.inl (U k ab))
 ·rintro c C bK ⟨e,aK,ro,bV,he,mI,ib,n0,nu,aH,env',B',cC,H',J,_,_,_,rfl,_⟩
  exact J.C5
 ·have Qi:c6 xt Qh w:=⟨fe.aM.below.os.trans fe.base.os,fe.aM.below.tape.trans fe.base.tape,fe.aM.below.output.trans fe.base.output,Nat.le_trans fe.base.size fe.aM.below.size,fun k ab=>(fe.aM.below.block k (.inl (.inr ab))).trans (fe.base.block k (.inr ab))⟩
  exact⟨hN,eI,aN,xt,w,Dq,adn.imp (fun h=>xr _ _ _ _ _ h Qi) (fun h=>⟨h.1,e7 _ _ _ _ h.2 Qi⟩),env,B,w,H,⟨hA.size,hA.defs,zK (fun _ h=>h) (fun _ _=>rfl) (fun _ _ h=>h.2.1),qi.up rW,hA.aM.e6 ri,hA.sub,hA.new,hA.dL,hA.base,hA.et⟩,fun k ab=>(fe.new k ab).imp_right fun h=>⟨fun aa=>h.1 (.inr aa),h.2.dQ (fe.aM.below.block k (.inr ab))⟩,fun _ _=>rfl,fun _ h=>h,rfl,fun _ h=>h⟩
 ·intro id x vs bK K qc bQ
  rw[Iq];exact zM _ _ _ _ _ _ (lx.ok (l:=id) oN bQ)
 ·rintro id x rest vs C bV dK bK ⟨y,ro,aL,ib,n0,nu,aH,qy,dc,b1,H1,aN,Aa,Qj,adt,rfl,oM⟩ ma nV
  obtain⟨fk,xh⟩:∃ fk:Nat->Prop,fk=fun k=>dc k\/dK k:=⟨_,rfl⟩
  have Jj:∀ k,fk k ↔ dc k\/dK k:=fun k=>by rw[xh]
  have J:bH X (fun k=>k3 k\/ib k) n0 ⟨fun k=>nu k\/B k,mA n env,[]⟩ n ks qy fk bK H1 ⟨la,hc y⟩ a bK:=by
   rw[xh];exact aN.now.PE fun k ab=>(ma.new k ab).imp (fun h=>oM k h) fun⟨h,U⟩=>⟨h,U⟩
  have adu:∀ k,fk k->nu k\/(¬ ib k/\q2 bK k):=fun k ab=>by
   rcases (Jj k).1 ab with ab | ab
   ·exact Aa k ab
   ·rcases ma.new k ab with h | ⟨h,U⟩
    ·exact Aa k (oM k h)
    ·exact .inr ⟨fun aa=>h (.inl (.inr aa)),U⟩
  have uY:∀ k,dK k->fk k:=fun k ab=>(Jj k).2 (.inr ab)
  have Dr:∀ k,B k->fk k:=fun k ab=>J.sub k (.inr ab)
  clear aN
  have fb:bE (fun k=>(k3 k\/ib k)\/fk k) bK H1 bK:=J.aM.e6 (List.sublist_append_left _ _);have PJ:fJ fk bK fk bK:=⟨fun _ h=>h,fun k ab=>J.aM.below.block k (.inr ab)⟩
  have adv:Has n qy fk bK la a.tmps:=⟨aj.size,fun s sv an=>by
   obtain⟨v,U,ag⟩:=J.has s sv an;exact⟨v,U,ag.up PJ⟩⟩
  have aw:=J.round (Has.cP (Has.par adv gT ((dn.any nV).up ⟨uY,fun _ _=>rfl⟩)) mv);have im:∀ k,(k3 k\/ib k)\/fk k->gj bK H1 k:=fun k ab=>⟨fb.base k ab,fun c aa e=>((fb.ok c aa).lt e).1 ab⟩
  have Qk:c6 ib n0 bK:=⟨J.base.os,J.base.tape,J.base.output,J.base.size,fun k ab=>J.base.block k (.inr ab)⟩
  have Gu:eA ro ib nu bK\/(ro=[]/\gq () ib bK):=aH.imp (fun h=>xr _ _ _ _ _ h Qk) (fun h=>⟨h.1,e7 _ _ _ _ h.2 Qk⟩);have dD:Ja ⟨gj bK H1,fk,nu,ib,bK,mA n qy⟩ ib nu bK:=⟨adu,c6.refl _ _,fun k _ U ag=>absurd ag U,fun k _ h=>J.sub k (.inl h),fun _ h=>h,fun k h=>im k (.inr h)⟩
  have It:=pH id x rest y ro ⟨gj bK H1,fk,nu,ib,bK,mA n qy⟩ aL _ bK ⟨ib,bK,nu,Gu,dD,[],qy,fk,bK,H1,⟨fun _=>rfl,fun h=>by cases h⟩,aw.Qg (fun k=>⟨.inl,fun h=>h.elim (fun h=>h) fun h=>im k (.inl (.inr h))⟩) fun k=>⟨.inr,fun h=>h.elim (fun h=>J.sub k (.inl h)) (fun h=>h)⟩⟩;refine wpIn_mono (zM _ _ 1 _ _ _ It) ?_;rintro e a3 kc ⟨s,cy,an,U⟩;have key:∀ aK L',gF X false n s ⟨L',aK⟩->∃ cK,In aK cy cK dK kc/\Grow dK (k0 (fun k=>k3 k\/ib k) dc H1 ks) cK bK kc:=by
   intro aK L' hw;obtain⟨sz,Jk,Ql,adw,nv,adx⟩:=U;obtain⟨acC,C6,s6,l9,C7,C8,ag⟩:=hw _ _ _ _ _ adx
   have:=C8.1 rfl
   subst this;have Qm:∀ k,gj bK H1 k->kc.heap[k]?=Jk.heap[k]?:=fun k ab=>(ag.aM.below.block k (.inl (.inl ab))).trans (ag.base.block k (.inl ab))
   have sY:∀ k,(gj bK H1 k/\¬ ib k)\/fk k->kc.heap[k]?=bK.heap[k]?:=fun k ab=>(Qm k (ab.elim (fun h=>h.1) (fun h=>im k (.inr h)))).trans (nv.u6.block k ab)
   have Ds:∀ k,fk k->s6 k:=fun k ab=>ag.sub k (.inr ab)
   have kd:=ag.aM;simp only[List.map_nil,List.append_nil]at kd;have Jl:∀ k,fk k->l9.heap[k]?=bK.heap[k]?:=fun k ab=>(ag.base.block k (.inl (im k (.inr ab)))).trans (nv.u6.block k (.inr ab))
   have vX:∀ k∈ks,gj bK H1 k/\¬ ib k/\¬ sz k/\¬ s6 k/\¬ k3 k/\bK.heap[k]?=some (.deferred (some [])):=by
    intro k ab;have hm:dk k∈H1++ks.map dk:=List.mem_append_right _ (List.mem_map.2 ⟨k,ab,rfl⟩);obtain⟨ff,ax⟩:=J.aM.ok (dk k) hm;have Dt:gj bK H1 k:=⟨((J.aM.ok _ hm).lt rfl).2,fun c aa e=>(List.pairwise_append.1 J.aM.apart).2.2 c aa (dk k) (List.mem_map.2 ⟨k,ab,rfl⟩) k e rfl⟩
    have s5:¬ ib k:=fun h=>ff (.inl (.inr h))
    refine⟨Dt,s5,fun h=>ff (.inr (nv.Dp k Dt s5 h)),fun h=>?_,fun h=>ff (.inl (.inl h)),ax⟩
    rcases ag.new k h with(aq | aq) | ⟨aq,_⟩
    ·exact ff (.inr (nv.Jb k Dt aq))
    ·exact ff (.inr aq)
    ·exact aq (.inl Dt)
   have oQ:∀ q,((k3 q\/sz q)\/s6 q)->((gj bK H1 q\/sz q)\/s6 q):=fun q ar=>ar.imp_left fun h=>h.imp_left fun h=>im q (.inl (.inl h))
   have aq:bH X (fun k=>k3 k\/sz k) Jk ⟨fun k=>Ql k\/B k,mA n env,[]⟩ n ks C6 s6 l9 C7 ⟨la,aK⟩ a kc:=by
    refine⟨J.size,J.defs,zK (fun k ab=>Ds k (Dr k ab)) (fun k ab=>(Jl k (Dr k ab)).trans (Qj k ab)) (fun id l ao=>(ag.dL id l ⟨(J.dL id l ao).1,(J.dL id l ao).2.1,(J.dL id l ao).2.2⟩).2.1),ag.heap,⟨⟨kd.below.os,kd.below.tape,kd.below.output,kd.below.size,fun k ab=>kd.below.block k (oQ k ab)⟩,fun k ab=>kd.base k (oQ k ab),fun c aa=>?_,?_⟩,fun k ab=>ab.elim (fun h=>ag.sub k (.inl h)) (fun h=>Ds k (Dr k h)),fun k ab=>?_,fun id l ao=>?_,⟨ag.base.os,ag.base.tape,ag.base.output,ag.base.size,fun k ab=>ag.base.block k (ab.imp_left fun h=>im k (.inl (.inl h)))⟩,fun i x ak=>(J.et i x ak).up ⟨Ds,Jl⟩⟩
    ·rcases List.mem_append.1 aa with aa | aa
     ·exact(kd.ok c aa).base fun b ae ab=>((kd.ok c aa).lt ae).1 (oQ b ab)
     ·obtain⟨k,ab,rfl⟩:=List.mem_map.1 aa
      obtain⟨g1,g2,g3,g4,g5,g6⟩:=vX k ab;exact⟨fun ar=>ar.elim (fun h=>h.elim g5 g3) g4,(sY k (.inl ⟨g1,g2⟩)).trans g6⟩
    ·refine List.pairwise_append.2 ⟨kd.apart,(List.pairwise_append.1 J.aM.apart).2.1,fun c aa c' dE q ay aS=>?_⟩
     obtain⟨k,ab,rfl⟩:=List.mem_map.1 dE
     have:k=q:=Option.some.inj aS
     subst this;exact((kd.ok c aa).lt ay).1 (.inl (.inl (vX k ab).1))
    ·rcases ag.new k ab with(aE | aE) | ⟨aE,bb⟩
     ·exact .inl (.inl aE)
     ·rcases J.new k aE with(bb | bb) | ⟨bb,bX⟩
      ·exact .inl (.inl (nv.Jc k bb))
      ·exact .inl (.inr bb)
      ·rcases nv.wi k aE with dj | ⟨dj,_⟩
       ·exact .inl (.inl dj)
       ·exact .inr ⟨fun h=>h.elim (fun h=>bb (.inl h)) dj,bX.dQ (Jl k aE)⟩
     ·exact .inr ⟨fun h=>aE (h.imp_left fun h=>im k (.inl (.inl h))),bb⟩
    ·obtain⟨g1,g2,g3⟩:=J.dL id l ao
     exact⟨g1,(ag.dL id l ⟨g1,g2,g3⟩).2.1,g3⟩
   refine⟨_,⟨sz,Jk,Ql,adw,C6,s6,l9,C7,aq,fun k ab=>?_,fun k ab=>(sY k (.inr (Dr k ab))).trans (Qj k ab),fun k ab=>nv.Jc k (adt k ab),rfl,fun k ab=>Ds k (uY k ab)⟩,⟨⟨?_,?_,?_,?_,fun k ab=>?_⟩,fun k ab=>?_⟩⟩
   ·rcases ag.new k ab with(aE | aE) | ⟨aE,bb⟩
    ·exact .inl aE
    ·exact(nv.wi k aE).imp_right fun h=>⟨h.1,h.2.dQ (Qm k (im k (.inr aE)))⟩
    ·exact .inr ⟨fun h=>aE (.inr h),bb.dQ (kd.below.block k (.inr ab))⟩
   ·exact kd.below.os.trans (ag.base.os.trans nv.u6.os)
   ·exact kd.below.tape.trans (ag.base.tape.trans nv.u6.tape)
   ·exact kd.below.output.trans (ag.base.output.trans nv.u6.output)
   ·exact Nat.le_trans nv.u6.size (Nat.le_trans ag.base.size kd.below.size)
   ·rcases ab with ab | ⟨iN,hz⟩
    ·exact sY k (.inr (uY k ab))
    ·exact sY k (.inl ⟨⟨iN,fun c aa e=>hz (.inr (.inr ⟨c,List.mem_append_left _ aa,e⟩))⟩,fun h=>hz (.inl (.inr h))⟩)
   ·by_cases aW:bK.heap.size<=k
    ·exact .inr (.inl aW)
    ·have Iu:k < bK.heap.size:=by omega
     by_cases iN:k0 (fun k=>k3 k\/ib k) dc H1 ks k
     ·exact .inl iN
     ·by_cases hz:dK k
      ·exact .inr (.inr hz)
      exfalso
      have uZ:gj bK H1 k:=⟨Iu,fun c aa e=>iN (.inr (.inr ⟨c,List.mem_append_left _ aa,e⟩))⟩
      have ady:¬ ib k:=fun h=>iN (.inl (.inr h))
      have Jm:¬ fk k:=fun h=>((Jj k).1 h).elim (fun h=>iN (.inr (.inl h))) hz
      rcases ab with ab | ab | ⟨c,aa,e⟩
      ·rcases ab with ab | ab
       ·exact iN (.inl (.inl ab))
       ·exact Jm (nv.Dp k uZ ady ab)
      ·rcases ag.new k ab with(aE | aE) | ⟨aE,_⟩
       ·exact Jm (nv.Jb k uZ aE)
       ·exact Jm aE
       ·exact aE (.inl uZ)
      ·rcases List.mem_append.1 aa with aa | aa
       ·exact((kd.ok c aa).lt e).1 (.inl (.inl uZ))
       ·exact iN (.inr (.inr ⟨c,List.mem_append_right _ aa,e⟩))
  rcases an with⟨rfl,mc,iW,L',hw⟩ | ⟨cr,hex,aK,mI,L',hw⟩
  ·obtain⟨cK,aE,bb⟩:=key _ _ hw
   exact⟨cK,⟨mc,cy,iW,aE⟩,bb⟩
  ·obtain⟨cK,aE,bb⟩:=key _ _ hw
   cases e with
   | normal=>exact absurd rfl cr
   | ret=>exact⟨cK,⟨.ret,aK,cy,_,rfl,mI,aE⟩,bb⟩
   | exit i=>exact⟨cK,⟨.exit i,aK,cy,_,rfl,mI,aE⟩,bb⟩
   | goto t=>cases hex
   | panic c=>cases hex
   | outgrown=>cases hex
 ·rintro k C bV bK ab dA ⟨y,ro,aL,J⟩ ax
  exact⟨_,_,nU y ro aL,zL k ab dA ax J⟩
 ·rintro k c C bK ab dA ⟨e,aK,ro,bV,he,mI,J⟩ ax
  have zO:=zL k ab dA ax J;have ar:=kY e aK ro mI;cases e with
  | ret=>cases he; exact wpIn_ret ⟨_,_,ar,zO⟩
  | exit id=>cases he; exact(dp _ 2 _ _ _).2 (Fm ⟨_,_,ar,zO⟩)
  | normal=>cases he
  | goto t=>cases he
  | panic c=>cases he
  | outgrown=>cases he
section
section
variable {X:bs} {n:Nat} {α:Type}
theorem adz(av:X.tt.ok X.P) {E:List fW} {id:Nat} {fE:Nat->Prop} {eA:List (c8 (jc E []))->(Nat->Prop)->(Nat->Prop)->World->Prop} {gq:Unit->(Nat->Prop)->World->Prop} (aa:Cons X E id eA gq):xo (Γ:=gr.it (X:=X) (n:=n) fE eA gq) (some (u5 E id)):=by
 rintro ops Q em rY l args f t r aw;cases rY;unfold u5 at aw
 split at aw
 ·rename_i x lq q7
  unfold tb at aw
  split at aw
  ·rename_i rt ah
   cases aw;have hU:=Nat.eq_of_beq_eq_true ah;subst hU;refine⟨_,_,rfl,rfl,?_⟩;intro o rest st d s us fN c aA bg ax aL yR h4 Jf Jg a w hi;obtain⟨C,bK,bV,aH,ks,env,B',al,H,bL,aj⟩:=hi
   rcases aH with aH | ⟨aH,_⟩
   ·obtain⟨vs,J,U⟩:=yE aj yR h4
    obtain⟨fX,ag,aq⟩:=aj.has _ _ (Qb aL);rw[show fX=_ from aq]at ag;have dp:fJ B' al B' w:=⟨fun _ h=>h,fun k ab=>aj.aM.below.block k (.inr ab)⟩
    have aQ:=(y0 q7).2;have nV:dn (fun _=>.no) B' w (hX E x).1 vs:=aQ _ _ _ _ (dn.no lq (U.up dp));have Du:c6 C bK w:=⟨(aj.aM.below.os).trans aj.base.os,(aj.aM.below.tape).trans aj.base.tape,(aj.aM.below.output).trans aj.base.output,Nat.le_trans aj.base.size aj.aM.below.size,fun k ab=>(aj.aM.below.block k (.inl (.inr ab))).trans (aj.base.block k (.inr ab))⟩
    have du:=aa.xr _ _ _ _ _ aH Du;have ma:uS C bV B' w:=⟨aj.sub,fun k ab=>(aj.new k ab).imp_right fun⟨aE,bb⟩=>⟨fun h=>aE (.inr h),bb.dQ (aj.aM.below.block k (.inr ab))⟩⟩
    obtain⟨fn,tmps,assign,body,Jh,Ji⟩:=YieldAt.zero (aa.take _ _ _ _ _ _ _ du ma nV);have hw:Region.wanted o (yielded ops.toArray a.tmps)=true:=bg.1 aj;show(if Region.wanted o (yielded ops.toArray a.tmps)then _ else _);rw[if_pos hw];refine⟨fun _ _=>trivial,?_⟩;have dy:(execOp a.eval o).run X.P w=.ok (.round l fn tmps assign body) w:=by
     have ay:=aj.bZ.aD (x:=.tmp s) (h6 ag);have aS:(us.toArray.map a.eval)=vs.toArray:=Nq aj.bZ J;simp only[execOp,aA,resolve,ay]
     simp[Deferred.ofValue,invoke,aS,Jh,go_sem]
    show Oper.uponIn _ _ _ _ _ _ _ ((o.semAt none a.eval).run X.P w);rw[Oper.semAt_none,dy];refine⟨(fun h=>by cases h),RoundIn.mono Ji ?_⟩;intro e hI ar;rw[bg.2]
    rcases ar with⟨rfl,cK,jV,bR⟩ | ⟨rfl,cK,jV,bR⟩
    ·exact Jg _ _ ⟨cK,hI,B',.inl jV,ks,env,B',hI,H,⟨bL.1,fun _ _ _ h=>h.elim⟩,bH.Qa aj bR (aa.lt _ _ _ _ jV) ax _⟩
    ·exact Jf _ _ ⟨cK,hI,B',.inr ⟨rfl,jV⟩,ks,env,B',hI,H,⟨bL.1,fun _ _ _ h=>h.elim⟩,bH.Qa aj bR (aa.Qc _ _ _ jV) ax _⟩
   ·cases aH
  ·cases aw
 ·cases aw
theorem adA(av:X.tt.ok X.P) {E:List fW} {id:Nat} {fE:Nat->Prop} {eA:List (c8 (jc E []))->(Nat->Prop)->(Nat->Prop)->World->Prop} {gq:Unit->(Nat->Prop)->World->Prop} (aa:Cons X E id eA gq):mK (Γ:=gr.it (X:=X) (n:=n) fE eA gq) (some (u5 E id)):=
 ⟨adz av aa,fun _ _=>⟨fun i nX=>∃ D,nX=gr.Je D eA gq,fun i nX ⟨D,h⟩=>by rw[h]; exact adl av aa,fun aQ ae gX rV jU mD hlen gT oN mv aV hc bN k1 hN aN cU dt pH nU kY=>
  adm aa.xr aa.e7 aQ ae gX rV jU mD hlen gT oN mv aV hc bN k1 hN aN cU dt (fun id x rest y r D h=>pH id x rest y r _ ⟨D,rfl⟩ h) nU kY⟩⟩
def Jn{α:Type}:ns (List α)
 | .normal,_,_=>some []
 | .ret,_,_=>some []
 | _,_,_=>none
theorem adB(av:X.tt.ok X.P) (hm:X.P.follows .mixedOrders=true) {N:Nat} {T:List (bC X)} {bD:List (lJ X)} {f:FuncId} {fn:Func} {c:Code} {b4:fA} {fP:List e4} {ao:bz} {E:List fW} {l:List (c8 (jc E []))} (az:X.P.funcs[f]?=some fn) (ae:fn.body=some c) (a6:fn.ntmps=n) (ah:Nat.ble (pk fP).length (n - 1)=true) (aV:Nat.blt 0 n=true) (aw:fn.results=#[])
  (h:∀ id,jj X N n T bD true c (some (u5 E id)) b4 ⟨re 0 (.c (.val (.func (.yield id) #[] #[])) :: pk fP),ao⟩ Jn=some l):uX X f fP ao l (fun x=>(hX E x).1):=by
 intro B al lb env O cm aQ u7 adC id eA gq W Qn _ sw sU aW zE oM p2 C du Dv;have dp:fJ B al B W:=⟨fun _ h=>h,fun k ab=>Qn.block k ab⟩
 have aX:dn env B W (.c (.val (.func (.yield id) #[] #[])) :: pk fP) (.func (.yield id) #[] #[] :: lb):=⟨_,_,rfl,rfl,(BU u7).up dp⟩
 have hlen:=aX.length;have hle:(Value.func (.yield id) #[] #[] :: lb).length<=n:=by
  rw[hlen,List.length_cons];have J:=Nat.le_of_ble_eq_true ah;have U:=dY aV;omega
 have aI:=Md (fn:=fn) a6 hle _ rfl (vs:=.func (.yield id) #[] #[] :: lb);have e:#[Value.func (.yield id) #[] #[]]++lb.toArray=(Value.func (.yield id) #[] #[] :: lb).toArray:=by simp
 rw[e];refine CallsIn.mono (R:=fun e w'=>∃ v,e=.returned v/\∃ cK,(∃ bV,eA [] cK bV w')\/gq () cK w') ((callsIn_wide (n:=1)).2 ((callsIn_wide (n:=0)).1 (callsIn_of_wp_marks az ae trivial ?_))) (fun e w' ⟨v,J,U⟩=>⟨⟨v,J⟩,U⟩);obtain⟨fE,Qo⟩:∃ fE:Nat->Prop,fE=fun k=>k < W.heap.size/\¬∃c∈O,c.has k:=⟨_,rfl⟩
 have aj:bH X (fun k=>fE k\/C k) W ⟨B,fun _ _=>False,[]⟩ n [] env B W O ⟨re 0 (.c (.val (.func (.yield id) #[] #[])) :: pk fP),ao⟩ { tmps:=(Value.func (.yield id) #[] #[] :: lb).toArray++Array.replicate (fn.ntmps - (Value.func (.yield id) #[] #[] :: lb).toArray.size) undef,defers:=[] } W:=by
  refine⟨aI.size,rfl,fun s sv an=>?_,adC.up dp,?_,fun _ h=>h,fun _ h=>.inl h,fun _ _ h=>h.elim,c6.refl _ _,fun i x ak=>(aQ i x ak).up dp⟩
  rotate_left
  ·rw[List.map_nil,List.append_nil]
   refine⟨c6.refl _ _,fun k ab=>?_,fun c aa=>(Dv.ok c aa).base fun b ae ab=>?_,Dv.apart⟩
   ·rcases ab with(ab | ab) | ab
    ·rw[Qo]at ab
     exact ab.1
    ·exact aW _ _ _ _ du k ab
    ·exact Nat.lt_of_lt_of_le (cm k ab) Qn.size
   ·rcases ab with(ab | ab) | ab
    ·rw[Qo]at ab
     exact ab.2 ⟨c,aa,ae⟩
    ·exact((Dv.ok c aa).lt ae).1 ab
    ·exact((Dv.ok c aa).lt ae).1 (oM _ _ _ _ du b ab)
  obtain⟨_,v,J,U⟩:=F5 aX an;rw[Nat.sub_zero]at J;refine⟨v,?_,U⟩;have aW:s < (Value.func (.yield id) #[] #[] :: lb).length:=(List.getElem?_eq_some_iff.1 J).1;show((Value.func (.yield id) #[] #[] :: lb).toArray++_)[s]?=some v;rw[Array.getElem?_append_left (by simpa using aW)]
  simpa using J
 refine wpIn_mono (pJ av hm c true true none (fun _=>⟨rfl,rfl⟩) _ (gr.it fE eA gq) _ (adA av ⟨sw,sU,aW,zE,p2⟩) b4 _ Jn l (h id) _ _ ⟨C,W,B,.inl du,[],_,_,_,_,⟨fun h=>(by cases h),fun _ _ _ h=>h.elim⟩,aj⟩) ?_;rintro e a w ⟨st,cy,⟨V,ej,hw,fs,ab⟩,hi⟩;obtain⟨cK,bK,bV,aH,ks,env',B',cC,H',bL,ck⟩:=(gr.it fE eA gq).e6 hw hi;have iy:cy=[]/\(e=.ret\/e=.normal):=by
  cases e<;>first | (cases ab; exact⟨rfl,.inr rfl⟩) | (cases ab; exact⟨rfl,.inl rfl⟩) | cases ab
 obtain⟨rfl,he⟩:=iy;have tT:Sym n (ks.map tI) (gm a) (fun k=>(fE k\/cK k)\/B' k) cC (ks.map (fun k=>bf.obj k (.deferred (some [])))++H') a w:=⟨by have cU:=ck.bZ; simpa [j2] using cU,ck.aM.perm List.perm_append_comm⟩
 have sj:∀ w,(results fn a.tmps).run X.P w=.ok (.tuple #[]) w:=fun w=>by
  simp[results,aw,go_sem]
 have key:=Mf (fn:=fn) (R:=fun _ w'=>∃ cK,(∃ bV,eA [] cK bV w')\/gq () cK w') ks tT (fun w hw=>sj w) fun w hw=>by
  have Du:c6 cK bK w:=⟨hw.below.os.trans ck.base.os,hw.below.tape.trans ck.base.tape,hw.below.output.trans ck.base.output,Nat.le_trans ck.base.size hw.below.size,fun k ab=>(hw.below.block k (.inl (.inr ab))).trans (ck.base.block k (.inr ab))⟩
  rcases aH with aH | ⟨_,aH⟩
  ·exact⟨cK,.inl ⟨bV,sw _ _ _ _ _ aH Du⟩⟩
  ·exact⟨cK,.inr (sU _ _ _ _ aH Du)⟩
 rcases he with rfl | rfl
 ·exact key
 ·exact key
def Jo (N : Nat) (av : X.tt.ok X.P) (hm : X.P.follows .mixedOrders = true) {fn : Func} {c : Code} (C : List sK) (G : List (Nat × ia)) (E : List fW) (T : List (bC X)) (bD : List (lJ X)) (b4 : fA) (f : FuncId) (m : Bool → c8 (qn C (mC G [])) → Option (List (c8 (jc E [])))) (az : X.P.funcs[f]? = some fn) (aQ : (fn.name == "runtime.NumGoroutine") = false) (ae : fn.body = some c) (a6 : fn.ntmps = n) (ah : ∀ d : c8 (qn C (mC G [])), Nat.ble (pk (l4 C d).1).length (n - 1) = true) (aV : Nat.blt 0 n = true) (aw : fn.results = #[])
  (h:∀ id d,jj X N n T bD true c (some (u5 E id)) b4 ⟨re 0 (.c (.val (.func (.yield id) #[] #[])) :: pk (l4 C d).1),(ju G (l4 C d).2).1⟩ Jn=m (Nat.beq id id) d):lJ X:=
 { f:=f,fn:=fn,C:=C,G:=G,E:=E,m:=m true,az:=az,aV:=aQ,ae:=by rw[ae]; rfl,ok:=fun d l he=>adB av hm az ae a6 (ah d) aV aw fun id=>(h id d).trans (by rw[show Nat.beq id id=true from Nat.beq_refl id]; exact he) }
end
end
section
open Go.RowKit
end
section
open Go.RowKit
def Qp(N:Nat) :Nat->(Int×Int×(List c9))->Option ((List c9)):=cn fun d1 dw=>
  cond (decide (d1.1 < d1.2.1)) (au ((bc d1.2.1 d1.2.2.length)&&((decide (d1.2.1.toNat < d1.2.2.length))&&((bc d1.1 d1.2.2.length)&&((decide (d1.1.toNat < d1.2.2.length))&&((bc d1.1 d1.2.2.length)&&(((decide (d1.1.toNat < d1.2.2.length))&&(true))&&((bc d1.2.1 (d1.2.2.set d1.1.toNat (d1.2.2.getD d1.2.1.toNat ep.zero)).length)&&(((decide (d1.2.1.toNat < (d1.2.2.set d1.1.toNat (d1.2.2.getD d1.2.1.toNat ep.zero)).length))&&(true))&&(true))))))))) <|
  au ((bj (d1.1+(1:Int)))&&((bj (d1.2.1 - (1:Int)))&&(true))) <|
  dw ((d1.1+(1:Int)),(d1.2.1 - (1:Int)),((d1.2.2.set d1.1.toNat (d1.2.2.getD d1.2.1.toNat ep.zero)).set d1.2.1.toNat (d1.2.2.getD d1.1.toNat ep.zero)))) (some d1.2.2)
def Ab(N:Nat) (a0:List c9):Option ((List c9)):=
  au ((bj ((a0.length:Int) - (1:Int)))&&(true)) <|
  Option.bind (Qp N N ((0:Int),((a0.length:Int) - (1:Int)),a0)) fun aT=>
  some aT
noncomputable def adD (N:Nat):bC bS:=ch N b0 (by kernel_rfl) [.c (.raw (.ai 2000000))] [(2000000,.row 116 ep)] ⟨.c3 [],[(2000000,.row 116 ep)],[]⟩ [] [] (.s .d (.b (.eO 0 ⟨[(0,.a (.c (.raw (.ai 2000000)))),(2,.a (.c (.int .i64))),(3,.a (.c (.int .i64)))],[(2000000,.row 116 ep)],[],[]⟩ ⟨[],[(2000000,.row 116 ep)],[],[]⟩ (.s .d (.s (.b (.me [8,9,10,11] [.t 0 0,.t 1 0,.t 2 0,.t 3 0,.t 4 0,.t 5 0,.t 6 0,.t 7 3,.t 8 0,.t 9 0,.t 10 0,.t 11 3,.t 12 0,.s 13,.t 14 0,.s 15] [])) .d))))) [] 71 [] (fun d=>Ab N d.1) Tryz.func71 rfl rfl Tryz.ntmps71 rfl rfl rfl (fun d=>by kernel_rfl)
end
section
open Go.RowKit
def u9(N:Nat) (a0:Int):Option (Bool):=
  some (cond (decide (a0=(0:Int))) true (decide (a0=(1:Int))))
noncomputable def Jp (N:Nat):bC bS:=ch N b0 (by kernel_rfl) [.c (.int .u8)] [] ⟨.a (.c .bool),[],[]⟩ [] [] (.d) [.tmp 2] 72 false (fun d=>u9 N d.1) Tryz.func72 rfl rfl Tryz.ntmps72 rfl rfl rfl (fun d=>by kernel_rfl)
def xu(N:Nat) (a0:ad):Option (Bool):=
  some (cond (cond (cond (decide ((1:Int)<=a0.1)) (decide (a0.1<=(6:Int))) false) (decide ((0:Int)<=a0.2)) false) (decide (a0.2 < (2048:Int))) false)
noncomputable def Jq (N:Nat):bC bS:=ch N b0 (by kernel_rfl) [.cY aB] [] ⟨.a (.c .bool),[],[]⟩ [] [] (.s (.r [.n 2,.w (.cd 1 aB)]) .d) [.tmp 2] 118 false (fun d=>xu N d.1) Tryz.func118 rfl rfl Tryz.ntmps118 rfl rfl rfl (fun d=>by kernel_rfl)
def Ac(N:Nat) (a0:c9):Option (Bool):=
  Option.bind (xu N a0.1) fun aF=>
  Option.bind (cond aF (u9 N a0.2.2) (some false)) fun a7=>
  some (cond aF a7 false)
noncomputable def Qq (N:Nat):bC bS:=ch N b0 (by kernel_rfl) [.cY ep] [] ⟨.a (.c .bool),[],[]⟩ [Jq N,Jp N] [] (.s (.r [.n 2,.w (.cd 1 ep)]) .d) [.tmp 2] 67 false (fun d=>Ac N d.1) Tryz.func67 rfl rfl Tryz.ntmps67 rfl rfl rfl (fun d=>by kernel_rfl)
def va(N:Nat) (a0:Int):Option (Bool):=
  some (cond (cond (!(decide ((Int.tmod a0 (2:Int))=(0:Int)))) (decide ((-13:Int)<=a0)) false) (decide (a0<=(179:Int))) false)
noncomputable def Qr (N:Nat):bC bS:=ch N b0 (by kernel_rfl) [.c (.int .i64)] [] ⟨.a (.c .bool),[],[]⟩ [] [] (.d) [.tmp 2] 66 false (fun d=>va N d.1) Tryz.func66 rfl rfl Tryz.ntmps66 rfl rfl rfl (fun d=>by kernel_rfl)
def Ad(N:Nat) (a0:c9) (a1:c9):Option (Bool):=
  Option.bind (u9 N a0.2.2) fun aF=>
  Option.bind (cond (!(!aF)) (u9 N a1.2.2) (some false)) fun a7=>
  cond (cond (cond (!aF) true (!a7)) true (decide (a0.2.2=a1.2.2))) (some false) (some (aU.beq ep a0 (a1.1,(a1.2.1,a0.2.2))))
noncomputable def Qs (N:Nat):bC bS:=ch N b0 (by kernel_rfl) [.cY ep,.cY ep] [] ⟨.a (.c .bool),[],[]⟩ [Jp N] [] (.s (.r [.n 3,.w (.cd 2 ep)]) .d) [.tmp 4] 117 false (fun d=>Ad N d.1 d.2.1) Tryz.func117 rfl rfl Tryz.ntmps117 rfl rfl rfl (fun d=>by kernel_rfl)
def Jr(N:Nat) (a0:(List c9)):Nat->(Int×(List c9))->Option ((List c9)):=cn fun d1 dw=>
  cond (decide (d1.1 < (a0.length:Int))) (au ((bc d1.1 a0.length)&&(true)) <|
  au ((eo (decide ((0:Int) < (d1.2.length:Int))) (bj ((d1.2.length:Int) - (1:Int))))&&((eo (decide ((0:Int) < (d1.2.length:Int))) (bc ((d1.2.length:Int) - (1:Int)) d1.2.length))&&((eo (decide ((0:Int) < (d1.2.length:Int))) (decide (((d1.2.length:Int) - (1:Int)).toNat < d1.2.length)))&&(true)))) <|
  Option.bind (cond (decide ((0:Int) < (d1.2.length:Int))) (Ad N (d1.2.getD ((d1.2.length:Int) - (1:Int)).toNat ep.zero) (a0.getD d1.1.toNat ep.zero)) (some false)) fun a7=>
  cond (cond (decide ((0:Int) < (d1.2.length:Int))) a7 false) (au ((bj ((d1.2.length:Int) - (1:Int)))&&(((decide (0<=((d1.2.length:Int) - (1:Int))))&&(decide (((d1.2.length:Int) - (1:Int))<=(d1.2.length:Int))))&&(true))) <|
  au ((bj (d1.1+(1:Int)))&&(true)) <|
  dw ((d1.1+(1:Int)),(d1.2.take ((d1.2.length:Int) - (1:Int)).toNat))) (au ((eg 24 (d1.2.length+[(a0.getD d1.1.toNat ep.zero)].length))&&(true)) <|
  au ((bj (d1.1+(1:Int)))&&(true)) <|
  dw ((d1.1+(1:Int)),(d1.2++[(a0.getD d1.1.toNat ep.zero)])))) (some d1.2)
def Ae(N:Nat) (a0:(List c9)) (a1:List c9):Option ((List c9)):=
  Option.bind (Jr N a0 N ((0:Int),a1)) fun aT=>
  some aT
noncomputable def Qt (N:Nat):bC bS:=ch N b0 (by kernel_rfl) [.c (.raw (.ai 1000000)),.c (.bk ep)] [(1000000,.row 116 ep)] ⟨.a (.c (.raw (.ai 1000000))),[(1000000,.row 116 ep)],[]⟩ [Qs N] [] (.s .d (.s (.s .d (.b (.eO 0 ⟨[(0,.a (.c (.raw (.ai 1000000)))),(10,.a (.c (.int .i64)))],[(1000000,.row 116 ep)],[8,9],[]⟩ ⟨[(0,.a (.c (.raw (.ai 1000000))))],[(1000000,.row 116 ep)],[],[]⟩ (.s .d (.s .d (.s (.b (.s (.r [.n 4,.w (.cd 6 ep)]) (.s .d (.s (.me [8] [.t 0 0,.t 1 0,.t 2 0,.t 3 0,.t 4 0,.t 5 0,.t 6 0,.t 7 3,.t 8 1,.g 9,.t 10 0] []) .d)))) .d)))))) .d)) [.tmp 4] 68 [] (fun d=>Ae N d.1 d.2.1) Tryz.func68 rfl rfl Tryz.ntmps68 rfl rfl rfl (fun d=>by kernel_rfl)
def tc(N:Nat) (a0:(List c9)):Option ((List c9)×Nat):=
  au (((decide (0<=(a0.length:Int)))&&(decide ((a0.length:Int)<=(a0.length:Int)))&&(gd 24 (a0.length:Int)))&&(true)) <|
  au ((Nat.beq a0.length (List.replicate (a0.length:Int).toNat (ep.zero:c9)).length)&&(true)) <|
  some (a0,(a0.length:Int).toNat)
noncomputable def Js (N:Nat):bC bS:=ch N b0 (by kernel_rfl) [.c (.bk ep)] [] ⟨.a (.c (.jb ep)),[],[]⟩ [] [] (.s .d (.s .d (.s .d (.s .d (.t [.de 6]))))) [.tmp 2] 69 ([],0) (fun d=>tc N d.1) Tryz.func69 rfl rfl Tryz.ntmps69 rfl rfl rfl (fun d=>by kernel_rfl)
def Jt(N:Nat) (a0:bJ):Nat->Int->Option ((Unit)⊕(Int)):=cn fun d2 ft=>
  cond (decide (d2 < (a0.2.2.2.2.length:Int))) (au ((bc d2 a0.2.2.2.2.length)&&(true)) <|
  Option.bind (Ac N (a0.2.2.2.2.getD d2.toNat ep.zero)) fun bt=>
  au ((eo ((!(!bt))&&(decide ((0:Int) < d2))) (bj (d2 - (1:Int))))&&((eo ((!(!bt))&&(decide ((0:Int) < d2))) (bc (d2 - (1:Int)) a0.2.2.2.2.length))&&(true))) <|
  Option.bind (cond ((!(!bt))&&(decide ((0:Int) < d2))) (Ad N (a0.2.2.2.2.getD (d2 - (1:Int)).toNat ep.zero) (a0.2.2.2.2.getD d2.toNat ep.zero)) (some false)) fun b6=>
  cond (cond (!bt) true (cond (decide ((0:Int) < d2)) b6 false)) (some (.inr (1:Int))) (au ((bj (d2+(1:Int)))&&(true)) <|
  ft (d2+(1:Int)))) (some (.inl ()))
def rZ(N:Nat) (a0:bJ):Option (Int):=
  cond (cond (decide (a0.2.2.1 < (0:Int))) true (decide ((2048:Int) < a0.2.2.1))) (some (1:Int)) (cond (!a0.1) (cond (cond (cond (!(decide (a0.2.1=(0:Int)))) true a0.2.2.2.1) true (decide ((0:Int) < (a0.2.2.2.2.length:Int)))) (some (1:Int)) (some (0:Int))) (Option.bind (va N a0.2.1) fun aF=>
  cond (cond (!aF) true (decide ((4096:Int) < (a0.2.2.2.2.length:Int)))) (some (1:Int)) (Option.bind (Jt N a0 N (0:Int)) fun(bM:(Unit)⊕(Int))=>
  sm bM (fun bM=>
  some (0:Int)) (fun q=>some q))))
noncomputable def Af (N:Nat):bC bS:=ch N b0 (by kernel_rfl) [.cY bT] [] ⟨.a (.c (.int .i64)),[],[]⟩ [Qr N,Qq N,Qs N] [] (.s (.r [.n 2,.w (.cd 1 bT)]) (.s .d (.s .d (.s .d (.s (.s .d (.b (.fD 0 ⟨[(42,.a (.c (.int .i64)))],[],[1,40,41],[]⟩ ⟨[],[],[],[]⟩ (.s .d (.s .d (.s (.b (.s (.r [.n 6,.w (.cd 4 ep)]) (.s (.o [] [.t 0 1,.c 1 [],.f,.t 2 0,.t 3 0,.t 4 0,.t 5 0,.t 6 0,.t 7 0,.t 8 1,.t 9 0,.t 10 0,.t 11 0,.t 12 1,.t 13 1,.g 14,.t 15 0,.t 16 0] []) .d))) .d)))))) .d))))) [.tmp 2] 65 0 (fun d=>rZ N d.1) Tryz.func65 rfl rfl Tryz.ntmps65 rfl rfl rfl (fun d=>by kernel_rfl)
def Dw(N:Nat) (a0:(List c9)):Option ((List c9)×Nat):=
  au (((decide ((0:Int)<=(a0.length:Int)))&&(gd 24 (a0.length:Int)))&&(true)) <|
  Option.bind (Ae N a0 ([]:List c9)) fun aF=>
  Option.bind (tc N aF) fun a7=>
  some (a7.1,a7.2)
noncomputable def adE (N:Nat):bC bS:=ch N b0 (by kernel_rfl) [.c (.bk ep)] [] ⟨.a (.c (.jb ep)),[],[]⟩ [Qt N,Js N] [] (.s .d (.s (.r [.n 4,.c [(1000000,5)],.w (.de 5)]) .d)) [.tmp 2] 226 ([],0) (fun d=>Dw N d.1) Tryz.func226 rfl rfl Tryz.ntmps226 rfl rfl rfl (fun d=>by kernel_rfl)
def Ju(N:Nat) (a2:(List c9)):Nat->Int->Option ((Unit)⊕(bJ×Int)):=cn fun d3 hB=>
  cond (decide (d3 < (a2.length:Int))) (au ((bc d3 a2.length)&&(true)) <|
  Option.bind (Ac N (a2.getD d3.toNat ep.zero)) fun b6=>
  cond (!b6) (some (.inr ((false,((0:Int),((0:Int),(false,([]:List c9))))),(1:Int)))) (au ((bj (d3+(1:Int)))&&(true)) <|
  hB (d3+(1:Int)))) (some (.inl ()))
def td(N:Nat) (a0:bJ) (a1:Int) (a2:(List c9)):Option (bJ×Int):=
  Option.bind (rZ N a0) fun aF=>
  cond (!(decide (aF=(0:Int)))) (some ((false,((0:Int),((0:Int),(false,([]:List c9))))),aF)) (Option.bind (va N a1) fun a7=>
  cond (!a7) (some ((false,((0:Int),((0:Int),(false,([]:List c9))))),(1:Int))) (Option.bind (Ju N a2 N (0:Int)) fun(b7:(Unit)⊕(bJ×Int))=>
  sm b7 (fun b7=>
  cond (!a0.1) (some ((false,((0:Int),((0:Int),(false,([]:List c9))))),(12:Int))) (au ((bj ((a0.2.2.2.2.length:Int)+(a2.length:Int)))&&(((decide ((0:Int)<=((a0.2.2.2.2.length:Int)+(a2.length:Int))))&&(gd 24 ((a0.2.2.2.2.length:Int)+(a2.length:Int))))&&(true))) <|
  au ((eg 24 (([]:List c9).length+a0.2.2.2.2.length))&&(true)) <|
  Option.bind (Ae N a2 (([]:List c9)++a0.2.2.2.2)) fun bU=>
  cond (decide ((4096:Int) < (bU.length:Int))) (some ((false,((0:Int),((0:Int),(false,([]:List c9))))),(3:Int))) (Option.bind (tc N bU) fun cq=>
  some ((a0.1,(a1,(a0.2.2.1,(a0.2.2.2.1,cq.1)))),(0:Int))))) (fun q=>some q)))
noncomputable def Qu (N:Nat):bC bS:=ch N b0 (by kernel_rfl) [.cY bT,.c (.int .i64),.c (.bk ep)] [] ⟨.c3 [.cY bT,.c (.int .i64)],[],[]⟩ [Af N,Qr N,Qq N,Qt N,Js N] [] (.s .d (.s .d (.s .d (.s (.s .d (.b (.fD 0 ⟨[(3,.a (.c (.raw (.ptr 3 0)))),(6,.a (.c (.raw (.ptr 6 0)))),(24,.a (.c (.int .i64)))],[],[1,2,22,23],[3,6]⟩ ⟨[(3,.a (.c (.raw (.ptr 3 0)))),(6,.a (.c (.raw (.ptr 6 0))))],[],[1,2],[3,6]⟩ (.s .d (.s .d (.s (.b (.s (.r [.n 4,.w (.cd 10 ep)]) .d)) .d)))))) (.s .d (.s .d (.s (.r [.n 5,.c [(1000000,43)]]) (.s .d (.s .d (.s (.r [.n 1,.w (.de 43)]) .d)))))))))) [.cell 6 73,.tmp 7] 24 (bT.zero,0) (fun d=>td N d.1 d.2.1 d.2.2.1) Tryz.func24 rfl rfl Tryz.ntmps24 rfl rfl rfl (fun d=>by kernel_rfl)
def vb(N:Nat) (a0:bJ) (a1:Int):Option (bJ×Int):=
  Option.bind (rZ N a0) fun aF=>
  cond (!(decide (aF=(0:Int)))) (some ((false,((0:Int),((0:Int),(false,([]:List c9))))),aF)) (Option.bind (u9 N a1) fun a7=>
  cond (!a7) (some ((false,((0:Int),((0:Int),(false,([]:List c9))))),(1:Int))) (cond a0.1 (some ((false,((0:Int),((0:Int),(false,([]:List c9))))),(12:Int))) (cond (decide (a1=(1:Int))) (some ((true,((179:Int),(a0.2.2.1,(true,([]:List c9))))),(0:Int))) (some ((true,((-13:Int),(a0.2.2.1,(true,([]:List c9))))),(0:Int))))))
noncomputable def adF (N:Nat):bC bS:=ch N b0 (by kernel_rfl) [.cY bT,.c (.int .u8)] [] ⟨.c3 [.cY bT,.c (.int .i64)],[],[]⟩ [Af N,Jp N] [] (.s (.r [.n 3,.w (.cd 2 bT)]) .d) [.cell 4 73,.tmp 5] 26 (bT.zero,0) (fun d=>vb N d.1 d.2.1) Tryz.func26 rfl rfl Tryz.ntmps26 rfl rfl rfl (fun d=>by kernel_rfl)
end
section
open Go.RowKit
def oR(N:Nat) (a0:bJ):Option (bJ×I7×Int):=
  Option.bind (rZ N a0) fun aF=>
  cond (!(decide (aF=(0:Int)))) (some ((false,((0:Int),((0:Int),(false,([]:List c9))))),((0:Int),(false,([]:List c9))),aF)) (cond (!a0.1) (some ((false,((0:Int),((0:Int),(false,([]:List c9))))),((0:Int),(false,([]:List c9))),(12:Int))) (cond (decide (a0.2.2.1=(2048:Int))) (some ((false,((0:Int),((0:Int),(false,([]:List c9))))),((0:Int),(false,([]:List c9))),(3:Int))) (Option.bind (tc N a0.2.2.2.2) fun a7=>
  au ((bj (a0.2.2.1+(1:Int)))&&(true)) <|
  some ((true,(a0.2.1,((a0.2.2.1+(1:Int)),(false,([]:List c9))))),(a0.2.2.1,(a0.2.2.2.1,a7.1)),(0:Int)))))
noncomputable def Dx (N:Nat) (a0:bJ):Option (bJ×I7×Int):=
  Option.bind (rZ N a0) fun aF=>
  cond (!(decide (aF=(0:Int)))) (some ((false,((0:Int),((0:Int),(false,([]:List c9))))),((0:Int),(false,([]:List c9))),aF)) (cond (!a0.1) (some ((false,((0:Int),((0:Int),(false,([]:List c9))))),((0:Int),(false,([]:List c9))),(12:Int))) (cond (decide (a0.2.2.1=(2048:Int))) (some ((false,((0:Int),((0:Int),(false,([]:List c9))))),((0:Int),(false,([]:List c9))),(3:Int))) (eW (Option.bind (tc N a0.2.2.2.2) fun a7=>
  au ((bj (a0.2.2.1+(1:Int)))&&(true)) <|
  some ((true,(a0.2.1,((a0.2.2.1+(1:Int)),(false,([]:List c9))))),(a0.2.2.1,(a0.2.2.2.1,a7.1)),(0:Int))) (Option.bind (tc N a0.2.2.2.2) fun a7=>
  au ((bj (a0.2.2.1+(1:Int)))&&(true)) <|
  some ((true,(a0.2.1,((a0.2.2.1+(1:Int)),(false,([]:List c9))))),(a0.2.2.1,(a0.2.2.2.1,a7.1)),(0:Int))))))
theorem adG:Dx=oR:=by
 unfold Dx oR;simp only[nT]
noncomputable def adH (N:Nat):bC bS:=nY N b0 (by kernel_rfl) [.cY bT] [] ⟨.c3 [.cY bT,.cY xq,.c (.int .i64)],[],[]⟩ [Af N,Js N] [] (.s (.r [.n 4,.w (.cd 1 bT)]) (.s .d (.s .d (.s .d (.s (.hn [] [] (.b [.t 0 0,.t 1 1,.t 2 0,.t 3 1,.t 4 0,.t 5 1] 6 8 [] [] none none (.f [.t 7 0,.s 8,.s 9]) (.f [.c 6 [],.t 7 0,.s 9])) [(.cd 6 xq)] false) (.s (.o [] [.t 0 0,.t 1 1,.t 2 0,.t 3 1,.t 4 0,.t 5 0,.t 6 1,.s 7,.s 8,.t 9 0] []) .d)))))) [.cell 2 73,.cell 3 157,.tmp 4] 81 (bT.zero,xq.zero,0) (fun d=>Dx N d.1) (fun d=>oR N d.1) (fun d=>(by rw[adG]:Dx N d.1=oR N d.1)) Tryz.func81 rfl rfl Tryz.ntmps81 rfl rfl rfl (fun d=>by kernel_rfl)
end
section
open Go.RowKit
def Jv(N:Nat) (a0:(List (List bu))):Nat->(Int×Int)->Option (Int):=cn fun d1 dw=>
  cond (decide (d1.2 < (a0.length:Int))) (au ((bc d1.2 a0.length)&&(true)) <|
  au ((bj (d1.1+((a0.getD d1.2.toNat []).length:Int)))&&(true)) <|
  au ((bj (d1.2+(1:Int)))&&(true)) <|
  dw ((d1.1+((a0.getD d1.2.toNat []).length:Int)),(d1.2+(1:Int)))) (some d1.1)
def vc(N:Nat) (a0:(List (List bu))):Option (Int):=
  Option.bind (Jv N a0 N ((0:Int),(0:Int))) fun aT=>
  some aT
noncomputable def Qv (N:Nat):bC bS:=ch N b0 (by kernel_rfl) [.c (.bk (.ai ct))] [] ⟨.a (.c (.int .i64)),[],[]⟩ [] [] (.s .d (.s .d (.s (.s .d (.b (.eO 0 ⟨[(3,.a (.c (.int .i64))),(8,.a (.c (.int .i64)))],[],[6,7],[]⟩ ⟨[(3,.a (.c (.int .i64)))],[],[],[]⟩ .d))) .d))) [.tmp 2] 75 0 (fun d=>vc N d.1) Tryz.func75 rfl rfl Tryz.ntmps75 rfl rfl rfl (fun d=>by kernel_rfl)
def Jw(N:Nat) (a0:List (Bool×List bu)):Nat->(Int×Int×(List (Bool×List bu)))->Option (Int×(List (Bool×List bu))):=cn fun d1 dw=>
  cond (decide (d1.2.1 < (a0.length:Int))) (au ((bc d1.2.1 d1.2.2.length)&&(((decide (d1.2.1.toNat < d1.2.2.length))&&(d1.2.2.getD d1.2.1.toNat (false,[])).1)&&(true))) <|
  au ((bj (d1.1+((d1.2.2.getD d1.2.1.toNat (false,[])).2.length:Int)))&&(true)) <|
  au ((bj (d1.2.1+(1:Int)))&&(true)) <|
  dw ((d1.1+((d1.2.2.getD d1.2.1.toNat (false,[])).2.length:Int)),(d1.2.1+(1:Int)),(d1.2.2.set d1.2.1.toNat (true,(d1.2.2.getD d1.2.1.toNat (false,[])).2)))) (some (d1.1,d1.2.2))
def Ag(N:Nat) (a0:List (Bool×List bu)):Option (Int×(List (Bool×List bu))):=
  Option.bind (Jw N a0 N ((0:Int),(0:Int),a0)) fun aT=>
  some (aT.1,aT.2)
noncomputable def adI (N:Nat):bC bS:=ch N b0 (by kernel_rfl) [.c (.raw (.ai 2000000))] [(2000000,.b2 118 113 ct)] ⟨.a (.c (.int .i64)),[(2000000,.b2 118 113 ct)],[]⟩ [] [] (.s .d (.s .d (.s (.s .d (.b (.eO 0 ⟨[(3,.a (.c (.int .i64))),(6,.a (.c (.raw (.ai 2000000)))),(8,.a (.c (.int .i64)))],[(2000000,.b2 118 113 ct)],[7],[]⟩ ⟨[(3,.a (.c (.int .i64)))],[(2000000,.b2 118 113 ct)],[],[]⟩ (.s .d (.s .d (.s (.b (.s (.r [.n 1,.t .HG]) (.r [.n 5,.w (.t (.close 2000000 11))]))) .d)))))) .d))) [.tmp 2] 75 (0,[]) (fun d=>Ag N d.1) Tryz.func75 rfl rfl Tryz.ntmps75 rfl rfl rfl (fun d=>by kernel_rfl)
end
section
open Go.RowKit
def Qw(N:Nat) :Option ((List (Bool×List bu))):=
  some (List.replicate (6:Int).toNat ((true,[]):Bool×List bu))
noncomputable def adJ (N:Nat):bC bS:=ch N b0 (by kernel_rfl) [] [] ⟨.a (.c (.raw (.ai 1))),[(1,.b2 118 113 ct)],[]⟩ [] [] (.s .d (.s (.r [.t .mk]) .d)) [.tmp 0] 110 [] (fun d=>Qw N ) Tryz.func110 rfl rfl Tryz.ntmps110 rfl rfl rfl (fun d=>by kernel_rfl)
def Dy(N:Nat) :Option ((List cB)×(List ad)×(List ad)×(List (Bool×List bu))):=
  Option.bind (Qw N) fun aF=>
  some (([]:List cB),([]:List ad),([]:List ad),aF)
noncomputable def adK (N:Nat):bC bS:=ch N b0 (by kernel_rfl) [] [] ⟨.a (.agg [.raw (.ai 1),.bk cx,.bk aB,.bk aB]),[(1,.b2 118 113 ct)],[]⟩ [adJ N] [] (.s .d (.s (.r [.c [(1,1)]]) .d)) [.cell 0 36] 57 ([],[],[],[]) (fun d=>Dy N ) Tryz.func57 rfl rfl Tryz.ntmps57 rfl rfl rfl (fun d=>by kernel_rfl)
end
section
open Go.RowKit
end
section
open Go.RowKit
end
section
open Go.RowKit
end
section
open Go.RowKit
end
section
open Go.RowKit
end
section
open Go.RowKit
end
section
open Go.RowKit
end
section
open Go.RowKit
end
section
open Go.RowKit
end
section
open Go.RowKit Go.Shelf
section
set_option maxHeartbeats 1000000
set_option maxRecDepth 100000
end
end
section
open Go.RowKit
end
section
open Go.RowKit
def Jx(N:Nat) (a0:Int):Option (Bool):=
  some (!(decide (a0=a0)))
noncomputable def adL (N:Nat):bC bS:=ch N b0 (by kernel_rfl) [.c (.int .u8)] [] ⟨.a (.c .bool),[],[]⟩ [] [] (.d) [.tmp 2] 174 false (fun d=>Jx N d.1) Tryz.func174 rfl rfl Tryz.ntmps174 rfl rfl rfl (fun d=>by kernel_rfl)
def Qx(N:Nat) (a0:Int) (a1:Int):Option (Int):=
  Option.bind (Jx N a0) fun aF=>
  Option.bind (Jx N a1) fun a7=>
  cond aF (cond a7 (some (0:Int)) (some (-1:Int))) (cond a7 (some (1:Int)) (cond (decide (a0 < a1)) (some (-1:Int)) (cond (decide (a1 < a0)) (some (1:Int)) (some (0:Int)))))
noncomputable def adM (N:Nat):bC bS:=ch N b0 (by kernel_rfl) [.c (.int .u8),.c (.int .u8)] [] ⟨.a (.c (.int .i64)),[],[]⟩ [adL N] [] (.d) [.tmp 4] 141 0 (fun d=>Qx N d.1 d.2.1) Tryz.func141 rfl rfl Tryz.ntmps141 rfl rfl rfl (fun d=>by kernel_rfl)
def Dz(N:Nat) (a0:Int):Option (Bool):=
  some (!(decide (a0=a0)))
noncomputable def adN (N:Nat):bC bS:=ch N b0 (by kernel_rfl) [.c (.int .i64)] [] ⟨.a (.c .bool),[],[]⟩ [] [] (.d) [.tmp 2] 175 false (fun d=>Dz N d.1) Tryz.func175 rfl rfl Tryz.ntmps175 rfl rfl rfl (fun d=>by kernel_rfl)
def DA(N:Nat) (a0:Int) (a1:Int):Option (Int):=
  Option.bind (Dz N a0) fun aF=>
  Option.bind (Dz N a1) fun a7=>
  cond aF (cond a7 (some (0:Int)) (some (-1:Int))) (cond a7 (some (1:Int)) (cond (decide (a0 < a1)) (some (-1:Int)) (cond (decide (a1 < a0)) (some (1:Int)) (some (0:Int)))))
noncomputable def Qy (N:Nat):bC bS:=ch N b0 (by kernel_rfl) [.c (.int .i64),.c (.int .i64)] [] ⟨.a (.c (.int .i64)),[],[]⟩ [adN N] [] (.d) [.tmp 4] 142 0 (fun d=>DA N d.1 d.2.1) Tryz.func142 rfl rfl Tryz.ntmps142 rfl rfl rfl (fun d=>by kernel_rfl)
def adO(N:Nat) (a0:(List Int)):Nat->Int->Option ((Unit)⊕(Int)):=cn fun d1 dw=>
  cond (decide (d1 < (a0.length:Int))) (au ((bc d1 a0.length)&&(true)) <|
  cond (!(decide ((a0.getD d1.toNat 0)=(0:Int)))) (some (.inr (a0.getD d1.toNat 0))) (au ((bj (d1+(1:Int)))&&(true)) <|
  dw (d1+(1:Int)))) (some (.inl ()))
def Jy(N:Nat) (a0:(List Int)):Option (Int):=
  Option.bind (adO N a0 N (0:Int)) fun(aT:(Unit)⊕(Int))=>
  sm aT (fun aT=>
  some (0:Int)) (fun q=>some q)
noncomputable def Qz (N:Nat):bC bS:=ch N b0 (by kernel_rfl) [.c (.bk (.int .i64))] [] ⟨.a (.c (.int .i64)),[],[]⟩ [] [] (.s .d (.s .d (.s (.s .d (.b (.fD 0 ⟨[(8,.a (.c (.int .i64)))],[],[3,6,7],[]⟩ ⟨[],[],[3],[]⟩ .d))) .d))) [.tmp 2] 140 0 (fun d=>Jy N d.1) Tryz.func140 rfl rfl Tryz.ntmps140 rfl rfl rfl (fun d=>by kernel_rfl)
def te(N:Nat) (a0:ad) (a1:ad):Option (Int):=
  Option.bind (Qx N a0.1 a1.1) fun aF=>
  Option.bind (DA N a0.2 a1.2) fun a7=>
  Option.bind (Jy N [aF,a7]) fun bt=>
  some bt
noncomputable def Ah (N:Nat):bC bS:=ch N b0 (by kernel_rfl) [.cY aB,.cY aB] [] ⟨.a (.c (.int .i64)),[],[]⟩ [adM N,Qy N,Qz N] [] (.s (.r [.n 3,.w (.cd 2 aB),.w (.cd 3 aB)]) (.s (.o [] [.t 0 0,.t 1 1,.t 2 0,.t 3 1,.t 5 0,.t 6 1,.t 7 0,.t 8 1,.c 4 [],.c 9 [],.s 10,.z 15,.c 11 [],.t 12 0] []) .d)) [.tmp 4] 105 0 (fun d=>te N d.1 d.2.1) Tryz.func105 rfl rfl Tryz.ntmps105 rfl rfl rfl (fun d=>by kernel_rfl)
def QA(N:Nat) (a0:cB) (a1:cB):Option (Int):=
  Option.bind (te N a0.1 a1.1) fun aF=>
  Option.bind (te N a0.2.1 a1.2.1) fun a7=>
  Option.bind (Jy N [aF,a7]) fun bt=>
  some bt
noncomputable def adP (N:Nat):bC bS:=ch N b0 (by kernel_rfl) [.cY cx,.cY cx] [] ⟨.a (.c (.int .i64)),[],[]⟩ [Ah N,Qz N] [] (.s (.r [.n 3,.w (.cd 2 cx),.w (.cd 3 cx)]) (.s (.o [] [.t 0 0,.t 1 1,.t 2 0,.t 3 1,.t 5 0,.t 6 1,.t 7 0,.t 8 1,.c 4 [],.c 9 [],.s 10,.z 15,.c 11 [],.t 12 0] []) .d)) [.tmp 4] 151 0 (fun d=>QA N d.1 d.2.1) Tryz.func151 rfl rfl Tryz.ntmps151 rfl rfl rfl (fun d=>by kernel_rfl)
end
section
open Go.RowKit
end
section
open Go.RowKit
end
section
open Go.RowKit
end
section
open Go.RowKit
end
section
open Go.RowKit
end
section
open Go.RowKit
def Ai(N:Nat) (a0:(List (List bu))) (a1:ad):Option (Bool):=
  au ((eo (decide ((1:Int)<=a1.1)) (bj a1.1))&&((eo (cond (cond (decide ((1:Int)<=a1.1)) (decide (a1.1<=(a0.length:Int))) false) (decide ((0:Int)<=a1.2)) false) (bc (IntKind.wrap .u8 (a1.1 - (1:Int))) a0.length))&&(true))) <|
  some (cond (cond (cond (decide ((1:Int)<=a1.1)) (decide (a1.1<=(a0.length:Int))) false) (decide ((0:Int)<=a1.2)) false) (decide (a1.2 < ((a0.getD (IntKind.wrap .u8 (a1.1 - (1:Int))).toNat []).length:Int))) false)
noncomputable def adQ (N:Nat):bC bS:=ch N b0 (by kernel_rfl) [.c (.bk (.ai ct)),.cY aB] [] ⟨.a (.c .bool),[],[]⟩ [] [] (.s (.r [.n 2,.w (.cd 3 aB)]) (.s (.o [] [.t 0 0,.t 1 1,.t 2 0,.t 3 0,.t 4 0,.t 5 1,.t 6 0,.t 7 0,.t 8 0,.t 9 0,.t 10 0,.t 11 0,.t 12 0,.t 13 1,.t 14 0,.t 15 0,.t 16 0,.t 17 0,.t 18 1,.t 19 0,.t 20 0,.t 21 1,.t 22 0,.t 23 0,.t 24 1,.t 25 0,.t 26 0,.t 27 0,.t 28 0] []) .d)) [.tmp 4] 225 false (fun d=>Ai N d.1 d.2.1) Tryz.func225 rfl rfl Tryz.ntmps225 rfl rfl rfl (fun d=>by kernel_rfl)
def Jz(N:Nat) (a0:(List (List bu))) (a1:bu):Nat->Int->Option ((Unit)⊕(Bool)):=cn fun d1 dw=>
  cond (decide (d1 < (a1.2.2.1.length:Int))) (au ((bc d1 a1.2.2.1.length)&&(true)) <|
  Option.bind (Ai N a0 (a1.2.2.1.getD d1.toNat aB.zero)) fun a7=>
  cond (!a7) (some (.inr false)) (au ((bj (d1+(1:Int)))&&(true)) <|
  dw (d1+(1:Int)))) (some (.inl ()))
def JA(N:Nat) (a0:(List (List bu))) (a1:bu):Nat->Int->Option ((Unit)⊕(Bool)):=cn fun d3 hB=>
  cond (decide (d3 < (a1.2.2.2.length:Int))) (au ((bc d3 a1.2.2.2.length)&&(true)) <|
  Option.bind (Ai N a0 (a1.2.2.2.getD d3.toNat ep.zero).1) fun b6=>
  cond (cond (!b6) true (cond (!(decide ((a1.2.2.2.getD d3.toNat ep.zero).2.2=(0:Int)))) (!(decide ((a1.2.2.2.getD d3.toNat ep.zero).2.2=(1:Int)))) false)) (some (.inr false)) (au ((bj (d3+(1:Int)))&&(true)) <|
  hB (d3+(1:Int)))) (some (.inl ()))
def DB(N:Nat) (a0:(List (List bu))) (a1:bu):Option (Bool):=
  cond (cond (!(decide (a1.1=(0:Int)))) (!(decide (a1.1=(1:Int)))) false) (some false) (cond (cond (decide ((4:Int) < (a1.2.2.1.length:Int))) true (decide ((4096:Int) < (a1.2.2.2.length:Int)))) (some false) (Option.bind (Jz N a0 a1 N (0:Int)) fun(aT:(Unit)⊕(Bool))=>
  sm aT (fun aT=>
  Option.bind (JA N a0 a1 N (0:Int)) fun(b7:(Unit)⊕(Bool))=>
  sm b7 (fun b7=>
  Option.bind (Dw N a1.2.2.2) fun bU=>
  some (decide ((bU.1.length:Int)=(a1.2.2.2.length:Int)))) (fun q=>some q)) (fun q=>some q)))
noncomputable def adR (N:Nat):bC bS:=ch N b0 (by kernel_rfl) [.c (.bk (.ai ct)),.cY ct] [] ⟨.a (.c .bool),[],[]⟩ [adQ N,adE N] [] (.s (.r [.n 2,.w (.cd 3 ct)]) (.s .d (.s .d (.s (.s .d (.b (.fD 0 ⟨[(30,.a (.c (.int .i64)))],[],[0,3,28,29],[]⟩ ⟨[],[],[0,3],[]⟩ (.s .d (.s .d (.s (.b (.s (.r [.n 4,.w (.cd 6 aB)]) .d)) .d)))))) (.s (.s .d (.b (.fD 2 ⟨[(42,.a (.c (.int .i64)))],[],[0,3,40,41],[]⟩ ⟨[],[],[3],[]⟩ (.s .d (.s .d (.s (.b (.s (.r [.n 4,.w (.cd 8 ep)]) .d)) .d)))))) (.s (.o [] [.t 0 0,.t 1 1,.t 4 0,.t 5 1,.t 6 0,.c 2 [],.t 3 0,.t 7 0,.t 8 0] []) .d)))))) [.tmp 4] 212 false (fun d=>DB N d.1 d.2.1) Tryz.func212 rfl rfl Tryz.ntmps212 rfl rfl rfl (fun d=>by kernel_rfl)
def JB(N:Nat) (a0:(List (List bu))) (dq:Int):Nat->Int->Option ((Unit)⊕((Unit)⊕(Int))):=cn fun d2 ft=>
  cond (decide (d2 < ((a0.getD dq.toNat []).length:Int))) (au ((bc d2 (a0.getD dq.toNat []).length)&&(true)) <|
  Option.bind (DB N a0 ((a0.getD dq.toNat []).getD d2.toNat ct.zero)) fun bt=>
  cond (cond (!bt) true (cond (decide (d2=(0:Int))) (!((a0.getD dq.toNat []).getD d2.toNat ct.zero).2.1) false)) (some (.inr (.inr (1:Int)))) (au ((bj (d2+(1:Int)))&&(true)) <|
  ft (d2+(1:Int)))) (some (.inl ()))
def JC(N:Nat) (a0:(List (List bu))):Nat->Int->Option ((Unit)⊕(Int)):=cn fun d1 dw=>
  cond (decide (d1 < (a0.length:Int))) (au ((bc d1 a0.length)&&(true)) <|
  Option.bind (JB N a0 d1 N (0:Int)) fun(bM:(Unit)⊕((Unit)⊕(Int)))=>
  sm bM (fun bM=>
  au ((bj (d1+(1:Int)))&&(true)) <|
  dw (d1+(1:Int))) (fun q=>some q)) (some (.inl ()))
def DC(N:Nat) (a0:(List (List bu))):Option (Int):=
  Option.bind (JC N a0 N (0:Int)) fun(aT:(Unit)⊕(Int))=>
  sm aT (fun aT=>
  some (0:Int)) (fun q=>some q)
noncomputable def adS (N:Nat):bC bS:=ch N b0 (by kernel_rfl) [.c (.bk (.ai ct))] [] ⟨.a (.c (.int .i64)),[],[]⟩ [adR N] [] (.s .d (.s (.s .d (.b (.fD 0 ⟨[(9,.a (.c (.int .i64)))],[],[0,7,8],[]⟩ ⟨[],[],[],[]⟩ (.s .d (.s .d (.s (.b (.s .d (.s .d (.b (.fD 2 ⟨[(15,.a (.c (.int .i64)))],[],[0,7,8,9,13,14],[]⟩ ⟨[],[],[0,7,8,9],[]⟩ (.s .d (.s .d (.s (.b (.s (.r [.n 6,.w (.cd 6 ct)]) .d)) .d)))))))) .d)))))) .d)) [.tmp 2] 189 0 (fun d=>DC N d.1) Tryz.func189 rfl rfl Tryz.ntmps189 rfl rfl rfl (fun d=>by kernel_rfl)
def vd(N:Nat) (a0:bu) (a1:Int):Option (ad):=
  cond (decide (a1 < (a0.2.2.1.length:Int))) (au ((bc a1 a0.2.2.1.length)&&(true)) <|
  some (a0.2.2.1.getD a1.toNat aB.zero)) (au ((bj (a1 - (a0.2.2.1.length:Int)))&&((bc (a1 - (a0.2.2.1.length:Int)) a0.2.2.2.length)&&(true))) <|
  some (a0.2.2.2.getD (a1 - (a0.2.2.1.length:Int)).toNat ep.zero).1)
noncomputable def adT (N:Nat):bC bS:=ch N b0 (by kernel_rfl) [.cY ct,.c (.int .i64)] [] ⟨.a (.cY aB),[],[]⟩ [] [] (.s (.r [.n 2,.w (.cd 2 ct)]) .d) [.cell 4 102] 213 aB.zero (fun d=>vd N d.1 d.2.1) Tryz.func213 rfl rfl Tryz.ntmps213 rfl rfl rfl (fun d=>by kernel_rfl)
def DD(N:Nat) (a0:(List ad)):Option ((List ad)×Nat):=
  au (((decide (0<=(a0.length:Int)))&&(decide ((a0.length:Int)<=(a0.length:Int)))&&(gd 16 (a0.length:Int)))&&(true)) <|
  au ((Nat.beq a0.length (List.replicate (a0.length:Int).toNat (aB.zero:ad)).length)&&(true)) <|
  some (a0,(a0.length:Int).toNat)
noncomputable def adU (N:Nat):bC bS:=ch N b0 (by kernel_rfl) [.c (.bk aB)] [] ⟨.a (.c (.jb aB)),[],[]⟩ [] [] (.s .d (.s .d (.s .d (.s .d (.t [.de 6]))))) [.tmp 2] 192 ([],0) (fun d=>DD N d.1) Tryz.func192 rfl rfl Tryz.ntmps192 rfl rfl rfl (fun d=>by kernel_rfl)
def JD(N:Nat) (a0:(List (List bu))) (dq:Int) (hC:Int):Nat->(Int×(List (ad×Int)))->Option (((List (ad×Int)))⊕(((List (ad×Int)))⊕((Unit)⊕(Int)))):=cn fun d3 hB=>
  cond (decide (d3.1 < (((a0.getD dq.toNat []).getD hC.toNat ct.zero).2.2.1.length:Int))) (au ((bc d3.1 ((a0.getD dq.toNat []).getD hC.toNat ct.zero).2.2.1.length)&&(true)) <|
  au ((true&&((bj (((cF aB (.int .i64) d3.2 (((a0.getD dq.toNat []).getD hC.toNat ct.zero).2.2.1.getD d3.1.toNat aB.zero)).getD 0)+(1:Int)))&&true))&&(true)) <|
  cond (decide ((1:Int) < ((cF aB (.int .i64) (eD aB (.int .i64) d3.2 (((a0.getD dq.toNat []).getD hC.toNat ct.zero).2.2.1.getD d3.1.toNat aB.zero) (((cF aB (.int .i64) d3.2 (((a0.getD dq.toNat []).getD hC.toNat ct.zero).2.2.1.getD d3.1.toNat aB.zero)).getD 0)+(1:Int))) (((a0.getD dq.toNat []).getD hC.toNat ct.zero).2.2.1.getD d3.1.toNat aB.zero)).getD 0))) (some (.inr (.inr (.inr (8:Int))))) (au ((bj (d3.1+(1:Int)))&&(true)) <|
  hB ((d3.1+(1:Int)),(eD aB (.int .i64) d3.2 (((a0.getD dq.toNat []).getD hC.toNat ct.zero).2.2.1.getD d3.1.toNat aB.zero) (((cF aB (.int .i64) d3.2 (((a0.getD dq.toNat []).getD hC.toNat ct.zero).2.2.1.getD d3.1.toNat aB.zero)).getD 0)+(1:Int)))))) (some (.inl d3.2))
def JE(N:Nat) (a0:(List (List bu))) (dq:Int):Nat->(Int×(List (ad×Int)))->Option (((List (ad×Int)))⊕((Unit)⊕(Int))):=cn fun d2 ft=>
  cond (decide (d2.1 < ((a0.getD dq.toNat []).length:Int))) (au ((bc d2.1 (a0.getD dq.toNat []).length)&&(true)) <|
  Option.bind (JD N a0 dq d2.1 N ((0:Int),d2.2)) fun(b7:((List (ad×Int)))⊕(((List (ad×Int)))⊕((Unit)⊕(Int))))=>
  sm b7 (fun b7=>
  au ((bj (d2.1+(1:Int)))&&(true)) <|
  ft ((d2.1+(1:Int)),b7)) (fun q=>some q)) (some (.inl d2.2))
def JF(N:Nat) (a0:(List (List bu))):Nat->(Int×(List (ad×Int)))->Option ((Unit)⊕(Int)):=cn fun d1 dw=>
  cond (decide (d1.1 < (a0.length:Int))) (au ((bc d1.1 a0.length)&&(true)) <|
  Option.bind (JE N a0 d1.1 N ((0:Int),d1.2)) fun(bM:((List (ad×Int)))⊕((Unit)⊕(Int)))=>
  sm bM (fun bM=>
  au ((bj (d1.1+(1:Int)))&&(true)) <|
  dw ((d1.1+(1:Int)),bM)) (fun q=>some q)) (some (.inl ()))
def DE(N:Nat) (a0:(List (List bu))):Option (Int):=
  Option.bind (JF N a0 N ((0:Int),([]:List (ad×Int)))) fun(aT:(Unit)⊕(Int))=>
  sm aT (fun aT=>
  some (0:Int)) (fun q=>some q)
noncomputable def adV (N:Nat):bC bS:=ch N b0 (by kernel_rfl) [.c (.bk (.ai ct))] [] ⟨.a (.c (.int .i64)),[],[]⟩ [] [] (.s .d (.s (.r [.t (.nm aB (.int .i64))]) (.s (.s .d (.b (.fD 0 ⟨[(3,.a (.c (.raw (.b8 10)))),(13,.a (.c (.int .i64)))],[(10,.mp aB (.int .i64))],[11,12],[]⟩ ⟨[],[],[],[]⟩ (.s .d (.s .d (.s (.b (.s .d (.s .d (.b (.fD 2 ⟨[(3,.a (.c (.raw (.b8 10)))),(19,.a (.c (.int .i64)))],[(10,.mp aB (.int .i64))],[11,12,13,17,18],[]⟩ ⟨[(3,.a (.c (.raw (.b8 10))))],[(10,.mp aB (.int .i64))],[11,12,13],[]⟩ (.s .d (.s .d (.s (.b (.s (.r [.n 4,.w (.cd 7 ct)]) (.s .d (.b (.fD 4 ⟨[(3,.a (.c (.raw (.b8 10)))),(26,.a (.c (.int .i64)))],[(10,.mp aB (.int .i64))],[11,12,13,17,18,19,24,25],[]⟩ ⟨[(3,.a (.c (.raw (.b8 10))))],[(10,.mp aB (.int .i64))],[11,12,13,17,18,19],[]⟩ (.s .d (.s .d (.s (.b (.s (.r [.n 4,.w (.cd 9 aB)]) (.s (.o [] [.t 0 0,.t 1 1,.w 2 3 4] []) (.s (.r [.n 2,.t .zi]) .d)))) .d)))))))) .d)))))))) .d)))))) .d))) [.tmp 2] 190 0 (fun d=>DE N d.1) Tryz.func190 rfl rfl Tryz.ntmps190 rfl rfl rfl (fun d=>by kernel_rfl)
def Aj(N:Nat) (a0:(List (List bu))) (dO:List Int) (dr:Int) (hB:(Int×(List Int))->Option ((List ad)×(List Int)×(List Int))):Nat->(List Int)->Option (((List Int))⊕((List ad)×(List Int)×(List Int))):=cn fun d4 mf=>
  au ((bc dr d4.length)&&((bj ((((a0.getD dr.toNat []).getD (dO.getD dr.toNat 0).toNat ct.zero).2.2.1.length:Int)+(((a0.getD dr.toNat []).getD (dO.getD dr.toNat 0).toNat ct.zero).2.2.2.length:Int)))&&((decide (dr.toNat < d4.length))&&(true)))) <|
  cond (decide ((d4.getD dr.toNat 0) < ((((a0.getD dr.toNat []).getD (dO.getD dr.toNat 0).toNat ct.zero).2.2.1.length:Int)+(((a0.getD dr.toNat []).getD (dO.getD dr.toNat 0).toNat ct.zero).2.2.2.length:Int)))) (au ((bc dr d4.length)&&(true)) <|
  au ((decide (dr.toNat < d4.length))&&(true)) <|
  Option.bind (vd N ((a0.getD dr.toNat []).getD (dO.getD dr.toNat 0).toNat ct.zero) (d4.getD dr.toNat 0)) fun bU=>
  au ((bc (IntKind.wrap .u8 (bU.1 - (1:Int))) dO.length)&&((decide ((IntKind.wrap .u8 (bU.1 - (1:Int))).toNat < dO.length))&&(true))) <|
  cond (decide ((dO.getD (IntKind.wrap .u8 (bU.1 - (1:Int))).toNat 0)<=bU.2)) (Option.bind (au ((bj (dr+(1:Int)))&&(true)) <|
  hB ((dr+(1:Int)),d4)) fun q=>some (.inr q)) (au ((bc dr d4.length)&&((decide (dr.toNat < d4.length))&&((bj ((d4.getD dr.toNat 0)+(1:Int)))&&((bc dr d4.length)&&(((decide (dr.toNat < d4.length))&&(true))&&(true)))))) <|
  mf (d4.set dr.toNat ((d4.getD dr.toNat 0)+(1:Int))))) (some (.inl d4))
def Ak(N:Nat) (a0:(List (List bu))) (hC:List ad) (dO:List Int):Nat->(Int×(List Int))->Option ((List ad)×(List Int)×(List Int)):=cn fun d3 hB=>
  cond (decide (d3.1 < (a0.length:Int))) (au ((bc d3.1 a0.length)&&(true)) <|
  au ((bc d3.1 dO.length)&&((decide (d3.1.toNat < dO.length))&&(true))) <|
  cond (decide ((dO.getD d3.1.toNat 0)=((a0.getD d3.1.toNat []).length:Int))) (au ((bj (d3.1+(1:Int)))&&(true)) <|
  hB ((d3.1+(1:Int)),d3.2)) (au ((bc d3.1 dO.length)&&((decide (d3.1.toNat < dO.length))&&((bc (dO.getD d3.1.toNat 0) (a0.getD d3.1.toNat []).length)&&(true)))) <|
  Option.bind (Aj N a0 dO d3.1 hB N d3.2) fun(eX:((List Int))⊕((List ad)×(List Int)×(List Int)))=>
  sm eX (fun eX=>
  au ((bj (d3.1+(1:Int)))&&((bc d3.1 dO.length)&&((decide (d3.1.toNat < dO.length))&&((eg 16 (hC.length+[((IntKind.wrap .u8 (d3.1+(1:Int))),(dO.getD d3.1.toNat 0))].length))&&(true))))) <|
  au ((bc d3.1 dO.length)&&((decide (d3.1.toNat < dO.length))&&((bj ((dO.getD d3.1.toNat 0)+(1:Int)))&&((bc d3.1 dO.length)&&(((decide (d3.1.toNat < dO.length))&&(true))&&(true)))))) <|
  au ((bc d3.1 eX.length)&&(((decide (d3.1.toNat < eX.length))&&(true))&&(true))) <|
  some ((hC++[((IntKind.wrap .u8 (d3.1+(1:Int))),(dO.getD d3.1.toNat 0))]),(dO.set d3.1.toNat ((dO.getD d3.1.toNat 0)+(1:Int))),(eX.set d3.1.toNat (0:Int)))) (fun q=>some q))) (some (hC,dO,d3.2))
def Al(N:Nat) (a0:(List (List bu))) (aF:Int):Nat->(List ad)×(List Int)×(List Int)->Option ((List ad)):=cn fun d2 ft=>
  cond (decide ((d2.1.length:Int) < aF)) (Option.bind (Ak N a0 d2.1 d2.2.1 N ((0:Int),d2.2.2)) fun b7=>
  cond (decide ((b7.1.length:Int)=(d2.1.length:Int))) (some b7.1) (ft (b7.1,b7.2.1,b7.2.2))) (some d2.1)
def ve(N:Nat) (a0:(List (List bu))):Option ((List ad)):=
  Option.bind (vc N a0) fun aF=>
  au (((decide ((0:Int)<=aF))&&(gd 16 aF))&&(true)) <|
  au (((decide (0<=(a0.length:Int)))&&(decide ((a0.length:Int)<=(a0.length:Int)))&&(gd 8 (a0.length:Int)))&&(true)) <|
  au (((decide (0<=(a0.length:Int)))&&(decide ((a0.length:Int)<=(a0.length:Int)))&&(gd 8 (a0.length:Int)))&&(true)) <|
  Option.bind (Al N a0 aF N (([]:List ad),(List.replicate (a0.length:Int).toNat (0:Int)),(List.replicate (a0.length:Int).toNat (0:Int)))) fun bM=>
  some bM
noncomputable def JG (N:Nat) (a0:(List (List bu))) (dO:List Int) (dr:Int) (hB:(Int×(List Int))->Option ((List ad)×(List Int)×(List Int))):Nat->(List Int)->Option (((List Int))⊕((List ad)×(List Int)×(List Int))):=cn fun d4 mf=>
  au ((bc dr d4.length)&&((bj ((((a0.getD dr.toNat []).getD (dO.getD dr.toNat 0).toNat ct.zero).2.2.1.length:Int)+(((a0.getD dr.toNat []).getD (dO.getD dr.toNat 0).toNat ct.zero).2.2.2.length:Int)))&&((decide (dr.toNat < d4.length))&&(true)))) <|
  cond (decide ((d4.getD dr.toNat 0) < ((((a0.getD dr.toNat []).getD (dO.getD dr.toNat 0).toNat ct.zero).2.2.1.length:Int)+(((a0.getD dr.toNat []).getD (dO.getD dr.toNat 0).toNat ct.zero).2.2.2.length:Int)))) (au ((bc dr d4.length)&&(true)) <|
  eW (au ((decide (dr.toNat < d4.length))&&(true)) <|
  eW (Option.bind (vd N ((a0.getD dr.toNat []).getD (dO.getD dr.toNat 0).toNat ct.zero) (d4.getD dr.toNat 0)) fun bU=>
  au ((bc (IntKind.wrap .u8 (bU.1 - (1:Int))) dO.length)&&((decide ((IntKind.wrap .u8 (bU.1 - (1:Int))).toNat < dO.length))&&(true))) <|
  cond (decide ((dO.getD (IntKind.wrap .u8 (bU.1 - (1:Int))).toNat 0)<=bU.2)) (Option.bind (au ((bj (dr+(1:Int)))&&(true)) <|
  hB ((dr+(1:Int)),d4)) fun q=>some (.inr q)) (au ((bc dr d4.length)&&((decide (dr.toNat < d4.length))&&((bj ((d4.getD dr.toNat 0)+(1:Int)))&&((bc dr d4.length)&&(((decide (dr.toNat < d4.length))&&(true))&&(true)))))) <|
  mf (d4.set dr.toNat ((d4.getD dr.toNat 0)+(1:Int))))) (Option.bind (vd N ((a0.getD dr.toNat []).getD (dO.getD dr.toNat 0).toNat ct.zero) (d4.getD dr.toNat 0)) fun bU=>
  au ((bc (IntKind.wrap .u8 (bU.1 - (1:Int))) dO.length)&&((decide ((IntKind.wrap .u8 (bU.1 - (1:Int))).toNat < dO.length))&&(true))) <|
  cond (decide ((dO.getD (IntKind.wrap .u8 (bU.1 - (1:Int))).toNat 0)<=bU.2)) (Option.bind (au ((bj (dr+(1:Int)))&&(true)) <|
  hB ((dr+(1:Int)),d4)) fun q=>some (.inr q)) (au ((bc dr d4.length)&&((decide (dr.toNat < d4.length))&&((bj ((d4.getD dr.toNat 0)+(1:Int)))&&((bc dr d4.length)&&(((decide (dr.toNat < d4.length))&&(true))&&(true)))))) <|
  mf (d4.set dr.toNat ((d4.getD dr.toNat 0)+(1:Int)))))) (au ((decide (dr.toNat < d4.length))&&(true)) <|
  Option.bind (vd N ((a0.getD dr.toNat []).getD (dO.getD dr.toNat 0).toNat ct.zero) (d4.getD dr.toNat 0)) fun bU=>
  au ((bc (IntKind.wrap .u8 (bU.1 - (1:Int))) dO.length)&&((decide ((IntKind.wrap .u8 (bU.1 - (1:Int))).toNat < dO.length))&&(true))) <|
  cond (decide ((dO.getD (IntKind.wrap .u8 (bU.1 - (1:Int))).toNat 0)<=bU.2)) (Option.bind (au ((bj (dr+(1:Int)))&&(true)) <|
  hB ((dr+(1:Int)),d4)) fun q=>some (.inr q)) (au ((bc dr d4.length)&&((decide (dr.toNat < d4.length))&&((bj ((d4.getD dr.toNat 0)+(1:Int)))&&((bc dr d4.length)&&(((decide (dr.toNat < d4.length))&&(true))&&(true)))))) <|
  mf (d4.set dr.toNat ((d4.getD dr.toNat 0)+(1:Int)))))) (some (.inl d4))
noncomputable def JH (N:Nat) (a0:(List (List bu))) (hC:List ad) (dO:List Int):Nat->(Int×(List Int))->Option ((List ad)×(List Int)×(List Int)):=cn fun d3 hB=>
  cond (decide (d3.1 < (a0.length:Int))) (au ((bc d3.1 a0.length)&&(true)) <|
  au ((bc d3.1 dO.length)&&((decide (d3.1.toNat < dO.length))&&(true))) <|
  cond (decide ((dO.getD d3.1.toNat 0)=((a0.getD d3.1.toNat []).length:Int))) (au ((bj (d3.1+(1:Int)))&&(true)) <|
  hB ((d3.1+(1:Int)),d3.2)) (au ((bc d3.1 dO.length)&&((decide (d3.1.toNat < dO.length))&&((bc (dO.getD d3.1.toNat 0) (a0.getD d3.1.toNat []).length)&&(true)))) <|
  Option.bind (JG N a0 dO d3.1 hB N d3.2) fun(eX:((List Int))⊕((List ad)×(List Int)×(List Int)))=>
  sm eX (fun eX=>
  au ((bj (d3.1+(1:Int)))&&((bc d3.1 dO.length)&&((decide (d3.1.toNat < dO.length))&&((eg 16 (hC.length+[((IntKind.wrap .u8 (d3.1+(1:Int))),(dO.getD d3.1.toNat 0))].length))&&(true))))) <|
  au ((bc d3.1 dO.length)&&((decide (d3.1.toNat < dO.length))&&((bj ((dO.getD d3.1.toNat 0)+(1:Int)))&&((bc d3.1 dO.length)&&(((decide (d3.1.toNat < dO.length))&&(true))&&(true)))))) <|
  au ((bc d3.1 eX.length)&&(((decide (d3.1.toNat < eX.length))&&(true))&&(true))) <|
  some ((hC++[((IntKind.wrap .u8 (d3.1+(1:Int))),(dO.getD d3.1.toNat 0))]),(dO.set d3.1.toNat ((dO.getD d3.1.toNat 0)+(1:Int))),(eX.set d3.1.toNat (0:Int)))) (fun q=>some q))) (some (hC,dO,d3.2))
noncomputable def JI (N:Nat) (a0:(List (List bu))) (aF:Int):Nat->(List ad)×(List Int)×(List Int)->Option ((List ad)):=cn fun d2 ft=>
  cond (decide ((d2.1.length:Int) < aF)) (Option.bind (JH N a0 d2.1 d2.2.1 N ((0:Int),d2.2.2)) fun b7=>
  cond (decide ((b7.1.length:Int)=(d2.1.length:Int))) (some b7.1) (ft (b7.1,b7.2.1,b7.2.2))) (some d2.1)
noncomputable def DF (N:Nat) (a0:(List (List bu))):Option ((List ad)):=
  Option.bind (vc N a0) fun aF=>
  au (((decide ((0:Int)<=aF))&&(gd 16 aF))&&(true)) <|
  au (((decide (0<=(a0.length:Int)))&&(decide ((a0.length:Int)<=(a0.length:Int)))&&(gd 8 (a0.length:Int)))&&(true)) <|
  au (((decide (0<=(a0.length:Int)))&&(decide ((a0.length:Int)<=(a0.length:Int)))&&(gd 8 (a0.length:Int)))&&(true)) <|
  Option.bind (JI N a0 aF N (([]:List ad),(List.replicate (a0.length:Int).toNat (0:Int)),(List.replicate (a0.length:Int).toNat (0:Int)))) fun bM=>
  some bM
theorem adW:JG=Aj:=by
 unfold JG Aj;simp only[nT]
theorem adX:JH=Ak:=by
 unfold JH Ak;rw[adW]
theorem adY:JI=Al:=by
 unfold JI Al;rw[adX]
theorem adZ:DF=ve:=by
 unfold DF ve;rw[adY]
noncomputable def ad0 (N:Nat):bC bS:=nY N b0 (by kernel_rfl) [.c (.bk (.ai ct))] [] ⟨.a (.c (.bk aB)),[],[]⟩ [Qv N,adT N] [] (.s .d (.s .d (.s .d (.s .d (.s .d (.s (.b (.eO 0 ⟨[(4,.a (.c (.raw (.ai 15)))),(5,.a (.c (.raw (.ai 18)))),(6,.a (.c (.raw (.ai 21))))],[(15,.row 102 aB),(18,.row 3 (.int .i64)),(21,.row 3 (.int .i64))],[0,3],[]⟩ ⟨[(4,.a (.c (.raw (.ai 15))))],[(15,.row 102 aB)],[],[]⟩ (.s .d (.b (.b (.s .d (.s .d (.s (.s .d (.b (.eO 2 ⟨[(4,.a (.c (.raw (.ai 15)))),(5,.a (.c (.raw (.ai 18)))),(6,.a (.c (.raw (.ai 21)))),(30,.a (.c (.int .i64)))],[(21,.row 3 (.int .i64))],[0,3,7,28,29],[15,18]⟩ ⟨[(4,.a (.c (.raw (.ai 15)))),(5,.a (.c (.raw (.ai 18)))),(6,.a (.c (.raw (.ai 21))))],[(15,.row 102 aB),(18,.row 3 (.int .i64)),(21,.row 3 (.int .i64))],[0,3,7],[]⟩ (.s .d (.s .d (.s (.b (.s .d (.s .d (.s (.r [.n 9,.w (.cd 10 ct)]) (.s (.b (.fD 4 ⟨[(4,.a (.c (.raw (.ai 15)))),(5,.a (.c (.raw (.ai 18)))),(6,.a (.c (.raw (.ai 21))))],[(21,.row 3 (.int .i64))],[0,3,7,8,10,28,29,30],[15,18]⟩ ⟨[(4,.a (.c (.raw (.ai 15)))),(5,.a (.c (.raw (.ai 18)))),(6,.a (.c (.raw (.ai 21))))],[(21,.row 3 (.int .i64))],[0,3,7,8],[15,18]⟩ (.s (.s (.o [] [.t 0 0,.t 1 0,.t 2 0,.t 4 0,.t 5 1,.t 6 0,.t 7 0,.t 8 1,.t 9 0,.t 10 0,.s 3,.t 11 0] []) .d) (.b (.s (.s (.hn [] [] (.b [.t 0 1,.t 1 0,.t 2 0,.t 3 0] 4 6 [] [] none none (.b [] 5 6 [] [] none none (.f [.s 6,.s 7]) (.f [.c 5 [],.s 7])) (.f [.f,.s 4,.c 5 [],.s 7])) [(.cd 11 aB)] false) (.s (.o [] [.t 0 0,.t 1 1,.t 2 0,.t 3 0,.t 4 1,.t 5 0,.t 6 0,.s 7,.t 8 0] []) .d)) .d))))) .d))))) .d)))))) .d)))))))) (.s .d (.t [.de 15])))))))) [.tmp 2] 191 [] (fun d=>DF N d.1) (fun d=>ve N d.1) (fun d=>(by rw[adZ]:DF N d.1=ve N d.1)) Tryz.func191 rfl rfl Tryz.ntmps191 rfl rfl rfl (fun d=>by kernel_rfl)
end
section
open Go.RowKit
def JJ(N:Nat) (a0:(List (List bu))):Option ((List ad)×Nat×Int):=
  cond (!(decide ((a0.length:Int)=(6:Int)))) (some (([]:List ad),0,(5:Int))) (Option.bind (vc N a0) fun aF=>
  cond (decide ((2048:Int) < aF)) (some (([]:List ad),0,(3:Int))) (Option.bind (DC N a0) fun a7=>
  cond (!(decide (a7=(0:Int)))) (some (([]:List ad),0,a7)) (Option.bind (DE N a0) fun bt=>
  cond (!(decide (bt=(0:Int)))) (some (([]:List ad),0,bt)) (Option.bind (ve N a0) fun b6=>
  Option.bind (vc N a0) fun bU=>
  cond (decide ((b6.length:Int) < bU)) (some (([]:List ad),0,(6:Int))) (Option.bind (DD N b6) fun cq=>
  some (cq.1,cq.2,(0:Int)))))))
noncomputable def ad1 (N:Nat):bC bS:=ch N b0 (by kernel_rfl) [.c (.bk (.ai ct))] [] ⟨.c3 [.c (.jb aB),.c (.int .i64)],[],[]⟩ [Qv N,adS N,adV N,ad0 N,adU N] [] (.d) [.tmp 2,.tmp 3] 149 ([],0,0) (fun d=>JJ N d.1) Tryz.func149 rfl rfl Tryz.ntmps149 rfl rfl rfl (fun d=>by kernel_rfl)
def DG(N:Nat) (a0:(List (List bu))):Option (Int):=
  Option.bind (JJ N a0) fun aF=>
  some aF.2.2
noncomputable def ad2 (N:Nat):bC bS:=ch N b0 (by kernel_rfl) [.c (.bk (.ai ct))] [] ⟨.a (.c (.int .i64)),[],[]⟩ [ad1 N] [] (.d) [.tmp 2] 123 0 (fun d=>DG N d.1) Tryz.func123 rfl rfl Tryz.ntmps123 rfl rfl rfl (fun d=>by kernel_rfl)
def Am(N:Nat) (a0:(List (List bu))) (a1:ad):Option (Bool):=
  au ((eo (decide ((1:Int)<=a1.1)) (bj a1.1))&&((eo (cond (cond (decide ((1:Int)<=a1.1)) (decide (a1.1<=(a0.length:Int))) false) (decide ((0:Int)<=a1.2)) false) (bc (IntKind.wrap .u8 (a1.1 - (1:Int))) a0.length))&&(true))) <|
  some (cond (cond (cond (decide ((1:Int)<=a1.1)) (decide (a1.1<=(a0.length:Int))) false) (decide ((0:Int)<=a1.2)) false) (decide (a1.2 < ((a0.getD (IntKind.wrap .u8 (a1.1 - (1:Int))).toNat []).length:Int))) false)
noncomputable def QB (N:Nat):bC bS:=ch N b0 (by kernel_rfl) [.c (.bk (.ai ct)),.cY aB] [] ⟨.a (.c .bool),[],[]⟩ [] [] (.s (.r [.n 2,.w (.cd 3 aB)]) (.s (.o [] [.t 0 0,.t 1 1,.t 2 0,.t 3 0,.t 4 0,.t 5 1,.t 6 0,.t 7 0,.t 8 0,.t 9 0,.t 10 0,.t 11 0,.t 12 0,.t 13 1,.t 14 0,.t 15 0,.t 16 0,.t 17 0,.t 18 1,.t 19 0,.t 20 0,.t 21 1,.t 22 0,.t 23 0,.t 24 1,.t 25 0,.t 26 0,.t 27 0,.t 28 0] []) .d)) [.tmp 4] 150 false (fun d=>Am N d.1 d.2.1) Tryz.func150 rfl rfl Tryz.ntmps150 rfl rfl rfl (fun d=>by kernel_rfl)
def QC(N:Nat) (a0:nt):Nat->Int->Option ((Unit)⊕(Int)):=cn fun d1 dw=>
  cond (decide (d1 < (a0.2.1.length:Int))) (au ((bc d1 a0.2.1.length)&&(true)) <|
  Option.bind (Am N a0.1 (a0.2.1.getD d1.toNat cx.zero).1) fun a7=>
  Option.bind (cond (!(!a7)) (Am N a0.1 (a0.2.1.getD d1.toNat cx.zero).2.1) (some false)) fun bt=>
  Option.bind (cond (!(cond (!a7) true (!bt))) (te N (a0.2.1.getD d1.toNat cx.zero).1 (a0.2.1.getD d1.toNat cx.zero).2.1) (some 0)) fun b6=>
  cond (cond (cond (!a7) true (!bt)) true (decide ((0:Int)<=b6))) (some (.inr (1:Int))) (cond (cond (cond (decide ((a0.2.1.getD d1.toNat cx.zero).2.2 < (-1048576:Int))) true (decide ((1048576:Int) < (a0.2.1.getD d1.toNat cx.zero).2.2))) true (decide ((a0.2.1.getD d1.toNat cx.zero).2.2=(0:Int)))) (some (.inr (1:Int))) (au ((eo (decide ((0:Int) < d1)) (bj (d1 - (1:Int))))&&((eo (decide ((0:Int) < d1)) (bc (d1 - (1:Int)) a0.2.1.length))&&(true))) <|
  Option.bind (cond (decide ((0:Int) < d1)) (QA N (a0.2.1.getD (d1 - (1:Int)).toNat cx.zero) (a0.2.1.getD d1.toNat cx.zero)) (some 0)) fun bU=>
  cond (cond (decide ((0:Int) < d1)) (decide ((0:Int)<=bU)) false) (some (.inr (1:Int))) (au ((bj (d1+(1:Int)))&&(true)) <|
  dw (d1+(1:Int)))))) (some (.inl ()))
def DH(N:Nat) (a0:nt):Option (Int):=
  Option.bind (QC N a0 N (0:Int)) fun(aT:(Unit)⊕(Int))=>
  sm aT (fun aT=>
  some (0:Int)) (fun q=>some q)
noncomputable def ad3 (N:Nat):bC bS:=ch N b0 (by kernel_rfl) [.cY u4] [] ⟨.a (.c (.int .i64)),[],[]⟩ [QB N,Ah N,adP N] [] (.s (.r [.n 2,.w (.cd 1 u4)]) (.s (.s .d (.b (.fD 0 ⟨[(8,.a (.c (.int .i64)))],[],[1,6,7],[]⟩ ⟨[],[],[],[]⟩ (.s .d (.s .d (.s (.b (.s (.r [.n 6,.w (.cd 4 cx)]) (.s .d (.s .d (.s (.o [] [.t 0 0,.t 1 0,.t 2 0,.t 3 0,.t 4 1,.t 5 0,.t 6 0,.t 7 0,.t 8 1,.t 9 1,.g 10,.t 11 0,.t 12 0] []) .d))))) .d)))))) .d)) [.tmp 2] 124 0 (fun d=>DH N d.1) Tryz.func124 rfl rfl Tryz.ntmps124 rfl rfl rfl (fun d=>by kernel_rfl)
def JK(N:Nat) (a0:(List ad)):Nat->(Int×(List (ad×Int)))->Option ((List (ad×Int))):=cn fun d1 dw=>
  cond (decide (d1.1 < (a0.length:Int))) (au ((bc d1.1 a0.length)&&(true)) <|
  au ((true&&((bj (((cF aB (.int .i64) d1.2 (a0.getD d1.1.toNat aB.zero)).getD 0)+(1:Int)))&&true))&&(true)) <|
  au ((bj (d1.1+(1:Int)))&&(true)) <|
  dw ((d1.1+(1:Int)),(eD aB (.int .i64) d1.2 (a0.getD d1.1.toNat aB.zero) (((cF aB (.int .i64) d1.2 (a0.getD d1.1.toNat aB.zero)).getD 0)+(1:Int))))) (some d1.2)
def xv(N:Nat) (a0:(List ad)) (a1:List (ad×Int)):Option ((List (ad×Int))):=
  Option.bind (JK N a0 N ((0:Int),a1)) fun aT=>
  some aT
noncomputable def ad4 (N:Nat):bC bS:=ch N b0 (by kernel_rfl) [.c (.bk aB),.c (.raw (.ptr 1000000 0))] [(1000000,.cells 233 [.raw (.b8 1000001)]),(1000001,.mp aB (.int .i64))] ⟨.c3 [],[(1000000,.cells 233 [.raw (.b8 1000001)]),(1000001,.mp aB (.int .i64))],[]⟩ [] [] (.s .d (.b (.eO 0 ⟨[(1,.a (.c (.raw (.ptr 1000000 0)))),(7,.a (.c (.int .i64)))],[(1000000,.cells 233 [.raw (.b8 1000001)]),(1000001,.mp aB (.int .i64))],[5,6],[]⟩ ⟨[],[(1000000,.cells 233 [.raw (.b8 1000001)]),(1000001,.mp aB (.int .i64))],[],[]⟩ (.s .d (.s .d (.s (.b (.s (.r [.n 4,.w (.cd 4 aB)]) (.o [1] [.t 0 3,.t 1 1,.w 2 3 4] []))) .d)))))) [] 152 [] (fun d=>xv N d.1 d.2.1) Tryz.func152 rfl rfl Tryz.ntmps152 rfl rfl rfl (fun d=>by kernel_rfl)
def DI(N:Nat) (a0:nt) (dq:Int):Nat->Int->Option ((Unit)⊕((Unit)⊕(Int))):=cn fun d2 ft=>
  cond (decide (d2 < ((([a0.2.2.1,a0.2.2.2]:List (List ad)).getD dq.toNat []).length:Int))) (au ((bc d2 (([a0.2.2.1,a0.2.2.2]:List (List ad)).getD dq.toNat []).length)&&(true)) <|
  Option.bind (Am N a0.1 ((([a0.2.2.1,a0.2.2.2]:List (List ad)).getD dq.toNat []).getD d2.toNat aB.zero)) fun bt=>
  cond (!bt) (some (.inr (.inr (7:Int)))) (au ((bj (d2+(1:Int)))&&(true)) <|
  ft (d2+(1:Int)))) (some (.inl ()))
def JL(N:Nat) (a0:nt):Nat->Int->Option ((Unit)⊕(Int)):=cn fun d1 dw=>
  cond (decide (d1 < (2:Int))) (au (((bc d1 2)&&(bc d1 ([a0.2.2.1,a0.2.2.2]:List (List ad)).length))&&(true)) <|
  Option.bind (DI N a0 d1 N (0:Int)) fun(bM:(Unit)⊕((Unit)⊕(Int)))=>
  sm bM (fun bM=>
  au ((bj (d1+(1:Int)))&&(true)) <|
  dw (d1+(1:Int))) (fun q=>some q)) (some (.inl ()))
def JM(N:Nat) (a0:nt):Nat->Int->Option ((Unit)⊕(Int)):=cn fun d4 mf=>
  cond (decide (d4 < (a0.2.2.2.length:Int))) (au ((bc d4 a0.2.2.2.length)&&(true)) <|
  au ((eo (decide ((0:Int) < d4)) (bj (d4 - (1:Int))))&&((eo (decide ((0:Int) < d4)) (bc (d4 - (1:Int)) a0.2.2.2.length))&&(true))) <|
  Option.bind (cond (decide ((0:Int) < d4)) (te N (a0.2.2.2.getD (d4 - (1:Int)).toNat aB.zero) (a0.2.2.2.getD d4.toNat aB.zero)) (some 0)) fun bU=>
  cond (cond (decide ((0:Int) < d4)) (decide ((0:Int)<=bU)) false) (some (.inr (6:Int))) (au ((bj (d4+(1:Int)))&&(true)) <|
  mf (d4+(1:Int)))) (some (.inl ()))
def JN(N:Nat) (a0:nt) (JO:Int):Nat->(Int×(List (ad×Int)))->Option ((List (ad×Int))):=cn fun d9 ad5=>
  cond (decide (d9.1 < ((a0.1.getD JO.toNat []).length:Int))) (au ((bc d9.1 (a0.1.getD JO.toNat []).length)&&(true)) <|
  Option.bind (xv N ((a0.1.getD JO.toNat []).getD d9.1.toNat ct.zero).2.2.1 d9.2) fun k4=>
  au ((bj (d9.1+(1:Int)))&&(true)) <|
  ad5 ((d9.1+(1:Int)),k4)) (some d9.2)
def JP(N:Nat) (a0:nt):Nat->(Int×(List (ad×Int)))->Option ((List (ad×Int))):=cn fun d8 JQ=>
  cond (decide (d8.1 < (a0.1.length:Int))) (au ((bc d8.1 a0.1.length)&&(true)) <|
  Option.bind (JN N a0 d8.1 N ((0:Int),d8.2)) fun ad6=>
  au ((bj (d8.1+(1:Int)))&&(true)) <|
  JQ ((d8.1+(1:Int)),ad6)) (some d8.2)
def JR(N:Nat) (a0:nt) (qD:(List (ad×Int))) (JS:Int):Nat->Int->Option ((Unit)⊕((Unit)⊕(Int))):=cn fun d12 JT=>
  cond (decide (d12 < ((a0.1.getD JS.toNat []).length:Int))) (au ((bj (JS+(1:Int)))&&(true)) <|
  cond (!(decide (((cF aB (.int .i64) qD ((IntKind.wrap .u8 (JS+(1:Int))),d12)).getD 0)=(1:Int)))) (some (.inr (.inr (6:Int)))) (au ((bj (d12+(1:Int)))&&(true)) <|
  JT (d12+(1:Int)))) (some (.inl ()))
def JU(N:Nat) (a0:nt) (qD:(List (ad×Int))):Nat->Int->Option ((Unit)⊕(Int)):=cn fun d11 ad7=>
  cond (decide (d11 < (a0.1.length:Int))) (au ((bc d11 a0.1.length)&&(true)) <|
  Option.bind (JR N a0 qD d11 N (0:Int)) fun(xw:(Unit)⊕((Unit)⊕(Int)))=>
  sm xw (fun xw=>
  au ((bj (d11+(1:Int)))&&(true)) <|
  ad7 (d11+(1:Int))) (fun q=>some q)) (some (.inl ()))
def DJ(N:Nat) (a0:nt):Option (Int):=
  Option.bind (JL N a0 N (0:Int)) fun(aT:(Unit)⊕(Int))=>
  sm aT (fun aT=>
  Option.bind (JM N a0 N (0:Int)) fun(eX:(Unit)⊕(Int))=>
  sm eX (fun eX=>
  Option.bind (xv N a0.2.2.1 ([]:List (ad×Int))) fun cq=>
  Option.bind (xv N a0.2.2.2 cq) fun qE=>
  Option.bind (JP N a0 N ((0:Int),qE)) fun qD=>
  Option.bind (JU N a0 qD N (0:Int)) fun(JV:(Unit)⊕(Int))=>
  sm JV (fun JV=>
  some (0:Int)) (fun q=>some q)) (fun q=>some q)) (fun q=>some q)
noncomputable def ad8 (N:Nat):bC bS:=ch N b0 (by kernel_rfl) [.cY u4] [] ⟨.a (.c (.int .i64)),[],[]⟩ [QB N,Ah N,ad4 N] [] (.s (.r [.n 2,.w (.cd 1 u4)]) (.s (.s .d (.b (.fD 0 ⟨[(23,.a (.c (.int .i64)))],[],[1,22],[]⟩ ⟨[],[],[1],[]⟩ (.s .d (.s .d (.s (.b (.s .d (.s .d (.b (.fD 2 ⟨[(28,.a (.c (.int .i64)))],[],[1,22,23,26,27],[]⟩ ⟨[],[],[1,22,23],[]⟩ (.s .d (.s .d (.s (.b (.s (.r [.n 4,.w (.cd 6 aB)]) .d)) .d)))))))) .d)))))) (.s (.s .d (.b (.fD 4 ⟨[(42,.a (.c (.int .i64)))],[],[1,40,41],[]⟩ ⟨[],[],[1],[]⟩ (.s .d (.s .d (.s (.b (.s (.r [.n 6,.w (.cd 8 aB)]) (.s (.o [] [.t 0 0,.t 1 0,.t 2 0,.t 3 0,.t 4 1,.t 5 0,.t 6 0,.t 7 0,.t 8 1,.t 9 1,.g 10,.t 11 0,.t 12 0] []) .d))) .d)))))) (.s (.r [.t (.nm aB (.int .i64))]) (.s .d (.s (.r [.n 3,.c [(1000000,9),(1000001,61)]]) (.s (.r [.n 3,.c [(1000000,9),(1000001,61)]]) (.s (.s .d (.b (.eO 6 ⟨[(9,.a (.c (.raw (.ptr 9 0)))),(10,.a (.c (.fn 152 [.id 9]))),(74,.a (.c (.int .i64)))],[(9,.cells 233 [.raw (.b8 61)]),(61,.mp aB (.int .i64))],[1,72,73],[]⟩ ⟨[(9,.a (.c (.raw (.ptr 9 0))))],[(9,.cells 233 [.raw (.b8 61)]),(61,.mp aB (.int .i64))],[1],[]⟩ (.s .d (.s .d (.s (.b (.s .d (.s .d (.b (.eO 8 ⟨[(9,.a (.c (.raw (.ptr 9 0)))),(10,.a (.c (.fn 152 [.id 9]))),(80,.a (.c (.int .i64)))],[(9,.cells 233 [.raw (.b8 61)]),(61,.mp aB (.int .i64))],[1,72,73,74,78,79],[]⟩ ⟨[(9,.a (.c (.raw (.ptr 9 0)))),(10,.a (.c (.fn 152 [.id 9])))],[(9,.cells 233 [.raw (.b8 61)]),(61,.mp aB (.int .i64))],[1,72,73,74],[]⟩ (.s .d (.s .d (.s (.b (.s (.r [.n 4,.w (.cd 14 ct)]) (.r [.n 3,.c [(1000000,9),(1000001,61)]]))) .d)))))))) .d)))))) (.s (.s .d (.b (.fD 10 ⟨[(9,.a (.c (.raw (.ptr 9 0)))),(93,.a (.c (.int .i64)))],[(9,.cells 233 [.raw (.b8 61)])],[91,92],[61]⟩ ⟨[],[],[],[]⟩ (.s .d (.s .d (.s (.b (.s .d (.s .d (.b (.fD 12 ⟨[(9,.a (.c (.raw (.ptr 9 0)))),(100,.a (.c (.int .i64)))],[(9,.cells 233 [.raw (.b8 61)])],[15,91,92,93,99],[61]⟩ ⟨[(9,.a (.c (.raw (.ptr 9 0))))],[(9,.cells 233 [.raw (.b8 61)])],[91,92,93],[61]⟩ (.s .d (.s .d (.s (.b (.s .d (.s (.r [.n 6,.t .zi]) .d))) .d)))))))) .d)))))) .d))))))))) [.tmp 2] 125 0 (fun d=>DJ N d.1) Tryz.func125 rfl rfl Tryz.ntmps125 rfl rfl rfl (fun d=>by kernel_rfl)
def DK(N:Nat) (a0:nt):Option (Int):=
  Option.bind (DG N a0.1) fun aF=>
  cond (!(decide (aF=(0:Int)))) (some aF) (Option.bind (DH N a0) fun a7=>
  cond (!(decide (a7=(0:Int)))) (some a7) (Option.bind (DJ N a0) fun bt=>
  some bt))
noncomputable def ad9 (N:Nat):bC bS:=ch N b0 (by kernel_rfl) [.cY u4] [] ⟨.a (.c (.int .i64)),[],[]⟩ [ad2 N,ad3 N,ad8 N] [] (.s (.r [.n 2,.w (.cd 1 u4)]) .d) [.tmp 2] 88 0 (fun d=>DK N d.1) Tryz.func88 rfl rfl Tryz.ntmps88 rfl rfl rfl (fun d=>by kernel_rfl)
def JW(N:Nat) (a0:(List ad)) (a1:(List ad)):Nat->Int->Option ((Unit)⊕(Bool)):=cn fun d1 dw=>
  cond (decide (d1 < (a0.length:Int))) (au ((bc d1 a0.length)&&((bc d1 a1.length)&&(true))) <|
  cond (!(aU.beq aB (a0.getD d1.toNat aB.zero) (a1.getD d1.toNat aB.zero))) (some (.inr false)) (au ((bj (d1+(1:Int)))&&(true)) <|
  dw (d1+(1:Int)))) (some (.inl ()))
def DL(N:Nat) (a0:(List ad)) (a1:(List ad)):Option (Bool):=
  cond (!(decide ((a0.length:Int)=(a1.length:Int)))) (some false) (Option.bind (JW N a0 a1 N (0:Int)) fun(aT:(Unit)⊕(Bool))=>
  sm aT (fun aT=>
  some true) (fun q=>some q))
noncomputable def aea (N:Nat):bC bS:=ch N b0 (by kernel_rfl) [.c (.bk aB),.c (.bk aB)] [] ⟨.a (.c .bool),[],[]⟩ [] [] (.s .d (.s .d (.s (.s .d (.b (.fD 0 ⟨[(13,.a (.c (.int .i64)))],[],[0,1,12],[]⟩ ⟨[],[],[],[]⟩ (.s .d (.s .d (.s (.b (.s .d (.s (.o [] [.t 0 0,.t 1 0,.t 2 0,.t 3 1,.t 4 0,.t 5 0,.t 6 0,.t 7 1,.t 8 0] []) .d))) .d)))))) .d))) [.tmp 4] 48 false (fun d=>DL N d.1 d.2.1) Tryz.func48 rfl rfl Tryz.ntmps48 rfl rfl rfl (fun d=>by kernel_rfl)
end
section
open Go.RowKit
def tf:List UInt8:=(List.append (List.append (List.append [0,1,2,2,3,3,3,3,4,4,4,4,4,4,4,4,5,5,5,5,5,5,5,5,5,5,5,5,5,5,5,5,6,6,6,6,6,6,6,6,6,6,6,6,6,6,6,6,6,6,6,6,6,6,6,6,6,6,6,6,6,6,6,6] [7,7,7,7,7,7,7,7,7,7,7,7,7,7,7,7,7,7,7,7,7,7,7,7,7,7,7,7,7,7,7,7,7,7,7,7,7,7,7,7,7,7,7,7,7,7,7,7,7,7,7,7,7,7,7,7,7,7,7,7,7,7,7,7]) [8,8,8,8,8,8,8,8,8,8,8,8,8,8,8,8,8,8,8,8,8,8,8,8,8,8,8,8,8,8,8,8,8,8,8,8,8,8,8,8,8,8,8,8,8,8,8,8,8,8,8,8,8,8,8,8,8,8,8,8,8,8,8,8]) [8,8,8,8,8,8,8,8,8,8,8,8,8,8,8,8,8,8,8,8,8,8,8,8,8,8,8,8,8,8,8,8,8,8,8,8,8,8,8,8,8,8,8,8,8,8,8,8,8,8,8,8,8,8,8,8,8,8,8,8,8,8,8,8])
def QD(N:Nat) (a0:Int):Option (Int):=
  Option.bind (cond (decide ((4294967296:Int)<=a0)) (some ((Int.fdiv a0 (2 ^ (min (32:Int).toNat (IntKind.bits .u64)))),(32:Int))) (some (a0,(0:Int)))) fun aT=>
  Option.bind (cond (decide ((65536:Int)<=aT.1)) (au ((bj (aT.2+(16:Int)))&&(true)) <|
  some ((Int.fdiv aT.1 (2 ^ (min (16:Int).toNat (IntKind.bits .u64)))),(aT.2+(16:Int)))) (some (aT.1,aT.2))) fun bM=>
  cond (decide ((256:Int)<=bM.1)) (au ((bj (bM.2+(8:Int)))&&(true)) <|
  au ((bc (IntKind.wrap .u8 (Int.fdiv bM.1 (2 ^ (min (8:Int).toNat (IntKind.bits .u64))))) tf.length)&&((bj ((tf.getD (IntKind.wrap .u8 (Int.fdiv bM.1 (2 ^ (min (8:Int).toNat (IntKind.bits .u64))))).toNat 0).toNat:Int))&&((bj ((bM.2+(8:Int))+((tf.getD (IntKind.wrap .u8 (Int.fdiv bM.1 (2 ^ (min (8:Int).toNat (IntKind.bits .u64))))).toNat 0).toNat:Int)))&&(true)))) <|
  some ((bM.2+(8:Int))+((tf.getD (IntKind.wrap .u8 (Int.fdiv bM.1 (2 ^ (min (8:Int).toNat (IntKind.bits .u64))))).toNat 0).toNat:Int))) (au ((bc (IntKind.wrap .u8 bM.1) tf.length)&&((bj ((tf.getD (IntKind.wrap .u8 bM.1).toNat 0).toNat:Int))&&((bj (bM.2+((tf.getD (IntKind.wrap .u8 bM.1).toNat 0).toNat:Int)))&&(true)))) <|
  some (bM.2+((tf.getD (IntKind.wrap .u8 bM.1).toNat 0).toNat:Int)))
noncomputable def aeb (N:Nat):bC bS:=ch N b0 (by kernel_rfl) [.c (.int .u64)] [] ⟨.a (.c (.int .i64)),[],[]⟩ [] [] (.s .d (.j ⟨[(0,.a (.c (.int .u64))),(2,.a (.c (.int .i64)))],[],[],[]⟩ .d (.j ⟨[(0,.a (.c (.int .u64))),(2,.a (.c (.int .i64)))],[],[],[]⟩ .d .d))) [.tmp 2] 173 0 (fun d=>QD N d.1) Tryz.func173 rfl rfl Tryz.ntmps173 rfl rfl rfl (fun d=>by kernel_rfl)
def JX(N:Nat) (a0:Int):Option (Int):=
  Option.bind (QD N a0) fun aF=>
  some aF
noncomputable def QE (N:Nat):bC bS:=ch N b0 (by kernel_rfl) [.c (.int .u64)] [] ⟨.a (.c (.int .i64)),[],[]⟩ [aeb N] [] (.d) [.tmp 2] 139 0 (fun d=>JX N d.1) Tryz.func139 rfl rfl Tryz.ntmps139 rfl rfl rfl (fun d=>by kernel_rfl)
def aec(N:Nat) (a0:Int):Nat->(Int×(List ad))->Option ((List ad)):=cn fun d2 ft=>
  au ((eo (decide (a0 < d2.1)) (bc d2.1 d2.2.length))&&((eo (decide (a0 < d2.1)) (decide (d2.1.toNat < d2.2.length)))&&((eo (decide (a0 < d2.1)) (bj (d2.1 - (1:Int))))&&((eo (decide (a0 < d2.1)) (bc (d2.1 - (1:Int)) d2.2.length))&&((eo (decide (a0 < d2.1)) (decide ((d2.1 - (1:Int)).toNat < d2.2.length)))&&(true)))))) <|
  Option.bind (cond (decide (a0 < d2.1)) (te N (d2.2.getD d2.1.toNat aB.zero) (d2.2.getD (d2.1 - (1:Int)).toNat aB.zero)) (some 0)) fun bt=>
  cond (cond (decide (a0 < d2.1)) (decide (bt < (0:Int))) false) (au ((bj (d2.1 - (1:Int)))&&((bj (d2.1 - (1:Int)))&&((bc (d2.1 - (1:Int)) d2.2.length)&&((decide ((d2.1 - (1:Int)).toNat < d2.2.length))&&((bc d2.1 d2.2.length)&&((decide (d2.1.toNat < d2.2.length))&&((bc d2.1 d2.2.length)&&(((decide (d2.1.toNat < d2.2.length))&&(true))&&((bc (d2.1 - (1:Int)) (d2.2.set d2.1.toNat (d2.2.getD (d2.1 - (1:Int)).toNat aB.zero)).length)&&(((decide ((d2.1 - (1:Int)).toNat < (d2.2.set d2.1.toNat (d2.2.getD (d2.1 - (1:Int)).toNat aB.zero)).length))&&(true))&&(true))))))))))) <|
  au ((bj (d2.1 - (1:Int)))&&(true)) <|
  ft ((d2.1 - (1:Int)),((d2.2.set d2.1.toNat (d2.2.getD (d2.1 - (1:Int)).toNat aB.zero)).set (d2.1 - (1:Int)).toNat (d2.2.getD d2.1.toNat aB.zero)))) (some d2.2)
def aed(N:Nat) (a0:Int) (a1:Int):Nat->(Int×(List ad))->Option ((List ad)):=cn fun d1 dw=>
  cond (decide (d1.1 < a1)) (Option.bind (aec N a0 N (d1.1,d1.2)) fun bM=>
  au ((bj (d1.1+(1:Int)))&&(true)) <|
  dw ((d1.1+(1:Int)),bM)) (some d1.2)
def QF(N:Nat) (a0:Int) (a1:Int) (a2:List ad):Option ((List ad)):=
  au ((bj (a0+(1:Int)))&&(true)) <|
  Option.bind (aed N a0 a1 N ((a0+(1:Int)),a2)) fun aT=>
  some aT
noncomputable def aee (N:Nat):bC bS:=ch N b0 (by kernel_rfl) [.c (.raw (.ai 2000000)),.c (.int .i64),.c (.int .i64),.c (.fn 105 [])] [(2000000,.row 102 aB)] ⟨.c3 [],[(2000000,.row 102 aB)],[]⟩ [Ah N] [] (.s .d (.b (.eO 0 ⟨[(0,.a (.c (.raw (.ai 2000000)))),(8,.a (.c (.int .i64)))],[(2000000,.row 102 aB)],[1,2,3],[]⟩ ⟨[],[(2000000,.row 102 aB)],[],[]⟩ (.s .d (.s (.b (.s .d (.b (.eO 2 ⟨[(0,.a (.c (.raw (.ai 2000000)))),(9,.a (.c (.int .i64)))],[(2000000,.row 102 aB)],[1,2,3,8],[]⟩ ⟨[(0,.a (.c (.raw (.ai 2000000))))],[(2000000,.row 102 aB)],[1,2,3,8],[]⟩ (.s (.s (.me [9,10,11,12,13] [.t 0 0,.t 1 0,.t 2 0,.t 3 0,.t 4 0,.t 5 0,.t 6 0,.t 7 0,.t 8 3,.t 9 0,.t 10 0,.t 11 0,.t 12 0,.t 13 3,.g 14,.t 15 0,.t 16 0] []) .d) (.s (.b (.me [10,11,12,13] [.t 0 0,.t 1 0,.t 2 0,.t 3 0,.t 4 0,.t 5 0,.t 6 0,.t 7 0,.t 8 0,.t 9 3,.t 10 0,.t 11 0,.t 12 0,.t 13 3,.t 14 0,.s 15,.t 16 0,.s 17] [])) .d)))))) .d))))) [] 176 [] (fun d=>QF N d.1 d.2.1 d.2.2.1) Tryz.func176 rfl rfl Tryz.ntmps176 rfl rfl rfl (fun d=>by kernel_rfl)
def aef(N:Nat) (a0:Int) (a1:Int) (a2:Int) (a3:List ad):Nat->Unit->Option ((Unit)⊕((List ad))):=cn fun d1 dw=>
  au ((bj (a1 - a0))&&(true)) <|
  cond (decide ((a1 - a0)<=(12:Int))) (Option.bind (QF N a0 a1 a3) fun a7=>
  some (.inr a7)) (cond (decide (a2=(0:Int))) (none) (Option.bind (some ()) fun b7=>
  none))
def QG(N:Nat) (a0:Int) (a1:Int) (a2:Int) (a3:List ad):Option ((List ad)):=
  Option.bind (aef N a0 a1 a2 a3 N ()) fun(aT:(Unit)⊕((List ad)))=>
  sm aT (fun aT=>
  none) (fun q=>some q)
noncomputable def aeg (N:Nat):bC bS:=ch N b0 (by kernel_rfl) [.c (.raw (.ai 2000000)),.c (.int .i64),.c (.int .i64),.c (.int .i64),.c (.fn 105 [])] [(2000000,.row 102 aB)] ⟨.c3 [],[(2000000,.row 102 aB)],[]⟩ [aee N] [] (.s .d (.s .d (.b (.fD 0 ⟨[(0,.a (.c (.raw (.ai 2000000))))],[],[1,2,3,4,10,11],[2000000]⟩ ⟨[],[],[],[]⟩ (.b (.s .d (.s (.s .d (.c (.s (.r [.n 4,.c [(2000000,2000000)]]) .d) .d)) (.s .d (.j ⟨[(0,.a (.c (.raw (.ai 2000000))))],[],[1,2,3,4,10,11,12],[2000000]⟩ .d .d))))))))) [] 143 [] (fun d=>QG N d.1 d.2.1 d.2.2.1 d.2.2.2.1) Tryz.func143 rfl rfl Tryz.ntmps143 rfl rfl rfl (fun d=>by kernel_rfl)
def DM(N:Nat) (a0:List ad):Option ((List ad)):=
  Option.bind (JX N (IntKind.wrap .u64 (a0.length:Int))) fun aF=>
  Option.bind (QG N (0:Int) (a0.length:Int) aF a0) fun a7=>
  some a7
noncomputable def aeh (N:Nat):bC bS:=ch N b0 (by kernel_rfl) [.c (.raw (.ai 2000000)),.c (.fn 105 [])] [(2000000,.row 102 aB)] ⟨.c3 [],[(2000000,.row 102 aB)],[]⟩ [QE N,aeg N] [] (.s .d (.r [.n 6,.c [(2000000,2000000)]])) [] 107 [] (fun d=>DM N d.1) Tryz.func107 rfl rfl Tryz.ntmps107 rfl rfl rfl (fun d=>by kernel_rfl)
end
section
open Go.RowKit
end
section
open Go.RowKit
def QH(N:Nat) :Nat->(Int×Int×(List ad))->Option ((List ad)):=cn fun d1 dw=>
  cond (decide (d1.1 < d1.2.1)) (au ((bc d1.2.1 d1.2.2.length)&&((decide (d1.2.1.toNat < d1.2.2.length))&&((bc d1.1 d1.2.2.length)&&((decide (d1.1.toNat < d1.2.2.length))&&((bc d1.1 d1.2.2.length)&&(((decide (d1.1.toNat < d1.2.2.length))&&(true))&&((bc d1.2.1 (d1.2.2.set d1.1.toNat (d1.2.2.getD d1.2.1.toNat aB.zero)).length)&&(((decide (d1.2.1.toNat < (d1.2.2.set d1.1.toNat (d1.2.2.getD d1.2.1.toNat aB.zero)).length))&&(true))&&(true))))))))) <|
  au ((bj (d1.1+(1:Int)))&&((bj (d1.2.1 - (1:Int)))&&(true))) <|
  dw ((d1.1+(1:Int)),(d1.2.1 - (1:Int)),((d1.2.2.set d1.1.toNat (d1.2.2.getD d1.2.1.toNat aB.zero)).set d1.2.1.toNat (d1.2.2.getD d1.1.toNat aB.zero)))) (some d1.2.2)
def xx(N:Nat) (a0:List ad):Option ((List ad)):=
  au ((bj ((a0.length:Int) - (1:Int)))&&(true)) <|
  Option.bind (QH N N ((0:Int),((a0.length:Int) - (1:Int)),a0)) fun aT=>
  some aT
noncomputable def aei (N:Nat):bC bS:=ch N b0 (by kernel_rfl) [.c (.raw (.ai 2000000))] [(2000000,.row 102 aB)] ⟨.c3 [],[(2000000,.row 102 aB)],[]⟩ [] [] (.s .d (.b (.eO 0 ⟨[(0,.a (.c (.raw (.ai 2000000)))),(2,.a (.c (.int .i64))),(3,.a (.c (.int .i64)))],[(2000000,.row 102 aB)],[],[]⟩ ⟨[],[(2000000,.row 102 aB)],[],[]⟩ (.s .d (.s (.b (.me [8,9,10,11] [.t 0 0,.t 1 0,.t 2 0,.t 3 0,.t 4 0,.t 5 0,.t 6 0,.t 7 3,.t 8 0,.t 9 0,.t 10 0,.t 11 3,.t 12 0,.s 13,.t 14 0,.s 15] [])) .d))))) [] 197 [] (fun d=>xx N d.1) Tryz.func197 rfl rfl Tryz.ntmps197 rfl rfl rfl (fun d=>by kernel_rfl)
end
def r0(p q:(Int×Int)×Bool×Int):Bool:=!decide (p.2.2=q.2.2)&&(decide (p.1=q.1)&&(p.2.1 == q.2.1))
def xy(l:List ((Int×Int)×Bool×Int)):Prop:=∀ i p q,l[i]?=some p->l[i+1]?=some q->r0 p q=false
def nw(s:List ((Int×Int)×Bool×Int)) (p:(Int×Int)×Bool×Int):List ((Int×Int)×Bool×Int):=
 match s.getLast? with
 | none=>[p]
 | some q=>if r0 q p=true then s.dropLast else s++[p]
def jW(s l:List ((Int×Int)×Bool×Int)):List ((Int×Int)×Bool×Int):=l.foldl nw s
theorem aej(s:List ((Int×Int)×Bool×Int)) (p):(nw s p).length<=s.length+1:=by
 unfold nw
 split
 ·simp
 ·split
  ·simp; omega
  ·simp
theorem aek{s:List ((Int×Int)×Bool×Int)} {p x} (h:x∈nw s p):x∈s\/x=p:=by
 unfold nw at h
 split at h
 ·right; simpa using h
 ·split at h
  ·left; exact List.dropLast_subset _ h
  ·simp at h; exact h
theorem QI(s l:List ((Int×Int)×Bool×Int)):(jW s l).length<=s.length+l.length:=by
 induction l generalizing s with
 | nil=>simp[jW]
 | cons p l br=>
  have:=br (nw s p)
  have J:=aej s p;show(jW (nw s p) l).length<=_
  simp; omega
theorem ael{s l:List ((Int×Int)×Bool×Int)} {x} (h:x∈jW s l):x∈s\/x∈l:=by
 induction l generalizing s with
 | nil=>exact Or.inl h
 | cons p l br=>
  rcases br (s:=nw s p) h with h | h
  ·rcases aek h with h | h
   ·exact Or.inl h
   ·exact Or.inr (by rw[h]; exact List.mem_cons_self)
  ·exact Or.inr (List.mem_cons_of_mem _ h)
theorem QJ(s l:List ((Int×Int)×Bool×Int)) (p):jW s (l++[p])=nw (jW s l) p:=by simp[jW]
theorem aem{l:List ((Int×Int)×Bool×Int)} (h:xy l):jW [] l=l:=by
 have:∀ j,j<=l.length->jW [] (l.take j)=l.take j:=by
  intro j aH
  induction j with
  | zero=>rfl
  | succ j br=>
   have aW:j < l.length:=by omega
   rw[List.take_succ_eq_append_getElem aW,QJ,br (by omega)];unfold nw
   split
   ·rename_i aV
    rw[List.getLast?_eq_none_iff]at aV;rw[aV]; rfl
   ·rename_i q ar
    rw[List.getLast?_eq_getElem?,List.length_take,List.getElem?_take]at ar;have ako:j≠0:=by
     intro e; subst e; simp at ar
    rw[if_pos (by omega),show min j l.length - 1=j - 1 by omega]at ar
    have:=h (j - 1) q l[j] ar (by rw[show j - 1+1=j by omega]; exact List.getElem?_eq_getElem aW)
    rw[this]; rfl
 have U:=this l.length (Nat.le_refl _)
 rwa [List.take_length]at U
abbrev fR:=Int×(Bool×((List (Int×Int))×(List ((Int×Int)×(Bool×Int)))))
def hZ(t:List (List fR)) (a:Int×Int):Option fR:=
 if 1<=a.1/\0<=a.2 then(t.getD (a.1 - 1).toNat [])[a.2.toNat]? else none
def gu(t:List (List fR)) (a:Int×Int):Prop:=∃ l,hZ t a=some l
theorem r1(t:List (List fR)) (y n:Nat):hZ t ((y:Int)+1,(n:Int))=(t.getD y [])[n]?:=by
 unfold hZ;rw[if_pos ⟨by show(1:Int)<=y+1; omega,by show(0:Int)<=n; omega⟩];show(t.getD ((y:Int)+1 - 1).toNat [])[(n:Int).toNat]?=_;rw[show((y:Int)+1 - 1).toNat=y by omega,Int.toNat_natCast]
theorem pM{t:List (List fR)} {a:Int×Int}:gu t a ↔ 1<=a.1/\0<=a.2/\a.2 < ((t.getD (a.1 - 1).toNat []).length:Int):=by
 unfold gu hZ;constructor
 ·rintro⟨l,h⟩
  split at h
  ·rename_i J
   have:=(List.getElem?_eq_some_iff.1 h).1
   omega
  ·cases h
 ·rintro⟨J,U,ag⟩
  rw[if_pos ⟨J,U⟩];exact⟨_,List.getElem?_eq_getElem (by omega)⟩
theorem JY{t:List (List fR)} {a:Int×Int} (h:gu t a):a.1<=t.length:=by
 rw[pM]at h
 by_cases ah:(a.1 - 1).toNat < t.length
 ·omega
 ·rw[List.getD_eq_getElem?_getD,List.getElem?_eq_none (by omega)]at h
  simp at h
  omega
instance (t:List (List fR)) (a:Int×Int):Decidable (gu t a):=decidable_of_iff _ pM.symm
def hD(t:List (List fR)) (y:Nat) (l:fR):List (List fR):=t.set y (t.getD y []++[l])
theorem QK(t:List (List fR)) (y:Nat) (l:fR):(hD t y l).length=t.length:=by simp[hD]
theorem An{t:List (List fR)} {y:Nat} (aL:y < t.length) (l:fR) (z:Nat):(hD t y l).getD z []=if z=y then t.getD y []++[l] else t.getD z []:=by
 unfold hD;rw[List.getD_eq_getElem?_getD,List.getElem?_set]
 by_cases e:y=z
 ·subst e
  simp[aL]
 ·rw[if_neg e,if_neg (fun h=>e h.symm),<- List.getD_eq_getElem?_getD]
theorem aen{t:List (List fR)} {y:Nat} (aL:y < t.length) (l:fR) {a:Int×Int} {k:fR} (h:hZ t a=some k):hZ (hD t y l) a=some k:=by
 unfold hZ at h ⊢
 split at h
 ·rename_i J
  rw[if_pos J,An aL]
  split
  ·rename_i e
   rw[e]at h;rw[List.getElem?_append_left (List.getElem?_eq_some_iff.1 h).1,h]
  ·exact h
 ·cases h
theorem gu.put{t:List (List fR)} {y:Nat} (aL:y < t.length) (l:fR) {a:Int×Int} (h:gu t a):gu (hD t y l) a:=by
 obtain⟨k,h⟩:=h;exact⟨k,aen aL l h⟩
theorem QL{t:List (List fR)} {y:Nat} (aL:y < t.length) (l:fR):hZ (hD t y l) ((y:Int)+1,((t.getD y []).length:Int))=some l:=by
 rw[r1,An aL,if_pos rfl]
 simp
theorem tg{t:List (List fR)} {y:Nat} (aL:y < t.length) {l:fR} {a:Int×Int} {k:fR} (h:hZ (hD t y l) a=some k) :
  (a=((y:Int)+1,((t.getD y []).length:Int))/\k=l)\/(hZ t a=some k):=by
 unfold hZ at h ⊢
 split at h
 ·rename_i J
  rw[An aL]at h;rw[if_pos J]
  split at h
  ·rename_i e
   rw[List.getElem?_append]at h
   split at h
   ·right; rw[e]; exact h
   ·left
    have aW:=(List.getElem?_eq_some_iff.1 h).1;simp only[List.length_cons,List.length_nil]at aW;have gA:a.2.toNat - (t.getD y []).length=0:=by omega
    rw[gA]at h;cases h;refine⟨Prod.ext ?_ ?_,rfl⟩
    ·show a.1=(y:Int)+1; omega
    ·show a.2=((t.getD y []).length:Int); omega
  ·exact Or.inr h
 ·cases h
theorem QM{t:List (List fR)} {y:Nat} (aL:y < t.length) (l:fR):¬ gu t ((y:Int)+1,((t.getD y []).length:Int)):=by
 rintro⟨k,h⟩;rw[r1]at h
 have:=(List.getElem?_eq_some_iff.1 h).1
 omega
theorem Ao{t:List (List fR)} {y:Nat} (aL:y < t.length) (l:fR) {a:Int×Int}:gu (hD t y l) a ↔ a=((y:Int)+1,((t.getD y []).length:Int))\/gu t a:=by
 constructor
 ·rintro⟨k,h⟩
  rcases tg aL h with⟨h,_⟩ | h
  ·exact Or.inl h
  ·exact Or.inr ⟨k,h⟩
 ·rintro(h | h)
  ·rw[h]; exact⟨l,QL aL l⟩
  ·exact h.put aL l
def eh(t:List (List fR)):Nat:=(t.map List.length).sum
def gO(t:List (List fR)):List (Int×Int):=t.flatten.flatMap (·.2.2.1)
theorem DN{α:Type}:∀ {l:List α} {j:Nat} (_:j < l.length) (z x:α),∃ a b,l=a++l.getD j z :: b/\l.set j x=a++x :: b
 | [],_,h,_,_=>by simp at h
 | y :: l,0,_,z,x=>⟨[],l,by simp,by simp⟩
 | y :: l,j+1,h,z,x=>by
  obtain⟨a,b,J,U⟩:=DN (l:=l) (j:=j) (by simpa using h) z x;exact⟨y :: a,b,by simp; rw[List.getD_eq_getElem?_getD]at J; exact J,by simp; exact U⟩
theorem JZ{t:List (List fR)} {y:Nat} (aL:y < t.length) (l:fR):eh (hD t y l)=eh t+1:=by
 obtain⟨a,b,J,U⟩:=DN aL [] (t.getD y []++[l]);unfold eh hD;rw[U]
 conv=>rhs; rw[J]
 simp
 omega
theorem aeo{t:List (List fR)} {y:Nat} (aL:y < t.length) (l:fR) (a:Int×Int):(gO (hD t y l)).count a=(gO t).count a+l.2.2.1.count a:=by
 obtain⟨p,q,J,U⟩:=DN aL [] (t.getD y []++[l]);unfold gO hD;rw[U]
 conv=>rhs; rw[J]
 simp[List.flatten_append,List.flatMap_append,List.count_append]
 omega
theorem xz{t:List (List fR)} (y:Nat):(t.getD y []).length<=eh t:=by
 by_cases aL:y < t.length
 ·obtain⟨a,b,J,_⟩:=DN aL [] []
  unfold eh
  conv=>rhs; rw[J]
  simp
  omega
 ·rw[List.getD_eq_getElem?_getD,List.getElem?_eq_none (by omega)]
  simp
structure mg(t:List (List fR)) (aR:Int×Int->Nat):Prop where
 len:t.length=6
 DO:∀ a,gu t a->aR a < eh t
 mono:∀ a b,gu t b->a.1=b.1->0<=a.2->a.2 < b.2->aR a < aR b
 QN:∀ a l,hZ t a=some l->l.1=0\/l.1=1
 thr:∀ a l,hZ t a=some l->∀ b∈l.2.2.1,gu t b/\aR b < aR a
 oS:∀ a l,hZ t a=some l->∀ p∈l.2.2.2,gu t p.1/\aR p.1 < aR a/\(p.2.2=0\/p.2.2=1)
 xA:∀ a l,hZ t a=some l->l.2.2.1.length<=4
 J0:∀ a l,hZ t a=some l->l.2.2.2.length<=4096
 red:∀ a l,hZ t a=some l->xy l.2.2.2
 new:∀ a l,hZ t a=some l->a.2=0->l.2.1=true
theorem mg.put{t:List (List fR)} {aR:Int×Int->Nat} (h:mg t aR) {y:Nat} (aL:y < 6) {l:fR} (ae:l.1=0\/l.1=1) (a8:∀ b∈l.2.2.1,gu t b)
  (ao:∀ p∈l.2.2.2,gu t p.1/\(p.2.2=0\/p.2.2=1)) (Ap:l.2.2.1.length<=4) (gT:l.2.2.2.length<=4096) (aw:xy l.2.2.2) (aV:(t.getD y []).length=0->l.2.1=true) :
  mg (hD t y l) fun a=>if a=((y:Int)+1,((t.getD y []).length:Int))then eh t else aR a:=by
 have kT:y < t.length:=by rw[h.len]; exact aL
 have jD:∀ a,gu t a->a≠((y:Int)+1,((t.getD y []).length:Int)):=fun a aX e=>QM kT l (e ▸ aX)
 have gg:∀ {a k},hZ t a=some k->gu t a:=fun h=>⟨_,h⟩
 refine⟨by rw[QK,h.len],?_,?_,?_,?_,?_,?_,?_,?_,?_⟩
 ·intro a aX
  rw[JZ kT]
  rcases (Ao kT l).1 aX with e | aX
  ·rw[if_pos e]; omega
  ·rw[if_neg (jD a aX)]
   have:=h.DO a aX
   omega
 ·intro a b ae e aN aW
  have jx:b≠((y:Int)+1,((t.getD y []).length:Int))->gu t b:=fun cr=>((Ao kT l).1 ae).resolve_left cr
  have QO:gu t a/\a≠((y:Int)+1,((t.getD y []).length:Int)):=by
   have:gu t a:=by
    rw[pM]
    rcases (Ao kT l).1 ae with aS | ae
    ·rw[aS]at e aW
     simp only at e aW;rw[e];refine⟨by omega,aN,?_⟩;rw[show((y:Int)+1 - 1).toNat=y by omega];exact aW
    ·rw[pM]at ae
     rw[e];exact⟨ae.1,aN,by omega⟩
   exact⟨this,jD a this⟩
  rw[if_neg QO.2]
  split
  ·exact h.DO a QO.1
  ·rename_i cr
   exact h.mono a b (jx cr) e aN aW
 ·intro a k ab
  rcases tg kT ab with⟨_,rfl⟩ | ab
  ·exact ae
  ·exact h.QN a k ab
 ·intro a k ab b Cn
  rcases tg kT ab with⟨e,rfl⟩ | ab
  ·have:=a8 b Cn
   refine⟨this.put kT _,?_⟩;rw[if_neg (jD b this),if_pos e];exact h.DO b this
  ·have:=h.thr a k ab b Cn
   refine⟨this.1.put kT _,?_⟩;rw[if_neg (jD b this.1),if_neg (jD a (gg ab))];exact this.2
 ·intro a k ab p QP
  rcases tg kT ab with⟨e,rfl⟩ | ab
  ·have:=ao p QP
   refine⟨this.1.put kT _,?_,this.2⟩;rw[if_neg (jD _ this.1),if_pos e];exact h.DO _ this.1
  ·have:=h.oS a k ab p QP
   refine⟨this.1.put kT _,?_,this.2.2⟩;rw[if_neg (jD _ this.1),if_neg (jD a (gg ab))];exact this.2.1
 ·intro a k ab
  rcases tg kT ab with⟨_,rfl⟩ | ab
  ·exact Ap
  ·exact h.xA a k ab
 ·intro a k ab
  rcases tg kT ab with⟨_,rfl⟩ | ab
  ·exact gT
  ·exact h.J0 a k ab
 ·intro a k ab
  rcases tg kT ab with⟨_,rfl⟩ | ab
  ·exact aw
  ·exact h.red a k ab
 ·intro a k ab aN
  rcases tg kT ab with⟨e,rfl⟩ | ab
  ·apply aV
   rw[e]at aN;simp only at aN;omega
  ·exact h.new a k ab aN
def r2(t:List (List fR)) (l:List (Int×Int)):Prop:=∀ a,(l++gO t).count a=if gu t a then 1 else 0
section
open Go.RowKit
def th(p:c9):Prop:=(1<=p.1.1/\p.1.1<=6/\0<=p.1.2/\p.1.2 < 2048)/\(p.2.2=0\/p.2.2=1)
theorem J1(N:Nat) {a:ad} (h:1<=a.1/\a.1<=6/\0<=a.2/\a.2 < 2048):xu N a=some true:=by
 unfold xu;rw[decide_eq_true h.1,decide_eq_true h.2.1,decide_eq_true h.2.2.1,decide_eq_true h.2.2.2]
 rfl
theorem DP(N:Nat) {d:Int} (h:d=0\/d=1):u9 N d=some true:=by
 unfold u9
 rcases h with rfl | rfl<;>rfl
theorem QQ(N:Nat) {p:c9} (h:th p):Ac N p=some true:=by
 unfold Ac;rw[J1 N h.1,Option.bind_some,cond_true,DP N h.2]
 rfl
theorem QR(N:Nat) {p q:c9} (ao:p.2.2=0\/p.2.2=1) (ar:q.2.2=0\/q.2.2=1):Ad N p q=some (r0 p q):=by
 unfold Ad;rw[DP N ao,Option.bind_some,show(!(!true))=true from rfl,cond_true,DP N ar,Option.bind_some];unfold r0
 by_cases e:p.2.2=q.2.2
 ·rw[decide_eq_true e]; rfl
 ·rw[decide_eq_false e]
  show some (aU.beq ep p (q.1,(q.2.1,p.2.2)))=some (true&&_)
  congr 1
  rw[Bool.eq_iff_iff,beq_iff (g:=ep) _ _ rfl];simp only[Bool.true_and,Bool.and_eq_true,decide_eq_true_eq,beq_iff_eq];constructor
  ·intro h
   rw[h];exact⟨rfl,rfl⟩
  ·rintro⟨J,U⟩
   exact Prod.ext J (Prod.ext U rfl)
theorem QS{N:Nat} (l s:List c9) (a6:l.length < N) (ah:∀ p∈l,p.2.2=0\/p.2.2=1) (an:∀ p∈s,p.2.2=0\/p.2.2=1) (ae:l.length+s.length<=100000):Ae N l s=some (jW s l):=by
 have dV:Jr N l N ((0:Int),s)=some (jW s l):=by
  unfold Jr;refine e3 (fun k d=>∃ j:Nat,j+k=l.length/\d=((j:Int),jW s (l.take j))) _ ?_ N l.length _ (by omega) ⟨0,by omega,by simp[jW]⟩;rintro k d rec ⟨j,aH,rfl⟩ bO;obtain⟨S,aI⟩:∃ S,S=jW s (l.take j):=⟨_,rfl⟩
  have Aq:S.length<=l.length+s.length:=by
   rw[aI]
   have:=QI s (l.take j)
   rw[List.length_take]at this;omega
  have vf:∀ p∈S,p.2.2=0\/p.2.2=1:=by
   intro p ao;rw[aI]at ao
   rcases ael ao with h | h
   ·exact an p h
   ·exact ah p (List.mem_of_mem_take h)
  rw[<- aI]
  apply T.eq
  by_cases aW:j < l.length
  ·obtain⟨x,ak⟩:∃ x,l[j]?=some x:=⟨_,List.getElem?_eq_getElem aW⟩
   have aep:=ah x (List.mem_of_getElem? ak);have aeq:jW s (l.take (j+1))=nw S x:=by
    rw[List.take_succ_eq_append_getElem aW,QJ,aI,(List.getElem?_eq_some_iff.1 ak).2]
   have kz:∀ S',S'=nw S x->T (rec ((j:Int)+1,S')) (·=jW s l):=fun S' e=>⟨_,bO (k - 1) _ (by omega) ⟨j+1,by omega,by rw[aeq,e]; rfl⟩,rfl⟩
   have ba:(j:Int) < (l.length:Int):=by omega
   simp only[aZ,Int.reduceEq,Int.reduceLT,Int.reduceLE,reduceCtorEq,ba,cb ak];cases rO:S.getLast? with
   | none=>
    have aN:S=[]:=List.getLast?_eq_none_iff.1 rO;subst aN
    have:=kz [x] rfl
    simp only[aZ,Int.reduceEq,Int.reduceLT,Int.reduceLE,reduceCtorEq,List.length_nil,List.nil_append,List.length_singleton,show ¬ ((0:Int) < ((0:Nat):Int)) by omega]
    and_intros<;>first | omega | (simp only[bB]; omega) | exact this | trivial
   | some q=>
    have jH:0 < S.length:=by
     cases S with
     | nil=>cases rO
     | cons a b=>simp
    have ar:S[S.length - 1]?=some q:=by rw[<- rO,List.getLast?_eq_getElem?]
    have CI:=vf q (List.mem_of_getElem? ar);have aer:(0:Int) < (S.length:Int):=by omega
    have ay:((S.length:Int) - 1).toNat=S.length - 1:=by omega
    simp only[aer,ay,cb ar,bn (QR N CI aep),aZ,Int.reduceEq,Int.reduceLT,Int.reduceLE,reduceCtorEq]
    by_cases aa:r0 q x=true
    ·have:=kz (S.take (S.length - 1)) (by unfold nw; rw[rO]; show _=if r0 q x=true then _ else _; rw[if_pos aa,List.dropLast_eq_take])
     simp only[aa,aZ,Int.reduceEq,Int.reduceLT,Int.reduceLE,reduceCtorEq]
     and_intros<;>first | omega | (simp only[bB]; omega) | exact this | trivial
    ·have:=kz (S++[x]) (by unfold nw; rw[rO]; show _=if r0 q x=true then _ else _; rw[if_neg aa])
     have dE:r0 q x=false:=by simpa using aa
     simp only[dE,aZ,Int.reduceEq,Int.reduceLT,Int.reduceLE,reduceCtorEq]
     and_intros<;>first | omega | (simp only[bB]; omega) | exact this | trivial
  ·have ba:¬ (j:Int) < (l.length:Int):=by omega
   simp only[aZ,Int.reduceEq,Int.reduceLT,Int.reduceLE,reduceCtorEq,ba];rw[aI,List.take_of_length_le (by omega)]
 unfold Ae;rw[dV,Option.bind_some]
theorem J2(N:Nat) (l:List c9) (h:l.length<=100000):tc N l=some (l,l.length):=by
 unfold tc
 apply T.eq
 simp only[aZ,Int.reduceEq,Int.reduceLT,Int.reduceLE,reduceCtorEq,List.length_replicate]
 and_intros<;>first | omega | (simp only[bB]; omega) | exact this | trivial
theorem aes{N:Nat} {l:List c9} (a6:l.length < N) (ah:∀ p∈l,p.2.2=0\/p.2.2=1) (ae:l.length<=100000) (aw:xy l):Dw N l=some (l,l.length):=by
 unfold Dw;have J:=QS l [] a6 ah (fun _ h=>by cases h) (by simp; omega);rw[aem aw]at J
 apply T.eq
 simp only[aZ,Int.reduceEq,Int.reduceLT,Int.reduceLE,reduceCtorEq,bn J,bn (J2 N l ae)]
 and_intros<;>first | omega | (simp only[bB]; omega) | exact this | trivial
structure n1(y:bJ):Prop where
 DQ:0<=y.2.2.1/\y.2.2.1<=2048
 out:y.1=false->y.2.1=0/\y.2.2.2.1=false/\y.2.2.2.2=[]
 at':y.1=true->Int.tmod y.2.1 2≠0/\-13<=y.2.1/\y.2.1<=179
 ew:y.2.2.2.2.length<=4096
 ok:∀ p∈y.2.2.2.2,th p
 red:xy y.2.2.2.2
theorem Ar{N:Nat} {y:bJ} (h:n1 y) (a6:y.2.2.2.2.length < N):rZ N y=some 0:=by
 have dV:Jt N y N (0:Int)=some (.inl ()):=by
  unfold Jt;refine e3 (fun k d=>∃ j:Nat,j+k=y.2.2.2.2.length/\d=(j:Int)) _ ?_ N y.2.2.2.2.length _ (by omega) ⟨0,by omega,rfl⟩;rintro k d rec ⟨j,aH,rfl⟩ bO;have az:=h.ew
  apply T.eq
  by_cases aW:j < y.2.2.2.2.length
  ·obtain⟨x,ak⟩:∃ x,y.2.2.2.2[j]?=some x:=⟨_,List.getElem?_eq_getElem aW⟩
   have B7:=h.ok x (List.mem_of_getElem? ak);have ba:(j:Int) < (y.2.2.2.2.length:Int):=by omega
   have kz:T (rec ((j:Int)+1)) (·=.inl ()):=⟨_,bO (k - 1) _ (by omega) ⟨j+1,by omega,rfl⟩,rfl⟩
   simp only[aZ,Int.reduceEq,Int.reduceLT,Int.reduceLE,reduceCtorEq,ba,cb ak,bn (QQ N B7),Bool.not_true,Bool.not_false]
   by_cases aN:j=0
   ·subst aN
    simp only[aZ,Int.reduceEq,Int.reduceLT,Int.reduceLE,reduceCtorEq,show ¬ ((0:Int) < ((0:Nat):Int)) by omega];have this:=kz
    and_intros<;>first | omega | (simp only[bB]; omega) | exact this | trivial
   ·have n2:(0:Int) < (j:Int):=by omega
    obtain⟨q,ar⟩:∃ x,y.2.2.2.2[j - 1]?=some x:=⟨_,List.getElem?_eq_getElem (by omega)⟩
    have aet:=h.ok q (List.mem_of_getElem? ar);have aa:r0 q x=false:=h.red (j - 1) q x ar (by rw[show j - 1+1=j by omega]; exact ak);simp only[aZ,Int.reduceEq,Int.reduceLT,Int.reduceLE,reduceCtorEq,n2,show((j:Int) - 1).toNat=j - 1 by omega,cb ar,bn (QR N aet.2 B7.2),aa];have this:=kz
    and_intros<;>first | omega | (simp only[bB]; omega) | exact this | trivial
  ·have ba:¬ (j:Int) < (y.2.2.2.2.length:Int):=by omega
   simp only[aZ,Int.reduceEq,Int.reduceLT,Int.reduceLE,reduceCtorEq,ba]
 have aa:=h.DQ;have az:=h.ew;unfold rZ
 apply T.eq
 cases gg:y.1 with
 | false=>
  obtain⟨J,U,ag⟩:=h.out gg;simp only[aZ,Int.reduceEq,Int.reduceLT,Int.reduceLE,reduceCtorEq,J,U,ag,gg,Bool.not_false,List.length_nil,show ¬ y.2.2.1 < 0 by omega,show ¬ (2048:Int) < y.2.2.1 by omega]
  decide
 | true=>
  obtain⟨J,U,ag⟩:=h.at' gg;have ao:va N y.2.1=some true:=by
   unfold va
   apply T.eq
   simp only[aZ,Int.reduceEq,Int.reduceLT,Int.reduceLE,reduceCtorEq];exact⟨⟨J,U⟩,ag⟩
  simp only[aZ,Int.reduceEq,Int.reduceLT,Int.reduceLE,reduceCtorEq,gg,bn ao,bn dV,Bool.not_true,Bool.not_false,show ¬ y.2.2.1 < 0 by omega,show ¬ (2048:Int) < y.2.2.1 by omega,show ¬ (4096:Int) < (y.2.2.2.2.length:Int) by omega]
theorem QT{N:Nat} {y:bJ} (h:n1 y) (gg:y.1=true) (a6:5000 < N) {place:Int} (ao:Int.tmod place 2≠0/\-13<=place/\place<=179) {l:List c9} (ah:∀ p∈l,th p) (ae:l.length+y.2.2.2.2.length<=4096) :
  td N y place l=some ((true,place,y.2.2.1,y.2.2.2.1,jW y.2.2.2.2 l),0):=by
 have az:=h.ew;have dV:Ju N l N (0:Int)=some (.inl ()):=by
  unfold Ju;refine e3 (fun k d=>∃ j:Nat,j+k=l.length/\d=(j:Int)) _ ?_ N l.length _ (by omega) ⟨0,by omega,rfl⟩;rintro k d rec ⟨j,aH,rfl⟩ bO
  apply T.eq
  by_cases aW:j < l.length
  ·obtain⟨x,ak⟩:∃ x,l[j]?=some x:=⟨_,List.getElem?_eq_getElem aW⟩
   have ba:(j:Int) < (l.length:Int):=by omega
   have this:T (rec ((j:Int)+1)) (·=.inl ()):=⟨_,bO (k - 1) _ (by omega) ⟨j+1,by omega,rfl⟩,rfl⟩
   simp only[aZ,Int.reduceEq,Int.reduceLT,Int.reduceLE,reduceCtorEq,ba,cb ak,bn (QQ N (ah x (List.mem_of_getElem? ak)))]
   and_intros<;>first | omega | (simp only[bB]; omega) | exact this | trivial
  ·have ba:¬ (j:Int) < (l.length:Int):=by omega
   simp only[aZ,Int.reduceEq,Int.reduceLT,Int.reduceLE,reduceCtorEq,ba]
 have gT:va N place=some true:=by
  unfold va;rw[decide_eq_false ao.1,decide_eq_true ao.2.1,decide_eq_true ao.2.2]
  rfl
 have aeu:=QS l y.2.2.2.2 (by omega:l.length < N) (fun p h=>(ah p h).2) (fun p ao=>(h.ok p ao).2) (by omega);have hlen:=QI y.2.2.2.2 l;unfold td
 apply T.eq
 simp only[aZ,Int.reduceEq,Int.reduceLT,Int.reduceLE,reduceCtorEq,bn (Ar (N:=N) h (by omega)),bn gT,bn dV,gg,List.nil_append,List.length_nil,bn aeu,bn (J2 N _ (show(jW y.2.2.2.2 l).length<=100000 by omega)),show ¬ (4096:Int) < ((jW y.2.2.2.2 l).length:Int) by omega]
 and_intros<;>first | omega | (simp only[bB]; omega) | exact this | trivial
theorem aev{N:Nat} {y:bJ} (h:n1 y) (fI:y.1=false) (a6:5000 < N) {side:Int} (an:side=0\/side=1):vb N y side=some ((true,(if side=1 then 179 else -13),y.2.2.1,true,[]),0):=by
 have az:=h.ew;unfold vb
 apply T.eq
 simp only[aZ,Int.reduceEq,Int.reduceLT,Int.reduceLE,reduceCtorEq,bn (Ar (N:=N) h (by omega)),bn (DP N an),fI]
 rcases an with rfl | rfl
 ·simp
 ·simp
theorem aew{N:Nat} {y:bJ} (h:n1 y) (gg:y.1=true) (a6:5000 < N) (aW:y.2.2.1 < 2048):oR N y=some ((true,y.2.1,y.2.2.1+1,false,[]),(y.2.2.1,y.2.2.2.1,y.2.2.2.2),0):=by
 have az:=h.ew;have aa:=h.DQ;unfold oR
 apply T.eq
 simp only[aZ,Int.reduceEq,Int.reduceLT,Int.reduceLE,reduceCtorEq,bn (Ar (N:=N) h (by omega)),gg,bn (J2 N _ (show y.2.2.2.2.length<=100000 by omega)),show ¬ y.2.2.1=2048 by omega]
 and_intros<;>first | omega | (simp only[bB]; omega) | exact this | trivial
end
section
open Go.RowKit
def xB(N:Nat) (b:Bool) (a0:ho):Option (List (Int×(List (List ad))×Unit)):=
  tb b ((0:Int),a0.1,()) (some [])
  (tb b ((1:Int),a0.2,()) (some [])
  (some []))
noncomputable def QU (N:Nat):lJ bS:=Jo N b0 (by kernel_rfl) [.eT fm] [] [.c (.int .u8),.c (.bk (.ai aB))] [] [] (.s (.r [.n 3,.y]) (.c (.r [.n 3,.y]) .d)) 147 (fun b d=>xB N b d.1) Tryz.func147 rfl rfl Tryz.ntmps147 (fun _=>rfl) rfl rfl (fun id d=>by kernel_rfl)
def xC(N:Nat) (a0:ho):Option (ho):=
  some a0
noncomputable def QV (N:Nat):bC bS:=ch N b0 (by kernel_rfl) [.cY fm] [] ⟨.a (.c (.fn 147 [.eT fm])),[],[]⟩ [] [] (.s (.r [.n 2,.w (.cd 1 fm)]) .d) [.tmp 2] 121 fm.zero (fun d=>xC N d.1) Tryz.func121 rfl rfl Tryz.ntmps121 rfl rfl rfl (fun d=>by kernel_rfl)
def As(N:Nat) (b:Bool) (jI:(Int×(List (List ad))×Unit)) (ft:Unit->Option ((List (ad×(List ad)×Unit)))):Nat->Int->Option ((List (ad×(List ad)×Unit))):=cn fun d3 hB=>
  cond (decide (d3 < (jI.2.1.length:Int))) (au ((bc d3 jI.2.1.length)&&(true)) <|
  cond (decide ((40:Int)<=d3)) (ft ()) (au ((bj (d3+(1:Int)))&&(true)) <|
  tb b ((jI.1,(d3+(1:Int))),(jI.2.1.getD d3.toNat []),()) (some [])
  (au ((bj (d3+(1:Int)))&&(true)) <|
  hB (d3+(1:Int))))) (ft ())
def vg(N:Nat) (b:Bool) (a0:ho):Option (List (ad×(List ad)×Unit)):=
  Option.bind (xC N a0) fun aF=>
  Option.bind (xB N true aF) fun l2=>ji (fun(jI:Int×(List (List ad))×Unit) (lf:Unit) (en:Unit->Option (List (ad×(List ad)×Unit)))=>
  As N b jI en N (0:Int)) l2 () fun bM=>
  some []
noncomputable def QW (N:Nat):lJ bS:=Jo N b0 (by kernel_rfl) [.eT fm] [] [.cY aB,.c (.bk aB)] [QV N] [QU N] (.s .d (.s .d (.b (.nR [(2,31)] ⟨[],[],[],[31]⟩ (.b (.s .d (.b (.l ⟨[(2,.a (.c (.raw (.ptr 31 0)))),(13,.a (.c (.int .i64)))],[],[3,11,12],[31]⟩ (.s .d (.s .d (.s (.b (.s .d (.s .d (.s (.r [.n 6,.y]) .d)))) .d))))))))))) 188 (fun b d=>vg N b d.1) Tryz.func188 rfl rfl Tryz.ntmps188 (fun _=>rfl) rfl rfl (fun id d=>by kernel_rfl)
end
section
open Go.RowKit
def J3(N:Nat) (a0:ho):Option (ho):=
  some a0
noncomputable def QX (N:Nat):bC bS:=ch N b0 (by kernel_rfl) [.cY fm] [] ⟨.a (.c (.fn 188 [.eT fm])),[],[]⟩ [] [] (.s (.r [.n 2,.w (.cd 1 fm)]) .d) [.tmp 2] 148 fm.zero (fun d=>J3 N d.1) Tryz.func148 rfl rfl Tryz.ntmps148 rfl rfl rfl (fun d=>by kernel_rfl)
def vh(N:Nat) (a0:ho):Option (Int):=
  Option.bind (J3 N a0) fun aF=>
  Option.bind (vg N true aF) fun l2=>ji (fun(jI:ad×(List ad)×Unit) (lf:Int) (en:Int->Option (Int))=>
  au ((bj (lf+(jI.2.1.length:Int)))&&(true)) <|
  en (lf+(jI.2.1.length:Int))) l2 (0:Int) fun bM=>
  some bM
noncomputable def QY (N:Nat):bC bS:=ch N b0 (by kernel_rfl) [.cY fm] [] ⟨.a (.c (.int .i64)),[],[]⟩ [QX N] [QW N] (.s (.r [.n 2,.w (.cd 1 fm)]) (.s .d (.s (.s .d (.b (.nR [(3,18)] ⟨[],[(18,.cells 3 [.int .i64])],[],[]⟩ .d))) .d))) [.tmp 2] 122 0 (fun d=>vh N d.1) Tryz.func122 rfl rfl Tryz.ntmps122 rfl rfl rfl (fun d=>by kernel_rfl)
def Au(N:Nat) (jI:(Int×(List (List ad))×Unit)):Nat->Int->Option ((Int×Bool)⊕(Int)):=cn fun d3 hB=>
  cond (decide (d3 < (jI.2.1.length:Int))) (au ((bc d3 jI.2.1.length)&&(true)) <|
  cond (decide ((4:Int) < ((jI.2.1.getD d3.toNat []).length:Int))) (some (.inr (9:Int))) (au ((bj (d3+(1:Int)))&&(true)) <|
  hB (d3+(1:Int)))) (some (.inl (d3,(decide (d3 < (jI.2.1.length:Int))))))
def J4(N:Nat) (qF:(Int×(List (List ad))×Unit)) (pN:Int):Nat->Int->Option ((Unit)⊕((Int×Bool)⊕(Int))):=cn fun d7 oT=>
  cond (decide (d7 < ((qF.2.1.getD pN.toNat []).length:Int))) (au ((bc d7 (qF.2.1.getD pN.toNat []).length)&&(true)) <|
  Option.bind (xu N ((qF.2.1.getD pN.toNat []).getD d7.toNat aB.zero)) fun jz=>
  cond (!jz) (some (.inr (.inr (1:Int)))) (au ((bj (d7+(1:Int)))&&(true)) <|
  oT (d7+(1:Int)))) (some (.inl ()))
def Av(N:Nat) (qF:(Int×(List (List ad))×Unit)):Nat->Int->Option ((Int×Bool)⊕(Int)):=cn fun d6 xD=>
  cond (decide (d6 < (qF.2.1.length:Int))) (au ((bc d6 qF.2.1.length)&&(true)) <|
  Option.bind (J4 N qF d6 N (0:Int)) fun(jl:(Unit)⊕((Int×Bool)⊕(Int)))=>
  sm jl (fun jl=>
  au ((bj (d6+(1:Int)))&&(true)) <|
  xD (d6+(1:Int))) (fun q=>some q)) (some (.inl (d6,(decide (d6 < (qF.2.1.length:Int))))))
def J5(N:Nat) (pO:(Int×(List (List ad))×Unit)) (DR:Int):Nat->(Int×(List (ad×Bool)))->Option (((List (ad×Bool)))⊕((Int×Bool×(List (ad×Bool)))⊕(Int))):=cn fun d13 aex=>
  cond (decide (d13.1 < ((pO.2.1.getD DR.toNat []).length:Int))) (au ((bc d13.1 (pO.2.1.getD DR.toNat []).length)&&(true)) <|
  cond ((cF aB .bool d13.2 ((pO.2.1.getD DR.toNat []).getD d13.1.toNat aB.zero)).getD false) (some (.inr (.inr (8:Int)))) (au ((true&&true)&&(true)) <|
  au ((bj (d13.1+(1:Int)))&&(true)) <|
  aex ((d13.1+(1:Int)),(eD aB .bool d13.2 ((pO.2.1.getD DR.toNat []).getD d13.1.toNat aB.zero) true)))) (some (.inl d13.2))
def Aw(N:Nat) (pO:(Int×(List (List ad))×Unit)):Nat->(Int×(List (ad×Bool)))->Option ((Int×Bool×(List (ad×Bool)))⊕(Int)):=cn fun d12 JT=>
  cond (decide (d12.1 < (pO.2.1.length:Int))) (au ((bc d12.1 pO.2.1.length)&&(true)) <|
  Option.bind (J5 N pO d12.1 N ((0:Int),d12.2)) fun(oU:((List (ad×Bool)))⊕((Int×Bool×(List (ad×Bool)))⊕(Int)))=>
  sm oU (fun oU=>
  au ((bj (d12.1+(1:Int)))&&(true)) <|
  JT ((d12.1+(1:Int)),oU)) (fun q=>some q)) (some (.inl (d12.1,(decide (d12.1 < (pO.2.1.length:Int))),d12.2)))
def vi(N:Nat) (a0:ho):Option (Int):=
  Option.bind (xC N a0) fun aF=>
  Option.bind (xB N true aF) fun l2=>ji (fun(jI:Int×(List (List ad))×Unit) (lf:Unit) (en:Unit->Option (Int))=>
  cond (decide ((40:Int) < (jI.2.1.length:Int))) (some (9:Int)) (Option.bind (Au N jI N (0:Int)) fun(b7:(Int×Bool)⊕(Int))=>
  sm b7 (fun b7=>
  en ()) (fun q=>some q))) l2 () fun bM=>
  Option.bind (xC N a0) fun b6=>
  Option.bind (xB N true b6) fun aey=>ji (fun(qF:Int×(List (List ad))×Unit) (akp:Unit) (H8:Unit->Option (Int))=>
  Option.bind (Av N qF N (0:Int)) fun(gi:(Int×Bool)⊕(Int))=>
  sm gi (fun gi=>
  H8 ()) (fun q=>some q)) aey () fun cW=>
  Option.bind (vh N a0) fun nx=>
  Option.bind (xC N a0) fun k4=>
  Option.bind (xB N true k4) fun aez=>ji (fun(pO:Int×(List (List ad))×Unit) (aeA:(List (ad×Bool))) (aeB:(List (ad×Bool))->Option (Int))=>
  Option.bind (Aw N pO N ((0:Int),aeA)) fun(xw:(Int×Bool×(List (ad×Bool)))⊕(Int))=>
  sm xw (fun xw=>
  aeB xw.2.2) (fun q=>some q)) aez ([]:List (ad×Bool)) fun JV=>
  some (0:Int)
noncomputable def DS (N:Nat):bC bS:=ch N b0 (by kernel_rfl) [.cY fm] [] ⟨.a (.c (.int .i64)),[],[]⟩ [QV N,Jq N,QY N] [QU N] (.s (.r [.n 2,.w (.cd 1 fm)]) (.s (.s .d (.b (.nR [(2,86)] ⟨[],[],[],[86]⟩ (.b (.s .d (.s .d (.b (.fD 2 ⟨[(2,.a (.c (.raw (.ptr 86 0)))),(29,.a (.c (.int .i64)))],[],[1,24,25,26,27,28],[86]⟩ ⟨[(2,.a (.c (.raw (.ptr 86 0)))),(29,.a (.c (.int .i64))),(30,.a (.c .bool))],[],[1,24,25,26,27,28],[86]⟩ .d)))))))) (.s (.s .d (.b (.nR [] ⟨[],[],[],[86]⟩ (.b (.s .d (.b (.fD 6 ⟨[(2,.a (.c (.raw (.ptr 86 0)))),(43,.a (.c (.int .i64)))],[],[1,41,42],[86]⟩ ⟨[(2,.a (.c (.raw (.ptr 86 0)))),(43,.a (.c (.int .i64))),(44,.a (.c .bool))],[],[1,41,42],[86]⟩ (.s .d (.s .d (.s (.b (.s .d (.s .d (.b (.fD 8 ⟨[(2,.a (.c (.raw (.ptr 86 0)))),(49,.a (.c (.int .i64)))],[],[1,41,42,43,47,48],[86]⟩ ⟨[(2,.a (.c (.raw (.ptr 86 0))))],[],[1,41,42,43],[86]⟩ (.s .d (.s .d (.s (.b (.s (.r [.n 4,.w (.cd 12 aB)]) .d)) .d)))))))) .d)))))))))) (.s (.r [.n 2,.t (.nm aB .bool)]) (.s (.s .d (.b (.nR [(13,97)] ⟨[],[(60,.mp aB .bool),(97,.cells 193 [.raw (.b8 60)])],[],[86]⟩ (.b (.s .d (.b (.fD 12 ⟨[(2,.a (.c (.raw (.ptr 86 0)))),(13,.a (.c (.raw (.ptr 97 0)))),(67,.a (.c (.int .i64)))],[(60,.mp aB .bool),(97,.cells 193 [.raw (.b8 60)])],[65,66],[86]⟩ ⟨[(2,.a (.c (.raw (.ptr 86 0)))),(13,.a (.c (.raw (.ptr 97 0)))),(67,.a (.c (.int .i64))),(68,.a (.c .bool))],[(60,.mp aB .bool),(97,.cells 193 [.raw (.b8 60)])],[65,66],[86]⟩ (.s .d (.s .d (.s (.b (.s .d (.s .d (.b (.fD 14 ⟨[(2,.a (.c (.raw (.ptr 86 0)))),(13,.a (.c (.raw (.ptr 97 0)))),(73,.a (.c (.int .i64)))],[(60,.mp aB .bool),(97,.cells 193 [.raw (.b8 60)])],[65,66,67,71,72],[86]⟩ ⟨[(2,.a (.c (.raw (.ptr 86 0)))),(13,.a (.c (.raw (.ptr 97 0))))],[(60,.mp aB .bool),(97,.cells 193 [.raw (.b8 60)])],[65,66,67],[86]⟩ (.s .d (.s .d (.s (.b (.s (.r [.n 4,.w (.cd 19 aB)]) (.s (.s (.r [.n 2,.t .zi]) .d) (.r [.n 2,.t .CC])))) .d)))))))) .d)))))))))) .d))))) [.cell 2 41] 87 0 (fun d=>vi N d.1) Tryz.func87 rfl rfl Tryz.ntmps87 rfl rfl rfl (fun d=>by kernel_rfl)
end
section
open Go.RowKit
theorem J6{hd aR:Type} {step:hd->(hd->Option aR)->Option aR} (I:Nat->hd->aR->Prop)
  (h:∀ k d r rec,I k d r->(∀ k' c5 cy,k' < k->I k' c5 cy->rec c5=some cy)->step d rec=some r):∀ n k d r,k < n->I k d r->cn step n d=some r
 | 0,_,_,_,ab,_=>by omega
 | n+1,k,d,r,ab,gV=>h k d r _ gV fun k' c5 cy hS zZ=>J6 I h n k' c5 cy (by omega) zZ
theorem QZ{α:Type} {x:α} {k:Option (List α)} {P:List α->Prop}:T (tb true x (some []) k) P ↔ T k fun l=>P (x :: l):=by
 cases k with
 | none=>exact⟨fun⟨_,h,_⟩=>(by cases h),fun⟨_,h,_⟩=>by cases h⟩
 | some l=>exact⟨fun⟨_,h,ao⟩=>⟨l,rfl,by cases h; exact ao⟩,fun⟨_,h,ao⟩=>⟨_,rfl,by cases h; exact ao⟩⟩
def ny(a:ad):Prop:=1<=a.1/\a.1<=6/\0<=a.2/\a.2 < 2048
def gv(l:List ad):List (ad×Bool):=l.map fun a=>(a,true)
theorem DT(a b:ad):aU.beq aB a b=decide (a=b):=by
 rw[Bool.eq_iff_iff,beq_iff (g:=aB) _ _ rfl,decide_eq_true_eq]
theorem J7:∀ (l:List ad) (a:ad),a ∉ l->cF aB .bool (gv l) a=none
 | [],_,_=>rfl
 | x :: l,a,h=>by
  show(match aU.beq aB x a with | true=>some true | false=>cF aB .bool (gv l) a)=none;rw[DT,decide_eq_false (fun e=>h (by rw[e]; exact List.mem_cons_self))];exact J7 l a fun hm=>h (List.mem_cons_of_mem _ hm)
theorem DU:∀ (l:List ad) (a:ad),a ∉ l->eD aB .bool (gv l) a true=gv (l++[a])
 | [],_,_=>rfl
 | x :: l,a,h=>by
  show(match aU.beq aB x a with | true=>(x,true) :: gv l | false=>(x,true) :: eD aB .bool (gv l) a true)=_;rw[DT,decide_eq_false (fun e=>h (by rw[e]; exact List.mem_cons_self))];show(x,true) :: eD aB .bool (gv l) a true=_;rw[DU l a fun hm=>h (List.mem_cons_of_mem _ hm)]
  rfl
def hE(b:Int):Nat->List (List ad)->List (ad×List ad×Unit)
 | _,[]=>[]
 | i,s :: r=>((b,(i:Int)+1),s,()) :: hE b (i+1) r
theorem ti{α:Type} {l:List α} {i:Nat} {x:α} (h:l[i]?=some x):l.drop i=x :: l.drop (i+1):=by
 obtain⟨J,U⟩:=List.getElem?_eq_some_iff.1 h;rw[List.drop_eq_getElem_cons J,U]
theorem Q0{N:Nat} (b:Int) (l:List (List ad)) (ah:l.length<=40) (a6:5000 < N) {ft:Unit->Option (List (ad×List ad×Unit))} {R:List (ad×List ad×Unit)} (dT:ft ()=some R) :
  As N true (b,l,()) ft N (0:Int)=some (hE b 0 l++R):=by
 unfold As;refine J6 (fun k d r=>∃ i:Nat,i+k=l.length/\d=(i:Int)/\r=hE b i (l.drop i)++R) ?_ N l.length _ _ (by omega) ⟨0,by omega,rfl,rfl⟩;rintro k d r rec ⟨i,hi,rfl,rfl⟩ bO
 apply T.eq
 by_cases aW:i < l.length
 ·obtain⟨x,ak⟩:∃ x,l[i]?=some x:=⟨_,List.getElem?_eq_getElem aW⟩
  have ba:(i:Int) < (l.length:Int):=by omega
  have DV:¬ (40:Int)<=(i:Int):=by omega
  have aw:=bO (k - 1) ((i:Int)+1) _ (by omega) ⟨i+1,by omega,rfl,rfl⟩;rw[ti ak];simp only[aZ,Int.reduceEq,Int.reduceLT,Int.reduceLE,reduceCtorEq,ba,DV,QZ,cb ak,bn aw]
  and_intros<;>first | omega | (simp only[bB]; omega) | exact this | trivial
 ·have ba:¬ (i:Int) < (l.length:Int):=by omega
  rw[List.drop_eq_nil_of_le (by omega)];simp only[aZ,Int.reduceEq,Int.reduceLT,Int.reduceLE,reduceCtorEq,ba,bn dT]
  rfl
theorem J8{N:Nat} (a6:5000 < N) {f g:List (List ad)} (az:f.length<=40) (aQ:g.length<=40):vg N true (f,g)=some (hE 0 0 f++(hE 1 0 g++[])):=by
 show As N true ((0:Int),f,()) (fun _=>As N true ((1:Int),g,()) (fun _=>some []) N (0:Int)) N (0:Int)=_;exact Q0 0 f az a6 (Q0 1 g aQ a6 rfl)
def lens(E:List (ad×List ad×Unit)):Nat:=(E.map fun x=>x.2.1.length).sum
theorem Q1(b:Int) (l:List (List ad)):∀ i,lens (hE b i l)=l.flatten.length:=by
 induction l with
 | nil=>intro i; rfl
 | cons s r br=>
  intro i;show s.length+lens (hE b (i+1) r)=(s++r.flatten).length;rw[br,List.length_append]
theorem aeC(E:List (ad×List ad×Unit)):∀ c:Nat,c+lens E<=100000 ->
  ji (fun(jI:ad×List ad×Unit) (lf:Int) (en:Int->Option Int)=>au ((bj (lf+(jI.2.1.length:Int)))&&(true))<|en (lf+(jI.2.1.length:Int))) E (c:Int) (fun o=>some o)=some ((c+lens E:Nat):Int):=by
 induction E with
 | nil=>intro c _; rfl
 | cons e E br=>
  intro c h;have ah:lens (e :: E)=e.2.1.length+lens E:=rfl;rw[ah]at h;show au ((bj ((c:Int)+(e.2.1.length:Int)))&&(true)) (ji _ E ((c:Int)+(e.2.1.length:Int)) _)=_;rw[pK (by rw[Bool.and_true]; exact z1 (by omega) (by omega)),ah,<- Nat.add_assoc];exact br (c+e.2.1.length) (by omega)
theorem Q2{N:Nat} (a6:5000 < N) {f g:List (List ad)} (az:f.length<=40) (aQ:g.length<=40) (aa:f.flatten.length+g.flatten.length<=100000):vh N (f,g)=some ((f.flatten.length+g.flatten.length:Nat):Int):=by
 have ah:lens (hE 0 0 f++(hE 1 0 g++[]))=f.flatten.length+g.flatten.length:=by
  rw[List.append_nil];unfold lens;rw[List.map_append,List.sum_append];exact congr (congrArg _ (Q1 0 f 0)) (Q1 1 g 0)
 unfold vh;show Option.bind (vg N true (f,g)) _=_;rw[J8 a6 az aQ,Option.bind_some]
 have:=aeC (hE 0 0 f++(hE 1 0 g++[])) 0 (by omega)
 rw[ah,Nat.zero_add]at this;exact this
structure gw(l:List (List ad)):Prop where
 len:l.length<=40
 ew:∀ s∈l,s.length<=4
 ok:∀ s∈l,∀ a∈s,ny a
theorem Q3{N:Nat} (a6:5000 < N) (b:Int) {l:List (List ad)} (h:gw l):Au N (b,l,()) N (0:Int)=some (.inl ((l.length:Int),false)):=by
 unfold Au;have hlen:=h.len;refine e3 (fun k d=>∃ i:Nat,i+k=l.length/\d=(i:Int)) _ ?_ N l.length _ (by omega) ⟨0,by omega,rfl⟩;rintro k d rec ⟨i,hi,rfl⟩ bO
 apply T.eq
 by_cases aW:i < l.length
 ·obtain⟨x,ak⟩:∃ x,l[i]?=some x:=⟨_,List.getElem?_eq_getElem aW⟩
  have ba:(i:Int) < (l.length:Int):=by omega
  have aq:=h.ew x (List.mem_of_getElem? ak);have aeD:¬ (4:Int) < (x.length:Int):=by omega
  have this:T (rec ((i:Int)+1)) (·=.inl ((l.length:Int),false)):=⟨_,bO (k - 1) _ (by omega) ⟨i+1,by omega,rfl⟩,rfl⟩
  simp only[aZ,Int.reduceEq,Int.reduceLT,Int.reduceLE,reduceCtorEq,ba,cb ak,aeD]
  and_intros<;>first | omega | (simp only[bB]; omega) | exact this | trivial
 ·have ba:¬ (i:Int) < (l.length:Int):=by omega
  simp only[aZ,Int.reduceEq,Int.reduceLT,Int.reduceLE,reduceCtorEq,ba];rw[show i=l.length by omega]
theorem aeE{N:Nat} (a6:5000 < N) (b:Int) {l:List (List ad)} (h:gw l) {i:Nat} {s:List ad} (an:l[i]?=some s):J4 N (b,l,()) (i:Int) N (0:Int)=some (.inl ()):=by
 unfold J4;have Q4:=List.mem_of_getElem? an;have aq:=h.ew s Q4;refine e3 (fun k d=>∃ j:Nat,j+k=s.length/\d=(j:Int)) _ ?_ N s.length _ (by omega) ⟨0,by omega,rfl⟩;rintro k d rec ⟨j,aH,rfl⟩ bO
 apply T.eq
 by_cases aW:j < s.length
 ·obtain⟨x,ak⟩:∃ x,s[j]?=some x:=⟨_,List.getElem?_eq_getElem aW⟩
  have ba:(j:Int) < (s.length:Int):=by omega
  have this:T (rec ((j:Int)+1)) (·=.inl ()):=⟨_,bO (k - 1) _ (by omega) ⟨j+1,by omega,rfl⟩,rfl⟩
  simp only[aZ,Int.reduceEq,Int.reduceLT,Int.reduceLE,reduceCtorEq,cb an,ba,cb ak,bn (J1 N (h.ok s Q4 x (List.mem_of_getElem? ak)))]
  and_intros<;>first | omega | (simp only[bB]; omega) | exact this | trivial
 ·have ba:¬ (j:Int) < (s.length:Int):=by omega
  simp only[aZ,Int.reduceEq,Int.reduceLT,Int.reduceLE,reduceCtorEq,cb an,ba]
theorem Q5{N:Nat} (a6:5000 < N) (b:Int) {l:List (List ad)} (h:gw l):Av N (b,l,()) N (0:Int)=some (.inl ((l.length:Int),false)):=by
 unfold Av;have hlen:=h.len;refine e3 (fun k d=>∃ i:Nat,i+k=l.length/\d=(i:Int)) _ ?_ N l.length _ (by omega) ⟨0,by omega,rfl⟩;rintro k d rec ⟨i,hi,rfl⟩ bO
 apply T.eq
 by_cases aW:i < l.length
 ·obtain⟨x,ak⟩:∃ x,l[i]?=some x:=⟨_,List.getElem?_eq_getElem aW⟩
  have ba:(i:Int) < (l.length:Int):=by omega
  have this:T (rec ((i:Int)+1)) (·=.inl ((l.length:Int),false)):=⟨_,bO (k - 1) _ (by omega) ⟨i+1,by omega,rfl⟩,rfl⟩
  simp only[aZ,Int.reduceEq,Int.reduceLT,Int.reduceLE,reduceCtorEq,ba,bn (aeE a6 b h ak)]
  and_intros<;>first | omega | (simp only[bB]; omega) | exact this | trivial
 ·have ba:¬ (i:Int) < (l.length:Int):=by omega
  simp only[aZ,Int.reduceEq,Int.reduceLT,Int.reduceLE,reduceCtorEq,ba];rw[show i=l.length by omega]
theorem J9{α:Type} {P Q:List α} {x:α} (h:(P++x :: Q).Nodup):x ∉ P:=fun ak=>(List.nodup_append.1 h).2.2 x ak x List.mem_cons_self rfl
theorem qG{α:Type} {l:List α} {i:Nat} {x:α} (h:l[i]?=some x):l.take (i+1)=l.take i++[x]:=by
 obtain⟨J,U⟩:=List.getElem?_eq_some_iff.1 h;rw[List.take_succ_eq_append_getElem J,U]
theorem aeF{N:Nat} (a6:5000 < N) (b:Int) {l:List (List ad)} (h:gw l) {i:Nat} {s:List ad} (an:l[i]?=some s) (acc Q:List ad) (aV:(acc++(s++Q)).Nodup) :
  J5 N (b,l,()) (i:Int) N ((0:Int),gv acc)=some (.inl (gv (acc++s))):=by
 unfold J5;have aq:=h.ew s (List.mem_of_getElem? an);refine e3 (fun k d=>∃ j:Nat,j+k=s.length/\d=((j:Int),gv (acc++s.take j))) _ ?_ N s.length _ (by omega) ⟨0,by omega,by simp⟩;rintro k d rec ⟨j,aH,rfl⟩ bO
 apply T.eq
 by_cases aW:j < s.length
 ·obtain⟨x,ak⟩:∃ x,s[j]?=some x:=⟨_,List.getElem?_eq_getElem aW⟩
  have ba:(j:Int) < (s.length:Int):=by omega
  have hH:x ∉ acc++s.take j:=by
   refine J9 (Q:=s.drop (j+1)++Q) ?_;have e:acc++s.take j++x :: (s.drop (j+1)++Q)=acc++(s++Q):=by
    conv=>rhs; rw[<- List.take_append_drop j s,ti ak]
    simp only[List.append_assoc,List.cons_append]
   rw[e];exact aV
  have this:T (rec ((j:Int)+1,gv (acc++s.take j++[x]))) (·=.inl (gv (acc++s))):=⟨_,bO (k - 1) _ (by omega) ⟨j+1,by omega,by rw[qG ak,List.append_assoc]; rfl⟩,rfl⟩
  simp only[aZ,Int.reduceEq,Int.reduceLT,Int.reduceLE,reduceCtorEq,cb an,ba,cb ak,J7 _ _ hH,DU _ _ hH,Option.getD_none,Bool.false_eq_true]
  and_intros<;>first | omega | (simp only[bB]; omega) | exact this | trivial
 ·have ba:¬ (j:Int) < (s.length:Int):=by omega
  simp only[aZ,Int.reduceEq,Int.reduceLT,Int.reduceLE,reduceCtorEq,cb an,ba];rw[List.take_of_length_le (by omega)]
theorem Q6{N:Nat} (a6:5000 < N) (b:Int) {l:List (List ad)} (h:gw l) (acc:List ad) (aV:(acc++l.flatten).Nodup) :
  Aw N (b,l,()) N ((0:Int),gv acc)=some (.inl ((l.length:Int),false,gv (acc++l.flatten))):=by
 unfold Aw;have hlen:=h.len;refine e3 (fun k d=>∃ i:Nat,i+k=l.length/\d=((i:Int),gv (acc++(l.take i).flatten))) _ ?_ N l.length _ (by omega) ⟨0,by omega,by simp⟩;rintro k d rec ⟨i,hi,rfl⟩ bO
 apply T.eq
 by_cases aW:i < l.length
 ·obtain⟨x,ak⟩:∃ x,l[i]?=some x:=⟨_,List.getElem?_eq_getElem aW⟩
  have ba:(i:Int) < (l.length:Int):=by omega
  have e:(l.take (i+1)).flatten=(l.take i).flatten++x:=by rw[qG ak,List.flatten_append,List.flatten_singleton]
  have hr:(acc++(l.take i).flatten++(x++(l.drop (i+1)).flatten)).Nodup:=by
   have aS:acc++(l.take i).flatten++(x++(l.drop (i+1)).flatten)=acc++l.flatten:=by
    conv=>rhs; rw[<- List.take_append_drop i l,ti ak,List.flatten_append,List.flatten_cons]
    simp only[List.append_assoc]
   rw[aS];exact aV
  have this:T (rec ((i:Int)+1,gv (acc++(l.take i).flatten++x))) (·=.inl ((l.length:Int),false,gv (acc++l.flatten))):=⟨_,bO (k - 1) _ (by omega) ⟨i+1,by omega,by rw[e,List.append_assoc]; rfl⟩,rfl⟩
  simp only[aZ,Int.reduceEq,Int.reduceLT,Int.reduceLE,reduceCtorEq,ba,bn (aeF a6 b h ak _ _ hr)]
  and_intros<;>first | omega | (simp only[bB]; omega) | exact this | trivial
 ·have ba:¬ (i:Int) < (l.length:Int):=by omega
  simp only[aZ,Int.reduceEq,Int.reduceLT,Int.reduceLE,reduceCtorEq,ba];rw[show i=l.length by omega,List.take_length]
theorem xE{N:Nat} (a6:5000 < N) {f g:List (List ad)} (az:gw f) (aQ:gw g) (aV:(f.flatten++g.flatten).Nodup) (aa:f.flatten.length+g.flatten.length<=100000):vi N (f,g)=some 0:=by
 have di:=az.len;have tj:=aQ.len;have oG:=Q6 a6 0 az [] (by rw[List.nil_append]; exact(List.nodup_append.1 aV).1);rw[List.nil_append]at oG;have aeG:=Q6 a6 1 aQ f.flatten aV;have ae:xC N (f,g)=some (f,g):=rfl;have hs:xB N true (f,g)=some [((0:Int),f,()),((1:Int),g,())]:=rfl;unfold vi;simp only[ae,hs,Option.bind_some];show cond (decide ((40:Int) < (f.length:Int))) _ (Option.bind (Au N ((0:Int),f,()) N (0:Int)) _)=_;rw[decide_eq_false (by omega),cond_false,Q3 a6 0 az,Option.bind_some];show cond (decide ((40:Int) < (g.length:Int))) _ (Option.bind (Au N ((1:Int),g,()) N (0:Int)) _)=_;rw[decide_eq_false (by omega),cond_false,Q3 a6 1 aQ,Option.bind_some];show Option.bind (Av N ((0:Int),f,()) N (0:Int)) _=_;rw[Q5 a6 0 az,Option.bind_some];show Option.bind (Av N ((1:Int),g,()) N (0:Int)) _=_;rw[Q5 a6 1 aQ,Option.bind_some];show Option.bind (vh N (f,g)) _=_;rw[Q2 a6 di tj aa,Option.bind_some];show Option.bind (Aw N ((0:Int),f,()) N ((0:Int),gv [])) _=_;rw[oG,Option.bind_some];show Option.bind (Aw N ((1:Int),g,()) N ((0:Int),gv f.flatten)) _=_;rw[aeG,Option.bind_some]
 rfl
end
section
set_option linter.unusedSectionVars false
def aeH(X:bs) (f:FuncId) (args:List bl) (h:bz) (Q:b3->bz->Prop):Prop:=
 ∀ (B:Nat->Prop) (al:World) (env:Nat->Loc) (vs:List Value) (H:List bf) (W:World),wo X B al->dn env B al args vs->bA env B al h H->bE B al H W->∀ u,CallsDIn Fence.wide 0 X.P f vs.toArray u W (fun e fL w'=>fL=u/\∃ v,e=.returned v/\wq X env B H W Q v w')
structure aeI(X:bs) where
 c:bC X
 akq:∀ d r,c.m d=some r->aeH X c.f (hX c.A d).1 (ju c.eN (hX c.A d).2).1 (fun sv h=>sv=(c.out d r).1/\h=(c.out d r).2)
section
variable {X:bs} {n:Nat}
end
section
variable {X:bs} {R:Nat->Prop} {W:World} {aJ:e0} {n:Nat} {env:Nat->Loc} {B:Nat->Prop} {al:World} {H:List bf} {st:aO} {a:Act} {w:World}
end
end
section
set_option linter.unusedSectionVars false
section
variable {X:bs} {R:Nat->Prop} {W:World} {aJ:e0} {n:Nat} {env:Nat->Loc} {B:Nat->Prop} {al:World} {H:List bf} {st:aO} {a:Act} {w:World}
end
section
variable {X:bs} {N n:Nat} {T:List (bC X)} {bD:List (lJ X)} {akr:aeI X} {ms:List (Nat×Nat)} {ps:ec} {aks:Nat} {res:List ResultVar} {akt:lL} {fn:Func}
end
end
section
open Go.RowKit
end
section
open Go.RowKit
end
section
open Go.RowKit
def fo(a b:Int):Int:=if a < b then b else a
def ic(a b:Int):Int:=if b < a then b else a
def vj(N:Nat) (a0:(List cl)):Option ((List cl)×Nat):=
  au (((decide (0<=(a0.length:Int)))&&(decide ((a0.length:Int)<=(a0.length:Int)))&&(decide ((a0.length:Int)<=(a0.length:Int))))&&(true)) <|
  some ((a0.take (a0.length:Int).toNat),(a0.length:Int).toNat)
noncomputable def Q7 (N:Nat):bC bS:=ch N b0 (by kernel_rfl) [.c (.bk ed)] [] ⟨.a (.c (.jb ed)),[],[]⟩ [] [] (.d) [.tmp 2] 35 ([],0) (fun d=>vj N d.1) Tryz.func35 rfl rfl Tryz.ntmps35 rfl rfl rfl (fun d=>by kernel_rfl)
end
section
open Go.RowKit
def jX(N:Nat) (a0:ad):Option (Int):=
  cond (cond (!(decide (a0.1=(0:Int)))) (!(decide (a0.1=(1:Int)))) false) (some (1:Int)) (cond (cond (decide (a0.2 < (1:Int))) true (decide ((40:Int) < a0.2))) (some (1:Int)) (some (0:Int)))
noncomputable def tk (N:Nat):bC bS:=ch N b0 (by kernel_rfl) [.cY aB] [] ⟨.a (.c (.int .i64)),[],[]⟩ [] [] (.s (.r [.n 2,.w (.cd 1 aB)]) .d) [.tmp 2] 41 0 (fun d=>jX N d.1) Tryz.func41 rfl rfl Tryz.ntmps41 rfl rfl rfl (fun d=>by kernel_rfl)
def vk(N:Nat) (a0:Int):Option (Bool):=
  some (cond (decide ((-4:Int)<=a0)) (decide (a0<=(4:Int))) false)
noncomputable def Q8 (N:Nat):bC bS:=ch N b0 (by kernel_rfl) [.c (.int .i64)] [] ⟨.a (.c .bool),[],[]⟩ [] [] (.d) [.tmp 2] 62 false (fun d=>vk N d.1) Tryz.func62 rfl rfl Tryz.ntmps62 rfl rfl rfl (fun d=>by kernel_rfl)
def mh(N:Nat) (a0:ad) (a1:Int):Option (Int):=
  Option.bind (jX N a0) fun aF=>
  Option.bind (cond (!(!(decide (aF=(0:Int))))) (vk N a1) (some false)) fun a7=>
  cond (cond (!(decide (aF=(0:Int)))) true (!a7)) (some (0:Int)) (cond (decide (a0.1=(0:Int))) (au ((bj ((4:Int) * a0.2))&&((bj (((4:Int) * a0.2)+(2:Int)))&&(true))) <|
  some (((4:Int) * a0.2)+(2:Int))) (au ((bj (a0.2+a1))&&((bj ((4:Int) * (a0.2+a1)))&&(true))) <|
  some ((4:Int) * (a0.2+a1))))
noncomputable def Ka (N:Nat):bC bS:=ch N b0 (by kernel_rfl) [.cY aB,.c (.int .i64)] [] ⟨.a (.c (.int .i64)),[],[]⟩ [tk N,Q8 N] [] (.s (.r [.n 2,.w (.cd 2 aB)]) .d) [.tmp 4] 22 0 (fun d=>mh N d.1 d.2.1) Tryz.func22 rfl rfl Tryz.ntmps22 rfl rfl rfl (fun d=>by kernel_rfl)
def xF(N:Nat) (a0:ad) (a1:Int):Option (ad×Int):=
  Option.bind (jX N a0) fun aF=>
  cond (!(decide (aF=(0:Int)))) (some (((0:Int),(0:Int)),(1:Int))) (Option.bind (vk N a1) fun a7=>
  cond (!a7) (some (((0:Int),(0:Int)),(11:Int))) (au ((bj (a0.2 - a1))&&(true)) <|
  Option.bind (cond (decide (a0.1=(1:Int))) (au ((bj (a0.2+a1))&&(true)) <|
  some ((0:Int),(a0.2+a1))) (some ((1:Int),(a0.2 - a1)))) fun b7=>
  Option.bind (jX N b7) fun b6=>
  cond (!(decide (b6=(0:Int)))) (some (((0:Int),(0:Int)),(11:Int))) (some (b7,(0:Int)))))
noncomputable def aeJ (N:Nat):bC bS:=ch N b0 (by kernel_rfl) [.cY aB,.c (.int .i64)] [] ⟨.c3 [.cY aB,.c (.int .i64)],[],[]⟩ [tk N,Q8 N] [] (.s (.r [.n 3,.w (.cd 2 aB)]) (.s .d (.s .d (.s .d (.j ⟨[(4,.a (.c (.raw (.ptr 4 0)))),(6,.a (.c (.raw (.ptr 6 0))))],[(6,.cells 50 [.int .u8,.int .i64])],[],[4]⟩ .d .d))))) [.cell 4 50,.tmp 5] 134 (aB.zero,0) (fun d=>xF N d.1 d.2.1) Tryz.func134 rfl rfl Tryz.ntmps134 rfl rfl rfl (fun d=>by kernel_rfl)
def r3(N:Nat) :Option ((List (Int×P9))):=
  some (eD (.int .u8) cS (eD (.int .u8) cS (eD (.int .u8) cS (eD (.int .u8) cS (eD (.int .u8) cS (eD (.int .u8) cS (eD (.int .u8) cS (eD (.int .u8) cS ([]:List (Int×P9)) (1:Int) (true,(false,(true,false)))) (2:Int) (false,(false,(true,false)))) (3:Int) (false,(false,(false,true)))) (4:Int) (true,(true,(true,false)))) (5:Int) (true,(true,(true,false)))) (6:Int) (true,(true,(true,false)))) (7:Int) (false,(true,(false,false)))) (8:Int) (false,(true,(false,false))))
noncomputable def aeK (N:Nat):bC bS:=ch N b0 (by kernel_rfl) [] [] ⟨.a (.c (.raw (.b8 1))),[(1,.mp (.int .u8) cS)],[]⟩ [] [] (.s .d (.s (.r [.t (.nm (.int .u8) cS),.n 1,.t .lG,.n 1,.t .lG,.n 1,.t .lG,.n 1,.t .lG,.n 1,.t .lG,.n 1,.t .lG,.n 1,.t .lG,.n 1,.t .lG]) .d)) [.tmp 0] 163 [] (fun d=>r3 N ) Tryz.func163 rfl rfl Tryz.ntmps163 rfl rfl rfl (fun d=>by kernel_rfl)
def mM(N:Nat) (a0:cl):Option (Bool):=
  Option.bind (r3 N) fun aF=>
  cond (!((cF (.int .u8) cS aF a0.1).isSome)) (some false) (cond (cond (cond (cond ((cF (.int .u8) cS aF a0.1).getD cS.zero).1 (!(decide (a0.2.1=(0:Int)))) false) (!(decide (a0.2.1=(1:Int)))) false) true (cond (!((cF (.int .u8) cS aF a0.1).getD cS.zero).1) (!(decide (a0.2.1=(0:Int)))) false)) (some false) (Option.bind (cond ((cF (.int .u8) cS aF a0.1).getD cS.zero).2.1 (jX N a0.2.2.1) (some 0)) fun a7=>
  cond (cond (cond ((cF (.int .u8) cS aF a0.1).getD cS.zero).2.1 (!(decide (a7=(0:Int)))) false) true (cond (!((cF (.int .u8) cS aF a0.1).getD cS.zero).2.1) (!(aU.beq aB a0.2.2.1 ((0:Int),(0:Int)))) false)) (some false) (cond (cond (cond ((cF (.int .u8) cS aF a0.1).getD cS.zero).2.2.1 (cond (decide (a0.2.2.2.1 < (1:Int))) true (decide ((6:Int) < a0.2.2.2.1))) false) true (cond (!((cF (.int .u8) cS aF a0.1).getD cS.zero).2.2.1) (!(decide (a0.2.2.2.1=(0:Int)))) false)) (some false) (some (cond ((cF (.int .u8) cS aF a0.1).getD cS.zero).2.2.2 true (decide (a0.2.2.2.2=(0:Int))))))))
noncomputable def DW (N:Nat) (a0:cl):Option (Bool):=
  eW (Option.bind (r3 N) fun aF=>
  eW (cond (!((cF (.int .u8) cS aF a0.1).isSome)) (some false) (cond (cond (cond (cond ((cF (.int .u8) cS aF a0.1).getD cS.zero).1 (!(decide (a0.2.1=(0:Int)))) false) (!(decide (a0.2.1=(1:Int)))) false) true (cond (!((cF (.int .u8) cS aF a0.1).getD cS.zero).1) (!(decide (a0.2.1=(0:Int)))) false)) (some false) (Option.bind (cond ((cF (.int .u8) cS aF a0.1).getD cS.zero).2.1 (jX N a0.2.2.1) (some 0)) fun a7=>
  cond (cond (cond ((cF (.int .u8) cS aF a0.1).getD cS.zero).2.1 (!(decide (a7=(0:Int)))) false) true (cond (!((cF (.int .u8) cS aF a0.1).getD cS.zero).2.1) (!(aU.beq aB a0.2.2.1 ((0:Int),(0:Int)))) false)) (some false) (cond (cond (cond ((cF (.int .u8) cS aF a0.1).getD cS.zero).2.2.1 (cond (decide (a0.2.2.2.1 < (1:Int))) true (decide ((6:Int) < a0.2.2.2.1))) false) true (cond (!((cF (.int .u8) cS aF a0.1).getD cS.zero).2.2.1) (!(decide (a0.2.2.2.1=(0:Int)))) false)) (some false) (some (cond ((cF (.int .u8) cS aF a0.1).getD cS.zero).2.2.2 true (decide (a0.2.2.2.2=(0:Int))))))))) (cond (!((cF (.int .u8) cS aF a0.1).isSome)) (some false) (cond (cond (cond (cond ((cF (.int .u8) cS aF a0.1).getD cS.zero).1 (!(decide (a0.2.1=(0:Int)))) false) (!(decide (a0.2.1=(1:Int)))) false) true (cond (!((cF (.int .u8) cS aF a0.1).getD cS.zero).1) (!(decide (a0.2.1=(0:Int)))) false)) (some false) (Option.bind (cond ((cF (.int .u8) cS aF a0.1).getD cS.zero).2.1 (jX N a0.2.2.1) (some 0)) fun a7=>
  cond (cond (cond ((cF (.int .u8) cS aF a0.1).getD cS.zero).2.1 (!(decide (a7=(0:Int)))) false) true (cond (!((cF (.int .u8) cS aF a0.1).getD cS.zero).2.1) (!(aU.beq aB a0.2.2.1 ((0:Int),(0:Int)))) false)) (some false) (cond (cond (cond ((cF (.int .u8) cS aF a0.1).getD cS.zero).2.2.1 (cond (decide (a0.2.2.2.1 < (1:Int))) true (decide ((6:Int) < a0.2.2.2.1))) false) true (cond (!((cF (.int .u8) cS aF a0.1).getD cS.zero).2.2.1) (!(decide (a0.2.2.2.1=(0:Int)))) false)) (some false) (some (cond ((cF (.int .u8) cS aF a0.1).getD cS.zero).2.2.2 true (decide (a0.2.2.2.2=(0:Int)))))))))) (Option.bind (r3 N) fun aF=>
  cond (!((cF (.int .u8) cS aF a0.1).isSome)) (some false) (cond (cond (cond (cond ((cF (.int .u8) cS aF a0.1).getD cS.zero).1 (!(decide (a0.2.1=(0:Int)))) false) (!(decide (a0.2.1=(1:Int)))) false) true (cond (!((cF (.int .u8) cS aF a0.1).getD cS.zero).1) (!(decide (a0.2.1=(0:Int)))) false)) (some false) (Option.bind (cond ((cF (.int .u8) cS aF a0.1).getD cS.zero).2.1 (jX N a0.2.2.1) (some 0)) fun a7=>
  cond (cond (cond ((cF (.int .u8) cS aF a0.1).getD cS.zero).2.1 (!(decide (a7=(0:Int)))) false) true (cond (!((cF (.int .u8) cS aF a0.1).getD cS.zero).2.1) (!(aU.beq aB a0.2.2.1 ((0:Int),(0:Int)))) false)) (some false) (cond (cond (cond ((cF (.int .u8) cS aF a0.1).getD cS.zero).2.2.1 (cond (decide (a0.2.2.2.1 < (1:Int))) true (decide ((6:Int) < a0.2.2.2.1))) false) true (cond (!((cF (.int .u8) cS aF a0.1).getD cS.zero).2.2.1) (!(decide (a0.2.2.2.1=(0:Int)))) false)) (some false) (some (cond ((cF (.int .u8) cS aF a0.1).getD cS.zero).2.2.2 true (decide (a0.2.2.2.2=(0:Int)))))))))
theorem aeL:DW=mM:=by
 unfold DW mM;simp only[nT]
noncomputable def aeM (N:Nat):bC bS:=nY N b0 (by kernel_rfl) [.cY ed] [] ⟨.a (.c .bool),[],[]⟩ [aeK N,tk N] [] (.s (.r [.n 2,.w (.cd 1 ed)]) (.s (.hn [] [] (.b [.t 1 0,.t 2 1] 0 7 [(1,6)] [] none none (.b [] 3 7 [] [] (some .CD) none (.f [.m 4,.t 5 0,.t 6 0,.s 7,.s 8,.t 9 0]) (.f [.u 3 .CD,.m 4,.t 5 0,.t 6 0,.s 8,.t 9 0])) (.f [.c 0 [(1,6)],.u 3 .CD,.m 4,.t 5 0,.t 6 0,.s 8,.t 9 0])) [(.cd 3 cS)] false) .d)) [.tmp 2] 137 false (fun d=>DW N d.1) (fun d=>mM N d.1) (fun d=>(by rw[aeL]:DW N d.1=mM N d.1)) Tryz.func137 rfl rfl Tryz.ntmps137 rfl rfl rfl (fun d=>by kernel_rfl)
def ke(N:Nat) (a0:cl):Option (Int):=
  Option.bind (mM N a0) fun aF=>
  cond (!aF) (some (1:Int)) (cond (cond (decide (a0.2.2.2.2 < (-4:Int))) true (decide ((4:Int) < a0.2.2.2.2))) (some (11:Int)) (some (0:Int)))
noncomputable def Q9 (N:Nat):bC bS:=ch N b0 (by kernel_rfl) [.cY ed] [] ⟨.a (.c (.int .i64)),[],[]⟩ [aeM N] [] (.s (.r [.n 2,.w (.cd 1 ed)]) .d) [.tmp 2] 102 0 (fun d=>ke N d.1) Tryz.func102 rfl rfl Tryz.ntmps102 rfl rfl rfl (fun d=>by kernel_rfl)
end
section
open Go.RowKit
def vl(N:Nat) (a0:Int):Option (Bool):=
  some (cond (decide ((-4:Int)<=a0)) (decide (a0<=(4:Int))) false)
noncomputable def Ra (N:Nat):bC bS:=ch N b0 (by kernel_rfl) [.c (.int .i64)] [] ⟨.a (.c .bool),[],[]⟩ [] [] (.d) [.tmp 2] 193 false (fun d=>vl N d.1) Tryz.func193 rfl rfl Tryz.ntmps193 rfl rfl rfl (fun d=>by kernel_rfl)
def vm(N:Nat) (a0:ho) (a1:Int):Option (Int):=
  Option.bind (vi N a0) fun aF=>
  cond (!(decide (aF=(0:Int)))) (some aF) (Option.bind (vl N a1) fun a7=>
  cond (!a7) (some (11:Int)) (some (0:Int)))
noncomputable def Rb (N:Nat):bC bS:=ch N b0 (by kernel_rfl) [.cY fm,.c (.int .i64)] [] ⟨.a (.c (.int .i64)),[],[]⟩ [DS N,Ra N] [] (.s (.r [.n 2,.w (.cd 2 fm)]) .d) [.tmp 4] 153 0 (fun d=>vm N d.1 d.2.1) Tryz.func153 rfl rfl Tryz.ntmps153 rfl rfl rfl (fun d=>by kernel_rfl)
def Kb(N:Nat) (a0:Int) (a1:(List (List ad))) (a2:Int) (dq:Int):Nat->(Int×(List cB))->Option ((List cB)):=cn fun d2 ft=>
  cond (decide (d2.1 < ((a1.getD dq.toNat []).length:Int))) (au ((bc d2.1 (a1.getD dq.toNat []).length)&&(true)) <|
  Option.bind (mh N (a0,(dq+(1:Int))) a2) fun bt=>
  au ((eg 40 (d2.2.length+[(((a1.getD dq.toNat []).getD d2.1.toNat aB.zero),((a0,(dq+(1:Int))),bt))].length))&&(true)) <|
  au ((bj (d2.1+(1:Int)))&&(true)) <|
  ft ((d2.1+(1:Int)),(d2.2++[(((a1.getD dq.toNat []).getD d2.1.toNat aB.zero),((a0,(dq+(1:Int))),bt))]))) (some d2.2)
def Kc(N:Nat) (a0:Int) (a1:(List (List ad))) (a2:Int):Nat->(Int×(List cB))->Option ((List cB)):=cn fun d1 dw=>
  cond (decide (d1.1 < (a1.length:Int))) (au ((bc d1.1 a1.length)&&(true)) <|
  au ((bj (d1.1+(1:Int)))&&(true)) <|
  Option.bind (Kb N a0 a1 a2 d1.1 N ((0:Int),d1.2)) fun bM=>
  au ((bj (d1.1+(1:Int)))&&(true)) <|
  dw ((d1.1+(1:Int)),bM)) (some d1.2)
def vn(N:Nat) (a0:Int) (a1:(List (List ad))) (a2:Int) (a3:List cB):Option ((List cB)):=
  Option.bind (Kc N a0 a1 a2 N ((0:Int),a3)) fun aT=>
  some aT
noncomputable def aeN (N:Nat):bC bS:=ch N b0 (by kernel_rfl) [.c (.int .u8),.c (.bk (.ai aB)),.c (.raw (.ptr 1000000 0)),.c (.fO (.int .i64) 0)] [(1000000,.cells 196 [.raw (.ai 1000001)]),(1000001,.row 200 cx)] ⟨.c3 [],[(1000000,.cells 196 [.raw (.ai 1000001)]),(1000001,.row 200 cx)],[]⟩ [Ka N] [] (.s .d (.b (.eO 0 ⟨[(2,.a (.c (.raw (.ptr 1000000 0)))),(13,.a (.c (.int .i64)))],[(1000000,.cells 196 [.raw (.ai 1000001)]),(1000001,.row 200 cx)],[0,3,11,12],[]⟩ ⟨[],[(1000000,.cells 196 [.raw (.ai 1000001)]),(1000001,.row 200 cx)],[],[]⟩ (.s .d (.s .d (.s (.b (.s .d (.s (.r [.n 6,.w (.cd 8 aB)]) (.s .d (.b (.eO 2 ⟨[(2,.a (.c (.raw (.ptr 1000000 0)))),(24,.a (.c (.int .i64)))],[(1000000,.cells 196 [.raw (.ai 1000001)]),(1000001,.row 200 cx)],[0,3,8,11,12,13,22,23],[]⟩ ⟨[(2,.a (.c (.raw (.ptr 1000000 0))))],[(1000000,.cells 196 [.raw (.ai 1000001)]),(1000001,.row 200 cx)],[0,3,11,12,13],[]⟩ (.s .d (.s .d (.s (.b (.s (.r [.n 4,.w (.cd 10 aB)]) (.o [0,1,2,3,4,5,6,7,1000008,1000009] [.t 0 3,.t 1 1,.t 2 1,.t 3 1,.t 4 1,.c 5 [],.t 6 0,.k 7,.s 8,.s 9] []))) .d))))))))) .d)))))) [] 154 [] (fun d=>vn N d.1 d.2.1 d.2.2.1 d.2.2.2.1) Tryz.func154 rfl rfl Tryz.ntmps154 rfl rfl rfl (fun d=>by kernel_rfl)
def DX(N:Nat) (a0:cB) (a1:cB):Option (Int):=
  Option.bind (DA N a0.2.2 a1.2.2) fun aF=>
  some aF
noncomputable def aeO (N:Nat):bC bS:=ch N b0 (by kernel_rfl) [.cY cx,.cY cx] [] ⟨.a (.c (.int .i64)),[],[]⟩ [Qy N] [] (.s (.r [.n 3,.w (.cd 2 cx),.w (.cd 3 cx)]) .d) [.tmp 4] 156 0 (fun d=>DX N d.1 d.2.1) Tryz.func156 rfl rfl Tryz.ntmps156 rfl rfl rfl (fun d=>by kernel_rfl)
def DY(N:Nat) (a0:Int):Nat->(Int×(List cB))->Option ((List cB)):=cn fun d2 ft=>
  au ((eo (decide (a0 < d2.1)) (bc d2.1 d2.2.length))&&((eo (decide (a0 < d2.1)) (decide (d2.1.toNat < d2.2.length)))&&((eo (decide (a0 < d2.1)) (bj (d2.1 - (1:Int))))&&((eo (decide (a0 < d2.1)) (bc (d2.1 - (1:Int)) d2.2.length))&&((eo (decide (a0 < d2.1)) (decide ((d2.1 - (1:Int)).toNat < d2.2.length)))&&(true)))))) <|
  Option.bind (cond (decide (a0 < d2.1)) (DX N (d2.2.getD d2.1.toNat cx.zero) (d2.2.getD (d2.1 - (1:Int)).toNat cx.zero)) (some 0)) fun bt=>
  cond (cond (decide (a0 < d2.1)) (decide (bt < (0:Int))) false) (au ((bj (d2.1 - (1:Int)))&&((bj (d2.1 - (1:Int)))&&((bc (d2.1 - (1:Int)) d2.2.length)&&((decide ((d2.1 - (1:Int)).toNat < d2.2.length))&&((bc d2.1 d2.2.length)&&((decide (d2.1.toNat < d2.2.length))&&((bc d2.1 d2.2.length)&&(((decide (d2.1.toNat < d2.2.length))&&(true))&&((bc (d2.1 - (1:Int)) (d2.2.set d2.1.toNat (d2.2.getD (d2.1 - (1:Int)).toNat cx.zero)).length)&&(((decide ((d2.1 - (1:Int)).toNat < (d2.2.set d2.1.toNat (d2.2.getD (d2.1 - (1:Int)).toNat cx.zero)).length))&&(true))&&(true))))))))))) <|
  au ((bj (d2.1 - (1:Int)))&&(true)) <|
  ft ((d2.1 - (1:Int)),((d2.2.set d2.1.toNat (d2.2.getD (d2.1 - (1:Int)).toNat cx.zero)).set (d2.1 - (1:Int)).toNat (d2.2.getD d2.1.toNat cx.zero)))) (some d2.2)
def Kd(N:Nat) (a0:Int) (a1:Int):Nat->(Int×(List cB))->Option ((List cB)):=cn fun d1 dw=>
  cond (decide (d1.1 < a1)) (Option.bind (DY N a0 N (d1.1,d1.2)) fun bM=>
  au ((bj (d1.1+(1:Int)))&&(true)) <|
  dw ((d1.1+(1:Int)),bM)) (some d1.2)
def Ax(N:Nat) (a0:Int) (a1:Int) (a2:List cB):Option ((List cB)):=
  au ((bj (a0+(1:Int)))&&(true)) <|
  Option.bind (Kd N a0 a1 N ((a0+(1:Int)),a2)) fun aT=>
  some aT
noncomputable def aeP (N:Nat):bC bS:=ch N b0 (by kernel_rfl) [.c (.raw (.ai 2000000)),.c (.int .i64),.c (.int .i64),.c (.fn 156 [])] [(2000000,.row 200 cx)] ⟨.c3 [],[(2000000,.row 200 cx)],[]⟩ [aeO N] [] (.s .d (.b (.eO 0 ⟨[(0,.a (.c (.raw (.ai 2000000)))),(8,.a (.c (.int .i64)))],[(2000000,.row 200 cx)],[1,2,3],[]⟩ ⟨[],[(2000000,.row 200 cx)],[],[]⟩ (.s .d (.s (.b (.s .d (.b (.eO 2 ⟨[(0,.a (.c (.raw (.ai 2000000)))),(9,.a (.c (.int .i64)))],[(2000000,.row 200 cx)],[1,2,3,8],[]⟩ ⟨[(0,.a (.c (.raw (.ai 2000000))))],[(2000000,.row 200 cx)],[1,2,3,8],[]⟩ (.s (.s (.me [9,10,11,12,13] [.t 0 0,.t 1 0,.t 2 0,.t 3 0,.t 4 0,.t 5 0,.t 6 0,.t 7 0,.t 8 3,.t 9 0,.t 10 0,.t 11 0,.t 12 0,.t 13 3,.g 14,.t 15 0,.t 16 0] []) .d) (.s (.b (.me [10,11,12,13] [.t 0 0,.t 1 0,.t 2 0,.t 3 0,.t 4 0,.t 5 0,.t 6 0,.t 7 0,.t 8 0,.t 9 3,.t 10 0,.t 11 0,.t 12 0,.t 13 3,.t 14 0,.s 15,.t 16 0,.s 17] [])) .d)))))) .d))))) [] 214 [] (fun d=>Ax N d.1 d.2.1 d.2.2.1) Tryz.func214 rfl rfl Tryz.ntmps214 rfl rfl rfl (fun d=>by kernel_rfl)
def Rc(N:Nat) (a0:Int):Nat->(Int×Int×(List cB))->Option (Int×(List cB)):=cn fun d1 dw=>
  cond (decide (d1.2.1<=a0)) (Option.bind (Ax N d1.1 d1.2.1 d1.2.2) fun a7=>
  au ((bj (d1.2.1+(20:Int)))&&(true)) <|
  dw (d1.2.1,(d1.2.1+(20:Int)),a7)) (some (d1.1,d1.2.2))
def aeQ(N:Nat) (a0:Int) (Rd:Int):Nat->Unit->Option (Unit):=cn fun d5 oV=>
  cond (decide (((2:Int) * Rd)<=a0)) (au ((bj ((0:Int)+Rd))&&(true)) <|
  none) (some ())
def Re(N:Nat) (a0:Int):Nat->Int->Option (Unit):=cn fun d4 mf=>
  cond (decide (d4 < a0)) (au ((bj ((2:Int) * d4))&&(true)) <|
  Option.bind (aeQ N a0 d4 N ()) fun cW=>
  au ((bj ((0:Int)+d4))&&(true)) <|
  cond (decide (((0:Int)+d4) < a0)) (none) (au ((bj (d4 * (2:Int)))&&(true)) <|
  mf (d4 * (2:Int)))) (some ())
def Ke(N:Nat) (a0:Int) (a1:List cB):Option ((List cB)):=
  Option.bind (Rc N a0 N ((0:Int),(20:Int),a1)) fun aT=>
  Option.bind (Ax N aT.1 a0 aT.2) fun bt=>
  Option.bind (Re N a0 N (20:Int)) fun eX=>
  some bt
noncomputable def aeR (N:Nat):bC bS:=ch N b0 (by kernel_rfl) [.c (.raw (.ai 2000000)),.c (.int .i64),.c (.fn 156 [])] [(2000000,.row 200 cx)] ⟨.c3 [],[(2000000,.row 200 cx)],[]⟩ [aeP N] [] (.s .d (.s .d (.s (.b (.eO 0 ⟨[(0,.a (.c (.raw (.ai 2000000)))),(7,.a (.c (.int .i64))),(8,.a (.c (.int .i64)))],[(2000000,.row 200 cx)],[1,2,6],[]⟩ ⟨[(0,.a (.c (.raw (.ai 2000000)))),(7,.a (.c (.int .i64)))],[(2000000,.row 200 cx)],[1,2,6],[]⟩ (.s .d (.b (.s (.r [.n 4,.c [(2000000,2000000)]]) .d))))) (.s (.r [.n 4,.c [(2000000,2000000)]]) (.b (.eO 2 ⟨[(0,.a (.c (.raw (.ai 2000000)))),(6,.a (.c (.int .i64)))],[],[1,2],[2000000]⟩ ⟨[],[],[],[2000000]⟩ (.s .d (.b (.s .d (.s (.b (.eO 4 ⟨[(0,.a (.c (.raw (.ai 2000000))))],[],[1,2,6,7,8],[2000000]⟩ ⟨[(0,.a (.c (.raw (.ai 2000000))))],[],[1,2,6,7],[2000000]⟩ .d)) .d)))))))))) [] 194 [] (fun d=>Ke N d.1 d.2.1) Tryz.func194 rfl rfl Tryz.ntmps194 rfl rfl rfl (fun d=>by kernel_rfl)
def Ay(N:Nat) (a0:List cB):Option ((List cB)):=
  Option.bind (Ke N (a0.length:Int) a0) fun aF=>
  some aF
noncomputable def aeS (N:Nat):bC bS:=ch N b0 (by kernel_rfl) [.c (.raw (.ai 2000000)),.c (.fn 156 [])] [(2000000,.row 200 cx)] ⟨.c3 [],[(2000000,.row 200 cx)],[]⟩ [aeR N] [] (.r [.n 4,.c [(2000000,2000000)]]) [] 155 [] (fun d=>Ay N d.1) Tryz.func155 rfl rfl Tryz.ntmps155 rfl rfl rfl (fun d=>by kernel_rfl)
def DZ(N:Nat) (a0:(List cB)):Option ((List cB)×Nat):=
  au (((decide (0<=(a0.length:Int)))&&(decide ((a0.length:Int)<=(a0.length:Int)))&&(gd 40 (a0.length:Int)))&&(true)) <|
  au ((Nat.beq a0.length (List.replicate (a0.length:Int).toNat (cx.zero:cB)).length)&&(true)) <|
  some (a0,(a0.length:Int).toNat)
noncomputable def aeT (N:Nat):bC bS:=ch N b0 (by kernel_rfl) [.c (.bk cx)] [] ⟨.a (.c (.jb cx)),[],[]⟩ [] [] (.s .d (.s .d (.s .d (.s .d (.t [.de 6]))))) [.tmp 2] 157 ([],0) (fun d=>DZ N d.1) Tryz.func157 rfl rfl Tryz.ntmps157 rfl rfl rfl (fun d=>by kernel_rfl)
def xG(N:Nat) (a0:ho) (a1:Int):Option ((List cB)×Nat×Int):=
  Option.bind (vm N a0 a1) fun aF=>
  cond (!(decide (aF=(0:Int)))) (some (([]:List cB),0,aF)) (Option.bind (vh N a0) fun a7=>
  au (((decide ((0:Int)<=a7))&&(gd 40 a7))&&(true)) <|
  Option.bind (vn N (0:Int) a0.1 a1 ([]:List cB)) fun bt=>
  Option.bind (vn N (1:Int) a0.2 a1 bt) fun b6=>
  Option.bind (Ay N b6) fun bU=>
  Option.bind (DZ N bU) fun cq=>
  some (cq.1,cq.2,(0:Int)))
noncomputable def Rf (N:Nat):bC bS:=ch N b0 (by kernel_rfl) [.cY fm,.c (.int .i64)] [] ⟨.c3 [.c (.jb cx),.c (.int .i64)],[],[]⟩ [Rb N,QY N,aeN N,aeS N,aeT N] [] (.s (.r [.n 4,.w (.cd 2 fm),.w (.cd 3 (.int .i64))]) (.s .d (.s .d (.s .d (.s (.r [.n 3,.c [(1000000,7),(1000001,17)]]) (.s (.r [.n 3,.c [(1000000,7),(1000001,17)]]) (.s (.r [.n 1,.c [(2000000,17)]]) (.s (.r [.n 1,.w (.de 17)]) .d)))))))) [.tmp 4,.tmp 5] 126 ([],0,0) (fun d=>xG N d.1 d.2.1) Tryz.func126 rfl rfl Tryz.ntmps126 rfl rfl rfl (fun d=>by kernel_rfl)
def D0(N:Nat) (a0:ho) (a1:Int) (a2:Int):Option (Int):=
  Option.bind (vm N a0 a1) fun aF=>
  cond (!(decide (aF=(0:Int)))) (some aF) (cond (cond (!(decide (a2=(0:Int)))) (!(decide (a2=(1:Int)))) false) (some (1:Int)) (au (((bc a2 2)&&(bc a2 ue.length))&&((bj (a1+(ue.getD a2.toNat 0)))&&(true))) <|
  Option.bind (vl N (a1+(ue.getD a2.toNat 0))) fun a7=>
  cond (!a7) (some (11:Int)) (some (0:Int))))
noncomputable def aeU (N:Nat):bC bS:=ch N b0 (by kernel_rfl) [.cY fm,.c (.int .i64),.c (.int .u8)] [] ⟨.a (.c (.int .i64)),[],[]⟩ [Rb N,Ra N] [] (.s (.r [.n 2,.w (.cd 3 fm)]) .d) [.tmp 6] 195 0 (fun d=>D0 N d.1 d.2.1 d.2.2.1) Tryz.func195 rfl rfl Tryz.ntmps195 rfl rfl rfl (fun d=>by kernel_rfl)
def D1(N:Nat) (a0:(List c9)):Option ((List c9)×Nat):=
  au (((decide (0<=(a0.length:Int)))&&(decide ((a0.length:Int)<=(a0.length:Int)))&&(gd 24 (a0.length:Int)))&&(true)) <|
  au ((Nat.beq a0.length (List.replicate (a0.length:Int).toNat (ep.zero:c9)).length)&&(true)) <|
  some (a0,(a0.length:Int).toNat)
noncomputable def aeV (N:Nat):bC bS:=ch N b0 (by kernel_rfl) [.c (.bk ep)] [] ⟨.a (.c (.jb ep)),[],[]⟩ [] [] (.s .d (.s .d (.s .d (.s .d (.t [.de 6]))))) [.tmp 2] 196 ([],0) (fun d=>D1 N d.1) Tryz.func196 rfl rfl Tryz.ntmps196 rfl rfl rfl (fun d=>by kernel_rfl)
def aeW(N:Nat) (a0:ho) (a1:Int) (a2:Int) (a3:Int):Option ((List c9)×Nat×Int):=
  none
noncomputable def aeX (N:Nat):bC bS:=I0 [.cY fm,.c (.int .i64),.c (.int .u8),.c (.int .i64)] [] ⟨.c3 [.c (.jb ep),.c (.int .i64)],[],[]⟩ 158 ([],0,0) Tryz.func158 rfl rfl
def vo(N:Nat) (a0:(List cB)) (aT:Int×Int×Int):Nat->(Int×(List c9))->Option ((List c9)):=cn fun d2 ft=>
  cond (decide (d2.1 < (a0.length:Int))) (au ((bc d2.1 a0.length)&&(true)) <|
  cond (cond (decide (aT.1 < (a0.getD d2.1.toNat cx.zero).2.2)) (decide ((a0.getD d2.1.toNat cx.zero).2.2 < aT.2.1)) false) (au ((eg 24 (d2.2.length+[((a0.getD d2.1.toNat cx.zero).1,((decide ((a0.getD d2.1.toNat cx.zero).2.1.1=(1:Int))),aT.2.2))].length))&&(true)) <|
  au ((bj (d2.1+(1:Int)))&&(true)) <|
  ft ((d2.1+(1:Int)),(d2.2++[((a0.getD d2.1.toNat cx.zero).1,((decide ((a0.getD d2.1.toNat cx.zero).2.1.1=(1:Int))),aT.2.2))]))) (au ((bj (d2.1+(1:Int)))&&(true)) <|
  ft ((d2.1+(1:Int)),d2.2))) (some d2.2)
def qH(N:Nat) (a0:(List cB)) (a1:Int) (a2:Int):Option ((List c9)×Nat):=
  Option.bind (cond (decide (a1 < a2)) (some (a1,a2,(1:Int))) (some (a2,a1,(0:Int)))) fun aT=>
  Option.bind (vo N a0 aT N ((0:Int),([]:List c9))) fun bM=>
  Option.bind (cond (decide (aT.2.2=(0:Int))) (Option.bind (Ab N bM) fun b6=>
  some b6) (some bM)) fun b7=>
  Option.bind (D1 N b7) fun bU=>
  some (bU.1,bU.2)
noncomputable def aeY (N:Nat):bC bS:=ch N b0 (by kernel_rfl) [.c (.bk cx),.c (.int .i64),.c (.int .i64)] [] ⟨.a (.c (.jb ep)),[],[]⟩ [adD N,aeV N] [] (.s .d (.s .d (.j ⟨[(7,.a (.c (.int .i64))),(8,.a (.c (.int .i64))),(9,.a (.c (.int .u8)))],[],[0],[]⟩ .d (.s (.r [.n 1,.w (.nil 10 10 116 ep)]) (.s (.s .d (.b (.eO 0 ⟨[(10,.a (.c (.raw (.ai 10)))),(22,.a (.c (.int .i64)))],[(10,.row 116 ep)],[7,8,9,20,21],[]⟩ ⟨[(10,.a (.c (.raw (.ai 10))))],[(10,.row 116 ep)],[9],[]⟩ (.s .d (.s .d (.s (.b (.s (.r [.n 4,.w (.cd 12 cx)]) .d)) .d)))))) (.j ⟨[(10,.a (.c (.raw (.ai 10))))],[(10,.row 116 ep)],[],[]⟩ (.s .d (.c (.r [.n 1,.c [(2000000,10)]]) .d)) (.s (.r [.n 1,.w (.de 10)]) .d))))))) [.tmp 6] 161 ([],0) (fun d=>qH N d.1 d.2.1 d.2.2.1) Tryz.func161 rfl rfl Tryz.ntmps161 rfl rfl rfl (fun d=>by kernel_rfl)
end
section
open Go.RowKit
def D2(N:Nat) (a0:(List ad)):Option ((List ad)):=
  au (((decide (0<=(a0.length:Int)))&&(decide ((a0.length:Int)<=(a0.length:Int)))&&(gd 16 (a0.length:Int)))&&(true)) <|
  au ((Nat.beq a0.length (List.replicate (a0.length:Int).toNat (aB.zero:ad)).length)&&(true)) <|
  some a0
noncomputable def aeZ (N:Nat):bC bS:=ch N b0 (by kernel_rfl) [.c (.bk aB)] [] ⟨.a (.c (.raw (.ai 6))),[(6,.row 102 aB)],[]⟩ [] [] (.d) [.tmp 2] 42 [] (fun d=>D2 N d.1) Tryz.func42 rfl rfl Tryz.ntmps42 rfl rfl rfl (fun d=>by kernel_rfl)
def tl(N:Nat) (a0:(List ad)):Option ((List ad)×Nat):=
  au (((decide (0<=(a0.length:Int)))&&(decide ((a0.length:Int)<=(a0.length:Int)))&&(gd 16 (a0.length:Int)))&&(true)) <|
  au ((Nat.beq a0.length (List.replicate (a0.length:Int).toNat (aB.zero:ad)).length)&&(true)) <|
  some (a0,(a0.length:Int).toNat)
noncomputable def Kf (N:Nat):bC bS:=ch N b0 (by kernel_rfl) [.c (.bk aB)] [] ⟨.a (.c (.jb aB)),[],[]⟩ [] [] (.s .d (.s .d (.s .d (.s .d (.t [.de 6]))))) [.tmp 2] 42 ([],0) (fun d=>tl N d.1) Tryz.func42 rfl rfl Tryz.ntmps42 rfl rfl rfl (fun d=>by kernel_rfl)
def Az(N:Nat) (a0:ho) (a1:ad):Option ((List ad)):=
  Option.bind (jX N a1) fun aF=>
  cond (!(decide (aF=(0:Int)))) (some ([]:List ad)) (Option.bind (cond (decide (a1.1=(1:Int))) (some a0.2) (some a0.1)) fun bM=>
  cond (decide ((bM.length:Int) < a1.2)) (some ([]:List ad)) (au ((bj (a1.2 - (1:Int)))&&((bc (a1.2 - (1:Int)) bM.length)&&(true))) <|
  Option.bind (D2 N (bM.getD (a1.2 - (1:Int)).toNat [])) fun bt=>
  some bt))
noncomputable def ae0 (N:Nat):bC bS:=ch N b0 (by kernel_rfl) [.cY fm,.cY aB] [] ⟨.a (.c (.raw (.ai 27))),[(27,.row 102 aB)],[]⟩ [tk N,aeZ N] [] (.s (.r [.n 3,.w (.cd 2 fm),.w (.cd 3 aB)]) (.s (.s .d (.c (.s .d (.t [.nil 4 27 102 aB])) .d)) (.s .d (.j ⟨[(5,.a (.c (.bk (.ai aB))))],[],[3],[]⟩ .d (.s (.s .d (.c (.s .d (.t [.nil 4 27 102 aB])) .d)) (.s (.r [.n 6,.c [(6,27)]]) .d)))))) [.tmp 4] 12 [] (fun d=>Az N d.1 d.2.1) Tryz.func12 rfl rfl Tryz.ntmps12 rfl rfl rfl (fun d=>by kernel_rfl)
def n3(N:Nat) (a0:ho) (a1:ad):Option ((List ad)×Nat):=
  Option.bind (jX N a1) fun aF=>
  cond (!(decide (aF=(0:Int)))) (some (([]:List ad),0)) (Option.bind (cond (decide (a1.1=(1:Int))) (some a0.2) (some a0.1)) fun bM=>
  cond (decide ((bM.length:Int) < a1.2)) (some (([]:List ad),0)) (au ((bj (a1.2 - (1:Int)))&&((bc (a1.2 - (1:Int)) bM.length)&&(true))) <|
  Option.bind (tl N (bM.getD (a1.2 - (1:Int)).toNat [])) fun bt=>
  some (bt.1,bt.2)))
noncomputable def AA (N:Nat):bC bS:=ch N b0 (by kernel_rfl) [.cY fm,.cY aB] [] ⟨.a (.c (.jb aB)),[],[]⟩ [tk N,Kf N] [] (.s (.r [.n 3,.w (.cd 2 fm),.w (.cd 3 aB)]) (.s .d (.s .d (.j ⟨[(5,.a (.c (.bk (.ai aB))))],[],[3],[]⟩ .d .d)))) [.tmp 4] 12 ([],0) (fun d=>n3 N d.1 d.2.1) Tryz.func12 rfl rfl Tryz.ntmps12 rfl rfl rfl (fun d=>by kernel_rfl)
def ae1(N:Nat) :Nat->(Int×Int×(List cB))->Option ((List cB)):=cn fun d1 dw=>
  cond (decide (d1.1 < d1.2.1)) (au ((bc d1.2.1 d1.2.2.length)&&((decide (d1.2.1.toNat < d1.2.2.length))&&((bc d1.1 d1.2.2.length)&&((decide (d1.1.toNat < d1.2.2.length))&&((bc d1.1 d1.2.2.length)&&(((decide (d1.1.toNat < d1.2.2.length))&&(true))&&((bc d1.2.1 (d1.2.2.set d1.1.toNat (d1.2.2.getD d1.2.1.toNat cx.zero)).length)&&(((decide (d1.2.1.toNat < (d1.2.2.set d1.1.toNat (d1.2.2.getD d1.2.1.toNat cx.zero)).length))&&(true))&&(true))))))))) <|
  au ((bj (d1.1+(1:Int)))&&((bj (d1.2.1 - (1:Int)))&&(true))) <|
  dw ((d1.1+(1:Int)),(d1.2.1 - (1:Int)),((d1.2.2.set d1.1.toNat (d1.2.2.getD d1.2.1.toNat cx.zero)).set d1.2.1.toNat (d1.2.2.getD d1.1.toNat cx.zero)))) (some d1.2.2)
def Kg(N:Nat) (a0:List cB):Option ((List cB)):=
  au ((bj ((a0.length:Int) - (1:Int)))&&(true)) <|
  Option.bind (ae1 N N ((0:Int),((a0.length:Int) - (1:Int)),a0)) fun aT=>
  some aT
noncomputable def ae2 (N:Nat):bC bS:=ch N b0 (by kernel_rfl) [.c (.raw (.ai 2000000))] [(2000000,.row 246 cx)] ⟨.c3 [],[(2000000,.row 246 cx)],[]⟩ [] [] (.s .d (.b (.eO 0 ⟨[(0,.a (.c (.raw (.ai 2000000)))),(2,.a (.c (.int .i64))),(3,.a (.c (.int .i64)))],[(2000000,.row 246 cx)],[],[]⟩ ⟨[],[(2000000,.row 246 cx)],[],[]⟩ (.s .d (.s (.b (.me [8,9,10,11] [.t 0 0,.t 1 0,.t 2 0,.t 3 0,.t 4 0,.t 5 0,.t 6 0,.t 7 3,.t 8 0,.t 9 0,.t 10 0,.t 11 3,.t 12 0,.s 13,.t 14 0,.s 15] [])) .d))))) [] 198 [] (fun d=>Kg N d.1) Tryz.func198 rfl rfl Tryz.ntmps198 rfl rfl rfl (fun d=>by kernel_rfl)
def Kh(N:Nat) (a0:(List cB)):Option ((List cB)×Nat):=
  au (((decide (0<=(a0.length:Int)))&&(decide ((a0.length:Int)<=(a0.length:Int)))&&(gd 40 (a0.length:Int)))&&(true)) <|
  au ((Nat.beq a0.length (List.replicate (a0.length:Int).toNat (cx.zero:cB)).length)&&(true)) <|
  some (a0,(a0.length:Int).toNat)
noncomputable def ae3 (N:Nat):bC bS:=ch N b0 (by kernel_rfl) [.c (.bk cx)] [] ⟨.a (.c (.jb cx)),[],[]⟩ [] [] (.s .d (.s .d (.s .d (.s .d (.t [.de 6]))))) [.tmp 2] 199 ([],0) (fun d=>Kh N d.1) Tryz.func199 rfl rfl Tryz.ntmps199 rfl rfl rfl (fun d=>by kernel_rfl)
def Rg(N:Nat) (a0:ho) (a2:Int) (hC:Int) (bU:(List ad)) (pN:Int):Nat->(Int×(List cB))->Option ((List cB)):=cn fun d7 oT=>
  cond (decide (d7.1 < (bU.length:Int))) (au ((bc d7.1 bU.length)&&((decide (d7.1.toNat < bU.length))&&(true))) <|
  cond (decide (a2=(0:Int))) (au ((eg 40 (d7.2.length+[((bU.getD d7.1.toNat aB.zero),(((a0.2.getD hC.toNat []).getD pN.toNat aB.zero),(1:Int)))].length))&&(true)) <|
  au ((bj (d7.1+(1:Int)))&&(true)) <|
  oT ((d7.1+(1:Int)),(d7.2++[((bU.getD d7.1.toNat aB.zero),(((a0.2.getD hC.toNat []).getD pN.toNat aB.zero),(1:Int)))]))) (au ((eg 40 (d7.2.length+[(((a0.2.getD hC.toNat []).getD pN.toNat aB.zero),((bU.getD d7.1.toNat aB.zero),(-1:Int)))].length))&&(true)) <|
  au ((bj (d7.1+(1:Int)))&&(true)) <|
  oT ((d7.1+(1:Int)),(d7.2++[(((a0.2.getD hC.toNat []).getD pN.toNat aB.zero),((bU.getD d7.1.toNat aB.zero),(-1:Int)))])))) (some d7.2)
def D3(N:Nat) (a0:ho) (a2:Int) (hC:Int) (bU:(List ad)):Nat->(Int×(List cB))->Option ((List cB)):=cn fun d6 xD=>
  cond (decide (d6.1 < ((a0.2.getD hC.toNat []).length:Int))) (au ((bc d6.1 (a0.2.getD hC.toNat []).length)&&(true)) <|
  Option.bind (Rg N a0 a2 hC bU d6.1 N ((0:Int),d6.2)) fun jl=>
  au ((bj (d6.1+(1:Int)))&&(true)) <|
  xD ((d6.1+(1:Int)),jl)) (some d6.2)
def Ki(N:Nat) (a0:ho) (a1:Int) (a2:Int):Nat->(Int×(List cB))->Option ((List cB)):=cn fun d2 ft=>
  cond (decide (d2.1 < (a0.2.length:Int))) (au ((bc d2.1 a0.2.length)&&(true)) <|
  au ((bj (d2.1+(1:Int)))&&((bj ((d2.1+(1:Int))+a1))&&(true))) <|
  Option.bind (cond (decide (a2=(0:Int))) (au ((bj (((d2.1+(1:Int))+a1) - (1:Int)))&&(true)) <|
  some (((d2.1+(1:Int))+a1) - (1:Int))) (some ((d2.1+(1:Int))+a1))) fun b7=>
  Option.bind (Az N a0 ((0:Int),b7)) fun b6=>
  Option.bind (xx N b6) fun bU=>
  Option.bind (D3 N a0 a2 d2.1 bU N ((0:Int),d2.2)) fun gi=>
  au ((bj (d2.1+(1:Int)))&&(true)) <|
  ft ((d2.1+(1:Int)),gi)) (some d2.2)
def D4(N:Nat) (a0:ho) (a1:Int) (a2:Int):Option ((List cB)×Nat×Int):=
  Option.bind (D0 N a0 a1 a2) fun aF=>
  cond (!(decide (aF=(0:Int)))) (some (([]:List cB),0,aF)) (Option.bind (Ki N a0 a1 a2 N ((0:Int),([]:List cB))) fun bM=>
  Option.bind (cond (decide (a2=(1:Int))) (Option.bind (Kg N bM) fun nx=>
  some nx) (some bM)) fun qD=>
  Option.bind (Kh N qD) fun k4=>
  some (k4.1,k4.2,(0:Int)))
noncomputable def ae4 (N:Nat):bC bS:=ch N b0 (by kernel_rfl) [.cY fm,.c (.int .i64),.c (.int .u8)] [] ⟨.c3 [.c (.jb cx),.c (.int .i64)],[],[]⟩ [aeU N,ae0 N,aei N,ae2 N,ae3 N] [] (.s (.r [.n 3,.w (.cd 3 fm)]) (.s .d (.s (.r [.n 1,.w (.nil 9 9 246 cx)]) (.s (.s .d (.b (.eO 0 ⟨[(9,.a (.c (.raw (.ai 9)))),(28,.a (.c (.int .i64)))],[(9,.row 246 cx)],[1,2,3,26,27],[]⟩ ⟨[(9,.a (.c (.raw (.ai 9))))],[(9,.row 246 cx)],[2],[]⟩ (.s .d (.s .d (.s (.b (.s .d (.s .d (.j ⟨[(9,.a (.c (.raw (.ai 9)))),(12,.a (.c (.int .i64)))],[],[1,2,3,11,26,27,28],[9]⟩ .d (.s (.r [.n 3,.c [(27,44)]]) (.s (.r [.n 1,.c [(2000000,44)]]) (.s .d (.b (.eO 2 ⟨[(9,.a (.c (.raw (.ai 9)))),(13,.a (.c (.raw (.ai 44)))),(49,.a (.c (.int .i64)))],[(9,.row 246 cx)],[1,2,3,26,27,28,47,48],[44]⟩ ⟨[(9,.a (.c (.raw (.ai 9))))],[(9,.row 246 cx)],[1,2,3,26,27,28],[]⟩ (.s .d (.s .d (.s (.b (.s (.r [.n 4,.w (.cd 15 aB)]) (.s .d (.b (.eO 4 ⟨[(9,.a (.c (.raw (.ai 9)))),(13,.a (.c (.raw (.ai 44)))),(53,.a (.c (.raw (.ai 44)))),(55,.a (.c (.int .i64)))],[(9,.row 246 cx)],[1,2,3,15,26,27,28,47,48,49,54],[44]⟩ ⟨[(9,.a (.c (.raw (.ai 9)))),(13,.a (.c (.raw (.ai 44))))],[(9,.row 246 cx)],[1,2,3,26,27,28,47,48,49],[44]⟩ (.s .d (.s .d (.s (.b (.s (.r [.n 4,.w (.cd 17 aB)]) .d)) .d)))))))) .d)))))))))))) .d)))))) (.j ⟨[(9,.a (.c (.raw (.ai 9))))],[(9,.row 246 cx)],[],[]⟩ (.s .d (.c (.r [.n 1,.c [(2000000,9)]]) .d)) (.s (.r [.n 1,.w (.de 9)]) .d)))))) [.tmp 6,.tmp 7] 159 ([],0,0) (fun d=>D4 N d.1 d.2.1 d.2.2.1) Tryz.func159 rfl rfl Tryz.ntmps159 rfl rfl rfl (fun d=>by kernel_rfl)
def AB(N:Nat) (a0:(List (List ad))):Nat->Int->Option (Int):=cn fun d1 dw=>
  au ((eo (decide ((0:Int) < d1)) (bj (d1 - (1:Int))))&&((eo (decide ((0:Int) < d1)) (bc (d1 - (1:Int)) a0.length))&&(true))) <|
  cond (cond (decide ((0:Int) < d1)) (decide (((a0.getD (d1 - (1:Int)).toNat []).length:Int)=(0:Int))) false) (au ((bj (d1 - (1:Int)))&&(true)) <|
  dw (d1 - (1:Int))) (some d1)
def xH(N:Nat) (a0:(List (List ad))):Option (Int):=
  Option.bind (AB N a0 N (a0.length:Int)) fun aT=>
  some aT
noncomputable def ae5 (N:Nat):bC bS:=ch N b0 (by kernel_rfl) [.c (.bk (.ai aB))] [] ⟨.a (.c (.int .i64)),[],[]⟩ [] [] (.s .d (.s .d (.s (.b (.eO 0 ⟨[(3,.a (.c (.int .i64)))],[],[0],[]⟩ ⟨[(3,.a (.c (.int .i64)))],[],[],[]⟩ .d)) .d))) [.tmp 2] 47 0 (fun d=>xH N d.1) Tryz.func47 rfl rfl Tryz.ntmps47 rfl rfl rfl (fun d=>by kernel_rfl)
def D5(N:Nat) (a0:(List (List ad))):Option ((List (List ad))):=
  au (((decide (0<=(a0.length:Int)))&&(decide ((a0.length:Int)<=(a0.length:Int)))&&(gd 24 (a0.length:Int)))&&(true)) <|
  au ((Nat.beq a0.length (List.replicate (a0.length:Int).toNat ([]:(List ad))).length)&&(true)) <|
  some a0
noncomputable def ae6 (N:Nat):bC bS:=ch N b0 (by kernel_rfl) [.c (.bk (.ai aB))] [] ⟨.a (.c (.raw (.ai 6))),[(6,.row 34 (.ai aB))],[]⟩ [] [] (.d) [.tmp 2] 216 [] (fun d=>D5 N d.1) Tryz.func216 rfl rfl Tryz.ntmps216 rfl rfl rfl (fun d=>by kernel_rfl)
def Kj(N:Nat) (bt:(List (List ad))):Nat->(Int×(List (List ad)))->Option ((List (List ad))):=cn fun d4 mf=>
  cond (decide (d4.1 < (bt.length:Int))) (au ((bc d4.1 d4.2.length)&&((decide (d4.1.toNat < d4.2.length))&&(true))) <|
  Option.bind (tl N (d4.2.getD d4.1.toNat [])) fun bU=>
  au ((bc d4.1 d4.2.length)&&(((decide (d4.1.toNat < d4.2.length))&&(true))&&(true))) <|
  au ((bj (d4.1+(1:Int)))&&(true)) <|
  mf ((d4.1+(1:Int)),(d4.2.set d4.1.toNat bU.1))) (some d4.2)
def n4(N:Nat) (a0:(List (List ad))) (a1:Int) (a2:(List ad)):Option ((List (List ad))):=
  au (((decide (0<=(if (a0.length:Int) < a1 then a1 else(a0.length:Int))))&&(decide ((if (a0.length:Int) < a1 then a1 else(a0.length:Int))<=(if (a0.length:Int) < a1 then a1 else(a0.length:Int))))&&(gd 24 (if (a0.length:Int) < a1 then a1 else(a0.length:Int))))&&(true)) <|
  au ((decide (a0.length<=(List.replicate (if (a0.length:Int) < a1 then a1 else(a0.length:Int)).toNat ([]:(List ad))).length))&&(true)) <|
  Option.bind (cond (decide ((0:Int) < a1)) (au ((bj (a1 - (1:Int)))&&((bc (a1 - (1:Int)) (a0++(List.replicate (if (a0.length:Int) < a1 then a1 else(a0.length:Int)).toNat ([]:(List ad))).drop a0.length).length)&&(((decide ((a1 - (1:Int)).toNat < (a0++(List.replicate (if (a0.length:Int) < a1 then a1 else(a0.length:Int)).toNat ([]:(List ad))).drop a0.length).length))&&(true))&&(true)))) <|
  some ((a0++(List.replicate (if (a0.length:Int) < a1 then a1 else(a0.length:Int)).toNat ([]:(List ad))).drop a0.length).set (a1 - (1:Int)).toNat a2)) (some (a0++(List.replicate (if (a0.length:Int) < a1 then a1 else(a0.length:Int)).toNat ([]:(List ad))).drop a0.length))) fun aT=>
  Option.bind (xH N aT) fun a7=>
  au (((decide (0<=a7))&&(decide (a7<=(aT.length:Int))))&&(true)) <|
  Option.bind (D5 N (aT.take a7.toNat)) fun bt=>
  Option.bind (Kj N bt N ((0:Int),bt)) fun eX=>
  some eX
noncomputable def ae7 (N:Nat):bC bS:=ch N b0 (by kernel_rfl) [.c (.bk (.ai aB)),.c (.int .i64),.c (.bk aB)] [] ⟨.a (.c (.bk (.ai aB))),[],[]⟩ [ae5 N,ae6 N,Kf N] [] (.s .d (.s .d (.s (.r [.n 2,.t .sk]) (.j ⟨[(7,.a (.c (.raw (.ai 14))))],[(14,.row 34 (.ai aB))],[],[]⟩ .d (.s (.r [.n 2,.w (.de 14),.n 2,.c [(6,29)]]) (.s (.s .d (.b (.eO 0 ⟨[(7,.a (.c (.raw (.ai 29)))),(30,.a (.c (.raw (.ai 29)))),(32,.a (.c (.int .i64)))],[(29,.row 34 (.ai aB))],[31],[]⟩ ⟨[(7,.a (.c (.raw (.ai 29))))],[(29,.row 34 (.ai aB))],[],[]⟩ .d))) (.s .d (.t [.de 29])))))))) [.tmp 6] 200 [] (fun d=>n4 N d.1 d.2.1 d.2.2.1) Tryz.func200 rfl rfl Tryz.ntmps200 rfl rfl rfl (fun d=>by kernel_rfl)
def oW(N:Nat) (a0:ho) (a1:ad) (a2:(List ad)):Option (ho):=
  cond (decide (a1.1=(0:Int))) (Option.bind (n4 N a0.1 a1.2 a2) fun aF=>
  Option.bind (n4 N a0.2 (0:Int) ([]:List ad)) fun a7=>
  some (aF,a7)) (Option.bind (n4 N a0.1 (0:Int) ([]:List ad)) fun bt=>
  Option.bind (n4 N a0.2 a1.2 a2) fun b6=>
  some (bt,b6))
noncomputable def Rh (N:Nat):bC bS:=ch N b0 (by kernel_rfl) [.cY fm,.cY aB,.c (.bk aB)] [] ⟨.a (.cY fm),[],[]⟩ [ae7 N] [] (.s (.r [.n 3,.w (.cd 3 fm),.w (.cd 4 aB)]) (.s (.s .d (.c (.s (.o [] [.t 0 0,.t 1 1,.t 2 0,.t 3 1,.t 4 0,.t 6 0,.t 7 1,.c 5 [],.c 8 [],.t 9 0,.s 10] []) .d) .d)) (.s (.o [] [.t 0 0,.t 1 1,.t 3 0,.t 4 1,.t 5 0,.t 6 1,.t 7 0,.c 2 [],.c 8 [],.t 9 0,.s 10] []) .d))) [.cell 6 29] 162 fm.zero (fun d=>oW N d.1 d.2.1 d.2.2.1) Tryz.func162 rfl rfl Tryz.ntmps162 rfl rfl rfl (fun d=>by kernel_rfl)
def AD(N:Nat) (a2:(List ad)):Nat->Int->Option ((Unit)⊕(ho×Int)):=cn fun d3 hB=>
  cond (decide (d3 < (a2.length:Int))) (au ((bc d3 a2.length)&&(true)) <|
  Option.bind (xu N (a2.getD d3.toNat aB.zero)) fun b6=>
  cond (!b6) (some (.inr ((([]:List (List ad)),([]:List (List ad))),(1:Int)))) (au ((bj (d3+(1:Int)))&&(true)) <|
  hB (d3+(1:Int)))) (some (.inl ()))
def xI(N:Nat) (qI:(ad×(List ad)×Unit)):Nat->(Int×(List (ad×Bool)))->Option (Int×Bool×(List (ad×Bool))):=cn fun d7 oT=>
  cond (decide (d7.1 < (qI.2.1.length:Int))) (au ((bc d7.1 qI.2.1.length)&&(true)) <|
  au ((true&&true)&&(true)) <|
  au ((bj (d7.1+(1:Int)))&&(true)) <|
  oT ((d7.1+(1:Int)),(eD aB .bool d7.2 (qI.2.1.getD d7.1.toNat aB.zero) true))) (some (d7.1,(decide (d7.1 < (qI.2.1.length:Int))),d7.2))
def AE(N:Nat) (a2:(List ad)):Nat->(Int×(List (ad×Bool)))->Option ((Unit)⊕(ho×Int)):=cn fun d8 JQ=>
  cond (decide (d8.1 < (a2.length:Int))) (au ((bc d8.1 a2.length)&&(true)) <|
  cond ((cF aB .bool d8.2 (a2.getD d8.1.toNat aB.zero)).getD false) (some (.inr ((([]:List (List ad)),([]:List (List ad))),(8:Int)))) (au ((true&&true)&&(true)) <|
  au ((bj (d8.1+(1:Int)))&&(true)) <|
  JQ ((d8.1+(1:Int)),(eD aB .bool d8.2 (a2.getD d8.1.toNat aB.zero) true)))) (some (.inl ()))
def lN(N:Nat) (a0:ho) (a1:ad) (a2:(List ad)):Option (ho×Int):=
  Option.bind (vi N a0) fun aF=>
  cond (!(decide (aF=(0:Int)))) (some ((([]:List (List ad)),([]:List (List ad))),aF)) (Option.bind (jX N a1) fun a7=>
  cond (!(decide (a7=(0:Int)))) (some ((([]:List (List ad)),([]:List (List ad))),(1:Int))) (Option.bind (AD N a2 N (0:Int)) fun(b7:(Unit)⊕(ho×Int))=>
  sm b7 (fun b7=>
  cond (decide ((4:Int) < (a2.length:Int))) (some ((([]:List (List ad)),([]:List (List ad))),(9:Int))) (Option.bind (J3 N a0) fun bU=>
  Option.bind (vg N true bU) fun ae8=>ji (fun(qI:ad×(List ad)×Unit) (AF:(List (ad×Bool))) (AG:(List (ad×Bool))->Option (ho×Int))=>
  cond (!(aU.beq aB qI.1 a1)) (Option.bind (xI N qI N ((0:Int),AF)) fun jl=>
  AG jl.2.2) (AG AF)) ae8 ([]:List (ad×Bool)) fun gi=>
  Option.bind (AE N a2 N ((0:Int),gi)) fun(qD:(Unit)⊕(ho×Int))=>
  sm qD (fun qD=>
  Option.bind (oW N a0 a1 a2) fun nx=>
  some (nx,(0:Int))) (fun q=>some q))) (fun q=>some q)))
noncomputable def ae9 (N:Nat):bC bS:=ch N b0 (by kernel_rfl) [.cY fm,.cY aB,.c (.bk aB)] [] ⟨.c3 [.cY fm,.c (.int .i64)],[],[]⟩ [DS N,tk N,Jq N,QX N,Rh N] [QW N] (.s (.r [.n 4,.w (.cd 3 fm),.w (.cd 4 aB)]) (.s .d (.s .d (.s (.s .d (.b (.fD 0 ⟨[(6,.a (.c (.raw (.ptr 6 0)))),(30,.a (.c (.int .i64)))],[],[2,3,4,28,29],[6]⟩ ⟨[(6,.a (.c (.raw (.ptr 6 0))))],[],[2,3,4],[6]⟩ (.s .d (.s .d (.s (.b (.s (.r [.n 4,.w (.cd 10 aB)]) .d)) .d)))))) (.s .d (.s (.r [.t (.nm aB .bool)]) (.s (.s .d (.b (.nR [(6,83),(11,88)] ⟨[],[(43,.mp aB .bool),(88,.cells 193 [.raw (.b8 43)])],[],[83]⟩ (.b (.s .d (.c (.s .d (.b (.eO 4 ⟨[(6,.a (.c (.raw (.ptr 83 0)))),(11,.a (.c (.raw (.ptr 88 0)))),(53,.a (.c (.int .i64)))],[(43,.mp aB .bool),(88,.cells 193 [.raw (.b8 43)])],[2,3,4,12,13,48,49,50,51,52],[83]⟩ ⟨[(6,.a (.c (.raw (.ptr 83 0)))),(11,.a (.c (.raw (.ptr 88 0)))),(53,.a (.c (.int .i64))),(54,.a (.c .bool))],[(43,.mp aB .bool),(88,.cells 193 [.raw (.b8 43)])],[2,3,4,12,13,48,49,50,51,52],[83]⟩ (.s .d (.s .d (.s (.b (.s (.r [.n 4,.w (.cd 15 aB)]) (.r [.n 2,.t .CC]))) .d)))))) .d)))))) (.s (.s .d (.b (.fD 6 ⟨[(6,.a (.c (.raw (.ptr 83 0)))),(11,.a (.c (.raw (.ptr 88 0)))),(62,.a (.c (.int .i64)))],[(43,.mp aB .bool),(88,.cells 193 [.raw (.b8 43)])],[2,3,4,60,61],[83]⟩ ⟨[(6,.a (.c (.raw (.ptr 83 0))))],[],[2,3,4],[83]⟩ (.s .d (.s .d (.s (.b (.s (.r [.n 4,.w (.cd 17 aB)]) (.s (.s (.r [.n 2,.t .zi]) .d) (.r [.n 2,.t .CC])))) .d)))))) .d)))))))) [.cell 6 29,.tmp 7] 136 (fm.zero,0) (fun d=>lN N d.1 d.2.1 d.2.2.1) Tryz.func136 rfl rfl Tryz.ntmps136 rfl rfl rfl (fun d=>by kernel_rfl)
def tm(N:Nat) (a0:ho) (a1:ad) (a2:ad):Option (ho×Int):=
  Option.bind (vi N a0) fun aF=>
  cond (!(decide (aF=(0:Int)))) (some ((([]:List (List ad)),([]:List (List ad))),aF)) (Option.bind (jX N a1) fun a7=>
  Option.bind (cond (!(!(decide (a7=(0:Int))))) (jX N a2) (some 0)) fun bt=>
  cond (cond (cond (!(decide (a7=(0:Int)))) true (!(decide (bt=(0:Int))))) true (decide (a1.1=a2.1))) (some ((([]:List (List ad)),([]:List (List ad))),(1:Int))) (Option.bind (n3 N a0 a1) fun b6=>
  Option.bind (n3 N a0 a2) fun bU=>
  cond (decide ((b6.1.length:Int)=(0:Int))) (some ((([]:List (List ad)),([]:List (List ad))),(13:Int))) (au ((bj ((b6.1.length:Int)+(bU.1.length:Int)))&&(true)) <|
  cond (decide ((4:Int) < ((b6.1.length:Int)+(bU.1.length:Int)))) (some ((([]:List (List ad)),([]:List (List ad))),(9:Int))) (Option.bind (tl N bU.1) fun cq=>
  au (((eg 16 (cq.1.length+b6.1.length))&&(decide (cq.2=cq.1.length)))&&(true)) <|
  Option.bind (cond (decide (a1.1=(1:Int))) (Option.bind (tl N b6.1) fun jz=>
  au (((eg 16 (jz.1.length+bU.1.length))&&(decide (jz.2=jz.1.length)))&&(true)) <|
  some (jz.1++bU.1)) (some (cq.1++b6.1))) fun jl=>
  au (true) <|
  Option.bind (oW N a0 a1 ([]:List ad)) fun k4=>
  Option.bind (oW N k4 a2 jl) fun nz=>
  some (nz,(0:Int))))))
noncomputable def afa (N:Nat):bC bS:=ch N b0 (by kernel_rfl) [.cY fm,.cY aB,.cY aB] [] ⟨.c3 [.cY fm,.c (.int .i64)],[],[]⟩ [DS N,tk N,AA N,Kf N,Rh N] [] (.s (.r [.n 5,.w (.cd 3 fm),.w (.cd 4 aB),.w (.cd 5 aB)]) (.s .d (.s .d (.s (.o [] [.t 0 1,.t 1 1,.t 3 1,.t 4 1,.c 2 [],.c 5 [],.t 6 0,.t 7 0] []) (.s .d (.s .d (.s .d (.j ⟨[(6,.a (.c (.raw (.ptr 6 0)))),(11,.a (.c (.raw (.ai 61))))],[(61,.gl 102 aB)],[3,4,5],[6]⟩ (.s .d (.c .d (.t [.t (.cP 54 61)]))) (.s (.p [.ru 61] (.o [] [.t 0 1,.t 1 1,.t 3 1,.t 4 0,.c 2 [],.c 5 [],.s 6,.t 7 0] [])) .d))))))))) [.cell 6 29,.tmp 7] 135 (fm.zero,0) (fun d=>tm N d.1 d.2.1 d.2.2.1) Tryz.func135 rfl rfl Tryz.ntmps135 rfl rfl rfl (fun d=>by kernel_rfl)
end
section
open Go.RowKit
def mN(l:List (List ad)):Prop:=∀ s,l.getLast?=some s->s≠[]
theorem vp:mN []:=fun _ h=>by cases h
theorem D6(l:List (List ad)) {s:List ad} (an:s≠[]):mN (l++[s]):=by
 intro t a8;rw[List.getLast?_append,List.getLast?_singleton]at a8;cases a8;exact an
theorem Ri{N:Nat} (a6:0 < N) {l:List (List ad)} (h:mN l) (ah:l.length<=40):xH N l=some (l.length:Int):=by
 obtain⟨n,rfl⟩:∃ n,N=n+1:=⟨N - 1,by omega⟩
 have J:AB (n+1) l (n+1) (l.length:Int)=some (l.length:Int):=by
  unfold AB;rw[cn]
  apply T.eq
  by_cases aN:l.length=0
  ·have n2:¬ (0:Int) < (l.length:Int):=by omega
   simp only[aZ,Int.reduceEq,Int.reduceLT,Int.reduceLE,reduceCtorEq,n2]
  ·have n2:(0:Int) < (l.length:Int):=by omega
   obtain⟨s,an⟩:∃ s,l[l.length - 1]?=some s:=⟨_,List.getElem?_eq_getElem (by omega)⟩
   have cr:=h s (by rw[List.getLast?_eq_getElem?]; exact an);have p3:¬ (s.length:Int)=0:=by
    have:=List.length_pos_iff.2 cr
    omega
   have ay:((l.length:Int) - 1).toNat=l.length - 1:=by omega
   simp only[aZ,Int.reduceEq,Int.reduceLT,Int.reduceLE,reduceCtorEq,n2,ay,cb an,p3]
   and_intros<;>first | omega | (simp only[bB]; omega) | exact this | trivial
 unfold xH;rw[J,Option.bind_some]
theorem D7(N:Nat) (l:List ad) (h:l.length<=100000):tl N l=some (l,l.length):=by
 unfold tl
 apply T.eq
 simp only[aZ,Int.reduceEq,Int.reduceLT,Int.reduceLE,reduceCtorEq,List.length_replicate]
 and_intros<;>first | omega | (simp only[bB]; omega) | exact this | trivial
theorem Kk(N:Nat) (l:List (List ad)) (h:l.length<=100000):D5 N l=some l:=by
 unfold D5
 apply T.eq
 simp only[aZ,Int.reduceEq,Int.reduceLT,Int.reduceLE,reduceCtorEq,List.length_replicate]
 and_intros<;>first | omega | (simp only[bB]; omega) | exact this | trivial
theorem Kl{N:Nat} (a6:5000 < N) {l:List (List ad)} (ah:l.length<=40) (aq:∀ s∈l,s.length<=4):Kj N l N ((0:Int),l)=some l:=by
 unfold Kj;refine e3 (fun k d=>∃ i:Nat,i+k=l.length/\d=((i:Int),l)) _ ?_ N l.length _ (by omega) ⟨0,by omega,rfl⟩;rintro k d rec ⟨i,hi,rfl⟩ bO
 apply T.eq
 by_cases aW:i < l.length
 ·obtain⟨x,ak⟩:∃ x,l[i]?=some x:=⟨_,List.getElem?_eq_getElem aW⟩
  have ba:(i:Int) < (l.length:Int):=by omega
  have AH:=aq x (List.mem_of_getElem? ak);have this:T (rec ((i:Int)+1,l)) (·=l):=⟨_,bO (k - 1) _ (by omega) ⟨i+1,by omega,rfl⟩,rfl⟩
  simp only[aZ,Int.reduceEq,Int.reduceLT,Int.reduceLE,reduceCtorEq,ba,cb ak,bn (D7 N x (by omega)),z6 ak]
  and_intros<;>first | omega | (simp only[bB]; omega) | exact this | trivial
 ·have ba:¬ (i:Int) < (l.length:Int):=by omega
  simp only[aZ,Int.reduceEq,Int.reduceLT,Int.reduceLE,reduceCtorEq,ba]
def eP(l:List (List ad)) (a:Nat) (s:List ad):List (List ad):=l++List.replicate (a - 1 - l.length) []++[s]
theorem xJ{l:List (List ad)} {a:Nat} (h:l.length < a) (s:List ad):(eP l a s).length=a:=by
 simp only[eP,List.length_append,List.length_replicate,List.length_singleton];omega
theorem Km(l:List (List ad)) (a:Nat) (s:List ad):(eP l a s).flatten=l.flatten++s:=by
 have h:∀ n:Nat,(List.replicate n ([]:List ad)).flatten=[]:=fun n=>by
  induction n with
  | zero=>rfl
  | succ n br=>rw[List.replicate_succ,List.flatten_cons,br]; rfl
 simp only[eP,List.flatten_append,h,List.append_nil,List.flatten_singleton]
theorem Rj{l:List (List ad)} {a:Nat} {s t:List ad} (h:t∈eP l a s):t∈l\/t=[]\/t=s:=by
 simp only[eP,List.mem_append,List.mem_singleton]at h
 rcases h with(h | h) | h
 ·exact Or.inl h
 ·exact Or.inr (Or.inl (List.eq_of_mem_replicate h))
 ·exact Or.inr (Or.inr h)
theorem gw.put{l:List (List ad)} (h:gw l) {a:Nat} (J:l.length < a) (U:a<=40) {s:List ad} (an:s.length<=4) (bg:∀ x∈s,ny x):gw (eP l a s):=by
 refine⟨by rw[xJ J]; exact U,fun t a8=>?_,fun t a8=>?_⟩
 ·rcases Rj a8 with aK | aK | aK
  ·exact h.ew t aK
  ·rw[aK]; exact Nat.zero_le _
  ·rw[aK]; exact an
 ·rcases Rj a8 with aK | aK | aK
  ·exact h.ok t aK
  ·rw[aK]; intro x ak; cases ak
  ·rw[aK]; exact bg
theorem afb(l:List (List ad)) (a:Nat) (h:l.length < a) (s:List ad):(l++(List.replicate a ([]:List ad)).drop l.length).set (a - 1) s=eP l a s:=by
 have e:(List.replicate a ([]:List ad)).drop l.length=List.replicate (a - 1 - l.length) []++[[]]:=by
  rw[List.drop_replicate,<- List.replicate_succ',show a - 1 - l.length+1=a - l.length by omega]
 rw[e,<- List.append_assoc];rw[List.set_append_right _ _ (by simp; omega)];have aS:a - 1 - (l++List.replicate (a - 1 - l.length) ([]:List ad)).length=0:=by simp; omega
 rw[aS]
 rfl
theorem afc{N:Nat} (a6:5000 < N) {l:List (List ad)} (h:gw l) {a:Nat} (J:l.length < a) (U:a<=40) {s:List ad} (an:s.length<=4) (aN:s≠[]) (bg:∀ x∈s,ny x):n4 N l (a:Int) s=some (eP l a s):=by
 have aC:=h.put J U an bg;have hlen:=xJ J s;have tn:(if (l.length:Int) < (a:Int)then(a:Int)else(l.length:Int))=(a:Int):=if_pos (by omega);have nn:(l++(List.replicate a ([]:List ad)).drop l.length).length=a:=by
  rw[List.length_append,List.length_drop,List.length_replicate];omega
 have dP:=Ri (N:=N) (by omega) (l:=eP l a s) (D6 _ aN) aC.len;rw[hlen]at dP;have jH:(0:Int) < (a:Int):=by omega
 have ay:((a:Int) - 1).toNat=a - 1:=by omega
 have a8:(eP l a s).take a=eP l a s:=List.take_of_length_le (by omega);have aa:=Kk N (eP l a s) (by omega);have aq:=Kl a6 aC.len aC.ew;unfold n4
 apply T.eq
 simp only[tn,aZ,Int.reduceEq,Int.reduceLT,Int.reduceLE,reduceCtorEq,List.length_replicate,nn,jH,ay,afb l a J s,bn dP,a8,bn aa,bn aq,hlen]
 and_intros<;>first | omega | (simp only[bB]; omega) | exact this | trivial
theorem Kn{N:Nat} (a6:5000 < N) {l:List (List ad)} (h:gw l) (an:mN l):n4 N l (0:Int) []=some l:=by
 have ah:=h.len;have tn:(if (l.length:Int) < (0:Int)then(0:Int)else(l.length:Int))=(l.length:Int):=if_neg (by omega);have ax:l++(List.replicate l.length ([]:List ad)).drop l.length=l:=by simp
 have dP:=Ri (N:=N) (by omega) an ah;have aa:=Kk N l (by omega);have aq:=Kl a6 ah h.ew;unfold n4
 apply T.eq
 simp only[tn,aZ,Int.reduceEq,Int.reduceLT,Int.reduceLE,reduceCtorEq,List.length_replicate,ax,show ¬ (0:Int) < (0:Int) by omega,bn dP,List.take_length,bn aa,bn aq]
 and_intros<;>first | omega | (simp only[bB]; omega) | exact this | trivial
def lO(nd:ad):List (ad×List ad×Unit)->List ad
 | []=>[]
 | x :: E=>(if x.1=nd then [] else x.2.1)++lO nd E
theorem Rk{nd:ad} (b:Int) (l:List (List ad)):∀ i:Nat,(nd.1≠b\/(i:Int)+l.length < nd.2)->lO nd (hE b i l)=l.flatten:=by
 induction l with
 | nil=>intro i _; rfl
 | cons s r br=>
  intro i h;show(if ((b,(i:Int)+1):ad)=nd then [] else s)++lO nd (hE b (i+1) r)=s++r.flatten;rw[List.length_cons]at h;rw[if_neg (fun e=>by rw[<- e]at h; rcases h with h | h; exact h rfl; dsimp only at h; omega),br (i+1) (by rcases h with h | h; exact Or.inl h; exact Or.inr (by omega))]
theorem Rl(nd:ad) (E F:List (ad×List ad×Unit)):lO nd (E++F)=lO nd E++lO nd F:=by
 induction E with
 | nil=>rfl
 | cons e E br=>show(if e.1=nd then [] else e.2.1)++lO nd (E++F)=_; rw[br,<- List.append_assoc]; rfl
theorem afd{N:Nat} (a6:5000 < N) (x:ad×List ad×Unit) (aq:x.2.1.length<=4) (acc:List ad) (aV:(acc++x.2.1).Nodup) :
  xI N x N ((0:Int),gv acc)=some ((x.2.1.length:Int),false,gv (acc++x.2.1)):=by
 unfold xI;refine e3 (fun k d=>∃ j:Nat,j+k=x.2.1.length/\d=((j:Int),gv (acc++x.2.1.take j))) _ ?_ N x.2.1.length _ (by omega) ⟨0,by omega,by simp⟩;rintro k d rec ⟨j,aH,rfl⟩ bO
 apply T.eq
 by_cases aW:j < x.2.1.length
 ·obtain⟨a,aX⟩:∃ a,x.2.1[j]?=some a:=⟨_,List.getElem?_eq_getElem aW⟩
  have ba:(j:Int) < (x.2.1.length:Int):=by omega
  have hH:a ∉ acc++x.2.1.take j:=by
   refine J9 (Q:=x.2.1.drop (j+1)) ?_;have e:acc++x.2.1.take j++a :: x.2.1.drop (j+1)=acc++x.2.1:=by
    conv=>rhs; rw[<- List.take_append_drop j x.2.1,ti aX]
    simp only[List.append_assoc]
   rw[e];exact aV
  have this:T (rec ((j:Int)+1,gv (acc++x.2.1.take j++[a]))) (·=((x.2.1.length:Int),false,gv (acc++x.2.1))):=⟨_,bO (k - 1) _ (by omega) ⟨j+1,by omega,by rw[qG aX,List.append_assoc]; rfl⟩,rfl⟩
  simp only[aZ,Int.reduceEq,Int.reduceLT,Int.reduceLE,reduceCtorEq,ba,cb aX,DU _ _ hH]
  and_intros<;>first | omega | (simp only[bB]; omega) | exact this | trivial
 ·have ba:¬ (j:Int) < (x.2.1.length:Int):=by omega
  simp only[aZ,Int.reduceEq,Int.reduceLT,Int.reduceLE,reduceCtorEq,ba];rw[List.take_of_length_le (by omega),show j=x.2.1.length by omega]
theorem Rm{N:Nat} (a6:5000 < N) {s:List ad} (aq:s.length<=4) (acc:List ad) (aV:(acc++s).Nodup):AE N s N ((0:Int),gv acc)=some (.inl ()):=by
 unfold AE;refine e3 (fun k d=>∃ j:Nat,j+k=s.length/\d=((j:Int),gv (acc++s.take j))) _ ?_ N s.length _ (by omega) ⟨0,by omega,by simp⟩;rintro k d rec ⟨j,aH,rfl⟩ bO
 apply T.eq
 by_cases aW:j < s.length
 ·obtain⟨a,aX⟩:∃ a,s[j]?=some a:=⟨_,List.getElem?_eq_getElem aW⟩
  have ba:(j:Int) < (s.length:Int):=by omega
  have hH:a ∉ acc++s.take j:=by
   refine J9 (Q:=s.drop (j+1)) ?_;have e:acc++s.take j++a :: s.drop (j+1)=acc++s:=by
    conv=>rhs; rw[<- List.take_append_drop j s,ti aX]
    simp only[List.append_assoc]
   rw[e];exact aV
  have this:T (rec ((j:Int)+1,gv (acc++s.take j++[a]))) (·=.inl ()):=⟨_,bO (k - 1) _ (by omega) ⟨j+1,by omega,by rw[qG aX,List.append_assoc]; rfl⟩,rfl⟩
  simp only[aZ,Int.reduceEq,Int.reduceLT,Int.reduceLE,reduceCtorEq,ba,cb aX,J7 _ _ hH,DU _ _ hH,Option.getD_none,Bool.false_eq_true]
  and_intros<;>first | omega | (simp only[bB]; omega) | exact this | trivial
 ·have ba:¬ (j:Int) < (s.length:Int):=by omega
  simp only[aZ,Int.reduceEq,Int.reduceLT,Int.reduceLE,reduceCtorEq,ba]
theorem D8{N:Nat} (a6:5000 < N) (nd:ad) {aR:Type} (k:List (ad×Bool)->Option aR):∀ (E:List (ad×List ad×Unit)) (acc:List ad),(∀ x∈E,x.2.1.length<=4)->(acc++lO nd E).Nodup ->
  ji (fun(qI:ad×List ad×Unit) (AF:List (ad×Bool)) (AG:List (ad×Bool)->Option aR)=>
   cond (!(aU.beq aB qI.1 nd)) (Option.bind (xI N qI N ((0:Int),AF)) fun jl=>AG jl.2.2) (AG AF)) E (gv acc) k=k (gv (acc++lO nd E))
 | [],acc,_,_=>by
  show k (gv acc)=k (gv (acc++[]));rw[List.append_nil]
 | x :: E,acc,aq,aV=>by
  have gn:=fun y aL=>aq y (List.mem_cons_of_mem _ aL)
  show cond (!(aU.beq aB x.1 nd)) (Option.bind (xI N x N ((0:Int),gv acc)) fun jl=>ji _ E jl.2.2 k) (ji _ E (gv acc) k)=_;rw[DT];unfold lO at aV ⊢
  by_cases e:x.1=nd
  ·rw[if_pos e,List.nil_append]at aV ⊢
   rw[decide_eq_true e];exact D8 a6 nd k E acc gn aV
  ·rw[if_neg e]at aV ⊢
   rw[<- List.append_assoc]at aV ⊢;rw[decide_eq_false e];show Option.bind (xI N x N ((0:Int),gv acc)) _=_;rw[afd a6 x (aq x List.mem_cons_self) acc (List.nodup_append.1 aV).1,Option.bind_some];exact D8 a6 nd k E _ gn aV
theorem D9{b:Int} {l:List (List ad)} (h:∀ s∈l,s.length<=4):∀ (i:Nat),∀ x∈hE b i l,x.2.1.length<=4:=by
 induction l with
 | nil=>intro i x ak; cases ak
 | cons s r br=>
  intro i x ak
  rcases List.mem_cons.1 ak with rfl | ak
  ·exact h s List.mem_cons_self
  ·exact br (fun t a8=>h t (List.mem_cons_of_mem _ a8)) (i+1) x ak
theorem oX(N:Nat) {nd:ad} (h:(nd.1=0\/nd.1=1)/\1<=nd.2/\nd.2<=40):jX N nd=some 0:=by
 obtain⟨J,U,ag⟩:=h;unfold jX
 apply T.eq
 rcases J with J | J<;>simp only[aZ,Int.reduceEq,Int.reduceLT,Int.reduceLE,reduceCtorEq,J,show ¬ nd.2 < 1 by omega,show ¬ 40 < nd.2 by omega]
theorem Rn{N:Nat} (a6:5000 < N) {s:List ad} (aq:s.length<=4) (bg:∀ a∈s,ny a):AD N s N (0:Int)=some (.inl ()):=by
 unfold AD;refine e3 (fun k d=>∃ j:Nat,j+k=s.length/\d=(j:Int)) _ ?_ N s.length _ (by omega) ⟨0,by omega,rfl⟩;rintro k d rec ⟨j,aH,rfl⟩ bO
 apply T.eq
 by_cases aW:j < s.length
 ·obtain⟨x,ak⟩:∃ x,s[j]?=some x:=⟨_,List.getElem?_eq_getElem aW⟩
  have ba:(j:Int) < (s.length:Int):=by omega
  have this:T (rec ((j:Int)+1)) (·=.inl ()):=⟨_,bO (k - 1) _ (by omega) ⟨j+1,by omega,rfl⟩,rfl⟩
  simp only[aZ,Int.reduceEq,Int.reduceLT,Int.reduceLE,reduceCtorEq,ba,cb ak,bn (J1 N (bg x (List.mem_of_getElem? ak)))]
  and_intros<;>first | omega | (simp only[bB]; omega) | exact this | trivial
 ·have ba:¬ (j:Int) < (s.length:Int):=by omega
  simp only[aZ,Int.reduceEq,Int.reduceLT,Int.reduceLE,reduceCtorEq,ba]
theorem Ro{N:Nat} (a6:5000 < N) {f g:List (List ad)} (az:gw f) (aQ:gw g) (AI:mN g) {a:Nat} (J:f.length < a) (U:a<=40) {s:List ad} (an:s.length<=4) (aN:s≠[]) (bg:∀ x∈s,ny x)
  (aV:(f.flatten++g.flatten++s).Nodup) (aa:f.flatten.length+g.flatten.length<=100000):lN N (f,g) ((0:Int),(a:Int)) s=some ((eP f a s,g),0):=by
 have rD:=(List.nodup_append.1 aV).1;have hy:lO ((0:Int),(a:Int)) (hE 0 0 f++(hE 1 0 g++[]))=f.flatten++g.flatten:=by
  rw[List.append_nil,Rl,Rk 0 f 0 (Or.inr (by dsimp only; omega)),Rk 1 g 0 (Or.inl (by dsimp only; decide))]
 have aw:=fun {aR:Type} (k:List (ad×Bool)->Option aR)=>D8 a6 ((0:Int),(a:Int)) k (hE 0 0 f++(hE 1 0 g++[])) [] (by
  intro x ak
  rcases List.mem_append.1 ak with ak | ak
  ·exact D9 az.ew 0 x ak
  ·rw[List.append_nil]at ak
   exact D9 aQ.ew 0 x ak) (by rw[hy]; exact rD)
 have gT:oW N (f,g) ((0:Int),(a:Int)) s=some (eP f a s,g):=by
  unfold oW;show Option.bind (n4 N f (a:Int) s) _=_;rw[afc a6 az J U an aN bg,Option.bind_some];show Option.bind (n4 N g (0:Int) []) _=_;rw[Kn a6 aQ AI,Option.bind_some]
 unfold lN;rw[xE a6 az aQ rD aa,Option.bind_some];show Option.bind (jX N ((0:Int),(a:Int))) _=_;rw[oX N ⟨Or.inl rfl,by dsimp only; omega,by dsimp only; omega⟩,Option.bind_some];show Option.bind (AD N s N (0:Int)) _=_;rw[Rn a6 an bg,Option.bind_some];show cond (decide ((4:Int) < (s.length:Int))) _ (Option.bind (vg N true (f,g)) _)=_;rw[decide_eq_false (by omega),cond_false,J8 a6 az.len aQ.len,Option.bind_some];refine(aw _).trans ?_;rw[List.nil_append,hy];show Option.bind (AE N s N ((0:Int),gv (f.flatten++g.flatten))) _=_;rw[Rm a6 an _ aV,Option.bind_some];show Option.bind (oW N (f,g) ((0:Int),(a:Int)) s) _=_;rw[gT,Option.bind_some]
end
end Go.Proofs.YtcheedjfedcbpaaGreatDoor
