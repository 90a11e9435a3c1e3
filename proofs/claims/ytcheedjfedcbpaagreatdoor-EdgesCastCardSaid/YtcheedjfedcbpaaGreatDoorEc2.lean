import Derived.Test.YtcheedjfedcbpaaGreatDoorEc1
import Derived.Lib.LaidTab
import Derived.Test.YtcheedjfedcbpaaGreatDoorProg
import Derived.KernelRfl
import Derived.Lib.ItoaNum
import Derived.Test.YtcheedjfedcbpaaGreatDoorRows
import Derived.LaidMore
import Derived.OpenShut
import Derived.Stop.Joined
import Derived.Test.YtcheedjfedcbpaaGreatDoorCards
import Derived.Test.YtcheedjfedcbpaaGreatDoorTie
import Derived.SevenTiedAt
import Derived.Maps.RangeRun
import Derived.Scope
set_option linter.unusedSimpArgs false
set_option linter.unusedVariables false
set_option maxRecDepth 100000
namespace Go.Proofs.YtcheedjfedcbpaaGreatDoor
open Go.RowKit
section
def uT(X:bl) (B:Nat->Prop) (w:World):Prop:=∀ i x,X.zZ i=some x->q8 B w i x
def sK(X:bl) (env:Nat->Loc) (B:Nat->Prop) (H:List bd) (W:World) (Q:bZ->bo->Prop) (v:Value) (w':World):Prop:=
 ∃ env' B' cy H' sv aN,Q sv aN/\(∀ k,B k->B' k)/\(∀ k,B' k->B k\/(¬ fO W H k/\p4 cy k))/\da (fO W H) W cy/\ey env' B' cy sv v/\bp env' B' cy aN H'/\bA (fun k=>fO W H k\/B' k) cy H' w'/\∀ id l,(lD<=id/\∃ b,l=.blk b)\/hx<=id->env id=l->env' id=l
def AC(X:bl) (f:FuncId) (args:List bf) (h:bo) (Q:bZ->bo->Prop):Prop:=
 ∀ (B:Nat->Prop) (ak:World) (env:Nat->Loc) (vs:List Value) (H:List bd) (W:World),uT X B ak->dx env B ak args vs->bp env B ak h H->bA B ak H W->oh X.P f vs.toArray W (sK X env B H W Q)
def ED(X:bl) (st:aK):ResultVar->Option (Bool×bf)
 | .tmp s=>bj X st.L (.tmp s)
 | .cell s t=>match bj X st.L (.tmp s)with
  | some (g,.c (.ptr id 0))=>match z6 X st t (.c (.ptr id 0))with
   | some (c,x)=>some (g&&c,x)
   | none=>none
  | _=>none
def Aq(X:bl) (st:aK):List ResultVar->Option (Bool×List bf)
 | []=>some (true,[])
 | r :: l=>match ED X st r,Aq X st l with
  | some (c,x),some (c',xs)=>some (c&&c',x :: xs)
  | _,_=>none
def qc(X:bl) (st:aK) (l:List ResultVar):Option (Bool×bZ):=
 match Aq X st l with
 | some (c,[x])=>some (c,.a x)
 | some (c,xs)=>some (c,.cW xs)
 | none=>none
def TC(X:bl) (n:Nat) (res:List ResultVar) (Q:bZ->bo->Prop):Exit->aK->Prop
 | .ret,st=>∃ st',cA X n st st'/\∃ c sv,qc X st' res=some (c,sv)/\c=true/\Q sv st'.H
 | .normal,st=>∃ st',cA X n st st'/\∃ c sv,qc X st' res=some (c,sv)/\c=true/\Q sv st'.H
 | _,_=>False
def ou:Nat->List bf->cJ
 | _,[]=>[]
 | k,x :: r=>(k,.a x) :: ou (k+1) r
section
variable {X:bl} {R:Nat->Prop} {W:World} {aD:e5} {n:Nat} {ks:List Nat} {env:Nat->Loc} {B:Nat->Prop} {ak:World} {H:List bd} {st st':aK} {a aQ:Act} {w w':World}
theorem dx.length:∀ {xs:List bf} {vs:List Value},dx env B w xs vs->vs.length=xs.length
 | [],_,h=>by rw[show _=[] from h]; rfl
 | _ :: _,_,⟨v,r,e,_,U⟩=>by rw[e,List.length_cons,List.length_cons,dx.length U]
theorem Ar:∀ {xs:List bf} {vs:List Value} {k s:Nat} {sv:bZ},dx env B w xs vs->aS (ou k xs) s=some sv->k<=s/\∃ v,vs[s - k]?=some v/\ey env B w sv v
 | [],_,_,_,_,_,h=>by cases h
 | x :: xs,vs,k,s,sv,⟨v,r,e,J,U⟩,h=>by
  unfold ou at h;rw[ct]at h;subst e
  split at h
  ·rename_i e
   subst e;cases h;exact⟨Nat.le_refl _,v,by simp,J⟩
  ·obtain⟨ae,u,aw,aF⟩:=Ar U h
   exact⟨by omega,u,by rw[show s - k=(s - (k+1))+1 by omega,List.getElem?_cons_succ]; exact aw,aF⟩
def As(tmps:Array Value):ResultVar->Sem Value
 | .tmp t=>pure (tmps.getD t undef)
 | .cell s t=>do loadVar t (<- asAddr (tmps.getD s undef))
theorem Lc(fn:Func) (tmps:Array Value):results fn tmps=(do let vs <- fn.results.mapM (As tmps); pure (if h:vs.size=1 then vs[0] else .tuple vs)):=by
 unfold results
 congr 1
theorem TD(av:X.tt.ok X.P) (h:bB X R W aD n ks env B ak H st a w) {r:ResultVar} {c:Bool} {x:bf} (aH:ED X st r=some (c,x)) (aa:c=true) :
  ∃ v,dP env B ak x v/\∀ w,bA (fun k=>R k\/B k) ak (H++ks.map c7) w->(As a.tmps r).run X.P w=.ok v w:=by
 cases r with
 | tmp s=>
  obtain⟨v,J,U⟩:=h.aB (x:=.tmp s) aH aa;refine⟨v,U,fun w _=>?_⟩
  have:=h.bK.aB J
  show(pure (a.eval (.tmp s)):Sem Value).run X.P w=_;rw[this]
  rfl
 | cell s t=>
  simp only[ED]at aH
  split at aH
  ·rename_i g id al
   split at aH
   ·rename_i c' y ag
    cases aH;simp only[Bool.and_eq_true]at aa;obtain⟨v,J,b,he,rfl⟩:=h.aB al aa.1;have U:=h.bK.aB J
    obtain ⟨u, ae, aw⟩ := Kz (o := { dst := none, op := .load t (.tmp s), type := 0, pos := "", after := #[], guard := none }) av rfl al aa.1 (by rw [aa.2] at ag; exact ag) h
    refine⟨u,ae,fun w hw=>?_⟩;have aF:=aw w (fun _=>hw);have aW:a.tmps.getD s undef=.pointer (some ⟨b,0,none⟩):=U;simp only[execOp,U,Instr.loadAt,Instr.sureAddr]at aF;simp only[As,aW,asAddr];simp only[Sem.run_bind,Sem.run_pure,Result.andThen_ok]at aF ⊢;cases au:(loadVar t ⟨b,0,none⟩).run X.P w with
    | ok q hC=>
     rw[au]at aF;simp only[Result.andThen_ok]at aF;cases aF
     rfl
    | halt q hC=>rw[au]at aF; simp[Result.andThen]at aF
   ·cases aH
  ·cases aH
theorem EE(av:X.tt.ok X.P) (h:bB X R W aD n ks env B ak H st a w):∀ {l:List ResultVar} {c:Bool} {xs:List bf},Aq X st l=some (c,xs)->c=true ->
  ∃ vs,dx env B ak xs vs/\∀ w,bA (fun k=>R k\/B k) ak (H++ks.map c7) w->(l.mapM (As a.tmps)).run X.P w=.ok vs w
 | [],c,xs,aH,_=>by cases aH; exact⟨[],rfl,fun w _=>by simp⟩
 | r :: l,c,xs,aH,aa=>by
  simp only[Aq]at aH
  split at aH
  ·rename_i fe x cz bJ J U
   cases aH;simp only[Bool.and_eq_true]at aa;obtain⟨v,ae,aw⟩:=TD av h J aa.1;obtain⟨vs,aF,aW⟩:=EE av h U aa.2;refine⟨v :: vs,⟨v,vs,rfl,ae,aF⟩,fun w hw=>?_⟩;rw[List.mapM_cons];simp only[Sem.run_bind,aw w hw,Result.andThen_ok,aW w hw,Sem.run_pure]
  ·cases aH
theorem Ld(av:X.tt.ok X.P) (h:bB X R W aD n ks env B ak H st a w) {fn:Func} {l:List ResultVar} {c:Bool} {sv:bZ} (aA:fn.results=l.toArray) (aH:qc X st l=some (c,sv)) (aa:c=true) :
  ∃ v,ey env B ak sv v/\∀ w,bA (fun k=>R k\/B k) ak (H++ks.map c7) w->(results fn a.tmps).run X.P w=.ok v w:=by
 unfold qc at aH
 split at aH
 ·rename_i c' x J
  cases aH;obtain⟨vs,U,ae⟩:=EE av h J aa;obtain⟨v,r,rfl,aw,aF⟩:=U
  have:r=[]:=aF
  subst this;refine⟨v,aw,fun w hw=>?_⟩;rw[Lc,aA]
  have:=ae w hw
  simp[this]
 ·rename_i c' xs cL J
  cases aH;obtain⟨vs,U,ae⟩:=EE av h J aa;refine⟨.tuple vs.toArray,⟨vs,rfl,U⟩,fun w hw=>?_⟩;rw[Lc,aA];have ag:=U.length
  have:¬ vs.length=1:=fun e=>by
   rw[e]at ag
   match xs,ag,cL with
   | [x],_,cL=>exact cL x rfl
  simp[ae w hw,this]
 ·cases aH
theorem Le(av:X.tt.ok X.P) {f:FuncId} {fn:Func} {c:Code} {args:List bf} {h:bo} {Q:bZ->bo->Prop} {res:List ResultVar} (aA:X.P.funcs[f]?=some fn) (ai:fn.body=some c) (bF:fn.ntmps=n) (ag:Nat.ble args.length n=true) (bk:Nat.ble n lD=true) (aH:fn.results=res.toArray)
  (cI:gm X false n none c ⟨ou 0 args,h⟩ (TC X n res Q)):AC X f args h Q:=by
 intro B ak env vs H W aM bq cB al;have hlen:=bq.length;have hle:vs.length<=n:=by rw[hlen]; exact Nat.le_of_ble_eq_true ag
 refine(callsIn_wide (n:=0)).1 (callsIn_of_wp aA ai trivial ?_);have c4:fv B ak B W:=⟨fun _ h=>h,fun k ab=>al.below.block k ab⟩
 have gw:∀ k,B k->fO W H k:=fun k ab=>⟨al.base k ab,fun c aa e=>((al.ok c aa).lt e).1 ab⟩
 have aI:=DQ (fn:=fn) bF hle _ rfl (vs:=vs);have ad:bB X (fO W H) W ⟨B,fun id l=>((lD<=id/\∃ b,l=.blk b)\/hx<=id)/\env id=l,[]⟩ n [] env B W H ⟨ou 0 args,h⟩ { tmps:=vs.toArray++Array.replicate (fn.ntmps - vs.toArray.size) undef,defers:=[] } W:=by
  refine⟨aI.size,rfl,fun s sv xk=>?_,cB.up c4,?_,fun _ h=>h,fun _ h=>.inl h,fun id l ar=>⟨Nat.le_trans (Nat.le_of_ble_eq_true bk) (ar.1.elim (fun h=>h.1) (fun h=>Nat.le_trans (by decide) h)),ar.2,ar.1.imp (fun h=>h.2) (fun h=>h)⟩,da.refl _ _,fun i x ao=>(aM i x ao).up c4⟩
  ·obtain⟨_,v,J,U⟩:=Ar bq xk
   rw[Nat.sub_zero]at J;refine⟨v,?_,U.up c4⟩;have br:s < vs.length:=(List.getElem?_eq_some_iff.1 J).1;show(vs.toArray++_)[s]?=some v;rw[Array.getElem?_append_left (by simpa using br)]
   simpa using J
  ·have J:=al.rest
   simp only[List.map_nil,List.append_nil];exact⟨da.refl _ _,fun k ab=>ab.elim (fun h=>h.1) (fun h=>al.base k h),fun c aa=>(J.ok c aa).base fun b ai ab=>ab.elim (fun h=>((J.ok c aa).lt ai).1 h) (fun h=>((J.ok c aa).lt ai).1 (gw b h)),J.apart⟩
 refine wpIn_mono (cI _ _ _ _ _ ⟨[],env,B,W,H,⟨fun _=>rfl,fun h=>by cases h⟩,ad⟩) ?_;rintro e a w ⟨st,J,U⟩;have key:(∃ st',cA X n st st'/\∃ c sv,qc X st' res=some (c,sv)/\c=true/\Q sv st'.H)->a.defers=[]/\∃ v,(results fn a.tmps).run X.P w=.ok v w/\sK X env B H W Q v w:=by
  rintro⟨st',hw,c,sv,o7,aa,ho⟩;obtain⟨ks,env',B',cy,H',b2,bW⟩:=hw _ _ _ _ _ _ U;have fg:=b2.1 rfl;subst fg;obtain⟨v,ae,aw⟩:=Ld av bW aH o7 aa;refine⟨bW.defs,v,aw w bW.aJ,env',B',cy,H',sv,st'.H,ho,bW.sub,bW.new,bW.base,ae,bW.heap,by have:=bW.aJ; simpa using this,fun id l aF aW=>(bW.dj id l ⟨aF,aW⟩).2.1⟩
 cases e with
 | ret=>
  obtain⟨ae,v,aw,aF⟩:=key J;exact⟨ae,v,aw,v,rfl,aF⟩
 | normal=>
  obtain⟨ae,v,aw,aF⟩:=key J;exact⟨ae,v,aw,v,rfl,aF⟩
 | exit id=>exact J.elim
 | goto l=>exact J.elim
 | panic Lf=>exact J.elim
 | outgrown=>exact J.elim
end
end
section
abbrev ee:=List (Nat×Nat)
def uU(ps:ee):List e8->Option (List e8)
 | []=>some []
 | .id i :: r=>match aS ps i,uU ps r with
  | some j,some l=>some (.id j :: l)
  | _,_=>none
 | .eS g x :: r=>match uU ps r with
  | some l=>some (.eS g x :: l)
  | none=>none
def bc.dz(ps:ee):bc->Option bc
 | .ptr i o=>match aS ps i with
  | some j=>some (.ptr j o)
  | none=>none
 | .eg i cx k o=>match aS ps i with
  | some j=>some (.eg j cx k o)
  | none=>none
 | .ah i=>match aS ps i with
  | some j=>some (.ah j)
  | none=>none
 | .fn f ids=>match uU ps ids with
  | some l=>some (.fn f l)
  | none=>none
 | .cr i=>match aS ps i with
  | some j=>some (.cr j)
  | none=>none
 | .iC f i=>match aS ps i with
  | some j=>some (.iC f j)
  | none=>none
 | .gF i o=>match aS ps i with
  | some j=>some (.gF j o)
  | none=>none
 | .iQ i=>match aS ps i with
  | some j=>some (.iQ j)
  | none=>none
 | .iD i s o=>match aS ps i with
  | some j=>some (.iD j s o)
  | none=>none
 | .hJ b i=>match aS ps i with
  | some j=>some (.hJ b j)
  | none=>none
 | .val v=>some (.val v)
 | .str s=>some (.str s)
 | .dead=>some .dead
 | .fx g x o=>some (.fx g x o)
 | .par g l=>some (.par g l)
 | .a1 g l c=>some (.a1 g l c)
def xl(ps:ee):List bc->Option (List bc)
 | []=>some []
 | c :: r=>match c.dz ps,xl ps r with
  | some c',some cE=>some (c' :: cE)
  | _,_=>none
def bf.dz(ps:ee):bf->Option bf
 | .c x=>match x.dz ps with
  | some y=>some (.c y)
  | none=>none
 | .agg cs=>match xl ps cs with
  | some l=>some (.agg l)
  | none=>none
 | .arr g l=>some (.arr g l)
def rm(ps:ee):List bf->Option (List bf)
 | []=>some []
 | c :: r=>match c.dz ps,rm ps r with
  | some c',some cE=>some (c' :: cE)
  | _,_=>none
def bZ.dz(ps:ee):bZ->Option bZ
 | .a x=>match x.dz ps with
  | some y=>some (.a y)
  | none=>none
 | .cW xs=>match rm ps xs with
  | some l=>some (.cW l)
  | none=>none
 | .may _ _=>none
def cw.dz(ps:ee):cw->Option cw
 | .cells t cs=>match xl ps cs with
  | some l=>some (.cells t l)
  | none=>none
 | .row t g l c=>some (.row t g l c)
 | .hk s p=>some (.hk s p)
 | .mp gk a8 l o=>some (.mp gk a8 l o)
 | .it eZ es k Lg=>match aS ps eZ with
  | some j=>some (.it j es k Lg)
  | none=>none
 | .jK=>some .jK
 | .gT eZ=>match aS ps eZ with
  | some j=>some (.gT j)
  | none=>none
 | .ez el t g l c i d=>match aS ps d with
  | some j=>some (.ez el t g l c i j)
  | none=>none
 | .kc=>some .kc
 | .fr t g l=>some (.fr t g l)
 | .b0 t bR g l c none=>some (.b0 t bR g l c none)
 | .b0 t bR g l c (some (i,none))=>some (.b0 t bR g l c (some (i,none)))
 | .b0 t bR g l c (some (i,some d))=>match aS ps d with
  | some j=>some (.b0 t bR g l c (some (i,some j)))
  | none=>none
def qd(ps:ee):bo->Option bo
 | []=>some []
 | (i,b) :: r=>match aS ps i,b.dz ps,qd ps r with
  | some j,some b',some cE=>some ((j,b') :: cE)
  | _,_,_=>none
def ov(js:List Nat):List e8->Bool
 | []=>false
 | .id i :: r=>js.elem i || ov js r
 | .eS _ _ :: r=>ov js r
def bc.kill:bc->List Nat->bc
 | .ptr i o,js=>match js.elem i with
  | true=>.dead
  | false=>.ptr i o
 | .eg i cx j o,js=>match js.elem i with
  | true=>.dead
  | false=>.eg i cx j o
 | .ah i,js=>match js.elem i with
  | true=>.dead
  | false=>.ah i
 | .fn f ids,js=>match ov js ids with
  | true=>.dead
  | false=>.fn f ids
 | .cr i,js=>match js.elem i with
  | true=>.dead
  | false=>.cr i
 | .iC f i,js=>match js.elem i with
  | true=>.dead
  | false=>.iC f i
 | .gF i o,js=>match js.elem i with
  | true=>.dead
  | false=>.gF i o
 | .iQ i,js=>match js.elem i with
  | true=>.dead
  | false=>.iQ i
 | .iD i s o,js=>match js.elem i with
  | true=>.dead
  | false=>.iD i s o
 | .hJ b i,js=>match js.elem i with
  | true=>.dead
  | false=>.hJ b i
 | c,_=>c
def pg(js:List Nat):List bc->List bc
 | []=>[]
 | c :: r=>c.kill js :: pg js r
def bf.kill:bf->List Nat->bf
 | .c x,js=>.c (x.kill js)
 | .agg cs,js=>.agg (pg js cs)
 | .arr g l,_=>.arr g l
def sL(js:List Nat):List bf->List bf
 | []=>[]
 | c :: r=>c.kill js :: sL js r
def bZ.kill:bZ->List Nat->bZ
 | .a x,js=>.a (x.kill js)
 | .may g x,js=>.may g (x.kill js)
 | .cW xs,js=>.cW (sL js xs)
def nP(js:List Nat):cJ->cJ
 | []=>[]
 | (k,v) :: r=>(k,v.kill js) :: nP js r
def cw.kill:cw->List Nat->cw
 | .cells t cs,js=>.cells t (pg js cs)
 | .it eZ es k ps,js=>match js.elem eZ with
  | true=>.jK
  | false=>.it eZ es k ps
 | .gT eZ,js=>match js.elem eZ with
  | true=>.jK
  | false=>.gT eZ
 | .ez el t g l c i d,js=>match js.elem d with
  | true=>.kc
  | false=>.ez el t g l c i d
 | .b0 t bR g l c (some (i,some d)),js=>match js.elem d with
  | true=>.b0 t bR g l c (some (i,none))
  | false=>.b0 t bR g l c (some (i,some d))
 | b,_=>b
def h9(js ks:List Nat):bo->bo
 | []=>[]
 | (k,b) :: r=>match js.elem k with
  | true=>h9 js ks r
  | false=>(k,b.kill ks) :: h9 js ks r
def kk:ee->List Nat
 | []=>[]
 | (_,j) :: r=>j :: kk r
def Au(h:bo) (i:Nat):Bool:=match Nat.ble hx i,Nat.ble lD i,aS h i with
 | true,_,_=>true
 | _,true,some (.cells _ _)=>true
 | _,true,some (.mp _ _ _ _)=>true
 | _,_,_=>false
def iT(h:bo):ee->List Nat
 | []=>[]
 | (i,j) :: r=>match Au h i with
  | true=>iT h r
  | false=>j :: iT h r
def ow:List Nat->Bool
 | []=>true
 | x :: r=>!(r.elem x)&&ow r
def rn:ee->List Nat
 | []=>[]
 | (i,_) :: r=>i :: rn r
def Av(n:Nat):ee->Bool
 | []=>true
 | (i,j) :: r=>(Nat.ble hx i || (Nat.ble lD i&&Nat.blt j hx) || Nat.blt j n)&&Av n r
def uV(n:Nat) (ps:ee):Bool:=ow (rn ps)&&ow (kk ps)&&Av n ps
def inv:ee->Nat->Option Nat
 | [],_=>none
 | (i,j) :: r,k=>if k=j then some i else inv r k
theorem xm:∀ {l:List Nat},ow l=true->l.Nodup
 | [],_=>List.nodup_nil
 | x :: r,h=>by
  simp only[ow,Bool.and_eq_true,Bool.not_eq_true',List.elem_eq_mem,decide_eq_false_iff_not]at h;exact List.nodup_cons.2 ⟨h.1,xm h.2⟩
theorem uW{α:Type}:∀ {l:List (Nat×α)} {i:Nat} {x:α},aS l i=some x->(i,x)∈l
 | [],_,_,h=>by cases h
 | (k,v) :: r,i,x,h=>by
  rw[ct]at h
  split at h
  ·rename_i e; subst e; cases h; exact List.mem_cons_self
  ·exact List.mem_cons_of_mem _ (uW h)
theorem Lh:∀ {ps:ee} {i j:Nat},(i,j)∈ps->i∈rn ps
 | [],_,_,h=>by cases h
 | (k,l) :: r,i,j,h=>by
  rcases List.mem_cons.1 h with h | h
  ·cases h; exact List.mem_cons_self
  ·exact List.mem_cons_of_mem _ (Lh h)
theorem Aw:∀ {ps:ee} {i j:Nat},(i,j)∈ps->j∈kk ps
 | [],_,_,h=>by cases h
 | (k,l) :: r,i,j,h=>by
  rcases List.mem_cons.1 h with h | h
  ·cases h; exact List.mem_cons_self
  ·exact List.mem_cons_of_mem _ (Aw h)
theorem xn:∀ {ps:ee} {i j:Nat},(rn ps).Nodup->(i,j)∈ps->aS ps i=some j
 | [],_,_,_,h=>by cases h
 | (k,l) :: r,i,j,bk,h=>by
  have hj:=List.nodup_cons.1 bk;rw[ct]
  rcases List.mem_cons.1 h with hm | hm
  ·cases hm; rw[if_pos rfl]
  ·rw[if_neg (fun e=>hj.1 (by subst e; exact Lh hm)),xn hj.2 hm]
theorem Li:∀ {ps:ee} {i j:Nat},(kk ps).Nodup->(i,j)∈ps->inv ps j=some i
 | [],_,_,_,h=>by cases h
 | (k,l) :: r,i,j,bk,h=>by
  have hj:=List.nodup_cons.1 bk;unfold inv
  rcases List.mem_cons.1 h with hm | hm
  ·cases hm; rw[if_pos rfl]
  ·rw[if_neg (fun e=>hj.1 (by subst e; exact Aw hm)),Li hj.2 hm]
theorem Ax:∀ {ps:ee} {i j:Nat},inv ps j=some i->(i,j)∈ps
 | [],_,_,h=>by cases h
 | (k,l) :: r,i,j,h=>by
  unfold inv at h
  split at h
  ·rename_i e; subst e; cases h; exact List.mem_cons_self
  ·exact List.mem_cons_of_mem _ (Ax h)
theorem Lj{n:Nat}:∀ {ps:ee} {i j:Nat},Av n ps=true->(i,j)∈ps->hx<=i\/(lD<=i/\j < hx)\/j < n
 | [],_,_,_,h=>by cases h
 | (k,l) :: r,i,j,ar,h=>by
  simp only[Av,Bool.and_eq_true,Bool.or_eq_true]at ar
  rcases List.mem_cons.1 h with h | h
  ·cases h
   rcases ar.1 with(J | J) | J
   ·exact .inl (Nat.le_of_ble_eq_true J)
   ·exact .inr (.inl ⟨Nat.le_of_ble_eq_true J.1,dB J.2⟩)
   ·exact .inr (.inr (dB J))
  ·exact Lj ar.2 h
theorem EF{h:bo}:∀ {ps:ee} {i j:Nat},(i,j)∈ps->(iT h ps).elem j=false->Au h i=true
 | [],_,_,h,_=>by cases h
 | (k,l) :: r,i,j,hm,ab=>by
  unfold iT at ab
  rcases List.mem_cons.1 hm with hm | hm
  ·cases hm
   split at ab
   ·assumption
   ·simp at ab
  ·split at ab
   ·exact EF hm ab
   ·simp only[List.elem_eq_mem,List.mem_cons,decide_eq_false_iff_not,not_or]at ab
    exact EF hm (by simpa using ab.2)
section
variable {env env' env'':Nat->Loc} {B:Nat->Prop} {w:World} {ps:ee} {js:List Nat}
theorem e9.dz(he:∀ i j,aS ps i=some j->env' j=env i):∀ {ids l:List e8} {vs:List Value},uU ps ids=some l->(e9 env B w ids vs ↔ e9 env' B w l vs)
 | [],l,vs,h=>by cases h; exact Iff.rfl
 | .id i :: ids,l,vs,h=>by
  simp only[uU]at h
  split at h
  ·rename_i j r hi aH
   cases h;constructor
   ·rintro⟨v,cE,J,⟨b,U,aw⟩,ae⟩
    exact⟨v,cE,J,⟨b,by rw[he i j hi]; exact U,aw⟩,(e9.dz he aH).1 ae⟩
   ·rintro⟨v,cE,J,⟨b,U,aw⟩,ae⟩
    exact⟨v,cE,J,⟨b,by rw[<- he i j hi]; exact U,aw⟩,(e9.dz he aH).2 ae⟩
  ·cases h
 | .eS g x :: ids,l,vs,h=>by
  simp only[uU]at h
  split at h
  ·rename_i r aH
   cases h;constructor
   ·rintro⟨v,cE,J,U,ae⟩; exact⟨v,cE,J,U,(e9.dz he aH).1 ae⟩
   ·rintro⟨v,cE,J,U,ae⟩; exact⟨v,cE,J,U,(e9.dz he aH).2 ae⟩
  ·cases h
theorem dE.dz(he:∀ i j,aS ps i=some j->env' j=env i):∀ {c c':bc} {v:Value},c.dz ps=some c'->(dE env B w c v ↔ dE env' B w c' v)
 | .val _,_,_,h=>by cases h; exact Iff.rfl
 | .str _,_,_,h=>by cases h; exact Iff.rfl
 | .dead,_,_,h=>by cases h; exact Iff.rfl
 | .ptr i o,_,_,h=>by
  simp only[bc.dz]at h
  split at h
  ·rename_i j hi
   cases h;simp only[dE,he i j hi]
  ·cases h
 | .eg i cx k o,_,_,h=>by
  simp only[bc.dz]at h
  split at h
  ·rename_i j hi
   cases h;simp only[dE,he i j hi]
  ·cases h
 | .hJ b i,_,_,h=>by
  simp only[bc.dz]at h
  split at h
  ·rename_i j hi
   cases h;simp only[dE,he i j hi]
  ·cases h
 | .iQ i,_,_,h=>by
  simp only[bc.dz]at h
  split at h
  ·rename_i j hi
   cases h;simp only[dE,he i j hi]
  ·cases h
 | .iD i s o,_,_,h=>by
  simp only[bc.dz]at h
  split at h
  ·rename_i j hi
   cases h;simp only[dE,he i j hi]
  ·cases h
 | .gF i o,_,_,h=>by
  simp only[bc.dz]at h
  split at h
  ·rename_i j hi
   cases h;simp only[dE,he i j hi]
  ·cases h
 | .fx _ _ _,_,_,h=>by cases h; exact Iff.rfl
 | .par _ _,_,_,h=>by cases h; exact Iff.rfl
 | .ah i,_,_,h=>by
  simp only[bc.dz]at h
  split at h
  ·rename_i j hi
   cases h;simp only[dE,he i j hi]
  ·cases h
 | .a1 _ _ _,_,_,h=>by cases h; exact Iff.rfl
 | .fn f ids,_,_,h=>by
  simp only[bc.dz]at h
  split at h
  ·rename_i l ag
   cases h;simp only[dE];constructor
   ·rintro⟨vs,J,U⟩; exact⟨vs,J,(e9.dz he ag).1 U⟩
   ·rintro⟨vs,J,U⟩; exact⟨vs,J,(e9.dz he ag).2 U⟩
  ·cases h
 | .cr i,_,_,h=>by
  simp only[bc.dz]at h
  split at h
  ·rename_i j hi
   cases h;simp only[dE,he i j hi]
  ·cases h
 | .iC f i,_,_,h=>by
  simp only[bc.dz]at h
  split at h
  ·rename_i j hi
   cases h;simp only[dE,he i j hi]
  ·cases h
theorem cm.dz(he:∀ i j,aS ps i=some j->env' j=env i):∀ {c c':List bc} {v:List Value},xl ps c=some c'->(cm env B w c v ↔ cm env' B w c' v)
 | [],_,_,h=>by cases h; exact Iff.rfl
 | c :: r,_,_,h=>by
  simp only[xl]at h
  split at h
  ·rename_i c' cE J U
   cases h;constructor
   ·rintro⟨v,q,e,ae,aw⟩; exact⟨v,q,e,(dE.dz he J).1 ae,(cm.dz he U).1 aw⟩
   ·rintro⟨v,q,e,ae,aw⟩; exact⟨v,q,e,(dE.dz he J).2 ae,(cm.dz he U).2 aw⟩
  ·cases h
theorem dP.dz(he:∀ i j,aS ps i=some j->env' j=env i):∀ {c c':bf} {v:Value},c.dz ps=some c'->(dP env B w c v ↔ dP env' B w c' v)
 | .c x,_,_,h=>by
  simp only[bf.dz]at h
  split at h
  ·rename_i y aV; cases h; exact dE.dz he aV
  ·cases h
 | .agg cs,_,_,h=>by
  simp only[bf.dz]at h
  split at h
  ·rename_i l ag
   cases h;constructor
   ·rintro⟨vs,e,ae⟩; exact⟨vs,e,(cm.dz he ag).1 ae⟩
   ·rintro⟨vs,e,ae⟩; exact⟨vs,e,(cm.dz he ag).2 ae⟩
  ·cases h
 | .arr g l,_,_,h=>by cases h; exact Iff.rfl
theorem dx.dz(he:∀ i j,aS ps i=some j->env' j=env i):∀ {c c':List bf} {v:List Value},rm ps c=some c'->(dx env B w c v ↔ dx env' B w c' v)
 | [],_,_,h=>by cases h; exact Iff.rfl
 | c :: r,_,_,h=>by
  simp only[rm]at h
  split at h
  ·rename_i c' cE J U
   cases h;constructor
   ·rintro⟨v,q,e,ae,aw⟩; exact⟨v,q,e,(dP.dz he J).1 ae,(dx.dz he U).1 aw⟩
   ·rintro⟨v,q,e,ae,aw⟩; exact⟨v,q,e,(dP.dz he J).2 ae,(dx.dz he U).2 aw⟩
  ·cases h
theorem ey.dz(he:∀ i j,aS ps i=some j->env' j=env i):∀ {c c':bZ} {v:Value},c.dz ps=some c'->ey env B w c v->ey env' B w c' v
 | .a x,_,_,h,aE=>by
  simp only[bZ.dz]at h
  split at h
  ·rename_i y aV; cases h; exact(dP.dz he aV).1 aE
  ·cases h
 | .cW xs,_,_,h,⟨vs,e,aE⟩=>by
  simp only[bZ.dz]at h
  split at h
  ·rename_i l ag; cases h; exact⟨vs,e,(dx.dz he ag).1 aE⟩
  ·cases h
 | .may _ _,_,_,h,_=>by cases h
theorem ew.dz(he:∀ i j,aS ps i=some j->env' j=env i) {i j:Nat} (hi:aS ps i=some j):∀ {b b':cw} {c:bd},b.dz ps=some b'->(ew env B w i b c ↔ ew env' B w j b' c)
 | .cells t cs,_,_,h=>by
  simp only[cw.dz]at h
  split at h
  ·rename_i l ag
   cases h;simp only[ew,he i j hi];constructor
   ·rintro⟨b,vs,J,U,ae⟩; exact⟨b,vs,J,U,(cm.dz he ag).1 ae⟩
   ·rintro⟨b,vs,J,U,ae⟩; exact⟨b,vs,J,U,(cm.dz he ag).2 ae⟩
  ·cases h
 | .row t g l c,_,_,h=>by cases h; simp only[ew,he i j hi]
 | .hk s p,_,_,h=>by cases h; simp only[ew,he i j hi]
 | .mp gk a8 l o,_,_,h=>by cases h; simp only[ew,he i j hi]
 | .it eZ es k Lg,_,_,h=>by
  simp only[cw.dz]at h
  split at h
  ·rename_i jv aX
   cases h;simp only[ew,he i j hi,he eZ jv aX]
  ·cases h
 | .gT eZ,_,_,h=>by
  simp only[cw.dz]at h
  split at h
  ·rename_i jv aX
   cases h;simp only[ew,he i j hi,he eZ jv aX]
  ·cases h
 | .jK,_,_,h=>by cases h; simp only[ew,he i j hi]
 | .ez el t g l c q d,_,_,h=>by
  simp only[cw.dz]at h
  split at h
  ·rename_i jv aX
   cases h;simp only[ew,he i j hi,he d jv aX]
  ·cases h
 | .kc,_,_,h=>by cases h; simp only[ew,he i j hi]
 | .fr t g l,_,_,h=>by cases h; simp only[ew,he i j hi]
 | .b0 t bR g l c none,_,_,h=>by cases h; simp only[ew,he i j hi,w0]
 | .b0 t bR g l c (some (q,none)),_,_,h=>by
  cases h;simp only[ew,he i j hi,w0];constructor<;>rintro⟨A,k,bJ,c2,I,e,aa,J,⟨U,v,aw,_⟩,ae⟩<;>exact⟨A,k,bJ,c2,I,e,aa,J,⟨U,v,aw,fun _ h=>by cases h⟩,ae⟩
 | .b0 t bR g l c (some (q,some d)),_,_,h=>by
  simp only[cw.dz]at h
  split at h
  ·rename_i jv aX
   cases h;simp only[ew,he i j hi,w0];constructor
   ·rintro⟨A,k,bJ,c2,I,e,aa,J,⟨U,v,aw,aF⟩,ae⟩
    exact⟨A,k,bJ,c2,I,e,aa,J,⟨U,v,aw,fun fJ ax=>by cases ax; rw[he d jv aX]; exact aF d rfl⟩,ae⟩
   ·rintro⟨A,k,bJ,c2,I,e,aa,J,⟨U,v,aw,aF⟩,ae⟩
    exact⟨A,k,bJ,c2,I,e,aa,J,⟨U,v,aw,fun fJ ax=>by cases ax; rw[<- he d jv aX]; exact aF jv rfl⟩,ae⟩
  ·cases h
theorem bp.dz(he:∀ i j,aS ps i=some j->env' j=env i):∀ {h aN:bo} {H:List bd},qd ps h=some aN->bp env B w h H->bp env' B w aN H
 | [],_,_,h,cB=>by cases h; exact cB
 | (i,b) :: r,_,_,h,⟨c,H',e,J,U⟩=>by
  simp only[qd]at h
  split at h
  ·rename_i j b' cE ae aw aF
   cases h;exact⟨c,H',e,(ew.dz he ae aw).1 J,bp.dz he aF U⟩
  ·cases h
theorem e9.kill(he:∀ j,js.elem j=false->env' j=env j):∀ {ids:List e8} {vs:List Value},ov js ids=false->e9 env B w ids vs->e9 env' B w ids vs
 | [],_,_,h=>h
 | .id i :: ids,_,bk,⟨v,r,e,⟨b,ai,aE⟩,h⟩=>by
  simp only[ov,Bool.or_eq_false_iff]at bk;exact⟨v,r,e,⟨b,by rw[he i bk.1]; exact ai,aE⟩,e9.kill he bk.2 h⟩
 | .eS g x :: ids,_,bk,⟨v,r,e,J,h⟩=>⟨v,r,e,J,e9.kill he (by simpa [ov] using bk) h⟩
variable (he:∀ j,js.elem j=false->env' j=env j)
include he
theorem dE.kill:∀ {c:bc} {v:Value},dE env B w c v->dE env' B w (c.kill js) v
 | .val _,_,aa=>aa
 | .str _,_,aa=>aa
 | .dead,_,aa=>aa
 | .ptr i o,v,aa=>by
  simp only[bc.kill]
  split
  ·trivial
  ·rename_i h
   obtain⟨b,e,aE⟩:=aa;exact⟨b,by rw[he i h]; exact e,aE⟩
 | .eg i cx j o,v,aa=>by
  simp only[bc.kill]
  split
  ·trivial
  ·rename_i h
   obtain⟨b,c,n,e,aE⟩:=aa;exact⟨b,c,n,by rw[he i h]; exact e,aE⟩
 | .hJ b i,v,aa=>by
  simp only[bc.kill]
  split
  ·trivial
  ·rename_i h
   obtain⟨k,e,aE⟩:=aa;exact⟨k,fun ai=>by rw[he i h]; exact e ai,aE⟩
 | .iQ i,v,aa=>by
  simp only[bc.kill]
  split
  ·trivial
  ·rename_i h
   obtain⟨b,c,n,e,aE⟩:=aa;exact⟨b,c,n,by rw[he i h]; exact e,aE⟩
 | .iD i s o,v,aa=>by
  simp only[bc.kill]
  split
  ·trivial
  ·rename_i h
   obtain⟨b,c,n,e,aE⟩:=aa;exact⟨b,c,n,by rw[he i h]; exact e,aE⟩
 | .gF i o,v,aa=>by
  simp only[bc.kill]
  split
  ·trivial
  ·rename_i h
   obtain⟨b,c,n,e,aE⟩:=aa;exact⟨b,c,n,by rw[he i h]; exact e,aE⟩
 | .fx _ _ _,_,aa=>aa
 | .par _ _,_,aa=>aa
 | .ah i,v,aa=>by
  simp only[bc.kill]
  split
  ·trivial
  ·rename_i h
   obtain⟨A,c,n,e,aE⟩:=aa;exact⟨A,c,n,by rw[he i h]; exact e,aE⟩
 | .a1 _ _ _,_,aa=>aa
 | .fn f ids,v,aa=>by
  simp only[bc.kill]
  split
  ·trivial
  ·rename_i h
   obtain⟨vs,aE,ar⟩:=aa;exact⟨vs,aE,e9.kill he h ar⟩
 | .cr i,v,aa=>by
  simp only[bc.kill]
  split
  ·trivial
  ·rename_i h
   obtain⟨b,e,aE⟩:=aa;exact⟨b,by rw[he i h]; exact e,aE⟩
 | .iC f i,v,aa=>by
  simp only[bc.kill]
  split
  ·trivial
  ·rename_i h
   obtain⟨b,e,aE⟩:=aa;exact⟨b,by rw[he i h]; exact e,aE⟩
theorem cm.kill:∀ {c:List bc} {v:List Value},cm env B w c v->cm env' B w (pg js c) v
 | [],_,aa=>aa
 | _ :: _,_,⟨v,r,e,J,U⟩=>⟨v,r,e,dE.kill he J,cm.kill U⟩
theorem dP.kill:∀ {c:bf} {v:Value},dP env B w c v->dP env' B w (c.kill js) v
 | .c _,_,aa=>dE.kill he aa
 | .agg _,_,⟨vs,e,J⟩=>⟨vs,e,cm.kill he J⟩
 | .arr _ _,_,h=>h
theorem dx.kill:∀ {c:List bf} {v:List Value},dx env B w c v->dx env' B w (sL js c) v
 | [],_,aa=>aa
 | _ :: _,_,⟨v,r,e,J,U⟩=>⟨v,r,e,dP.kill he J,dx.kill U⟩
theorem ey.kill:∀ {c:bZ} {v:Value},ey env B w c v->ey env' B w (c.kill js) v
 | .a _,_,aa=>dP.kill he aa
 | .may _ _,_,aa=>⟨fun aM=>dP.kill he (aa.1 aM),aa.2⟩
 | .cW _,_,⟨vs,e,J⟩=>⟨vs,e,dx.kill he J⟩
theorem ew.kill{k:Nat} (ab:env' k=env k):∀ {b:cw} {c:bd},ew env B w k b c->ew env' B w k (b.kill js) c
 | .cells _ _,_,⟨b,vs,e,aa,J⟩=>⟨b,vs,by rw[ab]; exact e,aa,cm.kill he J⟩
 | .row _ _ _ _,_,⟨A,c,xs,e,aa,J⟩=>⟨A,c,xs,by rw[ab]; exact e,aa,J⟩
 | .hk _ _,_,⟨b,e,aa⟩=>⟨b,by rw[ab]; exact e,aa⟩
 | .mp _ _ _ _,_,⟨b,es,q,e,aa⟩=>⟨b,es,q,by rw[ab]; exact e,aa⟩
 | .it eZ _ _ _,_,⟨b,m,e,hm,aa⟩=>by
  simp only[cw.kill]
  split
  ·exact⟨b,_,by rw[ab]; exact e,aa⟩
  ·rename_i h
   exact⟨b,m,by rw[ab]; exact e,by rw[he eZ h]; exact hm,aa⟩
 | .gT eZ,_,⟨b,m,q,e,hm,aa⟩=>by
  simp only[cw.kill]
  split
  ·exact⟨b,_,by rw[ab]; exact e,aa⟩
  ·rename_i h
   exact⟨b,m,q,by rw[ab]; exact e,by rw[he eZ h]; exact hm,aa⟩
 | .jK,_,⟨b,o,e,aa⟩=>⟨b,o,by rw[ab]; exact e,aa⟩
 | .ez el t g l cap i d,_,⟨A,c,bJ,cj,c',m,e,aa,J,hi,U,ae⟩=>by
  simp only[cw.kill]
  split
  ·exact⟨A,c,_,_,_,_,_,by rw[ab]; exact e,aa⟩
  ·rename_i h
   exact⟨A,c,bJ,cj,c',m,by rw[ab]; exact e,aa,J,hi,by rw[he d h]; exact U,ae⟩
 | .kc,_,⟨A,c,n,t,s,m,xs,e,aa⟩=>⟨A,c,n,t,s,m,xs,by rw[ab]; exact e,aa⟩
 | .fr _ _ _,_,⟨A,c,e,J⟩=>⟨A,c,by rw[ab]; exact e,J⟩
 | .b0 _ _ _ _ _ none,_,⟨A,q,bJ,c2,I,e,aa,J,U,ae⟩=>⟨A,q,bJ,c2,I,by rw[ab]; exact e,aa,J,U,ae⟩
 | .b0 _ _ _ _ _ (some (i,none)),_,⟨A,q,bJ,c2,I,e,aa,J,⟨U,v,aw,_⟩,ae⟩=>⟨A,q,bJ,c2,I,by rw[ab]; exact e,aa,J,⟨U,v,aw,fun _ h=>by cases h⟩,ae⟩
 | .b0 _ _ _ _ _ (some (i,some d)),_,⟨A,q,bJ,c2,I,e,aa,J,⟨U,v,aw,aF⟩,ae⟩=>by
  simp only[cw.kill]
  split
  ·exact⟨A,q,bJ,c2,I,by rw[ab]; exact e,aa,J,⟨U,v,aw,fun _ h=>by cases h⟩,ae⟩
  ·rename_i h
   exact⟨A,q,bJ,c2,I,by rw[ab]; exact e,aa,J,⟨U,v,aw,fun fJ ax=>by cases ax; rw[he d h]; exact aF d rfl⟩,ae⟩
omit he in
theorem EG:∀ {l:cJ} {s:Nat} {v:bZ},aS (nP js l) s=some v->∃ u,aS l s=some u/\v=u.kill js
 | [],_,_,h=>by cases h
 | (k,u) :: l,s,v,h=>by
  unfold nP at h;rw[ct]at h ⊢
  split at h
  ·rename_i e
   cases h;rw[if_pos e];exact⟨u,rfl,rfl⟩
  ·rename_i e
   rw[if_neg e];exact EG h
omit he in
theorem bp.append:∀ {h aN:bo} {H H':List bd},bp env B w h H->bp env B w aN H'->bp env B w (h++aN) (H++H')
 | [],_,_,_,J,U=>by rw[show _=[] from J]; exact U
 | _ :: _,_,_,_,⟨c,H',e,J,U⟩,ae=>⟨c,_,by rw[e]; rfl,J,bp.append U ae⟩
end
inductive nQ (ps:ee):bo->bo->bo->Prop where
 | nil {H:bo}:nQ ps [] H H
 | cons {i j:Nat} {b b':cw} {r H H':bo} (hi:aS ps i=some j) (ai:b.dz ps=some b') (ag:aS H j=some b') (aH:nQ ps r (lE j H) H'):nQ ps ((i,b) :: r) H H'
section
variable {env env' env'':Nat->Loc} {B:Nat->Prop} {w:World} {ps:ee} {js ks:List Nat}
theorem nQ.split(he:∀ i j,aS ps i=some j->env' j=env i) {h H H':bo} (ar:nQ ps h H H'):∀ {C:List bd},bp env' B w H C->∃ eX kl,C.Perm (eX++kl)/\bp env B w h eX/\bp env' B w H' kl:=by
 induction ar with
 | nil=>intro C dt; exact⟨[],C,List.Perm.refl _,rfl,dt⟩
 | cons hi ai ag _ bx=>
  intro C dt;obtain⟨c,H2,J,U,ae⟩:=dt.erase ag;obtain⟨eX,kl,aw,aF,aW⟩:=bx ae;exact⟨c :: eX,kl,U.trans (List.Perm.cons _ aw),⟨c,eX,rfl,(ew.dz he hi ai).2 J,aF⟩,aW⟩
def rp(js:List Nat):bo->Bool
 | []=>true
 | (k,_) :: r=>!js.elem k&&rp js r
theorem bp.frame(he:∀ j,ks.elem j=false->env' j=env j) (ab:∀ k,js.elem k=false->env' k=env k):∀ {l:bo} {H:List bd},bp env B w l H->∃ H',H'.Sublist H/\bp env' B w (h9 js ks l) H'/\(rp js l=true->H'=H)
 | [],_,cB=>⟨[],by rw[show _=[] from cB]; exact List.Sublist.refl _,rfl,fun _=>(show _=[] from cB).symm⟩
 | (k,b) :: l,_,⟨c,H',e,J,U⟩=>by
  obtain⟨H2,al,ae,aw⟩:=bp.frame he ab U;subst e;unfold h9
  split
  ·rename_i h
   exact⟨H2,al.cons _,ae,fun e=>by unfold rp at e; rw[h]at e; cases e⟩
  ·rename_i h
   exact⟨c :: H2,al.cons_cons _,⟨c,H2,rfl,ew.kill he (ab k h) J,ae⟩,fun e=>by unfold rp at e; rw[Bool.and_eq_true]at e; rw[aw e.2]⟩
end
def l0(X:bl) (L:cJ):List Operand->Option (Bool×List bf)
 | []=>some (true,[])
 | u :: r=>match bj X L u,l0 X L r with
  | some (g,x),some (c,l)=>some (g&&c,x :: l)
  | _,_=>none
theorem sM{X:bl} {R:Nat->Prop} {W:World} {aD:e5} {n:Nat} {ks:List Nat} {env:Nat->Loc} {B:Nat->Prop} {ak:World} {H:List bd} {st:aK} {a:Act} {w:World} (h:bB X R W aD n ks env B ak H st a w) :
  ∀ {us:List Operand} {c:Bool} {xs:List bf},l0 X st.L us=some (c,xs)->c=true->∃ vs,iA (gi a) us=some vs/\dx env B ak xs vs
 | [],c,xs,hu,_=>by cases hu; exact⟨[],rfl,rfl⟩
 | u :: us,c,xs,hu,aa=>by
  simp only[l0]at hu
  split at hu
  ·rename_i g x c' l J U
   cases hu;simp only[Bool.and_eq_true]at aa;obtain⟨v,ae,aw⟩:=h.aB J aa.1;obtain⟨vs,aF,aW⟩:=sM h U aa.2;refine⟨v :: vs,?_,v,vs,rfl,aw,aW⟩;unfold iA;rw[ae,aF]
  ·cases hu
theorem bB.called{X:bl} {R:Nat->Prop} {W:World} {aD:e5} {n d:Nat} {ks:List Nat} {env:Nat->Loc} {B:Nat->Prop} {ak:World} {H:List bd} {st:aK} {a aQ:Act} {w w':World} {ps:ee} {h H1:bo} {Q:bZ->bo->Prop} {v:Value} (ad:bB X R W aD n ks env B ak H st a w)
  (jx:uV n ps=true) {eX kl:List bd} (ox:H.Perm (eX++kl)) (Ay:bp (fun i=>match aS ps i with | some j=>env j | none=>.no) B ak h eX) (TE:bp env B ak H1 kl)
  (nj:sK X (fun i=>match aS ps i with | some j=>env j | none=>.no) B eX w Q v w') (aI:c9 n (jL ks aD) ((d,v) :: gi a) aQ) :
  ∃ sv aN,Q sv aN/\∀ hZ iU,sv.dz ps=some hZ->qd ps aN=some iU->∃ env' B' cy H',bB X R W aD n ks env' B' cy H' ⟨(d,hZ) :: nP (iT h ps) st.L,iU++h9 (iT h ps) (iT h ps) H1⟩ aQ w'/\(∀ k,B k->B' k)/\da (fun k=>R k\/B k) ak cy/\(rp (iT h ps) H1=true->∀ c∈kl,c∈H'):=by
 obtain⟨env',B',cy,H',sv,aN,ho,gw,hB,k7,TF,TG,dU,xo⟩:=nj;refine⟨sv,aN,ho,fun hZ iU xk cB=>?_⟩;simp only[uV,Bool.and_eq_true]at jx;obtain⟨⟨TH,EH⟩,TI⟩:=jx;have aA:=xm TH;have iB:=xm EH;have al:bA (fun k=>R k\/B k) ak (eX++(kl++ks.map c7)) w:=by
  have:=ad.aJ.perm (ox.append_right (ks.map c7))
  rw[List.append_assoc]at this;exact this
 have jP:=List.pairwise_append.1 al.apart;have ia:∀ k,R k\/B k->fO w eX k:=fun k ab=>⟨al.base k ab,fun c aa e=>((al.ok c (List.mem_append_left _ aa)).lt e).1 ab⟩
 have EI:∀ c∈kl++ks.map c7,∀ b,c.has b->fO w eX b/\¬ (R b\/B b):=fun c aa b ai=>by
  have J:=(al.ok c (List.mem_append_right _ aa)).lt ai;exact⟨⟨J.2,fun c' eT e=>jP.2.2 c' eT c aa b e ai⟩,J.1⟩
 have k8:∀ k,fO w eX k->w'.heap[k]?=w.heap[k]?:=fun k ab=>(dU.below.block k (.inl ab)).trans (k7.block k ab)
 have c4:fv B ak B' cy:=⟨gw,fun k ab=>(k7.block k (ia k (.inr ab))).trans (al.below.block k (.inr ab))⟩
 let a7:Nat->Loc:=fun j=>match inv ps j with | some i=>env' i | none=>env j
 have lG:∀ i j,aS ps i=some j->a7 j=env' i:=fun i j lH=>by
  show(match inv ps j with | some i=>env' i | none=>env j)=_;rw[Li iB (uW lH)]
 have TJ:∀ {l:bo} {C:List bd} {sN:Nat->Loc} {b3:Nat->Prop} {xp:World} {i:Nat} {t:TypeId} {cs:List bc},bp sN b3 xp l C->aS l i=some (.cells t cs)->∃ b,sN i=.blk b:=by
  intro l C sN b3 xp i t cs ag hi;obtain⟨c,K,⟨b,vs,J,_⟩,_⟩:=ag.fG hi;exact⟨b,J⟩
 have TK:∀ {l:bo} {C:List bd} {sN:Nat->Loc} {b3:Nat->Prop} {xp:World} {i:Nat} {gk a8:aR} {q:List (gk.D×a8.D)} {o:Option (List MapEntry×Nat)},bp sN b3 xp l C->aS l i=some (.mp gk a8 q o)->∃ b,sN i=.blk b:=by
  intro l C sN b3 xp i gk a8 q o ag hi;obtain⟨c,K,⟨b,_,_,J,_⟩,_⟩:=ag.fG hi;exact⟨b,J⟩
 have k9:∀ j,(iT h ps).elem j=false->a7 j=env j:=fun j aX=>by
  show(match inv ps j with | some i=>env' i | none=>env j)=_;cases hi:inv ps j with
  | none=>rfl
  | some i=>
   have hm:=Ax hi;have kA:=EF hm aX;have lH:=xn aA hm;unfold Au at kA
   split at kA
   ·rename_i ai
    show env' i=env j;exact xo i (env j) (.inr (Nat.le_of_ble_eq_true ai)) (by simp only[lH])
   ·rename_i t cs ai ag _
    obtain⟨b,ht⟩:=TJ Ay ag;have J:=xo i (.blk b) (.inl ⟨Nat.le_of_ble_eq_true ai,b,rfl⟩) ht;rw[lH]at ht;show env' i=env j;rw[J];exact ht.symm
   ·rename_i gk a8 q o ai ag _
    obtain⟨b,ht⟩:=TK Ay ag;have J:=xo i (.blk b) (.inl ⟨Nat.le_of_ble_eq_true ai,b,rfl⟩) ht;rw[lH]at ht;show env' i=env j;rw[J];exact ht.symm
   ·cases kA
 have uX:∀ k,(kk ps).elem k=false->a7 k=env k:=fun k ab=>by
  show(match inv ps k with | some i=>env' i | none=>env k)=_;cases hi:inv ps k with
  | none=>rfl
  | some i=>
   have:=Aw (Ax hi)
   simp only[List.elem_eq_mem,decide_eq_false_iff_not]at ab;exact absurd this ab
 obtain⟨rq,zP,TL,TM⟩:=bp.frame (js:=iT h ps) (ks:=iT h ps) k9 k9 (TE.up c4);have jz:da (fun k=>R k\/B k) ak cy:=⟨k7.os.trans al.below.os,k7.tape.trans al.below.tape,k7.output.trans al.below.output,Nat.le_trans al.below.size k7.size,fun k ab=>(k7.block k (ia k ab)).trans (al.below.block k ab)⟩
 refine⟨a7,B',cy,H'++rq,⟨aI.size,aI.defs,fun s u hu=>?_,(bp.dz lG cB TG).append TL,?_,fun k ab=>gw k (ad.sub k ab),fun k ab=>?_,fun id b ai=>?_,?_,fun i x ao=>(ad.dT i x ao).up c4⟩,gw,jz,fun e c aa=>List.mem_append_right _ (by rw[TM e]; exact aa)⟩
 ·rw[ct]at hu
  split at hu
  ·rename_i e; subst e; cases hu; exact⟨v,aI.this,ey.dz lG xk TF⟩
  ·rename_i e
   obtain⟨hz,hA,rfl⟩:=EG hu;obtain⟨eO,ae,aw⟩:=ad.has s hz hA;exact⟨eO,aI.other e ae,ey.kill k9 (aw.up c4)⟩
 ·have qe:(rq++ks.map c7).Sublist (kl++ks.map c7):=zP.append_right _
  rw[List.append_assoc];refine⟨⟨dU.below.os,dU.below.tape,dU.below.output,dU.below.size,fun k ab=>dU.below.block k (ab.imp (fun h=>ia k (.inl h)) id)⟩,fun k ab=>dU.base k (ab.imp (fun h=>ia k (.inl h)) id),fun c aa=>?_,List.pairwise_append.2 ⟨dU.apart,jP.2.1.sublist qe,fun c aa d ax b ai dN=>?_⟩⟩
  ·rcases List.mem_append.1 aa with aa | aa
   ·exact(dU.ok c aa).base fun b ai ab=>((dU.ok c aa).lt ai).1 (ab.imp (fun h=>ia b (.inl h)) id)
   ·have eT:=qe.subset aa
    have gI:=al.ok c (List.mem_append_right _ eT);refine(gI.dY (w':=w') fun b ai=>k8 b (EI c eT b ai).1).base fun b ai ab=>?_
    obtain⟨aF,aW⟩:=EI c eT b ai
    rcases ab with ab | ab
    ·exact aW (.inl ab)
    ·rcases hB b ab with bC | bC
     ·exact aW (.inr bC)
     ·exact bC.1 aF
  ·exact((dU.ok c aa).lt ai).1 (.inl (EI d (qe.subset ax) b dN).1)
 ·rcases hB k ab with aF | aF
  ·exact(ad.new k aF).imp_right fun aN=>⟨aN.1,aN.2.dY ((k7.block k (ia k (.inr aF))).trans (al.below.block k (.inr aF)))⟩
  ·exact .inr ⟨fun fV=>aF.1 (ia k (.inl fV)),aF.2⟩
 ·obtain⟨aF,aW,db⟩:=ad.dj id b ai
  refine⟨aF,?_,db⟩;show(match inv ps id with | some i=>env' i | none=>env id)=_;cases hi:inv ps id with
  | none=>exact aW
  | some i=>
   have hm:=Ax hi;have lH:=xn aA hm
   rcases Lj TI hm with bC | ⟨bC,hN⟩ | bC
   ·exact xo i b (.inr bC) (by simp only[lH]; exact aW)
   ·rcases db with db | db
    ·exact xo i b (.inl ⟨bC,db⟩) (by simp only[lH]; exact aW)
    ·omega
   ·omega
 ·exact ad.base.trans ⟨k7.os.trans al.below.os,k7.tape.trans al.below.tape,k7.output.trans al.below.output,Nat.le_trans al.below.size k7.size,fun k ab=>(k7.block k (ia k (.inl ab))).trans (al.below.block k (.inl ab))⟩
section
variable {X:bl} {M:Bool} {n:Nat} {r:Option Nat} {st:aK} {Q:Exit->aK->Prop} {ops rest:List Oper} {o:Oper} {d:Nat}
theorem TN{f:FuncId} {fn:Func} {xs:List Operand} {fc:Array TypeId} {args nR:List bf} {h H1:bo} {xq:bZ->bo->Prop} {c:Bool} (ps:ee) (dt:AC X f args h xq) (az:o.op=.call { callee:=.value (.func f),args:=xs.toArray,argTypes:=fc }) (bb:o.guard=none/\o.dst=some d) (ax:Nat.blt d n=true)
  (fP : X.P.funcs[f]? = some fn) (bk : (fn.name == "runtime.NumGoroutine") = false) (ai : fn.body.isNone = false) (l1 : l0 X st.L xs = some (c, nR)) (aa : c = true) (ru : rm ps args = some nR) (jx : uV n ps = true) (iG : nQ ps h st.H H1)
  (dc:∀ sv aN,xq sv aN->∃ hZ iU,sv.dz ps=some hZ/\qd ps aN=some iU/\jy X M n r ops rest ⟨(d,hZ) :: nP (iT h ps) st.L,iU++h9 (iT h ps) (iT h ps) H1⟩ Q):jy X M n r ops (o :: rest) st Q:=by
 rintro R W aD a w ⟨ks,env,B,ak,H,b2,ad⟩;obtain⟨vs,J,U⟩:=sM ad l1 aa;have he:∀ i j,aS ps i=some j->env j=(fun i=>match aS ps i with | some j=>env j | none=>Loc.no) i:=fun i j lH=>by simp only[lH]
 obtain⟨eX,kl,ae,aw,aF⟩:=nQ.split (env:=fun i=>match aS ps i with | some j=>env j | none=>Loc.no) he iG ad.heap;have al:bA B ak eX w:=by
  have aW:=(ad.aJ.perm (ae.append_right (ks.map c7))).er (H':=eX) (by rw[List.append_assoc]; exact List.sublist_append_left _ _);exact⟨⟨aW.below.os,aW.below.tape,aW.below.output,aW.below.size,fun k ab=>aW.below.block k (.inr ab)⟩,fun k ab=>aW.base k (.inr ab),fun c aa=>(aW.ok c aa).base fun b ai ab=>((aW.ok c aa).lt ai).1 (.inr ab),aW.apart⟩
 refine q0 (J5 ad.sym az bb ax fP bk ai J (dt B ak _ vs eX w (fun i x ao=>ad.dT i x ao) ((dx.dz he ru).2 U) aw al) fun v aQ w' nj aI=>?_);obtain⟨sv,aN,ho,xr⟩:=ad.called jx ae aw aF nj aI;obtain⟨hZ,iU,aC,a7,EJ⟩:=dc sv aN ho;obtain⟨env',B',cy,H',bW,_,_,_⟩:=xr hZ iU aC a7;exact EJ R W aD aQ w' ⟨ks,env',B',cy,H',b2,bW⟩
end
end
section
def nS:List e8->List bf
 | []=>[]
 | .id i :: r=>.c (.ptr i 0) :: nS r
 | .eS g x :: r=>.c (.fx g x 0) :: nS r
section
variable {X:bl} {M:Bool} {n:Nat} {r:Option Nat} {st:aK} {Q:Exit->aK->Prop} {ops rest:List Oper} {o:Oper} {d:Nat}
theorem xt{env:Nat->Loc} {B:Nat->Prop} {w:World}:∀ {ids:List e8} {vs:List Value},e9 env B w ids vs->dx env B w (nS ids) vs
 | [],_,h=>h
 | .id _ :: ids,_,⟨v,r,e,J,h⟩=>⟨v,r,e,J,xt h⟩
 | .eS _ _ :: ids,_,⟨v,r,e,⟨b,o,J,U⟩,h⟩=>⟨v,r,e,⟨b,o,by rw[J]; rfl,U⟩,xt h⟩
theorem dx.append{env:Nat->Loc} {B:Nat->Prop} {w:World}:∀ {xs bJ:List bf} {vs us:List Value},dx env B w xs vs->dx env B w bJ us->dx env B w (xs++bJ) (vs++us)
 | [],_,_,_,h,aN=>by rw[show _=[] from h]; exact aN
 | _ :: _,_,_,_,⟨v,r,e,J,U⟩,aN=>⟨v,_,by rw[e]; rfl,J,dx.append U aN⟩
theorem Lk{f:FuncId} {fn:Func} {s:Nat} {ids:List e8} {xs:List Operand} {fc:Array TypeId} {args nR:List bf} {h H1:bo} {xq:bZ->bo->Prop} {c:Bool} (ps:ee) (dt:AC X f args h xq) (az:o.op=.call { callee:=.value (.tmp s),args:=xs.toArray,argTypes:=fc }) (bb:o.guard=none/\o.dst=some d) (ax:Nat.blt d n=true)
  (al : aS st.L s = some (.c (.fn f ids))) (fP : X.P.funcs[f]? = some fn) (bk : (fn.name == "runtime.NumGoroutine") = false) (ai : fn.body.isNone = false) (l1 : l0 X st.L xs = some (c, nR)) (aa : c = true) (ru : rm ps args = some (nR ++ nS ids)) (jx : uV n ps = true) (iG : nQ ps h st.H H1)
  (dc:∀ sv aN,xq sv aN->∃ hZ iU,sv.dz ps=some hZ/\qd ps aN=some iU/\jy X M n r ops rest ⟨(d,hZ) :: nP (iT h ps) st.L,iU++h9 (iT h ps) (iT h ps) H1⟩ Q):jy X M n r ops (o :: rest) st Q:=by
 rintro R W aD a w ⟨ks,env,B,ak,H,b2,ad⟩;obtain⟨vs,J,U⟩:=sM ad l1 aa;obtain⟨uY,rv,lb,rfl,jJ⟩:=ad.has _ _ al;have he:∀ i j,aS ps i=some j->env j=(fun i=>match aS ps i with | some j=>env j | none=>Loc.no) i:=fun i j lH=>by simp only[lH]
 obtain⟨eX,kl,ae,aw,aF⟩:=nQ.split (env:=fun i=>match aS ps i with | some j=>env j | none=>Loc.no) he iG ad.heap;have hs:bA B ak eX w:=by
  have aW:=(ad.aJ.perm (ae.append_right (ks.map c7))).er (H':=eX) (by rw[List.append_assoc]; exact List.sublist_append_left _ _);exact⟨⟨aW.below.os,aW.below.tape,aW.below.output,aW.below.size,fun k ab=>aW.below.block k (.inr ab)⟩,fun k ab=>aW.base k (.inr ab),fun c aa=>(aW.ok c aa).base fun b ai ab=>((aW.ok c aa).lt ai).1 (.inr ab),aW.apart⟩
 refine q0 (Kk ad.sym az bb ax (hK rv) fP bk ai J (dt B ak _ (vs++lb) eX w (fun i x ao=>ad.dT i x ao) ((dx.dz he ru).2 (U.append (xt jJ))) aw hs) fun v aQ w' nj aI=>?_);obtain⟨sv,aN,ho,xr⟩:=ad.called jx ae aw aF nj aI;obtain⟨hZ,iU,aC,a7,EJ⟩:=dc sv aN ho;obtain⟨env',B',cy,H',bW,_,_,_⟩:=xr hZ iU aC a7;exact EJ R W aD aQ w' ⟨ks,env',B',cy,H',b2,bW⟩
theorem Ll:∀ L:cJ,nP [] L=L:=by
 have J:∀ c:bc,c.kill []=c:=by
  have aP:∀ ids:List e8,ov [] ids=false:=by
   intro ids
   induction ids with
   | nil=>rfl
   | cons i r bx=>cases i<;>simp[ov,bx]
  intro c;cases c with
  | fn f ids=>simp only[bc.kill,aP]
  | _=>rfl
 have U:∀ cs:List bc,pg [] cs=cs:=by
  intro cs
  induction cs with
  | nil=>rfl
  | cons c r bx=>simp only[pg,J,bx]
 have ae:∀ x:bf,x.kill []=x:=by
  intro x;cases x with
  | c x=>simp only[bf.kill,J]
  | agg cs=>simp only[bf.kill,U]
  | arr g l=>rfl
 have aw:∀ xs:List bf,sL [] xs=xs:=by
  intro xs
  induction xs with
  | nil=>rfl
  | cons c r bx=>simp only[sL,ae,bx]
 have aF:∀ x:bZ,x.kill []=x:=by
  intro x;cases x with
  | a x=>simp only[bZ.kill,ae]
  | may g x=>simp only[bZ.kill,ae]
  | cW xs=>simp only[bZ.kill,aw]
 intro L
 induction L with
 | nil=>rfl
 | cons p r bx=>obtain⟨k,v⟩:=p; simp only[nP,aF,bx]
theorem Lm:∀ H:bo,h9 [] [] H=H:=by
 have J:∀ c:bc,c.kill []=c:=by
  have aP:∀ ids:List e8,ov [] ids=false:=by
   intro ids
   induction ids with
   | nil=>rfl
   | cons i r bx=>cases i<;>simp[ov,bx]
  intro c;cases c with
  | fn f ids=>simp only[bc.kill,aP]
  | _=>rfl
 have U:∀ cs:List bc,pg [] cs=cs:=by
  intro cs
  induction cs with
  | nil=>rfl
  | cons c r bx=>simp only[pg,J,bx]
 intro H
 induction H with
 | nil=>rfl
 | cons p r bx=>
  obtain⟨k,b⟩:=p;cases b with
  | cells t cs=>simp[h9,cw.kill,U,bx]
  | row t g l c=>simp[h9,cw.kill,bx]
  | hk s p=>simp[h9,cw.kill,bx]
  | mp gk a8 l o=>simp[h9,cw.kill,bx]
  | it eZ es k ps=>simp[h9,cw.kill,bx]
  | gT eZ=>simp[h9,cw.kill,bx]
  | jK=>simp[h9,cw.kill,bx]
  | ez el t g l c i d=>simp[h9,cw.kill,bx]
  | kc=>simp[h9,cw.kill,bx]
  | fr t g l=>simp[h9,cw.kill,bx]
  | b0 t bR g l c h=>rcases h with _ | ⟨i,_ | d⟩<;>simp[h9,cw.kill,bx]
theorem TO{f:FuncId} {fn:Func} {xs:List Operand} {fc:Array TypeId} {args nR:List bf} {V:bZ} {c:Bool} (dt:AC X f args [] (fun sv h=>sv=V/\h=[])) (az:o.op=.call { callee:=.value (.func f),args:=xs.toArray,argTypes:=fc }) (bb:o.guard=none/\o.dst=some d) (ax:Nat.blt d n=true)
  (fP : X.P.funcs[f]? = some fn) (bk : (fn.name == "runtime.NumGoroutine") = false) (ai : fn.body.isNone = false) (l1 : l0 X st.L xs = some (c, nR)) (aa : c = true) (ru : rm [] args = some nR) (ir : V.dz [] = some V)
  (dc:jy X M n r ops rest ⟨(d,V) :: st.L,st.H⟩ Q):jy X M n r ops (o :: rest) st Q:=
 TN (n:=n) [] dt az bb ax fP bk ai l1 aa ru rfl nQ.nil fun sv aN ⟨J,U⟩=>by
  subst J; subst U;refine⟨sv,[],ir,rfl,?_⟩;show jy X M n r ops rest ⟨(d,sv) :: nP [] st.L,[]++h9 [] [] st.H⟩ Q;rw[Ll,Lm];exact dc
end
end
section
section
variable {P:Program} {ops:Array Oper} {Q:Exit->Act->World->Prop} {S:Nat->Array Bool->World->Prop}
def gJ(P:Program) (ops:Array Oper) (Q:Exit->Act->World->Prop) (S:Nat->Array Bool->World->Prop):Nat->Array Bool->Act->World->Prop
 | 0,listed,a,w=>Region.ready .any ops listed=[]/\Q .normal a w
 | fuel+1,listed,a,w=>(Region.ready .any ops listed=[]->Q .normal a w)/\∀ i∈Region.ready .any ops listed,∃ o,ops[i]?=some o/\e3 P ops o (fun aQ w'=>S i listed w'/\gJ P ops Q S fuel (listed.setIfInBounds i true) aQ w') a w
theorem wR.mono{o:Oper} {a:Act} {w:World} {K xu:Value->World->Prop} (h:wR P o a w K) (ab:∀ v w,K v w->xu v w):wR P o a w xu:=by
 rcases h with⟨v,w',J,U⟩ | ⟨w',J,U⟩ | ⟨f,args,b7,J,U⟩
 ·exact .inl ⟨v,w',J,ab _ _ U⟩
 ·exact .inr (.inl ⟨w',J,ab _ _ U⟩)
 ·exact .inr (.inr ⟨f,args,b7,J,Calls.mono U fun e w' ⟨v,he,aE⟩=>⟨v,he,ab _ _ aE⟩⟩)
theorem e3.mono{o:Oper} {a:Act} {w:World} {K xu:Act->World->Prop} (h:e3 P ops o K a w) (ab:∀ a w,K a w->xu a w):e3 P ops o xu a w:=by
 rcases h with⟨J,U⟩ | ⟨J,U⟩
 ·exact .inl ⟨J,U.mono fun _ _=>ab _ _⟩
 ·exact .inr ⟨J,ab _ _ U⟩
theorem gJ.any(r:Option Nat):∀ (fuel:Nat) (listed:Array Bool) (a:Act) (w:World),gJ P ops Q S fuel listed a w->wpAnyIn (WF r) 0 P .any ops Q fuel listed a w
 | 0,_,_,_,h=>h
 | fuel+1,_,_,_,h=>⟨h.1,fun i hi=>by
  obtain⟨o,bb,ao⟩:=h.2 i hi;unfold wpOpIn;simp only[bb];exact e3.fenced (ao.mono fun aQ w' aN=>gJ.any r fuel _ aQ w' aN.2)⟩
theorem e3.TP{T:World->Prop} {h0 fs:Oper} {v:Value} (kX:h0.apart ops fs=true) (TQ:∀ cs b,h0.op≠.select cs b) (rk:∀ cs b,fs.op≠.select cs b) {K:Act->World->Prop} {a:Act} {w:World} (aV:YieldsIf P ops T h0 v a) (h:e3 P ops fs K (a.put h0.dst v) w) :
  e3 P ops fs (fun aQ w'=>YieldsIf P ops T h0 v aQ/\K (aQ.put h0.dst v) w') a w:=by
 obtain⟨J,U,ae⟩:=Oper.apart_spec kX;have dY:∀ u,YieldsIf P ops T h0 v (a.put fs.dst u):=fun u=>aV.of_same (execOp_put h0 TQ a fs.dst u ae) (wanted_put h0 a fs.dst u ae)
 have Ln:=wanted_put fs a h0.dst v J;have dA:=execOp_put fs rk a h0.dst v J;have uZ:∀ u,(a.put fs.dst u).put h0.dst v=(a.put h0.dst v).put fs.dst u:=fun u=>(Act.put_comm a v u U).symm
 rcases h with⟨hw,h⟩ | ⟨hw,h⟩
 ·refine .inl ⟨by rw[<- Ln]; exact hw,?_⟩
  unfold wR at h ⊢;rw[dA]at h
  rcases h with⟨u,w',g1,g2⟩ | ⟨w',g1,g2⟩ | ⟨f,args,b7,g1,g2⟩
  ·exact .inl ⟨u,w',g1,dY u,by rw[uZ]; exact g2⟩
  ·exact .inr (.inl ⟨w',g1,dY _,by rw[uZ]; exact g2⟩)
  ·exact .inr (.inr ⟨f,args,b7,g1,Calls.mono g2 fun e w' ⟨u,he,hu⟩=>⟨u,he,dY u,by rw[uZ]; exact hu⟩⟩)
 ·exact .inr ⟨by rw[<- Ln]; exact hw,dY _,by rw[uZ]; exact h⟩
theorem Lo{T:World->Prop} {o:Oper} {v:Value} {a:Act} (aV:YieldsIf P ops T o v a) {K:Act->World->Prop} {w:World} (ca:T w) (h:K (a.put o.dst v) w):e3 P ops o K a w:=by
 rcases aV with⟨hw,aE⟩ | ⟨hw,rfl⟩
 ·exact .inl ⟨hw,.inl ⟨v,w,aE w ca,h⟩⟩
 ·exact .inr ⟨hw,h⟩
def EK(ops:Array Oper) (i:Nat) (D:List Nat) (j:Nat):Prop:=∃ fs e,ops[j]?=some fs/\e∈fs.after/\Region.binds .any e=true/\(e.on=i\/e.on∈D)
theorem gJ.first{i:Nat} {h0:Oper} {v:Value} {T:World->Prop} (hi:ops[i]?=some h0) (Lp:∀ (j:Nat) (o:Oper) cs b,ops[j]?=some o->o.op≠.select cs b) (D:List Nat) (TR:∀ j∈D,EK ops i D j) (xv:∀ j l w,S j (l.setIfInBounds i true) w->S j l w):∀ (fuel:Nat) (listed:Array Bool) (a:Act) (w:World),
   (∀ j∈D,listed.getD j true=false)->(∀ j fs,ops[j]?=some fs->j≠i->listed.getD j true=false->(∀ e∈fs.after,Region.binds .any e=true->e.on≠i)->h0.apart ops fs=true/\(j∈D\/∀ l w,(∀ d∈D,l.getD d true=false)->S j l w->T w)) ->
   i∈Region.ready .any ops listed->YieldsIf P ops T h0 v a->T w ->
   gJ P ops Q S fuel (listed.setIfInBounds i true) (a.put h0.dst v) w->(∀ l w',T w'->S i l w')->gJ P ops Q S (fuel+1) listed a w:=by
 intro fuel
 induction fuel with
 | zero=>
  intro listed a w _ _ aH aV ca H Az;refine⟨fun h=>(by rw[h]at aH; cases aH),fun j aX=>?_⟩
  by_cases jQ:j=i
  ·subst jQ; exact⟨h0,hi,Lo aV ca ⟨Az _ w ca,H⟩⟩
  ·have:=ready_mono aX jQ
   rw[H.1]at this;cases this
 | succ fuel bx=>
  intro listed a w sO ry aH aV ca H Az;refine⟨fun h=>(by rw[h]at aH; cases aH),fun j aX=>?_⟩
  by_cases jQ:j=i
  ·subst jQ; exact⟨h0,hi,Lo aV ca ⟨Az _ w ca,H⟩⟩
  ·obtain⟨TS,TT,dO⟩:=H.2 j (ready_mono aX jQ)
   obtain⟨nT,fs,ki,nf⟩:=mem_ready.1 aX;have TU:TS=fs:=Option.some.inj (TT.symm.trans ki);rw[TU]at dO;have Lq:∀ e∈fs.after,Region.binds .any e=true->e.on≠i:=fun e he ai heq=>by
    have dF:=nf e he ai;have ph:=(mem_ready.1 aH).1;rw[heq]at dF
    rcases Nat.lt_or_ge i listed.size with aN | aN
    ·simp[aN]at ph dF; rw[ph]at dF; cases dF
    ·simp[Array.getElem?_eq_none aN]at dF
   have Lr:j ∉ D:=fun TV=>by
    obtain⟨ok,e,ab,he,ai,xw⟩:=TR j TV
    have:ok=fs:=Option.some.inj (ab.symm.trans ki)
    subst this;have dF:=nf e he ai
    rcases xw with xw | xw
    ·exact Lq e he ai xw
    ·have ph:=sO _ xw
     rcases Nat.lt_or_ge e.on listed.size with aN | aN
     ·simp[aN]at ph dF; rw[ph]at dF; cases dF
     ·simp[Array.getElem?_eq_none aN]at dF
   obtain⟨kX,TW⟩:=ry j fs ki jQ nT Lq;have l2:=e3.TP kX (fun cs b=>Lp i h0 cs b hi) (fun cs b=>Lp j fs cs b ki) aV dO;refine⟨fs,ki,l2.mono fun aQ w' aw=>⟨xv j listed w' aw.2.1,?_⟩⟩;have TX:=(TW.resolve_left Lr) listed w' sO (xv j listed w' aw.2.1);refine bx (listed.setIfInBounds j true) aQ w' (fun k ab=>?_) (fun k ok ab oy Ls ib=>?_) (ready_mono aH (Ne.symm jQ)) aw.1 TX ?_ Az
   ·rw[getD_set_ne true (fun e=>Lr (by rw[e]; exact ab))]
    exact sO k ab
   ·refine ry k ok ab oy ?_ ib
    by_cases AA:j=k
    ·subst AA; exact nT
    ·rw[getD_set_ne true AA]at Ls; exact Ls
   ·rw[Array.setIfInBounds_comm _ _ jQ]
    exact aw.2.2
end
def xx:Op->Bool
 | .move _=>true
 | .assign _=>true
 | .pick _ _ _=>true
 | .unOp _ _ _=>true
 | .binOp _ _ _ _ _=>true
 | .load _ _=>true
 | .fieldAddr _ _ _=>true
 | .indexAddr _ _ _=>true
 | .slice _ _ _ _ _=>true
 | .convert _ _ _=>true
 | .build _ _=>true
 | .makeFunc _ _ _=>true
 | .nilCheck _=>true
 | .extract _ _=>true
 | .call ⟨.builtin .len,_,_⟩=>true
 | .call ⟨.builtin .cap,_,_⟩=>true
 | .call ⟨.builtin .min,_,_⟩=>true
 | .call ⟨.builtin .max,_,_⟩=>true
 | _=>false
def u0(ops:Array Oper) (i:Nat) (D:List Nat) (j:Nat):Bool:=match ops[j]? with
 | some o=>o.after.any fun e=>Region.binds .any e&&(e.on == i || D.elem e.on)
 | none=>false
def ya(ops:Array Oper) (i:Nat):List Nat:=(List.range ops.size).foldl (fun D j=>match u0 ops i D j with
 | true=>j :: D
 | false=>D) []
def qf:Nat:=1000000
def EL(E:List Nat) (listed:Array Bool):Bool:=E.any fun e=>Nat.ble qf e&&listed.getD (e - qf) true
def fz(E:List Nat) (listed:Array Bool) (j:Nat):Bool:=E.elem j&&!EL E listed
def AB(E D:List Nat):Bool:=E.all fun e=>!Nat.ble qf e || D.elem (e - qf)
def AD(E:List Nat) (i:Nat):Bool:=!E.elem (i+qf)
theorem Lt{E:List Nat} {l:Array Bool} {j:Nat} (h:fz E l j=true):E.elem j=true:=by
 unfold fz at h;rw[Bool.and_eq_true]at h;exact h.1
theorem Lu{E:List Nat} {l:Array Bool} {i j:Nat} (hi:AD E i=true) (h:fz E l j=true):fz E (l.setIfInBounds i true) j=true:=by
 unfold fz EL at h ⊢;rw[Bool.and_eq_true]at h ⊢;refine⟨h.1,?_⟩;have U:=h.2;rw[Bool.not_eq_true',List.any_eq_false]at U ⊢;intro e he;have ae:=U e he
 by_cases ai:Nat.ble qf e=true
 ·rw[ai,Bool.true_and]at ae ⊢
  have cL:i≠e - qf:=fun cB=>by
   have hle:=Nat.le_of_ble_eq_true ai
   have:i+qf=e:=by omega
   unfold AD at hi;rw[this,List.elem_eq_true_of_mem he]at hi;cases hi
  rwa [getD_set_ne true cL]
 ·rw[(by simpa only[Bool.not_eq_true] using ai:Nat.ble qf e=false),Bool.false_and]
  simp
theorem TY{E D:List Nat} {l:Array Bool} {j:Nat} (ai:AB E D=true) (dL:∀ d∈D,l.getD d true=false) (aX:E.elem j=true):fz E l j=true:=by
 unfold fz EL;rw[aX,Bool.true_and,Bool.not_eq_true',List.any_eq_false];intro e he;unfold AB at ai;rw[List.all_eq_true]at ai;have J:=ai e he;rw[Bool.or_eq_true,Bool.not_eq_true']at J
 rcases J with J | J
 ·rw[J]; simp
 ·rw[dL _ (by simpa using J)]; simp
def xy(ops:Array Oper) (E D:List Nat) (listed:Array Bool) (i:Nat):Bool:=
 (D.all fun j=>!listed.getD j true&&u0 ops i D j)&&(List.range ops.size).all (fun j=>j == i || listed.getD j true || E.elem j || D.elem j)&&AB E D
theorem Lv{ops:Array Oper} {i j:Nat} {D:List Nat} (h:u0 ops i D j=true):EK ops i D j:=by
 unfold u0 at h
 split at h
 ·rename_i o bb
  simp only[Array.any_eq_true]at h;obtain⟨k,ab,U⟩:=h;simp only[Bool.and_eq_true,Bool.or_eq_true,beq_iff_eq,List.elem_eq_mem,decide_eq_true_eq]at U;exact⟨o,_,bb,Array.getElem_mem ab,U.1,U.2⟩
 ·cases h
def rz(ops:Array Oper) (E:List Nat) (listed:Array Bool) (i:Nat):Bool:=AD E i&&Region.noSelect ops&&Region.free .any ops listed i&&(Region.ready .any ops listed).contains i
def u1(f:Op->Bool) (ops:Array Oper) (i:Nat):Bool:=match ops[i]? with
 | some o=>f o.op
 | none=>false
def AE(ops:Array Oper) (E:List Nat) (listed:Array Bool) (pre:Bool) (i:Nat):Bool:=!E.elem i || (pre&&xy ops E (ya ops i) listed i)
structure hD where
 listed:Array Bool
 early:Bool
 pre:Bool
 jR:Bool
 all:Bool
def mI:bo->bo
 | []=>[]
 | (k,.cells t cs) :: r=>(k,.cells t cs) :: mI r
 | _ :: r=>mI r
def oz(jS:Bool) (c:bd):Bool:=jS || im c
structure la(R:Nat->Prop) (aG:hD) (dk:Nat->Prop) (dM:World) (cN:List bd) (F:World->Prop) (B:Nat->Prop) (ak:World) (H:List bd):Prop where
 early:aG.early=true->dk=B/\dM=ak/\cN=H.filter (oz aG.all)
 pre:aG.pre=true->(∀ c∈cN,c∈H/\oz aG.all c=true)/\cN.Pairwise bd.off/\(∀ k,dk k->B k)/\da (fun k=>R k\/dk k) dM ak
 c8:aG.jR=true->F=fun w=>da (fun k=>R k\/B k) ak w
 oA:∀ w,da (fun k=>R k\/B k) ak w->F w
def jg(X:bl) (M:Bool) (n:Nat) (ops:List Oper) (E:List Nat) (fuel:Nat) (aG:hD) (st:aK) (Q:Exit->aK->Prop):Prop:=
 ∀ (R:Nat->Prop) (W:World) (aD:e5) (dk:Nat->Prop) (dM:World) (cN:List bd) (F:World->Prop) (ks:List Nat) (env:Nat->Loc) (B:Nat->Prop) (ak:World) (H:List bd) (a:Act) (w:World),DW M ks aD->bB X R W aD n ks env B ak H st a w->la R aG dk dM cN F B ak H ->
  gJ X.P ops.toArray (fun e a w=>e=.normal/\∃ st',Q e st'/\kC X R W aD M n st' a w) (fun j l w=>(fz E l j=true->bA (fun k=>R k\/dk k) dM cN w)/\F w) fuel aG.listed a w
def pj(X:bl) (M:Bool) (n:Nat) (ops:List Oper) (E:List Nat) (fuel:Nat) (aG:hD) (st:aK) (Q:Exit->aK->Prop) (i:Nat):Prop:=
 ∀ (R:Nat->Prop) (W:World) (aD:e5) (dk:Nat->Prop) (dM:World) (cN:List bd) (F:World->Prop) (ks:List Nat) (env:Nat->Loc) (B:Nat->Prop) (ak:World) (H:List bd) (a:Act) (w:World),DW M ks aD->bB X R W aD n ks env B ak H st a w->la R aG dk dM cN F B ak H ->
  ∃ o,ops.toArray[i]?=some o/\e3 X.P ops.toArray o (fun aQ w'=>((fz E aG.listed i=true->bA (fun k=>R k\/dk k) dM cN w')/\F w')/\gJ X.P ops.toArray (fun e a w=>e=.normal/\∃ st',Q e st'/\kC X R W aD M n st' a w) (fun j l w=>(fz E l j=true->bA (fun k=>R k\/dk k) dM cN w)/\F w) fuel (aG.listed.setIfInBounds i true) aQ w') a w
theorem la.T{R:Nat->Prop} {aG:hD} {dk:Nat->Prop} {dM:World} {cN:List bd} {F:World->Prop} {X:bl} {W:World} {aD:e5} {n:Nat} {ks:List Nat} {env:Nat->Loc} {B:Nat->Prop} {ak:World} {H:List bd} {st:aK} {a:Act} {w:World} (dL:la R aG dk dM cN F B ak H) (ar:aG.pre=true) (ad:bB X R W aD n ks env B ak H st a w):bA (fun k=>R k\/dk k) dM cN w:=by
 obtain⟨J,U,ae,aw⟩:=dL.pre ar;have ai:=ad.aJ.below;refine⟨aw.trans ⟨ai.os,ai.tape,ai.output,ai.size,fun k ab=>ai.block k (ab.imp id (ae k))⟩,fun k ab=>ad.aJ.base k (ab.imp id (ae k)),fun c aa=>?_,U⟩;have gI:=ad.aJ.ok c (List.mem_append_left _ (J c aa).1);exact gI.base fun b ai ab=>(gI.lt ai).1 (ab.imp id (ae b))
theorem la.F{R:Nat->Prop} {aG:hD} {dk:Nat->Prop} {dM:World} {cN:List bd} {F:World->Prop} {X:bl} {W:World} {aD:e5} {n:Nat} {ks:List Nat} {env:Nat->Loc} {B:Nat->Prop} {ak:World} {H:List bd} {st:aK} {a:Act} {w:World} (dL:la R aG dk dM cN F B ak H) (ad:bB X R W aD n ks env B ak H st a w):F w:=
 dL.oA w ⟨ad.aJ.below.os,ad.aJ.below.tape,ad.aJ.below.output,ad.aJ.below.size,ad.aJ.below.block⟩
theorem bp.gv{env:Nat->Loc} {B:Nat->Prop} {w:World}:∀ {l:bo} {H:List bd},bp env B w l H->bp env B w (mI l) (H.filter im)
 | [],_,h=>by rw[show _=[] from h]; exact rfl
 | (k,.cells t cs) :: r,_,⟨c,H',e,J,U⟩=>by
  subst e;have aa:im c=true:=by
   obtain⟨b,vs,_,e,_⟩:=J;rw[e]; rfl
  rw[List.filter_cons_of_pos aa];exact⟨c,_,rfl,J,bp.gv U⟩
 | (k,.row t g l cap) :: r,_,⟨c,H',e,J,U⟩=>by
  subst e;have aa:im c=false:=J.nc (fun _ _ e=>by cases e);rw[List.filter_cons_of_neg (by rw[aa]; simp)];show bp env B w (mI r) _;exact bp.gv U
 | (k,.hk s p) :: r,_,⟨c,H',e,J,U⟩=>by
  subst e;have aa:im c=false:=J.nc (fun _ _ e=>by cases e);rw[List.filter_cons_of_neg (by rw[aa]; simp)];show bp env B w (mI r) _;exact bp.gv U
 | (k,.mp gk a8 l o) :: r,_,⟨c,H',e,J,U⟩=>by
  subst e;have aa:im c=false:=J.nc (fun _ _ e=>by cases e);rw[List.filter_cons_of_neg (by rw[aa]; simp)];show bp env B w (mI r) _;exact bp.gv U
 | (k,.it eZ es q ps) :: r,_,⟨c,H',e,J,U⟩=>by
  subst e;have aa:im c=false:=J.nc (fun _ _ e=>by cases e);rw[List.filter_cons_of_neg (by rw[aa]; simp)];show bp env B w (mI r) _;exact bp.gv U
 | (k,.gT eZ) :: r,_,⟨c,H',e,J,U⟩=>by
  subst e;have aa:im c=false:=J.nc (fun _ _ e=>by cases e);rw[List.filter_cons_of_neg (by rw[aa]; simp)];show bp env B w (mI r) _;exact bp.gv U
 | (k,.jK) :: r,_,⟨c,H',e,J,U⟩=>by
  subst e;have aa:im c=false:=J.nc (fun _ _ e=>by cases e);rw[List.filter_cons_of_neg (by rw[aa]; simp)];show bp env B w (mI r) _;exact bp.gv U
 | (k,.ez el t g l cap i d) :: r,_,⟨c,H',e,J,U⟩=>by
  subst e;have aa:im c=false:=J.nc (fun _ _ e=>by cases e);rw[List.filter_cons_of_neg (by rw[aa]; simp)];show bp env B w (mI r) _;exact bp.gv U
 | (k,.kc) :: r,_,⟨c,H',e,J,U⟩=>by
  subst e;have aa:im c=false:=J.nc (fun _ _ e=>by cases e);rw[List.filter_cons_of_neg (by rw[aa]; simp)];show bp env B w (mI r) _;exact bp.gv U
 | (k,.fr t g l) :: r,_,⟨c,H',e,J,U⟩=>by
  subst e;have aa:im c=false:=J.nc (fun _ _ e=>by cases e);rw[List.filter_cons_of_neg (by rw[aa]; simp)];show bp env B w (mI r) _;exact bp.gv U
 | (k,.b0 t bR g l cap q) :: r,_,⟨c,H',e,J,U⟩=>by
  subst e;have aa:im c=false:=J.nc (fun _ _ e=>by cases e);rw[List.filter_cons_of_neg (by rw[aa]; simp)];show bp env B w (mI r) _;exact bp.gv U
section
variable {X:bl} {M:Bool} {n:Nat} {st st':aK} {Q:Exit->aK->Prop} {ops:List Oper} {E:List Nat} {aG u2:hD} {fuel:Nat}
theorem bB.drew{R:Nat->Prop} {W:World} {aD:e5} {ks:List Nat} {env:Nat->Loc} {B:Nat->Prop} {ak:World} {H:List bd} {a:Act} {w:World} (h:bB X R W aD n ks env B ak H st a w):bB X R W aD n ks env B ak H st a w.drew:=
 ⟨h.size,h.defs,h.has,h.heap,h.aJ.drew,h.sub,h.new,h.dj,h.base,h.dT⟩
theorem TZ{id N:Nat} {r:Option Nat} {jS:Bool} (E:List Nat) (hm:X.P.follows .mixedOrders=true) (bF:ops.length=N) (h:jg X M n ops E N ⟨Array.replicate N false,true,true,true,jS⟩ st Q):gm X M n r (.region id ops.toArray true) st Q:=by
 rintro R W aD a w ⟨ks,env,B,ak,H,b2,ad⟩;have J:=gJ.any r _ _ _ _ (h R W aD B ak (H.filter (oz jS)) _ ks env B ak H a w.drew b2 ad.drew ⟨fun _=>⟨rfl,rfl,rfl⟩,fun _=>⟨fun c aa=>List.mem_filter.1 aa,(List.pairwise_append.1 ad.aJ.apart).1.sublist List.filter_sublist,fun _ h=>h,da.refl _ _⟩,fun _=>rfl,fun _ h=>h⟩);have U:(Code.region id ops.toArray true).wpIn (WF r) 0 X.P (fun e a w=>e=.normal/\∃ st',Q e st'/\kC X R W aD M n st' a w) a w:=wpIn_region_any hm (by simp only[List.size_toArray,bF]; exact J);refine wpIn_mono U ?_;rintro e a w ⟨rfl,st',ae,aw⟩;exact⟨st',ae,aw⟩
theorem T0(aH:Region.ready .any ops.toArray aG.listed=[]) (h:Q .normal st):jg X M n ops E 0 aG st Q:=fun R W aD dk dM cN F ks env B ak H a w b2 ad _=>⟨aH,rfl,st,h,ks,env,B,ak,H,b2,ad⟩
theorem ld{i:Nat} {o:Oper} (h:nth ops i=some o):ops.toArray[i]?=some o:=by simpa using D6 h
theorem EM{R:Nat->Prop} {dk:Nat->Prop} {dM:World} {cN:List bd} {F:World->Prop} {u3:Exit->Act->World->Prop} {listed:Array Bool} {hL i:Nat} {o:Oper} {a:Act} {w:World} (rA:Bool) (v:Value) (qg:ops.toArray[i]?=some o) (ai:rz ops.toArray E listed i=true) (gn:E.elem i=true->rA=true) (aH:rA=true->xy ops.toArray E (ya ops.toArray i) listed i=true)
  (aV:YieldsIf X.P ops.toArray (fun w=>(rA=true->bA (fun k=>R k\/dk k) dM cN w)/\F w) o v a) (ca:rA=true->bA (fun k=>R k\/dk k) dM cN w) (rB:F w) (EN:gJ X.P ops.toArray u3 (fun j l w=>(fz E l j=true->bA (fun k=>R k\/dk k) dM cN w)/\F w) hL (listed.setIfInBounds i true) (a.put o.dst v) w) :
  gJ X.P ops.toArray u3 (fun j l w=>(fz E l j=true->bA (fun k=>R k\/dk k) dM cN w)/\F w) (hL+1) listed a w:=by
 simp only[rz,Bool.and_eq_true]at ai;obtain⟨⟨⟨T1,AF⟩,ry⟩,T2⟩:=ai;have T3:∀ {l:Array Bool} {j:Nat},fz E l j=true->fz E (l.setIfInBounds i true) j=true:=Lu T1;have nk:∀ D,(rA=true->AB E D=true)->(∀ j∈D,EK ops.toArray i D j)->(∀ j∈D,listed.getD j true=false)->(∀ j fs,ops.toArray[j]?=some fs->j≠i->listed.getD j true=false->(∀ e∈fs.after,Region.binds .any e=true->e.on≠i)->j∈D\/(rA=true->E.elem j=true))->gJ X.P ops.toArray u3 (fun j l w=>(fz E l j=true->bA (fun k=>R k\/dk k) dM cN w)/\F w) (hL+1) listed a w:=by
  intro D aP J U ae;refine gJ.first (T:=fun w=>(rA=true->bA (fun k=>R k\/dk k) dM cN w)/\F w) qg (Region.noSelect_spec AF) D J (fun j l w aI=>⟨fun he=>aI.1 (T3 he),aI.2⟩) _ _ _ _ U ?_ (by simpa using T2) aV ⟨ca,rB⟩ EN (fun l w' hw=>⟨fun he=>hw.1 (gn (Lt he)),hw.2⟩)
  intro j fs ki jQ nT ib;refine⟨Region.free_spec qg ry j fs ki jQ nT ib,?_⟩
  rcases ae j fs ki jQ nT ib with aw | aw
  ·exact .inl aw
  ·exact .inr fun l w sO Lw=>⟨fun cL=>Lw.1 (TY (aP cL) sO (aw cL)),Lw.2⟩
 cases bk:rA with
 | false=>exact nk [] (fun h=>by rw[bk]at h; cases h) (fun _ h=>by cases h) (fun _ h=>by cases h) (fun _ _ _ _ _ _=>.inr fun h=>by rw[bk]at h; cases h)
 | true=>
  have pk:=aH bk;unfold xy at pk;rw[Bool.and_eq_true]at pk;obtain⟨pk,u4⟩:=pk;simp only[Bool.and_eq_true,List.all_eq_true,List.mem_range,Bool.not_eq_true']at pk;obtain⟨ht,kV⟩:=pk;refine nk (ya ops.toArray i) (fun _=>u4) (fun j aX=>Lv (ht j aX).2) (fun j aX=>(ht j aX).1) (fun j fs ki jQ nT _=>?_)
  have:=kV j (Array.getElem?_eq_some_iff.1 ki).1
  simp only[Bool.or_eq_true,beq_iff_eq]at this
  rcases this with((J | J) | J) | J
  ·exact absurd J jQ
  ·rw[nT]at J; cases J
  ·exact .inr fun _=>J
  ·exact .inl (by simpa using J)
theorem Lx{listed:Array Bool} {pre:Bool} {i:Nat} (h:AE ops.toArray E listed pre i=true):(E.elem i=true->xy ops.toArray E (ya ops.toArray i) listed i=true)/\(E.elem i=true->pre=true):=by
 simp only[AE,Bool.or_eq_true,Bool.not_eq_true',Bool.and_eq_true]at h
 rcases h with h | h
 ·exact⟨fun e=>(by rw[h]at e; cases e),fun e=>(by rw[h]at e; cases e)⟩
 ·exact⟨fun _=>h.2,fun _=>h.1⟩
theorem la.kept{R:Nat->Prop} {dk:Nat->Prop} {dM:World} {cN:List bd} {F:World->Prop} {B:Nat->Prop} {ak:World} {H H':List bd} (dL:la R aG dk dM cN F B ak H) (ab:aG.pre=true->∀ c∈H,oz aG.all c=true->c∈H') {l:Array Bool}:la R ⟨l,false,aG.pre,aG.jR,aG.all⟩ dk dM cN F B ak H':=
 ⟨fun h=>(by cases h),fun h=>by
  obtain⟨J,U,ae,aw⟩:=dL.pre h;exact⟨fun c aa=>⟨ab h c (J c aa).1 (J c aa).2,(J c aa).2⟩,U,ae,aw⟩,dL.c8,dL.oA⟩
theorem la.lost{R:Nat->Prop} {dk:Nat->Prop} {dM:World} {cN:List bd} {F:World->Prop} {B:Nat->Prop} {ak:World} {H H':List bd} (dL:la R aG dk dM cN F B ak H) {l:Array Bool}:la R ⟨l,false,false,aG.jR,aG.all⟩ dk dM cN F B ak H':=
 ⟨fun h=>(by cases h),fun h=>(by cases h),dL.c8,dL.oA⟩
theorem Ly(av:X.tt.ok X.P) {i:Nat} {o:Oper} {c:Bool} {l':Array Bool} (hi:nth ops i=some o) (gn:fz E aG.listed i=false) (al:ni X n (ed ops) st o=.ok c st') (aa:c=true) (ag:aG.listed.setIfInBounds i true=l') (h:jg X M n ops E fuel ⟨l',false,false,aG.jR,aG.all⟩ st' Q):pj X M n ops E fuel aG st Q i:=by
 intro R W aD dk dM cN F ks env B ak H a w b2 ad dL;refine⟨o,ld hi,sH av al aa ad fun aQ w' env' H' AG bW=>?_⟩;have fX:=dL.lost (H':=H') (l:=l');rw[ag];exact⟨⟨fun he=>(by rw[gn]at he; cases he),fX.F bW⟩,h R W aD dk dM cN F ks env' B ak H' aQ w' b2 bW fX⟩
theorem Lz(av:X.tt.ok X.P) {i:Nat} {o:Oper} {c:Bool} {l':Array Bool} (hi:nth ops i=some o) (ab:(aG.pre&&Ad o.op&&pb o st.H&&!aG.all)=true) (al:ni X n (ed ops) st o=.ok c st') (aa:c=true) (ag:aG.listed.setIfInBounds i true=l') (h:jg X M n ops E fuel ⟨l',false,true,aG.jR,aG.all⟩ st' Q):pj X M n ops E fuel aG st Q i:=by
 intro R W aD dk dM cN F ks env B ak H a w b2 ad dL;simp only[Bool.and_eq_true]at ab;refine⟨o,ld hi,sH av al aa ad fun aQ w' env' H' AG bW=>?_⟩;have nm:aG.all=false:=by simpa using ab.2
 have fX:=dL.kept (H':=H') (l:=l') (fun _=>by rw[nm]; exact AG.dY ab.1.1.2 ab.1.2);rw[ag];refine⟨⟨fun he=>fX.T ab.1.1.1 bW,fX.F bW⟩,h R W aD dk dM cN F ks env' B ak H' aQ w' b2 bW ?_⟩;rw[ab.1.1.1]at fX;exact fX
theorem LA(av:X.tt.ok X.P) {i:Nat} {o:Oper} {c:Bool} {l':Array Bool} (hi:nth ops i=some o) (ab:(aG.pre&&uP o.op&&re o st.H)=true) (al:ni X n (ed ops) st o=.ok c st') (aa:c=true) (ag:aG.listed.setIfInBounds i true=l') (h:jg X M n ops E fuel ⟨l',false,true,aG.jR,aG.all⟩ st' Q):pj X M n ops E fuel aG st Q i:=by
 intro R W aD dk dM cN F ks env B ak H a w b2 ad dL;simp only[Bool.and_eq_true]at ab;refine⟨o,ld hi,sH av al aa ad fun aQ w' env' H' AG bW=>?_⟩;have fX:=dL.kept (H':=H') (l:=l') (fun _ c aa _=>AG.all ab.1.2 ab.2 c aa);rw[ag];refine⟨⟨fun he=>fX.T ab.1.1 bW,fX.F bW⟩,h R W aD dk dM cN F ks env' B ak H' aQ w' b2 bW ?_⟩;rw[ab.1.1]at fX;exact fX
def AH(X:bl) (M:Bool) (n:Nat) (ops:List Oper) (E:List Nat) (fuel:Nat) (aG:hD) (st:aK) (Q:Exit->aK->Prop) (rs:List Nat):Prop:=∀ i∈rs,pj X M n ops E fuel aG st Q i
theorem EO:AH X M n ops E fuel aG st Q []:=fun _ h=>by cases h
theorem u5{i:Nat} {rs:List Nat} (h:pj X M n ops E fuel aG st Q i) (aH:AH X M n ops E fuel aG st Q rs):AH X M n ops E fuel aG st Q (i :: rs):=fun j aX=>by
 rcases List.mem_cons.1 aX with rfl | aX
 ·exact h
 ·exact aH j aX
theorem EP{i:Nat} {rs:List Nat} (aH:Region.ready .any ops.toArray aG.listed=i :: rs) (h:AH X M n ops E fuel aG st Q (i :: rs)):jg X M n ops E (fuel+1) aG st Q:=by
 intro R W aD dk dM cN F ks env B ak H a w b2 ad dL;refine⟨fun aP=>(by rw[aH]at aP; cases aP),fun k ab=>?_⟩;rw[aH]at ab;exact h k ab R W aD dk dM cN F ks env B ak H a w b2 ad dL
end
/-! ### A drawn region, ya a call, as at its beginning -/
theorem gJ.ER{P:Program} {ops:Array Oper} {Q:Exit->Act->World->Prop} {S S':Nat->Array Bool->World->Prop} (aI:∀ j l w,S' j l w->S j l w):∀ (fuel:Nat) (listed:Array Bool) (a:Act) (w:World),gJ P ops Q S' fuel listed a w->gJ P ops Q S fuel listed a w
 | 0,_,_,_,h=>h
 | fuel+1,_,_,_,h=>⟨h.1,fun i hi=>by
  obtain⟨o,bb,ao⟩:=h.2 i hi;exact⟨o,bb,ao.mono fun aQ w' aN=>⟨aI _ _ _ aN.1,gJ.ER aI fuel _ aQ w' aN.2⟩⟩⟩
theorem T4{X:bl} {M:Bool} {n:Nat} {st:aK} {Q:Exit->aK->Prop} {ops:List Oper} {E:List Nat} {aG:hD} {fuel:Nat} (gn:(E.isEmpty || aG.pre)=true) (h:jg X M n ops E fuel ⟨aG.listed,true,true,true,aG.all⟩ st Q):jg X M n ops E fuel aG st Q:=by
 intro R W aD dk dM cN F ks env B ak H a w b2 ad dL;refine gJ.ER ?_ _ _ _ _ (h R W aD B ak (H.filter (oz aG.all)) (fun w=>da (fun k=>R k\/B k) ak w) ks env B ak H a w b2 ad ⟨fun _=>⟨rfl,rfl,rfl⟩,fun _=>⟨fun c aa=>List.mem_filter.1 aa,(List.pairwise_append.1 ad.aJ.apart).1.sublist List.filter_sublist,fun _ h=>h,da.refl _ _⟩,fun _=>rfl,fun _ h=>h⟩);rintro j l w' ⟨J,U⟩;refine⟨fun he=>?_,dL.oA w' U⟩;have ar:aG.pre=true:=by
  cases E with
  | nil=>cases (Lt he)
  | cons e E=>simpa using gn
 obtain⟨hY,hv,pn,LB⟩:=dL.pre ar;have al:=J he;have ai:=al.below;refine⟨LB.trans ⟨ai.os,ai.tape,ai.output,ai.size,fun k ab=>ai.block k (ab.imp id (pn k))⟩,fun k ab=>al.base k (ab.imp id (pn k)),fun c aa=>?_,hv⟩;have gI:=al.ok c (List.mem_filter.2 ⟨(hY c aa).1,(hY c aa).2⟩);exact gI.base fun b ai ab=>(gI.lt ai).1 (ab.imp id (pn b))
end
section
def rC(id:Nat) (g:aR) (x:g.D):List e8->List e8
 | []=>[]
 | .id i :: r=>match Nat.beq i id with
  | true=>.eS g x :: rC id g x r
  | false=>.id i :: rC id g x r
 | .eS h y :: r=>.eS h y :: rC id g x r
def bc.eK:bc->Nat->(g:aR)->g.D->bc
 | .ptr i o,id,g,x=>match Nat.beq i id with
  | true=>.fx g x o
  | false=>.ptr i o
 | .fn f ids,id,g,x=>.fn f (rC id g x ids)
 | c,_,_,_=>c
def u6(id:Nat) (g:aR) (x:g.D):List bc->List bc
 | []=>[]
 | c :: r=>c.eK id g x :: u6 id g x r
def bf.eK:bf->Nat->(g:aR)->g.D->bf
 | .c y,id,g,x=>.c (y.eK id g x)
 | .agg cs,id,g,x=>.agg (u6 id g x cs)
 | .arr g l,_,_,_=>.arr g l
def xz(id:Nat) (g:aR) (x:g.D):List bf->List bf
 | []=>[]
 | c :: r=>c.eK id g x :: xz id g x r
def bZ.eK:bZ->Nat->(g:aR)->g.D->bZ
 | .a y,id,g,x=>.a (y.eK id g x)
 | .may b y,id,g,x=>.may b (y.eK id g x)
 | .cW bJ,id,g,x=>.cW (xz id g x bJ)
def sP(id:Nat) (g:aR) (x:g.D):cJ->cJ
 | []=>[]
 | (k,v) :: r=>(k,v.eK id g x) :: sP id g x r
def cw.eK:cw->Nat->(g:aR)->g.D->cw
 | .cells t cs,id,g,x=>.cells t (u6 id g x cs)
 | b,_,_,_=>b
def mJ(id:Nat) (g:aR) (x:g.D):bo->bo
 | []=>[]
 | (k,b) :: r=>match Nat.beq k id with
  | true=>mJ id g x r
  | false=>(k,b.eK id g x) :: mJ id g x r
section
variable {env:Nat->Loc} {B:Nat->Prop} {w:World} {id b:Nat} {g:aR} {x:g.D} (he:env id=.blk b) (bq:At B w g x b 0)
include he bq
theorem e9.eK{cs:List e8}:∀ {vs:List Value},e9 env B w cs vs->e9 env B w (rC id g x cs) vs:=by
 induction cs with
 | nil=>intro vs h; exact h
 | cons c cs bx=>
  intro vs h;obtain⟨v,r,e,J,ae⟩:=h;cases c with
  | id i=>
   obtain⟨b',J,U⟩:=J;simp only[rC]
   split
   ·rename_i hi
    have:=Nat.eq_of_beq_eq_true hi
    subst this;rw[he]at J;cases J;exact⟨v,r,e,⟨b,0,U,bq⟩,bx ae⟩
   ·exact⟨v,r,e,⟨b',J,U⟩,bx ae⟩
  | eS h y=>exact⟨v,r,e,J,bx ae⟩
theorem dE.eK:∀ {c:bc} {v:Value},dE env B w c v->dE env B w (c.eK id g x) v
 | .val _,_,aa=>aa
 | .str _,_,aa=>aa
 | .dead,_,aa=>aa
 | .ptr i o,v,aa=>by
  simp only[bc.eK]
  split
  ·rename_i hi
   have:=Nat.eq_of_beq_eq_true hi
   subst this;obtain⟨b',J,U⟩:=aa;rw[he]at J;cases J;exact⟨b,0,by rw[Nat.zero_add]; exact U,bq⟩
  ·exact aa
 | .eg _ _ _ _,_,aa=>aa
 | .fx _ _ _,_,aa=>aa
 | .par _ _,_,aa=>aa
 | .ah _,_,aa=>aa
 | .a1 _ _ _,_,aa=>aa
 | .fn _ _,_,⟨vs,J,U⟩=>⟨vs,J,e9.eK he bq U⟩
 | .cr _,_,aa=>aa
 | .iC _ _,_,aa=>aa
 | .gF _ _,_,aa=>aa
 | .iD _ _ _,_,aa=>aa
 | .iQ _,_,aa=>aa
 | .hJ _ _,_,aa=>aa
theorem cm.eK:∀ {c:List bc} {v:List Value},cm env B w c v->cm env B w (u6 id g x c) v
 | [],_,aa=>aa
 | _ :: _,_,⟨v,r,e,J,U⟩=>⟨v,r,e,dE.eK he bq J,cm.eK U⟩
theorem dP.eK:∀ {c:bf} {v:Value},dP env B w c v->dP env B w (c.eK id g x) v
 | .c _,_,aa=>dE.eK he bq aa
 | .agg _,_,⟨vs,e,J⟩=>⟨vs,e,cm.eK he bq J⟩
 | .arr _ _,_,h=>h
theorem dx.eK:∀ {c:List bf} {v:List Value},dx env B w c v->dx env B w (xz id g x c) v
 | [],_,aa=>aa
 | _ :: _,_,⟨v,r,e,J,U⟩=>⟨v,r,e,dP.eK he bq J,dx.eK U⟩
theorem ey.eK:∀ {c:bZ} {v:Value},ey env B w c v->ey env B w (c.eK id g x) v
 | .a _,_,aa=>dP.eK he bq aa
 | .may _ _,_,aa=>⟨fun aM=>dP.eK he bq (aa.1 aM),aa.2⟩
 | .cW _,_,⟨vs,e,J⟩=>⟨vs,e,dx.eK he bq J⟩
theorem ew.eK{k:Nat}:∀ {sQ:cw} {c:bd},ew env B w k sQ c->ew env B w k (sQ.eK id g x) c
 | .cells _ _,_,⟨b',vs,e,aa,J⟩=>⟨b',vs,e,aa,cm.eK he bq J⟩
 | .row _ _ _ _,_,h=>h
 | .hk _ _,_,h=>h
 | .mp _ _ _ _,_,h=>h
 | .it _ _ _ _,_,h=>h
 | .gT _,_,h=>h
 | .jK,_,h=>h
 | .ez _ _ _ _ _ _ _,_,h=>h
 | .kc,_,h=>h
 | .fr _ _ _,_,h=>h
 | .b0 _ _ _ _ _ _,_,h=>h
theorem bp.eK:∀ {l:bo} {H:List bd},bp env B w l H->∃ H',H'.Sublist H/\bp env B w (mJ id g x l) H'
 | [],_,cB=>⟨[],by rw[show _=[] from cB]; exact List.Sublist.refl _,rfl⟩
 | (k,sQ) :: l,_,⟨c,H',e,J,U⟩=>by
  obtain⟨H2,al,ae⟩:=bp.eK U;subst e;unfold mJ
  split
  ·exact⟨H2,al.cons _,ae⟩
  ·exact⟨c :: H2,al.cons_cons _,c,H2,rfl,ew.eK he bq J,ae⟩
theorem bp.LC:∀ {l:bo} {H:List bd} {sQ:cw},bp env B w l H->aS l id=some sQ->∃ c Y Z H',ew env B w id sQ c/\H=Y++c :: Z/\H'.Sublist (Y++Z)/\bp env B w (mJ id g x l) H'
 | [],_,_,_,h=>by cases h
 | (k,b') :: l,H,sQ,⟨c,H',e,J,U⟩,h=>by
  rw[ct]at h;subst e
  split at h
  ·rename_i e
   subst e;cases h;obtain⟨H2,ae,aw⟩:=bp.eK he bq U;refine⟨c,[],H',H2,J,rfl,ae,?_⟩;unfold mJ;rw[Nat.beq_refl];exact aw
  ·rename_i e
   obtain⟨c',Y,Z,H2,ae,aw,aF,aW⟩:=bp.LC U h;have ab:Nat.beq k id=false:=by
    cases ai:Nat.beq k id with
    | false=>rfl
    | true=>exact absurd (Nat.eq_of_beq_eq_true ai).symm e
   refine⟨c',c :: Y,Z,c :: H2,ae,by rw[aw]; rfl,aF.cons_cons _,?_⟩;unfold mJ;rw[ab];exact⟨c,H2,rfl,ew.eK he bq J,aW⟩
omit he bq in
theorem ES:∀ {l:cJ} {s:Nat} {v:bZ},aS (sP id g x l) s=some v->∃ u,aS l s=some u/\v=u.eK id g x
 | [],_,_,h=>by cases h
 | (k,u) :: l,s,v,h=>by
  unfold sP at h;rw[ct]at h ⊢
  split at h
  ·rename_i e
   cases h;rw[if_pos e];exact⟨u,rfl,rfl⟩
  ·rename_i e
   rw[if_neg e];exact ES h
end
section
variable {X:bl} {R:Nat->Prop} {W:World} {aD:e5} {n:Nat} {ks:List Nat} {env:Nat->Loc} {B:Nat->Prop} {ak:World} {H:List bd} {st st':aK} {a:Act} {w:World}
theorem bB.b8(h:bB X R W aD n ks env B ak H st a w) {id:Nat} {t:TypeId} {cs:List bc} {g:aR} {x:g.D} {c:Bool} (bO:aS st.H id=some (.cells t cs)) (iO:dec g cs=some (c,x,[])) (aa:c=true):∃ env' B' cy H',bB X R W aD n ks env' B' cy H' ⟨sP id g x st.L,mJ id g x st.H⟩ a w:=by
 obtain⟨c0,_,⟨b,vs,he,rfl,gg⟩,dQ⟩:=h.heap.fG bO;have c4:fv B ak (fun q=>B q\/q=b) w:=⟨fun q au=>.inl au,fun q au=>h.aJ.below.block q (.inr au)⟩
 obtain⟨v1,v2,aE,kz,hM⟩:=oq (gg.up c4) iO aa;have ET:v2=[]:=hM;subst ET;rw[List.append_nil]at aE;subst aE;have jd:At (fun q=>B q\/q=b) w g x b 0:=⟨.inr rfl,vs,kz,fun j u hu=>by rw[Nat.zero_add,zM h.aJ dQ.more]; exact hu⟩
 obtain⟨c,Y,Z,H2,⟨b',mC,cG,rfl,_⟩,U,aw,aF⟩:=bp.LC he jd (h.heap.up c4) bO;rw[he]at cG;cases cG;have jO:bd.gv b mC t∈H++ks.map c7:=by rw[U]; simp
 have hB:=(h.aJ.ok _ jO).lt (b:=b) rfl;have jP:=h.aJ.apart;rw[U,List.append_assoc,List.cons_append]at jP;refine⟨env,_,w,H2,h.size,h.defs,fun s u hu=>?_,aF,?_,fun q au=>.inl (h.sub q au),fun q au=>?_,h.dj,h.base.trans ⟨h.aJ.below.os,h.aJ.below.tape,h.aJ.below.output,h.aJ.below.size,fun q au=>h.aJ.below.block q (.inl au)⟩,fun i x ao=>(h.dT i x ao).up c4⟩
 ·obtain⟨hz,hA,rfl⟩:=ES hu
  obtain⟨eO,aW,bC⟩:=h.has s hz hA;exact⟨eO,aW,ey.eK he jd (bC.up c4)⟩
 ·have al:bA (fun k=>R k\/B k) ak (H2++ks.map c7) w:=by
   have aW:=h.aJ;rw[U]at aW;have ar:(Y++bd.gv b mC t :: Z++ks.map c7).Perm (bd.gv b mC t :: (Y++Z++ks.map c7)):=by
    simp only[List.append_assoc,List.cons_append];exact List.perm_middle
   exact(aW.perm ar).er (((aw.append_right _)).cons _)
  refine⟨da.refl _ _,fun q au=>?_,fun c aa=>(al.ok c aa).base fun q ai cI=>?_,al.apart⟩
  ·rcases au with au | au | au
   ·exact h.aJ.base q (.inl au)
   ·exact h.aJ.base q (.inr au)
   ·subst au; exact hB.2
  ·rcases cI with cI | cI | cI
   ·exact((al.ok c aa).lt ai).1 (.inl cI)
   ·exact((al.ok c aa).lt ai).1 (.inr cI)
   ·subst cI
    have h6:c∈Y++(Z++ks.map c7):=by
     rcases List.mem_append.1 aa with aa | aa
     ·have:=aw.subset aa
      rcases List.mem_append.1 this with bC | bC
      ·exact List.mem_append_left _ bC
      ·exact List.mem_append_right _ (List.mem_append_left _ bC)
     ·exact List.mem_append_right _ (List.mem_append_right _ aa)
    rw[List.pairwise_append,List.pairwise_cons]at jP;obtain⟨_,⟨db,_⟩,hN⟩:=jP
    rcases List.mem_append.1 h6 with bC | bC
    ·exact hN c bC _ List.mem_cons_self q ai rfl
    ·exact db c bC q rfl ai
 ·rcases au with au | au
  ·exact(h.new q au).imp_right fun aN=>⟨aN.1,aN.2.dY (h.aJ.below.block q (.inr au))⟩
  ·subst au; exact .inr ⟨fun fV=>hB.1 (.inl fV),(h.aJ.ok _ jO).cells rfl rfl⟩
theorem cA.b8(id:Nat) (g:aR) {t:TypeId} {cs:List bc} {x:g.D} {c:Bool} (bO:aS st.H id=some (.cells t cs)) (iO:dec g cs=some (c,x,[])) (aa:c=true):cA X n st ⟨sP id g x st.L,mJ id g x st.H⟩:=fun _ _ _ _ _ _ ⟨ks,env,B,ak,H,b2,ad⟩=>by
 obtain⟨env',B',cy,H',h⟩:=ad.b8 bO iO aa;exact⟨ks,env',B',cy,H',b2,h⟩
end
section
variable {X:bl} {M:Bool} {n:Nat} {st:aK} {Q:Exit->aK->Prop} {ops:List Oper} {E:List Nat} {aG:hD} {Ka:Array Bool} {fuel d i:Nat} {o:Oper}
theorem T5{st':aK} (z:Nat) (aA:c8 z st=some st') (h:jg X M n ops E fuel ⟨aG.listed,false,aG.pre&&!aG.all,false,aG.all⟩ st' Q):jg X M n ops E fuel aG st Q:=by
 intro R W aD dk dM cN F ks env B ak H a w b2 ad dL;obtain⟨env',B',cy,H',bW,gw,jz,kA⟩:=ad.c8 aA;refine h R W aD dk dM cN F ks env' B' cy H' a w b2 bW ⟨fun h=>(by cases h),fun ar=>?_,fun h=>(by cases h),fun w hw=>dL.oA w (jz.trans ⟨hw.os,hw.tape,hw.output,hw.size,fun k ab=>hw.block k (ab.imp id (gw k))⟩)⟩;have LD:aG.pre=true/\aG.all=false:=by
  have:(aG.pre&&!aG.all)=true:=ar
  simpa using this
 obtain⟨g1,g2,g3,g4⟩:=dL.pre LD.1;exact⟨fun c aa=>⟨kA c (g1 c aa).1 (by have:=(g1 c aa).2; rw[LD.2]at this; exact this),(g1 c aa).2⟩,g2,fun k ab=>gw k (g3 k ab),g4.trans ⟨jz.os,jz.tape,jz.output,jz.size,fun k ab=>jz.block k (ab.imp id (g3 k))⟩⟩
end
end
section
abbrev hE:=Bool->Nat->Option Nat
def pq(bI:hE):List e8->Option (List e8)
 | []=>some []
 | .id i :: r=>match bI true i,pq bI r with
  | some j,some l=>some (.id j :: l)
  | _,_=>none
 | .eS g x :: r=>match pq bI r with
  | some l=>some (.eS g x :: l)
  | none=>none
def bc.de:bc->hE->bc
 | .ptr i o,bI=>match bI true i with
  | some j=>.ptr j o
  | none=>.dead
 | .eg i cx k o,bI=>match bI false i with
  | some j=>.eg j cx k o
  | none=>.dead
 | .ah i,bI=>match bI false i with
  | some j=>.ah j
  | none=>.dead
 | .fn f ids,bI=>match pq bI ids with
  | some l=>.fn f l
  | none=>.dead
 | .cr i,bI=>match bI true i with
  | some j=>.cr j
  | none=>.dead
 | .iC f i,bI=>match bI true i with
  | some j=>.iC f j
  | none=>.dead
 | .gF i o,bI=>match bI false i with
  | some j=>.gF j o
  | none=>.dead
 | .iQ i,bI=>match bI false i with
  | some j=>.iQ j
  | none=>.dead
 | .iD i s o,bI=>match bI false i with
  | some j=>.iD j s o
  | none=>.dead
 | .hJ b i,bI=>match bI true i with
  | some j=>.hJ b j
  | none=>.dead
 | c,_=>c
def rD(bI:hE):List bc->List bc
 | []=>[]
 | c :: r=>c.de bI :: rD bI r
def bf.de:bf->hE->bf
 | .c x,bI=>.c (x.de bI)
 | .agg cs,bI=>.agg (rD bI cs)
 | .arr g l,_=>.arr g l
def sR(bI:hE):List bf->List bf
 | []=>[]
 | c :: r=>c.de bI :: sR bI r
def bZ.de:bZ->hE->bZ
 | .a x,bI=>.a (x.de bI)
 | .may g x,bI=>.may g (x.de bI)
 | .cW xs,bI=>.cW (sR bI xs)
def fA(bI:hE):cJ->cJ
 | []=>[]
 | (k,v) :: r=>(k,v.de bI) :: fA bI r
def cw.de:cw->hE->cw
 | .cells t cs,bI=>.cells t (rD bI cs)
 | .it eZ es k ps,bI=>match bI true eZ with
  | some j=>.it j es k ps
  | none=>.jK
 | .gT eZ,bI=>match bI true eZ with
  | some j=>.gT j
  | none=>.jK
 | .ez el t g l c i d,bI=>match bI false d with
  | some j=>.ez el t g l c i j
  | none=>.kc
 | .b0 t bR g l c (some (i,some d)),bI=>match bI false d with
  | some j=>.b0 t bR g l c (some (i,some j))
  | none=>.b0 t bR g l c (some (i,none))
 | b,_=>b
def cw.nU:cw->Bool
 | .row _ _ _ _=>false
 | .ez _ _ _ _ _ _ _=>false
 | .kc=>false
 | .fr _ _ _=>false
 | .b0 _ _ _ _ _ _=>false
 | _=>true
def nn(bI:hE):bo->bo
 | []=>[]
 | (k,b) :: r=>match bI b.nU k with
  | some j=>(j,b.de bI) :: nn bI r
  | none=>nn bI r
structure EU(bI:hE) (env env':Nat->Loc):Prop where
 blk:∀ k j b,bI true k=some j->env k=.blk b->env' j=.blk b
 row:∀ k j A c n,bI false k=some j->env k=.row A c n->env' j=.row A c n
section
variable {bI:hE} {env env':Nat->Loc} {B:Nat->Prop} {w:World} (he:EU bI env env')
include he
theorem e9.de:∀ {ids l:List e8} {vs:List Value},pq bI ids=some l->e9 env B w ids vs->e9 env' B w l vs
 | [],l,vs,h,aE=>by cases h; exact aE
 | .id i :: ids,l,vs,h,⟨v,r,e,⟨b,U,aw⟩,ae⟩=>by
  simp only[pq]at h
  split at h
  ·rename_i j r hi aH
   cases h;exact⟨v,_,e,⟨b,he.blk i j b hi U,aw⟩,e9.de aH ae⟩
  ·cases h
 | .eS g x :: ids,l,vs,h,⟨v,r,e,U,ae⟩=>by
  simp only[pq]at h
  split at h
  ·rename_i r aH
   cases h;exact⟨v,_,e,U,e9.de aH ae⟩
  ·cases h
theorem dE.de:∀ {c:bc} {v:Value},dE env B w c v->dE env' B w (c.de bI) v
 | .val _,_,aa=>aa
 | .str _,_,aa=>aa
 | .dead,_,aa=>aa
 | .ptr i o,v,aa=>by
  simp only[bc.de]
  split
  ·rename_i j h
   obtain⟨b,e,aE⟩:=aa;exact⟨b,he.blk i j b h e,aE⟩
  ·trivial
 | .eg i cx j o,v,aa=>by
  simp only[bc.de]
  split
  ·rename_i j h
   obtain⟨b,c,n,e,aE⟩:=aa;exact⟨b,c,n,he.row i j _ _ _ h e,aE⟩
  ·trivial
 | .hJ b i,v,aa=>by
  simp only[bc.de]
  split
  ·rename_i j h
   obtain⟨k,e,aE⟩:=aa;exact⟨k,fun ai=>he.blk i j k h (e ai),aE⟩
  ·trivial
 | .iQ i,v,aa=>by
  simp only[bc.de]
  split
  ·rename_i j h
   obtain⟨b,c,n,e,aE⟩:=aa;exact⟨b,c,n,he.row i j _ _ _ h e,aE⟩
  ·trivial
 | .iD i s o,v,aa=>by
  simp only[bc.de]
  split
  ·rename_i j h
   obtain⟨b,c,n,e,aE⟩:=aa;exact⟨b,c,n,he.row i j _ _ _ h e,aE⟩
  ·trivial
 | .gF i o,v,aa=>by
  simp only[bc.de]
  split
  ·rename_i j h
   obtain⟨b,c,n,e,aE⟩:=aa;exact⟨b,c,n,he.row i j _ _ _ h e,aE⟩
  ·trivial
 | .fx _ _ _,_,aa=>aa
 | .par _ _,_,aa=>aa
 | .ah i,v,aa=>by
  simp only[bc.de]
  split
  ·rename_i j h
   obtain⟨A,c,n,e,aE⟩:=aa;exact⟨A,c,n,he.row i j _ _ _ h e,aE⟩
  ·trivial
 | .a1 _ _ _,_,aa=>aa
 | .fn f ids,v,aa=>by
  simp only[bc.de]
  split
  ·rename_i l h
   obtain⟨vs,aE,ar⟩:=aa;exact⟨vs,aE,e9.de he h ar⟩
  ·trivial
 | .cr i,v,aa=>by
  simp only[bc.de]
  split
  ·rename_i j h
   obtain⟨b,e,aE⟩:=aa;exact⟨b,he.blk i j b h e,aE⟩
  ·trivial
 | .iC f i,v,aa=>by
  simp only[bc.de]
  split
  ·rename_i j h
   obtain⟨b,e,aE⟩:=aa;exact⟨b,he.blk i j b h e,aE⟩
  ·trivial
theorem cm.de:∀ {c:List bc} {v:List Value},cm env B w c v->cm env' B w (rD bI c) v
 | [],_,aa=>aa
 | _ :: _,_,⟨v,r,e,J,U⟩=>⟨v,r,e,dE.de he J,cm.de U⟩
theorem dP.de:∀ {c:bf} {v:Value},dP env B w c v->dP env' B w (c.de bI) v
 | .c _,_,aa=>dE.de he aa
 | .agg _,_,⟨vs,e,J⟩=>⟨vs,e,cm.de he J⟩
 | .arr _ _,_,h=>h
theorem dx.de:∀ {c:List bf} {v:List Value},dx env B w c v->dx env' B w (sR bI c) v
 | [],_,aa=>aa
 | _ :: _,_,⟨v,r,e,J,U⟩=>⟨v,r,e,dP.de he J,dx.de U⟩
theorem ey.de:∀ {c:bZ} {v:Value},ey env B w c v->ey env' B w (c.de bI) v
 | .a _,_,aa=>dP.de he aa
 | .may _ _,_,aa=>⟨fun aM=>dP.de he (aa.1 aM),aa.2⟩
 | .cW _,_,⟨vs,e,J⟩=>⟨vs,e,dx.de he J⟩
theorem ew.de{k j:Nat}:∀ {b:cw} {c:bd},bI b.nU k=some j->ew env B w k b c->ew env' B w j (b.de bI) c
 | .cells _ _,_,h,⟨b,vs,e,aa,J⟩=>⟨b,vs,he.blk k j b h e,aa,cm.de he J⟩
 | .row _ _ _ _,_,h,⟨A,c,xs,e,aa,J⟩=>⟨A,c,xs,he.row k j _ _ _ h e,aa,J⟩
 | .hk _ _,_,h,⟨b,e,aa⟩=>⟨b,he.blk k j b h e,aa⟩
 | .mp _ _ _ _,_,h,⟨b,es,q,e,aa⟩=>⟨b,es,q,he.blk k j b h e,aa⟩
 | .it eZ _ _ _,_,h,⟨b,m,e,hm,aa⟩=>by
  simp only[cw.de]
  split
  ·rename_i jv aX
   exact⟨b,m,he.blk k j b h e,he.blk eZ jv m aX hm,aa⟩
  ·exact⟨b,_,he.blk k j b h e,aa⟩
 | .gT eZ,_,h,⟨b,m,q,e,hm,aa⟩=>by
  simp only[cw.de]
  split
  ·rename_i jv aX
   exact⟨b,m,q,he.blk k j b h e,he.blk eZ jv m aX hm,aa⟩
  ·exact⟨b,_,he.blk k j b h e,aa⟩
 | .jK,_,h,⟨b,o,e,aa⟩=>⟨b,o,he.blk k j b h e,aa⟩
 | .ez el t g l cap i d,_,h,⟨A,c,bJ,cj,c',m,e,aa,J,hi,U,ae⟩=>by
  simp only[cw.de]
  split
  ·rename_i jv aX
   exact⟨A,c,bJ,cj,c',m,he.row k j _ _ _ h e,aa,J,hi,he.row d jv _ _ _ aX U,ae⟩
  ·exact⟨A,c,_,_,_,_,_,he.row k j _ _ _ h e,aa⟩
 | .kc,_,h,⟨A,c,n,t,s,m,xs,e,aa⟩=>⟨A,c,n,t,s,m,xs,he.row k j _ _ _ h e,aa⟩
 | .fr _ _ _,_,h,⟨A,c,e,J⟩=>⟨A,c,he.row k j _ _ _ h e,J⟩
 | .b0 _ _ _ _ _ none,_,h,⟨A,q,bJ,c2,I,e,aa,J,U,ae⟩=>⟨A,q,bJ,c2,I,he.row k j _ _ _ h e,aa,J,U,ae⟩
 | .b0 _ _ _ _ _ (some (i,none)),_,h,⟨A,q,bJ,c2,I,e,aa,J,⟨U,v,aw,_⟩,ae⟩=>⟨A,q,bJ,c2,I,he.row k j _ _ _ h e,aa,J,⟨U,v,aw,fun _ h=>by cases h⟩,ae⟩
 | .b0 _ _ _ _ _ (some (i,some d)),_,h,⟨A,q,bJ,c2,I,e,aa,J,⟨U,v,aw,aF⟩,ae⟩=>by
  simp only[cw.de]
  split
  ·rename_i jv aX
   obtain⟨cj,c',m,aW,bC⟩:=aF d rfl;exact⟨A,q,bJ,c2,I,he.row k j _ _ _ h e,aa,J,⟨U,v,aw,fun fJ ax=>by cases ax; exact⟨cj,c',m,he.row d jv _ _ _ aX aW,bC⟩⟩,ae⟩
  ·exact⟨A,q,bJ,c2,I,he.row k j _ _ _ h e,aa,J,⟨U,v,aw,fun _ h=>by cases h⟩,ae⟩
theorem bp.de:∀ {l:bo} {H:List bd},bp env B w l H->∃ H',H'.Sublist H/\bp env' B w (nn bI l) H'
 | [],_,cB=>⟨[],by rw[show _=[] from cB]; exact List.Sublist.refl _,rfl⟩
 | (k,b) :: l,_,⟨c,H',e,J,U⟩=>by
  obtain⟨H2,al,ae⟩:=bp.de U;subst e;unfold nn
  split
  ·rename_i j h
   exact⟨c :: H2,al.cons_cons _,c,H2,rfl,ew.de he h J,ae⟩
  ·exact⟨H2,al.cons _,ae⟩
omit he in
theorem sS:∀ {l:cJ} {s:Nat} {v:bZ},aS (fA bI l) s=some v->∃ u,aS l s=some u/\v=u.de bI
 | [],_,_,h=>by cases h
 | (k,u) :: l,s,v,h=>by
  unfold fA at h;rw[ct]at h ⊢
  split at h
  ·rename_i e
   cases h;rw[if_pos e];exact⟨u,rfl,rfl⟩
  ·rename_i e
   rw[if_neg e];exact sS h
end
def jh(i j:Nat):hE:=fun _ k=>match Nat.beq k i with
 | true=>some j
 | false=>match Nat.beq k j with
  | true=>none
  | false=>some k
theorem AI{i j:Nat} {env:Nat->Loc}:EU (jh i j) env (iE env j (env i)):=by
 have key:∀ b k k',jh i j b k=some k'->iE env j (env i) k'=env k:=by
  intro b k k' h;unfold jh at h
  split at h
  ·rename_i ai
   cases h
   have:=Nat.eq_of_beq_eq_true ai
   subst this;exact eH
  ·split at h
   ·cases h
   ·rename_i ai
    cases h;exact hU _ (fun e=>by subst e; rw[Nat.beq_refl]at ai; cases ai)
 exact⟨fun k jv b h e=>by rw[key _ _ _ h]; exact e,fun k jv A c n h e=>by rw[key _ _ _ h]; exact e⟩
end
section
def gx(n:Nat):hE:=fun b k=>match b with
 | true=>match Nat.ble n k with
  | true=>some k
  | false=>none
 | false=>match Nat.ble hx k with
  | true=>some k
  | false=>none
theorem LF{n:Nat} {env env':Nat->Loc} (h:∀ id l,n<=id->env id=l->((∃ b,l=.blk b)\/hx<=id)->env' id=l) (bk:n<=hx):EU (gx n) env env':=by
 refine⟨fun k j b ab e=>?_,fun k j A c m ab e=>?_⟩
 ·simp only[gx]at ab
  split at ab
  ·rename_i ai
   cases ab;exact h _ _ (Nat.le_of_ble_eq_true ai) e (.inl ⟨b,rfl⟩)
  ·cases ab
 ·simp only[gx]at ab
  split at ab
  ·rename_i ai
   cases ab
   have:=Nat.le_of_ble_eq_true ai
   exact h _ _ (Nat.le_trans bk this) e (.inr this)
  ·cases ab
def qh:List e8->Bool
 | []=>true
 | .id _ :: _=>false
 | .eS _ _ :: r=>qh r
section
variable {env env':Nat->Loc} {B:Nat->Prop} {w:World}
theorem e9.EV:∀ {cs:List e8} {vs:List Value},qh cs=true->e9 env B w cs vs->e9 env' B w cs vs
 | [],_,_,h=>h
 | .id _ :: _,_,h,_=>by cases h
 | .eS _ _ :: _,_,h,⟨v,r,e,J,U⟩=>⟨v,r,e,J,e9.EV (by simpa [qh] using h) U⟩
theorem e9.any:∀ {cs:List e8} {vs:List Value},e9 (fun _=>.no) B w cs vs->e9 env B w cs vs
 | [],_,h=>h
 | .id _ :: _,_,⟨v,r,e,⟨b,J,_⟩,U⟩=>by cases J
 | .eS _ _ :: _,_,⟨v,r,e,J,U⟩=>⟨v,r,e,J,e9.any U⟩
theorem dE.any:∀ {c:bc} {v:Value},dE (fun _=>.no) B w c v->dE env B w c v
 | .val _,_,aa=>aa
 | .str _,_,aa=>aa
 | .dead,_,aa=>aa
 | .ptr _ _,_,⟨b,h,_⟩=>by cases h
 | .eg _ _ _ _,_,⟨_,_,_,h,_⟩=>by cases h
 | .fx _ _ _,_,aa=>aa
 | .par _ _,_,aa=>aa
 | .ah _,_,⟨_,_,_,h,_⟩=>by cases h
 | .a1 _ _ _,_,aa=>aa
 | .fn _ _,_,⟨vs,J,U⟩=>⟨vs,J,e9.any U⟩
 | .cr _,_,⟨_,h,_⟩=>by cases h
 | .iC _ _,_,⟨_,h,_⟩=>by cases h
 | .gF _ _,_,⟨_,_,_,h,_⟩=>by cases h
 | .iD _ _ _,_,⟨_,_,_,h,_⟩=>by cases h
 | .iQ _,_,⟨_,_,_,h,_⟩=>by cases h
 | .hJ true _,_,⟨_,h,_⟩=>by cases h rfl
 | .hJ false _,_,⟨k,_,h⟩=>⟨k,fun h=>(by cases h),h⟩
theorem cm.any:∀ {c:List bc} {v:List Value},cm (fun _=>.no) B w c v->cm env B w c v
 | [],_,aa=>aa
 | _ :: _,_,⟨v,r,e,J,U⟩=>⟨v,r,e,J.any,U.any⟩
theorem dP.any:∀ {c:bf} {v:Value},dP (fun _=>.no) B w c v->dP env B w c v
 | .c _,_,aa=>dE.any aa
 | .agg _,_,⟨vs,e,J⟩=>⟨vs,e,J.any⟩
 | .arr _ _,_,h=>h
theorem dx.any:∀ {c:List bf} {v:List Value},dx (fun _=>.no) B w c v->dx env B w c v
 | [],_,aa=>aa
 | _ :: _,_,⟨v,r,e,J,U⟩=>⟨v,r,e,J.any,U.any⟩
end
/-! ### Slots: parameters and moves -/
structure Has(n:Nat) (env:Nat->Loc) (B:Nat->Prop) (w:World) (L:cJ) (tmps:Array Value):Prop where
 size:tmps.size=n
 has:∀ s sv,aS L s=some sv->∃ v,tmps[s]?=some v/\ey env B w sv v
def rE:List Nat->List bf->cJ->cJ
 | p :: ps,x :: xs,L=>rE ps xs ((p,.a x) :: L)
 | _,_,L=>L
def qi:List (Nat×Nat)->cJ->cJ
 | [],L=>L
 | (d,s) :: r,L=>match aS L s with
  | some v=>qi r ((d,v) :: L)
  | none=>qi r ((d,.a (.c .dead)) :: L)
def qj:List (Nat×Nat)->Array Value->Array Value
 | [],t=>t
 | (d,s) :: r,t=>qj r (t.setIfInBounds d (t.getD s undef))
def lI(n:Nat):List Nat->Bool
 | []=>true
 | p :: r=>Nat.blt p n&&lI n r
section
variable {n:Nat} {env:Nat->Loc} {B:Nat->Prop} {w:World} {L:cJ} {tmps:Array Value}
theorem Has.set(h:Has n env B w L tmps) {d:Nat} (ax:d < n) {sv:bZ} {v:Value} (aE:ey env B w sv v):Has n env B w ((d,sv) :: L) (tmps.setIfInBounds d v):=by
 refine⟨by simpa using h.size,fun s u hu=>?_⟩;rw[ct]at hu
 split at hu
 ·rename_i e
  subst e;cases hu;exact⟨v,by rw[Array.getElem?_setIfInBounds_self_of_lt (by rw[h.size]; exact ax)],aE⟩
 ·rename_i e
  obtain⟨eO,J,U⟩:=h.has s u hu;exact⟨eO,by rw[Array.getElem?_setIfInBounds_ne (fun cv=>e cv.symm)]; exact J,U⟩
theorem Has.par:∀ {ps:List Nat} {xs:List bf} {vs:List Value} {L:cJ} {tmps:Array Value},Has n env B w L tmps->lI n ps=true->dx env B w xs vs->Has n env B w (rE ps xs L) ((ps.zip vs).foldl (fun t (p,v)=>t.setIfInBounds p v) tmps)
 | [],_,_,_,_,h,_,_=>by cases ‹List bf›<;>exact h
 | _ :: _,[],_,_,_,h,_,ao=>by rw[show _=[] from ao]; exact h
 | p :: ps,x :: xs,_,L,tmps,h,ar,⟨v,r,e,J,U⟩=>by
  subst e;simp only[lI,Bool.and_eq_true]at ar;exact Has.par (ps:=ps) (xs:=xs) (vs:=r) (L:=(p,.a x) :: L) (tmps:=tmps.setIfInBounds p v) (h.set (dB ar.1) (sv:=.a x) J) ar.2 U
theorem Has.c5:∀ {ms:List (Nat×Nat)} {L:cJ} {tmps:Array Value},Has n env B w L tmps->lI n (ms.map (·.1))=true->Has n env B w (qi ms L) (qj ms tmps)
 | [],_,_,h,_=>h
 | (d,s) :: r,L,tmps,h,ar=>by
  simp only[List.map_cons,lI,Bool.and_eq_true]at ar;unfold qi qj
  split
  ·rename_i v aE
   obtain⟨u,J,U⟩:=h.has s v aE;refine Has.c5 (h.set (dB ar.1) ?_) ar.2;rw[Array.getD_eq_getD_getElem?,J];exact U
  ·exact Has.c5 (h.set (dB ar.1) trivial) ar.2
end
def u7(n:Nat):List Oper->Option (List (Nat×Nat))
 | []=>some []
 | o :: r=>match o.guard,o.dst,o.op,u7 n r with
  | none,some d,.assign (.tmp s),some l=>some ((d,s) :: l)
  | none,some d,.move (.tmp s),some l=>some ((d,s) :: l)
  | _,_,_,_=>none
inductive lf (n:Nat):Code->List (Nat×Nat)->Prop where
 | region {id:Nat} {ops:List Oper} {ms:List (Nat×Nat)} (h:u7 n ops=some ms):lf n (.region id ops.toArray false) ms
 | skip:lf n .skip []
 | seq {a b:Code} {m1 m2:List (Nat×Nat)} (J:lf n a m1) (U:lf n b m2):lf n (.seq a b) (m1++m2)
theorem LG:∀ (a b:List (Nat×Nat)) (t:Array Value),qj (a++b) t=qj b (qj a t)
 | [],_,_=>rfl
 | (d,s) :: a,b,t=>LG a b (t.setIfInBounds d (t.getD s undef))
theorem LH{P:Program} {n l:Nat} {ops:Array Oper} {Q:Exit->Act->World->Prop} {w:World}:∀ {os:List Oper} {ms:List (Nat×Nat)} {a:Act},u7 n os=some ms->Q .normal { a with tmps:=qj ms a.tmps } w->pU (some l) P ops Q os a w
 | [],ms,a,h,au=>by cases h; exact DF au
 | o :: os,ms,a,h,au=>by
  have key:∀ d s,o.guard=none->o.dst=some d->(o.op=.assign (.tmp s)\/o.op=.move (.tmp s))->∀ l',u7 n os=some l'->ms=(d,s) :: l'->pU (some l) P ops Q (o :: os) a w:=by
   intro d s aM ax az l' ag lY;subst lY;refine q0 (.inl ⟨by simp[Region.wanted,aM],.inl ⟨a.eval (.tmp s),w,?_,LH ag ?_⟩⟩)
   ·rcases az with az | az<;>simp[execOp,az]
   ·rw[ax]
    exact au
  unfold u7 at h
  split at h
  ·rename_i d s l' aM ax az ag
   cases h;exact key d s aM ax (.inl az) l' ag rfl
  ·rename_i d s l' aM ax az ag
   cases h;exact key d s aM ax (.inr az) l' ag rfl
  ·cases h
theorem lf.ok{P:Program} {n l:Nat} {c:Code} {ms:List (Nat×Nat)} {w:World} (h:lf n c ms):∀ {Q:Exit->Act->World->Prop} {a:Act},Q .normal { a with tmps:=qj ms a.tmps } w->ky (some l) P c Q a w:=by
 induction h with
 | region h=>exact fun au=>DM (LH h au)
 | skip=>exact fun au=>J6 au
 | seq J U EW EX=>exact fun au=>R6 fun K bT=>EW (bT _ _ (EX (by rw[LG]at au; exact au)))
end
section
def LI:Exit->Option Code
 | .ret=>some .ret
 | .exit id=>some (.exit id)
 | _=>none
def AJ:Exit->Bool
 | .normal=>true
 | .ret=>true
 | .exit _=>true
 | _=>false
section
variable {X:bl} {R:Nat->Prop} {W:World} {aD:e5} {n:Nat} {ks:List Nat} {env:Nat->Loc} {B:Nat->Prop} {ak:World} {H:List bd} {st:aK} {a:Act} {w:World}
def l3(n:Nat) (env:Nat->Loc):Nat->Loc->Prop:=fun id l=>n<=id/\env id=l/\((∃ b,l=.blk b)\/hx<=id)
theorem bB.LJ(h:bB X R W aD n ks env B ak H st a w):bB X (fun k=>R k\/B k) w ⟨B,l3 n env,aD.d⟩ n ks env B w H st a w:=by
 have c4:fv B ak B w:=⟨fun _ h=>h,fun k ab=>h.aJ.below.block k (.inr ab)⟩
 refine⟨h.size,h.defs,fun s sv al=>?_,h.heap.up c4,?_,fun _ h=>h,fun _ h=>.inl h,fun _ _ h=>h,da.refl _ _,fun i x ao=>(h.dT i x ao).up c4⟩
 ·obtain⟨v,J,U⟩:=h.has s sv al
  exact⟨v,J,U.up c4⟩
 ·exact⟨da.refl _ _,fun k ab=>h.aJ.base k (ab.elim (fun h=>h) .inr),fun c aa=>(h.aJ.ok c aa).base fun b ai ab=>((h.aJ.ok c aa).lt ai).1 (ab.elim (fun h=>h) .inr),h.aJ.apart⟩
theorem bB.T6{env':Nat->Loc} {B':Nat->Prop} {cy:World} {H':List bd} {st':aK} {aQ:Act} {w':World} {LK:List Nat} (h:bB X R W aD n ks env B ak H st a w) (aN:bB X (fun k=>R k\/B k) w ⟨B,l3 n env,aD.d⟩ n LK env' B' cy H' st' aQ w'):bB X R W aD n LK env' B' cy H' st' aQ w':=by
 refine⟨aN.size,aN.defs,aN.has,aN.heap,?_,fun k ab=>aN.sub k (h.sub k ab),fun k ab=>?_,fun id l ar=>?_,?_,aN.dT⟩
 ·exact⟨⟨aN.aJ.below.os,aN.aJ.below.tape,aN.aJ.below.output,aN.aJ.below.size,fun k ab=>aN.aJ.below.block k (ab.imp .inl id)⟩,fun k ab=>aN.aJ.base k (ab.imp .inl id),fun c aa=>(aN.aJ.ok c aa).base fun b ai ab=>((aN.aJ.ok c aa).lt ai).1 (ab.imp .inl id),aN.aJ.apart⟩
 ·have jz:∀ q,B q->cy.heap[q]?=ak.heap[q]?:=fun q au=>(aN.base.block q (.inr au)).trans (h.aJ.below.block q (.inr au))
  rcases aN.new k ab with J | J
  ·exact(h.new k J).imp_right fun U=>⟨U.1,U.2.dY (jz k J)⟩
  ·exact .inr ⟨fun fV=>J.1 (.inl fV),J.2⟩
 ·obtain⟨J,U,ae⟩:=h.dj id l ar
  exact⟨J,(aN.dj id l ⟨J,U,ae⟩).2.1,ae⟩
 ·exact h.base.trans ⟨h.aJ.below.os.symm ▸ aN.base.os,h.aJ.below.tape ▸ aN.base.tape,h.aJ.below.output ▸ aN.base.output,Nat.le_trans h.aJ.below.size aN.base.size,fun k ab=>(aN.base.block k (.inl ab)).trans (h.aJ.below.block k (.inl ab))⟩
theorem bB.round(h:bB X R W aD n ks env B ak H st a w) {dR:cJ} {t:Array Value} (eF:Has n env B w dR t):bB X (fO w H) w ⟨B,l3 n env,[]⟩ n [] env B w H ⟨dR,st.H⟩ { tmps:=t,defers:=[] } w:=by
 have c4:fv B ak B w:=⟨fun _ h=>h,fun k ab=>h.aJ.below.block k (.inr ab)⟩
 have al:bA (fun k=>R k\/B k) ak H w:=h.aJ.er (List.sublist_append_left _ _);refine⟨eF.size,rfl,eF.has,h.heap.up c4,?_,fun _ h=>h,fun _ h=>.inl h,fun _ _ h=>h,da.refl _ _,fun i x ao=>(h.dT i x ao).up c4⟩;have J:=al.rest;simp only[List.map_nil,List.append_nil];exact⟨da.refl _ _,fun k ab=>ab.elim (fun h=>h.1) (fun h=>al.base k (.inr h)),fun c aa=>(J.ok c aa).base fun b ai ab=>ab.elim (fun h=>((J.ok c aa).lt ai).1 h) (fun h=>((al.ok c aa).lt ai).1 (.inr h)),J.apart⟩
theorem bB.T7{env':Nat->Loc} {B':Nat->Prop} {cy:World} {H':List bd} {st':aK} {aQ:Act} {w':World} (h:bB X R W aD n ks env B ak H st a w) (aN:bB X (fO w H) w ⟨B,l3 n env,[]⟩ n [] env' B' cy H' st' aQ w') {L:cJ} (eF:∀ s sv,aS L s=some sv->∃ v,a.tmps[s]?=some v/\ey env' B' cy sv v):bB X R W aD n ks env' B' cy H' ⟨L,st'.H⟩ a w':=by
 have al:bA (fun k=>R k\/B k) ak H w:=h.aJ.er (List.sublist_append_left _ _);have ia:∀ k,R k\/B k->fO w H k:=fun k ab=>⟨al.base k ab,fun c aa e=>((al.ok c aa).lt e).1 ab⟩
 have c4:fv B ak B' cy:=⟨aN.sub,fun k ab=>(aN.base.block k (ia k (.inr ab))).trans (h.aJ.below.block k (.inr ab))⟩
 have dU:=aN.aJ;simp only[List.map_nil,List.append_nil]at dU;have aA:bA (fO w H) w H' w':=⟨aN.base.trans ⟨dU.below.os,dU.below.tape,dU.below.output,dU.below.size,fun k ab=>dU.below.block k (.inl ab)⟩,fun k ab=>dU.base k (.inl ab),fun c aa=>(dU.ok c aa).base fun b ai ab=>((dU.ok c aa).lt ai).1 (.inl ab),dU.apart⟩
 have kz:=h.aJ.frame aA;have jP:=List.pairwise_append.1 h.aJ.apart;refine⟨h.size,h.defs,eF,aN.heap,⟨⟨dU.below.os,dU.below.tape,dU.below.output,dU.below.size,fun k ab=>dU.below.block k (ab.imp (fun h=>ia k (.inl h)) id)⟩,fun k ab=>dU.base k (ab.imp (fun h=>ia k (.inl h)) id),fun c aa=>(kz.ok c aa).base fun b ai ab=>?_,kz.apart⟩,fun k ab=>aN.sub k (h.sub k ab),fun k ab=>?_,fun id l ar=>?_,?_,fun i x ao=>(h.dT i x ao).up c4⟩
 ·rcases ab with ab | ab
  ·exact((kz.ok c aa).lt ai).1 (.inl ab)
  ·rcases List.mem_append.1 aa with eT | eT
   ·exact((dU.ok c eT).lt ai).1 (.inr ab)
   ·rcases aN.new b ab with J | J
    ·exact((kz.ok c aa).lt ai).1 (.inr J)
    ·exact J.1 ⟨((h.aJ.ok c (List.mem_append_right _ eT)).lt ai).2,fun c' T8 e=>jP.2.2 c' T8 c eT b e ai⟩
 ·rcases aN.new k ab with J | J
  ·exact(h.new k J).imp_right fun U=>⟨U.1,U.2.dY (c4.2 k J)⟩
  ·exact .inr ⟨fun fV=>J.1 (ia k (.inl fV)),J.2⟩
 ·obtain⟨J,U,ae⟩:=h.dj id l ar
  exact⟨J,(aN.dj id l ⟨J,U,ae⟩).2.1,ae⟩
 ·exact h.base.trans ⟨aN.base.os.trans h.aJ.below.os,aN.base.tape.trans h.aJ.below.tape,aN.base.output.trans h.aJ.below.output,Nat.le_trans h.aJ.below.size aN.base.size,fun k ab=>(aN.base.block k (ia k (.inl ab))).trans (h.aJ.below.block k (.inl ab))⟩
end
end
section
section
variable {X:bl} {R:Nat->Prop} {W:World} {aD:e5} {n:Nat} {ks:List Nat} {B:Nat->Prop} {ak:World} {r:Option Nat} {ops:List Oper} {Q:Exit->Act->World->Prop}
end
section
variable {X:bl} {B:Nat->Prop} {n:Nat} {L dR:cJ} {b7:World} {a:Act} {w:World} {Q:Exit->Act->World->Prop}
theorem LL{D:List Deferred} {M:List (Nat×Value)} (aI:c9 n D M a) {us:List Operand} {vs:List Value} (h:iA M us=some vs):us.toArray.map a.eval=vs.toArray:=by
 have:=aI.iA h
 simp[this]
end
end
section
def u9(id:Nat):Nat->List bc->List bc
 | 0,.val (.slice none 0 0) :: r=>.ah id :: r
 | p+1,c :: r=>c :: u9 id p r
 | _,cs=>cs
def ji(k p id:Nat):bo->bo
 | []=>[]
 | (j,.cells t cs) :: r=>match Nat.beq j k with
  | true=>(j,.cells t (u9 id p cs)) :: r
  | false=>(j,.cells t cs) :: ji k p id r
 | b :: r=>b :: ji k p id r
section
variable {env:Nat->Loc} {B:Nat->Prop} {w:World} {id:Nat} (he:env id=.row none 0 0)
include he
theorem cm.u9:∀ {p:Nat} {cs:List bc} {vs:List Value},cm env B w cs vs->cm env B w (u9 id p cs) vs:=by
 intro p
 induction p with
 | zero=>
  intro cs vs h;unfold Go.Proofs.YtcheedjfedcbpaaGreatDoor.u9
  split
  ·obtain⟨v,r,e,J,U⟩:=h
   exact⟨v,r,e,⟨none,0,0,he,J⟩,U⟩
  ·omega
  ·exact h
 | succ p bx=>
  intro cs vs h;cases cs with
  | nil=>exact h
  | cons c r=>
   obtain⟨v,q,e,J,U⟩:=h;exact⟨v,q,e,J,bx U⟩
theorem bp.ji{k p:Nat}:∀ {l:bo} {H:List bd},bp env B w l H->bp env B w (ji k p id l) H
 | [],_,h=>h
 | (j,.cells t cs) :: r,_,⟨c,H',e,J,U⟩=>by
  unfold Go.Proofs.YtcheedjfedcbpaaGreatDoor.ji
  split
  ·obtain⟨b,vs,ae,aw,aF⟩:=J
   exact⟨c,H',e,⟨b,vs,ae,aw,cm.u9 he aF⟩,U⟩
  ·exact⟨c,H',e,J,bp.ji U⟩
 | (j,.row _ _ _ _) :: r,_,⟨c,H',e,J,U⟩=>⟨c,H',e,J,bp.ji U⟩
 | (j,.hk _ _) :: r,_,⟨c,H',e,J,U⟩=>⟨c,H',e,J,bp.ji U⟩
 | (j,.mp _ _ _ _) :: r,_,⟨c,H',e,J,U⟩=>⟨c,H',e,J,bp.ji U⟩
 | (j,.it _ _ _ _) :: r,_,⟨c,H',e,J,U⟩=>⟨c,H',e,J,bp.ji U⟩
 | (j,.gT _) :: r,_,⟨c,H',e,J,U⟩=>⟨c,H',e,J,bp.ji U⟩
 | (j,.jK) :: r,_,⟨c,H',e,J,U⟩=>⟨c,H',e,J,bp.ji U⟩
 | (j,.ez _ _ _ _ _ _ _) :: r,_,⟨c,H',e,J,U⟩=>⟨c,H',e,J,bp.ji U⟩
 | (j,.kc) :: r,_,⟨c,H',e,J,U⟩=>⟨c,H',e,J,bp.ji U⟩
 | (j,.fr _ _ _) :: r,_,⟨c,H',e,J,U⟩=>⟨c,H',e,J,bp.ji U⟩
 | (j,.b0 _ _ _ _ _ _) :: r,_,⟨c,H',e,J,U⟩=>⟨c,H',e,J,bp.ji U⟩
end
theorem cA.nV{X:bl} {n:Nat} {st:aK} (k p id:Nat) (t:TypeId) (g:aR) (hid:Nat.blt id n=true):cA X n st ⟨eN id .dead st.L,(id,.row t g [] none) :: ji k p id (du id .dead st.H)⟩:=fun R W aD M a w ⟨ks,env,B,ak,H,b2,h⟩=>by
 obtain⟨H2,J,U⟩:=h.heap.del (z:=.dead) (hU (env:=env) (id:=id) (l:=.row none 0 0)) (fun _ _=>trivial);refine⟨ks,iE env id (.row none 0 0),B,ak,.row none 0 t g.size 0 [] :: H2,b2,h.size,h.defs,fun q u hu=>?_,⟨_,H2,rfl,⟨none,0,[],eH,rfl,rfl,fun _ au=>by cases au⟩,bp.ji eH U⟩,(h.aJ.o6 t g.size).er ((J.append_right _).cons_cons _),h.sub,h.new,pc h.dj (fun q ar=>by have J:=(h.dj _ _ ar).1; have U:=dB hid; omega),h.base,h.dT⟩;obtain⟨hz,hA,rfl⟩:=lU hu;obtain⟨eO,aW,bC⟩:=h.has q hz hA;exact⟨eO,aW,ey.sub (z:=.dead) hU (fun _ _=>trivial) bC⟩
end
theorem AC.LM{X:bl} {f:FuncId} {args:List bf} {sv:bZ} {v0:Value} (ir:∀ env B w,ey env B w sv v0)
  (fV:∀ (env:Nat->Loc) (B:Nat->Prop) (ak:World) (vs:List Value) (W:World),uT X B W->dx env B W args vs->(∀ k,B k->k < W.heap.size)->oh X.P f vs.toArray W (fun v w'=>v=v0/\Below W.heap.size W w')):AC X f args [] (fun s h=>s=sv/\h=[]):=by
 intro B ak env vs H W aM bq cB al;have e:H=[]:=cB;subst e;have c4:fv B ak B W:=⟨fun _ h=>h,al.below.block⟩
 refine(fV env B ak vs W (fun i x ao=>(aM i x ao).up c4) (bq.up c4) al.base).mono ?_;rintro v w' ⟨rfl,ai⟩;refine⟨env,B,W,[],sv,[],⟨rfl,rfl⟩,fun _ h=>h,fun _ h=>.inl h,da.refl _ _,ir _ _ _,rfl,⟨⟨ai.os,ai.tape,ai.output,ai.size,fun k ab=>ai.block k (ab.elim (fun h=>h.1) (al.base k))⟩,fun k ab=>Nat.lt_of_lt_of_le (ab.elim (fun h=>h.1) (al.base k)) ai.size,(fun _ h=>by cases h),List.Pairwise.nil⟩,fun _ _ _ h=>h⟩
theorem LN{env:Nat->Loc} {B:Nat->Prop} {w:World} {g:aR} {v:Value} (h:dP env B w (.c (.val (.slice none 0 0))) v):dP env B w (.c (.a1 g [] (some 0))) v:=by
 have e:v=_:=h;subst e;exact⟨none,0,[],rfl,Nat.le_refl _,Nat.zero_le _,fun _ h=>by cases h; rfl,rfl,Reads.nil _ _ _,fun _ _ h=>absurd h (Nat.lt_irrefl 0)⟩
theorem EY{B:Nat->Prop} {w:World} {k:IntKind}:∀ {l:List Int} {vs:List Value},Flat (bt B w (.int k)) l vs->vs=l.map fun z=>Value.int k z
 | [],_,h=>h
 | x :: l,_,⟨v1,v2,e,J,U⟩=>by rw[e,show v1=_ from J,EY U]; rfl
theorem LO{B:Nat->Prop} {w:World}:∀ {l:List (List UInt8)} {vs:List Value},Flat (bt B w .str) l vs->vs=l.map eW
 | [],_,h=>h
 | x :: l,_,⟨v1,v2,e,J,U⟩=>by rw[e,show v1=_ from J,LO U]; rfl
theorem q8.T9{P:Program} {B:Nat->Prop} {w:World} {i:Nat} {k:IntKind} {zs:List Int} (h:q8 B w i ⟨.int k,zs⟩) {name:String} (bk:P.globalNamed name=some i):Lib.TabIs P w name k zs:=by
 obtain⟨⟨b,o,vs,e,ai,aA,aa⟩,cs,t,dH,J,U⟩:=h;cases e;have pd:=EY aA;unfold Lib.TabIs World.var?;rw[bk];simp only[Option.bind_some,J,Option.some.injEq];have ag:cs.size=vs.length:=by rw[U,pd]; simp[aR.size]
 rw[<- pd]
 apply Array.ext (by simpa using ag)
 intro j EZ Ua;have aX:j < vs.length:=by simpa using Ua
 have:=aa j vs[j] (List.getElem?_eq_getElem aX)
 simp only[Nat.zero_add,World.cell?,J]at this;rw[Array.getElem?_eq_getElem EZ]at this
 simpa using this
def fM(d:TypeDesc)(s b:Nat)(z:Value)(g:Option aR):a6:=⟨⟨d,s,b,z⟩,g⟩
def km(k:IntKind)(b:Nat):a6:=fM (.int k) 1 b (.int k 0) (some (.int k))
def cD(a r:Array TypeId)(v:Bool):a6:=fM (.func a r v) 1 8 .nilFunc none
def rF(t:TypeId):a6:=fM (.pointer t) 1 8 (.pointer none) none
def jT(t:TypeId)(g:Option aR):a6:=fM (.slice t) 1 24 (.slice none 0 0) g
def cF(n:String)(t:TypeId)(o b:Nat):Field:=⟨n,t,o,false,"","",b⟩
def hP(f:Array Field)(s b:Nat)(g:aR):a6:=fM (.struct f) s b (.agg g.ev.toArray) (some g)
theorem ch{P:Program} {t:TypeId} {d:TypeDesc} {s b:Nat} {z:Value} (h:P.underlying t=some d) (U:(P.info? t).map (fun x=>(x.size,x.bytes,x.zero))=some (s,b,some z)):a6.ok P t (fM d s b z none):=⟨⟨h,U⟩,fun g aM=>by cases aM⟩
theorem dr{P:Program} {t:TypeId} {d:TypeDesc} {s b:Nat} {z:Value} {g:aR} (h:P.underlying t=some d) (U:(P.info? t).map (fun x=>(x.size,x.bytes,x.zero))=some (s,b,some z)) (ae:g.size=s) (aw:z.cells.toList=g.ev) (aF:Nat.blt 0 s=true):a6.ok P t (fM d s b z (some g)):=⟨⟨h,U⟩,fun g' aM=>by cases aM;exact⟨ae,aw,ae ▸ dB aF⟩⟩
def Ub:a6:=cD #[] #[] false
def Uc:a6:=km .i64 8
def Ud:a6:=km .i64 8
def Ue:a6:=fM (.bool) 1 1 (.bool false) (some (.bool))
def Uf:a6:=km .u8 1
def Ug:a6:=km .u8 1
def Uh:a6:=fM (.string) 1 16 (.string { data:=#[] }) (some (.str))
def Ui:a6:=fM (.string) 1 16 (.string { data:=#[] }) (some (.str))
def Uj:a6:=fM (.string) 1 16 (.string { data:=#[] }) (some (.str))
def Uk:a6:=km .u64 8
def Ul:a6:=rF 320
def Um:a6:=rF 323
def Un:a6:=rF 331
def Uo:a6:=fM (.interface #[]) 1 16 (.nilIface) none
def Up:a6:=km .i32 4
def Uq:a6:=jT 84 (some (.ah (.pair (.int .u8) (.pair (.int .u8) (.int .u8)))))
def Ur:a6:=jT 84 (some (.ah (.pair (.int .u8) (.pair (.int .u8) (.int .u8)))))
def Us:a6:=jT 3 (some (.ah (.int .i64)))
def Ut:a6:=cD #[4] #[24,24,24] false
def Uu:a6:=jT 34 (some (.ah (.ah (.pair (.int .u8) (.int .i64)))))
def Uv:a6:=hP #[cF "Front" 27 0 0,cF "Back" 27 1 24] 2 48 (.pair (.ah (.ah (.pair (.int .u8) (.int .i64)))) (.ah (.ah (.pair (.int .u8) (.int .i64)))))
def Uw:a6:=hP #[cF "Front" 27 0 0,cF "Back" 27 1 24] 2 48 (.pair (.ah (.ah (.pair (.int .u8) (.int .i64)))) (.ah (.ah (.pair (.int .u8) (.int .i64)))))
def Ux:a6:=jT 73 (some (.ah (.pair (.bool) (.pair (.int .i64) (.pair (.int .i64) (.pair (.bool) (.ah (.pair (.pair (.int .u8) (.int .i64)) (.pair (.bool) (.int .u8))))))))))
def Uy:a6:=jT 118 (some (.ah (.ah (.pair (.int .u8) (.pair (.bool) (.pair (.ah (.pair (.int .u8) (.int .i64))) (.ah (.pair (.pair (.int .u8) (.int .i64)) (.pair (.bool) (.int .u8))))))))))
def Uz:a6:=jT 118 (some (.ah (.ah (.pair (.int .u8) (.pair (.bool) (.pair (.ah (.pair (.int .u8) (.int .i64))) (.ah (.pair (.pair (.int .u8) (.int .i64)) (.pair (.bool) (.int .u8))))))))))
def UA:a6:=jT 124 (some (.ah (.pair (.pair (.int .u8) (.int .i64)) (.pair (.pair (.int .u8) (.int .i64)) (.int .i64)))))
def UB:a6:=jT 102 (some (.ah (.pair (.int .u8) (.int .i64))))
def UC:a6:=hP #[cF "Yarns" 32 0 0,cF "Crossings" 33 1 24,cF "Held" 34 2 48,cF "Fallen" 34 3 72] 4 96 (.pair (.ah (.ah (.pair (.int .u8) (.pair (.bool) (.pair (.ah (.pair (.int .u8) (.int .i64))) (.ah (.pair (.pair (.int .u8) (.int .i64)) (.pair (.bool) (.int .u8))))))))) (.pair (.ah (.pair (.pair (.int .u8) (.int .i64)) (.pair (.pair (.int .u8) (.int .i64)) (.int .i64)))) (.pair (.ah (.pair (.int .u8) (.int .i64))) (.ah (.pair (.int .u8) (.int .i64))))))
def UD:a6:=hP #[cF "Yarns" 32 0 0,cF "Crossings" 33 1 24,cF "Held" 34 2 48,cF "Fallen" 34 3 72] 4 96 (.pair (.ah (.ah (.pair (.int .u8) (.pair (.bool) (.pair (.ah (.pair (.int .u8) (.int .i64))) (.ah (.pair (.pair (.int .u8) (.int .i64)) (.pair (.bool) (.int .u8))))))))) (.pair (.ah (.pair (.pair (.int .u8) (.int .i64)) (.pair (.pair (.int .u8) (.int .i64)) (.int .i64)))) (.pair (.ah (.pair (.int .u8) (.int .i64))) (.ah (.pair (.int .u8) (.int .i64))))))
def UE:a6:=hP #[cF "Rack" 3 0 0,cF "Beds" 29 1 8,cF "Yarns" 30 3 56,cF "Fabric" 36 4 80] 8 176 (.pair (.int .i64) (.pair (.pair (.ah (.ah (.pair (.int .u8) (.int .i64)))) (.ah (.ah (.pair (.int .u8) (.int .i64))))) (.pair (.ah (.pair (.bool) (.pair (.int .i64) (.pair (.int .i64) (.pair (.bool) (.ah (.pair (.pair (.int .u8) (.int .i64)) (.pair (.bool) (.int .u8))))))))) (.pair (.ah (.ah (.pair (.int .u8) (.pair (.bool) (.pair (.ah (.pair (.int .u8) (.int .i64))) (.ah (.pair (.pair (.int .u8) (.int .i64)) (.pair (.bool) (.int .u8))))))))) (.pair (.ah (.pair (.pair (.int .u8) (.int .i64)) (.pair (.pair (.int .u8) (.int .i64)) (.int .i64)))) (.pair (.ah (.pair (.int .u8) (.int .i64))) (.ah (.pair (.int .u8) (.int .i64)))))))))
def UF:a6:=hP #[cF "Rack" 3 0 0,cF "Beds" 29 1 8,cF "Yarns" 30 3 56,cF "Fabric" 36 4 80] 8 176 (.pair (.int .i64) (.pair (.pair (.ah (.ah (.pair (.int .u8) (.int .i64)))) (.ah (.ah (.pair (.int .u8) (.int .i64))))) (.pair (.ah (.pair (.bool) (.pair (.int .i64) (.pair (.int .i64) (.pair (.bool) (.ah (.pair (.pair (.int .u8) (.int .i64)) (.pair (.bool) (.int .u8))))))))) (.pair (.ah (.ah (.pair (.int .u8) (.pair (.bool) (.pair (.ah (.pair (.int .u8) (.int .i64))) (.ah (.pair (.pair (.int .u8) (.int .i64)) (.pair (.bool) (.int .u8))))))))) (.pair (.ah (.pair (.pair (.int .u8) (.int .i64)) (.pair (.pair (.int .u8) (.int .i64)) (.int .i64)))) (.pair (.ah (.pair (.int .u8) (.int .i64))) (.ah (.pair (.int .u8) (.int .i64)))))))))
def UG:a6:=cD #[24,24] #[38] false
def UH:a6:=jT 57 (some (.ah (.pair (.int .u8) (.pair (.int .u8) (.pair (.pair (.int .u8) (.int .i64)) (.pair (.int .u8) (.int .i64)))))))
def UI:a6:=km .i64 8
def UJ:a6:=cD #[24,24] #[40,41] false
def UK:a6:=cD #[38,40] #[38,3,41] false
def UL:a6:=cD #[29,50] #[34] false
def UM:a6:=km .u8 1
def UN:a6:=hP #[cF "Bed" 48 0 0,cF "At" 3 1 8] 2 16 (.pair (.int .u8) (.int .i64))
def UO:a6:=hP #[cF "Bed" 48 0 0,cF "At" 3 1 8] 2 16 (.pair (.int .u8) (.int .i64))
def UP:a6:=cD #[] #[4] false
def UQ:a6:=cD #[23,4] #[4] false
def UR:a6:=jT 50 (some (.ah (.pair (.int .u8) (.int .i64))))
def US:a6:=km .u8 1
def UT:a6:=km .u8 1
def UU:a6:=hP #[cF "Kind" 54 0 0,cF "Dir" 55 1 1,cF "Needle" 50 2 8,cF "Yarn" 5 4 24,cF "Rack" 3 5 32] 6 40 (.pair (.int .u8) (.pair (.int .u8) (.pair (.pair (.int .u8) (.int .i64)) (.pair (.int .u8) (.int .i64)))))
def UW:a6:=hP #[cF "Kind" 54 0 0,cF "Dir" 55 1 1,cF "Needle" 50 2 8,cF "Yarn" 5 4 24,cF "Rack" 3 5 32] 6 40 (.pair (.int .u8) (.pair (.int .u8) (.pair (.pair (.int .u8) (.int .i64)) (.pair (.int .u8) (.int .i64)))))
def UX:a6:=cD #[53] #[40,41] false
def UY:a6:=cD #[29,29] #[4] false
def UZ:a6:=cD #[36,36] #[4] false
def U0:a6:=cD #[23,5] #[4] false
def U1:a6:=cD #[23] #[24] false
def U2:a6:=cD #[5,24] #[40,41] false
def U3:a6:=cD #[] #[38] false
def U4:a6:=jT 137 (some (.ah (.pair (.int .u8) (.ah (.pair (.int .u8) (.int .i64))))))
def U5:a6:=hP #[cF "Slots" 65 0 0,cF "Yarns" 30 1 24,cF "Fabric" 36 2 48,cF "Dir" 55 6 144] 7 152 (.pair (.ah (.pair (.int .u8) (.ah (.pair (.int .u8) (.int .i64))))) (.pair (.ah (.pair (.bool) (.pair (.int .i64) (.pair (.int .i64) (.pair (.bool) (.ah (.pair (.pair (.int .u8) (.int .i64)) (.pair (.bool) (.int .u8))))))))) (.pair (.pair (.ah (.ah (.pair (.int .u8) (.pair (.bool) (.pair (.ah (.pair (.int .u8) (.int .i64))) (.ah (.pair (.pair (.int .u8) (.int .i64)) (.pair (.bool) (.int .u8))))))))) (.pair (.ah (.pair (.pair (.int .u8) (.int .i64)) (.pair (.pair (.int .u8) (.int .i64)) (.int .i64)))) (.pair (.ah (.pair (.int .u8) (.int .i64))) (.ah (.pair (.int .u8) (.int .i64)))))) (.int .u8))))
def U6:a6:=hP #[cF "Slots" 65 0 0,cF "Yarns" 30 1 24,cF "Fabric" 36 2 48,cF "Dir" 55 6 144] 7 152 (.pair (.ah (.pair (.int .u8) (.ah (.pair (.int .u8) (.int .i64))))) (.pair (.ah (.pair (.bool) (.pair (.int .i64) (.pair (.int .i64) (.pair (.bool) (.ah (.pair (.pair (.int .u8) (.int .i64)) (.pair (.bool) (.int .u8))))))))) (.pair (.pair (.ah (.ah (.pair (.int .u8) (.pair (.bool) (.pair (.ah (.pair (.int .u8) (.int .i64))) (.ah (.pair (.pair (.int .u8) (.int .i64)) (.pair (.bool) (.int .u8))))))))) (.pair (.ah (.pair (.pair (.int .u8) (.int .i64)) (.pair (.pair (.int .u8) (.int .i64)) (.int .i64)))) (.pair (.ah (.pair (.int .u8) (.int .i64))) (.ah (.pair (.int .u8) (.int .i64)))))) (.int .u8))))
def U7:a6:=cD #[5,3] #[67,41] false
def U8:a6:=cD #[73,73] #[4] false
def U9:a6:=jT 116 (some (.ah (.pair (.pair (.int .u8) (.int .i64)) (.pair (.bool) (.int .u8)))))
def Va:a6:=hP #[cF "In" 4 0 0,cF "Place" 3 1 8,cF "Count" 3 2 16,cF "New" 4 3 24,cF "Pending" 71 4 32] 5 56 (.pair (.bool) (.pair (.int .i64) (.pair (.int .i64) (.pair (.bool) (.ah (.pair (.pair (.int .u8) (.int .i64)) (.pair (.bool) (.int .u8))))))))
def Vb:a6:=hP #[cF "In" 4 0 0,cF "Place" 3 1 8,cF "Count" 3 2 16,cF "New" 4 3 24,cF "Pending" 71 4 32] 5 56 (.pair (.bool) (.pair (.int .i64) (.pair (.int .i64) (.pair (.bool) (.ah (.pair (.pair (.int .u8) (.int .i64)) (.pair (.bool) (.int .u8))))))))
def Vc:a6:=cD #[50,3] #[3] false
def Vd:a6:=fM (.array 2 5) 2 2 (.agg #[.int .u8 0,.int .u8 0]) (some (.pair (.int .u8) (.int .u8)))
def Ve:a6:=cD #[73,3,71] #[73,41] false
def Vf:a6:=cD #[73,55] #[73,41] false
def Vg:a6:=fM (.array 3 5) 3 3 (.agg #[.int .u8 0,.int .u8 0,.int .u8 0]) (some (.pair (.int .u8) (.pair (.int .u8) (.int .u8))))
def Vh:a6:=cD #[24] #[41] false
def Vi:a6:=fM (.struct #[{ name := "ops",type := 40,offset := 0,embedded := false,tag := "",pkgPath := "gansey/shifts",byteOffset := 0 },{ name := "rack",type := 3,offset := 1,embedded := false,tag := "",pkgPath := "gansey/shifts",byteOffset := 24 }]) 2 32 (.agg #[.slice none 0 0,.int .i64 0]) (some (.pair (.ah (.pair (.int .u8) (.pair (.int .u8) (.pair (.pair (.int .u8) (.int .i64)) (.pair (.int .u8) (.int .i64)))))) (.int .i64)))
def Vj:a6:=fM (.struct #[{ name := "ops",type := 40,offset := 0,embedded := false,tag := "",pkgPath := "gansey/shifts",byteOffset := 0 },{ name := "rack",type := 3,offset := 1,embedded := false,tag := "",pkgPath := "gansey/shifts",byteOffset := 24 }]) 2 32 (.agg #[.slice none 0 0,.int .i64 0]) (some (.pair (.ah (.pair (.int .u8) (.pair (.int .u8) (.pair (.pair (.int .u8) (.int .i64)) (.pair (.int .u8) (.int .i64)))))) (.int .i64)))
def Vk:a6:=cD #[24,3] #[] false
def Vl:a6:=cD #[3] #[3] false
def Vm:a6:=cD #[163] #[] false
def Vn:a6:=cD #[163] #[] false
def Vo:a6:=cD #[24] #[91] false
def Vp:a6:=cD #[3] #[] false
def Vq:a6:=cD #[40] #[40] false
def Vr:a6:=cD #[38] #[41] false
def Vs:a6:=rF 172
def Vt:a6:=cD #[38] #[96] false
def Vu:a6:=fM (.map 54 174) 1 8 (.map none) none
def Vv:a6:=cD #[] #[98] false
def Vw:a6:=cD #[98,57] #[41] false
def Vx:a6:=hP #[cF "Yarn" 5 0 0,cF "N" 3 1 8] 2 16 (.pair (.int .u8) (.int .i64))
def Vy:a6:=hP #[cF "Yarn" 5 0 0,cF "N" 3 1 8] 2 16 (.pair (.int .u8) (.int .i64))
def Vz:a6:=cD #[50] #[41] false
def VA:a6:=cD #[34] #[34] false
def VB:a6:=jT 24 (some (.ah (.ah (.int .i64))))
def VC:a6:=jT 9 (some (.ah (.str)))
def VD:a6:=cD #[40] #[9] false
def VE:a6:=cD #[40] #[] true
def VF:a6:=cD #[27,27,46] #[4] false
def VG:a6:=cD #[27] #[3] false
def VH:a6:=cD #[27,27] #[4] false
def VI:a6:=hP #[cF "Bed" 48 0 0,cF "New" 4 1 1,cF "Through" 34 2 8,cF "Past" 71 3 32] 4 56 (.pair (.int .u8) (.pair (.bool) (.pair (.ah (.pair (.int .u8) (.int .i64))) (.ah (.pair (.pair (.int .u8) (.int .i64)) (.pair (.bool) (.int .u8)))))))
def VJ:a6:=hP #[cF "Bed" 48 0 0,cF "New" 4 1 1,cF "Through" 34 2 8,cF "Past" 71 3 32] 4 56 (.pair (.int .u8) (.pair (.bool) (.pair (.ah (.pair (.int .u8) (.int .i64))) (.ah (.pair (.pair (.int .u8) (.int .i64)) (.pair (.bool) (.int .u8)))))))
def VK:a6:=cD #[71,71] #[4] false
def VL:a6:=hP #[cF "Id" 102 0 0,cF "Front" 4 2 16,cF "Dir" 55 3 17] 4 24 (.pair (.pair (.int .u8) (.int .i64)) (.pair (.bool) (.int .u8)))
def VM:a6:=hP #[cF "Id" 102 0 0,cF "Front" 4 2 16,cF "Dir" 55 3 17] 4 24 (.pair (.pair (.int .u8) (.int .i64)) (.pair (.bool) (.int .u8)))
def VN:a6:=cD #[113,113] #[4] false
def VO:a6:=jT 113 (some (.ah (.pair (.int .u8) (.pair (.bool) (.pair (.ah (.pair (.int .u8) (.int .i64))) (.ah (.pair (.pair (.int .u8) (.int .i64)) (.pair (.bool) (.int .u8)))))))))
def VP:a6:=cD #[118,118,117] #[4] false
def VQ:a6:=cD #[118,118] #[4] false
def VR:a6:=cD #[32,32,120] #[4] false
def VS:a6:=cD #[33,33] #[4] false
def VT:a6:=hP #[cF "A" 102 0 0,cF "B" 102 2 16,cF "N" 3 4 32] 5 40 (.pair (.pair (.int .u8) (.int .i64)) (.pair (.pair (.int .u8) (.int .i64)) (.int .i64)))
def VU:a6:=hP #[cF "A" 102 0 0,cF "B" 102 2 16,cF "N" 3 4 32] 5 40 (.pair (.pair (.int .u8) (.int .i64)) (.pair (.pair (.int .u8) (.int .i64)) (.int .i64)))
def VV:a6:=cD #[5,24] #[41] false
def VW:a6:=cD #[54,3] #[57] false
def VX:a6:=cD #[] #[36] false
def VY:a6:=rF 132
def VZ:a6:=jT 335 (some (.ah (.pair (.int .u8) (.pair (.int .u8) (.pair (.int .i64) (.pair (.int .i64) (.bool)))))))
def V0:a6:=jT 65 (some (.ah (.ah (.pair (.int .u8) (.ah (.pair (.int .u8) (.int .i64)))))))
def V1:a6:=fM (.struct #[{ name := "row",type := 129,offset := 0,embedded := false,tag := "",pkgPath := "gansey/rows",byteOffset := 0 },{ name := "slots",type := 130,offset := 1,embedded := false,tag := "",pkgPath := "gansey/rows",byteOffset := 24 },{ name := "yarns",type := 30,offset := 2,embedded := false,tag := "",pkgPath := "gansey/rows",byteOffset := 48 },{ name := "table",type := 32,offset := 3,embedded := false,tag := "",pkgPath := "gansey/rows",byteOffset := 72 },{ name := "dir",type := 55,offset := 4,embedded := false,tag := "",pkgPath := "gansey/rows",byteOffset := 96 }]) 5 104 (.agg #[.slice none 0 0,.slice none 0 0,.slice none 0 0,.slice none 0 0,.int .u8 0]) (some (.pair (.ah (.pair (.int .u8) (.pair (.int .u8) (.pair (.int .i64) (.pair (.int .i64) (.bool)))))) (.pair (.ah (.ah (.pair (.int .u8) (.ah (.pair (.int .u8) (.int .i64)))))) (.pair (.ah (.pair (.bool) (.pair (.int .i64) (.pair (.int .i64) (.pair (.bool) (.ah (.pair (.pair (.int .u8) (.int .i64)) (.pair (.bool) (.int .u8))))))))) (.pair (.ah (.ah (.pair (.int .u8) (.pair (.bool) (.pair (.ah (.pair (.int .u8) (.int .i64))) (.ah (.pair (.pair (.int .u8) (.int .i64)) (.pair (.bool) (.int .u8))))))))) (.int .u8))))))
def V3:a6:=fM (.struct #[{ name := "row",type := 129,offset := 0,embedded := false,tag := "",pkgPath := "gansey/rows",byteOffset := 0 },{ name := "slots",type := 130,offset := 1,embedded := false,tag := "",pkgPath := "gansey/rows",byteOffset := 24 },{ name := "yarns",type := 30,offset := 2,embedded := false,tag := "",pkgPath := "gansey/rows",byteOffset := 48 },{ name := "table",type := 32,offset := 3,embedded := false,tag := "",pkgPath := "gansey/rows",byteOffset := 72 },{ name := "dir",type := 55,offset := 4,embedded := false,tag := "",pkgPath := "gansey/rows",byteOffset := 96 }]) 5 104 (.agg #[.slice none 0 0,.slice none 0 0,.slice none 0 0,.slice none 0 0,.int .u8 0]) (some (.pair (.ah (.pair (.int .u8) (.pair (.int .u8) (.pair (.int .i64) (.pair (.int .i64) (.bool)))))) (.pair (.ah (.ah (.pair (.int .u8) (.ah (.pair (.int .u8) (.int .i64)))))) (.pair (.ah (.pair (.bool) (.pair (.int .i64) (.pair (.int .i64) (.pair (.bool) (.ah (.pair (.pair (.int .u8) (.int .i64)) (.pair (.bool) (.int .u8))))))))) (.pair (.ah (.ah (.pair (.int .u8) (.pair (.bool) (.pair (.ah (.pair (.int .u8) (.int .i64))) (.ah (.pair (.pair (.int .u8) (.int .i64)) (.pair (.bool) (.int .u8))))))))) (.int .u8))))))
def V4:a6:=cD #[5] #[41] false
def V5:a6:=cD #[5,48,34] #[102,41] false
def V6:a6:=hP #[cF "Bed" 48 0 0,cF "Loops" 34 1 8] 2 32 (.pair (.int .u8) (.ah (.pair (.int .u8) (.int .i64))))
def V7:a6:=hP #[cF "Bed" 48 0 0,cF "Loops" 34 1 8] 2 32 (.pair (.int .u8) (.ah (.pair (.int .u8) (.int .i64))))
def V8:a6:=cD #[5,3,71] #[41] false
def V9:a6:=cD #[36,65] #[67] false
def Wa:a6:=cD #[3] #[4] false
def Wb:a6:=cD #[142] #[40,41] false
def Wc:a6:=jT 5 (some (.ah (.int .u8)))
def Wd:a6:=cD #[73] #[41] false
def We:a6:=cD #[116] #[4] false
def Wf:a6:=cD #[71,71] #[71] false
def Wg:a6:=cD #[71] #[71] false
def Wh:a6:=cD #[65] #[34] false
def Wi:a6:=cD #[71] #[] false
def Wj:a6:=cD #[55] #[4] false
def Wk:a6:=cD #[3] #[50] false
def Wl:a6:=cD #[67] #[41] false
def Wm:a6:=cD #[32] #[3] false
def Wn:a6:=cD #[34,102] #[34] false
def Wo:a6:=cD #[33] #[33] false
def Wp:a6:=cD #[32,5,3] #[32] false
def Wq:a6:=hP #[cF "N" 3 0 0,cF "New" 4 1 8,cF "Past" 71 2 16] 3 40 (.pair (.int .i64) (.pair (.bool) (.ah (.pair (.pair (.int .u8) (.int .i64)) (.pair (.bool) (.int .u8))))))
def Wr:a6:=hP #[cF "N" 3 0 0,cF "New" 4 1 8,cF "Past" 71 2 16] 3 40 (.pair (.int .i64) (.pair (.bool) (.ah (.pair (.pair (.int .u8) (.int .i64)) (.pair (.bool) (.int .u8))))))
def Ws:a6:=rF 87
def Wt:a6:=cD #[24] #[24] false
def Wu:a6:=cD #[48,24,3] #[] false
def Wv:a6:=cD #[3,3] #[4] false
def Ww:a6:=cD #[29] #[41] false
def Wx:a6:=cD #[27] #[27] false
def Wy:a6:=cD #[30] #[30] false
def Wz:a6:=fM (.map 173 3) 1 8 (.map none) none
def WA:a6:=fM (.struct #[{ name := "rack",type := 3,offset := 0,embedded := false,tag := "",pkgPath := "gansey/machines",byteOffset := 0 },{ name := "beds",type := 29,offset := 1,embedded := false,tag := "",pkgPath := "gansey/machines",byteOffset := 8 },{ name := "yarns",type := 30,offset := 3,embedded := false,tag := "",pkgPath := "gansey/machines",byteOffset := 56 },{ name := "table",type := 32,offset := 4,embedded := false,tag := "",pkgPath := "gansey/machines",byteOffset := 80 },{ name := "cross",type := 170,offset := 5,embedded := false,tag := "",pkgPath := "gansey/machines",byteOffset := 104 },{ name := "fallen",type := 34,offset := 6,embedded := false,tag := "",pkgPath := "gansey/machines",byteOffset := 112 }]) 7 136 (.agg #[.int .i64 0,.slice none 0 0,.slice none 0 0,.slice none 0 0,.slice none 0 0,.map none,.slice none 0 0]) none
def WB:a6:=fM (.array 2 102) 4 32 (.agg #[.int .u8 0,.int .i64 0,.int .u8 0,.int .i64 0]) (some (.pair (.pair (.int .u8) (.int .i64)) (.pair (.int .u8) (.int .i64))))
def WC:a6:=cD #[96,57] #[41] false
def WD:a6:=cD #[57] #[41] false
def WE:a6:=cD #[33,178] #[] false
def WG:a6:=cD #[102,102] #[3] false
def WH:a6:=cD #[124,124] #[3] false
def WI:a6:=cD #[55] #[3] false
def WJ:a6:=cD #[130] #[65] true
def WK:a6:=cD #[116,116] #[4] false
def WL:a6:=cD #[102] #[4] false
def WM:a6:=cD #[27] #[34] true
def WN:a6:=cD #[73,3,32] #[4] false
def WO:a6:=cD #[225] #[] false
def WQ:a6:=cD #[225] #[] false
def WR:a6:=cD #[29] #[191] false
def WS:a6:=fM (.map 102 4) 1 8 (.map none) none
def WT:a6:=cD #[29] #[3] false
def WU:a6:=jT 200 (some (.ah (.pair (.pair (.int .u8) (.int .i64)) (.pair (.pair (.int .u8) (.int .i64)) (.int .i64)))))
def WV:a6:=hP #[cF "Id" 102 0 0,cF "Needle" 50 2 16,cF "Spot" 3 4 32] 5 40 (.pair (.pair (.int .u8) (.int .i64)) (.pair (.pair (.int .u8) (.int .i64)) (.int .i64)))
def WW:a6:=cD #[29,50,50] #[29,41] false
def WX:a6:=cD #[29,50,34] #[29,41] false
def WY:a6:=cD #[57] #[4] false
def WZ:a6:=cD #[33,3,3,3,178] #[] false
def W0:a6:=cD #[215] #[3] false
def W1:a6:=km .u64 8
def W2:a6:=cD #[24] #[3] true
def W3:a6:=cD #[34,3,3,3,177] #[] false
def W4:a6:=cD #[3] #[9] false
def W5:a6:=fM (.array 9 9) 9 144 (.agg #[.string { data:=#[] },.string { data:=#[] },.string { data:=#[] },.string { data:=#[] },.string { data:=#[] },.string { data:=#[] },.string { data:=#[] },.string { data:=#[] },.string { data:=#[] }]) (some (.pair (.str) (.pair (.str) (.pair (.str) (.pair (.str) (.pair (.str) (.pair (.str) (.pair (.str) (.pair (.str) (.str))))))))))
def W6:a6:=fM (.array 2 9) 2 32 (.agg #[.string { data:=#[] },.string { data:=#[] }]) (some (.pair (.str) (.str)))
def W7:a6:=cD #[50] #[9] false
def W8:a6:=cD #[106,9] #[9] false
def W9:a6:=cD #[48,27] #[4] false
def Xa:a6:=cD #[281] #[] false
def Xb:a6:=cD #[281] #[] false
def Xc:a6:=cD #[29] #[227] false
def Xd:a6:=cD #[32] #[34,41] false
def Xe:a6:=cD #[32,102] #[4] false
def Xf:a6:=fM (.array 2 34) 2 48 (.agg #[.slice none 0 0,.slice none 0 0]) (some (.pair (.ah (.pair (.int .u8) (.int .i64))) (.ah (.pair (.int .u8) (.int .i64)))))
def Xg:a6:=fM (.map 102 3) 1 8 (.map none) none
def Xh:a6:=cD #[34] #[] false
def Xi:a6:=cD #[200,200] #[3] false
def Xj:a6:=fM (.struct #[{ name := "dir",type := 4,offset := 0,embedded := false,tag := "",pkgPath := "gansey/operations",byteOffset := 0 },{ name := "needle",type := 4,offset := 1,embedded := false,tag := "",pkgPath := "gansey/operations",byteOffset := 1 },{ name := "yarn",type := 4,offset := 2,embedded := false,tag := "",pkgPath := "gansey/operations",byteOffset := 2 },{ name := "rack",type := 4,offset := 3,embedded := false,tag := "",pkgPath := "gansey/operations",byteOffset := 3 }]) 4 4 (.agg #[.bool false,.bool false,.bool false,.bool false]) (some (.pair (.bool) (.pair (.bool) (.pair (.bool) (.bool)))))
def Xk:a6:=fM (.map 54 251) 1 8 (.map none) none
def Xl:a6:=km .i64 8
def Xm:a6:=km .u32 4
def Xn:a6:=km .u64 8
def Xo:a6:=rF 275
def Xp:a6:=fM (.struct #[{ name := "addr",type := 273,offset := 0,embedded := false,tag := "",pkgPath := "strings",byteOffset := 0 },{ name := "buf",type := 142,offset := 1,embedded := false,tag := "",pkgPath := "strings",byteOffset := 8 }]) 2 32 (.agg #[.pointer none,.slice none 0 0]) none
def Xq:a6:=fM (.interface #[("Error",280)]) 1 16 (.nilIface) none
def Xr:a6:=cD #[50,34] #[4] false
def Xs:a6:=rF 5
def Xt:a6:=fM (.array 24 5) 24 24 (.agg #[.int .u8 0,.int .u8 0,.int .u8 0,.int .u8 0,.int .u8 0,.int .u8 0,.int .u8 0,.int .u8 0,.int .u8 0,.int .u8 0,.int .u8 0,.int .u8 0,.int .u8 0,.int .u8 0,.int .u8 0,.int .u8 0,.int .u8 0,.int .u8 0,.int .u8 0,.int .u8 0,.int .u8 0,.int .u8 0,.int .u8 0,.int .u8 0]) none
def Xu:a6:=fM (.unsafePointer) 1 8 (.pointer none) none
def Xv:a6:=fM (.array 20 266) 20 160 (.agg #[.int .u64 0,.int .u64 0,.int .u64 0,.int .u64 0,.int .u64 0,.int .u64 0,.int .u64 0,.int .u64 0,.int .u64 0,.int .u64 0,.int .u64 0,.int .u64 0,.int .u64 0,.int .u64 0,.int .u64 0,.int .u64 0,.int .u64 0,.int .u64 0,.int .u64 0,.int .u64 0]) none
def Xw:a6:=fM (.array 65 5) 65 65 (.agg ([.int .u8 0,.int .u8 0,.int .u8 0,.int .u8 0,.int .u8 0,.int .u8 0,.int .u8 0,.int .u8 0,.int .u8 0,.int .u8 0,.int .u8 0,.int .u8 0,.int .u8 0,.int .u8 0,.int .u8 0,.int .u8 0,.int .u8 0,.int .u8 0,.int .u8 0,.int .u8 0,.int .u8 0,.int .u8 0,.int .u8 0,.int .u8 0,.int .u8 0,.int .u8 0,.int .u8 0,.int .u8 0,.int .u8 0,.int .u8 0,.int .u8 0,.int .u8 0].append [.int .u8 0,.int .u8 0,.int .u8 0,.int .u8 0,.int .u8 0,.int .u8 0,.int .u8 0,.int .u8 0,.int .u8 0,.int .u8 0,.int .u8 0,.int .u8 0,.int .u8 0,.int .u8 0,.int .u8 0,.int .u8 0,.int .u8 0,.int .u8 0,.int .u8 0,.int .u8 0,.int .u8 0,.int .u8 0,.int .u8 0,.int .u8 0,.int .u8 0,.int .u8 0,.int .u8 0,.int .u8 0,.int .u8 0,.int .u8 0,.int .u8 0,.int .u8 0,.int .u8 0]).toArray) none
def Xx:a6:=fM (.array 32 5) 32 32 (.agg #[.int .u8 0,.int .u8 0,.int .u8 0,.int .u8 0,.int .u8 0,.int .u8 0,.int .u8 0,.int .u8 0,.int .u8 0,.int .u8 0,.int .u8 0,.int .u8 0,.int .u8 0,.int .u8 0,.int .u8 0,.int .u8 0,.int .u8 0,.int .u8 0,.int .u8 0,.int .u8 0,.int .u8 0,.int .u8 0,.int .u8 0,.int .u8 0,.int .u8 0,.int .u8 0,.int .u8 0,.int .u8 0,.int .u8 0,.int .u8 0,.int .u8 0,.int .u8 0]) none
def Xy:a6:=fM (.array 64 5) 64 64 (.agg #[.int .u8 0,.int .u8 0,.int .u8 0,.int .u8 0,.int .u8 0,.int .u8 0,.int .u8 0,.int .u8 0,.int .u8 0,.int .u8 0,.int .u8 0,.int .u8 0,.int .u8 0,.int .u8 0,.int .u8 0,.int .u8 0,.int .u8 0,.int .u8 0,.int .u8 0,.int .u8 0,.int .u8 0,.int .u8 0,.int .u8 0,.int .u8 0,.int .u8 0,.int .u8 0,.int .u8 0,.int .u8 0,.int .u8 0,.int .u8 0,.int .u8 0,.int .u8 0,.int .u8 0,.int .u8 0,.int .u8 0,.int .u8 0,.int .u8 0,.int .u8 0,.int .u8 0,.int .u8 0,.int .u8 0,.int .u8 0,.int .u8 0,.int .u8 0,.int .u8 0,.int .u8 0,.int .u8 0,.int .u8 0,.int .u8 0,.int .u8 0,.int .u8 0,.int .u8 0,.int .u8 0,.int .u8 0,.int .u8 0,.int .u8 0,.int .u8 0,.int .u8 0,.int .u8 0,.int .u8 0,.int .u8 0,.int .u8 0,.int .u8 0,.int .u8 0]) none
def Xz:a6:=fM (.array 0 16) 0 0 (.agg #[]) none
def XA:a6:=km .u8 1
def XB:a6:=km .u8 1
def XC:a6:=cD #[311,311] #[4] false
def XD:a6:=km .i32 4
def XE:a6:=km .i32 4
def XF:a6:=fM (.struct #[cF "Size_" 12 0 0,cF "PtrBytes" 12 1 8,cF "Hash" 264 2 16,cF "TFlag" 325 3 20,cF "Align_" 5 4 21,cF "FieldAlign_" 5 5 22,cF "Kind_" 326 6 23,cF "Equal" 327 7 24,cF "GCData" 298 8 32,cF "Str" 328 9 40,cF "PtrToThis" 329 10 44]) 11 48 (.agg #[.int .u64 0,.int .u64 0,.int .u32 0,.int .u8 0,.int .u8 0,.int .u8 0,.int .u8 0,.nilFunc,.pointer none,.int .i32 0,.int .i32 0]) none
def XG:a6:=km .u8 1
def XH:a6:=hP #[cF "Kind" 333 0 0,cF "Yarn" 5 1 1,cF "A" 3 2 8,cF "B" 3 3 16,cF "Front" 4 4 24] 5 32 (.pair (.int .u8) (.pair (.int .u8) (.pair (.int .i64) (.pair (.int .i64) (.bool)))))
def tt:bY:=(.node (.node (.node (.node (.node (.node (.node (.node .leaf 1 Ub .leaf) 2 Uc (.node .leaf 3 Ud .leaf)) 4 Ue (.node (.node .leaf 5 Uf .leaf) 6 Ug .leaf)) 9 Uh (.node (.node (.node .leaf 10 Ui .leaf) 11 Uj (.node .leaf 12 Uk .leaf)) 15 Ul (.node (.node .leaf 16 Um .leaf) 17 Un .leaf))) 20 Uo (.node (.node (.node (.node .leaf 21 Up .leaf) 22 Uq (.node .leaf 23 Ur .leaf)) 24 Us (.node (.node .leaf 26 Ut .leaf) 27 Uu .leaf)) 28 Uv (.node (.node (.node .leaf 29 Uw .leaf) 30 Ux .leaf) 31 Uy (.node (.node .leaf 32 Uz .leaf) 33 UA .leaf)))) 34 UB (.node (.node (.node (.node (.node .leaf 35 UC .leaf) 36 UD (.node .leaf 37 UE .leaf)) 38 UF (.node (.node .leaf 39 UG .leaf) 40 UH .leaf)) 41 UI (.node (.node (.node .leaf 43 UJ .leaf) 45 UK (.node .leaf 47 UL .leaf)) 48 UM (.node (.node .leaf 49 UN .leaf) 50 UO .leaf))) 51 UP (.node (.node (.node (.node .leaf 52 UQ .leaf) 53 UR (.node .leaf 54 US .leaf)) 55 UT (.node (.node .leaf 56 UU .leaf) 57 UW .leaf)) 58 UX (.node (.node (.node .leaf 59 UY .leaf) 60 UZ .leaf) 61 U0 (.node (.node .leaf 62 U1 .leaf) 63 U2 .leaf))))) 64 U3 (.node (.node (.node (.node (.node (.node .leaf 65 U4 .leaf) 66 U5 (.node .leaf 67 U6 .leaf)) 69 U7 (.node (.node .leaf 70 U8 .leaf) 71 U9 .leaf)) 72 Va (.node (.node (.node .leaf 73 Vb .leaf) 74 Vc (.node .leaf 75 Vd .leaf)) 77 Ve (.node (.node .leaf 79 Vf .leaf) 84 Vg .leaf))) 85 Vh (.node (.node (.node (.node .leaf 86 Vi .leaf) 87 Vj (.node .leaf 88 Vk .leaf)) 89 Vl (.node (.node .leaf 90 Vm .leaf) 91 Vn .leaf)) 92 Vo (.node (.node (.node .leaf 93 Vp .leaf) 94 Vq .leaf) 95 Vr (.node (.node .leaf 96 Vs .leaf) 97 Vt .leaf)))) 98 Vu (.node (.node (.node (.node (.node .leaf 99 Vv .leaf) 100 Vw (.node .leaf 101 Vx .leaf)) 102 Vy (.node (.node .leaf 103 Vz .leaf) 104 VA .leaf)) 105 VB (.node (.node (.node .leaf 106 VC .leaf) 107 VD (.node .leaf 108 VE .leaf)) 109 VF (.node (.node .leaf 110 VG .leaf) 111 VH .leaf))) 112 VI (.node (.node (.node (.node .leaf 113 VJ .leaf) 114 VK (.node .leaf 115 VL .leaf)) 116 VM (.node (.node .leaf 117 VN .leaf) 118 VO .leaf)) 119 VP (.node (.node (.node .leaf 120 VQ .leaf) 121 VR .leaf) 122 VS (.node (.node .leaf 123 VT .leaf) 124 VU .leaf)))))) 125 VV (.node (.node (.node (.node (.node (.node (.node .leaf 126 VW .leaf) 127 VX (.node .leaf 128 VY .leaf)) 129 VZ (.node (.node .leaf 130 V0 .leaf) 131 V1 .leaf)) 132 V3 (.node (.node (.node .leaf 133 V4 .leaf) 135 V5 (.node .leaf 136 V6 .leaf)) 137 V7 (.node (.node .leaf 138 V8 .leaf) 139 V9 .leaf))) 140 Wa (.node (.node (.node (.node .leaf 141 Wb .leaf) 142 Wc (.node .leaf 143 Wd .leaf)) 144 We (.node (.node .leaf 145 Wf .leaf) 146 Wg .leaf)) 147 Wh (.node (.node (.node .leaf 148 Wi .leaf) 149 Wj .leaf) 150 Wk (.node (.node .leaf 151 Wl .leaf) 152 Wm .leaf)))) 153 Wn (.node (.node (.node (.node (.node .leaf 154 Wo .leaf) 155 Wp (.node .leaf 156 Wq .leaf)) 157 Wr (.node (.node .leaf 160 Ws .leaf) 161 Wt .leaf)) 162 Wu (.node (.node (.node .leaf 163 Wv .leaf) 164 Ww (.node .leaf 167 Wx .leaf)) 168 Wy (.node (.node .leaf 170 Wz .leaf) 172 WA .leaf))) 173 WB (.node (.node (.node (.node .leaf 174 WC .leaf) 175 WD (.node .leaf 176 WE .leaf)) 177 WG (.node (.node .leaf 178 WH .leaf) 184 WI .leaf)) 185 WJ (.node (.node (.node .leaf 186 WK .leaf) 187 WL .leaf) 188 WM (.node (.node .leaf 189 WN .leaf) 190 WO .leaf))))) 191 WQ (.node (.node (.node (.node (.node (.node .leaf 192 WR .leaf) 193 WS (.node .leaf 194 WT .leaf)) 196 WU (.node (.node .leaf 200 WV .leaf) 210 WW .leaf)) 211 WX (.node (.node (.node .leaf 212 WY .leaf) 213 WZ (.node .leaf 214 W0 .leaf)) 215 W1 (.node (.node .leaf 216 W2 .leaf) 219 W3 .leaf))) 220 W4 (.node (.node (.node (.node .leaf 221 W5 .leaf) 222 W6 (.node .leaf 223 W7 .leaf)) 224 W8 (.node (.node .leaf 225 W9 .leaf) 226 Xa .leaf)) 227 Xb (.node (.node (.node .leaf 228 Xc .leaf) 230 Xd .leaf) 231 Xe (.node (.node .leaf 232 Xf .leaf) 233 Xg .leaf)))) 234 Xh (.node (.node (.node (.node (.node .leaf 238 Xi .leaf) 251 Xj (.node .leaf 253 Xk .leaf)) 256 Xl (.node (.node .leaf 264 Xm .leaf) 266 Xn .leaf)) 273 Xo (.node (.node (.node .leaf 275 Xp .leaf) 277 Xq (.node .leaf 281 Xr .leaf)) 298 Xs (.node (.node .leaf 307 Xt .leaf) 311 Xu .leaf))) 315 Xv (.node (.node (.node (.node .leaf 316 Xw .leaf) 317 Xx (.node .leaf 318 Xy .leaf)) 321 Xz (.node (.node .leaf 325 XA .leaf) 326 XB .leaf)) 327 XC (.node (.node (.node .leaf 328 XD .leaf) 329 XE .leaf) 331 XF (.node (.node .leaf 333 XG .leaf) 335 XH .leaf)))))))
theorem bw:tt.ok Tryz.prog:=⟨⟨⟨⟨⟨⟨⟨⟨trivial,ch Tryz.underlying1 (by kernel_rfl),trivial⟩,dr Tryz.underlying2 (by kernel_rfl) rfl rfl rfl,⟨trivial,dr Tryz.underlying3 (by kernel_rfl) rfl rfl rfl,trivial⟩⟩,dr Tryz.underlying4 (by kernel_rfl) rfl rfl rfl,⟨⟨trivial,dr Tryz.underlying5 (by kernel_rfl) rfl rfl rfl,trivial⟩,dr Tryz.underlying6 (by kernel_rfl) rfl rfl rfl,trivial⟩⟩,dr Tryz.underlying9 (by kernel_rfl) rfl rfl rfl,⟨⟨⟨trivial,dr Tryz.underlying10 (by kernel_rfl) rfl rfl rfl,trivial⟩,dr Tryz.underlying11 (by kernel_rfl) rfl rfl rfl,⟨trivial,dr Tryz.underlying12 (by kernel_rfl) rfl rfl rfl,trivial⟩⟩,ch Tryz.underlying15 (by kernel_rfl),⟨⟨trivial,ch Tryz.underlying16 (by kernel_rfl),trivial⟩,ch Tryz.underlying17 (by kernel_rfl),trivial⟩⟩⟩,ch Tryz.underlying20 (by kernel_rfl),⟨⟨⟨⟨trivial,dr Tryz.underlying21 (by kernel_rfl) rfl rfl rfl,trivial⟩,dr Tryz.underlying22 (by kernel_rfl) rfl rfl rfl,⟨trivial,dr Tryz.underlying23 (by kernel_rfl) rfl rfl rfl,trivial⟩⟩,dr Tryz.underlying24 (by kernel_rfl) rfl rfl rfl,⟨⟨trivial,ch Tryz.underlying26 (by kernel_rfl),trivial⟩,dr Tryz.underlying27 (by kernel_rfl) rfl rfl rfl,trivial⟩⟩,dr Tryz.underlying28 (by kernel_rfl) rfl rfl rfl,⟨⟨⟨trivial,dr Tryz.underlying29 (by kernel_rfl) rfl rfl rfl,trivial⟩,dr Tryz.underlying30 (by kernel_rfl) rfl rfl rfl,trivial⟩,dr Tryz.underlying31 (by kernel_rfl) rfl rfl rfl,⟨⟨trivial,dr Tryz.underlying32 (by kernel_rfl) rfl rfl rfl,trivial⟩,dr Tryz.underlying33 (by kernel_rfl) rfl rfl rfl,trivial⟩⟩⟩⟩,dr Tryz.underlying34 (by kernel_rfl) rfl rfl rfl,⟨⟨⟨⟨⟨trivial,dr Tryz.underlying35 (by kernel_rfl) rfl rfl rfl,trivial⟩,dr Tryz.underlying36 (by kernel_rfl) rfl rfl rfl,⟨trivial,dr Tryz.underlying37 (by kernel_rfl) rfl rfl rfl,trivial⟩⟩,dr Tryz.underlying38 (by kernel_rfl) rfl rfl rfl,⟨⟨trivial,ch Tryz.underlying39 (by kernel_rfl),trivial⟩,dr Tryz.underlying40 (by kernel_rfl) rfl rfl rfl,trivial⟩⟩,dr Tryz.underlying41 (by kernel_rfl) rfl rfl rfl,⟨⟨⟨trivial,ch Tryz.underlying43 (by kernel_rfl),trivial⟩,ch Tryz.underlying45 (by kernel_rfl),⟨trivial,ch Tryz.underlying47 (by kernel_rfl),trivial⟩⟩,dr Tryz.underlying48 (by kernel_rfl) rfl rfl rfl,⟨⟨trivial,dr Tryz.underlying49 (by kernel_rfl) rfl rfl rfl,trivial⟩,dr Tryz.underlying50 (by kernel_rfl) rfl rfl rfl,trivial⟩⟩⟩,ch Tryz.underlying51 (by kernel_rfl),⟨⟨⟨⟨trivial,ch Tryz.underlying52 (by kernel_rfl),trivial⟩,dr Tryz.underlying53 (by kernel_rfl) rfl rfl rfl,⟨trivial,dr Tryz.underlying54 (by kernel_rfl) rfl rfl rfl,trivial⟩⟩,dr Tryz.underlying55 (by kernel_rfl) rfl rfl rfl,⟨⟨trivial,dr Tryz.underlying56 (by kernel_rfl) rfl rfl rfl,trivial⟩,dr Tryz.underlying57 (by kernel_rfl) rfl rfl rfl,trivial⟩⟩,ch Tryz.underlying58 (by kernel_rfl),⟨⟨⟨trivial,ch Tryz.underlying59 (by kernel_rfl),trivial⟩,ch Tryz.underlying60 (by kernel_rfl),trivial⟩,ch Tryz.underlying61 (by kernel_rfl),⟨⟨trivial,ch Tryz.underlying62 (by kernel_rfl),trivial⟩,ch Tryz.underlying63 (by kernel_rfl),trivial⟩⟩⟩⟩⟩,ch Tryz.underlying64 (by kernel_rfl),⟨⟨⟨⟨⟨⟨trivial,dr Tryz.underlying65 (by kernel_rfl) rfl rfl rfl,trivial⟩,dr Tryz.underlying66 (by kernel_rfl) rfl rfl rfl,⟨trivial,dr Tryz.underlying67 (by kernel_rfl) rfl rfl rfl,trivial⟩⟩,ch Tryz.underlying69 (by kernel_rfl),⟨⟨trivial,ch Tryz.underlying70 (by kernel_rfl),trivial⟩,dr Tryz.underlying71 (by kernel_rfl) rfl rfl rfl,trivial⟩⟩,dr Tryz.underlying72 (by kernel_rfl) rfl rfl rfl,⟨⟨⟨trivial,dr Tryz.underlying73 (by kernel_rfl) rfl rfl rfl,trivial⟩,ch Tryz.underlying74 (by kernel_rfl),⟨trivial,dr Tryz.underlying75 (by kernel_rfl) rfl rfl rfl,trivial⟩⟩,ch Tryz.underlying77 (by kernel_rfl),⟨⟨trivial,ch Tryz.underlying79 (by kernel_rfl),trivial⟩,dr Tryz.underlying84 (by kernel_rfl) rfl rfl rfl,trivial⟩⟩⟩,ch Tryz.underlying85 (by kernel_rfl),⟨⟨⟨⟨trivial,dr Tryz.underlying86 (by kernel_rfl) rfl rfl rfl,trivial⟩,dr Tryz.underlying87 (by kernel_rfl) rfl rfl rfl,⟨trivial,ch Tryz.underlying88 (by kernel_rfl),trivial⟩⟩,ch Tryz.underlying89 (by kernel_rfl),⟨⟨trivial,ch Tryz.underlying90 (by kernel_rfl),trivial⟩,ch Tryz.underlying91 (by kernel_rfl),trivial⟩⟩,ch Tryz.underlying92 (by kernel_rfl),⟨⟨⟨trivial,ch Tryz.underlying93 (by kernel_rfl),trivial⟩,ch Tryz.underlying94 (by kernel_rfl),trivial⟩,ch Tryz.underlying95 (by kernel_rfl),⟨⟨trivial,ch Tryz.underlying96 (by kernel_rfl),trivial⟩,ch Tryz.underlying97 (by kernel_rfl),trivial⟩⟩⟩⟩,ch Tryz.underlying98 (by kernel_rfl),⟨⟨⟨⟨⟨trivial,ch Tryz.underlying99 (by kernel_rfl),trivial⟩,ch Tryz.underlying100 (by kernel_rfl),⟨trivial,dr Tryz.underlying101 (by kernel_rfl) rfl rfl rfl,trivial⟩⟩,dr Tryz.underlying102 (by kernel_rfl) rfl rfl rfl,⟨⟨trivial,ch Tryz.underlying103 (by kernel_rfl),trivial⟩,ch Tryz.underlying104 (by kernel_rfl),trivial⟩⟩,dr Tryz.underlying105 (by kernel_rfl) rfl rfl rfl,⟨⟨⟨trivial,dr Tryz.underlying106 (by kernel_rfl) rfl rfl rfl,trivial⟩,ch Tryz.underlying107 (by kernel_rfl),⟨trivial,ch Tryz.underlying108 (by kernel_rfl),trivial⟩⟩,ch Tryz.underlying109 (by kernel_rfl),⟨⟨trivial,ch Tryz.underlying110 (by kernel_rfl),trivial⟩,ch Tryz.underlying111 (by kernel_rfl),trivial⟩⟩⟩,dr Tryz.underlying112 (by kernel_rfl) rfl rfl rfl,⟨⟨⟨⟨trivial,dr Tryz.underlying113 (by kernel_rfl) rfl rfl rfl,trivial⟩,ch Tryz.underlying114 (by kernel_rfl),⟨trivial,dr Tryz.underlying115 (by kernel_rfl) rfl rfl rfl,trivial⟩⟩,dr Tryz.underlying116 (by kernel_rfl) rfl rfl rfl,⟨⟨trivial,ch Tryz.underlying117 (by kernel_rfl),trivial⟩,dr Tryz.underlying118 (by kernel_rfl) rfl rfl rfl,trivial⟩⟩,ch Tryz.underlying119 (by kernel_rfl),⟨⟨⟨trivial,ch Tryz.underlying120 (by kernel_rfl),trivial⟩,ch Tryz.underlying121 (by kernel_rfl),trivial⟩,ch Tryz.underlying122 (by kernel_rfl),⟨⟨trivial,dr Tryz.underlying123 (by kernel_rfl) rfl rfl rfl,trivial⟩,dr Tryz.underlying124 (by kernel_rfl) rfl rfl rfl,trivial⟩⟩⟩⟩⟩⟩,ch Tryz.underlying125 (by kernel_rfl),⟨⟨⟨⟨⟨⟨⟨trivial,ch Tryz.underlying126 (by kernel_rfl),trivial⟩,ch Tryz.underlying127 (by kernel_rfl),⟨trivial,ch Tryz.underlying128 (by kernel_rfl),trivial⟩⟩,dr Tryz.underlying129 (by kernel_rfl) rfl rfl rfl,⟨⟨trivial,dr Tryz.underlying130 (by kernel_rfl) rfl rfl rfl,trivial⟩,dr Tryz.underlying131 (by kernel_rfl) rfl rfl rfl,trivial⟩⟩,dr Tryz.underlying132 (by kernel_rfl) rfl rfl rfl,⟨⟨⟨trivial,ch Tryz.underlying133 (by kernel_rfl),trivial⟩,ch Tryz.underlying135 (by kernel_rfl),⟨trivial,dr Tryz.underlying136 (by kernel_rfl) rfl rfl rfl,trivial⟩⟩,dr Tryz.underlying137 (by kernel_rfl) rfl rfl rfl,⟨⟨trivial,ch Tryz.underlying138 (by kernel_rfl),trivial⟩,ch Tryz.underlying139 (by kernel_rfl),trivial⟩⟩⟩,ch Tryz.underlying140 (by kernel_rfl),⟨⟨⟨⟨trivial,ch Tryz.underlying141 (by kernel_rfl),trivial⟩,dr Tryz.underlying142 (by kernel_rfl) rfl rfl rfl,⟨trivial,ch Tryz.underlying143 (by kernel_rfl),trivial⟩⟩,ch Tryz.underlying144 (by kernel_rfl),⟨⟨trivial,ch Tryz.underlying145 (by kernel_rfl),trivial⟩,ch Tryz.underlying146 (by kernel_rfl),trivial⟩⟩,ch Tryz.underlying147 (by kernel_rfl),⟨⟨⟨trivial,ch Tryz.underlying148 (by kernel_rfl),trivial⟩,ch Tryz.underlying149 (by kernel_rfl),trivial⟩,ch Tryz.underlying150 (by kernel_rfl),⟨⟨trivial,ch Tryz.underlying151 (by kernel_rfl),trivial⟩,ch Tryz.underlying152 (by kernel_rfl),trivial⟩⟩⟩⟩,ch Tryz.underlying153 (by kernel_rfl),⟨⟨⟨⟨⟨trivial,ch Tryz.underlying154 (by kernel_rfl),trivial⟩,ch Tryz.underlying155 (by kernel_rfl),⟨trivial,dr Tryz.underlying156 (by kernel_rfl) rfl rfl rfl,trivial⟩⟩,dr Tryz.underlying157 (by kernel_rfl) rfl rfl rfl,⟨⟨trivial,ch Tryz.underlying160 (by kernel_rfl),trivial⟩,ch Tryz.underlying161 (by kernel_rfl),trivial⟩⟩,ch Tryz.underlying162 (by kernel_rfl),⟨⟨⟨trivial,ch Tryz.underlying163 (by kernel_rfl),trivial⟩,ch Tryz.underlying164 (by kernel_rfl),⟨trivial,ch Tryz.underlying167 (by kernel_rfl),trivial⟩⟩,ch Tryz.underlying168 (by kernel_rfl),⟨⟨trivial,ch Tryz.underlying170 (by kernel_rfl),trivial⟩,ch Tryz.underlying172 (by kernel_rfl),trivial⟩⟩⟩,dr Tryz.underlying173 (by kernel_rfl) rfl rfl rfl,⟨⟨⟨⟨trivial,ch Tryz.underlying174 (by kernel_rfl),trivial⟩,ch Tryz.underlying175 (by kernel_rfl),⟨trivial,ch Tryz.underlying176 (by kernel_rfl),trivial⟩⟩,ch Tryz.underlying177 (by kernel_rfl),⟨⟨trivial,ch Tryz.underlying178 (by kernel_rfl),trivial⟩,ch Tryz.underlying184 (by kernel_rfl),trivial⟩⟩,ch Tryz.underlying185 (by kernel_rfl),⟨⟨⟨trivial,ch Tryz.underlying186 (by kernel_rfl),trivial⟩,ch Tryz.underlying187 (by kernel_rfl),trivial⟩,ch Tryz.underlying188 (by kernel_rfl),⟨⟨trivial,ch Tryz.underlying189 (by kernel_rfl),trivial⟩,ch Tryz.underlying190 (by kernel_rfl),trivial⟩⟩⟩⟩⟩,ch Tryz.underlying191 (by kernel_rfl),⟨⟨⟨⟨⟨⟨trivial,ch Tryz.underlying192 (by kernel_rfl),trivial⟩,ch Tryz.underlying193 (by kernel_rfl),⟨trivial,ch Tryz.underlying194 (by kernel_rfl),trivial⟩⟩,dr Tryz.underlying196 (by kernel_rfl) rfl rfl rfl,⟨⟨trivial,dr Tryz.underlying200 (by kernel_rfl) rfl rfl rfl,trivial⟩,ch Tryz.underlying210 (by kernel_rfl),trivial⟩⟩,ch Tryz.underlying211 (by kernel_rfl),⟨⟨⟨trivial,ch Tryz.underlying212 (by kernel_rfl),trivial⟩,ch Tryz.underlying213 (by kernel_rfl),⟨trivial,ch Tryz.underlying214 (by kernel_rfl),trivial⟩⟩,dr Tryz.underlying215 (by kernel_rfl) rfl rfl rfl,⟨⟨trivial,ch Tryz.underlying216 (by kernel_rfl),trivial⟩,ch Tryz.underlying219 (by kernel_rfl),trivial⟩⟩⟩,ch Tryz.underlying220 (by kernel_rfl),⟨⟨⟨⟨trivial,dr Tryz.underlying221 (by kernel_rfl) rfl rfl rfl,trivial⟩,dr Tryz.underlying222 (by kernel_rfl) rfl rfl rfl,⟨trivial,ch Tryz.underlying223 (by kernel_rfl),trivial⟩⟩,ch Tryz.underlying224 (by kernel_rfl),⟨⟨trivial,ch Tryz.underlying225 (by kernel_rfl),trivial⟩,ch Tryz.underlying226 (by kernel_rfl),trivial⟩⟩,ch Tryz.underlying227 (by kernel_rfl),⟨⟨⟨trivial,ch Tryz.underlying228 (by kernel_rfl),trivial⟩,ch Tryz.underlying230 (by kernel_rfl),trivial⟩,ch Tryz.underlying231 (by kernel_rfl),⟨⟨trivial,dr Tryz.underlying232 (by kernel_rfl) rfl rfl rfl,trivial⟩,ch Tryz.underlying233 (by kernel_rfl),trivial⟩⟩⟩⟩,ch Tryz.underlying234 (by kernel_rfl),⟨⟨⟨⟨⟨trivial,ch Tryz.underlying238 (by kernel_rfl),trivial⟩,dr Tryz.underlying251 (by kernel_rfl) rfl rfl rfl,⟨trivial,ch Tryz.underlying253 (by kernel_rfl),trivial⟩⟩,dr Tryz.underlying256 (by kernel_rfl) rfl rfl rfl,⟨⟨trivial,dr Tryz.underlying264 (by kernel_rfl) rfl rfl rfl,trivial⟩,dr Tryz.underlying266 (by kernel_rfl) rfl rfl rfl,trivial⟩⟩,ch Tryz.underlying273 (by kernel_rfl),⟨⟨⟨trivial,ch Tryz.underlying275 (by kernel_rfl),trivial⟩,ch Tryz.underlying277 (by kernel_rfl),⟨trivial,ch Tryz.underlying281 (by kernel_rfl),trivial⟩⟩,ch Tryz.underlying298 (by kernel_rfl),⟨⟨trivial,ch Tryz.underlying307 (by kernel_rfl),trivial⟩,ch Tryz.underlying311 (by kernel_rfl),trivial⟩⟩⟩,ch Tryz.underlying315 (by kernel_rfl),⟨⟨⟨⟨trivial,ch Tryz.underlying316 (by kernel_rfl),trivial⟩,ch Tryz.underlying317 (by kernel_rfl),⟨trivial,ch Tryz.underlying318 (by kernel_rfl),trivial⟩⟩,ch Tryz.underlying321 (by kernel_rfl),⟨⟨trivial,dr Tryz.underlying325 (by kernel_rfl) rfl rfl rfl,trivial⟩,dr Tryz.underlying326 (by kernel_rfl) rfl rfl rfl,trivial⟩⟩,ch Tryz.underlying327 (by kernel_rfl),⟨⟨⟨trivial,dr Tryz.underlying328 (by kernel_rfl) rfl rfl rfl,trivial⟩,dr Tryz.underlying329 (by kernel_rfl) rfl rfl rfl,trivial⟩,ch Tryz.underlying331 (by kernel_rfl),⟨⟨trivial,dr Tryz.underlying333 (by kernel_rfl) rfl rfl rfl,trivial⟩,dr Tryz.underlying335 (by kernel_rfl) rfl rfl rfl,trivial⟩⟩⟩⟩⟩⟩⟩
def mK:List (List UInt8):=[[],[105,110],[111,117,116],[114,97,99,107],[107,110,105,116],[116,117,99,107],[109,105,115,115],[120,102,101,114],[100,114,111,112]]
def rG:List (List UInt8):=[[108,101,102,116],[114,105,103,104,116]]
def LP:List Int:=[-1,1]
def XI:Nat->Option zY
 | 0=>some ⟨.str,mK⟩
 | 1=>some ⟨.str,rG⟩
 | 2=>some ⟨.int .i64,LP⟩
 | 3=>some ⟨.int .u64,Lib.pow10Tab⟩
 | _=>none
noncomputable def bE:bl:=⟨Tryz.prog,tt,XI⟩
section
open Go.ChangeShapes Go.WideShapes Go.ChangeAt Go.WideElems Go.RowKit
section
variable {H:Type} {enc:TypeId×Value->H} {P:Program} {W:World}
def sT(enc:TypeId×Value->H) (P:Program) (W:World) (t:TypeId) (g:aR) (R:g.D->Prop):Prop:=
 ∀ k cs x,DataW.trod enc P W 0 (fun _=>true) true k t cs=some x->∃ y:g.D,R y/\bt (fun b=>b < W.heap.size) W g y cs
theorem XJ{t:TypeId} {k:IntKind} (aZ:P.underlying t=some (.int k)):sT enc P W t (.int k) (fun(y:Int)=>k.min<=y/\y<=k.max):=fun n cs x h=>by
 obtain⟨z,rfl,_,hw⟩:=DataW.trod_int aZ h;exact⟨z,by simpa [Lit.wf] using hw,rfl⟩
theorem E0{g:aR} {R:g.D->Prop}:∀ l:List { p:g.D×List Value // R p.1/\bt (fun b=>b < W.heap.size) W g p.1 p.2 },Flat (bt (fun b=>b < W.heap.size) W g) (l.map (·.1.1)) (l.flatMap (·.1.2))
 | []=>rfl
 | x :: l=>⟨x.1.2,l.flatMap (·.1.2),rfl,x.2.2,E0 l⟩
theorem LQ{b o:Nat} {v:Value} (h:W.cell? ⟨b,o,none⟩=some v):b < W.heap.size:=by
 by_cases ai:b < W.heap.size
 ·exact ai
 ·simp[World.cell?,Array.getElem?_eq_none (by omega:W.heap.size<=b)]at h
theorem XK{g:aR} {R:g.D->Prop} (aP:0 < g.size) {t e:TypeId} {r:Reach} {om:Nat} {v:Value} {d:DataW H} {ps:List MemPlace} (aZ:P.underlying t=some (.slice e)) (aa:P.cellsOf e=g.size) (iO:sT enc P W e g R) (ss:Value.okWide P W r om t v) (ax:DataW.Trod enc P W 0 (fun _=>true) true t v d ps) :
  ∃ l:List g.D,(∀ x∈l,R x)/\∀ env,dP env (fun b=>b < W.heap.size) W (.c (.a1 g l none)) v:=by
 obtain⟨A,len,cap,l,rfl,ag,J,U,aH⟩:=SG (α:={ p:g.D×List Value // R p.1/\bt (fun b=>b < W.heap.size) W g p.1 p.2 }) (f:=fun p=>p.1.2) (fun x=>x.2.2.length) aP aZ aa (fun k cs x h=>by
  obtain⟨y,aV,aA⟩:=iO k cs x h;exact⟨⟨(y,cs),aV,aA⟩,rfl⟩) ss ax
 refine⟨l.map (·.1.1),fun x ao=>?_,fun env=>?_⟩
 ·obtain⟨p,_,rfl⟩:=List.mem_map.1 ao
  exact p.2.1
 ·refine⟨A,cap,l.flatMap (·.1.2),by rw[List.length_map,ag],by rw[List.length_map,ag]; exact J,U,(fun _ h=>by cases h),E0 l,by rw[List.length_map,ag]; exact aH,fun b p hm e=>?_⟩
  rw[List.length_map]at hm;obtain⟨b',DT,cv,ik⟩:=aH.2 (by omega);rw[e]at cv;cases cv;cases ao:(l.flatMap (·.1.2))[0]? with
  | some u=>exact LQ (ik 0 u ao)
  | none=>
   exfalso
   have ae:=aH.1;rw[List.getElem?_eq_none_iff]at ao;have aw:0 < len * g.size:=Nat.mul_pos (by omega) aP;omega
theorem LR{base:Nat} {sp:Nat->Bool} {held:Bool} {fuel:Nat} {t e:TypeId} {n:Nat} {cs:List Value} {zs:List (List UInt8)} {p:List MemPlace}
  (aZ:P.underlying t=some (.array n e)) (he:P.underlying e=some .string) (XL:P.cellsOf e=1) (aip:P.cellsOf t=n)
  (h:DataW.trod enc P W base sp held fuel t cs=some (.agg (zs.map fun z=>.lit (.string z)),p)):cs=zs.map eW:=by
 obtain⟨xs,m,_,ao,hlen,ka,nb⟩:=DataW.trod_array aZ h;have pr:xs.map (·.1)=zs.map fun z=>(DataW.lit (.string z):DataW H):=by
  have:=congrArg Prod.fst ao
  simpa using this.symm
 have xc:zs.length=n:=by
  have:=congrArg List.length pr
  simp at this
  omega
 rw[XL]at nb
 apply List.ext_getElem?
 intro i
 by_cases hi:i < n
 ·have J:=nb i hi
  rw[List.getElem?_eq_getElem (by omega:i < xs.length)]at J;obtain⟨s,al,AK,_⟩:=DataW.trod_string he J;have U:cs[i]?=some (.string s):=by
   have:=congrArg (·[0]?) al
   simpa [List.getElem?_take,List.getElem?_drop] using this
  have ae:(xs.map (·.1))[i]?=some (DataW.lit (.string s.data.toList):DataW H):=by
   rw[List.getElem?_map,List.getElem?_eq_getElem (by omega),AK]
   rfl
  rw[pr]at ae;simp only[List.getElem?_map,Option.map_eq_some_iff,DataW.lit.injEq,Lit.string.injEq]at ae;obtain⟨nJ,p0,a7⟩:=ae;rw[U,List.getElem?_map,p0,Option.map_some,a7]
  rfl
 ·rw[List.getElem?_eq_none (by omega),List.getElem?_eq_none (by simp; omega)]
theorem E1{B:Nat->Prop} {k:IntKind}:∀ l:List Int,Flat (bt B W (.int k)) l (l.map fun z=>Value.int k z)
 | []=>rfl
 | x :: l=>⟨[.int k x],_,rfl,rfl,E1 l⟩
theorem E2{B:Nat->Prop}:∀ l:List (List UInt8),Flat (bt B W .str) l (l.map eW)
 | []=>rfl
 | x :: l=>⟨[eW x],_,rfl,rfl,E2 l⟩
theorem AL{n:String} {i:Nat} {g:aR} {l:List g.D} {cs:Array Value} (aM:P.globalNamed n=some i) (aE:W.var? P n=some cs) (aA:Flat (bt (fun b=>b < W.heap.size) W g) l cs.toList):q8 (fun b=>b < W.heap.size) W i ⟨g,l⟩:=by
 unfold World.var? at aE;rw[aM,Option.bind_some]at aE
 split at aE
 ·rename_i hI e dH cB
  cases aE;have br:i < W.heap.size:=(Array.getElem?_eq_some_iff.1 cB).1;refine⟨⟨i,0,cs.toList,rfl,br,aA,fun j u hu=>?_⟩,cs,e,dH,cB,?_⟩
  ·simp only[Nat.zero_add,World.cell?,cB]
   simpa using hu
  ·have:=bt.jt aA
   simpa using this
 ·cases aE
theorem AM{n:String} {g i:Nat} (h:P.globalNamed n=some g) (ab:P.globalNamed n=some i):g=i:=Option.some.inj (h.symm.trans ab)
theorem AN{a:Option TypeId} {t u:TypeId} (h:a=some t) (ab:a=some u):t=u:=Option.some.inj (h.symm.trans ab)
end
theorem AC.law{X:bl} {f:FuncId} {args:List bf} {vs:List Value} {W:World} (h:AC X f args [] (fun sv h=>sv=.c (.val (.bool true))/\h=[])) (aM:uT X (fun b=>b < W.heap.size) W) (bq:dx (fun _=>.no) (fun b=>b < W.heap.size) W args vs):oh X.P f vs.toArray W (fun v w'=>v=.bool true/\Below W.heap.size W w'):=by
 refine(h (fun b=>b < W.heap.size) W (fun _=>.no) vs [] W aM bq rfl (bA.start W)).mono ?_;rintro v w' ⟨env',B',cy,H',sv,aN,⟨rfl,rfl⟩,J,U,ae,aw,aF,aW,bC⟩;have aH:∀ k,k < W.heap.size->fO W [] k:=fun k ab=>⟨ab,fun c aa=>by cases aa⟩
 exact⟨aw,aW.below.os.trans ae.os,aW.below.tape.trans ae.tape,aW.below.output.trans ae.output,Nat.le_trans ae.size aW.below.size,fun k ab=>(aW.below.block k (.inl (aH k ab))).trans (ae.block k (aH k ab))⟩
end
section
def an{α:Type} (c:Bool) (k:Option α):Option α:=match c with
 | true=>k
 | false=>none
theorem fH{α:Type} {c:Bool} {k:Option α} {r:α} (h:an c k=some r):c=true/\k=some r:=by
 cases c with
 | true=>exact⟨rfl,h⟩
 | false=>cases h
theorem oB{α β:Type} {x:Option α} {f:α->Option β} {r:β} (h:x.bind f=some r):∃ a,x=some a/\f a=some r:=by
 cases x with
 | none=>cases h
 | some a=>exact⟨a,rfl,h⟩
theorem AO{α:Type} {b:Bool} {x y z:α} (ai:b=true) (h:cond b x y=z):x=z:=by rw[ai]at h; exact h
theorem AP{α:Type} {b:Bool} {x y z:α} (ai:b=false) (h:cond b x y=z):y=z:=by rw[ai]at h; exact h
abbrev sm {α β kn:Type} (x:α⊕β) (f:α->Option kn) (g:β->Option kn):Option kn:=match x with
 | .inl a=>f a
 | .inr b=>g b
def xA:Nat:=1000000000
def rH(id:Nat):bo->bo
 | []=>[]
 | (j,.row t g l c) :: r=>match Nat.beq j id with
  | true=>(j,.row t g l none) :: r
  | false=>(j,.row t g l c) :: rH id r
 | b :: r=>b :: rH id r
section
variable {X:bl} {M:Bool} {n:Nat} {r:Option Nat} {c:Code} {st:aK} {Q:Exit->aK->Prop}
def XM(X:bl) (n:Nat) {O:Type} (S:O->aK) (P:O->Prop) (Q:Exit->aK->Prop):Exit->aK->Prop
 | .normal,s=>∃ o,P o/\cA X n s (S o)
 | e,s=>Q e s
theorem XN{O:Type} (S:O->aK) (P:O->Prop) (J:gm X M n r c st (XM X n S P Q)) (U:∀ o,P o->Q .normal (S o)):gm X M n r c st Q:=fun R W aD a w ad=>wpIn_mono (J R W aD a w ad) fun e a w ⟨s,au,bW⟩=>by
 cases e with
 | normal=>
  obtain⟨o,ar,hw⟩:=au;exact⟨S o,U o ar,hw _ _ _ _ _ _ bW⟩
 | _=>exact⟨s,au,bW⟩
theorem cA.conv{s:Nat} {sv:bZ} (hZ:bZ) (al:aS st.L s=some sv) (ir:∀ env B w v,ey env B w sv v->ey env B w hZ v):cA X n st ⟨(s,hZ) :: st.L,st.H⟩:=fun R W aD M a w ⟨ks,env,B,ak,H,b2,h⟩=>
 ⟨ks,env,B,ak,H,b2,h.size,h.defs,fun q u hu=>by
  rw[ct]at hu
  split at hu
  ·rename_i e
   subst e;cases hu;obtain⟨v,J,U⟩:=h.has _ _ al;exact⟨v,J,ir _ _ _ _ U⟩
  ·exact h.has q u hu,h.heap,h.aJ,h.sub,h.new,h.dj,h.base,h.dT⟩
theorem cA.LS(s:Nat) (g:aR) (al:aS st.L s=some (.c (.val (.slice none 0 0)))):cA X n st ⟨(s,.c (.a1 g [] (some 0))) :: st.L,st.H⟩:=cA.conv _ al fun env B w _ h=>LN (env:=env) (B:=B) (w:=w) h
theorem cA.mL(s:Nat) {g:aR} {l:List g.D} {k:Option Nat} (al:aS st.L s=some (.c (.a1 g l k))):cA X n st ⟨(s,.c (.a1 g l none)) :: st.L,st.H⟩:=cA.conv _ al fun _ _ _ _ h=>by
 obtain⟨A,c,xs,J,U,ae,_,aF,aW⟩:=h;exact⟨A,c,xs,J,U,ae,fun _ h=>(by cases h),aF,aW⟩
theorem bp.mL{env:Nat->Loc} {B:Nat->Prop} {w:World} (id:Nat):∀ {l:bo} {H:List bd},bp env B w l H->bp env B w (rH id l) H
 | [],_,h=>h
 | (j,.row t g l c) :: r,_,⟨k,H',e,J,U⟩=>by
  unfold rH
  split
  ·obtain⟨A,q,xs,ae,aw,aF,aW⟩:=J
   exact⟨k,H',e,⟨A,q,xs,ae,aw,aF,fun _ h=>by cases h⟩,U⟩
  ·exact⟨k,H',e,J,bp.mL id U⟩
 | (j,.cells _ _) :: r,_,⟨k,H',e,J,U⟩=>⟨k,H',e,J,bp.mL id U⟩
 | (j,.hk _ _) :: r,_,⟨k,H',e,J,U⟩=>⟨k,H',e,J,bp.mL id U⟩
 | (j,.mp _ _ _ _) :: r,_,⟨k,H',e,J,U⟩=>⟨k,H',e,J,bp.mL id U⟩
 | (j,.it _ _ _ _) :: r,_,⟨k,H',e,J,U⟩=>⟨k,H',e,J,bp.mL id U⟩
 | (j,.gT _) :: r,_,⟨k,H',e,J,U⟩=>⟨k,H',e,J,bp.mL id U⟩
 | (j,.jK) :: r,_,⟨k,H',e,J,U⟩=>⟨k,H',e,J,bp.mL id U⟩
 | (j,.ez _ _ _ _ _ _ _) :: r,_,⟨k,H',e,J,U⟩=>⟨k,H',e,J,bp.mL id U⟩
 | (j,.kc) :: r,_,⟨k,H',e,J,U⟩=>⟨k,H',e,J,bp.mL id U⟩
 | (j,.fr _ _ _) :: r,_,⟨k,H',e,J,U⟩=>⟨k,H',e,J,bp.mL id U⟩
 | (j,.b0 _ _ _ _ _ _) :: r,_,⟨k,H',e,J,U⟩=>⟨k,H',e,J,bp.mL id U⟩
theorem cA.AQ(id:Nat) {st':aK} (h:st'=⟨st.L,rH id st.H⟩):cA X n st st':=fun R W aD M a w ⟨ks,env,B,ak,H,b2,ad⟩=>by
 subst h;exact⟨ks,env,B,ak,H,b2,ad.size,ad.defs,ad.has,bp.mL id ad.heap,ad.aJ,ad.sub,ad.new,ad.dj,ad.base,ad.dT⟩
end
theorem AC.XO{X:bl} {f:FuncId} {args:List bf} {aP:bo} {V:bZ} (h:AC X f args aP (fun sv _=>sv=V)):AC X f args aP (fun sv h=>sv=V/\h=[]):=by
 intro B ak env vs H W aM bq cB al;refine(h B ak env vs H W aM bq cB al).mono ?_;rintro v w' ⟨env',B',cy,H',s,aN,ho,J,U,ae,aw,aF,aW,bC⟩;exact⟨env',B',cy,[],s,[],⟨ho,rfl⟩,J,U,ae,aw,rfl,aW.er (List.nil_sublist _),bC⟩
theorem gy:(∀ b,(b&&true)=b)/\(∀ b,(true&&b)=b)/\(∀ b,(b || true)=true)/\(∀ b,(true || b)=true)/\(!true)=false/\(!false)=true/\(∀ b,(b || false)=b)/\(∀ b,(false || b)=b)/\(∀ b,(b&&b)=b)/\(∀ b:Bool,(!b || b)=true)/\(∀ b,(b || b)=b):=by decide
theorem jA:(∀ b,(b&&true)=b)/\(∀ b,(true&&b)=b)/\(∀ b,(b||true)=true)/\(∀ b,(true||b)=true)/\(!true)=false/\(!false)=true/\(∀ b,(b||false)=b)/\(∀ b,(false||b)=b)/\(∀ b,(b&&b)=b)/\(∀ b:Bool,(!b||b)=true)/\(∀ b,(b||b)=b)/\(∀ [h:Decidable True],@decide True h=true)/\(∀ {α:Type}(a b:α),cond true a b=a)/\(∀ {α:Type}(a b:α),cond false a b=b):=⟨gy.1,gy.2.1,gy.2.2.1,gy.2.2.2.1,gy.2.2.2.2.1,gy.2.2.2.2.2.1,gy.2.2.2.2.2.2.1,gy.2.2.2.2.2.2.2.1,gy.2.2.2.2.2.2.2.2.1,gy.2.2.2.2.2.2.2.2.2.1,gy.2.2.2.2.2.2.2.2.2.2,fun {_}=>decide_true _,fun _ _=>rfl,fun _ _=>rfl⟩
theorem cm.data{env:Nat->Loc} {B:Nat->Prop} {w:World} {g:aR} {cs hI:List bc} {x:g.D} {c:Bool} {vs:List Value} (J:cm env B w cs vs) (ax:dec g cs=some (c,x,[])) (aa:c=true) (aM:kD g x 0 g.size=some hI):cm env B w hI vs:=by
 obtain⟨v1,v2,a7,aA,U⟩:=oq J ax aa;have aw:v2=[]:=U;subst aw;rw[List.append_nil]at a7;subst a7;obtain⟨us,⟨ag,ar⟩,ae⟩:=bt.cells aA aM;have mG:=bt.length aA;have sU:us=vs:=by
  apply List.ext_getElem?
  intro j;cases aX:us[j]? with
  | some u=>
   have:=ar j u aX
   rw[Nat.zero_add]at this;exact this.symm
  | none=>
   rw[List.getElem?_eq_none_iff]at aX;exact(List.getElem?_eq_none_iff.2 (by omega)).symm
 subst sU;exact ae
theorem cA.data{X:bl} {n:Nat} {st:aK} (s:Nat) (g:aR) {cs hI:List bc} {x:g.D} {c:Bool} (al:aS st.L s=some (.a (.agg cs))) (ax:dec g cs=some (c,x,[])) (aa:c=true) (aM:kD g x 0 g.size=some hI):cA X n st ⟨(s,.a (.agg hI)) :: st.L,st.H⟩:=cA.conv _ al fun env B w v ⟨vs,e,J⟩=>⟨vs,e,J.data ax aa aM⟩
theorem cA.AR{X:bl} {n:Nat} {st:aK} (id:Nat) (g:aR) {t:TypeId} {cs hI:List bc} {x:g.D} {c:Bool} (al:aS st.H id=some (.cells t cs)) (ax:dec g cs=some (c,x,[])) (aa:c=true) (aM:kD g x 0 g.size=some hI):cA X n st ⟨st.L,ek id (.cells t hI) st.H⟩:=fun R W aD M a w ⟨ks,env,B,ak,H,b2,h⟩=>by
 obtain⟨ds,K,⟨b,vs,he,e,gg⟩,⟨Y,Z,J,U⟩,ae⟩:=h.k3 (b':=.cells t hI) al;obtain⟨H',aw⟩:=ae ds a w ⟨b,vs,he,e,gg.data ax aa aM⟩ (by rw[U]; dsimp only; rw[<- J]; exact h.aJ) h.bK;exact⟨ks,env,B,ak,H',b2,aw⟩
end
section
open Go.ChangeShapes Go.WideShapes Go.ChangeAt Go.WideElems Go.RowKit
theorem Tryz.own:ownKnob Tryz.prog.godebug=none:=by kernel_rfl
theorem Tryz.laidOut:laidOutB Tryz.prog=true:=by kernel_rfl
theorem XP{k:IntKind} {n:Int} (h:(Lit.int k n).wf=true):k.min<=n/\n<=k.max:=by simpa [Lit.wf] using h
end
section
def aR.beq:(g:aR)->g.D->g.D->Bool
 | .int _=>fun(x:Int) (y:Int)=>x == y
 | .bool=>fun(x:Bool) (y:Bool)=>x == y
 | .str=>fun(x:List UInt8) (y:List UInt8)=>x == y
 | .pair g h=>fun x y=>g.beq x.1 y.1&&h.beq x.2 y.2
 | _=>fun _ _=>false
def df(gk a8:aR):List (gk.D×a8.D)->gk.D->Option a8.D
 | [],_=>none
 | x :: l,k=>match gk.beq x.1 k with
  | true=>some x.2
  | false=>df gk a8 l k
def eU(gk a8:aR):List (gk.D×a8.D)->gk.D->a8.D->List (gk.D×a8.D)
 | [],k,v=>[(k,v)]
 | x :: l,k,v=>match gk.beq x.1 k with
  | true=>(x.1,v) :: l
  | false=>x :: eU gk a8 l k v
def np:(g:aR)->g.D->Option bf
 | .pair a b,x=>(kD (.pair a b) x 0 (a.size+b.size)).map .agg
 | g,x=>(kZ g x 0).map .c
section
variable {B:Nat->Prop} {w:World} {k:IntKind} {a8:aR}
theorem fI.E3{z:Int}:∀ {l:List (Int×a8.D)} {es:List MapEntry} (i:Nat),fI B w (.int k) a8 l es ->
  (df (.int k) a8 l z=none/\Instr.findNow (.int k) (.int k z) es i=some none)\/∃ x j v,df (.int k) a8 l z=some x/\Instr.findNow (.int k) (.int k z) es i=some (some (i+j,v))/\ea B w a8 x v/\j < es.length
 | [],_,i,h=>by rw[show _=[] from h]; exact .inl ⟨rfl,rfl⟩
 | x :: l,_,i,⟨e,r,he,J,U,ae⟩=>by
  subst he;have ab:e.key=.int k x.1:=by
   have:=(show bt B w (.int k) x.1 [e.key] from J)
   have aw:[e.key]=[Value.int k x.1]:=this;exact(List.cons.inj aw).1
  unfold Instr.findNow df;rw[ab];simp only[Instr.sameNow,if_true]
  by_cases bP:x.1=z
  ·have aC:(aR.int k).beq x.1 z=true:=by simp[aR.beq,bP]
   have a7:(z == x.1)=true:=by simp[bP]
   rw[aC,a7];exact .inr ⟨x.2,0,e.val,rfl,rfl,U,by simp⟩
  ·have aC:(aR.int k).beq x.1 z=false:=by simp[aR.beq,bP]
   have a7:(z == x.1)=false:=by simp[Ne.symm bP]
   rw[aC,a7]
   rcases fI.E3 (i+1) ae with⟨aw,aF⟩ | ⟨y,j,v,aw,aF,aW,bC⟩
   ·exact .inl ⟨aw,aF⟩
   ·exact .inr ⟨y,j+1,v,aw,by rw[aF,Nat.add_assoc,Nat.add_comm 1 j],aW,by simpa using bC⟩
theorem va{es:List MapEntry} {f:MapEntry->MapEntry} (aA:∀ e,(f e).born=e.born):∀ (j:Nat),(es.modify j f).map (·.born)=es.map (·.born):=by
 induction es with
 | nil=>intro j; cases j<;>rfl
 | cons e es bx=>
  intro j;cases j with
  | zero=>simp[aA]
  | succ j=>simp only[List.modify_succ_cons,List.map_cons,bx j]
theorem fI.setInt{z:Int} {eB:a8.D} {vv:Value} (aE:ea B w a8 eB vv):∀ {l:List (Int×a8.D)} {es:List MapEntry} (i:Nat),fI B w (.int k) a8 l es ->
  (Instr.findNow (.int k) (.int k z) es i=some none/\eU (.int k) a8 l z eB=l++[(z,eB)]) \/
  ∃ j v e,Instr.findNow (.int k) (.int k z) es i=some (some (i+j,v))/\es[j]?=some e/\e.key=.int k z/\fI B w (.int k) a8 (eU (.int k) a8 l z eB) (es.modify j fun e=>{ e with key:=.int k z,val:=vv })
 | [],_,i,h=>by rw[show _=[] from h]; exact .inl ⟨rfl,rfl⟩
 | x :: l,_,i,⟨e,r,he,J,U,ae⟩=>by
  subst he;have ab:e.key=.int k x.1:=by
   have aw:[e.key]=[Value.int k x.1]:=J;exact(List.cons.inj aw).1
  unfold Instr.findNow eU;rw[ab];simp only[Instr.sameNow,if_true]
  by_cases bP:x.1=z
  ·have aC:(aR.int k).beq x.1 z=true:=by simp[aR.beq,bP]
   have a7:(z == x.1)=true:=by simp[bP]
   rw[aC,a7];refine .inr ⟨0,e.val,e,rfl,rfl,by rw[ab,bP],{ e with key:=.int k z,val:=vv },r,rfl,?_,aE,ae⟩;show [Value.int k z]=[Value.int k x.1]
   rw[bP]
  ·have aC:(aR.int k).beq x.1 z=false:=by simp[aR.beq,bP]
   have a7:(z == x.1)=false:=by simp[Ne.symm bP]
   rw[aC,a7]
   rcases fI.setInt aE (i+1) ae with⟨aw,aF⟩ | ⟨j,v,cv,aw,aF,aW,bC⟩
   ·exact .inl ⟨aw,by show x :: eU (.int k) a8 l z eB=_; rw[aF]; rfl⟩
   ·exact .inr ⟨j+1,v,cv,by rw[aw,Nat.add_assoc,Nat.add_comm 1 j],by simpa using aF,aW,e,_,rfl,J,U,bC⟩
theorem fI.snoc{gk a8:aR} {x:gk.D×a8.D} {e:MapEntry} (J:ea B w gk x.1 e.key) (U:ea B w a8 x.2 e.val):∀ {l:List (gk.D×a8.D)} {es:List MapEntry},fI B w gk a8 l es->fI B w gk a8 (l++[x]) (es++[e])
 | [],_,h=>by rw[show _=[] from h]; exact⟨e,[],rfl,J,U,rfl⟩
 | _ :: _,_,⟨cv,r,he,ae,aw,aF⟩=>by subst he; exact⟨cv,_,rfl,ae,aw,fI.snoc J U aF⟩
def jU:aR->bf->Bool
 | .pair _ _,.agg _=>true
 | .pair _ _,.c _=>false
 | _,.c _=>true
 | _,.agg _=>false
 | _,.arr _ _=>false
theorem ea.rI{env:Nat->Loc} {g:aR} {bm:bf} {c:Bool} {x:g.D} {v:Value} (ax:dec g bm.cells=some (c,x,[])) (aa:c=true) (al:jU g bm=true) (h:dP env B w bm v):ea B w g x v:=by
 cases bm with
 | c cg=>
  obtain⟨v1,v2,e,J,U⟩:=oq (cs:=[cg]) (vs:=[v]) ⟨v,[],rfl,h,rfl⟩ ax aa;have a7:v2=[]:=U;rw[a7,List.append_nil]at e;rw[<- e]at J;cases g with
  | pair a b=>cases al
  | _=>exact J
 | arr g2 l=>
  cases g with
  | pair a b=>cases al
  | _=>cases al
 | agg cs=>
  obtain⟨vs,e,ae⟩:=h;obtain⟨v1,v2,aC,J,U⟩:=oq ae ax aa;have a7:v2=[]:=U;rw[a7,List.append_nil]at aC;cases g with
  | pair a b=>exact⟨vs,e,by rw[aC]; exact J⟩
  | _=>cases al
theorem ea.bm{env:Nat->Loc} {g:aR} {x:g.D} {v:Value} {bm:bf} (h:ea B w g x v) (al:np g x=some bm):dP env B w bm v:=by
 have one:∀ {g:aR} {x:g.D} {v:Value} {bm:bf},bt B w g x [v]->(kZ g x 0).map bf.c=some bm->dP env B w bm v:=by
  intro g x v bm h al;obtain⟨c,aa,rfl⟩:=Option.map_eq_some_iff.1 al;obtain⟨u,J,U⟩:=bt.cell (env:=env) h aa;simp only[List.getElem?_cons_zero,Option.some.injEq]at J;rw[J];exact U
 cases g with
 | pair a b=>
  obtain⟨vs,e,J⟩:=h;obtain⟨l,ag,rfl⟩:=Option.map_eq_some_iff.1 (show(kD (.pair a b) x 0 (a.size+b.size)).map bf.agg=some bm from al);obtain⟨us,⟨U,ae⟩,aw⟩:=bt.cells (env:=env) J ag;have hlen:vs.length=a.size+b.size:=bt.length J
  have:us=vs:=by
   apply List.ext_getElem?
   intro i
   by_cases hi:i < us.length
   ·rw[List.getElem?_eq_getElem hi]
    have:=ae i us[i] (List.getElem?_eq_getElem hi)
    rw[Nat.zero_add]at this;exact this.symm
   ·rw[List.getElem?_eq_none (by omega),List.getElem?_eq_none (by omega)]
  subst this;exact⟨us,e,aw⟩
 | _=>exact one h al
end
section
variable {X:bl} {M:Bool} {n:Nat} {r:Option Nat} {st:aK} {Q:Exit->aK->Prop} {ops rest:List Oper} {o:Oper} {d:Nat}
end
end
section
section
variable {X:bl} {M:Bool} {n:Nat} {r:Option Nat} {st:aK} {Q:Exit->aK->Prop} {ops rest:List Oper} {o:Oper} {d:Nat}
end
end
section
section
variable {α β:Type}
end
end
section
section
variable {X:bl} {M:Bool} {n:Nat} {r:Option Nat} {st:aK} {Q:Exit->aK->Prop} {ops rest:List Oper} {o:Oper} {d:Nat}
end
end
section
def pt(g:aR):Nat->List bc->Option (Bool×List g.D×List bc)
 | 0,r=>some (true,[],r)
 | m+1,r=>match dec g r with
  | some (fe,x,ay)=>match pt g m ay with
   | some (cz,l,aO)=>some (fe&&cz,x :: l,aO)
   | none=>none
  | none=>none
section
variable {env:Nat->Loc} {B:Nat->Prop} {w:World}
theorem xB{g:aR}:∀ {m:Nat} {cs:List bc} {c:Bool} {l:List g.D} {r:List bc} {vs:List Value},cm env B w cs vs->pt g m cs=some (c,l,r)->c=true->l.length=m/\∃ v1 v2,vs=v1++v2/\Flat (bt B w g) l v1/\cm env B w r v2
 | 0,cs,c,l,r,vs,h,ax,_=>by
  cases ax;exact⟨rfl,[],vs,rfl,rfl,h⟩
 | m+1,cs,c,l,r,vs,h,ax,aa=>by
  simp only[pt]at ax
  split at ax
  ·rename_i fe x ay J
   split at ax
   ·rename_i cz bV aO U
    cases ax;simp only[Bool.and_eq_true]at aa;obtain⟨v1,v2,rfl,ae,aw⟩:=oq h J aa.1;obtain⟨ag,v3,v4,rfl,aF,aW⟩:=xB aw U aa.2;exact⟨by rw[List.length_cons,ag],v1++v3,v4,by rw[List.append_assoc],⟨v1,v3,rfl,ae,aF⟩,aW⟩
   ·cases ax
  ·cases ax
end
section
variable {X:bl} {R:Nat->Prop} {W:World} {aD:e5} {n:Nat} {ks:List Nat} {env:Nat->Loc} {B:Nat->Prop} {ak:World} {H:List bd} {st st':aK} {a:Act} {w:World}
theorem cA.arr(s:Nat) (g:aR) (m:Nat) (l:List g.D) {t:TypeId} {cs:List bc} {c:Bool} (hid:Nat.blt s n=true) (al:aS st.L s=some (.c (.ptr s 0))) (bO:aS st.H s=some (.cells t cs)) (iO:pt g m cs=some (c,l,[])) (aa:c=true) (hm:m<=140737488355328) :
  cA X n st ⟨(s,.c (.eg s g.size 0 0)) :: eN s .dead st.L,(s,.row t g l (some m)) :: du s .dead st.H⟩:=fun R W aD M a w ⟨ks,env,B,ak,H,b2,h⟩=>by
 obtain⟨ds,Y,Z,⟨b,vs,he,rfl,gg⟩,U,ae⟩:=h.heap.take bO;obtain⟨ag,v1,v2,aE,cu,hM⟩:=xB gg iO aa;have ET:v2=[]:=hM;subst ET;rw[List.append_nil]at aE;subst aE;subst ag;obtain⟨H2,aw,aF,_⟩:=ae (iE env s (.row (some ⟨b,0,none⟩) l.length l.length)) .dead hU (fun _ _=>trivial);have ar:(H++ks.map c7).Perm (bd.gv b vs t :: (Y++Z++ks.map c7)):=by
  rw[U];simp only[List.append_assoc,List.cons_append];exact List.perm_middle
 have fk:bA (fun k=>R k\/B k) ak (bd.gv b vs t :: (H2++ks.map c7)) w:=(h.aJ.perm ar).er ((aw.append_right _).cons_cons _);refine⟨ks,iE env s (.row (some ⟨b,0,none⟩) l.length l.length),B,ak,.row (some ⟨b,0,none⟩) l.length t g.size l.length vs :: H2,b2,h.size,h.defs,fun q u hu=>?_,⟨_,H2,rfl,⟨_,_,vs,eH,rfl,cu,fun q au=>by cases au; rfl⟩,aF⟩,fk.zU (bt.jt cu) hm,h.sub,h.new,pc h.dj (fun q ar=>by have J:=(h.dj _ _ ar).1; have U:=dB hid; omega),h.base,h.dT⟩;rw[ct]at hu
 split at hu
 ·rename_i e
  subst e;cases hu;obtain⟨eO,aW,b',bC,db⟩:=h.has _ _ al;rw[he]at bC;cases bC;exact⟨eO,aW,b,_,_,eH,by rw[db]; simp⟩
 ·obtain⟨hz,hA,rfl⟩:=lU hu
  obtain⟨eO,aW,bC⟩:=h.has q hz hA;exact⟨eO,aW,ey.sub (z:=.dead) hU (fun _ _=>trivial) bC⟩
end
def qk:Option Nat->Nat->Option Nat
 | some c,k=>cond (Nat.ble k c) (some c) none
 | none,_=>none
section
variable {X:bl} {M:Bool} {n:Nat} {r:Option Nat} {st:aK} {Q:Exit->aK->Prop} {ops rest:List Oper} {o:Oper} {d:Nat}
theorem E4(k:Nat) (av:X.tt.ok X.P) {c':Bool} {st':aK} {l:List Oper} (h:lF X n (ed ops) (l.take k) true st=.done c' st') (aa:c'=true) (ho:jy X M n r ops (l.drop k) st' Q):jy X M n r ops l st Q:=by
 have:∀ (k:Nat) (l:List Oper) (c:Bool) (st:aK),lF X n (ed ops) (l.take k) c st=.done c' st'->jy X M n r ops (l.drop k) st' Q->jy X M n r ops l st Q:=by
  intro k
  induction k with
  | zero=>intro l c st h ho; simp only[List.take_zero,lF]at h; cases h; exact ho
  | succ k bx=>
   intro l c st h ho;cases l with
   | nil=>simp only[List.take_nil,lF]at h; cases h; exact ho
   | cons o l=>
    simp only[List.take_succ_cons,lF]at h
    split at h
    ·rename_i cz fy al
     have U:=Ex h aa;simp only[Bool.and_eq_true]at U;rintro R W aD a w ⟨ks,env,B,ak,H,b2,ad⟩;exact q0 (sH av al U.2 ad fun aQ w' env' H' _ bW=>bx l _ _ h ho _ _ _ _ _ ⟨ks,env',B,ak,H',b2,bW⟩)
    ·cases h
 exact this k l true st h ho
theorem E5(av:X.tt.ok X.P) {t e:TypeId} {x y:Operand} {g1 g2:Bool} {dv:bf} {id cx gl:Nat} {ge g:aR} {l bV:List g.D} {cap:Option Nat} {bg:a6} {aG:TypeDesc} {iF:Value} (az:o.op=.call ⟨.builtin .append,⟨[x,y]⟩,⟨[t,t]⟩⟩) (bb:o.guard=none/\o.dst=some d) (ax:(Nat.blt d n&&Nat.blt id hx)=true)
  (aZ:X.tt.find t=some bg) (cK:bg.bh.desc=.slice e) (he:X.tt.find e=some ⟨⟨aG,cx,gl,iF⟩,some ge⟩) (ao:bj X st.L x=some (g1,.c (.ah id))) (aM:g1=true) (aV:bj X st.L y=some (g2,dv)) (fD:g2=true)
  (bO:aS st.H id=some (.row e g l cap)) (cQ:Nat.beq g.size cx=true) (k4:kH st g dv=some bV) (aa:cM gl (l.length+bV.length)=true)
  (dc:jy X M n r ops rest ⟨(d,.c (.ah id)) :: eN id .dead st.L,(id,.row e g (l++bV) (qk cap (l.length+bV.length))) :: du id .dead st.H⟩ Q):jy X M n r ops (o :: rest) st Q:=by
 rintro R W aD a w ⟨ks,env,B,ak,H,b2,h⟩;obtain⟨vx,gG,jM⟩:=h.aB ao aM;obtain⟨vy,fm,iq⟩:=h.aB aV fD;obtain⟨c3,dy,hO⟩:=(bY.get av he).g ge rfl;obtain⟨T,ca,J,aw⟩:=lT (bY.get av aZ).bh (bY.get av he).bh;dsimp only at c3 dy aw;have mA:iF.cells.size=cx:=by
  have:iF.cells.toList.length=cx:=by rw[dy,<- c3]; exact bt.length (bt.ev (B:=B) (w:=ak) ge)
  simpa using this
 simp only[Bool.and_eq_true]at ax;obtain⟨ax,p9⟩:=ax;have fC:=Nat.eq_of_beq_eq_true cQ;simp only[cM,Bool.and_eq_true,decide_eq_true_eq]at aa;obtain⟨c6,cz,fL,rfl,hW,gH⟩:=pe h k4 iq;obtain⟨A,c,m,hX,rfl⟩:=jM;obtain⟨ds,K,⟨cj,k',xs,k5,rfl,cu,ff⟩,dQ,lZ⟩:=h.Ai (d:=d) (b':=.row e g (l++bV) (qk cap (l.length+bV.length))) bO (fun q ar=>by
  obtain⟨_,aF,aW⟩:=h.dj _ _ ar;rw[hX]at aF
  rcases aW with⟨b,aW⟩ | aW
  ·rw[<- aF]at aW; cases aW
  ·have:=dB p9; omega)
 rw[hX]at k5;cases k5;rw[fC]at dQ gH;refine q0 (Kc h.sym az bb ax ca J cK aw (by rw[<- c3]; exact Nat.ble_eq_true_of_le hO) mA gG fm dQ gH (Flat.h8 (fun _ _=>bt.h8) hW) aa.1 aa.2 fun cj c' aQ w' q4 cS=>?_);obtain⟨H',kF,db⟩:=lZ (.row cj c' (l.length+bV.length)) _ aQ w' (.c (.ah id)) _ ⟨cj,c',xs++fL,by rw[eH,List.length_append],by rw[List.length_append],cu.append hW,fun q au=>by
  cases cap with
  | none=>cases au
  | some cc=>
   have aC:=ff cc rfl;subst aC;cases ai:Nat.ble (l.length+bV.length) c with
   | true=>
    simp only[qk,ai,cond_true,Option.some.injEq]at au;subst au;exact q4 (Nat.le_of_ble_eq_true ai)
   | false=>simp only[qk,ai,cond_false]at au; cases au⟩ ⟨cj,c',_,eH,rfl⟩ (by rw[fC]; exact cS.aJ) cS.st
 exact dc R W aD aQ w' ⟨ks,_,B,ak,H',b2,db⟩
end
end
section
def aR.key:aR->Bool
 | .int _=>true
 | .bool=>true
 | .str=>true
 | .pair g h=>g.key&&h.key
 | _=>false
def aR.cH:(g:aR)->g.D->List Value
 | .int k,x=>[.int k x]
 | .bool,x=>[.bool x]
 | .str,x=>[eW x]
 | .pair g h,x=>g.cH x.1++h.cH x.2
 | _,_=>[]
theorem bt.cH{B:Nat->Prop} {w:World}:∀ {g:aR} {x:g.D} {vs:List Value},g.key=true->bt B w g x vs->vs=g.cH x
 | .int _,_,_,_,h=>h
 | .bool,_,_,_,h=>h
 | .str,_,_,_,h=>h
 | .ah _,_,_,h,_=>by cases h
 | .gO _,_,_,h,_=>by cases h
 | .unit,_,_,h,_=>by cases h
 | .fn,_,_,h,_=>by cases h
 | .pair g h,x,_,ab,⟨v1,v2,e,J,U⟩=>by
  simp only[aR.key,Bool.and_eq_true]at ab;rw[e,bt.cH ab.1 J,bt.cH ab.2 U]
  rfl
theorem beq_iff{g:aR} (x y:g.D) (ab:g.key=true):g.beq x y=true ↔ x=y:=by
 induction g with
 | int k=>show((x:Int) == y)=true ↔ _; simp
 | bool=>show((x:Bool) == y)=true ↔ _; simp
 | str=>show((x:List UInt8) == y)=true ↔ _; simp
 | ah g _=>cases ab
 | gO g _=>cases ab
 | unit=>cases ab
 | fn=>cases ab
 | pair g h EW EX=>
  simp only[aR.key,Bool.and_eq_true]at ab;show(g.beq x.1 y.1&&h.beq x.2 y.2)=true ↔ _;rw[Bool.and_eq_true,EW _ _ ab.1,EX _ _ ab.2];exact⟨fun⟨a,b⟩=>Prod.ext a b,fun e=>by rw[e]; exact⟨rfl,rfl⟩⟩
structure rJ(P:Program) (t:TypeId) (g:aR):Prop where
 key:g.key=true
 eq:∀ (x y:g.D) (w:World),(Op.equalIn 10000 t (.agg (g.cH x).toArray) (.agg (g.cH y).toArray)).run P w=.ok (g.beq x y) w
 guard:P.eqGuardType P.depth t=false
def aR.vb:aR->Nat->Bool
 | .int _,0=>true
 | .bool,1=>true
 | .str,2=>true
 | _,_=>false
def jB(e:TypeId->aR->Bool):Nat->List Field->aR->Bool
 | _,[],_=>false
 | off, [f], g => decide (f.name ≠ "_") && (Nat.beq f.offset off && e f.type g)
 | off, f :: dD, .pair g h => decide (f.name ≠ "_") && (Nat.beq f.offset off && (e f.type g && jB e (off + g.size) dD h))
 | _,_,_=>false
def kI(P:Program) (tt:bY):Nat->TypeId->aR->Bool
 | 0,_,_=>false
 | d+1,t,g=>match tt.find t with
  | none=>false
  | some bg=>match bg.bh.desc with
   | .int _=>g.vb 0
   | .bool=>g.vb 1
   | .string=>g.vb 2
   | .struct dD=>Nat.beq bg.bh.size g.size&&(!P.stoodInHeld t&&jB (kI P tt d) 0 dD.toList g)
   | _=>false
def oC(tt:bY) (t:TypeId) (vs:List Value):Value:=match tt.find t with
 | some bg=>match jq bg.bh.desc with
  | true=>.agg vs.toArray
  | false=>vs.headD undef
 | none=>undef
theorem vc:∀ {g:aR} (x:g.D),g.key=true->(g.cH x).length=g.size
 | .int _,_,_=>rfl
 | .bool,_,_=>rfl
 | .str,_,_=>rfl
 | .ah _,_,h=>by cases h
 | .gO _,_,h=>by cases h
 | .unit,_,h=>by cases h
 | .fn,_,h=>by cases h
 | .pair g h,x,ab=>by
  simp only[aR.key,Bool.and_eq_true]at ab;show(g.cH x.1++h.cH x.2).length=g.size+h.size;rw[List.length_append,vc x.1 ab.1,vc x.2 ab.2]
theorem vd{P:Program} {tt:bY} (av:tt.ok P) {d:Nat} {t:TypeId} {g:aR} {x:g.D} {xs:Array Value} {off:Nat} {r:List Value} (ab:g.key=true) (he:kI P tt d t g=true) (ao:xs.toList.drop off=g.cH x++r) (w:World):(part t xs off).run P w=.ok (oC tt t (g.cH x)) w:=by
 cases d with
 | zero=>cases he
 | succ d=>
  unfold kI at he;cases aA:tt.find t with
  | none=>simp[aA]at he
  | some bg=>
   rw[aA]at he;dsimp only at he;have nO:=(bY.get av aA).bh;have J:∀ v,g.cH x=[v]->xs[off]?=some v:=fun v aE=>by
    have U:(xs.toList.drop off)[0]?=some v:=by rw[ao,aE]; rfl
    rw[List.getElem?_drop]at U
    simpa using U
   unfold part;simp only[Sem.run_bind,bz.wT nO,Result.andThen_ok];unfold oC;rw[aA];dsimp only;have h7:∀ q,g.vb q=true->∃ v,g.cH x=[v]:=fun q au=>by
    cases g with
    | int k=>exact⟨_,rfl⟩
    | bool=>exact⟨_,rfl⟩
    | str=>exact⟨_,rfl⟩
    | ah _=>cases ab
    | gO _=>cases ab
    | unit=>cases ab
    | fn=>cases ab
    | pair _ _=>cases q<;>cases au
   split at he
   ·rename_i ax
    obtain⟨v,aE⟩:=h7 _ he;rw[ax,J v aE,aE]
    rfl
   ·rename_i ax
    obtain⟨v,aE⟩:=h7 _ he;rw[ax,J v aE,aE]
    rfl
   ·rename_i ax
    obtain⟨v,aE⟩:=h7 _ he;rw[ax,J v aE,aE]
    rfl
   ·rename_i dD ax
    simp only[Bool.and_eq_true]at he;rw[ax];have al:=Nat.eq_of_beq_eq_true he.1;simp only[jq,if_true,Sem.run_bind,bz.run_sizeOf nO,Result.andThen_ok,Sem.run_pure,al];have ae:xs.extract off (off+g.size)=(g.cH x).toArray:=by
     apply Array.toList_inj.1
     rw[Array.toList_extract,List.extract_eq_take_drop,ao,Nat.add_sub_cancel_left,List.take_left' (vc x ab)]
    rw[ae]
   ·cases he
theorem XQ{P:Program} {tt:bY} (av:tt.ok P) {k d:Nat} (bx:∀ t (g:aR) (x y:g.D) w,g.key=true->kI P tt k t g=true->(Op.equalIn d t (oC tt t (g.cH x)) (oC tt t (g.cH y))).run P w=.ok (g.beq x y) w) :
  ∀ (dD:List Field) (off:Nat) (g:aR) (x y:g.D) (xs bJ:Array Value) (w:World),g.key=true->jB (kI P tt k) off dD g=true->xs.toList.drop off=g.cH x->bJ.toList.drop off=g.cH y->(Op.eqFields d xs bJ dD).run P w=.ok (g.beq x y) w:=by
 intro dD
 induction dD with
 | nil=>intro off g x y xs bJ w _ h; simp[jB]at h
 | cons f dD xC=>
  intro off g x y xs bJ w ab h ao aV;cases dD with
  | nil=>
   have aN : (decide (f.name ≠ "_") && (Nat.beq f.offset off && kI P tt k f.type g)) = true := by
    cases g<;>exact h
   simp only[Bool.and_eq_true,decide_eq_true_eq]at aN;obtain⟨bk,bb,he⟩:=aN;have bb:=Nat.eq_of_beq_eq_true bb;simp only[Op.eqFields,if_pos bk,Sem.run_bind,bb,vd av ab he (r:=[]) (by rw[ao,List.append_nil]),vd av ab he (r:=[]) (by rw[aV,List.append_nil]),Result.andThen_ok,bx _ _ _ _ _ ab he];cases g.beq x y<;>simp
  | cons f2 dD=>
   cases g with
   | pair g U=>
    have aN : (decide (f.name ≠ "_") && (Nat.beq f.offset off && (kI P tt k f.type g && jB (kI P tt k) (off + g.size) (f2 :: dD) U))) = true := h
    simp only[Bool.and_eq_true,decide_eq_true_eq]at aN;obtain⟨bk,bb,he,aH⟩:=aN;have bb:=Nat.eq_of_beq_eq_true bb;simp only[aR.key,Bool.and_eq_true]at ab;have jV:xs.toList.drop off=g.cH x.1++U.cH x.2:=ao;have iS:bJ.toList.drop off=g.cH y.1++U.cH y.2:=aV;have sV:=xC (off+g.size) U x.2 y.2 xs bJ w ab.2 aH (by rw[<- List.drop_drop,jV,<- vc x.1 ab.1,List.drop_left]) (by rw[<- List.drop_drop,iS,<- vc y.1 ab.1,List.drop_left]);show _=Result.ok (g.beq x.1 y.1&&U.beq x.2 y.2) w;rw[Op.eqFields,if_pos bk];simp only[Sem.run_bind,bb,vd av ab.1 he jV,vd av ab.1 he iS,Result.andThen_ok,bx _ _ _ _ _ ab.1 he];cases ai:g.beq x.1 y.1 with
    | true=>simpa using sV
    | false=>simp
   | int _=>simp[jB]at h
   | bool=>simp[jB]at h
   | str=>simp[jB]at h
   | ah _=>simp[jB]at h
   | gO _=>simp[jB]at h
   | unit=>simp[jB]at h
   | fn=>simp[jB]at h
theorem XR{P:Program} {tt:bY} (av:tt.ok P) (m:Nat):∀ (k:Nat) (t:TypeId) (g:aR) (x y:g.D) (w:World),g.key=true->kI P tt k t g=true->(Op.equalIn (m+k) t (oC tt t (g.cH x)) (oC tt t (g.cH y))).run P w=.ok (g.beq x y) w:=by
 intro k
 induction k with
 | zero=>intro t g x y w _ h; cases h
 | succ k bx=>
  intro t g x y w ab h;have aP:=h;unfold kI at h;cases aA:tt.find t with
  | none=>simp[aA]at h
  | some bg=>
   rw[aA]at h;dsimp only at h;have nO:=(bY.get av aA).bh;have gY:=nO.1;unfold oC;rw[aA];dsimp only
   split at h
   ·rename_i jN ax
    rw[ax]at gY ⊢;cases g with
    | int k=>exact run_equalIn_int w _ t _ _ _ _ gY
    | _=>cases h
   ·rename_i ax
    rw[ax]at gY ⊢;cases g with
    | bool=>exact run_equalIn_bool w _ t _ _ gY
    | _=>cases h
   ·rename_i ax
    rw[ax]at gY ⊢;cases g with
    | str=>
     have:=run_equalIn_string (P:=P) w (m+k) t ⟨List.toArray x⟩ ⟨List.toArray y⟩ gY
     simp only[wZ]at this;exact this
    | _=>cases h
   ·rename_i dD ax
    rw[ax]at gY ⊢;simp only[Bool.and_eq_true,Bool.not_eq_true']at h;have XS:P.underlying t=some (.struct dD.toList.toArray):=by simpa using gY
    show(Op.equalIn (m+k+1) t (.agg _) (.agg _)).run P w=_;rw[Sj w (m+k) t _ _ XS h.2.1];exact XQ av bx dD.toList 0 g x y _ _ w ab h.2.2 (by simp) (by simp)
   ·cases h
theorem rJ.of{P:Program} {tt:bY} (av:tt.ok P) {t:TypeId} {bg:a6} {g:aR} {dD:Array Field} (ab:g.key=true) (aA:tt.find t=some bg) (ax:bg.bh.desc=.struct dD) (h:kI P tt 12 t g=true) (aM:P.eqGuardType P.depth t=false):rJ P t g:=by
 refine⟨ab,fun x y w=>?_,aM⟩
 have:=XR av 9988 12 t g x y w ab h
 unfold oC at this;rw[aA]at this;dsimp only at this;rw[ax]at this;exact this
section
variable {X:bl} {M:Bool} {n:Nat} {r:Option Nat} {st:aK} {Q:Exit->aK->Prop} {ops rest:List Oper} {o:Oper} {d:Nat}
theorem cm.cH{env:Nat->Loc} {B:Nat->Prop} {w:World} {g:aR} {cs:List bc} {x:g.D} {c:Bool} {v:Value} (ab:g.key=true) (J:dP env B w (.agg cs) v) (ax:dec g cs=some (c,x,[])) (aa:c=true):v=.agg (g.cH x).toArray:=by
 obtain⟨vs,rfl,J⟩:=J;obtain⟨v1,v2,a7,aA,U⟩:=oq J ax aa;have aw:v2=[]:=U;subst aw;rw[List.append_nil]at a7;subst a7;rw[bt.cH ab aA]
end
end
section
open Go.ChangeShapes Go.WideShapes Go.ChangeAt Go.WideElems Go.RowKit
def ql:(g:aR)->g.D->Prop
 | .int k,(x:Int)=>k.min<=x/\x<=k.max
 | .ah g,(l:List g.D)=>∀ y∈l,ql g y
 | .pair g h,x=>ql g x.1/\ql h x.2
 | _,_=>True
def sW(tt:bY) (t:TypeId) (n:Nat):Bool:=match tt.find t with
 | some bg=>Nat.beq bg.bh.size n
 | none=>false
def nW(tt:bY) (e:TypeId->aR->Bool):Nat->List Field->aR->Bool
 | _,[],_=>false
 | off,[f],g=>Nat.beq f.offset off&&(sW tt f.type g.size&&e f.type g)
 | off,f :: dD,.pair g h=>Nat.beq f.offset off&&(sW tt f.type g.size&&(e f.type g&&nW tt e (off+g.size) dD h))
 | _,_,_=>false
def nX(tt:bY) (e:TypeId->aR->Bool) (t:TypeId) (s:Nat):Nat->aR->Bool
 | 0,_=>false
 | 1,g=>Nat.beq g.size s&&e t g
 | n+1,.pair g h=>Nat.beq g.size s&&(e t g&&nX tt e t s n h)
 | _,_=>false
def aR.XT:aR->IntKind->Bool
 | .int k,k'=>decide (k=k')
 | _,_=>false
def xD(tt:bY):Nat->TypeId->aR->Bool
 | 0,_,_=>false
 | d+1,t,g=>match tt.find t with
  | none=>false
  | some bg=>match bg.bh.desc with
   | .int k=>g.XT k
   | .bool=>g.vb 1
   | .string=>g.vb 2
   | .slice e=>match g with
    | .ah h=>Nat.blt 0 h.size&&(sW tt e h.size&&xD tt d e h)
    | _=>false
   | .struct dD=>Nat.beq bg.bh.size g.size&&nW tt (xD tt d) 0 dD.toList g
   | .array n e=>Nat.beq bg.bh.size g.size&&(match tt.find e with
    | some dA=>nX tt (xD tt d) e dA.bh.size n g
    | none=>false)
   | _=>false
section
variable {H:Type} {enc:TypeId×Value->H} {P:Program} {W:World} {tt:bY}
theorem E6(av:tt.ok P) {t:TypeId} {bg:a6} (h:tt.find t=some bg):P.cellsOf t=bg.bh.size:=by
 obtain⟨x,J,U,_⟩:=bz.info (bY.get av h).bh;unfold Program.cellsOf;rw[J];exact U
theorem E7(av:tt.ok P) {t:TypeId} {n:Nat} (h:sW tt t n=true):P.cellsOf t=n:=by
 unfold sW at h
 split at h
 ·rename_i bg aA
  rw[E6 av aA];exact Nat.eq_of_beq_eq_true h
 ·cases h
theorem XU{g:aR} {R:g.D->Prop} (na:0 < g.size) {t e:TypeId} (aZ:P.underlying t=some (.slice e)) (aa:P.cellsOf e=g.size) (iO:sT enc P W e g R):sT enc P W t (.ah g) (fun(l:List g.D)=>∀ y∈l,R y):=fun k cs x aA=>by
 let α:={ p:g.D×List Value // R p.1/\bt (fun b=>b < W.heap.size) W g p.1 p.2 }
 let f:α->List Value:=fun p=>p.1.2
 have al:∀ x:α,(f x).length=g.size:=fun x=>x.2.2.length
 rcases DataW.trod_slice aZ aA with⟨h,_⟩ | ⟨a,len,cap,elems,rest,n,_,h,_,_,ag,hm,hlen,nb,_,_⟩
 ·subst h
  exact⟨([]:List g.D),(fun y aV=>by cases aV),none,0,[],rfl,Nat.le_refl _,Nat.zero_le _,rfl,Reads.nil _ _ _,fun _ _ h=>absurd h (Nat.lt_irrefl _)⟩
 ·subst h
  rw[aa]at nb;obtain⟨l,p2,au⟩:=DS (Q:=fun i (y:α)=>∀ j,j < g.size->W.cell? ((a.add (i * g.size)).add j)=(f y)[j]?) len (fun i hi=>by
   have J:=nb i hi;have U:elems[i]?=some (elems[i]'(by omega)):=List.getElem?_eq_getElem (by omega);rw[U,Option.bind_eq_some_iff]at J;obtain⟨cs,ae,aw⟩:=J;obtain⟨y,XV,XW⟩:=iO _ _ _ aw;exact⟨⟨(y,cs),XV,XW⟩,(World.cells?_some ae).2.2⟩)
  have aH:Reads W (some a) len g.size (l.flatMap f):=by
   refine⟨by rw[jt f g.size al,p2],fun aP=>?_⟩;have bP:=au 0 (by omega) 0 na;have p0:W.cell? a=some ((f l[0])[0]'(by rw[al]; exact na)):=by
    have a7:(a.add (0 * g.size)).add 0=a:=by simp[Addr.add]
    rw[a7,List.getElem?_eq_getElem (by rw[al]; exact na)]at bP;exact bP
   have kb:=Ko p0;refine⟨a.block,a.off,congrArg some kb,fun j u hu=>?_⟩;have aX:j < len * g.size:=by have:=(List.getElem?_eq_some_iff.1 hu).1; rwa [jt f g.size al,p2]at this
   have hdiv:j / g.size < len:=(Nat.div_lt_iff_lt_mul na).2 aX;have su:=Nat.mod_lt j na;have aF:=au (j / g.size) (by omega) (j % g.size) su;rw[kb,Addr.add_lit,Addr.add_lit,List.getElem?_eq_getElem (by rw[al]; exact su)]at aF;have aW:=Kn f g.size al l (j / g.size) (j % g.size) (by omega) _ (List.getElem?_eq_getElem (by rw[al]; exact su));have sw:j / g.size * g.size+j % g.size=j:=by rw[Nat.mul_comm]; exact Nat.div_add_mod j g.size
   rw[sw,hu]at aW;rw[Nat.add_assoc,sw]at aF;rw[aF,aW]
  refine⟨l.map (·.1.1),fun x ao=>?_,some a,cap,l.flatMap f,by rw[List.length_map,p2],by rw[List.length_map,p2]; exact ag,hm,E0 l,by rw[List.length_map,p2]; exact aH,fun b p hm e=>?_⟩
  ·obtain⟨p,_,rfl⟩:=List.mem_map.1 ao
   exact p.2.1
  ·rw[List.length_map]at hm
   obtain⟨b',DT,cv,ik⟩:=aH.2 (by omega);rw[e]at cv;cases cv;cases ao:(l.flatMap f)[0]? with
   | some u=>exact LQ (ik 0 u ao)
   | none=>
    exfalso
    have ae:=aH.1;rw[List.getElem?_eq_none_iff]at ao;have aw:0 < len * g.size:=Nat.mul_pos (by omega) na;omega
theorem XX(av:tt.ok P) {e:TypeId->aR->Bool} (bx:∀ t g,e t g=true->sT enc P W t g (ql g)):∀ (dD:List Field) (off:Nat) (g:aR) (cs:List Value),nW tt e off dD g=true->cs.length=off+g.size ->
  (∀ f∈dD,∃ m x,DataW.trod enc P W 0 (fun _=>true) true m f.type ((cs.drop f.offset).take (P.cellsOf f.type))=some x)->∃ y:g.D,ql g y/\bt (fun b=>b < W.heap.size) W g y (cs.drop off):=by
 intro dD
 induction dD with
 | nil=>intro off g cs h; simp[nW]at h
 | cons f dD xC=>
  intro off g cs h ag aA;cases dD with
  | nil=>
   have aN:(Nat.beq f.offset off&&(sW tt f.type g.size&&e f.type g))=true:=by
    cases g<;>exact h
   simp only[Bool.and_eq_true]at aN;obtain⟨bb,al,he⟩:=aN;have bb:=Nat.eq_of_beq_eq_true bb;obtain⟨m,x,ao⟩:=aA f List.mem_cons_self;obtain⟨y,J,U⟩:=bx _ _ he _ _ _ ao;rw[bb,E7 av al,List.take_of_length_le (by rw[List.length_drop]; omega)]at U;exact⟨y,J,U⟩
  | cons f2 dD=>
   cases g with
   | pair g U=>
    have aN:(Nat.beq f.offset off&&(sW tt f.type g.size&&(e f.type g&&nW tt e (off+g.size) (f2 :: dD) U)))=true:=h;simp only[Bool.and_eq_true]at aN;obtain⟨bb,al,he,aH⟩:=aN;have bb:=Nat.eq_of_beq_eq_true bb;have l4:cs.length=off+(g.size+U.size):=ag;obtain⟨m,x,ao⟩:=aA f List.mem_cons_self;obtain⟨k2,ae,aw⟩:=bx _ _ he _ _ _ ao;rw[bb,E7 av al]at aw;obtain⟨ke,aF,aW⟩:=xC (off+g.size) U cs aH (by omega) (fun q au=>aA q (List.mem_cons_of_mem _ au));refine⟨(k2,ke),⟨ae,aF⟩,_,_,?_,aw,aW⟩;rw[<- List.drop_drop,List.take_append_drop]
   | int _=>simp[nW]at h
   | bool=>simp[nW]at h
   | str=>simp[nW]at h
   | ah _=>simp[nW]at h
   | gO _=>simp[nW]at h
   | unit=>simp[nW]at h
   | fn=>simp[nW]at h
theorem XY{e:TypeId->aR->Bool} {t:TypeId} {s:Nat} (bx:∀ g,e t g=true->sT enc P W t g (ql g)):∀ (n:Nat) (i0:Nat) (g:aR) (cs:List Value),nX tt e t s n g=true->cs.length=i0 * s+g.size ->
  (∀ i,i < n->∃ m x,DataW.trod enc P W 0 (fun _=>true) true m t ((cs.drop ((i0+i) * s)).take s)=some x)->∃ y:g.D,ql g y/\bt (fun b=>b < W.heap.size) W g y (cs.drop (i0 * s)):=by
 intro n
 induction n with
 | zero=>intro i0 g cs h; simp[nX]at h
 | succ n XZ=>
  intro i0 g cs h ag aA;cases n with
  | zero=>
   have aN:(Nat.beq g.size s&&e t g)=true:=by
    cases g<;>exact h
   simp only[Bool.and_eq_true]at aN;obtain⟨al,he⟩:=aN;have al:=Nat.eq_of_beq_eq_true al;obtain⟨m,x,ao⟩:=aA 0 (by omega);obtain⟨y,J,U⟩:=bx _ he _ _ _ ao;rw[Nat.add_zero,List.take_of_length_le (by rw[List.length_drop]; omega)]at U;exact⟨y,J,U⟩
  | succ n=>
   cases g with
   | pair g U=>
    have aN:(Nat.beq g.size s&&(e t g&&nX tt e t s (n+1) U))=true:=h;simp only[Bool.and_eq_true]at aN;obtain⟨al,he,aH⟩:=aN;have al:=Nat.eq_of_beq_eq_true al;have l4:cs.length=i0 * s+(g.size+U.size):=ag;obtain⟨m,x,ao⟩:=aA 0 (by omega);obtain⟨k2,ae,aw⟩:=bx _ he _ _ _ ao;obtain⟨ke,aF,aW⟩:=XZ (i0+1) U cs aH (by rw[Nat.add_mul]; omega) (fun i hi=>by
     have:=aA (i+1) (by omega)
     rw[show i0+1+i=i0+(i+1) by omega];exact this)
    refine⟨(k2,ke),⟨ae,aF⟩,_,_,?_,aw,aW⟩;rw[Nat.add_zero,Nat.add_mul,Nat.one_mul,<- List.drop_drop,List.take_append_drop]
   | int _=>simp[nX]at h
   | bool=>simp[nX]at h
   | str=>simp[nX]at h
   | ah _=>simp[nX]at h
   | gO _=>simp[nX]at h
   | unit=>simp[nX]at h
   | fn=>simp[nX]at h
theorem X0(av:tt.ok P):∀ (d:Nat) (t:TypeId) (g:aR),xD tt d t g=true->sT enc P W t g (ql g):=by
 intro d
 induction d with
 | zero=>intro t g h; cases h
 | succ d bx=>
  intro t g h k cs x ao;unfold xD at h;cases aA:tt.find t with
  | none=>simp[aA]at h
  | some bg=>
   rw[aA]at h;dsimp only at h;have nO:=(bY.get av aA).bh;have gY:=nO.1;have cQ:=E6 av aA
   split at h
   ·rename_i jN ax
    rw[ax]at gY;cases g with
    | int eA=>
     have:eA=jN:=of_decide_eq_true h
     subst this;exact XJ gY k cs x ao
    | _=>cases h
   ·rename_i ax
    rw[ax]at gY;cases g with
    | bool=>
     obtain⟨b,rfl,_⟩:=DataW.trod_bool gY ao;exact⟨b,trivial,rfl⟩
    | _=>cases h
   ·rename_i ax
    rw[ax]at gY;cases g with
    | str=>
     obtain⟨s,rfl,_⟩:=DataW.trod_string gY ao;exact⟨s.data.toList,trivial,rfl⟩
    | _=>cases h
   ·rename_i e ax
    rw[ax]at gY;cases g with
    | ah g=>
     simp only[Bool.and_eq_true]at h;exact XU (dB h.1) gY (E7 av h.2.1) (bx _ _ h.2.2) k cs x ao
    | _=>cases h
   ·rename_i dD ax
    rw[ax]at gY;simp only[Bool.and_eq_true]at h;have al:=Nat.eq_of_beq_eq_true h.1;obtain⟨xs,n,_,_,hlen,ka,nb⟩:=DataW.trod_struct gY ao;rw[cQ,al]at hlen;obtain⟨y,J,U⟩:=XX (enc:=enc) (W:=W) av bx dD.toList 0 g cs h.2 (by omega) (fun f X1=>by
     obtain⟨i,hi,rfl⟩:=List.mem_iff_getElem.1 X1;have nK:i < dD.size:=by simpa using hi
     have ae:=nb i dD[i] (Array.getElem?_eq_getElem nK);rw[List.getElem?_eq_getElem (by omega)]at ae;exact⟨n,_,by simpa using ae⟩)
    exact⟨y,J,U⟩
   ·rename_i n e ax
    rw[ax]at gY;simp only[Bool.and_eq_true]at h;have al:=Nat.eq_of_beq_eq_true h.1;obtain⟨xs,m,_,_,hlen,ka,nb⟩:=DataW.trod_array gY ao;rw[cQ,al]at hlen;have U:=h.2
    split at U
    ·rename_i dA E8
     rw[E6 av E8]at nb;obtain⟨y,J,ae⟩:=XY (enc:=enc) (W:=W) (tt:=tt) (fun g aM=>bx e g aM) n 0 g cs U (by omega) (fun i hi=>by
      have ae:=nb i hi;rw[List.getElem?_eq_getElem (by omega)]at ae;rw[Nat.zero_add];exact⟨m,_,ae⟩)
     rw[Nat.zero_mul]at ae;exact⟨y,J,ae⟩
    ·cases U
   ·cases h
end
end
section
theorem kB.LU:∀ (vs l:List Value),vs.length<=l.length->kB l 0 vs (vs++l.drop vs.length)
 | [],_,_=>.nil
 | _ :: _,[],h=>by simp at h
 | v :: vs,_ :: l,h=>.cons (kB.LU vs l (by simpa using h))
theorem kB.mk'{vs:List Value}:∀ {l:List Value} {k:Nat},k+vs.length<=l.length->kB l k vs (l.take k++vs++l.drop (k+vs.length))
 | l,0,h=>by
  simp only[List.take_zero,List.nil_append,Nat.zero_add]at h ⊢;exact kB.LU vs l h
 | [],k+1,h=>by simp at h
 | c :: l,k+1,h=>by
  have:=kB.mk' (vs:=vs) (l:=l) (k:=k) (by simp at h; omega)
  rw[show k+1+vs.length=(k+vs.length)+1 by omega];exact .skip this
def xE(g:aR):List g.D->Option (List bc)
 | []=>some []
 | x :: l=>match kD g x 0 g.size,xE g l with
  | some a,some b=>some (a++b)
  | _,_=>none
def o2{α:Type} (i:Nat) (y:α):Nat->List α->List α
 | _,[]=>[]
 | k,x :: l=>cond (Nat.beq i k) y x :: o2 i y (k+1) l
theorem LV{α:Type} (y:α):∀ (l:List α) (i k:Nat),o2 (i+k) y k l=l.set i y
 | [],_,_=>rfl
 | x :: l,0,k=>by
  show cond (Nat.beq (0+k) k) y x :: o2 (0+k) y (k+1) l=y :: l;rw[show Nat.beq (0+k) k=true by rw[Nat.zero_add]; exact Nat.beq_refl k,cond_true]
  congr 1
  have:∀ (l:List α) (i k:Nat),i < k->o2 i y k l=l:=by
   intro l
   induction l with
   | nil=>intros; rfl
   | cons x l bx=>
    intro i k h;show cond (Nat.beq i k) y x :: o2 i y (k+1) l=_;have ai:Nat.beq i k=false:=by
     cases ai:Nat.beq i k with
     | false=>rfl
     | true=>have:=Nat.eq_of_beq_eq_true ai; omega
    rw[ai,cond_false,bx i (k+1) (by omega)]
  exact this l _ _ (by omega)
 | x :: l,i+1,k=>by
  show cond (Nat.beq (i+1+k) k) y x :: o2 (i+1+k) y (k+1) l=x :: l.set i y;have ai:Nat.beq (i+1+k) k=false:=by
   cases ai:Nat.beq (i+1+k) k with
   | false=>rfl
   | true=>have:=Nat.eq_of_beq_eq_true ai; omega
  rw[ai,cond_false,show i+1+k=i+(k+1) by omega,LV y l i (k+1)]
section
variable {env:Nat->Loc} {B:Nat->Prop} {w:World}
theorem cm.take:∀ {cs:List bc} {vs:List Value} (k:Nat),cm env B w cs vs->cm env B w (cs.take k) (vs.take k)
 | _,_,0,_=>rfl
 | [],vs,k+1,h=>by rw[show vs=[] from h]; rfl
 | c :: cs,vs,k+1,⟨v,r,e,J,U⟩=>by
  subst e;exact⟨v,r.take k,rfl,J,cm.take k U⟩
theorem cm.drop:∀ {cs:List bc} {vs:List Value} (k:Nat),cm env B w cs vs->cm env B w (cs.drop k) (vs.drop k)
 | _,_,0,h=>h
 | [],vs,k+1,h=>by rw[show vs=[] from h]; rfl
 | c :: cs,vs,k+1,⟨v,r,e,J,U⟩=>by
  subst e;exact cm.drop k U
theorem cm.app:∀ {cs aG:List bc} {vs us:List Value},cm env B w cs vs->cm env B w aG us->cm env B w (cs++aG) (vs++us)
 | [],_,vs,_,h,U=>by rw[show vs=[] from h]; exact U
 | c :: cs,_,vs,_,⟨v,r,e,J,U⟩,ae=>by
  subst e;exact⟨v,_,rfl,J,cm.app U ae⟩
theorem bt.all{g:aR} {x:g.D} {vs:List Value} {cs:List bc} (aA:bt B w g x vs) (aM:kD g x 0 g.size=some cs):cm env B w cs vs:=by
 obtain⟨us,⟨ag,ar⟩,ae⟩:=bt.cells (env:=env) aA aM;have mG:=bt.length aA;have sU:us=vs:=by
  apply List.ext_getElem?
  intro j;cases aX:us[j]? with
  | some u=>
   have:=ar j u aX
   rw[Nat.zero_add]at this;exact this.symm
  | none=>
   rw[List.getElem?_eq_none_iff]at aX;exact(List.getElem?_eq_none_iff.2 (by omega)).symm
 subst sU;exact ae
theorem Flat.all{g:aR}:∀ {l:List g.D} {vs:List Value} {cs:List bc},Flat (bt B w g) l vs->xE g l=some cs->cm env B w cs vs
 | [],vs,cs,h,aM=>by cases aM; exact h
 | x :: l,vs,cs,⟨v1,v2,e,J,U⟩,aM=>by
  simp only[xE]at aM
  split at aM
  ·rename_i a b bq ai
   cases aM;subst e;exact(bt.all J bq).app (Flat.all U ai)
  ·cases aM
end
def aR.mM:aR->Bool
 | .pair _ _=>true
 | _=>false
theorem ea.LW{B:Nat->Prop} {w:World} {g:aR} {x:g.D} {vs:List Value} (h:bt B w g x vs) (ar:g.mM=true):ea B w g x (.agg vs.toArray):=by
 cases g with
 | pair a b=>exact⟨vs,rfl,h⟩
 | _=>cases ar
theorem ea.LX{B:Nat->Prop} {w:World} {g:aR} {x:g.D} {v:Value} (h:bt B w g x [v]) (ar:g.mM=false):ea B w g x v:=by
 cases g with
 | pair a b=>cases ar
 | _=>exact h
section
variable {X:bl} {M:Bool} {n:Nat} {r:Option Nat} {st:aK} {Q:Exit->aK->Prop} {ops rest:List Oper} {o:Oper} {d:Nat}
end
end
section
section
variable {P:Program} {b:Frame} {a:Act} {k:List Item} {cs:List Frame} {w:World} {Q:Exit->Act->World->Prop} {F:Fence} {n:Nat}
theorem xF{c:Code}:step P (lone (b.atR a (.code (.scope c) :: k)) cs w)=.next (lone (b.atR a (.code c :: .inScope c :: k)) cs w):=
 step_lone_go (by simp[stepG,stepG.exec,Frame.atR])
theorem X2{c:Code}:step P (lone (b.atR a (.inScope c :: k)) cs w)=.next (lone (b.atR a k) cs w):=
 step_lone_go (by simp[stepG,stepG.exec,Frame.atR])
theorem X3{c:Code} (h:c.wpIn F n P (Exit.noGoto Q) a w):(Code.scope c).wpIn F n P Q a w:=by
 intro b k cs sX ai aH;have aP:(lone (b.atR a (.code (.scope c) :: k)) cs w).fenced P F:=fenced_calm ai aH rfl;obtain⟨e,rK,xG,au,ve⟩:=h b (.inScope c :: k) cs sX ai aH;have ao:∀ id,exitTo id (.inScope c :: k)=exitTo id k:=fun id=>by simp[exitTo]
 cases e with
 | normal=>exact⟨.normal,rK,xG,au,.head aP xF (StepsIn.trans ve (.one (fenced_calm ai aH rfl) X2))⟩
 | exit id=>exact⟨.exit id,rK,xG,au,.of_steps (.one aP xF) ⟨fun k' ab=>ve.1 k' (by rw[ao]; exact ab),fun aH ab=>ve.2 aH (by rw[ao]; exact ab)⟩⟩
 | goto l=>exact au.elim
 | ret=>exact⟨_,rK,xG,au,.of_steps (.one aP xF) ve⟩
 | panic Lf=>exact⟨_,rK,xG,au,.of_steps (.one aP xF) ve⟩
 | outgrown=>exact⟨_,rK,xG,au,.of_steps (.one aP xF) ve⟩
end
section
variable {X:bl} {M:Bool} {n:Nat} {r:Option Nat} {st:aK} {Q:Exit->aK->Prop} {c:Code}
theorem X4{l:Nat} (h:Q .normal st):gm X M n r (.label l) st Q:=fun R W aD a w ad=>wpIn_label ⟨st,h,ad⟩
end
end
section
section
variable {X:bl} {M:Bool} {n:Nat} {r:Option Nat} {st:aK} {Q:Exit->aK->Prop} {ops rest:List Oper} {o:Oper} {d:Nat}
end
end
section
theorem X5{P:Program} {t e:TypeId} {m:Nat} {i':bz} {cs:List Value} {k:IntKind} {j:Nat} {w:World} (aZ:P.underlying t=some (.array m e)) (he:bz.ok P e i') (aX:j < m) {v:Value} (aE:(part e cs.toArray (j * i'.size)).run P w=.ok v w):(Instr.index t (.agg cs.toArray) (.int k (j:Int))).run P w=.ok v w:=by
 have aP:(0:Int)<=(j:Int):=Int.natCast_nonneg j;unfold Instr.index;simp only[asIntOf,Sem.run_bind,Sem.run_pure,Result.andThen_ok,run_underlying aZ];rw[if_pos ⟨aP,by omega⟩];simp only[Sem.run_bind,bz.run_sizeOf he,Result.andThen_ok,Int.toNat_natCast,aE]
theorem X6{P:Program} {e:TypeId} {i':bz} {B:Nat->Prop} {ak w:World} {g:aR} {l:List g.D} {vs:List Value} {j:Nat} (he:bz.ok P e i') (aA:Flat (bt B ak g) l vs) (aX:j < l.length) (cQ:g.size=i'.size) (lg:jq i'.desc=g.mM) (h7:(g.mM || Nat.beq g.size 1)=true) :
  ∃ v,(part e vs.toArray (j * i'.size)).run P w=.ok v w/\ea B ak g (l.getD j g.zero) v:=by
 have ka:l[j]?=some (l.getD j g.zero):=by rw[List.getD_eq_getElem?_getD,List.getElem?_eq_getElem aX]; rfl
 have U:=Flat.get (fun _ _=>bt.length) aA ka;have hlen:=bt.length U;cases ar:g.mM with
 | true=>
  refine⟨.agg (vs.toArray.extract (j * i'.size) (j * i'.size+i'.size)),?_,?_⟩
  ·unfold part
   simp[bz.wT he,lg,ar,bz.run_sizeOf he]
  ·have:=ea.LW U ar
   rw[<- cQ];have aC:vs.toArray.extract (j * g.size) (j * g.size+g.size)=((vs.drop (j * g.size)).take g.size).toArray:=by
    apply Array.ext'
    simp[Array.toList_extract,List.extract]
   rw[aC];exact this
 | false=>
  rw[ar,Bool.false_or]at h7;have rb:=Nat.eq_of_beq_eq_true h7;obtain⟨v,kG⟩:∃ v,(vs.drop (j * g.size)).take g.size=[v]:=by
   match hm:(vs.drop (j * g.size)).take g.size,hlen with
   | [v],_=>exact⟨v,rfl⟩
   | [],h=>simp[rb]at h
   | _ :: _ :: _,h=>simp[rb]at h
  have p8:vs[j * i'.size]?=some v:=by
   have:=congrArg (·[0]?) kG
   rw[<- cQ]
   simpa [List.getElem?_take,List.getElem?_drop,rb] using this
  refine⟨v,?_,ea.LX (by rw[<- kG]; exact U) ar⟩;unfold part
  simp[bz.wT he,lg,ar,p8]
def AS(g:aR) (m:Nat):bf->Option (Bool×List g.D)
 | .agg cs=>match pt g m cs with
  | some (c,l,[])=>some (c,l)
  | _=>none
 | .arr g' l=>match decEq g' g with
  | isTrue h=>some (true,h ▸ l)
  | isFalse _=>none
 | _=>none
theorem X7{env:Nat->Loc} {B:Nat->Prop} {w:World} {g:aR} {m:Nat} {x:bf} {c:Bool} {l:List g.D} {v:Value} (h:dP env B w x v) (bq:AS g m x=some (c,l)) (aa:c=true):∃ vs,v=.agg vs.toArray/\Flat (bt B w g) l vs:=by
 unfold AS at bq
 split at bq
 ·split at bq
  ·rename_i c' l' ax
   cases bq;obtain⟨vs,rfl,J⟩:=h;obtain⟨_,v1,v2,e,U,ae⟩:=xB J ax aa;have aw:v2=[]:=ae;rw[aw,List.append_nil]at e;subst e;exact⟨_,rfl,U⟩
  ·cases bq
 ·split at bq
  ·rename_i aM _
   subst aM;cases bq;exact h
  ·cases bq
 ·cases bq
section
variable {X:bl} {M:Bool} {n:Nat} {r:Option Nat} {st:aK} {Q:Exit->aK->Prop} {ops rest:List Oper} {o:Oper} {d:Nat}
end
end
section
def rL(l:List Int):List UInt8:=l.map fun z=>UInt8.ofNat z.toNat
def AT(l:List Int):Bool:=l.all fun z=>decide (0<=z)&&decide (z < 256)
theorem LY:∀ l:List Int,AT l=true->(rL l).map (fun c=>Value.int .u8 (c.toNat:Int))=l.map fun z=>Value.int .u8 z
 | [],_=>rfl
 | z :: l,h=>by
  simp only[AT,List.all_cons,Bool.and_eq_true,decide_eq_true_eq]at h;show Value.int .u8 (((UInt8.ofNat z.toNat).toNat:Nat):Int) :: (rL l).map _=_;rw[LY l h.2,List.map_cons]
  congr 2
  have:(UInt8.ofNat z.toNat).toNat=z.toNat:=UInt8.toNat_ofNat_of_lt' (by show z.toNat < 256; omega)
  rw[this,Int.toNat_of_nonneg h.1.1]
theorem X8(s:List UInt8) (a b:Nat):Value.string ((ByteArray.mk s.toArray).extract a b)=eW ((s.take b).drop a):=by
 unfold eW
 congr 1
 apply ByteArray.ext
 rw[ByteArray.data_extract]
 apply Array.ext'
 simp[Array.toList_extract,List.extract,List.drop_take]
section
variable {X:bl} {M:Bool} {n:Nat} {r:Option Nat} {st:aK} {Q:Exit->aK->Prop} {ops rest:List Oper} {o:Oper} {d:Nat}
theorem E9{P:Program} {t:TypeId} {s:List UInt8} {w:World} (aZ:P.underlying t=some .string) {lo hi:Option Value} {a b:Nat} (h:(Instr.sliceBounds false s.length s.length lo hi none).run P w=.ok (a,b,s.length) w):(Instr.sliceAt t (eW s) lo hi none).run P w=.ok (eW ((s.take b).drop a)) w:=by
 have cQ:(ByteArray.mk s.toArray).size=s.length:=by simp[ByteArray.size]
 unfold Instr.sliceAt Instr.slice;simp only[eW,Sem.run_bind,run_underlying aZ,Result.andThen_ok,cQ,h,Option.isSome_none,Bool.false_eq_true,if_false,Sem.run_pure]
 have:=X8 s a b
 simp only[eW]at this;rw[this]
end
end
section
section
variable {P:Program} {o:Oper} {n d:Nat} {D:List Deferred} {L:List (Nat×Value)} {a:Act} {w ak:World} {B:Nat->Prop} {H:List bd} {T:List (TypeId×bz)} {ops:Array Oper} {KK:Act->World->Prop}
theorem LZ{s x:Operand} {t e:TypeId} {i i':bz} {A c6:Option Addr} {k m cc:Nat} {xs news:List Value} (av:Sym n D L B ak H a w)
  (az:o.op=.call { callee:=.builtin .append,args:=#[s,x],argTypes:=#[t,t] }) (bb:o.guard=none/\o.dst=some d) (ax:Nat.blt d n=true)
  (ca:gd P T) (J:T.lookup t=some i) (U:i.desc=.slice e) (ae:T.lookup e=some i') (aw:Nat.blt 0 i'.size=true) (aF:i'.zero.cells.size=i'.size) (al:aB L s=some (.slice A k k)) (ao:aB L x=some (.slice c6 m cc))
  (kY:Reads w A k i'.size xs) (aH:Reads w c6 m i'.size news) (h7:∀ u∈news,u.oneCell'=true) (ht:(k+m) * i'.bytes<=140737488355328) (kV:k+m<=140737488355328)
  (bP:m=0->∀ aQ w',Sym n D ((d,.slice A k k) :: L) B ak H aQ w'->KK aQ w')
  (h:∀ cj c' aQ w',Sym n D ((d,.slice cj (k+m) c') :: L) B ak (.row cj c' e i'.size (k+m) (xs++news) :: H) aQ w'->KK aQ w'):e3 P ops o KK a w:=by
 have aC:=(ca _ _ J).1;rw[U]at aC;have cC:=ca _ _ ae
 by_cases hm:m=0
 ·subst hm
  have dw:(execOp a.eval o).run P w=.ok (.value (.slice A k k)) w:=by
   have oj:(Builtin.append_ #[t,t] o.type #[.slice A k k,.slice c6 0 cc]).run P w=.ok (.slice A k k) w:=by
    have gN:=bz.run_sizeOf cC w;have pZ:(Builtin.firstCells i'.size 0 (.slice c6 0 cc)).run P w=.ok #[] w:=by
     cases c6<;>simp[Builtin.firstCells,loadCells,loadCellsFrom]
    simp only[Builtin.append_,Sem.run_bind,run_underlying aC,Result.andThen_ok,gN]
    simp[run_underlying aC,Builtin.lenOf,pZ]
    cases A<;>simp[storeCells,gN,pZ]
   simp[execOp,az,resolve,invoke,builtin,av.aB al,av.aB ao,oj]
  exact pV av bb ax dw av.aJ (bP rfl)
 ·have pY:0 < m:=by omega
  cases A with
  | none=>
   have ab:k=0:=by
    by_cases ab:k=0
    ·exact ab
    ·obtain⟨b,p,e,_⟩:=kY.2 (by omega)
     cases e
   subst ab;have pr:xs=[]:=List.eq_nil_of_length_eq_zero (by rw[kY.1]; simp);subst pr;have sF:Sym n D L B ak (.row none 0 e i'.size 0 [] :: H) a w:=⟨av.st,av.aJ.o6 e i'.size⟩
   exact zS sF az bb ax ca J U ae aw aF al ao uG aH h7 ht kV h
  | some q5=>
   obtain⟨inf,o3,fk,iB,lR⟩:=bz.info cC;obtain⟨iP,hv,cv,il⟩:=aH.2 pY;subst cv;have holds:∀ j u,xs[j]?=some u->w.cell? (q5.add j)=some u:=fun j u hu=>by
    have br:j < xs.length:=(List.getElem?_eq_some_iff.1 hu).1;rw[kY.1]at br;have ab:0 < k:=by
     rcases Nat.eq_zero_or_pos k with ab | ab
     ·rw[ab,Nat.zero_mul]at br; omega
     ·exact ab
    obtain⟨b,p,cv,lS⟩:=kY.2 ab;cases cv;rw[Addr.add_lit];exact lS j u hu
   have hlen:(xs++news).length=(k+m) * i'.size:=by rw[List.length_append,kY.1,aH.1,Nat.add_mul]
   have dw:=run_append_grow (P:=P) w t o.type e inf i'.zero aC o3 lR q5 k k xs (by rw[kY.1,fk]) holds ⟨iP,hv,none⟩ m cc news (by rw[aH.1,fk]) (fun j u hu=>by rw[Addr.add_lit]; exact il j u hu) (by omega) (by omega) (growslice_fits (by omega) (by rw[iB]; exact ht));have q3:=grownCap_ge w (k+m) k e;have h6:grownCap w (k+m) k e<=maxLen:=grownCap_le_maxLen w (k+m) k e (by simp only[maxLen]; omega);refine pV av bb ax (v:=.slice (some ⟨w.heap.size,0,none⟩) (k+m) (grownCap w (k+m) k e)) (w':=w.drew.alloc (.cells (xs.toArray++news.toArray++Builtin.zeroCells i'.zero.cells (grownCap w (k+m) k e - (k+m))) e)) (by simp[execOp,az,resolve,invoke,builtin,av.aB al,av.aB ao,dw]) ?_ (h (some ⟨w.heap.size,0,none⟩) (grownCap w (k+m) k e));have lC:=av.aJ.drew;have bq:=lC.alloc (.cells (xs.toArray++news.toArray++Builtin.zeroCells i'.zero.cells (grownCap w (k+m) k e - (k+m))) e);have ar:=List.pairwise_cons.1 bq.apart;refine⟨bq.below,bq.base,fun ds jI=>?_,List.Pairwise.cons (fun ds jI q cv=>ar.1 ds jI q (by simpa [bd.has] using cv)) ar.2⟩
   rcases List.mem_cons.1 jI with rfl | jI
   ·refine⟨hlen,.inr ⟨w.heap.size,_,(0,0),rfl,av.aJ.fresh,heap_alloc_new w.drew _,.inl rfl,q3,h6,?_,?_⟩⟩
    ·simp only[Array.size_append,List.size_toArray,size_zeroCells,aF,kY.1,aH.1,<- Nat.add_mul]
     congr 1
     omega
    ·simp only[Array.toList_append,List.append_assoc]
     rw[<- List.append_assoc,<- hlen];exact List.take_left
   ·exact bq.ok ds (List.mem_cons_of_mem _ jI)
end
section
variable {X:bl} {M:Bool} {n:Nat} {r:Option Nat} {st:aK} {Q:Exit->aK->Prop} {ops rest:List Oper} {o:Oper} {d:Nat}
def fl(X:bl) (n:Nat) (o:Oper) (st st':aK):Prop:=∀ (R:Nat->Prop) (W:World) (aD:e5) (ks:List Nat) (env:Nat->Loc) (B:Nat->Prop) (ak:World) (H:List bd) (a:Act) (w:World),bB X R W aD n ks env B ak H st a w->∀ (KK:Act->World->Prop) (l:List Oper),(∀ aQ w' env' H',bB X R W aD n ks env' B ak H' st' aQ w'->KK aQ w')->e3 X.P l.toArray o KK a w
theorem AU{st':aK} {E:List Nat} {aG:hD} {fuel i:Nat} {l':Array Bool} (hi:nth ops i=some o) (ar:fl X n o st st') (gn:fz E aG.listed i=false) (ag:aG.listed.setIfInBounds i true=l')
  (h:jg X M n ops E fuel ⟨l',false,false,aG.jR,aG.all⟩ st' Q):pj X M n ops E fuel aG st Q i:=by
 intro R W aD dk dM cN F ks env B ak H a w b2 ad dL;refine⟨o,ld hi,ar R W aD ks env B ak H a w ad _ _ fun aQ w' env' H' bW=>?_⟩;have fX:=dL.lost (H':=H') (l:=l');rw[ag];exact⟨⟨fun he=>(by rw[gn]at he; cases he),fX.F bW⟩,h R W aD dk dM cN F ks env' B ak H' aQ w' b2 bW fX⟩
theorem X9(av:X.tt.ok X.P) {t e:TypeId} {x y:Operand} {g1 g2:Bool} {dv:bf} {id cx gl:Nat} {ge g:aR} {l bV:List g.D} {bg:a6} {aG:TypeDesc} {iF:Value} (az:o.op=.call ⟨.builtin .append,⟨[x,y]⟩,⟨[t,t]⟩⟩) (bb:o.guard=none/\o.dst=some d) (ax:(Nat.blt d n&&Nat.blt id hx)=true)
  (aZ:X.tt.find t=some bg) (cK:bg.bh.desc=.slice e) (he:X.tt.find e=some ⟨⟨aG,cx,gl,iF⟩,some ge⟩) (ao:bj X st.L x=some (g1,.c (.ah id))) (aM:g1=true) (aV:bj X st.L y=some (g2,dv)) (fD:g2=true)
  (bO:aS st.H id=some (.fr e g l)) (cQ:Nat.beq g.size cx=true) (k4:kH st g dv=some bV) (aa:cM gl (l.length+bV.length)=true):fl X n o st ⟨(d,.c (.ah id)) :: eN id .dead st.L,(id,.fr e g (l++bV)) :: du id .dead st.H⟩:=by
 intro R W aD ks env B ak H a w h KK lo dc;obtain⟨vx,gG,jM⟩:=h.aB ao aM;obtain⟨vy,fm,iq⟩:=h.aB aV fD;obtain⟨c3,dy,hO⟩:=(bY.get av he).g ge rfl;obtain⟨T,ca,J,aw⟩:=lT (bY.get av aZ).bh (bY.get av he).bh;dsimp only at c3 dy aw;have mA:iF.cells.size=cx:=by
  have:iF.cells.toList.length=cx:=by rw[dy,<- c3]; exact bt.length (bt.ev (B:=B) (w:=ak) ge)
  simpa using this
 simp only[Bool.and_eq_true]at ax;obtain⟨ax,p9⟩:=ax;have fC:=Nat.eq_of_beq_eq_true cQ;simp only[cM,Bool.and_eq_true,decide_eq_true_eq]at aa;obtain⟨c6,cz,fL,rfl,hW,gH⟩:=pe h k4 iq;obtain⟨A,c,m,hX,rfl⟩:=jM;obtain⟨ds,K,⟨cj,k',k5,qm⟩,dQ,lZ⟩:=h.Ai (d:=d) (b':=.fr e g (l++bV)) bO (fun q ar=>by
  obtain⟨_,aF,aW⟩:=h.dj _ _ ar;rw[hX]at aF
  rcases aW with⟨b,aW⟩ | aW
  ·rw[<- aF]at aW; cases aW
  ·have:=dB p9; omega)
 rw[hX]at k5;cases k5;have L0:Nat.blt 0 cx=true:=by rw[<- c3]; exact Nat.ble_eq_true_of_le hO
 rcases qm with⟨xs,rfl,cu⟩ | ⟨rfl,rfl,et,xs,cu,gV⟩
 ·rw[fC]at dQ gH
  refine zS h.sym az bb ax ca J cK aw L0 mA gG fm dQ gH (Flat.h8 (fun _ _=>bt.h8) hW) aa.1 aa.2 fun cj c' aQ w' cS=>?_
  obtain⟨H',_,db⟩:=lZ (.row cj c' (l++bV).length) (.row cj c' e g.size (l++bV).length (xs++fL)) aQ w' (.c (.ah id)) _ ⟨cj,c',eH,.inl ⟨_,rfl,cu.append hW⟩⟩ ⟨cj,c',_,eH,by rw[List.length_append]⟩ (by rw[fC,List.length_append]; exact cS.aJ) cS.st;exact dc aQ w' _ H' db
 ·have qa:=gV.nI h.aJ
  rw[fC]at qa gH;refine LZ h.sym az bb ax ca J cK aw L0 mA gG fm qa gH (Flat.h8 (fun _ _=>bt.h8) hW) aa.1 aa.2 (fun hm aQ w' cS=>?_) fun cj c' aQ w' cS=>?_
  ·have sY:bV=[]:=List.eq_nil_of_length_eq_zero hm
   subst sY;obtain⟨Y,Z,gh,sZ⟩:=dQ;obtain⟨H',_,db⟩:=lZ (.row A l.length (l++[]).length) (.row none 0 e g.size 0 []) aQ w' (.c (.ah id)) (.slice A l.length l.length) ⟨A,l.length,eH,.inr ⟨rfl,by simp,et,xs,by rw[List.append_nil]; exact cu,by rw[List.append_nil]; exact gV⟩⟩ ⟨A,l.length,_,eH,by simp⟩ (by rw[sZ]; dsimp only; rw[<- gh]; exact cS.aJ) cS.st;exact dc aQ w' _ H' db
  ·obtain⟨Y,Z,gh,sZ⟩:=dQ
   obtain⟨H',_,db⟩:=lZ (.row cj c' (l++bV).length) (.row cj c' e g.size (l++bV).length (xs++fL)) aQ w' (.c (.ah id)) (.slice cj (l.length+bV.length) c') ⟨cj,c',eH,.inl ⟨_,rfl,cu.append hW⟩⟩ ⟨cj,c',_,eH,by rw[List.length_append]⟩ (by
    have hN:=cS.aJ;rw[gh]at hN;rw[sZ];dsimp only;have ar:(bd.row cj c' e cx (l.length+bV.length) (xs++fL) :: (Y++bd.row none 0 e g.size 0 [] :: Z)).Perm (bd.row none 0 e g.size 0 [] :: (Y++bd.row cj c' e cx (l.length+bV.length) (xs++fL) :: Z)):=by
     refine(List.Perm.cons _ List.perm_middle).trans ?_;refine(List.Perm.swap _ _ _).trans (List.Perm.cons _ List.perm_middle.symm)
    have gK:=(hN.perm ar).er (List.sublist_cons_self _ _);rw[fC,List.length_append];exact gK) cS.st
   exact dc aQ w' _ H' db
end
section
variable {X:bl} {n:Nat} {st:aK}
theorem cA.AV(id:Nat) {t:TypeId} {g:aR} {l:List g.D} {cap:Option Nat} (al:aS st.H id=some (.row t g l cap)):cA X n st ⟨st.L,ek id (.fr t g l) st.H⟩:=fun R W aD M a w ⟨ks,env,B,ak,H,b2,h⟩=>by
 obtain⟨ds,K,⟨A,k,xs,he,e,cu,_⟩,⟨Y,Z,J,U⟩,ae⟩:=h.k3 (b':=.fr t g l) al;obtain⟨H',aw⟩:=ae ds a w ⟨A,k,he,.inl ⟨xs,e,cu⟩⟩ (by rw[U]; dsimp only; rw[<- J]; exact h.aJ) h.bK;exact⟨ks,env,B,ak,H',b2,aw⟩
theorem cA.s0(s id:Nat) (t:TypeId) (hid:Nat.blt id n=true) {g:aR} {l:List g.D} {c:Nat} (al:aS st.L s=some (.c (.a1 g l (some c)))) (aa:c=l.length):cA X n st ⟨(s,.c (.ah id)) :: eN id .dead st.L,(id,.fr t g l) :: du id .dead st.H⟩:=fun R W aD M a w ⟨ks,env,B,ak,H,b2,h⟩=>by
 obtain⟨v,aE,A,c',xs,rfl,dF,et,ff,cu,gV⟩:=h.has _ _ al;have cC:c'=l.length:=(ff c rfl).trans aa;subst cC;obtain⟨H2,J,U⟩:=h.heap.del (z:=.dead) (hU (env:=env) (id:=id) (l:=.row A l.length l.length)) (fun _ _=>trivial);refine⟨ks,iE env id (.row A l.length l.length),B,ak,.row none 0 t g.size 0 [] :: H2,b2,h.size,h.defs,fun q u hu=>?_,⟨_,H2,rfl,⟨A,_,eH,.inr ⟨rfl,rfl,et,xs,cu,gV⟩⟩,U⟩,(h.aJ.o6 t g.size).er ((J.append_right _).cons_cons _),h.sub,h.new,pc h.dj (fun q ar=>by have J:=(h.dj _ _ ar).1; have U:=dB hid; omega),h.base,h.dT⟩;rw[ct]at hu
 split at hu
 ·rename_i e
  subst e;cases hu;exact⟨_,aE,A,_,_,eH,rfl⟩
 ·obtain⟨hz,hA,rfl⟩:=lU hu
  obtain⟨eO,aW,bC⟩:=h.has q hz hA;exact⟨eO,aW,ey.sub (z:=.dead) hU (fun _ _=>trivial) bC⟩
def qn(id:Nat) (st:aK):Option aK:=
 match aS st.H id with
 | some (.fr _ g l)=>some ⟨eN id (.a1 g l none) st.L,du id (.a1 g l none) st.H⟩
 | _=>none
theorem L1{b iP:cw} {id:Nat}:∀ {l:bo},aS l id=some b->aS (ek id iP l) id=some iP
 | [],h=>by cases h
 | (k,b') :: r,h=>by
  rw[ct]at h;unfold ek
  split
  ·rename_i ab
   rw[ct,if_pos (Nat.eq_of_beq_eq_true ab).symm]
  ·rename_i ab
   have cL:¬ id=k:=fun e=>by rw[e,Nat.beq_refl]at ab; cases ab
   rw[if_neg cL]at h;rw[ct,if_neg cL];exact L1 h
theorem L2{b:cw} {id:Nat} {z:bc}:∀ {l:bo} {iP:cw},aS l id=some iP->du id z (ek id b l)=du id z l
 | [],_,h=>by cases h
 | (k,b') :: r,iP,h=>by
  rw[ct]at h;unfold ek;cases ab:Nat.beq k id with
  | true=>simp only[du,ab]
  | false=>
   have cL:¬ id=k:=fun e=>by rw[e,Nat.beq_refl]at ab; cases ab
   rw[if_neg cL]at h;simp only[du,ab,L2 h]
theorem cA.qn{id:Nat} {st':aK} (aA:qn id st=some st'):cA X n st st':=fun R W aD M a w ⟨ks,env,B,ak,H,b2,h⟩=>by
 unfold Go.Proofs.YtcheedjfedcbpaaGreatDoor.qn at aA
 split at aA
 ·rename_i t g l bO
  cases aA;obtain⟨ds,K,⟨A,k,he,qm⟩,⟨Y,Z,aC,a7⟩,aF⟩:=h.k3 (b':=.row t g l none) bO
  rcases qm with⟨xs,rfl,cu⟩ | ⟨rfl,rfl,et,xs,cu,gV⟩
  ·obtain⟨H',aW⟩:=aF _ a w ⟨A,k,xs,he,rfl,cu,fun _ au=>by cases au⟩ (by rw[a7]; dsimp only; rw[<- aC]; exact h.aJ) h.bK
   have L3:Go.Proofs.YtcheedjfedcbpaaGreatDoor.c8 id ⟨st.L,ek id (.row t g l none) st.H⟩=some ⟨eN id (.a1 g l none) st.L,du id (.a1 g l none) st.H⟩:=by
    unfold Go.Proofs.YtcheedjfedcbpaaGreatDoor.c8;dsimp only;rw[L1 bO];dsimp only;rw[L2 bO]
   exact cA.c8 (X:=X) (n:=n) L3 R W aD M a w ⟨ks,env,B,ak,H',b2,aW⟩
  ·have rh:∀ v,dE env B ak (.ah id) v->dE env B ak (.a1 g l none) v:=by
    rintro v ⟨cj,c',m,cG,rfl⟩;rw[he]at cG;cases cG;exact⟨A,l.length,xs,rfl,Nat.le_refl _,et,(fun _ au=>by cases au),cu,gV⟩
   obtain⟨H2,J,U⟩:=h.heap.del (id:=id) (env':=env) (fun _ _=>rfl) rh;refine⟨ks,env,B,ak,H2,b2,h.size,h.defs,fun q u hu=>?_,U,h.aJ.er (J.append_right _),h.sub,h.new,h.dj,h.base,h.dT⟩;obtain⟨hz,hA,rfl⟩:=lU hu;obtain⟨eO,aW,bC⟩:=h.has q hz hA;exact⟨eO,aW,ey.sub (fun _ _=>rfl) rh bC⟩
 ·cases aA
end
end
section
section
variable {X:bl} {M:Bool} {n:Nat} {r:Option Nat} {st:aK} {Q:Exit->aK->Prop} {ops rest:List Oper} {o:Oper} {d:Nat} {bm:bf}
theorem Ya(av:X.tt.ok X.P) {t T:TypeId} {bg:a6} {x:Operand} {id d2 i:Nat} {el:Bool} {g:aR} {l:List (List g.D)} {cap:Option Nat} {g1:Bool} (az:o.op=.load t x)
  (aZ:X.tt.find t=some bg) (lg:jq bg.bh.desc=false) (ao:bj X st.L x=some (g1,.c (.eg id 1 i 0))) (c3:g1=true) (bO:aS st.H id=some (.ez el T g l cap i d2)):gU X st o (.c (.ah d2)):=by
 intro R W aD n ks env B ak H a b7 ad;obtain⟨vx,J,b,c,m,he,rfl⟩:=ad.aB ao c3;obtain⟨ds,K,⟨A,k,bJ,cj,c',iH,cG,rfl,cu,hi,k9,_⟩,aA⟩:=ad.heap.fG bO;rw[he]at cG;cases cG;have Yb:bJ.length=l.length:=nL.jt cu;refine⟨.slice cj iH c',⟨cj,c',iH,k9,rfl⟩,fun w al=>?_⟩;have e4:eG w (fun k=>R k\/B k) T 1 (some ⟨b,0,none⟩) c l.length (bJ.set i (.slice cj iH c')):=(al (by rw[az]; rfl)).ok _ aA.more.mem;have ik:w.cell? ⟨b,i * 1+0,none⟩=some (.slice cj iH c'):=by
  rw[e4.cells rfl _ (by omega)]
  simp[List.getElem?_set,Yb,hi]
 exact ra ad.bK az (bY.get av aZ).bh lg J ik
theorem Yc{t bR:TypeId} {u v:Operand} {g1 g2 fe cz:Bool} {cs aG:List bc} {g:aR} {x y:g.D} (bT:rJ X.P t g) (az:o.op=.binOp .eql t u v bR)
  (hu:bj X st.L u=some (g1,.agg cs)) (c3:g1=true) (aE:bj X st.L v=some (g2,.agg aG)) (dy:g2=true) (ao:dec g cs=some (fe,x,[])) (lS:fe=true) (aV:dec g aG=some (cz,y,[])) (il:cz=true):gU X st o (.c (.val (.bool (g.beq x y)))):=by
 intro R W aD n ks env B ak H a b7 ad;obtain⟨hy,J,U⟩:=ad.aB hu c3;obtain⟨vv,ae,aw⟩:=ad.aB aE dy;rw[cm.cH bT.key U ao lS]at J;rw[cm.cH bT.key aw aV il]at ae;exact⟨_,rfl,fun w _=>Sh ad.bK az J ae bT.guard (bT.eq x y) w⟩
theorem Yd{t bR:TypeId} {u v:Operand} {g1 g2 fe cz:Bool} {cs aG:List bc} {g:aR} {x y:g.D} (bT:rJ X.P t g) (az:o.op=.binOp .neq t u v bR)
  (hu:bj X st.L u=some (g1,.agg cs)) (c3:g1=true) (aE:bj X st.L v=some (g2,.agg aG)) (dy:g2=true) (ao:dec g cs=some (fe,x,[])) (lS:fe=true) (aV:dec g aG=some (cz,y,[])) (il:cz=true):gU X st o (.c (.val (.bool (!(g.beq x y))))):=by
 intro R W aD n ks env B ak H a b7 ad;obtain⟨hy,J,U⟩:=ad.aB hu c3;obtain⟨vv,ae,aw⟩:=ad.aB aE dy;rw[cm.cH bT.key U ao lS]at J;rw[cm.cH bT.key aw aV il]at ae;exact⟨_,rfl,fun w _=>Si ad.bK az J ae bT.guard (bT.eq x y) w⟩
theorem Ye(g:aR) (p m:Nat) (z:Int) (av:X.tt.ok X.P) {t T:TypeId} {bg:a6} {x:Operand} {id:Nat} {cs cE:List bc} {l:List g.D} {g1 c:Bool} (az:o.op=.load t x)
  (aZ:X.tt.find t=some bg) (cQ:Nat.beq g.size bg.bh.size=true) (lg:jq bg.bh.desc=g.mM) (h7:(g.mM || Nat.beq g.size 1)=true) (ao:bj X st.L x=some (g1,.c (.ptr id (p+z.toNat * g.size)))) (c3:g1=true) (bO:aS st.H id=some (.cells T cs))
  (iO:pt g m (cs.drop p)=some (c,l,cE)) (aa:c=true) (bP:aT z m=true) (iI:np g (l.getD z.toNat g.zero)=some bm):gU X st o bm:=by
 intro R W aD n ks env B ak H a b7 ad;obtain⟨vx,J,b,ai,rfl⟩:=ad.aB ao c3;obtain⟨ds,K,⟨b',vs,dN,rfl,gg⟩,dQ⟩:=ad.heap.fG bO;rw[ai]at dN;cases dN;obtain⟨ag,v1,v2,aE,cu,_⟩:=xB (gg.drop p) iO aa;obtain⟨j,rfl,aX,iR⟩:=k0 bP;rw[Int.toNat_natCast]at J iI;have ka:l[j]?=some (l.getD j g.zero):=by rw[List.getD_eq_getElem?_getD,List.getElem?_eq_getElem (by omega)]; rfl
 have U:=Flat.get (fun _ _=>bt.length) cu ka;have hlen:=bt.length U;have ik:∀ w,bA (fun k=>R k\/B k) ak (H++ks.map c7) w->∀ q u,((v1.drop (j * g.size)).take g.size)[q]?=some u->w.cell? ⟨b,p+j * g.size+q,none⟩=some u:=fun w al q u au=>by
  rw[zM al dQ.more];rw[List.getElem?_take]at au
  split at au
  ·rw[List.getElem?_drop]at au
   have ae:(vs.drop p)[j * g.size+q]?=some u:=by
    rw[aE,List.getElem?_append_left (List.getElem?_eq_some_iff.1 au).1];exact au
   rw[List.getElem?_drop]at ae;rw[Nat.add_assoc];exact ae
  ·cases au
 have hi:=(bY.get av aZ).bh;have fC:=Nat.eq_of_beq_eq_true cQ;cases ar:g.mM with
 | true=>exact⟨_,(ea.LW U ar).bm iI,fun w al=>sz ad.bK az hi (by rw[lg,ar]) J (by rw[hlen,fC]) (ik w (al (by rw[az]; rfl)))⟩
 | false=>
  rw[ar,Bool.false_or]at h7;have rb:=Nat.eq_of_beq_eq_true h7;obtain⟨v,kG⟩:∃ v,(v1.drop (j * g.size)).take g.size=[v]:=by
   match hm:(v1.drop (j * g.size)).take g.size,hlen with
   | [v],_=>exact⟨v,rfl⟩
   | [],h=>simp[rb]at h
   | _ :: _ :: _,h=>simp[rb]at h
  rw[kG]at ik U;refine⟨v,(ea.LX U ar).bm iI,fun w al=>?_⟩
  have:=ik w (al (by rw[az]; rfl)) 0 v rfl
  rw[Nat.add_zero]at this;exact ra ad.bK az hi (by rw[lg,ar]) J this
end
end
section
section
variable {env:Nat->Loc} {B B':Nat->Prop} {w w':World}
end
end
section
def Fa(p:Nat) (c:bc):List bc->List bc
 | []=>[]
 | x :: r=>match p with
  | 0=>c :: r
  | q+1=>x :: Fa q c r
def pv(k p:Nat) (c:bc):bo->bo
 | []=>[]
 | (j,b) :: r=>match Nat.beq j k with
  | true=>(j,match b with
   | .cells t cs=>.cells t (Fa p c cs)
   | b=>b) :: r
  | false=>(j,b) :: pv k p c r
theorem cm.at{env:Nat->Loc} {B:Nat->Prop} {w:World}:∀ {p:Nat} {cs:List bc} {vs:List Value} {c:bc},cm env B w cs vs->cs[p]?=some c->∃ v,vs[p]?=some v/\dE env B w c v
 | _,[],_,_,_,ar=>by cases ar
 | 0,x :: cs,_,c,⟨v,r,e,J,_⟩,ar=>by
  cases ar;exact⟨v,by rw[e]; rfl,J⟩
 | p+1,x :: cs,_,c,⟨v,r,e,_,U⟩,ar=>by
  obtain⟨u,ae,aw⟩:=cm.at (p:=p) (cs:=cs) U (by simpa using ar);exact⟨u,by rw[e]; simpa using ae,aw⟩
theorem cm.setAt{env:Nat->Loc} {B:Nat->Prop} {w:World} {c:bc}:∀ {p:Nat} {cs:List bc} {vs:List Value} {v:Value},cm env B w cs vs->vs[p]?=some v->dE env B w c v->cm env B w (Fa p c cs) vs
 | 0,[],_,_,h,_,_=>h
 | _+1,[],_,_,h,_,_=>h
 | 0,x :: cs,_,v,⟨u,r,e,_,U⟩,ar,aa=>by
  rw[e]at ar;cases ar;exact⟨_,r,e,aa,U⟩
 | p+1,x :: cs,_,v,⟨u,r,e,J,U⟩,ar,aa=>by
  rw[e]at ar;exact⟨u,r,e,J,cm.setAt (p:=p) U (by simpa using ar) aa⟩
section
variable {env:Nat->Loc} {B:Nat->Prop} {w:World}
theorem bp.s0{k p id:Nat} {t:TypeId} {cs:List bc} {g:aR} {li:List g.D} {c:Nat} (ab:Nat.beq k id=false) (aa:c=li.length):∀ {l:bo} {H:List bd},bp env B w l H->aS l k=some (.cells t cs)->cs[p]?=some (.a1 g li (some c)) ->
  ∃ A xs,li.length<=maxLen/\Flat (bt B w g) li xs/\mB B w A li.length g.size xs/\∀ env',(∀ j,j≠id->env' j=env j)->env' id=.row A li.length li.length->∃ H',H'.Sublist H/\bp env' B w (pv k p (.ah id) (du id .dead l)) H'
 | [],_,_,ag,_=>by cases ag
 | (j,b) :: l,_,⟨ds,H',e,J,U⟩,ag,ar=>by
  rw[ct]at ag;subst e
  split at ag
  ·rename_i e
   subst e;cases ag;obtain⟨xH,vs,dF,et,gp⟩:=J;obtain⟨v,hT,A,c',xs,mD,vf,xI,Yf,Yg,Yh⟩:=cm.at gp ar;have uZ:c'=li.length:=(Yf c rfl).trans aa;subst uZ;refine⟨A,xs,xI,Yg,Yh,fun env' he hid=>?_⟩;obtain⟨H2,al,ae⟩:=bp.del (z:=.dead) he (fun _ _=>trivial) U;have ai:ew env' B w k ((cw.cells t cs).sub id .dead) ds:=ew.sub (z:=.dead) he (fun _ _=>trivial) (Nat.ne_of_beq_eq_false ab) (b:=.cells t cs) ⟨xH,vs,dF,et,gp⟩;obtain⟨Yi,mC,ay,aO,bs⟩:=ai;have pd:mC=vs:=by
    rw[et]at aO;cases aO
    rfl
   subst pd;refine⟨ds :: H2,al.cons_cons _,?_⟩;unfold du;rw[ab];show bp env' B w (pv k p (.ah id) ((k,(cw.cells t cs).sub id .dead) :: du id .dead l)) (ds :: H2);unfold pv;rw[Nat.beq_refl];exact⟨ds,H2,rfl,⟨Yi,mC,ay,aO,cm.setAt bs hT ⟨A,_,_,hid,mD⟩⟩,ae⟩
  ·rename_i cL
   obtain⟨A,xs,dF,et,gp,hT⟩:=bp.s0 ab aa U ag ar;refine⟨A,xs,dF,et,gp,fun env' he hid=>?_⟩;obtain⟨H2,al,ae⟩:=hT env' he hid;unfold du
   split
   ·exact⟨H2,al.cons _,ae⟩
   ·rename_i aX
    refine⟨ds :: H2,al.cons_cons _,?_⟩;unfold pv;have AA:Nat.beq j k=false:=by
     cases ai:Nat.beq j k with
     | false=>rfl
     | true=>exact absurd (Nat.eq_of_beq_eq_true ai).symm cL
    rw[AA];exact⟨ds,H2,rfl,ew.sub (z:=.dead) he (fun _ _=>trivial) (Nat.ne_of_beq_eq_false aX) J,ae⟩
end
theorem cA.AW{X:bl} {n:Nat} {st:aK} (k p id:Nat) (t:TypeId) (hid:Nat.blt id n=true) (oy:Nat.beq k id=false) {T:TypeId} {cs:List bc} {g:aR} {l:List g.D} {c:Nat} (al:aS st.H k=some (.cells T cs)) (ar:cs[p]?=some (.a1 g l (some c))) (aa:c=l.length) :
  cA X n st ⟨eN id .dead st.L,(id,.fr t g l) :: pv k p (.ah id) (du id .dead st.H)⟩:=fun R W aD M a w ⟨ks,env,B,ak,H,b2,h⟩=>by
 obtain⟨A,xs,et,cu,gV,au⟩:=bp.s0 oy aa h.heap al ar;obtain⟨H2,J,U⟩:=au (iE env id (.row A l.length l.length)) hU eH;refine⟨ks,iE env id (.row A l.length l.length),B,ak,.row none 0 t g.size 0 [] :: H2,b2,h.size,h.defs,fun q u hu=>?_,⟨_,H2,rfl,⟨A,_,eH,.inr ⟨rfl,rfl,et,xs,cu,gV⟩⟩,U⟩,(h.aJ.o6 t g.size).er ((J.append_right _).cons_cons _),h.sub,h.new,pc h.dj (fun q ar=>by have J:=(h.dj _ _ ar).1; have U:=dB hid; omega),h.base,h.dT⟩;obtain⟨hz,hA,rfl⟩:=lU hu;obtain⟨eO,aW,bC⟩:=h.has q hz hA;exact⟨eO,aW,ey.sub (z:=.dead) hU (fun _ _=>trivial) bC⟩
end
section
section
variable {P:Program} {ops:Array Oper} {o:Oper} {KK:Act->World->Prop} {n:Nat} {D:List Deferred} {L:List (Nat×Value)} {B:Nat->Prop} {ak:World} {H:List bd} {a:Act} {w:World} {d:Nat}
theorem Yj{f:FuncId} {fn:Func} {s:Nat} {p:Value} {xs:List Operand} {fc:Array TypeId} {vs:List Value} (av:Sym n D L B ak H a w) (az:o.op=.call { callee:=.value (.tmp s),args:=xs.toArray,argTypes:=fc })
  (al:L.lookup s=some (.func (.func f) #[p] #[])) (fP:P.funcs[f]?=some fn)
  (bk : (fn.name == "runtime.NumGoroutine") = false) (ai : fn.body.isNone = false) (aE : iA L xs = some vs) : (execOp a.eval o).run P w = .ok (.enter f (p :: vs).toArray) w := by
 have e:a.eval (.tmp s)=.func (.func f) #[p] #[]:=av.aB (x:=.tmp s) al
 have hj : fn.name ≠ "runtime.NumGoroutine" := by simpa using bk
 have dN:fn.body≠none:=by intro h; rw[h]at ai; cases ai
 simp[execOp,az,resolve,e,Deferred.ofValue,invoke,callFunc,program,Sem.run,fP,hj,dN,av.st.iA aE]
theorem Yk{f:FuncId} {fn:Func} {s:Nat} {p:Value} {xs:List Operand} {fc:Array TypeId} {vs:List Value} {R:Value->World->Prop} (av:Sym n D L B ak H a w)
  (az:o.op=.call { callee:=.value (.tmp s),args:=xs.toArray,argTypes:=fc }) (bb:o.guard=none/\o.dst=some d) (ax:Nat.blt d n=true) (al:L.lookup s=some (.func (.func f) #[p] #[]))
  (fP : P.funcs[f]? = some fn) (bk : (fn.name == "runtime.NumGoroutine") = false) (ai : fn.body.isNone = false) (aE : iA L xs = some vs) (dt : oh P f (p :: vs).toArray w R)
  (h:∀ v aQ w',R v w'->c9 n D ((d,v) :: L) aQ->KK aQ w'):e3 P ops o KK a w:=by
 refine .inl ⟨by simp[Region.wanted,bb.1],.inr (.inr ⟨f,(p :: vs).toArray,w,Yj av az al fP bk ai aE,?_⟩)⟩;refine Calls.mono dt ?_;rintro e w' ⟨v,rfl,fV⟩;exact⟨v,rfl,h v _ w' fV (by rw[bb.2]; exact av.st.put d v (dB ax))⟩
end
section
variable {X:bl} {M:Bool} {n:Nat} {r:Option Nat} {st:aK} {Q:Exit->aK->Prop} {ops rest:List Oper} {o:Oper} {d:Nat}
end
section
variable {X:bl} {M:Bool} {n:Nat} {st:aK} {Q:Exit->aK->Prop} {ops:List Oper} {E:List Nat} {aG:hD} {Ka:Array Bool} {fuel d i:Nat} {o:Oper}
end
end
section
section
variable {X:bl} {M:Bool} {n:Nat} {r:Option Nat} {st:aK} {Q:Exit->aK->Prop} {ops rest:List Oper} {o:Oper} {d:Nat}
theorem Yl(av:X.tt.ok X.P) {t e6 ft:TypeId} {bg oD dA:a6} {k:IntKind} {a8:aR} {u x:Operand} {id:Nat} {l:List (Int×a8.D)} {iV:Option (List MapEntry×Nat)} {z:Int} {g:Bool} {bm:bf} (az:o.op=.lookup t u x true) (bb:o.guard=none/\o.dst=some d) (ax:Nat.blt d n=true)
  (aZ:X.tt.find t=some bg) (cK:bg.bh.desc=.map e6 ft) (ab:X.tt.find e6=some oD) (s3:oD.bh.desc=.int k) (he:X.tt.find ft=some dA) (bP:∀ B w,ea B w a8 a8.zero dA.bh.zero)
  (hu:bj X st.L u=some (true,.c (.cr id))) (ao:bj X st.L x=some (g,.c (.val (.int k z)))) (aM:g=true) (bO:aS st.H id=some (.mp (.int k) a8 l iV)) (iI:np a8 ((df (.int k) a8 l z).getD a8.zero)=some bm):fl X n o st ⟨(d,.cW [bm,.c (.val (.bool (df (.int k) a8 l z).isSome))]) :: st.L,st.H⟩:=by
 intro R W aD ks env B ak H a w ad KK lo dc;obtain⟨hy,J,b,ai,rfl⟩:=ad.aB hu rfl;obtain⟨vx,U,ae⟩:=ad.aB ao aM;rw[show vx=_ from ae]at U;obtain⟨c,K,⟨b',es,clock,dN,rfl,hd,dZ,_⟩,dQ⟩:=ad.heap.fG bO;rw[ai]at dN;cases dN;have gq:=(ad.aJ.ok _ dQ.more.mem).2;have aC:=(bY.get av aZ).bh.1;rw[cK]at aC;have cC:=(bY.get av ab).bh.1;rw[s3]at cC;have gh:=bz.o0 (bY.get av he).bh w;have l5:∃ v,(Instr.lookup t (.map (some b)) (.int k z) true).run X.P w=.ok (.tuple #[v,.bool (df (.int k) a8 l z).isSome]) w/\ea B ak a8 ((df (.int k) a8 l z).getD a8.zero) v:=by
  unfold Instr.lookup;rw[show(10000:Nat)=9999+1 from rfl];simp only[Sem.run_bind,run_underlying aC,Result.andThen_ok,MapKept.run_getObj_map gq,zO cC,Sem.run_pure]
  rcases hd.E3 (z:=z) 0 with⟨aw,aF⟩ | ⟨y,j,v,aw,aF,aW,_⟩
  ·refine⟨dA.bh.zero,?_,by rw[aw]; exact bP _ _⟩
   simp[MapKept.run_findKey cC aF,gh,Result.andThen,aw]
  ·refine⟨v,?_,by rw[aw]; exact aW⟩
   simp[MapKept.run_findKey cC aF,Result.andThen,aw]
 obtain⟨v,dw,jW⟩:=l5;refine fT ad.bK bb.1 bb.2 (dB ax) (v:=.tuple #[v,.bool (df (.int k) a8 l z).isSome]) (w':=w) ?_ fun aQ aI=>?_
 ·simp[execOp,az,ad.bK.aB J,ad.bK.aB U,dw]
 ·exact dc aQ _ env H (ad.set (sv:=.cW [bm,.c (.val (.bool (df (.int k) a8 l z).isSome))]) ⟨[v,.bool (df (.int k) a8 l z).isSome],rfl,v,_,rfl,jW.bm iI,_,_,rfl,rfl,rfl⟩ aI)
end
end
section
section
variable {X:bl} {M:Bool} {n:Nat} {r:Option Nat} {ops:List Oper} {rest:List Oper} {o:Oper} {d:Nat} {st:aK} {Q:Exit->aK->Prop}
theorem Ym(av:X.tt.ok X.P) {t e:TypeId} {x y:Operand} {g1 g2:Bool} {dv:bf} {id cx gl:Nat} {ge g:aR} {l bV:List g.D} {cap:Option Nat} {bg:a6} {aG:TypeDesc} {iF:Value} (az:o.op=.call ⟨.builtin .copy,⟨[x,y]⟩,⟨[t,t]⟩⟩) (bb:o.guard=none/\o.dst=some d) (ax:Nat.blt d n=true)
  (aZ:X.tt.find t=some bg) (cK:bg.bh.desc=.slice e) (he:X.tt.find e=some ⟨⟨aG,cx,gl,iF⟩,some ge⟩) (ao:bj X st.L x=some (g1,.c (.ah id))) (aM:g1=true) (aV:bj X st.L y=some (g2,dv)) (fD:g2=true)
  (bO:aS st.H id=some (.row e g l cap)) (cQ:Nat.beq g.size cx=true) (k4:kH st g dv=some bV) (aa:Nat.beq bV.length l.length=true):fl X n o st ⟨(d,.c (.val (.int .i64 (l.length:Int)))) :: st.L,ek id (.row e g bV cap) st.H⟩:=by
 intro R W aD ks env B ak H a w h KK lo dc;obtain⟨vx,gG,jM⟩:=h.aB ao aM;obtain⟨vy,fm,iq⟩:=h.aB aV fD;obtain⟨c3,dy,hO⟩:=(bY.get av he).g ge rfl;obtain⟨T,ca,J,aw⟩:=lT (bY.get av aZ).bh (bY.get av he).bh;have fC:=Nat.eq_of_beq_eq_true cQ;have kJ:=Nat.eq_of_beq_eq_true aa;obtain⟨c6,cz,fL,rfl,hW,gH⟩:=pe h k4 iq;obtain⟨A,c,m,hX,rfl⟩:=jM;obtain⟨ds,K,⟨cj,k',xs,k5,rfl,cu,ff⟩,dQ,lZ⟩:=h.k3 (b':=.row e g bV cap) bO;rw[hX]at k5;cases k5;rw[fC]at dQ gH;rw[kJ]at fm gH;refine Sq h.sym az bb ax ca J cK aw gG fm dQ gH (Flat.h8 (fun _ _=>bt.h8) hW) fun aQ w' cS=>?_
 obtain⟨H',db⟩:=lZ (.row A c e g.size l.length fL) a w' ⟨A,c,fL,by rw[kJ]; exact hX,by rw[kJ],hW,ff⟩ (by rw[fC]; exact cS.aJ) h.bK;exact dc aQ w' _ H' (db.set rfl cS.st)
end
end
section
section
variable {X:bl} {M:Bool} {n:Nat} {r:Option Nat} {ops rest:List Oper} {o:Oper} {d:Nat} {st:aK} {Q:Exit->aK->Prop}
end
end
section
def J4{α β:Type} (x:α) (k:α->Option β):Option β:=k x
section
variable {X:bl} {n:Nat} {st:aK}
end
/-! ### Arrays that are rows are frozen -/
section
variable {X:bl} {R:Nat->Prop} {W:World} {aD:e5} {n:Nat} {ks:List Nat} {env:Nat->Loc} {B:Nat->Prop} {ak:World} {H:List bd} {st st':aK} {a:Act} {w:World}
theorem bB.vg(h:bB X R W aD n ks env B ak H st a w) (s:Nat) {id cx:Nat} {t:TypeId} {g:aR} {l:List g.D} {cap:Option Nat} (al:aS st.L s=some (.c (.eg id cx 0 0))) (bO:aS st.H id=some (.row t g l cap)):∃ env' B' cy H',bB X R W aD n ks env' B' cy H' ⟨(s,.c (.par g l)) :: eN id .dead st.L,du id .dead st.H⟩ a w:=by
 obtain⟨c0,_,⟨A,k,xf,he,rfl,_,ff⟩,mH⟩:=h.heap.fG bO;have c4:fv B ak (fun q=>B q\/A.map (·.block)=some q) w:=⟨fun q au=>.inl au,fun q au=>h.aJ.below.block q (.inr au)⟩
 obtain⟨c,Y,Z,⟨cj,k',xs,cG,rfl,cu,_⟩,U,ae⟩:=(h.heap.up c4).take bO;rw[he]at cG;cases cG;have jO:bd.row A k t g.size l.length xs∈H++ks.map c7:=by rw[U]; simp
 have e4:eG w (fun k=>R k\/B k) t g.size A k l.length xs:=h.aJ.ok _ jO;have hB:∀ q,A.map (·.block)=some q->¬ (R q\/B q)/\q < w.heap.size:=fun q au=>(h.aJ.ok _ jO).lt au
 obtain⟨H2,aw,aF,KZ⟩:=ae env .dead (fun _ _=>rfl) (fun _ _=>trivial);have jP:=h.aJ.apart;rw[U,List.append_assoc,List.cons_append]at jP;refine⟨env,_,w,H2,⟨h.size,h.defs,fun q u hu=>?_,aF,?_,fun q au=>.inl (h.sub q au),fun q au=>?_,h.dj,h.base.trans ⟨h.aJ.below.os,h.aJ.below.tape,h.aJ.below.output,h.aJ.below.size,fun q au=>h.aJ.below.block q (.inl au)⟩,fun i x ao=>(h.dT i x ao).up c4⟩⟩
 ·rw[ct]at hu
  split at hu
  ·rename_i e
   subst e;cases hu;obtain⟨eO,aW,b,c',Yn,bC,db⟩:=h.has _ _ al;rw[he]at bC;cases bC;refine⟨eO,aW,b,0,xs,by rw[db]; simp,.inr rfl,cu,fun j u aX=>?_⟩;have aH:Reads w (some ⟨b,0,none⟩) l.length g.size xs:=Reads.zW h.aJ jO;have ag:=bt.jt cu;have kE:0 < l.length:=by
    rcases Nat.eq_zero_or_pos l.length with e | e
    ·rw[e,Nat.zero_mul]at ag
     have:=(List.getElem?_eq_some_iff.1 aX).1
     omega
    ·exact e
   obtain⟨b',p,e,aa⟩:=aH.2 kE;cases e;exact aa j u aX
  ·obtain⟨hz,hA,rfl⟩:=lU hu
   obtain⟨eO,aW,bC⟩:=h.has q hz hA;exact⟨eO,aW,ey.sub (z:=.dead) (fun _ _=>rfl) (fun _ _=>trivial) (bC.up c4)⟩
 ·have al:bA (fun k=>R k\/B k) ak (H2++ks.map c7) w:=by
   have aW:=h.aJ;rw[U]at aW;have ar:(Y++bd.row A k t g.size l.length xs :: Z++ks.map c7).Perm (bd.row A k t g.size l.length xs :: (Y++Z++ks.map c7)):=by
    simp only[List.append_assoc,List.cons_append];exact List.perm_middle
   exact(aW.perm ar).er (((aw.append_right _)).cons _)
  refine⟨da.refl _ _,fun q au=>?_,fun c aa=>(al.ok c aa).base fun b ai cI=>?_,al.apart⟩
  ·rcases au with au | au | au
   ·exact h.aJ.base q (.inl au)
   ·exact h.aJ.base q (.inr au)
   ·exact(hB q au).2
  ·rcases cI with cI | cI | cI
   ·exact((al.ok c aa).lt ai).1 (.inl cI)
   ·exact((al.ok c aa).lt ai).1 (.inr cI)
   ·have h6:c∈Y++(Z++ks.map c7):=by
     rcases List.mem_append.1 aa with aa | aa
     ·have:=aw.subset aa
      rcases List.mem_append.1 this with bC | bC
      ·exact List.mem_append_left _ bC
      ·exact List.mem_append_right _ (List.mem_append_left _ bC)
     ·exact List.mem_append_right _ (List.mem_append_right _ aa)
    rw[List.pairwise_append,List.pairwise_cons]at jP;obtain⟨_,⟨db,_⟩,hN⟩:=jP
    rcases List.mem_append.1 h6 with bC | bC
    ·exact hN c bC _ List.mem_cons_self b ai cI
    ·exact db c bC b cI ai
 ·rcases au with au | au
  ·exact(h.new q au).imp_right fun aN=>⟨aN.1,aN.2.dY (h.aJ.below.block q (.inr au))⟩
  ·exact .inr ⟨fun fV=>(hB q au).1 (.inl fV),(h.aJ.ok _ jO).cells rfl au⟩
theorem cA.vg(s:Nat) {id cx:Nat} {t:TypeId} {g:aR} {l:List g.D} {cap:Option Nat} (al:aS st.L s=some (.c (.eg id cx 0 0))) (bO:aS st.H id=some (.row t g l cap)):cA X n st ⟨(s,.c (.par g l)) :: eN id .dead st.L,du id .dead st.H⟩:=fun _ _ _ _ _ _ ⟨ks,env,B,ak,H,b2,ad⟩=>by
 obtain⟨env',B',cy,H',h⟩:=ad.vg s al bO;exact⟨ks,env',B',cy,H',b2,h⟩
end
end
abbrev dp:List Type->Type
 | []=>Unit
 | A :: r=>A×dp r
abbrev xJ:List Type->Type
 | []=>Unit
 | [A]=>A
 | A :: B :: r=>A×xJ (B :: r)
def oE:(l:List Type)->dp l->xJ l
 | [],_=>()
 | [_],u=>u.1
 | _ :: B :: r,u=>(u.1,oE (B :: r) u.2)
def l6:(l:List Type)->xJ l->dp l
 | [],_=>()
 | [_],u=>(u,())
 | _ :: B :: r,u=>(u.1,l6 (B :: r) u.2)
theorem s5:∀ (l:List Type) (u:dp l),l6 l (oE l u)=u
 | [],_=>rfl
 | [_],_=>rfl
 | _ :: B :: r,u=>by
  show(u.1,l6 (B :: r) (oE (B :: r) u.2))=u;rw[s5 (B :: r)]
inductive rM where
 | id (i:Nat)
 | eS (g:aR)
abbrev pw:List rM->List Type->List Type
 | [],T=>T
 | .id _ :: r,T=>pw r T
 | .eS g :: r,T=>g.D :: pw r T
def lJ:(l:List rM)->{T:List Type}->dp (pw l T)->List e8×dp T
 | [],_,t=>([],t)
 | .id i :: r,_,u=>(.id i :: (lJ r u).1,(lJ r u).2)
 | .eS g :: r,_,u=>(.eS g u.1 :: (lJ r u.2).1,(lJ r u.2).2)
def L4{g g':aR} (h:g'=g) (x:g'.D):g.D:=h ▸ x
def nY{g g':aR} (h:g'=g) (l:List g'.D):List g.D:=h ▸ l
def rN:(l:List rM)->List e8->{T:List Type}->dp T->Option (dp (pw l T))
 | [],[],_,t=>some t
 | .id i :: r,.id j :: s,_,t=>match Nat.beq i j with
  | true=>rN r s t
  | false=>none
 | .eS g :: r,.eS g' x :: s,_,t=>match decEq g' g with
  | isTrue h=>match rN r s t with
   | some u=>some (L4 h x,u)
   | none=>none
  | isFalse _=>none
 | _,_,_,_=>none
theorem AX:∀ {l:List rM} {s:List e8} {T:List Type} {t:dp T} {u:dp (pw l T)},rN l s t=some u->lJ l u=(s,t)
 | [],[],_,_,_,h=>by cases h; rfl
 | .id i :: r,.id j :: s,_,t,u,h=>by
  unfold rN at h
  split at h
  ·rename_i e
   have:=Nat.eq_of_beq_eq_true e
   subst this
   have:=AX h
   unfold lJ;rw[this]
  ·cases h
 | .eS g :: r,.eS g' x :: s,_,t,u,h=>by
  unfold rN at h
  split at h
  ·rename_i e _
   subst e
   split at h
   ·rename_i eO e
    cases h
    have:=AX e
    unfold lJ;rw[this]
    rfl
   ·cases h
  ·cases h
 | [],_ :: _,_,_,_,h=>by cases h
 | .id _ :: _,[],_,_,_,h=>by cases h
 | .eS _ :: _,[],_,_,_,h=>by cases h
 | .id _ :: _,.eS _ _ :: _,_,_,_,h=>by cases h
 | .eS _ :: _,.id _ :: _,_,_,_,h=>by cases h
inductive cN where
 | raw (c:bc)
 | int (k:IntKind)
 | bool
 | str
 | a1 (g:aR)
 | AY (g:aR)
 | iJ (g:aR)
 | AZ (g:aR)
 | fx (g:aR) (off:Nat)
 | par (g:aR)
 | fn (f:FuncId) (cs:List rM)
 | eg (id cx off:Nat)
 | gF (id:Nat)
 | hJ (id:Nat)
abbrev cN.LT:cN->List Type->List Type
 | .raw _,T=>T
 | .int _,T=>Int :: T
 | .bool,T=>Bool :: T
 | .str,T=>List UInt8 :: T
 | .a1 g,T=>List g.D :: T
 | .AY g,T=>List g.D :: T
 | .iJ g,T=>List g.D :: Nat :: T
 | .AZ g,T=>List g.D :: Option Nat :: T
 | .fx g _,T=>g.D :: T
 | .par g,T=>List g.D :: T
 | .fn _ cs,T=>pw cs T
 | .eg _ _ _,T=>Nat :: T
 | .gF _,T=>Nat :: T
 | .hJ _,T=>Bool :: T
def cN.S:(s:cN)->{T:List Type}->dp (s.LT T)->bc×dp T
 | .raw c,_,t=>(c,t)
 | .int k,_,u=>(.val (.int k u.1),u.2)
 | .bool,_,u=>(.val (.bool u.1),u.2)
 | .str,_,u=>(.str u.1,u.2)
 | .a1 g,_,u=>(.a1 g u.1 none,u.2)
 | .AY g,_,u=>(.a1 g u.1 (some u.1.length),u.2)
 | .iJ g,_,u=>(.a1 g u.1 (some u.2.1),u.2.2)
 | .AZ g,_,u=>(.a1 g u.1 u.2.1,u.2.2)
 | .fx g off,_,u=>(.fx g u.1 off,u.2)
 | .par g,_,u=>(.par g u.1,u.2)
 | .fn f cs,_,u=>(.fn f (lJ cs u).1,(lJ cs u).2)
 | .eg id cx off,_,u=>(.eg id cx u.1 off,u.2)
 | .gF id,_,u=>(.gF id u.1,u.2)
 | .hJ id,_,u=>(.hJ u.1 id,u.2)
def Fb:Value->Value->Bool
 | .slice none 0 0,.slice none 0 0=>true
 | .pointer none,.pointer none=>true
 | .map none,.map none=>true
 | .nilIface,.nilIface=>true
 | .nilFunc,.nilFunc=>true
 | _,_=>false
def bc.eqv:bc->bc->Bool
 | .dead,_=>true
 | .ptr i o,.ptr j p=>Nat.beq i j&&Nat.beq o p
 | .ah i,.ah j=>Nat.beq i j
 | .cr i,.cr j=>Nat.beq i j
 | .gF i o,.gF j p=>Nat.beq i j&&Nat.beq o p
 | .iC f i,.iC g j=>Nat.beq f g&&Nat.beq i j
 | .val v,.val u=>Fb v u
 | _,_=>false
def px(x y:bc):Prop:=∀ env B w v,dE env B w x v->dE env B w y v
theorem Yo:∀ {v u:Value},Fb v u=true->v=u:=by
 intro v u h;unfold Fb at h
 split at h<;>first | rfl | cases h
theorem bc.Yp{c x:bc} (h:c.eqv x=true):px x c:=by
 unfold bc.eqv at h
 split at h
 ·intro _ _ _ _ _; trivial
 ·simp only[Bool.and_eq_true]at h
  rw[Nat.eq_of_beq_eq_true h.1,Nat.eq_of_beq_eq_true h.2]; exact fun _ _ _ _ h=>h
 ·rw[Nat.eq_of_beq_eq_true h]; exact fun _ _ _ _ h=>h
 ·rw[Nat.eq_of_beq_eq_true h]; exact fun _ _ _ _ h=>h
 ·simp only[Bool.and_eq_true]at h
  rw[Nat.eq_of_beq_eq_true h.1,Nat.eq_of_beq_eq_true h.2]; exact fun _ _ _ _ h=>h
 ·simp only[Bool.and_eq_true]at h
  rw[Nat.eq_of_beq_eq_true h.1,Nat.eq_of_beq_eq_true h.2]; exact fun _ _ _ _ h=>h
 ·rw[Yo h]; exact fun _ _ _ _ h=>h
 ·cases h
def isNil:Value->Bool
 | .slice none 0 0=>true
 | _=>false
theorem L5{v:Value} (h:isNil v=true):v=.slice none 0 0:=by
 unfold isNil at h
 split at h
 ·rfl
 ·cases h
def cN.get:(s:cN)->bc->{T:List Type}->dp T->Option (dp (s.LT T))
 | .raw c,x,_,t=>match c.eqv x with
  | true=>some t
  | false=>none
 | .int k,.val (.int k' z),_,t=>match decEq k' k with
  | isTrue _=>some (z,t)
  | isFalse _=>none
 | .bool,.val (.bool b),_,t=>some (b,t)
 | .str,.str s,_,t=>some (s,t)
 | .a1 g,.a1 g' l _,_,t=>match decEq g' g with
  | isTrue h=>some (nY h l,t)
  | isFalse _=>none
 | .a1 g,.val v,_,t=>match isNil v with
  | true=>some (([]:List g.D),t)
  | false=>none
 | .AY g,.a1 g' l (some c),_,t=>match decEq g' g,Nat.beq c l.length with
  | isTrue h,true=>some (nY h l,t)
  | _,_=>none
 | .AY g,.val v,_,t=>match isNil v with
  | true=>some (([]:List g.D),t)
  | false=>none
 | .iJ g,.a1 g' l (some c),_,t=>match decEq g' g with
  | isTrue h=>some (nY h l,c,t)
  | isFalse _=>none
 | .iJ g,.val v,_,t=>match isNil v with
  | true=>some (([]:List g.D),0,t)
  | false=>none
 | .AZ g,.a1 g' l c,_,t=>match decEq g' g with
  | isTrue h=>some (nY h l,c,t)
  | isFalse _=>none
 | .AZ g,.val v,_,t=>match isNil v with
  | true=>some (([]:List g.D),some 0,t)
  | false=>none
 | .fx g off,.fx g' x o,_,t=>match decEq g' g,Nat.beq off o with
  | isTrue h,true=>some (L4 h x,t)
  | _,_=>none
 | .par g,.par g' l,_,t=>match decEq g' g with
  | isTrue h=>some (nY h l,t)
  | isFalse _=>none
 | .fn f cs,.fn f' ids,_,t=>match Nat.beq f f' with
  | true=>rN cs ids t
  | false=>none
 | .eg id cx off,.eg jr Yq i Yr,_,t=>match Nat.beq id jr,Nat.beq cx Yq,Nat.beq off Yr with
  | true,true,true=>some (i,t)
  | _,_,_=>none
 | .gF id,.gF jr i,_,t=>match Nat.beq id jr with
  | true=>some (i,t)
  | false=>none
 | .hJ id,.hJ b jr,_,t=>match Nat.beq id jr with
  | true=>some (b,t)
  | false=>none
 | .hJ id,.ptr jr 0,_,t=>match Nat.beq id jr with
  | true=>some (true,t)
  | false=>none
 | .hJ _,.val (.pointer none),_,t=>some (false,t)
 | _,_,_,_=>none
theorem px.nil{g:aR} {v:Value} (h:isNil v=true) (k:Option Nat) (ab:∀ q,k=some q->q=0):px (.val v) (.a1 g [] k):=fun env B w u hu=>by
 rw[L5 h]at hu;obtain⟨A,c,xs,J,U,ae,aw,aF⟩:=LN (env:=env) (B:=B) (w:=w) (g:=g) hu;exact⟨A,c,xs,J,U,ae,fun q au=>by rw[ab q au]; exact aw 0 rfl,aF⟩
theorem Ys{f:FuncId} {cs:List rM} {ids:List e8} {T:List Type} {t:dp T} {u:dp (pw cs T)} (h:rN cs ids t=some u):((cN.fn f cs).S (T:=T) u).2=t/\px (.fn f ids) ((cN.fn f cs).S (T:=T) u).1:=by
 show(lJ cs u).2=t/\px _ (.fn f (lJ cs u).1);rw[AX h];exact⟨rfl,fun _ _ _ _ h=>h⟩
theorem cN.ic{s:cN} {x:bc} {T:List Type} {t:dp T} {u:dp (s.LT T)} (h:s.get x t=some u):(s.S u).2=t/\px x (s.S u).1:=by
 unfold cN.get at h
 split at h
 ·split at h
  ·rename_i e; cases h; exact⟨rfl,bc.Yp e⟩
  ·cases h
 ·split at h
  ·rename_i e _; subst e; cases h; exact⟨rfl,fun _ _ _ _ h=>h⟩
  ·cases h
 ·cases h; exact⟨rfl,fun _ _ _ _ h=>h⟩
 ·cases h; exact⟨rfl,fun _ _ _ _ h=>h⟩
 ·split at h
  ·rename_i e _; subst e; cases h
   exact⟨rfl,fun _ _ _ _ ⟨A,c,xs,J,U,ae,_,aF⟩=>⟨A,c,xs,J,U,ae,(fun _ e=>by cases e),aF⟩⟩
  ·cases h
 ·split at h
  ·rename_i e; cases h; exact⟨rfl,px.nil e _ fun _ e=>by cases e⟩
  ·cases h
 ·split at h
  ·rename_i e _ aa; subst e; cases h
   have:=Nat.eq_of_beq_eq_true aa
   subst this;exact⟨rfl,fun _ _ _ _ h=>h⟩
  ·cases h
 ·split at h
  ·rename_i e; cases h; exact⟨rfl,px.nil e _ fun _ e=>by cases e; rfl⟩
  ·cases h
 ·split at h
  ·rename_i e _; subst e; cases h; exact⟨rfl,fun _ _ _ _ h=>h⟩
  ·cases h
 ·split at h
  ·rename_i e; cases h; exact⟨rfl,px.nil e _ fun _ e=>by cases e; rfl⟩
  ·cases h
 ·split at h
  ·rename_i e _; subst e; cases h; exact⟨rfl,fun _ _ _ _ h=>h⟩
  ·cases h
 ·split at h
  ·rename_i e; cases h; exact⟨rfl,px.nil e _ fun _ e=>by cases e; rfl⟩
  ·cases h
 ·split at h
  ·rename_i e _ aa; subst e; cases h
   have:=Nat.eq_of_beq_eq_true aa
   subst this;exact⟨rfl,fun _ _ _ _ h=>h⟩
  ·cases h
 ·split at h
  ·rename_i e _; subst e; cases h; exact⟨rfl,fun _ _ _ _ h=>h⟩
  ·cases h
 ·split at h
  ·rename_i e
   have:=Nat.eq_of_beq_eq_true e
   subst this;exact Ys h
  ·cases h
 ·split at h
  ·rename_i aC a7 cC
   cases h;rw[<- Nat.eq_of_beq_eq_true aC,<- Nat.eq_of_beq_eq_true a7,<- Nat.eq_of_beq_eq_true cC];exact⟨rfl,fun _ _ _ _ h=>h⟩
  ·cases h
 ·split at h
  ·rename_i aC
   cases h;rw[<- Nat.eq_of_beq_eq_true aC];exact⟨rfl,fun _ _ _ _ h=>h⟩
  ·cases h
 ·split at h
  ·rename_i aC
   cases h;rw[<- Nat.eq_of_beq_eq_true aC];exact⟨rfl,fun _ _ _ _ h=>h⟩
  ·cases h
 ·split at h
  ·rename_i aC
   cases h;rw[<- Nat.eq_of_beq_eq_true aC];exact⟨rfl,fun _ _ _ _ ⟨b,J,U⟩=>⟨b,fun _=>J,U⟩⟩
  ·cases h
 ·cases h
  exact⟨rfl,fun _ _ _ _ h=>⟨0,fun h=>(by cases h),h⟩⟩
 ·cases h
abbrev vh:List cN->List Type->List Type
 | [],T=>T
 | c :: r,T=>c.LT (vh r T)
def qo:(l:List cN)->{T:List Type}->dp (vh l T)->List bc×dp T
 | [],_,t=>([],t)
 | c :: r,_,u=>((c.S u).1 :: (qo r (c.S u).2).1,(qo r (c.S u).2).2)
def xK:(l:List cN)->List bc->{T:List Type}->dp T->Option (dp (vh l T))
 | [],[],_,t=>some t
 | c :: r,x :: s,_,t=>match xK r s t with
  | some u=>c.get x u
  | none=>none
 | _,_,_,_=>none
theorem Fc:∀ {l:List cN} {s:List bc} {T:List Type} {t:dp T} {u:dp (vh l T)},xK l s t=some u->(qo l u).2=t/\∀ env B w vs,cm env B w s vs->cm env B w (qo l u).1 vs
 | [],[],_,_,_,h=>by cases h; exact⟨rfl,fun _ _ _ _ h=>h⟩
 | c :: r,x :: s,_,t,u,h=>by
  unfold xK at h
  split at h
  ·rename_i eO e
   obtain⟨J,U⟩:=Fc e;obtain⟨ae,aw⟩:=cN.ic h;unfold qo;rw[ae];refine⟨J,fun env B w vs ⟨v,q,e,bq,ai⟩=>⟨v,q,e,aw _ _ _ _ bq,U _ _ _ _ ai⟩⟩
  ·cases h
 | [],_ :: _,_,_,_,h=>by cases h
 | _ :: _,[],_,_,_,h=>by cases h
inductive fQ where
 | c (x:cN)
 | agg (l:List cN)
 | arr (g:aR)
 | cZ (g:aR)
abbrev fQ.LT:fQ->List Type->List Type
 | .c x,T=>x.LT T
 | .agg l,T=>vh l T
 | .arr g,T=>List g.D :: T
 | .cZ g,T=>g.D :: T
def Fe(g:aR) (x:g.D):bf:=match kD g x 0 g.size with
 | some cs=>.agg cs
 | none=>.agg []
def fQ.S:(s:fQ)->{T:List Type}->dp (s.LT T)->bf×dp T
 | .c x,_,u=>(.c (x.S u).1,(x.S u).2)
 | .agg l,_,u=>(.agg (qo l u).1,(qo l u).2)
 | .arr g,_,u=>(.arr g u.1,u.2)
 | .cZ g,_,u=>(Fe g u.1,u.2)
def fQ.get:(s:fQ)->bf->{T:List Type}->dp T->Option (dp (s.LT T))
 | .c x,.c y,_,t=>x.get y t
 | .agg l,.agg cs,_,t=>xK l cs t
 | .arr g,.arr g' l,_,t=>match decEq g' g with
  | isTrue h=>some (nY h l,t)
  | isFalse _=>none
 | .cZ g,.agg cs,_,t=>match dec g cs with
  | some (true,x,[])=>match kD g x 0 g.size with
   | some _=>some (x,t)
   | none=>none
  | _=>none
 | _,_,_,_=>none
theorem fQ.ic{s:fQ} {x:bf} {T:List Type} {t:dp T} {u:dp (s.LT T)} (h:s.get x t=some u):(s.S u).2=t/\∀ env B w v,dP env B w x v->dP env B w (s.S u).1 v:=by
 unfold fQ.get at h
 split at h
 ·exact cN.ic h
 ·obtain⟨J,U⟩:=Fc h
  exact⟨J,fun env B w v ⟨vs,e,aa⟩=>⟨vs,e,U _ _ _ _ aa⟩⟩
 ·split at h
  ·rename_i e _; subst e; cases h; exact⟨rfl,fun _ _ _ _ h=>h⟩
  ·cases h
 ·split at h
  ·rename_i aC
   split at h
   ·rename_i hI a7
    cases h;refine⟨rfl,fun env B w v ⟨vs,e,aa⟩=>?_⟩;show dP env B w (Fe _ _) v;unfold Fe;rw[a7];exact⟨vs,e,aa.data aC rfl a7⟩
   ·cases h
  ·cases h
 ·cases h
abbrev iW:List fQ->List Type->List Type
 | [],T=>T
 | c :: r,T=>c.LT (iW r T)
def hQ:(l:List fQ)->{T:List Type}->dp (iW l T)->List bf×dp T
 | [],_,t=>([],t)
 | c :: r,_,u=>((c.S u).1 :: (hQ r (c.S u).2).1,(hQ r (c.S u).2).2)
def vi:(l:List fQ)->List bf->{T:List Type}->dp T->Option (dp (iW l T))
 | [],[],_,t=>some t
 | c :: r,x :: s,_,t=>match vi r s t with
  | some u=>c.get x u
  | none=>none
 | _,_,_,_=>none
theorem xL:∀ {l:List fQ} {s:List bf} {T:List Type} {t:dp T} {u:dp (iW l T)},vi l s t=some u->(hQ l u).2=t/\∀ env B w vs,dx env B w s vs->dx env B w (hQ l u).1 vs
 | [],[],_,_,_,h=>by cases h; exact⟨rfl,fun _ _ _ _ h=>h⟩
 | c :: r,x :: s,_,t,u,h=>by
  unfold vi at h
  split at h
  ·rename_i eO e
   obtain⟨J,U⟩:=xL e;obtain⟨ae,aw⟩:=fQ.ic h;unfold hQ;rw[ae];refine⟨J,fun env B w vs ⟨v,q,e,bq,ai⟩=>⟨v,q,e,aw _ _ _ _ bq,U _ _ _ _ ai⟩⟩
  ·cases h
 | [],_ :: _,_,_,_,h=>by cases h
 | _ :: _,[],_,_,_,h=>by cases h
inductive jX where
 | a (x:fQ)
 | cW (l:List fQ)
abbrev jX.LT:jX->List Type->List Type
 | .a x,T=>x.LT T
 | .cW l,T=>iW l T
def jX.S:(s:jX)->{T:List Type}->dp (s.LT T)->bZ×dp T
 | .a x,_,u=>(.a (x.S u).1,(x.S u).2)
 | .cW l,_,u=>(.cW (hQ l u).1,(hQ l u).2)
def jX.get:(s:jX)->bZ->{T:List Type}->dp T->Option (dp (s.LT T))
 | .a x,.a y,_,t=>x.get y t
 | .cW l,.cW cs,_,t=>vi l cs t
 | _,_,_,_=>none
def s6(x y:bZ):Prop:=∀ env B w v,ey env B w x v->ey env B w y v
theorem jX.ic{s:jX} {x:bZ} {T:List Type} {t:dp T} {u:dp (s.LT T)} (h:s.get x t=some u):(s.S u).2=t/\s6 x (s.S u).1:=by
 unfold jX.get at h
 split at h
 ·exact fQ.ic h
 ·obtain⟨J,U⟩:=xL h
  exact⟨J,fun env B w v ⟨vs,e,aa⟩=>⟨vs,e,U _ _ _ _ aa⟩⟩
 ·cases h
abbrev vj:List (Nat×jX)->List Type->List Type
 | [],T=>T
 | c :: r,T=>c.2.LT (vj r T)
def mN:(l:List (Nat×jX))->{T:List Type}->dp (vj l T)->cJ×dp T
 | [],_,t=>([],t)
 | c :: r,_,u=>((c.1,(c.2.S u).1) :: (mN r (c.2.S u).2).1,(mN r (c.2.S u).2).2)
def A0:(l:List (Nat×jX))->cJ->{T:List Type}->dp T->Option (dp (vj l T))
 | [],_,_,t=>some t
 | c :: r,L,_,t=>match aS L c.1,A0 r L t with
  | some x,some u=>c.2.get x u
  | _,_=>none
theorem A1:∀ {l:List (Nat×jX)} {L:cJ} {T:List Type} {t:dp T} {u:dp (vj l T)},A0 l L t=some u->(mN l u).2=t/\∀ s sv,aS (mN l u).1 s=some sv->∃ x,aS L s=some x/\s6 x sv
 | [],_,_,_,_,h=>by cases h; exact⟨rfl,fun _ _ h=>by cases h⟩
 | c :: r,L,_,t,u,h=>by
  unfold A0 at h
  split at h
  ·rename_i x eO aC e
   obtain⟨J,U⟩:=A1 e;obtain⟨ae,aw⟩:=jX.ic h;unfold mN;rw[ae];refine⟨J,fun s sv al=>?_⟩;rw[ct]at al
   split at al
   ·rename_i e; subst e; cases al; exact⟨x,aC,aw⟩
   ·exact U s sv al
  ·cases h
inductive h1 where
 | cells (t:TypeId) (l:List cN)
 | row (t:TypeId) (g:aR)
 | Ff (t:TypeId) (g:aR)
 | fr (t:TypeId) (g:aR)
 | mp (gk a8:aR)
 | ez (el:Bool) (t:TypeId) (g:aR) (d:Nat)
 | Fg (el:Bool) (t:TypeId) (g:aR) (d:Nat)
 | hk
 | gT (eZ:Nat)
 | b0 (t bR:TypeId) (g:aR)
 | Fh (t bR:TypeId) (g:aR) (d:Option Nat)
abbrev h1.LT:h1->List Type->List Type
 | .cells _ l,T=>vh l T
 | .row _ g,T=>List g.D :: T
 | .Ff _ g,T=>List g.D :: Nat :: T
 | .fr _ g,T=>List g.D :: T
 | .mp gk a8,T=>List (gk.D×a8.D) :: T
 | .ez _ _ g _,T=>List (List g.D) :: Nat :: T
 | .Fg _ _ g _,T=>List (List g.D) :: Nat :: Nat :: T
 | .hk,T=>ByteArray :: Nat :: T
 | .gT _,T=>T
 | .b0 _ _ g,T=>List (Bool×List g.D) :: T
 | .Fh _ _ g _,T=>List (Bool×List g.D) :: Nat :: T
def h1.S:(s:h1)->{T:List Type}->dp (s.LT T)->cw×dp T
 | .cells t l,_,u=>(.cells t (qo l u).1,(qo l u).2)
 | .row t g,_,u=>(.row t g u.1 none,u.2)
 | .Ff t g,_,u=>(.row t g u.1 (some u.2.1),u.2.2)
 | .fr t g,_,u=>(.fr t g u.1,u.2)
 | .mp gk a8,_,u=>(.mp gk a8 u.1 none,u.2)
 | .ez el t g d,_,u=>(.ez el t g u.1 none u.2.1 d,u.2.2)
 | .Fg el t g d,_,u=>(.ez el t g u.1 (some u.2.2.1) u.2.1 d,u.2.2.2)
 | .hk,_,u=>(.hk u.1 u.2.1,u.2.2)
 | .gT m,_,u=>(.gT m,u)
 | .b0 t bR g,_,u=>(.b0 t bR g u.1 none none,u.2)
 | .Fh t bR g d,_,u=>(.b0 t bR g u.1 none (some (u.2.1,d)),u.2.2)
def L6{g g':aR} (h:g'=g) (l:List (Bool×List g'.D)):List (Bool×List g.D):=h ▸ l
def L7{g g':aR} (h:g'=g) (l:List (List g'.D)):List (List g.D):=h ▸ l
def Yt{gk A2 a8 A3:aR} (h:A2=gk) (U:A3=a8) (l:List (A2.D×A3.D)):List (gk.D×a8.D):=h ▸ U ▸ l
def h1.get:(s:h1)->cw->{T:List Type}->dp T->Option (dp (s.LT T))
 | .cells t l,.cells bR cs,_,u=>match Nat.beq bR t with
  | true=>xK l cs u
  | false=>none
 | .row t g,.row bR g' l _,_,u=>match Nat.beq bR t,decEq g' g with
  | true,isTrue h=>some (nY h l,u)
  | _,_=>none
 | .Ff t g,.row bR g' l (some c),_,u=>match Nat.beq bR t,decEq g' g with
  | true,isTrue h=>some (nY h l,c,u)
  | _,_=>none
 | .fr t g,.fr bR g' l,_,u=>match Nat.beq bR t,decEq g' g with
  | true,isTrue h=>some (nY h l,u)
  | _,_=>none
 | .fr t g,.row bR g' l _,_,u=>match Nat.beq bR t,decEq g' g with
  | true,isTrue h=>some (nY h l,u)
  | _,_=>none
 | .mp gk a8,.mp A2 A3 l _,_,u=>match decEq A2 gk,decEq A3 a8 with
  | isTrue h,isTrue U=>some (Yt h U l,u)
  | _,_=>none
 | .ez el t g d,.ez Fi bR g' l _ i fJ,_,u=>match decEq Fi el,Nat.beq bR t,Nat.beq fJ d,decEq g' g with
  | isTrue _,true,true,isTrue h=>some (L7 h l,i,u)
  | _,_,_,_=>none
 | .Fg el t g d,.ez Fi bR g' l (some c) i fJ,_,u=>match decEq Fi el,Nat.beq bR t,Nat.beq fJ d,decEq g' g with
  | isTrue _,true,true,isTrue h=>some (L7 h l,i,c,u)
  | _,_,_,_=>none
 | .hk,.hk s p,_,u=>some (s,p,u)
 | .gT m,.gT iH,_,u=>match Nat.beq iH m with
  | true=>some u
  | false=>none
 | .b0 t t2 g,.b0 bR Fj g' l _ none,_,u=>match Nat.beq bR t,Nat.beq Fj t2,decEq g' g with
  | true,true,isTrue h=>some (L6 h l,u)
  | _,_,_=>none
 | .Fh t t2 g d,.b0 bR Fj g' l _ (some (i,fJ)),_,u=>match Nat.beq bR t,Nat.beq Fj t2,decEq fJ d,decEq g' g with
  | true,true,isTrue _,isTrue h=>some (L6 h l,i,u)
  | _,_,_,_=>none
 | _,_,_,_=>none
def Yu(id:Nat) (x y:cw):Prop:=∀ env B w c,ew env B w id x c->ew env B w id y c
theorem h1.ic{s:h1} {x:cw} {T:List Type} {t:dp T} {u:dp (s.LT T)} (id:Nat) (h:s.get x t=some u):(s.S u).2=t/\Yu id x (s.S u).1:=by
 unfold h1.get at h
 split at h
 ·split at h
  ·rename_i e
   rw[Nat.eq_of_beq_eq_true e];obtain⟨J,U⟩:=Fc h;exact⟨J,fun env B w c ⟨b,vs,e,aa,ae⟩=>⟨b,vs,e,aa,U _ _ _ _ ae⟩⟩
  ·cases h
 ·split at h
  ·rename_i U e _
   subst U;rw[Nat.eq_of_beq_eq_true e];cases h;exact⟨rfl,fun env B w c ⟨A,k,xs,e,aa,ae,_⟩=>⟨A,k,xs,e,aa,ae,fun _ e=>by cases e⟩⟩
  ·cases h
 ·split at h
  ·rename_i U e _
   subst U;rw[Nat.eq_of_beq_eq_true e];cases h;exact⟨rfl,fun env B w c h=>h⟩
  ·cases h
 ·split at h
  ·rename_i U e _
   subst U;rw[Nat.eq_of_beq_eq_true e];cases h;exact⟨rfl,fun env B w c h=>h⟩
  ·cases h
 ·split at h
  ·rename_i U e _
   subst U;rw[Nat.eq_of_beq_eq_true e];cases h;exact⟨rfl,fun env B w c ⟨A,k,xs,e,aa,ae,_⟩=>⟨A,k,e,.inl ⟨xs,aa,ae⟩⟩⟩
  ·cases h
 ·split at h
  ·rename_i J U _ _
   subst J;subst U;cases h;exact⟨rfl,fun env B w c ⟨b,es,k,e,aa,ae,aw,_⟩=>⟨b,es,k,e,aa,ae,aw,fun _ e=>by cases e⟩⟩
  ·cases h
 ·split at h
  ·rename_i he ae _ J U _
   subst he;subst ae;rw[Nat.eq_of_beq_eq_true J,Nat.eq_of_beq_eq_true U];cases h;exact⟨rfl,fun env B w c ⟨A,k,bJ,cj,c',m,e,aa,J,hi,U,_,aw⟩=>⟨A,k,bJ,cj,c',m,e,aa,J,hi,U,(fun _ e=>by cases e),aw⟩⟩
  ·cases h
 ·split at h
  ·rename_i he ae _ J U _
   subst he;subst ae;rw[Nat.eq_of_beq_eq_true J,Nat.eq_of_beq_eq_true U];cases h;exact⟨rfl,fun env B w c h=>h⟩
  ·cases h
 ·cases h
  exact⟨rfl,fun env B w c h=>h⟩
 ·split at h
  ·rename_i e
   rw[Nat.eq_of_beq_eq_true e];cases h;exact⟨rfl,fun env B w c h=>h⟩
  ·cases h
 ·split at h
  ·rename_i ae J U _
   subst ae;rw[Nat.eq_of_beq_eq_true J,Nat.eq_of_beq_eq_true U];cases h;exact⟨rfl,fun env B w c ⟨A,k,bJ,c2,I,e,aa,aw,aF,_⟩=>⟨A,k,bJ,c2,I,e,aa,aw,aF,fun _ e=>by cases e⟩⟩
  ·cases h
 ·split at h
  ·rename_i he ae J U _ _
   subst he;subst ae;rw[Nat.eq_of_beq_eq_true J,Nat.eq_of_beq_eq_true U];cases h;exact⟨rfl,fun env B w c ⟨A,k,bJ,c2,I,e,aa,aw,aF,_⟩=>⟨A,k,bJ,c2,I,e,aa,aw,aF,fun _ e=>by cases e⟩⟩
  ·cases h
 ·cases h
abbrev l7:List (Nat×h1)->List Type->List Type
 | [],T=>T
 | c :: r,T=>c.2.LT (l7 r T)
def jj:(l:List (Nat×h1))->{T:List Type}->dp (l7 l T)->bo×dp T
 | [],_,t=>([],t)
 | c :: r,_,u=>((c.1,(c.2.S u).1) :: (jj r (c.2.S u).2).1,(jj r (c.2.S u).2).2)
def s7:(l:List (Nat×h1))->bo->{T:List Type}->dp T->Option (dp (l7 l T))
 | [],[],_,t=>some t
 | c :: r,x :: s,_,t=>match Nat.beq c.1 x.1,s7 r s t with
  | true,some u=>c.2.get x.2 u
  | _,_=>none
 | _,_,_,_=>none
theorem s8:∀ {l:List (Nat×h1)} {h:bo} {T:List Type} {t:dp T} {u:dp (l7 l T)},s7 l h t=some u->(jj l u).2=t/\∀ env B w H,bp env B w h H->bp env B w (jj l u).1 H
 | [],[],_,_,_,h=>by cases h; exact⟨rfl,fun _ _ _ _ h=>h⟩
 | c :: r,x :: s,_,t,u,h=>by
  unfold s7 at h
  split at h
  ·rename_i eO aC e
   obtain⟨J,U⟩:=s8 e;obtain⟨ae,aw⟩:=h1.ic x.1 h;unfold jj;rw[ae];refine⟨J,fun env B w H ⟨q,H',e,bq,ai⟩=>⟨q,H',e,?_,U _ _ _ _ ai⟩⟩;rw[Nat.eq_of_beq_eq_true aC];exact aw _ _ _ _ bq
  ·cases h
 | [],_ :: _,_,_,_,h=>by cases h
 | _ :: _,[],_,_,_,h=>by cases h
structure en where
 L:List (Nat×jX)
 H:List (Nat×h1)
 qp:List Nat:=[]
 jY:List Nat:=[]
abbrev en.T (s:en):List Type:=vj s.L (l7 s.H [])
abbrev en.D (s:en):Type:=xJ s.T
section
structure bu(X:bl) where
 f:FuncId
 fn:Func
 A:List fQ
 eP:List (Nat×h1)
 ba:Type
 nq:ba
 m:dp (iW A (l7 eP []))->Option ba
 out:dp (iW A (l7 eP []))->ba->bZ×bo
 aA:X.P.funcs[f]?=some fn
 bk : (fn.name == "runtime.NumGoroutine") = false
 ai:fn.body.isNone=false
 ok:∀ d r,m d=some r->AC X f (hQ A d).1 (jj eP (hQ A d).2).1 (fun sv h=>sv=(out d r).1/\h=(out d r).2)
def oF:ee->ee
 | []=>[]
 | (i,j) :: r=>(j,i) :: oF r
theorem Fk:∀ {ps:ee} {i j:Nat},(j,i)∈oF ps ↔ (i,j)∈ps
 | [],_,_=>by simp[oF]
 | (a,b) :: r,i,j=>by
  unfold oF;rw[List.mem_cons,List.mem_cons,Fk];simp only[Prod.mk.injEq];constructor<;>rintro(⟨J,U⟩ | h)
  ·exact .inl ⟨U,J⟩
  ·exact .inr h
  ·exact .inl ⟨U,J⟩
  ·exact .inr h
theorem L8:∀ ps:ee,rn (oF ps)=kk ps
 | []=>rfl
 | (a,b) :: r=>by
  unfold oF rn kk;rw[L8 r]
theorem Fl{ps:ee} (J:(rn ps).Nodup) (U:(kk ps).Nodup) {i j:Nat}:aS (oF ps) j=some i ↔ aS ps i=some j:=by
 constructor
 ·intro h
  exact xn J (Fk.1 (uW h))
 ·intro h
  exact xn (by rw[L8]; exact U) (Fk.2 (uW h))
def nZ(ps iX:ee):List Nat->bo->Option (bo×bo)
 | [],H=>some ([],H)
 | i :: is,H=>match aS ps i with
  | some j=>match aS H j with
   | some b'=>match b'.dz iX,nZ ps iX is (lE j H)with
    | some b,some (h,H')=>some ((i,b) :: h,H')
    | _,_=>none
   | none=>none
  | none=>none
section
variable {X:bl} {R:Nat->Prop} {W:World} {aD:e5} {n:Nat} {ks:List Nat} {env L9:Nat->Loc} {B:Nat->Prop} {ak:World} {H:List bd} {st st':aK} {a aQ:Act} {w w':World} {o:Oper} {d:Nat} {ps:ee}
theorem Ma(J:(rn ps).Nodup) (U:(kk ps).Nodup) (he:∀ i j,aS ps i=some j->L9 i=env j):∀ {is:List Nat} {l h l':bo} {C:List bd},nZ ps (oF ps) is l=some (h,l')->bp env B ak l C->∃ eX kl,C.Perm (eX++kl)/\bp L9 B ak h eX/\bp env B ak l' kl
 | [],l,h,l',C,ar,dt=>by cases ar; exact⟨[],C,List.Perm.refl _,rfl,dt⟩
 | i :: is,l,h,l',C,ar,dt=>by
  unfold nZ at ar
  split at ar
  ·rename_i j aX
   split at ar
   ·rename_i b' ag
    split at ar
    ·rename_i b aP Fm ai aH
     cases ar;obtain⟨c,H2,aC,a7,cC⟩:=dt.erase ag;obtain⟨eX,kl,gN,gh,sZ⟩:=Ma J U he aH cC;have au:aS (oF ps) j=some i:=(Fl J U).2 aX;exact⟨c :: eX,kl,a7.trans (List.Perm.cons _ gN),⟨c,eX,rfl,(ew.dz (fun j i h=>he i j ((Fl J U).1 h)) au ai).1 aC,gh⟩,sZ⟩
    ·cases ar
   ·cases ar
  ·cases ar
structure vk(X:bl) (e:bu X) where
 d:dp (iW e.A (l7 e.eP []))
 H1:bo
def rO(X:bl) (n:Nat) (e:bu X) (ps:ee) (H:bo) (args:List bf):Option (vk X e):=
 match uV n ps,rm (oF ps) args,nZ ps (oF ps) (e.eP.map (·.1)) H with
 | true,some Fo,some (J,H1)=>match s7 (T:=[]) e.eP J ()with
  | some u=>match vi e.A Fo u with
   | some d=>some ⟨d,H1⟩
   | none=>none
  | none=>none
 | _,_,_=>none
def after(X:bl) (e:bu X) (ps:ee) (st:aK) (d:Nat) (p:vk X e) (r:e.ba):Option aK:=
 match ((e.out p.d r).1).dz ps,qd ps (e.out p.d r).2 with
 | some hZ,some iU=>match ps with
  | []=>some ⟨(d,hZ) :: st.L,iU++st.H⟩
  | _=>some ⟨(d,hZ) :: nP (iT (jj e.eP (hQ e.A p.d).2).1 ps) st.L,iU++h9 (iT (jj e.eP (hQ e.A p.d).2).1 ps) (iT (jj e.eP (hQ e.A p.d).2).1 ps) p.H1⟩
 | _,_=>none
def qq(X:bl) (n:Nat) (o:Oper) (dY:bd->Bool) (st st':aK):Prop:=∀ (R:Nat->Prop) (W:World) (aD:e5) (ks:List Nat) (env:Nat->Loc) (B:Nat->Prop) (ak:World) (H:List bd) (a:Act) (w:World),bB X R W aD n ks env B ak H st a w->∀ (KK:Act->World->Prop) (l:List Oper),
 (∀ aQ w' env' B' cy H',bB X R W aD n ks env' B' cy H' st' aQ w'->(∀ k,B k->B' k)->da (fun k=>R k\/B k) ak cy->(∀ c∈H,dY c=true->c∈H')->KK aQ w')->e3 X.P l.toArray o KK a w
theorem fl.c(h:fl X n o st st'):qq X n o (fun _=>false) st st':=fun R W aD ks env B ak H a w ad KK l bT=>h R W aD ks env B ak H a w ad KK l fun aQ w' env' H' bW=>bT aQ w' env' B ak H' bW (fun _ h=>h) (da.refl _ _) (fun _ _ h=>by cases h)
def Callee(X:bl) (st:aK) (o:Oper) (f:FuncId) (xs:List Operand) (pre post:List bf):Prop:=
 ∃ fc,(o.op=.call { callee:=.value (.func f),args:=xs.toArray,argTypes:=fc }/\pre=[]/\post=[]) \/
  (∃ s ids,o.op=.call { callee:=.value (.tmp s),args:=xs.toArray,argTypes:=fc }/\aS st.L s=some (.c (.fn f ids))/\pre=[]/\post=nS ids) \/
  ∃ s id,o.op=.call { callee:=.value (.tmp s),args:=xs.toArray,argTypes:=fc }/\aS st.L s=some (.c (.iC f id))/\pre=[.c (.ptr id 0)]/\post=[]
def A4(X:bl) (n:Nat) (st:aK) (xs:List Operand) (args:List bf):Prop:=∀ (R:Nat->Prop) (W:World) (aD:e5) (ks:List Nat) (env:Nat->Loc) (B:Nat->Prop) (ak:World) (H:List bd) (a:Act) (w:World),bB X R W aD n ks env B ak H st a w->∃ vs,iA (gi a) xs=some vs/\dx env B ak args vs
theorem A4.of{xs:List Operand} {args:List bf} {c:Bool} (h:l0 X st.L xs=some (c,args)) (aa:c=true):A4 X n st xs args:=fun _ _ _ _ _ _ _ _ _ _ ad=>sM ad h aa
def s9:cw->Bool
 | .cells _ _=>false
 | _=>true
def qs(j:Nat):bo->Bool
 | []=>true
 | (k,_) :: r=>!Nat.beq k j&&qs j r
def ta(H:bo):ee->Bool
 | []=>true
 | (i,j) :: r=>(Nat.ble hx i || qs j H)&&ta H r
def oG(H:bo):ee->Bool
 | []=>true
 | (_,j) :: r=>qs j H&&oG H r
def qt(js:List Nat):bo->Bool
 | []=>true
 | (j,b) :: r=>(!js.elem j || s9 b)&&qt js r
def vl(H:bo) (ps:ee):Bool:=ta H ps&&qt (kk ps) H
def tb(H:bo) (ps:ee) (c:bd):Bool:=oG H ps || (im c&&vl H ps)
theorem Mb{j:Nat}:∀ {H:bo},qs j H=true->∀ p∈H,p.1≠j
 | (k,b) :: r,h,p,ar=>by
  unfold qs at h;rw[Bool.and_eq_true]at h
  rcases List.mem_cons.1 ar with rfl | ar
  ·intro e
   have J:=h.1;rw[show k=j from e,Nat.beq_refl]at J;cases J
  ·exact Mb h.2 p ar
theorem Mc{j:Nat}:∀ {H:bo},qs j H=true->aS H j=none
 | [],_=>rfl
 | (k,b) :: r,h=>by
  unfold qs at h;rw[Bool.and_eq_true]at h;rw[ct,if_neg (fun e=>by have J:=h.1; rw[e,Nat.beq_refl]at J; cases J)];exact Mc h.2
theorem Md{js:List Nat}:∀ {l:bo},(∀ p∈l,p.1 ∉ js)->rp js l=true
 | [],_=>rfl
 | (k,b) :: r,h=>by
  unfold rp;have J:=h (k,b) List.mem_cons_self;rw[Bool.and_eq_true];exact⟨by simpa using J,Md fun p ar=>h p (List.mem_cons_of_mem _ ar)⟩
theorem Fp{h H:bo}:∀ {ps:ee},ta H ps=true->∀ j∈iT h ps,qs j H=true
 | [],_,j,aX=>by cases aX
 | (i,k) :: r,aA,j,aX=>by
  unfold ta at aA;rw[Bool.and_eq_true,Bool.or_eq_true]at aA;unfold iT at aX
  split at aX
  ·exact Fp aA.2 j aX
  ·rename_i ab
   rcases List.mem_cons.1 aX with rfl | aX
   ·rcases aA.1 with J | J
    ·unfold Au at ab
     rw[J]at ab;cases ab
    ·exact J
   ·exact Fp aA.2 j aX
theorem Me{H:bo}:∀ {ps:ee},oG H ps=true->ta H ps=true
 | [],_=>rfl
 | (i,j) :: r,h=>by
  unfold oG at h;rw[Bool.and_eq_true]at h;unfold ta;rw[h.1,Me h.2,Bool.or_true]
  rfl
theorem Mf{H:bo}:∀ {ps:ee},oG H ps=true->∀ i j,(i,j)∈ps->qs j H=true
 | (_,_) :: r,h,i,j,hm=>by
  unfold oG at h;rw[Bool.and_eq_true]at h
  rcases List.mem_cons.1 hm with hm | hm
  ·cases hm; exact h.1
  ·exact Mf h.2 i j hm
theorem Mg{j:Nat}:∀ {l:bo} {p:Nat×cw},p∈lE j l->p∈l
 | (k,b) :: r,p,h=>by
  unfold lE at h
  split at h
  ·exact List.mem_cons_of_mem _ h
  ·rcases List.mem_cons.1 h with rfl | h
   ·exact List.mem_cons_self
   ·exact List.mem_cons_of_mem _ (Mg h)
theorem Fq{ps iX:ee}:∀ {is:List Nat} {l h l':bo},nZ ps iX is l=some (h,l')->∀ p∈l',p∈l
 | [],_,_,_,ar,p,hm=>by cases ar; exact hm
 | i :: is,l,h,l',ar,p,hm=>by
  unfold nZ at ar
  split at ar
  ·split at ar
   ·split at ar
    ·rename_i b aP Fm ai aH
     cases ar;exact Mg (Fq aH p hm)
    ·cases ar
   ·cases ar
  ·cases ar
theorem Yv{ps iX:ee}:∀ {is:List Nat} {l h l':bo},oG l ps=true->nZ ps iX is l=some (h,l')->h=[]/\l'=l
 | [],_,_,_,_,ar=>by cases ar; exact⟨rfl,rfl⟩
 | i :: is,l,h,l',bk,ar=>by
  unfold nZ at ar
  split at ar
  ·rename_i j aX
   split at ar
   ·rename_i b' ag
    rw[Mc (Mf bk i j (uW aX))]at ag;cases ag
   ·cases ar
  ·cases ar
theorem Mh{h H H1:bo} {ps:ee} (aA:ta H ps=true) (al:∀ p∈H1,p∈H):rp (iT h ps) H1=true:=Md fun p ar hm=>Mb (Fp aA p.1 hm) p (al p ar) rfl
theorem Yw{ps:ee} {b b':cw} (h:b.dz ps=some b') (ai:s9 b=true):s9 b'=true:=by
 unfold cw.dz at h
 split at h
 all_goals first
  | (cases h; rfl)
  | (exfalso; simp[s9]at ai; done)
  | (split at h<;>first | (cases h; rfl) | cases h)
theorem Mi{js:List Nat}:∀ {l:bo} {j:Nat} {b:cw},qt js l=true->j∈js->aS l j=some b->s9 b=true
 | [],_,_,_,_,h=>by cases h
 | (k,om) :: r,j,b,bk,aX,h=>by
  simp only[qt,Bool.and_eq_true]at bk;rw[ct]at h
  split at h
  ·rename_i e; subst e; cases h
   have J:=bk.1;rw[show js.elem _=true from List.elem_eq_true_of_mem aX]at J
   simpa using J
  ·exact Mi bk.2 aX h
theorem Mj{js:List Nat} {j:Nat}:∀ {l:bo},qt js l=true->qt js (lE j l)=true
 | [],_=>rfl
 | (k,om) :: r,bk=>by
  have hj:=bk;simp only[qt,Bool.and_eq_true]at bk;unfold lE
  split
  ·exact bk.2
  ·simp only[qt,Bool.and_eq_true]
   exact⟨bk.1,Mj bk.2⟩
theorem Mk{ps iX:ee}:∀ {is:List Nat} {l h l':bo},qt (kk ps) l=true->nZ ps iX is l=some (h,l')->∀ p∈h,s9 p.2=true
 | [],_,_,_,_,ar=>by cases ar; intro p ar; cases ar
 | i :: is,l,h,l',bk,ar=>by
  unfold nZ at ar
  split at ar
  ·rename_i j aX
   split at ar
   ·rename_i b' ag
    split at ar
    ·rename_i b aP Fm ai aH
     cases ar;intro p ar
     rcases List.mem_cons.1 ar with rfl | ar
     ·exact Yw ai (Mi bk (Aw (uW aX)) ag)
     ·exact Mk (Mj bk) aH p ar
    ·cases ar
   ·cases ar
  ·cases ar
theorem bp.pa{env:Nat->Loc} {B:Nat->Prop} {w:World}:∀ {l:bo} {H:List bd},bp env B w l H->(∀ p∈l,s9 p.2=true)->∀ c∈H,im c=false
 | [],_,h,_,c,aa=>by rw[show _=[] from h]at aa; cases aa
 | (k,b) :: r,_,⟨c0,H',e,J,U⟩,bk,c,aa=>by
  subst e
  rcases List.mem_cons.1 aa with rfl | aa
  ·exact J.nc fun t cs e=>by
    have:=bk _ List.mem_cons_self
    rw[e]at this;cases this
  ·exact bp.pa U (fun p ar=>bk p (List.mem_cons_of_mem _ ar)) c aa
theorem Ml(e:bu X) {xs:List Operand} {pre post nR:List bf} (ps:ee) (tc:Callee X st o e.f xs pre post) (bb:o.guard=none/\o.dst=some d) (ax:Nat.blt d n=true) (l1:A4 X n st xs nR)
  {p:vk X e} (ar:rO X n e ps st.H (pre++(nR++post))=some p) {r:e.ba} (aH:e.m p.d=some r) (bq:after X e ps st d p r=some st'):qq X n o (tb st.H ps) st st':=by
 intro R W aD ks env B ak H a w ad KK l bT;unfold rO at ar
 split at ar
 ·rename_i Fo J H1 jx ru iG
  split at ar
  ·rename_i u hu
   split at ar
   ·rename_i dd Yx
    cases ar;have Mm:=jx;simp only[uV,Bool.and_eq_true]at Mm;obtain⟨⟨qu,xM⟩,aiq⟩:=Mm;have A5:=xm qu;have A6:=xm xM;obtain⟨vs,g1,g2⟩:=l1 _ _ _ _ _ _ _ _ _ _ ad;obtain⟨xN,td⟩:=s8 hu;obtain⟨Yy,Yz⟩:=xL Yx;have he:∀ i j,aS ps i=some j->(fun i=>match aS ps i with | some j=>env j | none=>Loc.no) i=env j:=fun i j lH=>by simp only[lH]
    obtain⟨eX,kl,cC,gN,gh⟩:=Ma A5 A6 he iG ad.heap;have al:bA B ak eX w:=by
     have aW:=(ad.aJ.perm (cC.append_right (ks.map c7))).er (H':=eX) (by rw[List.append_assoc]; exact List.sublist_append_left _ _);exact⟨⟨aW.below.os,aW.below.tape,aW.below.output,aW.below.size,fun k ab=>aW.below.block k (.inr ab)⟩,fun k ab=>aW.base k (.inr ab),fun c aa=>(aW.ok c aa).base fun b ai ab=>((aW.ok c aa).lt ai).1 (.inr ab),aW.apart⟩
    have dt:bp (fun i=>match aS ps i with | some j=>env j | none=>Loc.no) B ak (jj e.eP (hQ e.A dd).2).1 eX:=by rw[Yy]; exact td _ _ _ _ gN
    have key:∀ mC,dx env B ak (pre++(nR++post)) mC->oh X.P e.f mC.toArray w (sK X (fun i=>match aS ps i with | some j=>env j | none=>Loc.no) B eX w (fun sv h=>sv=(e.out dd r).1/\h=(e.out dd r).2)):=fun mC h=>by
     have U:=(dx.dz (env:=env) (env':=fun i=>match aS ps i with | some j=>env j | none=>Loc.no) (fun j i jQ=>he i j ((Fl A5 A6).1 jQ)) ru).1 h;exact e.ok dd r aH B ak _ mC eX w (fun i x ao=>ad.dT i x ao) (Yz _ _ _ _ U) dt al
    have fin:∀ v aQ w',sK X (fun i=>match aS ps i with | some j=>env j | none=>Loc.no) B eX w (fun sv h=>sv=(e.out dd r).1/\h=(e.out dd r).2) v w'->c9 n (jL ks aD) ((d,v) :: gi a) aQ->KK aQ w':=fun v aQ w' nj aI=>by
     obtain⟨sv,aN,⟨rfl,rfl⟩,xr⟩:=ad.called jx cC dt gh nj aI;unfold after at bq
     split at bq
     ·rename_i hZ iU f1 f2
      obtain⟨env',B',cy,H',bW,jN,eA,lK⟩:=xr hZ iU f1 f2;have A7:∀ c∈H,tb st.H ps c=true->c∈H':=fun c aa aP=>by
       unfold tb at aP;rw[Bool.or_eq_true]at aP;have bC:=cC.mem_iff.1 aa
       rcases aP with aP | aP
       ·obtain⟨dF,et⟩:=Yv aP iG
        have Ay:eX=[]:=by rw[dF]at gN; exact gN
        rw[Ay]at bC;exact lK (Mh (Me aP) (Fq iG)) c (by simpa using bC)
       ·simp only[Bool.and_eq_true,vl]at aP
        obtain⟨ju,p9,ib⟩:=aP
        rcases List.mem_append.1 bC with bC | bC
        ·have:=gN.pa (Mk ib iG) c bC
         rw[ju]at this;cases this
        ·exact lK (Mh p9 (Fq iG)) c bC
      split at bq
      ·cases bq
       have db:H1=st.H:=by
        cases hN:e.eP with
        | nil=>rw[hN]at iG; cases iG; rfl
        | cons q _=>rw[hN]at iG; cases iG
       have fN:bB X R W aD n ks env' B' cy H' ⟨(d,hZ) :: nP [] st.L,iU++h9 [] [] H1⟩ aQ w':=bW;rw[Ll,Lm,db]at fN;exact bT aQ w' env' B' cy H' fN jN eA A7
      ·cases bq
       exact bT aQ w' env' B' cy H' bW jN eA A7
     ·cases bq
    obtain⟨fc,tc⟩:=tc
    rcases tc with⟨az,rfl,rfl⟩ | ⟨s,ids,az,ag,rfl,rfl⟩ | ⟨s,id,az,ag,rfl,rfl⟩
    ·exact J5 ad.sym az bb ax e.aA e.bk e.ai g1 (key vs (by simpa using g2)) fun v aQ w' nj aI=>fin v aQ w' nj aI
    ·obtain⟨uY,rv,lb,rfl,jJ⟩:=ad.has _ _ ag
     exact Kk ad.sym az bb ax (hK rv) e.aA e.bk e.ai g1 (key (vs++lb) (by simpa using g2.append (xt jJ))) fun v aQ w' nj aI=>fin v aQ w' nj aI
    ·obtain⟨uY,rv,b,YA,rfl⟩:=ad.has _ _ ag
     exact Yk ad.sym az bb ax (hK rv) e.aA e.bk e.ai g1 (key (.pointer (some ⟨b,0,none⟩) :: vs) (by rw[List.append_nil]; exact⟨_,_,rfl,⟨b,YA,rfl⟩,g2⟩)) fun v aQ w' nj aI=>fin v aQ w' nj aI
   ·cases ar
  ·cases ar
 ·cases ar
end
end
end Go.Proofs.YtcheedjfedcbpaaGreatDoor
