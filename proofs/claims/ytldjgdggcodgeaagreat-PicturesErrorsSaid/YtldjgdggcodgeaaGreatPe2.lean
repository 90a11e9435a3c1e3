/- Part 2 of 6 of the proof. -/
import Derived.Test.YtldjgdggcodgeaaGreatPe1
import Derived.Lib.LaidTab
import Derived.Test.YtldjgdggcodgeaaGreatProg
import Derived.KernelRfl
import Derived.Lib.ItoaNum
import Derived.Test.YtldjgdggcodgeaaGreatRows
import Derived.LaidMore
import Derived.OpenShut
import Derived.Stop.Joined
import Derived.Maps.RangeRun
import Derived.SizedLaws
import Derived.Scope
import Derived.Lib.OthersKept
set_option linter.unusedSimpArgs false
set_option linter.unusedVariables false
set_option maxRecDepth 100000
namespace Go.Proofs.YtldjgdggcodgeaaGreat
open Go.RowKit
section
abbrev dQ:=List (Nat×Nat)
def uJ(ps:dQ):List e2->Option (List e2)
 | []=>some []
 | .id i :: r=>match aZ ps i,uJ ps r with
  | some j,some l=>some (.id j :: l)
  | _,_=>none
 | .cL g x :: r=>match uJ ps r with
  | some l=>some (.cL g x :: l)
  | none=>none
def bg.dI(ps:dQ):bg->Option bg
 | .ptr i o=>match aZ ps i with
  | some j=>some (.ptr j o)
  | none=>none
 | .dV i cP k o=>match aZ ps i with
  | some j=>some (.dV j cP k o)
  | none=>none
 | .ak i=>match aZ ps i with
  | some j=>some (.ak j)
  | none=>none
 | .fn f ids=>match uJ ps ids with
  | some l=>some (.fn f l)
  | none=>none
 | .eP i=>match aZ ps i with
  | some j=>some (.eP j)
  | none=>none
 | .iu f i=>match aZ ps i with
  | some j=>some (.iu f j)
  | none=>none
 | .hy i o=>match aZ ps i with
  | some j=>some (.hy j o)
  | none=>none
 | .iN i=>match aZ ps i with
  | some j=>some (.iN j)
  | none=>none
 | .iv i s o=>match aZ ps i with
  | some j=>some (.iv j s o)
  | none=>none
 | .fR b i=>match aZ ps i with
  | some j=>some (.fR b j)
  | none=>none
 | .val v=>some (.val v)
 | .str s=>some (.str s)
 | .dead=>some .dead
 | .fK g x o=>some (.fK g x o)
 | .par g l=>some (.par g l)
 | .bd g l c=>some (.bd g l c)
def xH(ps:dQ):List bg->Option (List bg)
 | []=>some []
 | c :: r=>match c.dI ps,xH ps r with
  | some c',some cv=>some (c' :: cv)
  | _,_=>none
def bh.dI(ps:dQ):bh->Option bh
 | .c x=>match x.dI ps with
  | some y=>some (.c y)
  | none=>none
 | .agg cs=>match xH ps cs with
  | some l=>some (.agg l)
  | none=>none
 | .arr g l=>some (.arr g l)
def xI(ps:dQ):List bh->Option (List bh)
 | []=>some []
 | c :: r=>match c.dI ps,xI ps r with
  | some c',some cv=>some (c' :: cv)
  | _,_=>none
def b5.dI(ps:dQ):b5->Option b5
 | .a x=>match x.dI ps with
  | some y=>some (.a y)
  | none=>none
 | .dj xs=>match xI ps xs with
  | some l=>some (.dj l)
  | none=>none
 | .may _ _=>none
def cA.dI(ps:dQ):cA->Option cA
 | .cells t cs=>match xH ps cs with
  | some l=>some (.cells t l)
  | none=>none
 | .row t g l c=>some (.row t g l c)
 | .hf s p=>some (.hf s p)
 | .mp gk bO l o=>some (.mp gk bO l o)
 | .it jh es k K6=>match aZ ps jh with
  | some j=>some (.it j es k K6)
  | none=>none
 | .kO=>some .kO
 | .bX el t g l c i d=>match aZ ps d with
  | some j=>some (.bX el t g l c i j)
  | none=>none
 | .j9=>some .j9
 | .fw t g l=>some (.fw t g l)
 | .bQ t bR g l c none=>some (.bQ t bR g l c none)
 | .bQ t bR g l c (some (i,none))=>some (.bQ t bR g l c (some (i,none)))
 | .bQ t bR g l c (some (i,some d))=>match aZ ps d with
  | some j=>some (.bQ t bR g l c (some (i,some j)))
  | none=>none
def sC(ps:dQ):bE->Option bE
 | []=>some []
 | (i,b) :: r=>match aZ ps i,b.dI ps,sC ps r with
  | some j,some b',some cv=>some ((j,b') :: cv)
  | _,_,_=>none
def n3(js:List Nat):List e2->Bool
 | []=>false
 | .id i :: r=>js.elem i || n3 js r
 | .cL _ _ :: r=>n3 js r
def bg.kill:bg->List Nat->bg
 | .ptr i o,js=>match js.elem i with
  | true=>.dead
  | false=>.ptr i o
 | .dV i cP j o,js=>match js.elem i with
  | true=>.dead
  | false=>.dV i cP j o
 | .ak i,js=>match js.elem i with
  | true=>.dead
  | false=>.ak i
 | .fn f ids,js=>match n3 js ids with
  | true=>.dead
  | false=>.fn f ids
 | .eP i,js=>match js.elem i with
  | true=>.dead
  | false=>.eP i
 | .iu f i,js=>match js.elem i with
  | true=>.dead
  | false=>.iu f i
 | .hy i o,js=>match js.elem i with
  | true=>.dead
  | false=>.hy i o
 | .iN i,js=>match js.elem i with
  | true=>.dead
  | false=>.iN i
 | .iv i s o,js=>match js.elem i with
  | true=>.dead
  | false=>.iv i s o
 | .fR b i,js=>match js.elem i with
  | true=>.dead
  | false=>.fR b i
 | c,_=>c
def oU(js:List Nat):List bg->List bg
 | []=>[]
 | c :: r=>c.kill js :: oU js r
def bh.kill:bh->List Nat->bh
 | .c x,js=>.c (x.kill js)
 | .agg cs,js=>.agg (oU js cs)
 | .arr g l,_=>.arr g l
def sD(js:List Nat):List bh->List bh
 | []=>[]
 | c :: r=>c.kill js :: sD js r
def b5.kill:b5->List Nat->b5
 | .a x,js=>.a (x.kill js)
 | .may g x,js=>.may g (x.kill js)
 | .dj xs,js=>.dj (sD js xs)
def oV(js:List Nat):cQ->cQ
 | []=>[]
 | (k,v) :: r=>(k,v.kill js) :: oV js r
def cA.kill:cA->List Nat->cA
 | .cells t cs,js=>.cells t (oU js cs)
 | .it jh es k ps,js=>match js.elem jh with
  | true=>.kO
  | false=>.it jh es k ps
 | .bX el t g l c i d,js=>match js.elem d with
  | true=>.j9
  | false=>.bX el t g l c i d
 | .bQ t bR g l c (some (i,some d)),js=>match js.elem d with
  | true=>.bQ t bR g l c (some (i,none))
  | false=>.bQ t bR g l c (some (i,some d))
 | b,_=>b
def iS(js ks:List Nat):bE->bE
 | []=>[]
 | (k,b) :: r=>match js.elem k with
  | true=>iS js ks r
  | false=>(k,b.kill ks) :: iS js ks r
def kd:dQ->List Nat
 | []=>[]
 | (_,j) :: r=>j :: kd r
def A7(h:bE) (i:Nat):Bool:=match Nat.ble h2 i,Nat.ble ix i,aZ h i with
 | true,_,_=>true
 | _,true,some (.cells _ _)=>true
 | _,true,some (.mp _ _ _ _)=>true
 | _,_,_=>false
def kW(h:bE):dQ->List Nat
 | []=>[]
 | (i,j) :: r=>match A7 h i with
  | true=>kW h r
  | false=>j :: kW h r
def n4:List Nat->Bool
 | []=>true
 | x :: r=>!(r.elem x)&&n4 r
def q9:dQ->List Nat
 | []=>[]
 | (i,_) :: r=>i :: q9 r
def A8(n:Nat):dQ->Bool
 | []=>true
 | (i,j) :: r=>(Nat.ble h2 i || (Nat.ble ix i&&Nat.blt j h2) || Nat.blt j n)&&A8 n r
def xJ(n:Nat) (ps:dQ):Bool:=n4 (q9 ps)&&n4 (kd ps)&&A8 n ps
def inv:dQ->Nat->Option Nat
 | [],_=>none
 | (i,j) :: r,k=>if k=j then some i else inv r k
theorem sE:∀ {l:List Nat},n4 l=true->l.Nodup
 | [],_=>List.nodup_nil
 | x :: r,h=>by
  simp only[n4,Bool.and_eq_true,Bool.not_eq_true',List.elem_eq_mem,decide_eq_false_iff_not]at h;exact List.nodup_cons.2 ⟨h.1,sE h.2⟩
theorem uK{α:Type}:∀ {l:List (Nat×α)} {i:Nat} {x:α},aZ l i=some x->(i,x)∈l
 | [],_,_,h=>by cases h
 | (k,v) :: r,i,x,h=>by
  rw[cn]at h
  split at h
  ·rename_i e; subst e; cases h; exact List.mem_cons_self
  ·exact List.mem_cons_of_mem _ (uK h)
theorem K7:∀ {ps:dQ} {i j:Nat},(i,j)∈ps->i∈q9 ps
 | [],_,_,h=>by cases h
 | (k,l) :: r,i,j,h=>by
  rcases List.mem_cons.1 h with h | h
  ·cases h; exact List.mem_cons_self
  ·exact List.mem_cons_of_mem _ (K7 h)
theorem A9:∀ {ps:dQ} {i j:Nat},(i,j)∈ps->j∈kd ps
 | [],_,_,h=>by cases h
 | (k,l) :: r,i,j,h=>by
  rcases List.mem_cons.1 h with h | h
  ·cases h; exact List.mem_cons_self
  ·exact List.mem_cons_of_mem _ (A9 h)
theorem xL:∀ {ps:dQ} {i j:Nat},(q9 ps).Nodup->(i,j)∈ps->aZ ps i=some j
 | [],_,_,_,h=>by cases h
 | (k,l) :: r,i,j,a6,h=>by
  have hJ:=List.nodup_cons.1 a6;rw[cn]
  rcases List.mem_cons.1 h with hm | hm
  ·cases hm; rw[if_pos rfl]
  ·rw[if_neg (fun e=>hJ.1 (by subst e; exact K7 hm)),xL hJ.2 hm]
theorem K8:∀ {ps:dQ} {i j:Nat},(kd ps).Nodup->(i,j)∈ps->inv ps j=some i
 | [],_,_,_,h=>by cases h
 | (k,l) :: r,i,j,a6,h=>by
  have hJ:=List.nodup_cons.1 a6;unfold inv
  rcases List.mem_cons.1 h with hm | hm
  ·cases hm; rw[if_pos rfl]
  ·rw[if_neg (fun e=>hJ.1 (by subst e; exact A9 hm)),K8 hJ.2 hm]
theorem Ba:∀ {ps:dQ} {i j:Nat},inv ps j=some i->(i,j)∈ps
 | [],_,_,h=>by cases h
 | (k,l) :: r,i,j,h=>by
  unfold inv at h
  split at h
  ·rename_i e; subst e; cases h; exact List.mem_cons_self
  ·exact List.mem_cons_of_mem _ (Ba h)
theorem K9{n:Nat}:∀ {ps:dQ} {i j:Nat},A8 n ps=true->(i,j)∈ps->h2<=i\/(ix<=i/\j < h2)\/j < n
 | [],_,_,_,h=>by cases h
 | (k,l) :: r,i,j,an,h=>by
  simp only[A8,Bool.and_eq_true,Bool.or_eq_true]at an
  rcases List.mem_cons.1 h with h | h
  ·cases h
   rcases an.1 with(J | J) | J
   ·exact .inl (Nat.le_of_ble_eq_true J)
   ·exact .inr (.inl ⟨Nat.le_of_ble_eq_true J.1,dK J.2⟩)
   ·exact .inr (.inr (dK J))
  ·exact K9 an.2 h
theorem E2{h:bE}:∀ {ps:dQ} {i j:Nat},(i,j)∈ps->(kW h ps).elem j=false->A7 h i=true
 | [],_,_,h,_=>by cases h
 | (k,l) :: r,i,j,hm,ab=>by
  unfold kW at ab
  rcases List.mem_cons.1 hm with hm | hm
  ·cases hm
   split at ab
   ·assumption
   ·simp at ab
  ·split at ab
   ·exact E2 hm ab
   ·simp only[List.elem_eq_mem,List.mem_cons,decide_eq_false_iff_not,not_or]at ab
    exact E2 hm (by simpa using ab.2)
section
variable {env env' env'':Nat->Loc} {B:Nat->Prop} {w:World} {ps:dQ} {js:List Nat}
theorem eN.dI(he:∀ i j,aZ ps i=some j->env' j=env i):∀ {ids l:List e2} {vs:List Value},uJ ps ids=some l->(eN env B w ids vs ↔ eN env' B w l vs)
 | [],l,vs,h=>by cases h; exact Iff.rfl
 | .id i :: ids,l,vs,h=>by
  simp only[uJ]at h
  split at h
  ·rename_i j r hi au
   cases h;constructor
   ·rintro⟨v,cv,J,⟨b,U,ay⟩,ag⟩
    exact⟨v,cv,J,⟨b,by rw[he i j hi]; exact U,ay⟩,(eN.dI he au).1 ag⟩
   ·rintro⟨v,cv,J,⟨b,U,ay⟩,ag⟩
    exact⟨v,cv,J,⟨b,by rw[<- he i j hi]; exact U,ay⟩,(eN.dI he au).2 ag⟩
  ·cases h
 | .cL g x :: ids,l,vs,h=>by
  simp only[uJ]at h
  split at h
  ·rename_i r au
   cases h;constructor
   ·rintro⟨v,cv,J,U,ag⟩; exact⟨v,cv,J,U,(eN.dI he au).1 ag⟩
   ·rintro⟨v,cv,J,U,ag⟩; exact⟨v,cv,J,U,(eN.dI he au).2 ag⟩
  ·cases h
theorem dy.dI(he:∀ i j,aZ ps i=some j->env' j=env i):∀ {c c':bg} {v:Value},c.dI ps=some c'->(dy env B w c v ↔ dy env' B w c' v)
 | .val _,_,_,h=>by cases h; exact Iff.rfl
 | .str _,_,_,h=>by cases h; exact Iff.rfl
 | .dead,_,_,h=>by cases h; exact Iff.rfl
 | .ptr i o,_,_,h=>by
  simp only[bg.dI]at h
  split at h
  ·rename_i j hi
   cases h;simp only[dy,he i j hi]
  ·cases h
 | .dV i cP k o,_,_,h=>by
  simp only[bg.dI]at h
  split at h
  ·rename_i j hi
   cases h;simp only[dy,he i j hi]
  ·cases h
 | .fR b i,_,_,h=>by
  simp only[bg.dI]at h
  split at h
  ·rename_i j hi
   cases h;simp only[dy,he i j hi]
  ·cases h
 | .iN i,_,_,h=>by
  simp only[bg.dI]at h
  split at h
  ·rename_i j hi
   cases h;simp only[dy,he i j hi]
  ·cases h
 | .iv i s o,_,_,h=>by
  simp only[bg.dI]at h
  split at h
  ·rename_i j hi
   cases h;simp only[dy,he i j hi]
  ·cases h
 | .hy i o,_,_,h=>by
  simp only[bg.dI]at h
  split at h
  ·rename_i j hi
   cases h;simp only[dy,he i j hi]
  ·cases h
 | .fK _ _ _,_,_,h=>by cases h; exact Iff.rfl
 | .par _ _,_,_,h=>by cases h; exact Iff.rfl
 | .ak i,_,_,h=>by
  simp only[bg.dI]at h
  split at h
  ·rename_i j hi
   cases h;simp only[dy,he i j hi]
  ·cases h
 | .bd _ _ _,_,_,h=>by cases h; exact Iff.rfl
 | .fn f ids,_,_,h=>by
  simp only[bg.dI]at h
  split at h
  ·rename_i l ad
   cases h;simp only[dy];constructor
   ·rintro⟨vs,J,U⟩; exact⟨vs,J,(eN.dI he ad).1 U⟩
   ·rintro⟨vs,J,U⟩; exact⟨vs,J,(eN.dI he ad).2 U⟩
  ·cases h
 | .eP i,_,_,h=>by
  simp only[bg.dI]at h
  split at h
  ·rename_i j hi
   cases h;simp only[dy,he i j hi]
  ·cases h
 | .iu f i,_,_,h=>by
  simp only[bg.dI]at h
  split at h
  ·rename_i j hi
   cases h;simp only[dy,he i j hi]
  ·cases h
theorem cC.dI(he:∀ i j,aZ ps i=some j->env' j=env i):∀ {c c':List bg} {v:List Value},xH ps c=some c'->(cC env B w c v ↔ cC env' B w c' v)
 | [],_,_,h=>by cases h; exact Iff.rfl
 | c :: r,_,_,h=>by
  simp only[xH]at h
  split at h
  ·rename_i c' cv J U
   cases h;constructor
   ·rintro⟨v,q,e,ag,ay⟩; exact⟨v,q,e,(dy.dI he J).1 ag,(cC.dI he U).1 ay⟩
   ·rintro⟨v,q,e,ag,ay⟩; exact⟨v,q,e,(dy.dI he J).2 ag,(cC.dI he U).2 ay⟩
  ·cases h
theorem dH.dI(he:∀ i j,aZ ps i=some j->env' j=env i):∀ {c c':bh} {v:Value},c.dI ps=some c'->(dH env B w c v ↔ dH env' B w c' v)
 | .c x,_,_,h=>by
  simp only[bh.dI]at h
  split at h
  ·rename_i y aH; cases h; exact dy.dI he aH
  ·cases h
 | .agg cs,_,_,h=>by
  simp only[bh.dI]at h
  split at h
  ·rename_i l ad
   cases h;constructor
   ·rintro⟨vs,e,ag⟩; exact⟨vs,e,(cC.dI he ad).1 ag⟩
   ·rintro⟨vs,e,ag⟩; exact⟨vs,e,(cC.dI he ad).2 ag⟩
  ·cases h
 | .arr g l,_,_,h=>by cases h; exact Iff.rfl
theorem dF.dI(he:∀ i j,aZ ps i=some j->env' j=env i):∀ {c c':List bh} {v:List Value},xI ps c=some c'->(dF env B w c v ↔ dF env' B w c' v)
 | [],_,_,h=>by cases h; exact Iff.rfl
 | c :: r,_,_,h=>by
  simp only[xI]at h
  split at h
  ·rename_i c' cv J U
   cases h;constructor
   ·rintro⟨v,q,e,ag,ay⟩; exact⟨v,q,e,(dH.dI he J).1 ag,(dF.dI he U).1 ay⟩
   ·rintro⟨v,q,e,ag,ay⟩; exact⟨v,q,e,(dH.dI he J).2 ag,(dF.dI he U).2 ay⟩
  ·cases h
theorem ei.dI(he:∀ i j,aZ ps i=some j->env' j=env i):∀ {c c':b5} {v:Value},c.dI ps=some c'->ei env B w c v->ei env' B w c' v
 | .a x,_,_,h,aw=>by
  simp only[b5.dI]at h
  split at h
  ·rename_i y aH; cases h; exact(dH.dI he aH).1 aw
  ·cases h
 | .dj xs,_,_,h,⟨vs,e,aw⟩=>by
  simp only[b5.dI]at h
  split at h
  ·rename_i l ad; cases h; exact⟨vs,e,(dF.dI he ad).1 aw⟩
  ·cases h
 | .may _ _,_,_,h,_=>by cases h
theorem ej.dI(he:∀ i j,aZ ps i=some j->env' j=env i) {i j:Nat} (hi:aZ ps i=some j):∀ {b b':cA} {c:bc},b.dI ps=some b'->(ej env B w i b c ↔ ej env' B w j b' c)
 | .cells t cs,_,_,h=>by
  simp only[cA.dI]at h
  split at h
  ·rename_i l ad
   cases h;simp only[ej,he i j hi];constructor
   ·rintro⟨b,vs,J,U,ag⟩; exact⟨b,vs,J,U,(cC.dI he ad).1 ag⟩
   ·rintro⟨b,vs,J,U,ag⟩; exact⟨b,vs,J,U,(cC.dI he ad).2 ag⟩
  ·cases h
 | .row t g l c,_,_,h=>by cases h; simp only[ej,he i j hi]
 | .hf s p,_,_,h=>by cases h; simp only[ej,he i j hi]
 | .mp gk bO l o,_,_,h=>by cases h; simp only[ej,he i j hi]
 | .it jh es k K6,_,_,h=>by
  simp only[cA.dI]at h
  split at h
  ·rename_i kR aF
   cases h;simp only[ej,he i j hi,he jh kR aF]
  ·cases h
 | .kO,_,_,h=>by cases h; simp only[ej,he i j hi]
 | .bX el t g l c q d,_,_,h=>by
  simp only[cA.dI]at h
  split at h
  ·rename_i kR aF
   cases h;simp only[ej,he i j hi,he d kR aF]
  ·cases h
 | .j9,_,_,h=>by cases h; simp only[ej,he i j hi]
 | .fw t g l,_,_,h=>by cases h; simp only[ej,he i j hi]
 | .bQ t bR g l c none,_,_,h=>by cases h; simp only[ej,he i j hi,xi]
 | .bQ t bR g l c (some (q,none)),_,_,h=>by
  cases h;simp only[ej,he i j hi,xi];constructor<;>rintro⟨A,k,bn,cM,I,e,aa,J,⟨U,v,ay,_⟩,ag⟩<;>exact⟨A,k,bn,cM,I,e,aa,J,⟨U,v,ay,fun _ h=>by cases h⟩,ag⟩
 | .bQ t bR g l c (some (q,some d)),_,_,h=>by
  simp only[cA.dI]at h
  split at h
  ·rename_i kR aF
   cases h;simp only[ej,he i j hi,xi];constructor
   ·rintro⟨A,k,bn,cM,I,e,aa,J,⟨U,v,ay,aO⟩,ag⟩
    exact⟨A,k,bn,cM,I,e,aa,J,⟨U,v,ay,fun ga ax=>by cases ax; rw[he d kR aF]; exact aO d rfl⟩,ag⟩
   ·rintro⟨A,k,bn,cM,I,e,aa,J,⟨U,v,ay,aO⟩,ag⟩
    exact⟨A,k,bn,cM,I,e,aa,J,⟨U,v,ay,fun ga ax=>by cases ax; rw[<- he d kR aF]; exact aO kR rfl⟩,ag⟩
  ·cases h
theorem bt.dI(he:∀ i j,aZ ps i=some j->env' j=env i):∀ {h a8:bE} {H:List bc},sC ps h=some a8->bt env B w h H->bt env' B w a8 H
 | [],_,_,h,b1=>by cases h; exact b1
 | (i,b) :: r,_,_,h,⟨c,H',e,J,U⟩=>by
  simp only[sC]at h
  split at h
  ·rename_i j b' cv ag ay aO
   cases h;exact⟨c,H',e,(ej.dI he ag ay).1 J,bt.dI he aO U⟩
  ·cases h
theorem eN.kill(he:∀ j,js.elem j=false->env' j=env j):∀ {ids:List e2} {vs:List Value},n3 js ids=false->eN env B w ids vs->eN env' B w ids vs
 | [],_,_,h=>h
 | .id i :: ids,_,a6,⟨v,r,e,⟨b,ae,aw⟩,h⟩=>by
  simp only[n3,Bool.or_eq_false_iff]at a6;exact⟨v,r,e,⟨b,by rw[he i a6.1]; exact ae,aw⟩,eN.kill he a6.2 h⟩
 | .cL g x :: ids,_,a6,⟨v,r,e,J,h⟩=>⟨v,r,e,J,eN.kill he (by simpa [n3] using a6) h⟩
variable (he:∀ j,js.elem j=false->env' j=env j)
include he
theorem dy.kill:∀ {c:bg} {v:Value},dy env B w c v->dy env' B w (c.kill js) v
 | .val _,_,aa=>aa
 | .str _,_,aa=>aa
 | .dead,_,aa=>aa
 | .ptr i o,v,aa=>by
  simp only[bg.kill]
  split
  ·trivial
  ·rename_i h
   obtain⟨b,e,aw⟩:=aa;exact⟨b,by rw[he i h]; exact e,aw⟩
 | .dV i cP j o,v,aa=>by
  simp only[bg.kill]
  split
  ·trivial
  ·rename_i h
   obtain⟨b,c,n,e,aw⟩:=aa;exact⟨b,c,n,by rw[he i h]; exact e,aw⟩
 | .fR b i,v,aa=>by
  simp only[bg.kill]
  split
  ·trivial
  ·rename_i h
   obtain⟨k,e,aw⟩:=aa;exact⟨k,fun ae=>by rw[he i h]; exact e ae,aw⟩
 | .iN i,v,aa=>by
  simp only[bg.kill]
  split
  ·trivial
  ·rename_i h
   obtain⟨b,c,n,e,aw⟩:=aa;exact⟨b,c,n,by rw[he i h]; exact e,aw⟩
 | .iv i s o,v,aa=>by
  simp only[bg.kill]
  split
  ·trivial
  ·rename_i h
   obtain⟨b,c,n,e,aw⟩:=aa;exact⟨b,c,n,by rw[he i h]; exact e,aw⟩
 | .hy i o,v,aa=>by
  simp only[bg.kill]
  split
  ·trivial
  ·rename_i h
   obtain⟨b,c,n,e,aw⟩:=aa;exact⟨b,c,n,by rw[he i h]; exact e,aw⟩
 | .fK _ _ _,_,aa=>aa
 | .par _ _,_,aa=>aa
 | .ak i,v,aa=>by
  simp only[bg.kill]
  split
  ·trivial
  ·rename_i h
   obtain⟨A,c,n,e,aw⟩:=aa;exact⟨A,c,n,by rw[he i h]; exact e,aw⟩
 | .bd _ _ _,_,aa=>aa
 | .fn f ids,v,aa=>by
  simp only[bg.kill]
  split
  ·trivial
  ·rename_i h
   obtain⟨vs,aw,an⟩:=aa;exact⟨vs,aw,eN.kill he h an⟩
 | .eP i,v,aa=>by
  simp only[bg.kill]
  split
  ·trivial
  ·rename_i h
   obtain⟨b,e,aw⟩:=aa;exact⟨b,by rw[he i h]; exact e,aw⟩
 | .iu f i,v,aa=>by
  simp only[bg.kill]
  split
  ·trivial
  ·rename_i h
   obtain⟨b,e,aw⟩:=aa;exact⟨b,by rw[he i h]; exact e,aw⟩
theorem cC.kill:∀ {c:List bg} {v:List Value},cC env B w c v->cC env' B w (oU js c) v
 | [],_,aa=>aa
 | _ :: _,_,⟨v,r,e,J,U⟩=>⟨v,r,e,dy.kill he J,cC.kill U⟩
theorem dH.kill:∀ {c:bh} {v:Value},dH env B w c v->dH env' B w (c.kill js) v
 | .c _,_,aa=>dy.kill he aa
 | .agg _,_,⟨vs,e,J⟩=>⟨vs,e,cC.kill he J⟩
 | .arr _ _,_,h=>h
theorem dF.kill:∀ {c:List bh} {v:List Value},dF env B w c v->dF env' B w (sD js c) v
 | [],_,aa=>aa
 | _ :: _,_,⟨v,r,e,J,U⟩=>⟨v,r,e,dH.kill he J,dF.kill U⟩
theorem ei.kill:∀ {c:b5} {v:Value},ei env B w c v->ei env' B w (c.kill js) v
 | .a _,_,aa=>dH.kill he aa
 | .may _ _,_,aa=>⟨fun aV=>dH.kill he (aa.1 aV),aa.2⟩
 | .dj _,_,⟨vs,e,J⟩=>⟨vs,e,dF.kill he J⟩
theorem ej.kill{k:Nat} (ab:env' k=env k):∀ {b:cA} {c:bc},ej env B w k b c->ej env' B w k (b.kill js) c
 | .cells _ _,_,⟨b,vs,e,aa,J⟩=>⟨b,vs,by rw[ab]; exact e,aa,cC.kill he J⟩
 | .row _ _ _ _,_,⟨A,c,xs,e,aa,J⟩=>⟨A,c,xs,by rw[ab]; exact e,aa,J⟩
 | .hf _ _,_,⟨b,e,aa⟩=>⟨b,by rw[ab]; exact e,aa⟩
 | .mp _ _ _ _,_,⟨b,es,q,e,aa⟩=>⟨b,es,q,by rw[ab]; exact e,aa⟩
 | .it jh _ _ _,_,⟨b,m,e,hm,aa⟩=>by
  simp only[cA.kill]
  split
  ·exact⟨b,_,by rw[ab]; exact e,aa⟩
  ·rename_i h
   exact⟨b,m,by rw[ab]; exact e,by rw[he jh h]; exact hm,aa⟩
 | .kO,_,⟨b,o,e,aa⟩=>⟨b,o,by rw[ab]; exact e,aa⟩
 | .bX el t g l cap i d,_,⟨A,c,bn,cm,c',m,e,aa,J,hi,U,ag⟩=>by
  simp only[cA.kill]
  split
  ·exact⟨A,c,_,_,_,_,_,by rw[ab]; exact e,aa⟩
  ·rename_i h
   exact⟨A,c,bn,cm,c',m,by rw[ab]; exact e,aa,J,hi,by rw[he d h]; exact U,ag⟩
 | .j9,_,⟨A,c,n,t,s,m,xs,e,aa⟩=>⟨A,c,n,t,s,m,xs,by rw[ab]; exact e,aa⟩
 | .fw _ _ _,_,⟨A,c,e,J⟩=>⟨A,c,by rw[ab]; exact e,J⟩
 | .bQ _ _ _ _ _ none,_,⟨A,q,bn,cM,I,e,aa,J,U,ag⟩=>⟨A,q,bn,cM,I,by rw[ab]; exact e,aa,J,U,ag⟩
 | .bQ _ _ _ _ _ (some (i,none)),_,⟨A,q,bn,cM,I,e,aa,J,⟨U,v,ay,_⟩,ag⟩=>⟨A,q,bn,cM,I,by rw[ab]; exact e,aa,J,⟨U,v,ay,fun _ h=>by cases h⟩,ag⟩
 | .bQ _ _ _ _ _ (some (i,some d)),_,⟨A,q,bn,cM,I,e,aa,J,⟨U,v,ay,aO⟩,ag⟩=>by
  simp only[cA.kill]
  split
  ·exact⟨A,q,bn,cM,I,by rw[ab]; exact e,aa,J,⟨U,v,ay,fun _ h=>by cases h⟩,ag⟩
  ·rename_i h
   exact⟨A,q,bn,cM,I,by rw[ab]; exact e,aa,J,⟨U,v,ay,fun ga ax=>by cases ax; rw[he d h]; exact aO d rfl⟩,ag⟩
omit he in
theorem E3:∀ {l:cQ} {s:Nat} {v:b5},aZ (oV js l) s=some v->∃ u,aZ l s=some u/\v=u.kill js
 | [],_,_,h=>by cases h
 | (k,u) :: l,s,v,h=>by
  unfold oV at h;rw[cn]at h ⊢
  split at h
  ·rename_i e
   cases h;rw[if_pos e];exact⟨u,rfl,rfl⟩
  ·rename_i e
   rw[if_neg e];exact E3 h
omit he in
theorem bt.append:∀ {h a8:bE} {H H':List bc},bt env B w h H->bt env B w a8 H'->bt env B w (h++a8) (H++H')
 | [],_,_,_,J,U=>by rw[show _=[] from J]; exact U
 | _ :: _,_,_,_,⟨c,H',e,J,U⟩,ag=>⟨c,_,by rw[e]; rfl,J,bt.append U ag⟩
end
section
variable {env env' env'':Nat->Loc} {B:Nat->Prop} {w:World} {ps:dQ} {js ks:List Nat}
def ra(js:List Nat):bE->Bool
 | []=>true
 | (k,_) :: r=>!js.elem k&&ra js r
theorem bt.frame(he:∀ j,ks.elem j=false->env' j=env j) (ab:∀ k,js.elem k=false->env' k=env k):∀ {l:bE} {H:List bc},bt env B w l H->∃ H',H'.Sublist H/\bt env' B w (iS js ks l) H'/\(ra js l=true->H'=H)
 | [],_,b1=>⟨[],by rw[show _=[] from b1]; exact List.Sublist.refl _,rfl,fun _=>(show _=[] from b1).symm⟩
 | (k,b) :: l,_,⟨c,H',e,J,U⟩=>by
  obtain⟨H2,aj,ag,ay⟩:=bt.frame he ab U;subst e;unfold iS
  split
  ·rename_i h
   exact⟨H2,aj.cons _,ag,fun e=>by unfold ra at e; rw[h]at e; cases e⟩
  ·rename_i h
   exact⟨c :: H2,aj.cons_cons _,⟨c,H2,rfl,ej.kill he (ab k h) J,ag⟩,fun e=>by unfold ra at e; rw[Bool.and_eq_true]at e; rw[ay e.2]⟩
end
def nn(X:bq) (L:cQ):List Operand->Option (Bool×List bh)
 | []=>some (true,[])
 | u :: r=>match bw X L u,nn X L r with
  | some (g,x),some (c,l)=>some (g&&c,x :: l)
  | _,_=>none
theorem Bb{X:bq} {R:Nat->Prop} {W:World} {aD:eT} {n:Nat} {ks:List Nat} {env:Nat->Loc} {B:Nat->Prop} {ai:World} {H:List bc} {st:aM} {a:Act} {w:World} (h:bI X R W aD n ks env B ai H st a w) :
  ∀ {us:List Operand} {c:Bool} {xs:List bh},nn X st.L us=some (c,xs)->c=true->∃ vs,iq (gn a) us=some vs/\dF env B ai xs vs
 | [],c,xs,hu,_=>by cases hu; exact⟨[],rfl,rfl⟩
 | u :: us,c,xs,hu,aa=>by
  simp only[nn]at hu
  split at hu
  ·rename_i g x c' l J U
   cases hu;simp only[Bool.and_eq_true]at aa;obtain⟨v,ag,ay⟩:=h.aE J aa.1;obtain⟨vs,aO,aK⟩:=Bb h U aa.2;refine⟨v :: vs,?_,v,vs,rfl,ay,aK⟩;unfold iq;rw[ag,aO]
  ·cases hu
theorem bI.called{X:bq} {R:Nat->Prop} {W:World} {aD:eT} {n d:Nat} {ks:List Nat} {env:Nat->Loc} {B:Nat->Prop} {ai:World} {H:List bc} {st:aM} {a aW:Act} {w w':World} {ps:dQ} {h H1:bE} {Q:b5->bE->Prop} {v:Value} (al:bI X R W aD n ks env B ai H st a w)
  (kz:xJ n ps=true) {fy mM:List bc} (pT:H.Perm (fy++mM)) (Bc:bt (fun i=>match aZ ps i with | some j=>env j | none=>.no) B ai h fy) (Tr:bt env B ai H1 mM)
  (mN:nm X (fun i=>match aZ ps i with | some j=>env j | none=>.no) B fy w Q v w') (aJ:c2 n (jR ks aD) ((d,v) :: gn a) aW) :
  ∃ sv a8,Q sv a8/\∀ iT lr,sv.dI ps=some iT->sC ps a8=some lr->∃ env' B' cJ H',bI X R W aD n ks env' B' cJ H' ⟨(d,iT) :: oV (kW h ps) st.L,lr++iS (kW h ps) (kW h ps) H1⟩ aW w'/\(∀ k,B k->B' k)/\dm (fun k=>R k\/B k) ai cJ/\(ra (kW h ps) H1=true->∀ c∈mM,c∈H'):=by
 obtain⟨env',B',cJ,H',sv,a8,xM,fT,hU,hC,Ts,Tt,ea,sF⟩:=mN;refine⟨sv,a8,xM,fun iT lr xN b1=>?_⟩;simp only[xJ,Bool.and_eq_true]at kz;obtain⟨⟨Bd,sG⟩,E4⟩:=kz;have az:=sE Bd;have hx:=sE sG;have aj:bK (fun k=>R k\/B k) ai (fy++(mM++ks.map dC)) w:=by
  have:=al.aU.perm (pT.append_right (ks.map dC))
  rw[List.append_assoc]at this;exact this
 have jT:=List.pairwise_append.1 aj.apart;have kX:∀ k,R k\/B k->Rest w fy k:=fun k ab=>⟨aj.base k ab,fun c aa e=>((aj.ok c (List.mem_append_left _ aa)).lt e).1 ab⟩
 have E5:∀ c∈mM++ks.map dC,∀ b,c.has b->Rest w fy b/\¬ (R b\/B b):=fun c aa b ae=>by
  have J:=(aj.ok c (List.mem_append_right _ aa)).lt ae;exact⟨⟨J.2,fun c' e3 e=>jT.2.2 c' e3 c aa b e ae⟩,J.1⟩
 have lS:∀ k,Rest w fy k->w'.heap[k]?=w.heap[k]?:=fun k ab=>(ea.below.block k (.inl ab)).trans (hC.block k ab)
 have dp:fJ B ai B' cJ:=⟨fT,fun k ab=>(hC.block k (kX k (.inr ab))).trans (aj.below.block k (.inr ab))⟩
 let a1:Nat->Loc:=fun j=>match inv ps j with | some i=>env' i | none=>env j
 have lu:∀ i j,aZ ps i=some j->a1 j=env' i:=fun i j mh=>by
  show(match inv ps j with | some i=>env' i | none=>env j)=_;rw[K8 hx (uK mh)]
 have Tu:∀ {l:bE} {C:List bc} {sH:Nat->Loc} {c1:Nat->Prop} {xO:World} {i:Nat} {t:TypeId} {cs:List bg},bt sH c1 xO l C->aZ l i=some (.cells t cs)->∃ b,sH i=.blk b:=by
  intro l C sH c1 xO i t cs ad hi;obtain⟨c,K,⟨b,vs,J,_⟩,_⟩:=ad.gx hi;exact⟨b,J⟩
 have Tv:∀ {l:bE} {C:List bc} {sH:Nat->Loc} {c1:Nat->Prop} {xO:World} {i:Nat} {gk bO:ba} {q:List (gk.D×bO.D)} {o:Option (List MapEntry×Nat)},bt sH c1 xO l C->aZ l i=some (.mp gk bO q o)->∃ b,sH i=.blk b:=by
  intro l C sH c1 xO i gk bO q o ad hi;obtain⟨c,K,⟨b,_,_,J,_⟩,_⟩:=ad.gx hi;exact⟨b,J⟩
 have kY:∀ j,(kW h ps).elem j=false->a1 j=env j:=fun j aF=>by
  show(match inv ps j with | some i=>env' i | none=>env j)=_;cases hi:inv ps j with
  | none=>rfl
  | some i=>
   have hm:=Ba hi;have l8:=E2 hm aF;have mh:=xL az hm;unfold A7 at l8
   split at l8
   ·rename_i ae
    show env' i=env j;exact sF i (env j) (.inr (Nat.le_of_ble_eq_true ae)) (by simp only[mh])
   ·rename_i t cs ae ad _
    obtain⟨b,fE⟩:=Tu Bc ad;have J:=sF i (.blk b) (.inl ⟨Nat.le_of_ble_eq_true ae,b,rfl⟩) fE;rw[mh]at fE;show env' i=env j;rw[J];exact fE.symm
   ·rename_i gk bO q o ae ad _
    obtain⟨b,fE⟩:=Tv Bc ad;have J:=sF i (.blk b) (.inl ⟨Nat.le_of_ble_eq_true ae,b,rfl⟩) fE;rw[mh]at fE;show env' i=env j;rw[J];exact fE.symm
   ·cases l8
 have uL:∀ k,(kd ps).elem k=false->a1 k=env k:=fun k ab=>by
  show(match inv ps k with | some i=>env' i | none=>env k)=_;cases hi:inv ps k with
  | none=>rfl
  | some i=>
   have:=A9 (Ba hi)
   simp only[List.elem_eq_mem,decide_eq_false_iff_not]at ab;exact absurd this ab
 obtain⟨La,mD,Tw,Tx⟩:=bt.frame (js:=kW h ps) (ks:=kW h ps) kY kY (Tr.up dp);have jE:dm (fun k=>R k\/B k) ai cJ:=⟨hC.os.trans aj.below.os,hC.tape.trans aj.below.tape,hC.output.trans aj.below.output,Nat.le_trans aj.below.size hC.size,fun k ab=>(hC.block k (kX k ab)).trans (aj.below.block k ab)⟩
 refine⟨a1,B',cJ,H'++La,⟨aJ.size,aJ.defs,fun s u hu=>?_,(bt.dI lu b1 Tt).append Tw,?_,fun k ab=>fT k (al.sub k ab),fun k ab=>?_,fun id b ae=>?_,?_,fun i x ah=>(al.dX i x ah).up dp⟩,fT,jE,fun e c aa=>List.mem_append_right _ (by rw[Tx e]; exact aa)⟩
 ·rw[cn]at hu
  split at hu
  ·rename_i e; subst e; cases hu; exact⟨v,aJ.this,ei.dI lu xN Ts⟩
  ·rename_i e
   obtain⟨hz,hA,rfl⟩:=E3 hu;obtain⟨eF,ag,ay⟩:=al.has s hz hA;exact⟨eF,aJ.other e ag,ei.kill kY (ay.up dp)⟩
 ·have uM:(La++ks.map dC).Sublist (mM++ks.map dC):=mD.append_right _
  rw[List.append_assoc];refine⟨⟨ea.below.os,ea.below.tape,ea.below.output,ea.below.size,fun k ab=>ea.below.block k (ab.imp (fun h=>kX k (.inl h)) id)⟩,fun k ab=>ea.base k (ab.imp (fun h=>kX k (.inl h)) id),fun c aa=>?_,List.pairwise_append.2 ⟨ea.apart,jT.2.1.sublist uM,fun c aa d ax b ae eX=>?_⟩⟩
  ·rcases List.mem_append.1 aa with aa | aa
   ·exact(ea.ok c aa).base fun b ae ab=>((ea.ok c aa).lt ae).1 (ab.imp (fun h=>kX b (.inl h)) id)
   ·have e3:=uM.subset aa
    have gO:=aj.ok c (List.mem_append_right _ e3);refine(gO.e6 (w':=w') fun b ae=>lS b (E5 c e3 b ae).1).base fun b ae ab=>?_
    obtain⟨aO,aK⟩:=E5 c e3 b ae
    rcases ab with ab | ab
    ·exact aK (.inl ab)
    ·rcases hU b ab with bY | bY
     ·exact aK (.inr bY)
     ·exact bY.1 aO
  ·exact((ea.ok c aa).lt ae).1 (.inl (E5 d (uM.subset ax) b eX).1)
 ·rcases hU k ab with aO | aO
  ·exact(al.new k aO).imp_right fun a8=>⟨a8.1,a8.2.e6 ((hC.block k (kX k (.inr aO))).trans (aj.below.block k (.inr aO)))⟩
  ·exact .inr ⟨fun dO=>aO.1 (kX k (.inl dO)),aO.2⟩
 ·obtain⟨aO,aK,c3⟩:=al.dt id b ae
  refine⟨aO,?_,c3⟩;show(match inv ps id with | some i=>env' i | none=>env id)=_;cases hi:inv ps id with
  | none=>exact aK
  | some i=>
   have hm:=Ba hi;have mh:=xL az hm
   rcases K9 E4 hm with bY | ⟨bY,hB⟩ | bY
   ·exact sF i b (.inr bY) (by simp only[mh]; exact aK)
   ·rcases c3 with c3 | c3
    ·exact sF i b (.inl ⟨bY,c3⟩) (by simp only[mh]; exact aK)
    ·omega
   ·omega
 ·exact al.base.trans ⟨hC.os.trans aj.below.os,hC.tape.trans aj.below.tape,hC.output.trans aj.below.output,Nat.le_trans aj.below.size hC.size,fun k ab=>(hC.block k (kX k (.inl ab))).trans (aj.below.block k (.inl ab))⟩
section
variable {X:bq} {M:Bool} {n:Nat} {r:Option Nat} {st:aM} {Q:Exit->aM->Prop} {ops rest:List Oper} {o:Oper} {d:Nat}
end
end

section
def np:List e2->List bh
 | []=>[]
 | .id i :: r=>.c (.ptr i 0) :: np r
 | .cL g x :: r=>.c (.fK g x 0) :: np r
section
variable {X:bq} {M:Bool} {n:Nat} {r:Option Nat} {st:aM} {Q:Exit->aM->Prop} {ops rest:List Oper} {o:Oper} {d:Nat}
theorem xP{env:Nat->Loc} {B:Nat->Prop} {w:World}:∀ {ids:List e2} {vs:List Value},eN env B w ids vs->dF env B w (np ids) vs
 | [],_,h=>h
 | .id _ :: ids,_,⟨v,r,e,J,h⟩=>⟨v,r,e,J,xP h⟩
 | .cL _ _ :: ids,_,⟨v,r,e,⟨b,o,J,U⟩,h⟩=>⟨v,r,e,⟨b,o,by rw[J]; rfl,U⟩,xP h⟩
theorem dF.append{env:Nat->Loc} {B:Nat->Prop} {w:World}:∀ {xs bn:List bh} {vs us:List Value},dF env B w xs vs->dF env B w bn us->dF env B w (xs++bn) (vs++us)
 | [],_,_,_,h,a8=>by rw[show _=[] from h]; exact a8
 | _ :: _,_,_,_,⟨v,r,e,J,U⟩,a8=>⟨v,_,by rw[e]; rfl,J,dF.append U a8⟩
theorem Lb:∀ L:cQ,oV [] L=L:=by
 have J:∀ c:bg,c.kill []=c:=by
  have h0:∀ ids:List e2,n3 [] ids=false:=by
   intro ids
   induction ids with
   | nil=>rfl
   | cons i r bJ=>cases i<;>simp[n3,bJ]
  intro c;cases c with
  | fn f ids=>simp only[bg.kill,h0]
  | _=>rfl
 have U:∀ cs:List bg,oU [] cs=cs:=by
  intro cs
  induction cs with
  | nil=>rfl
  | cons c r bJ=>simp only[oU,J,bJ]
 have ag:∀ x:bh,x.kill []=x:=by
  intro x;cases x with
  | c x=>simp only[bh.kill,J]
  | agg cs=>simp only[bh.kill,U]
  | arr g l=>rfl
 have ay:∀ xs:List bh,sD [] xs=xs:=by
  intro xs
  induction xs with
  | nil=>rfl
  | cons c r bJ=>simp only[sD,ag,bJ]
 have aO:∀ x:b5,x.kill []=x:=by
  intro x;cases x with
  | a x=>simp only[b5.kill,ag]
  | may g x=>simp only[b5.kill,ag]
  | dj xs=>simp only[b5.kill,ay]
 intro L
 induction L with
 | nil=>rfl
 | cons p r bJ=>obtain⟨k,v⟩:=p; simp only[oV,aO,bJ]
theorem Lc:∀ H:bE,iS [] [] H=H:=by
 have J:∀ c:bg,c.kill []=c:=by
  have h0:∀ ids:List e2,n3 [] ids=false:=by
   intro ids
   induction ids with
   | nil=>rfl
   | cons i r bJ=>cases i<;>simp[n3,bJ]
  intro c;cases c with
  | fn f ids=>simp only[bg.kill,h0]
  | _=>rfl
 have U:∀ cs:List bg,oU [] cs=cs:=by
  intro cs
  induction cs with
  | nil=>rfl
  | cons c r bJ=>simp only[oU,J,bJ]
 intro H
 induction H with
 | nil=>rfl
 | cons p r bJ=>
  obtain⟨k,b⟩:=p;cases b with
  | cells t cs=>simp[iS,cA.kill,U,bJ]
  | row t g l c=>simp[iS,cA.kill,bJ]
  | hf s p=>simp[iS,cA.kill,bJ]
  | mp gk bO l o=>simp[iS,cA.kill,bJ]
  | it jh es k ps=>simp[iS,cA.kill,bJ]
  | kO=>simp[iS,cA.kill,bJ]
  | bX el t g l c i d=>simp[iS,cA.kill,bJ]
  | j9=>simp[iS,cA.kill,bJ]
  | fw t g l=>simp[iS,cA.kill,bJ]
  | bQ t bR g l c h=>rcases h with _ | ⟨i,_ | d⟩<;>simp[iS,cA.kill,bJ]
end
end

section
section
variable {P:Program} {ops:Array Oper} {Q:Exit->Act->World->Prop} {S:Nat->Array Bool->World->Prop}
def gz(P:Program) (ops:Array Oper) (Q:Exit->Act->World->Prop) (S:Nat->Array Bool->World->Prop):Nat->Array Bool->Act->World->Prop
 | 0,listed,a,w=>Region.ready .any ops listed=[]/\Q .normal a w
 | fuel+1,listed,a,w=>(Region.ready .any ops listed=[]->Q .normal a w)/\∀ i∈Region.ready .any ops listed,∃ o,ops[i]?=some o/\eW P ops o (fun aW w'=>S i listed w'/\gz P ops Q S fuel (listed.setIfInBounds i true) aW w') a w
theorem w7.mono{o:Oper} {a:Act} {w:World} {K xQ:Value->World->Prop} (h:w7 P o a w K) (ab:∀ v w,K v w->xQ v w):w7 P o a w xQ:=by
 rcases h with⟨v,w',J,U⟩ | ⟨w',J,U⟩ | ⟨f,args,b0,J,U⟩
 ·exact .inl ⟨v,w',J,ab _ _ U⟩
 ·exact .inr (.inl ⟨w',J,ab _ _ U⟩)
 ·exact .inr (.inr ⟨f,args,b0,J,Calls.mono U fun e w' ⟨v,he,aw⟩=>⟨v,he,ab _ _ aw⟩⟩)
theorem eW.mono{o:Oper} {a:Act} {w:World} {K xQ:Act->World->Prop} (h:eW P ops o K a w) (ab:∀ a w,K a w->xQ a w):eW P ops o xQ a w:=by
 rcases h with⟨J,U⟩ | ⟨J,U⟩
 ·exact .inl ⟨J,U.mono fun _ _=>ab _ _⟩
 ·exact .inr ⟨J,ab _ _ U⟩
theorem gz.any(r:Option Nat):∀ (fuel:Nat) (listed:Array Bool) (a:Act) (w:World),gz P ops Q S fuel listed a w->wpAnyIn (WF r) 0 P .any ops Q fuel listed a w
 | 0,_,_,_,h=>h
 | fuel+1,_,_,_,h=>⟨h.1,fun i hi=>by
  obtain⟨o,bb,ah⟩:=h.2 i hi;unfold wpOpIn;simp only[bb];exact eW.fenced (ah.mono fun aW w' a8=>gz.any r fuel _ aW w' a8.2)⟩
theorem eW.Ty{T:World->Prop} {iB fF:Oper} {v:Value} (mG:iB.apart ops fF=true) (Tz:∀ cs b,iB.op≠.select cs b) (q8:∀ cs b,fF.op≠.select cs b) {K:Act->World->Prop} {a:Act} {w:World} (aH:YieldsIf P ops T iB v a) (h:eW P ops fF K (a.put iB.dst v) w) :
  eW P ops fF (fun aW w'=>YieldsIf P ops T iB v aW/\K (aW.put iB.dst v) w') a w:=by
 obtain⟨J,U,ag⟩:=Oper.apart_spec mG;have e6:∀ u,YieldsIf P ops T iB v (a.put fF.dst u):=fun u=>aH.of_same (execOp_put iB Tz a fF.dst u ag) (wanted_put iB a fF.dst u ag)
 have Ld:=wanted_put fF a iB.dst v J;have eK:=execOp_put fF q8 a iB.dst v J;have uN:∀ u,(a.put fF.dst u).put iB.dst v=(a.put iB.dst v).put fF.dst u:=fun u=>(Act.put_comm a v u U).symm
 rcases h with⟨hw,h⟩ | ⟨hw,h⟩
 ·refine .inl ⟨by rw[<- Ld]; exact hw,?_⟩
  unfold w7 at h ⊢;rw[eK]at h
  rcases h with⟨u,w',g1,g2⟩ | ⟨w',g1,g2⟩ | ⟨f,args,b0,g1,g2⟩
  ·exact .inl ⟨u,w',g1,e6 u,by rw[uN]; exact g2⟩
  ·exact .inr (.inl ⟨w',g1,e6 _,by rw[uN]; exact g2⟩)
  ·exact .inr (.inr ⟨f,args,b0,g1,Calls.mono g2 fun e w' ⟨u,he,hu⟩=>⟨u,he,e6 u,by rw[uN]; exact hu⟩⟩)
 ·exact .inr ⟨by rw[<- Ld]; exact hw,e6 _,by rw[uN]; exact h⟩
theorem Le{T:World->Prop} {o:Oper} {v:Value} {a:Act} (aH:YieldsIf P ops T o v a) {K:Act->World->Prop} {w:World} (ca:T w) (h:K (a.put o.dst v) w):eW P ops o K a w:=by
 rcases aH with⟨hw,aw⟩ | ⟨hw,rfl⟩
 ·exact .inl ⟨hw,.inl ⟨v,w,aw w ca,h⟩⟩
 ·exact .inr ⟨hw,h⟩
def E6(ops:Array Oper) (i:Nat) (D:List Nat) (j:Nat):Prop:=∃ fF e,ops[j]?=some fF/\e∈fF.after/\Region.binds .any e=true/\(e.on=i\/e.on∈D)
theorem gz.first{i:Nat} {iB:Oper} {v:Value} {T:World->Prop} (hi:ops[i]?=some iB) (Lf:∀ (j:Nat) (o:Oper) cs b,ops[j]?=some o->o.op≠.select cs b) (D:List Nat) (TA:∀ j∈D,E6 ops i D j) (xR:∀ j l w,S j (l.setIfInBounds i true) w->S j l w):∀ (fuel:Nat) (listed:Array Bool) (a:Act) (w:World),
   (∀ j∈D,listed.getD j true=false)->(∀ j fF,ops[j]?=some fF->j≠i->listed.getD j true=false->(∀ e∈fF.after,Region.binds .any e=true->e.on≠i)->iB.apart ops fF=true/\(j∈D\/∀ l w,(∀ d∈D,l.getD d true=false)->S j l w->T w)) ->
   i∈Region.ready .any ops listed->YieldsIf P ops T iB v a->T w ->
   gz P ops Q S fuel (listed.setIfInBounds i true) (a.put iB.dst v) w->(∀ l w',T w'->S i l w')->gz P ops Q S (fuel+1) listed a w:=by
 intro fuel
 induction fuel with
 | zero=>
  intro listed a w _ _ au aH ca H Be;refine⟨fun h=>(by rw[h]at au; cases au),fun j aF=>?_⟩
  by_cases jl:j=i
  ·subst jl; exact⟨iB,hi,Le aH ca ⟨Be _ w ca,H⟩⟩
  ·have:=ready_mono aF jl
   rw[H.1]at this;cases this
 | succ fuel bJ=>
  intro listed a w sI uO au aH ca H Be;refine⟨fun h=>(by rw[h]at au; cases au),fun j aF=>?_⟩
  by_cases jl:j=i
  ·subst jl; exact⟨iB,hi,Le aH ca ⟨Be _ w ca,H⟩⟩
  ·obtain⟨TB,TC,ec⟩:=H.2 j (ready_mono aF jl)
   obtain⟨nq,fF,kc,hS⟩:=mem_ready.1 aF;have TD:TB=fF:=Option.some.inj (TC.symm.trans kc);rw[TD]at ec;have Lg:∀ e∈fF.after,Region.binds .any e=true->e.on≠i:=fun e he ae heq=>by
    have c8:=hS e he ae;have pU:=(mem_ready.1 au).1;rw[heq]at c8
    rcases Nat.lt_or_ge i listed.size with a8 | a8
    ·simp[a8]at pU c8; rw[pU]at c8; cases c8
    ·simp[Array.getElem?_eq_none a8]at c8
   have Lh:j ∉ D:=fun TE=>by
    obtain⟨ok,e,ab,he,ae,xS⟩:=TA j TE
    have:ok=fF:=Option.some.inj (ab.symm.trans kc)
    subst this;have c8:=hS e he ae
    rcases xS with xS | xS
    ·exact Lg e he ae xS
    ·have pU:=sI _ xS
     rcases Nat.lt_or_ge e.on listed.size with a8 | a8
     ·simp[a8]at pU c8; rw[pU]at c8; cases c8
     ·simp[Array.getElem?_eq_none a8]at c8
   obtain⟨mG,TF⟩:=uO j fF kc jl nq Lg;have mO:=eW.Ty mG (fun cs b=>Lf i iB cs b hi) (fun cs b=>Lf j fF cs b kc) aH ec;refine⟨fF,kc,mO.mono fun aW w' ay=>⟨xR j listed w' ay.2.1,?_⟩⟩;have TG:=(TF.resolve_left Lh) listed w' sI (xR j listed w' ay.2.1);refine bJ (listed.setIfInBounds j true) aW w' (fun k ab=>?_) (fun k ok ab n5 Li lv=>?_) (ready_mono au (Ne.symm jl)) ay.1 TG ?_ Be
   ·rw[getD_set_ne true (fun e=>Lh (by rw[e]; exact ab))]
    exact sI k ab
   ·refine uO k ok ab n5 ?_ lv
    by_cases Bf:j=k
    ·subst Bf; exact nq
    ·rw[getD_set_ne true Bf]at Li; exact Li
   ·rw[Array.setIfInBounds_comm _ _ jl]
    exact ay.2.2
end
def xT:Op->Bool
 | .move _=>true
 | .assign _=>true
 | .pick _ _ _=>true
 | .unOp _ _ _=>true
 | .binOp _ _ _ _ _=>true
 | .load _ _=>true
 | .fieldAddr _ _ _=>true
 | .indexAddr _ _ _=>true
 | .slice _ _ _ _ _=>true
 | .convert _ _ _=>true
 | .build _ _=>true
 | .makeFunc _ _ _=>true
 | .nilCheck _=>true
 | .extract _ _=>true
 | .call ⟨.builtin .len,_,_⟩=>true
 | .call ⟨.builtin .cap,_,_⟩=>true
 | .call ⟨.builtin .min,_,_⟩=>true
 | .call ⟨.builtin .max,_,_⟩=>true
 | _=>false
def uP(ops:Array Oper) (i:Nat) (D:List Nat) (j:Nat):Bool:=match ops[j]? with
 | some o=>o.after.any fun e=>Region.binds .any e&&(e.on == i || D.elem e.on)
 | none=>false
def xK(ops:Array Oper) (i:Nat):List Nat:=(List.range ops.size).foldl (fun D j=>match uP ops i D j with
 | true=>j :: D
 | false=>D) []
def pV:Nat:=1000000
def E7(E:List Nat) (listed:Array Bool):Bool:=E.any fun e=>Nat.ble pV e&&listed.getD (e - pV) true
def fD(E:List Nat) (listed:Array Bool) (j:Nat):Bool:=E.elem j&&!E7 E listed
def Bg(E D:List Nat):Bool:=E.all fun e=>!Nat.ble pV e || D.elem (e - pV)
def Bh(E:List Nat) (i:Nat):Bool:=!E.elem (i+pV)
theorem Lj{E:List Nat} {l:Array Bool} {j:Nat} (h:fD E l j=true):E.elem j=true:=by
 unfold fD at h;rw[Bool.and_eq_true]at h;exact h.1
theorem Lk{E:List Nat} {l:Array Bool} {i j:Nat} (hi:Bh E i=true) (h:fD E l j=true):fD E (l.setIfInBounds i true) j=true:=by
 unfold fD E7 at h ⊢;rw[Bool.and_eq_true]at h ⊢;refine⟨h.1,?_⟩;have U:=h.2;rw[Bool.not_eq_true',List.any_eq_false]at U ⊢;intro e he;have ag:=U e he
 by_cases ae:Nat.ble pV e=true
 ·rw[ae,Bool.true_and]at ag ⊢
  have cG:i≠e - pV:=fun b1=>by
   have hle:=Nat.le_of_ble_eq_true ae
   have:i+pV=e:=by omega
   unfold Bh at hi;rw[this,List.elem_eq_true_of_mem he]at hi;cases hi
  rwa [getD_set_ne true cG]
 ·rw[(by simpa only[Bool.not_eq_true] using ae:Nat.ble pV e=false),Bool.false_and]
  simp
theorem TH{E D:List Nat} {l:Array Bool} {j:Nat} (ae:Bg E D=true) (dY:∀ d∈D,l.getD d true=false) (aF:E.elem j=true):fD E l j=true:=by
 unfold fD E7;rw[aF,Bool.true_and,Bool.not_eq_true',List.any_eq_false];intro e he;unfold Bg at ae;rw[List.all_eq_true]at ae;have J:=ae e he;rw[Bool.or_eq_true,Bool.not_eq_true']at J
 rcases J with J | J
 ·rw[J]; simp
 ·rw[dY _ (by simpa using J)]; simp
def xU(ops:Array Oper) (E D:List Nat) (listed:Array Bool) (i:Nat):Bool:=
 (D.all fun j=>!listed.getD j true&&uP ops i D j)&&(List.range ops.size).all (fun j=>j == i || listed.getD j true || E.elem j || D.elem j)&&Bg E D
theorem Ll{ops:Array Oper} {i j:Nat} {D:List Nat} (h:uP ops i D j=true):E6 ops i D j:=by
 unfold uP at h
 split at h
 ·rename_i o bb
  simp only[Array.any_eq_true]at h;obtain⟨k,ab,U⟩:=h;simp only[Bool.and_eq_true,Bool.or_eq_true,beq_iff_eq,List.elem_eq_mem,decide_eq_true_eq]at U;exact⟨o,_,bb,Array.getElem_mem ab,U.1,U.2⟩
 ·cases h
def rb(ops:Array Oper) (E:List Nat) (listed:Array Bool) (i:Nat):Bool:=Bh E i&&Region.noSelect ops&&Region.free .any ops listed i&&(Region.ready .any ops listed).contains i
def uQ(f:Op->Bool) (ops:Array Oper) (i:Nat):Bool:=match ops[i]? with
 | some o=>f o.op
 | none=>false
def Bi(ops:Array Oper) (E:List Nat) (listed:Array Bool) (pre:Bool) (i:Nat):Bool:=!E.elem i || (pre&&xU ops E (xK ops i) listed i)
structure hD where
 listed:Array Bool
 early:Bool
 pre:Bool
 jU:Bool
 all:Bool
def mP:bE->bE
 | []=>[]
 | (k,.cells t cs) :: r=>(k,.cells t cs) :: mP r
 | _ :: r=>mP r
def n6(jV:Bool) (c:bc):Bool:=jV || iw c
structure kZ(R:Nat->Prop) (aI:hD) (dr:Nat->Prop) (dD:World) (cT:List bc) (F:World->Prop) (B:Nat->Prop) (ai:World) (H:List bc):Prop where
 early:aI.early=true->dr=B/\dD=ai/\cT=H.filter (n6 aI.all)
 pre:aI.pre=true->(∀ c∈cT,c∈H/\n6 aI.all c=true)/\cT.Pairwise bc.off/\(∀ k,dr k->B k)/\dm (fun k=>R k\/dr k) dD ai
 dn:aI.jU=true->F=fun w=>dm (fun k=>R k\/B k) ai w
 n7:∀ w,dm (fun k=>R k\/B k) ai w->F w
def jm(X:bq) (M:Bool) (n:Nat) (ops:List Oper) (E:List Nat) (fuel:Nat) (aI:hD) (st:aM) (Q:Exit->aM->Prop):Prop:=
 ∀ (R:Nat->Prop) (W:World) (aD:eT) (dr:Nat->Prop) (dD:World) (cT:List bc) (F:World->Prop) (ks:List Nat) (env:Nat->Loc) (B:Nat->Prop) (ai:World) (H:List bc) (a:Act) (w:World),Es M ks aD->bI X R W aD n ks env B ai H st a w->kZ R aI dr dD cT F B ai H ->
  gz X.P ops.toArray (fun e a w=>e=.normal/\∃ st',Q e st'/\lL X R W aD M n st' a w) (fun j l w=>(fD E l j=true->bK (fun k=>R k\/dr k) dD cT w)/\F w) fuel aI.listed a w
def oW(X:bq) (M:Bool) (n:Nat) (ops:List Oper) (E:List Nat) (fuel:Nat) (aI:hD) (st:aM) (Q:Exit->aM->Prop) (i:Nat):Prop:=
 ∀ (R:Nat->Prop) (W:World) (aD:eT) (dr:Nat->Prop) (dD:World) (cT:List bc) (F:World->Prop) (ks:List Nat) (env:Nat->Loc) (B:Nat->Prop) (ai:World) (H:List bc) (a:Act) (w:World),Es M ks aD->bI X R W aD n ks env B ai H st a w->kZ R aI dr dD cT F B ai H ->
  ∃ o,ops.toArray[i]?=some o/\eW X.P ops.toArray o (fun aW w'=>((fD E aI.listed i=true->bK (fun k=>R k\/dr k) dD cT w')/\F w')/\gz X.P ops.toArray (fun e a w=>e=.normal/\∃ st',Q e st'/\lL X R W aD M n st' a w) (fun j l w=>(fD E l j=true->bK (fun k=>R k\/dr k) dD cT w)/\F w) fuel (aI.listed.setIfInBounds i true) aW w') a w
theorem kZ.T{R:Nat->Prop} {aI:hD} {dr:Nat->Prop} {dD:World} {cT:List bc} {F:World->Prop} {X:bq} {W:World} {aD:eT} {n:Nat} {ks:List Nat} {env:Nat->Loc} {B:Nat->Prop} {ai:World} {H:List bc} {st:aM} {a:Act} {w:World} (dY:kZ R aI dr dD cT F B ai H) (an:aI.pre=true) (al:bI X R W aD n ks env B ai H st a w):bK (fun k=>R k\/dr k) dD cT w:=by
 obtain⟨J,U,ag,ay⟩:=dY.pre an;have ae:=al.aU.below;refine⟨ay.trans ⟨ae.os,ae.tape,ae.output,ae.size,fun k ab=>ae.block k (ab.imp id (ag k))⟩,fun k ab=>al.aU.base k (ab.imp id (ag k)),fun c aa=>?_,U⟩;have gO:=al.aU.ok c (List.mem_append_left _ (J c aa).1);exact gO.base fun b ae ab=>(gO.lt ae).1 (ab.imp id (ag b))
theorem kZ.F{R:Nat->Prop} {aI:hD} {dr:Nat->Prop} {dD:World} {cT:List bc} {F:World->Prop} {X:bq} {W:World} {aD:eT} {n:Nat} {ks:List Nat} {env:Nat->Loc} {B:Nat->Prop} {ai:World} {H:List bc} {st:aM} {a:Act} {w:World} (dY:kZ R aI dr dD cT F B ai H) (al:bI X R W aD n ks env B ai H st a w):F w:=
 dY.n7 w ⟨al.aU.below.os,al.aU.below.tape,al.aU.below.output,al.aU.below.size,al.aU.below.block⟩
theorem bt.gu{env:Nat->Loc} {B:Nat->Prop} {w:World}:∀ {l:bE} {H:List bc},bt env B w l H->bt env B w (mP l) (H.filter iw)
 | [],_,h=>by rw[show _=[] from h]; exact rfl
 | (k,.cells t cs) :: r,_,⟨c,H',e,J,U⟩=>by
  subst e;have aa:iw c=true:=by
   obtain⟨b,vs,_,e,_⟩:=J;rw[e]; rfl
  rw[List.filter_cons_of_pos aa];exact⟨c,_,rfl,J,bt.gu U⟩
 | (k,.row t g l cap) :: r,_,⟨c,H',e,J,U⟩=>by
  subst e;have aa:iw c=false:=J.nf (fun _ _ e=>by cases e);rw[List.filter_cons_of_neg (by rw[aa]; simp)];show bt env B w (mP r) _;exact bt.gu U
 | (k,.hf s p) :: r,_,⟨c,H',e,J,U⟩=>by
  subst e;have aa:iw c=false:=J.nf (fun _ _ e=>by cases e);rw[List.filter_cons_of_neg (by rw[aa]; simp)];show bt env B w (mP r) _;exact bt.gu U
 | (k,.mp gk bO l o) :: r,_,⟨c,H',e,J,U⟩=>by
  subst e;have aa:iw c=false:=J.nf (fun _ _ e=>by cases e);rw[List.filter_cons_of_neg (by rw[aa]; simp)];show bt env B w (mP r) _;exact bt.gu U
 | (k,.it jh es q ps) :: r,_,⟨c,H',e,J,U⟩=>by
  subst e;have aa:iw c=false:=J.nf (fun _ _ e=>by cases e);rw[List.filter_cons_of_neg (by rw[aa]; simp)];show bt env B w (mP r) _;exact bt.gu U
 | (k,.kO) :: r,_,⟨c,H',e,J,U⟩=>by
  subst e;have aa:iw c=false:=J.nf (fun _ _ e=>by cases e);rw[List.filter_cons_of_neg (by rw[aa]; simp)];show bt env B w (mP r) _;exact bt.gu U
 | (k,.bX el t g l cap i d) :: r,_,⟨c,H',e,J,U⟩=>by
  subst e;have aa:iw c=false:=J.nf (fun _ _ e=>by cases e);rw[List.filter_cons_of_neg (by rw[aa]; simp)];show bt env B w (mP r) _;exact bt.gu U
 | (k,.j9) :: r,_,⟨c,H',e,J,U⟩=>by
  subst e;have aa:iw c=false:=J.nf (fun _ _ e=>by cases e);rw[List.filter_cons_of_neg (by rw[aa]; simp)];show bt env B w (mP r) _;exact bt.gu U
 | (k,.fw t g l) :: r,_,⟨c,H',e,J,U⟩=>by
  subst e;have aa:iw c=false:=J.nf (fun _ _ e=>by cases e);rw[List.filter_cons_of_neg (by rw[aa]; simp)];show bt env B w (mP r) _;exact bt.gu U
 | (k,.bQ t bR g l cap q) :: r,_,⟨c,H',e,J,U⟩=>by
  subst e;have aa:iw c=false:=J.nf (fun _ _ e=>by cases e);rw[List.filter_cons_of_neg (by rw[aa]; simp)];show bt env B w (mP r) _;exact bt.gu U
section
variable {X:bq} {M:Bool} {n:Nat} {st st':aM} {Q:Exit->aM->Prop} {ops:List Oper} {E:List Nat} {aI uR:hD} {fuel:Nat}
theorem bI.drew{R:Nat->Prop} {W:World} {aD:eT} {ks:List Nat} {env:Nat->Loc} {B:Nat->Prop} {ai:World} {H:List bc} {a:Act} {w:World} (h:bI X R W aD n ks env B ai H st a w):bI X R W aD n ks env B ai H st a w.drew:=
 ⟨h.size,h.defs,h.has,h.heap,h.aU.drew,h.sub,h.new,h.dt,h.base,h.dX⟩
theorem TI{id N:Nat} {r:Option Nat} {jV:Bool} (E:List Nat) (hm:X.P.follows .mixedOrders=true) (aT:ops.length=N) (h:jm X M n ops E N ⟨Array.replicate N false,true,true,true,jV⟩ st Q):mg X M n r (.region id ops.toArray true) st Q:=by
 rintro R W aD a w ⟨ks,env,B,ai,H,cp,al⟩;have J:=gz.any r _ _ _ _ (h R W aD B ai (H.filter (n6 jV)) _ ks env B ai H a w.drew cp al.drew ⟨fun _=>⟨rfl,rfl,rfl⟩,fun _=>⟨fun c aa=>List.mem_filter.1 aa,(List.pairwise_append.1 al.aU.apart).1.sublist List.filter_sublist,fun _ h=>h,dm.refl _ _⟩,fun _=>rfl,fun _ h=>h⟩);have U:(Code.region id ops.toArray true).wpIn (WF r) 0 X.P (fun e a w=>e=.normal/\∃ st',Q e st'/\lL X R W aD M n st' a w) a w:=wpIn_region_any hm (by simp only[List.size_toArray,aT]; exact J);refine wpIn_mono U ?_;rintro e a w ⟨rfl,st',ag,ay⟩;exact⟨st',ag,ay⟩
theorem TJ(au:Region.ready .any ops.toArray aI.listed=[]) (h:Q .normal st):jm X M n ops E 0 aI st Q:=fun R W aD dr dD cT F ks env B ai H a w cp al _=>⟨au,rfl,st,h,ks,env,B,ai,H,cp,al⟩
theorem k0{i:Nat} {o:Oper} (h:nth ops i=some o):ops.toArray[i]?=some o:=by simpa using EB h
theorem E8{R:Nat->Prop} {dr:Nat->Prop} {dD:World} {cT:List bc} {F:World->Prop} {uS:Exit->Act->World->Prop} {listed:Array Bool} {nX i:Nat} {o:Oper} {a:Act} {w:World} (re:Bool) (v:Value) (pW:ops.toArray[i]?=some o) (ae:rb ops.toArray E listed i=true) (ho:E.elem i=true->re=true) (au:re=true->xU ops.toArray E (xK ops.toArray i) listed i=true)
  (aH:YieldsIf X.P ops.toArray (fun w=>(re=true->bK (fun k=>R k\/dr k) dD cT w)/\F w) o v a) (ca:re=true->bK (fun k=>R k\/dr k) dD cT w) (dE:F w) (E9:gz X.P ops.toArray uS (fun j l w=>(fD E l j=true->bK (fun k=>R k\/dr k) dD cT w)/\F w) nX (listed.setIfInBounds i true) (a.put o.dst v) w) :
  gz X.P ops.toArray uS (fun j l w=>(fD E l j=true->bK (fun k=>R k\/dr k) dD cT w)/\F w) (nX+1) listed a w:=by
 simp only[rb,Bool.and_eq_true]at ae;obtain⟨⟨⟨TK,Bj⟩,uO⟩,TL⟩:=ae;have TM:∀ {l:Array Bool} {j:Nat},fD E l j=true->fD E (l.setIfInBounds i true) j=true:=Lk TK;have jF:∀ D,(re=true->Bg E D=true)->(∀ j∈D,E6 ops.toArray i D j)->(∀ j∈D,listed.getD j true=false)->(∀ j fF,ops.toArray[j]?=some fF->j≠i->listed.getD j true=false->(∀ e∈fF.after,Region.binds .any e=true->e.on≠i)->j∈D\/(re=true->E.elem j=true))->gz X.P ops.toArray uS (fun j l w=>(fD E l j=true->bK (fun k=>R k\/dr k) dD cT w)/\F w) (nX+1) listed a w:=by
  intro D h0 J U ag;refine gz.first (T:=fun w=>(re=true->bK (fun k=>R k\/dr k) dD cT w)/\F w) pW (Region.noSelect_spec Bj) D J (fun j l w aJ=>⟨fun he=>aJ.1 (TM he),aJ.2⟩) _ _ _ _ U ?_ (by simpa using TL) aH ⟨ca,dE⟩ E9 (fun l w' hw=>⟨fun he=>hw.1 (ho (Lj he)),hw.2⟩)
  intro j fF kc jl nq lv;refine⟨Region.free_spec pW uO j fF kc jl nq lv,?_⟩
  rcases ag j fF kc jl nq lv with ay | ay
  ·exact .inl ay
  ·exact .inr fun l w sI Lm=>⟨fun cG=>Lm.1 (TH (h0 cG) sI (ay cG)),Lm.2⟩
 cases a6:re with
 | false=>exact jF [] (fun h=>by rw[a6]at h; cases h) (fun _ h=>by cases h) (fun _ h=>by cases h) (fun _ _ _ _ _ _=>.inr fun h=>by rw[a6]at h; cases h)
 | true=>
  have oX:=au a6;unfold xU at oX;rw[Bool.and_eq_true]at oX;obtain⟨oX,oY⟩:=oX;simp only[Bool.and_eq_true,List.all_eq_true,List.mem_range,Bool.not_eq_true']at oX;obtain⟨fE,gm⟩:=oX;refine jF (xK ops.toArray i) (fun _=>oY) (fun j aF=>Ll (fE j aF).2) (fun j aF=>(fE j aF).1) (fun j fF kc jl nq _=>?_)
  have:=gm j (Array.getElem?_eq_some_iff.1 kc).1
  simp only[Bool.or_eq_true,beq_iff_eq]at this
  rcases this with((J | J) | J) | J
  ·exact absurd J jl
  ·rw[nq]at J; cases J
  ·exact .inr fun _=>J
  ·exact .inl (by simpa using J)
theorem Ln{listed:Array Bool} {pre:Bool} {i:Nat} (h:Bi ops.toArray E listed pre i=true):(E.elem i=true->xU ops.toArray E (xK ops.toArray i) listed i=true)/\(E.elem i=true->pre=true):=by
 simp only[Bi,Bool.or_eq_true,Bool.not_eq_true',Bool.and_eq_true]at h
 rcases h with h | h
 ·exact⟨fun e=>(by rw[h]at e; cases e),fun e=>(by rw[h]at e; cases e)⟩
 ·exact⟨fun _=>h.2,fun _=>h.1⟩
theorem kZ.kept{R:Nat->Prop} {dr:Nat->Prop} {dD:World} {cT:List bc} {F:World->Prop} {B:Nat->Prop} {ai:World} {H H':List bc} (dY:kZ R aI dr dD cT F B ai H) (ab:aI.pre=true->∀ c∈H,n6 aI.all c=true->c∈H') {l:Array Bool}:kZ R ⟨l,false,aI.pre,aI.jU,aI.all⟩ dr dD cT F B ai H':=
 ⟨fun h=>(by cases h),fun h=>by
  obtain⟨J,U,ag,ay⟩:=dY.pre h;exact⟨fun c aa=>⟨ab h c (J c aa).1 (J c aa).2,(J c aa).2⟩,U,ag,ay⟩,dY.dn,dY.n7⟩
theorem kZ.lost{R:Nat->Prop} {dr:Nat->Prop} {dD:World} {cT:List bc} {F:World->Prop} {B:Nat->Prop} {ai:World} {H H':List bc} (dY:kZ R aI dr dD cT F B ai H) {l:Array Bool}:kZ R ⟨l,false,false,aI.jU,aI.all⟩ dr dD cT F B ai H':=
 ⟨fun h=>(by cases h),fun h=>(by cases h),dY.dn,dY.n7⟩
theorem Lo(av:X.a7.ok X.P) {i:Nat} {o:Oper} {c:Bool} {l':Array Bool} (hi:nth ops i=some o) (ho:fD E aI.listed i=false) (aj:nk X n (ef ops) st o=.ok c st') (aa:c=true) (ad:aI.listed.setIfInBounds i true=l') (h:jm X M n ops E fuel ⟨l',false,false,aI.jU,aI.all⟩ st' Q):oW X M n ops E fuel aI st Q i:=by
 intro R W aD dr dD cT F ks env B ai H a w cp al dY;refine⟨o,k0 hi,A2 av aj aa al fun aW w' env' H' Bk b7=>?_⟩;have gA:=dY.lost (H':=H') (l:=l');rw[ad];exact⟨⟨fun he=>(by rw[ho]at he; cases he),gA.F b7⟩,h R W aD dr dD cT F ks env' B ai H' aW w' cp b7 gA⟩
theorem Lp(av:X.a7.ok X.P) {i:Nat} {o:Oper} {c:Bool} {l':Array Bool} (hi:nth ops i=some o) (ab:(aI.pre&&AT o.op&&oR o st.H&&!aI.all)=true) (aj:nk X n (ef ops) st o=.ok c st') (aa:c=true) (ad:aI.listed.setIfInBounds i true=l') (h:jm X M n ops E fuel ⟨l',false,true,aI.jU,aI.all⟩ st' Q):oW X M n ops E fuel aI st Q i:=by
 intro R W aD dr dD cT F ks env B ai H a w cp al dY;simp only[Bool.and_eq_true]at ab;refine⟨o,k0 hi,A2 av aj aa al fun aW w' env' H' Bk b7=>?_⟩;have fj:aI.all=false:=by simpa using ab.2
 have gA:=dY.kept (H':=H') (l:=l') (fun _=>by rw[fj]; exact Bk.e6 ab.1.1.2 ab.1.2);rw[ad];refine⟨⟨fun he=>gA.T ab.1.1.1 b7,gA.F b7⟩,h R W aD dr dD cT F ks env' B ai H' aW w' cp b7 ?_⟩;rw[ab.1.1.1]at gA;exact gA
theorem Lq(av:X.a7.ok X.P) {i:Nat} {o:Oper} {c:Bool} {l':Array Bool} (hi:nth ops i=some o) (ab:(aI.pre&&uE o.op&&q2 o st.H)=true) (aj:nk X n (ef ops) st o=.ok c st') (aa:c=true) (ad:aI.listed.setIfInBounds i true=l') (h:jm X M n ops E fuel ⟨l',false,true,aI.jU,aI.all⟩ st' Q):oW X M n ops E fuel aI st Q i:=by
 intro R W aD dr dD cT F ks env B ai H a w cp al dY;simp only[Bool.and_eq_true]at ab;refine⟨o,k0 hi,A2 av aj aa al fun aW w' env' H' Bk b7=>?_⟩;have gA:=dY.kept (H':=H') (l:=l') (fun _ c aa _=>Bk.all ab.1.2 ab.2 c aa);rw[ad];refine⟨⟨fun he=>gA.T ab.1.1 b7,gA.F b7⟩,h R W aD dr dD cT F ks env' B ai H' aW w' cp b7 ?_⟩;rw[ab.1.1]at gA;exact gA
def Bl(X:bq) (M:Bool) (n:Nat) (ops:List Oper) (E:List Nat) (fuel:Nat) (aI:hD) (st:aM) (Q:Exit->aM->Prop) (rs:List Nat):Prop:=∀ i∈rs,oW X M n ops E fuel aI st Q i
theorem Lr:Bl X M n ops E fuel aI st Q []:=fun _ h=>by cases h
theorem Fa{i:Nat} {rs:List Nat} (h:oW X M n ops E fuel aI st Q i) (au:Bl X M n ops E fuel aI st Q rs):Bl X M n ops E fuel aI st Q (i :: rs):=fun j aF=>by
 rcases List.mem_cons.1 aF with rfl | aF
 ·exact h
 ·exact au j aF
theorem Ls{i:Nat} {rs:List Nat} (au:Region.ready .any ops.toArray aI.listed=i :: rs) (h:Bl X M n ops E fuel aI st Q (i :: rs)):jm X M n ops E (fuel+1) aI st Q:=by
 intro R W aD dr dD cT F ks env B ai H a w cp al dY;refine⟨fun h0=>(by rw[au]at h0; cases h0),fun k ab=>?_⟩;rw[au]at ab;exact h k ab R W aD dr dD cT F ks env B ai H a w cp al dY
end
/-! ### A drawn region, xK a call, as at its beginning -/
theorem gz.Fb{P:Program} {ops:Array Oper} {Q:Exit->Act->World->Prop} {S S':Nat->Array Bool->World->Prop} (aJ:∀ j l w,S' j l w->S j l w):∀ (fuel:Nat) (listed:Array Bool) (a:Act) (w:World),gz P ops Q S' fuel listed a w->gz P ops Q S fuel listed a w
 | 0,_,_,_,h=>h
 | fuel+1,_,_,_,h=>⟨h.1,fun i hi=>by
  obtain⟨o,bb,ah⟩:=h.2 i hi;exact⟨o,bb,ah.mono fun aW w' a8=>⟨aJ _ _ _ a8.1,gz.Fb aJ fuel _ aW w' a8.2⟩⟩⟩
theorem TN{X:bq} {M:Bool} {n:Nat} {st:aM} {Q:Exit->aM->Prop} {ops:List Oper} {E:List Nat} {aI:hD} {fuel:Nat} (ho:(E.isEmpty || aI.pre)=true) (h:jm X M n ops E fuel ⟨aI.listed,true,true,true,aI.all⟩ st Q):jm X M n ops E fuel aI st Q:=by
 intro R W aD dr dD cT F ks env B ai H a w cp al dY;refine gz.Fb ?_ _ _ _ _ (h R W aD B ai (H.filter (n6 aI.all)) (fun w=>dm (fun k=>R k\/B k) ai w) ks env B ai H a w cp al ⟨fun _=>⟨rfl,rfl,rfl⟩,fun _=>⟨fun c aa=>List.mem_filter.1 aa,(List.pairwise_append.1 al.aU.apart).1.sublist List.filter_sublist,fun _ h=>h,dm.refl _ _⟩,fun _=>rfl,fun _ h=>h⟩);rintro j l w' ⟨J,U⟩;refine⟨fun he=>?_,dY.n7 w' U⟩;have an:aI.pre=true:=by
  cases E with
  | nil=>cases (Lj he)
  | cons e E=>simpa using ho
 obtain⟨h9,hK,uT,TO⟩:=dY.pre an;have aj:=J he;have ae:=aj.below;refine⟨TO.trans ⟨ae.os,ae.tape,ae.output,ae.size,fun k ab=>ae.block k (ab.imp id (uT k))⟩,fun k ab=>aj.base k (ab.imp id (uT k)),fun c aa=>?_,hK⟩;have gO:=aj.ok c (List.mem_filter.2 ⟨(h9 c aa).1,(h9 c aa).2⟩);exact gO.base fun b ae ab=>(gO.lt ae).1 (ab.imp id (uT b))
end

section
def rf(id:Nat) (g:ba) (x:g.D):List e2->List e2
 | []=>[]
 | .id i :: r=>match Nat.beq i id with
  | true=>.cL g x :: rf id g x r
  | false=>.id i :: rf id g x r
 | .cL h y :: r=>.cL h y :: rf id g x r
def bg.eH:bg->Nat->(g:ba)->g.D->bg
 | .ptr i o,id,g,x=>match Nat.beq i id with
  | true=>.fK g x o
  | false=>.ptr i o
 | .fn f ids,id,g,x=>.fn f (rf id g x ids)
 | c,_,_,_=>c
def uU(id:Nat) (g:ba) (x:g.D):List bg->List bg
 | []=>[]
 | c :: r=>c.eH id g x :: uU id g x r
def bh.eH:bh->Nat->(g:ba)->g.D->bh
 | .c y,id,g,x=>.c (y.eH id g x)
 | .agg cs,id,g,x=>.agg (uU id g x cs)
 | .arr g l,_,_,_=>.arr g l
def xV(id:Nat) (g:ba) (x:g.D):List bh->List bh
 | []=>[]
 | c :: r=>c.eH id g x :: xV id g x r
def b5.eH:b5->Nat->(g:ba)->g.D->b5
 | .a y,id,g,x=>.a (y.eH id g x)
 | .may b y,id,g,x=>.may b (y.eH id g x)
 | .dj bn,id,g,x=>.dj (xV id g x bn)
def sJ(id:Nat) (g:ba) (x:g.D):cQ->cQ
 | []=>[]
 | (k,v) :: r=>(k,v.eH id g x) :: sJ id g x r
def cA.eH:cA->Nat->(g:ba)->g.D->cA
 | .cells t cs,id,g,x=>.cells t (uU id g x cs)
 | b,_,_,_=>b
def mi(id:Nat) (g:ba) (x:g.D):bE->bE
 | []=>[]
 | (k,b) :: r=>match Nat.beq k id with
  | true=>mi id g x r
  | false=>(k,b.eH id g x) :: mi id g x r
section
variable {env:Nat->Loc} {B:Nat->Prop} {w:World} {id b:Nat} {g:ba} {x:g.D} (he:env id=.blk b) (aS:qY B w g x b 0)
include he aS
theorem eN.eH{cs:List e2}:∀ {vs:List Value},eN env B w cs vs->eN env B w (rf id g x cs) vs:=by
 induction cs with
 | nil=>intro vs h; exact h
 | cons c cs bJ=>
  intro vs h;obtain⟨v,r,e,J,ag⟩:=h;cases c with
  | id i=>
   obtain⟨b',J,U⟩:=J;simp only[rf]
   split
   ·rename_i hi
    have:=Nat.eq_of_beq_eq_true hi
    subst this;rw[he]at J;cases J;exact⟨v,r,e,⟨b,0,U,aS⟩,bJ ag⟩
   ·exact⟨v,r,e,⟨b',J,U⟩,bJ ag⟩
  | cL h y=>exact⟨v,r,e,J,bJ ag⟩
theorem dy.eH:∀ {c:bg} {v:Value},dy env B w c v->dy env B w (c.eH id g x) v
 | .val _,_,aa=>aa
 | .str _,_,aa=>aa
 | .dead,_,aa=>aa
 | .ptr i o,v,aa=>by
  simp only[bg.eH]
  split
  ·rename_i hi
   have:=Nat.eq_of_beq_eq_true hi
   subst this;obtain⟨b',J,U⟩:=aa;rw[he]at J;cases J;exact⟨b,0,by rw[Nat.zero_add]; exact U,aS⟩
  ·exact aa
 | .dV _ _ _ _,_,aa=>aa
 | .fK _ _ _,_,aa=>aa
 | .par _ _,_,aa=>aa
 | .ak _,_,aa=>aa
 | .bd _ _ _,_,aa=>aa
 | .fn _ _,_,⟨vs,J,U⟩=>⟨vs,J,eN.eH he aS U⟩
 | .eP _,_,aa=>aa
 | .iu _ _,_,aa=>aa
 | .hy _ _,_,aa=>aa
 | .iv _ _ _,_,aa=>aa
 | .iN _,_,aa=>aa
 | .fR _ _,_,aa=>aa
theorem cC.eH:∀ {c:List bg} {v:List Value},cC env B w c v->cC env B w (uU id g x c) v
 | [],_,aa=>aa
 | _ :: _,_,⟨v,r,e,J,U⟩=>⟨v,r,e,dy.eH he aS J,cC.eH U⟩
theorem dH.eH:∀ {c:bh} {v:Value},dH env B w c v->dH env B w (c.eH id g x) v
 | .c _,_,aa=>dy.eH he aS aa
 | .agg _,_,⟨vs,e,J⟩=>⟨vs,e,cC.eH he aS J⟩
 | .arr _ _,_,h=>h
theorem dF.eH:∀ {c:List bh} {v:List Value},dF env B w c v->dF env B w (xV id g x c) v
 | [],_,aa=>aa
 | _ :: _,_,⟨v,r,e,J,U⟩=>⟨v,r,e,dH.eH he aS J,dF.eH U⟩
theorem ei.eH:∀ {c:b5} {v:Value},ei env B w c v->ei env B w (c.eH id g x) v
 | .a _,_,aa=>dH.eH he aS aa
 | .may _ _,_,aa=>⟨fun aV=>dH.eH he aS (aa.1 aV),aa.2⟩
 | .dj _,_,⟨vs,e,J⟩=>⟨vs,e,dF.eH he aS J⟩
theorem ej.eH{k:Nat}:∀ {sK:cA} {c:bc},ej env B w k sK c->ej env B w k (sK.eH id g x) c
 | .cells _ _,_,⟨b',vs,e,aa,J⟩=>⟨b',vs,e,aa,cC.eH he aS J⟩
 | .row _ _ _ _,_,h=>h
 | .hf _ _,_,h=>h
 | .mp _ _ _ _,_,h=>h
 | .it _ _ _ _,_,h=>h
 | .kO,_,h=>h
 | .bX _ _ _ _ _ _ _,_,h=>h
 | .j9,_,h=>h
 | .fw _ _ _,_,h=>h
 | .bQ _ _ _ _ _ _,_,h=>h
theorem bt.eH:∀ {l:bE} {H:List bc},bt env B w l H->∃ H',H'.Sublist H/\bt env B w (mi id g x l) H'
 | [],_,b1=>⟨[],by rw[show _=[] from b1]; exact List.Sublist.refl _,rfl⟩
 | (k,sK) :: l,_,⟨c,H',e,J,U⟩=>by
  obtain⟨H2,aj,ag⟩:=bt.eH U;subst e;unfold mi
  split
  ·exact⟨H2,aj.cons _,ag⟩
  ·exact⟨c :: H2,aj.cons_cons _,c,H2,rfl,ej.eH he aS J,ag⟩
theorem bt.Lt:∀ {l:bE} {H:List bc} {sK:cA},bt env B w l H->aZ l id=some sK->∃ c Y Z H',ej env B w id sK c/\H=Y++c :: Z/\H'.Sublist (Y++Z)/\bt env B w (mi id g x l) H'
 | [],_,_,_,h=>by cases h
 | (k,b') :: l,H,sK,⟨c,H',e,J,U⟩,h=>by
  rw[cn]at h;subst e
  split at h
  ·rename_i e
   subst e;cases h;obtain⟨H2,ag,ay⟩:=bt.eH he aS U;refine⟨c,[],H',H2,J,rfl,ag,?_⟩;unfold mi;rw[Nat.beq_refl];exact ay
  ·rename_i e
   obtain⟨c',Y,Z,H2,ag,ay,aO,aK⟩:=bt.Lt U h;have ab:Nat.beq k id=false:=by
    cases ae:Nat.beq k id with
    | false=>rfl
    | true=>exact absurd (Nat.eq_of_beq_eq_true ae).symm e
   refine⟨c',c :: Y,Z,c :: H2,ag,by rw[ay]; rfl,aO.cons_cons _,?_⟩;unfold mi;rw[ab];exact⟨c,H2,rfl,ej.eH he aS J,aK⟩
omit he aS in
theorem Fc:∀ {l:cQ} {s:Nat} {v:b5},aZ (sJ id g x l) s=some v->∃ u,aZ l s=some u/\v=u.eH id g x
 | [],_,_,h=>by cases h
 | (k,u) :: l,s,v,h=>by
  unfold sJ at h;rw[cn]at h ⊢
  split at h
  ·rename_i e
   cases h;rw[if_pos e];exact⟨u,rfl,rfl⟩
  ·rename_i e
   rw[if_neg e];exact Fc h
end
section
variable {X:bq} {R:Nat->Prop} {W:World} {aD:eT} {n:Nat} {ks:List Nat} {env:Nat->Loc} {B:Nat->Prop} {ai:World} {H:List bc} {st st':aM} {a:Act} {w:World}
theorem bI.b4(h:bI X R W aD n ks env B ai H st a w) {id:Nat} {t:TypeId} {cs:List bg} {g:ba} {x:g.D} {c:Bool} (b8:aZ st.H id=some (.cells t cs)) (n8:dec g cs=some (c,x,[])) (aa:c=true):∃ env' B' cJ H',bI X R W aD n ks env' B' cJ H' ⟨sJ id g x st.L,mi id g x st.H⟩ a w:=by
 obtain⟨c0,_,⟨b,vs,he,rfl,fZ⟩,fp⟩:=h.heap.gx b8;have dp:fJ B ai (fun q=>B q\/q=b) w:=⟨fun q ao=>.inl ao,fun q ao=>h.aU.below.block q (.inr ao)⟩
 obtain⟨v1,v2,aw,je,iz⟩:=oS (fZ.up dp) n8 aa;have Fe:v2=[]:=iz;subst Fe;rw[List.append_nil]at aw;subst aw;have jP:qY (fun q=>B q\/q=b) w g x b 0:=⟨.inr rfl,vs,je,fun j u hu=>by rw[Nat.zero_add,Eh h.aU fp.more]; exact hu⟩
 obtain⟨c,Y,Z,H2,⟨b',mb,cV,rfl,_⟩,U,ay,aO⟩:=bt.Lt he jP (h.heap.up dp) b8;rw[he]at cV;cases cV;have jS:bc.gu b mb t∈H++ks.map dC:=by rw[U]; simp
 have hU:=(h.aU.ok _ jS).lt (b:=b) rfl;have jT:=h.aU.apart;rw[U,List.append_assoc,List.cons_append]at jT;refine⟨env,_,w,H2,h.size,h.defs,fun s u hu=>?_,aO,?_,fun q ao=>.inl (h.sub q ao),fun q ao=>?_,h.dt,h.base.trans ⟨h.aU.below.os,h.aU.below.tape,h.aU.below.output,h.aU.below.size,fun q ao=>h.aU.below.block q (.inl ao)⟩,fun i x ah=>(h.dX i x ah).up dp⟩
 ·obtain⟨hz,hA,rfl⟩:=Fc hu
  obtain⟨eF,aK,bY⟩:=h.has s hz hA;exact⟨eF,aK,ei.eH he jP (bY.up dp)⟩
 ·have aj:bK (fun k=>R k\/B k) ai (H2++ks.map dC) w:=by
   have aK:=h.aU;rw[U]at aK;have an:(Y++bc.gu b mb t :: Z++ks.map dC).Perm (bc.gu b mb t :: (Y++Z++ks.map dC)):=by
    simp only[List.append_assoc,List.cons_append];exact List.perm_middle
   exact(aK.perm an).en (((ay.append_right _)).cons _)
  refine⟨dm.refl _ _,fun q ao=>?_,fun c aa=>(aj.ok c aa).base fun q ae cH=>?_,aj.apart⟩
  ·rcases ao with ao | ao | ao
   ·exact h.aU.base q (.inl ao)
   ·exact h.aU.base q (.inr ao)
   ·subst ao; exact hU.2
  ·rcases cH with cH | cH | cH
   ·exact((aj.ok c aa).lt ae).1 (.inl cH)
   ·exact((aj.ok c aa).lt ae).1 (.inr cH)
   ·subst cH
    have h1:c∈Y++(Z++ks.map dC):=by
     rcases List.mem_append.1 aa with aa | aa
     ·have:=ay.subset aa
      rcases List.mem_append.1 this with bY | bY
      ·exact List.mem_append_left _ bY
      ·exact List.mem_append_right _ (List.mem_append_left _ bY)
     ·exact List.mem_append_right _ (List.mem_append_right _ aa)
    rw[List.pairwise_append,List.pairwise_cons]at jT;obtain⟨_,⟨c3,_⟩,hB⟩:=jT
    rcases List.mem_append.1 h1 with bY | bY
    ·exact hB c bY _ List.mem_cons_self q ae rfl
    ·exact c3 c bY q rfl ae
 ·rcases ao with ao | ao
  ·exact(h.new q ao).imp_right fun a8=>⟨a8.1,a8.2.e6 (h.aU.below.block q (.inr ao))⟩
  ·subst ao; exact .inr ⟨fun dO=>hU.1 (.inl dO),(h.aU.ok _ jS).cells rfl rfl⟩
theorem dk.b4(id:Nat) (g:ba) {t:TypeId} {cs:List bg} {x:g.D} {c:Bool} (b8:aZ st.H id=some (.cells t cs)) (n8:dec g cs=some (c,x,[])) (aa:c=true):dk X n st ⟨sJ id g x st.L,mi id g x st.H⟩:=fun _ _ _ _ _ _ ⟨ks,env,B,ai,H,cp,al⟩=>by
 obtain⟨env',B',cJ,H',h⟩:=al.b4 b8 n8 aa;exact⟨ks,env',B',cJ,H',cp,h⟩
end
section
variable {X:bq} {M:Bool} {n:Nat} {st:aM} {Q:Exit->aM->Prop} {ops:List Oper} {E:List Nat} {aI:hD} {Ki:Array Bool} {fuel d i:Nat} {o:Oper}
theorem TP{st':aM} (z:Nat) (az:dn z st=some st') (h:jm X M n ops E fuel ⟨aI.listed,false,aI.pre&&!aI.all,false,aI.all⟩ st' Q):jm X M n ops E fuel aI st Q:=by
 intro R W aD dr dD cT F ks env B ai H a w cp al dY;obtain⟨env',B',cJ,H',b7,fT,jE,l8⟩:=al.dn az;refine h R W aD dr dD cT F ks env' B' cJ H' a w cp b7 ⟨fun h=>(by cases h),fun an=>?_,fun h=>(by cases h),fun w hw=>dY.n7 w (jE.trans ⟨hw.os,hw.tape,hw.output,hw.size,fun k ab=>hw.block k (ab.imp id (fT k))⟩)⟩;have uV:aI.pre=true/\aI.all=false:=by
  have:(aI.pre&&!aI.all)=true:=an
  simpa using this
 obtain⟨g1,g2,g3,g4⟩:=dY.pre uV.1;exact⟨fun c aa=>⟨l8 c (g1 c aa).1 (by have:=(g1 c aa).2; rw[uV.2]at this; exact this),(g1 c aa).2⟩,g2,fun k ab=>fT k (g3 k ab),g4.trans ⟨jE.os,jE.tape,jE.output,jE.size,fun k ab=>jE.block k (ab.imp id (g3 k))⟩⟩
end
end

section
abbrev hE:=Bool->Nat->Option Nat
def oZ(cg:hE):List e2->Option (List e2)
 | []=>some []
 | .id i :: r=>match cg true i,oZ cg r with
  | some j,some l=>some (.id j :: l)
  | _,_=>none
 | .cL g x :: r=>match oZ cg r with
  | some l=>some (.cL g x :: l)
  | none=>none
def bg.c4:bg->hE->bg
 | .ptr i o,cg=>match cg true i with
  | some j=>.ptr j o
  | none=>.dead
 | .dV i cP k o,cg=>match cg false i with
  | some j=>.dV j cP k o
  | none=>.dead
 | .ak i,cg=>match cg false i with
  | some j=>.ak j
  | none=>.dead
 | .fn f ids,cg=>match oZ cg ids with
  | some l=>.fn f l
  | none=>.dead
 | .eP i,cg=>match cg true i with
  | some j=>.eP j
  | none=>.dead
 | .iu f i,cg=>match cg true i with
  | some j=>.iu f j
  | none=>.dead
 | .hy i o,cg=>match cg false i with
  | some j=>.hy j o
  | none=>.dead
 | .iN i,cg=>match cg false i with
  | some j=>.iN j
  | none=>.dead
 | .iv i s o,cg=>match cg false i with
  | some j=>.iv j s o
  | none=>.dead
 | .fR b i,cg=>match cg true i with
  | some j=>.fR b j
  | none=>.dead
 | c,_=>c
def rh(cg:hE):List bg->List bg
 | []=>[]
 | c :: r=>c.c4 cg :: rh cg r
def bh.c4:bh->hE->bh
 | .c x,cg=>.c (x.c4 cg)
 | .agg cs,cg=>.agg (rh cg cs)
 | .arr g l,_=>.arr g l
def sL(cg:hE):List bh->List bh
 | []=>[]
 | c :: r=>c.c4 cg :: sL cg r
def b5.c4:b5->hE->b5
 | .a x,cg=>.a (x.c4 cg)
 | .may g x,cg=>.may g (x.c4 cg)
 | .dj xs,cg=>.dj (sL cg xs)
def iC(cg:hE):cQ->cQ
 | []=>[]
 | (k,v) :: r=>(k,v.c4 cg) :: iC cg r
def cA.c4:cA->hE->cA
 | .cells t cs,cg=>.cells t (rh cg cs)
 | .it jh es k ps,cg=>match cg true jh with
  | some j=>.it j es k ps
  | none=>.kO
 | .bX el t g l c i d,cg=>match cg false d with
  | some j=>.bX el t g l c i j
  | none=>.j9
 | .bQ t bR g l c (some (i,some d)),cg=>match cg false d with
  | some j=>.bQ t bR g l c (some (i,some j))
  | none=>.bQ t bR g l c (some (i,none))
 | b,_=>b
def cA.pX:cA->Bool
 | .row _ _ _ _=>false
 | .bX _ _ _ _ _ _ _=>false
 | .j9=>false
 | .fw _ _ _=>false
 | .bQ _ _ _ _ _ _=>false
 | _=>true
def mj(cg:hE):bE->bE
 | []=>[]
 | (k,b) :: r=>match cg b.pX k with
  | some j=>(j,b.c4 cg) :: mj cg r
  | none=>mj cg r
structure Ff(cg:hE) (env env':Nat->Loc):Prop where
 blk:∀ k j b,cg true k=some j->env k=.blk b->env' j=.blk b
 row:∀ k j A c n,cg false k=some j->env k=.row A c n->env' j=.row A c n
section
variable {cg:hE} {env env':Nat->Loc} {B:Nat->Prop} {w:World} (he:Ff cg env env')
include he
theorem eN.c4:∀ {ids l:List e2} {vs:List Value},oZ cg ids=some l->eN env B w ids vs->eN env' B w l vs
 | [],l,vs,h,aw=>by cases h; exact aw
 | .id i :: ids,l,vs,h,⟨v,r,e,⟨b,U,ay⟩,ag⟩=>by
  simp only[oZ]at h
  split at h
  ·rename_i j r hi au
   cases h;exact⟨v,_,e,⟨b,he.blk i j b hi U,ay⟩,eN.c4 au ag⟩
  ·cases h
 | .cL g x :: ids,l,vs,h,⟨v,r,e,U,ag⟩=>by
  simp only[oZ]at h
  split at h
  ·rename_i r au
   cases h;exact⟨v,_,e,U,eN.c4 au ag⟩
  ·cases h
theorem dy.c4:∀ {c:bg} {v:Value},dy env B w c v->dy env' B w (c.c4 cg) v
 | .val _,_,aa=>aa
 | .str _,_,aa=>aa
 | .dead,_,aa=>aa
 | .ptr i o,v,aa=>by
  simp only[bg.c4]
  split
  ·rename_i j h
   obtain⟨b,e,aw⟩:=aa;exact⟨b,he.blk i j b h e,aw⟩
  ·trivial
 | .dV i cP j o,v,aa=>by
  simp only[bg.c4]
  split
  ·rename_i j h
   obtain⟨b,c,n,e,aw⟩:=aa;exact⟨b,c,n,he.row i j _ _ _ h e,aw⟩
  ·trivial
 | .fR b i,v,aa=>by
  simp only[bg.c4]
  split
  ·rename_i j h
   obtain⟨k,e,aw⟩:=aa;exact⟨k,fun ae=>he.blk i j k h (e ae),aw⟩
  ·trivial
 | .iN i,v,aa=>by
  simp only[bg.c4]
  split
  ·rename_i j h
   obtain⟨b,c,n,e,aw⟩:=aa;exact⟨b,c,n,he.row i j _ _ _ h e,aw⟩
  ·trivial
 | .iv i s o,v,aa=>by
  simp only[bg.c4]
  split
  ·rename_i j h
   obtain⟨b,c,n,e,aw⟩:=aa;exact⟨b,c,n,he.row i j _ _ _ h e,aw⟩
  ·trivial
 | .hy i o,v,aa=>by
  simp only[bg.c4]
  split
  ·rename_i j h
   obtain⟨b,c,n,e,aw⟩:=aa;exact⟨b,c,n,he.row i j _ _ _ h e,aw⟩
  ·trivial
 | .fK _ _ _,_,aa=>aa
 | .par _ _,_,aa=>aa
 | .ak i,v,aa=>by
  simp only[bg.c4]
  split
  ·rename_i j h
   obtain⟨A,c,n,e,aw⟩:=aa;exact⟨A,c,n,he.row i j _ _ _ h e,aw⟩
  ·trivial
 | .bd _ _ _,_,aa=>aa
 | .fn f ids,v,aa=>by
  simp only[bg.c4]
  split
  ·rename_i l h
   obtain⟨vs,aw,an⟩:=aa;exact⟨vs,aw,eN.c4 he h an⟩
  ·trivial
 | .eP i,v,aa=>by
  simp only[bg.c4]
  split
  ·rename_i j h
   obtain⟨b,e,aw⟩:=aa;exact⟨b,he.blk i j b h e,aw⟩
  ·trivial
 | .iu f i,v,aa=>by
  simp only[bg.c4]
  split
  ·rename_i j h
   obtain⟨b,e,aw⟩:=aa;exact⟨b,he.blk i j b h e,aw⟩
  ·trivial
theorem cC.c4:∀ {c:List bg} {v:List Value},cC env B w c v->cC env' B w (rh cg c) v
 | [],_,aa=>aa
 | _ :: _,_,⟨v,r,e,J,U⟩=>⟨v,r,e,dy.c4 he J,cC.c4 U⟩
theorem dH.c4:∀ {c:bh} {v:Value},dH env B w c v->dH env' B w (c.c4 cg) v
 | .c _,_,aa=>dy.c4 he aa
 | .agg _,_,⟨vs,e,J⟩=>⟨vs,e,cC.c4 he J⟩
 | .arr _ _,_,h=>h
theorem dF.c4:∀ {c:List bh} {v:List Value},dF env B w c v->dF env' B w (sL cg c) v
 | [],_,aa=>aa
 | _ :: _,_,⟨v,r,e,J,U⟩=>⟨v,r,e,dH.c4 he J,dF.c4 U⟩
theorem ei.c4:∀ {c:b5} {v:Value},ei env B w c v->ei env' B w (c.c4 cg) v
 | .a _,_,aa=>dH.c4 he aa
 | .may _ _,_,aa=>⟨fun aV=>dH.c4 he (aa.1 aV),aa.2⟩
 | .dj _,_,⟨vs,e,J⟩=>⟨vs,e,dF.c4 he J⟩
theorem ej.c4{k j:Nat}:∀ {b:cA} {c:bc},cg b.pX k=some j->ej env B w k b c->ej env' B w j (b.c4 cg) c
 | .cells _ _,_,h,⟨b,vs,e,aa,J⟩=>⟨b,vs,he.blk k j b h e,aa,cC.c4 he J⟩
 | .row _ _ _ _,_,h,⟨A,c,xs,e,aa,J⟩=>⟨A,c,xs,he.row k j _ _ _ h e,aa,J⟩
 | .hf _ _,_,h,⟨b,e,aa⟩=>⟨b,he.blk k j b h e,aa⟩
 | .mp _ _ _ _,_,h,⟨b,es,q,e,aa⟩=>⟨b,es,q,he.blk k j b h e,aa⟩
 | .it jh _ _ _,_,h,⟨b,m,e,hm,aa⟩=>by
  simp only[cA.c4]
  split
  ·rename_i kR aF
   exact⟨b,m,he.blk k j b h e,he.blk jh kR m aF hm,aa⟩
  ·exact⟨b,_,he.blk k j b h e,aa⟩
 | .kO,_,h,⟨b,o,e,aa⟩=>⟨b,o,he.blk k j b h e,aa⟩
 | .bX el t g l cap i d,_,h,⟨A,c,bn,cm,c',m,e,aa,J,hi,U,ag⟩=>by
  simp only[cA.c4]
  split
  ·rename_i kR aF
   exact⟨A,c,bn,cm,c',m,he.row k j _ _ _ h e,aa,J,hi,he.row d kR _ _ _ aF U,ag⟩
  ·exact⟨A,c,_,_,_,_,_,he.row k j _ _ _ h e,aa⟩
 | .j9,_,h,⟨A,c,n,t,s,m,xs,e,aa⟩=>⟨A,c,n,t,s,m,xs,he.row k j _ _ _ h e,aa⟩
 | .fw _ _ _,_,h,⟨A,c,e,J⟩=>⟨A,c,he.row k j _ _ _ h e,J⟩
 | .bQ _ _ _ _ _ none,_,h,⟨A,q,bn,cM,I,e,aa,J,U,ag⟩=>⟨A,q,bn,cM,I,he.row k j _ _ _ h e,aa,J,U,ag⟩
 | .bQ _ _ _ _ _ (some (i,none)),_,h,⟨A,q,bn,cM,I,e,aa,J,⟨U,v,ay,_⟩,ag⟩=>⟨A,q,bn,cM,I,he.row k j _ _ _ h e,aa,J,⟨U,v,ay,fun _ h=>by cases h⟩,ag⟩
 | .bQ _ _ _ _ _ (some (i,some d)),_,h,⟨A,q,bn,cM,I,e,aa,J,⟨U,v,ay,aO⟩,ag⟩=>by
  simp only[cA.c4]
  split
  ·rename_i kR aF
   obtain⟨cm,c',m,aK,bY⟩:=aO d rfl;exact⟨A,q,bn,cM,I,he.row k j _ _ _ h e,aa,J,⟨U,v,ay,fun ga ax=>by cases ax; exact⟨cm,c',m,he.row d kR _ _ _ aF aK,bY⟩⟩,ag⟩
  ·exact⟨A,q,bn,cM,I,he.row k j _ _ _ h e,aa,J,⟨U,v,ay,fun _ h=>by cases h⟩,ag⟩
theorem bt.c4:∀ {l:bE} {H:List bc},bt env B w l H->∃ H',H'.Sublist H/\bt env' B w (mj cg l) H'
 | [],_,b1=>⟨[],by rw[show _=[] from b1]; exact List.Sublist.refl _,rfl⟩
 | (k,b) :: l,_,⟨c,H',e,J,U⟩=>by
  obtain⟨H2,aj,ag⟩:=bt.c4 U;subst e;unfold mj
  split
  ·rename_i j h
   exact⟨c :: H2,aj.cons_cons _,c,H2,rfl,ej.c4 he h J,ag⟩
  ·exact⟨H2,aj.cons _,ag⟩
omit he in
theorem sM:∀ {l:cQ} {s:Nat} {v:b5},aZ (iC cg l) s=some v->∃ u,aZ l s=some u/\v=u.c4 cg
 | [],_,_,h=>by cases h
 | (k,u) :: l,s,v,h=>by
  unfold iC at h;rw[cn]at h ⊢
  split at h
  ·rename_i e
   cases h;rw[if_pos e];exact⟨u,rfl,rfl⟩
  ·rename_i e
   rw[if_neg e];exact sM h
end
def iD(i j:Nat):hE:=fun _ k=>match Nat.beq k i with
 | true=>some j
 | false=>match Nat.beq k j with
  | true=>none
  | false=>some k
theorem uW{i j:Nat} {env:Nat->Loc}:Ff (iD i j) env (h8 env j (env i)):=by
 have key:∀ b k k',iD i j b k=some k'->h8 env j (env i) k'=env k:=by
  intro b k k' h;unfold iD at h
  split at h
  ·rename_i ae
   cases h
   have:=Nat.eq_of_beq_eq_true ae
   subst this;exact e8
  ·split at h
   ·cases h
   ·rename_i ae
    cases h;exact h4 _ (fun e=>by subst e; rw[Nat.beq_refl]at ae; cases ae)
 exact⟨fun k kR b h e=>by rw[key _ _ _ h]; exact e,fun k kR A c n h e=>by rw[key _ _ _ h]; exact e⟩
end

section
def lx(n:Nat):hE:=fun b k=>match b with
 | true=>match Nat.ble n k with
  | true=>some k
  | false=>none
 | false=>match Nat.ble h2 k with
  | true=>some k
  | false=>none
theorem TQ{n:Nat} {env env':Nat->Loc} (h:∀ id l,n<=id->env id=l->((∃ b,l=.blk b)\/h2<=id)->env' id=l) (a6:n<=h2):Ff (lx n) env env':=by
 refine⟨fun k j b ab e=>?_,fun k j A c m ab e=>?_⟩
 ·simp only[lx]at ab
  split at ab
  ·rename_i ae
   cases ab;exact h _ _ (Nat.le_of_ble_eq_true ae) e (.inl ⟨b,rfl⟩)
  ·cases ab
 ·simp only[lx]at ab
  split at ab
  ·rename_i ae
   cases ab
   have:=Nat.le_of_ble_eq_true ae
   exact h _ _ (Nat.le_trans a6 this) e (.inr this)
  ·cases ab
def pY:List e2->Bool
 | []=>true
 | .id _ :: _=>false
 | .cL _ _ :: r=>pY r
section
variable {env env':Nat->Loc} {B:Nat->Prop} {w:World}
theorem eN.Fg:∀ {cs:List e2} {vs:List Value},pY cs=true->eN env B w cs vs->eN env' B w cs vs
 | [],_,_,h=>h
 | .id _ :: _,_,h,_=>by cases h
 | .cL _ _ :: _,_,h,⟨v,r,e,J,U⟩=>⟨v,r,e,J,eN.Fg (by simpa [pY] using h) U⟩
theorem eN.any:∀ {cs:List e2} {vs:List Value},eN (fun _=>.no) B w cs vs->eN env B w cs vs
 | [],_,h=>h
 | .id _ :: _,_,⟨v,r,e,⟨b,J,_⟩,U⟩=>by cases J
 | .cL _ _ :: _,_,⟨v,r,e,J,U⟩=>⟨v,r,e,J,eN.any U⟩
theorem dy.any:∀ {c:bg} {v:Value},dy (fun _=>.no) B w c v->dy env B w c v
 | .val _,_,aa=>aa
 | .str _,_,aa=>aa
 | .dead,_,aa=>aa
 | .ptr _ _,_,⟨b,h,_⟩=>by cases h
 | .dV _ _ _ _,_,⟨_,_,_,h,_⟩=>by cases h
 | .fK _ _ _,_,aa=>aa
 | .par _ _,_,aa=>aa
 | .ak _,_,⟨_,_,_,h,_⟩=>by cases h
 | .bd _ _ _,_,aa=>aa
 | .fn _ _,_,⟨vs,J,U⟩=>⟨vs,J,eN.any U⟩
 | .eP _,_,⟨_,h,_⟩=>by cases h
 | .iu _ _,_,⟨_,h,_⟩=>by cases h
 | .hy _ _,_,⟨_,_,_,h,_⟩=>by cases h
 | .iv _ _ _,_,⟨_,_,_,h,_⟩=>by cases h
 | .iN _,_,⟨_,_,_,h,_⟩=>by cases h
 | .fR true _,_,⟨_,h,_⟩=>by cases h rfl
 | .fR false _,_,⟨k,_,h⟩=>⟨k,fun h=>(by cases h),h⟩
theorem cC.any:∀ {c:List bg} {v:List Value},cC (fun _=>.no) B w c v->cC env B w c v
 | [],_,aa=>aa
 | _ :: _,_,⟨v,r,e,J,U⟩=>⟨v,r,e,J.any,U.any⟩
theorem dH.any:∀ {c:bh} {v:Value},dH (fun _=>.no) B w c v->dH env B w c v
 | .c _,_,aa=>dy.any aa
 | .agg _,_,⟨vs,e,J⟩=>⟨vs,e,J.any⟩
 | .arr _ _,_,h=>h
theorem dF.any:∀ {c:List bh} {v:List Value},dF (fun _=>.no) B w c v->dF env B w c v
 | [],_,aa=>aa
 | _ :: _,_,⟨v,r,e,J,U⟩=>⟨v,r,e,J.any,U.any⟩
end
/-! ### Slots: parameters and moves -/
structure Has(n:Nat) (env:Nat->Loc) (B:Nat->Prop) (w:World) (L:cQ) (tmps:Array Value):Prop where
 size:tmps.size=n
 has:∀ s sv,aZ L s=some sv->∃ v,tmps[s]?=some v/\ei env B w sv v
def Bm:List Nat->List bh->cQ->cQ
 | p :: ps,x :: xs,L=>Bm ps xs ((p,.a x) :: L)
 | _,_,L=>L
def uX:List (Nat×Nat)->cQ->cQ
 | [],L=>L
 | (d,s) :: r,L=>match aZ L s with
  | some v=>uX r ((d,v) :: L)
  | none=>uX r ((d,.a (.c .dead)) :: L)
def uY:List (Nat×Nat)->Array Value->Array Value
 | [],t=>t
 | (d,s) :: r,t=>uY r (t.setIfInBounds d (t.getD s undef))
def pZ(n:Nat):List Nat->Bool
 | []=>true
 | p :: r=>Nat.blt p n&&pZ n r
section
variable {n:Nat} {env:Nat->Loc} {B:Nat->Prop} {w:World} {L:cQ} {tmps:Array Value}
theorem Has.set(h:Has n env B w L tmps) {d:Nat} (ax:d < n) {sv:b5} {v:Value} (aw:ei env B w sv v):Has n env B w ((d,sv) :: L) (tmps.setIfInBounds d v):=by
 refine⟨by simpa using h.size,fun s u hu=>?_⟩;rw[cn]at hu
 split at hu
 ·rename_i e
  subst e;cases hu;exact⟨v,by rw[Array.getElem?_setIfInBounds_self_of_lt (by rw[h.size]; exact ax)],aw⟩
 ·rename_i e
  obtain⟨eF,J,U⟩:=h.has s u hu;exact⟨eF,by rw[Array.getElem?_setIfInBounds_ne (fun cu=>e cu.symm)]; exact J,U⟩
theorem Has.par:∀ {ps:List Nat} {xs:List bh} {vs:List Value} {L:cQ} {tmps:Array Value},Has n env B w L tmps->pZ n ps=true->dF env B w xs vs->Has n env B w (Bm ps xs L) ((ps.zip vs).foldl (fun t (p,v)=>t.setIfInBounds p v) tmps)
 | [],_,_,_,_,h,_,_=>by cases ‹List bh›<;>exact h
 | _ :: _,[],_,_,_,h,_,ah=>by rw[show _=[] from ah]; exact h
 | p :: ps,x :: xs,_,L,tmps,h,an,⟨v,r,e,J,U⟩=>by
  subst e;simp only[pZ,Bool.and_eq_true]at an;exact Has.par (ps:=ps) (xs:=xs) (vs:=r) (L:=(p,.a x) :: L) (tmps:=tmps.setIfInBounds p v) (h.set (dK an.1) (sv:=.a x) J) an.2 U
theorem Has.eR:∀ {ms:List (Nat×Nat)} {L:cQ} {tmps:Array Value},Has n env B w L tmps->pZ n (ms.map (·.1))=true->Has n env B w (uX ms L) (uY ms tmps)
 | [],_,_,h,_=>h
 | (d,s) :: r,L,tmps,h,an=>by
  simp only[List.map_cons,pZ,Bool.and_eq_true]at an;unfold uX uY
  split
  ·rename_i v aw
   obtain⟨u,J,U⟩:=h.has s v aw;refine Has.eR (h.set (dK an.1) ?_) an.2;rw[Array.getD_eq_getD_getElem?,J];exact U
  ·exact Has.eR (h.set (dK an.1) trivial) an.2
end
def uZ(n:Nat):List Oper->Option (List (Nat×Nat))
 | []=>some []
 | o :: r=>match o.guard,o.dst,o.op,uZ n r with
  | none,some d,.assign (.tmp s),some l=>some ((d,s) :: l)
  | none,some d,.move (.tmp s),some l=>some ((d,s) :: l)
  | _,_,_,_=>none
inductive p0 (n:Nat):Code->List (Nat×Nat)->Prop where
 | region {id:Nat} {ops:List Oper} {ms:List (Nat×Nat)} (h:uZ n ops=some ms):p0 n (.region id ops.toArray false) ms
 | skip:p0 n .skip []
theorem Lu{P:Program} {n l:Nat} {ops:Array Oper} {Q:Exit->Act->World->Prop} {w:World}:∀ {os:List Oper} {ms:List (Nat×Nat)} {a:Act},uZ n os=some ms->Q .normal { a with tmps:=uY ms a.tmps } w->pF (some l) P ops Q os a w
 | [],ms,a,h,ao=>by cases h; exact J4 ao
 | o :: os,ms,a,h,ao=>by
  have key:∀ d s,o.guard=none->o.dst=some d->(o.op=.assign (.tmp s)\/o.op=.move (.tmp s))->∀ l',uZ n os=some l'->ms=(d,s) :: l'->pF (some l) P ops Q (o :: os) a w:=by
   intro d s aV ax aA l' ad sx;subst sx;refine D9 (.inl ⟨by simp[Region.wanted,aV],.inl ⟨a.eval (.tmp s),w,?_,Lu ad ?_⟩⟩)
   ·rcases aA with aA | aA<;>simp[execOp,aA]
   ·rw[ax]
    exact ao
  unfold uZ at h
  split at h
  ·rename_i d s l' aV ax aA ad
   cases h;exact key d s aV ax (.inl aA) l' ad rfl
  ·rename_i d s l' aV ax aA ad
   cases h;exact key d s aV ax (.inr aA) l' ad rfl
  ·cases h
theorem p0.ok{P:Program} {n l:Nat} {c:Code} {ms:List (Nat×Nat)} {Q:Exit->Act->World->Prop} {w:World} {a:Act} (h:p0 n c ms) (ao:Q .normal { a with tmps:=uY ms a.tmps } w):kv (some l) P c Q a w:=by
 cases h with
 | region h=>exact Ei (Lu h ao)
 | skip=>exact Kg ao
end

section
def TR:Exit->Option Code
 | .ret=>some .ret
 | .exit id=>some (.exit id)
 | _=>none
def TS:Exit->Bool
 | .normal=>true
 | .ret=>true
 | .exit _=>true
 | _=>false
section
variable {X:bq} {R:Nat->Prop} {W:World} {aD:eT} {n:Nat} {ks:List Nat} {env:Nat->Loc} {B:Nat->Prop} {ai:World} {H:List bc} {st:aM} {a:Act} {w:World}
def sN(n:Nat) (env:Nat->Loc):Nat->Loc->Prop:=fun id l=>n<=id/\env id=l/\((∃ b,l=.blk b)\/h2<=id)
theorem bI.TT(h:bI X R W aD n ks env B ai H st a w):bI X (fun k=>R k\/B k) w ⟨B,sN n env,aD.d⟩ n ks env B w H st a w:=by
 have dp:fJ B ai B w:=⟨fun _ h=>h,fun k ab=>h.aU.below.block k (.inr ab)⟩
 refine⟨h.size,h.defs,fun s sv aj=>?_,h.heap.up dp,?_,fun _ h=>h,fun _ h=>.inl h,fun _ _ h=>h,dm.refl _ _,fun i x ah=>(h.dX i x ah).up dp⟩
 ·obtain⟨v,J,U⟩:=h.has s sv aj
  exact⟨v,J,U.up dp⟩
 ·exact⟨dm.refl _ _,fun k ab=>h.aU.base k (ab.elim (fun h=>h) .inr),fun c aa=>(h.aU.ok c aa).base fun b ae ab=>((h.aU.ok c aa).lt ae).1 (ab.elim (fun h=>h) .inr),h.aU.apart⟩
theorem bI.TU{env':Nat->Loc} {B':Nat->Prop} {cJ:World} {H':List bc} {st':aM} {aW:Act} {w':World} {Lv:List Nat} (h:bI X R W aD n ks env B ai H st a w) (a8:bI X (fun k=>R k\/B k) w ⟨B,sN n env,aD.d⟩ n Lv env' B' cJ H' st' aW w'):bI X R W aD n Lv env' B' cJ H' st' aW w':=by
 refine⟨a8.size,a8.defs,a8.has,a8.heap,?_,fun k ab=>a8.sub k (h.sub k ab),fun k ab=>?_,fun id l an=>?_,?_,a8.dX⟩
 ·exact⟨⟨a8.aU.below.os,a8.aU.below.tape,a8.aU.below.output,a8.aU.below.size,fun k ab=>a8.aU.below.block k (ab.imp .inl id)⟩,fun k ab=>a8.aU.base k (ab.imp .inl id),fun c aa=>(a8.aU.ok c aa).base fun b ae ab=>((a8.aU.ok c aa).lt ae).1 (ab.imp .inl id),a8.aU.apart⟩
 ·have jE:∀ q,B q->cJ.heap[q]?=ai.heap[q]?:=fun q ao=>(a8.base.block q (.inr ao)).trans (h.aU.below.block q (.inr ao))
  rcases a8.new k ab with J | J
  ·exact(h.new k J).imp_right fun U=>⟨U.1,U.2.e6 (jE k J)⟩
  ·exact .inr ⟨fun dO=>J.1 (.inl dO),J.2⟩
 ·obtain⟨J,U,ag⟩:=h.dt id l an
  exact⟨J,(a8.dt id l ⟨J,U,ag⟩).2.1,ag⟩
 ·exact h.base.trans ⟨h.aU.below.os.symm ▸ a8.base.os,h.aU.below.tape ▸ a8.base.tape,h.aU.below.output ▸ a8.base.output,Nat.le_trans h.aU.below.size a8.base.size,fun k ab=>(a8.base.block k (.inl ab)).trans (h.aU.below.block k (.inl ab))⟩
theorem bI.round(h:bI X R W aD n ks env B ai H st a w) {cY:cQ} {t:Array Value} (dJ:Has n env B w cY t):bI X (Rest w H) w ⟨B,sN n env,[]⟩ n [] env B w H ⟨cY,st.H⟩ { tmps:=t,defers:=[] } w:=by
 have dp:fJ B ai B w:=⟨fun _ h=>h,fun k ab=>h.aU.below.block k (.inr ab)⟩
 have aj:bK (fun k=>R k\/B k) ai H w:=h.aU.en (List.sublist_append_left _ _);refine⟨dJ.size,rfl,dJ.has,h.heap.up dp,?_,fun _ h=>h,fun _ h=>.inl h,fun _ _ h=>h,dm.refl _ _,fun i x ah=>(h.dX i x ah).up dp⟩;have J:=aj.rest;simp only[List.map_nil,List.append_nil];exact⟨dm.refl _ _,fun k ab=>ab.elim (fun h=>h.1) (fun h=>aj.base k (.inr h)),fun c aa=>(J.ok c aa).base fun b ae ab=>ab.elim (fun h=>((J.ok c aa).lt ae).1 h) (fun h=>((aj.ok c aa).lt ae).1 (.inr h)),J.apart⟩
theorem bI.TV{env':Nat->Loc} {B':Nat->Prop} {cJ:World} {H':List bc} {st':aM} {aW:Act} {w':World} (h:bI X R W aD n ks env B ai H st a w) (a8:bI X (Rest w H) w ⟨B,sN n env,[]⟩ n [] env' B' cJ H' st' aW w') {L:cQ} (dJ:∀ s sv,aZ L s=some sv->∃ v,a.tmps[s]?=some v/\ei env' B' cJ sv v):bI X R W aD n ks env' B' cJ H' ⟨L,st'.H⟩ a w':=by
 have aj:bK (fun k=>R k\/B k) ai H w:=h.aU.en (List.sublist_append_left _ _);have kX:∀ k,R k\/B k->Rest w H k:=fun k ab=>⟨aj.base k ab,fun c aa e=>((aj.ok c aa).lt e).1 ab⟩
 have dp:fJ B ai B' cJ:=⟨a8.sub,fun k ab=>(a8.base.block k (kX k (.inr ab))).trans (h.aU.below.block k (.inr ab))⟩
 have ea:=a8.aU;simp only[List.map_nil,List.append_nil]at ea;have az:bK (Rest w H) w H' w':=⟨a8.base.trans ⟨ea.below.os,ea.below.tape,ea.below.output,ea.below.size,fun k ab=>ea.below.block k (.inl ab)⟩,fun k ab=>ea.base k (.inl ab),fun c aa=>(ea.ok c aa).base fun b ae ab=>((ea.ok c aa).lt ae).1 (.inl ab),ea.apart⟩
 have je:=h.aU.frame az;have jT:=List.pairwise_append.1 h.aU.apart;refine⟨h.size,h.defs,dJ,a8.heap,⟨⟨ea.below.os,ea.below.tape,ea.below.output,ea.below.size,fun k ab=>ea.below.block k (ab.imp (fun h=>kX k (.inl h)) id)⟩,fun k ab=>ea.base k (ab.imp (fun h=>kX k (.inl h)) id),fun c aa=>(je.ok c aa).base fun b ae ab=>?_,je.apart⟩,fun k ab=>a8.sub k (h.sub k ab),fun k ab=>?_,fun id l an=>?_,?_,fun i x ah=>(h.dX i x ah).up dp⟩
 ·rcases ab with ab | ab
  ·exact((je.ok c aa).lt ae).1 (.inl ab)
  ·rcases List.mem_append.1 aa with e3 | e3
   ·exact((ea.ok c e3).lt ae).1 (.inr ab)
   ·rcases a8.new b ab with J | J
    ·exact((je.ok c aa).lt ae).1 (.inr J)
    ·exact J.1 ⟨((h.aU.ok c (List.mem_append_right _ e3)).lt ae).2,fun c' TW e=>jT.2.2 c' TW c e3 b e ae⟩
 ·rcases a8.new k ab with J | J
  ·exact(h.new k J).imp_right fun U=>⟨U.1,U.2.e6 (dp.2 k J)⟩
  ·exact .inr ⟨fun dO=>J.1 (kX k (.inl dO)),J.2⟩
 ·obtain⟨J,U,ag⟩:=h.dt id l an
  exact⟨J,(a8.dt id l ⟨J,U,ag⟩).2.1,ag⟩
 ·exact h.base.trans ⟨a8.base.os.trans h.aU.below.os,a8.base.tape.trans h.aU.below.tape,a8.base.output.trans h.aU.below.output,Nat.le_trans h.aU.below.size a8.base.size,fun k ab=>(a8.base.block k (kX k (.inl ab))).trans (h.aU.below.block k (.inl ab))⟩
end
end

section
section
variable {X:bq} {R:Nat->Prop} {W:World} {aD:eT} {n:Nat} {ks:List Nat} {B:Nat->Prop} {ai:World} {r:Option Nat} {ops:List Oper} {Q:Exit->Act->World->Prop}
end
section
variable {X:bq} {B:Nat->Prop} {n:Nat} {L cY:cQ} {b0:World} {a:Act} {w:World} {Q:Exit->Act->World->Prop}
theorem TX{D:List Deferred} {M:List (Nat×Value)} (aJ:c2 n D M a) {us:List Operand} {vs:List Value} (h:iq M us=some vs):us.toArray.map a.eval=vs.toArray:=by
 have:=aJ.iq h
 simp[this]
end
end

section
def u0(id:Nat):Nat->List bg->List bg
 | 0,.val (.slice none 0 0) :: r=>.ak id :: r
 | p+1,c :: r=>c :: u0 id p r
 | _,cs=>cs
def jG(k p id:Nat):bE->bE
 | []=>[]
 | (j,.cells t cs) :: r=>match Nat.beq j k with
  | true=>(j,.cells t (u0 id p cs)) :: r
  | false=>(j,.cells t cs) :: jG k p id r
 | b :: r=>b :: jG k p id r
section
variable {env:Nat->Loc} {B:Nat->Prop} {w:World} {id:Nat} (he:env id=.row none 0 0)
include he
theorem cC.u0:∀ {p:Nat} {cs:List bg} {vs:List Value},cC env B w cs vs->cC env B w (u0 id p cs) vs:=by
 intro p
 induction p with
 | zero=>
  intro cs vs h;unfold Go.Proofs.YtldjgdggcodgeaaGreat.u0
  split
  ·obtain⟨v,r,e,J,U⟩:=h
   exact⟨v,r,e,⟨none,0,0,he,J⟩,U⟩
  ·omega
  ·exact h
 | succ p bJ=>
  intro cs vs h;cases cs with
  | nil=>exact h
  | cons c r=>
   obtain⟨v,q,e,J,U⟩:=h;exact⟨v,q,e,J,bJ U⟩
theorem bt.jG{k p:Nat}:∀ {l:bE} {H:List bc},bt env B w l H->bt env B w (jG k p id l) H
 | [],_,h=>h
 | (j,.cells t cs) :: r,_,⟨c,H',e,J,U⟩=>by
  unfold Go.Proofs.YtldjgdggcodgeaaGreat.jG
  split
  ·obtain⟨b,vs,ag,ay,aO⟩:=J
   exact⟨c,H',e,⟨b,vs,ag,ay,cC.u0 he aO⟩,U⟩
  ·exact⟨c,H',e,J,bt.jG U⟩
 | (j,.row _ _ _ _) :: r,_,⟨c,H',e,J,U⟩=>⟨c,H',e,J,bt.jG U⟩
 | (j,.hf _ _) :: r,_,⟨c,H',e,J,U⟩=>⟨c,H',e,J,bt.jG U⟩
 | (j,.mp _ _ _ _) :: r,_,⟨c,H',e,J,U⟩=>⟨c,H',e,J,bt.jG U⟩
 | (j,.it _ _ _ _) :: r,_,⟨c,H',e,J,U⟩=>⟨c,H',e,J,bt.jG U⟩
 | (j,.kO) :: r,_,⟨c,H',e,J,U⟩=>⟨c,H',e,J,bt.jG U⟩
 | (j,.bX _ _ _ _ _ _ _) :: r,_,⟨c,H',e,J,U⟩=>⟨c,H',e,J,bt.jG U⟩
 | (j,.j9) :: r,_,⟨c,H',e,J,U⟩=>⟨c,H',e,J,bt.jG U⟩
 | (j,.fw _ _ _) :: r,_,⟨c,H',e,J,U⟩=>⟨c,H',e,J,bt.jG U⟩
 | (j,.bQ _ _ _ _ _ _) :: r,_,⟨c,H',e,J,U⟩=>⟨c,H',e,J,bt.jG U⟩
end
theorem dk.nr{X:bq} {n:Nat} {st:aM} (k p id:Nat) (t:TypeId) (g:ba) (ji:Nat.blt id n=true):dk X n st ⟨fe id .dead st.L,(id,.row t g [] none) :: jG k p id (dG id .dead st.H)⟩:=fun R W aD M a w ⟨ks,env,B,ai,H,cp,h⟩=>by
 obtain⟨H2,J,U⟩:=h.heap.del (z:=.dead) (h4 (env:=env) (id:=id) (l:=.row none 0 0)) (fun _ _=>trivial);refine⟨ks,h8 env id (.row none 0 0),B,ai,.row none 0 t g.size 0 [] :: H2,cp,h.size,h.defs,fun q u hu=>?_,⟨_,H2,rfl,⟨none,0,[],e8,rfl,rfl,fun _ ao=>by cases ao⟩,bt.jG e8 U⟩,(h.aU.oL t g.size).en ((J.append_right _).cons_cons _),h.sub,h.new,nY h.dt (fun q an=>by have J:=(h.dt _ _ an).1; have U:=dK ji; omega),h.base,h.dX⟩;obtain⟨hz,hA,rfl⟩:=lK hu;obtain⟨eF,aK,bY⟩:=h.has q hz hA;exact⟨eF,aK,ei.sub (z:=.dead) h4 (fun _ _=>trivial) bY⟩
end

theorem TY{env:Nat->Loc} {B:Nat->Prop} {w:World} {g:ba} {v:Value} (h:dH env B w (.c (.val (.slice none 0 0))) v):dH env B w (.c (.bd g [] (some 0))) v:=by
 have e:v=_:=h;subst e;exact⟨none,0,[],rfl,Nat.le_refl _,Nat.zero_le _,fun _ h=>by cases h; rfl,rfl,Reads.nil _ _ _,fun _ _ h=>absurd h (Nat.lt_irrefl 0)⟩
theorem Fh{B:Nat->Prop} {w:World} {k:IntKind}:∀ {l:List Int} {vs:List Value},Flat (bP B w (.int k)) l vs->vs=l.map fun z=>Value.int k z
 | [],_,h=>h
 | x :: l,_,⟨v1,v2,e,J,U⟩=>by rw[e,show v1=_ from J,Fh U]; rfl


def ia(d:TypeDesc)(s b:Nat)(z:Value)(g:Option ba):bo:=⟨⟨d,s,b,z⟩,g⟩
def kB(k:IntKind)(b:Nat):bo:=ia (.int k) 1 b (.int k 0) (some (.int k))
def df(a r:Array TypeId)(v:Bool):bo:=ia (.func a r v) 1 8 .nilFunc none
def u1(t:TypeId):bo:=ia (.pointer t) 1 8 (.pointer none) none
def kC(t:TypeId)(g:Option ba):bo:=ia (.slice t) 1 24 (.slice none 0 0) g
def cZ(n:String)(t:TypeId)(o b:Nat):Field:=⟨n,t,o,false,"","",b⟩
def iE(f:Array Field)(s b:Nat)(g:ba):bo:=ia (.struct f) s b (.agg g.eh.toArray) (some g)
theorem cN{P:Program} {t:TypeId} {d:TypeDesc} {s b:Nat} {z:Value} (h:P.underlying t=some d) (U:(P.info? t).map (fun x=>(x.size,x.bytes,x.zero))=some (s,b,some z)):bo.ok P t (ia d s b z none):=⟨⟨h,U⟩,fun g aV=>by cases aV⟩
theorem dM{P:Program} {t:TypeId} {d:TypeDesc} {s b:Nat} {z:Value} {g:ba} (h:P.underlying t=some d) (U:(P.info? t).map (fun x=>(x.size,x.bytes,x.zero))=some (s,b,some z)) (ag:g.size=s) (ay:z.cells.toList=g.eh) (aO:Nat.blt 0 s=true):bo.ok P t (ia d s b z (some g)):=⟨⟨h,U⟩,fun cr aV=>by cases aV;exact⟨ag,ay,ag ▸ dK aO⟩⟩
def TZ:bo:=df #[] #[] false
def T0:bo:=kB .i64 8
def T1:bo:=kB .i64 8
def T2:bo:=ia (.bool) 1 1 (.bool false) (some (.bool))
def T3:bo:=kB .u8 1
def T4:bo:=kB .u8 1
def T5:bo:=ia (.string) 1 16 (.string { data:=#[] }) (some (.str))
def T6:bo:=ia (.string) 1 16 (.string { data:=#[] }) (some (.str))
def T7:bo:=ia (.string) 1 16 (.string { data:=#[] }) (some (.str))
def T8:bo:=kB .u64 8
def T9:bo:=u1 252
def Ua:bo:=u1 255
def Ub:bo:=u1 263
def Uc:bo:=ia (.interface #[]) 1 16 (.nilIface) none
def Ud:bo:=kB .i32 4
def Ue:bo:=kC 5 (some (.ak (.int .u8)))
def Uf:bo:=iE #[cZ "Width" 5 0 0,cZ "Height" 5 1 1,cZ "Stitches" 22 2 8] 3 32 (.pair (.int .u8) (.pair (.int .u8) (.ak (.int .u8))))
def Ug:bo:=iE #[cZ "Width" 5 0 0,cZ "Height" 5 1 1,cZ "Stitches" 22 2 8] 3 32 (.pair (.int .u8) (.pair (.int .u8) (.ak (.int .u8))))
def Uh:bo:=kC 34 (some (.ak (.ak (.pair (.int .u8) (.pair (.int .u8) (.pair (.int .i64) (.pair (.int .i64) (.bool))))))))
def Ui:bo:=iE #[cZ "Rows" 25 0 0] 1 24 (.ak (.ak (.pair (.int .u8) (.pair (.int .u8) (.pair (.int .i64) (.pair (.int .i64) (.bool)))))))
def Uj:bo:=iE #[cZ "Rows" 25 0 0] 1 24 (.ak (.ak (.pair (.int .u8) (.pair (.int .u8) (.pair (.int .i64) (.pair (.int .i64) (.bool)))))))
def Uk:bo:=df #[] #[27] false
def Ul:bo:=iE #[cZ "Yarn" 5 0 0,cZ "N" 3 1 8] 2 16 (.pair (.int .u8) (.int .i64))
def Um:bo:=iE #[cZ "Yarn" 5 0 0,cZ "N" 3 1 8] 2 16 (.pair (.int .u8) (.int .i64))
def Un:bo:=kB .i64 8
def Uo:bo:=df #[27,3,3] #[30,31] false
def Up:bo:=kC 46 (some (.ak (.pair (.int .u8) (.pair (.int .u8) (.pair (.int .i64) (.pair (.int .i64) (.bool)))))))
def Uq:bo:=df #[] #[4] false
def Ur:bo:=kC 47 (some (.ak (.ak (.pair (.int .u8) (.pair (.bool) (.pair (.ak (.pair (.int .u8) (.int .i64))) (.ak (.pair (.pair (.int .u8) (.int .i64)) (.pair (.bool) (.int .u8))))))))))
def Us:bo:=kC 47 (some (.ak (.ak (.pair (.int .u8) (.pair (.bool) (.pair (.ak (.pair (.int .u8) (.int .i64))) (.ak (.pair (.pair (.int .u8) (.int .i64)) (.pair (.bool) (.int .u8))))))))))
def Ut:bo:=kC 118 (some (.ak (.pair (.pair (.int .u8) (.int .i64)) (.pair (.pair (.int .u8) (.int .i64)) (.int .i64)))))
def Uu:bo:=kC 30 (some (.ak (.pair (.int .u8) (.int .i64))))
def Uv:bo:=iE #[cZ "Yarns" 37 0 0,cZ "Crossings" 38 1 24,cZ "Held" 39 2 48,cZ "Fallen" 39 3 72] 4 96 (.pair (.ak (.ak (.pair (.int .u8) (.pair (.bool) (.pair (.ak (.pair (.int .u8) (.int .i64))) (.ak (.pair (.pair (.int .u8) (.int .i64)) (.pair (.bool) (.int .u8))))))))) (.pair (.ak (.pair (.pair (.int .u8) (.int .i64)) (.pair (.pair (.int .u8) (.int .i64)) (.int .i64)))) (.pair (.ak (.pair (.int .u8) (.int .i64))) (.ak (.pair (.int .u8) (.int .i64))))))
def Uw:bo:=iE #[cZ "Yarns" 37 0 0,cZ "Crossings" 38 1 24,cZ "Held" 39 2 48,cZ "Fallen" 39 3 72] 4 96 (.pair (.ak (.ak (.pair (.int .u8) (.pair (.bool) (.pair (.ak (.pair (.int .u8) (.int .i64))) (.ak (.pair (.pair (.int .u8) (.int .i64)) (.pair (.bool) (.int .u8))))))))) (.pair (.ak (.pair (.pair (.int .u8) (.int .i64)) (.pair (.pair (.int .u8) (.int .i64)) (.int .i64)))) (.pair (.ak (.pair (.int .u8) (.int .i64))) (.ak (.pair (.int .u8) (.int .i64))))))
def Ux:bo:=df #[27] #[41,31] false
def Uy:bo:=kB .u8 1
def Uz:bo:=iE #[cZ "Kind" 44 0 0,cZ "Yarn" 5 1 1,cZ "A" 3 2 8,cZ "B" 3 3 16,cZ "Front" 4 4 24] 5 32 (.pair (.int .u8) (.pair (.int .u8) (.pair (.int .i64) (.pair (.int .i64) (.bool)))))
def UA:bo:=iE #[cZ "Kind" 44 0 0,cZ "Yarn" 5 1 1,cZ "A" 3 2 8,cZ "B" 3 3 16,cZ "Front" 4 4 24] 5 32 (.pair (.int .u8) (.pair (.int .u8) (.pair (.int .i64) (.pair (.int .i64) (.bool)))))
def UB:bo:=kC 51 (some (.ak (.pair (.int .u8) (.pair (.bool) (.pair (.ak (.pair (.int .u8) (.int .i64))) (.ak (.pair (.pair (.int .u8) (.int .i64)) (.pair (.bool) (.int .u8)))))))))
def UC:bo:=kB .u8 1
def UD:bo:=kC 123 (some (.ak (.pair (.pair (.int .u8) (.int .i64)) (.pair (.bool) (.int .u8)))))
def UE:bo:=iE #[cZ "Bed" 48 0 0,cZ "New" 4 1 1,cZ "Through" 39 2 8,cZ "Past" 49 3 32] 4 56 (.pair (.int .u8) (.pair (.bool) (.pair (.ak (.pair (.int .u8) (.int .i64))) (.ak (.pair (.pair (.int .u8) (.int .i64)) (.pair (.bool) (.int .u8)))))))
def UF:bo:=iE #[cZ "Bed" 48 0 0,cZ "New" 4 1 1,cZ "Through" 39 2 8,cZ "Past" 49 3 32] 4 56 (.pair (.int .u8) (.pair (.bool) (.pair (.ak (.pair (.int .u8) (.int .i64))) (.ak (.pair (.pair (.int .u8) (.int .i64)) (.pair (.bool) (.int .u8)))))))
def UG:bo:=df #[34] #[5] false
def UH:bo:=df #[24,3,3] #[4] false
def UI:bo:=df #[27] #[31] false
def UJ:bo:=df #[27] #[4] false
def UK:bo:=df #[27] #[9] false
def UL:bo:=kC 22 (some (.ak (.ak (.int .u8))))
def UM:bo:=df #[27] #[57] false
def UN:bo:=df #[41] #[27,31] false
def UO:bo:=df #[41] #[31] false
def UP:bo:=df #[41] #[4] false
def UQ:bo:=df #[27,41] #[4] false
def UR:bo:=kC 65 (some (.ak (.pair (.int .u8) (.int .u8))))
def US:bo:=ia (.array 2 5) 2 2 (.agg #[.int .u8 0,.int .u8 0]) (some (.pair (.int .u8) (.int .u8)))
def UT:bo:=df #[34] #[3] false
def UU:bo:=df #[27,27] #[4] false
def UW:bo:=df #[24,64,65] #[4] false
def UX:bo:=df #[34,5] #[3] false
def UY:bo:=kC 121 (some (.ak (.pair (.int .u8) (.ak (.pair (.int .u8) (.int .i64))))))
def UZ:bo:=kC 112 (some (.ak (.pair (.bool) (.pair (.int .i64) (.pair (.int .i64) (.pair (.bool) (.ak (.pair (.pair (.int .u8) (.int .i64)) (.pair (.bool) (.int .u8))))))))))
def U0:bo:=kB .u8 1
def U1:bo:=iE #[cZ "Slots" 70 0 0,cZ "Yarns" 71 1 24,cZ "Fabric" 41 2 48,cZ "Dir" 72 6 144] 7 152 (.pair (.ak (.pair (.int .u8) (.ak (.pair (.int .u8) (.int .i64))))) (.pair (.ak (.pair (.bool) (.pair (.int .i64) (.pair (.int .i64) (.pair (.bool) (.ak (.pair (.pair (.int .u8) (.int .i64)) (.pair (.bool) (.int .u8))))))))) (.pair (.pair (.ak (.ak (.pair (.int .u8) (.pair (.bool) (.pair (.ak (.pair (.int .u8) (.int .i64))) (.ak (.pair (.pair (.int .u8) (.int .i64)) (.pair (.bool) (.int .u8))))))))) (.pair (.ak (.pair (.pair (.int .u8) (.int .i64)) (.pair (.pair (.int .u8) (.int .i64)) (.int .i64)))) (.pair (.ak (.pair (.int .u8) (.int .i64))) (.ak (.pair (.int .u8) (.int .i64)))))) (.int .u8))))
def U2:bo:=iE #[cZ "Slots" 70 0 0,cZ "Yarns" 71 1 24,cZ "Fabric" 41 2 48,cZ "Dir" 72 6 144] 7 152 (.pair (.ak (.pair (.int .u8) (.ak (.pair (.int .u8) (.int .i64))))) (.pair (.ak (.pair (.bool) (.pair (.int .i64) (.pair (.int .i64) (.pair (.bool) (.ak (.pair (.pair (.int .u8) (.int .i64)) (.pair (.bool) (.int .u8))))))))) (.pair (.pair (.ak (.ak (.pair (.int .u8) (.pair (.bool) (.pair (.ak (.pair (.int .u8) (.int .i64))) (.ak (.pair (.pair (.int .u8) (.int .i64)) (.pair (.bool) (.int .u8))))))))) (.pair (.ak (.pair (.pair (.int .u8) (.int .i64)) (.pair (.pair (.int .u8) (.int .i64)) (.int .i64)))) (.pair (.ak (.pair (.int .u8) (.int .i64))) (.ak (.pair (.int .u8) (.int .i64)))))) (.int .u8))))
def U3:bo:=df #[27,3] #[74,31] false
def U4:bo:=df #[74,5] #[41,31] false
def U5:bo:=kC 132 (some (.ak (.ak (.int .i64))))
def U6:bo:=df #[27] #[78,31] false
def U7:bo:=u1 83
def U8:bo:=ia (.struct #[{ name := "addr",type := 81,offset := 0,embedded := false,tag := "",pkgPath := "strings",byteOffset := 0 },{ name := "buf",type := 22,offset := 1,embedded := false,tag := "",pkgPath := "strings",byteOffset := 8 }]) 2 32 (.agg #[.pointer none,.slice none 0 0]) none
def U9:bo:=ia (.struct #[{ name := "addr",type := 81,offset := 0,embedded := false,tag := "",pkgPath := "strings",byteOffset := 0 },{ name := "buf",type := 22,offset := 1,embedded := false,tag := "",pkgPath := "strings",byteOffset := 8 }]) 2 32 (.agg #[.pointer none,.slice none 0 0]) none
def Va:bo:=df #[135] #[] false
def Vb:bo:=df #[135] #[] false
def Vc:bo:=df #[25] #[85] false
def Vd:bo:=ia (.interface #[("Error",90)]) 1 16 (.nilIface) none
def Ve:bo:=ia (.interface #[("Error",90)]) 1 16 (.nilIface) none
def Vf:bo:=df #[5] #[88] false
def Vg:bo:=df #[] #[9] false
def Vh:bo:=df #[27,92] #[57] false
def Vi:bo:=df #[46] #[5] false
def Vj:bo:=df #[137] #[] false
def Vk:bo:=df #[137] #[] false
def Vl:bo:=df #[41,39] #[94] false
def Vm:bo:=df #[41] #[39] false
def Vn:bo:=df #[25] #[] false
def Vo:bo:=df #[25] #[25] false
def Vp:bo:=df #[41,41] #[4] false
def Vq:bo:=df #[37] #[31] false
def Vr:bo:=df #[34,102] #[3] false
def Vs:bo:=df #[46] #[3] false
def Vt:bo:=df #[25,25,106] #[4] false
def Vu:bo:=df #[34,34,105] #[4] false
def Vv:bo:=df #[46,46] #[4] false
def Vw:bo:=df #[34,34] #[4] false
def Vx:bo:=df #[5,3] #[74,31] false
def Vy:bo:=df #[74,25] #[74,3,31] false
def Vz:bo:=df #[74] #[31] false
def VA:bo:=iE #[cZ "In" 4 0 0,cZ "Place" 3 1 8,cZ "Count" 3 2 16,cZ "New" 4 3 24,cZ "Pending" 49 4 32] 5 56 (.pair (.bool) (.pair (.int .i64) (.pair (.int .i64) (.pair (.bool) (.ak (.pair (.pair (.int .u8) (.int .i64)) (.pair (.bool) (.int .u8))))))))
def VB:bo:=iE #[cZ "In" 4 0 0,cZ "Place" 3 1 8,cZ "Count" 3 2 16,cZ "New" 4 3 24,cZ "Pending" 49 4 32] 5 56 (.pair (.bool) (.pair (.int .i64) (.pair (.int .i64) (.pair (.bool) (.ak (.pair (.pair (.int .u8) (.int .i64)) (.pair (.bool) (.int .u8))))))))
def VC:bo:=df #[37] #[3] false
def VD:bo:=df #[39,30] #[39] false
def VE:bo:=df #[39] #[39] false
def VF:bo:=df #[38] #[38] false
def VG:bo:=iE #[cZ "A" 30 0 0,cZ "B" 30 2 16,cZ "N" 3 4 32] 5 40 (.pair (.pair (.int .u8) (.int .i64)) (.pair (.pair (.int .u8) (.int .i64)) (.int .i64)))
def VH:bo:=iE #[cZ "A" 30 0 0,cZ "B" 30 2 16,cZ "N" 3 4 32] 5 40 (.pair (.pair (.int .u8) (.int .i64)) (.pair (.pair (.int .u8) (.int .i64)) (.int .i64)))
def VI:bo:=df #[37,5,3] #[37] false
def VJ:bo:=iE #[cZ "Bed" 48 0 0,cZ "Loops" 39 1 8] 2 32 (.pair (.int .u8) (.ak (.pair (.int .u8) (.int .i64))))
def VK:bo:=iE #[cZ "Bed" 48 0 0,cZ "Loops" 39 1 8] 2 32 (.pair (.int .u8) (.ak (.pair (.int .u8) (.int .i64))))
def VL:bo:=iE #[cZ "Id" 30 0 0,cZ "Front" 4 2 16,cZ "Dir" 72 3 17] 4 24 (.pair (.pair (.int .u8) (.int .i64)) (.pair (.bool) (.int .u8)))
def VM:bo:=iE #[cZ "Id" 30 0 0,cZ "Front" 4 2 16,cZ "Dir" 72 3 17] 4 24 (.pair (.pair (.int .u8) (.int .i64)) (.pair (.bool) (.int .u8)))
def VN:bo:=df #[112,3,49] #[112,31] false
def VO:bo:=iE #[cZ "N" 3 0 0,cZ "New" 4 1 8,cZ "Past" 49 2 16] 3 40 (.pair (.int .i64) (.pair (.bool) (.ak (.pair (.pair (.int .u8) (.int .i64)) (.pair (.bool) (.int .u8))))))
def VP:bo:=iE #[cZ "N" 3 0 0,cZ "New" 4 1 8,cZ "Past" 49 2 16] 3 40 (.pair (.int .i64) (.pair (.bool) (.ak (.pair (.pair (.int .u8) (.int .i64)) (.pair (.bool) (.int .u8))))))
def VQ:bo:=df #[112] #[112,127,31] false
def VR:bo:=df #[49] #[49] false
def VS:bo:=df #[25] #[31] false
def VT:bo:=kC 3 (some (.ak (.int .i64)))
def VU:bo:=df #[46,132] #[132,31] false
def VV:bo:=df #[3,34] #[4] false
def VW:bo:=u1 5
def VX:bo:=df #[34] #[4] false
def VY:bo:=df #[37,30] #[51,31] false
def VZ:bo:=df #[39] #[] false
def V0:bo:=df #[39,39] #[4] false
def V1:bo:=df #[49,49] #[4] false
def V3:bo:=df #[51,51] #[4] false
def V4:bo:=df #[47,47] #[4] false
def V5:bo:=df #[30,30] #[3] false
def V6:bo:=df #[118,118] #[3] false
def V7:bo:=ia (.array 2 39) 2 48 (.agg #[.slice none 0 0,.slice none 0 0]) (some (.pair (.ak (.pair (.int .u8) (.int .i64))) (.ak (.pair (.int .u8) (.int .i64)))))
def V8:bo:=ia (.map 30 3) 1 8 (.map none) none
def V9:bo:=df #[46] #[31] false
def Wa:bo:=df #[] #[41] false
def Wb:bo:=u1 160
def Wc:bo:=kC 70 (some (.ak (.ak (.pair (.int .u8) (.ak (.pair (.int .u8) (.int .i64)))))))
def Wd:bo:=ia (.struct #[{ name := "row",type := 34,offset := 0,embedded := false,tag := "",pkgPath := "gansey/rows",byteOffset := 0 },{ name := "slots",type := 158,offset := 1,embedded := false,tag := "",pkgPath := "gansey/rows",byteOffset := 24 },{ name := "yarns",type := 71,offset := 2,embedded := false,tag := "",pkgPath := "gansey/rows",byteOffset := 48 },{ name := "table",type := 37,offset := 3,embedded := false,tag := "",pkgPath := "gansey/rows",byteOffset := 72 },{ name := "dir",type := 72,offset := 4,embedded := false,tag := "",pkgPath := "gansey/rows",byteOffset := 96 }]) 5 104 (.agg #[.slice none 0 0,.slice none 0 0,.slice none 0 0,.slice none 0 0,.int .u8 0]) (some (.pair (.ak (.pair (.int .u8) (.pair (.int .u8) (.pair (.int .i64) (.pair (.int .i64) (.bool)))))) (.pair (.ak (.ak (.pair (.int .u8) (.ak (.pair (.int .u8) (.int .i64)))))) (.pair (.ak (.pair (.bool) (.pair (.int .i64) (.pair (.int .i64) (.pair (.bool) (.ak (.pair (.pair (.int .u8) (.int .i64)) (.pair (.bool) (.int .u8))))))))) (.pair (.ak (.ak (.pair (.int .u8) (.pair (.bool) (.pair (.ak (.pair (.int .u8) (.int .i64))) (.ak (.pair (.pair (.int .u8) (.int .i64)) (.pair (.bool) (.int .u8))))))))) (.int .u8))))))
def We:bo:=ia (.struct #[{ name := "row",type := 34,offset := 0,embedded := false,tag := "",pkgPath := "gansey/rows",byteOffset := 0 },{ name := "slots",type := 158,offset := 1,embedded := false,tag := "",pkgPath := "gansey/rows",byteOffset := 24 },{ name := "yarns",type := 71,offset := 2,embedded := false,tag := "",pkgPath := "gansey/rows",byteOffset := 48 },{ name := "table",type := 37,offset := 3,embedded := false,tag := "",pkgPath := "gansey/rows",byteOffset := 72 },{ name := "dir",type := 72,offset := 4,embedded := false,tag := "",pkgPath := "gansey/rows",byteOffset := 96 }]) 5 104 (.agg #[.slice none 0 0,.slice none 0 0,.slice none 0 0,.slice none 0 0,.int .u8 0]) (some (.pair (.ak (.pair (.int .u8) (.pair (.int .u8) (.pair (.int .i64) (.pair (.int .i64) (.bool)))))) (.pair (.ak (.ak (.pair (.int .u8) (.ak (.pair (.int .u8) (.int .i64)))))) (.pair (.ak (.pair (.bool) (.pair (.int .i64) (.pair (.int .i64) (.pair (.bool) (.ak (.pair (.pair (.int .u8) (.int .i64)) (.pair (.bool) (.int .u8))))))))) (.pair (.ak (.ak (.pair (.int .u8) (.pair (.bool) (.pair (.ak (.pair (.int .u8) (.int .i64))) (.ak (.pair (.pair (.int .u8) (.int .i64)) (.pair (.bool) (.int .u8))))))))) (.int .u8))))))
def Wf:bo:=df #[5] #[31] false
def Wg:bo:=df #[5,48,39] #[30,31] false
def Wh:bo:=df #[5,3,49] #[31] false
def Wi:bo:=df #[41,70] #[74] false
def Wj:bo:=df #[74] #[74] false
def Wk:bo:=df #[74,34] #[74,31] false
def Wl:bo:=df #[123] #[4] false
def Wm:bo:=df #[49,49] #[49] false
def Wn:bo:=ia (.unsafePointer) 1 8 (.pointer none) none
def Wo:bo:=df #[207] #[] false
def Wp:bo:=kC 39 (some (.ak (.ak (.pair (.int .u8) (.int .i64)))))
def Wq:bo:=kB .u64 8
def Wr:bo:=df #[5] #[4] false
def Ws:bo:=df #[46] #[4] false
def Wt:bo:=df #[3] #[31] false
def Wu:bo:=ia (.array 9 216) 9 72 (.agg #[.nilFunc,.nilFunc,.nilFunc,.nilFunc,.nilFunc,.nilFunc,.nilFunc,.nilFunc,.nilFunc]) none
def Wv:bo:=kB .i64 8
def Ww:bo:=kB .u32 4
def Wx:bo:=kB .u64 8
def Wy:bo:=df #[118] #[4] false
def Wz:bo:=kC 38 (some (.ak (.ak (.pair (.pair (.int .u8) (.int .i64)) (.pair (.pair (.int .u8) (.int .i64)) (.int .i64))))))
def WA:bo:=ia (.array 0 16) 0 0 (.agg #[]) none
def WB:bo:=kB .u8 1
def WC:bo:=kB .u8 1
def WD:bo:=df #[175,175] #[4] false
def WE:bo:=kB .i32 4
def WG:bo:=kB .i32 4
def WH:bo:=ia (.struct #[cZ "Size_" 12 0 0,cZ "PtrBytes" 12 1 8,cZ "Hash" 228 2 16,cZ "TFlag" 257 3 20,cZ "Align_" 5 4 21,cZ "FieldAlign_" 5 5 22,cZ "Kind_" 258 6 23,cZ "Equal" 259 7 24,cZ "GCData" 136 8 32,cZ "Str" 260 9 40,cZ "PtrToThis" 261 10 44]) 11 48 (.agg #[.int .u64 0,.int .u64 0,.int .u32 0,.int .u8 0,.int .u8 0,.int .u8 0,.int .u8 0,.nilFunc,.pointer none,.int .i32 0,.int .i32 0]) none
def a7:cj:=(.node (.node (.node (.node (.node (.node (.node (.node .leaf 1 TZ .leaf) 2 T0 .leaf) 3 T1 (.node (.node .leaf 4 T2 .leaf) 5 T3 .leaf)) 6 T4 (.node (.node (.node .leaf 9 T5 .leaf) 10 T6 .leaf) 11 T7 (.node .leaf 12 T8 .leaf))) 15 T9 (.node (.node (.node (.node .leaf 16 Ua .leaf) 17 Ub .leaf) 20 Uc (.node .leaf 21 Ud .leaf)) 22 Ue (.node (.node (.node .leaf 23 Uf .leaf) 24 Ug .leaf) 25 Uh (.node .leaf 26 Ui .leaf)))) 27 Uj (.node (.node (.node (.node (.node .leaf 28 Uk .leaf) 29 Ul .leaf) 30 Um (.node (.node .leaf 31 Un .leaf) 33 Uo .leaf)) 34 Up (.node (.node (.node .leaf 35 Uq .leaf) 36 Ur .leaf) 37 Us (.node .leaf 38 Ut .leaf))) 39 Uu (.node (.node (.node (.node .leaf 40 Uv .leaf) 41 Uw .leaf) 43 Ux (.node .leaf 44 Uy .leaf)) 45 Uz (.node (.node (.node .leaf 46 UA .leaf) 47 UB .leaf) 48 UC (.node .leaf 49 UD .leaf))))) 50 UE (.node (.node (.node (.node (.node (.node .leaf 51 UF .leaf) 52 UG .leaf) 53 UH (.node (.node .leaf 54 UI .leaf) 55 UJ .leaf)) 56 UK (.node (.node (.node .leaf 57 UL .leaf) 58 UM .leaf) 60 UN (.node .leaf 61 UO .leaf))) 62 UP (.node (.node (.node (.node .leaf 63 UQ .leaf) 64 UR .leaf) 65 US (.node .leaf 66 UT .leaf)) 67 UU (.node (.node (.node .leaf 68 UW .leaf) 69 UX .leaf) 70 UY (.node .leaf 71 UZ .leaf)))) 72 U0 (.node (.node (.node (.node (.node .leaf 73 U1 .leaf) 74 U2 .leaf) 76 U3 (.node (.node .leaf 77 U4 .leaf) 78 U5 .leaf)) 80 U6 (.node (.node (.node .leaf 81 U7 .leaf) 82 U8 .leaf) 83 U9 (.node .leaf 84 Va .leaf))) 85 Vb (.node (.node (.node (.node .leaf 86 Vc .leaf) 87 Vd .leaf) 88 Ve (.node .leaf 89 Vf .leaf)) 90 Vg (.node (.node (.node .leaf 91 Vh .leaf) 92 Vi .leaf) 93 Vj (.node .leaf 94 Vk .leaf)))))) 95 Vl (.node (.node (.node (.node (.node (.node (.node .leaf 96 Vm .leaf) 97 Vn .leaf) 98 Vo (.node (.node .leaf 99 Vp .leaf) 100 Vq .leaf)) 101 Vr (.node (.node (.node .leaf 102 Vs .leaf) 103 Vt .leaf) 104 Vu (.node .leaf 105 Vv .leaf))) 106 Vw (.node (.node (.node (.node .leaf 107 Vx .leaf) 109 Vy .leaf) 110 Vz (.node .leaf 111 VA .leaf)) 112 VB (.node (.node (.node .leaf 113 VC .leaf) 114 VD .leaf) 115 VE (.node .leaf 116 VF .leaf)))) 117 VG (.node (.node (.node (.node (.node .leaf 118 VH .leaf) 119 VI .leaf) 120 VJ (.node (.node .leaf 121 VK .leaf) 122 VL .leaf)) 123 VM (.node (.node (.node .leaf 125 VN .leaf) 126 VO .leaf) 127 VP (.node .leaf 129 VQ .leaf))) 130 VR (.node (.node (.node (.node .leaf 131 VS .leaf) 132 VT .leaf) 134 VU (.node .leaf 135 VV .leaf)) 136 VW (.node (.node (.node .leaf 137 VX .leaf) 139 VY .leaf) 140 VZ (.node .leaf 141 V0 .leaf))))) 142 V1 (.node (.node (.node (.node (.node (.node .leaf 143 V3 .leaf) 145 V4 .leaf) 151 V5 (.node (.node .leaf 152 V6 .leaf) 153 V7 .leaf)) 154 V8 (.node (.node (.node .leaf 155 V9 .leaf) 156 Wa .leaf) 157 Wb (.node .leaf 158 Wc .leaf))) 159 Wd (.node (.node (.node (.node .leaf 160 We .leaf) 161 Wf .leaf) 162 Wg (.node .leaf 163 Wh .leaf)) 164 Wi (.node (.node (.node .leaf 165 Wj .leaf) 166 Wk .leaf) 172 Wl (.node .leaf 173 Wm .leaf)))) 175 Wn (.node (.node (.node (.node (.node .leaf 195 Wo .leaf) 198 Wp .leaf) 202 Wq (.node .leaf 207 Wr .leaf)) 214 Ws (.node (.node (.node .leaf 216 Wt .leaf) 217 Wu .leaf) 220 Wv (.node .leaf 228 Ww .leaf))) 230 Wx (.node (.node (.node (.node .leaf 235 Wy .leaf) 243 Wz .leaf) 253 WA (.node .leaf 257 WB .leaf)) 258 WC (.node (.node (.node .leaf 259 WD .leaf) 260 WE .leaf) 261 WG (.node .leaf 263 WH .leaf)))))))
theorem bU:a7.ok Tryz.prog:=⟨⟨⟨⟨⟨⟨⟨⟨trivial,cN Tryz.underlying1 (by kernel_rfl),trivial⟩,dM Tryz.underlying2 (by kernel_rfl) rfl rfl rfl,trivial⟩,dM Tryz.underlying3 (by kernel_rfl) rfl rfl rfl,⟨⟨trivial,dM Tryz.underlying4 (by kernel_rfl) rfl rfl rfl,trivial⟩,dM Tryz.underlying5 (by kernel_rfl) rfl rfl rfl,trivial⟩⟩,dM Tryz.underlying6 (by kernel_rfl) rfl rfl rfl,⟨⟨⟨trivial,dM Tryz.underlying9 (by kernel_rfl) rfl rfl rfl,trivial⟩,dM Tryz.underlying10 (by kernel_rfl) rfl rfl rfl,trivial⟩,dM Tryz.underlying11 (by kernel_rfl) rfl rfl rfl,⟨trivial,dM Tryz.underlying12 (by kernel_rfl) rfl rfl rfl,trivial⟩⟩⟩,cN Tryz.underlying15 (by kernel_rfl),⟨⟨⟨⟨trivial,cN Tryz.underlying16 (by kernel_rfl),trivial⟩,cN Tryz.underlying17 (by kernel_rfl),trivial⟩,cN Tryz.underlying20 (by kernel_rfl),⟨trivial,dM Tryz.underlying21 (by kernel_rfl) rfl rfl rfl,trivial⟩⟩,dM Tryz.underlying22 (by kernel_rfl) rfl rfl rfl,⟨⟨⟨trivial,dM Tryz.underlying23 (by kernel_rfl) rfl rfl rfl,trivial⟩,dM Tryz.underlying24 (by kernel_rfl) rfl rfl rfl,trivial⟩,dM Tryz.underlying25 (by kernel_rfl) rfl rfl rfl,⟨trivial,dM Tryz.underlying26 (by kernel_rfl) rfl rfl rfl,trivial⟩⟩⟩⟩,dM Tryz.underlying27 (by kernel_rfl) rfl rfl rfl,⟨⟨⟨⟨⟨trivial,cN Tryz.underlying28 (by kernel_rfl),trivial⟩,dM Tryz.underlying29 (by kernel_rfl) rfl rfl rfl,trivial⟩,dM Tryz.underlying30 (by kernel_rfl) rfl rfl rfl,⟨⟨trivial,dM Tryz.underlying31 (by kernel_rfl) rfl rfl rfl,trivial⟩,cN Tryz.underlying33 (by kernel_rfl),trivial⟩⟩,dM Tryz.underlying34 (by kernel_rfl) rfl rfl rfl,⟨⟨⟨trivial,cN Tryz.underlying35 (by kernel_rfl),trivial⟩,dM Tryz.underlying36 (by kernel_rfl) rfl rfl rfl,trivial⟩,dM Tryz.underlying37 (by kernel_rfl) rfl rfl rfl,⟨trivial,dM Tryz.underlying38 (by kernel_rfl) rfl rfl rfl,trivial⟩⟩⟩,dM Tryz.underlying39 (by kernel_rfl) rfl rfl rfl,⟨⟨⟨⟨trivial,dM Tryz.underlying40 (by kernel_rfl) rfl rfl rfl,trivial⟩,dM Tryz.underlying41 (by kernel_rfl) rfl rfl rfl,trivial⟩,cN Tryz.underlying43 (by kernel_rfl),⟨trivial,dM Tryz.underlying44 (by kernel_rfl) rfl rfl rfl,trivial⟩⟩,dM Tryz.underlying45 (by kernel_rfl) rfl rfl rfl,⟨⟨⟨trivial,dM Tryz.underlying46 (by kernel_rfl) rfl rfl rfl,trivial⟩,dM Tryz.underlying47 (by kernel_rfl) rfl rfl rfl,trivial⟩,dM Tryz.underlying48 (by kernel_rfl) rfl rfl rfl,⟨trivial,dM Tryz.underlying49 (by kernel_rfl) rfl rfl rfl,trivial⟩⟩⟩⟩⟩,dM Tryz.underlying50 (by kernel_rfl) rfl rfl rfl,⟨⟨⟨⟨⟨⟨trivial,dM Tryz.underlying51 (by kernel_rfl) rfl rfl rfl,trivial⟩,cN Tryz.underlying52 (by kernel_rfl),trivial⟩,cN Tryz.underlying53 (by kernel_rfl),⟨⟨trivial,cN Tryz.underlying54 (by kernel_rfl),trivial⟩,cN Tryz.underlying55 (by kernel_rfl),trivial⟩⟩,cN Tryz.underlying56 (by kernel_rfl),⟨⟨⟨trivial,dM Tryz.underlying57 (by kernel_rfl) rfl rfl rfl,trivial⟩,cN Tryz.underlying58 (by kernel_rfl),trivial⟩,cN Tryz.underlying60 (by kernel_rfl),⟨trivial,cN Tryz.underlying61 (by kernel_rfl),trivial⟩⟩⟩,cN Tryz.underlying62 (by kernel_rfl),⟨⟨⟨⟨trivial,cN Tryz.underlying63 (by kernel_rfl),trivial⟩,dM Tryz.underlying64 (by kernel_rfl) rfl rfl rfl,trivial⟩,dM Tryz.underlying65 (by kernel_rfl) rfl rfl rfl,⟨trivial,cN Tryz.underlying66 (by kernel_rfl),trivial⟩⟩,cN Tryz.underlying67 (by kernel_rfl),⟨⟨⟨trivial,cN Tryz.underlying68 (by kernel_rfl),trivial⟩,cN Tryz.underlying69 (by kernel_rfl),trivial⟩,dM Tryz.underlying70 (by kernel_rfl) rfl rfl rfl,⟨trivial,dM Tryz.underlying71 (by kernel_rfl) rfl rfl rfl,trivial⟩⟩⟩⟩,dM Tryz.underlying72 (by kernel_rfl) rfl rfl rfl,⟨⟨⟨⟨⟨trivial,dM Tryz.underlying73 (by kernel_rfl) rfl rfl rfl,trivial⟩,dM Tryz.underlying74 (by kernel_rfl) rfl rfl rfl,trivial⟩,cN Tryz.underlying76 (by kernel_rfl),⟨⟨trivial,cN Tryz.underlying77 (by kernel_rfl),trivial⟩,dM Tryz.underlying78 (by kernel_rfl) rfl rfl rfl,trivial⟩⟩,cN Tryz.underlying80 (by kernel_rfl),⟨⟨⟨trivial,cN Tryz.underlying81 (by kernel_rfl),trivial⟩,cN Tryz.underlying82 (by kernel_rfl),trivial⟩,cN Tryz.underlying83 (by kernel_rfl),⟨trivial,cN Tryz.underlying84 (by kernel_rfl),trivial⟩⟩⟩,cN Tryz.underlying85 (by kernel_rfl),⟨⟨⟨⟨trivial,cN Tryz.underlying86 (by kernel_rfl),trivial⟩,cN Tryz.underlying87 (by kernel_rfl),trivial⟩,cN Tryz.underlying88 (by kernel_rfl),⟨trivial,cN Tryz.underlying89 (by kernel_rfl),trivial⟩⟩,cN Tryz.underlying90 (by kernel_rfl),⟨⟨⟨trivial,cN Tryz.underlying91 (by kernel_rfl),trivial⟩,cN Tryz.underlying92 (by kernel_rfl),trivial⟩,cN Tryz.underlying93 (by kernel_rfl),⟨trivial,cN Tryz.underlying94 (by kernel_rfl),trivial⟩⟩⟩⟩⟩⟩,cN Tryz.underlying95 (by kernel_rfl),⟨⟨⟨⟨⟨⟨⟨trivial,cN Tryz.underlying96 (by kernel_rfl),trivial⟩,cN Tryz.underlying97 (by kernel_rfl),trivial⟩,cN Tryz.underlying98 (by kernel_rfl),⟨⟨trivial,cN Tryz.underlying99 (by kernel_rfl),trivial⟩,cN Tryz.underlying100 (by kernel_rfl),trivial⟩⟩,cN Tryz.underlying101 (by kernel_rfl),⟨⟨⟨trivial,cN Tryz.underlying102 (by kernel_rfl),trivial⟩,cN Tryz.underlying103 (by kernel_rfl),trivial⟩,cN Tryz.underlying104 (by kernel_rfl),⟨trivial,cN Tryz.underlying105 (by kernel_rfl),trivial⟩⟩⟩,cN Tryz.underlying106 (by kernel_rfl),⟨⟨⟨⟨trivial,cN Tryz.underlying107 (by kernel_rfl),trivial⟩,cN Tryz.underlying109 (by kernel_rfl),trivial⟩,cN Tryz.underlying110 (by kernel_rfl),⟨trivial,dM Tryz.underlying111 (by kernel_rfl) rfl rfl rfl,trivial⟩⟩,dM Tryz.underlying112 (by kernel_rfl) rfl rfl rfl,⟨⟨⟨trivial,cN Tryz.underlying113 (by kernel_rfl),trivial⟩,cN Tryz.underlying114 (by kernel_rfl),trivial⟩,cN Tryz.underlying115 (by kernel_rfl),⟨trivial,cN Tryz.underlying116 (by kernel_rfl),trivial⟩⟩⟩⟩,dM Tryz.underlying117 (by kernel_rfl) rfl rfl rfl,⟨⟨⟨⟨⟨trivial,dM Tryz.underlying118 (by kernel_rfl) rfl rfl rfl,trivial⟩,cN Tryz.underlying119 (by kernel_rfl),trivial⟩,dM Tryz.underlying120 (by kernel_rfl) rfl rfl rfl,⟨⟨trivial,dM Tryz.underlying121 (by kernel_rfl) rfl rfl rfl,trivial⟩,dM Tryz.underlying122 (by kernel_rfl) rfl rfl rfl,trivial⟩⟩,dM Tryz.underlying123 (by kernel_rfl) rfl rfl rfl,⟨⟨⟨trivial,cN Tryz.underlying125 (by kernel_rfl),trivial⟩,dM Tryz.underlying126 (by kernel_rfl) rfl rfl rfl,trivial⟩,dM Tryz.underlying127 (by kernel_rfl) rfl rfl rfl,⟨trivial,cN Tryz.underlying129 (by kernel_rfl),trivial⟩⟩⟩,cN Tryz.underlying130 (by kernel_rfl),⟨⟨⟨⟨trivial,cN Tryz.underlying131 (by kernel_rfl),trivial⟩,dM Tryz.underlying132 (by kernel_rfl) rfl rfl rfl,trivial⟩,cN Tryz.underlying134 (by kernel_rfl),⟨trivial,cN Tryz.underlying135 (by kernel_rfl),trivial⟩⟩,cN Tryz.underlying136 (by kernel_rfl),⟨⟨⟨trivial,cN Tryz.underlying137 (by kernel_rfl),trivial⟩,cN Tryz.underlying139 (by kernel_rfl),trivial⟩,cN Tryz.underlying140 (by kernel_rfl),⟨trivial,cN Tryz.underlying141 (by kernel_rfl),trivial⟩⟩⟩⟩⟩,cN Tryz.underlying142 (by kernel_rfl),⟨⟨⟨⟨⟨⟨trivial,cN Tryz.underlying143 (by kernel_rfl),trivial⟩,cN Tryz.underlying145 (by kernel_rfl),trivial⟩,cN Tryz.underlying151 (by kernel_rfl),⟨⟨trivial,cN Tryz.underlying152 (by kernel_rfl),trivial⟩,dM Tryz.underlying153 (by kernel_rfl) rfl rfl rfl,trivial⟩⟩,cN Tryz.underlying154 (by kernel_rfl),⟨⟨⟨trivial,cN Tryz.underlying155 (by kernel_rfl),trivial⟩,cN Tryz.underlying156 (by kernel_rfl),trivial⟩,cN Tryz.underlying157 (by kernel_rfl),⟨trivial,dM Tryz.underlying158 (by kernel_rfl) rfl rfl rfl,trivial⟩⟩⟩,dM Tryz.underlying159 (by kernel_rfl) rfl rfl rfl,⟨⟨⟨⟨trivial,dM Tryz.underlying160 (by kernel_rfl) rfl rfl rfl,trivial⟩,cN Tryz.underlying161 (by kernel_rfl),trivial⟩,cN Tryz.underlying162 (by kernel_rfl),⟨trivial,cN Tryz.underlying163 (by kernel_rfl),trivial⟩⟩,cN Tryz.underlying164 (by kernel_rfl),⟨⟨⟨trivial,cN Tryz.underlying165 (by kernel_rfl),trivial⟩,cN Tryz.underlying166 (by kernel_rfl),trivial⟩,cN Tryz.underlying172 (by kernel_rfl),⟨trivial,cN Tryz.underlying173 (by kernel_rfl),trivial⟩⟩⟩⟩,cN Tryz.underlying175 (by kernel_rfl),⟨⟨⟨⟨⟨trivial,cN Tryz.underlying195 (by kernel_rfl),trivial⟩,dM Tryz.underlying198 (by kernel_rfl) rfl rfl rfl,trivial⟩,dM Tryz.underlying202 (by kernel_rfl) rfl rfl rfl,⟨trivial,cN Tryz.underlying207 (by kernel_rfl),trivial⟩⟩,cN Tryz.underlying214 (by kernel_rfl),⟨⟨⟨trivial,cN Tryz.underlying216 (by kernel_rfl),trivial⟩,cN Tryz.underlying217 (by kernel_rfl),trivial⟩,dM Tryz.underlying220 (by kernel_rfl) rfl rfl rfl,⟨trivial,dM Tryz.underlying228 (by kernel_rfl) rfl rfl rfl,trivial⟩⟩⟩,dM Tryz.underlying230 (by kernel_rfl) rfl rfl rfl,⟨⟨⟨⟨trivial,cN Tryz.underlying235 (by kernel_rfl),trivial⟩,dM Tryz.underlying243 (by kernel_rfl) rfl rfl rfl,trivial⟩,cN Tryz.underlying253 (by kernel_rfl),⟨trivial,dM Tryz.underlying257 (by kernel_rfl) rfl rfl rfl,trivial⟩⟩,dM Tryz.underlying258 (by kernel_rfl) rfl rfl rfl,⟨⟨⟨trivial,cN Tryz.underlying259 (by kernel_rfl),trivial⟩,dM Tryz.underlying260 (by kernel_rfl) rfl rfl rfl,trivial⟩,dM Tryz.underlying261 (by kernel_rfl) rfl rfl rfl,⟨trivial,cN Tryz.underlying263 (by kernel_rfl),trivial⟩⟩⟩⟩⟩⟩⟩

def WI:Nat->Option AK
 | _=>none
noncomputable def bS:bq:=⟨Tryz.prog,a7,WI⟩

section
open Go.ChangeShapes Go.WideShapes Go.ChangeAt Go.WideElems Go.RowKit
section
variable {H:Type} {enc:TypeId×Value->H} {P:Program} {W:World}
def WJ(enc:TypeId×Value->H) (P:Program) (W:World) (t:TypeId) (g:ba) (R:g.D->Prop):Prop:=
 ∀ k cs x,DataW.trod enc P W 0 (fun _=>true) true k t cs=some x->∃ y:g.D,R y/\bP (fun b=>b < W.heap.size) W g y cs
theorem WK{t:TypeId} {k:IntKind} (aY:P.underlying t=some (.int k)):WJ enc P W t (.int k) (fun(y:Int)=>k.min<=y/\y<=k.max):=fun n cs x h=>by
 obtain⟨z,rfl,_,hw⟩:=DataW.trod_int aY h;exact⟨z,by simpa [Lit.wf] using hw,rfl⟩
theorem Lw{g:ba} {R:g.D->Prop}:∀ l:List { p:g.D×List Value // R p.1/\bP (fun b=>b < W.heap.size) W g p.1 p.2 },Flat (bP (fun b=>b < W.heap.size) W g) (l.map (·.1.1)) (l.flatMap (·.1.2))
 | []=>rfl
 | x :: l=>⟨x.1.2,l.flatMap (·.1.2),rfl,x.2.2,Lw l⟩
theorem WL{b o:Nat} {v:Value} (h:W.cell? ⟨b,o,none⟩=some v):b < W.heap.size:=by
 by_cases ae:b < W.heap.size
 ·exact ae
 ·simp[World.cell?,Array.getElem?_eq_none (by omega:W.heap.size<=b)]at h
end
theorem AC.law{X:bq} {f:FuncId} {args:List bh} {vs:List Value} {W:World} (h:AC X f args [] (fun sv h=>sv=.c (.val (.bool true))/\h=[])) (aV:uI X (fun b=>b < W.heap.size) W) (aS:dF (fun _=>.no) (fun b=>b < W.heap.size) W args vs):oH X.P f vs.toArray W (fun v w'=>v=.bool true/\Below W.heap.size W w'):=by
 refine(h (fun b=>b < W.heap.size) W (fun _=>.no) vs [] W aV aS rfl (bK.start W)).mono ?_;rintro v w' ⟨env',B',cJ,H',sv,a8,⟨rfl,rfl⟩,J,U,ag,ay,aO,aK,bY⟩;have au:∀ k,k < W.heap.size->Rest W [] k:=fun k ab=>⟨ab,fun c aa=>by cases aa⟩
 exact⟨ay,aK.below.os.trans ag.os,aK.below.tape.trans ag.tape,aK.below.output.trans ag.output,Nat.le_trans ag.size aK.below.size,fun k ab=>(aK.below.block k (.inl (au k ab))).trans (ag.block k (au k ab))⟩
end

section
def ar{α:Type} (c:Bool) (k:Option α):Option α:=match c with
 | true=>k
 | false=>none
theorem hp{α:Type} {c:Bool} {k:Option α} {r:α} (h:ar c k=some r):c=true/\k=some r:=by
 cases c with
 | true=>exact⟨rfl,h⟩
 | false=>cases h
theorem ri{α β:Type} {x:Option α} {f:α->Option β} {r:β} (h:x.bind f=some r):∃ a,x=some a/\f a=some r:=by
 cases x with
 | none=>cases h
 | some a=>exact⟨a,rfl,h⟩
theorem WM{α:Type} {b:Bool} {x y z:α} (ae:b=true) (h:cond b x y=z):x=z:=by rw[ae]at h; exact h
theorem WN{α:Type} {b:Bool} {x y z:α} (ae:b=false) (h:cond b x y=z):y=z:=by rw[ae]at h; exact h
abbrev sm {α β ke:Type} (x:α⊕β) (f:α->Option ke) (g:β->Option ke):Option ke:=match x with
 | .inl a=>f a
 | .inr b=>g b
def rj(id:Nat):bE->bE
 | []=>[]
 | (j,.row t g l c) :: r=>match Nat.beq j id with
  | true=>(j,.row t g l none) :: r
  | false=>(j,.row t g l c) :: rj id r
 | b :: r=>b :: rj id r
section
variable {X:bq} {M:Bool} {n:Nat} {r:Option Nat} {c:Code} {st:aM} {Q:Exit->aM->Prop}
theorem dk.conv{s:Nat} {sv:b5} (iT:b5) (aj:aZ st.L s=some sv) (jH:∀ env B w v,ei env B w sv v->ei env B w iT v):dk X n st ⟨(s,iT) :: st.L,st.H⟩:=fun R W aD M a w ⟨ks,env,B,ai,H,cp,h⟩=>
 ⟨ks,env,B,ai,H,cp,h.size,h.defs,fun q u hu=>by
  rw[cn]at hu
  split at hu
  ·rename_i e
   subst e;cases hu;obtain⟨v,J,U⟩:=h.has _ _ aj;exact⟨v,J,jH _ _ _ _ U⟩
  ·exact h.has q u hu,h.heap,h.aU,h.sub,h.new,h.dt,h.base,h.dX⟩
theorem bt.n9{env:Nat->Loc} {B:Nat->Prop} {w:World} (id:Nat):∀ {l:bE} {H:List bc},bt env B w l H->bt env B w (rj id l) H
 | [],_,h=>h
 | (j,.row t g l c) :: r,_,⟨k,H',e,J,U⟩=>by
  unfold rj
  split
  ·obtain⟨A,q,xs,ag,ay,aO,aK⟩:=J
   exact⟨k,H',e,⟨A,q,xs,ag,ay,aO,fun _ h=>by cases h⟩,U⟩
  ·exact⟨k,H',e,J,bt.n9 id U⟩
 | (j,.cells _ _) :: r,_,⟨k,H',e,J,U⟩=>⟨k,H',e,J,bt.n9 id U⟩
 | (j,.hf _ _) :: r,_,⟨k,H',e,J,U⟩=>⟨k,H',e,J,bt.n9 id U⟩
 | (j,.mp _ _ _ _) :: r,_,⟨k,H',e,J,U⟩=>⟨k,H',e,J,bt.n9 id U⟩
 | (j,.it _ _ _ _) :: r,_,⟨k,H',e,J,U⟩=>⟨k,H',e,J,bt.n9 id U⟩
 | (j,.kO) :: r,_,⟨k,H',e,J,U⟩=>⟨k,H',e,J,bt.n9 id U⟩
 | (j,.bX _ _ _ _ _ _ _) :: r,_,⟨k,H',e,J,U⟩=>⟨k,H',e,J,bt.n9 id U⟩
 | (j,.j9) :: r,_,⟨k,H',e,J,U⟩=>⟨k,H',e,J,bt.n9 id U⟩
 | (j,.fw _ _ _) :: r,_,⟨k,H',e,J,U⟩=>⟨k,H',e,J,bt.n9 id U⟩
 | (j,.bQ _ _ _ _ _ _) :: r,_,⟨k,H',e,J,U⟩=>⟨k,H',e,J,bt.n9 id U⟩
theorem dk.Bn(id:Nat) {st':aM} (h:st'=⟨st.L,rj id st.H⟩):dk X n st st':=fun R W aD M a w ⟨ks,env,B,ai,H,cp,al⟩=>by
 subst h;exact⟨ks,env,B,ai,H,cp,al.size,al.defs,al.has,bt.n9 id al.heap,al.aU,al.sub,al.new,al.dt,al.base,al.dX⟩
end
theorem iF:(∀ b,(b&&true)=b)/\(∀ b,(true&&b)=b)/\(∀ b,(b || true)=true)/\(∀ b,(true || b)=true)/\(!true)=false/\(!false)=true/\(∀ b,(b || false)=b)/\(∀ b,(false || b)=b)/\(∀ b,(b&&b)=b)/\(∀ b:Bool,(!b || b)=true)/\(∀ b,(b || b)=b):=by decide
theorem ahh:(∀ b,(b&&true)=b)/\(∀ b,(true&&b)=b)/\(∀ b,(b||true)=true)/\(∀ b,(true||b)=true)/\(!true)=false/\(!false)=true/\(∀ b,(b||false)=b)/\(∀ b,(false||b)=b)/\(∀ b,(b&&b)=b)/\(∀ b:Bool,(!b||b)=true)/\(∀ b,(b||b)=b)/\(∀ [h:Decidable True],@decide True h=true)/\(∀ {α:Type}(a b:α),cond true a b=a)/\(∀ {α:Type}(a b:α),cond false a b=b):=⟨iF.1,iF.2.1,iF.2.2.1,iF.2.2.2.1,iF.2.2.2.2.1,iF.2.2.2.2.2.1,iF.2.2.2.2.2.2.1,iF.2.2.2.2.2.2.2.1,iF.2.2.2.2.2.2.2.2.1,iF.2.2.2.2.2.2.2.2.2.1,iF.2.2.2.2.2.2.2.2.2.2,fun {_}=>decide_true _,fun _ _=>rfl,fun _ _=>rfl⟩
theorem cC.data{env:Nat->Loc} {B:Nat->Prop} {w:World} {g:ba} {cs jx:List bg} {x:g.D} {c:Bool} {vs:List Value} (J:cC env B w cs vs) (ax:dec g cs=some (c,x,[])) (aa:c=true) (aV:kQ g x 0 g.size=some jx):cC env B w jx vs:=by
 obtain⟨v1,v2,a1,az,U⟩:=oS J ax aa;have ay:v2=[]:=U;subst ay;rw[List.append_nil]at a1;subst a1;obtain⟨us,⟨ad,an⟩,ag⟩:=bP.cells az aV;have nj:=bP.length az;have xW:us=vs:=by
  apply List.ext_getElem?
  intro j;cases aF:us[j]? with
  | some u=>
   have:=an j u aF
   rw[Nat.zero_add]at this;exact this.symm
  | none=>
   rw[List.getElem?_eq_none_iff]at aF;exact(List.getElem?_eq_none_iff.2 (by omega)).symm
 subst xW;exact ag
theorem dk.data{X:bq} {n:Nat} {st:aM} (s:Nat) (g:ba) {cs jx:List bg} {x:g.D} {c:Bool} (aj:aZ st.L s=some (.a (.agg cs))) (ax:dec g cs=some (c,x,[])) (aa:c=true) (aV:kQ g x 0 g.size=some jx):dk X n st ⟨(s,.a (.agg jx)) :: st.L,st.H⟩:=dk.conv _ aj fun env B w v ⟨vs,e,J⟩=>⟨vs,e,J.data ax aa aV⟩
theorem dk.Bo{X:bq} {n:Nat} {st:aM} (id:Nat) (g:ba) {t:TypeId} {cs jx:List bg} {x:g.D} {c:Bool} (aj:aZ st.H id=some (.cells t cs)) (ax:dec g cs=some (c,x,[])) (aa:c=true) (aV:kQ g x 0 g.size=some jx):dk X n st ⟨st.L,eO id (.cells t jx) st.H⟩:=fun R W aD M a w ⟨ks,env,B,ai,H,cp,h⟩=>by
 obtain⟨dz,K,⟨b,vs,he,e,fZ⟩,⟨Y,Z,J,U⟩,ag⟩:=h.mK (b':=.cells t jx) aj;obtain⟨H',ay⟩:=ag dz a w ⟨b,vs,he,e,fZ.data ax aa aV⟩ (by rw[U]; dsimp only; rw[<- J]; exact h.aU) h.cb;exact⟨ks,env,B,ai,H',cp,ay⟩
end

section
open Go.ChangeShapes Go.WideShapes Go.ChangeAt Go.WideElems Go.RowKit
theorem Tryz.own:ownKnob Tryz.prog.godebug=none:=by kernel_rfl
theorem Tryz.laidOut:laidOutB Tryz.prog=true:=by kernel_rfl
end

section
def ba.beq:(g:ba)->g.D->g.D->Bool
 | .int _=>fun(x:Int) (y:Int)=>x == y
 | .bool=>fun(x:Bool) (y:Bool)=>x == y
 | .str=>fun(x:List UInt8) (y:List UInt8)=>x == y
 | .pair g h=>fun x y=>g.beq x.1 y.1&&h.beq x.2 y.2
 | _=>fun _ _=>false
def hF(gk bO:ba):List (gk.D×bO.D)->gk.D->Option bO.D
 | [],_=>none
 | x :: l,k=>match gk.beq x.1 k with
  | true=>some x.2
  | false=>hF gk bO l k
def ib(gk bO:ba):List (gk.D×bO.D)->gk.D->bO.D->List (gk.D×bO.D)
 | [],k,v=>[(k,v)]
 | x :: l,k,v=>match gk.beq x.1 k with
  | true=>(x.1,v) :: l
  | false=>x :: ib gk bO l k v
def sO:(g:ba)->g.D->Option bh
 | .pair a b,x=>(kQ (.pair a b) x 0 (a.size+b.size)).map .agg
 | g,x=>(lM g x 0).map .c
section
variable {B:Nat->Prop} {w:World} {k:IntKind} {bO:ba}
theorem Bp{es:List MapEntry} {f:MapEntry->MapEntry} (az:∀ e,(f e).born=e.born):∀ (j:Nat),(es.modify j f).map (·.born)=es.map (·.born):=by
 induction es with
 | nil=>intro j; cases j<;>rfl
 | cons e es bJ=>
  intro j;cases j with
  | zero=>simp[az]
  | succ j=>simp only[List.modify_succ_cons,List.map_cons,bJ j]
theorem h7.snoc{gk bO:ba} {x:gk.D×bO.D} {e:MapEntry} (J:eQ B w gk x.1 e.key) (U:eQ B w bO x.2 e.val):∀ {l:List (gk.D×bO.D)} {es:List MapEntry},h7 B w gk bO l es->h7 B w gk bO (l++[x]) (es++[e])
 | [],_,h=>by rw[show _=[] from h]; exact⟨e,[],rfl,J,U,rfl⟩
 | _ :: _,_,⟨cu,r,he,ag,ay,aO⟩=>by subst he; exact⟨cu,_,rfl,ag,ay,h7.snoc J U aO⟩
def lT:ba->bh->Bool
 | .pair _ _,.agg _=>true
 | .pair _ _,.c _=>false
 | _,.c _=>true
 | _,.agg _=>false
 | _,.arr _ _=>false
theorem eQ.u2{env:Nat->Loc} {g:ba} {bx:bh} {c:Bool} {x:g.D} {v:Value} (ax:dec g bx.cells=some (c,x,[])) (aa:c=true) (aj:lT g bx=true) (h:dH env B w bx v):eQ B w g x v:=by
 cases bx with
 | c bV=>
  obtain⟨v1,v2,e,J,U⟩:=oS (cs:=[bV]) (vs:=[v]) ⟨v,[],rfl,h,rfl⟩ ax aa;have a1:v2=[]:=U;rw[a1,List.append_nil]at e;rw[<- e]at J;cases g with
  | pair a b=>cases aj
  | _=>exact J
 | arr g2 l=>
  cases g with
  | pair a b=>cases aj
  | _=>cases aj
 | agg cs=>
  obtain⟨vs,e,ag⟩:=h;obtain⟨v1,v2,aC,J,U⟩:=oS ag ax aa;have a1:v2=[]:=U;rw[a1,List.append_nil]at aC;cases g with
  | pair a b=>exact⟨vs,e,by rw[aC]; exact J⟩
  | _=>cases aj
theorem eQ.bx{env:Nat->Loc} {g:ba} {x:g.D} {v:Value} {bx:bh} (h:eQ B w g x v) (aj:sO g x=some bx):dH env B w bx v:=by
 have one:∀ {g:ba} {x:g.D} {v:Value} {bx:bh},bP B w g x [v]->(lM g x 0).map bh.c=some bx->dH env B w bx v:=by
  intro g x v bx h aj;obtain⟨c,aa,rfl⟩:=Option.map_eq_some_iff.1 aj;obtain⟨u,J,U⟩:=bP.cell (env:=env) h aa;simp only[List.getElem?_cons_zero,Option.some.injEq]at J;rw[J];exact U
 cases g with
 | pair a b=>
  obtain⟨vs,e,J⟩:=h;obtain⟨l,ad,rfl⟩:=Option.map_eq_some_iff.1 (show(kQ (.pair a b) x 0 (a.size+b.size)).map bh.agg=some bx from aj);obtain⟨us,⟨U,ag⟩,ay⟩:=bP.cells (env:=env) J ad;have hlen:vs.length=a.size+b.size:=bP.length J
  have:us=vs:=by
   apply List.ext_getElem?
   intro i
   by_cases hi:i < us.length
   ·rw[List.getElem?_eq_getElem hi]
    have:=ag i us[i] (List.getElem?_eq_getElem hi)
    rw[Nat.zero_add]at this;exact this.symm
   ·rw[List.getElem?_eq_none (by omega),List.getElem?_eq_none (by omega)]
  subst this;exact⟨us,e,ay⟩
 | _=>exact one h aj
end
section
variable {X:bq} {M:Bool} {n:Nat} {r:Option Nat} {st:aM} {Q:Exit->aM->Prop} {ops rest:List Oper} {o:Oper} {d:Nat}
end
end

section
section
variable {X:bq} {M:Bool} {n:Nat} {r:Option Nat} {st:aM} {Q:Exit->aM->Prop} {ops rest:List Oper} {o:Oper} {d:Nat}
end
end

section
section
variable {α β:Type}
end
end

section
section
variable {X:bq} {M:Bool} {n:Nat} {r:Option Nat} {st:aM} {Q:Exit->aM->Prop} {ops rest:List Oper} {o:Oper} {d:Nat}
end
end

section
def u3(g:ba):Nat->List bg->Option (Bool×List g.D×List bg)
 | 0,r=>some (true,[],r)
 | m+1,r=>match dec g r with
  | some (ft,x,aP)=>match u3 g m aP with
   | some (cR,l,aX)=>some (ft&&cR,x :: l,aX)
   | none=>none
  | none=>none
section
variable {env:Nat->Loc} {B:Nat->Prop} {w:World}
theorem Fi{g:ba}:∀ {m:Nat} {cs:List bg} {c:Bool} {l:List g.D} {r:List bg} {vs:List Value},cC env B w cs vs->u3 g m cs=some (c,l,r)->c=true->l.length=m/\∃ v1 v2,vs=v1++v2/\Flat (bP B w g) l v1/\cC env B w r v2
 | 0,cs,c,l,r,vs,h,ax,_=>by
  cases ax;exact⟨rfl,[],vs,rfl,rfl,h⟩
 | m+1,cs,c,l,r,vs,h,ax,aa=>by
  simp only[u3]at ax
  split at ax
  ·rename_i ft x aP J
   split at ax
   ·rename_i cR ct aX U
    cases ax;simp only[Bool.and_eq_true]at aa;obtain⟨v1,v2,rfl,ag,ay⟩:=oS h J aa.1;obtain⟨ad,v3,v4,rfl,aO,aK⟩:=Fi ay U aa.2;exact⟨by rw[List.length_cons,ad],v1++v3,v4,by rw[List.append_assoc],⟨v1,v3,rfl,ag,aO⟩,aK⟩
   ·cases ax
  ·cases ax
end
section
variable {X:bq} {R:Nat->Prop} {W:World} {aD:eT} {n:Nat} {ks:List Nat} {env:Nat->Loc} {B:Nat->Prop} {ai:World} {H:List bc} {st st':aM} {a:Act} {w:World}
theorem dk.arr(s:Nat) (g:ba) (m:Nat) (l:List g.D) {t:TypeId} {cs:List bg} {c:Bool} (ji:Nat.blt s n=true) (aj:aZ st.L s=some (.c (.ptr s 0))) (b8:aZ st.H s=some (.cells t cs)) (n8:u3 g m cs=some (c,l,[])) (aa:c=true) (hm:m<=140737488355328) :
  dk X n st ⟨(s,.c (.dV s g.size 0 0)) :: fe s .dead st.L,(s,.row t g l (some m)) :: dG s .dead st.H⟩:=fun R W aD M a w ⟨ks,env,B,ai,H,cp,h⟩=>by
 obtain⟨dz,Y,Z,⟨b,vs,he,rfl,fZ⟩,U,ag⟩:=h.heap.take b8;obtain⟨ad,v1,v2,aw,cS,iz⟩:=Fi fZ n8 aa;have Fe:v2=[]:=iz;subst Fe;rw[List.append_nil]at aw;subst aw;subst ad;obtain⟨H2,ay,aO,_⟩:=ag (h8 env s (.row (some ⟨b,0,none⟩) l.length l.length)) .dead h4 (fun _ _=>trivial);have an:(H++ks.map dC).Perm (bc.gu b vs t :: (Y++Z++ks.map dC)):=by
  rw[U];simp only[List.append_assoc,List.cons_append];exact List.perm_middle
 have fu:bK (fun k=>R k\/B k) ai (bc.gu b vs t :: (H2++ks.map dC)) w:=(h.aU.perm an).en ((ay.append_right _).cons_cons _);refine⟨ks,h8 env s (.row (some ⟨b,0,none⟩) l.length l.length),B,ai,.row (some ⟨b,0,none⟩) l.length t g.size l.length vs :: H2,cp,h.size,h.defs,fun q u hu=>?_,⟨_,H2,rfl,⟨_,_,vs,e8,rfl,cS,fun q ao=>by cases ao; rfl⟩,aO⟩,fu.En (bP.ln cS) hm,h.sub,h.new,nY h.dt (fun q an=>by have J:=(h.dt _ _ an).1; have U:=dK ji; omega),h.base,h.dX⟩;rw[cn]at hu
 split at hu
 ·rename_i e
  subst e;cases hu;obtain⟨eF,aK,b',bY,c3⟩:=h.has _ _ aj;rw[he]at bY;cases bY;exact⟨eF,aK,b,_,_,e8,by rw[c3]; simp⟩
 ·obtain⟨hz,hA,rfl⟩:=lK hu
  obtain⟨eF,aK,bY⟩:=h.has q hz hA;exact⟨eF,aK,ei.sub (z:=.dead) h4 (fun _ _=>trivial) bY⟩
end
section
variable {X:bq} {M:Bool} {n:Nat} {r:Option Nat} {st:aM} {Q:Exit->aM->Prop} {ops rest:List Oper} {o:Oper} {d:Nat}
end
end

section
def ba.key:ba->Bool
 | .int _=>true
 | .bool=>true
 | .str=>true
 | .pair g h=>g.key&&h.key
 | _=>false
def ba.cK:(g:ba)->g.D->List Value
 | .int k,x=>[.int k x]
 | .bool,x=>[.bool x]
 | .str,x=>[fi x]
 | .pair g h,x=>g.cK x.1++h.cK x.2
 | _,_=>[]
theorem bP.cK{B:Nat->Prop} {w:World}:∀ {g:ba} {x:g.D} {vs:List Value},g.key=true->bP B w g x vs->vs=g.cK x
 | .int _,_,_,_,h=>h
 | .bool,_,_,_,h=>h
 | .str,_,_,_,h=>h
 | .ak _,_,_,h,_=>by cases h
 | .gM _,_,_,h,_=>by cases h
 | .unit,_,_,h,_=>by cases h
 | .pair g h,x,_,ab,⟨v1,v2,e,J,U⟩=>by
  simp only[ba.key,Bool.and_eq_true]at ab;rw[e,bP.cK ab.1 J,bP.cK ab.2 U]
  rfl
theorem beq_iff{g:ba} (x y:g.D) (ab:g.key=true):g.beq x y=true ↔ x=y:=by
 induction g with
 | int k=>show((x:Int) == y)=true ↔ _; simp
 | bool=>show((x:Bool) == y)=true ↔ _; simp
 | str=>show((x:List UInt8) == y)=true ↔ _; simp
 | ak g _=>cases ab
 | gM g _=>cases ab
 | unit=>cases ab
 | pair g h WO WQ=>
  simp only[ba.key,Bool.and_eq_true]at ab;show(g.beq x.1 y.1&&h.beq x.2 y.2)=true ↔ _;rw[Bool.and_eq_true,WO _ _ ab.1,WQ _ _ ab.2];exact⟨fun⟨a,b⟩=>Prod.ext a b,fun e=>by rw[e]; exact⟨rfl,rfl⟩⟩
structure rk(P:Program) (t:TypeId) (g:ba):Prop where
 key:g.key=true
 eq:∀ (x y:g.D) (w:World),(Op.equalIn 10000 t (.agg (g.cK x).toArray) (.agg (g.cK y).toArray)).run P w=.ok (g.beq x y) w
 guard:P.eqGuardType P.depth t=false
def ba.xX:ba->Nat->Bool
 | .int _,0=>true
 | .bool,1=>true
 | .str,2=>true
 | _,_=>false
def kf(e:TypeId->ba->Bool):Nat->List Field->ba->Bool
 | _,[],_=>false
 | off, [f], g => decide (f.name ≠ "_") && (Nat.beq f.offset off && e f.type g)
 | off, f :: du, .pair g h => decide (f.name ≠ "_") && (Nat.beq f.offset off && (e f.type g && kf e (off + g.size) du h))
 | _,_,_=>false
def kD(P:Program) (a7:cj):Nat->TypeId->ba->Bool
 | 0,_,_=>false
 | d+1,t,g=>match a7.find t with
  | none=>false
  | some bp=>match bp.bs.desc with
   | .int _=>g.xX 0
   | .bool=>g.xX 1
   | .string=>g.xX 2
   | .struct du=>Nat.beq bp.bs.size g.size&&(!P.stoodInHeld t&&kf (kD P a7 d) 0 du.toList g)
   | _=>false
def oa(a7:cj) (t:TypeId) (vs:List Value):Value:=match a7.find t with
 | some bp=>match jO bp.bs.desc with
  | true=>.agg vs.toArray
  | false=>vs.headD undef
 | none=>undef
theorem u4:∀ {g:ba} (x:g.D),g.key=true->(g.cK x).length=g.size
 | .int _,_,_=>rfl
 | .bool,_,_=>rfl
 | .str,_,_=>rfl
 | .ak _,_,h=>by cases h
 | .gM _,_,h=>by cases h
 | .unit,_,h=>by cases h
 | .pair g h,x,ab=>by
  simp only[ba.key,Bool.and_eq_true]at ab;show(g.cK x.1++h.cK x.2).length=g.size+h.size;rw[List.length_append,u4 x.1 ab.1,u4 x.2 ab.2]
theorem u5{P:Program} {a7:cj} (av:a7.ok P) {d:Nat} {t:TypeId} {g:ba} {x:g.D} {xs:Array Value} {off:Nat} {r:List Value} (ab:g.key=true) (he:kD P a7 d t g=true) (ah:xs.toList.drop off=g.cK x++r) (w:World):(part t xs off).run P w=.ok (oa a7 t (g.cK x)) w:=by
 cases d with
 | zero=>cases he
 | succ d=>
  unfold kD at he;cases az:a7.find t with
  | none=>simp[az]at he
  | some bp=>
   rw[az]at he;dsimp only at he;have me:=(cj.get av az).bs;have J:∀ v,g.cK x=[v]->xs[off]?=some v:=fun v aw=>by
    have U:(xs.toList.drop off)[0]?=some v:=by rw[ah,aw]; rfl
    rw[List.getElem?_drop]at U
    simpa using U
   unfold part;simp only[Sem.run_bind,bC.w8 me,Result.andThen_ok];unfold oa;rw[az];dsimp only;have iL:∀ q,g.xX q=true->∃ v,g.cK x=[v]:=fun q ao=>by
    cases g with
    | int k=>exact⟨_,rfl⟩
    | bool=>exact⟨_,rfl⟩
    | str=>exact⟨_,rfl⟩
    | ak _=>cases ab
    | gM _=>cases ab
    | unit=>cases ab
    | pair _ _=>cases q<;>cases ao
   split at he
   ·rename_i ax
    obtain⟨v,aw⟩:=iL _ he;rw[ax,J v aw,aw]
    rfl
   ·rename_i ax
    obtain⟨v,aw⟩:=iL _ he;rw[ax,J v aw,aw]
    rfl
   ·rename_i ax
    obtain⟨v,aw⟩:=iL _ he;rw[ax,J v aw,aw]
    rfl
   ·rename_i du ax
    simp only[Bool.and_eq_true]at he;rw[ax];have aj:=Nat.eq_of_beq_eq_true he.1;simp only[jO,if_true,Sem.run_bind,bC.run_sizeOf me,Result.andThen_ok,Sem.run_pure,aj];have ag:xs.extract off (off+g.size)=(g.cK x).toArray:=by
     apply Array.toList_inj.1
     rw[Array.toList_extract,List.extract_eq_take_drop,ah,Nat.add_sub_cancel_left,List.take_left' (u4 x ab)]
    rw[ag]
   ·cases he
theorem WR{P:Program} {a7:cj} (av:a7.ok P) {k d:Nat} (bJ:∀ t (g:ba) (x y:g.D) w,g.key=true->kD P a7 k t g=true->(Op.equalIn d t (oa a7 t (g.cK x)) (oa a7 t (g.cK y))).run P w=.ok (g.beq x y) w) :
  ∀ (du:List Field) (off:Nat) (g:ba) (x y:g.D) (xs bn:Array Value) (w:World),g.key=true->kf (kD P a7 k) off du g=true->xs.toList.drop off=g.cK x->bn.toList.drop off=g.cK y->(Op.eqFields d xs bn du).run P w=.ok (g.beq x y) w:=by
 intro du
 induction du with
 | nil=>intro off g x y xs bn w _ h; simp[kf]at h
 | cons f du xY=>
  intro off g x y xs bn w ab h ah aH;cases du with
  | nil=>
   have a8 : (decide (f.name ≠ "_") && (Nat.beq f.offset off && kD P a7 k f.type g)) = true := by
    cases g<;>exact h
   simp only[Bool.and_eq_true,decide_eq_true_eq]at a8;obtain⟨a6,bb,he⟩:=a8;have bb:=Nat.eq_of_beq_eq_true bb;simp only[Op.eqFields,if_pos a6,Sem.run_bind,bb,u5 av ab he (r:=[]) (by rw[ah,List.append_nil]),u5 av ab he (r:=[]) (by rw[aH,List.append_nil]),Result.andThen_ok,bJ _ _ _ _ _ ab he];cases g.beq x y<;>simp
  | cons f2 du=>
   cases g with
   | pair g U=>
    have a8 : (decide (f.name ≠ "_") && (Nat.beq f.offset off && (kD P a7 k f.type g && kf (kD P a7 k) (off + g.size) (f2 :: du) U))) = true := h
    simp only[Bool.and_eq_true,decide_eq_true_eq]at a8;obtain⟨a6,bb,he,au⟩:=a8;have bb:=Nat.eq_of_beq_eq_true bb;simp only[ba.key,Bool.and_eq_true]at ab;have mQ:xs.toList.drop off=g.cK x.1++U.cK x.2:=ah;have iy:bn.toList.drop off=g.cK y.1++U.cK y.2:=aH;have sP:=xY (off+g.size) U x.2 y.2 xs bn w ab.2 au (by rw[<- List.drop_drop,mQ,<- u4 x.1 ab.1,List.drop_left]) (by rw[<- List.drop_drop,iy,<- u4 y.1 ab.1,List.drop_left]);show _=Result.ok (g.beq x.1 y.1&&U.beq x.2 y.2) w;rw[Op.eqFields,if_pos a6];simp only[Sem.run_bind,bb,u5 av ab.1 he mQ,u5 av ab.1 he iy,Result.andThen_ok,bJ _ _ _ _ _ ab.1 he];cases ae:g.beq x.1 y.1 with
    | true=>simpa using sP
    | false=>simp
   | int _=>simp[kf]at h
   | bool=>simp[kf]at h
   | str=>simp[kf]at h
   | ak _=>simp[kf]at h
   | gM _=>simp[kf]at h
   | unit=>simp[kf]at h
theorem WS{P:Program} {a7:cj} (av:a7.ok P) (m:Nat):∀ (k:Nat) (t:TypeId) (g:ba) (x y:g.D) (w:World),g.key=true->kD P a7 k t g=true->(Op.equalIn (m+k) t (oa a7 t (g.cK x)) (oa a7 t (g.cK y))).run P w=.ok (g.beq x y) w:=by
 intro k
 induction k with
 | zero=>intro t g x y w _ h; cases h
 | succ k bJ=>
  intro t g x y w ab h;have h0:=h;unfold kD at h;cases az:a7.find t with
  | none=>simp[az]at h
  | some bp=>
   rw[az]at h;dsimp only at h;have me:=(cj.get av az).bs;have hq:=me.1;unfold oa;rw[az];dsimp only
   split at h
   ·rename_i jk ax
    rw[ax]at hq ⊢;cases g with
    | int k=>exact run_equalIn_int w _ t _ _ _ _ hq
    | _=>cases h
   ·rename_i ax
    rw[ax]at hq ⊢;cases g with
    | bool=>exact run_equalIn_bool w _ t _ _ hq
    | _=>cases h
   ·rename_i ax
    rw[ax]at hq ⊢;cases g with
    | str=>
     have:=run_equalIn_string (P:=P) w (m+k) t ⟨List.toArray x⟩ ⟨List.toArray y⟩ hq
     simp only[xg]at this;exact this
    | _=>cases h
   ·rename_i du ax
    rw[ax]at hq ⊢;simp only[Bool.and_eq_true,Bool.not_eq_true']at h;have WT:P.underlying t=some (.struct du.toList.toArray):=by simpa using hq
    show(Op.equalIn (m+k+1) t (.agg _) (.agg _)).run P w=_;rw[R2 w (m+k) t _ _ WT h.2.1];exact WR av bJ du.toList 0 g x y _ _ w ab h.2.2 (by simp) (by simp)
   ·cases h
theorem rk.of{P:Program} {a7:cj} (av:a7.ok P) {t:TypeId} {bp:bo} {g:ba} {du:Array Field} (ab:g.key=true) (az:a7.find t=some bp) (ax:bp.bs.desc=.struct du) (h:kD P a7 12 t g=true) (aV:P.eqGuardType P.depth t=false):rk P t g:=by
 refine⟨ab,fun x y w=>?_,aV⟩
 have:=WS av 9988 12 t g x y w ab h
 unfold oa at this;rw[az]at this;dsimp only at this;rw[ax]at this;exact this
section
variable {X:bq} {M:Bool} {n:Nat} {r:Option Nat} {st:aM} {Q:Exit->aM->Prop} {ops rest:List Oper} {o:Oper} {d:Nat}
theorem cC.cK{env:Nat->Loc} {B:Nat->Prop} {w:World} {g:ba} {cs:List bg} {x:g.D} {c:Bool} {v:Value} (ab:g.key=true) (J:dH env B w (.agg cs) v) (ax:dec g cs=some (c,x,[])) (aa:c=true):v=.agg (g.cK x).toArray:=by
 obtain⟨vs,rfl,J⟩:=J;obtain⟨v1,v2,a1,az,U⟩:=oS J ax aa;have ay:v2=[]:=U;subst ay;rw[List.append_nil]at a1;subst a1;rw[bP.cK ab az]
end
end

section
open Go.ChangeShapes Go.WideShapes Go.ChangeAt Go.WideElems Go.RowKit
def sQ(a7:cj) (t:TypeId) (n:Nat):Bool:=match a7.find t with
 | some bp=>Nat.beq bp.bs.size n
 | none=>false
def ob(a7:cj) (e:TypeId->ba->Bool):Nat->List Field->ba->Bool
 | _,[],_=>false
 | off,[f],g=>Nat.beq f.offset off&&(sQ a7 f.type g.size&&e f.type g)
 | off,f :: du,.pair g h=>Nat.beq f.offset off&&(sQ a7 f.type g.size&&(e f.type g&&ob a7 e (off+g.size) du h))
 | _,_,_=>false
def ba.WU:ba->IntKind->Bool
 | .int k,k'=>decide (k=k')
 | _,_=>false
section
variable {H:Type} {enc:TypeId×Value->H} {P:Program} {W:World} {a7:cj}
theorem Lx(av:a7.ok P) {t:TypeId} {bp:bo} (h:a7.find t=some bp):P.cellsOf t=bp.bs.size:=by
 obtain⟨x,J,U,_⟩:=bC.info (cj.get av h).bs;unfold Program.cellsOf;rw[J];exact U
theorem Fj(av:a7.ok P) {t:TypeId} {n:Nat} (h:sQ a7 t n=true):P.cellsOf t=n:=by
 unfold sQ at h
 split at h
 ·rename_i bp az
  rw[Lx av az];exact Nat.eq_of_beq_eq_true h
 ·cases h
end
end

section
open Go.ChangeShapes Go.WideShapes Go.ChangeAt Go.WideElems Go.RowKit
def p1:(g:ba)->g.D->Prop
 | .int k,(x:Int)=>k.min<=x/\x<=k.max
 | .ak g,(l:List g.D)=>l.length<=reachBytes/\∀ y∈l,p1 g y
 | .pair g h,x=>p1 g x.1/\p1 h x.2
 | _,_=>True
def Fk(a7:cj) (t:TypeId):Bool:=match a7.find t with
 | some bp=>Nat.blt 0 bp.bs.bytes
 | none=>false
def xZ(a7:cj):Nat->TypeId->ba->Bool
 | 0,_,_=>false
 | d+1,t,g=>match a7.find t with
  | none=>false
  | some bp=>match bp.bs.desc with
   | .int k=>g.WU k
   | .bool=>g.xX 1
   | .slice e=>match g with
    | .ak h=>Nat.blt 0 h.size&&(sQ a7 e h.size&&(Fk a7 e&&xZ a7 d e h))
    | _=>false
   | .struct du=>Nat.beq bp.bs.size g.size&&ob a7 (xZ a7 d) 0 du.toList g
   | _=>false
theorem Ly{H:Type} {P:Program} {e:TypeId}:∀ {aI:List (DataW H)} {j:Nat} {d:DataW H},aI[j]?=some d->∀ n∈d.weights P e,n∈DataW.weightsAll P e aI
 | d0 :: aI,0,d,ax,n,a6=>by
  simp only[List.getElem?_cons_zero,Option.some.injEq]at ax;subst ax;simp only[DataW.weightsAll,List.mem_append];exact Or.inl a6
 | d0 :: aI,j+1,d,ax,n,a6=>by
  simp only[List.getElem?_cons_succ]at ax;simp only[DataW.weightsAll,List.mem_append];exact Or.inr (Ly ax n a6)
 | [],_,_,ax,_,_=>by simp at ax
section
variable {H:Type} {enc:TypeId×Value->H} {P:Program} {W:World} {a7:cj}
def Bq(enc:TypeId×Value->H) (P:Program) (W:World) (t:TypeId) (g:ba) (R:g.D->Prop):Prop:=
 ∀ k cs x,DataW.trod enc P W 0 (fun _=>true) true k t cs=some x->(∀ n∈x.1.weights P t,n<=reachBytes)->∃ y:g.D,R y/\bP (fun b=>b < W.heap.size) W g y cs
theorem WV(av:a7.ok P) {t:TypeId} (h:Fk a7 t=true):0 < P.bytesOf t:=by
 unfold Fk at h
 split at h
 ·rename_i bp az
  obtain⟨x,J,_,U,_⟩:=bC.info (cj.get av az).bs;unfold Program.bytesOf;rw[J];show 0 < x.bytes;rw[U];exact dK h
 ·cases h
theorem WW{g:ba} {R:g.D->Prop} (rl:0 < g.size) {t e:TypeId} (aY:P.underlying t=some (.slice e)) (aa:P.cellsOf e=g.size) (n8:Bq enc P W e g R) (ae:0 < P.bytesOf e):Bq enc P W t (.ak g) (fun(l:List g.D)=>l.length<=reachBytes/\∀ y∈l,R y):=fun k cs x az hw=>by
 let α:={ p:g.D×List Value // R p.1/\bP (fun b=>b < W.heap.size) W g p.1 p.2 }
 let f:α->List Value:=fun p=>p.1.2
 have aj:∀ x:α,(f x).length=g.size:=fun x=>x.2.2.length
 rcases DataW.trod_slice aY az with⟨h,_⟩ | ⟨a,len,cap,elems,rest,n,_,h,ic,_,ad,hm,hlen,Br,_,_⟩
 ·subst h
  exact⟨([]:List g.D),⟨Nat.zero_le _,fun y aH=>by cases aH⟩,none,0,[],rfl,Nat.le_refl _,Nat.zero_le _,rfl,Reads.nil _ _ _,fun _ _ h=>absurd h (Nat.lt_irrefl _)⟩
 ·subst h
  subst ic;have Lz:∀ m∈(elems.length+rest.length) * P.bytesOf e :: (DataW.weightsAll P e (elems.map (·.1))++DataW.weightsAll P e (rest.map (·.1))),m<=reachBytes:=fun m hm=>by
   refine hw m ?_;simp only[DataW.weights,aY,List.length_map];exact hm
  have LA:len<=reachBytes:=by
   have J:=Lz _ List.mem_cons_self;have U:(elems.length+rest.length) * 1<=(elems.length+rest.length) * P.bytesOf e:=Nat.mul_le_mul_left _ ae;omega
  have WX:∀ (i:Nat) (q:DataW H×List MemPlace),elems[i]?=some q->∀ m∈q.1.weights P e,m<=reachBytes:=fun i q ao m hm=>Lz m (List.mem_cons_of_mem _ (List.mem_append_left _ (Ly (d:=q.1) (by rw[List.getElem?_map,ao]; rfl) m hm)))
  rw[aa]at Br;obtain⟨l,u6,ao⟩:=Ks (Q:=fun i (y:α)=>∀ j,j < g.size->W.cell? ((a.add (i * g.size)).add j)=(f y)[j]?) len (fun i hi=>by
   have J:=Br i hi;have U:elems[i]?=some (elems[i]'(by omega)):=List.getElem?_eq_getElem (by omega);rw[U,Option.bind_eq_some_iff]at J;obtain⟨cs,ag,ay⟩:=J;obtain⟨y,WY,iU⟩:=n8 _ _ _ ay (WX i _ U);exact⟨⟨(y,cs),WY,iU⟩,(World.cells?_some ag).2.2⟩)
  have au:Reads W (some a) len g.size (l.flatMap f):=by
   refine⟨by rw[ln f g.size aj,u6],fun h0=>?_⟩;have bk:=ao 0 (by omega) 0 rl;have xe:W.cell? a=some ((f l[0])[0]'(by rw[aj]; exact rl)):=by
    have a1:(a.add (0 * g.size)).add 0=a:=by simp[Addr.add]
    rw[a1,List.getElem?_eq_getElem (by rw[aj]; exact rl)]at bk;exact bk
   have xh:=Ss xe;refine⟨a.block,a.off,congrArg some xh,fun j u hu=>?_⟩;have aF:j < len * g.size:=by have:=(List.getElem?_eq_some_iff.1 hu).1; rwa [ln f g.size aj,u6]at this
   have hdiv:j / g.size < len:=(Nat.div_lt_iff_lt_mul rl).2 aF;have Fl:=Nat.mod_lt j rl;have aO:=ao (j / g.size) (by omega) (j % g.size) Fl;rw[xh,Addr.add_lit,Addr.add_lit,List.getElem?_eq_getElem (by rw[aj]; exact Fl)]at aO;have aK:=Sr f g.size aj l (j / g.size) (j % g.size) (by omega) _ (List.getElem?_eq_getElem (by rw[aj]; exact Fl));have Bs:j / g.size * g.size+j % g.size=j:=by rw[Nat.mul_comm]; exact Nat.div_add_mod j g.size
   rw[Bs,hu]at aK;rw[Nat.add_assoc,Bs]at aO;rw[aO,aK]
  refine⟨l.map (·.1.1),⟨by rw[List.length_map,u6]; exact LA,fun x ah=>?_⟩,some a,cap,l.flatMap f,by rw[List.length_map,u6],by rw[List.length_map,u6]; exact ad,hm,Lw l,by rw[List.length_map,u6]; exact au,fun b p hm e=>?_⟩
  ·obtain⟨p,_,rfl⟩:=List.mem_map.1 ah
   exact p.2.1
  ·rw[List.length_map]at hm
   obtain⟨b',p',cu,jy⟩:=au.2 (by omega);rw[e]at cu;cases cu;cases ah:(l.flatMap f)[0]? with
   | some u=>exact WL (jy 0 u ah)
   | none=>
    exfalso
    have ag:=au.1;rw[List.getElem?_eq_none_iff]at ah;have ay:0 < len * g.size:=Nat.mul_pos (by omega) rl;omega
theorem WZ(av:a7.ok P) {e:TypeId->ba->Bool} (bJ:∀ t g,e t g=true->Bq enc P W t g (p1 g)):∀ (du:List Field) (off:Nat) (g:ba) (cs:List Value),ob a7 e off du g=true->cs.length=off+g.size ->
  (∀ f∈du,∃ m x,DataW.trod enc P W 0 (fun _=>true) true m f.type ((cs.drop f.offset).take (P.cellsOf f.type))=some x/\∀ n∈x.1.weights P f.type,n<=reachBytes)->∃ y:g.D,p1 g y/\bP (fun b=>b < W.heap.size) W g y (cs.drop off):=by
 intro du
 induction du with
 | nil=>intro off g cs h; simp[ob]at h
 | cons f du xY=>
  intro off g cs h ad az;cases du with
  | nil=>
   have a8:(Nat.beq f.offset off&&(sQ a7 f.type g.size&&e f.type g))=true:=by
    cases g<;>exact h
   simp only[Bool.and_eq_true]at a8;obtain⟨bb,aj,he⟩:=a8;have bb:=Nat.eq_of_beq_eq_true bb;obtain⟨m,x,ah,Fm⟩:=az f List.mem_cons_self;obtain⟨y,J,U⟩:=bJ _ _ he _ _ _ ah Fm;rw[bb,Fj av aj,List.take_of_length_le (by rw[List.length_drop]; omega)]at U;exact⟨y,J,U⟩
  | cons f2 du=>
   cases g with
   | pair g U=>
    have a8:(Nat.beq f.offset off&&(sQ a7 f.type g.size&&(e f.type g&&ob a7 e (off+g.size) (f2 :: du) U)))=true:=h;simp only[Bool.and_eq_true]at a8;obtain⟨bb,aj,he,au⟩:=a8;have bb:=Nat.eq_of_beq_eq_true bb;have hV:cs.length=off+(g.size+U.size):=ad;obtain⟨m,x,ah,Fm⟩:=az f List.mem_cons_self;obtain⟨lP,ag,ay⟩:=bJ _ _ he _ _ _ ah Fm;rw[bb,Fj av aj]at ay;obtain⟨ss,aO,aK⟩:=xY (off+g.size) U cs au (by omega) (fun q ao=>az q (List.mem_cons_of_mem _ ao));refine⟨(lP,ss),⟨ag,aO⟩,_,_,?_,ay,aK⟩;rw[<- List.drop_drop,List.take_append_drop]
   | int _=>simp[ob]at h
   | bool=>simp[ob]at h
   | str=>simp[ob]at h
   | ak _=>simp[ob]at h
   | gM _=>simp[ob]at h
   | unit=>simp[ob]at h
theorem W0(av:a7.ok P):∀ (d:Nat) (t:TypeId) (g:ba),xZ a7 d t g=true->Bq enc P W t g (p1 g):=by
 intro d
 induction d with
 | zero=>intro t g h; cases h
 | succ d bJ=>
  intro t g h k cs x ah hw;unfold xZ at h;cases az:a7.find t with
  | none=>simp[az]at h
  | some bp=>
   rw[az]at h;dsimp only at h;have me:=(cj.get av az).bs;have hq:=me.1;have c6:=Lx av az
   split at h
   ·rename_i jk ax
    rw[ax]at hq;cases g with
    | int e0=>
     have:e0=jk:=of_decide_eq_true h
     subst this;exact WK hq k cs x ah
    | _=>cases h
   ·rename_i ax
    rw[ax]at hq;cases g with
    | bool=>
     obtain⟨b,rfl,_⟩:=DataW.trod_bool hq ah;exact⟨b,trivial,rfl⟩
    | _=>cases h
   ·rename_i e ax
    rw[ax]at hq;cases g with
    | ak g=>
     simp only[Bool.and_eq_true]at h;exact WW (dK h.1) hq (Fj av h.2.1) (bJ _ _ h.2.2.2) (WV av h.2.2.1) k cs x ah hw
    | _=>cases h
   ·rename_i du ax
    rw[ax]at hq;simp only[Bool.and_eq_true]at h;have aj:=Nat.eq_of_beq_eq_true h.1;obtain⟨xs,n,_,ic,hlen,kx,Br⟩:=DataW.trod_struct hq ah;subst ic;rw[c6,aj]at hlen;obtain⟨y,J,U⟩:=WZ (enc:=enc) (W:=W) av bJ du.toList 0 g cs h.2 (by omega) (fun f W1=>by
     obtain⟨i,hi,rfl⟩:=List.mem_iff_getElem.1 W1;have nc:i < du.size:=by simpa using hi
     have ag:=Br i du[i] (Array.getElem?_eq_getElem nc);rw[List.getElem?_eq_getElem (by omega)]at ag;refine⟨n,_,by simpa using ag,fun m hm=>hw m ?_⟩;simp only[DataW.weights,hq];refine DataW.weights_mem_each (j:=i) (t:=(du.toList[i]).type) (d:=(xs[i]'(by omega)).1) ?_ ?_ m (by simpa using hm)
     ·rw[List.getElem?_map,List.getElem?_eq_getElem hi]
      rfl
     ·rw[List.getElem?_map,List.getElem?_eq_getElem (by omega)]
      rfl)
    exact⟨y,J,U⟩
   ·cases h
theorem LB(av:a7.ok P) {t:TypeId} {bp:bo} {g:ba} (az:a7.find t=some bp) (aS:jO bp.bs.desc=true) (h:xZ a7 12 t g=true) {r:Reach} {sn:Nat} {v:Value} {d:DataW H} {ps:List MemPlace} (o0:Value.okWide P W r sn t v) (ax:DataW.Trod enc P W 0 (fun _=>true) true t v d ps) (hw:∀ n∈d.weights P t,n<=reachBytes) :
  ∃ y:g.D,p1 g y/\∀ env aI,kQ g y 0 g.size=some aI->dH env (fun b=>b < W.heap.size) W (.agg aI) v:=by
 have me:=(cj.get av az).bs;obtain⟨cs,rfl⟩:∃ cs,v=.agg cs:=by
  have hq:=me.1;unfold Value.okWide at o0;rw[hq]at o0;cases sR:bp.bs.desc with
  | struct du=>rw[sR]at o0; obtain⟨cs,e,_⟩:=o0; exact⟨cs,e⟩
  | array n e=>rw[sR]at o0; obtain⟨cs,e,_⟩:=o0; exact⟨cs,e⟩
  | _=>rw[sR]at aS; cases aS
 obtain⟨n,a6⟩:=ax;obtain⟨y,J,U⟩:=W0 av 12 t g h n _ _ a6 hw;refine⟨y,J,fun env aI W2=>?_⟩;obtain⟨us,an,aa⟩:=bP.cells (env:=env) U W2;have ad:cs.toList.length=g.size:=U.length;have hu:us=cs.toList:=by
  refine List.ext_getElem? fun j=>?_
  by_cases aF:j < us.length
  ·have:=an.2 j _ (List.getElem?_eq_getElem aF)
   rw[Nat.zero_add]at this;rw[List.getElem?_eq_getElem aF];exact this.symm
  ·rw[List.getElem?_eq_none (by omega),List.getElem?_eq_none (by rw[ad]; have:=an.1; omega)]
 subst hu;exact⟨cs.toList,rfl,aa⟩
end
end

section
section
variable {env:Nat->Loc} {B:Nat->Prop} {w:World}
end
def ba.p2:ba->Bool
 | .pair _ _=>true
 | _=>false
theorem eQ.W3{B:Nat->Prop} {w:World} {g:ba} {x:g.D} {vs:List Value} (h:bP B w g x vs) (an:g.p2=true):eQ B w g x (.agg vs.toArray):=by
 cases g with
 | pair a b=>exact⟨vs,rfl,h⟩
 | _=>cases an
theorem eQ.W4{B:Nat->Prop} {w:World} {g:ba} {x:g.D} {v:Value} (h:bP B w g x [v]) (an:g.p2=false):eQ B w g x v:=by
 cases g with
 | pair a b=>cases an
 | _=>exact h
section
variable {X:bq} {M:Bool} {n:Nat} {r:Option Nat} {st:aM} {Q:Exit->aM->Prop} {ops rest:List Oper} {o:Oper} {d:Nat}
end
end

section
section
variable {P:Program} {b:Frame} {a:Act} {k:List Item} {cs:List Frame} {w:World} {Q:Exit->Act->World->Prop} {F:Fence} {n:Nat}
theorem x0{c:Code}:step P (lone (b.atR a (.code (.scope c) :: k)) cs w)=.next (lone (b.atR a (.code c :: .inScope c :: k)) cs w):=
 step_lone_go (by simp[stepG,stepG.exec,Frame.atR])
theorem W5{c:Code}:step P (lone (b.atR a (.inScope c :: k)) cs w)=.next (lone (b.atR a k) cs w):=
 step_lone_go (by simp[stepG,stepG.exec,Frame.atR])
theorem W6{c:Code} (h:c.wpIn F n P (Exit.noGoto Q) a w):(Code.scope c).wpIn F n P Q a w:=by
 intro b k cs x1 ae au;have h0:(lone (b.atR a (.code (.scope c) :: k)) cs w).fenced P F:=fenced_calm ae au rfl;obtain⟨e,rm,x2,ao,u7⟩:=h b (.inScope c :: k) cs x1 ae au;have ah:∀ id,exitTo id (.inScope c :: k)=exitTo id k:=fun id=>by simp[exitTo]
 cases e with
 | normal=>exact⟨.normal,rm,x2,ao,.head h0 x0 (StepsIn.trans u7 (.one (fenced_calm ae au rfl) W5))⟩
 | exit id=>exact⟨.exit id,rm,x2,ao,.of_steps (.one h0 x0) ⟨fun k' ab=>u7.1 k' (by rw[ah]; exact ab),fun au ab=>u7.2 au (by rw[ah]; exact ab)⟩⟩
 | goto l=>exact ao.elim
 | ret=>exact⟨_,rm,x2,ao,.of_steps (.one h0 x0) u7⟩
 | panic W7=>exact⟨_,rm,x2,ao,.of_steps (.one h0 x0) u7⟩
 | outgrown=>exact⟨_,rm,x2,ao,.of_steps (.one h0 x0) u7⟩
end
section
variable {X:bq} {M:Bool} {n:Nat} {r:Option Nat} {st:aM} {Q:Exit->aM->Prop} {c:Code}
theorem W8{l:Nat} (h:Q .normal st):mg X M n r (.label l) st Q:=fun R W aD a w al=>wpIn_label ⟨st,h,al⟩
end
end

section
section
variable {X:bq} {M:Bool} {n:Nat} {r:Option Nat} {st:aM} {Q:Exit->aM->Prop} {ops rest:List Oper} {o:Oper} {d:Nat}
end
end

section
theorem W9{P:Program} {t e:TypeId} {m:Nat} {i':bC} {cs:List Value} {k:IntKind} {j:Nat} {w:World} (aY:P.underlying t=some (.array m e)) (he:bC.ok P e i') (aF:j < m) {v:Value} (aw:(part e cs.toArray (j * i'.size)).run P w=.ok v w):(Instr.index t (.agg cs.toArray) (.int k (j:Int))).run P w=.ok v w:=by
 have h0:(0:Int)<=(j:Int):=Int.natCast_nonneg j;unfold Instr.index;simp only[asIntOf,Sem.run_bind,Sem.run_pure,Result.andThen_ok,run_underlying aY];rw[if_pos ⟨h0,by omega⟩];simp only[Sem.run_bind,bC.run_sizeOf he,Result.andThen_ok,Int.toNat_natCast,aw]
theorem Xa{P:Program} {e:TypeId} {i':bC} {B:Nat->Prop} {ai w:World} {g:ba} {l:List g.D} {vs:List Value} {j:Nat} (he:bC.ok P e i') (az:Flat (bP B ai g) l vs) (aF:j < l.length) (c6:g.size=i'.size) (ns:jO i'.desc=g.p2) (iL:(g.p2 || Nat.beq g.size 1)=true) :
  ∃ v,(part e vs.toArray (j * i'.size)).run P w=.ok v w/\eQ B ai g (l.getD j g.zero) v:=by
 have kx:l[j]?=some (l.getD j g.zero):=by rw[List.getD_eq_getElem?_getD,List.getElem?_eq_getElem aF]; rfl
 have U:=Flat.get (fun _ _=>bP.length) az kx;have hlen:=bP.length U;cases an:g.p2 with
 | true=>
  refine⟨.agg (vs.toArray.extract (j * i'.size) (j * i'.size+i'.size)),?_,?_⟩
  ·unfold part
   simp[bC.w8 he,ns,an,bC.run_sizeOf he]
  ·have:=eQ.W3 U an
   rw[<- c6];have aC:vs.toArray.extract (j * g.size) (j * g.size+g.size)=((vs.drop (j * g.size)).take g.size).toArray:=by
    apply Array.ext'
    simp[Array.toList_extract,List.extract]
   rw[aC];exact this
 | false=>
  rw[an,Bool.false_or]at iL;have xo:=Nat.eq_of_beq_eq_true iL;obtain⟨v,kU⟩:∃ v,(vs.drop (j * g.size)).take g.size=[v]:=by
   match hm:(vs.drop (j * g.size)).take g.size,hlen with
   | [v],_=>exact⟨v,rfl⟩
   | [],h=>simp[xo]at h
   | _ :: _ :: _,h=>simp[xo]at h
  have mJ:vs[j * i'.size]?=some v:=by
   have:=congrArg (·[0]?) kU
   rw[<- c6]
   simpa [List.getElem?_take,List.getElem?_drop,xo] using this
  refine⟨v,?_,eQ.W4 (by rw[<- kU]; exact U) an⟩;unfold part
  simp[bC.w8 he,ns,an,mJ]
def Bt(g:ba) (m:Nat):bh->Option (Bool×List g.D)
 | .agg cs=>match u3 g m cs with
  | some (c,l,[])=>some (c,l)
  | _=>none
 | .arr cr l=>match decEq cr g with
  | isTrue h=>some (true,h ▸ l)
  | isFalse _=>none
 | _=>none
theorem Xb{env:Nat->Loc} {B:Nat->Prop} {w:World} {g:ba} {m:Nat} {x:bh} {c:Bool} {l:List g.D} {v:Value} (h:dH env B w x v) (aS:Bt g m x=some (c,l)) (aa:c=true):∃ vs,v=.agg vs.toArray/\Flat (bP B w g) l vs:=by
 unfold Bt at aS
 split at aS
 ·split at aS
  ·rename_i c' l' ax
   cases aS;obtain⟨vs,rfl,J⟩:=h;obtain⟨_,v1,v2,e,U,ag⟩:=Fi J ax aa;have ay:v2=[]:=ag;rw[ay,List.append_nil]at e;subst e;exact⟨_,rfl,U⟩
  ·cases aS
 ·split at aS
  ·rename_i aV _
   subst aV;cases aS;exact h
  ·cases aS
 ·cases aS
section
variable {X:bq} {M:Bool} {n:Nat} {r:Option Nat} {st:aM} {Q:Exit->aM->Prop} {ops rest:List Oper} {o:Oper} {d:Nat}
end
end

section
def kg(l:List Int):List UInt8:=l.map fun z=>UInt8.ofNat z.toNat
def rn(l:List Int):Bool:=l.all fun z=>decide (0<=z)&&decide (z < 256)
theorem Fo:∀ l:List Int,rn l=true->(kg l).map (fun c=>Value.int .u8 (c.toNat:Int))=l.map fun z=>Value.int .u8 z
 | [],_=>rfl
 | z :: l,h=>by
  simp only[rn,List.all_cons,Bool.and_eq_true,decide_eq_true_eq]at h;show Value.int .u8 (((UInt8.ofNat z.toNat).toNat:Nat):Int) :: (kg l).map _=_;rw[Fo l h.2,List.map_cons]
  congr 2
  have:(UInt8.ofNat z.toNat).toNat=z.toNat:=UInt8.toNat_ofNat_of_lt' (by show z.toNat < 256; omega)
  rw[this,Int.toNat_of_nonneg h.1.1]
theorem Xc(s:List UInt8) (a b:Nat):Value.string ((ByteArray.mk s.toArray).extract a b)=fi ((s.take b).drop a):=by
 unfold fi
 congr 1
 apply ByteArray.ext
 rw[ByteArray.data_extract]
 apply Array.ext'
 simp[Array.toList_extract,List.extract,List.drop_take]
section
variable {X:bq} {M:Bool} {n:Nat} {r:Option Nat} {st:aM} {Q:Exit->aM->Prop} {ops rest:List Oper} {o:Oper} {d:Nat}
theorem Fp{P:Program} {t:TypeId} {s:List UInt8} {w:World} (aY:P.underlying t=some .string) {lo hi:Option Value} {a b:Nat} (h:(Instr.sliceBounds false s.length s.length lo hi none).run P w=.ok (a,b,s.length) w):(Instr.sliceAt t (fi s) lo hi none).run P w=.ok (fi ((s.take b).drop a)) w:=by
 have c6:(ByteArray.mk s.toArray).size=s.length:=by simp[ByteArray.size]
 unfold Instr.sliceAt Instr.slice;simp only[fi,Sem.run_bind,run_underlying aY,Result.andThen_ok,c6,h,Option.isSome_none,Bool.false_eq_true,if_false,Sem.run_pure]
 have:=Xc s a b
 simp only[fi]at this;rw[this]
end
end

section
section
variable {P:Program} {o:Oper} {n d:Nat} {D:List Deferred} {L:List (Nat×Value)} {a:Act} {w ai:World} {B:Nat->Prop} {H:List bc} {T:List (TypeId×bC)} {ops:Array Oper} {KK:Act->World->Prop}
theorem LC{s x:Operand} {t e:TypeId} {i i':bC} {A c7:Option Addr} {k m cc:Nat} {xs news:List Value} (av:Sym n D L B ai H a w)
  (aA:o.op=.call { callee:=.builtin .append,args:=#[s,x],argTypes:=#[t,t] }) (bb:o.guard=none/\o.dst=some d) (ax:Nat.blt d n=true)
  (ca:gg P T) (J:T.lookup t=some i) (U:i.desc=.slice e) (ag:T.lookup e=some i') (ay:Nat.blt 0 i'.size=true) (aO:i'.zero.cells.size=i'.size) (aj:aE L s=some (.slice A k k)) (ah:aE L x=some (.slice c7 m cc))
  (gw:Reads w A k i'.size xs) (au:Reads w c7 m i'.size news) (iL:∀ u∈news,u.oneCell'=true) (fE:(k+m) * i'.bytes<=140737488355328) (gm:k+m<=140737488355328)
  (bk:m=0->∀ aW w',Sym n D ((d,.slice A k k) :: L) B ai H aW w'->KK aW w')
  (h:∀ cm c' aW w',Sym n D ((d,.slice cm (k+m) c') :: L) B ai (.row cm c' e i'.size (k+m) (xs++news) :: H) aW w'->KK aW w'):eW P ops o KK a w:=by
 have aC:=(ca _ _ J).1;rw[U]at aC;have cq:=ca _ _ ag
 by_cases hm:m=0
 ·subst hm
  have dW:(execOp a.eval o).run P w=.ok (.value (.slice A k k)) w:=by
   have nS:(Builtin.append_ #[t,t] o.type #[.slice A k k,.slice c7 0 cc]).run P w=.ok (.slice A k k) w:=by
    have ep:=bC.run_sizeOf cq w;have nT:(Builtin.firstCells i'.size 0 (.slice c7 0 cc)).run P w=.ok #[] w:=by
     cases c7<;>simp[Builtin.firstCells,loadCells,loadCellsFrom]
    simp only[Builtin.append_,Sem.run_bind,run_underlying aC,Result.andThen_ok,ep]
    simp[run_underlying aC,Builtin.lenOf,nT]
    cases A<;>simp[storeCells,ep,nT]
   simp[execOp,aA,resolve,invoke,builtin,av.aE aj,av.aE ah,nS]
  exact pG av bb ax dW av.aU (bk rfl)
 ·have pJ:0 < m:=by omega
  cases A with
  | none=>
   have ab:k=0:=by
    by_cases ab:k=0
    ·exact ab
    ·obtain⟨b,p,e,_⟩:=gw.2 (by omega)
     cases e
   subst ab;have sS:xs=[]:=List.eq_nil_of_length_eq_zero (by rw[gw.1]; simp);subst sS;have sA:Sym n D L B ai (.row none 0 e i'.size 0 [] :: H) a w:=⟨av.st,av.aU.oL e i'.size⟩
   exact AG sA aA bb ax ca J U ag ay aO aj ah uo au iL fE gm h
  | some qX=>
   obtain⟨inf,oI,fu,hx,lH⟩:=bC.info cq;obtain⟨iM,hK,cu,jg⟩:=au.2 pJ;subst cu;have holds:∀ j u,xs[j]?=some u->w.cell? (qX.add j)=some u:=fun j u hu=>by
    have aL:j < xs.length:=(List.getElem?_eq_some_iff.1 hu).1;rw[gw.1]at aL;have ab:0 < k:=by
     rcases Nat.eq_zero_or_pos k with ab | ab
     ·rw[ab,Nat.zero_mul]at aL; omega
     ·exact ab
    obtain⟨b,p,cu,jf⟩:=gw.2 ab;cases cu;rw[Addr.add_lit];exact jf j u hu
   have hlen:(xs++news).length=(k+m) * i'.size:=by rw[List.length_append,gw.1,au.1,Nat.add_mul]
   have dW:=run_append_grow (P:=P) w t o.type e inf i'.zero aC oI lH qX k k xs (by rw[gw.1,fu]) holds ⟨iM,hK,none⟩ m cc news (by rw[au.1,fu]) (fun j u hu=>by rw[Addr.add_lit]; exact jg j u hu) (by omega) (by omega) (growslice_fits (by omega) (by rw[hx]; exact fE));have pI:=grownCap_ge w (k+m) k e;have h1:grownCap w (k+m) k e<=maxLen:=grownCap_le_maxLen w (k+m) k e (by simp only[maxLen]; omega);refine pG av bb ax (v:=.slice (some ⟨w.heap.size,0,none⟩) (k+m) (grownCap w (k+m) k e)) (w':=w.drew.alloc (.cells (xs.toArray++news.toArray++Builtin.zeroCells i'.zero.cells (grownCap w (k+m) k e - (k+m))) e)) (by simp[execOp,aA,resolve,invoke,builtin,av.aE aj,av.aE ah,dW]) ?_ (h (some ⟨w.heap.size,0,none⟩) (grownCap w (k+m) k e));have lI:=av.aU.drew;have aS:=lI.alloc (.cells (xs.toArray++news.toArray++Builtin.zeroCells i'.zero.cells (grownCap w (k+m) k e - (k+m))) e);have an:=List.pairwise_cons.1 aS.apart;refine⟨aS.below,aS.base,fun dz kN=>?_,List.Pairwise.cons (fun dz kN q cu=>an.1 dz kN q (by simpa [bc.has] using cu)) an.2⟩
   rcases List.mem_cons.1 kN with rfl | kN
   ·refine⟨hlen,.inr ⟨w.heap.size,_,(0,0),rfl,av.aU.fresh,heap_alloc_new w.drew _,.inl rfl,pI,h1,?_,?_⟩⟩
    ·simp only[Array.size_append,List.size_toArray,size_zeroCells,aO,gw.1,au.1,<- Nat.add_mul]
     congr 1
     omega
    ·simp only[Array.toList_append,List.append_assoc]
     rw[<- List.append_assoc,<- hlen];exact List.take_left
   ·exact aS.ok dz (List.mem_cons_of_mem _ kN)
end
section
variable {X:bq} {M:Bool} {n:Nat} {r:Option Nat} {st:aM} {Q:Exit->aM->Prop} {ops rest:List Oper} {o:Oper} {d:Nat}
def gB(X:bq) (n:Nat) (o:Oper) (st st':aM):Prop:=∀ (R:Nat->Prop) (W:World) (aD:eT) (ks:List Nat) (env:Nat->Loc) (B:Nat->Prop) (ai:World) (H:List bc) (a:Act) (w:World),bI X R W aD n ks env B ai H st a w->∀ (KK:Act->World->Prop) (l:List Oper),(∀ aW w' env' H',bI X R W aD n ks env' B ai H' st' aW w'->KK aW w')->eW X.P l.toArray o KK a w
theorem Fq{st':aM} {E:List Nat} {aI:hD} {fuel i:Nat} {l':Array Bool} (hi:nth ops i=some o) (an:gB X n o st st') (ho:fD E aI.listed i=false) (ad:aI.listed.setIfInBounds i true=l')
  (h:jm X M n ops E fuel ⟨l',false,false,aI.jU,aI.all⟩ st' Q):oW X M n ops E fuel aI st Q i:=by
 intro R W aD dr dD cT F ks env B ai H a w cp al dY;refine⟨o,k0 hi,an R W aD ks env B ai H a w al _ _ fun aW w' env' H' b7=>?_⟩;have gA:=dY.lost (H':=H') (l:=l');rw[ad];exact⟨⟨fun he=>(by rw[ho]at he; cases he),gA.F b7⟩,h R W aD dr dD cT F ks env' B ai H' aW w' cp b7 gA⟩
theorem Xd(av:X.a7.ok X.P) {t e:TypeId} {x y:Operand} {g1 g2:Bool} {eZ:bh} {id cP gW:Nat} {ge g:ba} {l ct:List g.D} {bp:bo} {aI:TypeDesc} {kA:Value} (aA:o.op=.call ⟨.builtin .append,⟨[x,y]⟩,⟨[t,t]⟩⟩) (bb:o.guard=none/\o.dst=some d) (ax:(Nat.blt d n&&Nat.blt id h2)=true)
  (aY:X.a7.find t=some bp) (dv:bp.bs.desc=.slice e) (he:X.a7.find e=some ⟨⟨aI,cP,gW,kA⟩,some ge⟩) (ah:bw X st.L x=some (g1,.c (.ak id))) (aV:g1=true) (aH:bw X st.L y=some (g2,eZ)) (fL:g2=true)
  (b8:aZ st.H id=some (.fw e g l)) (c6:Nat.beq g.size cP=true) (mL:lQ st g eZ=some ct) (aa:ee gW (l.length+ct.length)=true):gB X n o st ⟨(d,.c (.ak id)) :: fe id .dead st.L,(id,.fw e g (l++ct)) :: dG id .dead st.H⟩:=by
 intro R W aD ks env B ai H a w h KK lo ed;obtain⟨vx,hl,lp⟩:=h.aE ah aV;obtain⟨vy,fN,ky⟩:=h.aE aH fL;obtain⟨dw,dP,iQ⟩:=(cj.get av he).g ge rfl;obtain⟨T,ca,J,ay⟩:=mH (cj.get av aY).bs (cj.get av he).bs;dsimp only at dw dP ay;have nb:kA.cells.size=cP:=by
  have:kA.cells.toList.length=cP:=by rw[dP,<- dw]; exact bP.length (bP.eh (B:=B) (w:=ai) ge)
  simpa using this
 simp only[Bool.and_eq_true]at ax;obtain⟨ax,sz⟩:=ax;have hk:=Nat.eq_of_beq_eq_true c6;simp only[ee,Bool.and_eq_true,decide_eq_true_eq]at aa;obtain⟨c7,cR,gy,rfl,jC,iA⟩:=q4 h mL ky;obtain⟨A,c,m,jD,rfl⟩:=lp;obtain⟨dz,K,⟨cm,k',n0,p3⟩,fp,n1⟩:=h.ES (d:=d) (b':=.fw e g (l++ct)) b8 (fun q an=>by
  obtain⟨_,aO,aK⟩:=h.dt _ _ an;rw[jD]at aO
  rcases aK with⟨b,aK⟩ | aK
  ·rw[<- aO]at aK; cases aK
  ·have:=dK sz; omega)
 rw[jD]at n0;cases n0;have LD:Nat.blt 0 cP=true:=by rw[<- dw]; exact Nat.ble_eq_true_of_le iQ
 rcases p3 with⟨xs,rfl,cS⟩ | ⟨rfl,rfl,dL,xs,cS,hj⟩
 ·rw[hk]at fp iA
  refine AG h.sym aA bb ax ca J dv ay LD nb hl fN fp iA (Flat.jB (fun _ _=>bP.jB) jC) aa.1 aa.2 fun cm c' aW w' ck=>?_
  obtain⟨H',_,c3⟩:=n1 (.row cm c' (l++ct).length) (.row cm c' e g.size (l++ct).length (xs++gy)) aW w' (.c (.ak id)) _ ⟨cm,c',e8,.inl ⟨_,rfl,cS.append jC⟩⟩ ⟨cm,c',_,e8,by rw[List.length_append]⟩ (by rw[hk,List.length_append]; exact ck.aU) ck.st;exact ed aW w' _ H' c3
 ·have pR:=hj.gv h.aU
  rw[hk]at pR iA;refine LC h.sym aA bb ax ca J dv ay LD nb hl fN pR iA (Flat.jB (fun _ _=>bP.jB) jC) aa.1 aa.2 (fun hm aW w' ck=>?_) fun cm c' aW w' ck=>?_
  ·have fz:ct=[]:=List.eq_nil_of_length_eq_zero hm
   subst fz;obtain⟨Y,Z,gh,sT⟩:=fp;obtain⟨H',_,c3⟩:=n1 (.row A l.length (l++[]).length) (.row none 0 e g.size 0 []) aW w' (.c (.ak id)) (.slice A l.length l.length) ⟨A,l.length,e8,.inr ⟨rfl,by simp,dL,xs,by rw[List.append_nil]; exact cS,by rw[List.append_nil]; exact hj⟩⟩ ⟨A,l.length,_,e8,by simp⟩ (by rw[sT]; dsimp only; rw[<- gh]; exact ck.aU) ck.st;exact ed aW w' _ H' c3
  ·obtain⟨Y,Z,gh,sT⟩:=fp
   obtain⟨H',_,c3⟩:=n1 (.row cm c' (l++ct).length) (.row cm c' e g.size (l++ct).length (xs++gy)) aW w' (.c (.ak id)) (.slice cm (l.length+ct.length) c') ⟨cm,c',e8,.inl ⟨_,rfl,cS.append jC⟩⟩ ⟨cm,c',_,e8,by rw[List.length_append]⟩ (by
    have hB:=ck.aU;rw[gh]at hB;rw[sT];dsimp only;have an:(bc.row cm c' e cP (l.length+ct.length) (xs++gy) :: (Y++bc.row none 0 e g.size 0 [] :: Z)).Perm (bc.row none 0 e g.size 0 [] :: (Y++bc.row cm c' e cP (l.length+ct.length) (xs++gy) :: Z)):=by
     refine(List.Perm.cons _ List.perm_middle).trans ?_;refine(List.Perm.swap _ _ _).trans (List.Perm.cons _ List.perm_middle.symm)
    have hr:=(hB.perm an).en (List.sublist_cons_self _ _);rw[hk,List.length_append];exact hr) ck.st
   exact ed aW w' _ H' c3
end
section
variable {X:bq} {n:Nat} {st:aM}
theorem dk.Bu(id:Nat) {t:TypeId} {g:ba} {l:List g.D} {cap:Option Nat} (aj:aZ st.H id=some (.row t g l cap)):dk X n st ⟨st.L,eO id (.fw t g l) st.H⟩:=fun R W aD M a w ⟨ks,env,B,ai,H,cp,h⟩=>by
 obtain⟨dz,K,⟨A,k,xs,he,e,cS,_⟩,⟨Y,Z,J,U⟩,ag⟩:=h.mK (b':=.fw t g l) aj;obtain⟨H',ay⟩:=ag dz a w ⟨A,k,he,.inl ⟨xs,e,cS⟩⟩ (by rw[U]; dsimp only; rw[<- J]; exact h.aU) h.cb;exact⟨ks,env,B,ai,H',cp,ay⟩
theorem dk.sU(s id:Nat) (t:TypeId) (ji:Nat.blt id n=true) {g:ba} {l:List g.D} {c:Nat} (aj:aZ st.L s=some (.c (.bd g l (some c)))) (aa:c=l.length):dk X n st ⟨(s,.c (.ak id)) :: fe id .dead st.L,(id,.fw t g l) :: dG id .dead st.H⟩:=fun R W aD M a w ⟨ks,env,B,ai,H,cp,h⟩=>by
 obtain⟨v,aw,A,c',xs,rfl,c8,dL,fq,cS,hj⟩:=h.has _ _ aj;have cq:c'=l.length:=(fq c rfl).trans aa;subst cq;obtain⟨H2,J,U⟩:=h.heap.del (z:=.dead) (h4 (env:=env) (id:=id) (l:=.row A l.length l.length)) (fun _ _=>trivial);refine⟨ks,h8 env id (.row A l.length l.length),B,ai,.row none 0 t g.size 0 [] :: H2,cp,h.size,h.defs,fun q u hu=>?_,⟨_,H2,rfl,⟨A,_,e8,.inr ⟨rfl,rfl,dL,xs,cS,hj⟩⟩,U⟩,(h.aU.oL t g.size).en ((J.append_right _).cons_cons _),h.sub,h.new,nY h.dt (fun q an=>by have J:=(h.dt _ _ an).1; have U:=dK ji; omega),h.base,h.dX⟩;rw[cn]at hu
 split at hu
 ·rename_i e
  subst e;cases hu;exact⟨_,aw,A,_,_,e8,rfl⟩
 ·obtain⟨hz,hA,rfl⟩:=lK hu
  obtain⟨eF,aK,bY⟩:=h.has q hz hA;exact⟨eF,aK,ei.sub (z:=.dead) h4 (fun _ _=>trivial) bY⟩
def rp(id:Nat) (st:aM):Option aM:=
 match aZ st.H id with
 | some (.fw _ g l)=>some ⟨fe id (.bd g l none) st.L,dG id (.bd g l none) st.H⟩
 | _=>none
theorem LF{b iM:cA} {id:Nat}:∀ {l:bE},aZ l id=some b->aZ (eO id iM l) id=some iM
 | [],h=>by cases h
 | (k,b') :: r,h=>by
  rw[cn]at h;unfold eO
  split
  ·rename_i ab
   rw[cn,if_pos (Nat.eq_of_beq_eq_true ab).symm]
  ·rename_i ab
   have cG:¬ id=k:=fun e=>by rw[e,Nat.beq_refl]at ab; cases ab
   rw[if_neg cG]at h;rw[cn,if_neg cG];exact LF h
theorem LG{b:cA} {id:Nat} {z:bg}:∀ {l:bE} {iM:cA},aZ l id=some iM->dG id z (eO id b l)=dG id z l
 | [],_,h=>by cases h
 | (k,b') :: r,iM,h=>by
  rw[cn]at h;unfold eO;cases ab:Nat.beq k id with
  | true=>simp only[dG,ab]
  | false=>
   have cG:¬ id=k:=fun e=>by rw[e,Nat.beq_refl]at ab; cases ab
   rw[if_neg cG]at h;simp only[dG,ab,LG h]
theorem dk.rp{id:Nat} {st':aM} (az:rp id st=some st'):dk X n st st':=fun R W aD M a w ⟨ks,env,B,ai,H,cp,h⟩=>by
 unfold Go.Proofs.YtldjgdggcodgeaaGreat.rp at az
 split at az
 ·rename_i t g l b8
  cases az;obtain⟨dz,K,⟨A,k,he,p3⟩,⟨Y,Z,aC,a1⟩,aO⟩:=h.mK (b':=.row t g l none) b8
  rcases p3 with⟨xs,rfl,cS⟩ | ⟨rfl,rfl,dL,xs,cS,hj⟩
  ·obtain⟨H',aK⟩:=aO _ a w ⟨A,k,xs,he,rfl,cS,fun _ ao=>by cases ao⟩ (by rw[a1]; dsimp only; rw[<- aC]; exact h.aU) h.cb
   have Fs:Go.Proofs.YtldjgdggcodgeaaGreat.dn id ⟨st.L,eO id (.row t g l none) st.H⟩=some ⟨fe id (.bd g l none) st.L,dG id (.bd g l none) st.H⟩:=by
    unfold Go.Proofs.YtldjgdggcodgeaaGreat.dn;dsimp only;rw[LF b8];dsimp only;rw[LG b8]
   exact dk.dn (X:=X) (n:=n) Fs R W aD M a w ⟨ks,env,B,ai,H',cp,aK⟩
  ·have q5:∀ v,dy env B ai (.ak id) v->dy env B ai (.bd g l none) v:=by
    rintro v ⟨cm,c',m,cV,rfl⟩;rw[he]at cV;cases cV;exact⟨A,l.length,xs,rfl,Nat.le_refl _,dL,(fun _ ao=>by cases ao),cS,hj⟩
   obtain⟨H2,J,U⟩:=h.heap.del (id:=id) (env':=env) (fun _ _=>rfl) q5;refine⟨ks,env,B,ai,H2,cp,h.size,h.defs,fun q u hu=>?_,U,h.aU.en (J.append_right _),h.sub,h.new,h.dt,h.base,h.dX⟩;obtain⟨hz,hA,rfl⟩:=lK hu;obtain⟨eF,aK,bY⟩:=h.has q hz hA;exact⟨eF,aK,ei.sub (fun _ _=>rfl) q5 bY⟩
 ·cases az
end
end

section
section
variable {X:bq} {M:Bool} {n:Nat} {r:Option Nat} {st:aM} {Q:Exit->aM->Prop} {ops rest:List Oper} {o:Oper} {d:Nat} {bx:bh}
theorem Xe(av:X.a7.ok X.P) {t T:TypeId} {bp:bo} {x:Operand} {id d2 i:Nat} {el:Bool} {g:ba} {l:List (List g.D)} {cap:Option Nat} {g1:Bool} (aA:o.op=.load t x)
  (aY:X.a7.find t=some bp) (ns:jO bp.bs.desc=false) (ah:bw X st.L x=some (g1,.c (.dV id 1 i 0))) (dw:g1=true) (b8:aZ st.H id=some (.bX el T g l cap i d2)):hh X st o (.c (.ak d2)):=by
 intro R W aD n ks env B ai H a b0 al;obtain⟨vx,J,b,c,m,he,rfl⟩:=al.aE ah dw;obtain⟨dz,K,⟨A,k,bn,cm,c',cI,cV,rfl,cS,hi,kY,_⟩,az⟩:=al.heap.gx b8;rw[he]at cV;cases cV;have Xf:bn.length=l.length:=nd.ln cS;refine⟨.slice cm cI c',⟨cm,c',cI,kY,rfl⟩,fun w aj=>?_⟩;have e7:ey w (fun k=>R k\/B k) T 1 (some ⟨b,0,none⟩) c l.length (bn.set i (.slice cm cI c')):=(aj (by rw[aA]; rfl)).ok _ az.more.mem;have jy:w.cell? ⟨b,i * 1+0,none⟩=some (.slice cm cI c'):=by
  rw[e7.cells rfl _ (by omega)]
  simp[List.getElem?_set,Xf,hi]
 exact sl al.cb aA (cj.get av aY).bs ns J jy
theorem Xg{t bR:TypeId} {u v:Operand} {g1 g2 ft cR:Bool} {cs aI:List bg} {g:ba} {x y:g.D} (bZ:rk X.P t g) (aA:o.op=.binOp .eql t u v bR)
  (hu:bw X st.L u=some (g1,.agg cs)) (dw:g1=true) (aw:bw X st.L v=some (g2,.agg aI)) (dP:g2=true) (ah:dec g cs=some (ft,x,[])) (jf:ft=true) (aH:dec g aI=some (cR,y,[])) (jg:cR=true):hh X st o (.c (.val (.bool (g.beq x y)))):=by
 intro R W aD n ks env B ai H a b0 al;obtain⟨jj,J,U⟩:=al.aE hu dw;obtain⟨vv,ag,ay⟩:=al.aE aw dP;rw[cC.cK bZ.key U ah jf]at J;rw[cC.cK bZ.key ay aH jg]at ag;exact⟨_,rfl,fun w _=>R0 al.cb aA J ag bZ.guard (bZ.eq x y) w⟩
theorem Xh{t bR:TypeId} {u v:Operand} {g1 g2 ft cR:Bool} {cs aI:List bg} {g:ba} {x y:g.D} (bZ:rk X.P t g) (aA:o.op=.binOp .neq t u v bR)
  (hu:bw X st.L u=some (g1,.agg cs)) (dw:g1=true) (aw:bw X st.L v=some (g2,.agg aI)) (dP:g2=true) (ah:dec g cs=some (ft,x,[])) (jf:ft=true) (aH:dec g aI=some (cR,y,[])) (jg:cR=true):hh X st o (.c (.val (.bool (!(g.beq x y))))):=by
 intro R W aD n ks env B ai H a b0 al;obtain⟨jj,J,U⟩:=al.aE hu dw;obtain⟨vv,ag,ay⟩:=al.aE aw dP;rw[cC.cK bZ.key U ah jf]at J;rw[cC.cK bZ.key ay aH jg]at ag;exact⟨_,rfl,fun w _=>R1 al.cb aA J ag bZ.guard (bZ.eq x y) w⟩
end
end

section
section
variable {env:Nat->Loc} {B B':Nat->Prop} {w w':World}
end
end

section
def Ft(p:Nat) (c:bg):List bg->List bg
 | []=>[]
 | x :: r=>match p with
  | 0=>c :: r
  | q+1=>x :: Ft q c r
def o1(k p:Nat) (c:bg):bE->bE
 | []=>[]
 | (j,b) :: r=>match Nat.beq j k with
  | true=>(j,match b with
   | .cells t cs=>.cells t (Ft p c cs)
   | b=>b) :: r
  | false=>(j,b) :: o1 k p c r
theorem cC.at{env:Nat->Loc} {B:Nat->Prop} {w:World}:∀ {p:Nat} {cs:List bg} {vs:List Value} {c:bg},cC env B w cs vs->cs[p]?=some c->∃ v,vs[p]?=some v/\dy env B w c v
 | _,[],_,_,_,an=>by cases an
 | 0,x :: cs,_,c,⟨v,r,e,J,_⟩,an=>by
  cases an;exact⟨v,by rw[e]; rfl,J⟩
 | p+1,x :: cs,_,c,⟨v,r,e,_,U⟩,an=>by
  obtain⟨u,ag,ay⟩:=cC.at (p:=p) (cs:=cs) U (by simpa using an);exact⟨u,by rw[e]; simpa using ag,ay⟩
theorem cC.setAt{env:Nat->Loc} {B:Nat->Prop} {w:World} {c:bg}:∀ {p:Nat} {cs:List bg} {vs:List Value} {v:Value},cC env B w cs vs->vs[p]?=some v->dy env B w c v->cC env B w (Ft p c cs) vs
 | 0,[],_,_,h,_,_=>h
 | _+1,[],_,_,h,_,_=>h
 | 0,x :: cs,_,v,⟨u,r,e,_,U⟩,an,aa=>by
  rw[e]at an;cases an;exact⟨_,r,e,aa,U⟩
 | p+1,x :: cs,_,v,⟨u,r,e,J,U⟩,an,aa=>by
  rw[e]at an;exact⟨u,r,e,J,cC.setAt (p:=p) U (by simpa using an) aa⟩
section
variable {env:Nat->Loc} {B:Nat->Prop} {w:World}
theorem bt.sU{k p id:Nat} {t:TypeId} {cs:List bg} {g:ba} {li:List g.D} {c:Nat} (ab:Nat.beq k id=false) (aa:c=li.length):∀ {l:bE} {H:List bc},bt env B w l H->aZ l k=some (.cells t cs)->cs[p]?=some (.bd g li (some c)) ->
  ∃ A xs,li.length<=maxLen/\Flat (bP B w g) li xs/\ma B w A li.length g.size xs/\∀ env',(∀ j,j≠id->env' j=env j)->env' id=.row A li.length li.length->∃ H',H'.Sublist H/\bt env' B w (o1 k p (.ak id) (dG id .dead l)) H'
 | [],_,_,ad,_=>by cases ad
 | (j,b) :: l,_,⟨dz,H',e,J,U⟩,ad,an=>by
  rw[cn]at ad;subst e
  split at ad
  ·rename_i e
   subst e;cases ad;obtain⟨Bv,vs,c8,dL,fA⟩:=J;obtain⟨v,hg,A,c',xs,lJ,u9,x3,Xi,Xj,Xk⟩:=cC.at fA an;have uN:c'=li.length:=(Xi c rfl).trans aa;subst uN;refine⟨A,xs,x3,Xj,Xk,fun env' he ji=>?_⟩;obtain⟨H2,aj,ag⟩:=bt.del (z:=.dead) he (fun _ _=>trivial) U;have ae:ej env' B w k ((cA.cells t cs).sub id .dead) dz:=ej.sub (z:=.dead) he (fun _ _=>trivial) (Nat.ne_of_beq_eq_false ab) (b:=.cells t cs) ⟨Bv,vs,c8,dL,fA⟩;obtain⟨Xl,mb,aP,aX,bG⟩:=ae;have AW:mb=vs:=by
    rw[dL]at aX;cases aX
    rfl
   subst AW;refine⟨dz :: H2,aj.cons_cons _,?_⟩;unfold dG;rw[ab];show bt env' B w (o1 k p (.ak id) ((k,(cA.cells t cs).sub id .dead) :: dG id .dead l)) (dz :: H2);unfold o1;rw[Nat.beq_refl];exact⟨dz,H2,rfl,⟨Xl,mb,aP,aX,cC.setAt bG hg ⟨A,_,_,ji,lJ⟩⟩,ag⟩
  ·rename_i cG
   obtain⟨A,xs,c8,dL,fA,hg⟩:=bt.sU ab aa U ad an;refine⟨A,xs,c8,dL,fA,fun env' he ji=>?_⟩;obtain⟨H2,aj,ag⟩:=hg env' he ji;unfold dG
   split
   ·exact⟨H2,aj.cons _,ag⟩
   ·rename_i aF
    refine⟨dz :: H2,aj.cons_cons _,?_⟩;unfold o1;have Bf:Nat.beq j k=false:=by
     cases ae:Nat.beq j k with
     | false=>rfl
     | true=>exact absurd (Nat.eq_of_beq_eq_true ae).symm cG
    rw[Bf];exact⟨dz,H2,rfl,ej.sub (z:=.dead) he (fun _ _=>trivial) (Nat.ne_of_beq_eq_false aF) J,ag⟩
end
theorem dk.Bw{X:bq} {n:Nat} {st:aM} (k p id:Nat) (t:TypeId) (ji:Nat.blt id n=true) (n5:Nat.beq k id=false) {T:TypeId} {cs:List bg} {g:ba} {l:List g.D} {c:Nat} (aj:aZ st.H k=some (.cells T cs)) (an:cs[p]?=some (.bd g l (some c))) (aa:c=l.length) :
  dk X n st ⟨fe id .dead st.L,(id,.fw t g l) :: o1 k p (.ak id) (dG id .dead st.H)⟩:=fun R W aD M a w ⟨ks,env,B,ai,H,cp,h⟩=>by
 obtain⟨A,xs,dL,cS,hj,ao⟩:=bt.sU n5 aa h.heap aj an;obtain⟨H2,J,U⟩:=ao (h8 env id (.row A l.length l.length)) h4 e8;refine⟨ks,h8 env id (.row A l.length l.length),B,ai,.row none 0 t g.size 0 [] :: H2,cp,h.size,h.defs,fun q u hu=>?_,⟨_,H2,rfl,⟨A,_,e8,.inr ⟨rfl,rfl,dL,xs,cS,hj⟩⟩,U⟩,(h.aU.oL t g.size).en ((J.append_right _).cons_cons _),h.sub,h.new,nY h.dt (fun q an=>by have J:=(h.dt _ _ an).1; have U:=dK ji; omega),h.base,h.dX⟩;obtain⟨hz,hA,rfl⟩:=lK hu;obtain⟨eF,aK,bY⟩:=h.has q hz hA;exact⟨eF,aK,ei.sub (z:=.dead) h4 (fun _ _=>trivial) bY⟩
end

section
section
variable {P:Program} {ops:Array Oper} {o:Oper} {KK:Act->World->Prop} {n:Nat} {D:List Deferred} {L:List (Nat×Value)} {B:Nat->Prop} {ai:World} {H:List bc} {a:Act} {w:World} {d:Nat}
theorem Xm{f:FuncId} {fn:Func} {s:Nat} {p:Value} {xs:List Operand} {fo:Array TypeId} {vs:List Value} (av:Sym n D L B ai H a w) (aA:o.op=.call { callee:=.value (.tmp s),args:=xs.toArray,argTypes:=fo })
  (aj:L.lookup s=some (.func (.func f) #[p] #[])) (ir:P.funcs[f]?=some fn)
  (a6 : (fn.name == "runtime.NumGoroutine") = false) (ae : fn.body.isNone = false) (aw : iq L xs = some vs) : (execOp a.eval o).run P w = .ok (.enter f (p :: vs).toArray) w := by
 have e:a.eval (.tmp s)=.func (.func f) #[p] #[]:=av.aE (x:=.tmp s) aj
 have hJ : fn.name ≠ "runtime.NumGoroutine" := by simpa using a6
 have eX:fn.body≠none:=by intro h; rw[h]at ae; cases ae
 simp[execOp,aA,resolve,e,Deferred.ofValue,invoke,callFunc,program,Sem.run,ir,hJ,eX,av.st.iq aw]
theorem Xn{f:FuncId} {fn:Func} {s:Nat} {p:Value} {xs:List Operand} {fo:Array TypeId} {vs:List Value} {R:Value->World->Prop} (av:Sym n D L B ai H a w)
  (aA:o.op=.call { callee:=.value (.tmp s),args:=xs.toArray,argTypes:=fo }) (bb:o.guard=none/\o.dst=some d) (ax:Nat.blt d n=true) (aj:L.lookup s=some (.func (.func f) #[p] #[]))
  (ir : P.funcs[f]? = some fn) (a6 : (fn.name == "runtime.NumGoroutine") = false) (ae : fn.body.isNone = false) (aw : iq L xs = some vs) (c5 : oH P f (p :: vs).toArray w R)
  (h:∀ v aW w',R v w'->c2 n D ((d,v) :: L) aW->KK aW w'):eW P ops o KK a w:=by
 refine .inl ⟨by simp[Region.wanted,bb.1],.inr (.inr ⟨f,(p :: vs).toArray,w,Xm av aA aj ir a6 ae aw,?_⟩)⟩;refine Calls.mono c5 ?_;rintro e w' ⟨v,rfl,dO⟩;exact⟨v,rfl,h v _ w' dO (by rw[bb.2]; exact av.st.put d v (dK ax))⟩
end
section
variable {X:bq} {M:Bool} {n:Nat} {r:Option Nat} {st:aM} {Q:Exit->aM->Prop} {ops rest:List Oper} {o:Oper} {d:Nat}
end
section
variable {X:bq} {M:Bool} {n:Nat} {st:aM} {Q:Exit->aM->Prop} {ops:List Oper} {E:List Nat} {aI:hD} {Ki:Array Bool} {fuel d i:Nat} {o:Oper}
end
end

section
section
variable {X:bq} {M:Bool} {n:Nat} {r:Option Nat} {st:aM} {Q:Exit->aM->Prop} {ops rest:List Oper} {o:Oper} {d:Nat}
end
end

section
section
variable {X:bq} {M:Bool} {n:Nat} {r:Option Nat} {ops:List Oper} {rest:List Oper} {o:Oper} {d:Nat} {st:aM} {Q:Exit->aM->Prop}
theorem Xo(av:X.a7.ok X.P) {t e:TypeId} {x y:Operand} {g1 g2:Bool} {eZ:bh} {id cP gW:Nat} {ge g:ba} {l ct:List g.D} {cap:Option Nat} {bp:bo} {aI:TypeDesc} {kA:Value} (aA:o.op=.call ⟨.builtin .copy,⟨[x,y]⟩,⟨[t,t]⟩⟩) (bb:o.guard=none/\o.dst=some d) (ax:Nat.blt d n=true)
  (aY:X.a7.find t=some bp) (dv:bp.bs.desc=.slice e) (he:X.a7.find e=some ⟨⟨aI,cP,gW,kA⟩,some ge⟩) (ah:bw X st.L x=some (g1,.c (.ak id))) (aV:g1=true) (aH:bw X st.L y=some (g2,eZ)) (fL:g2=true)
  (b8:aZ st.H id=some (.row e g l cap)) (c6:Nat.beq g.size cP=true) (mL:lQ st g eZ=some ct) (aa:Nat.beq ct.length l.length=true):gB X n o st ⟨(d,.c (.val (.int .i64 (l.length:Int)))) :: st.L,eO id (.row e g ct cap) st.H⟩:=by
 intro R W aD ks env B ai H a w h KK lo ed;obtain⟨vx,hl,lp⟩:=h.aE ah aV;obtain⟨vy,fN,ky⟩:=h.aE aH fL;obtain⟨dw,dP,iQ⟩:=(cj.get av he).g ge rfl;obtain⟨T,ca,J,ay⟩:=mH (cj.get av aY).bs (cj.get av he).bs;have hk:=Nat.eq_of_beq_eq_true c6;have k1:=Nat.eq_of_beq_eq_true aa;obtain⟨c7,cR,gy,rfl,jC,iA⟩:=q4 h mL ky;obtain⟨A,c,m,jD,rfl⟩:=lp;obtain⟨dz,K,⟨cm,k',xs,n0,rfl,cS,fq⟩,fp,n1⟩:=h.mK (b':=.row e g ct cap) b8;rw[jD]at n0;cases n0;rw[hk]at fp iA;rw[k1]at fN iA;refine R9 h.sym aA bb ax ca J dv ay hl fN fp iA (Flat.jB (fun _ _=>bP.jB) jC) fun aW w' ck=>?_
 obtain⟨H',c3⟩:=n1 (.row A c e g.size l.length gy) a w' ⟨A,c,gy,by rw[k1]; exact jD,by rw[k1],jC,fq⟩ (by rw[hk]; exact ck.aU) h.cb;exact ed aW w' _ H' (c3.set rfl ck.st)
end
end

section
section
variable {X:bq} {M:Bool} {n:Nat} {r:Option Nat} {ops rest:List Oper} {o:Oper} {d:Nat} {st:aM} {Q:Exit->aM->Prop}
end
end

section
def Ke{α β:Type} (x:α) (k:α->Option β):Option β:=k x
section
variable {X:bq} {n:Nat} {st:aM}
end
/-! ### Arrays that are rows are frozen -/
section
variable {X:bq} {R:Nat->Prop} {W:World} {aD:eT} {n:Nat} {ks:List Nat} {env:Nat->Loc} {B:Nat->Prop} {ai:World} {H:List bc} {st st':aM} {a:Act} {w:World}
theorem bI.va(h:bI X R W aD n ks env B ai H st a w) (s:Nat) {id cP:Nat} {t:TypeId} {g:ba} {l:List g.D} {cap:Option Nat} (aj:aZ st.L s=some (.c (.dV id cP 0 0))) (b8:aZ st.H id=some (.row t g l cap)):∃ env' B' cJ H',bI X R W aD n ks env' B' cJ H' ⟨(s,.c (.par g l)) :: fe id .dead st.L,dG id .dead st.H⟩ a w:=by
 obtain⟨c0,_,⟨A,k,xD,he,rfl,_,fq⟩,mf⟩:=h.heap.gx b8;have dp:fJ B ai (fun q=>B q\/A.map (·.block)=some q) w:=⟨fun q ao=>.inl ao,fun q ao=>h.aU.below.block q (.inr ao)⟩
 obtain⟨c,Y,Z,⟨cm,k',xs,cV,rfl,cS,_⟩,U,ag⟩:=(h.heap.up dp).take b8;rw[he]at cV;cases cV;have jS:bc.row A k t g.size l.length xs∈H++ks.map dC:=by rw[U]; simp
 have e7:ey w (fun k=>R k\/B k) t g.size A k l.length xs:=h.aU.ok _ jS;have hU:∀ q,A.map (·.block)=some q->¬ (R q\/B q)/\q < w.heap.size:=fun q ao=>(h.aU.ok _ jS).lt ao
 obtain⟨H2,ay,aO,K1⟩:=ag env .dead (fun _ _=>rfl) (fun _ _=>trivial);have jT:=h.aU.apart;rw[U,List.append_assoc,List.cons_append]at jT;refine⟨env,_,w,H2,⟨h.size,h.defs,fun q u hu=>?_,aO,?_,fun q ao=>.inl (h.sub q ao),fun q ao=>?_,h.dt,h.base.trans ⟨h.aU.below.os,h.aU.below.tape,h.aU.below.output,h.aU.below.size,fun q ao=>h.aU.below.block q (.inl ao)⟩,fun i x ah=>(h.dX i x ah).up dp⟩⟩
 ·rw[cn]at hu
  split at hu
  ·rename_i e
   subst e;cases hu;obtain⟨eF,aK,b,c',LH,bY,c3⟩:=h.has _ _ aj;rw[he]at bY;cases bY;refine⟨eF,aK,b,0,xs,by rw[c3]; simp,.inr rfl,cS,fun j u aF=>?_⟩;have au:Reads w (some ⟨b,0,none⟩) l.length g.size xs:=Reads.AI h.aU jS;have ad:=bP.ln cS;have q1:0 < l.length:=by
    rcases Nat.eq_zero_or_pos l.length with e | e
    ·rw[e,Nat.zero_mul]at ad
     have:=(List.getElem?_eq_some_iff.1 aF).1
     omega
    ·exact e
   obtain⟨b',p,e,aa⟩:=au.2 q1;cases e;exact aa j u aF
  ·obtain⟨hz,hA,rfl⟩:=lK hu
   obtain⟨eF,aK,bY⟩:=h.has q hz hA;exact⟨eF,aK,ei.sub (z:=.dead) (fun _ _=>rfl) (fun _ _=>trivial) (bY.up dp)⟩
 ·have aj:bK (fun k=>R k\/B k) ai (H2++ks.map dC) w:=by
   have aK:=h.aU;rw[U]at aK;have an:(Y++bc.row A k t g.size l.length xs :: Z++ks.map dC).Perm (bc.row A k t g.size l.length xs :: (Y++Z++ks.map dC)):=by
    simp only[List.append_assoc,List.cons_append];exact List.perm_middle
   exact(aK.perm an).en (((ay.append_right _)).cons _)
  refine⟨dm.refl _ _,fun q ao=>?_,fun c aa=>(aj.ok c aa).base fun b ae cH=>?_,aj.apart⟩
  ·rcases ao with ao | ao | ao
   ·exact h.aU.base q (.inl ao)
   ·exact h.aU.base q (.inr ao)
   ·exact(hU q ao).2
  ·rcases cH with cH | cH | cH
   ·exact((aj.ok c aa).lt ae).1 (.inl cH)
   ·exact((aj.ok c aa).lt ae).1 (.inr cH)
   ·have h1:c∈Y++(Z++ks.map dC):=by
     rcases List.mem_append.1 aa with aa | aa
     ·have:=ay.subset aa
      rcases List.mem_append.1 this with bY | bY
      ·exact List.mem_append_left _ bY
      ·exact List.mem_append_right _ (List.mem_append_left _ bY)
     ·exact List.mem_append_right _ (List.mem_append_right _ aa)
    rw[List.pairwise_append,List.pairwise_cons]at jT;obtain⟨_,⟨c3,_⟩,hB⟩:=jT
    rcases List.mem_append.1 h1 with bY | bY
    ·exact hB c bY _ List.mem_cons_self b ae cH
    ·exact c3 c bY b cH ae
 ·rcases ao with ao | ao
  ·exact(h.new q ao).imp_right fun a8=>⟨a8.1,a8.2.e6 (h.aU.below.block q (.inr ao))⟩
  ·exact .inr ⟨fun dO=>(hU q ao).1 (.inl dO),(h.aU.ok _ jS).cells rfl ao⟩
theorem dk.va(s:Nat) {id cP:Nat} {t:TypeId} {g:ba} {l:List g.D} {cap:Option Nat} (aj:aZ st.L s=some (.c (.dV id cP 0 0))) (b8:aZ st.H id=some (.row t g l cap)):dk X n st ⟨(s,.c (.par g l)) :: fe id .dead st.L,dG id .dead st.H⟩:=fun _ _ _ _ _ _ ⟨ks,env,B,ai,H,cp,al⟩=>by
 obtain⟨env',B',cJ,H',h⟩:=al.va s aj b8;exact⟨ks,env',B',cJ,H',cp,h⟩
end
end

abbrev dq:List Type->Type
 | []=>Unit
 | A :: r=>A×dq r
abbrev x4:List Type->Type
 | []=>Unit
 | [A]=>A
 | A :: B :: r=>A×x4 (B :: r)
def oc:(l:List Type)->dq l->x4 l
 | [],_=>()
 | [_],u=>u.1
 | _ :: B :: r,u=>(u.1,oc (B :: r) u.2)
def lU:(l:List Type)->x4 l->dq l
 | [],_=>()
 | [_],u=>(u,())
 | _ :: B :: r,u=>(u.1,lU (B :: r) u.2)
theorem sV:∀ (l:List Type) (u:dq l),lU l (oc l u)=u
 | [],_=>rfl
 | [_],_=>rfl
 | _ :: B :: r,u=>by
  show(u.1,lU (B :: r) (oc (B :: r) u.2))=u;rw[sV (B :: r)]
inductive rq where
 | id (i:Nat)
 | cL (g:ba)
abbrev o2:List rq->List Type->List Type
 | [],T=>T
 | .id _ :: r,T=>o2 r T
 | .cL g :: r,T=>g.D :: o2 r T
def ly:(l:List rq)->{T:List Type}->dq (o2 l T)->List e2×dq T
 | [],_,t=>([],t)
 | .id i :: r,_,u=>(.id i :: (ly r u).1,(ly r u).2)
 | .cL g :: r,_,u=>(.cL g u.1 :: (ly r u.2).1,(ly r u.2).2)
def LI{g cr:ba} (h:cr=g) (x:cr.D):g.D:=h ▸ x
def nt{g cr:ba} (h:cr=g) (l:List cr.D):List g.D:=h ▸ l
def ru:(l:List rq)->List e2->{T:List Type}->dq T->Option (dq (o2 l T))
 | [],[],_,t=>some t
 | .id i :: r,.id j :: s,_,t=>match Nat.beq i j with
  | true=>ru r s t
  | false=>none
 | .cL g :: r,.cL cr x :: s,_,t=>match decEq cr g with
  | isTrue h=>match ru r s t with
   | some u=>some (LI h x,u)
   | none=>none
  | isFalse _=>none
 | _,_,_,_=>none
theorem Bx:∀ {l:List rq} {s:List e2} {T:List Type} {t:dq T} {u:dq (o2 l T)},ru l s t=some u->ly l u=(s,t)
 | [],[],_,_,_,h=>by cases h; rfl
 | .id i :: r,.id j :: s,_,t,u,h=>by
  unfold ru at h
  split at h
  ·rename_i e
   have:=Nat.eq_of_beq_eq_true e
   subst this
   have:=Bx h
   unfold ly;rw[this]
  ·cases h
 | .cL g :: r,.cL cr x :: s,_,t,u,h=>by
  unfold ru at h
  split at h
  ·rename_i e _
   subst e
   split at h
   ·rename_i eF e
    cases h
    have:=Bx e
    unfold ly;rw[this]
    rfl
   ·cases h
  ·cases h
 | [],_ :: _,_,_,_,h=>by cases h
 | .id _ :: _,[],_,_,_,h=>by cases h
 | .cL _ :: _,[],_,_,_,h=>by cases h
 | .id _ :: _,.cL _ _ :: _,_,_,_,h=>by cases h
 | .cL _ :: _,.id _ :: _,_,_,_,h=>by cases h
inductive cT where
 | raw (c:bg)
 | int (k:IntKind)
 | bool
 | str
 | bd (g:ba)
 | By (g:ba)
 | jn (g:ba)
 | Bz (g:ba)
 | fK (g:ba) (off:Nat)
 | par (g:ba)
 | fn (f:FuncId) (cs:List rq)
 | dV (id cP off:Nat)
 | hy (id:Nat)
 | fR (id:Nat)
abbrev cT.LT:cT->List Type->List Type
 | .raw _,T=>T
 | .int _,T=>Int :: T
 | .bool,T=>Bool :: T
 | .str,T=>List UInt8 :: T
 | .bd g,T=>List g.D :: T
 | .By g,T=>List g.D :: T
 | .jn g,T=>List g.D :: Nat :: T
 | .Bz g,T=>List g.D :: Option Nat :: T
 | .fK g _,T=>g.D :: T
 | .par g,T=>List g.D :: T
 | .fn _ cs,T=>o2 cs T
 | .dV _ _ _,T=>Nat :: T
 | .hy _,T=>Nat :: T
 | .fR _,T=>Bool :: T
def cT.S:(s:cT)->{T:List Type}->dq (s.LT T)->bg×dq T
 | .raw c,_,t=>(c,t)
 | .int k,_,u=>(.val (.int k u.1),u.2)
 | .bool,_,u=>(.val (.bool u.1),u.2)
 | .str,_,u=>(.str u.1,u.2)
 | .bd g,_,u=>(.bd g u.1 none,u.2)
 | .By g,_,u=>(.bd g u.1 (some u.1.length),u.2)
 | .jn g,_,u=>(.bd g u.1 (some u.2.1),u.2.2)
 | .Bz g,_,u=>(.bd g u.1 u.2.1,u.2.2)
 | .fK g off,_,u=>(.fK g u.1 off,u.2)
 | .par g,_,u=>(.par g u.1,u.2)
 | .fn f cs,_,u=>(.fn f (ly cs u).1,(ly cs u).2)
 | .dV id cP off,_,u=>(.dV id cP u.1 off,u.2)
 | .hy id,_,u=>(.hy id u.1,u.2)
 | .fR id,_,u=>(.fR u.1 id,u.2)
def Fu:Value->Value->Bool
 | .slice none 0 0,.slice none 0 0=>true
 | .pointer none,.pointer none=>true
 | .map none,.map none=>true
 | .nilIface,.nilIface=>true
 | .nilFunc,.nilFunc=>true
 | _,_=>false
def bg.eqv:bg->bg->Bool
 | .dead,_=>true
 | .ptr i o,.ptr j p=>Nat.beq i j&&Nat.beq o p
 | .ak i,.ak j=>Nat.beq i j
 | .eP i,.eP j=>Nat.beq i j
 | .hy i o,.hy j p=>Nat.beq i j&&Nat.beq o p
 | .iu f i,.iu g j=>Nat.beq f g&&Nat.beq i j
 | .val v,.val u=>Fu v u
 | _,_=>false
def o3(x y:bg):Prop:=∀ env B w v,dy env B w x v->dy env B w y v
theorem Xp:∀ {v u:Value},Fu v u=true->v=u:=by
 intro v u h;unfold Fu at h
 split at h<;>first | rfl | cases h
theorem bg.Xq{c x:bg} (h:c.eqv x=true):o3 x c:=by
 unfold bg.eqv at h
 split at h
 ·intro _ _ _ _ _; trivial
 ·simp only[Bool.and_eq_true]at h
  rw[Nat.eq_of_beq_eq_true h.1,Nat.eq_of_beq_eq_true h.2]; exact fun _ _ _ _ h=>h
 ·rw[Nat.eq_of_beq_eq_true h]; exact fun _ _ _ _ h=>h
 ·rw[Nat.eq_of_beq_eq_true h]; exact fun _ _ _ _ h=>h
 ·simp only[Bool.and_eq_true]at h
  rw[Nat.eq_of_beq_eq_true h.1,Nat.eq_of_beq_eq_true h.2]; exact fun _ _ _ _ h=>h
 ·simp only[Bool.and_eq_true]at h
  rw[Nat.eq_of_beq_eq_true h.1,Nat.eq_of_beq_eq_true h.2]; exact fun _ _ _ _ h=>h
 ·rw[Xp h]; exact fun _ _ _ _ h=>h
 ·cases h
def isNil:Value->Bool
 | .slice none 0 0=>true
 | _=>false
theorem LJ{v:Value} (h:isNil v=true):v=.slice none 0 0:=by
 unfold isNil at h
 split at h
 ·rfl
 ·cases h
def cT.get:(s:cT)->bg->{T:List Type}->dq T->Option (dq (s.LT T))
 | .raw c,x,_,t=>match c.eqv x with
  | true=>some t
  | false=>none
 | .int k,.val (.int k' z),_,t=>match decEq k' k with
  | isTrue _=>some (z,t)
  | isFalse _=>none
 | .bool,.val (.bool b),_,t=>some (b,t)
 | .str,.str s,_,t=>some (s,t)
 | .bd g,.bd cr l _,_,t=>match decEq cr g with
  | isTrue h=>some (nt h l,t)
  | isFalse _=>none
 | .bd g,.val v,_,t=>match isNil v with
  | true=>some (([]:List g.D),t)
  | false=>none
 | .By g,.bd cr l (some c),_,t=>match decEq cr g,Nat.beq c l.length with
  | isTrue h,true=>some (nt h l,t)
  | _,_=>none
 | .By g,.val v,_,t=>match isNil v with
  | true=>some (([]:List g.D),t)
  | false=>none
 | .jn g,.bd cr l (some c),_,t=>match decEq cr g with
  | isTrue h=>some (nt h l,c,t)
  | isFalse _=>none
 | .jn g,.val v,_,t=>match isNil v with
  | true=>some (([]:List g.D),0,t)
  | false=>none
 | .Bz g,.bd cr l c,_,t=>match decEq cr g with
  | isTrue h=>some (nt h l,c,t)
  | isFalse _=>none
 | .Bz g,.val v,_,t=>match isNil v with
  | true=>some (([]:List g.D),some 0,t)
  | false=>none
 | .fK g off,.fK cr x o,_,t=>match decEq cr g,Nat.beq off o with
  | isTrue h,true=>some (LI h x,t)
  | _,_=>none
 | .par g,.par cr l,_,t=>match decEq cr g with
  | isTrue h=>some (nt h l,t)
  | isFalse _=>none
 | .fn f cs,.fn LK ids,_,t=>match Nat.beq f LK with
  | true=>ru cs ids t
  | false=>none
 | .dV id cP off,.dV nu Xr i Xs,_,t=>match Nat.beq id nu,Nat.beq cP Xr,Nat.beq off Xs with
  | true,true,true=>some (i,t)
  | _,_,_=>none
 | .hy id,.hy nu i,_,t=>match Nat.beq id nu with
  | true=>some (i,t)
  | false=>none
 | .fR id,.fR b nu,_,t=>match Nat.beq id nu with
  | true=>some (b,t)
  | false=>none
 | .fR id,.ptr nu 0,_,t=>match Nat.beq id nu with
  | true=>some (true,t)
  | false=>none
 | .fR _,.val (.pointer none),_,t=>some (false,t)
 | _,_,_,_=>none
theorem o3.nil{g:ba} {v:Value} (h:isNil v=true) (k:Option Nat) (ab:∀ q,k=some q->q=0):o3 (.val v) (.bd g [] k):=fun env B w u hu=>by
 rw[LJ h]at hu;obtain⟨A,c,xs,J,U,ag,ay,aO⟩:=TY (env:=env) (B:=B) (w:=w) (g:=g) hu;exact⟨A,c,xs,J,U,ag,fun q ao=>by rw[ab q ao]; exact ay 0 rfl,aO⟩
theorem Xt{f:FuncId} {cs:List rq} {ids:List e2} {T:List Type} {t:dq T} {u:dq (o2 cs T)} (h:ru cs ids t=some u):((cT.fn f cs).S (T:=T) u).2=t/\o3 (.fn f ids) ((cT.fn f cs).S (T:=T) u).1:=by
 show(ly cs u).2=t/\o3 _ (.fn f (ly cs u).1);rw[Bx h];exact⟨rfl,fun _ _ _ _ h=>h⟩
theorem cT.hG{s:cT} {x:bg} {T:List Type} {t:dq T} {u:dq (s.LT T)} (h:s.get x t=some u):(s.S u).2=t/\o3 x (s.S u).1:=by
 unfold cT.get at h
 split at h
 ·split at h
  ·rename_i e; cases h; exact⟨rfl,bg.Xq e⟩
  ·cases h
 ·split at h
  ·rename_i e _; subst e; cases h; exact⟨rfl,fun _ _ _ _ h=>h⟩
  ·cases h
 ·cases h; exact⟨rfl,fun _ _ _ _ h=>h⟩
 ·cases h; exact⟨rfl,fun _ _ _ _ h=>h⟩
 ·split at h
  ·rename_i e _; subst e; cases h
   exact⟨rfl,fun _ _ _ _ ⟨A,c,xs,J,U,ag,_,aO⟩=>⟨A,c,xs,J,U,ag,(fun _ e=>by cases e),aO⟩⟩
  ·cases h
 ·split at h
  ·rename_i e; cases h; exact⟨rfl,o3.nil e _ fun _ e=>by cases e⟩
  ·cases h
 ·split at h
  ·rename_i e _ aa; subst e; cases h
   have:=Nat.eq_of_beq_eq_true aa
   subst this;exact⟨rfl,fun _ _ _ _ h=>h⟩
  ·cases h
 ·split at h
  ·rename_i e; cases h; exact⟨rfl,o3.nil e _ fun _ e=>by cases e; rfl⟩
  ·cases h
 ·split at h
  ·rename_i e _; subst e; cases h; exact⟨rfl,fun _ _ _ _ h=>h⟩
  ·cases h
 ·split at h
  ·rename_i e; cases h; exact⟨rfl,o3.nil e _ fun _ e=>by cases e; rfl⟩
  ·cases h
 ·split at h
  ·rename_i e _; subst e; cases h; exact⟨rfl,fun _ _ _ _ h=>h⟩
  ·cases h
 ·split at h
  ·rename_i e; cases h; exact⟨rfl,o3.nil e _ fun _ e=>by cases e; rfl⟩
  ·cases h
 ·split at h
  ·rename_i e _ aa; subst e; cases h
   have:=Nat.eq_of_beq_eq_true aa
   subst this;exact⟨rfl,fun _ _ _ _ h=>h⟩
  ·cases h
 ·split at h
  ·rename_i e _; subst e; cases h; exact⟨rfl,fun _ _ _ _ h=>h⟩
  ·cases h
 ·split at h
  ·rename_i e
   have:=Nat.eq_of_beq_eq_true e
   subst this;exact Xt h
  ·cases h
 ·split at h
  ·rename_i aC a1 cq
   cases h;rw[<- Nat.eq_of_beq_eq_true aC,<- Nat.eq_of_beq_eq_true a1,<- Nat.eq_of_beq_eq_true cq];exact⟨rfl,fun _ _ _ _ h=>h⟩
  ·cases h
 ·split at h
  ·rename_i aC
   cases h;rw[<- Nat.eq_of_beq_eq_true aC];exact⟨rfl,fun _ _ _ _ h=>h⟩
  ·cases h
 ·split at h
  ·rename_i aC
   cases h;rw[<- Nat.eq_of_beq_eq_true aC];exact⟨rfl,fun _ _ _ _ h=>h⟩
  ·cases h
 ·split at h
  ·rename_i aC
   cases h;rw[<- Nat.eq_of_beq_eq_true aC];exact⟨rfl,fun _ _ _ _ ⟨b,J,U⟩=>⟨b,fun _=>J,U⟩⟩
  ·cases h
 ·cases h
  exact⟨rfl,fun _ _ _ _ h=>⟨0,fun h=>(by cases h),h⟩⟩
 ·cases h
abbrev vb:List cT->List Type->List Type
 | [],T=>T
 | c :: r,T=>c.LT (vb r T)
def p4:(l:List cT)->{T:List Type}->dq (vb l T)->List bg×dq T
 | [],_,t=>([],t)
 | c :: r,_,u=>((c.S u).1 :: (p4 r (c.S u).2).1,(p4 r (c.S u).2).2)
def x5:(l:List cT)->List bg->{T:List Type}->dq T->Option (dq (vb l T))
 | [],[],_,t=>some t
 | c :: r,x :: s,_,t=>match x5 r s t with
  | some u=>c.get x u
  | none=>none
 | _,_,_,_=>none
theorem Fv:∀ {l:List cT} {s:List bg} {T:List Type} {t:dq T} {u:dq (vb l T)},x5 l s t=some u->(p4 l u).2=t/\∀ env B w vs,cC env B w s vs->cC env B w (p4 l u).1 vs
 | [],[],_,_,_,h=>by cases h; exact⟨rfl,fun _ _ _ _ h=>h⟩
 | c :: r,x :: s,_,t,u,h=>by
  unfold x5 at h
  split at h
  ·rename_i eF e
   obtain⟨J,U⟩:=Fv e;obtain⟨ag,ay⟩:=cT.hG h;unfold p4;rw[ag];refine⟨J,fun env B w vs ⟨v,q,e,aS,ae⟩=>⟨v,q,e,ay _ _ _ _ aS,U _ _ _ _ ae⟩⟩
  ·cases h
 | [],_ :: _,_,_,_,h=>by cases h
 | _ :: _,[],_,_,_,h=>by cases h
inductive fU where
 | c (x:cT)
 | agg (l:List cT)
 | arr (g:ba)
 | c9 (g:ba)
abbrev fU.LT:fU->List Type->List Type
 | .c x,T=>x.LT T
 | .agg l,T=>vb l T
 | .arr g,T=>List g.D :: T
 | .c9 g,T=>g.D :: T
def Fw(g:ba) (x:g.D):bh:=match kQ g x 0 g.size with
 | some cs=>.agg cs
 | none=>.agg []
def fU.S:(s:fU)->{T:List Type}->dq (s.LT T)->bh×dq T
 | .c x,_,u=>(.c (x.S u).1,(x.S u).2)
 | .agg l,_,u=>(.agg (p4 l u).1,(p4 l u).2)
 | .arr g,_,u=>(.arr g u.1,u.2)
 | .c9 g,_,u=>(Fw g u.1,u.2)
def fU.get:(s:fU)->bh->{T:List Type}->dq T->Option (dq (s.LT T))
 | .c x,.c y,_,t=>x.get y t
 | .agg l,.agg cs,_,t=>x5 l cs t
 | .arr g,.arr cr l,_,t=>match decEq cr g with
  | isTrue h=>some (nt h l,t)
  | isFalse _=>none
 | .c9 g,.agg cs,_,t=>match dec g cs with
  | some (true,x,[])=>match kQ g x 0 g.size with
   | some _=>some (x,t)
   | none=>none
  | _=>none
 | _,_,_,_=>none
theorem fU.hG{s:fU} {x:bh} {T:List Type} {t:dq T} {u:dq (s.LT T)} (h:s.get x t=some u):(s.S u).2=t/\∀ env B w v,dH env B w x v->dH env B w (s.S u).1 v:=by
 unfold fU.get at h
 split at h
 ·exact cT.hG h
 ·obtain⟨J,U⟩:=Fv h
  exact⟨J,fun env B w v ⟨vs,e,aa⟩=>⟨vs,e,U _ _ _ _ aa⟩⟩
 ·split at h
  ·rename_i e _; subst e; cases h; exact⟨rfl,fun _ _ _ _ h=>h⟩
  ·cases h
 ·split at h
  ·rename_i aC
   split at h
   ·rename_i jx a1
    cases h;refine⟨rfl,fun env B w v ⟨vs,e,aa⟩=>?_⟩;show dH env B w (Fw _ _) v;unfold Fw;rw[a1];exact⟨vs,e,aa.data aC rfl a1⟩
   ·cases h
  ·cases h
 ·cases h
abbrev jW:List fU->List Type->List Type
 | [],T=>T
 | c :: r,T=>c.LT (jW r T)
def hs:(l:List fU)->{T:List Type}->dq (jW l T)->List bh×dq T
 | [],_,t=>([],t)
 | c :: r,_,u=>((c.S u).1 :: (hs r (c.S u).2).1,(hs r (c.S u).2).2)
def vc:(l:List fU)->List bh->{T:List Type}->dq T->Option (dq (jW l T))
 | [],[],_,t=>some t
 | c :: r,x :: s,_,t=>match vc r s t with
  | some u=>c.get x u
  | none=>none
 | _,_,_,_=>none
theorem x6:∀ {l:List fU} {s:List bh} {T:List Type} {t:dq T} {u:dq (jW l T)},vc l s t=some u->(hs l u).2=t/\∀ env B w vs,dF env B w s vs->dF env B w (hs l u).1 vs
 | [],[],_,_,_,h=>by cases h; exact⟨rfl,fun _ _ _ _ h=>h⟩
 | c :: r,x :: s,_,t,u,h=>by
  unfold vc at h
  split at h
  ·rename_i eF e
   obtain⟨J,U⟩:=x6 e;obtain⟨ag,ay⟩:=fU.hG h;unfold hs;rw[ag];refine⟨J,fun env B w vs ⟨v,q,e,aS,ae⟩=>⟨v,q,e,ay _ _ _ _ aS,U _ _ _ _ ae⟩⟩
  ·cases h
 | [],_ :: _,_,_,_,h=>by cases h
 | _ :: _,[],_,_,_,h=>by cases h
inductive jX where
 | a (x:fU)
 | dj (l:List fU)
abbrev jX.LT:jX->List Type->List Type
 | .a x,T=>x.LT T
 | .dj l,T=>jW l T
def jX.S:(s:jX)->{T:List Type}->dq (s.LT T)->b5×dq T
 | .a x,_,u=>(.a (x.S u).1,(x.S u).2)
 | .dj l,_,u=>(.dj (hs l u).1,(hs l u).2)
def jX.get:(s:jX)->b5->{T:List Type}->dq T->Option (dq (s.LT T))
 | .a x,.a y,_,t=>x.get y t
 | .dj l,.dj cs,_,t=>vc l cs t
 | _,_,_,_=>none
def od(x y:b5):Prop:=∀ env B w v,ei env B w x v->ei env B w y v
theorem jX.hG{s:jX} {x:b5} {T:List Type} {t:dq T} {u:dq (s.LT T)} (h:s.get x t=some u):(s.S u).2=t/\od x (s.S u).1:=by
 unfold jX.get at h
 split at h
 ·exact fU.hG h
 ·obtain⟨J,U⟩:=x6 h
  exact⟨J,fun env B w v ⟨vs,e,aa⟩=>⟨vs,e,U _ _ _ _ aa⟩⟩
 ·cases h
abbrev vd:List (Nat×jX)->List Type->List Type
 | [],T=>T
 | c :: r,T=>c.2.LT (vd r T)
def ml:(l:List (Nat×jX))->{T:List Type}->dq (vd l T)->cQ×dq T
 | [],_,t=>([],t)
 | c :: r,_,u=>((c.1,(c.2.S u).1) :: (ml r (c.2.S u).2).1,(ml r (c.2.S u).2).2)
def BA:(l:List (Nat×jX))->cQ->{T:List Type}->dq T->Option (dq (vd l T))
 | [],_,_,t=>some t
 | c :: r,L,_,t=>match aZ L c.1,BA r L t with
  | some x,some u=>c.2.get x u
  | _,_=>none
theorem BB:∀ {l:List (Nat×jX)} {L:cQ} {T:List Type} {t:dq T} {u:dq (vd l T)},BA l L t=some u->(ml l u).2=t/\∀ s sv,aZ (ml l u).1 s=some sv->∃ x,aZ L s=some x/\od x sv
 | [],_,_,_,_,h=>by cases h; exact⟨rfl,fun _ _ h=>by cases h⟩
 | c :: r,L,_,t,u,h=>by
  unfold BA at h
  split at h
  ·rename_i x eF aC e
   obtain⟨J,U⟩:=BB e;obtain⟨ag,ay⟩:=jX.hG h;unfold ml;rw[ag];refine⟨J,fun s sv aj=>?_⟩;rw[cn]at aj
   split at aj
   ·rename_i e; subst e; cases aj; exact⟨x,aC,ay⟩
   ·exact U s sv aj
  ·cases h
inductive gX where
 | cells (t:TypeId) (l:List cT)
 | row (t:TypeId) (g:ba)
 | sW (t:TypeId) (g:ba)
 | fw (t:TypeId) (g:ba)
 | mp (gk bO:ba)
 | bX (el:Bool) (t:TypeId) (g:ba) (d:Nat)
 | x7 (el:Bool) (t:TypeId) (g:ba) (d:Nat)
 | hf
 | bQ (t bR:TypeId) (g:ba)
 | ve (t bR:TypeId) (g:ba) (d:Option Nat)
abbrev gX.LT:gX->List Type->List Type
 | .cells _ l,T=>vb l T
 | .row _ g,T=>List g.D :: T
 | .sW _ g,T=>List g.D :: Nat :: T
 | .fw _ g,T=>List g.D :: T
 | .mp gk bO,T=>List (gk.D×bO.D) :: T
 | .bX _ _ g _,T=>List (List g.D) :: Nat :: T
 | .x7 _ _ g _,T=>List (List g.D) :: Nat :: Nat :: T
 | .hf,T=>ByteArray :: Nat :: T
 | .bQ _ _ g,T=>List (Bool×List g.D) :: T
 | .ve _ _ g _,T=>List (Bool×List g.D) :: Nat :: T
def gX.S:(s:gX)->{T:List Type}->dq (s.LT T)->cA×dq T
 | .cells t l,_,u=>(.cells t (p4 l u).1,(p4 l u).2)
 | .row t g,_,u=>(.row t g u.1 none,u.2)
 | .sW t g,_,u=>(.row t g u.1 (some u.2.1),u.2.2)
 | .fw t g,_,u=>(.fw t g u.1,u.2)
 | .mp gk bO,_,u=>(.mp gk bO u.1 none,u.2)
 | .bX el t g d,_,u=>(.bX el t g u.1 none u.2.1 d,u.2.2)
 | .x7 el t g d,_,u=>(.bX el t g u.1 (some u.2.2.1) u.2.1 d,u.2.2.2)
 | .hf,_,u=>(.hf u.1 u.2.1,u.2.2)
 | .bQ t bR g,_,u=>(.bQ t bR g u.1 none none,u.2)
 | .ve t bR g d,_,u=>(.bQ t bR g u.1 none (some (u.2.1,d)),u.2.2)
def LL{g cr:ba} (h:cr=g) (l:List (Bool×List cr.D)):List (Bool×List g.D):=h ▸ l
def LM{g cr:ba} (h:cr=g) (l:List (List cr.D)):List (List g.D):=h ▸ l
def Xu{gk BC bO BD:ba} (h:BC=gk) (U:BD=bO) (l:List (BC.D×BD.D)):List (gk.D×bO.D):=h ▸ U ▸ l
def gX.get:(s:gX)->cA->{T:List Type}->dq T->Option (dq (s.LT T))
 | .cells t l,.cells bR cs,_,u=>match Nat.beq bR t with
  | true=>x5 l cs u
  | false=>none
 | .row t g,.row bR cr l _,_,u=>match Nat.beq bR t,decEq cr g with
  | true,isTrue h=>some (nt h l,u)
  | _,_=>none
 | .sW t g,.row bR cr l (some c),_,u=>match Nat.beq bR t,decEq cr g with
  | true,isTrue h=>some (nt h l,c,u)
  | _,_=>none
 | .fw t g,.fw bR cr l,_,u=>match Nat.beq bR t,decEq cr g with
  | true,isTrue h=>some (nt h l,u)
  | _,_=>none
 | .fw t g,.row bR cr l _,_,u=>match Nat.beq bR t,decEq cr g with
  | true,isTrue h=>some (nt h l,u)
  | _,_=>none
 | .mp gk bO,.mp BC BD l _,_,u=>match decEq BC gk,decEq BD bO with
  | isTrue h,isTrue U=>some (Xu h U l,u)
  | _,_=>none
 | .bX el t g d,.bX Fx bR cr l _ i ga,_,u=>match decEq Fx el,Nat.beq bR t,Nat.beq ga d,decEq cr g with
  | isTrue _,true,true,isTrue h=>some (LM h l,i,u)
  | _,_,_,_=>none
 | .x7 el t g d,.bX Fx bR cr l (some c) i ga,_,u=>match decEq Fx el,Nat.beq bR t,Nat.beq ga d,decEq cr g with
  | isTrue _,true,true,isTrue h=>some (LM h l,i,c,u)
  | _,_,_,_=>none
 | .hf,.hf s p,_,u=>some (s,p,u)
 | .bQ t t2 g,.bQ bR Fy cr l _ none,_,u=>match Nat.beq bR t,Nat.beq Fy t2,decEq cr g with
  | true,true,isTrue h=>some (LL h l,u)
  | _,_,_=>none
 | .ve t t2 g d,.bQ bR Fy cr l _ (some (i,ga)),_,u=>match Nat.beq bR t,Nat.beq Fy t2,decEq ga d,decEq cr g with
  | true,true,isTrue _,isTrue h=>some (LL h l,i,u)
  | _,_,_,_=>none
 | _,_,_,_=>none
def Xv(id:Nat) (x y:cA):Prop:=∀ env B w c,ej env B w id x c->ej env B w id y c
theorem gX.hG{s:gX} {x:cA} {T:List Type} {t:dq T} {u:dq (s.LT T)} (id:Nat) (h:s.get x t=some u):(s.S u).2=t/\Xv id x (s.S u).1:=by
 unfold gX.get at h
 split at h
 ·split at h
  ·rename_i e
   rw[Nat.eq_of_beq_eq_true e];obtain⟨J,U⟩:=Fv h;exact⟨J,fun env B w c ⟨b,vs,e,aa,ag⟩=>⟨b,vs,e,aa,U _ _ _ _ ag⟩⟩
  ·cases h
 ·split at h
  ·rename_i U e _
   subst U;rw[Nat.eq_of_beq_eq_true e];cases h;exact⟨rfl,fun env B w c ⟨A,k,xs,e,aa,ag,_⟩=>⟨A,k,xs,e,aa,ag,fun _ e=>by cases e⟩⟩
  ·cases h
 ·split at h
  ·rename_i U e _
   subst U;rw[Nat.eq_of_beq_eq_true e];cases h;exact⟨rfl,fun env B w c h=>h⟩
  ·cases h
 ·split at h
  ·rename_i U e _
   subst U;rw[Nat.eq_of_beq_eq_true e];cases h;exact⟨rfl,fun env B w c h=>h⟩
  ·cases h
 ·split at h
  ·rename_i U e _
   subst U;rw[Nat.eq_of_beq_eq_true e];cases h;exact⟨rfl,fun env B w c ⟨A,k,xs,e,aa,ag,_⟩=>⟨A,k,e,.inl ⟨xs,aa,ag⟩⟩⟩
  ·cases h
 ·split at h
  ·rename_i J U _ _
   subst J;subst U;cases h;exact⟨rfl,fun env B w c ⟨b,es,k,e,aa,ag,ay,_⟩=>⟨b,es,k,e,aa,ag,ay,fun _ e=>by cases e⟩⟩
  ·cases h
 ·split at h
  ·rename_i he ag _ J U _
   subst he;subst ag;rw[Nat.eq_of_beq_eq_true J,Nat.eq_of_beq_eq_true U];cases h;exact⟨rfl,fun env B w c ⟨A,k,bn,cm,c',m,e,aa,J,hi,U,_,ay⟩=>⟨A,k,bn,cm,c',m,e,aa,J,hi,U,(fun _ e=>by cases e),ay⟩⟩
  ·cases h
 ·split at h
  ·rename_i he ag _ J U _
   subst he;subst ag;rw[Nat.eq_of_beq_eq_true J,Nat.eq_of_beq_eq_true U];cases h;exact⟨rfl,fun env B w c h=>h⟩
  ·cases h
 ·cases h
  exact⟨rfl,fun env B w c h=>h⟩
 ·split at h
  ·rename_i ag J U _
   subst ag;rw[Nat.eq_of_beq_eq_true J,Nat.eq_of_beq_eq_true U];cases h;exact⟨rfl,fun env B w c ⟨A,k,bn,cM,I,e,aa,ay,aO,_⟩=>⟨A,k,bn,cM,I,e,aa,ay,aO,fun _ e=>by cases e⟩⟩
  ·cases h
 ·split at h
  ·rename_i he ag J U _ _
   subst he;subst ag;rw[Nat.eq_of_beq_eq_true J,Nat.eq_of_beq_eq_true U];cases h;exact⟨rfl,fun env B w c ⟨A,k,bn,cM,I,e,aa,ay,aO,_⟩=>⟨A,k,bn,cM,I,e,aa,ay,aO,fun _ e=>by cases e⟩⟩
  ·cases h
 ·cases h
abbrev lV:List (Nat×gX)->List Type->List Type
 | [],T=>T
 | c :: r,T=>c.2.LT (lV r T)
def iV:(l:List (Nat×gX))->{T:List Type}->dq (lV l T)->bE×dq T
 | [],_,t=>([],t)
 | c :: r,_,u=>((c.1,(c.2.S u).1) :: (iV r (c.2.S u).2).1,(iV r (c.2.S u).2).2)
def sX:(l:List (Nat×gX))->bE->{T:List Type}->dq T->Option (dq (lV l T))
 | [],[],_,t=>some t
 | c :: r,x :: s,_,t=>match Nat.beq c.1 x.1,sX r s t with
  | true,some u=>c.2.get x.2 u
  | _,_=>none
 | _,_,_,_=>none
theorem rv:∀ {l:List (Nat×gX)} {h:bE} {T:List Type} {t:dq T} {u:dq (lV l T)},sX l h t=some u->(iV l u).2=t/\∀ env B w H,bt env B w h H->bt env B w (iV l u).1 H
 | [],[],_,_,_,h=>by cases h; exact⟨rfl,fun _ _ _ _ h=>h⟩
 | c :: r,x :: s,_,t,u,h=>by
  unfold sX at h
  split at h
  ·rename_i eF aC e
   obtain⟨J,U⟩:=rv e;obtain⟨ag,ay⟩:=gX.hG x.1 h;unfold iV;rw[ag];refine⟨J,fun env B w H ⟨q,H',e,aS,ae⟩=>⟨q,H',e,?_,U _ _ _ _ ae⟩⟩;rw[Nat.eq_of_beq_eq_true aC];exact ay _ _ _ _ aS
  ·cases h
 | [],_ :: _,_,_,_,h=>by cases h
 | _ :: _,[],_,_,_,h=>by cases h
structure er where
 L:List (Nat×jX)
 H:List (Nat×gX)
 p5:List Nat:=[]
 jY:List Nat:=[]
abbrev er.T (s:er):List Type:=vd s.L (lV s.H [])
abbrev er.D (s:er):Type:=x4 s.T

section
structure bz(X:bq) where
 f:FuncId
 fn:Func
 A:List fU
 dc:List (Nat×gX)
 ρ:Type
 k2:ρ
 m:dq (jW A (lV dc []))->Option ρ
 out:dq (jW A (lV dc []))->ρ->b5×bE
 az:X.P.funcs[f]?=some fn
 a6 : (fn.name == "runtime.NumGoroutine") = false
 ae:fn.body.isNone=false
 ok:∀ d r,m d=some r->AC X f (hs A d).1 (iV dc (hs A d).2).1 (fun sv h=>sv=(out d r).1/\h=(out d r).2)
def oe:dQ->dQ
 | []=>[]
 | (i,j) :: r=>(j,i) :: oe r
theorem Fz:∀ {ps:dQ} {i j:Nat},(j,i)∈oe ps ↔ (i,j)∈ps
 | [],_,_=>by simp[oe]
 | (a,b) :: r,i,j=>by
  unfold oe;rw[List.mem_cons,List.mem_cons,Fz];simp only[Prod.mk.injEq];constructor<;>rintro(⟨J,U⟩ | h)
  ·exact .inl ⟨U,J⟩
  ·exact .inr h
  ·exact .inl ⟨U,J⟩
  ·exact .inr h
theorem LN:∀ ps:dQ,q9 (oe ps)=kd ps
 | []=>rfl
 | (a,b) :: r=>by
  unfold oe q9 kd;rw[LN r]
theorem BE{ps:dQ} (J:(q9 ps).Nodup) (U:(kd ps).Nodup) {i j:Nat}:aZ (oe ps) j=some i ↔ aZ ps i=some j:=by
 constructor
 ·intro h
  exact xL J (Fz.1 (uK h))
 ·intro h
  exact xL (by rw[LN]; exact U) (Fz.2 (uK h))
def nv(ps kE:dQ):List Nat->bE->Option (bE×bE)
 | [],H=>some ([],H)
 | i :: is,H=>match aZ ps i with
  | some j=>match aZ H j with
   | some b'=>match b'.dI kE,nv ps kE is (lR j H)with
    | some b,some (h,H')=>some ((i,b) :: h,H')
    | _,_=>none
   | none=>none
  | none=>none
section
variable {X:bq} {R:Nat->Prop} {W:World} {aD:eT} {n:Nat} {ks:List Nat} {env LO:Nat->Loc} {B:Nat->Prop} {ai:World} {H:List bc} {st st':aM} {a aW:Act} {w w':World} {o:Oper} {d:Nat} {ps:dQ}
theorem FA(J:(q9 ps).Nodup) (U:(kd ps).Nodup) (he:∀ i j,aZ ps i=some j->LO i=env j):∀ {is:List Nat} {l h l':bE} {C:List bc},nv ps (oe ps) is l=some (h,l')->bt env B ai l C->∃ fy mM,C.Perm (fy++mM)/\bt LO B ai h fy/\bt env B ai l' mM
 | [],l,h,l',C,an,c5=>by cases an; exact⟨[],C,List.Perm.refl _,rfl,c5⟩
 | i :: is,l,h,l',C,an,c5=>by
  unfold nv at an
  split at an
  ·rename_i j aF
   split at an
   ·rename_i b' ad
    split at an
    ·rename_i b h0 FB ae au
     cases an;obtain⟨c,H2,aC,a1,cq⟩:=c5.erase ad;obtain⟨fy,mM,ep,gh,sT⟩:=FA J U he au cq;have ao:aZ (oe ps) j=some i:=(BE J U).2 aF;exact⟨c :: fy,mM,a1.trans (List.Perm.cons _ ep),⟨c,fy,rfl,(ej.dI (fun j i h=>he i j ((BE J U).1 h)) ao ae).1 aC,gh⟩,sT⟩
    ·cases an
   ·cases an
  ·cases an
structure vf(X:bq) (e:bz X) where
 d:dq (jW e.A (lV e.dc []))
 H1:bE
def o4(X:bq) (n:Nat) (e:bz X) (ps:dQ) (H:bE) (args:List bh):Option (vf X e):=
 match xJ n ps,xI (oe ps) args,nv ps (oe ps) (e.dc.map (·.1)) H with
 | true,some BF,some (J,H1)=>match sX (T:=[]) e.dc J ()with
  | some u=>match vc e.A BF u with
   | some d=>some ⟨d,H1⟩
   | none=>none
  | none=>none
 | _,_,_=>none
def after(X:bq) (e:bz X) (ps:dQ) (st:aM) (d:Nat) (p:vf X e) (r:e.ρ):Option aM:=
 match ((e.out p.d r).1).dI ps,sC ps (e.out p.d r).2 with
 | some iT,some lr=>match ps with
  | []=>some ⟨(d,iT) :: st.L,lr++st.H⟩
  | _=>some ⟨(d,iT) :: oV (kW (iV e.dc (hs e.A p.d).2).1 ps) st.L,lr++iS (kW (iV e.dc (hs e.A p.d).2).1 ps) (kW (iV e.dc (hs e.A p.d).2).1 ps) p.H1⟩
 | _,_=>none
def p6(X:bq) (n:Nat) (o:Oper) (e6:bc->Bool) (st st':aM):Prop:=∀ (R:Nat->Prop) (W:World) (aD:eT) (ks:List Nat) (env:Nat->Loc) (B:Nat->Prop) (ai:World) (H:List bc) (a:Act) (w:World),bI X R W aD n ks env B ai H st a w->∀ (KK:Act->World->Prop) (l:List Oper),
 (∀ aW w' env' B' cJ H',bI X R W aD n ks env' B' cJ H' st' aW w'->(∀ k,B k->B' k)->dm (fun k=>R k\/B k) ai cJ->(∀ c∈H,e6 c=true->c∈H')->KK aW w')->eW X.P l.toArray o KK a w
theorem gB.c(h:gB X n o st st'):p6 X n o (fun _=>false) st st':=fun R W aD ks env B ai H a w al KK l bZ=>h R W aD ks env B ai H a w al KK l fun aW w' env' H' b7=>bZ aW w' env' B ai H' b7 (fun _ h=>h) (dm.refl _ _) (fun _ _ h=>by cases h)
def Callee(X:bq) (st:aM) (o:Oper) (f:FuncId) (xs:List Operand) (pre post:List bh):Prop:=
 ∃ fo,(o.op=.call { callee:=.value (.func f),args:=xs.toArray,argTypes:=fo }/\pre=[]/\post=[]) \/
  (∃ s ids,o.op=.call { callee:=.value (.tmp s),args:=xs.toArray,argTypes:=fo }/\aZ st.L s=some (.c (.fn f ids))/\pre=[]/\post=np ids) \/
  ∃ s id,o.op=.call { callee:=.value (.tmp s),args:=xs.toArray,argTypes:=fo }/\aZ st.L s=some (.c (.iu f id))/\pre=[.c (.ptr id 0)]/\post=[]
def BG(X:bq) (n:Nat) (st:aM) (xs:List Operand) (args:List bh):Prop:=∀ (R:Nat->Prop) (W:World) (aD:eT) (ks:List Nat) (env:Nat->Loc) (B:Nat->Prop) (ai:World) (H:List bc) (a:Act) (w:World),bI X R W aD n ks env B ai H st a w->∃ vs,iq (gn a) xs=some vs/\dF env B ai args vs
theorem BG.of{xs:List Operand} {args:List bh} {c:Bool} (h:nn X st.L xs=some (c,args)) (aa:c=true):BG X n st xs args:=fun _ _ _ _ _ _ _ _ _ _ al=>Bb al h aa
def sY:cA->Bool
 | .cells _ _=>false
 | _=>true
def p7(j:Nat):bE->Bool
 | []=>true
 | (k,_) :: r=>!Nat.beq k j&&p7 j r
def sZ(H:bE):dQ->Bool
 | []=>true
 | (i,j) :: r=>(Nat.ble h2 i || p7 j H)&&sZ H r
def og(H:bE):dQ->Bool
 | []=>true
 | (_,j) :: r=>p7 j H&&og H r
def p8(js:List Nat):bE->Bool
 | []=>true
 | (j,b) :: r=>(!js.elem j || sY b)&&p8 js r
def vg(H:bE) (ps:dQ):Bool:=sZ H ps&&p8 (kd ps) H
def s0(H:bE) (ps:dQ) (c:bc):Bool:=og H ps || (iw c&&vg H ps)
theorem LP{j:Nat}:∀ {H:bE},p7 j H=true->∀ p∈H,p.1≠j
 | (k,b) :: r,h,p,an=>by
  unfold p7 at h;rw[Bool.and_eq_true]at h
  rcases List.mem_cons.1 an with rfl | an
  ·intro e
   have J:=h.1;rw[show k=j from e,Nat.beq_refl]at J;cases J
  ·exact LP h.2 p an
theorem LQ{j:Nat}:∀ {H:bE},p7 j H=true->aZ H j=none
 | [],_=>rfl
 | (k,b) :: r,h=>by
  unfold p7 at h;rw[Bool.and_eq_true]at h;rw[cn,if_neg (fun e=>by have J:=h.1; rw[e,Nat.beq_refl]at J; cases J)];exact LQ h.2
theorem LR{js:List Nat}:∀ {l:bE},(∀ p∈l,p.1 ∉ js)->ra js l=true
 | [],_=>rfl
 | (k,b) :: r,h=>by
  unfold ra;have J:=h (k,b) List.mem_cons_self;rw[Bool.and_eq_true];exact⟨by simpa using J,LR fun p an=>h p (List.mem_cons_of_mem _ an)⟩
theorem FC{h H:bE}:∀ {ps:dQ},sZ H ps=true->∀ j∈kW h ps,p7 j H=true
 | [],_,j,aF=>by cases aF
 | (i,k) :: r,az,j,aF=>by
  unfold sZ at az;rw[Bool.and_eq_true,Bool.or_eq_true]at az;unfold kW at aF
  split at aF
  ·exact FC az.2 j aF
  ·rename_i ab
   rcases List.mem_cons.1 aF with rfl | aF
   ·rcases az.1 with J | J
    ·unfold A7 at ab
     rw[J]at ab;cases ab
    ·exact J
   ·exact FC az.2 j aF
theorem LS{H:bE}:∀ {ps:dQ},og H ps=true->sZ H ps=true
 | [],_=>rfl
 | (i,j) :: r,h=>by
  unfold og at h;rw[Bool.and_eq_true]at h;unfold sZ;rw[h.1,LS h.2,Bool.or_true]
  rfl
theorem LU{H:bE}:∀ {ps:dQ},og H ps=true->∀ i j,(i,j)∈ps->p7 j H=true
 | (_,_) :: r,h,i,j,hm=>by
  unfold og at h;rw[Bool.and_eq_true]at h
  rcases List.mem_cons.1 hm with hm | hm
  ·cases hm; exact h.1
  ·exact LU h.2 i j hm
theorem LV{j:Nat}:∀ {l:bE} {p:Nat×cA},p∈lR j l->p∈l
 | (k,b) :: r,p,h=>by
  unfold lR at h
  split at h
  ·exact List.mem_cons_of_mem _ h
  ·rcases List.mem_cons.1 h with rfl | h
   ·exact List.mem_cons_self
   ·exact List.mem_cons_of_mem _ (LV h)
theorem FD{ps kE:dQ}:∀ {is:List Nat} {l h l':bE},nv ps kE is l=some (h,l')->∀ p∈l',p∈l
 | [],_,_,_,an,p,hm=>by cases an; exact hm
 | i :: is,l,h,l',an,p,hm=>by
  unfold nv at an
  split at an
  ·split at an
   ·split at an
    ·rename_i b h0 FB ae au
     cases an;exact LV (FD au p hm)
    ·cases an
   ·cases an
  ·cases an
theorem Xw{ps kE:dQ}:∀ {is:List Nat} {l h l':bE},og l ps=true->nv ps kE is l=some (h,l')->h=[]/\l'=l
 | [],_,_,_,_,an=>by cases an; exact⟨rfl,rfl⟩
 | i :: is,l,h,l',a6,an=>by
  unfold nv at an
  split at an
  ·rename_i j aF
   split at an
   ·rename_i b' ad
    rw[LQ (LU a6 i j (uK aF))]at ad;cases ad
   ·cases an
  ·cases an
theorem LW{h H H1:bE} {ps:dQ} (az:sZ H ps=true) (aj:∀ p∈H1,p∈H):ra (kW h ps) H1=true:=LR fun p an hm=>LP (FC az p.1 hm) p (aj p an) rfl
theorem Xx{ps:dQ} {b b':cA} (h:b.dI ps=some b') (ae:sY b=true):sY b'=true:=by
 unfold cA.dI at h
 split at h
 all_goals first
  | (cases h; rfl)
  | (exfalso; simp[sY]at ae; done)
  | (split at h<;>first | (cases h; rfl) | cases h)
theorem LX{js:List Nat}:∀ {l:bE} {j:Nat} {b:cA},p8 js l=true->j∈js->aZ l j=some b->sY b=true
 | [],_,_,_,_,h=>by cases h
 | (k,sn) :: r,j,b,a6,aF,h=>by
  simp only[p8,Bool.and_eq_true]at a6;rw[cn]at h
  split at h
  ·rename_i e; subst e; cases h
   have J:=a6.1;rw[show js.elem _=true from List.elem_eq_true_of_mem aF]at J
   simpa using J
  ·exact LX a6.2 aF h
theorem LY{js:List Nat} {j:Nat}:∀ {l:bE},p8 js l=true->p8 js (lR j l)=true
 | [],_=>rfl
 | (k,sn) :: r,a6=>by
  have hJ:=a6;simp only[p8,Bool.and_eq_true]at a6;unfold lR
  split
  ·exact a6.2
  ·simp only[p8,Bool.and_eq_true]
   exact⟨a6.1,LY a6.2⟩
theorem LZ{ps kE:dQ}:∀ {is:List Nat} {l h l':bE},p8 (kd ps) l=true->nv ps kE is l=some (h,l')->∀ p∈h,sY p.2=true
 | [],_,_,_,_,an=>by cases an; intro p an; cases an
 | i :: is,l,h,l',a6,an=>by
  unfold nv at an
  split at an
  ·rename_i j aF
   split at an
   ·rename_i b' ad
    split at an
    ·rename_i b h0 FB ae au
     cases an;intro p an
     rcases List.mem_cons.1 an with rfl | an
     ·exact Xx ae (LX a6 (A9 (uK aF)) ad)
     ·exact LZ (LY a6) au p an
    ·cases an
   ·cases an
  ·cases an
theorem bt.oQ{env:Nat->Loc} {B:Nat->Prop} {w:World}:∀ {l:bE} {H:List bc},bt env B w l H->(∀ p∈l,sY p.2=true)->∀ c∈H,iw c=false
 | [],_,h,_,c,aa=>by rw[show _=[] from h]at aa; cases aa
 | (k,b) :: r,_,⟨c0,H',e,J,U⟩,a6,c,aa=>by
  subst e
  rcases List.mem_cons.1 aa with rfl | aa
  ·exact J.nf fun t cs e=>by
    have:=a6 _ List.mem_cons_self
    rw[e]at this;cases this
  ·exact bt.oQ U (fun p an=>a6 p (List.mem_cons_of_mem _ an)) c aa
theorem L0(e:bz X) {xs:List Operand} {pre post FE:List bh} (ps:dQ) (s3:Callee X st o e.f xs pre post) (bb:o.guard=none/\o.dst=some d) (ax:Nat.blt d n=true) (p9:BG X n st xs FE)
  {p:vf X e} (an:o4 X n e ps st.H (pre++(FE++post))=some p) {r:e.ρ} (au:e.m p.d=some r) (aS:after X e ps st d p r=some st'):p6 X n o (s0 st.H ps) st st':=by
 intro R W aD ks env B ai H a w al KK l bZ;unfold o4 at an
 split at an
 ·rename_i BF J H1 kz BH ht
  split at an
  ·rename_i u hu
   split at an
   ·rename_i dd sR
    cases an;have x8:=kz;simp only[xJ,Bool.and_eq_true]at x8;obtain⟨⟨o5,qa⟩,FF⟩:=x8;have nw:=sE o5;have oh:=sE qa;obtain⟨vs,g1,g2⟩:=p9 _ _ _ _ _ _ _ _ _ _ al;obtain⟨BI,qb⟩:=rv hu;obtain⟨FG,FH⟩:=x6 sR;have he:∀ i j,aZ ps i=some j->(fun i=>match aZ ps i with | some j=>env j | none=>Loc.no) i=env j:=fun i j mh=>by simp only[mh]
    obtain⟨fy,mM,cq,ep,gh⟩:=FA nw oh he ht al.heap;have aj:bK B ai fy w:=by
     have aK:=(al.aU.perm (cq.append_right (ks.map dC))).en (H':=fy) (by rw[List.append_assoc]; exact List.sublist_append_left _ _);exact⟨⟨aK.below.os,aK.below.tape,aK.below.output,aK.below.size,fun k ab=>aK.below.block k (.inr ab)⟩,fun k ab=>aK.base k (.inr ab),fun c aa=>(aK.ok c aa).base fun b ae ab=>((aK.ok c aa).lt ae).1 (.inr ab),aK.apart⟩
    have c5:bt (fun i=>match aZ ps i with | some j=>env j | none=>Loc.no) B ai (iV e.dc (hs e.A dd).2).1 fy:=by rw[FG]; exact qb _ _ _ _ ep
    have key:∀ mb,dF env B ai (pre++(FE++post)) mb->oH X.P e.f mb.toArray w (nm X (fun i=>match aZ ps i with | some j=>env j | none=>Loc.no) B fy w (fun sv h=>sv=(e.out dd r).1/\h=(e.out dd r).2)):=fun mb h=>by
     have U:=(dF.dI (env:=env) (env':=fun i=>match aZ ps i with | some j=>env j | none=>Loc.no) (fun j i jl=>he i j ((BE nw oh).1 jl)) BH).1 h;exact e.ok dd r au B ai _ mb fy w (fun i x ah=>al.dX i x ah) (FH _ _ _ _ U) c5 aj
    have fin:∀ v aW w',nm X (fun i=>match aZ ps i with | some j=>env j | none=>Loc.no) B fy w (fun sv h=>sv=(e.out dd r).1/\h=(e.out dd r).2) v w'->c2 n (jR ks aD) ((d,v) :: gn a) aW->KK aW w':=fun v aW w' mN aJ=>by
     obtain⟨sv,a8,⟨rfl,rfl⟩,FI⟩:=al.called kz cq c5 gh mN aJ;unfold after at aS
     split at aS
     ·rename_i iT lr f1 f2
      obtain⟨env',B',cJ,H',b7,jk,e0,k3⟩:=FI iT lr f1 f2;have mm:∀ c∈H,s0 st.H ps c=true->c∈H':=fun c aa h0=>by
       unfold s0 at h0;rw[Bool.or_eq_true]at h0;have bY:=cq.mem_iff.1 aa
       rcases h0 with h0 | h0
       ·obtain⟨c8,dL⟩:=Xw h0 ht
        have Bc:fy=[]:=by rw[c8]at ep; exact ep
        rw[Bc]at bY;exact k3 (LW (LS h0) (FD ht)) c (by simpa using bY)
       ·simp only[Bool.and_eq_true,vg]at h0
        obtain⟨jz,sz,lv⟩:=h0
        rcases List.mem_append.1 bY with bY | bY
        ·have:=ep.oQ (LZ lv ht) c bY
         rw[jz]at this;cases this
        ·exact k3 (LW sz (FD ht)) c bY
      split at aS
      ·cases aS
       have c3:H1=st.H:=by
        cases hB:e.dc with
        | nil=>rw[hB]at ht; cases ht; rfl
        | cons q _=>rw[hB]at ht; cases ht
       have eS:bI X R W aD n ks env' B' cJ H' ⟨(d,iT) :: oV [] st.L,lr++iS [] [] H1⟩ aW w':=b7;rw[Lb,Lc,c3]at eS;exact bZ aW w' env' B' cJ H' eS jk e0 mm
      ·cases aS
       exact bZ aW w' env' B' cJ H' b7 jk e0 mm
     ·cases aS
    obtain⟨fo,s3⟩:=s3
    rcases s3 with⟨aA,rfl,rfl⟩ | ⟨s,ids,aA,ad,rfl,rfl⟩ | ⟨s,id,aA,ad,rfl,rfl⟩
    ·exact RO al.sym aA bb ax e.az e.a6 e.ae g1 (key vs (by simpa using g2)) fun v aW w' mN aJ=>fin v aW w' mN aJ
    ·obtain⟨BJ,s5,lb,rfl,jQ⟩:=al.has _ _ ad
     exact Sj al.sym aA bb ax (hQ s5) e.az e.a6 e.ae g1 (key (vs++lb) (by simpa using g2.append (xP jQ))) fun v aW w' mN aJ=>fin v aW w' mN aJ
    ·obtain⟨BJ,s5,b,vh,rfl⟩:=al.has _ _ ad
     exact Xn al.sym aA bb ax (hQ s5) e.az e.a6 e.ae g1 (key (.pointer (some ⟨b,0,none⟩) :: vs) (by rw[List.append_nil]; exact⟨_,_,rfl,⟨b,vh,rfl⟩,g2⟩)) fun v aW w' mN aJ=>fin v aW w' mN aJ
   ·cases an
  ·cases an
 ·cases an
end
end

section
set_option linter.unusedSectionVars false
section
variable {X:bq} {M:Bool} {n:Nat} {r:Option Nat} {st:aM} {Q:Exit->aM->Prop} {ops rest:List Oper} {o:Oper} {d:Nat}
theorem Xy(gk bO:ba) {t:TypeId} (aA:o.op=.makeMap t none) (bb:o.guard=none/\o.dst=some d) (ax:Nat.blt d n=true)
  : gB X n o st ⟨(d,.c (.eP d)) :: fe d .dead st.L,(d,.mp gk bO [] none) :: dG d .dead st.H⟩:=by
 intro R W aD ks env B ai H a w al KK iW ed;refine(hv al.cb bb.1 bb.2 (dK ax) (v:=.map (some w.heap.size)) (w':=w.alloc (.map #[] 0)) (by simp[execOp,aA,Instr.makeMap,newObj,Sem.run]) fun aW aJ=>?_);obtain⟨H',_,ag⟩:=al.nZ (d:=d) ax (l:=.blk w.heap.size) (blk:=.mp gk bO [] none) (sv:=.c (.eP d)) (al.aU.alloc (.map #[] 0)) ⟨_,[],0,e8,rfl,rfl,⟨List.Pairwise.nil,fun _ h=>by cases h⟩,fun _ h=>by cases h⟩ ⟨_,e8,rfl⟩ aJ;exact ed aW _ _ H' (ag)
theorem Xz(av:X.a7.ok X.P) {t:TypeId} {bp:bo} {u x:Operand} {s:List UInt8} {k:IntKind} {z:Int} {g g2:Bool} (aA:o.op=.index t u x) (bb:o.guard=none/\o.dst=some d) (ax:Nat.blt d n=true)
  (aY:X.a7.find t=some bp) (dv:bp.bs.desc=.string) (hu:bw X st.L u=some (g,.c (.str s))) (aV:g=true) (ah:bw X st.L x=some (g2,.c (.val (.int k z)))) (dP:g2=true) (ae:aR z s.length=true)
  : gB X n o st ⟨(d,.c (.val (.int .u8 ((s.getD z.toNat 0).toNat:Int)))) :: st.L,st.H⟩:=by
 intro R W aD ks env B ai H a w al KK iW ed;obtain⟨jj,J,U⟩:=al.aE hu aV;rw[show jj=fi s from U]at J;obtain⟨vx,ag,ay⟩:=al.aE ah dP;rw[show vx=_ from ay]at ag;obtain⟨j,rfl,aF,jA⟩:=lN ae;have aC:=(cj.get av aY).bs.1;rw[dv]at aC;have mJ:(ByteArray.mk s.toArray)[j]?=some (s.getD j 0):=by
  have aL:j < (ByteArray.mk s.toArray).size:=by simpa [ByteArray.size] using aF
  have a1:(ByteArray.mk s.toArray)[j]?=some ((ByteArray.mk s.toArray)[j]'aL):=by
   exact getElem?_pos (ByteArray.mk s.toArray) j aL
  rw[a1,List.getD_eq_getElem?_getD,List.getElem?_eq_getElem aF]
  rfl
 refine(hv al.cb bb.1 bb.2 (dK ax) (v:=.int .u8 ((s.getD j 0).toNat:Int)) (w':=w) ?_ fun aW aJ=>?_)
 ·have h0:(0:Int)<=(j:Int):=Int.natCast_nonneg j
  have dW:(Instr.index t (fi s) (.int k (j:Int))).run X.P w=.ok (.int .u8 ((s.getD j 0).toNat:Int)) w:=by
   simp only[Instr.index,fi,asIntOf,Sem.run_bind,Sem.run_pure,Result.andThen_ok,run_underlying aC,h0,if_true,Int.toNat_natCast,mJ]
  simp[execOp,aA,al.cb.aE J,al.cb.aE ag,dW]
 ·simp only[Int.toNat_natCast]at ed
  exact ed aW _ env H (al.set (sv:=.c (.val (.int .u8 ((s.getD j 0).toNat:Int)))) rfl aJ)
theorem XA(av:X.a7.ok X.P) {t T x9:TypeId} {bp:bo} {x y:Operand} {id d i:Nat} {g cr:ba} {l:List (List g.D)} {ct:List cr.D} {cap ya:Option Nat} {g1 g2:Bool} (aA:o.op=.store t x y) (bb:o.guard=none/\o.dst=none)
  (aY:X.a7.find t=some bp) (c6:Nat.beq bp.bs.size 1=true) (ah:bw X st.L x=some (g1,.c (.dV id 1 i 0))) (dw:g1=true) (aH:bw X st.L y=some (g2,.c (.ak d))) (dP:g2=true) (b8:aZ st.H id=some (.row T (.ak g) l cap)) (BK:aZ st.H d=some (.row x9 cr ct ya))
  (hi:decide (i < l.length)=true)
  : gB X n o st ⟨st.L,eO id (.bX false T g l cap i d) st.H⟩:=by
 intro R W aD ks env B ai H a w al KK iW ed;obtain⟨vx,J,b,c,m,he,rfl⟩:=al.aE ah dw;obtain⟨vy,fN,c7,cR,fS,kY,rfl⟩:=al.aE aH dP;obtain⟨dz,K,⟨A,k,xs,cV,rfl,cS,fq⟩,az,gN⟩:=al.mK (b':=.bX false T g l cap i d) b8;rw[he]at cV;cases cV;have aL:=of_decide_eq_true hi;have kx:=bP.ln cS;have XB:xs.length=l.length:=by rw[kx]; show l.length * 1=_; omega
 have nc:=(cj.get av aY).bs;have fu:=Nat.eq_of_beq_eq_true c6;refine(AV (v:=.slice c7 fS cR) al.sym aA bb nc J fN (by rw[fu]; rfl) (by intro u hu; simp[Value.cells]at hu; subst hu; rfl) az (by show i * 1+0+1<=l.length * 1; omega) fun aW w' ck=>?_);obtain⟨H',ag⟩:=gN _ aW w' ⟨some ⟨b,0,none⟩,c,xs,c7,cR,fS,he,rfl,cS,aL,kY,fq,fun h=>by cases h⟩ (by
  have e:xs.take (i * 1+0)++(Value.slice c7 fS cR).cells.toList++xs.drop (i * 1+0+(Value.slice c7 fS cR).cells.toList.length)=xs.set i (.slice c7 fS cR):=by
   rw[List.set_eq_take_append_cons_drop,if_pos (by omega)]
   simp[Value.cells]
  have:=ck.aU
  rw[e]at this;exact this) ck.st
 exact ed aW _ env H' (ag)
theorem XC(av:X.a7.ok X.P) {t T x9:TypeId} {bp:bo} {x y:Operand} {id d i:Nat} {g cr:ba} {l:List (List g.D)} {ct:List cr.D} {cap:Option Nat} {q:Nat} {g1 g2:Bool} (aA:o.op=.store t x y) (bb:o.guard=none/\o.dst=none)
  (aY:X.a7.find t=some bp) (c6:Nat.beq bp.bs.size 1=true) (ah:bw X st.L x=some (g1,.c (.dV id 1 i 0))) (dw:g1=true) (aH:bw X st.L y=some (g2,.c (.ak d))) (dP:g2=true) (b8:aZ st.H id=some (.row T (.gM g) l cap)) (BK:aZ st.H d=some (.row x9 cr ct (some q)))
  (hi:decide (i < l.length)=true) (ao:Nat.beq q ct.length=true)
  : gB X n o st ⟨st.L,eO id (.bX true T g l cap i d) st.H⟩:=by
 intro R W aD ks env B ai H a w al KK iW ed;obtain⟨vx,J,b,c,m,he,rfl⟩:=al.aE ah dw;obtain⟨vy,fN,c7,cR,fS,kY,rfl⟩:=al.aE aH dP;obtain⟨dz,K,⟨A,k,xs,cV,rfl,cS,fq⟩,az,gN⟩:=al.mK (b':=.bX true T g l cap i d) b8;rw[he]at cV;cases cV;have aL:=of_decide_eq_true hi;have h1:cR=fS:=by
  obtain⟨XD,XE,⟨XF,k3,ahi,uL,_,_,ry⟩,_⟩:=al.heap.gx BK;rw[kY]at uL;cases uL;rw[ry q rfl];exact Nat.eq_of_beq_eq_true ao
 have kx:=bP.ln cS;have XB:xs.length=l.length:=by rw[kx]; show l.length * 1=_; omega
 have nc:=(cj.get av aY).bs;have fu:=Nat.eq_of_beq_eq_true c6;refine(AV (v:=.slice c7 fS cR) al.sym aA bb nc J fN (by rw[fu]; rfl) (by intro u hu; simp[Value.cells]at hu; subst hu; rfl) az (by show i * 1+0+1<=l.length * 1; omega) fun aW w' ck=>?_);obtain⟨H',ag⟩:=gN _ aW w' ⟨some ⟨b,0,none⟩,c,xs,c7,cR,fS,he,rfl,cS,aL,kY,fq,fun _=>h1⟩ (by
  have e:xs.take (i * 1+0)++(Value.slice c7 fS cR).cells.toList++xs.drop (i * 1+0+(Value.slice c7 fS cR).cells.toList.length)=xs.set i (.slice c7 fS cR):=by
   rw[List.set_eq_take_append_cons_drop,if_pos (by omega)]
   simp[Value.cells]
  have:=ck.aU
  rw[e]at this;exact this) ck.st
 exact ed aW _ env H' (ag)
theorem XG(g:ba) (m:Nat) (z:Int) (av:X.a7.ok X.P) {t e:TypeId} {bp eK:bo} {u x:Operand} {qc:bh} {k:IntKind} {l:List g.D} {g1 g2 c:Bool} {bx:bh} (aA:o.op=.index t u x) (bb:o.guard=none/\o.dst=some d) (ax:Nat.blt d n=true)
  (aY:X.a7.find t=some bp) (dv:bp.bs.desc=.array m e) (he:X.a7.find e=some eK) (c6:Nat.beq g.size eK.bs.size=true) (ns:jO eK.bs.desc=g.p2) (iL:(g.p2 || Nat.beq g.size 1)=true) (hu:bw X st.L u=some (g1,qc)) (dw:g1=true)
  (ah:bw X st.L x=some (g2,.c (.val (.int k z)))) (dP:g2=true) (aS:Bt g m qc=some (c,l)) (aa:c=true) (bk:aR z m=true) (nW:aR z l.length=true) (o6:sO g (l.getD z.toNat g.zero)=some bx)
  : gB X n o st ⟨(d,.a bx) :: st.L,st.H⟩:=by
 intro R W aD ks env B ai H a w al KK iW ed;obtain⟨jj,J,U⟩:=al.aE hu dw;obtain⟨vs,rfl,cS⟩:=Xb U aS aa;obtain⟨vx,ag,ay⟩:=al.aE ah dP;rw[show vx=_ from ay]at ag;obtain⟨j,rfl,aF,_⟩:=lN bk;obtain⟨kR,SL,lO,_⟩:=lN nW;have FJ:j < l.length:=by omega
 rw[Int.toNat_natCast]at o6;have aC:=(cj.get av aY).bs.1;rw[dv]at aC;obtain⟨v,aw,o7⟩:=Xa (w:=w) (cj.get av he).bs cS FJ (Nat.eq_of_beq_eq_true c6) ns iL;have dW:=W9 (k:=k) aC (cj.get av he).bs aF aw;refine(hv al.cb bb.1 bb.2 (dK ax) (v:=v) (w':=w) (by simp[execOp,aA,al.cb.aE J,al.cb.aE ag,dW]) fun aW aJ=>?_);exact ed aW _ env H (al.set (sv:=.a bx) (o7.bx o6) aJ)
theorem XH(av:X.a7.ok X.P) {t T e:TypeId} {bp:bo} {x:Operand} {id m cP:Nat} {g:ba} {l:List g.D} {cap:Option Nat} {g1:Bool} (aA:o.op=.load t x) (bb:o.guard=none/\o.dst=some d) (ax:Nat.blt d n=true)
  (aY:X.a7.find t=some bp) (dv:bp.bs.desc=.array m e) (ah:bw X st.L x=some (g1,.c (.dV id cP 0 0))) (dw:g1=true) (b8:aZ st.H id=some (.row T g l cap)) (c6:Nat.beq bp.bs.size (m * g.size)=true) (ad:decide (l.length=m)=true)
  : gB X n o st ⟨(d,.a (.arr g l)) :: st.L,st.H⟩:=by
 intro R W aD ks env B ai H a w al KK iW ed;obtain⟨vx,J,b,c,q,he,rfl⟩:=al.aE ah dw;obtain⟨dz,K,⟨A,k,xs,cV,rfl,cS,_⟩,az⟩:=al.heap.gx b8;rw[he]at cV;cases cV;have e7:ey w (fun k=>R k\/B k) T g.size (some ⟨b,0,none⟩) c l.length xs:=al.aU.ok _ az.more.mem;have hlen:=bP.ln cS;have hV:=of_decide_eq_true ad;refine(hv al.cb bb.1 bb.2 (dK ax) (v:=.agg xs.toArray) (w':=w) (xm al.cb aA (cj.get av aY).bs (by rw[dv]; rfl) J (by rw[hlen,hV,Nat.eq_of_beq_eq_true c6]) fun j v aF=>?_) fun aW aJ=>?_)
 ·rw[show 0 * cP+0+j=j by omega,e7.cells rfl _ (by rw[<- hlen]; exact(List.getElem?_eq_some_iff.1 aF).1)]
  exact aF
 ·exact ed aW _ env H (al.set (sv:=.a (.arr g l)) ⟨xs,rfl,cS⟩ aJ)
theorem XI(av:X.a7.ok X.P) {t e:TypeId} {bp:bo} {x:Operand} {m:Nat} {g:ba} {l:List g.D} {g1:Bool} (aA:o.op=.load t x) (bb:o.guard=none/\o.dst=some d) (ax:Nat.blt d n=true)
  (aY:X.a7.find t=some bp) (dv:bp.bs.desc=.array m e) (ah:bw X st.L x=some (g1,.c (.par g l))) (dw:g1=true) (c6:Nat.beq bp.bs.size (m * g.size)=true) (ad:decide (l.length=m)=true)
  : gB X n o st ⟨(d,.a (.arr g l)) :: st.L,st.H⟩:=by
 intro R W aD ks env B ai H a w al KK iW ed;obtain⟨vx,J,b,p,vs,rfl,ae,cS,jy⟩:=al.aE ah dw;have hlen:=bP.ln cS;have hV:=of_decide_eq_true ad;refine(hv al.cb bb.1 bb.2 (dK ax) (v:=.agg vs.toArray) (w':=w) (xm al.cb aA (cj.get av aY).bs (by rw[dv]; rfl) J (by rw[hlen,hV,Nat.eq_of_beq_eq_true c6]) fun j v aF=>AO ae (jy j v aF) al.aU) fun aW aJ=>?_);exact ed aW _ env H (al.set (sv:=.a (.arr g l)) ⟨vs,rfl,cS⟩ aJ)
theorem XJ(av:X.a7.ok X.P) {t bR e:TypeId} {bp L1 eK:bo} {u:Operand} {qc:bh} {l:List Int} {g:Bool} (aA:o.op=.convert t bR u) (bb:o.guard=none/\o.dst=some d) (ax:Nat.blt d n=true)
  (aY:X.a7.find t=some bp) (dv:bp.bs.desc=.slice e) (xF:X.a7.find bR=some L1) (XK:L1.bs.desc=.string) (he:X.a7.find e=some eK) (XL:eK.bs.desc=.int .u8)
  (hu:bw X st.L u=some (g,qc)) (aV:g=true) (aj:lQ st (.int .u8) qc=some l) (ae:rn l=true)
  : gB X n o st ⟨(d,.c (.str (kg l))) :: st.L,st.H⟩:=by
 intro R W aD ks env B ai H a w al KK iW ed;obtain⟨jj,J,U⟩:=al.aE hu aV;obtain⟨A,c,xs,rfl,cS,au⟩:=q4 al aj U;obtain⟨T,ca,c8,dL,fA⟩:=Sx (cj.get av aY).bs (cj.get av xF).bs (cj.get av he).bs;rw[Fh cS,<- Fo l ae]at au;have hlen:(kg l).length=l.length:=by simp[kg]
 rw[<- hlen]at J au;refine(hv al.cb bb.1 bb.2 (dK ax) (v:=fi (kg l)) (w':=w) (So al.cb aA ca c8 dL dv XK fA XL J w au) fun aW aJ=>?_);exact ed aW _ env H (al.set (sv:=.c (.str (kg l))) rfl aJ)
theorem XM(av:X.a7.ok X.P) {t:TypeId} {bp:bo} {u x:Operand} {s:List UInt8} {k:IntKind} {z:Int} {g g2:Bool} (aA:o.op=.slice t u (some x) none none) (bb:o.guard=none/\o.dst=some d) (ax:Nat.blt d n=true)
  (aY:X.a7.find t=some bp) (dv:bp.bs.desc=.string) (hu:bw X st.L u=some (g,.c (.str s))) (aV:g=true) (ah:bw X st.L x=some (g2,.c (.val (.int k z)))) (dP:g2=true) (h0:decide (0<=z)=true) (J:decide (z<=(s.length:Int))=true)
  : gB X n o st ⟨(d,.c (.str (s.drop z.toNat))) :: st.L,st.H⟩:=by
 intro R W aD ks env B ai H a w al KK iW ed;obtain⟨jj,c8,dL⟩:=al.aE hu aV;rw[show jj=fi s from dL]at c8;obtain⟨vx,fA,hg⟩:=al.aE ah dP;rw[show vx=_ from hg]at fA;have aC:=(cj.get av aY).bs.1;rw[dv]at aC;have oi:=of_decide_eq_true h0;have vi:=of_decide_eq_true J;have dW:=Fp (w:=w) (s:=s) (lo:=some (.int k z)) (hi:=none) (a:=z.toNat) (b:=s.length) aC (by simp[Instr.sliceBounds,Instr.sliceBound,asIntOf,oi,vi]);rw[List.take_length]at dW;refine(hv al.cb bb.1 bb.2 (dK ax) (v:=fi (s.drop z.toNat)) (w':=w) (by simp[execOp,aA,al.cb.aE c8,al.cb.aE fA,dW]) fun aW aJ=>?_);exact ed aW _ env H (al.set (sv:=.c (.str (s.drop z.toNat))) rfl aJ)
theorem XN(av:X.a7.ok X.P) {t:TypeId} {bp:bo} {u x:Operand} {s:List UInt8} {k:IntKind} {z:Int} {g g2:Bool} (aA:o.op=.slice t u none (some x) none) (bb:o.guard=none/\o.dst=some d) (ax:Nat.blt d n=true)
  (aY:X.a7.find t=some bp) (dv:bp.bs.desc=.string) (hu:bw X st.L u=some (g,.c (.str s))) (aV:g=true) (ah:bw X st.L x=some (g2,.c (.val (.int k z)))) (dP:g2=true) (h0:decide (0<=z)=true) (J:decide (z<=(s.length:Int))=true)
  : gB X n o st ⟨(d,.c (.str (s.take z.toNat))) :: st.L,st.H⟩:=by
 intro R W aD ks env B ai H a w al KK iW ed;obtain⟨jj,c8,dL⟩:=al.aE hu aV;rw[show jj=fi s from dL]at c8;obtain⟨vx,fA,hg⟩:=al.aE ah dP;rw[show vx=_ from hg]at fA;have aC:=(cj.get av aY).bs.1;rw[dv]at aC;have oi:=of_decide_eq_true h0;have vi:=of_decide_eq_true J;have dW:=Fp (w:=w) (s:=s) (lo:=none) (hi:=some (.int k z)) (a:=0) (b:=z.toNat) aC (by simp[Instr.sliceBounds,Instr.sliceBound,asIntOf,oi,vi]);rw[List.drop_zero]at dW;refine(hv al.cb bb.1 bb.2 (dK ax) (v:=fi (s.take z.toNat)) (w':=w) (by simp[execOp,aA,al.cb.aE c8,al.cb.aE fA,dW]) fun aW aJ=>?_);exact ed aW _ env H (al.set (sv:=.c (.str (s.take z.toNat))) rfl aJ)
theorem XO(av:X.a7.ok X.P) {t:TypeId} {bp:bo} {u x y:Operand} {s:List UInt8} {k e0:IntKind} {z z2:Int} {g g2 g3:Bool} (aA:o.op=.slice t u (some x) (some y) none) (bb:o.guard=none/\o.dst=some d) (ax:Nat.blt d n=true)
  (aY:X.a7.find t=some bp) (dv:bp.bs.desc=.string) (hu:bw X st.L u=some (g,.c (.str s))) (aV:g=true) (ah:bw X st.L x=some (g2,.c (.val (.int k z)))) (dP:g2=true) (aH:bw X st.L y=some (g3,.c (.val (.int e0 z2)))) (iQ:g3=true) (h0:decide (0<=z)=true) (J:decide (z<=z2)=true) (U:decide (z2<=(s.length:Int))=true)
  : gB X n o st ⟨(d,.c (.str ((s.take z2.toNat).drop z.toNat))) :: st.L,st.H⟩:=by
 intro R W aD ks env B ai H a w al KK iW ed;obtain⟨jj,c8,dL⟩:=al.aE hu aV;rw[show jj=fi s from dL]at c8;obtain⟨vx,fA,hg⟩:=al.aE ah dP;rw[show vx=_ from hg]at fA;obtain⟨vy,lJ,u9⟩:=al.aE aH iQ;rw[show vy=_ from u9]at lJ;have aC:=(cj.get av aY).bs.1;rw[dv]at aC;have oi:=of_decide_eq_true h0;have vi:=of_decide_eq_true J;have w9:=of_decide_eq_true U;have xu:0<=z2:=by omega
 have ahj:z<=(z2.toNat:Int):=by omega
 have dW:=Fp (w:=w) (s:=s) (lo:=some (.int k z)) (hi:=some (.int e0 z2)) (a:=z.toNat) (b:=z2.toNat) aC (by
  have XP:z<=max z2 0:=by omega
  simp[Instr.sliceBounds,Instr.sliceBound,asIntOf,oi,w9,xu,XP])
 refine(hv al.cb bb.1 bb.2 (dK ax) (v:=fi ((s.take z2.toNat).drop z.toNat)) (w':=w) (by simp[execOp,aA,al.cb.aE c8,al.cb.aE fA,al.cb.aE lJ,dW]) fun aW aJ=>?_);exact ed aW _ env H (al.set (sv:=.c (.str ((s.take z2.toNat).drop z.toNat))) rfl aJ)
theorem XQ(av:X.a7.ok X.P) {t e:TypeId} {x y:Operand} {g1 g2:Bool} {eZ:bh} {cP gW c:Nat} {ge g:ba} {l ct:List g.D} {bp:bo} {aI:TypeDesc} {kA:Value} (aA:o.op=.call ⟨.builtin .append,⟨[x,y]⟩,⟨[t,t]⟩⟩) (bb:o.guard=none/\o.dst=some d) (ax:Nat.blt d n=true)
  (aY:X.a7.find t=some bp) (dv:bp.bs.desc=.slice e) (he:X.a7.find e=some ⟨⟨aI,cP,gW,kA⟩,some ge⟩) (ah:bw X st.L x=some (g1,.c (.bd g l (some c)))) (aV:g1=true) (aH:bw X st.L y=some (g2,eZ)) (fL:g2=true)
  (c6:Nat.beq g.size cP=true) (mL:lQ st g eZ=some ct) (aa:ee gW (l.length+ct.length)=true) (k1:decide (c=l.length)=true)
  : gB X n o st ⟨(d,.c (.ak d)) :: fe d .dead st.L,(d,.fw e g (l++ct)) :: dG d .dead st.H⟩:=by
 intro R W aD ks env B ai H a w h KK iW ed;obtain⟨vx,hl,A,c',xs,rfl,c8,dL,fq,cS,hj⟩:=h.aE ah aV;obtain⟨vy,fN,ky⟩:=h.aE aH fL;have aC:=fq c rfl;have a1:=of_decide_eq_true k1;have cq:c'=l.length:=aC.trans a1;rw[cq]at hl dL;obtain⟨dw,dP,iQ⟩:=(cj.get av he).g ge rfl;obtain⟨T,ca,J,ay⟩:=mH (cj.get av aY).bs (cj.get av he).bs;dsimp only at dw dP ay;have nb:kA.cells.size=cP:=by
  have:kA.cells.toList.length=cP:=by rw[dP,<- dw]; exact bP.length (bP.eh (B:=B) (w:=ai) ge)
  simpa using this
 have hk:=Nat.eq_of_beq_eq_true c6;simp only[ee,Bool.and_eq_true,decide_eq_true_eq]at aa;obtain⟨c7,cR,gy,rfl,jC,iA⟩:=q4 h mL ky;have pR:=hj.gv h.aU;rw[hk]at pR iA;refine(LC h.sym aA bb ax ca J dv ay (by rw[<- dw]; exact Nat.ble_eq_true_of_le iQ) nb hl fN pR iA (Flat.jB (fun _ _=>bP.jB) jC) aa.1 aa.2 (fun hm aW w' ck=>?_) fun cm c' aW w' ck=>?_)
 ·have fz:ct=[]:=List.eq_nil_of_length_eq_zero hm
  subst fz;obtain⟨H',_,c3⟩:=h.nZ (d:=d) ax (l:=.row A l.length (l++[]).length) (c:=.row none 0 e g.size 0 []) (blk:=.fw e g (l++[])) (sv:=.c (.ak d)) (v:=.slice A l.length l.length) (ck.aU.oL e g.size) ⟨A,l.length,e8,.inr ⟨rfl,by simp,dL,xs,by rw[List.append_nil]; exact cS,by rw[List.append_nil]; exact hj⟩⟩ ⟨A,l.length,_,e8,by simp⟩ ck.st;exact ed aW w' _ H' (c3)
 ·obtain⟨H',_,c3⟩:=h.nZ (d:=d) ax (l:=.row cm c' (l++ct).length) (c:=.row cm c' e g.size (l++ct).length (xs++gy)) (blk:=.fw e g (l++ct)) (sv:=.c (.ak d)) (v:=.slice cm (l.length+ct.length) c') (by have:=ck.aU; rw[<- hk]at this; rw[List.length_append]; exact this) ⟨cm,c',e8,.inl ⟨_,rfl,cS.append jC⟩⟩ ⟨cm,c',_,e8,by rw[List.length_append]⟩ ck.st
  exact ed aW w' _ H' (c3)
end
end

section
section
variable {X:bq} {n:Nat} {st st':aM} {o:Oper} {d:Nat}
theorem XR(av:X.a7.ok X.P) {t:TypeId} {bp:bo} {u:Operand} {g:Bool} {s:List UInt8} (aA:o.op=.range t u) (bb:o.guard=none/\o.dst=some d) (ax:Nat.blt d n=true) (aY:X.a7.find t=some bp) (dv:bp.bs.desc=.string) (hu:bw X st.L u=some (g,.c (.str s))) (aV:g=true) :
  gB X n o st ⟨(d,.c (.ptr d 0)) :: fe d .dead st.L,(d,.hf ⟨s.toArray⟩ 0) :: dG d .dead st.H⟩:=by
 intro R W aD ks env B ai H a w h KK iW ed;obtain⟨jj,J,U⟩:=h.aE hu aV;rw[show jj=fi s from U]at J;have aC:=(cj.get av aY).bs.1;rw[dv]at aC;refine hv h.cb bb.1 bb.2 (dK ax) (v:=.pointer (some ⟨w.heap.size,0,none⟩)) (w':=w.alloc (.stringIter ⟨s.toArray⟩ 0)) (by simp[execOp,aA,h.cb.aE J,Instr.range,run_underlying aC,fi,newObj,Sem.run]) fun aW aJ=>?_
 obtain⟨H',_,ag⟩:=h.nZ (d:=d) ax (l:=.blk w.heap.size) (blk:=.hf ⟨s.toArray⟩ 0) (sv:=.c (.ptr d 0)) (w':=w.alloc (.stringIter ⟨s.toArray⟩ 0)) (h.aU.alloc _) ⟨_,e8,rfl⟩ ⟨_,e8,rfl⟩ aJ;exact ed aW _ _ H' ag
theorem XS{x:Operand} {g:Bool} {id p:Nat} {S:ByteArray} (aA:o.op=.next x true) (bb:o.guard=none/\o.dst=some d) (ax:Nat.blt d n=true) (ah:bw X st.L x=some (g,.c (.ptr id 0))) (aV:g=true) (b8:aZ st.H id=some (.hf S p)) (an:p < S.size) :
  gB X n o st ⟨(d,.dj [.c (.val (.bool true)),.c (.val (.int .i64 (p:Int))),.c (.val (.int .i32 (Utf8.decode S p).1))]) :: st.L,eO id (.hf S (p+(Utf8.decode S p).2)) st.H⟩:=by
 intro R W aD ks env B ai H a w h KK iW ed;obtain⟨vx,J,b,ae,rfl⟩:=h.aE ah aV;obtain⟨dz,K,⟨b',eX,rfl⟩,fp,gN⟩:=h.mK (b':=.hf S (p+(Utf8.decode S p).2)) b8;rw[ae]at eX;cases eX;have kF:=(h.aU.ok _ fp.mem).2;refine hv h.cb bb.1 bb.2 (dK ax) (v:=.tuple #[.bool true,.int .i64 p,.int .i32 (Utf8.decode S p).1]) (w':={ w with heap:=w.heap.setIfInBounds b (.stringIter S (p+(Utf8.decode S p).2)) }) ?_ fun aW aJ=>?_
 ·have:=Lib.run_next_any_at (P:=X.P) w b S p o.type kF an
  simp[execOp,aA,h.cb.aE J,this,World.iterAt]
 ·obtain⟨H',ag⟩:=gN (.obj b (.stringIter S (p+(Utf8.decode S p).2))) a { w with heap:=w.heap.setIfInBounds b (.stringIter S (p+(Utf8.decode S p).2)) } ⟨b,ae,rfl⟩ (h.aU.xc fp) h.cb
  exact ed aW _ _ H' (ag.set ⟨[.bool true,.int .i64 p,.int .i32 (Utf8.decode S p).1],rfl,_,_,rfl,rfl,_,_,rfl,rfl,_,_,rfl,rfl,rfl⟩ aJ)
theorem XT{x:Operand} {g:Bool} {id p:Nat} {S:ByteArray} (aA:o.op=.next x true) (bb:o.guard=none/\o.dst=some d) (ax:Nat.blt d n=true) (ah:bw X st.L x=some (g,.c (.ptr id 0))) (aV:g=true) (b8:aZ st.H id=some (.hf S p)) (an:¬ p < S.size) :
  gB X n o st ⟨(d,.dj [.c (.val (.bool false))]) :: st.L,st.H⟩:=by
 intro R W aD ks env B ai H a w h KK iW ed;obtain⟨vx,J,b,ae,rfl⟩:=h.aE ah aV;obtain⟨dz,K,⟨b',eX,rfl⟩,fp,gN⟩:=h.mK (b':=.hf S p) b8;rw[ae]at eX;cases eX;have kF:=(h.aU.ok _ fp.mem).2;refine hv h.cb bb.1 bb.2 (dK ax) (v:=.tuple #[.bool false]) (w':=w) ?_ fun aW aJ=>?_
 ·have:=Lib.run_next_end_at (P:=X.P) w b S p o.type kF an
  simp[execOp,aA,h.cb.aE J,this]
 ·exact ed aW _ _ H (h.set ⟨[.bool false],rfl,_,_,rfl,rfl,rfl⟩ aJ)
end
end

section
set_option linter.unusedSectionVars false
section
variable {X:bq} {M:Bool} {n:Nat} {st:aM} {Q:Exit->aM->Prop} {ops rest:List Oper} {o:Oper} {d:Nat}
theorem XU(av:X.a7.ok X.P) {t e:TypeId} {bp eK:bo} {u x:Operand} {id:Nat} {T:TypeId} {g:ba} {l:List g.D} {cap:Option Nat} {k:IntKind} {z:Int} {g1 g2:Bool} (aA:o.op=.slice t u (some x) none none)
  (aY:X.a7.find t=some bp) (dv:bp.bs.desc=.slice e) (he:X.a7.find e=some eK) (hu:bw X st.L u=some (g1,.c (.ak id))) (dw:g1=true) (ah:bw X st.L x=some (g2,.c (.val (.int k z)))) (dP:g2=true)
  (b8:aZ st.H id=some (.row T g l cap)) (c6:Nat.beq g.size eK.bs.size=true) (bk:(decide (0<=z)&&decide (z<=(l.length:Int)))=true):hh X st o (.c (.iv id g.size z.toNat)):=by
 intro R W aD n ks env B ai H a b0 al;simp only[Bool.and_eq_true,decide_eq_true_eq]at bk;obtain⟨jj,J,A,c,m,jD,rfl⟩:=al.aE hu dw;obtain⟨vx,U,ag⟩:=al.aE ah dP;rw[show vx=_ from ag]at U;obtain⟨dz,K,⟨cm,k',xs,cV,rfl,_⟩,az⟩:=al.heap.gx b8;rw[jD]at cV;cases cV;obtain⟨L2,ca,c8,hg⟩:=mH (cj.get av aY).bs (cj.get av he).bs;refine⟨_,⟨A,c,l.length,jD,by omega,rfl⟩,fun w _=>?_⟩
 have:=Kk (l:=z.toNat) al.cb aA ca c8 dv hg J U (by omega) (by omega) w
 rw[<- Nat.eq_of_beq_eq_true c6]at this;exact this
theorem Flat.part{α:Type} {R:α->List Value->Prop} {k:Nat} (h:∀ x vs,R x vs->vs.length=k) {l ct:List α} {xs gy:List Value} {i:Nat} (J:Flat R l xs) (U:Flat R ct gy):Flat R (l.take i++ct++l.drop (i+ct.length)) (xs.take (i * k)++gy++xs.drop (i * k+gy.length)):=by
 have e:=Flat.length h U;rw[e,<- Nat.add_mul];exact((Flat.split h i J).1.append U).append (Flat.split h (i+ct.length) J).2
theorem XV(av:X.a7.ok X.P) {t e:TypeId} {x y:Operand} {g1 g2:Bool} {eZ:bh} {id cP gW s p:Nat} {ge g:ba} {l ct:List g.D} {cap:Option Nat} {bp:bo} {aI:TypeDesc} {kA:Value} (aA:o.op=.call ⟨.builtin .copy,⟨[x,y]⟩,⟨[t,t]⟩⟩) (bb:o.guard=none/\o.dst=some d) (ax:Nat.blt d n=true)
  (aY:X.a7.find t=some bp) (dv:bp.bs.desc=.slice e) (he:X.a7.find e=some ⟨⟨aI,cP,gW,kA⟩,some ge⟩) (ah:bw X st.L x=some (g1,.c (.iv id s p))) (aV:g1=true) (aH:bw X st.L y=some (g2,eZ)) (fL:g2=true)
  (b8:aZ st.H id=some (.row e g l cap)) (c6:Nat.beq g.size cP=true) (aj:Nat.beq s cP=true) (mL:lQ st g eZ=some ct) (q1:Nat.blt 0 cP=true) (aa:decide (p+ct.length<=l.length)=true):gB X n o st ⟨(d,.c (.val (.int .i64 (ct.length:Int)))) :: st.L,eO id (.row e g (l.take p++ct++l.drop (p+ct.length)) cap) st.H⟩:=by
 intro R W aD ks env B ai H a w h KK lo ed;obtain⟨vx,hl,lp⟩:=h.aE ah aV;obtain⟨vy,fN,ky⟩:=h.aE aH fL;obtain⟨T,ca,J,ay⟩:=mH (cj.get av aY).bs (cj.get av he).bs;have hk:=Nat.eq_of_beq_eq_true c6;have hd:=Nat.eq_of_beq_eq_true aj;have k1:=of_decide_eq_true aa;obtain⟨c7,cR,gy,rfl,jC,iA⟩:=q4 h mL ky;obtain⟨A,c,m,jD,L3,rfl⟩:=lp;obtain⟨dz,K,⟨cm,k',xs,n0,rfl,cS,fq⟩,fp,n1⟩:=h.mK (b':=.row e g (l.take p++ct++l.drop (p+ct.length)) cap) b8;rw[jD]at n0;cases n0;rw[hk]at fp iA;rw[hd]at hl;have hlen:(l.take p++ct++l.drop (p+ct.length)).length=l.length:=by
  simp only[List.length_append,List.length_take,List.length_drop];omega
 refine Sa h.sym aA bb ax ca J dv ay hl fN fp iA (Flat.jB (fun _ _=>bP.jB) jC) (dK q1) k1 fun aW w' ck=>?_
 have L4:=Flat.part (i:=p) (fun _ _=>bP.length) cS jC;rw[hk]at L4;obtain⟨H',c3⟩:=n1 (.row A c e g.size l.length (xs.take (p * cP)++gy++xs.drop (p * cP+gy.length))) a w' ⟨A,c,_,by rw[hlen]; exact jD,by rw[hlen],L4,fq⟩ (by rw[hk]; exact ck.aU) h.cb;exact ed aW w' _ H' (c3.set rfl ck.st)
theorem XW(av:X.a7.ok X.P) {t e:TypeId} {bp:bo} {u:Operand} {id:Nat} {g1:Bool} (aA:o.op=.call ⟨.builtin .cap,⟨[u]⟩,⟨[t]⟩⟩)
  (aY:X.a7.find t=some bp) (dv:bp.bs.desc=.slice e) (hu:bw X st.L u=some (g1,.c (.ak id))) (dw:g1=true):hh X st o (.c (.iN id)):=by
 intro R W aD n ks env B ai H a b0 al;obtain⟨jj,J,A,c,m,jD,rfl⟩:=al.aE hu dw;obtain⟨L2,ca,c8⟩:=AJ (cj.get av aY).bs;exact⟨_,⟨A,c,m,jD,rfl⟩,fun w _=>Ee al.cb aA ca c8 dv J w⟩
theorem ey.less{w:World} {B:Nat->Prop} {e:TypeId} {size c n m:Nat} {A:Option Addr} {xs:List Value} (h:ey w B e size A c n xs) (hm:m<=n):ey w B e size A c m (xs.take (m * size)):=by
 have L5:m * size<=n * size:=Nat.mul_le_mul_right _ hm;refine⟨by rw[List.length_take,h.1,Nat.min_eq_left L5],?_⟩
 rcases h.2 with⟨J,U,ag⟩ | ⟨g,cur,de,J,U,ag,ay,aO,aK,bY,c3⟩
 ·exact .inl ⟨J,by omega,ag⟩
 ·exact .inr ⟨g,cur,de,J,U,ag,ay,by omega,aK,bY,by rw[<- c3,List.take_take,Nat.min_eq_left L5]⟩
theorem XX(av:X.a7.ok X.P) {t e:TypeId} {bp eK:bo} {u y v:Operand} {id:Nat} {T:TypeId} {g:ba} {l:List g.D} {cap:Option Nat} {k:IntKind} {z:Int} {g1 g2 g3:Bool} (aA:o.op=.slice t u none (some y) (some v)) (bb:o.guard=none/\o.dst=some d) (ax:(Nat.blt d n&&Nat.blt id h2)=true)
  (aY:X.a7.find t=some bp) (dv:bp.bs.desc=.slice e) (he:X.a7.find e=some eK) (hu:bw X st.L u=some (g1,.c (.ak id))) (dw:g1=true) (aH:bw X st.L y=some (g2,.c (.val (.int k z)))) (dP:g2=true) (aw:bw X st.L v=some (g3,.c (.iN id))) (iQ:g3=true)
  (b8:aZ st.H id=some (.row T g l cap)) (bk:(decide (0<=z)&&decide (z<=(l.length:Int)))=true):gB X n o st ⟨(d,.c (.ak id)) :: fe id .dead st.L,(id,.row T g (l.take z.toNat) cap) :: dG id .dead st.H⟩:=by
 intro R W aD ks env B ai H a w al KK iW ed;simp only[Bool.and_eq_true,decide_eq_true_eq]at bk ax;obtain⟨ax,sz⟩:=ax;obtain⟨jj,J,A,c,m,jD,rfl⟩:=al.aE hu dw;obtain⟨vy,U,ag⟩:=al.aE aH dP;rw[show vy=_ from ag]at U;obtain⟨vv,ay,ahk,ahl,ahm,L6,rfl⟩:=al.aE aw iQ;rw[jD]at L6;cases L6;obtain⟨dz,K,⟨cm,k',xs,cV,rfl,cS,fq⟩,az,n1⟩:=al.ES (d:=d) (b':=.row T g (l.take z.toNat) cap) b8 (fun q an=>by
  obtain⟨_,aO,aK⟩:=al.dt _ _ an;rw[jD]at aO
  rcases aK with⟨b,aK⟩ | aK
  ·rw[<- aO]at aK; cases aK
  ·have:=dK sz; omega)
 rw[jD]at cV;cases cV;obtain⟨L2,ca,c8,hg⟩:=mH (cj.get av aY).bs (cj.get av he).bs;have e7:ey w (fun k=>R k\/B k) T g.size A c l.length xs:=al.aU.ok _ az.mem;have dW:=Kt (h:=z.toNat) (q:=c) al.cb aA ca c8 dv hg J U ay (by omega) rfl (by have:=e7.le.1; omega) (Nat.le_refl _) w;refine hv al.cb bb.1 bb.2 (dK ax) (v:=.slice A z.toNat c) (w':=w) dW fun aW aJ=>?_
 have qd:(l.take z.toNat).length=z.toNat:=by rw[List.length_take]; omega
 have aj:bK (fun k=>R k\/B k) ai (K (.row A c T g.size z.toNat (xs.take (z.toNat * g.size)))) w:=al.aU.sg az (dm.refl _ _) (e7.less (by omega)) (fun b ae=>.inl ae) fun b _ _=>rfl
 obtain⟨H',_,c3⟩:=n1 (.row A c z.toNat) _ aW w (.c (.ak id)) _ ⟨A,c,_,by rw[qd]; exact e8,by rw[qd],(Flat.split (fun _ _=>bP.length) z.toNat cS).1,fq⟩ ⟨A,c,_,e8,rfl⟩ aj aJ;exact ed aW w _ H' c3
end
end

def bg.free:bg->Bool
 | .val _=>true
 | .str _=>true
 | .fK _ _ _=>true
 | .par _ _=>true
 | .bd _ _ _=>true
 | .fn _ cs=>pY cs
 | _=>false
def qe:List bg->Bool
 | []=>true
 | c :: r=>match c.free with
  | true=>qe r
  | false=>false
def bh.free:bh->Bool
 | .c x=>x.free
 | .agg cs=>qe cs
 | .arr _ _=>true
def k4:List bh->Bool
 | []=>true
 | c :: r=>match c.free with
  | true=>k4 r
  | false=>false
def b5.free:b5->Bool
 | .a x=>x.free
 | .may _ x=>x.free
 | .dj xs=>k4 xs
def cA.free:cA->Bool
 | .cells _ cs=>qe cs
 | .row _ _ _ _=>true
 | .mp _ _ _ _=>true
 | .fw _ _ _=>true
 | .bQ _ _ _ _ _ none=>true
 | _=>false
theorem L7{id:Nat}:∀ {cs:List e2},pY cs=true->sk id cs=false
 | [],_=>rfl
 | .id _ :: _,h=>by cases h
 | .cL _ _ :: cs,h=>L7 (cs:=cs) h
theorem L8{js:List Nat}:∀ {cs:List e2},pY cs=true->n3 js cs=false
 | [],_=>rfl
 | .id _ :: _,h=>by cases h
 | .cL _ _ :: cs,h=>L8 (cs:=cs) h
theorem L9{id:Nat} {g:ba} {x:g.D}:∀ {cs:List e2},pY cs=true->rf id g x cs=cs
 | [],_=>rfl
 | .id _ :: _,h=>by cases h
 | .cL _ _ :: cs,h=>by
  show e2.cL _ _ :: rf id g x cs=_;rw[L9 (cs:=cs) h]
structure Fix(f:bg->bg):Prop where
 fix:∀ c,c.free=true->f c=c
theorem FK(id:Nat) (z:bg):Fix fun c=>c.sub id z:=⟨fun c h=>by
 cases c with
 | fn f cs=>simp only[bg.sub]; rw[L7 h]
 | _=>first | rfl | cases h⟩
theorem FL(js:List Nat):Fix fun c=>c.kill js:=⟨fun c h=>by
 cases c with
 | fn f cs=>simp only[bg.kill]; rw[L8 h]
 | _=>first | rfl | cases h⟩
theorem FM(id:Nat) (g:ba) (x:g.D):Fix fun c=>c.eH id g x:=⟨fun c h=>by
 cases c with
 | fn f cs=>simp only[bg.eH]; rw[L9 h]
 | _=>first | rfl | cases h⟩
def s6(f:bg->bg):List bg->List bg
 | []=>[]
 | c :: r=>f c :: s6 f r
theorem qf{f:bg->bg} (az:Fix f):∀ {cs:List bg},qe cs=true->s6 f cs=cs
 | [],_=>rfl
 | c :: r,h=>by
  unfold qe at h
  split at h
  ·rename_i e
   show f c :: s6 f r=_;rw[az.fix c e,qf az h]
  ·cases h
theorem FN(id:Nat) (z:bg):∀ cs:List bg,pL id z cs=s6 (fun c=>c.sub id z) cs
 | []=>rfl
 | c :: r=>by
  show c.sub id z :: pL id z r=_;rw[FN id z r]; rfl
theorem FO(js:List Nat):∀ cs:List bg,oU js cs=s6 (fun c=>c.kill js) cs
 | []=>rfl
 | c :: r=>by
  show c.kill js :: oU js r=_;rw[FO js r]; rfl
theorem FP(id:Nat) (g:ba) (x:g.D):∀ cs:List bg,uU id g x cs=s6 (fun c=>c.eH id g x) cs
 | []=>rfl
 | c :: r=>by
  show c.eH id g x :: uU id g x r=_;rw[FP id g x r]; rfl
theorem FQ{id:Nat} {z:bg} {x:bh} (h:x.free=true):x.sub id z=x:=by
 cases x with
 | c x=>simp only[bh.sub]; rw[(FK id z).fix x h]
 | agg cs=>simp only[bh.sub]; rw[FN,qf (FK id z) h]
 | arr g l=>rfl
theorem FR{js:List Nat} {x:bh} (h:x.free=true):x.kill js=x:=by
 cases x with
 | c x=>simp only[bh.kill]; rw[(FL js).fix x h]
 | agg cs=>simp only[bh.kill]; rw[FO,qf (FL js) h]
 | arr g l=>rfl
theorem FT{id:Nat} {g:ba} {y:g.D} {x:bh} (h:x.free=true):x.eH id g y=x:=by
 cases x with
 | c x=>simp only[bh.eH]; rw[(FM id g y).fix x h]
 | agg cs=>simp only[bh.eH]; rw[FP,qf (FM id g y) h]
 | arr g l=>rfl
theorem Ma{id:Nat} {z:bg}:∀ {xs:List bh},k4 xs=true->xj id z xs=xs
 | [],_=>rfl
 | c :: r,h=>by
  unfold k4 at h
  split at h
  ·rename_i e
   show c.sub id z :: xj id z r=_;rw[FQ e,Ma h]
  ·cases h
theorem Mb{js:List Nat}:∀ {xs:List bh},k4 xs=true->sD js xs=xs
 | [],_=>rfl
 | c :: r,h=>by
  unfold k4 at h
  split at h
  ·rename_i e
   show c.kill js :: sD js r=_;rw[FR e,Mb h]
  ·cases h
theorem Mc{id:Nat} {g:ba} {y:g.D}:∀ {xs:List bh},k4 xs=true->xV id g y xs=xs
 | [],_=>rfl
 | c :: r,h=>by
  unfold k4 at h
  split at h
  ·rename_i e
   show c.eH id g y :: xV id g y r=_;rw[FT e,Mc h]
  ·cases h
theorem XY{id:Nat} {z:bg} {v:b5} (h:v.free=true):v.sub id z=v:=by
 cases v with
 | a x=>simp only[b5.sub]; rw[FQ h]
 | may g x=>simp only[b5.sub]; rw[FQ h]
 | dj xs=>simp only[b5.sub]; rw[Ma h]
theorem XZ{js:List Nat} {v:b5} (h:v.free=true):v.kill js=v:=by
 cases v with
 | a x=>simp only[b5.kill]; rw[FR h]
 | may g x=>simp only[b5.kill]; rw[FR h]
 | dj xs=>simp only[b5.kill]; rw[Mb h]
theorem X0{id:Nat} {g:ba} {y:g.D} {v:b5} (h:v.free=true):v.eH id g y=v:=by
 cases v with
 | a x=>simp only[b5.eH]; rw[FT h]
 | may g x=>simp only[b5.eH]; rw[FT h]
 | dj xs=>simp only[b5.eH]; rw[Mc h]
theorem X1{id:Nat} {z:bg} {b:cA} (h:b.free=true):b.sub id z=b:=by
 cases b with
 | cells t cs=>simp only[cA.sub]; rw[FN,qf (FK id z) h]
 | bQ T T' g l c q=>rcases q with _ | ⟨i,_ | d⟩<;>first | rfl | cases h
 | _=>first | rfl | cases h
theorem X2{js:List Nat} {b:cA} (h:b.free=true):b.kill js=b:=by
 cases b with
 | cells t cs=>simp only[cA.kill]; rw[FO,qf (FL js) h]
 | bQ T T' g l c q=>rcases q with _ | ⟨i,_ | d⟩<;>first | rfl | cases h
 | _=>first | rfl | cases h
theorem X3{id:Nat} {g:ba} {y:g.D} {b:cA} (h:b.free=true):b.eH id g y=b:=by
 cases b with
 | cells t cs=>simp only[cA.eH]; rw[FP,qf (FM id g y) h]
 | _=>first | rfl | cases h
def eA(q:Nat):List Nat->Bool
 | []=>false
 | k :: r=>match Nat.beq k q with
  | true=>true
  | false=>eA q r
theorem oj{q:Nat}:∀ {l r:List Nat},eA q (l++r)=false ↔ eA q l=false/\eA q r=false
 | [],r=>by simp[eA]
 | k :: l,r=>by
  show(match Nat.beq k q with | true=>true | false=>eA q (l++r))=false ↔ (match Nat.beq k q with | true=>true | false=>eA q l)=false/\_;cases Nat.beq k q with
  | true=>simp
  | false=>exact oj
theorem e9{q k:Nat} {r:List Nat} (h:eA q (k :: r)=false):q≠k/\eA q r=false:=by
 unfold eA at h
 split at h
 ·cases h
 ·rename_i e
  exact⟨(fun cu=>by rw[cu,Nat.beq_refl]at e; cases e),h⟩
def b6{α:Type} (de:α->Bool) (V:List Nat) (L cY:List (Nat×α)):Prop:=∀ q v,eA q V=false->aZ cY q=some v->∃ u,aZ L q=some u/\(de u=true->v=u)
theorem b6.refl{α:Type} {de:α->Bool} {V:List Nat} (L:List (Nat×α)):b6 de V L L:=fun _ v _ h=>⟨v,h,fun _=>rfl⟩
theorem b6.trans{α:Type} {de:α->Bool} {V V2:List Nat} {L yb o8:List (Nat×α)} (h:b6 de V L yb) (k:b6 de V2 yb o8):b6 de (V2++V) L o8:=fun q v ao ad=>by
 obtain⟨J,U⟩:=oj.1 ao;obtain⟨u,ag,ay⟩:=k q v J ad;obtain⟨om,aO,aK⟩:=h q u U ag;exact⟨om,aO,fun az=>by have:=aK az; subst this; exact ay az⟩
theorem b6.more{α:Type} {de:α->Bool} {V V2:List Nat} {L yb:List (Nat×α)} (h:b6 de V L yb) (aw:∀ q,eA q V2=false->eA q V=false):b6 de V2 L yb:=fun q v ao ad=>h q v (aw q ao) ad
theorem b6.cons{α:Type} {de:α->Bool} {V:List Nat} {L cY:List (Nat×α)} {d:Nat} {v:α} (h:b6 de V L cY):b6 de (d :: V) L ((d,v) :: cY):=fun q u ao ad=>by
 obtain⟨J,U⟩:=e9 ao;rw[cn,if_neg J]at ad;exact h q u U ad
theorem b6.append{α:Type} {de:α->Bool} {V:List Nat} {L cY:List (Nat×α)} (h:b6 de V L cY):∀ {U:List (Nat×α)} {ks:List Nat},U.map (·.1)=ks->b6 de (ks++V) L (U++cY)
 | [],_,rfl=>h
 | (k,v) :: r,_,rfl=>b6.cons (V:=r.map (·.1)++V) (b6.append h rfl)
theorem b6.map{α:Type} {de:α->Bool} {V:List Nat} {L cY:List (Nat×α)} {f:α->α} (az:∀ v,de v=true->f v=v) (h:∀ q v,aZ cY q=some v->∃ u,aZ L q=some u/\v=f u):b6 de V L cY:=fun q v _ ad=>by
 obtain⟨u,J,U⟩:=h q v ad;exact⟨u,J,fun hu=>by rw[U,az u hu]⟩
theorem b6.less{α:Type} {de:α->Bool} {V:List Nat} {L cY:List (Nat×α)} (h:∀ q v,aZ cY q=some v->aZ L q=some v):b6 de V L cY:=fun q v _ ad=>⟨v,h q v ad,fun _=>rfl⟩
abbrev vj:=b6 b5.free
abbrev kh:=b6 cA.free
theorem jo(id:Nat) (z:bg) (L:cQ) {V:List Nat}:vj V L (fe id z L):=b6.map (f:=fun v=>v.sub id z) (fun _ h=>XY h) fun _ _ h=>lK h
theorem X4(js:List Nat) (L:cQ) {V:List Nat}:vj V L (oV js L):=b6.map (f:=fun v=>v.kill js) (fun _ h=>XZ h) fun _ _ h=>E3 h
theorem X5(id:Nat) (g:ba) (x:g.D) (L:cQ) {V:List Nat}:vj V L (sJ id g x L):=b6.map (f:=fun v=>v.eH id g x) (fun _ h=>X0 h) fun _ _ h=>Fc h
theorem iG(id:Nat) (z:bg) {V:List Nat}:∀ H:bE,kh V H (dG id z H)
 | []=>b6.refl []
 | (k,b) :: r=>fun q v ao ad=>by
  unfold dG at ad
  split at ad
  ·rename_i e
   have ab:=Nat.eq_of_beq_eq_true e;obtain⟨u,J,U⟩:=iG id z (V:=V) r q v ao ad;have cG:q≠k:=fun cu=>by
    subst cu;rw[ab]at ad;exact FU ad
   exact⟨u,by rw[cn,if_neg cG]; exact J,U⟩
  ·rw[cn]at ad ⊢
   split at ad
   ·rename_i e
    cases ad;rw[if_pos e];exact⟨b,rfl,fun az=>X1 az⟩
   ·rename_i e
    rw[if_neg e];exact iG id z r q v ao ad
where FU {id:Nat} {z:bg} {v:cA}:∀ {H:bE},aZ (dG id z H) id=some v->False
 | [],h=>by cases h
 | (k,b) :: r,h=>by
  unfold dG at h
  split at h
  ·exact FU h
  ·rename_i e
   rw[cn,if_neg (fun cu=>by rw[cu,Nat.beq_refl]at e; cases e)]at h;exact FU h
theorem jI{id:Nat} {b:cA} {V:List Nat} (jH:eA id V=true):∀ {H:bE},kh V H (eO id b H)
 | []=>b6.refl []
 | (k,b') :: r=>fun q v ao ad=>by
  have cG:q≠id:=fun e=>by rw[e,jH]at ao; cases ao
  unfold eO at ad
  split at ad
  ·rename_i e
   have ab:=Nat.eq_of_beq_eq_true e;rw[cn,if_neg (by rw[ab]; exact cG)]at ad;exact⟨v,by rw[cn,if_neg (by rw[ab]; exact cG)]; exact ad,fun _=>rfl⟩
  ·rw[cn]at ad ⊢
   split at ad
   ·rename_i e
    rw[if_pos e];exact⟨b',rfl,fun _=>by cases ad; rfl⟩
   ·rename_i e
    rw[if_neg e];exact jI jH q v ao ad
end Go.Proofs.YtldjgdggcodgeaaGreat
