/- Part 2 of 6 of the proof. -/
import Derived.Test.YtcheedjfedcbpaaGreatDoorSh01
import Derived.Lib.LaidTab
import Derived.Test.YtcheedjfedcbpaaGreatDoorProg
import Derived.KernelRfl
import Derived.Lib.ItoaNum
import Derived.Test.YtcheedjfedcbpaaGreatDoorRows
import Derived.LaidMore
import Derived.OpenShut
import Derived.Stop.Joined
import Derived.Test.YtcheedjfedcbpaaGreatDoorCards
import Derived.Test.YtcheedjfedcbpaaGreatDoorTie
import Derived.SevenTiedAt
import Derived.Maps.RangeRun
import Derived.Scope
import Derived.Lib.OthersKept
set_option linter.unusedSimpArgs false
set_option linter.unusedVariables false
set_option maxRecDepth 100000
namespace Go.Proofs.YtcheedjfedcbpaaGreatDoor
open Go.RowKit
section
abbrev eg:=List (Nat×Nat)
def vq(ps:eg):List e6->Option (List e6)
 | []=>some []
 | .id i :: r=>match aU ps i,vq ps r with
  | some j,some l=>some (.id j :: l)
  | _,_=>none
 | .eS g x :: r=>match vq ps r with
  | some l=>some (.eS g x :: l)
  | none=>none
def ba.dJ(ps:eg):ba->Option ba
 | .ptr i o=>match aU ps i with
  | some j=>some (.ptr j o)
  | none=>none
 | .dZ i cA k o=>match aU ps i with
  | some j=>some (.dZ j cA k o)
  | none=>none
 | .an i=>match aU ps i with
  | some j=>some (.an j)
  | none=>none
 | .fn f ids=>match vq ps ids with
  | some l=>some (.fn f l)
  | none=>none
 | .cp i=>match aU ps i with
  | some j=>some (.cp j)
  | none=>none
 | .iA f i=>match aU ps i with
  | some j=>some (.iA f j)
  | none=>none
 | .gD i o=>match aU ps i with
  | some j=>some (.gD j o)
  | none=>none
 | .iK i=>match aU ps i with
  | some j=>some (.iK j)
  | none=>none
 | .iB i s o=>match aU ps i with
  | some j=>some (.iB j s o)
  | none=>none
 | .hK b i=>match aU ps i with
  | some j=>some (.hK b j)
  | none=>none
 | .val v=>some (.val v)
 | .str s=>some (.str s)
 | .dead=>some .dead
 | .fF g x o=>some (.fF g x o)
 | .par g l=>some (.par g l)
 | .bn g l c=>some (.bn g l c)
def xO(ps:eg):List ba->Option (List ba)
 | []=>some []
 | c :: r=>match c.dJ ps,xO ps r with
  | some c',some cw=>some (c' :: cw)
  | _,_=>none
def bf.dJ(ps:eg):bf->Option bf
 | .c x=>match x.dJ ps with
  | some y=>some (.c y)
  | none=>none
 | .agg cs=>match xO ps cs with
  | some l=>some (.agg l)
  | none=>none
 | .arr g l=>some (.arr g l)
def xP(ps:eg):List bf->Option (List bf)
 | []=>some []
 | c :: r=>match c.dJ ps,xP ps r with
  | some c',some cw=>some (c' :: cw)
  | _,_=>none
def b0.dJ(ps:eg):b0->Option b0
 | .a x=>match x.dJ ps with
  | some y=>some (.a y)
  | none=>none
 | .da xs=>match xP ps xs with
  | some l=>some (.da l)
  | none=>none
 | .may _ _=>none
def ct.dJ(ps:eg):ct->Option ct
 | .cells t cs=>match xO ps cs with
  | some l=>some (.cells t l)
  | none=>none
 | .row t g l c=>some (.row t g l c)
 | .hq s p=>some (.hq s p)
 | .mp gk aZ l o=>some (.mp gk aZ l o)
 | .it eT es k LR=>match aU ps eT with
  | some j=>some (.it j es k LR)
  | none=>none
 | .jJ=>some .jJ
 | .gS eT=>match aU ps eT with
  | some j=>some (.gS j)
  | none=>none
 | .cC el t g l c i d=>match aU ps d with
  | some j=>some (.cC el t g l c i j)
  | none=>none
 | .kb=>some .kb
 | .fk t g l=>some (.fk t g l)
 | .b5 t bQ g l c none=>some (.b5 t bQ g l c none)
 | .b5 t bQ g l c (some (i,none))=>some (.b5 t bQ g l c (some (i,none)))
 | .b5 t bQ g l c (some (i,some d))=>match aU ps d with
  | some j=>some (.b5 t bQ g l c (some (i,some j)))
  | none=>none
def td(ps:eg):bx->Option bx
 | []=>some []
 | (i,b) :: r=>match aU ps i,b.dJ ps,td ps r with
  | some j,some b',some cw=>some ((j,b') :: cw)
  | _,_,_=>none
def oS(js:List Nat):List e6->Bool
 | []=>false
 | .id i :: r=>js.elem i || oS js r
 | .eS _ _ :: r=>oS js r
def ba.kill:ba->List Nat->ba
 | .ptr i o,js=>match js.elem i with
  | true=>.dead
  | false=>.ptr i o
 | .dZ i cA j o,js=>match js.elem i with
  | true=>.dead
  | false=>.dZ i cA j o
 | .an i,js=>match js.elem i with
  | true=>.dead
  | false=>.an i
 | .fn f ids,js=>match oS js ids with
  | true=>.dead
  | false=>.fn f ids
 | .cp i,js=>match js.elem i with
  | true=>.dead
  | false=>.cp i
 | .iA f i,js=>match js.elem i with
  | true=>.dead
  | false=>.iA f i
 | .gD i o,js=>match js.elem i with
  | true=>.dead
  | false=>.gD i o
 | .iK i,js=>match js.elem i with
  | true=>.dead
  | false=>.iK i
 | .iB i s o,js=>match js.elem i with
  | true=>.dead
  | false=>.iB i s o
 | .hK b i,js=>match js.elem i with
  | true=>.dead
  | false=>.hK b i
 | c,_=>c
def pJ(js:List Nat):List ba->List ba
 | []=>[]
 | c :: r=>c.kill js :: pJ js r
def bf.kill:bf->List Nat->bf
 | .c x,js=>.c (x.kill js)
 | .agg cs,js=>.agg (pJ js cs)
 | .arr g l,_=>.arr g l
def te(js:List Nat):List bf->List bf
 | []=>[]
 | c :: r=>c.kill js :: te js r
def b0.kill:b0->List Nat->b0
 | .a x,js=>.a (x.kill js)
 | .may g x,js=>.may g (x.kill js)
 | .da xs,js=>.da (te js xs)
def qD(js:List Nat):cL->cL
 | []=>[]
 | (k,v) :: r=>(k,v.kill js) :: qD js r
def ct.kill:ct->List Nat->ct
 | .cells t cs,js=>.cells t (pJ js cs)
 | .it eT es k ps,js=>match js.elem eT with
  | true=>.jJ
  | false=>.it eT es k ps
 | .gS eT,js=>match js.elem eT with
  | true=>.jJ
  | false=>.gS eT
 | .cC el t g l c i d,js=>match js.elem d with
  | true=>.kb
  | false=>.cC el t g l c i d
 | .b5 t bQ g l c (some (i,some d)),js=>match js.elem d with
  | true=>.b5 t bQ g l c (some (i,none))
  | false=>.b5 t bQ g l c (some (i,some d))
 | b,_=>b
def iP(js ks:List Nat):bx->bx
 | []=>[]
 | (k,b) :: r=>match js.elem k with
  | true=>iP js ks r
  | false=>(k,b.kill ks) :: iP js ks r
def kg:eg->List Nat
 | []=>[]
 | (_,j) :: r=>j :: kg r
def A8(h:bx) (i:Nat):Bool:=match Nat.ble hZ i,Nat.ble mI i,aU h i with
 | true,_,_=>true
 | _,true,some (.cells _ _)=>true
 | _,true,some (.mp _ _ _ _)=>true
 | _,_,_=>false
def k1(h:bx):eg->List Nat
 | []=>[]
 | (i,j) :: r=>match A8 h i with
  | true=>k1 h r
  | false=>j :: k1 h r
def oT:List Nat->Bool
 | []=>true
 | x :: r=>!(r.elem x)&&oT r
def rT:eg->List Nat
 | []=>[]
 | (i,_) :: r=>i :: rT r
def A9(n:Nat):eg->Bool
 | []=>true
 | (i,j) :: r=>(Nat.ble hZ i || (Nat.ble mI i&&Nat.blt j hZ) || Nat.blt j n)&&A9 n r
def Ba(n:Nat) (ps:eg):Bool:=oT (rT ps)&&oT (kg ps)&&A9 n ps
def inv:eg->Nat->Option Nat
 | [],_=>none
 | (i,j) :: r,k=>if k=j then some i else inv r k
theorem xQ:∀ {l:List Nat},oT l=true->l.Nodup
 | [],_=>List.nodup_nil
 | x :: r,h=>by
  simp only[oT,Bool.and_eq_true,Bool.not_eq_true',List.elem_eq_mem,decide_eq_false_iff_not]at h;exact List.nodup_cons.2 ⟨h.1,xQ h.2⟩
theorem vr{α:Type}:∀ {l:List (Nat×α)} {i:Nat} {x:α},aU l i=some x->(i,x)∈l
 | [],_,_,h=>by cases h
 | (k,v) :: r,i,x,h=>by
  rw[cl]at h
  split at h
  ·rename_i e; subst e; cases h; exact List.mem_cons_self
  ·exact List.mem_cons_of_mem _ (vr h)
theorem LS:∀ {ps:eg} {i j:Nat},(i,j)∈ps->i∈rT ps
 | [],_,_,h=>by cases h
 | (k,l) :: r,i,j,h=>by
  rcases List.mem_cons.1 h with h | h
  ·cases h; exact List.mem_cons_self
  ·exact List.mem_cons_of_mem _ (LS h)
theorem Bb:∀ {ps:eg} {i j:Nat},(i,j)∈ps->j∈kg ps
 | [],_,_,h=>by cases h
 | (k,l) :: r,i,j,h=>by
  rcases List.mem_cons.1 h with h | h
  ·cases h; exact List.mem_cons_self
  ·exact List.mem_cons_of_mem _ (Bb h)
theorem xR:∀ {ps:eg} {i j:Nat},(rT ps).Nodup->(i,j)∈ps->aU ps i=some j
 | [],_,_,_,h=>by cases h
 | (k,l) :: r,i,j,a7,h=>by
  have hn:=List.nodup_cons.1 a7;rw[cl]
  rcases List.mem_cons.1 h with hm | hm
  ·cases hm; rw[if_pos rfl]
  ·rw[if_neg (fun e=>hn.1 (by subst e; exact LS hm)),xR hn.2 hm]
theorem LU:∀ {ps:eg} {i j:Nat},(kg ps).Nodup->(i,j)∈ps->inv ps j=some i
 | [],_,_,_,h=>by cases h
 | (k,l) :: r,i,j,a7,h=>by
  have hn:=List.nodup_cons.1 a7;unfold inv
  rcases List.mem_cons.1 h with hm | hm
  ·cases hm; rw[if_pos rfl]
  ·rw[if_neg (fun e=>hn.1 (by subst e; exact Bb hm)),LU hn.2 hm]
theorem Bc:∀ {ps:eg} {i j:Nat},inv ps j=some i->(i,j)∈ps
 | [],_,_,h=>by cases h
 | (k,l) :: r,i,j,h=>by
  unfold inv at h
  split at h
  ·rename_i e; subst e; cases h; exact List.mem_cons_self
  ·exact List.mem_cons_of_mem _ (Bc h)
theorem LV{n:Nat}:∀ {ps:eg} {i j:Nat},A9 n ps=true->(i,j)∈ps->hZ<=i\/(mI<=i/\j < hZ)\/j < n
 | [],_,_,_,h=>by cases h
 | (k,l) :: r,i,j,aq,h=>by
  simp only[A9,Bool.and_eq_true,Bool.or_eq_true]at aq
  rcases List.mem_cons.1 h with h | h
  ·cases h
   rcases aq.1 with(J | J) | J
   ·exact .inl (Nat.le_of_ble_eq_true J)
   ·exact .inr (.inl ⟨Nat.le_of_ble_eq_true J.1,du J.2⟩)
   ·exact .inr (.inr (du J))
  ·exact LV aq.2 h
theorem E8{h:bx}:∀ {ps:eg} {i j:Nat},(i,j)∈ps->(k1 h ps).elem j=false->A8 h i=true
 | [],_,_,h,_=>by cases h
 | (k,l) :: r,i,j,hm,ab=>by
  unfold k1 at ab
  rcases List.mem_cons.1 hm with hm | hm
  ·cases hm
   split at ab
   ·assumption
   ·simp at ab
  ·split at ab
   ·exact E8 hm ab
   ·simp only[List.elem_eq_mem,List.mem_cons,decide_eq_false_iff_not,not_or]at ab
    exact E8 hm (by simpa using ab.2)
section
variable {env env' env'':Nat->Loc} {B:Nat->Prop} {w:World} {ps:eg} {js:List Nat}
theorem e1.dJ(he:∀ i j,aU ps i=some j->env' j=env i):∀ {ids l:List e6} {vs:List Value},vq ps ids=some l->(e1 env B w ids vs ↔ e1 env' B w l vs)
 | [],l,vs,h=>by cases h; exact Iff.rfl
 | .id i :: ids,l,vs,h=>by
  simp only[vq]at h
  split at h
  ·rename_i j r hi az
   cases h;constructor
   ·rintro⟨v,cw,J,⟨b,U,au⟩,ah⟩
    exact⟨v,cw,J,⟨b,by rw[he i j hi]; exact U,au⟩,(e1.dJ he az).1 ah⟩
   ·rintro⟨v,cw,J,⟨b,U,au⟩,ah⟩
    exact⟨v,cw,J,⟨b,by rw[<- he i j hi]; exact U,au⟩,(e1.dJ he az).2 ah⟩
  ·cases h
 | .eS g x :: ids,l,vs,h=>by
  simp only[vq]at h
  split at h
  ·rename_i r az
   cases h;constructor
   ·rintro⟨v,cw,J,U,ah⟩; exact⟨v,cw,J,U,(e1.dJ he az).1 ah⟩
   ·rintro⟨v,cw,J,U,ah⟩; exact⟨v,cw,J,U,(e1.dJ he az).2 ah⟩
  ·cases h
theorem dv.dJ(he:∀ i j,aU ps i=some j->env' j=env i):∀ {c c':ba} {v:Value},c.dJ ps=some c'->(dv env B w c v ↔ dv env' B w c' v)
 | .val _,_,_,h=>by cases h; exact Iff.rfl
 | .str _,_,_,h=>by cases h; exact Iff.rfl
 | .dead,_,_,h=>by cases h; exact Iff.rfl
 | .ptr i o,_,_,h=>by
  simp only[ba.dJ]at h
  split at h
  ·rename_i j hi
   cases h;simp only[dv,he i j hi]
  ·cases h
 | .dZ i cA k o,_,_,h=>by
  simp only[ba.dJ]at h
  split at h
  ·rename_i j hi
   cases h;simp only[dv,he i j hi]
  ·cases h
 | .hK b i,_,_,h=>by
  simp only[ba.dJ]at h
  split at h
  ·rename_i j hi
   cases h;simp only[dv,he i j hi]
  ·cases h
 | .iK i,_,_,h=>by
  simp only[ba.dJ]at h
  split at h
  ·rename_i j hi
   cases h;simp only[dv,he i j hi]
  ·cases h
 | .iB i s o,_,_,h=>by
  simp only[ba.dJ]at h
  split at h
  ·rename_i j hi
   cases h;simp only[dv,he i j hi]
  ·cases h
 | .gD i o,_,_,h=>by
  simp only[ba.dJ]at h
  split at h
  ·rename_i j hi
   cases h;simp only[dv,he i j hi]
  ·cases h
 | .fF _ _ _,_,_,h=>by cases h; exact Iff.rfl
 | .par _ _,_,_,h=>by cases h; exact Iff.rfl
 | .an i,_,_,h=>by
  simp only[ba.dJ]at h
  split at h
  ·rename_i j hi
   cases h;simp only[dv,he i j hi]
  ·cases h
 | .bn _ _ _,_,_,h=>by cases h; exact Iff.rfl
 | .fn f ids,_,_,h=>by
  simp only[ba.dJ]at h
  split at h
  ·rename_i l ad
   cases h;simp only[dv];constructor
   ·rintro⟨vs,J,U⟩; exact⟨vs,J,(e1.dJ he ad).1 U⟩
   ·rintro⟨vs,J,U⟩; exact⟨vs,J,(e1.dJ he ad).2 U⟩
  ·cases h
 | .cp i,_,_,h=>by
  simp only[ba.dJ]at h
  split at h
  ·rename_i j hi
   cases h;simp only[dv,he i j hi]
  ·cases h
 | .iA f i,_,_,h=>by
  simp only[ba.dJ]at h
  split at h
  ·rename_i j hi
   cases h;simp only[dv,he i j hi]
  ·cases h
theorem cd.dJ(he:∀ i j,aU ps i=some j->env' j=env i):∀ {c c':List ba} {v:List Value},xO ps c=some c'->(cd env B w c v ↔ cd env' B w c' v)
 | [],_,_,h=>by cases h; exact Iff.rfl
 | c :: r,_,_,h=>by
  simp only[xO]at h
  split at h
  ·rename_i c' cw J U
   cases h;constructor
   ·rintro⟨v,q,e,ah,au⟩; exact⟨v,q,e,(dv.dJ he J).1 ah,(cd.dJ he U).1 au⟩
   ·rintro⟨v,q,e,ah,au⟩; exact⟨v,q,e,(dv.dJ he J).2 ah,(cd.dJ he U).2 au⟩
  ·cases h
theorem dI.dJ(he:∀ i j,aU ps i=some j->env' j=env i):∀ {c c':bf} {v:Value},c.dJ ps=some c'->(dI env B w c v ↔ dI env' B w c' v)
 | .c x,_,_,h=>by
  simp only[bf.dJ]at h
  split at h
  ·rename_i y aT; cases h; exact dv.dJ he aT
  ·cases h
 | .agg cs,_,_,h=>by
  simp only[bf.dJ]at h
  split at h
  ·rename_i l ad
   cases h;constructor
   ·rintro⟨vs,e,ah⟩; exact⟨vs,e,(cd.dJ he ad).1 ah⟩
   ·rintro⟨vs,e,ah⟩; exact⟨vs,e,(cd.dJ he ad).2 ah⟩
  ·cases h
 | .arr g l,_,_,h=>by cases h; exact Iff.rfl
theorem dw.dJ(he:∀ i j,aU ps i=some j->env' j=env i):∀ {c c':List bf} {v:List Value},xP ps c=some c'->(dw env B w c v ↔ dw env' B w c' v)
 | [],_,_,h=>by cases h; exact Iff.rfl
 | c :: r,_,_,h=>by
  simp only[xP]at h
  split at h
  ·rename_i c' cw J U
   cases h;constructor
   ·rintro⟨v,q,e,ah,au⟩; exact⟨v,q,e,(dI.dJ he J).1 ah,(dw.dJ he U).1 au⟩
   ·rintro⟨v,q,e,ah,au⟩; exact⟨v,q,e,(dI.dJ he J).2 ah,(dw.dJ he U).2 au⟩
  ·cases h
theorem ei.dJ(he:∀ i j,aU ps i=some j->env' j=env i):∀ {c c':b0} {v:Value},c.dJ ps=some c'->ei env B w c v->ei env' B w c' v
 | .a x,_,_,h,aB=>by
  simp only[b0.dJ]at h
  split at h
  ·rename_i y aT; cases h; exact(dI.dJ he aT).1 aB
  ·cases h
 | .da xs,_,_,h,⟨vs,e,aB⟩=>by
  simp only[b0.dJ]at h
  split at h
  ·rename_i l ad; cases h; exact⟨vs,e,(dw.dJ he ad).1 aB⟩
  ·cases h
 | .may _ _,_,_,h,_=>by cases h
theorem ej.dJ(he:∀ i j,aU ps i=some j->env' j=env i) {i j:Nat} (hi:aU ps i=some j):∀ {b b':ct} {c:bb},b.dJ ps=some b'->(ej env B w i b c ↔ ej env' B w j b' c)
 | .cells t cs,_,_,h=>by
  simp only[ct.dJ]at h
  split at h
  ·rename_i l ad
   cases h;simp only[ej,he i j hi];constructor
   ·rintro⟨b,vs,J,U,ah⟩; exact⟨b,vs,J,U,(cd.dJ he ad).1 ah⟩
   ·rintro⟨b,vs,J,U,ah⟩; exact⟨b,vs,J,U,(cd.dJ he ad).2 ah⟩
  ·cases h
 | .row t g l c,_,_,h=>by cases h; simp only[ej,he i j hi]
 | .hq s p,_,_,h=>by cases h; simp only[ej,he i j hi]
 | .mp gk aZ l o,_,_,h=>by cases h; simp only[ej,he i j hi]
 | .it eT es k LR,_,_,h=>by
  simp only[ct.dJ]at h
  split at h
  ·rename_i jv aR
   cases h;simp only[ej,he i j hi,he eT jv aR]
  ·cases h
 | .gS eT,_,_,h=>by
  simp only[ct.dJ]at h
  split at h
  ·rename_i jv aR
   cases h;simp only[ej,he i j hi,he eT jv aR]
  ·cases h
 | .jJ,_,_,h=>by cases h; simp only[ej,he i j hi]
 | .cC el t g l c q d,_,_,h=>by
  simp only[ct.dJ]at h
  split at h
  ·rename_i jv aR
   cases h;simp only[ej,he i j hi,he d jv aR]
  ·cases h
 | .kb,_,_,h=>by cases h; simp only[ej,he i j hi]
 | .fk t g l,_,_,h=>by cases h; simp only[ej,he i j hi]
 | .b5 t bQ g l c none,_,_,h=>by cases h; simp only[ej,he i j hi,xw]
 | .b5 t bQ g l c (some (q,none)),_,_,h=>by
  cases h;simp only[ej,he i j hi,xw];constructor<;>rintro⟨A,k,ys,cT,I,e,aa,J,⟨U,v,au,_⟩,ah⟩<;>exact⟨A,k,ys,cT,I,e,aa,J,⟨U,v,au,fun _ h=>by cases h⟩,ah⟩
 | .b5 t bQ g l c (some (q,some d)),_,_,h=>by
  simp only[ct.dJ]at h
  split at h
  ·rename_i jv aR
   cases h;simp only[ej,he i j hi,xw];constructor
   ·rintro⟨A,k,ys,cT,I,e,aa,J,⟨U,v,au,aF⟩,ah⟩
    exact⟨A,k,ys,cT,I,e,aa,J,⟨U,v,au,fun fG av=>by cases av; rw[he d jv aR]; exact aF d rfl⟩,ah⟩
   ·rintro⟨A,k,ys,cT,I,e,aa,J,⟨U,v,au,aF⟩,ah⟩
    exact⟨A,k,ys,cT,I,e,aa,J,⟨U,v,au,fun fG av=>by cases av; rw[<- he d jv aR]; exact aF jv rfl⟩,ah⟩
  ·cases h
theorem bu.dJ(he:∀ i j,aU ps i=some j->env' j=env i):∀ {h aO:bx} {H:List bb},td ps h=some aO->bu env B w h H->bu env' B w aO H
 | [],_,_,h,cn=>by cases h; exact cn
 | (i,b) :: r,_,_,h,⟨c,H',e,J,U⟩=>by
  simp only[td]at h
  split at h
  ·rename_i j b' cw ah au aF
   cases h;exact⟨c,H',e,(ej.dJ he ah au).1 J,bu.dJ he aF U⟩
  ·cases h
theorem e1.kill(he:∀ j,js.elem j=false->env' j=env j):∀ {ids:List e6} {vs:List Value},oS js ids=false->e1 env B w ids vs->e1 env' B w ids vs
 | [],_,_,h=>h
 | .id i :: ids,_,a7,⟨v,r,e,⟨b,ae,aB⟩,h⟩=>by
  simp only[oS,Bool.or_eq_false_iff]at a7;exact⟨v,r,e,⟨b,by rw[he i a7.1]; exact ae,aB⟩,e1.kill he a7.2 h⟩
 | .eS g x :: ids,_,a7,⟨v,r,e,J,h⟩=>⟨v,r,e,J,e1.kill he (by simpa [oS] using a7) h⟩
variable (he:∀ j,js.elem j=false->env' j=env j)
include he
theorem dv.kill:∀ {c:ba} {v:Value},dv env B w c v->dv env' B w (c.kill js) v
 | .val _,_,aa=>aa
 | .str _,_,aa=>aa
 | .dead,_,aa=>aa
 | .ptr i o,v,aa=>by
  simp only[ba.kill]
  split
  ·trivial
  ·rename_i h
   obtain⟨b,e,aB⟩:=aa;exact⟨b,by rw[he i h]; exact e,aB⟩
 | .dZ i cA j o,v,aa=>by
  simp only[ba.kill]
  split
  ·trivial
  ·rename_i h
   obtain⟨b,c,n,e,aB⟩:=aa;exact⟨b,c,n,by rw[he i h]; exact e,aB⟩
 | .hK b i,v,aa=>by
  simp only[ba.kill]
  split
  ·trivial
  ·rename_i h
   obtain⟨k,e,aB⟩:=aa;exact⟨k,fun ae=>by rw[he i h]; exact e ae,aB⟩
 | .iK i,v,aa=>by
  simp only[ba.kill]
  split
  ·trivial
  ·rename_i h
   obtain⟨b,c,n,e,aB⟩:=aa;exact⟨b,c,n,by rw[he i h]; exact e,aB⟩
 | .iB i s o,v,aa=>by
  simp only[ba.kill]
  split
  ·trivial
  ·rename_i h
   obtain⟨b,c,n,e,aB⟩:=aa;exact⟨b,c,n,by rw[he i h]; exact e,aB⟩
 | .gD i o,v,aa=>by
  simp only[ba.kill]
  split
  ·trivial
  ·rename_i h
   obtain⟨b,c,n,e,aB⟩:=aa;exact⟨b,c,n,by rw[he i h]; exact e,aB⟩
 | .fF _ _ _,_,aa=>aa
 | .par _ _,_,aa=>aa
 | .an i,v,aa=>by
  simp only[ba.kill]
  split
  ·trivial
  ·rename_i h
   obtain⟨A,c,n,e,aB⟩:=aa;exact⟨A,c,n,by rw[he i h]; exact e,aB⟩
 | .bn _ _ _,_,aa=>aa
 | .fn f ids,v,aa=>by
  simp only[ba.kill]
  split
  ·trivial
  ·rename_i h
   obtain⟨vs,aB,aq⟩:=aa;exact⟨vs,aB,e1.kill he h aq⟩
 | .cp i,v,aa=>by
  simp only[ba.kill]
  split
  ·trivial
  ·rename_i h
   obtain⟨b,e,aB⟩:=aa;exact⟨b,by rw[he i h]; exact e,aB⟩
 | .iA f i,v,aa=>by
  simp only[ba.kill]
  split
  ·trivial
  ·rename_i h
   obtain⟨b,e,aB⟩:=aa;exact⟨b,by rw[he i h]; exact e,aB⟩
theorem cd.kill:∀ {c:List ba} {v:List Value},cd env B w c v->cd env' B w (pJ js c) v
 | [],_,aa=>aa
 | _ :: _,_,⟨v,r,e,J,U⟩=>⟨v,r,e,dv.kill he J,cd.kill U⟩
theorem dI.kill:∀ {c:bf} {v:Value},dI env B w c v->dI env' B w (c.kill js) v
 | .c _,_,aa=>dv.kill he aa
 | .agg _,_,⟨vs,e,J⟩=>⟨vs,e,cd.kill he J⟩
 | .arr _ _,_,h=>h
theorem dw.kill:∀ {c:List bf} {v:List Value},dw env B w c v->dw env' B w (te js c) v
 | [],_,aa=>aa
 | _ :: _,_,⟨v,r,e,J,U⟩=>⟨v,r,e,dI.kill he J,dw.kill U⟩
theorem ei.kill:∀ {c:b0} {v:Value},ei env B w c v->ei env' B w (c.kill js) v
 | .a _,_,aa=>dI.kill he aa
 | .may _ _,_,aa=>⟨fun aL=>dI.kill he (aa.1 aL),aa.2⟩
 | .da _,_,⟨vs,e,J⟩=>⟨vs,e,dw.kill he J⟩
theorem ej.kill{k:Nat} (ab:env' k=env k):∀ {b:ct} {c:bb},ej env B w k b c->ej env' B w k (b.kill js) c
 | .cells _ _,_,⟨b,vs,e,aa,J⟩=>⟨b,vs,by rw[ab]; exact e,aa,cd.kill he J⟩
 | .row _ _ _ _,_,⟨A,c,xs,e,aa,J⟩=>⟨A,c,xs,by rw[ab]; exact e,aa,J⟩
 | .hq _ _,_,⟨b,e,aa⟩=>⟨b,by rw[ab]; exact e,aa⟩
 | .mp _ _ _ _,_,⟨b,es,q,e,aa⟩=>⟨b,es,q,by rw[ab]; exact e,aa⟩
 | .it eT _ _ _,_,⟨b,m,e,hm,aa⟩=>by
  simp only[ct.kill]
  split
  ·exact⟨b,_,by rw[ab]; exact e,aa⟩
  ·rename_i h
   exact⟨b,m,by rw[ab]; exact e,by rw[he eT h]; exact hm,aa⟩
 | .gS eT,_,⟨b,m,q,e,hm,aa⟩=>by
  simp only[ct.kill]
  split
  ·exact⟨b,_,by rw[ab]; exact e,aa⟩
  ·rename_i h
   exact⟨b,m,q,by rw[ab]; exact e,by rw[he eT h]; exact hm,aa⟩
 | .jJ,_,⟨b,o,e,aa⟩=>⟨b,o,by rw[ab]; exact e,aa⟩
 | .cC el t g l cap i d,_,⟨A,c,ys,b9,c',m,e,aa,J,hi,U,ah⟩=>by
  simp only[ct.kill]
  split
  ·exact⟨A,c,_,_,_,_,_,by rw[ab]; exact e,aa⟩
  ·rename_i h
   exact⟨A,c,ys,b9,c',m,by rw[ab]; exact e,aa,J,hi,by rw[he d h]; exact U,ah⟩
 | .kb,_,⟨A,c,n,t,s,m,xs,e,aa⟩=>⟨A,c,n,t,s,m,xs,by rw[ab]; exact e,aa⟩
 | .fk _ _ _,_,⟨A,c,e,J⟩=>⟨A,c,by rw[ab]; exact e,J⟩
 | .b5 _ _ _ _ _ none,_,⟨A,q,ys,cT,I,e,aa,J,U,ah⟩=>⟨A,q,ys,cT,I,by rw[ab]; exact e,aa,J,U,ah⟩
 | .b5 _ _ _ _ _ (some (i,none)),_,⟨A,q,ys,cT,I,e,aa,J,⟨U,v,au,_⟩,ah⟩=>⟨A,q,ys,cT,I,by rw[ab]; exact e,aa,J,⟨U,v,au,fun _ h=>by cases h⟩,ah⟩
 | .b5 _ _ _ _ _ (some (i,some d)),_,⟨A,q,ys,cT,I,e,aa,J,⟨U,v,au,aF⟩,ah⟩=>by
  simp only[ct.kill]
  split
  ·exact⟨A,q,ys,cT,I,by rw[ab]; exact e,aa,J,⟨U,v,au,fun _ h=>by cases h⟩,ah⟩
  ·rename_i h
   exact⟨A,q,ys,cT,I,by rw[ab]; exact e,aa,J,⟨U,v,au,fun fG av=>by cases av; rw[he d h]; exact aF d rfl⟩,ah⟩
omit he in
theorem E9:∀ {l:cL} {s:Nat} {v:b0},aU (qD js l) s=some v->∃ u,aU l s=some u/\v=u.kill js
 | [],_,_,h=>by cases h
 | (k,u) :: l,s,v,h=>by
  unfold qD at h;rw[cl]at h ⊢
  split at h
  ·rename_i e
   cases h;rw[if_pos e];exact⟨u,rfl,rfl⟩
  ·rename_i e
   rw[if_neg e];exact E9 h
omit he in
theorem bu.append:∀ {h aO:bx} {H H':List bb},bu env B w h H->bu env B w aO H'->bu env B w (h++aO) (H++H')
 | [],_,_,_,J,U=>by rw[show _=[] from J]; exact U
 | _ :: _,_,_,_,⟨c,H',e,J,U⟩,ah=>⟨c,_,by rw[e]; rfl,J,bu.append U ah⟩
end
section
variable {env env' env'':Nat->Loc} {B:Nat->Prop} {w:World} {ps:eg} {js ks:List Nat}
def rU(js:List Nat):bx->Bool
 | []=>true
 | (k,_) :: r=>!js.elem k&&rU js r
theorem bu.frame(he:∀ j,ks.elem j=false->env' j=env j) (ab:∀ k,js.elem k=false->env' k=env k):∀ {l:bx} {H:List bb},bu env B w l H->∃ H',H'.Sublist H/\bu env' B w (iP js ks l) H'/\(rU js l=true->H'=H)
 | [],_,cn=>⟨[],by rw[show _=[] from cn]; exact List.Sublist.refl _,rfl,fun _=>(show _=[] from cn).symm⟩
 | (k,b) :: l,_,⟨c,H',e,J,U⟩=>by
  obtain⟨H2,ak,ah,au⟩:=bu.frame he ab U;subst e;unfold iP
  split
  ·rename_i h
   exact⟨H2,ak.cons _,ah,fun e=>by unfold rU at e; rw[h]at e; cases e⟩
  ·rename_i h
   exact⟨c :: H2,ak.cons_cons _,⟨c,H2,rfl,ej.kill he (ab k h) J,ah⟩,fun e=>by unfold rU at e; rw[Bool.and_eq_true]at e; rw[au e.2]⟩
end
def n4(X:br) (L:cL):List Operand->Option (Bool×List bf)
 | []=>some (true,[])
 | u :: r=>match bm X L u,n4 X L r with
  | some (g,x),some (c,l)=>some (g&&c,x :: l)
  | _,_=>none
theorem xS{X:br} {R:Nat->Prop} {W:World} {aG:eX} {n:Nat} {ks:List Nat} {env:Nat->Loc} {B:Nat->Prop} {ai:World} {H:List bb} {st:aM} {a:Act} {w:World} (h:bH X R W aG n ks env B ai H st a w) :
  ∀ {us:List Operand} {c:Bool} {xs:List bf},n4 X st.L us=some (c,xs)->c=true->∃ vs,iz (gl a) us=some vs/\dw env B ai xs vs
 | [],c,xs,hu,_=>by cases hu; exact⟨[],rfl,rfl⟩
 | u :: us,c,xs,hu,aa=>by
  simp only[n4]at hu
  split at hu
  ·rename_i g x c' l J U
   cases hu;simp only[Bool.and_eq_true]at aa;obtain⟨v,ah,au⟩:=h.aD J aa.1;obtain⟨vs,aF,aY⟩:=xS h U aa.2;refine⟨v :: vs,?_,v,vs,rfl,au,aY⟩;unfold iz;rw[ah,aF]
  ·cases hu
theorem bH.called{X:br} {R:Nat->Prop} {W:World} {aG:eX} {n d:Nat} {ks:List Nat} {env:Nat->Loc} {B:Nat->Prop} {ai:World} {H:List bb} {st:aM} {a aS:Act} {w w':World} {ps:eg} {h H1:bx} {Q:b0->bx->Prop} {v:Value} (ag:bH X R W aG n ks env B ai H st a w)
  (jL:Ba n ps=true) {fO n5:List bb} (oU:H.Perm (fO++n5)) (Bd:bu (fun i=>match aU ps i with | some j=>env j | none=>.no) B ai h fO) (Ui:bu env B ai H1 n5)
  (qE:vo X (fun i=>match aU ps i with | some j=>env j | none=>.no) B fO w Q v w') (aI:cW n (jK ks aG) ((d,v) :: gl a) aS) :
  ∃ sv aO,Q sv aO/\∀ k2 nw,sv.dJ ps=some k2->td ps aO=some nw->∃ env' B' cD H',bH X R W aG n ks env' B' cD H' ⟨(d,k2) :: qD (k1 h ps) st.L,nw++iP (k1 h ps) (k1 h ps) H1⟩ aS w'/\(∀ k,B k->B' k)/\c6 (fun k=>R k\/B k) ai cD/\(rU (k1 h ps) H1=true->∀ c∈n5,c∈H'):=by
 obtain⟨env',B',cD,H',sv,aO,rV,gF,fN,k3,Uj,Uk,dN,xT⟩:=qE;refine⟨sv,aO,rV,fun k2 nw Fa cn=>?_⟩;simp only[Ba,Bool.and_eq_true]at jL;obtain⟨⟨Ul,Fb⟩,Um⟩:=jL;have aA:=xQ Ul;have h8:=xQ Fb;have ak:bF (fun k=>R k\/B k) ai (fO++(n5++ks.map c3)) w:=by
  have:=ag.aJ.perm (oU.append_right (ks.map c3))
  rw[List.append_assoc]at this;exact this
 have jO:=List.pairwise_append.1 ak.apart;have ic:∀ k,R k\/B k->gh w fO k:=fun k ab=>⟨ak.base k ab,fun c aa e=>((ak.ok c (List.mem_append_left _ aa)).lt e).1 ab⟩
 have Fc:∀ c∈n5++ks.map c3,∀ b,c.has b->gh w fO b/\¬ (R b\/B b):=fun c aa b ae=>by
  have J:=(ak.ok c (List.mem_append_right _ aa)).lt ae;exact⟨⟨J.2,fun c' er e=>jO.2.2 c' er c aa b e ae⟩,J.1⟩
 have k4:∀ k,gh w fO k->w'.heap[k]?=w.heap[k]?:=fun k ab=>(dN.below.block k (.inl ab)).trans (k3.block k ab)
 have c8:ft B ai B' cD:=⟨gF,fun k ab=>(k3.block k (ic k (.inr ab))).trans (ak.below.block k (.inr ab))⟩
 let aW:Nat->Loc:=fun j=>match inv ps j with | some i=>env' i | none=>env j
 have lE:∀ i j,aU ps i=some j->aW j=env' i:=fun i j mO=>by
  show(match inv ps j with | some i=>env' i | none=>env j)=_;rw[LU h8 (vr mO)]
 have Un:∀ {l:bx} {C:List bb} {tf:Nat->Loc} {bW:Nat->Prop} {xU:World} {i:Nat} {t:TypeId} {cs:List ba},bu tf bW xU l C->aU l i=some (.cells t cs)->∃ b,tf i=.blk b:=by
  intro l C tf bW xU i t cs ad hi;obtain⟨c,K,⟨b,vs,J,_⟩,_⟩:=ad.fE hi;exact⟨b,J⟩
 have Uo:∀ {l:bx} {C:List bb} {tf:Nat->Loc} {bW:Nat->Prop} {xU:World} {i:Nat} {gk aZ:aQ} {q:List (gk.D×aZ.D)} {o:Option (List MapEntry×Nat)},bu tf bW xU l C->aU l i=some (.mp gk aZ q o)->∃ b,tf i=.blk b:=by
  intro l C tf bW xU i gk aZ q o ad hi;obtain⟨c,K,⟨b,_,_,J,_⟩,_⟩:=ad.fE hi;exact⟨b,J⟩
 have k5:∀ j,(k1 h ps).elem j=false->aW j=env j:=fun j aR=>by
  show(match inv ps j with | some i=>env' i | none=>env j)=_;cases hi:inv ps j with
  | none=>rfl
  | some i=>
   have hm:=Bc hi;have lz:=E8 hm aR;have mO:=xR aA hm;unfold A8 at lz
   split at lz
   ·rename_i ae
    show env' i=env j;exact xT i (env j) (.inr (Nat.le_of_ble_eq_true ae)) (by simp only[mO])
   ·rename_i t cs ae ad _
    obtain⟨b,ho⟩:=Un Bd ad;have J:=xT i (.blk b) (.inl ⟨Nat.le_of_ble_eq_true ae,b,rfl⟩) ho;rw[mO]at ho;show env' i=env j;rw[J];exact ho.symm
   ·rename_i gk aZ q o ae ad _
    obtain⟨b,ho⟩:=Uo Bd ad;have J:=xT i (.blk b) (.inl ⟨Nat.le_of_ble_eq_true ae,b,rfl⟩) ho;rw[mO]at ho;show env' i=env j;rw[J];exact ho.symm
   ·cases lz
 have vt:∀ k,(kg ps).elem k=false->aW k=env k:=fun k ab=>by
  show(match inv ps k with | some i=>env' i | none=>env k)=_;cases hi:inv ps k with
  | none=>rfl
  | some i=>
   have:=Bb (Bc hi)
   simp only[List.elem_eq_mem,decide_eq_false_iff_not]at ab;exact absurd this ab
 obtain⟨rW,vb,Up,Uq⟩:=bu.frame (js:=k1 h ps) (ks:=k1 h ps) k5 k5 (Ui.up c8);have jy:c6 (fun k=>R k\/B k) ai cD:=⟨k3.os.trans ak.below.os,k3.tape.trans ak.below.tape,k3.output.trans ak.below.output,Nat.le_trans ak.below.size k3.size,fun k ab=>(k3.block k (ic k ab)).trans (ak.below.block k ab)⟩
 refine⟨aW,B',cD,H'++rW,⟨aI.size,aI.defs,fun s u hu=>?_,(bu.dJ lE cn Uk).append Up,?_,fun k ab=>gF k (ag.sub k ab),fun k ab=>?_,fun id b ae=>?_,?_,fun i x aj=>(ag.dQ i x aj).up c8⟩,gF,jy,fun e c aa=>List.mem_append_right _ (by rw[Uq e]; exact aa)⟩
 ·rw[cl]at hu
  split at hu
  ·rename_i e; subst e; cases hu; exact⟨v,aI.this,ei.dJ lE Fa Uj⟩
  ·rename_i e
   obtain⟨hz,hA,rfl⟩:=E9 hu;obtain⟨eF,ah,au⟩:=ag.has s hz hA;exact⟨eF,aI.other e ah,ei.kill k5 (au.up c8)⟩
 ·have qF:(rW++ks.map c3).Sublist (n5++ks.map c3):=vb.append_right _
  rw[List.append_assoc];refine⟨⟨dN.below.os,dN.below.tape,dN.below.output,dN.below.size,fun k ab=>dN.below.block k (ab.imp (fun h=>ic k (.inl h)) id)⟩,fun k ab=>dN.base k (ab.imp (fun h=>ic k (.inl h)) id),fun c aa=>?_,List.pairwise_append.2 ⟨dN.apart,jO.2.1.sublist qF,fun c aa d av b ae dm=>?_⟩⟩
  ·rcases List.mem_append.1 aa with aa | aa
   ·exact(dN.ok c aa).base fun b ae ab=>((dN.ok c aa).lt ae).1 (ab.imp (fun h=>ic b (.inl h)) id)
   ·have er:=qF.subset aa
    have fP:=ak.ok c (List.mem_append_right _ er);refine(fP.dP (w':=w') fun b ae=>k4 b (Fc c er b ae).1).base fun b ae ab=>?_
    obtain⟨aF,aY⟩:=Fc c er b ae
    rcases ab with ab | ab
    ·exact aY (.inl ab)
    ·rcases fN b ab with bK | bK
     ·exact aY (.inr bK)
     ·exact bK.1 aF
  ·exact((dN.ok c aa).lt ae).1 (.inl (Fc d (qF.subset av) b dm).1)
 ·rcases fN k ab with aF | aF
  ·exact(ag.new k aF).imp_right fun aO=>⟨aO.1,aO.2.dP ((k3.block k (ic k (.inr aF))).trans (ak.below.block k (.inr aF)))⟩
  ·exact .inr ⟨fun dT=>aF.1 (ic k (.inl dT)),aF.2⟩
 ·obtain⟨aF,aY,c7⟩:=ag.df id b ae
  refine⟨aF,?_,c7⟩;show(match inv ps id with | some i=>env' i | none=>env id)=_;cases hi:inv ps id with
  | none=>exact aY
  | some i=>
   have hm:=Bc hi;have mO:=xR aA hm
   rcases LV Um hm with bK | ⟨bK,hN⟩ | bK
   ·exact xT i b (.inr bK) (by simp only[mO]; exact aY)
   ·rcases c7 with c7 | c7
    ·exact xT i b (.inl ⟨bK,c7⟩) (by simp only[mO]; exact aY)
    ·omega
   ·omega
 ·exact ag.base.trans ⟨k3.os.trans ak.below.os,k3.tape.trans ak.below.tape,k3.output.trans ak.below.output,Nat.le_trans ak.below.size k3.size,fun k ab=>(k3.block k (ic k (.inl ab))).trans (ak.below.block k (.inl ab))⟩
section
variable {X:br} {M:Bool} {n:Nat} {r:Option Nat} {st:aM} {Q:Exit->aM->Prop} {ops rest:List Oper} {o:Oper} {d:Nat}
end
end
section
def oV:List e6->List bf
 | []=>[]
 | .id i :: r=>.c (.ptr i 0) :: oV r
 | .eS g x :: r=>.c (.fF g x 0) :: oV r
section
variable {X:br} {M:Bool} {n:Nat} {r:Option Nat} {st:aM} {Q:Exit->aM->Prop} {ops rest:List Oper} {o:Oper} {d:Nat}
theorem Be{env:Nat->Loc} {B:Nat->Prop} {w:World}:∀ {ids:List e6} {vs:List Value},e1 env B w ids vs->dw env B w (oV ids) vs
 | [],_,h=>h
 | .id _ :: ids,_,⟨v,r,e,J,h⟩=>⟨v,r,e,J,Be h⟩
 | .eS _ _ :: ids,_,⟨v,r,e,⟨b,o,J,U⟩,h⟩=>⟨v,r,e,⟨b,o,by rw[J]; rfl,U⟩,Be h⟩
theorem dw.append{env:Nat->Loc} {B:Nat->Prop} {w:World}:∀ {xs ys:List bf} {vs us:List Value},dw env B w xs vs->dw env B w ys us->dw env B w (xs++ys) (vs++us)
 | [],_,_,_,h,aO=>by rw[show _=[] from h]; exact aO
 | _ :: _,_,_,_,⟨v,r,e,J,U⟩,aO=>⟨v,_,by rw[e]; rfl,J,dw.append U aO⟩
theorem Ur:∀ L:cL,qD [] L=L:=by
 have J:∀ c:ba,c.kill []=c:=by
  have aN:∀ ids:List e6,oS [] ids=false:=by
   intro ids
   induction ids with
   | nil=>rfl
   | cons i r bA=>cases i<;>simp[oS,bA]
  intro c;cases c with
  | fn f ids=>simp only[ba.kill,aN]
  | _=>rfl
 have U:∀ cs:List ba,pJ [] cs=cs:=by
  intro cs
  induction cs with
  | nil=>rfl
  | cons c r bA=>simp only[pJ,J,bA]
 have ah:∀ x:bf,x.kill []=x:=by
  intro x;cases x with
  | c x=>simp only[bf.kill,J]
  | agg cs=>simp only[bf.kill,U]
  | arr g l=>rfl
 have au:∀ xs:List bf,te [] xs=xs:=by
  intro xs
  induction xs with
  | nil=>rfl
  | cons c r bA=>simp only[te,ah,bA]
 have aF:∀ x:b0,x.kill []=x:=by
  intro x;cases x with
  | a x=>simp only[b0.kill,ah]
  | may g x=>simp only[b0.kill,ah]
  | da xs=>simp only[b0.kill,au]
 intro L
 induction L with
 | nil=>rfl
 | cons p r bA=>obtain⟨k,v⟩:=p; simp only[qD,aF,bA]
theorem Us:∀ H:bx,iP [] [] H=H:=by
 have J:∀ c:ba,c.kill []=c:=by
  have aN:∀ ids:List e6,oS [] ids=false:=by
   intro ids
   induction ids with
   | nil=>rfl
   | cons i r bA=>cases i<;>simp[oS,bA]
  intro c;cases c with
  | fn f ids=>simp only[ba.kill,aN]
  | _=>rfl
 have U:∀ cs:List ba,pJ [] cs=cs:=by
  intro cs
  induction cs with
  | nil=>rfl
  | cons c r bA=>simp only[pJ,J,bA]
 intro H
 induction H with
 | nil=>rfl
 | cons p r bA=>
  obtain⟨k,b⟩:=p;cases b with
  | cells t cs=>simp[iP,ct.kill,U,bA]
  | row t g l c=>simp[iP,ct.kill,bA]
  | hq s p=>simp[iP,ct.kill,bA]
  | mp gk aZ l o=>simp[iP,ct.kill,bA]
  | it eT es k ps=>simp[iP,ct.kill,bA]
  | gS eT=>simp[iP,ct.kill,bA]
  | jJ=>simp[iP,ct.kill,bA]
  | cC el t g l c i d=>simp[iP,ct.kill,bA]
  | kb=>simp[iP,ct.kill,bA]
  | fk t g l=>simp[iP,ct.kill,bA]
  | b5 t bQ g l c h=>rcases h with _ | ⟨i,_ | d⟩<;>simp[iP,ct.kill,bA]
end
end
section
section
variable {P:Program} {ops:Array Oper} {Q:Exit->Act->World->Prop} {S:Nat->Array Bool->World->Prop}
def fQ(P:Program) (ops:Array Oper) (Q:Exit->Act->World->Prop) (S:Nat->Array Bool->World->Prop):Nat->Array Bool->Act->World->Prop
 | 0,listed,a,w=>Region.ready .any ops listed=[]/\Q .normal a w
 | fuel+1,listed,a,w=>(Region.ready .any ops listed=[]->Q .normal a w)/\∀ i∈Region.ready .any ops listed,∃ o,ops[i]?=some o/\eR P ops o (fun aS w'=>S i listed w'/\fQ P ops Q S fuel (listed.setIfInBounds i true) aS w') a w
theorem xm.mono{o:Oper} {a:Act} {w:World} {K xW:Value->World->Prop} (h:xm P o a w K) (ab:∀ v w,K v w->xW v w):xm P o a w xW:=by
 rcases h with⟨v,w',J,U⟩ | ⟨w',J,U⟩ | ⟨f,args,bZ,J,U⟩
 ·exact .inl ⟨v,w',J,ab _ _ U⟩
 ·exact .inr (.inl ⟨w',J,ab _ _ U⟩)
 ·exact .inr (.inr ⟨f,args,bZ,J,Calls.mono U fun e w' ⟨v,he,aB⟩=>⟨v,he,ab _ _ aB⟩⟩)
theorem eR.mono{o:Oper} {a:Act} {w:World} {K xW:Act->World->Prop} (h:eR P ops o K a w) (ab:∀ a w,K a w->xW a w):eR P ops o xW a w:=by
 rcases h with⟨J,U⟩ | ⟨J,U⟩
 ·exact .inl ⟨J,U.mono fun _ _=>ab _ _⟩
 ·exact .inr ⟨J,ab _ _ U⟩
theorem fQ.any(r:Option Nat):∀ (fuel:Nat) (listed:Array Bool) (a:Act) (w:World),fQ P ops Q S fuel listed a w->wpAnyIn (WF r) 0 P .any ops Q fuel listed a w
 | 0,_,_,_,h=>h
 | fuel+1,_,_,_,h=>⟨h.1,fun i hi=>by
  obtain⟨o,a6,aj⟩:=h.2 i hi;unfold wpOpIn;simp only[a6];exact eR.fenced (aj.mono fun aS w' aO=>fQ.any r fuel _ aS w' aO.2)⟩
theorem eR.LW{T:World->Prop} {gy ev:Oper} {v:Value} (j8:gy.apart ops ev=true) (Ut:∀ cs b,gy.op≠.select cs b) (rR:∀ cs b,ev.op≠.select cs b) {K:Act->World->Prop} {a:Act} {w:World} (aT:YieldsIf P ops T gy v a) (h:eR P ops ev K (a.put gy.dst v) w) :
  eR P ops ev (fun aS w'=>YieldsIf P ops T gy v aS/\K (aS.put gy.dst v) w') a w:=by
 obtain⟨J,U,ah⟩:=Oper.apart_spec j8;have dP:∀ u,YieldsIf P ops T gy v (a.put ev.dst u):=fun u=>aT.of_same (execOp_put gy Ut a ev.dst u ah) (wanted_put gy a ev.dst u ah)
 have LX:=wanted_put ev a gy.dst v J;have dr:=execOp_put ev rR a gy.dst v J;have vu:∀ u,(a.put ev.dst u).put gy.dst v=(a.put gy.dst v).put ev.dst u:=fun u=>(Act.put_comm a v u U).symm
 rcases h with⟨hw,h⟩ | ⟨hw,h⟩
 ·refine .inl ⟨by rw[<- LX]; exact hw,?_⟩
  unfold xm at h ⊢;rw[dr]at h
  rcases h with⟨u,w',g1,g2⟩ | ⟨w',g1,g2⟩ | ⟨f,args,bZ,g1,g2⟩
  ·exact .inl ⟨u,w',g1,dP u,by rw[vu]; exact g2⟩
  ·exact .inr (.inl ⟨w',g1,dP _,by rw[vu]; exact g2⟩)
  ·exact .inr (.inr ⟨f,args,bZ,g1,Calls.mono g2 fun e w' ⟨u,he,hu⟩=>⟨u,he,dP u,by rw[vu]; exact hu⟩⟩)
 ·exact .inr ⟨by rw[<- LX]; exact hw,dP _,by rw[vu]; exact h⟩
theorem Bf{T:World->Prop} {o:Oper} {v:Value} {a:Act} (aT:YieldsIf P ops T o v a) {K:Act->World->Prop} {w:World} (bE:T w) (h:K (a.put o.dst v) w):eR P ops o K a w:=by
 rcases aT with⟨hw,aB⟩ | ⟨hw,rfl⟩
 ·exact .inl ⟨hw,.inl ⟨v,w,aB w bE,h⟩⟩
 ·exact .inr ⟨hw,h⟩
def Fe(ops:Array Oper) (i:Nat) (D:List Nat) (j:Nat):Prop:=∃ ev e,ops[j]?=some ev/\e∈ev.after/\Region.binds .any e=true/\(e.on=i\/e.on∈D)
theorem fQ.first{i:Nat} {gy:Oper} {v:Value} {T:World->Prop} (hi:ops[i]?=some gy) (xX:∀ (j:Nat) (o:Oper) cs b,ops[j]?=some o->o.op≠.select cs b) (D:List Nat) (Uu:∀ j∈D,Fe ops i D j) (xY:∀ j l w,S j (l.setIfInBounds i true) w->S j l w):∀ (fuel:Nat) (listed:Array Bool) (a:Act) (w:World),
   (∀ j∈D,listed.getD j true=false)->(∀ j ev,ops[j]?=some ev->j≠i->listed.getD j true=false->(∀ e∈ev.after,Region.binds .any e=true->e.on≠i)->gy.apart ops ev=true/\(j∈D\/∀ l w,(∀ d∈D,l.getD d true=false)->S j l w->T w)) ->
   i∈Region.ready .any ops listed->YieldsIf P ops T gy v a->T w ->
   fQ P ops Q S fuel (listed.setIfInBounds i true) (a.put gy.dst v) w->(∀ l w',T w'->S i l w')->fQ P ops Q S (fuel+1) listed a w:=by
 intro fuel
 induction fuel with
 | zero=>
  intro listed a w _ _ az aT bE H Bg;refine⟨fun h=>(by rw[h]at az; cases az),fun j aR=>?_⟩
  by_cases gX:j=i
  ·subst gX; exact⟨gy,hi,Bf aT bE ⟨Bg _ w bE,H⟩⟩
  ·have:=ready_mono aR gX
   rw[H.1]at this;cases this
 | succ fuel bA=>
  intro listed a w tg nx az aT bE H Bg;refine⟨fun h=>(by rw[h]at az; cases az),fun j aR=>?_⟩
  by_cases gX:j=i
  ·subst gX; exact⟨gy,hi,Bf aT bE ⟨Bg _ w bE,H⟩⟩
  ·obtain⟨Ff,Fg,ds⟩:=H.2 j (ready_mono aR gX)
   obtain⟨kE,ev,hP,lC⟩:=mem_ready.1 aR;have Fh:Ff=ev:=Option.some.inj (Fg.symm.trans hP);rw[Fh]at ds;have Bh:∀ e∈ev.after,Region.binds .any e=true->e.on≠i:=fun e he ae heq=>by
    have cV:=lC e he ae;have ny:=(mem_ready.1 az).1;rw[heq]at cV
    rcases Nat.lt_or_ge i listed.size with aO | aO
    ·simp[aO]at ny cV; rw[ny]at cV; cases cV
    ·simp[Array.getElem?_eq_none aO]at cV
   have LY:j ∉ D:=fun Uv=>by
    obtain⟨ok,e,ab,he,ae,xZ⟩:=Uu j Uv
    have:ok=ev:=Option.some.inj (ab.symm.trans hP)
    subst this;have cV:=lC e he ae
    rcases xZ with xZ | xZ
    ·exact Bh e he ae xZ
    ·have ny:=tg _ xZ
     rcases Nat.lt_or_ge e.on listed.size with aO | aO
     ·simp[aO]at ny cV; rw[ny]at cV; cases cV
     ·simp[Array.getElem?_eq_none aO]at cV
   obtain⟨j8,Fi⟩:=nx j ev hP gX kE Bh;have kh:=eR.LW j8 (fun cs b=>xX i gy cs b hi) (fun cs b=>xX j ev cs b hP) aT ds;refine⟨ev,hP,kh.mono fun aS w' au=>⟨xY j listed w' au.2.1,?_⟩⟩;have Uw:=(Fi.resolve_left LY) listed w' tg (xY j listed w' au.2.1);refine bA (listed.setIfInBounds j true) aS w' (fun k ab=>?_) (fun k ok ab nz x0 gn=>?_) (ready_mono az (Ne.symm gX)) au.1 Uw ?_ Bg
   ·rw[getD_set_ne true (fun e=>LY (by rw[e]; exact ab))]
    exact tg k ab
   ·refine nx k ok ab nz ?_ gn
    by_cases th:j=k
    ·subst th; exact kE
    ·rw[getD_set_ne true th]at x0; exact x0
   ·rw[Array.setIfInBounds_comm _ _ gX]
    exact au.2.2
end
def vw:Op->Bool
 | .move _=>true
 | .assign _=>true
 | .pick _ _ _=>true
 | .unOp _ _ _=>true
 | .binOp _ _ _ _ _=>true
 | .load _ _=>true
 | .fieldAddr _ _ _=>true
 | .indexAddr _ _ _=>true
 | .slice _ _ _ _ _=>true
 | .convert _ _ _=>true
 | .build _ _=>true
 | .makeFunc _ _ _=>true
 | .nilCheck _=>true
 | .extract _ _=>true
 | .call ⟨.builtin .len,_,_⟩=>true
 | .call ⟨.builtin .cap,_,_⟩=>true
 | .call ⟨.builtin .min,_,_⟩=>true
 | .call ⟨.builtin .max,_,_⟩=>true
 | _=>false
def vz(ops:Array Oper) (i:Nat) (D:List Nat) (j:Nat):Bool:=match ops[j]? with
 | some o=>o.after.any fun e=>Region.binds .any e&&(e.on == i || D.elem e.on)
 | none=>false
def xV(ops:Array Oper) (i:Nat):List Nat:=(List.range ops.size).foldl (fun D j=>match vz ops i D j with
 | true=>j :: D
 | false=>D) []
def lF:Nat:=1000000
def qG(E:List Nat) (listed:Array Bool):Bool:=E.any fun e=>Nat.ble lF e&&listed.getD (e - lF) true
def e3(E:List Nat) (listed:Array Bool) (j:Nat):Bool:=E.elem j&&!qG E listed
def Bi(E D:List Nat):Bool:=E.all fun e=>!Nat.ble lF e || D.elem (e - lF)
def x1(E:List Nat) (i:Nat):Bool:=!E.elem (i+lF)
theorem LZ{E:List Nat} {l:Array Bool} {j:Nat} (h:e3 E l j=true):E.elem j=true:=by
 unfold e3 at h;rw[Bool.and_eq_true]at h;exact h.1
theorem Fj{E:List Nat} {l:Array Bool} {i j:Nat} (hi:x1 E i=true) (h:e3 E l j=true):e3 E (l.setIfInBounds i true) j=true:=by
 unfold e3 qG at h ⊢;rw[Bool.and_eq_true]at h ⊢;refine⟨h.1,?_⟩;have U:=h.2;rw[Bool.not_eq_true',List.any_eq_false]at U ⊢;intro e he;have ah:=U e he
 by_cases ae:Nat.ble lF e=true
 ·rw[ae,Bool.true_and]at ah ⊢
  have cu:i≠e - lF:=fun cn=>by
   have hle:=Nat.le_of_ble_eq_true ae
   have:i+lF=e:=by omega
   unfold x1 at hi;rw[this,List.elem_eq_true_of_mem he]at hi;cases hi
  rwa [getD_set_ne true cu]
 ·rw[(by simpa only[Bool.not_eq_true] using ae:Nat.ble lF e=false),Bool.false_and]
  simp
theorem Ux{E D:List Nat} {l:Array Bool} {j:Nat} (ae:Bi E D=true) (dD:∀ d∈D,l.getD d true=false) (aR:E.elem j=true):e3 E l j=true:=by
 unfold e3 qG;rw[aR,Bool.true_and,Bool.not_eq_true',List.any_eq_false];intro e he;unfold Bi at ae;rw[List.all_eq_true]at ae;have J:=ae e he;rw[Bool.or_eq_true,Bool.not_eq_true']at J
 rcases J with J | J
 ·rw[J]; simp
 ·rw[dD _ (by simpa using J)]; simp
def x2(ops:Array Oper) (E D:List Nat) (listed:Array Bool) (i:Nat):Bool:=
 (D.all fun j=>!listed.getD j true&&vz ops i D j)&&(List.range ops.size).all (fun j=>j == i || listed.getD j true || E.elem j || D.elem j)&&Bi E D
theorem L0{ops:Array Oper} {i j:Nat} {D:List Nat} (h:vz ops i D j=true):Fe ops i D j:=by
 unfold vz at h
 split at h
 ·rename_i o a6
  simp only[Array.any_eq_true]at h;obtain⟨k,ab,U⟩:=h;simp only[Bool.and_eq_true,Bool.or_eq_true,beq_iff_eq,List.elem_eq_mem,decide_eq_true_eq]at U;exact⟨o,_,a6,Array.getElem_mem ab,U.1,U.2⟩
 ·cases h
def pK(ops:Array Oper) (E:List Nat) (listed:Array Bool) (i:Nat):Bool:=x1 E i&&Region.noSelect ops&&Region.free .any ops listed i&&(Region.ready .any ops listed).contains i
def rX(f:Op->Bool) (ops:Array Oper) (i:Nat):Bool:=match ops[i]? with
 | some o=>f o.op
 | none=>false
def Bj(ops:Array Oper) (E:List Nat) (listed:Array Bool) (pre:Bool) (i:Nat):Bool:=!E.elem i || (pre&&x2 ops E (xV ops i) listed i)
structure hC where
 listed:Array Bool
 early:Bool
 pre:Bool
 jP:Bool
 all:Bool
def mP:bx->bx
 | []=>[]
 | (k,.cells t cs) :: r=>(k,.cells t cs) :: mP r
 | _ :: r=>mP r
def oW(jQ:Bool) (c:bb):Bool:=jQ || iv c
structure k6(R:Nat->Prop) (aE:hC) (db:Nat->Prop) (dF:World) (cM:List bb) (F:World->Prop) (B:Nat->Prop) (ai:World) (H:List bb):Prop where
 early:aE.early=true->db=B/\dF=ai/\cM=H.filter (oW aE.all)
 pre:aE.pre=true->(∀ c∈cM,c∈H/\oW aE.all c=true)/\cM.Pairwise bb.off/\(∀ k,db k->B k)/\c6 (fun k=>R k\/db k) dF ai
 di:aE.jP=true->F=fun w=>c6 (fun k=>R k\/B k) ai w
 oX:∀ w,c6 (fun k=>R k\/B k) ai w->F w
def jb(X:br) (M:Bool) (n:Nat) (ops:List Oper) (E:List Nat) (fuel:Nat) (aE:hC) (st:aM) (Q:Exit->aM->Prop):Prop:=
 ∀ (R:Nat->Prop) (W:World) (aG:eX) (db:Nat->Prop) (dF:World) (cM:List bb) (F:World->Prop) (ks:List Nat) (env:Nat->Loc) (B:Nat->Prop) (ai:World) (H:List bb) (a:Act) (w:World),Et M ks aG->bH X R W aG n ks env B ai H st a w->k6 R aE db dF cM F B ai H ->
  fQ X.P ops.toArray (fun e a w=>e=.normal/\∃ st',Q e st'/\lB X R W aG M n st' a w) (fun j l w=>(e3 E l j=true->bF (fun k=>R k\/db k) dF cM w)/\F w) fuel aE.listed a w
def pL(X:br) (M:Bool) (n:Nat) (ops:List Oper) (E:List Nat) (fuel:Nat) (aE:hC) (st:aM) (Q:Exit->aM->Prop) (i:Nat):Prop:=
 ∀ (R:Nat->Prop) (W:World) (aG:eX) (db:Nat->Prop) (dF:World) (cM:List bb) (F:World->Prop) (ks:List Nat) (env:Nat->Loc) (B:Nat->Prop) (ai:World) (H:List bb) (a:Act) (w:World),Et M ks aG->bH X R W aG n ks env B ai H st a w->k6 R aE db dF cM F B ai H ->
  ∃ o,ops.toArray[i]?=some o/\eR X.P ops.toArray o (fun aS w'=>((e3 E aE.listed i=true->bF (fun k=>R k\/db k) dF cM w')/\F w')/\fQ X.P ops.toArray (fun e a w=>e=.normal/\∃ st',Q e st'/\lB X R W aG M n st' a w) (fun j l w=>(e3 E l j=true->bF (fun k=>R k\/db k) dF cM w)/\F w) fuel (aE.listed.setIfInBounds i true) aS w') a w
theorem k6.T{R:Nat->Prop} {aE:hC} {db:Nat->Prop} {dF:World} {cM:List bb} {F:World->Prop} {X:br} {W:World} {aG:eX} {n:Nat} {ks:List Nat} {env:Nat->Loc} {B:Nat->Prop} {ai:World} {H:List bb} {st:aM} {a:Act} {w:World} (dD:k6 R aE db dF cM F B ai H) (aq:aE.pre=true) (ag:bH X R W aG n ks env B ai H st a w):bF (fun k=>R k\/db k) dF cM w:=by
 obtain⟨J,U,ah,au⟩:=dD.pre aq;have ae:=ag.aJ.below;refine⟨au.trans ⟨ae.os,ae.tape,ae.output,ae.size,fun k ab=>ae.block k (ab.imp id (ah k))⟩,fun k ab=>ag.aJ.base k (ab.imp id (ah k)),fun c aa=>?_,U⟩;have fP:=ag.aJ.ok c (List.mem_append_left _ (J c aa).1);exact fP.base fun b ae ab=>(fP.lt ae).1 (ab.imp id (ah b))
theorem k6.F{R:Nat->Prop} {aE:hC} {db:Nat->Prop} {dF:World} {cM:List bb} {F:World->Prop} {X:br} {W:World} {aG:eX} {n:Nat} {ks:List Nat} {env:Nat->Loc} {B:Nat->Prop} {ai:World} {H:List bb} {st:aM} {a:Act} {w:World} (dD:k6 R aE db dF cM F B ai H) (ag:bH X R W aG n ks env B ai H st a w):F w:=
 dD.oX w ⟨ag.aJ.below.os,ag.aJ.below.tape,ag.aJ.below.output,ag.aJ.below.size,ag.aJ.below.block⟩
theorem bu.gv{env:Nat->Loc} {B:Nat->Prop} {w:World}:∀ {l:bx} {H:List bb},bu env B w l H->bu env B w (mP l) (H.filter iv)
 | [],_,h=>by rw[show _=[] from h]; exact rfl
 | (k,.cells t cs) :: r,_,⟨c,H',e,J,U⟩=>by
  subst e;have aa:iv c=true:=by
   obtain⟨b,vs,_,e,_⟩:=J;rw[e]; rfl
  rw[List.filter_cons_of_pos aa];exact⟨c,_,rfl,J,bu.gv U⟩
 | (k,.row t g l cap) :: r,_,⟨c,H',e,J,U⟩=>by
  subst e;have aa:iv c=false:=J.nr (fun _ _ e=>by cases e);rw[List.filter_cons_of_neg (by rw[aa]; simp)];show bu env B w (mP r) _;exact bu.gv U
 | (k,.hq s p) :: r,_,⟨c,H',e,J,U⟩=>by
  subst e;have aa:iv c=false:=J.nr (fun _ _ e=>by cases e);rw[List.filter_cons_of_neg (by rw[aa]; simp)];show bu env B w (mP r) _;exact bu.gv U
 | (k,.mp gk aZ l o) :: r,_,⟨c,H',e,J,U⟩=>by
  subst e;have aa:iv c=false:=J.nr (fun _ _ e=>by cases e);rw[List.filter_cons_of_neg (by rw[aa]; simp)];show bu env B w (mP r) _;exact bu.gv U
 | (k,.it eT es q ps) :: r,_,⟨c,H',e,J,U⟩=>by
  subst e;have aa:iv c=false:=J.nr (fun _ _ e=>by cases e);rw[List.filter_cons_of_neg (by rw[aa]; simp)];show bu env B w (mP r) _;exact bu.gv U
 | (k,.gS eT) :: r,_,⟨c,H',e,J,U⟩=>by
  subst e;have aa:iv c=false:=J.nr (fun _ _ e=>by cases e);rw[List.filter_cons_of_neg (by rw[aa]; simp)];show bu env B w (mP r) _;exact bu.gv U
 | (k,.jJ) :: r,_,⟨c,H',e,J,U⟩=>by
  subst e;have aa:iv c=false:=J.nr (fun _ _ e=>by cases e);rw[List.filter_cons_of_neg (by rw[aa]; simp)];show bu env B w (mP r) _;exact bu.gv U
 | (k,.cC el t g l cap i d) :: r,_,⟨c,H',e,J,U⟩=>by
  subst e;have aa:iv c=false:=J.nr (fun _ _ e=>by cases e);rw[List.filter_cons_of_neg (by rw[aa]; simp)];show bu env B w (mP r) _;exact bu.gv U
 | (k,.kb) :: r,_,⟨c,H',e,J,U⟩=>by
  subst e;have aa:iv c=false:=J.nr (fun _ _ e=>by cases e);rw[List.filter_cons_of_neg (by rw[aa]; simp)];show bu env B w (mP r) _;exact bu.gv U
 | (k,.fk t g l) :: r,_,⟨c,H',e,J,U⟩=>by
  subst e;have aa:iv c=false:=J.nr (fun _ _ e=>by cases e);rw[List.filter_cons_of_neg (by rw[aa]; simp)];show bu env B w (mP r) _;exact bu.gv U
 | (k,.b5 t bQ g l cap q) :: r,_,⟨c,H',e,J,U⟩=>by
  subst e;have aa:iv c=false:=J.nr (fun _ _ e=>by cases e);rw[List.filter_cons_of_neg (by rw[aa]; simp)];show bu env B w (mP r) _;exact bu.gv U
section
variable {X:br} {M:Bool} {n:Nat} {st st':aM} {Q:Exit->aM->Prop} {ops:List Oper} {E:List Nat} {aE vA:hC} {fuel:Nat}
theorem bH.drew{R:Nat->Prop} {W:World} {aG:eX} {ks:List Nat} {env:Nat->Loc} {B:Nat->Prop} {ai:World} {H:List bb} {a:Act} {w:World} (h:bH X R W aG n ks env B ai H st a w):bH X R W aG n ks env B ai H st a w.drew:=
 ⟨h.size,h.defs,h.has,h.heap,h.aJ.drew,h.sub,h.new,h.df,h.base,h.dQ⟩
theorem Uy{id N:Nat} {r:Option Nat} {jQ:Bool} (E:List Nat) (hm:X.P.follows .mixedOrders=true) (bd:ops.length=N) (h:jb X M n ops E N ⟨Array.replicate N false,true,true,true,jQ⟩ st Q):k0 X M n r (.region id ops.toArray true) st Q:=by
 rintro R W aG a w ⟨ks,env,B,ai,H,bJ,ag⟩;have J:=fQ.any r _ _ _ _ (h R W aG B ai (H.filter (oW jQ)) _ ks env B ai H a w.drew bJ ag.drew ⟨fun _=>⟨rfl,rfl,rfl⟩,fun _=>⟨fun c aa=>List.mem_filter.1 aa,(List.pairwise_append.1 ag.aJ.apart).1.sublist List.filter_sublist,fun _ h=>h,c6.refl _ _⟩,fun _=>rfl,fun _ h=>h⟩);have U:(Code.region id ops.toArray true).wpIn (WF r) 0 X.P (fun e a w=>e=.normal/\∃ st',Q e st'/\lB X R W aG M n st' a w) a w:=wpIn_region_any hm (by simp only[List.size_toArray,bd]; exact J);refine wpIn_mono U ?_;rintro e a w ⟨rfl,st',ah,au⟩;exact⟨st',ah,au⟩
theorem Uz(az:Region.ready .any ops.toArray aE.listed=[]) (h:Q .normal st):jb X M n ops E 0 aE st Q:=fun R W aG db dF cM F ks env B ai H a w bJ ag _=>⟨az,rfl,st,h,ks,env,B,ai,H,bJ,ag⟩
theorem k7{i:Nat} {o:Oper} (h:nth ops i=some o):ops.toArray[i]?=some o:=by simpa using EC h
theorem Fk{R:Nat->Prop} {db:Nat->Prop} {dF:World} {cM:List bb} {F:World->Prop} {vB:Exit->Act->World->Prop} {listed:Array Bool} {fl i:Nat} {o:Oper} {a:Act} {w:World} (rY:Bool) (v:Value) (n6:ops.toArray[i]?=some o) (ae:pK ops.toArray E listed i=true) (fR:E.elem i=true->rY=true) (az:rY=true->x2 ops.toArray E (xV ops.toArray i) listed i=true)
  (aT:YieldsIf X.P ops.toArray (fun w=>(rY=true->bF (fun k=>R k\/db k) dF cM w)/\F w) o v a) (bE:rY=true->bF (fun k=>R k\/db k) dF cM w) (mQ:F w) (Fl:fQ X.P ops.toArray vB (fun j l w=>(e3 E l j=true->bF (fun k=>R k\/db k) dF cM w)/\F w) fl (listed.setIfInBounds i true) (a.put o.dst v) w) :
  fQ X.P ops.toArray vB (fun j l w=>(e3 E l j=true->bF (fun k=>R k\/db k) dF cM w)/\F w) (fl+1) listed a w:=by
 simp only[pK,Bool.and_eq_true]at ae;obtain⟨⟨⟨x3,vC⟩,nx⟩,Fm⟩:=ae;have Bk:∀ {l:Array Bool} {j:Nat},e3 E l j=true->e3 E (l.setIfInBounds i true) j=true:=Fj x3;have ma:∀ D,(rY=true->Bi E D=true)->(∀ j∈D,Fe ops.toArray i D j)->(∀ j∈D,listed.getD j true=false)->(∀ j ev,ops.toArray[j]?=some ev->j≠i->listed.getD j true=false->(∀ e∈ev.after,Region.binds .any e=true->e.on≠i)->j∈D\/(rY=true->E.elem j=true))->fQ X.P ops.toArray vB (fun j l w=>(e3 E l j=true->bF (fun k=>R k\/db k) dF cM w)/\F w) (fl+1) listed a w:=by
  intro D aN J U ah;refine fQ.first (T:=fun w=>(rY=true->bF (fun k=>R k\/db k) dF cM w)/\F w) n6 (Region.noSelect_spec vC) D J (fun j l w aI=>⟨fun he=>aI.1 (Bk he),aI.2⟩) _ _ _ _ U ?_ (by simpa using Fm) aT ⟨bE,mQ⟩ Fl (fun l w' hw=>⟨fun he=>hw.1 (fR (LZ he)),hw.2⟩)
  intro j ev hP gX kE gn;refine⟨Region.free_spec n6 nx j ev hP gX kE gn,?_⟩
  rcases ah j ev hP gX kE gn with au | au
  ·exact .inl au
  ·exact .inr fun l w tg L1=>⟨fun cu=>L1.1 (Ux (aN cu) tg (au cu)),L1.2⟩
 cases a7:rY with
 | false=>exact ma [] (fun h=>by rw[a7]at h; cases h) (fun _ h=>by cases h) (fun _ h=>by cases h) (fun _ _ _ _ _ _=>.inr fun h=>by rw[a7]at h; cases h)
 | true=>
  have pM:=az a7;unfold x2 at pM;rw[Bool.and_eq_true]at pM;obtain⟨pM,vD⟩:=pM;simp only[Bool.and_eq_true,List.all_eq_true,List.mem_range,Bool.not_eq_true']at pM;obtain⟨ho,ia⟩:=pM;refine ma (xV ops.toArray i) (fun _=>vD) (fun j aR=>L0 (ho j aR).2) (fun j aR=>(ho j aR).1) (fun j ev hP gX kE _=>?_)
  have:=ia j (Array.getElem?_eq_some_iff.1 hP).1
  simp only[Bool.or_eq_true,beq_iff_eq]at this
  rcases this with((J | J) | J) | J
  ·exact absurd J gX
  ·rw[kE]at J; cases J
  ·exact .inr fun _=>J
  ·exact .inl (by simpa using J)
theorem L2{listed:Array Bool} {pre:Bool} {i:Nat} (h:Bj ops.toArray E listed pre i=true):(E.elem i=true->x2 ops.toArray E (xV ops.toArray i) listed i=true)/\(E.elem i=true->pre=true):=by
 simp only[Bj,Bool.or_eq_true,Bool.not_eq_true',Bool.and_eq_true]at h
 rcases h with h | h
 ·exact⟨fun e=>(by rw[h]at e; cases e),fun e=>(by rw[h]at e; cases e)⟩
 ·exact⟨fun _=>h.2,fun _=>h.1⟩
theorem k6.kept{R:Nat->Prop} {db:Nat->Prop} {dF:World} {cM:List bb} {F:World->Prop} {B:Nat->Prop} {ai:World} {H H':List bb} (dD:k6 R aE db dF cM F B ai H) (ab:aE.pre=true->∀ c∈H,oW aE.all c=true->c∈H') {l:Array Bool}:k6 R ⟨l,false,aE.pre,aE.jP,aE.all⟩ db dF cM F B ai H':=
 ⟨fun h=>(by cases h),fun h=>by
  obtain⟨J,U,ah,au⟩:=dD.pre h;exact⟨fun c aa=>⟨ab h c (J c aa).1 (J c aa).2,(J c aa).2⟩,U,ah,au⟩,dD.di,dD.oX⟩
theorem k6.lost{R:Nat->Prop} {db:Nat->Prop} {dF:World} {cM:List bb} {F:World->Prop} {B:Nat->Prop} {ai:World} {H H':List bb} (dD:k6 R aE db dF cM F B ai H) {l:Array Bool}:k6 R ⟨l,false,false,aE.jP,aE.all⟩ db dF cM F B ai H':=
 ⟨fun h=>(by cases h),fun h=>(by cases h),dD.di,dD.oX⟩
theorem L3(ar:X.tt.ok X.P) {i:Nat} {o:Oper} {c:Bool} {l':Array Bool} (hi:nth ops i=some o) (fR:e3 E aE.listed i=false) (ak:n3 X n (et ops) st o=.ok c st') (aa:c=true) (ad:aE.listed.setIfInBounds i true=l') (h:jb X M n ops E fuel ⟨l',false,false,aE.jP,aE.all⟩ st' Q):pL X M n ops E fuel aE st Q i:=by
 intro R W aG db dF cM F ks env B ai H a w bJ ag dD;refine⟨o,k7 hi,A5 ar ak aa ag fun aS w' env' H' Bl cf=>?_⟩;have ga:=dD.lost (H':=H') (l:=l');rw[ad];exact⟨⟨fun he=>(by rw[fR]at he; cases he),ga.F cf⟩,h R W aG db dF cM F ks env' B ai H' aS w' bJ cf ga⟩
theorem L4(ar:X.tt.ok X.P) {i:Nat} {o:Oper} {c:Bool} {l':Array Bool} (hi:nth ops i=some o) (ab:(aE.pre&&AZ o.op&&pG o st.H&&!aE.all)=true) (ak:n3 X n (et ops) st o=.ok c st') (aa:c=true) (ad:aE.listed.setIfInBounds i true=l') (h:jb X M n ops E fuel ⟨l',false,true,aE.jP,aE.all⟩ st' Q):pL X M n ops E fuel aE st Q i:=by
 intro R W aG db dF cM F ks env B ai H a w bJ ag dD;simp only[Bool.and_eq_true]at ab;refine⟨o,k7 hi,A5 ar ak aa ag fun aS w' env' H' Bl cf=>?_⟩;have ie:aE.all=false:=by simpa using ab.2
 have ga:=dD.kept (H':=H') (l:=l') (fun _=>by rw[ie]; exact Bl.dP ab.1.1.2 ab.1.2);rw[ad];refine⟨⟨fun he=>ga.T ab.1.1.1 cf,ga.F cf⟩,h R W aG db dF cM F ks env' B ai H' aS w' bJ cf ?_⟩;rw[ab.1.1.1]at ga;exact ga
theorem L5(ar:X.tt.ok X.P) {i:Nat} {o:Oper} {c:Bool} {l':Array Bool} (hi:nth ops i=some o) (ab:(aE.pre&&vh o.op&&rL o st.H)=true) (ak:n3 X n (et ops) st o=.ok c st') (aa:c=true) (ad:aE.listed.setIfInBounds i true=l') (h:jb X M n ops E fuel ⟨l',false,true,aE.jP,aE.all⟩ st' Q):pL X M n ops E fuel aE st Q i:=by
 intro R W aG db dF cM F ks env B ai H a w bJ ag dD;simp only[Bool.and_eq_true]at ab;refine⟨o,k7 hi,A5 ar ak aa ag fun aS w' env' H' Bl cf=>?_⟩;have ga:=dD.kept (H':=H') (l:=l') (fun _ c aa _=>Bl.all ab.1.2 ab.2 c aa);rw[ad];refine⟨⟨fun he=>ga.T ab.1.1 cf,ga.F cf⟩,h R W aG db dF cM F ks env' B ai H' aS w' bJ cf ?_⟩;rw[ab.1.1]at ga;exact ga
def Bm(X:br) (M:Bool) (n:Nat) (ops:List Oper) (E:List Nat) (fuel:Nat) (aE:hC) (st:aM) (Q:Exit->aM->Prop) (rs:List Nat):Prop:=∀ i∈rs,pL X M n ops E fuel aE st Q i
theorem Fo:Bm X M n ops E fuel aE st Q []:=fun _ h=>by cases h
theorem vE{i:Nat} {rs:List Nat} (h:pL X M n ops E fuel aE st Q i) (az:Bm X M n ops E fuel aE st Q rs):Bm X M n ops E fuel aE st Q (i :: rs):=fun j aR=>by
 rcases List.mem_cons.1 aR with rfl | aR
 ·exact h
 ·exact az j aR
theorem Fp{i:Nat} {rs:List Nat} (az:Region.ready .any ops.toArray aE.listed=i :: rs) (h:Bm X M n ops E fuel aE st Q (i :: rs)):jb X M n ops E (fuel+1) aE st Q:=by
 intro R W aG db dF cM F ks env B ai H a w bJ ag dD;refine⟨fun aN=>(by rw[az]at aN; cases aN),fun k ab=>?_⟩;rw[az]at ab;exact h k ab R W aG db dF cM F ks env B ai H a w bJ ag dD
end
/-! ### A drawn region, xV a call, as at its beginning -/
theorem fQ.Fq{P:Program} {ops:Array Oper} {Q:Exit->Act->World->Prop} {S S':Nat->Array Bool->World->Prop} (aI:∀ j l w,S' j l w->S j l w):∀ (fuel:Nat) (listed:Array Bool) (a:Act) (w:World),fQ P ops Q S' fuel listed a w->fQ P ops Q S fuel listed a w
 | 0,_,_,_,h=>h
 | fuel+1,_,_,_,h=>⟨h.1,fun i hi=>by
  obtain⟨o,a6,aj⟩:=h.2 i hi;exact⟨o,a6,aj.mono fun aS w' aO=>⟨aI _ _ _ aO.1,fQ.Fq aI fuel _ aS w' aO.2⟩⟩⟩
theorem UA{X:br} {M:Bool} {n:Nat} {st:aM} {Q:Exit->aM->Prop} {ops:List Oper} {E:List Nat} {aE:hC} {fuel:Nat} (fR:(E.isEmpty || aE.pre)=true) (h:jb X M n ops E fuel ⟨aE.listed,true,true,true,aE.all⟩ st Q):jb X M n ops E fuel aE st Q:=by
 intro R W aG db dF cM F ks env B ai H a w bJ ag dD;refine fQ.Fq ?_ _ _ _ _ (h R W aG B ai (H.filter (oW aE.all)) (fun w=>c6 (fun k=>R k\/B k) ai w) ks env B ai H a w bJ ag ⟨fun _=>⟨rfl,rfl,rfl⟩,fun _=>⟨fun c aa=>List.mem_filter.1 aa,(List.pairwise_append.1 ag.aJ.apart).1.sublist List.filter_sublist,fun _ h=>h,c6.refl _ _⟩,fun _=>rfl,fun _ h=>h⟩);rintro j l w' ⟨J,U⟩;refine⟨fun he=>?_,dD.oX w' U⟩;have aq:aE.pre=true:=by
  cases E with
  | nil=>cases (LZ he)
  | cons e E=>simpa using fR
 obtain⟨hO,hp,oY,L6⟩:=dD.pre aq;have ak:=J he;have ae:=ak.below;refine⟨L6.trans ⟨ae.os,ae.tape,ae.output,ae.size,fun k ab=>ae.block k (ab.imp id (oY k))⟩,fun k ab=>ak.base k (ab.imp id (oY k)),fun c aa=>?_,hp⟩;have fP:=ak.ok c (List.mem_filter.2 ⟨(hO c aa).1,(hO c aa).2⟩);exact fP.base fun b ae ab=>(fP.lt ae).1 (ab.imp id (oY b))
end
section
def rZ(id:Nat) (g:aQ) (x:g.D):List e6->List e6
 | []=>[]
 | .id i :: r=>match Nat.beq i id with
  | true=>.eS g x :: rZ id g x r
  | false=>.id i :: rZ id g x r
 | .eS h y :: r=>.eS h y :: rZ id g x r
def ba.eC:ba->Nat->(g:aQ)->g.D->ba
 | .ptr i o,id,g,x=>match Nat.beq i id with
  | true=>.fF g x o
  | false=>.ptr i o
 | .fn f ids,id,g,x=>.fn f (rZ id g x ids)
 | c,_,_,_=>c
def vF(id:Nat) (g:aQ) (x:g.D):List ba->List ba
 | []=>[]
 | c :: r=>c.eC id g x :: vF id g x r
def bf.eC:bf->Nat->(g:aQ)->g.D->bf
 | .c y,id,g,x=>.c (y.eC id g x)
 | .agg cs,id,g,x=>.agg (vF id g x cs)
 | .arr g l,_,_,_=>.arr g l
def x4(id:Nat) (g:aQ) (x:g.D):List bf->List bf
 | []=>[]
 | c :: r=>c.eC id g x :: x4 id g x r
def b0.eC:b0->Nat->(g:aQ)->g.D->b0
 | .a y,id,g,x=>.a (y.eC id g x)
 | .may b y,id,g,x=>.may b (y.eC id g x)
 | .da ys,id,g,x=>.da (x4 id g x ys)
def ti(id:Nat) (g:aQ) (x:g.D):cL->cL
 | []=>[]
 | (k,v) :: r=>(k,v.eC id g x) :: ti id g x r
def ct.eC:ct->Nat->(g:aQ)->g.D->ct
 | .cells t cs,id,g,x=>.cells t (vF id g x cs)
 | b,_,_,_=>b
def mR(id:Nat) (g:aQ) (x:g.D):bx->bx
 | []=>[]
 | (k,b) :: r=>match Nat.beq k id with
  | true=>mR id g x r
  | false=>(k,b.eC id g x) :: mR id g x r
section
variable {env:Nat->Loc} {B:Nat->Prop} {w:World} {id b:Nat} {g:aQ} {x:g.D} (he:env id=.blk b) (bo:At B w g x b 0)
include he bo
theorem e1.eC{cs:List e6}:∀ {vs:List Value},e1 env B w cs vs->e1 env B w (rZ id g x cs) vs:=by
 induction cs with
 | nil=>intro vs h; exact h
 | cons c cs bA=>
  intro vs h;obtain⟨v,r,e,J,ah⟩:=h;cases c with
  | id i=>
   obtain⟨b',J,U⟩:=J;simp only[rZ]
   split
   ·rename_i hi
    have:=Nat.eq_of_beq_eq_true hi
    subst this;rw[he]at J;cases J;exact⟨v,r,e,⟨b,0,U,bo⟩,bA ah⟩
   ·exact⟨v,r,e,⟨b',J,U⟩,bA ah⟩
  | eS h y=>exact⟨v,r,e,J,bA ah⟩
theorem dv.eC:∀ {c:ba} {v:Value},dv env B w c v->dv env B w (c.eC id g x) v
 | .val _,_,aa=>aa
 | .str _,_,aa=>aa
 | .dead,_,aa=>aa
 | .ptr i o,v,aa=>by
  simp only[ba.eC]
  split
  ·rename_i hi
   have:=Nat.eq_of_beq_eq_true hi
   subst this;obtain⟨b',J,U⟩:=aa;rw[he]at J;cases J;exact⟨b,0,by rw[Nat.zero_add]; exact U,bo⟩
  ·exact aa
 | .dZ _ _ _ _,_,aa=>aa
 | .fF _ _ _,_,aa=>aa
 | .par _ _,_,aa=>aa
 | .an _,_,aa=>aa
 | .bn _ _ _,_,aa=>aa
 | .fn _ _,_,⟨vs,J,U⟩=>⟨vs,J,e1.eC he bo U⟩
 | .cp _,_,aa=>aa
 | .iA _ _,_,aa=>aa
 | .gD _ _,_,aa=>aa
 | .iB _ _ _,_,aa=>aa
 | .iK _,_,aa=>aa
 | .hK _ _,_,aa=>aa
theorem cd.eC:∀ {c:List ba} {v:List Value},cd env B w c v->cd env B w (vF id g x c) v
 | [],_,aa=>aa
 | _ :: _,_,⟨v,r,e,J,U⟩=>⟨v,r,e,dv.eC he bo J,cd.eC U⟩
theorem dI.eC:∀ {c:bf} {v:Value},dI env B w c v->dI env B w (c.eC id g x) v
 | .c _,_,aa=>dv.eC he bo aa
 | .agg _,_,⟨vs,e,J⟩=>⟨vs,e,cd.eC he bo J⟩
 | .arr _ _,_,h=>h
theorem dw.eC:∀ {c:List bf} {v:List Value},dw env B w c v->dw env B w (x4 id g x c) v
 | [],_,aa=>aa
 | _ :: _,_,⟨v,r,e,J,U⟩=>⟨v,r,e,dI.eC he bo J,dw.eC U⟩
theorem ei.eC:∀ {c:b0} {v:Value},ei env B w c v->ei env B w (c.eC id g x) v
 | .a _,_,aa=>dI.eC he bo aa
 | .may _ _,_,aa=>⟨fun aL=>dI.eC he bo (aa.1 aL),aa.2⟩
 | .da _,_,⟨vs,e,J⟩=>⟨vs,e,dw.eC he bo J⟩
theorem ej.eC{k:Nat}:∀ {tj:ct} {c:bb},ej env B w k tj c->ej env B w k (tj.eC id g x) c
 | .cells _ _,_,⟨b',vs,e,aa,J⟩=>⟨b',vs,e,aa,cd.eC he bo J⟩
 | .row _ _ _ _,_,h=>h
 | .hq _ _,_,h=>h
 | .mp _ _ _ _,_,h=>h
 | .it _ _ _ _,_,h=>h
 | .gS _,_,h=>h
 | .jJ,_,h=>h
 | .cC _ _ _ _ _ _ _,_,h=>h
 | .kb,_,h=>h
 | .fk _ _ _,_,h=>h
 | .b5 _ _ _ _ _ _,_,h=>h
theorem bu.eC:∀ {l:bx} {H:List bb},bu env B w l H->∃ H',H'.Sublist H/\bu env B w (mR id g x l) H'
 | [],_,cn=>⟨[],by rw[show _=[] from cn]; exact List.Sublist.refl _,rfl⟩
 | (k,tj) :: l,_,⟨c,H',e,J,U⟩=>by
  obtain⟨H2,ak,ah⟩:=bu.eC U;subst e;unfold mR
  split
  ·exact⟨H2,ak.cons _,ah⟩
  ·exact⟨c :: H2,ak.cons_cons _,c,H2,rfl,ej.eC he bo J,ah⟩
theorem bu.L7:∀ {l:bx} {H:List bb} {tj:ct},bu env B w l H->aU l id=some tj->∃ c Y Z H',ej env B w id tj c/\H=Y++c :: Z/\H'.Sublist (Y++Z)/\bu env B w (mR id g x l) H'
 | [],_,_,_,h=>by cases h
 | (k,b') :: l,H,tj,⟨c,H',e,J,U⟩,h=>by
  rw[cl]at h;subst e
  split at h
  ·rename_i e
   subst e;cases h;obtain⟨H2,ah,au⟩:=bu.eC he bo U;refine⟨c,[],H',H2,J,rfl,ah,?_⟩;unfold mR;rw[Nat.beq_refl];exact au
  ·rename_i e
   obtain⟨c',Y,Z,H2,ah,au,aF,aY⟩:=bu.L7 U h;have ab:Nat.beq k id=false:=by
    cases ae:Nat.beq k id with
    | false=>rfl
    | true=>exact absurd (Nat.eq_of_beq_eq_true ae).symm e
   refine⟨c',c :: Y,Z,c :: H2,ah,by rw[au]; rfl,aF.cons_cons _,?_⟩;unfold mR;rw[ab];exact⟨c,H2,rfl,ej.eC he bo J,aY⟩
omit he bo in
theorem Fs:∀ {l:cL} {s:Nat} {v:b0},aU (ti id g x l) s=some v->∃ u,aU l s=some u/\v=u.eC id g x
 | [],_,_,h=>by cases h
 | (k,u) :: l,s,v,h=>by
  unfold ti at h;rw[cl]at h ⊢
  split at h
  ·rename_i e
   cases h;rw[if_pos e];exact⟨u,rfl,rfl⟩
  ·rename_i e
   rw[if_neg e];exact Fs h
end
section
variable {X:br} {R:Nat->Prop} {W:World} {aG:eX} {n:Nat} {ks:List Nat} {env:Nat->Loc} {B:Nat->Prop} {ai:World} {H:List bb} {st st':aM} {a:Act} {w:World}
theorem bH.ca(h:bH X R W aG n ks env B ai H st a w) {id:Nat} {t:TypeId} {cs:List ba} {g:aQ} {x:g.D} {c:Bool} (bO:aU st.H id=some (.cells t cs)) (jr:dec g cs=some (c,x,[])) (aa:c=true):∃ env' B' cD H',bH X R W aG n ks env' B' cD H' ⟨ti id g x st.L,mR id g x st.H⟩ a w:=by
 obtain⟨c0,_,⟨b,vs,he,rfl,gi⟩,dV⟩:=h.heap.fE bO;have c8:ft B ai (fun q=>B q\/q=b) w:=⟨fun q ao=>.inl ao,fun q ao=>h.aJ.below.block q (.inr ao)⟩
 obtain⟨v1,v2,aB,kz,fY⟩:=oR (gi.up c8) jr aa;have Ft:v2=[]:=fY;subst Ft;rw[List.append_nil]at aB;subst aB;have iq:At (fun q=>B q\/q=b) w g x b 0:=⟨.inr rfl,vs,kz,fun j u hu=>by rw[Nat.zero_add,AE h.aJ dV.more]; exact hu⟩
 obtain⟨c,Y,Z,H2,⟨b',mF,cI,rfl,_⟩,U,au,aF⟩:=bu.L7 he iq (h.heap.up c8) bO;rw[he]at cI;cases cI;have hs:bb.gv b mF t∈H++ks.map c3:=by rw[U]; simp
 have fN:=(h.aJ.ok _ hs).lt (b:=b) rfl;have jO:=h.aJ.apart;rw[U,List.append_assoc,List.cons_append]at jO;refine⟨env,_,w,H2,h.size,h.defs,fun s u hu=>?_,aF,?_,fun q ao=>.inl (h.sub q ao),fun q ao=>?_,h.df,h.base.trans ⟨h.aJ.below.os,h.aJ.below.tape,h.aJ.below.output,h.aJ.below.size,fun q ao=>h.aJ.below.block q (.inl ao)⟩,fun i x aj=>(h.dQ i x aj).up c8⟩
 ·obtain⟨hz,hA,rfl⟩:=Fs hu
  obtain⟨eF,aY,bK⟩:=h.has s hz hA;exact⟨eF,aY,ei.eC he iq (bK.up c8)⟩
 ·have ak:bF (fun k=>R k\/B k) ai (H2++ks.map c3) w:=by
   have aY:=h.aJ;rw[U]at aY;have aq:(Y++bb.gv b mF t :: Z++ks.map c3).Perm (bb.gv b mF t :: (Y++Z++ks.map c3)):=by
    simp only[List.append_assoc,List.cons_append];exact List.perm_middle
   exact(aY.perm aq).ep (((au.append_right _)).cons _)
  refine⟨c6.refl _ _,fun q ao=>?_,fun c aa=>(ak.ok c aa).base fun q ae bT=>?_,ak.apart⟩
  ·rcases ao with ao | ao | ao
   ·exact h.aJ.base q (.inl ao)
   ·exact h.aJ.base q (.inr ao)
   ·subst ao; exact fN.2
  ·rcases bT with bT | bT | bT
   ·exact((ak.ok c aa).lt ae).1 (.inl bT)
   ·exact((ak.ok c aa).lt ae).1 (.inr bT)
   ·subst bT
    have h9:c∈Y++(Z++ks.map c3):=by
     rcases List.mem_append.1 aa with aa | aa
     ·have:=au.subset aa
      rcases List.mem_append.1 this with bK | bK
      ·exact List.mem_append_left _ bK
      ·exact List.mem_append_right _ (List.mem_append_left _ bK)
     ·exact List.mem_append_right _ (List.mem_append_right _ aa)
    rw[List.pairwise_append,List.pairwise_cons]at jO;obtain⟨_,⟨c7,_⟩,hN⟩:=jO
    rcases List.mem_append.1 h9 with bK | bK
    ·exact hN c bK _ List.mem_cons_self q ae rfl
    ·exact c7 c bK q rfl ae
 ·rcases ao with ao | ao
  ·exact(h.new q ao).imp_right fun aO=>⟨aO.1,aO.2.dP (h.aJ.below.block q (.inr ao))⟩
  ·subst ao; exact .inr ⟨fun dT=>fN.1 (.inl dT),(h.aJ.ok _ hs).cells rfl rfl⟩
theorem dh.ca(id:Nat) (g:aQ) {t:TypeId} {cs:List ba} {x:g.D} {c:Bool} (bO:aU st.H id=some (.cells t cs)) (jr:dec g cs=some (c,x,[])) (aa:c=true):dh X n st ⟨ti id g x st.L,mR id g x st.H⟩:=fun _ _ _ _ _ _ ⟨ks,env,B,ai,H,bJ,ag⟩=>by
 obtain⟨env',B',cD,H',h⟩:=ag.ca bO jr aa;exact⟨ks,env',B',cD,H',bJ,h⟩
end
section
variable {X:br} {M:Bool} {n:Nat} {st:aM} {Q:Exit->aM->Prop} {ops:List Oper} {E:List Nat} {aE:hC} {KY:Array Bool} {fuel d i:Nat} {o:Oper}
theorem UB{st':aM} (z:Nat) (aA:di z st=some st') (h:jb X M n ops E fuel ⟨aE.listed,false,aE.pre&&!aE.all,false,aE.all⟩ st' Q):jb X M n ops E fuel aE st Q:=by
 intro R W aG db dF cM F ks env B ai H a w bJ ag dD;obtain⟨env',B',cD,H',cf,gF,jy,lz⟩:=ag.di aA;refine h R W aG db dF cM F ks env' B' cD H' a w bJ cf ⟨fun h=>(by cases h),fun aq=>?_,fun h=>(by cases h),fun w hw=>dD.oX w (jy.trans ⟨hw.os,hw.tape,hw.output,hw.size,fun k ab=>hw.block k (ab.imp id (gF k))⟩)⟩;have L8:aE.pre=true/\aE.all=false:=by
  have:(aE.pre&&!aE.all)=true:=aq
  simpa using this
 obtain⟨g1,g2,g3,g4⟩:=dD.pre L8.1;exact⟨fun c aa=>⟨lz c (g1 c aa).1 (by have:=(g1 c aa).2; rw[L8.2]at this; exact this),(g1 c aa).2⟩,g2,fun k ab=>gF k (g3 k ab),g4.trans ⟨jy.os,jy.tape,jy.output,jy.size,fun k ab=>jy.block k (ab.imp id (g3 k))⟩⟩
end
end
section
abbrev hD:=Bool->Nat->Option Nat
def pN(bP:hD):List e6->Option (List e6)
 | []=>some []
 | .id i :: r=>match bP true i,pN bP r with
  | some j,some l=>some (.id j :: l)
  | _,_=>none
 | .eS g x :: r=>match pN bP r with
  | some l=>some (.eS g x :: l)
  | none=>none
def ba.cZ:ba->hD->ba
 | .ptr i o,bP=>match bP true i with
  | some j=>.ptr j o
  | none=>.dead
 | .dZ i cA k o,bP=>match bP false i with
  | some j=>.dZ j cA k o
  | none=>.dead
 | .an i,bP=>match bP false i with
  | some j=>.an j
  | none=>.dead
 | .fn f ids,bP=>match pN bP ids with
  | some l=>.fn f l
  | none=>.dead
 | .cp i,bP=>match bP true i with
  | some j=>.cp j
  | none=>.dead
 | .iA f i,bP=>match bP true i with
  | some j=>.iA f j
  | none=>.dead
 | .gD i o,bP=>match bP false i with
  | some j=>.gD j o
  | none=>.dead
 | .iK i,bP=>match bP false i with
  | some j=>.iK j
  | none=>.dead
 | .iB i s o,bP=>match bP false i with
  | some j=>.iB j s o
  | none=>.dead
 | .hK b i,bP=>match bP true i with
  | some j=>.hK b j
  | none=>.dead
 | c,_=>c
def r0(bP:hD):List ba->List ba
 | []=>[]
 | c :: r=>c.cZ bP :: r0 bP r
def bf.cZ:bf->hD->bf
 | .c x,bP=>.c (x.cZ bP)
 | .agg cs,bP=>.agg (r0 bP cs)
 | .arr g l,_=>.arr g l
def tk(bP:hD):List bf->List bf
 | []=>[]
 | c :: r=>c.cZ bP :: tk bP r
def b0.cZ:b0->hD->b0
 | .a x,bP=>.a (x.cZ bP)
 | .may g x,bP=>.may g (x.cZ bP)
 | .da xs,bP=>.da (tk bP xs)
def fu(bP:hD):cL->cL
 | []=>[]
 | (k,v) :: r=>(k,v.cZ bP) :: fu bP r
def ct.cZ:ct->hD->ct
 | .cells t cs,bP=>.cells t (r0 bP cs)
 | .it eT es k ps,bP=>match bP true eT with
  | some j=>.it j es k ps
  | none=>.jJ
 | .gS eT,bP=>match bP true eT with
  | some j=>.gS j
  | none=>.jJ
 | .cC el t g l c i d,bP=>match bP false d with
  | some j=>.cC el t g l c i j
  | none=>.kb
 | .b5 t bQ g l c (some (i,some d)),bP=>match bP false d with
  | some j=>.b5 t bQ g l c (some (i,some j))
  | none=>.b5 t bQ g l c (some (i,none))
 | b,_=>b
def ct.n7:ct->Bool
 | .row _ _ _ _=>false
 | .cC _ _ _ _ _ _ _=>false
 | .kb=>false
 | .fk _ _ _=>false
 | .b5 _ _ _ _ _ _=>false
 | _=>true
def nA(bP:hD):bx->bx
 | []=>[]
 | (k,b) :: r=>match bP b.n7 k with
  | some j=>(j,b.cZ bP) :: nA bP r
  | none=>nA bP r
structure Fu(bP:hD) (env env':Nat->Loc):Prop where
 blk:∀ k j b,bP true k=some j->env k=.blk b->env' j=.blk b
 row:∀ k j A c n,bP false k=some j->env k=.row A c n->env' j=.row A c n
section
variable {bP:hD} {env env':Nat->Loc} {B:Nat->Prop} {w:World} (he:Fu bP env env')
include he
theorem e1.cZ:∀ {ids l:List e6} {vs:List Value},pN bP ids=some l->e1 env B w ids vs->e1 env' B w l vs
 | [],l,vs,h,aB=>by cases h; exact aB
 | .id i :: ids,l,vs,h,⟨v,r,e,⟨b,U,au⟩,ah⟩=>by
  simp only[pN]at h
  split at h
  ·rename_i j r hi az
   cases h;exact⟨v,_,e,⟨b,he.blk i j b hi U,au⟩,e1.cZ az ah⟩
  ·cases h
 | .eS g x :: ids,l,vs,h,⟨v,r,e,U,ah⟩=>by
  simp only[pN]at h
  split at h
  ·rename_i r az
   cases h;exact⟨v,_,e,U,e1.cZ az ah⟩
  ·cases h
theorem dv.cZ:∀ {c:ba} {v:Value},dv env B w c v->dv env' B w (c.cZ bP) v
 | .val _,_,aa=>aa
 | .str _,_,aa=>aa
 | .dead,_,aa=>aa
 | .ptr i o,v,aa=>by
  simp only[ba.cZ]
  split
  ·rename_i j h
   obtain⟨b,e,aB⟩:=aa;exact⟨b,he.blk i j b h e,aB⟩
  ·trivial
 | .dZ i cA j o,v,aa=>by
  simp only[ba.cZ]
  split
  ·rename_i j h
   obtain⟨b,c,n,e,aB⟩:=aa;exact⟨b,c,n,he.row i j _ _ _ h e,aB⟩
  ·trivial
 | .hK b i,v,aa=>by
  simp only[ba.cZ]
  split
  ·rename_i j h
   obtain⟨k,e,aB⟩:=aa;exact⟨k,fun ae=>he.blk i j k h (e ae),aB⟩
  ·trivial
 | .iK i,v,aa=>by
  simp only[ba.cZ]
  split
  ·rename_i j h
   obtain⟨b,c,n,e,aB⟩:=aa;exact⟨b,c,n,he.row i j _ _ _ h e,aB⟩
  ·trivial
 | .iB i s o,v,aa=>by
  simp only[ba.cZ]
  split
  ·rename_i j h
   obtain⟨b,c,n,e,aB⟩:=aa;exact⟨b,c,n,he.row i j _ _ _ h e,aB⟩
  ·trivial
 | .gD i o,v,aa=>by
  simp only[ba.cZ]
  split
  ·rename_i j h
   obtain⟨b,c,n,e,aB⟩:=aa;exact⟨b,c,n,he.row i j _ _ _ h e,aB⟩
  ·trivial
 | .fF _ _ _,_,aa=>aa
 | .par _ _,_,aa=>aa
 | .an i,v,aa=>by
  simp only[ba.cZ]
  split
  ·rename_i j h
   obtain⟨A,c,n,e,aB⟩:=aa;exact⟨A,c,n,he.row i j _ _ _ h e,aB⟩
  ·trivial
 | .bn _ _ _,_,aa=>aa
 | .fn f ids,v,aa=>by
  simp only[ba.cZ]
  split
  ·rename_i l h
   obtain⟨vs,aB,aq⟩:=aa;exact⟨vs,aB,e1.cZ he h aq⟩
  ·trivial
 | .cp i,v,aa=>by
  simp only[ba.cZ]
  split
  ·rename_i j h
   obtain⟨b,e,aB⟩:=aa;exact⟨b,he.blk i j b h e,aB⟩
  ·trivial
 | .iA f i,v,aa=>by
  simp only[ba.cZ]
  split
  ·rename_i j h
   obtain⟨b,e,aB⟩:=aa;exact⟨b,he.blk i j b h e,aB⟩
  ·trivial
theorem cd.cZ:∀ {c:List ba} {v:List Value},cd env B w c v->cd env' B w (r0 bP c) v
 | [],_,aa=>aa
 | _ :: _,_,⟨v,r,e,J,U⟩=>⟨v,r,e,dv.cZ he J,cd.cZ U⟩
theorem dI.cZ:∀ {c:bf} {v:Value},dI env B w c v->dI env' B w (c.cZ bP) v
 | .c _,_,aa=>dv.cZ he aa
 | .agg _,_,⟨vs,e,J⟩=>⟨vs,e,cd.cZ he J⟩
 | .arr _ _,_,h=>h
theorem dw.cZ:∀ {c:List bf} {v:List Value},dw env B w c v->dw env' B w (tk bP c) v
 | [],_,aa=>aa
 | _ :: _,_,⟨v,r,e,J,U⟩=>⟨v,r,e,dI.cZ he J,dw.cZ U⟩
theorem ei.cZ:∀ {c:b0} {v:Value},ei env B w c v->ei env' B w (c.cZ bP) v
 | .a _,_,aa=>dI.cZ he aa
 | .may _ _,_,aa=>⟨fun aL=>dI.cZ he (aa.1 aL),aa.2⟩
 | .da _,_,⟨vs,e,J⟩=>⟨vs,e,dw.cZ he J⟩
theorem ej.cZ{k j:Nat}:∀ {b:ct} {c:bb},bP b.n7 k=some j->ej env B w k b c->ej env' B w j (b.cZ bP) c
 | .cells _ _,_,h,⟨b,vs,e,aa,J⟩=>⟨b,vs,he.blk k j b h e,aa,cd.cZ he J⟩
 | .row _ _ _ _,_,h,⟨A,c,xs,e,aa,J⟩=>⟨A,c,xs,he.row k j _ _ _ h e,aa,J⟩
 | .hq _ _,_,h,⟨b,e,aa⟩=>⟨b,he.blk k j b h e,aa⟩
 | .mp _ _ _ _,_,h,⟨b,es,q,e,aa⟩=>⟨b,es,q,he.blk k j b h e,aa⟩
 | .it eT _ _ _,_,h,⟨b,m,e,hm,aa⟩=>by
  simp only[ct.cZ]
  split
  ·rename_i jv aR
   exact⟨b,m,he.blk k j b h e,he.blk eT jv m aR hm,aa⟩
  ·exact⟨b,_,he.blk k j b h e,aa⟩
 | .gS eT,_,h,⟨b,m,q,e,hm,aa⟩=>by
  simp only[ct.cZ]
  split
  ·rename_i jv aR
   exact⟨b,m,q,he.blk k j b h e,he.blk eT jv m aR hm,aa⟩
  ·exact⟨b,_,he.blk k j b h e,aa⟩
 | .jJ,_,h,⟨b,o,e,aa⟩=>⟨b,o,he.blk k j b h e,aa⟩
 | .cC el t g l cap i d,_,h,⟨A,c,ys,b9,c',m,e,aa,J,hi,U,ah⟩=>by
  simp only[ct.cZ]
  split
  ·rename_i jv aR
   exact⟨A,c,ys,b9,c',m,he.row k j _ _ _ h e,aa,J,hi,he.row d jv _ _ _ aR U,ah⟩
  ·exact⟨A,c,_,_,_,_,_,he.row k j _ _ _ h e,aa⟩
 | .kb,_,h,⟨A,c,n,t,s,m,xs,e,aa⟩=>⟨A,c,n,t,s,m,xs,he.row k j _ _ _ h e,aa⟩
 | .fk _ _ _,_,h,⟨A,c,e,J⟩=>⟨A,c,he.row k j _ _ _ h e,J⟩
 | .b5 _ _ _ _ _ none,_,h,⟨A,q,ys,cT,I,e,aa,J,U,ah⟩=>⟨A,q,ys,cT,I,he.row k j _ _ _ h e,aa,J,U,ah⟩
 | .b5 _ _ _ _ _ (some (i,none)),_,h,⟨A,q,ys,cT,I,e,aa,J,⟨U,v,au,_⟩,ah⟩=>⟨A,q,ys,cT,I,he.row k j _ _ _ h e,aa,J,⟨U,v,au,fun _ h=>by cases h⟩,ah⟩
 | .b5 _ _ _ _ _ (some (i,some d)),_,h,⟨A,q,ys,cT,I,e,aa,J,⟨U,v,au,aF⟩,ah⟩=>by
  simp only[ct.cZ]
  split
  ·rename_i jv aR
   obtain⟨b9,c',m,aY,bK⟩:=aF d rfl;exact⟨A,q,ys,cT,I,he.row k j _ _ _ h e,aa,J,⟨U,v,au,fun fG av=>by cases av; exact⟨b9,c',m,he.row d jv _ _ _ aR aY,bK⟩⟩,ah⟩
  ·exact⟨A,q,ys,cT,I,he.row k j _ _ _ h e,aa,J,⟨U,v,au,fun _ h=>by cases h⟩,ah⟩
theorem bu.cZ:∀ {l:bx} {H:List bb},bu env B w l H->∃ H',H'.Sublist H/\bu env' B w (nA bP l) H'
 | [],_,cn=>⟨[],by rw[show _=[] from cn]; exact List.Sublist.refl _,rfl⟩
 | (k,b) :: l,_,⟨c,H',e,J,U⟩=>by
  obtain⟨H2,ak,ah⟩:=bu.cZ U;subst e;unfold nA
  split
  ·rename_i j h
   exact⟨c :: H2,ak.cons_cons _,c,H2,rfl,ej.cZ he h J,ah⟩
  ·exact⟨H2,ak.cons _,ah⟩
omit he in
theorem tl:∀ {l:cL} {s:Nat} {v:b0},aU (fu bP l) s=some v->∃ u,aU l s=some u/\v=u.cZ bP
 | [],_,_,h=>by cases h
 | (k,u) :: l,s,v,h=>by
  unfold fu at h;rw[cl]at h ⊢
  split at h
  ·rename_i e
   cases h;rw[if_pos e];exact⟨u,rfl,rfl⟩
  ·rename_i e
   rw[if_neg e];exact tl h
end
def jc(i j:Nat):hD:=fun _ k=>match Nat.beq k i with
 | true=>some j
 | false=>match Nat.beq k j with
  | true=>none
  | false=>some k
theorem Bn{i j:Nat} {env:Nat->Loc}:Fu (jc i j) env (iE env j (env i)):=by
 have key:∀ b k k',jc i j b k=some k'->iE env j (env i) k'=env k:=by
  intro b k k' h;unfold jc at h
  split at h
  ·rename_i ae
   cases h
   have:=Nat.eq_of_beq_eq_true ae
   subst this;exact eG
  ·split at h
   ·cases h
   ·rename_i ae
    cases h;exact h1 _ (fun e=>by subst e; rw[Nat.beq_refl]at ae; cases ae)
 exact⟨fun k jv b h e=>by rw[key _ _ _ h]; exact e,fun k jv A c n h e=>by rw[key _ _ _ h]; exact e⟩
end
section
def gz(n:Nat):hD:=fun b k=>match b with
 | true=>match Nat.ble n k with
  | true=>some k
  | false=>none
 | false=>match Nat.ble hZ k with
  | true=>some k
  | false=>none
theorem L9{n:Nat} {env env':Nat->Loc} (h:∀ id l,n<=id->env id=l->((∃ b,l=.blk b)\/hZ<=id)->env' id=l) (a7:n<=hZ):Fu (gz n) env env':=by
 refine⟨fun k j b ab e=>?_,fun k j A c m ab e=>?_⟩
 ·simp only[gz]at ab
  split at ab
  ·rename_i ae
   cases ab;exact h _ _ (Nat.le_of_ble_eq_true ae) e (.inl ⟨b,rfl⟩)
  ·cases ab
 ·simp only[gz]at ab
  split at ab
  ·rename_i ae
   cases ab
   have:=Nat.le_of_ble_eq_true ae
   exact h _ _ (Nat.le_trans a7 this) e (.inr this)
  ·cases ab
def qH:List e6->Bool
 | []=>true
 | .id _ :: _=>false
 | .eS _ _ :: r=>qH r
section
variable {env env':Nat->Loc} {B:Nat->Prop} {w:World}
theorem e1.Fv:∀ {cs:List e6} {vs:List Value},qH cs=true->e1 env B w cs vs->e1 env' B w cs vs
 | [],_,_,h=>h
 | .id _ :: _,_,h,_=>by cases h
 | .eS _ _ :: _,_,h,⟨v,r,e,J,U⟩=>⟨v,r,e,J,e1.Fv (by simpa [qH] using h) U⟩
theorem e1.any:∀ {cs:List e6} {vs:List Value},e1 (fun _=>.no) B w cs vs->e1 env B w cs vs
 | [],_,h=>h
 | .id _ :: _,_,⟨v,r,e,⟨b,J,_⟩,U⟩=>by cases J
 | .eS _ _ :: _,_,⟨v,r,e,J,U⟩=>⟨v,r,e,J,e1.any U⟩
theorem dv.any:∀ {c:ba} {v:Value},dv (fun _=>.no) B w c v->dv env B w c v
 | .val _,_,aa=>aa
 | .str _,_,aa=>aa
 | .dead,_,aa=>aa
 | .ptr _ _,_,⟨b,h,_⟩=>by cases h
 | .dZ _ _ _ _,_,⟨_,_,_,h,_⟩=>by cases h
 | .fF _ _ _,_,aa=>aa
 | .par _ _,_,aa=>aa
 | .an _,_,⟨_,_,_,h,_⟩=>by cases h
 | .bn _ _ _,_,aa=>aa
 | .fn _ _,_,⟨vs,J,U⟩=>⟨vs,J,e1.any U⟩
 | .cp _,_,⟨_,h,_⟩=>by cases h
 | .iA _ _,_,⟨_,h,_⟩=>by cases h
 | .gD _ _,_,⟨_,_,_,h,_⟩=>by cases h
 | .iB _ _ _,_,⟨_,_,_,h,_⟩=>by cases h
 | .iK _,_,⟨_,_,_,h,_⟩=>by cases h
 | .hK true _,_,⟨_,h,_⟩=>by cases h rfl
 | .hK false _,_,⟨k,_,h⟩=>⟨k,fun h=>(by cases h),h⟩
theorem cd.any:∀ {c:List ba} {v:List Value},cd (fun _=>.no) B w c v->cd env B w c v
 | [],_,aa=>aa
 | _ :: _,_,⟨v,r,e,J,U⟩=>⟨v,r,e,J.any,U.any⟩
theorem dI.any:∀ {c:bf} {v:Value},dI (fun _=>.no) B w c v->dI env B w c v
 | .c _,_,aa=>dv.any aa
 | .agg _,_,⟨vs,e,J⟩=>⟨vs,e,J.any⟩
 | .arr _ _,_,h=>h
theorem dw.any:∀ {c:List bf} {v:List Value},dw (fun _=>.no) B w c v->dw env B w c v
 | [],_,aa=>aa
 | _ :: _,_,⟨v,r,e,J,U⟩=>⟨v,r,e,J.any,U.any⟩
end
/-! ### Slots: parameters and moves -/
structure Has(n:Nat) (env:Nat->Loc) (B:Nat->Prop) (w:World) (L:cL) (tmps:Array Value):Prop where
 size:tmps.size=n
 has:∀ s sv,aU L s=some sv->∃ v,tmps[s]?=some v/\ei env B w sv v
def r1:List Nat->List bf->cL->cL
 | p :: ps,x :: xs,L=>r1 ps xs ((p,.a x) :: L)
 | _,_,L=>L
def qI:List (Nat×Nat)->cL->cL
 | [],L=>L
 | (d,s) :: r,L=>match aU L s with
  | some v=>qI r ((d,v) :: L)
  | none=>qI r ((d,.a (.c .dead)) :: L)
def qJ:List (Nat×Nat)->Array Value->Array Value
 | [],t=>t
 | (d,s) :: r,t=>qJ r (t.setIfInBounds d (t.getD s undef))
def lG(n:Nat):List Nat->Bool
 | []=>true
 | p :: r=>Nat.blt p n&&lG n r
section
variable {n:Nat} {env:Nat->Loc} {B:Nat->Prop} {w:World} {L:cL} {tmps:Array Value}
theorem Has.set(h:Has n env B w L tmps) {d:Nat} (av:d < n) {sv:b0} {v:Value} (aB:ei env B w sv v):Has n env B w ((d,sv) :: L) (tmps.setIfInBounds d v):=by
 refine⟨by simpa using h.size,fun s u hu=>?_⟩;rw[cl]at hu
 split at hu
 ·rename_i e
  subst e;cases hu;exact⟨v,by rw[Array.getElem?_setIfInBounds_self_of_lt (by rw[h.size]; exact av)],aB⟩
 ·rename_i e
  obtain⟨eF,J,U⟩:=h.has s u hu;exact⟨eF,by rw[Array.getElem?_setIfInBounds_ne (fun cm=>e cm.symm)]; exact J,U⟩
theorem Has.par:∀ {ps:List Nat} {xs:List bf} {vs:List Value} {L:cL} {tmps:Array Value},Has n env B w L tmps->lG n ps=true->dw env B w xs vs->Has n env B w (r1 ps xs L) ((ps.zip vs).foldl (fun t (p,v)=>t.setIfInBounds p v) tmps)
 | [],_,_,_,_,h,_,_=>by cases ‹List bf›<;>exact h
 | _ :: _,[],_,_,_,h,_,aj=>by rw[show _=[] from aj]; exact h
 | p :: ps,x :: xs,_,L,tmps,h,aq,⟨v,r,e,J,U⟩=>by
  subst e;simp only[lG,Bool.and_eq_true]at aq;exact Has.par (ps:=ps) (xs:=xs) (vs:=r) (L:=(p,.a x) :: L) (tmps:=tmps.setIfInBounds p v) (h.set (du aq.1) (sv:=.a x) J) aq.2 U
theorem Has.cU:∀ {ms:List (Nat×Nat)} {L:cL} {tmps:Array Value},Has n env B w L tmps->lG n (ms.map (·.1))=true->Has n env B w (qI ms L) (qJ ms tmps)
 | [],_,_,h,_=>h
 | (d,s) :: r,L,tmps,h,aq=>by
  simp only[List.map_cons,lG,Bool.and_eq_true]at aq;unfold qI qJ
  split
  ·rename_i v aB
   obtain⟨u,J,U⟩:=h.has s v aB;refine Has.cU (h.set (du aq.1) ?_) aq.2;rw[Array.getD_eq_getD_getElem?,J];exact U
  ·exact Has.cU (h.set (du aq.1) trivial) aq.2
end
def vG(n:Nat):List Oper->Option (List (Nat×Nat))
 | []=>some []
 | o :: r=>match o.guard,o.dst,o.op,vG n r with
  | none,some d,.assign (.tmp s),some l=>some ((d,s) :: l)
  | none,some d,.move (.tmp s),some l=>some ((d,s) :: l)
  | _,_,_,_=>none
inductive k8 (n:Nat):Code->List (Nat×Nat)->Prop where
 | region {id:Nat} {ops:List Oper} {ms:List (Nat×Nat)} (h:vG n ops=some ms):k8 n (.region id ops.toArray false) ms
 | skip:k8 n .skip []
 | seq {a b:Code} {m1 m2:List (Nat×Nat)} (J:k8 n a m1) (U:k8 n b m2):k8 n (.seq a b) (m1++m2)
theorem Ma:∀ (a b:List (Nat×Nat)) (t:Array Value),qJ (a++b) t=qJ b (qJ a t)
 | [],_,_=>rfl
 | (d,s) :: a,b,t=>Ma a b (t.setIfInBounds d (t.getD s undef))
theorem Mb{P:Program} {n l:Nat} {ops:Array Oper} {Q:Exit->Act->World->Prop} {w:World}:∀ {os:List Oper} {ms:List (Nat×Nat)} {a:Act},vG n os=some ms->Q .normal { a with tmps:=qJ ms a.tmps } w->rA (some l) P ops Q os a w
 | [],ms,a,h,ao=>by cases h; exact KL ao
 | o :: os,ms,a,h,ao=>by
  have key:∀ d s,o.guard=none->o.dst=some d->(o.op=.assign (.tmp s)\/o.op=.move (.tmp s))->∀ l',vG n os=some l'->ms=(d,s) :: l'->rA (some l) P ops Q (o :: os) a w:=by
   intro d s aL av ax l' ad l7;subst l7;refine KJ (.inl ⟨by simp[Region.wanted,aL],.inl ⟨a.eval (.tmp s),w,?_,Mb ad ?_⟩⟩)
   ·rcases ax with ax | ax<;>simp[execOp,ax]
   ·rw[av]
    exact ao
  unfold vG at h
  split at h
  ·rename_i d s l' aL av ax ad
   cases h;exact key d s aL av (.inl ax) l' ad rfl
  ·rename_i d s l' aL av ax ad
   cases h;exact key d s aL av (.inr ax) l' ad rfl
  ·cases h
theorem k8.ok{P:Program} {n l:Nat} {c:Code} {ms:List (Nat×Nat)} {w:World} (h:k8 n c ms):∀ {Q:Exit->Act->World->Prop} {a:Act},Q .normal { a with tmps:=qJ ms a.tmps } w->ky (some l) P c Q a w:=by
 induction h with
 | region h=>exact fun ao=>KW (Mb h ao)
 | skip=>exact fun ao=>KX ao
 | seq J U Fw Fx=>exact fun ao=>SH fun K bS=>Fw (bS _ _ (Fx (by rw[Ma]at ao; exact ao)))
end
section
def Mc:Exit->Option Code
 | .ret=>some .ret
 | .exit id=>some (.exit id)
 | _=>none
def Bo:Exit->Bool
 | .normal=>true
 | .ret=>true
 | .exit _=>true
 | _=>false
section
variable {X:br} {R:Nat->Prop} {W:World} {aG:eX} {n:Nat} {ks:List Nat} {env:Nat->Loc} {B:Nat->Prop} {ai:World} {H:List bb} {st:aM} {a:Act} {w:World}
def mb(n:Nat) (env:Nat->Loc):Nat->Loc->Prop:=fun id l=>n<=id/\env id=l/\((∃ b,l=.blk b)\/hZ<=id)
theorem bH.Md(h:bH X R W aG n ks env B ai H st a w):bH X (fun k=>R k\/B k) w ⟨B,mb n env,aG.d⟩ n ks env B w H st a w:=by
 have c8:ft B ai B w:=⟨fun _ h=>h,fun k ab=>h.aJ.below.block k (.inr ab)⟩
 refine⟨h.size,h.defs,fun s sv ak=>?_,h.heap.up c8,?_,fun _ h=>h,fun _ h=>.inl h,fun _ _ h=>h,c6.refl _ _,fun i x aj=>(h.dQ i x aj).up c8⟩
 ·obtain⟨v,J,U⟩:=h.has s sv ak
  exact⟨v,J,U.up c8⟩
 ·exact⟨c6.refl _ _,fun k ab=>h.aJ.base k (ab.elim (fun h=>h) .inr),fun c aa=>(h.aJ.ok c aa).base fun b ae ab=>((h.aJ.ok c aa).lt ae).1 (ab.elim (fun h=>h) .inr),h.aJ.apart⟩
theorem bH.UC{env':Nat->Loc} {B':Nat->Prop} {cD:World} {H':List bb} {st':aM} {aS:Act} {w':World} {Me:List Nat} (h:bH X R W aG n ks env B ai H st a w) (aO:bH X (fun k=>R k\/B k) w ⟨B,mb n env,aG.d⟩ n Me env' B' cD H' st' aS w'):bH X R W aG n Me env' B' cD H' st' aS w':=by
 refine⟨aO.size,aO.defs,aO.has,aO.heap,?_,fun k ab=>aO.sub k (h.sub k ab),fun k ab=>?_,fun id l aq=>?_,?_,aO.dQ⟩
 ·exact⟨⟨aO.aJ.below.os,aO.aJ.below.tape,aO.aJ.below.output,aO.aJ.below.size,fun k ab=>aO.aJ.below.block k (ab.imp .inl id)⟩,fun k ab=>aO.aJ.base k (ab.imp .inl id),fun c aa=>(aO.aJ.ok c aa).base fun b ae ab=>((aO.aJ.ok c aa).lt ae).1 (ab.imp .inl id),aO.aJ.apart⟩
 ·have jy:∀ q,B q->cD.heap[q]?=ai.heap[q]?:=fun q ao=>(aO.base.block q (.inr ao)).trans (h.aJ.below.block q (.inr ao))
  rcases aO.new k ab with J | J
  ·exact(h.new k J).imp_right fun U=>⟨U.1,U.2.dP (jy k J)⟩
  ·exact .inr ⟨fun dT=>J.1 (.inl dT),J.2⟩
 ·obtain⟨J,U,ah⟩:=h.df id l aq
  exact⟨J,(aO.df id l ⟨J,U,ah⟩).2.1,ah⟩
 ·exact h.base.trans ⟨h.aJ.below.os.symm ▸ aO.base.os,h.aJ.below.tape ▸ aO.base.tape,h.aJ.below.output ▸ aO.base.output,Nat.le_trans h.aJ.below.size aO.base.size,fun k ab=>(aO.base.block k (.inl ab)).trans (h.aJ.below.block k (.inl ab))⟩
theorem bH.round(h:bH X R W aG n ks env B ai H st a w) {dL:cL} {t:Array Value} (dY:Has n env B w dL t):bH X (gh w H) w ⟨B,mb n env,[]⟩ n [] env B w H ⟨dL,st.H⟩ { tmps:=t,defers:=[] } w:=by
 have c8:ft B ai B w:=⟨fun _ h=>h,fun k ab=>h.aJ.below.block k (.inr ab)⟩
 have ak:bF (fun k=>R k\/B k) ai H w:=h.aJ.ep (List.sublist_append_left _ _);refine⟨dY.size,rfl,dY.has,h.heap.up c8,?_,fun _ h=>h,fun _ h=>.inl h,fun _ _ h=>h,c6.refl _ _,fun i x aj=>(h.dQ i x aj).up c8⟩;have J:=ak.rest;simp only[List.map_nil,List.append_nil];exact⟨c6.refl _ _,fun k ab=>ab.elim (fun h=>h.1) (fun h=>ak.base k (.inr h)),fun c aa=>(J.ok c aa).base fun b ae ab=>ab.elim (fun h=>((J.ok c aa).lt ae).1 h) (fun h=>((ak.ok c aa).lt ae).1 (.inr h)),J.apart⟩
theorem bH.UD{env':Nat->Loc} {B':Nat->Prop} {cD:World} {H':List bb} {st':aM} {aS:Act} {w':World} (h:bH X R W aG n ks env B ai H st a w) (aO:bH X (gh w H) w ⟨B,mb n env,[]⟩ n [] env' B' cD H' st' aS w') {L:cL} (dY:∀ s sv,aU L s=some sv->∃ v,a.tmps[s]?=some v/\ei env' B' cD sv v):bH X R W aG n ks env' B' cD H' ⟨L,st'.H⟩ a w':=by
 have ak:bF (fun k=>R k\/B k) ai H w:=h.aJ.ep (List.sublist_append_left _ _);have ic:∀ k,R k\/B k->gh w H k:=fun k ab=>⟨ak.base k ab,fun c aa e=>((ak.ok c aa).lt e).1 ab⟩
 have c8:ft B ai B' cD:=⟨aO.sub,fun k ab=>(aO.base.block k (ic k (.inr ab))).trans (h.aJ.below.block k (.inr ab))⟩
 have dN:=aO.aJ;simp only[List.map_nil,List.append_nil]at dN;have aA:bF (gh w H) w H' w':=⟨aO.base.trans ⟨dN.below.os,dN.below.tape,dN.below.output,dN.below.size,fun k ab=>dN.below.block k (.inl ab)⟩,fun k ab=>dN.base k (.inl ab),fun c aa=>(dN.ok c aa).base fun b ae ab=>((dN.ok c aa).lt ae).1 (.inl ab),dN.apart⟩
 have kz:=h.aJ.frame aA;have jO:=List.pairwise_append.1 h.aJ.apart;refine⟨h.size,h.defs,dY,aO.heap,⟨⟨dN.below.os,dN.below.tape,dN.below.output,dN.below.size,fun k ab=>dN.below.block k (ab.imp (fun h=>ic k (.inl h)) id)⟩,fun k ab=>dN.base k (ab.imp (fun h=>ic k (.inl h)) id),fun c aa=>(kz.ok c aa).base fun b ae ab=>?_,kz.apart⟩,fun k ab=>aO.sub k (h.sub k ab),fun k ab=>?_,fun id l aq=>?_,?_,fun i x aj=>(h.dQ i x aj).up c8⟩
 ·rcases ab with ab | ab
  ·exact((kz.ok c aa).lt ae).1 (.inl ab)
  ·rcases List.mem_append.1 aa with er | er
   ·exact((dN.ok c er).lt ae).1 (.inr ab)
   ·rcases aO.new b ab with J | J
    ·exact((kz.ok c aa).lt ae).1 (.inr J)
    ·exact J.1 ⟨((h.aJ.ok c (List.mem_append_right _ er)).lt ae).2,fun c' UE e=>jO.2.2 c' UE c er b e ae⟩
 ·rcases aO.new k ab with J | J
  ·exact(h.new k J).imp_right fun U=>⟨U.1,U.2.dP (c8.2 k J)⟩
  ·exact .inr ⟨fun dT=>J.1 (ic k (.inl dT)),J.2⟩
 ·obtain⟨J,U,ah⟩:=h.df id l aq
  exact⟨J,(aO.df id l ⟨J,U,ah⟩).2.1,ah⟩
 ·exact h.base.trans ⟨aO.base.os.trans h.aJ.below.os,aO.base.tape.trans h.aJ.below.tape,aO.base.output.trans h.aJ.below.output,Nat.le_trans h.aJ.below.size aO.base.size,fun k ab=>(aO.base.block k (ic k (.inl ab))).trans (h.aJ.below.block k (.inl ab))⟩
end
end
section
section
variable {X:br} {R:Nat->Prop} {W:World} {aG:eX} {n:Nat} {ks:List Nat} {B:Nat->Prop} {ai:World} {r:Option Nat} {ops:List Oper} {Q:Exit->Act->World->Prop}
end
section
variable {X:br} {B:Nat->Prop} {n:Nat} {L dL:cL} {bZ:World} {a:Act} {w:World} {Q:Exit->Act->World->Prop}
theorem Mf{D:List Deferred} {M:List (Nat×Value)} (aI:cW n D M a) {us:List Operand} {vs:List Value} (h:iz M us=some vs):us.toArray.map a.eval=vs.toArray:=by
 have:=aI.iz h
 simp[this]
end
end
section
def vH(id:Nat):Nat->List ba->List ba
 | 0,.val (.slice none 0 0) :: r=>.an id :: r
 | p+1,c :: r=>c :: vH id p r
 | _,cs=>cs
def jd(k p id:Nat):bx->bx
 | []=>[]
 | (j,.cells t cs) :: r=>match Nat.beq j k with
  | true=>(j,.cells t (vH id p cs)) :: r
  | false=>(j,.cells t cs) :: jd k p id r
 | b :: r=>b :: jd k p id r
section
variable {env:Nat->Loc} {B:Nat->Prop} {w:World} {id:Nat} (he:env id=.row none 0 0)
include he
theorem cd.vH:∀ {p:Nat} {cs:List ba} {vs:List Value},cd env B w cs vs->cd env B w (vH id p cs) vs:=by
 intro p
 induction p with
 | zero=>
  intro cs vs h;unfold Go.Proofs.YtcheedjfedcbpaaGreatDoor.vH
  split
  ·obtain⟨v,r,e,J,U⟩:=h
   exact⟨v,r,e,⟨none,0,0,he,J⟩,U⟩
  ·omega
  ·exact h
 | succ p bA=>
  intro cs vs h;cases cs with
  | nil=>exact h
  | cons c r=>
   obtain⟨v,q,e,J,U⟩:=h;exact⟨v,q,e,J,bA U⟩
theorem bu.jd{k p:Nat}:∀ {l:bx} {H:List bb},bu env B w l H->bu env B w (jd k p id l) H
 | [],_,h=>h
 | (j,.cells t cs) :: r,_,⟨c,H',e,J,U⟩=>by
  unfold Go.Proofs.YtcheedjfedcbpaaGreatDoor.jd
  split
  ·obtain⟨b,vs,ah,au,aF⟩:=J
   exact⟨c,H',e,⟨b,vs,ah,au,cd.vH he aF⟩,U⟩
  ·exact⟨c,H',e,J,bu.jd U⟩
 | (j,.row _ _ _ _) :: r,_,⟨c,H',e,J,U⟩=>⟨c,H',e,J,bu.jd U⟩
 | (j,.hq _ _) :: r,_,⟨c,H',e,J,U⟩=>⟨c,H',e,J,bu.jd U⟩
 | (j,.mp _ _ _ _) :: r,_,⟨c,H',e,J,U⟩=>⟨c,H',e,J,bu.jd U⟩
 | (j,.it _ _ _ _) :: r,_,⟨c,H',e,J,U⟩=>⟨c,H',e,J,bu.jd U⟩
 | (j,.gS _) :: r,_,⟨c,H',e,J,U⟩=>⟨c,H',e,J,bu.jd U⟩
 | (j,.jJ) :: r,_,⟨c,H',e,J,U⟩=>⟨c,H',e,J,bu.jd U⟩
 | (j,.cC _ _ _ _ _ _ _) :: r,_,⟨c,H',e,J,U⟩=>⟨c,H',e,J,bu.jd U⟩
 | (j,.kb) :: r,_,⟨c,H',e,J,U⟩=>⟨c,H',e,J,bu.jd U⟩
 | (j,.fk _ _ _) :: r,_,⟨c,H',e,J,U⟩=>⟨c,H',e,J,bu.jd U⟩
 | (j,.b5 _ _ _ _ _ _) :: r,_,⟨c,H',e,J,U⟩=>⟨c,H',e,J,bu.jd U⟩
end
theorem dh.r2{X:br} {n:Nat} {st:aM} (k p id:Nat) (t:TypeId) (g:aQ) (hid:Nat.blt id n=true):dh X n st ⟨eJ id .dead st.L,(id,.row t g [] none) :: jd k p id (dq id .dead st.H)⟩:=fun R W aG M a w ⟨ks,env,B,ai,H,bJ,h⟩=>by
 obtain⟨H2,J,U⟩:=h.heap.del (z:=.dead) (h1 (env:=env) (id:=id) (l:=.row none 0 0)) (fun _ _=>trivial);refine⟨ks,iE env id (.row none 0 0),B,ai,.row none 0 t g.size 0 [] :: H2,bJ,h.size,h.defs,fun q u hu=>?_,⟨_,H2,rfl,⟨none,0,[],eG,rfl,rfl,fun _ ao=>by cases ao⟩,bu.jd eG U⟩,(h.aJ.pD t g.size).ep ((J.append_right _).cons_cons _),h.sub,h.new,pH h.df (fun q aq=>by have J:=(h.df _ _ aq).1; have U:=du hid; omega),h.base,h.dQ⟩;obtain⟨hz,hA,rfl⟩:=l2 hu;obtain⟨eF,aY,bK⟩:=h.has q hz hA;exact⟨eF,aY,ei.sub (z:=.dead) h1 (fun _ _=>trivial) bK⟩
end
theorem AC.Mg{X:br} {f:FuncId} {args:List bf} {sv:b0} {v0:Value} (iQ:∀ env B w,ei env B w sv v0)
  (dT:∀ (env:Nat->Loc) (B:Nat->Prop) (ai:World) (vs:List Value) (W:World),vn X B W->dw env B W args vs->(∀ k,B k->k < W.heap.size)->oJ X.P f vs.toArray W (fun v w'=>v=v0/\Below W.heap.size W w')):AC X f args [] (fun s h=>s=sv/\h=[]):=by
 intro B ai env vs H W aL bo cn ak;have e:H=[]:=cn;subst e;have c8:ft B ai B W:=⟨fun _ h=>h,ak.below.block⟩
 refine(dT env B ai vs W (fun i x aj=>(aL i x aj).up c8) (bo.up c8) ak.base).mono ?_;rintro v w' ⟨rfl,ae⟩;refine⟨env,B,W,[],sv,[],⟨rfl,rfl⟩,fun _ h=>h,fun _ h=>.inl h,c6.refl _ _,iQ _ _ _,rfl,⟨⟨ae.os,ae.tape,ae.output,ae.size,fun k ab=>ae.block k (ab.elim (fun h=>h.1) (ak.base k))⟩,fun k ab=>Nat.lt_of_lt_of_le (ab.elim (fun h=>h.1) (ak.base k)) ae.size,(fun _ h=>by cases h),List.Pairwise.nil⟩,fun _ _ _ h=>h⟩
theorem UF{env:Nat->Loc} {B:Nat->Prop} {w:World} {g:aQ} {v:Value} (h:dI env B w (.c (.val (.slice none 0 0))) v):dI env B w (.c (.bn g [] (some 0))) v:=by
 have e:v=_:=h;subst e;exact⟨none,0,[],rfl,Nat.le_refl _,Nat.zero_le _,fun _ h=>by cases h; rfl,rfl,Reads.nil _ _ _,fun _ _ h=>absurd h (Nat.lt_irrefl 0)⟩
theorem Fy{B:Nat->Prop} {w:World} {k:IntKind}:∀ {l:List Int} {vs:List Value},Flat (bz B w (.int k)) l vs->vs=l.map fun z=>Value.int k z
 | [],_,h=>h
 | x :: l,_,⟨v1,v2,e,J,U⟩=>by rw[e,show v1=_ from J,Fy U]; rfl
theorem Mh{B:Nat->Prop} {w:World}:∀ {l:List (List UInt8)} {vs:List Value},Flat (bz B w .str) l vs->vs=l.map eP
 | [],_,h=>h
 | x :: l,_,⟨v1,v2,e,J,U⟩=>by rw[e,show v1=_ from J,Mh U]; rfl
theorem rH.UG{P:Program} {B:Nat->Prop} {w:World} {i:Nat} {k:IntKind} {zs:List Int} (h:rH B w i ⟨.int k,zs⟩) {name:String} (a7:P.globalNamed name=some i):Lib.TabIs P w name k zs:=by
 obtain⟨⟨b,o,vs,e,ae,aA,aa⟩,cs,t,dB,J,U⟩:=h;cases e;have pI:=Fy aA;unfold Lib.TabIs World.var?;rw[a7];simp only[Option.bind_some,J,Option.some.injEq];have ad:cs.size=vs.length:=by rw[U,pI]; simp[aQ.size]
 rw[<- pI]
 apply Array.ext (by simpa using ad)
 intro j Fz UH;have aR:j < vs.length:=by simpa using UH
 have:=aa j vs[j] (List.getElem?_eq_getElem aR)
 simp only[Nat.zero_add,World.cell?,J]at this;rw[Array.getElem?_eq_getElem Fz]at this
 simpa using this
def hj(d:TypeDesc)(s b:Nat)(z:Value)(g:Option aQ):bh:=⟨⟨d,s,b,z⟩,g⟩
def ki(k:IntKind)(b:Nat):bh:=hj (.int k) 1 b (.int k 0) (some (.int k))
def c4(a r:Array TypeId)(v:Bool):bh:=hj (.func a r v) 1 8 .nilFunc none
def tm(t:TypeId):bh:=hj (.pointer t) 1 8 (.pointer none) none
def jR(t:TypeId)(g:Option aQ):bh:=hj (.slice t) 1 24 (.slice none 0 0) g
def cK(n:String)(t:TypeId)(o b:Nat):Field:=⟨n,t,o,false,"","",b⟩
def ig(f:Array Field)(s b:Nat)(g:aQ):bh:=hj (.struct f) s b (.agg g.eh.toArray) (some g)
theorem cE{P:Program} {t:TypeId} {d:TypeDesc} {s b:Nat} {z:Value} (h:P.underlying t=some d) (U:(P.info? t).map (fun x=>(x.size,x.bytes,x.zero))=some (s,b,some z)):bh.ok P t (hj d s b z none):=⟨⟨h,U⟩,fun g aL=>by cases aL⟩
theorem dj{P:Program} {t:TypeId} {d:TypeDesc} {s b:Nat} {z:Value} {g:aQ} (h:P.underlying t=some d) (U:(P.info? t).map (fun x=>(x.size,x.bytes,x.zero))=some (s,b,some z)) (ah:g.size=s) (au:z.cells.toList=g.eh) (aF:Nat.blt 0 s=true):bh.ok P t (hj d s b z (some g)):=⟨⟨h,U⟩,fun g' aL=>by cases aL;exact⟨ah,au,ah ▸ du aF⟩⟩
def UI:bh:=c4 #[] #[] false
def UJ:bh:=ki .i64 8
def UK:bh:=ki .i64 8
def UL:bh:=hj (.bool) 1 1 (.bool false) (some (.bool))
def UM:bh:=ki .u8 1
def UN:bh:=ki .u8 1
def UO:bh:=hj (.string) 1 16 (.string { data:=#[] }) (some (.str))
def UP:bh:=hj (.string) 1 16 (.string { data:=#[] }) (some (.str))
def UQ:bh:=hj (.string) 1 16 (.string { data:=#[] }) (some (.str))
def UR:bh:=ki .u64 8
def US:bh:=tm 320
def UT:bh:=tm 323
def UU:bh:=tm 331
def UW:bh:=hj (.interface #[]) 1 16 (.nilIface) none
def UX:bh:=ki .i32 4
def UY:bh:=jR 84 (some (.an (.pair (.int .u8) (.pair (.int .u8) (.int .u8)))))
def UZ:bh:=jR 84 (some (.an (.pair (.int .u8) (.pair (.int .u8) (.int .u8)))))
def U0:bh:=jR 3 (some (.an (.int .i64)))
def U1:bh:=c4 #[4] #[24,24,24] false
def U2:bh:=jR 34 (some (.an (.an (.pair (.int .u8) (.int .i64)))))
def U3:bh:=ig #[cK "Front" 27 0 0,cK "Back" 27 1 24] 2 48 (.pair (.an (.an (.pair (.int .u8) (.int .i64)))) (.an (.an (.pair (.int .u8) (.int .i64)))))
def U4:bh:=ig #[cK "Front" 27 0 0,cK "Back" 27 1 24] 2 48 (.pair (.an (.an (.pair (.int .u8) (.int .i64)))) (.an (.an (.pair (.int .u8) (.int .i64)))))
def U5:bh:=jR 73 (some (.an (.pair (.bool) (.pair (.int .i64) (.pair (.int .i64) (.pair (.bool) (.an (.pair (.pair (.int .u8) (.int .i64)) (.pair (.bool) (.int .u8))))))))))
def U6:bh:=jR 118 (some (.an (.an (.pair (.int .u8) (.pair (.bool) (.pair (.an (.pair (.int .u8) (.int .i64))) (.an (.pair (.pair (.int .u8) (.int .i64)) (.pair (.bool) (.int .u8))))))))))
def U7:bh:=jR 118 (some (.an (.an (.pair (.int .u8) (.pair (.bool) (.pair (.an (.pair (.int .u8) (.int .i64))) (.an (.pair (.pair (.int .u8) (.int .i64)) (.pair (.bool) (.int .u8))))))))))
def U8:bh:=jR 124 (some (.an (.pair (.pair (.int .u8) (.int .i64)) (.pair (.pair (.int .u8) (.int .i64)) (.int .i64)))))
def U9:bh:=jR 102 (some (.an (.pair (.int .u8) (.int .i64))))
def Va:bh:=ig #[cK "Yarns" 32 0 0,cK "Crossings" 33 1 24,cK "Held" 34 2 48,cK "Fallen" 34 3 72] 4 96 (.pair (.an (.an (.pair (.int .u8) (.pair (.bool) (.pair (.an (.pair (.int .u8) (.int .i64))) (.an (.pair (.pair (.int .u8) (.int .i64)) (.pair (.bool) (.int .u8))))))))) (.pair (.an (.pair (.pair (.int .u8) (.int .i64)) (.pair (.pair (.int .u8) (.int .i64)) (.int .i64)))) (.pair (.an (.pair (.int .u8) (.int .i64))) (.an (.pair (.int .u8) (.int .i64))))))
def Vb:bh:=ig #[cK "Yarns" 32 0 0,cK "Crossings" 33 1 24,cK "Held" 34 2 48,cK "Fallen" 34 3 72] 4 96 (.pair (.an (.an (.pair (.int .u8) (.pair (.bool) (.pair (.an (.pair (.int .u8) (.int .i64))) (.an (.pair (.pair (.int .u8) (.int .i64)) (.pair (.bool) (.int .u8))))))))) (.pair (.an (.pair (.pair (.int .u8) (.int .i64)) (.pair (.pair (.int .u8) (.int .i64)) (.int .i64)))) (.pair (.an (.pair (.int .u8) (.int .i64))) (.an (.pair (.int .u8) (.int .i64))))))
def Vc:bh:=ig #[cK "Rack" 3 0 0,cK "Beds" 29 1 8,cK "Yarns" 30 3 56,cK "Fabric" 36 4 80] 8 176 (.pair (.int .i64) (.pair (.pair (.an (.an (.pair (.int .u8) (.int .i64)))) (.an (.an (.pair (.int .u8) (.int .i64))))) (.pair (.an (.pair (.bool) (.pair (.int .i64) (.pair (.int .i64) (.pair (.bool) (.an (.pair (.pair (.int .u8) (.int .i64)) (.pair (.bool) (.int .u8))))))))) (.pair (.an (.an (.pair (.int .u8) (.pair (.bool) (.pair (.an (.pair (.int .u8) (.int .i64))) (.an (.pair (.pair (.int .u8) (.int .i64)) (.pair (.bool) (.int .u8))))))))) (.pair (.an (.pair (.pair (.int .u8) (.int .i64)) (.pair (.pair (.int .u8) (.int .i64)) (.int .i64)))) (.pair (.an (.pair (.int .u8) (.int .i64))) (.an (.pair (.int .u8) (.int .i64)))))))))
def Vd:bh:=ig #[cK "Rack" 3 0 0,cK "Beds" 29 1 8,cK "Yarns" 30 3 56,cK "Fabric" 36 4 80] 8 176 (.pair (.int .i64) (.pair (.pair (.an (.an (.pair (.int .u8) (.int .i64)))) (.an (.an (.pair (.int .u8) (.int .i64))))) (.pair (.an (.pair (.bool) (.pair (.int .i64) (.pair (.int .i64) (.pair (.bool) (.an (.pair (.pair (.int .u8) (.int .i64)) (.pair (.bool) (.int .u8))))))))) (.pair (.an (.an (.pair (.int .u8) (.pair (.bool) (.pair (.an (.pair (.int .u8) (.int .i64))) (.an (.pair (.pair (.int .u8) (.int .i64)) (.pair (.bool) (.int .u8))))))))) (.pair (.an (.pair (.pair (.int .u8) (.int .i64)) (.pair (.pair (.int .u8) (.int .i64)) (.int .i64)))) (.pair (.an (.pair (.int .u8) (.int .i64))) (.an (.pair (.int .u8) (.int .i64)))))))))
def Ve:bh:=c4 #[24,24] #[38] false
def Vf:bh:=jR 57 (some (.an (.pair (.int .u8) (.pair (.int .u8) (.pair (.pair (.int .u8) (.int .i64)) (.pair (.int .u8) (.int .i64)))))))
def Vg:bh:=ki .i64 8
def Vh:bh:=c4 #[24,24] #[40,41] false
def Vi:bh:=c4 #[38,40] #[38,3,41] false
def Vj:bh:=c4 #[34,34] #[4] false
def Vk:bh:=c4 #[29,50] #[34] false
def Vl:bh:=ki .u8 1
def Vm:bh:=ig #[cK "Bed" 48 0 0,cK "At" 3 1 8] 2 16 (.pair (.int .u8) (.int .i64))
def Vn:bh:=ig #[cK "Bed" 48 0 0,cK "At" 3 1 8] 2 16 (.pair (.int .u8) (.int .i64))
def Vo:bh:=c4 #[] #[4] false
def Vp:bh:=c4 #[23,4] #[4] false
def Vq:bh:=jR 50 (some (.an (.pair (.int .u8) (.int .i64))))
def Vr:bh:=ki .u8 1
def Vs:bh:=ki .u8 1
def Vt:bh:=ig #[cK "Kind" 54 0 0,cK "Dir" 55 1 1,cK "Needle" 50 2 8,cK "Yarn" 5 4 24,cK "Rack" 3 5 32] 6 40 (.pair (.int .u8) (.pair (.int .u8) (.pair (.pair (.int .u8) (.int .i64)) (.pair (.int .u8) (.int .i64)))))
def Vu:bh:=ig #[cK "Kind" 54 0 0,cK "Dir" 55 1 1,cK "Needle" 50 2 8,cK "Yarn" 5 4 24,cK "Rack" 3 5 32] 6 40 (.pair (.int .u8) (.pair (.int .u8) (.pair (.pair (.int .u8) (.int .i64)) (.pair (.int .u8) (.int .i64)))))
def Vv:bh:=c4 #[53] #[40,41] false
def Vw:bh:=c4 #[36,36] #[4] false
def Vx:bh:=c4 #[23] #[24] false
def Vy:bh:=c4 #[5,24] #[40,41] false
def Vz:bh:=c4 #[] #[38] false
def VA:bh:=jR 137 (some (.an (.pair (.int .u8) (.an (.pair (.int .u8) (.int .i64))))))
def VB:bh:=ig #[cK "Slots" 65 0 0,cK "Yarns" 30 1 24,cK "Fabric" 36 2 48,cK "Dir" 55 6 144] 7 152 (.pair (.an (.pair (.int .u8) (.an (.pair (.int .u8) (.int .i64))))) (.pair (.an (.pair (.bool) (.pair (.int .i64) (.pair (.int .i64) (.pair (.bool) (.an (.pair (.pair (.int .u8) (.int .i64)) (.pair (.bool) (.int .u8))))))))) (.pair (.pair (.an (.an (.pair (.int .u8) (.pair (.bool) (.pair (.an (.pair (.int .u8) (.int .i64))) (.an (.pair (.pair (.int .u8) (.int .i64)) (.pair (.bool) (.int .u8))))))))) (.pair (.an (.pair (.pair (.int .u8) (.int .i64)) (.pair (.pair (.int .u8) (.int .i64)) (.int .i64)))) (.pair (.an (.pair (.int .u8) (.int .i64))) (.an (.pair (.int .u8) (.int .i64)))))) (.int .u8))))
def VC:bh:=ig #[cK "Slots" 65 0 0,cK "Yarns" 30 1 24,cK "Fabric" 36 2 48,cK "Dir" 55 6 144] 7 152 (.pair (.an (.pair (.int .u8) (.an (.pair (.int .u8) (.int .i64))))) (.pair (.an (.pair (.bool) (.pair (.int .i64) (.pair (.int .i64) (.pair (.bool) (.an (.pair (.pair (.int .u8) (.int .i64)) (.pair (.bool) (.int .u8))))))))) (.pair (.pair (.an (.an (.pair (.int .u8) (.pair (.bool) (.pair (.an (.pair (.int .u8) (.int .i64))) (.an (.pair (.pair (.int .u8) (.int .i64)) (.pair (.bool) (.int .u8))))))))) (.pair (.an (.pair (.pair (.int .u8) (.int .i64)) (.pair (.pair (.int .u8) (.int .i64)) (.int .i64)))) (.pair (.an (.pair (.int .u8) (.int .i64))) (.an (.pair (.int .u8) (.int .i64)))))) (.int .u8))))
def VD:bh:=c4 #[5,3] #[67,41] false
def VE:bh:=c4 #[73,73] #[4] false
def VF:bh:=jR 116 (some (.an (.pair (.pair (.int .u8) (.int .i64)) (.pair (.bool) (.int .u8)))))
def VG:bh:=ig #[cK "In" 4 0 0,cK "Place" 3 1 8,cK "Count" 3 2 16,cK "New" 4 3 24,cK "Pending" 71 4 32] 5 56 (.pair (.bool) (.pair (.int .i64) (.pair (.int .i64) (.pair (.bool) (.an (.pair (.pair (.int .u8) (.int .i64)) (.pair (.bool) (.int .u8))))))))
def VH:bh:=ig #[cK "In" 4 0 0,cK "Place" 3 1 8,cK "Count" 3 2 16,cK "New" 4 3 24,cK "Pending" 71 4 32] 5 56 (.pair (.bool) (.pair (.int .i64) (.pair (.int .i64) (.pair (.bool) (.an (.pair (.pair (.int .u8) (.int .i64)) (.pair (.bool) (.int .u8))))))))
def VI:bh:=c4 #[50,3] #[3] false
def VJ:bh:=hj (.array 2 5) 2 2 (.agg #[.int .u8 0,.int .u8 0]) (some (.pair (.int .u8) (.int .u8)))
def VK:bh:=c4 #[73,3,71] #[73,41] false
def VL:bh:=hj (.array 3 5) 3 3 (.agg #[.int .u8 0,.int .u8 0,.int .u8 0]) (some (.pair (.int .u8) (.pair (.int .u8) (.int .u8))))
def VM:bh:=c4 #[24] #[41] false
def VN:bh:=hj (.struct #[{ name := "ops",type := 40,offset := 0,embedded := false,tag := "",pkgPath := "gansey/shifts",byteOffset := 0 },{ name := "rack",type := 3,offset := 1,embedded := false,tag := "",pkgPath := "gansey/shifts",byteOffset := 24 }]) 2 32 (.agg #[.slice none 0 0,.int .i64 0]) (some (.pair (.an (.pair (.int .u8) (.pair (.int .u8) (.pair (.pair (.int .u8) (.int .i64)) (.pair (.int .u8) (.int .i64)))))) (.int .i64)))
def VO:bh:=hj (.struct #[{ name := "ops",type := 40,offset := 0,embedded := false,tag := "",pkgPath := "gansey/shifts",byteOffset := 0 },{ name := "rack",type := 3,offset := 1,embedded := false,tag := "",pkgPath := "gansey/shifts",byteOffset := 24 }]) 2 32 (.agg #[.slice none 0 0,.int .i64 0]) (some (.pair (.an (.pair (.int .u8) (.pair (.int .u8) (.pair (.pair (.int .u8) (.int .i64)) (.pair (.int .u8) (.int .i64)))))) (.int .i64)))
def VP:bh:=c4 #[24,3] #[] false
def VQ:bh:=c4 #[3] #[3] false
def VR:bh:=c4 #[163] #[] false
def VS:bh:=c4 #[163] #[] false
def VT:bh:=c4 #[24] #[91] false
def VU:bh:=c4 #[3] #[] false
def VV:bh:=c4 #[40] #[40] false
def VW:bh:=c4 #[38] #[41] false
def VX:bh:=tm 172
def VY:bh:=c4 #[38] #[96] false
def VZ:bh:=hj (.map 54 174) 1 8 (.map none) none
def V0:bh:=c4 #[] #[98] false
def V1:bh:=c4 #[98,57] #[41] false
def V3:bh:=ig #[cK "Yarn" 5 0 0,cK "N" 3 1 8] 2 16 (.pair (.int .u8) (.int .i64))
def V4:bh:=ig #[cK "Yarn" 5 0 0,cK "N" 3 1 8] 2 16 (.pair (.int .u8) (.int .i64))
def V5:bh:=c4 #[50] #[41] false
def V6:bh:=c4 #[34] #[34] false
def V7:bh:=jR 24 (some (.an (.an (.int .i64))))
def V8:bh:=jR 9 (some (.an (.str)))
def V9:bh:=c4 #[40] #[9] false
def Wa:bh:=c4 #[40] #[] true
def Wb:bh:=c4 #[27,27,46] #[4] false
def Wc:bh:=c4 #[27] #[3] false
def Wd:bh:=ig #[cK "Bed" 48 0 0,cK "New" 4 1 1,cK "Through" 34 2 8,cK "Past" 71 3 32] 4 56 (.pair (.int .u8) (.pair (.bool) (.pair (.an (.pair (.int .u8) (.int .i64))) (.an (.pair (.pair (.int .u8) (.int .i64)) (.pair (.bool) (.int .u8)))))))
def We:bh:=ig #[cK "Id" 102 0 0,cK "Front" 4 2 16,cK "Dir" 55 3 17] 4 24 (.pair (.pair (.int .u8) (.int .i64)) (.pair (.bool) (.int .u8)))
def Wf:bh:=c4 #[113,113] #[4] false
def Wg:bh:=jR 113 (some (.an (.pair (.int .u8) (.pair (.bool) (.pair (.an (.pair (.int .u8) (.int .i64))) (.an (.pair (.pair (.int .u8) (.int .i64)) (.pair (.bool) (.int .u8)))))))))
def Wh:bh:=c4 #[118,118] #[4] false
def Wi:bh:=c4 #[32,32,120] #[4] false
def Wj:bh:=c4 #[33,33] #[4] false
def Wk:bh:=ig #[cK "A" 102 0 0,cK "B" 102 2 16,cK "N" 3 4 32] 5 40 (.pair (.pair (.int .u8) (.int .i64)) (.pair (.pair (.int .u8) (.int .i64)) (.int .i64)))
def Wl:bh:=ig #[cK "A" 102 0 0,cK "B" 102 2 16,cK "N" 3 4 32] 5 40 (.pair (.pair (.int .u8) (.int .i64)) (.pair (.pair (.int .u8) (.int .i64)) (.int .i64)))
def Wm:bh:=c4 #[5,24] #[41] false
def Wn:bh:=c4 #[54,3] #[57] false
def Wo:bh:=c4 #[] #[36] false
def Wp:bh:=tm 132
def Wq:bh:=jR 335 (some (.an (.pair (.int .u8) (.pair (.int .u8) (.pair (.int .i64) (.pair (.int .i64) (.bool)))))))
def Wr:bh:=jR 65 (some (.an (.an (.pair (.int .u8) (.an (.pair (.int .u8) (.int .i64)))))))
def Ws:bh:=hj (.struct #[{ name := "row",type := 129,offset := 0,embedded := false,tag := "",pkgPath := "gansey/rows",byteOffset := 0 },{ name := "slots",type := 130,offset := 1,embedded := false,tag := "",pkgPath := "gansey/rows",byteOffset := 24 },{ name := "yarns",type := 30,offset := 2,embedded := false,tag := "",pkgPath := "gansey/rows",byteOffset := 48 },{ name := "table",type := 32,offset := 3,embedded := false,tag := "",pkgPath := "gansey/rows",byteOffset := 72 },{ name := "dir",type := 55,offset := 4,embedded := false,tag := "",pkgPath := "gansey/rows",byteOffset := 96 }]) 5 104 (.agg #[.slice none 0 0,.slice none 0 0,.slice none 0 0,.slice none 0 0,.int .u8 0]) (some (.pair (.an (.pair (.int .u8) (.pair (.int .u8) (.pair (.int .i64) (.pair (.int .i64) (.bool)))))) (.pair (.an (.an (.pair (.int .u8) (.an (.pair (.int .u8) (.int .i64)))))) (.pair (.an (.pair (.bool) (.pair (.int .i64) (.pair (.int .i64) (.pair (.bool) (.an (.pair (.pair (.int .u8) (.int .i64)) (.pair (.bool) (.int .u8))))))))) (.pair (.an (.an (.pair (.int .u8) (.pair (.bool) (.pair (.an (.pair (.int .u8) (.int .i64))) (.an (.pair (.pair (.int .u8) (.int .i64)) (.pair (.bool) (.int .u8))))))))) (.int .u8))))))
def Wt:bh:=hj (.struct #[{ name := "row",type := 129,offset := 0,embedded := false,tag := "",pkgPath := "gansey/rows",byteOffset := 0 },{ name := "slots",type := 130,offset := 1,embedded := false,tag := "",pkgPath := "gansey/rows",byteOffset := 24 },{ name := "yarns",type := 30,offset := 2,embedded := false,tag := "",pkgPath := "gansey/rows",byteOffset := 48 },{ name := "table",type := 32,offset := 3,embedded := false,tag := "",pkgPath := "gansey/rows",byteOffset := 72 },{ name := "dir",type := 55,offset := 4,embedded := false,tag := "",pkgPath := "gansey/rows",byteOffset := 96 }]) 5 104 (.agg #[.slice none 0 0,.slice none 0 0,.slice none 0 0,.slice none 0 0,.int .u8 0]) (some (.pair (.an (.pair (.int .u8) (.pair (.int .u8) (.pair (.int .i64) (.pair (.int .i64) (.bool)))))) (.pair (.an (.an (.pair (.int .u8) (.an (.pair (.int .u8) (.int .i64)))))) (.pair (.an (.pair (.bool) (.pair (.int .i64) (.pair (.int .i64) (.pair (.bool) (.an (.pair (.pair (.int .u8) (.int .i64)) (.pair (.bool) (.int .u8))))))))) (.pair (.an (.an (.pair (.int .u8) (.pair (.bool) (.pair (.an (.pair (.int .u8) (.int .i64))) (.an (.pair (.pair (.int .u8) (.int .i64)) (.pair (.bool) (.int .u8))))))))) (.int .u8))))))
def Wu:bh:=c4 #[5] #[41] false
def Wv:bh:=c4 #[5,48,34] #[102,41] false
def Ww:bh:=ig #[cK "Bed" 48 0 0,cK "Loops" 34 1 8] 2 32 (.pair (.int .u8) (.an (.pair (.int .u8) (.int .i64))))
def Wx:bh:=ig #[cK "Bed" 48 0 0,cK "Loops" 34 1 8] 2 32 (.pair (.int .u8) (.an (.pair (.int .u8) (.int .i64))))
def Wy:bh:=c4 #[5,3,71] #[41] false
def Wz:bh:=c4 #[36,65] #[67] false
def WA:bh:=c4 #[3] #[4] false
def WB:bh:=c4 #[142] #[40,41] false
def WC:bh:=jR 5 (some (.an (.int .u8)))
def WD:bh:=c4 #[73] #[41] false
def WE:bh:=c4 #[71,71] #[71] false
def WG:bh:=c4 #[65] #[34] false
def WH:bh:=c4 #[71] #[] false
def WI:bh:=c4 #[55] #[4] false
def WJ:bh:=c4 #[3] #[50] false
def WK:bh:=c4 #[67] #[41] false
def WL:bh:=c4 #[32] #[3] false
def WM:bh:=c4 #[34,102] #[34] false
def WN:bh:=c4 #[33] #[33] false
def WO:bh:=c4 #[32,5,3] #[32] false
def WQ:bh:=ig #[cK "N" 3 0 0,cK "New" 4 1 8,cK "Past" 71 2 16] 3 40 (.pair (.int .i64) (.pair (.bool) (.an (.pair (.pair (.int .u8) (.int .i64)) (.pair (.bool) (.int .u8))))))
def WR:bh:=ig #[cK "N" 3 0 0,cK "New" 4 1 8,cK "Past" 71 2 16] 3 40 (.pair (.int .i64) (.pair (.bool) (.an (.pair (.pair (.int .u8) (.int .i64)) (.pair (.bool) (.int .u8))))))
def WS:bh:=tm 87
def WT:bh:=c4 #[24] #[24] false
def WU:bh:=c4 #[48,24,3] #[] false
def WV:bh:=c4 #[3,3] #[4] false
def WW:bh:=c4 #[29] #[41] false
def WX:bh:=c4 #[30] #[30] false
def WY:bh:=hj (.map 173 3) 1 8 (.map none) none
def WZ:bh:=hj (.struct #[{ name := "rack",type := 3,offset := 0,embedded := false,tag := "",pkgPath := "gansey/machines",byteOffset := 0 },{ name := "beds",type := 29,offset := 1,embedded := false,tag := "",pkgPath := "gansey/machines",byteOffset := 8 },{ name := "yarns",type := 30,offset := 3,embedded := false,tag := "",pkgPath := "gansey/machines",byteOffset := 56 },{ name := "table",type := 32,offset := 4,embedded := false,tag := "",pkgPath := "gansey/machines",byteOffset := 80 },{ name := "cross",type := 170,offset := 5,embedded := false,tag := "",pkgPath := "gansey/machines",byteOffset := 104 },{ name := "fallen",type := 34,offset := 6,embedded := false,tag := "",pkgPath := "gansey/machines",byteOffset := 112 }]) 7 136 (.agg #[.int .i64 0,.slice none 0 0,.slice none 0 0,.slice none 0 0,.slice none 0 0,.map none,.slice none 0 0]) none
def W0:bh:=hj (.array 2 102) 4 32 (.agg #[.int .u8 0,.int .i64 0,.int .u8 0,.int .i64 0]) (some (.pair (.pair (.int .u8) (.int .i64)) (.pair (.int .u8) (.int .i64))))
def W1:bh:=c4 #[96,57] #[41] false
def W2:bh:=c4 #[57] #[41] false
def W3:bh:=c4 #[33,178] #[] false
def W4:bh:=c4 #[102,102] #[3] false
def W5:bh:=c4 #[124,124] #[3] false
def W6:bh:=c4 #[27] #[34] true
def W7:bh:=c4 #[73,3,32] #[4] false
def W8:bh:=c4 #[225] #[] false
def W9:bh:=c4 #[225] #[] false
def Xa:bh:=c4 #[29] #[191] false
def Xb:bh:=hj (.map 102 4) 1 8 (.map none) none
def Xc:bh:=c4 #[29] #[3] false
def Xd:bh:=jR 200 (some (.an (.pair (.pair (.int .u8) (.int .i64)) (.pair (.pair (.int .u8) (.int .i64)) (.int .i64)))))
def Xe:bh:=ig #[cK "Id" 102 0 0,cK "Needle" 50 2 16,cK "Spot" 3 4 32] 5 40 (.pair (.pair (.int .u8) (.int .i64)) (.pair (.pair (.int .u8) (.int .i64)) (.int .i64)))
def Xf:bh:=c4 #[57] #[4] false
def Xg:bh:=c4 #[33,3,3,3,178] #[] false
def Xh:bh:=c4 #[215] #[3] false
def Xi:bh:=ki .u64 8
def Xj:bh:=c4 #[24] #[3] true
def Xk:bh:=hj (.array 9 9) 9 144 (.agg #[.string { data:=#[] },.string { data:=#[] },.string { data:=#[] },.string { data:=#[] },.string { data:=#[] },.string { data:=#[] },.string { data:=#[] },.string { data:=#[] },.string { data:=#[] }]) (some (.pair (.str) (.pair (.str) (.pair (.str) (.pair (.str) (.pair (.str) (.pair (.str) (.pair (.str) (.pair (.str) (.str))))))))))
def Xl:bh:=hj (.array 2 9) 2 32 (.agg #[.string { data:=#[] },.string { data:=#[] }]) (some (.pair (.str) (.str)))
def Xm:bh:=c4 #[48,27] #[4] false
def Xn:bh:=c4 #[281] #[] false
def Xo:bh:=c4 #[281] #[] false
def Xp:bh:=hj (.array 2 34) 2 48 (.agg #[.slice none 0 0,.slice none 0 0]) (some (.pair (.an (.pair (.int .u8) (.int .i64))) (.an (.pair (.int .u8) (.int .i64)))))
def Xq:bh:=hj (.map 102 3) 1 8 (.map none) none
def Xr:bh:=c4 #[200,200] #[3] false
def Xs:bh:=hj (.struct #[{ name := "dir",type := 4,offset := 0,embedded := false,tag := "",pkgPath := "gansey/operations",byteOffset := 0 },{ name := "needle",type := 4,offset := 1,embedded := false,tag := "",pkgPath := "gansey/operations",byteOffset := 1 },{ name := "yarn",type := 4,offset := 2,embedded := false,tag := "",pkgPath := "gansey/operations",byteOffset := 2 },{ name := "rack",type := 4,offset := 3,embedded := false,tag := "",pkgPath := "gansey/operations",byteOffset := 3 }]) 4 4 (.agg #[.bool false,.bool false,.bool false,.bool false]) (some (.pair (.bool) (.pair (.bool) (.pair (.bool) (.bool)))))
def Xt:bh:=hj (.map 54 251) 1 8 (.map none) none
def Xu:bh:=ki .i64 8
def Xv:bh:=ki .u32 4
def Xw:bh:=ki .u64 8
def Xx:bh:=c4 #[50,34] #[4] false
def Xy:bh:=tm 5
def Xz:bh:=hj (.array 0 16) 0 0 (.agg #[]) none
def XA:bh:=ki .u8 1
def XB:bh:=ki .u8 1
def XC:bh:=c4 #[311,311] #[4] false
def XD:bh:=ki .i32 4
def XE:bh:=ki .i32 4
def XF:bh:=hj (.struct #[cK "Size_" 12 0 0,cK "PtrBytes" 12 1 8,cK "Hash" 264 2 16,cK "TFlag" 325 3 20,cK "Align_" 5 4 21,cK "FieldAlign_" 5 5 22,cK "Kind_" 326 6 23,cK "Equal" 327 7 24,cK "GCData" 298 8 32,cK "Str" 328 9 40,cK "PtrToThis" 329 10 44]) 11 48 (.agg #[.int .u64 0,.int .u64 0,.int .u32 0,.int .u8 0,.int .u8 0,.int .u8 0,.int .u8 0,.nilFunc,.pointer none,.int .i32 0,.int .i32 0]) none
def XG:bh:=ki .u8 1
def XH:bh:=ig #[cK "Kind" 333 0 0,cK "Yarn" 5 1 1,cK "A" 3 2 8,cK "B" 3 3 16,cK "Front" 4 4 24] 5 32 (.pair (.int .u8) (.pair (.int .u8) (.pair (.int .i64) (.pair (.int .i64) (.bool)))))
def tt:bV:=(.node (.node (.node (.node (.node (.node (.node (.node .leaf 1 UI .leaf) 2 UJ .leaf) 3 UK (.node (.node .leaf 4 UL .leaf) 5 UM .leaf)) 6 UN (.node (.node (.node .leaf 9 UO .leaf) 10 UP .leaf) 11 UQ (.node (.node .leaf 12 UR .leaf) 15 US .leaf))) 16 UT (.node (.node (.node (.node .leaf 17 UU .leaf) 20 UW .leaf) 21 UX (.node (.node .leaf 22 UY .leaf) 23 UZ .leaf)) 24 U0 (.node (.node (.node .leaf 26 U1 .leaf) 27 U2 .leaf) 28 U3 (.node .leaf 29 U4 .leaf)))) 30 U5 (.node (.node (.node (.node (.node .leaf 31 U6 .leaf) 32 U7 .leaf) 33 U8 (.node (.node .leaf 34 U9 .leaf) 35 Va .leaf)) 36 Vb (.node (.node (.node .leaf 37 Vc .leaf) 38 Vd .leaf) 39 Ve (.node (.node .leaf 40 Vf .leaf) 41 Vg .leaf))) 43 Vh (.node (.node (.node (.node .leaf 45 Vi .leaf) 46 Vj .leaf) 47 Vk (.node (.node .leaf 48 Vl .leaf) 49 Vm .leaf)) 50 Vn (.node (.node (.node .leaf 51 Vo .leaf) 52 Vp .leaf) 53 Vq (.node .leaf 54 Vr .leaf))))) 55 Vs (.node (.node (.node (.node (.node (.node .leaf 56 Vt .leaf) 57 Vu .leaf) 58 Vv (.node (.node .leaf 60 Vw .leaf) 62 Vx .leaf)) 63 Vy (.node (.node (.node .leaf 64 Vz .leaf) 65 VA .leaf) 66 VB (.node (.node .leaf 67 VC .leaf) 69 VD .leaf))) 70 VE (.node (.node (.node (.node .leaf 71 VF .leaf) 72 VG .leaf) 73 VH (.node (.node .leaf 74 VI .leaf) 75 VJ .leaf)) 77 VK (.node (.node (.node .leaf 84 VL .leaf) 85 VM .leaf) 86 VN (.node .leaf 87 VO .leaf)))) 88 VP (.node (.node (.node (.node (.node .leaf 89 VQ .leaf) 90 VR .leaf) 91 VS (.node (.node .leaf 92 VT .leaf) 93 VU .leaf)) 94 VV (.node (.node (.node .leaf 95 VW .leaf) 96 VX .leaf) 97 VY (.node (.node .leaf 98 VZ .leaf) 99 V0 .leaf))) 100 V1 (.node (.node (.node (.node .leaf 101 V3 .leaf) 102 V4 .leaf) 103 V5 (.node (.node .leaf 104 V6 .leaf) 105 V7 .leaf)) 106 V8 (.node (.node (.node .leaf 107 V9 .leaf) 108 Wa .leaf) 109 Wb (.node .leaf 110 Wc .leaf)))))) 113 Wd (.node (.node (.node (.node (.node (.node (.node .leaf 116 We .leaf) 117 Wf .leaf) 118 Wg (.node (.node .leaf 120 Wh .leaf) 121 Wi .leaf)) 122 Wj (.node (.node (.node .leaf 123 Wk .leaf) 124 Wl .leaf) 125 Wm (.node (.node .leaf 126 Wn .leaf) 127 Wo .leaf))) 128 Wp (.node (.node (.node (.node .leaf 129 Wq .leaf) 130 Wr .leaf) 131 Ws (.node (.node .leaf 132 Wt .leaf) 133 Wu .leaf)) 135 Wv (.node (.node (.node .leaf 136 Ww .leaf) 137 Wx .leaf) 138 Wy (.node .leaf 139 Wz .leaf)))) 140 WA (.node (.node (.node (.node (.node .leaf 141 WB .leaf) 142 WC .leaf) 143 WD (.node (.node .leaf 145 WE .leaf) 147 WG .leaf)) 148 WH (.node (.node (.node .leaf 149 WI .leaf) 150 WJ .leaf) 151 WK (.node (.node .leaf 152 WL .leaf) 153 WM .leaf))) 154 WN (.node (.node (.node (.node .leaf 155 WO .leaf) 156 WQ .leaf) 157 WR (.node (.node .leaf 160 WS .leaf) 161 WT .leaf)) 162 WU (.node (.node (.node .leaf 163 WV .leaf) 164 WW .leaf) 168 WX (.node .leaf 170 WY .leaf))))) 172 WZ (.node (.node (.node (.node (.node (.node .leaf 173 W0 .leaf) 174 W1 .leaf) 175 W2 (.node (.node .leaf 176 W3 .leaf) 177 W4 .leaf)) 178 W5 (.node (.node (.node .leaf 188 W6 .leaf) 189 W7 .leaf) 190 W8 (.node (.node .leaf 191 W9 .leaf) 192 Xa .leaf))) 193 Xb (.node (.node (.node (.node .leaf 194 Xc .leaf) 196 Xd .leaf) 200 Xe (.node (.node .leaf 212 Xf .leaf) 213 Xg .leaf)) 214 Xh (.node (.node (.node .leaf 215 Xi .leaf) 216 Xj .leaf) 221 Xk (.node .leaf 222 Xl .leaf)))) 225 Xm (.node (.node (.node (.node (.node .leaf 226 Xn .leaf) 227 Xo .leaf) 232 Xp (.node (.node .leaf 233 Xq .leaf) 238 Xr .leaf)) 251 Xs (.node (.node (.node .leaf 253 Xt .leaf) 256 Xu .leaf) 264 Xv (.node .leaf 266 Xw .leaf))) 281 Xx (.node (.node (.node (.node .leaf 298 Xy .leaf) 321 Xz .leaf) 325 XA (.node (.node .leaf 326 XB .leaf) 327 XC .leaf)) 328 XD (.node (.node (.node .leaf 329 XE .leaf) 331 XF .leaf) 333 XG (.node .leaf 335 XH .leaf)))))))
theorem b2:tt.ok Tryz.prog:=⟨⟨⟨⟨⟨⟨⟨⟨trivial,cE Tryz.underlying1 (by kernel_rfl),trivial⟩,dj Tryz.underlying2 (by kernel_rfl) rfl rfl rfl,trivial⟩,dj Tryz.underlying3 (by kernel_rfl) rfl rfl rfl,⟨⟨trivial,dj Tryz.underlying4 (by kernel_rfl) rfl rfl rfl,trivial⟩,dj Tryz.underlying5 (by kernel_rfl) rfl rfl rfl,trivial⟩⟩,dj Tryz.underlying6 (by kernel_rfl) rfl rfl rfl,⟨⟨⟨trivial,dj Tryz.underlying9 (by kernel_rfl) rfl rfl rfl,trivial⟩,dj Tryz.underlying10 (by kernel_rfl) rfl rfl rfl,trivial⟩,dj Tryz.underlying11 (by kernel_rfl) rfl rfl rfl,⟨⟨trivial,dj Tryz.underlying12 (by kernel_rfl) rfl rfl rfl,trivial⟩,cE Tryz.underlying15 (by kernel_rfl),trivial⟩⟩⟩,cE Tryz.underlying16 (by kernel_rfl),⟨⟨⟨⟨trivial,cE Tryz.underlying17 (by kernel_rfl),trivial⟩,cE Tryz.underlying20 (by kernel_rfl),trivial⟩,dj Tryz.underlying21 (by kernel_rfl) rfl rfl rfl,⟨⟨trivial,dj Tryz.underlying22 (by kernel_rfl) rfl rfl rfl,trivial⟩,dj Tryz.underlying23 (by kernel_rfl) rfl rfl rfl,trivial⟩⟩,dj Tryz.underlying24 (by kernel_rfl) rfl rfl rfl,⟨⟨⟨trivial,cE Tryz.underlying26 (by kernel_rfl),trivial⟩,dj Tryz.underlying27 (by kernel_rfl) rfl rfl rfl,trivial⟩,dj Tryz.underlying28 (by kernel_rfl) rfl rfl rfl,⟨trivial,dj Tryz.underlying29 (by kernel_rfl) rfl rfl rfl,trivial⟩⟩⟩⟩,dj Tryz.underlying30 (by kernel_rfl) rfl rfl rfl,⟨⟨⟨⟨⟨trivial,dj Tryz.underlying31 (by kernel_rfl) rfl rfl rfl,trivial⟩,dj Tryz.underlying32 (by kernel_rfl) rfl rfl rfl,trivial⟩,dj Tryz.underlying33 (by kernel_rfl) rfl rfl rfl,⟨⟨trivial,dj Tryz.underlying34 (by kernel_rfl) rfl rfl rfl,trivial⟩,dj Tryz.underlying35 (by kernel_rfl) rfl rfl rfl,trivial⟩⟩,dj Tryz.underlying36 (by kernel_rfl) rfl rfl rfl,⟨⟨⟨trivial,dj Tryz.underlying37 (by kernel_rfl) rfl rfl rfl,trivial⟩,dj Tryz.underlying38 (by kernel_rfl) rfl rfl rfl,trivial⟩,cE Tryz.underlying39 (by kernel_rfl),⟨⟨trivial,dj Tryz.underlying40 (by kernel_rfl) rfl rfl rfl,trivial⟩,dj Tryz.underlying41 (by kernel_rfl) rfl rfl rfl,trivial⟩⟩⟩,cE Tryz.underlying43 (by kernel_rfl),⟨⟨⟨⟨trivial,cE Tryz.underlying45 (by kernel_rfl),trivial⟩,cE Tryz.underlying46 (by kernel_rfl),trivial⟩,cE Tryz.underlying47 (by kernel_rfl),⟨⟨trivial,dj Tryz.underlying48 (by kernel_rfl) rfl rfl rfl,trivial⟩,dj Tryz.underlying49 (by kernel_rfl) rfl rfl rfl,trivial⟩⟩,dj Tryz.underlying50 (by kernel_rfl) rfl rfl rfl,⟨⟨⟨trivial,cE Tryz.underlying51 (by kernel_rfl),trivial⟩,cE Tryz.underlying52 (by kernel_rfl),trivial⟩,dj Tryz.underlying53 (by kernel_rfl) rfl rfl rfl,⟨trivial,dj Tryz.underlying54 (by kernel_rfl) rfl rfl rfl,trivial⟩⟩⟩⟩⟩,dj Tryz.underlying55 (by kernel_rfl) rfl rfl rfl,⟨⟨⟨⟨⟨⟨trivial,dj Tryz.underlying56 (by kernel_rfl) rfl rfl rfl,trivial⟩,dj Tryz.underlying57 (by kernel_rfl) rfl rfl rfl,trivial⟩,cE Tryz.underlying58 (by kernel_rfl),⟨⟨trivial,cE Tryz.underlying60 (by kernel_rfl),trivial⟩,cE Tryz.underlying62 (by kernel_rfl),trivial⟩⟩,cE Tryz.underlying63 (by kernel_rfl),⟨⟨⟨trivial,cE Tryz.underlying64 (by kernel_rfl),trivial⟩,dj Tryz.underlying65 (by kernel_rfl) rfl rfl rfl,trivial⟩,dj Tryz.underlying66 (by kernel_rfl) rfl rfl rfl,⟨⟨trivial,dj Tryz.underlying67 (by kernel_rfl) rfl rfl rfl,trivial⟩,cE Tryz.underlying69 (by kernel_rfl),trivial⟩⟩⟩,cE Tryz.underlying70 (by kernel_rfl),⟨⟨⟨⟨trivial,dj Tryz.underlying71 (by kernel_rfl) rfl rfl rfl,trivial⟩,dj Tryz.underlying72 (by kernel_rfl) rfl rfl rfl,trivial⟩,dj Tryz.underlying73 (by kernel_rfl) rfl rfl rfl,⟨⟨trivial,cE Tryz.underlying74 (by kernel_rfl),trivial⟩,dj Tryz.underlying75 (by kernel_rfl) rfl rfl rfl,trivial⟩⟩,cE Tryz.underlying77 (by kernel_rfl),⟨⟨⟨trivial,dj Tryz.underlying84 (by kernel_rfl) rfl rfl rfl,trivial⟩,cE Tryz.underlying85 (by kernel_rfl),trivial⟩,dj Tryz.underlying86 (by kernel_rfl) rfl rfl rfl,⟨trivial,dj Tryz.underlying87 (by kernel_rfl) rfl rfl rfl,trivial⟩⟩⟩⟩,cE Tryz.underlying88 (by kernel_rfl),⟨⟨⟨⟨⟨trivial,cE Tryz.underlying89 (by kernel_rfl),trivial⟩,cE Tryz.underlying90 (by kernel_rfl),trivial⟩,cE Tryz.underlying91 (by kernel_rfl),⟨⟨trivial,cE Tryz.underlying92 (by kernel_rfl),trivial⟩,cE Tryz.underlying93 (by kernel_rfl),trivial⟩⟩,cE Tryz.underlying94 (by kernel_rfl),⟨⟨⟨trivial,cE Tryz.underlying95 (by kernel_rfl),trivial⟩,cE Tryz.underlying96 (by kernel_rfl),trivial⟩,cE Tryz.underlying97 (by kernel_rfl),⟨⟨trivial,cE Tryz.underlying98 (by kernel_rfl),trivial⟩,cE Tryz.underlying99 (by kernel_rfl),trivial⟩⟩⟩,cE Tryz.underlying100 (by kernel_rfl),⟨⟨⟨⟨trivial,dj Tryz.underlying101 (by kernel_rfl) rfl rfl rfl,trivial⟩,dj Tryz.underlying102 (by kernel_rfl) rfl rfl rfl,trivial⟩,cE Tryz.underlying103 (by kernel_rfl),⟨⟨trivial,cE Tryz.underlying104 (by kernel_rfl),trivial⟩,dj Tryz.underlying105 (by kernel_rfl) rfl rfl rfl,trivial⟩⟩,dj Tryz.underlying106 (by kernel_rfl) rfl rfl rfl,⟨⟨⟨trivial,cE Tryz.underlying107 (by kernel_rfl),trivial⟩,cE Tryz.underlying108 (by kernel_rfl),trivial⟩,cE Tryz.underlying109 (by kernel_rfl),⟨trivial,cE Tryz.underlying110 (by kernel_rfl),trivial⟩⟩⟩⟩⟩⟩,dj Tryz.underlying113 (by kernel_rfl) rfl rfl rfl,⟨⟨⟨⟨⟨⟨⟨trivial,dj Tryz.underlying116 (by kernel_rfl) rfl rfl rfl,trivial⟩,cE Tryz.underlying117 (by kernel_rfl),trivial⟩,dj Tryz.underlying118 (by kernel_rfl) rfl rfl rfl,⟨⟨trivial,cE Tryz.underlying120 (by kernel_rfl),trivial⟩,cE Tryz.underlying121 (by kernel_rfl),trivial⟩⟩,cE Tryz.underlying122 (by kernel_rfl),⟨⟨⟨trivial,dj Tryz.underlying123 (by kernel_rfl) rfl rfl rfl,trivial⟩,dj Tryz.underlying124 (by kernel_rfl) rfl rfl rfl,trivial⟩,cE Tryz.underlying125 (by kernel_rfl),⟨⟨trivial,cE Tryz.underlying126 (by kernel_rfl),trivial⟩,cE Tryz.underlying127 (by kernel_rfl),trivial⟩⟩⟩,cE Tryz.underlying128 (by kernel_rfl),⟨⟨⟨⟨trivial,dj Tryz.underlying129 (by kernel_rfl) rfl rfl rfl,trivial⟩,dj Tryz.underlying130 (by kernel_rfl) rfl rfl rfl,trivial⟩,dj Tryz.underlying131 (by kernel_rfl) rfl rfl rfl,⟨⟨trivial,dj Tryz.underlying132 (by kernel_rfl) rfl rfl rfl,trivial⟩,cE Tryz.underlying133 (by kernel_rfl),trivial⟩⟩,cE Tryz.underlying135 (by kernel_rfl),⟨⟨⟨trivial,dj Tryz.underlying136 (by kernel_rfl) rfl rfl rfl,trivial⟩,dj Tryz.underlying137 (by kernel_rfl) rfl rfl rfl,trivial⟩,cE Tryz.underlying138 (by kernel_rfl),⟨trivial,cE Tryz.underlying139 (by kernel_rfl),trivial⟩⟩⟩⟩,cE Tryz.underlying140 (by kernel_rfl),⟨⟨⟨⟨⟨trivial,cE Tryz.underlying141 (by kernel_rfl),trivial⟩,dj Tryz.underlying142 (by kernel_rfl) rfl rfl rfl,trivial⟩,cE Tryz.underlying143 (by kernel_rfl),⟨⟨trivial,cE Tryz.underlying145 (by kernel_rfl),trivial⟩,cE Tryz.underlying147 (by kernel_rfl),trivial⟩⟩,cE Tryz.underlying148 (by kernel_rfl),⟨⟨⟨trivial,cE Tryz.underlying149 (by kernel_rfl),trivial⟩,cE Tryz.underlying150 (by kernel_rfl),trivial⟩,cE Tryz.underlying151 (by kernel_rfl),⟨⟨trivial,cE Tryz.underlying152 (by kernel_rfl),trivial⟩,cE Tryz.underlying153 (by kernel_rfl),trivial⟩⟩⟩,cE Tryz.underlying154 (by kernel_rfl),⟨⟨⟨⟨trivial,cE Tryz.underlying155 (by kernel_rfl),trivial⟩,dj Tryz.underlying156 (by kernel_rfl) rfl rfl rfl,trivial⟩,dj Tryz.underlying157 (by kernel_rfl) rfl rfl rfl,⟨⟨trivial,cE Tryz.underlying160 (by kernel_rfl),trivial⟩,cE Tryz.underlying161 (by kernel_rfl),trivial⟩⟩,cE Tryz.underlying162 (by kernel_rfl),⟨⟨⟨trivial,cE Tryz.underlying163 (by kernel_rfl),trivial⟩,cE Tryz.underlying164 (by kernel_rfl),trivial⟩,cE Tryz.underlying168 (by kernel_rfl),⟨trivial,cE Tryz.underlying170 (by kernel_rfl),trivial⟩⟩⟩⟩⟩,cE Tryz.underlying172 (by kernel_rfl),⟨⟨⟨⟨⟨⟨trivial,dj Tryz.underlying173 (by kernel_rfl) rfl rfl rfl,trivial⟩,cE Tryz.underlying174 (by kernel_rfl),trivial⟩,cE Tryz.underlying175 (by kernel_rfl),⟨⟨trivial,cE Tryz.underlying176 (by kernel_rfl),trivial⟩,cE Tryz.underlying177 (by kernel_rfl),trivial⟩⟩,cE Tryz.underlying178 (by kernel_rfl),⟨⟨⟨trivial,cE Tryz.underlying188 (by kernel_rfl),trivial⟩,cE Tryz.underlying189 (by kernel_rfl),trivial⟩,cE Tryz.underlying190 (by kernel_rfl),⟨⟨trivial,cE Tryz.underlying191 (by kernel_rfl),trivial⟩,cE Tryz.underlying192 (by kernel_rfl),trivial⟩⟩⟩,cE Tryz.underlying193 (by kernel_rfl),⟨⟨⟨⟨trivial,cE Tryz.underlying194 (by kernel_rfl),trivial⟩,dj Tryz.underlying196 (by kernel_rfl) rfl rfl rfl,trivial⟩,dj Tryz.underlying200 (by kernel_rfl) rfl rfl rfl,⟨⟨trivial,cE Tryz.underlying212 (by kernel_rfl),trivial⟩,cE Tryz.underlying213 (by kernel_rfl),trivial⟩⟩,cE Tryz.underlying214 (by kernel_rfl),⟨⟨⟨trivial,dj Tryz.underlying215 (by kernel_rfl) rfl rfl rfl,trivial⟩,cE Tryz.underlying216 (by kernel_rfl),trivial⟩,dj Tryz.underlying221 (by kernel_rfl) rfl rfl rfl,⟨trivial,dj Tryz.underlying222 (by kernel_rfl) rfl rfl rfl,trivial⟩⟩⟩⟩,cE Tryz.underlying225 (by kernel_rfl),⟨⟨⟨⟨⟨trivial,cE Tryz.underlying226 (by kernel_rfl),trivial⟩,cE Tryz.underlying227 (by kernel_rfl),trivial⟩,dj Tryz.underlying232 (by kernel_rfl) rfl rfl rfl,⟨⟨trivial,cE Tryz.underlying233 (by kernel_rfl),trivial⟩,cE Tryz.underlying238 (by kernel_rfl),trivial⟩⟩,dj Tryz.underlying251 (by kernel_rfl) rfl rfl rfl,⟨⟨⟨trivial,cE Tryz.underlying253 (by kernel_rfl),trivial⟩,dj Tryz.underlying256 (by kernel_rfl) rfl rfl rfl,trivial⟩,dj Tryz.underlying264 (by kernel_rfl) rfl rfl rfl,⟨trivial,dj Tryz.underlying266 (by kernel_rfl) rfl rfl rfl,trivial⟩⟩⟩,cE Tryz.underlying281 (by kernel_rfl),⟨⟨⟨⟨trivial,cE Tryz.underlying298 (by kernel_rfl),trivial⟩,cE Tryz.underlying321 (by kernel_rfl),trivial⟩,dj Tryz.underlying325 (by kernel_rfl) rfl rfl rfl,⟨⟨trivial,dj Tryz.underlying326 (by kernel_rfl) rfl rfl rfl,trivial⟩,cE Tryz.underlying327 (by kernel_rfl),trivial⟩⟩,dj Tryz.underlying328 (by kernel_rfl) rfl rfl rfl,⟨⟨⟨trivial,dj Tryz.underlying329 (by kernel_rfl) rfl rfl rfl,trivial⟩,cE Tryz.underlying331 (by kernel_rfl),trivial⟩,dj Tryz.underlying333 (by kernel_rfl) rfl rfl rfl,⟨trivial,dj Tryz.underlying335 (by kernel_rfl) rfl rfl rfl,trivial⟩⟩⟩⟩⟩⟩⟩
def mS:List (List UInt8):=[[],[105,110],[111,117,116],[114,97,99,107],[107,110,105,116],[116,117,99,107],[109,105,115,115],[120,102,101,114],[100,114,111,112]]
def r3:List (List UInt8):=[[108,101,102,116],[114,105,103,104,116]]
def Mi:List Int:=[-1,1]
def XI:Nat->Option AQ
 | 0=>some ⟨.str,mS⟩
 | 1=>some ⟨.str,r3⟩
 | 2=>some ⟨.int .i64,Mi⟩
 | 3=>some ⟨.int .u64,Lib.pow10Tab⟩
 | _=>none
noncomputable def bU:br:=⟨Tryz.prog,tt,XI⟩
section
open Go.ChangeShapes Go.WideShapes Go.ChangeAt Go.WideElems Go.RowKit
section
variable {H:Type} {enc:TypeId×Value->H} {P:Program} {W:World}
def tn(enc:TypeId×Value->H) (P:Program) (W:World) (t:TypeId) (g:aQ) (R:g.D->Prop):Prop:=
 ∀ k cs x,DataW.trod enc P W 0 (fun _=>true) true k t cs=some x->∃ y:g.D,R y/\bz (fun b=>b < W.heap.size) W g y cs
theorem XJ{t:TypeId} {k:IntKind} (aV:P.underlying t=some (.int k)):tn enc P W t (.int k) (fun(y:Int)=>k.min<=y/\y<=k.max):=fun n cs x h=>by
 obtain⟨z,rfl,_,hw⟩:=DataW.trod_int aV h;exact⟨z,by simpa [Lit.wf] using hw,rfl⟩
theorem FA{g:aQ} {R:g.D->Prop}:∀ l:List { p:g.D×List Value // R p.1/\bz (fun b=>b < W.heap.size) W g p.1 p.2 },Flat (bz (fun b=>b < W.heap.size) W g) (l.map (·.1.1)) (l.flatMap (·.1.2))
 | []=>rfl
 | x :: l=>⟨x.1.2,l.flatMap (·.1.2),rfl,x.2.2,FA l⟩
theorem Mj{b o:Nat} {v:Value} (h:W.cell? ⟨b,o,none⟩=some v):b < W.heap.size:=by
 by_cases ae:b < W.heap.size
 ·exact ae
 ·simp[World.cell?,Array.getElem?_eq_none (by omega:W.heap.size<=b)]at h
theorem XK{g:aQ} {R:g.D->Prop} (aN:0 < g.size) {t e:TypeId} {r:Reach} {oO:Nat} {v:Value} {d:DataW H} {ps:List MemPlace} (aV:P.underlying t=some (.slice e)) (aa:P.cellsOf e=g.size) (jr:tn enc P W e g R) (sW:Value.okWide P W r oO t v) (av:DataW.Trod enc P W 0 (fun _=>true) true t v d ps) :
  ∃ l:List g.D,(∀ x∈l,R x)/\∀ env,dI env (fun b=>b < W.heap.size) W (.c (.bn g l none)) v:=by
 obtain⟨A,len,cap,l,rfl,ad,J,U,az⟩:=Tk (α:={ p:g.D×List Value // R p.1/\bz (fun b=>b < W.heap.size) W g p.1 p.2 }) (f:=fun p=>p.1.2) (fun x=>x.2.2.length) aN aV aa (fun k cs x h=>by
  obtain⟨y,aT,aA⟩:=jr k cs x h;exact⟨⟨(y,cs),aT,aA⟩,rfl⟩) sW av
 refine⟨l.map (·.1.1),fun x aj=>?_,fun env=>?_⟩
 ·obtain⟨p,_,rfl⟩:=List.mem_map.1 aj
  exact p.2.1
 ·refine⟨A,cap,l.flatMap (·.1.2),by rw[List.length_map,ad],by rw[List.length_map,ad]; exact J,U,(fun _ h=>by cases h),FA l,by rw[List.length_map,ad]; exact az,fun b p hm e=>?_⟩
  rw[List.length_map]at hm;obtain⟨b',AO,cm,ir⟩:=az.2 (by omega);rw[e]at cm;cases cm;cases aj:(l.flatMap (·.1.2))[0]? with
  | some u=>exact Mj (ir 0 u aj)
  | none=>
   exfalso
   have ah:=az.1;rw[List.getElem?_eq_none_iff]at aj;have au:0 < len * g.size:=Nat.mul_pos (by omega) aN;omega
theorem Mk{base:Nat} {sp:Nat->Bool} {held:Bool} {fuel:Nat} {t e:TypeId} {n:Nat} {cs:List Value} {zs:List (List UInt8)} {p:List MemPlace}
  (aV:P.underlying t=some (.array n e)) (he:P.underlying e=some .string) (XL:P.cellsOf e=1) (aiG:P.cellsOf t=n)
  (h:DataW.trod enc P W base sp held fuel t cs=some (.agg (zs.map fun z=>.lit (.string z)),p)):cs=zs.map eP:=by
 obtain⟨xs,m,_,aj,hlen,iZ,nq⟩:=DataW.trod_array aV h;have pO:xs.map (·.1)=zs.map fun z=>(DataW.lit (.string z):DataW H):=by
  have:=congrArg Prod.fst aj
  simpa using this.symm
 have xI:zs.length=n:=by
  have:=congrArg List.length pO
  simp at this
  omega
 rw[XL]at nq
 apply List.ext_getElem?
 intro i
 by_cases hi:i < n
 ·have J:=nq i hi
  rw[List.getElem?_eq_getElem (by omega:i < xs.length)]at J;obtain⟨s,ak,Bp,_⟩:=DataW.trod_string he J;have U:cs[i]?=some (.string s):=by
   have:=congrArg (·[0]?) ak
   simpa [List.getElem?_take,List.getElem?_drop] using this
  have ah:(xs.map (·.1))[i]?=some (DataW.lit (.string s.data.toList):DataW H):=by
   rw[List.getElem?_map,List.getElem?_eq_getElem (by omega),Bp]
   rfl
  rw[pO]at ah;simp only[List.getElem?_map,Option.map_eq_some_iff,DataW.lit.injEq,Lit.string.injEq]at ah;obtain⟨nZ,qn,aW⟩:=ah;rw[U,List.getElem?_map,qn,Option.map_some,aW]
  rfl
 ·rw[List.getElem?_eq_none (by omega),List.getElem?_eq_none (by simp; omega)]
theorem FB{B:Nat->Prop} {k:IntKind}:∀ l:List Int,Flat (bz B W (.int k)) l (l.map fun z=>Value.int k z)
 | []=>rfl
 | x :: l=>⟨[.int k x],_,rfl,rfl,FB l⟩
theorem FC{B:Nat->Prop}:∀ l:List (List UInt8),Flat (bz B W .str) l (l.map eP)
 | []=>rfl
 | x :: l=>⟨[eP x],_,rfl,rfl,FC l⟩
theorem Bq{n:String} {i:Nat} {g:aQ} {l:List g.D} {cs:Array Value} (aL:P.globalNamed n=some i) (aB:W.var? P n=some cs) (aA:Flat (bz (fun b=>b < W.heap.size) W g) l cs.toList):rH (fun b=>b < W.heap.size) W i ⟨g,l⟩:=by
 unfold World.var? at aB;rw[aL,Option.bind_some]at aB
 split at aB
 ·rename_i hI e dB cn
  cases aB;have a8:i < W.heap.size:=(Array.getElem?_eq_some_iff.1 cn).1;refine⟨⟨i,0,cs.toList,rfl,a8,aA,fun j u hu=>?_⟩,cs,e,dB,cn,?_⟩
  ·simp only[Nat.zero_add,World.cell?,cn]
   simpa using hu
  ·have:=bz.jq aA
   simpa using this
 ·cases aB
theorem Br{n:String} {g i:Nat} (h:P.globalNamed n=some g) (ab:P.globalNamed n=some i):g=i:=Option.some.inj (h.symm.trans ab)
theorem Bs{a:Option TypeId} {t u:TypeId} (h:a=some t) (ab:a=some u):t=u:=Option.some.inj (h.symm.trans ab)
end
theorem AC.law{X:br} {f:FuncId} {args:List bf} {vs:List Value} {W:World} (h:AC X f args [] (fun sv h=>sv=.c (.val (.bool true))/\h=[])) (aL:vn X (fun b=>b < W.heap.size) W) (bo:dw (fun _=>.no) (fun b=>b < W.heap.size) W args vs):oJ X.P f vs.toArray W (fun v w'=>v=.bool true/\Below W.heap.size W w'):=by
 refine(h (fun b=>b < W.heap.size) W (fun _=>.no) vs [] W aL bo rfl (bF.start W)).mono ?_;rintro v w' ⟨env',B',cD,H',sv,aO,⟨rfl,rfl⟩,J,U,ah,au,aF,aY,bK⟩;have az:∀ k,k < W.heap.size->gh W [] k:=fun k ab=>⟨ab,fun c aa=>by cases aa⟩
 exact⟨au,aY.below.os.trans ah.os,aY.below.tape.trans ah.tape,aY.below.output.trans ah.output,Nat.le_trans ah.size aY.below.size,fun k ab=>(aY.below.block k (.inl (az k ab))).trans (ah.block k (az k ab))⟩
end
section
def aw{α:Type} (c:Bool) (k:Option α):Option α:=match c with
 | true=>k
 | false=>none
theorem gK{α:Type} {c:Bool} {k:Option α} {r:α} (h:aw c k=some r):c=true/\k=some r:=by
 cases c with
 | true=>exact⟨rfl,h⟩
 | false=>cases h
theorem hQ{α β:Type} {x:Option α} {f:α->Option β} {r:β} (h:x.bind f=some r):∃ a,x=some a/\f a=some r:=by
 cases x with
 | none=>cases h
 | some a=>exact⟨a,rfl,h⟩
theorem XM{α:Type} {b:Bool} {x y z:α} (ae:b=true) (h:cond b x y=z):x=z:=by rw[ae]at h; exact h
theorem XN{α:Type} {b:Bool} {x y z:α} (ae:b=false) (h:cond b x y=z):y=z:=by rw[ae]at h; exact h
abbrev sm {α β kj:Type} (x:α⊕β) (f:α->Option kj) (g:β->Option kj):Option kj:=match x with
 | .inl a=>f a
 | .inr b=>g b
def r4(id:Nat):bx->bx
 | []=>[]
 | (j,.row t g l c) :: r=>match Nat.beq j id with
  | true=>(j,.row t g l none) :: r
  | false=>(j,.row t g l c) :: r4 id r
 | b :: r=>b :: r4 id r
section
variable {X:br} {M:Bool} {n:Nat} {r:Option Nat} {c:Code} {st:aM} {Q:Exit->aM->Prop}
theorem dh.conv{s:Nat} {sv:b0} (k2:b0) (ak:aU st.L s=some sv) (iQ:∀ env B w v,ei env B w sv v->ei env B w k2 v):dh X n st ⟨(s,k2) :: st.L,st.H⟩:=fun R W aG M a w ⟨ks,env,B,ai,H,bJ,h⟩=>
 ⟨ks,env,B,ai,H,bJ,h.size,h.defs,fun q u hu=>by
  rw[cl]at hu
  split at hu
  ·rename_i e
   subst e;cases hu;obtain⟨v,J,U⟩:=h.has _ _ ak;exact⟨v,J,iQ _ _ _ _ U⟩
  ·exact h.has q u hu,h.heap,h.aJ,h.sub,h.new,h.df,h.base,h.dQ⟩
theorem bu.n8{env:Nat->Loc} {B:Nat->Prop} {w:World} (id:Nat):∀ {l:bx} {H:List bb},bu env B w l H->bu env B w (r4 id l) H
 | [],_,h=>h
 | (j,.row t g l c) :: r,_,⟨k,H',e,J,U⟩=>by
  unfold r4
  split
  ·obtain⟨A,q,xs,ah,au,aF,aY⟩:=J
   exact⟨k,H',e,⟨A,q,xs,ah,au,aF,fun _ h=>by cases h⟩,U⟩
  ·exact⟨k,H',e,J,bu.n8 id U⟩
 | (j,.cells _ _) :: r,_,⟨k,H',e,J,U⟩=>⟨k,H',e,J,bu.n8 id U⟩
 | (j,.hq _ _) :: r,_,⟨k,H',e,J,U⟩=>⟨k,H',e,J,bu.n8 id U⟩
 | (j,.mp _ _ _ _) :: r,_,⟨k,H',e,J,U⟩=>⟨k,H',e,J,bu.n8 id U⟩
 | (j,.it _ _ _ _) :: r,_,⟨k,H',e,J,U⟩=>⟨k,H',e,J,bu.n8 id U⟩
 | (j,.gS _) :: r,_,⟨k,H',e,J,U⟩=>⟨k,H',e,J,bu.n8 id U⟩
 | (j,.jJ) :: r,_,⟨k,H',e,J,U⟩=>⟨k,H',e,J,bu.n8 id U⟩
 | (j,.cC _ _ _ _ _ _ _) :: r,_,⟨k,H',e,J,U⟩=>⟨k,H',e,J,bu.n8 id U⟩
 | (j,.kb) :: r,_,⟨k,H',e,J,U⟩=>⟨k,H',e,J,bu.n8 id U⟩
 | (j,.fk _ _ _) :: r,_,⟨k,H',e,J,U⟩=>⟨k,H',e,J,bu.n8 id U⟩
 | (j,.b5 _ _ _ _ _ _) :: r,_,⟨k,H',e,J,U⟩=>⟨k,H',e,J,bu.n8 id U⟩
theorem dh.Bt(id:Nat) {st':aM} (h:st'=⟨st.L,r4 id st.H⟩):dh X n st st':=fun R W aG M a w ⟨ks,env,B,ai,H,bJ,ag⟩=>by
 subst h;exact⟨ks,env,B,ai,H,bJ,ag.size,ag.defs,ag.has,bu.n8 id ag.heap,ag.aJ,ag.sub,ag.new,ag.df,ag.base,ag.dQ⟩
end
theorem hk:(∀ b,(b&&true)=b)/\(∀ b,(true&&b)=b)/\(∀ b,(b || true)=true)/\(∀ b,(true || b)=true)/\(!true)=false/\(!false)=true/\(∀ b,(b || false)=b)/\(∀ b,(false || b)=b)/\(∀ b,(b&&b)=b)/\(∀ b:Bool,(!b || b)=true)/\(∀ b,(b || b)=b):=by decide
theorem aiH:(∀ b,(b&&true)=b)/\(∀ b,(true&&b)=b)/\(∀ b,(b||true)=true)/\(∀ b,(true||b)=true)/\(!true)=false/\(!false)=true/\(∀ b,(b||false)=b)/\(∀ b,(false||b)=b)/\(∀ b,(b&&b)=b)/\(∀ b:Bool,(!b||b)=true)/\(∀ b,(b||b)=b)/\(∀ [h:Decidable True],@decide True h=true)/\(∀ {α:Type}(a b:α),cond true a b=a)/\(∀ {α:Type}(a b:α),cond false a b=b):=⟨hk.1,hk.2.1,hk.2.2.1,hk.2.2.2.1,hk.2.2.2.2.1,hk.2.2.2.2.2.1,hk.2.2.2.2.2.2.1,hk.2.2.2.2.2.2.2.1,hk.2.2.2.2.2.2.2.2.1,hk.2.2.2.2.2.2.2.2.2.1,hk.2.2.2.2.2.2.2.2.2.2,fun {_}=>decide_true _,fun _ _=>rfl,fun _ _=>rfl⟩
theorem cd.data{env:Nat->Loc} {B:Nat->Prop} {w:World} {g:aQ} {cs hI:List ba} {x:g.D} {c:Bool} {vs:List Value} (J:cd env B w cs vs) (av:dec g cs=some (c,x,[])) (aa:c=true) (aL:kC g x 0 g.size=some hI):cd env B w hI vs:=by
 obtain⟨v1,v2,aW,aA,U⟩:=oR J av aa;have au:v2=[]:=U;subst au;rw[List.append_nil]at aW;subst aW;obtain⟨us,⟨ad,aq⟩,ah⟩:=bz.cells aA aL;have mL:=bz.length aA;have tp:us=vs:=by
  apply List.ext_getElem?
  intro j;cases aR:us[j]? with
  | some u=>
   have:=aq j u aR
   rw[Nat.zero_add]at this;exact this.symm
  | none=>
   rw[List.getElem?_eq_none_iff]at aR;exact(List.getElem?_eq_none_iff.2 (by omega)).symm
 subst tp;exact ah
theorem dh.data{X:br} {n:Nat} {st:aM} (s:Nat) (g:aQ) {cs hI:List ba} {x:g.D} {c:Bool} (ak:aU st.L s=some (.a (.agg cs))) (av:dec g cs=some (c,x,[])) (aa:c=true) (aL:kC g x 0 g.size=some hI):dh X n st ⟨(s,.a (.agg hI)) :: st.L,st.H⟩:=dh.conv _ ak fun env B w v ⟨vs,e,J⟩=>⟨vs,e,J.data av aa aL⟩
theorem dh.Bu{X:br} {n:Nat} {st:aM} (id:Nat) (g:aQ) {t:TypeId} {cs hI:List ba} {x:g.D} {c:Bool} (ak:aU st.H id=some (.cells t cs)) (av:dec g cs=some (c,x,[])) (aa:c=true) (aL:kC g x 0 g.size=some hI):dh X n st ⟨st.L,ef id (.cells t hI) st.H⟩:=fun R W aG M a w ⟨ks,env,B,ai,H,bJ,h⟩=>by
 obtain⟨dk,K,⟨b,vs,he,e,gi⟩,⟨Y,Z,J,U⟩,ah⟩:=h.lD (b':=.cells t hI) ak;obtain⟨H',au⟩:=ah dk a w ⟨b,vs,he,e,gi.data av aa aL⟩ (by rw[U]; dsimp only; rw[<- J]; exact h.aJ) h.bL;exact⟨ks,env,B,ai,H',bJ,au⟩
end
section
open Go.ChangeShapes Go.WideShapes Go.ChangeAt Go.WideElems Go.RowKit
theorem Tryz.own:ownKnob Tryz.prog.godebug=none:=by kernel_rfl
theorem Tryz.laidOut:laidOutB Tryz.prog=true:=by kernel_rfl
theorem XO{k:IntKind} {n:Int} (h:(Lit.int k n).wf=true):k.min<=n/\n<=k.max:=by simpa [Lit.wf] using h
end
section
def aQ.beq:(g:aQ)->g.D->g.D->Bool
 | .int _=>fun(x:Int) (y:Int)=>x == y
 | .bool=>fun(x:Bool) (y:Bool)=>x == y
 | .str=>fun(x:List UInt8) (y:List UInt8)=>x == y
 | .pair g h=>fun x y=>g.beq x.1 y.1&&h.beq x.2 y.2
 | _=>fun _ _=>false
def cJ(gk aZ:aQ):List (gk.D×aZ.D)->gk.D->Option aZ.D
 | [],_=>none
 | x :: l,k=>match gk.beq x.1 k with
  | true=>some x.2
  | false=>cJ gk aZ l k
def eD(gk aZ:aQ):List (gk.D×aZ.D)->gk.D->aZ.D->List (gk.D×aZ.D)
 | [],k,v=>[(k,v)]
 | x :: l,k,v=>match gk.beq x.1 k with
  | true=>(x.1,v) :: l
  | false=>x :: eD gk aZ l k v
def nB:(g:aQ)->g.D->Option bf
 | .pair a b,x=>(kC (.pair a b) x 0 (a.size+b.size)).map .agg
 | g,x=>(kT g x 0).map .c
section
variable {B:Nat->Prop} {w:World} {k:IntKind} {aZ:aQ}
theorem fW.FD{z:Int}:∀ {l:List (Int×aZ.D)} {es:List MapEntry} (i:Nat),fW B w (.int k) aZ l es ->
  (cJ (.int k) aZ l z=none/\Instr.findNow (.int k) (.int k z) es i=some none)\/∃ x j v,cJ (.int k) aZ l z=some x/\Instr.findNow (.int k) (.int k z) es i=some (some (i+j,v))/\ea B w aZ x v/\j < es.length
 | [],_,i,h=>by rw[show _=[] from h]; exact .inl ⟨rfl,rfl⟩
 | x :: l,_,i,⟨e,r,he,J,U,ah⟩=>by
  subst he;have ab:e.key=.int k x.1:=by
   have:=(show bz B w (.int k) x.1 [e.key] from J)
   have au:[e.key]=[Value.int k x.1]:=this;exact(List.cons.inj au).1
  unfold Instr.findNow cJ;rw[ab];simp only[Instr.sameNow,if_true]
  by_cases bG:x.1=z
  ·have aC:(aQ.int k).beq x.1 z=true:=by simp[aQ.beq,bG]
   have aW:(z == x.1)=true:=by simp[bG]
   rw[aC,aW];exact .inr ⟨x.2,0,e.val,rfl,rfl,U,by simp⟩
  ·have aC:(aQ.int k).beq x.1 z=false:=by simp[aQ.beq,bG]
   have aW:(z == x.1)=false:=by simp[Ne.symm bG]
   rw[aC,aW]
   rcases fW.FD (i+1) ah with⟨au,aF⟩ | ⟨y,j,v,au,aF,aY,bK⟩
   ·exact .inl ⟨au,aF⟩
   ·exact .inr ⟨y,j+1,v,au,by rw[aF,Nat.add_assoc,Nat.add_comm 1 j],aY,by simpa using bK⟩
theorem x5{es:List MapEntry} {f:MapEntry->MapEntry} (aA:∀ e,(f e).born=e.born):∀ (j:Nat),(es.modify j f).map (·.born)=es.map (·.born):=by
 induction es with
 | nil=>intro j; cases j<;>rfl
 | cons e es bA=>
  intro j;cases j with
  | zero=>simp[aA]
  | succ j=>simp only[List.modify_succ_cons,List.map_cons,bA j]
theorem fW.setInt{z:Int} {eK:aZ.D} {vv:Value} (aB:ea B w aZ eK vv):∀ {l:List (Int×aZ.D)} {es:List MapEntry} (i:Nat),fW B w (.int k) aZ l es ->
  (Instr.findNow (.int k) (.int k z) es i=some none/\eD (.int k) aZ l z eK=l++[(z,eK)]) \/
  ∃ j v e,Instr.findNow (.int k) (.int k z) es i=some (some (i+j,v))/\es[j]?=some e/\e.key=.int k z/\fW B w (.int k) aZ (eD (.int k) aZ l z eK) (es.modify j fun e=>{ e with key:=.int k z,val:=vv })
 | [],_,i,h=>by rw[show _=[] from h]; exact .inl ⟨rfl,rfl⟩
 | x :: l,_,i,⟨e,r,he,J,U,ah⟩=>by
  subst he;have ab:e.key=.int k x.1:=by
   have au:[e.key]=[Value.int k x.1]:=J;exact(List.cons.inj au).1
  unfold Instr.findNow eD;rw[ab];simp only[Instr.sameNow,if_true]
  by_cases bG:x.1=z
  ·have aC:(aQ.int k).beq x.1 z=true:=by simp[aQ.beq,bG]
   have aW:(z == x.1)=true:=by simp[bG]
   rw[aC,aW];refine .inr ⟨0,e.val,e,rfl,rfl,by rw[ab,bG],{ e with key:=.int k z,val:=vv },r,rfl,?_,aB,ah⟩;show [Value.int k z]=[Value.int k x.1]
   rw[bG]
  ·have aC:(aQ.int k).beq x.1 z=false:=by simp[aQ.beq,bG]
   have aW:(z == x.1)=false:=by simp[Ne.symm bG]
   rw[aC,aW]
   rcases fW.setInt aB (i+1) ah with⟨au,aF⟩ | ⟨j,v,cm,au,aF,aY,bK⟩
   ·exact .inl ⟨au,by show x :: eD (.int k) aZ l z eK=_; rw[aF]; rfl⟩
   ·exact .inr ⟨j+1,v,cm,by rw[au,Nat.add_assoc,Nat.add_comm 1 j],by simpa using aF,aY,e,_,rfl,J,U,bK⟩
theorem fW.snoc{gk aZ:aQ} {x:gk.D×aZ.D} {e:MapEntry} (J:ea B w gk x.1 e.key) (U:ea B w aZ x.2 e.val):∀ {l:List (gk.D×aZ.D)} {es:List MapEntry},fW B w gk aZ l es->fW B w gk aZ (l++[x]) (es++[e])
 | [],_,h=>by rw[show _=[] from h]; exact⟨e,[],rfl,J,U,rfl⟩
 | _ :: _,_,⟨cm,r,he,ah,au,aF⟩=>by subst he; exact⟨cm,_,rfl,ah,au,fW.snoc J U aF⟩
def kk:aQ->bf->Bool
 | .pair _ _,.agg _=>true
 | .pair _ _,.c _=>false
 | _,.c _=>true
 | _,.agg _=>false
 | _,.arr _ _=>false
theorem ea.tq{env:Nat->Loc} {g:aQ} {bq:bf} {c:Bool} {x:g.D} {v:Value} (av:dec g bq.cells=some (c,x,[])) (aa:c=true) (ak:kk g bq=true) (h:dI env B w bq v):ea B w g x v:=by
 cases bq with
 | c b4=>
  obtain⟨v1,v2,e,J,U⟩:=oR (cs:=[b4]) (vs:=[v]) ⟨v,[],rfl,h,rfl⟩ av aa;have aW:v2=[]:=U;rw[aW,List.append_nil]at e;rw[<- e]at J;cases g with
  | pair a b=>cases ak
  | _=>exact J
 | arr g2 l=>
  cases g with
  | pair a b=>cases ak
  | _=>cases ak
 | agg cs=>
  obtain⟨vs,e,ah⟩:=h;obtain⟨v1,v2,aC,J,U⟩:=oR ah av aa;have aW:v2=[]:=U;rw[aW,List.append_nil]at aC;cases g with
  | pair a b=>exact⟨vs,e,by rw[aC]; exact J⟩
  | _=>cases ak
theorem ea.bq{env:Nat->Loc} {g:aQ} {x:g.D} {v:Value} {bq:bf} (h:ea B w g x v) (ak:nB g x=some bq):dI env B w bq v:=by
 have one:∀ {g:aQ} {x:g.D} {v:Value} {bq:bf},bz B w g x [v]->(kT g x 0).map bf.c=some bq->dI env B w bq v:=by
  intro g x v bq h ak;obtain⟨c,aa,rfl⟩:=Option.map_eq_some_iff.1 ak;obtain⟨u,J,U⟩:=bz.cell (env:=env) h aa;simp only[List.getElem?_cons_zero,Option.some.injEq]at J;rw[J];exact U
 cases g with
 | pair a b=>
  obtain⟨vs,e,J⟩:=h;obtain⟨l,ad,rfl⟩:=Option.map_eq_some_iff.1 (show(kC (.pair a b) x 0 (a.size+b.size)).map bf.agg=some bq from ak);obtain⟨us,⟨U,ah⟩,au⟩:=bz.cells (env:=env) J ad;have hlen:vs.length=a.size+b.size:=bz.length J
  have:us=vs:=by
   apply List.ext_getElem?
   intro i
   by_cases hi:i < us.length
   ·rw[List.getElem?_eq_getElem hi]
    have:=ah i us[i] (List.getElem?_eq_getElem hi)
    rw[Nat.zero_add]at this;exact this.symm
   ·rw[List.getElem?_eq_none (by omega),List.getElem?_eq_none (by omega)]
  subst this;exact⟨us,e,au⟩
 | _=>exact one h ak
end
section
variable {X:br} {M:Bool} {n:Nat} {r:Option Nat} {st:aM} {Q:Exit->aM->Prop} {ops rest:List Oper} {o:Oper} {d:Nat}
end
end
section
section
variable {X:br} {M:Bool} {n:Nat} {r:Option Nat} {st:aM} {Q:Exit->aM->Prop} {ops rest:List Oper} {o:Oper} {d:Nat}
end
end
section
section
variable {α β:Type}
end
end
section
section
variable {X:br} {M:Bool} {n:Nat} {r:Option Nat} {st:aM} {Q:Exit->aM->Prop} {ops rest:List Oper} {o:Oper} {d:Nat}
end
end
section
def pP(g:aQ):Nat->List ba->Option (Bool×List g.D×List ba)
 | 0,r=>some (true,[],r)
 | m+1,r=>match dec g r with
  | some (fs,x,aH)=>match pP g m aH with
   | some (cF,l,a1)=>some (fs&&cF,x :: l,a1)
   | none=>none
  | none=>none
section
variable {env:Nat->Loc} {B:Nat->Prop} {w:World}
theorem x6{g:aQ}:∀ {m:Nat} {cs:List ba} {c:Bool} {l:List g.D} {r:List ba} {vs:List Value},cd env B w cs vs->pP g m cs=some (c,l,r)->c=true->l.length=m/\∃ v1 v2,vs=v1++v2/\Flat (bz B w g) l v1/\cd env B w r v2
 | 0,cs,c,l,r,vs,h,av,_=>by
  cases av;exact⟨rfl,[],vs,rfl,rfl,h⟩
 | m+1,cs,c,l,r,vs,h,av,aa=>by
  simp only[pP]at av
  split at av
  ·rename_i fs x aH J
   split at av
   ·rename_i cF bw a1 U
    cases av;simp only[Bool.and_eq_true]at aa;obtain⟨v1,v2,rfl,ah,au⟩:=oR h J aa.1;obtain⟨ad,v3,v4,rfl,aF,aY⟩:=x6 au U aa.2;exact⟨by rw[List.length_cons,ad],v1++v3,v4,by rw[List.append_assoc],⟨v1,v3,rfl,ah,aF⟩,aY⟩
   ·cases av
  ·cases av
end
section
variable {X:br} {R:Nat->Prop} {W:World} {aG:eX} {n:Nat} {ks:List Nat} {env:Nat->Loc} {B:Nat->Prop} {ai:World} {H:List bb} {st st':aM} {a:Act} {w:World}
theorem dh.arr(s:Nat) (g:aQ) (m:Nat) (l:List g.D) {t:TypeId} {cs:List ba} {c:Bool} (hid:Nat.blt s n=true) (ak:aU st.L s=some (.c (.ptr s 0))) (bO:aU st.H s=some (.cells t cs)) (jr:pP g m cs=some (c,l,[])) (aa:c=true) (hm:m<=140737488355328) :
  dh X n st ⟨(s,.c (.dZ s g.size 0 0)) :: eJ s .dead st.L,(s,.row t g l (some m)) :: dq s .dead st.H⟩:=fun R W aG M a w ⟨ks,env,B,ai,H,bJ,h⟩=>by
 obtain⟨dk,Y,Z,⟨b,vs,he,rfl,gi⟩,U,ah⟩:=h.heap.take bO;obtain⟨ad,v1,v2,aB,cv,fY⟩:=x6 gi jr aa;have Ft:v2=[]:=fY;subst Ft;rw[List.append_nil]at aB;subst aB;subst ad;obtain⟨H2,au,aF,_⟩:=ah (iE env s (.row (some ⟨b,0,none⟩) l.length l.length)) .dead h1 (fun _ _=>trivial);have aq:(H++ks.map c3).Perm (bb.gv b vs t :: (Y++Z++ks.map c3)):=by
  rw[U];simp only[List.append_assoc,List.cons_append];exact List.perm_middle
 have e5:bF (fun k=>R k\/B k) ai (bb.gv b vs t :: (H2++ks.map c3)) w:=(h.aJ.perm aq).ep ((au.append_right _).cons_cons _);refine⟨ks,iE env s (.row (some ⟨b,0,none⟩) l.length l.length),B,ai,.row (some ⟨b,0,none⟩) l.length t g.size l.length vs :: H2,bJ,h.size,h.defs,fun q u hu=>?_,⟨_,H2,rfl,⟨_,_,vs,eG,rfl,cv,fun q ao=>by cases ao; rfl⟩,aF⟩,e5.AL (bz.jq cv) hm,h.sub,h.new,pH h.df (fun q aq=>by have J:=(h.df _ _ aq).1; have U:=du hid; omega),h.base,h.dQ⟩;rw[cl]at hu
 split at hu
 ·rename_i e
  subst e;cases hu;obtain⟨eF,aY,b',bK,c7⟩:=h.has _ _ ak;rw[he]at bK;cases bK;exact⟨eF,aY,b,_,_,eG,by rw[c7]; simp⟩
 ·obtain⟨hz,hA,rfl⟩:=l2 hu
  obtain⟨eF,aY,bK⟩:=h.has q hz hA;exact⟨eF,aY,ei.sub (z:=.dead) h1 (fun _ _=>trivial) bK⟩
end
section
variable {X:br} {M:Bool} {n:Nat} {r:Option Nat} {st:aM} {Q:Exit->aM->Prop} {ops rest:List Oper} {o:Oper} {d:Nat}
end
end
section
def aQ.key:aQ->Bool
 | .int _=>true
 | .bool=>true
 | .str=>true
 | .pair g h=>g.key&&h.key
 | _=>false
def aQ.cG:(g:aQ)->g.D->List Value
 | .int k,x=>[.int k x]
 | .bool,x=>[.bool x]
 | .str,x=>[eP x]
 | .pair g h,x=>g.cG x.1++h.cG x.2
 | _,_=>[]
theorem bz.cG{B:Nat->Prop} {w:World}:∀ {g:aQ} {x:g.D} {vs:List Value},g.key=true->bz B w g x vs->vs=g.cG x
 | .int _,_,_,_,h=>h
 | .bool,_,_,_,h=>h
 | .str,_,_,_,h=>h
 | .an _,_,_,h,_=>by cases h
 | .gI _,_,_,h,_=>by cases h
 | .unit,_,_,h,_=>by cases h
 | .fn,_,_,h,_=>by cases h
 | .pair g h,x,_,ab,⟨v1,v2,e,J,U⟩=>by
  simp only[aQ.key,Bool.and_eq_true]at ab;rw[e,bz.cG ab.1 J,bz.cG ab.2 U]
  rfl
theorem beq_iff{g:aQ} (x y:g.D) (ab:g.key=true):g.beq x y=true ↔ x=y:=by
 induction g with
 | int k=>show((x:Int) == y)=true ↔ _; simp
 | bool=>show((x:Bool) == y)=true ↔ _; simp
 | str=>show((x:List UInt8) == y)=true ↔ _; simp
 | an g _=>cases ab
 | gI g _=>cases ab
 | unit=>cases ab
 | fn=>cases ab
 | pair g h Fw Fx=>
  simp only[aQ.key,Bool.and_eq_true]at ab;show(g.beq x.1 y.1&&h.beq x.2 y.2)=true ↔ _;rw[Bool.and_eq_true,Fw _ _ ab.1,Fx _ _ ab.2];exact⟨fun⟨a,b⟩=>Prod.ext a b,fun e=>by rw[e]; exact⟨rfl,rfl⟩⟩
structure r5(P:Program) (t:TypeId) (g:aQ):Prop where
 key:g.key=true
 eq:∀ (x y:g.D) (w:World),(Op.equalIn 10000 t (.agg (g.cG x).toArray) (.agg (g.cG y).toArray)).run P w=.ok (g.beq x y) w
 guard:P.eqGuardType P.depth t=false
def aQ.vI:aQ->Nat->Bool
 | .int _,0=>true
 | .bool,1=>true
 | .str,2=>true
 | _,_=>false
def jz(e:TypeId->aQ->Bool):Nat->List Field->aQ->Bool
 | _,[],_=>false
 | off, [f], g => decide (f.name ≠ "_") && (Nat.beq f.offset off && e f.type g)
 | off, f :: cX, .pair g h => decide (f.name ≠ "_") && (Nat.beq f.offset off && (e f.type g && jz e (off + g.size) cX h))
 | _,_,_=>false
def kF(P:Program) (tt:bV):Nat->TypeId->aQ->Bool
 | 0,_,_=>false
 | d+1,t,g=>match tt.find t with
  | none=>false
  | some bj=>match bj.bk.desc with
   | .int _=>g.vI 0
   | .bool=>g.vI 1
   | .string=>g.vI 2
   | .struct cX=>Nat.beq bj.bk.size g.size&&(!P.stoodInHeld t&&jz (kF P tt d) 0 cX.toList g)
   | _=>false
def oZ(tt:bV) (t:TypeId) (vs:List Value):Value:=match tt.find t with
 | some bj=>match jn bj.bk.desc with
  | true=>.agg vs.toArray
  | false=>vs.headD undef
 | none=>undef
theorem vJ:∀ {g:aQ} (x:g.D),g.key=true->(g.cG x).length=g.size
 | .int _,_,_=>rfl
 | .bool,_,_=>rfl
 | .str,_,_=>rfl
 | .an _,_,h=>by cases h
 | .gI _,_,h=>by cases h
 | .unit,_,h=>by cases h
 | .fn,_,h=>by cases h
 | .pair g h,x,ab=>by
  simp only[aQ.key,Bool.and_eq_true]at ab;show(g.cG x.1++h.cG x.2).length=g.size+h.size;rw[List.length_append,vJ x.1 ab.1,vJ x.2 ab.2]
theorem vK{P:Program} {tt:bV} (ar:tt.ok P) {d:Nat} {t:TypeId} {g:aQ} {x:g.D} {xs:Array Value} {off:Nat} {r:List Value} (ab:g.key=true) (he:kF P tt d t g=true) (aj:xs.toList.drop off=g.cG x++r) (w:World):(part t xs off).run P w=.ok (oZ tt t (g.cG x)) w:=by
 cases d with
 | zero=>cases he
 | succ d=>
  unfold kF at he;cases aA:tt.find t with
  | none=>simp[aA]at he
  | some bj=>
   rw[aA]at he;dsimp only at he;have n2:=(bV.get ar aA).bk;have J:∀ v,g.cG x=[v]->xs[off]?=some v:=fun v aB=>by
    have U:(xs.toList.drop off)[0]?=some v:=by rw[aj,aB]; rfl
    rw[List.getElem?_drop]at U
    simpa using U
   unfold part;simp only[Sem.run_bind,bC.xn n2,Result.andThen_ok];unfold oZ;rw[aA];dsimp only;have hJ:∀ q,g.vI q=true->∃ v,g.cG x=[v]:=fun q ao=>by
    cases g with
    | int k=>exact⟨_,rfl⟩
    | bool=>exact⟨_,rfl⟩
    | str=>exact⟨_,rfl⟩
    | an _=>cases ab
    | gI _=>cases ab
    | unit=>cases ab
    | fn=>cases ab
    | pair _ _=>cases q<;>cases ao
   split at he
   ·rename_i av
    obtain⟨v,aB⟩:=hJ _ he;rw[av,J v aB,aB]
    rfl
   ·rename_i av
    obtain⟨v,aB⟩:=hJ _ he;rw[av,J v aB,aB]
    rfl
   ·rename_i av
    obtain⟨v,aB⟩:=hJ _ he;rw[av,J v aB,aB]
    rfl
   ·rename_i cX av
    simp only[Bool.and_eq_true]at he;rw[av];have ak:=Nat.eq_of_beq_eq_true he.1;simp only[jn,if_true,Sem.run_bind,bC.run_sizeOf n2,Result.andThen_ok,Sem.run_pure,ak];have ah:xs.extract off (off+g.size)=(g.cG x).toArray:=by
     apply Array.toList_inj.1
     rw[Array.toList_extract,List.extract_eq_take_drop,aj,Nat.add_sub_cancel_left,List.take_left' (vJ x ab)]
    rw[ah]
   ·cases he
theorem XP{P:Program} {tt:bV} (ar:tt.ok P) {k d:Nat} (bA:∀ t (g:aQ) (x y:g.D) w,g.key=true->kF P tt k t g=true->(Op.equalIn d t (oZ tt t (g.cG x)) (oZ tt t (g.cG y))).run P w=.ok (g.beq x y) w) :
  ∀ (cX:List Field) (off:Nat) (g:aQ) (x y:g.D) (xs ys:Array Value) (w:World),g.key=true->jz (kF P tt k) off cX g=true->xs.toList.drop off=g.cG x->ys.toList.drop off=g.cG y->(Op.eqFields d xs ys cX).run P w=.ok (g.beq x y) w:=by
 intro cX
 induction cX with
 | nil=>intro off g x y xs ys w _ h; simp[jz]at h
 | cons f cX x7=>
  intro off g x y xs ys w ab h aj aT;cases cX with
  | nil=>
   have aO : (decide (f.name ≠ "_") && (Nat.beq f.offset off && kF P tt k f.type g)) = true := by
    cases g<;>exact h
   simp only[Bool.and_eq_true,decide_eq_true_eq]at aO;obtain⟨a7,a6,he⟩:=aO;have a6:=Nat.eq_of_beq_eq_true a6;simp only[Op.eqFields,if_pos a7,Sem.run_bind,a6,vK ar ab he (r:=[]) (by rw[aj,List.append_nil]),vK ar ab he (r:=[]) (by rw[aT,List.append_nil]),Result.andThen_ok,bA _ _ _ _ _ ab he];cases g.beq x y<;>simp
  | cons f2 cX=>
   cases g with
   | pair g U=>
    have aO : (decide (f.name ≠ "_") && (Nat.beq f.offset off && (kF P tt k f.type g && jz (kF P tt k) (off + g.size) (f2 :: cX) U))) = true := h
    simp only[Bool.and_eq_true,decide_eq_true_eq]at aO;obtain⟨a7,a6,he,az⟩:=aO;have a6:=Nat.eq_of_beq_eq_true a6;simp only[aQ.key,Bool.and_eq_true]at ab;have jS:xs.toList.drop off=g.cG x.1++U.cG x.2:=aj;have iN:ys.toList.drop off=g.cG y.1++U.cG y.2:=aT;have o0:=x7 (off+g.size) U x.2 y.2 xs ys w ab.2 az (by rw[<- List.drop_drop,jS,<- vJ x.1 ab.1,List.drop_left]) (by rw[<- List.drop_drop,iN,<- vJ y.1 ab.1,List.drop_left]);show _=Result.ok (g.beq x.1 y.1&&U.beq x.2 y.2) w;rw[Op.eqFields,if_pos a7];simp only[Sem.run_bind,a6,vK ar ab.1 he jS,vK ar ab.1 he iN,Result.andThen_ok,bA _ _ _ _ _ ab.1 he];cases ae:g.beq x.1 y.1 with
    | true=>simpa using o0
    | false=>simp
   | int _=>simp[jz]at h
   | bool=>simp[jz]at h
   | str=>simp[jz]at h
   | an _=>simp[jz]at h
   | gI _=>simp[jz]at h
   | unit=>simp[jz]at h
   | fn=>simp[jz]at h
theorem XQ{P:Program} {tt:bV} (ar:tt.ok P) (m:Nat):∀ (k:Nat) (t:TypeId) (g:aQ) (x y:g.D) (w:World),g.key=true->kF P tt k t g=true->(Op.equalIn (m+k) t (oZ tt t (g.cG x)) (oZ tt t (g.cG y))).run P w=.ok (g.beq x y) w:=by
 intro k
 induction k with
 | zero=>intro t g x y w _ h; cases h
 | succ k bA=>
  intro t g x y w ab h;have aN:=h;unfold kF at h;cases aA:tt.find t with
  | none=>simp[aA]at h
  | some bj=>
   rw[aA]at h;dsimp only at h;have n2:=(bV.get ar aA).bk;have gY:=n2.1;unfold oZ;rw[aA];dsimp only
   split at h
   ·rename_i jN av
    rw[av]at gY ⊢;cases g with
    | int k=>exact run_equalIn_int w _ t _ _ _ _ gY
    | _=>cases h
   ·rename_i av
    rw[av]at gY ⊢;cases g with
    | bool=>exact run_equalIn_bool w _ t _ _ gY
    | _=>cases h
   ·rename_i av
    rw[av]at gY ⊢;cases g with
    | str=>
     have:=run_equalIn_string (P:=P) w (m+k) t ⟨List.toArray x⟩ ⟨List.toArray y⟩ gY
     simp only[xv]at this;exact this
    | _=>cases h
   ·rename_i cX av
    rw[av]at gY ⊢;simp only[Bool.and_eq_true,Bool.not_eq_true']at h;have FE:P.underlying t=some (.struct cX.toList.toArray):=by simpa using gY
    show(Op.equalIn (m+k+1) t (.agg _) (.agg _)).run P w=_;rw[SW w (m+k) t _ _ FE h.2.1];exact XP ar bA cX.toList 0 g x y _ _ w ab h.2.2 (by simp) (by simp)
   ·cases h
theorem r5.of{P:Program} {tt:bV} (ar:tt.ok P) {t:TypeId} {bj:bh} {g:aQ} {cX:Array Field} (ab:g.key=true) (aA:tt.find t=some bj) (av:bj.bk.desc=.struct cX) (h:kF P tt 12 t g=true) (aL:P.eqGuardType P.depth t=false):r5 P t g:=by
 refine⟨ab,fun x y w=>?_,aL⟩
 have:=XQ ar 9988 12 t g x y w ab h
 unfold oZ at this;rw[aA]at this;dsimp only at this;rw[av]at this;exact this
section
variable {X:br} {M:Bool} {n:Nat} {r:Option Nat} {st:aM} {Q:Exit->aM->Prop} {ops rest:List Oper} {o:Oper} {d:Nat}
theorem cd.cG{env:Nat->Loc} {B:Nat->Prop} {w:World} {g:aQ} {cs:List ba} {x:g.D} {c:Bool} {v:Value} (ab:g.key=true) (J:dI env B w (.agg cs) v) (av:dec g cs=some (c,x,[])) (aa:c=true):v=.agg (g.cG x).toArray:=by
 obtain⟨vs,rfl,J⟩:=J;obtain⟨v1,v2,aW,aA,U⟩:=oR J av aa;have au:v2=[]:=U;subst au;rw[List.append_nil]at aW;subst aW;rw[bz.cG ab aA]
end
end
section
open Go.ChangeShapes Go.WideShapes Go.ChangeAt Go.WideElems Go.RowKit
def qK:(g:aQ)->g.D->Prop
 | .int k,(x:Int)=>k.min<=x/\x<=k.max
 | .an g,(l:List g.D)=>∀ y∈l,qK g y
 | .pair g h,x=>qK g x.1/\qK h x.2
 | _,_=>True
def tr(tt:bV) (t:TypeId) (n:Nat):Bool:=match tt.find t with
 | some bj=>Nat.beq bj.bk.size n
 | none=>false
def n9(tt:bV) (e:TypeId->aQ->Bool):Nat->List Field->aQ->Bool
 | _,[],_=>false
 | off,[f],g=>Nat.beq f.offset off&&(tr tt f.type g.size&&e f.type g)
 | off,f :: cX,.pair g h=>Nat.beq f.offset off&&(tr tt f.type g.size&&(e f.type g&&n9 tt e (off+g.size) cX h))
 | _,_,_=>false
def oa(tt:bV) (e:TypeId->aQ->Bool) (t:TypeId) (s:Nat):Nat->aQ->Bool
 | 0,_=>false
 | 1,g=>Nat.beq g.size s&&e t g
 | n+1,.pair g h=>Nat.beq g.size s&&(e t g&&oa tt e t s n h)
 | _,_=>false
def aQ.XR:aQ->IntKind->Bool
 | .int k,k'=>decide (k=k')
 | _,_=>false
def x8(tt:bV):Nat->TypeId->aQ->Bool
 | 0,_,_=>false
 | d+1,t,g=>match tt.find t with
  | none=>false
  | some bj=>match bj.bk.desc with
   | .int k=>g.XR k
   | .bool=>g.vI 1
   | .string=>g.vI 2
   | .slice e=>match g with
    | .an h=>Nat.blt 0 h.size&&(tr tt e h.size&&x8 tt d e h)
    | _=>false
   | .struct cX=>Nat.beq bj.bk.size g.size&&n9 tt (x8 tt d) 0 cX.toList g
   | .array n e=>Nat.beq bj.bk.size g.size&&(match tt.find e with
    | some dr=>oa tt (x8 tt d) e dr.bk.size n g
    | none=>false)
   | _=>false
section
variable {H:Type} {enc:TypeId×Value->H} {P:Program} {W:World} {tt:bV}
theorem FF(ar:tt.ok P) {t:TypeId} {bj:bh} (h:tt.find t=some bj):P.cellsOf t=bj.bk.size:=by
 obtain⟨x,J,U,_⟩:=bC.info (bV.get ar h).bk;unfold Program.cellsOf;rw[J];exact U
theorem FG(ar:tt.ok P) {t:TypeId} {n:Nat} (h:tr tt t n=true):P.cellsOf t=n:=by
 unfold tr at h
 split at h
 ·rename_i bj aA
  rw[FF ar aA];exact Nat.eq_of_beq_eq_true h
 ·cases h
theorem XS{g:aQ} {R:g.D->Prop} (np:0 < g.size) {t e:TypeId} (aV:P.underlying t=some (.slice e)) (aa:P.cellsOf e=g.size) (jr:tn enc P W e g R):tn enc P W t (.an g) (fun(l:List g.D)=>∀ y∈l,R y):=fun k cs x aA=>by
 let α:={ p:g.D×List Value // R p.1/\bz (fun b=>b < W.heap.size) W g p.1 p.2 }
 let f:α->List Value:=fun p=>p.1.2
 have ak:∀ x:α,(f x).length=g.size:=fun x=>x.2.2.length
 rcases DataW.trod_slice aV aA with⟨h,_⟩ | ⟨a,len,cap,elems,rest,n,_,h,_,_,ad,hm,hlen,nq,_,_⟩
 ·subst h
  exact⟨([]:List g.D),(fun y aT=>by cases aT),none,0,[],rfl,Nat.le_refl _,Nat.zero_le _,rfl,Reads.nil _ _ _,fun _ _ h=>absurd h (Nat.lt_irrefl _)⟩
 ·subst h
  rw[aa]at nq;obtain⟨l,qp,ao⟩:=Ep (Q:=fun i (y:α)=>∀ j,j < g.size->W.cell? ((a.add (i * g.size)).add j)=(f y)[j]?) len (fun i hi=>by
   have J:=nq i hi;have U:elems[i]?=some (elems[i]'(by omega)):=List.getElem?_eq_getElem (by omega);rw[U,Option.bind_eq_some_iff]at J;obtain⟨cs,ah,au⟩:=J;obtain⟨y,XT,kG⟩:=jr _ _ _ au;exact⟨⟨(y,cs),XT,kG⟩,(World.cells?_some ah).2.2⟩)
  have az:Reads W (some a) len g.size (l.flatMap f):=by
   refine⟨by rw[jq f g.size ak,qp],fun aN=>?_⟩;have bG:=ao 0 (by omega) 0 np;have qn:W.cell? a=some ((f l[0])[0]'(by rw[ak]; exact np)):=by
    have aW:(a.add (0 * g.size)).add 0=a:=by simp[Addr.add]
    rw[aW,List.getElem?_eq_getElem (by rw[ak]; exact np)]at bG;exact bG
   have ja:=Lb qn;refine⟨a.block,a.off,congrArg some ja,fun j u hu=>?_⟩;have aR:j < len * g.size:=by have:=(List.getElem?_eq_some_iff.1 hu).1; rwa [jq f g.size ak,qp]at this
   have hdiv:j / g.size < len:=(Nat.div_lt_iff_lt_mul np).2 aR;have sX:=Nat.mod_lt j np;have aF:=ao (j / g.size) (by omega) (j % g.size) sX;rw[ja,Addr.add_lit,Addr.add_lit,List.getElem?_eq_getElem (by rw[ak]; exact sX)]at aF;have aY:=La f g.size ak l (j / g.size) (j % g.size) (by omega) _ (List.getElem?_eq_getElem (by rw[ak]; exact sX));have sY:j / g.size * g.size+j % g.size=j:=by rw[Nat.mul_comm]; exact Nat.div_add_mod j g.size
   rw[sY,hu]at aY;rw[Nat.add_assoc,sY]at aF;rw[aF,aY]
  refine⟨l.map (·.1.1),fun x aj=>?_,some a,cap,l.flatMap f,by rw[List.length_map,qp],by rw[List.length_map,qp]; exact ad,hm,FA l,by rw[List.length_map,qp]; exact az,fun b p hm e=>?_⟩
  ·obtain⟨p,_,rfl⟩:=List.mem_map.1 aj
   exact p.2.1
  ·rw[List.length_map]at hm
   obtain⟨b',AO,cm,ir⟩:=az.2 (by omega);rw[e]at cm;cases cm;cases aj:(l.flatMap f)[0]? with
   | some u=>exact Mj (ir 0 u aj)
   | none=>
    exfalso
    have ah:=az.1;rw[List.getElem?_eq_none_iff]at aj;have au:0 < len * g.size:=Nat.mul_pos (by omega) np;omega
theorem XU(ar:tt.ok P) {e:TypeId->aQ->Bool} (bA:∀ t g,e t g=true->tn enc P W t g (qK g)):∀ (cX:List Field) (off:Nat) (g:aQ) (cs:List Value),n9 tt e off cX g=true->cs.length=off+g.size ->
  (∀ f∈cX,∃ m x,DataW.trod enc P W 0 (fun _=>true) true m f.type ((cs.drop f.offset).take (P.cellsOf f.type))=some x)->∃ y:g.D,qK g y/\bz (fun b=>b < W.heap.size) W g y (cs.drop off):=by
 intro cX
 induction cX with
 | nil=>intro off g cs h; simp[n9]at h
 | cons f cX x7=>
  intro off g cs h ad aA;cases cX with
  | nil=>
   have aO:(Nat.beq f.offset off&&(tr tt f.type g.size&&e f.type g))=true:=by
    cases g<;>exact h
   simp only[Bool.and_eq_true]at aO;obtain⟨a6,ak,he⟩:=aO;have a6:=Nat.eq_of_beq_eq_true a6;obtain⟨m,x,aj⟩:=aA f List.mem_cons_self;obtain⟨y,J,U⟩:=bA _ _ he _ _ _ aj;rw[a6,FG ar ak,List.take_of_length_le (by rw[List.length_drop]; omega)]at U;exact⟨y,J,U⟩
  | cons f2 cX=>
   cases g with
   | pair g U=>
    have aO:(Nat.beq f.offset off&&(tr tt f.type g.size&&(e f.type g&&n9 tt e (off+g.size) (f2 :: cX) U)))=true:=h;simp only[Bool.and_eq_true]at aO;obtain⟨a6,ak,he,az⟩:=aO;have a6:=Nat.eq_of_beq_eq_true a6;have gG:cs.length=off+(g.size+U.size):=ad;obtain⟨m,x,aj⟩:=aA f List.mem_cons_self;obtain⟨l6,ah,au⟩:=bA _ _ he _ _ _ aj;rw[a6,FG ar ak]at au;obtain⟨kX,aF,aY⟩:=x7 (off+g.size) U cs az (by omega) (fun q ao=>aA q (List.mem_cons_of_mem _ ao));refine⟨(l6,kX),⟨ah,aF⟩,_,_,?_,au,aY⟩;rw[<- List.drop_drop,List.take_append_drop]
   | int _=>simp[n9]at h
   | bool=>simp[n9]at h
   | str=>simp[n9]at h
   | an _=>simp[n9]at h
   | gI _=>simp[n9]at h
   | unit=>simp[n9]at h
   | fn=>simp[n9]at h
theorem XV{e:TypeId->aQ->Bool} {t:TypeId} {s:Nat} (bA:∀ g,e t g=true->tn enc P W t g (qK g)):∀ (n:Nat) (i0:Nat) (g:aQ) (cs:List Value),oa tt e t s n g=true->cs.length=i0 * s+g.size ->
  (∀ i,i < n->∃ m x,DataW.trod enc P W 0 (fun _=>true) true m t ((cs.drop ((i0+i) * s)).take s)=some x)->∃ y:g.D,qK g y/\bz (fun b=>b < W.heap.size) W g y (cs.drop (i0 * s)):=by
 intro n
 induction n with
 | zero=>intro i0 g cs h; simp[oa]at h
 | succ n XW=>
  intro i0 g cs h ad aA;cases n with
  | zero=>
   have aO:(Nat.beq g.size s&&e t g)=true:=by
    cases g<;>exact h
   simp only[Bool.and_eq_true]at aO;obtain⟨ak,he⟩:=aO;have ak:=Nat.eq_of_beq_eq_true ak;obtain⟨m,x,aj⟩:=aA 0 (by omega);obtain⟨y,J,U⟩:=bA _ he _ _ _ aj;rw[Nat.add_zero,List.take_of_length_le (by rw[List.length_drop]; omega)]at U;exact⟨y,J,U⟩
  | succ n=>
   cases g with
   | pair g U=>
    have aO:(Nat.beq g.size s&&(e t g&&oa tt e t s (n+1) U))=true:=h;simp only[Bool.and_eq_true]at aO;obtain⟨ak,he,az⟩:=aO;have ak:=Nat.eq_of_beq_eq_true ak;have gG:cs.length=i0 * s+(g.size+U.size):=ad;obtain⟨m,x,aj⟩:=aA 0 (by omega);obtain⟨l6,ah,au⟩:=bA _ he _ _ _ aj;obtain⟨kX,aF,aY⟩:=XW (i0+1) U cs az (by rw[Nat.add_mul]; omega) (fun i hi=>by
     have:=aA (i+1) (by omega)
     rw[show i0+1+i=i0+(i+1) by omega];exact this)
    refine⟨(l6,kX),⟨ah,aF⟩,_,_,?_,au,aY⟩;rw[Nat.add_zero,Nat.add_mul,Nat.one_mul,<- List.drop_drop,List.take_append_drop]
   | int _=>simp[oa]at h
   | bool=>simp[oa]at h
   | str=>simp[oa]at h
   | an _=>simp[oa]at h
   | gI _=>simp[oa]at h
   | unit=>simp[oa]at h
   | fn=>simp[oa]at h
theorem XX(ar:tt.ok P):∀ (d:Nat) (t:TypeId) (g:aQ),x8 tt d t g=true->tn enc P W t g (qK g):=by
 intro d
 induction d with
 | zero=>intro t g h; cases h
 | succ d bA=>
  intro t g h k cs x aj;unfold x8 at h;cases aA:tt.find t with
  | none=>simp[aA]at h
  | some bj=>
   rw[aA]at h;dsimp only at h;have n2:=(bV.get ar aA).bk;have gY:=n2.1;have cQ:=FF ar aA
   split at h
   ·rename_i jN av
    rw[av]at gY;cases g with
    | int ek=>
     have:ek=jN:=of_decide_eq_true h
     subst this;exact XJ gY k cs x aj
    | _=>cases h
   ·rename_i av
    rw[av]at gY;cases g with
    | bool=>
     obtain⟨b,rfl,_⟩:=DataW.trod_bool gY aj;exact⟨b,trivial,rfl⟩
    | _=>cases h
   ·rename_i av
    rw[av]at gY;cases g with
    | str=>
     obtain⟨s,rfl,_⟩:=DataW.trod_string gY aj;exact⟨s.data.toList,trivial,rfl⟩
    | _=>cases h
   ·rename_i e av
    rw[av]at gY;cases g with
    | an g=>
     simp only[Bool.and_eq_true]at h;exact XS (du h.1) gY (FG ar h.2.1) (bA _ _ h.2.2) k cs x aj
    | _=>cases h
   ·rename_i cX av
    rw[av]at gY;simp only[Bool.and_eq_true]at h;have ak:=Nat.eq_of_beq_eq_true h.1;obtain⟨xs,n,_,_,hlen,iZ,nq⟩:=DataW.trod_struct gY aj;rw[cQ,ak]at hlen;obtain⟨y,J,U⟩:=XU (enc:=enc) (W:=W) ar bA cX.toList 0 g cs h.2 (by omega) (fun f XY=>by
     obtain⟨i,hi,rfl⟩:=List.mem_iff_getElem.1 XY;have mD:i < cX.size:=by simpa using hi
     have ah:=nq i cX[i] (Array.getElem?_eq_getElem mD);rw[List.getElem?_eq_getElem (by omega)]at ah;exact⟨n,_,by simpa using ah⟩)
    exact⟨y,J,U⟩
   ·rename_i n e av
    rw[av]at gY;simp only[Bool.and_eq_true]at h;have ak:=Nat.eq_of_beq_eq_true h.1;obtain⟨xs,m,_,_,hlen,iZ,nq⟩:=DataW.trod_array gY aj;rw[cQ,ak]at hlen;have U:=h.2
    split at U
    ·rename_i dr FH
     rw[FF ar FH]at nq;obtain⟨y,J,ah⟩:=XV (enc:=enc) (W:=W) (tt:=tt) (fun g aL=>bA e g aL) n 0 g cs U (by omega) (fun i hi=>by
      have ah:=nq i hi;rw[List.getElem?_eq_getElem (by omega)]at ah;rw[Nat.zero_add];exact⟨m,_,ah⟩)
     rw[Nat.zero_mul]at ah;exact⟨y,J,ah⟩
    ·cases U
   ·cases h
end
end
section
theorem kB.Ml:∀ (vs l:List Value),vs.length<=l.length->kB l 0 vs (vs++l.drop vs.length)
 | [],_,_=>.nil
 | _ :: _,[],h=>by simp at h
 | v :: vs,_ :: l,h=>.cons (kB.Ml vs l (by simpa using h))
theorem kB.mk'{vs:List Value}:∀ {l:List Value} {k:Nat},k+vs.length<=l.length->kB l k vs (l.take k++vs++l.drop (k+vs.length))
 | l,0,h=>by
  simp only[List.take_zero,List.nil_append,Nat.zero_add]at h ⊢;exact kB.Ml vs l h
 | [],k+1,h=>by simp at h
 | c :: l,k+1,h=>by
  have:=kB.mk' (vs:=vs) (l:=l) (k:=k) (by simp at h; omega)
  rw[show k+1+vs.length=(k+vs.length)+1 by omega];exact .skip this
def x9(g:aQ):List g.D->Option (List ba)
 | []=>some []
 | x :: l=>match kC g x 0 g.size,x9 g l with
  | some a,some b=>some (a++b)
  | _,_=>none
def py{α:Type} (i:Nat) (y:α):Nat->List α->List α
 | _,[]=>[]
 | k,x :: l=>cond (Nat.beq i k) y x :: py i y (k+1) l
theorem Mm{α:Type} (y:α):∀ (l:List α) (i k:Nat),py (i+k) y k l=l.set i y
 | [],_,_=>rfl
 | x :: l,0,k=>by
  show cond (Nat.beq (0+k) k) y x :: py (0+k) y (k+1) l=y :: l;rw[show Nat.beq (0+k) k=true by rw[Nat.zero_add]; exact Nat.beq_refl k,cond_true]
  congr 1
  have:∀ (l:List α) (i k:Nat),i < k->py i y k l=l:=by
   intro l
   induction l with
   | nil=>intros; rfl
   | cons x l bA=>
    intro i k h;show cond (Nat.beq i k) y x :: py i y (k+1) l=_;have ae:Nat.beq i k=false:=by
     cases ae:Nat.beq i k with
     | false=>rfl
     | true=>have:=Nat.eq_of_beq_eq_true ae; omega
    rw[ae,cond_false,bA i (k+1) (by omega)]
  exact this l _ _ (by omega)
 | x :: l,i+1,k=>by
  show cond (Nat.beq (i+1+k) k) y x :: py (i+1+k) y (k+1) l=x :: l.set i y;have ae:Nat.beq (i+1+k) k=false:=by
   cases ae:Nat.beq (i+1+k) k with
   | false=>rfl
   | true=>have:=Nat.eq_of_beq_eq_true ae; omega
  rw[ae,cond_false,show i+1+k=i+(k+1) by omega,Mm y l i (k+1)]
section
variable {env:Nat->Loc} {B:Nat->Prop} {w:World}
theorem cd.take:∀ {cs:List ba} {vs:List Value} (k:Nat),cd env B w cs vs->cd env B w (cs.take k) (vs.take k)
 | _,_,0,_=>rfl
 | [],vs,k+1,h=>by rw[show vs=[] from h]; rfl
 | c :: cs,vs,k+1,⟨v,r,e,J,U⟩=>by
  subst e;exact⟨v,r.take k,rfl,J,cd.take k U⟩
theorem cd.drop:∀ {cs:List ba} {vs:List Value} (k:Nat),cd env B w cs vs->cd env B w (cs.drop k) (vs.drop k)
 | _,_,0,h=>h
 | [],vs,k+1,h=>by rw[show vs=[] from h]; rfl
 | c :: cs,vs,k+1,⟨v,r,e,J,U⟩=>by
  subst e;exact cd.drop k U
theorem cd.app:∀ {cs aE:List ba} {vs us:List Value},cd env B w cs vs->cd env B w aE us->cd env B w (cs++aE) (vs++us)
 | [],_,vs,_,h,U=>by rw[show vs=[] from h]; exact U
 | c :: cs,_,vs,_,⟨v,r,e,J,U⟩,ah=>by
  subst e;exact⟨v,_,rfl,J,cd.app U ah⟩
theorem bz.all{g:aQ} {x:g.D} {vs:List Value} {cs:List ba} (aA:bz B w g x vs) (aL:kC g x 0 g.size=some cs):cd env B w cs vs:=by
 obtain⟨us,⟨ad,aq⟩,ah⟩:=bz.cells (env:=env) aA aL;have mL:=bz.length aA;have tp:us=vs:=by
  apply List.ext_getElem?
  intro j;cases aR:us[j]? with
  | some u=>
   have:=aq j u aR
   rw[Nat.zero_add]at this;exact this.symm
  | none=>
   rw[List.getElem?_eq_none_iff]at aR;exact(List.getElem?_eq_none_iff.2 (by omega)).symm
 subst tp;exact ah
theorem Flat.all{g:aQ}:∀ {l:List g.D} {vs:List Value} {cs:List ba},Flat (bz B w g) l vs->x9 g l=some cs->cd env B w cs vs
 | [],vs,cs,h,aL=>by cases aL; exact h
 | x :: l,vs,cs,⟨v1,v2,e,J,U⟩,aL=>by
  simp only[x9]at aL
  split at aL
  ·rename_i a b bo ae
   cases aL;subst e;exact(bz.all J bo).app (Flat.all U ae)
  ·cases aL
end
def aQ.mT:aQ->Bool
 | .pair _ _=>true
 | _=>false
theorem ea.Mn{B:Nat->Prop} {w:World} {g:aQ} {x:g.D} {vs:List Value} (h:bz B w g x vs) (aq:g.mT=true):ea B w g x (.agg vs.toArray):=by
 cases g with
 | pair a b=>exact⟨vs,rfl,h⟩
 | _=>cases aq
theorem ea.Mo{B:Nat->Prop} {w:World} {g:aQ} {x:g.D} {v:Value} (h:bz B w g x [v]) (aq:g.mT=false):ea B w g x v:=by
 cases g with
 | pair a b=>cases aq
 | _=>exact h
section
variable {X:br} {M:Bool} {n:Nat} {r:Option Nat} {st:aM} {Q:Exit->aM->Prop} {ops rest:List Oper} {o:Oper} {d:Nat}
end
end
section
section
variable {P:Program} {b:Frame} {a:Act} {k:List Item} {cs:List Frame} {w:World} {Q:Exit->Act->World->Prop} {F:Fence} {n:Nat}
theorem ya{c:Code}:step P (lone (b.atR a (.code (.scope c) :: k)) cs w)=.next (lone (b.atR a (.code c :: .inScope c :: k)) cs w):=
 step_lone_go (by simp[stepG,stepG.exec,Frame.atR])
theorem XZ{c:Code}:step P (lone (b.atR a (.inScope c :: k)) cs w)=.next (lone (b.atR a k) cs w):=
 step_lone_go (by simp[stepG,stepG.exec,Frame.atR])
theorem X0{c:Code} (h:c.wpIn F n P (Exit.noGoto Q) a w):(Code.scope c).wpIn F n P Q a w:=by
 intro b k cs ts ae az;have aN:(lone (b.atR a (.code (.scope c) :: k)) cs w).fenced P F:=fenced_calm ae az rfl;obtain⟨e,r6,yb,ao,vL⟩:=h b (.inScope c :: k) cs ts ae az;have aj:∀ id,exitTo id (.inScope c :: k)=exitTo id k:=fun id=>by simp[exitTo]
 cases e with
 | normal=>exact⟨.normal,r6,yb,ao,.head aN ya (StepsIn.trans vL (.one (fenced_calm ae az rfl) XZ))⟩
 | exit id=>exact⟨.exit id,r6,yb,ao,.of_steps (.one aN ya) ⟨fun k' ab=>vL.1 k' (by rw[aj]; exact ab),fun az ab=>vL.2 az (by rw[aj]; exact ab)⟩⟩
 | goto l=>exact ao.elim
 | ret=>exact⟨_,r6,yb,ao,.of_steps (.one aN ya) vL⟩
 | panic X1=>exact⟨_,r6,yb,ao,.of_steps (.one aN ya) vL⟩
 | outgrown=>exact⟨_,r6,yb,ao,.of_steps (.one aN ya) vL⟩
end
section
variable {X:br} {M:Bool} {n:Nat} {r:Option Nat} {st:aM} {Q:Exit->aM->Prop} {c:Code}
theorem X2{l:Nat} (h:Q .normal st):k0 X M n r (.label l) st Q:=fun R W aG a w ag=>wpIn_label ⟨st,h,ag⟩
end
end
section
section
variable {X:br} {M:Bool} {n:Nat} {r:Option Nat} {st:aM} {Q:Exit->aM->Prop} {ops rest:List Oper} {o:Oper} {d:Nat}
end
end
section
theorem X3{P:Program} {t e:TypeId} {m:Nat} {i':bC} {cs:List Value} {k:IntKind} {j:Nat} {w:World} (aV:P.underlying t=some (.array m e)) (he:bC.ok P e i') (aR:j < m) {v:Value} (aB:(part e cs.toArray (j * i'.size)).run P w=.ok v w):(Instr.index t (.agg cs.toArray) (.int k (j:Int))).run P w=.ok v w:=by
 have aN:(0:Int)<=(j:Int):=Int.natCast_nonneg j;unfold Instr.index;simp only[asIntOf,Sem.run_bind,Sem.run_pure,Result.andThen_ok,run_underlying aV];rw[if_pos ⟨aN,by omega⟩];simp only[Sem.run_bind,bC.run_sizeOf he,Result.andThen_ok,Int.toNat_natCast,aB]
theorem X4{P:Program} {e:TypeId} {i':bC} {B:Nat->Prop} {ai w:World} {g:aQ} {l:List g.D} {vs:List Value} {j:Nat} (he:bC.ok P e i') (aA:Flat (bz B ai g) l vs) (aR:j < l.length) (cQ:g.size=i'.size) (k9:jn i'.desc=g.mT) (hJ:(g.mT || Nat.beq g.size 1)=true) :
  ∃ v,(part e vs.toArray (j * i'.size)).run P w=.ok v w/\ea B ai g (l.getD j g.zero) v:=by
 have iZ:l[j]?=some (l.getD j g.zero):=by rw[List.getD_eq_getElem?_getD,List.getElem?_eq_getElem aR]; rfl
 have U:=Flat.get (fun _ _=>bz.length) aA iZ;have hlen:=bz.length U;cases aq:g.mT with
 | true=>
  refine⟨.agg (vs.toArray.extract (j * i'.size) (j * i'.size+i'.size)),?_,?_⟩
  ·unfold part
   simp[bC.xn he,k9,aq,bC.run_sizeOf he]
  ·have:=ea.Mn U aq
   rw[<- cQ];have aC:vs.toArray.extract (j * g.size) (j * g.size+g.size)=((vs.drop (j * g.size)).take g.size).toArray:=by
    apply Array.ext'
    simp[Array.toList_extract,List.extract]
   rw[aC];exact this
 | false=>
  rw[aq,Bool.false_or]at hJ;have rK:=Nat.eq_of_beq_eq_true hJ;obtain⟨v,jx⟩:∃ v,(vs.drop (j * g.size)).take g.size=[v]:=by
   match hm:(vs.drop (j * g.size)).take g.size,hlen with
   | [v],_=>exact⟨v,rfl⟩
   | [],h=>simp[rK]at h
   | _ :: _ :: _,h=>simp[rK]at h
  have qw:vs[j * i'.size]?=some v:=by
   have:=congrArg (·[0]?) jx
   rw[<- cQ]
   simpa [List.getElem?_take,List.getElem?_drop,rK] using this
  refine⟨v,?_,ea.Mo (by rw[<- jx]; exact U) aq⟩;unfold part
  simp[bC.xn he,k9,aq,qw]
def Bv(g:aQ) (m:Nat):bf->Option (Bool×List g.D)
 | .agg cs=>match pP g m cs with
  | some (c,l,[])=>some (c,l)
  | _=>none
 | .arr g' l=>match decEq g' g with
  | isTrue h=>some (true,h ▸ l)
  | isFalse _=>none
 | _=>none
theorem X5{env:Nat->Loc} {B:Nat->Prop} {w:World} {g:aQ} {m:Nat} {x:bf} {c:Bool} {l:List g.D} {v:Value} (h:dI env B w x v) (bo:Bv g m x=some (c,l)) (aa:c=true):∃ vs,v=.agg vs.toArray/\Flat (bz B w g) l vs:=by
 unfold Bv at bo
 split at bo
 ·split at bo
  ·rename_i c' l' av
   cases bo;obtain⟨vs,rfl,J⟩:=h;obtain⟨_,v1,v2,e,U,ah⟩:=x6 J av aa;have au:v2=[]:=ah;rw[au,List.append_nil]at e;subst e;exact⟨_,rfl,U⟩
  ·cases bo
 ·split at bo
  ·rename_i aL _
   subst aL;cases bo;exact h
  ·cases bo
 ·cases bo
section
variable {X:br} {M:Bool} {n:Nat} {r:Option Nat} {st:aM} {Q:Exit->aM->Prop} {ops rest:List Oper} {o:Oper} {d:Nat}
end
end
section
def r7(l:List Int):List UInt8:=l.map fun z=>UInt8.ofNat z.toNat
def Bw(l:List Int):Bool:=l.all fun z=>decide (0<=z)&&decide (z < 256)
theorem Mp:∀ l:List Int,Bw l=true->(r7 l).map (fun c=>Value.int .u8 (c.toNat:Int))=l.map fun z=>Value.int .u8 z
 | [],_=>rfl
 | z :: l,h=>by
  simp only[Bw,List.all_cons,Bool.and_eq_true,decide_eq_true_eq]at h;show Value.int .u8 (((UInt8.ofNat z.toNat).toNat:Nat):Int) :: (r7 l).map _=_;rw[Mp l h.2,List.map_cons]
  congr 2
  have:(UInt8.ofNat z.toNat).toNat=z.toNat:=UInt8.toNat_ofNat_of_lt' (by show z.toNat < 256; omega)
  rw[this,Int.toNat_of_nonneg h.1.1]
theorem X6(s:List UInt8) (a b:Nat):Value.string ((ByteArray.mk s.toArray).extract a b)=eP ((s.take b).drop a):=by
 unfold eP
 congr 1
 apply ByteArray.ext
 rw[ByteArray.data_extract]
 apply Array.ext'
 simp[Array.toList_extract,List.extract,List.drop_take]
section
variable {X:br} {M:Bool} {n:Nat} {r:Option Nat} {st:aM} {Q:Exit->aM->Prop} {ops rest:List Oper} {o:Oper} {d:Nat}
theorem FI{P:Program} {t:TypeId} {s:List UInt8} {w:World} (aV:P.underlying t=some .string) {lo hi:Option Value} {a b:Nat} (h:(Instr.sliceBounds false s.length s.length lo hi none).run P w=.ok (a,b,s.length) w):(Instr.sliceAt t (eP s) lo hi none).run P w=.ok (eP ((s.take b).drop a)) w:=by
 have cQ:(ByteArray.mk s.toArray).size=s.length:=by simp[ByteArray.size]
 unfold Instr.sliceAt Instr.slice;simp only[eP,Sem.run_bind,run_underlying aV,Result.andThen_ok,cQ,h,Option.isSome_none,Bool.false_eq_true,if_false,Sem.run_pure]
 have:=X6 s a b
 simp only[eP]at this;rw[this]
end
end
section
section
variable {P:Program} {o:Oper} {n d:Nat} {D:List Deferred} {L:List (Nat×Value)} {a:Act} {w ai:World} {B:Nat->Prop} {H:List bb} {T:List (TypeId×bC)} {ops:Array Oper} {KK:Act->World->Prop}
theorem Mq{s x:Operand} {t e:TypeId} {i i':bC} {A cY:Option Addr} {k m cc:Nat} {xs news:List Value} (ar:Sym n D L B ai H a w)
  (ax:o.op=.call { callee:=.builtin .append,args:=#[s,x],argTypes:=#[t,t] }) (a6:o.guard=none/\o.dst=some d) (av:Nat.blt d n=true)
  (bE:gg P T) (J:T.lookup t=some i) (U:i.desc=.slice e) (ah:T.lookup e=some i') (au:Nat.blt 0 i'.size=true) (aF:i'.zero.cells.size=i'.size) (ak:aD L s=some (.slice A k k)) (aj:aD L x=some (.slice cY m cc))
  (j9:Reads w A k i'.size xs) (az:Reads w cY m i'.size news) (hJ:∀ u∈news,u.oneCell'=true) (ho:(k+m) * i'.bytes<=140737488355328) (ia:k+m<=140737488355328)
  (bG:m=0->∀ aS w',Sym n D ((d,.slice A k k) :: L) B ai H aS w'->KK aS w')
  (h:∀ b9 c' aS w',Sym n D ((d,.slice b9 (k+m) c') :: L) B ai (.row b9 c' e i'.size (k+m) (xs++news) :: H) aS w'->KK aS w'):eR P ops o KK a w:=by
 have aC:=(bE _ _ J).1;rw[U]at aC;have cB:=bE _ _ ah
 by_cases hm:m=0
 ·subst hm
  have dE:(execOp a.eval o).run P w=.ok (.value (.slice A k k)) w:=by
   have oM:(Builtin.append_ #[t,t] o.type #[.slice A k k,.slice cY 0 cc]).run P w=.ok (.slice A k k) w:=by
    have gH:=bC.run_sizeOf cB w;have oN:(Builtin.firstCells i'.size 0 (.slice cY 0 cc)).run P w=.ok #[] w:=by
     cases cY<;>simp[Builtin.firstCells,loadCells,loadCellsFrom]
    simp only[Builtin.append_,Sem.run_bind,run_underlying aC,Result.andThen_ok,gH]
    simp[run_underlying aC,Builtin.lenOf,oN]
    cases A<;>simp[storeCells,gH,oN]
   simp[execOp,ax,resolve,invoke,builtin,ar.aD ak,ar.aD aj,oM]
  exact qj ar a6 av dE ar.aJ (bG rfl)
 ·have qm:0 < m:=by omega
  cases A with
  | none=>
   have ab:k=0:=by
    by_cases ab:k=0
    ·exact ab
    ·obtain⟨b,p,e,_⟩:=j9.2 (by omega)
     cases e
   subst ab;have pO:xs=[]:=List.eq_nil_of_length_eq_zero (by rw[j9.1]; simp);subst pO;have tb:Sym n D L B ai (.row none 0 e i'.size 0 [] :: H) a w:=⟨ar.st,ar.aJ.pD e i'.size⟩
   exact AJ tb ax a6 av bE J U ah au aF ak aj u5 az hJ ho ia h
  | some rC=>
   obtain⟨inf,pz,e5,h8,l1⟩:=bC.info cB;obtain⟨jt,hp,cm,iu⟩:=az.2 qm;subst cm;have holds:∀ j u,xs[j]?=some u->w.cell? (rC.add j)=some u:=fun j u hu=>by
    have a8:j < xs.length:=(List.getElem?_eq_some_iff.1 hu).1;rw[j9.1]at a8;have ab:0 < k:=by
     rcases Nat.eq_zero_or_pos k with ab | ab
     ·rw[ab,Nat.zero_mul]at a8; omega
     ·exact ab
    obtain⟨b,p,cm,ka⟩:=j9.2 ab;cases cm;rw[Addr.add_lit];exact ka j u hu
   have hlen:(xs++news).length=(k+m) * i'.size:=by rw[List.length_append,j9.1,az.1,Nat.add_mul]
   have dE:=run_append_grow (P:=P) w t o.type e inf i'.zero aC pz l1 rC k k xs (by rw[j9.1,e5]) holds ⟨jt,hp,none⟩ m cc news (by rw[az.1,e5]) (fun j u hu=>by rw[Addr.add_lit]; exact iu j u hu) (by omega) (by omega) (growslice_fits (by omega) (by rw[h8]; exact ho));have pA:=grownCap_ge w (k+m) k e;have h9:grownCap w (k+m) k e<=maxLen:=grownCap_le_maxLen w (k+m) k e (by simp only[maxLen]; omega);refine qj ar a6 av (v:=.slice (some ⟨w.heap.size,0,none⟩) (k+m) (grownCap w (k+m) k e)) (w':=w.drew.alloc (.cells (xs.toArray++news.toArray++Builtin.zeroCells i'.zero.cells (grownCap w (k+m) k e - (k+m))) e)) (by simp[execOp,ax,resolve,invoke,builtin,ar.aD ak,ar.aD aj,dE]) ?_ (h (some ⟨w.heap.size,0,none⟩) (grownCap w (k+m) k e));have lA:=ar.aJ.drew;have bo:=lA.alloc (.cells (xs.toArray++news.toArray++Builtin.zeroCells i'.zero.cells (grownCap w (k+m) k e - (k+m))) e);have aq:=List.pairwise_cons.1 bo.apart;refine⟨bo.below,bo.base,fun dk jI=>?_,List.Pairwise.cons (fun dk jI q cm=>aq.1 dk jI q (by simpa [bb.has] using cm)) aq.2⟩
   rcases List.mem_cons.1 jI with rfl | jI
   ·refine⟨hlen,.inr ⟨w.heap.size,_,(0,0),rfl,ar.aJ.fresh,heap_alloc_new w.drew _,.inl rfl,pA,h9,?_,?_⟩⟩
    ·simp only[Array.size_append,List.size_toArray,size_zeroCells,aF,j9.1,az.1,<- Nat.add_mul]
     congr 1
     omega
    ·simp only[Array.toList_append,List.append_assoc]
     rw[<- List.append_assoc,<- hlen];exact List.take_left
   ·exact bo.ok dk (List.mem_cons_of_mem _ jI)
end
section
variable {X:br} {M:Bool} {n:Nat} {r:Option Nat} {st:aM} {Q:Exit->aM->Prop} {ops rest:List Oper} {o:Oper} {d:Nat}
def fg(X:br) (n:Nat) (o:Oper) (st st':aM):Prop:=∀ (R:Nat->Prop) (W:World) (aG:eX) (ks:List Nat) (env:Nat->Loc) (B:Nat->Prop) (ai:World) (H:List bb) (a:Act) (w:World),bH X R W aG n ks env B ai H st a w->∀ (KK:Act->World->Prop) (l:List Oper),(∀ aS w' env' H',bH X R W aG n ks env' B ai H' st' aS w'->KK aS w')->eR X.P l.toArray o KK a w
theorem Bx{st':aM} {E:List Nat} {aE:hC} {fuel i:Nat} {l':Array Bool} (hi:nth ops i=some o) (aq:fg X n o st st') (fR:e3 E aE.listed i=false) (ad:aE.listed.setIfInBounds i true=l')
  (h:jb X M n ops E fuel ⟨l',false,false,aE.jP,aE.all⟩ st' Q):pL X M n ops E fuel aE st Q i:=by
 intro R W aG db dF cM F ks env B ai H a w bJ ag dD;refine⟨o,k7 hi,aq R W aG ks env B ai H a w ag _ _ fun aS w' env' H' cf=>?_⟩;have ga:=dD.lost (H':=H') (l:=l');rw[ad];exact⟨⟨fun he=>(by rw[fR]at he; cases he),ga.F cf⟩,h R W aG db dF cM F ks env' B ai H' aS w' bJ cf ga⟩
theorem X7(ar:X.tt.ok X.P) {t e:TypeId} {x y:Operand} {g1 g2:Bool} {dH:bf} {id cA gJ:Nat} {ge g:aQ} {l bw:List g.D} {bj:bh} {aE:TypeDesc} {jM:Value} (ax:o.op=.call ⟨.builtin .append,⟨[x,y]⟩,⟨[t,t]⟩⟩) (a6:o.guard=none/\o.dst=some d) (av:(Nat.blt d n&&Nat.blt id hZ)=true)
  (aV:X.tt.find t=some bj) (cP:bj.bk.desc=.slice e) (he:X.tt.find e=some ⟨⟨aE,cA,gJ,jM⟩,some ge⟩) (aj:bm X st.L x=some (g1,.c (.an id))) (aL:g1=true) (aT:bm X st.L y=some (g2,dH)) (fm:g2=true)
  (bO:aU st.H id=some (.fk e g l)) (cQ:Nat.beq g.size cA=true) (l8:kZ st g dH=some bw) (aa:en gJ (l.length+bw.length)=true):fg X n o st ⟨(d,.c (.an id)) :: eJ id .dead st.L,(id,.fk e g (l++bw)) :: dq id .dead st.H⟩:=by
 intro R W aG ks env B ai H a w h KK lo dt;obtain⟨vx,gW,kD⟩:=h.aD aj aL;obtain⟨vy,fp,iO⟩:=h.aD aT fm;obtain⟨cR,dp,ib⟩:=(bV.get ar he).g ge rfl;obtain⟨T,bE,J,au⟩:=mG (bV.get ar aV).bk (bV.get ar he).bk;dsimp only at cR dp au;have nY:jM.cells.size=cA:=by
  have:jM.cells.toList.length=cA:=by rw[dp,<- cR]; exact bz.length (bz.eh (B:=B) (w:=ai) ge)
  simpa using this
 simp only[Bool.and_eq_true]at av;obtain⟨av,ta⟩:=av;have fM:=Nat.eq_of_beq_eq_true cQ;simp only[en,Bool.and_eq_true,decide_eq_true_eq]at aa;obtain⟨cY,cF,fZ,rfl,iF,gm⟩:=qz h l8 iO;obtain⟨A,c,m,iG,rfl⟩:=kD;obtain⟨dk,K,⟨b9,k',mM,qL⟩,dV,nv⟩:=h.EV (d:=d) (b':=.fk e g (l++bw)) bO (fun q aq=>by
  obtain⟨_,aF,aY⟩:=h.df _ _ aq;rw[iG]at aF
  rcases aY with⟨b,aY⟩ | aY
  ·rw[<- aF]at aY; cases aY
  ·have:=du ta; omega)
 rw[iG]at mM;cases mM;have Mr:Nat.blt 0 cA=true:=by rw[<- cR]; exact Nat.ble_eq_true_of_le ib
 rcases qL with⟨xs,rfl,cv⟩ | ⟨rfl,rfl,dU,xs,cv,gU⟩
 ·rw[fM]at dV gm
  refine AJ h.sym ax a6 av bE J cP au Mr nY gW fp dV gm (Flat.iD (fun _ _=>bz.iD) iF) aa.1 aa.2 fun b9 c' aS w' cr=>?_
  obtain⟨H',_,c7⟩:=nv (.row b9 c' (l++bw).length) (.row b9 c' e g.size (l++bw).length (xs++fZ)) aS w' (.c (.an id)) _ ⟨b9,c',eG,.inl ⟨_,rfl,cv.append iF⟩⟩ ⟨b9,c',_,eG,by rw[List.length_append]⟩ (by rw[fM,List.length_append]; exact cr.aJ) cr.st;exact dt aS w' _ H' c7
 ·have qA:=gU.jo h.aJ
  rw[fM]at qA gm;refine Mq h.sym ax a6 av bE J cP au Mr nY gW fp qA gm (Flat.iD (fun _ _=>bz.iD) iF) aa.1 aa.2 (fun hm aS w' cr=>?_) fun b9 c' aS w' cr=>?_
  ·have ih:bw=[]:=List.eq_nil_of_length_eq_zero hm
   subst ih;obtain⟨Y,Z,gj,tu⟩:=dV;obtain⟨H',_,c7⟩:=nv (.row A l.length (l++[]).length) (.row none 0 e g.size 0 []) aS w' (.c (.an id)) (.slice A l.length l.length) ⟨A,l.length,eG,.inr ⟨rfl,by simp,dU,xs,by rw[List.append_nil]; exact cv,by rw[List.append_nil]; exact gU⟩⟩ ⟨A,l.length,_,eG,by simp⟩ (by rw[tu]; dsimp only; rw[<- gj]; exact cr.aJ) cr.st;exact dt aS w' _ H' c7
  ·obtain⟨Y,Z,gj,tu⟩:=dV
   obtain⟨H',_,c7⟩:=nv (.row b9 c' (l++bw).length) (.row b9 c' e g.size (l++bw).length (xs++fZ)) aS w' (.c (.an id)) (.slice b9 (l.length+bw.length) c') ⟨b9,c',eG,.inl ⟨_,rfl,cv.append iF⟩⟩ ⟨b9,c',_,eG,by rw[List.length_append]⟩ (by
    have hN:=cr.aJ;rw[gj]at hN;rw[tu];dsimp only;have aq:(bb.row b9 c' e cA (l.length+bw.length) (xs++fZ) :: (Y++bb.row none 0 e g.size 0 [] :: Z)).Perm (bb.row none 0 e g.size 0 [] :: (Y++bb.row b9 c' e cA (l.length+bw.length) (xs++fZ) :: Z)):=by
     refine(List.Perm.cons _ List.perm_middle).trans ?_;refine(List.Perm.swap _ _ _).trans (List.Perm.cons _ List.perm_middle.symm)
    have gZ:=(hN.perm aq).ep (List.sublist_cons_self _ _);rw[fM,List.length_append];exact gZ) cr.st
   exact dt aS w' _ H' c7
end
section
variable {X:br} {n:Nat} {st:aM}
theorem dh.By(id:Nat) {t:TypeId} {g:aQ} {l:List g.D} {cap:Option Nat} (ak:aU st.H id=some (.row t g l cap)):dh X n st ⟨st.L,ef id (.fk t g l) st.H⟩:=fun R W aG M a w ⟨ks,env,B,ai,H,bJ,h⟩=>by
 obtain⟨dk,K,⟨A,k,xs,he,e,cv,_⟩,⟨Y,Z,J,U⟩,ah⟩:=h.lD (b':=.fk t g l) ak;obtain⟨H',au⟩:=ah dk a w ⟨A,k,he,.inl ⟨xs,e,cv⟩⟩ (by rw[U]; dsimp only; rw[<- J]; exact h.aJ) h.bL;exact⟨ks,env,B,ai,H',bJ,au⟩
theorem dh.tv(s id:Nat) (t:TypeId) (hid:Nat.blt id n=true) {g:aQ} {l:List g.D} {c:Nat} (ak:aU st.L s=some (.c (.bn g l (some c)))) (aa:c=l.length):dh X n st ⟨(s,.c (.an id)) :: eJ id .dead st.L,(id,.fk t g l) :: dq id .dead st.H⟩:=fun R W aG M a w ⟨ks,env,B,ai,H,bJ,h⟩=>by
 obtain⟨v,aB,A,c',xs,rfl,cV,dU,fc,cv,gU⟩:=h.has _ _ ak;have cB:c'=l.length:=(fc c rfl).trans aa;subst cB;obtain⟨H2,J,U⟩:=h.heap.del (z:=.dead) (h1 (env:=env) (id:=id) (l:=.row A l.length l.length)) (fun _ _=>trivial);refine⟨ks,iE env id (.row A l.length l.length),B,ai,.row none 0 t g.size 0 [] :: H2,bJ,h.size,h.defs,fun q u hu=>?_,⟨_,H2,rfl,⟨A,_,eG,.inr ⟨rfl,rfl,dU,xs,cv,gU⟩⟩,U⟩,(h.aJ.pD t g.size).ep ((J.append_right _).cons_cons _),h.sub,h.new,pH h.df (fun q aq=>by have J:=(h.df _ _ aq).1; have U:=du hid; omega),h.base,h.dQ⟩;rw[cl]at hu
 split at hu
 ·rename_i e
  subst e;cases hu;exact⟨_,aB,A,_,_,eG,rfl⟩
 ·obtain⟨hz,hA,rfl⟩:=l2 hu
  obtain⟨eF,aY,bK⟩:=h.has q hz hA;exact⟨eF,aY,ei.sub (z:=.dead) h1 (fun _ _=>trivial) bK⟩
def qM(id:Nat) (st:aM):Option aM:=
 match aU st.H id with
 | some (.fk _ g l)=>some ⟨eJ id (.bn g l none) st.L,dq id (.bn g l none) st.H⟩
 | _=>none
theorem Ms{b jt:ct} {id:Nat}:∀ {l:bx},aU l id=some b->aU (ef id jt l) id=some jt
 | [],h=>by cases h
 | (k,b') :: r,h=>by
  rw[cl]at h;unfold ef
  split
  ·rename_i ab
   rw[cl,if_pos (Nat.eq_of_beq_eq_true ab).symm]
  ·rename_i ab
   have cu:¬ id=k:=fun e=>by rw[e,Nat.beq_refl]at ab; cases ab
   rw[if_neg cu]at h;rw[cl,if_neg cu];exact Ms h
theorem Mt{b:ct} {id:Nat} {z:ba}:∀ {l:bx} {jt:ct},aU l id=some jt->dq id z (ef id b l)=dq id z l
 | [],_,h=>by cases h
 | (k,b') :: r,jt,h=>by
  rw[cl]at h;unfold ef;cases ab:Nat.beq k id with
  | true=>simp only[dq,ab]
  | false=>
   have cu:¬ id=k:=fun e=>by rw[e,Nat.beq_refl]at ab; cases ab
   rw[if_neg cu]at h;simp only[dq,ab,Mt h]
theorem dh.qM{id:Nat} {st':aM} (aA:qM id st=some st'):dh X n st st':=fun R W aG M a w ⟨ks,env,B,ai,H,bJ,h⟩=>by
 unfold Go.Proofs.YtcheedjfedcbpaaGreatDoor.qM at aA
 split at aA
 ·rename_i t g l bO
  cases aA;obtain⟨dk,K,⟨A,k,he,qL⟩,⟨Y,Z,aC,aW⟩,aF⟩:=h.lD (b':=.row t g l none) bO
  rcases qL with⟨xs,rfl,cv⟩ | ⟨rfl,rfl,dU,xs,cv,gU⟩
  ·obtain⟨H',aY⟩:=aF _ a w ⟨A,k,xs,he,rfl,cv,fun _ ao=>by cases ao⟩ (by rw[aW]; dsimp only; rw[<- aC]; exact h.aJ) h.bL
   have Mu:Go.Proofs.YtcheedjfedcbpaaGreatDoor.di id ⟨st.L,ef id (.row t g l none) st.H⟩=some ⟨eJ id (.bn g l none) st.L,dq id (.bn g l none) st.H⟩:=by
    unfold Go.Proofs.YtcheedjfedcbpaaGreatDoor.di;dsimp only;rw[Ms bO];dsimp only;rw[Mt bO]
   exact dh.di (X:=X) (n:=n) Mu R W aG M a w ⟨ks,env,B,ai,H',bJ,aY⟩
  ·have rO:∀ v,dv env B ai (.an id) v->dv env B ai (.bn g l none) v:=by
    rintro v ⟨b9,c',m,cI,rfl⟩;rw[he]at cI;cases cI;exact⟨A,l.length,xs,rfl,Nat.le_refl _,dU,(fun _ ao=>by cases ao),cv,gU⟩
   obtain⟨H2,J,U⟩:=h.heap.del (id:=id) (env':=env) (fun _ _=>rfl) rO;refine⟨ks,env,B,ai,H2,bJ,h.size,h.defs,fun q u hu=>?_,U,h.aJ.ep (J.append_right _),h.sub,h.new,h.df,h.base,h.dQ⟩;obtain⟨hz,hA,rfl⟩:=l2 hu;obtain⟨eF,aY,bK⟩:=h.has q hz hA;exact⟨eF,aY,ei.sub (fun _ _=>rfl) rO bK⟩
 ·cases aA
end
end
section
section
variable {X:br} {M:Bool} {n:Nat} {r:Option Nat} {st:aM} {Q:Exit->aM->Prop} {ops rest:List Oper} {o:Oper} {d:Nat} {bq:bf}
theorem X8(ar:X.tt.ok X.P) {t T:TypeId} {bj:bh} {x:Operand} {id d2 i:Nat} {el:Bool} {g:aQ} {l:List (List g.D)} {cap:Option Nat} {g1:Bool} (ax:o.op=.load t x)
  (aV:X.tt.find t=some bj) (k9:jn bj.bk.desc=false) (aj:bm X st.L x=some (g1,.c (.dZ id 1 i 0))) (cR:g1=true) (bO:aU st.H id=some (.cC el T g l cap i d2)):gT X st o (.c (.an d2)):=by
 intro R W aG n ks env B ai H a bZ ag;obtain⟨vx,J,b,c,m,he,rfl⟩:=ag.aD aj cR;obtain⟨dk,K,⟨A,k,ys,b9,c',dO,cI,rfl,cv,hi,k5,_⟩,aA⟩:=ag.heap.fE bO;rw[he]at cI;cases cI;have X9:ys.length=l.length:=n0.jq cv;refine⟨.slice b9 dO c',⟨b9,c',dO,k5,rfl⟩,fun w ak=>?_⟩;have eW:ew w (fun k=>R k\/B k) T 1 (some ⟨b,0,none⟩) c l.length (ys.set i (.slice b9 dO c')):=(ak (by rw[ax]; rfl)).ok _ aA.more.mem;have ir:w.cell? ⟨b,i * 1+0,none⟩=some (.slice b9 dO c'):=by
  rw[eW.cells rfl _ (by omega)]
  simp[List.getElem?_set,X9,hi]
 exact rJ ag.bL ax (bV.get ar aV).bk k9 J ir
theorem Ya{t bQ:TypeId} {u v:Operand} {g1 g2 fs cF:Bool} {cs aE:List ba} {g:aQ} {x y:g.D} (bS:r5 X.P t g) (ax:o.op=.binOp .eql t u v bQ)
  (hu:bm X st.L u=some (g1,.agg cs)) (cR:g1=true) (aB:bm X st.L v=some (g2,.agg aE)) (dp:g2=true) (aj:dec g cs=some (fs,x,[])) (ka:fs=true) (aT:dec g aE=some (cF,y,[])) (iu:cF=true):gT X st o (.c (.val (.bool (g.beq x y)))):=by
 intro R W aG n ks env B ai H a bZ ag;obtain⟨hM,J,U⟩:=ag.aD hu cR;obtain⟨vv,ah,au⟩:=ag.aD aB dp;rw[cd.cG bS.key U aj ka]at J;rw[cd.cG bS.key au aT iu]at ah;exact⟨_,rfl,fun w _=>SU ag.bL ax J ah bS.guard (bS.eq x y) w⟩
theorem Yb{t bQ:TypeId} {u v:Operand} {g1 g2 fs cF:Bool} {cs aE:List ba} {g:aQ} {x y:g.D} (bS:r5 X.P t g) (ax:o.op=.binOp .neq t u v bQ)
  (hu:bm X st.L u=some (g1,.agg cs)) (cR:g1=true) (aB:bm X st.L v=some (g2,.agg aE)) (dp:g2=true) (aj:dec g cs=some (fs,x,[])) (ka:fs=true) (aT:dec g aE=some (cF,y,[])) (iu:cF=true):gT X st o (.c (.val (.bool (!(g.beq x y))))):=by
 intro R W aG n ks env B ai H a bZ ag;obtain⟨hM,J,U⟩:=ag.aD hu cR;obtain⟨vv,ah,au⟩:=ag.aD aB dp;rw[cd.cG bS.key U aj ka]at J;rw[cd.cG bS.key au aT iu]at ah;exact⟨_,rfl,fun w _=>SV ag.bL ax J ah bS.guard (bS.eq x y) w⟩
theorem Yc(g:aQ) (p m:Nat) (z:Int) (ar:X.tt.ok X.P) {t T:TypeId} {bj:bh} {x:Operand} {id:Nat} {cs cw:List ba} {l:List g.D} {g1 c:Bool} (ax:o.op=.load t x)
  (aV:X.tt.find t=some bj) (cQ:Nat.beq g.size bj.bk.size=true) (k9:jn bj.bk.desc=g.mT) (hJ:(g.mT || Nat.beq g.size 1)=true) (aj:bm X st.L x=some (g1,.c (.ptr id (p+z.toNat * g.size)))) (cR:g1=true) (bO:aU st.H id=some (.cells T cs))
  (jr:pP g m (cs.drop p)=some (c,l,cw)) (aa:c=true) (bG:bl z m=true) (iH:nB g (l.getD z.toNat g.zero)=some bq):gT X st o bq:=by
 intro R W aG n ks env B ai H a bZ ag;obtain⟨vx,J,b,ae,rfl⟩:=ag.aD aj cR;obtain⟨dk,K,⟨b',vs,dm,rfl,gi⟩,dV⟩:=ag.heap.fE bO;rw[ae]at dm;cases dm;obtain⟨ad,v1,v2,aB,cv,_⟩:=x6 (gi.drop p) jr aa;obtain⟨j,rfl,aR,iM⟩:=kU bG;rw[Int.toNat_natCast]at J iH;have iZ:l[j]?=some (l.getD j g.zero):=by rw[List.getD_eq_getElem?_getD,List.getElem?_eq_getElem (by omega)]; rfl
 have U:=Flat.get (fun _ _=>bz.length) cv iZ;have hlen:=bz.length U;have ir:∀ w,bF (fun k=>R k\/B k) ai (H++ks.map c3) w->∀ q u,((v1.drop (j * g.size)).take g.size)[q]?=some u->w.cell? ⟨b,p+j * g.size+q,none⟩=some u:=fun w ak q u ao=>by
  rw[AE ak dV.more];rw[List.getElem?_take]at ao
  split at ao
  ·rw[List.getElem?_drop]at ao
   have ah:(vs.drop p)[j * g.size+q]?=some u:=by
    rw[aB,List.getElem?_append_left (List.getElem?_eq_some_iff.1 ao).1];exact ao
   rw[List.getElem?_drop]at ah;rw[Nat.add_assoc];exact ah
  ·cases ao
 have hi:=(bV.get ar aV).bk;have fM:=Nat.eq_of_beq_eq_true cQ;cases aq:g.mT with
 | true=>exact⟨_,(ea.Mn U aq).bq iH,fun w ak=>s3 ag.bL ax hi (by rw[k9,aq]) J (by rw[hlen,fM]) (ir w (ak (by rw[ax]; rfl)))⟩
 | false=>
  rw[aq,Bool.false_or]at hJ;have rK:=Nat.eq_of_beq_eq_true hJ;obtain⟨v,jx⟩:∃ v,(v1.drop (j * g.size)).take g.size=[v]:=by
   match hm:(v1.drop (j * g.size)).take g.size,hlen with
   | [v],_=>exact⟨v,rfl⟩
   | [],h=>simp[rK]at h
   | _ :: _ :: _,h=>simp[rK]at h
  rw[jx]at ir U;refine⟨v,(ea.Mo U aq).bq iH,fun w ak=>?_⟩
  have:=ir w (ak (by rw[ax]; rfl)) 0 v rfl
  rw[Nat.add_zero]at this;exact rJ ag.bL ax hi (by rw[k9,aq]) J this
end
end
section
section
variable {env:Nat->Loc} {B B':Nat->Prop} {w w':World}
end
end
section
def FJ(p:Nat) (c:ba):List ba->List ba
 | []=>[]
 | x :: r=>match p with
  | 0=>c :: r
  | q+1=>x :: FJ q c r
def pQ(k p:Nat) (c:ba):bx->bx
 | []=>[]
 | (j,b) :: r=>match Nat.beq j k with
  | true=>(j,match b with
   | .cells t cs=>.cells t (FJ p c cs)
   | b=>b) :: r
  | false=>(j,b) :: pQ k p c r
theorem cd.at{env:Nat->Loc} {B:Nat->Prop} {w:World}:∀ {p:Nat} {cs:List ba} {vs:List Value} {c:ba},cd env B w cs vs->cs[p]?=some c->∃ v,vs[p]?=some v/\dv env B w c v
 | _,[],_,_,_,aq=>by cases aq
 | 0,x :: cs,_,c,⟨v,r,e,J,_⟩,aq=>by
  cases aq;exact⟨v,by rw[e]; rfl,J⟩
 | p+1,x :: cs,_,c,⟨v,r,e,_,U⟩,aq=>by
  obtain⟨u,ah,au⟩:=cd.at (p:=p) (cs:=cs) U (by simpa using aq);exact⟨u,by rw[e]; simpa using ah,au⟩
theorem cd.setAt{env:Nat->Loc} {B:Nat->Prop} {w:World} {c:ba}:∀ {p:Nat} {cs:List ba} {vs:List Value} {v:Value},cd env B w cs vs->vs[p]?=some v->dv env B w c v->cd env B w (FJ p c cs) vs
 | 0,[],_,_,h,_,_=>h
 | _+1,[],_,_,h,_,_=>h
 | 0,x :: cs,_,v,⟨u,r,e,_,U⟩,aq,aa=>by
  rw[e]at aq;cases aq;exact⟨_,r,e,aa,U⟩
 | p+1,x :: cs,_,v,⟨u,r,e,J,U⟩,aq,aa=>by
  rw[e]at aq;exact⟨u,r,e,J,cd.setAt (p:=p) U (by simpa using aq) aa⟩
section
variable {env:Nat->Loc} {B:Nat->Prop} {w:World}
theorem bu.tv{k p id:Nat} {t:TypeId} {cs:List ba} {g:aQ} {li:List g.D} {c:Nat} (ab:Nat.beq k id=false) (aa:c=li.length):∀ {l:bx} {H:List bb},bu env B w l H->aU l k=some (.cells t cs)->cs[p]?=some (.bn g li (some c)) ->
  ∃ A xs,li.length<=maxLen/\Flat (bz B w g) li xs/\mE B w A li.length g.size xs/\∀ env',(∀ j,j≠id->env' j=env j)->env' id=.row A li.length li.length->∃ H',H'.Sublist H/\bu env' B w (pQ k p (.an id) (dq id .dead l)) H'
 | [],_,_,ad,_=>by cases ad
 | (j,b) :: l,_,⟨dk,H',e,J,U⟩,ad,aq=>by
  rw[cl]at ad;subst e
  split at ad
  ·rename_i e
   subst e;cases ad;obtain⟨yc,vs,cV,dU,gb⟩:=J;obtain⟨v,hL,A,c',xs,mH,vM,yd,Yd,Ye,Yf⟩:=cd.at gb aq;have vu:c'=li.length:=(Yd c rfl).trans aa;subst vu;refine⟨A,xs,yd,Ye,Yf,fun env' he hid=>?_⟩;obtain⟨H2,ak,ah⟩:=bu.del (z:=.dead) he (fun _ _=>trivial) U;have ae:ej env' B w k ((ct.cells t cs).sub id .dead) dk:=ej.sub (z:=.dead) he (fun _ _=>trivial) (Nat.ne_of_beq_eq_false ab) (b:=.cells t cs) ⟨yc,vs,cV,dU,gb⟩;obtain⟨Yg,mF,aH,a1,bD⟩:=ae;have pI:mF=vs:=by
    rw[dU]at a1;cases a1
    rfl
   subst pI;refine⟨dk :: H2,ak.cons_cons _,?_⟩;unfold dq;rw[ab];show bu env' B w (pQ k p (.an id) ((k,(ct.cells t cs).sub id .dead) :: dq id .dead l)) (dk :: H2);unfold pQ;rw[Nat.beq_refl];exact⟨dk,H2,rfl,⟨Yg,mF,aH,a1,cd.setAt bD hL ⟨A,_,_,hid,mH⟩⟩,ah⟩
  ·rename_i cu
   obtain⟨A,xs,cV,dU,gb,hL⟩:=bu.tv ab aa U ad aq;refine⟨A,xs,cV,dU,gb,fun env' he hid=>?_⟩;obtain⟨H2,ak,ah⟩:=hL env' he hid;unfold dq
   split
   ·exact⟨H2,ak.cons _,ah⟩
   ·rename_i aR
    refine⟨dk :: H2,ak.cons_cons _,?_⟩;unfold pQ;have th:Nat.beq j k=false:=by
     cases ae:Nat.beq j k with
     | false=>rfl
     | true=>exact absurd (Nat.eq_of_beq_eq_true ae).symm cu
    rw[th];exact⟨dk,H2,rfl,ej.sub (z:=.dead) he (fun _ _=>trivial) (Nat.ne_of_beq_eq_false aR) J,ah⟩
end
theorem dh.Bz{X:br} {n:Nat} {st:aM} (k p id:Nat) (t:TypeId) (hid:Nat.blt id n=true) (nz:Nat.beq k id=false) {T:TypeId} {cs:List ba} {g:aQ} {l:List g.D} {c:Nat} (ak:aU st.H k=some (.cells T cs)) (aq:cs[p]?=some (.bn g l (some c))) (aa:c=l.length) :
  dh X n st ⟨eJ id .dead st.L,(id,.fk t g l) :: pQ k p (.an id) (dq id .dead st.H)⟩:=fun R W aG M a w ⟨ks,env,B,ai,H,bJ,h⟩=>by
 obtain⟨A,xs,dU,cv,gU,ao⟩:=bu.tv nz aa h.heap ak aq;obtain⟨H2,J,U⟩:=ao (iE env id (.row A l.length l.length)) h1 eG;refine⟨ks,iE env id (.row A l.length l.length),B,ai,.row none 0 t g.size 0 [] :: H2,bJ,h.size,h.defs,fun q u hu=>?_,⟨_,H2,rfl,⟨A,_,eG,.inr ⟨rfl,rfl,dU,xs,cv,gU⟩⟩,U⟩,(h.aJ.pD t g.size).ep ((J.append_right _).cons_cons _),h.sub,h.new,pH h.df (fun q aq=>by have J:=(h.df _ _ aq).1; have U:=du hid; omega),h.base,h.dQ⟩;obtain⟨hz,hA,rfl⟩:=l2 hu;obtain⟨eF,aY,bK⟩:=h.has q hz hA;exact⟨eF,aY,ei.sub (z:=.dead) h1 (fun _ _=>trivial) bK⟩
end
section
section
variable {P:Program} {ops:Array Oper} {o:Oper} {KK:Act->World->Prop} {n:Nat} {D:List Deferred} {L:List (Nat×Value)} {B:Nat->Prop} {ai:World} {H:List bb} {a:Act} {w:World} {d:Nat}
theorem Yh{f:FuncId} {fn:Func} {s:Nat} {p:Value} {xs:List Operand} {fr:Array TypeId} {vs:List Value} (ar:Sym n D L B ai H a w) (ax:o.op=.call { callee:=.value (.tmp s),args:=xs.toArray,argTypes:=fr })
  (ak:L.lookup s=some (.func (.func f) #[p] #[])) (gR:P.funcs[f]?=some fn)
  (a7 : (fn.name == "runtime.NumGoroutine") = false) (ae : fn.body.isNone = false) (aB : iz L xs = some vs) : (execOp a.eval o).run P w = .ok (.enter f (p :: vs).toArray) w := by
 have e:a.eval (.tmp s)=.func (.func f) #[p] #[]:=ar.aD (x:=.tmp s) ak
 have hn : fn.name ≠ "runtime.NumGoroutine" := by simpa using a7
 have dm:fn.body≠none:=by intro h; rw[h]at ae; cases ae
 simp[execOp,ax,resolve,e,Deferred.ofValue,invoke,callFunc,program,Sem.run,gR,hn,dm,ar.st.iz aB]
theorem Yi{f:FuncId} {fn:Func} {s:Nat} {p:Value} {xs:List Operand} {fr:Array TypeId} {vs:List Value} {R:Value->World->Prop} (ar:Sym n D L B ai H a w)
  (ax:o.op=.call { callee:=.value (.tmp s),args:=xs.toArray,argTypes:=fr }) (a6:o.guard=none/\o.dst=some d) (av:Nat.blt d n=true) (ak:L.lookup s=some (.func (.func f) #[p] #[]))
  (gR : P.funcs[f]? = some fn) (a7 : (fn.name == "runtime.NumGoroutine") = false) (ae : fn.body.isNone = false) (aB : iz L xs = some vs) (dK : oJ P f (p :: vs).toArray w R)
  (h:∀ v aS w',R v w'->cW n D ((d,v) :: L) aS->KK aS w'):eR P ops o KK a w:=by
 refine .inl ⟨by simp[Region.wanted,a6.1],.inr (.inr ⟨f,(p :: vs).toArray,w,Yh ar ax ak gR a7 ae aB,?_⟩)⟩;refine Calls.mono dK ?_;rintro e w' ⟨v,rfl,dT⟩;exact⟨v,rfl,h v _ w' dT (by rw[a6.2]; exact ar.st.put d v (du av))⟩
end
section
variable {X:br} {M:Bool} {n:Nat} {r:Option Nat} {st:aM} {Q:Exit->aM->Prop} {ops rest:List Oper} {o:Oper} {d:Nat}
end
section
variable {X:br} {M:Bool} {n:Nat} {st:aM} {Q:Exit->aM->Prop} {ops:List Oper} {E:List Nat} {aE:hC} {KY:Array Bool} {fuel d i:Nat} {o:Oper}
end
end
section
section
variable {X:br} {M:Bool} {n:Nat} {r:Option Nat} {st:aM} {Q:Exit->aM->Prop} {ops rest:List Oper} {o:Oper} {d:Nat}
theorem Yj(ar:X.tt.ok X.P) {t fa fv:TypeId} {bj r8 dr:bh} {k:IntKind} {aZ:aQ} {u x:Operand} {id:Nat} {l:List (Int×aZ.D)} {jA:Option (List MapEntry×Nat)} {z:Int} {g:Bool} {bq:bf} (ax:o.op=.lookup t u x true) (a6:o.guard=none/\o.dst=some d) (av:Nat.blt d n=true)
  (aV:X.tt.find t=some bj) (cP:bj.bk.desc=.map fa fv) (ab:X.tt.find fa=some r8) (ye:r8.bk.desc=.int k) (he:X.tt.find fv=some dr) (bG:∀ B w,ea B w aZ aZ.zero dr.bk.zero)
  (hu:bm X st.L u=some (true,.c (.cp id))) (aj:bm X st.L x=some (g,.c (.val (.int k z)))) (aL:g=true) (bO:aU st.H id=some (.mp (.int k) aZ l jA)) (iH:nB aZ ((cJ (.int k) aZ l z).getD aZ.zero)=some bq):fg X n o st ⟨(d,.da [bq,.c (.val (.bool (cJ (.int k) aZ l z).isSome))]) :: st.L,st.H⟩:=by
 intro R W aG ks env B ai H a w ag KK lo dt;obtain⟨hM,J,b,ae,rfl⟩:=ag.aD hu rfl;obtain⟨vx,U,ah⟩:=ag.aD aj aL;rw[show vx=_ from ah]at U;obtain⟨c,K,⟨b',es,clock,dm,rfl,hR,dn,_⟩,dV⟩:=ag.heap.fE bO;rw[ae]at dm;cases dm;have ha:=(ag.aJ.ok _ dV.more.mem).2;have aC:=(bV.get ar aV).bk.1;rw[cP]at aC;have cB:=(bV.get ar ab).bk.1;rw[ye]at cB;have gj:=bC.pw (bV.get ar he).bk w;have nC:∃ v,(Instr.lookup t (.map (some b)) (.int k z) true).run X.P w=.ok (.tuple #[v,.bool (cJ (.int k) aZ l z).isSome]) w/\ea B ai aZ ((cJ (.int k) aZ l z).getD aZ.zero) v:=by
  unfold Instr.lookup;rw[show(10000:Nat)=9999+1 from rfl];simp only[Sem.run_bind,run_underlying aC,Result.andThen_ok,MapKept.run_getObj_map ha,Em cB,Sem.run_pure]
  rcases hR.FD (z:=z) 0 with⟨au,aF⟩ | ⟨y,j,v,au,aF,aY,_⟩
  ·refine⟨dr.bk.zero,?_,by rw[au]; exact bG _ _⟩
   simp[MapKept.run_findKey cB aF,gj,Result.andThen,au]
  ·refine⟨v,?_,by rw[au]; exact aY⟩
   simp[MapKept.run_findKey cB aF,Result.andThen,au]
 obtain⟨v,dE,la⟩:=nC;refine fU ag.bL a6.1 a6.2 (du av) (v:=.tuple #[v,.bool (cJ (.int k) aZ l z).isSome]) (w':=w) ?_ fun aS aI=>?_
 ·simp[execOp,ax,ag.bL.aD J,ag.bL.aD U,dE]
 ·exact dt aS _ env H (ag.set (sv:=.da [bq,.c (.val (.bool (cJ (.int k) aZ l z).isSome))]) ⟨[v,.bool (cJ (.int k) aZ l z).isSome],rfl,v,_,rfl,la.bq iH,_,_,rfl,rfl,rfl⟩ aI)
end
end
section
section
variable {X:br} {M:Bool} {n:Nat} {r:Option Nat} {ops:List Oper} {rest:List Oper} {o:Oper} {d:Nat} {st:aM} {Q:Exit->aM->Prop}
theorem Yk(ar:X.tt.ok X.P) {t e:TypeId} {x y:Operand} {g1 g2:Bool} {dH:bf} {id cA gJ:Nat} {ge g:aQ} {l bw:List g.D} {cap:Option Nat} {bj:bh} {aE:TypeDesc} {jM:Value} (ax:o.op=.call ⟨.builtin .copy,⟨[x,y]⟩,⟨[t,t]⟩⟩) (a6:o.guard=none/\o.dst=some d) (av:Nat.blt d n=true)
  (aV:X.tt.find t=some bj) (cP:bj.bk.desc=.slice e) (he:X.tt.find e=some ⟨⟨aE,cA,gJ,jM⟩,some ge⟩) (aj:bm X st.L x=some (g1,.c (.an id))) (aL:g1=true) (aT:bm X st.L y=some (g2,dH)) (fm:g2=true)
  (bO:aU st.H id=some (.row e g l cap)) (cQ:Nat.beq g.size cA=true) (l8:kZ st g dH=some bw) (aa:Nat.beq bw.length l.length=true):fg X n o st ⟨(d,.c (.val (.int .i64 (l.length:Int)))) :: st.L,ef id (.row e g bw cap) st.H⟩:=by
 intro R W aG ks env B ai H a w h KK lo dt;obtain⟨vx,gW,kD⟩:=h.aD aj aL;obtain⟨vy,fp,iO⟩:=h.aD aT fm;obtain⟨cR,dp,ib⟩:=(bV.get ar he).g ge rfl;obtain⟨T,bE,J,au⟩:=mG (bV.get ar aV).bk (bV.get ar he).bk;have fM:=Nat.eq_of_beq_eq_true cQ;have lH:=Nat.eq_of_beq_eq_true aa;obtain⟨cY,cF,fZ,rfl,iF,gm⟩:=qz h l8 iO;obtain⟨A,c,m,iG,rfl⟩:=kD;obtain⟨dk,K,⟨b9,k',xs,mM,rfl,cv,fc⟩,dV,nv⟩:=h.lD (b':=.row e g bw cap) bO;rw[iG]at mM;cases mM;rw[fM]at dV gm;rw[lH]at fp gm;refine S4 h.sym ax a6 av bE J cP au gW fp dV gm (Flat.iD (fun _ _=>bz.iD) iF) fun aS w' cr=>?_
 obtain⟨H',c7⟩:=nv (.row A c e g.size l.length fZ) a w' ⟨A,c,fZ,by rw[lH]; exact iG,by rw[lH],iF,fc⟩ (by rw[fM]; exact cr.aJ) h.bL;exact dt aS w' _ H' (c7.set rfl cr.st)
end
end
section
section
variable {X:br} {M:Bool} {n:Nat} {r:Option Nat} {ops rest:List Oper} {o:Oper} {d:Nat} {st:aM} {Q:Exit->aM->Prop}
end
end
section
def KV{α β:Type} (x:α) (k:α->Option β):Option β:=k x
section
variable {X:br} {n:Nat} {st:aM}
end
/-! ### Arrays that are rows are frozen -/
section
variable {X:br} {R:Nat->Prop} {W:World} {aG:eX} {n:Nat} {ks:List Nat} {env:Nat->Loc} {B:Nat->Prop} {ai:World} {H:List bb} {st st':aM} {a:Act} {w:World}
theorem bH.vN(h:bH X R W aG n ks env B ai H st a w) (s:Nat) {id cA:Nat} {t:TypeId} {g:aQ} {l:List g.D} {cap:Option Nat} (ak:aU st.L s=some (.c (.dZ id cA 0 0))) (bO:aU st.H id=some (.row t g l cap)):∃ env' B' cD H',bH X R W aG n ks env' B' cD H' ⟨(s,.c (.par g l)) :: eJ id .dead st.L,dq id .dead st.H⟩ a w:=by
 obtain⟨c0,_,⟨A,k,xL,he,rfl,_,fc⟩,mN⟩:=h.heap.fE bO;have c8:ft B ai (fun q=>B q\/A.map (·.block)=some q) w:=⟨fun q ao=>.inl ao,fun q ao=>h.aJ.below.block q (.inr ao)⟩
 obtain⟨c,Y,Z,⟨b9,k',xs,cI,rfl,cv,_⟩,U,ah⟩:=(h.heap.up c8).take bO;rw[he]at cI;cases cI;have hs:bb.row A k t g.size l.length xs∈H++ks.map c3:=by rw[U]; simp
 have eW:ew w (fun k=>R k\/B k) t g.size A k l.length xs:=h.aJ.ok _ hs;have fN:∀ q,A.map (·.block)=some q->¬ (R q\/B q)/\q < w.heap.size:=fun q ao=>(h.aJ.ok _ hs).lt ao
 obtain⟨H2,au,aF,LM⟩:=ah env .dead (fun _ _=>rfl) (fun _ _=>trivial);have jO:=h.aJ.apart;rw[U,List.append_assoc,List.cons_append]at jO;refine⟨env,_,w,H2,⟨h.size,h.defs,fun q u hu=>?_,aF,?_,fun q ao=>.inl (h.sub q ao),fun q ao=>?_,h.df,h.base.trans ⟨h.aJ.below.os,h.aJ.below.tape,h.aJ.below.output,h.aJ.below.size,fun q ao=>h.aJ.below.block q (.inl ao)⟩,fun i x aj=>(h.dQ i x aj).up c8⟩⟩
 ·rw[cl]at hu
  split at hu
  ·rename_i e
   subst e;cases hu;obtain⟨eF,aY,b,c',Yl,bK,c7⟩:=h.has _ _ ak;rw[he]at bK;cases bK;refine⟨eF,aY,b,0,xs,by rw[c7]; simp,.inr rfl,cv,fun j u aR=>?_⟩;have az:Reads w (some ⟨b,0,none⟩) l.length g.size xs:=Reads.AN h.aJ hs;have ad:=bz.jq cv;have kV:0 < l.length:=by
    rcases Nat.eq_zero_or_pos l.length with e | e
    ·rw[e,Nat.zero_mul]at ad
     have:=(List.getElem?_eq_some_iff.1 aR).1
     omega
    ·exact e
   obtain⟨b',p,e,aa⟩:=az.2 kV;cases e;exact aa j u aR
  ·obtain⟨hz,hA,rfl⟩:=l2 hu
   obtain⟨eF,aY,bK⟩:=h.has q hz hA;exact⟨eF,aY,ei.sub (z:=.dead) (fun _ _=>rfl) (fun _ _=>trivial) (bK.up c8)⟩
 ·have ak:bF (fun k=>R k\/B k) ai (H2++ks.map c3) w:=by
   have aY:=h.aJ;rw[U]at aY;have aq:(Y++bb.row A k t g.size l.length xs :: Z++ks.map c3).Perm (bb.row A k t g.size l.length xs :: (Y++Z++ks.map c3)):=by
    simp only[List.append_assoc,List.cons_append];exact List.perm_middle
   exact(aY.perm aq).ep (((au.append_right _)).cons _)
  refine⟨c6.refl _ _,fun q ao=>?_,fun c aa=>(ak.ok c aa).base fun b ae bT=>?_,ak.apart⟩
  ·rcases ao with ao | ao | ao
   ·exact h.aJ.base q (.inl ao)
   ·exact h.aJ.base q (.inr ao)
   ·exact(fN q ao).2
  ·rcases bT with bT | bT | bT
   ·exact((ak.ok c aa).lt ae).1 (.inl bT)
   ·exact((ak.ok c aa).lt ae).1 (.inr bT)
   ·have h9:c∈Y++(Z++ks.map c3):=by
     rcases List.mem_append.1 aa with aa | aa
     ·have:=au.subset aa
      rcases List.mem_append.1 this with bK | bK
      ·exact List.mem_append_left _ bK
      ·exact List.mem_append_right _ (List.mem_append_left _ bK)
     ·exact List.mem_append_right _ (List.mem_append_right _ aa)
    rw[List.pairwise_append,List.pairwise_cons]at jO;obtain⟨_,⟨c7,_⟩,hN⟩:=jO
    rcases List.mem_append.1 h9 with bK | bK
    ·exact hN c bK _ List.mem_cons_self b ae bT
    ·exact c7 c bK b bT ae
 ·rcases ao with ao | ao
  ·exact(h.new q ao).imp_right fun aO=>⟨aO.1,aO.2.dP (h.aJ.below.block q (.inr ao))⟩
  ·exact .inr ⟨fun dT=>(fN q ao).1 (.inl dT),(h.aJ.ok _ hs).cells rfl ao⟩
theorem dh.vN(s:Nat) {id cA:Nat} {t:TypeId} {g:aQ} {l:List g.D} {cap:Option Nat} (ak:aU st.L s=some (.c (.dZ id cA 0 0))) (bO:aU st.H id=some (.row t g l cap)):dh X n st ⟨(s,.c (.par g l)) :: eJ id .dead st.L,dq id .dead st.H⟩:=fun _ _ _ _ _ _ ⟨ks,env,B,ai,H,bJ,ag⟩=>by
 obtain⟨env',B',cD,H',h⟩:=ag.vN s ak bO;exact⟨ks,env',B',cD,H',bJ,h⟩
end
end
abbrev dc:List Type->Type
 | []=>Unit
 | A :: r=>A×dc r
abbrev yf:List Type->Type
 | []=>Unit
 | [A]=>A
 | A :: B :: r=>A×yf (B :: r)
def o1:(l:List Type)->dc l->yf l
 | [],_=>()
 | [_],u=>u.1
 | _ :: B :: r,u=>(u.1,o1 (B :: r) u.2)
def mc:(l:List Type)->yf l->dc l
 | [],_=>()
 | [_],u=>(u,())
 | _ :: B :: r,u=>(u.1,mc (B :: r) u.2)
theorem tw:∀ (l:List Type) (u:dc l),mc l (o1 l u)=u
 | [],_=>rfl
 | [_],_=>rfl
 | _ :: B :: r,u=>by
  show(u.1,mc (B :: r) (o1 (B :: r) u.2))=u;rw[tw (B :: r)]
inductive r9 where
 | id (i:Nat)
 | eS (g:aQ)
abbrev pR:List r9->List Type->List Type
 | [],T=>T
 | .id _ :: r,T=>pR r T
 | .eS g :: r,T=>g.D :: pR r T
def lI:(l:List r9)->{T:List Type}->dc (pR l T)->List e6×dc T
 | [],_,t=>([],t)
 | .id i :: r,_,u=>(.id i :: (lI r u).1,(lI r u).2)
 | .eS g :: r,_,u=>(.eS g u.1 :: (lI r u.2).1,(lI r u.2).2)
def Mv{g g':aQ} (h:g'=g) (x:g'.D):g.D:=h ▸ x
def ob{g g':aQ} (h:g'=g) (l:List g'.D):List g.D:=h ▸ l
def sa:(l:List r9)->List e6->{T:List Type}->dc T->Option (dc (pR l T))
 | [],[],_,t=>some t
 | .id i :: r,.id j :: s,_,t=>match Nat.beq i j with
  | true=>sa r s t
  | false=>none
 | .eS g :: r,.eS g' x :: s,_,t=>match decEq g' g with
  | isTrue h=>match sa r s t with
   | some u=>some (Mv h x,u)
   | none=>none
  | isFalse _=>none
 | _,_,_,_=>none
theorem BA:∀ {l:List r9} {s:List e6} {T:List Type} {t:dc T} {u:dc (pR l T)},sa l s t=some u->lI l u=(s,t)
 | [],[],_,_,_,h=>by cases h; rfl
 | .id i :: r,.id j :: s,_,t,u,h=>by
  unfold sa at h
  split at h
  ·rename_i e
   have:=Nat.eq_of_beq_eq_true e
   subst this
   have:=BA h
   unfold lI;rw[this]
  ·cases h
 | .eS g :: r,.eS g' x :: s,_,t,u,h=>by
  unfold sa at h
  split at h
  ·rename_i e _
   subst e
   split at h
   ·rename_i eF e
    cases h
    have:=BA e
    unfold lI;rw[this]
    rfl
   ·cases h
  ·cases h
 | [],_ :: _,_,_,_,h=>by cases h
 | .id _ :: _,[],_,_,_,h=>by cases h
 | .eS _ :: _,[],_,_,_,h=>by cases h
 | .id _ :: _,.eS _ _ :: _,_,_,_,h=>by cases h
 | .eS _ :: _,.id _ :: _,_,_,_,h=>by cases h
inductive cM where
 | raw (c:ba)
 | int (k:IntKind)
 | bool
 | str
 | bn (g:aQ)
 | BB (g:aQ)
 | jT (g:aQ)
 | BC (g:aQ)
 | fF (g:aQ) (off:Nat)
 | par (g:aQ)
 | fn (f:FuncId) (cs:List r9)
 | dZ (id cA off:Nat)
 | gD (id:Nat)
 | hK (id:Nat)
abbrev cM.LT:cM->List Type->List Type
 | .raw _,T=>T
 | .int _,T=>Int :: T
 | .bool,T=>Bool :: T
 | .str,T=>List UInt8 :: T
 | .bn g,T=>List g.D :: T
 | .BB g,T=>List g.D :: T
 | .jT g,T=>List g.D :: Nat :: T
 | .BC g,T=>List g.D :: Option Nat :: T
 | .fF g _,T=>g.D :: T
 | .par g,T=>List g.D :: T
 | .fn _ cs,T=>pR cs T
 | .dZ _ _ _,T=>Nat :: T
 | .gD _,T=>Nat :: T
 | .hK _,T=>Bool :: T
def cM.S:(s:cM)->{T:List Type}->dc (s.LT T)->ba×dc T
 | .raw c,_,t=>(c,t)
 | .int k,_,u=>(.val (.int k u.1),u.2)
 | .bool,_,u=>(.val (.bool u.1),u.2)
 | .str,_,u=>(.str u.1,u.2)
 | .bn g,_,u=>(.bn g u.1 none,u.2)
 | .BB g,_,u=>(.bn g u.1 (some u.1.length),u.2)
 | .jT g,_,u=>(.bn g u.1 (some u.2.1),u.2.2)
 | .BC g,_,u=>(.bn g u.1 u.2.1,u.2.2)
 | .fF g off,_,u=>(.fF g u.1 off,u.2)
 | .par g,_,u=>(.par g u.1,u.2)
 | .fn f cs,_,u=>(.fn f (lI cs u).1,(lI cs u).2)
 | .dZ id cA off,_,u=>(.dZ id cA u.1 off,u.2)
 | .gD id,_,u=>(.gD id u.1,u.2)
 | .hK id,_,u=>(.hK u.1 id,u.2)
def FK:Value->Value->Bool
 | .slice none 0 0,.slice none 0 0=>true
 | .pointer none,.pointer none=>true
 | .map none,.map none=>true
 | .nilIface,.nilIface=>true
 | .nilFunc,.nilFunc=>true
 | _,_=>false
def ba.eqv:ba->ba->Bool
 | .dead,_=>true
 | .ptr i o,.ptr j p=>Nat.beq i j&&Nat.beq o p
 | .an i,.an j=>Nat.beq i j
 | .cp i,.cp j=>Nat.beq i j
 | .gD i o,.gD j p=>Nat.beq i j&&Nat.beq o p
 | .iA f i,.iA g j=>Nat.beq f g&&Nat.beq i j
 | .val v,.val u=>FK v u
 | _,_=>false
def pS(x y:ba):Prop:=∀ env B w v,dv env B w x v->dv env B w y v
theorem Ym:∀ {v u:Value},FK v u=true->v=u:=by
 intro v u h;unfold FK at h
 split at h<;>first | rfl | cases h
theorem ba.Yn{c x:ba} (h:c.eqv x=true):pS x c:=by
 unfold ba.eqv at h
 split at h
 ·intro _ _ _ _ _; trivial
 ·simp only[Bool.and_eq_true]at h
  rw[Nat.eq_of_beq_eq_true h.1,Nat.eq_of_beq_eq_true h.2]; exact fun _ _ _ _ h=>h
 ·rw[Nat.eq_of_beq_eq_true h]; exact fun _ _ _ _ h=>h
 ·rw[Nat.eq_of_beq_eq_true h]; exact fun _ _ _ _ h=>h
 ·simp only[Bool.and_eq_true]at h
  rw[Nat.eq_of_beq_eq_true h.1,Nat.eq_of_beq_eq_true h.2]; exact fun _ _ _ _ h=>h
 ·simp only[Bool.and_eq_true]at h
  rw[Nat.eq_of_beq_eq_true h.1,Nat.eq_of_beq_eq_true h.2]; exact fun _ _ _ _ h=>h
 ·rw[Ym h]; exact fun _ _ _ _ h=>h
 ·cases h
def isNil:Value->Bool
 | .slice none 0 0=>true
 | _=>false
theorem Mw{v:Value} (h:isNil v=true):v=.slice none 0 0:=by
 unfold isNil at h
 split at h
 ·rfl
 ·cases h
def cM.get:(s:cM)->ba->{T:List Type}->dc T->Option (dc (s.LT T))
 | .raw c,x,_,t=>match c.eqv x with
  | true=>some t
  | false=>none
 | .int k,.val (.int k' z),_,t=>match decEq k' k with
  | isTrue _=>some (z,t)
  | isFalse _=>none
 | .bool,.val (.bool b),_,t=>some (b,t)
 | .str,.str s,_,t=>some (s,t)
 | .bn g,.bn g' l _,_,t=>match decEq g' g with
  | isTrue h=>some (ob h l,t)
  | isFalse _=>none
 | .bn g,.val v,_,t=>match isNil v with
  | true=>some (([]:List g.D),t)
  | false=>none
 | .BB g,.bn g' l (some c),_,t=>match decEq g' g,Nat.beq c l.length with
  | isTrue h,true=>some (ob h l,t)
  | _,_=>none
 | .BB g,.val v,_,t=>match isNil v with
  | true=>some (([]:List g.D),t)
  | false=>none
 | .jT g,.bn g' l (some c),_,t=>match decEq g' g with
  | isTrue h=>some (ob h l,c,t)
  | isFalse _=>none
 | .jT g,.val v,_,t=>match isNil v with
  | true=>some (([]:List g.D),0,t)
  | false=>none
 | .BC g,.bn g' l c,_,t=>match decEq g' g with
  | isTrue h=>some (ob h l,c,t)
  | isFalse _=>none
 | .BC g,.val v,_,t=>match isNil v with
  | true=>some (([]:List g.D),some 0,t)
  | false=>none
 | .fF g off,.fF g' x o,_,t=>match decEq g' g,Nat.beq off o with
  | isTrue h,true=>some (Mv h x,t)
  | _,_=>none
 | .par g,.par g' l,_,t=>match decEq g' g with
  | isTrue h=>some (ob h l,t)
  | isFalse _=>none
 | .fn f cs,.fn f' ids,_,t=>match Nat.beq f f' with
  | true=>sa cs ids t
  | false=>none
 | .dZ id cA off,.dZ oc Yo i Yp,_,t=>match Nat.beq id oc,Nat.beq cA Yo,Nat.beq off Yp with
  | true,true,true=>some (i,t)
  | _,_,_=>none
 | .gD id,.gD oc i,_,t=>match Nat.beq id oc with
  | true=>some (i,t)
  | false=>none
 | .hK id,.hK b oc,_,t=>match Nat.beq id oc with
  | true=>some (b,t)
  | false=>none
 | .hK id,.ptr oc 0,_,t=>match Nat.beq id oc with
  | true=>some (true,t)
  | false=>none
 | .hK _,.val (.pointer none),_,t=>some (false,t)
 | _,_,_,_=>none
theorem pS.nil{g:aQ} {v:Value} (h:isNil v=true) (k:Option Nat) (ab:∀ q,k=some q->q=0):pS (.val v) (.bn g [] k):=fun env B w u hu=>by
 rw[Mw h]at hu;obtain⟨A,c,xs,J,U,ah,au,aF⟩:=UF (env:=env) (B:=B) (w:=w) (g:=g) hu;exact⟨A,c,xs,J,U,ah,fun q ao=>by rw[ab q ao]; exact au 0 rfl,aF⟩
theorem Yq{f:FuncId} {cs:List r9} {ids:List e6} {T:List Type} {t:dc T} {u:dc (pR cs T)} (h:sa cs ids t=some u):((cM.fn f cs).S (T:=T) u).2=t/\pS (.fn f ids) ((cM.fn f cs).S (T:=T) u).1:=by
 show(lI cs u).2=t/\pS _ (.fn f (lI cs u).1);rw[BA h];exact⟨rfl,fun _ _ _ _ h=>h⟩
theorem cM.ij{s:cM} {x:ba} {T:List Type} {t:dc T} {u:dc (s.LT T)} (h:s.get x t=some u):(s.S u).2=t/\pS x (s.S u).1:=by
 unfold cM.get at h
 split at h
 ·split at h
  ·rename_i e; cases h; exact⟨rfl,ba.Yn e⟩
  ·cases h
 ·split at h
  ·rename_i e _; subst e; cases h; exact⟨rfl,fun _ _ _ _ h=>h⟩
  ·cases h
 ·cases h; exact⟨rfl,fun _ _ _ _ h=>h⟩
 ·cases h; exact⟨rfl,fun _ _ _ _ h=>h⟩
 ·split at h
  ·rename_i e _; subst e; cases h
   exact⟨rfl,fun _ _ _ _ ⟨A,c,xs,J,U,ah,_,aF⟩=>⟨A,c,xs,J,U,ah,(fun _ e=>by cases e),aF⟩⟩
  ·cases h
 ·split at h
  ·rename_i e; cases h; exact⟨rfl,pS.nil e _ fun _ e=>by cases e⟩
  ·cases h
 ·split at h
  ·rename_i e _ aa; subst e; cases h
   have:=Nat.eq_of_beq_eq_true aa
   subst this;exact⟨rfl,fun _ _ _ _ h=>h⟩
  ·cases h
 ·split at h
  ·rename_i e; cases h; exact⟨rfl,pS.nil e _ fun _ e=>by cases e; rfl⟩
  ·cases h
 ·split at h
  ·rename_i e _; subst e; cases h; exact⟨rfl,fun _ _ _ _ h=>h⟩
  ·cases h
 ·split at h
  ·rename_i e; cases h; exact⟨rfl,pS.nil e _ fun _ e=>by cases e; rfl⟩
  ·cases h
 ·split at h
  ·rename_i e _; subst e; cases h; exact⟨rfl,fun _ _ _ _ h=>h⟩
  ·cases h
 ·split at h
  ·rename_i e; cases h; exact⟨rfl,pS.nil e _ fun _ e=>by cases e; rfl⟩
  ·cases h
 ·split at h
  ·rename_i e _ aa; subst e; cases h
   have:=Nat.eq_of_beq_eq_true aa
   subst this;exact⟨rfl,fun _ _ _ _ h=>h⟩
  ·cases h
 ·split at h
  ·rename_i e _; subst e; cases h; exact⟨rfl,fun _ _ _ _ h=>h⟩
  ·cases h
 ·split at h
  ·rename_i e
   have:=Nat.eq_of_beq_eq_true e
   subst this;exact Yq h
  ·cases h
 ·split at h
  ·rename_i aC aW cB
   cases h;rw[<- Nat.eq_of_beq_eq_true aC,<- Nat.eq_of_beq_eq_true aW,<- Nat.eq_of_beq_eq_true cB];exact⟨rfl,fun _ _ _ _ h=>h⟩
  ·cases h
 ·split at h
  ·rename_i aC
   cases h;rw[<- Nat.eq_of_beq_eq_true aC];exact⟨rfl,fun _ _ _ _ h=>h⟩
  ·cases h
 ·split at h
  ·rename_i aC
   cases h;rw[<- Nat.eq_of_beq_eq_true aC];exact⟨rfl,fun _ _ _ _ h=>h⟩
  ·cases h
 ·split at h
  ·rename_i aC
   cases h;rw[<- Nat.eq_of_beq_eq_true aC];exact⟨rfl,fun _ _ _ _ ⟨b,J,U⟩=>⟨b,fun _=>J,U⟩⟩
  ·cases h
 ·cases h
  exact⟨rfl,fun _ _ _ _ h=>⟨0,fun h=>(by cases h),h⟩⟩
 ·cases h
abbrev vO:List cM->List Type->List Type
 | [],T=>T
 | c :: r,T=>c.LT (vO r T)
def qN:(l:List cM)->{T:List Type}->dc (vO l T)->List ba×dc T
 | [],_,t=>([],t)
 | c :: r,_,u=>((c.S u).1 :: (qN r (c.S u).2).1,(qN r (c.S u).2).2)
def yg:(l:List cM)->List ba->{T:List Type}->dc T->Option (dc (vO l T))
 | [],[],_,t=>some t
 | c :: r,x :: s,_,t=>match yg r s t with
  | some u=>c.get x u
  | none=>none
 | _,_,_,_=>none
theorem FL:∀ {l:List cM} {s:List ba} {T:List Type} {t:dc T} {u:dc (vO l T)},yg l s t=some u->(qN l u).2=t/\∀ env B w vs,cd env B w s vs->cd env B w (qN l u).1 vs
 | [],[],_,_,_,h=>by cases h; exact⟨rfl,fun _ _ _ _ h=>h⟩
 | c :: r,x :: s,_,t,u,h=>by
  unfold yg at h
  split at h
  ·rename_i eF e
   obtain⟨J,U⟩:=FL e;obtain⟨ah,au⟩:=cM.ij h;unfold qN;rw[ah];refine⟨J,fun env B w vs ⟨v,q,e,bo,ae⟩=>⟨v,q,e,au _ _ _ _ bo,U _ _ _ _ ae⟩⟩
  ·cases h
 | [],_ :: _,_,_,_,h=>by cases h
 | _ :: _,[],_,_,_,h=>by cases h
inductive fS where
 | c (x:cM)
 | agg (l:List cM)
 | arr (g:aQ)
 | c9 (g:aQ)
abbrev fS.LT:fS->List Type->List Type
 | .c x,T=>x.LT T
 | .agg l,T=>vO l T
 | .arr g,T=>List g.D :: T
 | .c9 g,T=>g.D :: T
def FM(g:aQ) (x:g.D):bf:=match kC g x 0 g.size with
 | some cs=>.agg cs
 | none=>.agg []
def fS.S:(s:fS)->{T:List Type}->dc (s.LT T)->bf×dc T
 | .c x,_,u=>(.c (x.S u).1,(x.S u).2)
 | .agg l,_,u=>(.agg (qN l u).1,(qN l u).2)
 | .arr g,_,u=>(.arr g u.1,u.2)
 | .c9 g,_,u=>(FM g u.1,u.2)
def fS.get:(s:fS)->bf->{T:List Type}->dc T->Option (dc (s.LT T))
 | .c x,.c y,_,t=>x.get y t
 | .agg l,.agg cs,_,t=>yg l cs t
 | .arr g,.arr g' l,_,t=>match decEq g' g with
  | isTrue h=>some (ob h l,t)
  | isFalse _=>none
 | .c9 g,.agg cs,_,t=>match dec g cs with
  | some (true,x,[])=>match kC g x 0 g.size with
   | some _=>some (x,t)
   | none=>none
  | _=>none
 | _,_,_,_=>none
theorem fS.ij{s:fS} {x:bf} {T:List Type} {t:dc T} {u:dc (s.LT T)} (h:s.get x t=some u):(s.S u).2=t/\∀ env B w v,dI env B w x v->dI env B w (s.S u).1 v:=by
 unfold fS.get at h
 split at h
 ·exact cM.ij h
 ·obtain⟨J,U⟩:=FL h
  exact⟨J,fun env B w v ⟨vs,e,aa⟩=>⟨vs,e,U _ _ _ _ aa⟩⟩
 ·split at h
  ·rename_i e _; subst e; cases h; exact⟨rfl,fun _ _ _ _ h=>h⟩
  ·cases h
 ·split at h
  ·rename_i aC
   split at h
   ·rename_i hI aW
    cases h;refine⟨rfl,fun env B w v ⟨vs,e,aa⟩=>?_⟩;show dI env B w (FM _ _) v;unfold FM;rw[aW];exact⟨vs,e,aa.data aC rfl aW⟩
   ·cases h
  ·cases h
 ·cases h
abbrev iR:List fS->List Type->List Type
 | [],T=>T
 | c :: r,T=>c.LT (iR r T)
def hS:(l:List fS)->{T:List Type}->dc (iR l T)->List bf×dc T
 | [],_,t=>([],t)
 | c :: r,_,u=>((c.S u).1 :: (hS r (c.S u).2).1,(hS r (c.S u).2).2)
def vP:(l:List fS)->List bf->{T:List Type}->dc T->Option (dc (iR l T))
 | [],[],_,t=>some t
 | c :: r,x :: s,_,t=>match vP r s t with
  | some u=>c.get x u
  | none=>none
 | _,_,_,_=>none
theorem yh:∀ {l:List fS} {s:List bf} {T:List Type} {t:dc T} {u:dc (iR l T)},vP l s t=some u->(hS l u).2=t/\∀ env B w vs,dw env B w s vs->dw env B w (hS l u).1 vs
 | [],[],_,_,_,h=>by cases h; exact⟨rfl,fun _ _ _ _ h=>h⟩
 | c :: r,x :: s,_,t,u,h=>by
  unfold vP at h
  split at h
  ·rename_i eF e
   obtain⟨J,U⟩:=yh e;obtain⟨ah,au⟩:=fS.ij h;unfold hS;rw[ah];refine⟨J,fun env B w vs ⟨v,q,e,bo,ae⟩=>⟨v,q,e,au _ _ _ _ bo,U _ _ _ _ ae⟩⟩
  ·cases h
 | [],_ :: _,_,_,_,h=>by cases h
 | _ :: _,[],_,_,_,h=>by cases h
inductive jU where
 | a (x:fS)
 | da (l:List fS)
abbrev jU.LT:jU->List Type->List Type
 | .a x,T=>x.LT T
 | .da l,T=>iR l T
def jU.S:(s:jU)->{T:List Type}->dc (s.LT T)->b0×dc T
 | .a x,_,u=>(.a (x.S u).1,(x.S u).2)
 | .da l,_,u=>(.da (hS l u).1,(hS l u).2)
def jU.get:(s:jU)->b0->{T:List Type}->dc T->Option (dc (s.LT T))
 | .a x,.a y,_,t=>x.get y t
 | .da l,.da cs,_,t=>vP l cs t
 | _,_,_,_=>none
def tx(x y:b0):Prop:=∀ env B w v,ei env B w x v->ei env B w y v
theorem jU.ij{s:jU} {x:b0} {T:List Type} {t:dc T} {u:dc (s.LT T)} (h:s.get x t=some u):(s.S u).2=t/\tx x (s.S u).1:=by
 unfold jU.get at h
 split at h
 ·exact fS.ij h
 ·obtain⟨J,U⟩:=yh h
  exact⟨J,fun env B w v ⟨vs,e,aa⟩=>⟨vs,e,U _ _ _ _ aa⟩⟩
 ·cases h
abbrev vQ:List (Nat×jU)->List Type->List Type
 | [],T=>T
 | c :: r,T=>c.2.LT (vQ r T)
def mU:(l:List (Nat×jU))->{T:List Type}->dc (vQ l T)->cL×dc T
 | [],_,t=>([],t)
 | c :: r,_,u=>((c.1,(c.2.S u).1) :: (mU r (c.2.S u).2).1,(mU r (c.2.S u).2).2)
def BD:(l:List (Nat×jU))->cL->{T:List Type}->dc T->Option (dc (vQ l T))
 | [],_,_,t=>some t
 | c :: r,L,_,t=>match aU L c.1,BD r L t with
  | some x,some u=>c.2.get x u
  | _,_=>none
theorem BE:∀ {l:List (Nat×jU)} {L:cL} {T:List Type} {t:dc T} {u:dc (vQ l T)},BD l L t=some u->(mU l u).2=t/\∀ s sv,aU (mU l u).1 s=some sv->∃ x,aU L s=some x/\tx x sv
 | [],_,_,_,_,h=>by cases h; exact⟨rfl,fun _ _ h=>by cases h⟩
 | c :: r,L,_,t,u,h=>by
  unfold BD at h
  split at h
  ·rename_i x eF aC e
   obtain⟨J,U⟩:=BE e;obtain⟨ah,au⟩:=jU.ij h;unfold mU;rw[ah];refine⟨J,fun s sv ak=>?_⟩;rw[cl]at ak
   split at ak
   ·rename_i e; subst e; cases ak; exact⟨x,aC,au⟩
   ·exact U s sv ak
  ·cases h
inductive h3 where
 | cells (t:TypeId) (l:List cM)
 | row (t:TypeId) (g:aQ)
 | FN (t:TypeId) (g:aQ)
 | fk (t:TypeId) (g:aQ)
 | mp (gk aZ:aQ)
 | cC (el:Bool) (t:TypeId) (g:aQ) (d:Nat)
 | FO (el:Bool) (t:TypeId) (g:aQ) (d:Nat)
 | hq
 | gS (eT:Nat)
 | b5 (t bQ:TypeId) (g:aQ)
 | FP (t bQ:TypeId) (g:aQ) (d:Option Nat)
abbrev h3.LT:h3->List Type->List Type
 | .cells _ l,T=>vO l T
 | .row _ g,T=>List g.D :: T
 | .FN _ g,T=>List g.D :: Nat :: T
 | .fk _ g,T=>List g.D :: T
 | .mp gk aZ,T=>List (gk.D×aZ.D) :: T
 | .cC _ _ g _,T=>List (List g.D) :: Nat :: T
 | .FO _ _ g _,T=>List (List g.D) :: Nat :: Nat :: T
 | .hq,T=>ByteArray :: Nat :: T
 | .gS _,T=>T
 | .b5 _ _ g,T=>List (Bool×List g.D) :: T
 | .FP _ _ g _,T=>List (Bool×List g.D) :: Nat :: T
def h3.S:(s:h3)->{T:List Type}->dc (s.LT T)->ct×dc T
 | .cells t l,_,u=>(.cells t (qN l u).1,(qN l u).2)
 | .row t g,_,u=>(.row t g u.1 none,u.2)
 | .FN t g,_,u=>(.row t g u.1 (some u.2.1),u.2.2)
 | .fk t g,_,u=>(.fk t g u.1,u.2)
 | .mp gk aZ,_,u=>(.mp gk aZ u.1 none,u.2)
 | .cC el t g d,_,u=>(.cC el t g u.1 none u.2.1 d,u.2.2)
 | .FO el t g d,_,u=>(.cC el t g u.1 (some u.2.2.1) u.2.1 d,u.2.2.2)
 | .hq,_,u=>(.hq u.1 u.2.1,u.2.2)
 | .gS m,_,u=>(.gS m,u)
 | .b5 t bQ g,_,u=>(.b5 t bQ g u.1 none none,u.2)
 | .FP t bQ g d,_,u=>(.b5 t bQ g u.1 none (some (u.2.1,d)),u.2.2)
def Mx{g g':aQ} (h:g'=g) (l:List (Bool×List g'.D)):List (Bool×List g.D):=h ▸ l
def My{g g':aQ} (h:g'=g) (l:List (List g'.D)):List (List g.D):=h ▸ l
def Yr{gk BF aZ BG:aQ} (h:BF=gk) (U:BG=aZ) (l:List (BF.D×BG.D)):List (gk.D×aZ.D):=h ▸ U ▸ l
def h3.get:(s:h3)->ct->{T:List Type}->dc T->Option (dc (s.LT T))
 | .cells t l,.cells bQ cs,_,u=>match Nat.beq bQ t with
  | true=>yg l cs u
  | false=>none
 | .row t g,.row bQ g' l _,_,u=>match Nat.beq bQ t,decEq g' g with
  | true,isTrue h=>some (ob h l,u)
  | _,_=>none
 | .FN t g,.row bQ g' l (some c),_,u=>match Nat.beq bQ t,decEq g' g with
  | true,isTrue h=>some (ob h l,c,u)
  | _,_=>none
 | .fk t g,.fk bQ g' l,_,u=>match Nat.beq bQ t,decEq g' g with
  | true,isTrue h=>some (ob h l,u)
  | _,_=>none
 | .fk t g,.row bQ g' l _,_,u=>match Nat.beq bQ t,decEq g' g with
  | true,isTrue h=>some (ob h l,u)
  | _,_=>none
 | .mp gk aZ,.mp BF BG l _,_,u=>match decEq BF gk,decEq BG aZ with
  | isTrue h,isTrue U=>some (Yr h U l,u)
  | _,_=>none
 | .cC el t g d,.cC FQ bQ g' l _ i fG,_,u=>match decEq FQ el,Nat.beq bQ t,Nat.beq fG d,decEq g' g with
  | isTrue _,true,true,isTrue h=>some (My h l,i,u)
  | _,_,_,_=>none
 | .FO el t g d,.cC FQ bQ g' l (some c) i fG,_,u=>match decEq FQ el,Nat.beq bQ t,Nat.beq fG d,decEq g' g with
  | isTrue _,true,true,isTrue h=>some (My h l,i,c,u)
  | _,_,_,_=>none
 | .hq,.hq s p,_,u=>some (s,p,u)
 | .gS m,.gS dO,_,u=>match Nat.beq dO m with
  | true=>some u
  | false=>none
 | .b5 t t2 g,.b5 bQ FR g' l _ none,_,u=>match Nat.beq bQ t,Nat.beq FR t2,decEq g' g with
  | true,true,isTrue h=>some (Mx h l,u)
  | _,_,_=>none
 | .FP t t2 g d,.b5 bQ FR g' l _ (some (i,fG)),_,u=>match Nat.beq bQ t,Nat.beq FR t2,decEq fG d,decEq g' g with
  | true,true,isTrue _,isTrue h=>some (Mx h l,i,u)
  | _,_,_,_=>none
 | _,_,_,_=>none
def Ys(id:Nat) (x y:ct):Prop:=∀ env B w c,ej env B w id x c->ej env B w id y c
theorem h3.ij{s:h3} {x:ct} {T:List Type} {t:dc T} {u:dc (s.LT T)} (id:Nat) (h:s.get x t=some u):(s.S u).2=t/\Ys id x (s.S u).1:=by
 unfold h3.get at h
 split at h
 ·split at h
  ·rename_i e
   rw[Nat.eq_of_beq_eq_true e];obtain⟨J,U⟩:=FL h;exact⟨J,fun env B w c ⟨b,vs,e,aa,ah⟩=>⟨b,vs,e,aa,U _ _ _ _ ah⟩⟩
  ·cases h
 ·split at h
  ·rename_i U e _
   subst U;rw[Nat.eq_of_beq_eq_true e];cases h;exact⟨rfl,fun env B w c ⟨A,k,xs,e,aa,ah,_⟩=>⟨A,k,xs,e,aa,ah,fun _ e=>by cases e⟩⟩
  ·cases h
 ·split at h
  ·rename_i U e _
   subst U;rw[Nat.eq_of_beq_eq_true e];cases h;exact⟨rfl,fun env B w c h=>h⟩
  ·cases h
 ·split at h
  ·rename_i U e _
   subst U;rw[Nat.eq_of_beq_eq_true e];cases h;exact⟨rfl,fun env B w c h=>h⟩
  ·cases h
 ·split at h
  ·rename_i U e _
   subst U;rw[Nat.eq_of_beq_eq_true e];cases h;exact⟨rfl,fun env B w c ⟨A,k,xs,e,aa,ah,_⟩=>⟨A,k,e,.inl ⟨xs,aa,ah⟩⟩⟩
  ·cases h
 ·split at h
  ·rename_i J U _ _
   subst J;subst U;cases h;exact⟨rfl,fun env B w c ⟨b,es,k,e,aa,ah,au,_⟩=>⟨b,es,k,e,aa,ah,au,fun _ e=>by cases e⟩⟩
  ·cases h
 ·split at h
  ·rename_i he ah _ J U _
   subst he;subst ah;rw[Nat.eq_of_beq_eq_true J,Nat.eq_of_beq_eq_true U];cases h;exact⟨rfl,fun env B w c ⟨A,k,ys,b9,c',m,e,aa,J,hi,U,_,au⟩=>⟨A,k,ys,b9,c',m,e,aa,J,hi,U,(fun _ e=>by cases e),au⟩⟩
  ·cases h
 ·split at h
  ·rename_i he ah _ J U _
   subst he;subst ah;rw[Nat.eq_of_beq_eq_true J,Nat.eq_of_beq_eq_true U];cases h;exact⟨rfl,fun env B w c h=>h⟩
  ·cases h
 ·cases h
  exact⟨rfl,fun env B w c h=>h⟩
 ·split at h
  ·rename_i e
   rw[Nat.eq_of_beq_eq_true e];cases h;exact⟨rfl,fun env B w c h=>h⟩
  ·cases h
 ·split at h
  ·rename_i ah J U _
   subst ah;rw[Nat.eq_of_beq_eq_true J,Nat.eq_of_beq_eq_true U];cases h;exact⟨rfl,fun env B w c ⟨A,k,ys,cT,I,e,aa,au,aF,_⟩=>⟨A,k,ys,cT,I,e,aa,au,aF,fun _ e=>by cases e⟩⟩
  ·cases h
 ·split at h
  ·rename_i he ah J U _ _
   subst he;subst ah;rw[Nat.eq_of_beq_eq_true J,Nat.eq_of_beq_eq_true U];cases h;exact⟨rfl,fun env B w c ⟨A,k,ys,cT,I,e,aa,au,aF,_⟩=>⟨A,k,ys,cT,I,e,aa,au,aF,fun _ e=>by cases e⟩⟩
  ·cases h
 ·cases h
abbrev me:List (Nat×h3)->List Type->List Type
 | [],T=>T
 | c :: r,T=>c.2.LT (me r T)
def je:(l:List (Nat×h3))->{T:List Type}->dc (me l T)->bx×dc T
 | [],_,t=>([],t)
 | c :: r,_,u=>((c.1,(c.2.S u).1) :: (je r (c.2.S u).2).1,(je r (c.2.S u).2).2)
def tz:(l:List (Nat×h3))->bx->{T:List Type}->dc T->Option (dc (me l T))
 | [],[],_,t=>some t
 | c :: r,x :: s,_,t=>match Nat.beq c.1 x.1,tz r s t with
  | true,some u=>c.2.get x.2 u
  | _,_=>none
 | _,_,_,_=>none
theorem tA:∀ {l:List (Nat×h3)} {h:bx} {T:List Type} {t:dc T} {u:dc (me l T)},tz l h t=some u->(je l u).2=t/\∀ env B w H,bu env B w h H->bu env B w (je l u).1 H
 | [],[],_,_,_,h=>by cases h; exact⟨rfl,fun _ _ _ _ h=>h⟩
 | c :: r,x :: s,_,t,u,h=>by
  unfold tz at h
  split at h
  ·rename_i eF aC e
   obtain⟨J,U⟩:=tA e;obtain⟨ah,au⟩:=h3.ij x.1 h;unfold je;rw[ah];refine⟨J,fun env B w H ⟨q,H',e,bo,ae⟩=>⟨q,H',e,?_,U _ _ _ _ ae⟩⟩;rw[Nat.eq_of_beq_eq_true aC];exact au _ _ _ _ bo
  ·cases h
 | [],_ :: _,_,_,_,h=>by cases h
 | _ :: _,[],_,_,_,h=>by cases h
structure ed where
 L:List (Nat×jU)
 H:List (Nat×h3)
 qO:List Nat:=[]
 jV:List Nat:=[]
abbrev ed.T (s:ed):List Type:=vQ s.L (me s.H [])
abbrev ed.D (s:ed):Type:=yf s.T
section
structure bI(X:br) where
 f:FuncId
 fn:Func
 A:List fS
 eL:List (Nat×h3)
 aP:Type
 od:aP
 m:dc (iR A (me eL []))->Option aP
 out:dc (iR A (me eL []))->aP->b0×bx
 aA:X.P.funcs[f]?=some fn
 a7 : (fn.name == "runtime.NumGoroutine") = false
 ae:fn.body.isNone=false
 ok:∀ d r,m d=some r->AC X f (hS A d).1 (je eL (hS A d).2).1 (fun sv h=>sv=(out d r).1/\h=(out d r).2)
def o2:eg->eg
 | []=>[]
 | (i,j) :: r=>(j,i) :: o2 r
theorem FT:∀ {ps:eg} {i j:Nat},(j,i)∈o2 ps ↔ (i,j)∈ps
 | [],_,_=>by simp[o2]
 | (a,b) :: r,i,j=>by
  unfold o2;rw[List.mem_cons,List.mem_cons,FT];simp only[Prod.mk.injEq];constructor<;>rintro(⟨J,U⟩ | h)
  ·exact .inl ⟨U,J⟩
  ·exact .inr h
  ·exact .inl ⟨U,J⟩
  ·exact .inr h
theorem Mz:∀ ps:eg,rT (o2 ps)=kg ps
 | []=>rfl
 | (a,b) :: r=>by
  unfold o2 rT kg;rw[Mz r]
theorem FU{ps:eg} (J:(rT ps).Nodup) (U:(kg ps).Nodup) {i j:Nat}:aU (o2 ps) j=some i ↔ aU ps i=some j:=by
 constructor
 ·intro h
  exact xR J (FT.1 (vr h))
 ·intro h
  exact xR (by rw[Mz]; exact U) (FT.2 (vr h))
def oe(ps iS:eg):List Nat->bx->Option (bx×bx)
 | [],H=>some ([],H)
 | i :: is,H=>match aU ps i with
  | some j=>match aU H j with
   | some b'=>match b'.dJ iS,oe ps iS is (l9 j H)with
    | some b,some (h,H')=>some ((i,b) :: h,H')
    | _,_=>none
   | none=>none
  | none=>none
section
variable {X:br} {R:Nat->Prop} {W:World} {aG:eX} {n:Nat} {ks:List Nat} {env MA:Nat->Loc} {B:Nat->Prop} {ai:World} {H:List bb} {st st':aM} {a aS:Act} {w w':World} {o:Oper} {d:Nat} {ps:eg}
theorem MB(J:(rT ps).Nodup) (U:(kg ps).Nodup) (he:∀ i j,aU ps i=some j->MA i=env j):∀ {is:List Nat} {l h l':bx} {C:List bb},oe ps (o2 ps) is l=some (h,l')->bu env B ai l C->∃ fO n5,C.Perm (fO++n5)/\bu MA B ai h fO/\bu env B ai l' n5
 | [],l,h,l',C,aq,dK=>by cases aq; exact⟨[],C,List.Perm.refl _,rfl,dK⟩
 | i :: is,l,h,l',C,aq,dK=>by
  unfold oe at aq
  split at aq
  ·rename_i j aR
   split at aq
   ·rename_i b' ad
    split at aq
    ·rename_i b aN FV ae az
     cases aq;obtain⟨c,H2,aC,aW,cB⟩:=dK.erase ad;obtain⟨fO,n5,gH,gj,tu⟩:=MB J U he az cB;have ao:aU (o2 ps) j=some i:=(FU J U).2 aR;exact⟨c :: fO,n5,aW.trans (List.Perm.cons _ gH),⟨c,fO,rfl,(ej.dJ (fun j i h=>he i j ((FU J U).1 h)) ao ae).1 aC,gj⟩,tu⟩
    ·cases aq
   ·cases aq
  ·cases aq
structure vR(X:br) (e:bI X) where
 d:dc (iR e.A (me e.eL []))
 H1:bx
def sb(X:br) (n:Nat) (e:bI X) (ps:eg) (H:bx) (args:List bf):Option (vR X e):=
 match Ba n ps,xP (o2 ps) args,oe ps (o2 ps) (e.eL.map (·.1)) H with
 | true,some FW,some (J,H1)=>match tz (T:=[]) e.eL J ()with
  | some u=>match vP e.A FW u with
   | some d=>some ⟨d,H1⟩
   | none=>none
  | none=>none
 | _,_,_=>none
def after(X:br) (e:bI X) (ps:eg) (st:aM) (d:Nat) (p:vR X e) (r:e.aP):Option aM:=
 match ((e.out p.d r).1).dJ ps,td ps (e.out p.d r).2 with
 | some k2,some nw=>match ps with
  | []=>some ⟨(d,k2) :: st.L,nw++st.H⟩
  | _=>some ⟨(d,k2) :: qD (k1 (je e.eL (hS e.A p.d).2).1 ps) st.L,nw++iP (k1 (je e.eL (hS e.A p.d).2).1 ps) (k1 (je e.eL (hS e.A p.d).2).1 ps) p.H1⟩
 | _,_=>none
def qP(X:br) (n:Nat) (o:Oper) (dP:bb->Bool) (st st':aM):Prop:=∀ (R:Nat->Prop) (W:World) (aG:eX) (ks:List Nat) (env:Nat->Loc) (B:Nat->Prop) (ai:World) (H:List bb) (a:Act) (w:World),bH X R W aG n ks env B ai H st a w->∀ (KK:Act->World->Prop) (l:List Oper),
 (∀ aS w' env' B' cD H',bH X R W aG n ks env' B' cD H' st' aS w'->(∀ k,B k->B' k)->c6 (fun k=>R k\/B k) ai cD->(∀ c∈H,dP c=true->c∈H')->KK aS w')->eR X.P l.toArray o KK a w
theorem fg.c(h:fg X n o st st'):qP X n o (fun _=>false) st st':=fun R W aG ks env B ai H a w ag KK l bS=>h R W aG ks env B ai H a w ag KK l fun aS w' env' H' cf=>bS aS w' env' B ai H' cf (fun _ h=>h) (c6.refl _ _) (fun _ _ h=>by cases h)
def Callee(X:br) (st:aM) (o:Oper) (f:FuncId) (xs:List Operand) (pre post:List bf):Prop:=
 ∃ fr,(o.op=.call { callee:=.value (.func f),args:=xs.toArray,argTypes:=fr }/\pre=[]/\post=[]) \/
  (∃ s ids,o.op=.call { callee:=.value (.tmp s),args:=xs.toArray,argTypes:=fr }/\aU st.L s=some (.c (.fn f ids))/\pre=[]/\post=oV ids) \/
  ∃ s id,o.op=.call { callee:=.value (.tmp s),args:=xs.toArray,argTypes:=fr }/\aU st.L s=some (.c (.iA f id))/\pre=[.c (.ptr id 0)]/\post=[]
def BH(X:br) (n:Nat) (st:aM) (xs:List Operand) (args:List bf):Prop:=∀ (R:Nat->Prop) (W:World) (aG:eX) (ks:List Nat) (env:Nat->Loc) (B:Nat->Prop) (ai:World) (H:List bb) (a:Act) (w:World),bH X R W aG n ks env B ai H st a w->∃ vs,iz (gl a) xs=some vs/\dw env B ai args vs
theorem BH.of{xs:List Operand} {args:List bf} {c:Bool} (h:n4 X st.L xs=some (c,args)) (aa:c=true):BH X n st xs args:=fun _ _ _ _ _ _ _ _ _ _ ag=>xS ag h aa
def tB:ct->Bool
 | .cells _ _=>false
 | _=>true
def qQ(j:Nat):bx->Bool
 | []=>true
 | (k,_) :: r=>!Nat.beq k j&&qQ j r
def tC(H:bx):eg->Bool
 | []=>true
 | (i,j) :: r=>(Nat.ble hZ i || qQ j H)&&tC H r
def o3(H:bx):eg->Bool
 | []=>true
 | (_,j) :: r=>qQ j H&&o3 H r
def qR(js:List Nat):bx->Bool
 | []=>true
 | (j,b) :: r=>(!js.elem j || tB b)&&qR js r
def vS(H:bx) (ps:eg):Bool:=tC H ps&&qR (kg ps) H
def tD(H:bx) (ps:eg) (c:bb):Bool:=o3 H ps || (iv c&&vS H ps)
theorem MC{j:Nat}:∀ {H:bx},qQ j H=true->∀ p∈H,p.1≠j
 | (k,b) :: r,h,p,aq=>by
  unfold qQ at h;rw[Bool.and_eq_true]at h
  rcases List.mem_cons.1 aq with rfl | aq
  ·intro e
   have J:=h.1;rw[show k=j from e,Nat.beq_refl]at J;cases J
  ·exact MC h.2 p aq
theorem MD{j:Nat}:∀ {H:bx},qQ j H=true->aU H j=none
 | [],_=>rfl
 | (k,b) :: r,h=>by
  unfold qQ at h;rw[Bool.and_eq_true]at h;rw[cl,if_neg (fun e=>by have J:=h.1; rw[e,Nat.beq_refl]at J; cases J)];exact MD h.2
theorem ME{js:List Nat}:∀ {l:bx},(∀ p∈l,p.1 ∉ js)->rU js l=true
 | [],_=>rfl
 | (k,b) :: r,h=>by
  unfold rU;have J:=h (k,b) List.mem_cons_self;rw[Bool.and_eq_true];exact⟨by simpa using J,ME fun p aq=>h p (List.mem_cons_of_mem _ aq)⟩
theorem FX{h H:bx}:∀ {ps:eg},tC H ps=true->∀ j∈k1 h ps,qQ j H=true
 | [],_,j,aR=>by cases aR
 | (i,k) :: r,aA,j,aR=>by
  unfold tC at aA;rw[Bool.and_eq_true,Bool.or_eq_true]at aA;unfold k1 at aR
  split at aR
  ·exact FX aA.2 j aR
  ·rename_i ab
   rcases List.mem_cons.1 aR with rfl | aR
   ·rcases aA.1 with J | J
    ·unfold A8 at ab
     rw[J]at ab;cases ab
    ·exact J
   ·exact FX aA.2 j aR
theorem MF{H:bx}:∀ {ps:eg},o3 H ps=true->tC H ps=true
 | [],_=>rfl
 | (i,j) :: r,h=>by
  unfold o3 at h;rw[Bool.and_eq_true]at h;unfold tC;rw[h.1,MF h.2,Bool.or_true]
  rfl
theorem MG{H:bx}:∀ {ps:eg},o3 H ps=true->∀ i j,(i,j)∈ps->qQ j H=true
 | (_,_) :: r,h,i,j,hm=>by
  unfold o3 at h;rw[Bool.and_eq_true]at h
  rcases List.mem_cons.1 hm with hm | hm
  ·cases hm; exact h.1
  ·exact MG h.2 i j hm
theorem MH{j:Nat}:∀ {l:bx} {p:Nat×ct},p∈l9 j l->p∈l
 | (k,b) :: r,p,h=>by
  unfold l9 at h
  split at h
  ·exact List.mem_cons_of_mem _ h
  ·rcases List.mem_cons.1 h with rfl | h
   ·exact List.mem_cons_self
   ·exact List.mem_cons_of_mem _ (MH h)
theorem FY{ps iS:eg}:∀ {is:List Nat} {l h l':bx},oe ps iS is l=some (h,l')->∀ p∈l',p∈l
 | [],_,_,_,aq,p,hm=>by cases aq; exact hm
 | i :: is,l,h,l',aq,p,hm=>by
  unfold oe at aq
  split at aq
  ·split at aq
   ·split at aq
    ·rename_i b aN FV ae az
     cases aq;exact MH (FY az p hm)
    ·cases aq
   ·cases aq
  ·cases aq
theorem Yt{ps iS:eg}:∀ {is:List Nat} {l h l':bx},o3 l ps=true->oe ps iS is l=some (h,l')->h=[]/\l'=l
 | [],_,_,_,_,aq=>by cases aq; exact⟨rfl,rfl⟩
 | i :: is,l,h,l',a7,aq=>by
  unfold oe at aq
  split at aq
  ·rename_i j aR
   split at aq
   ·rename_i b' ad
    rw[MD (MG a7 i j (vr aR))]at ad;cases ad
   ·cases aq
  ·cases aq
theorem MI{h H H1:bx} {ps:eg} (aA:tC H ps=true) (ak:∀ p∈H1,p∈H):rU (k1 h ps) H1=true:=ME fun p aq hm=>MC (FX aA p.1 hm) p (ak p aq) rfl
theorem Yu{ps:eg} {b b':ct} (h:b.dJ ps=some b') (ae:tB b=true):tB b'=true:=by
 unfold ct.dJ at h
 split at h
 all_goals first
  | (cases h; rfl)
  | (exfalso; simp[tB]at ae; done)
  | (split at h<;>first | (cases h; rfl) | cases h)
theorem MJ{js:List Nat}:∀ {l:bx} {j:Nat} {b:ct},qR js l=true->j∈js->aU l j=some b->tB b=true
 | [],_,_,_,_,h=>by cases h
 | (k,oO) :: r,j,b,a7,aR,h=>by
  simp only[qR,Bool.and_eq_true]at a7;rw[cl]at h
  split at h
  ·rename_i e; subst e; cases h
   have J:=a7.1;rw[show js.elem _=true from List.elem_eq_true_of_mem aR]at J
   simpa using J
  ·exact MJ a7.2 aR h
theorem MK{js:List Nat} {j:Nat}:∀ {l:bx},qR js l=true->qR js (l9 j l)=true
 | [],_=>rfl
 | (k,oO) :: r,a7=>by
  have hn:=a7;simp only[qR,Bool.and_eq_true]at a7;unfold l9
  split
  ·exact a7.2
  ·simp only[qR,Bool.and_eq_true]
   exact⟨a7.1,MK a7.2⟩
theorem ML{ps iS:eg}:∀ {is:List Nat} {l h l':bx},qR (kg ps) l=true->oe ps iS is l=some (h,l')->∀ p∈h,tB p.2=true
 | [],_,_,_,_,aq=>by cases aq; intro p aq; cases aq
 | i :: is,l,h,l',a7,aq=>by
  unfold oe at aq
  split at aq
  ·rename_i j aR
   split at aq
   ·rename_i b' ad
    split at aq
    ·rename_i b aN FV ae az
     cases aq;intro p aq
     rcases List.mem_cons.1 aq with rfl | aq
     ·exact Yu ae (MJ a7 (Bb (vr aR)) ad)
     ·exact ML (MK a7) az p aq
    ·cases aq
   ·cases aq
  ·cases aq
theorem bu.pF{env:Nat->Loc} {B:Nat->Prop} {w:World}:∀ {l:bx} {H:List bb},bu env B w l H->(∀ p∈l,tB p.2=true)->∀ c∈H,iv c=false
 | [],_,h,_,c,aa=>by rw[show _=[] from h]at aa; cases aa
 | (k,b) :: r,_,⟨c0,H',e,J,U⟩,a7,c,aa=>by
  subst e
  rcases List.mem_cons.1 aa with rfl | aa
  ·exact J.nr fun t cs e=>by
    have:=a7 _ List.mem_cons_self
    rw[e]at this;cases this
  ·exact bu.pF U (fun p aq=>a7 p (List.mem_cons_of_mem _ aq)) c aa
theorem MM(e:bI X) {xs:List Operand} {pre post FZ:List bf} (ps:eg) (tE:Callee X st o e.f xs pre post) (a6:o.guard=none/\o.dst=some d) (av:Nat.blt d n=true) (qS:BH X n st xs FZ)
  {p:vR X e} (aq:sb X n e ps st.H (pre++(FZ++post))=some p) {r:e.aP} (az:e.m p.d=some r) (bo:after X e ps st d p r=some st'):qP X n o (tD st.H ps) st st':=by
 intro R W aG ks env B ai H a w ag KK l bS;unfold sb at aq
 split at aq
 ·rename_i FW J H1 jL MN lJ
  split at aq
  ·rename_i u hu
   split at aq
   ·rename_i dd Yv
    cases aq;have MO:=jL;simp only[Ba,Bool.and_eq_true]at MO;obtain⟨⟨qT,yi⟩,aiI⟩:=MO;have o4:=xQ qT;have o5:=xQ yi;obtain⟨vs,g1,g2⟩:=qS _ _ _ _ _ _ _ _ _ _ ag;obtain⟨yj,tF⟩:=tA hu;obtain⟨o6,Yw⟩:=yh Yv;have he:∀ i j,aU ps i=some j->(fun i=>match aU ps i with | some j=>env j | none=>Loc.no) i=env j:=fun i j mO=>by simp only[mO]
    obtain⟨fO,n5,cB,gH,gj⟩:=MB o4 o5 he lJ ag.heap;have ak:bF B ai fO w:=by
     have aY:=(ag.aJ.perm (cB.append_right (ks.map c3))).ep (H':=fO) (by rw[List.append_assoc]; exact List.sublist_append_left _ _);exact⟨⟨aY.below.os,aY.below.tape,aY.below.output,aY.below.size,fun k ab=>aY.below.block k (.inr ab)⟩,fun k ab=>aY.base k (.inr ab),fun c aa=>(aY.ok c aa).base fun b ae ab=>((aY.ok c aa).lt ae).1 (.inr ab),aY.apart⟩
    have dK:bu (fun i=>match aU ps i with | some j=>env j | none=>Loc.no) B ai (je e.eL (hS e.A dd).2).1 fO:=by rw[o6]; exact tF _ _ _ _ gH
    have key:∀ mF,dw env B ai (pre++(FZ++post)) mF->oJ X.P e.f mF.toArray w (vo X (fun i=>match aU ps i with | some j=>env j | none=>Loc.no) B fO w (fun sv h=>sv=(e.out dd r).1/\h=(e.out dd r).2)):=fun mF h=>by
     have U:=(dw.dJ (env:=env) (env':=fun i=>match aU ps i with | some j=>env j | none=>Loc.no) (fun j i gX=>he i j ((FU o4 o5).1 gX)) MN).1 h;exact e.ok dd r az B ai _ mF fO w (fun i x aj=>ag.dQ i x aj) (Yw _ _ _ _ U) dK ak
    have fin:∀ v aS w',vo X (fun i=>match aU ps i with | some j=>env j | none=>Loc.no) B fO w (fun sv h=>sv=(e.out dd r).1/\h=(e.out dd r).2) v w'->cW n (jK ks aG) ((d,v) :: gl a) aS->KK aS w':=fun v aS w' qE aI=>by
     obtain⟨sv,aO,⟨rfl,rfl⟩,Yx⟩:=ag.called jL cB dK gj qE aI;unfold after at bo
     split at bo
     ·rename_i k2 nw f1 f2
      obtain⟨env',B',cD,H',cf,jN,ek,lK⟩:=Yx k2 nw f1 f2;have BI:∀ c∈H,tD st.H ps c=true->c∈H':=fun c aa aN=>by
       unfold tD at aN;rw[Bool.or_eq_true]at aN;have bK:=cB.mem_iff.1 aa
       rcases aN with aN | aN
       ·obtain⟨cV,dU⟩:=Yt aN lJ
        have Bd:fO=[]:=by rw[cV]at gH; exact gH
        rw[Bd]at bK;exact lK (MI (MF aN) (FY lJ)) c (by simpa using bK)
       ·simp only[Bool.and_eq_true,vS]at aN
        obtain⟨ju,ta,gn⟩:=aN
        rcases List.mem_append.1 bK with bK | bK
        ·have:=gH.pF (ML gn lJ) c bK
         rw[ju]at this;cases this
        ·exact lK (MI ta (FY lJ)) c bK
      split at bo
      ·cases bo
       have c7:H1=st.H:=by
        cases hN:e.eL with
        | nil=>rw[hN]at lJ; cases lJ; rfl
        | cons q _=>rw[hN]at lJ; cases lJ
       have fJ:bH X R W aG n ks env' B' cD H' ⟨(d,k2) :: qD [] st.L,nw++iP [] [] H1⟩ aS w':=cf;rw[Ur,Us,c7]at fJ;exact bS aS w' env' B' cD H' fJ jN ek BI
      ·cases bo
       exact bS aS w' env' B' cD H' cf jN ek BI
     ·cases bo
    obtain⟨fr,tE⟩:=tE
    rcases tE with⟨ax,rfl,rfl⟩ | ⟨s,ids,ax,ad,rfl,rfl⟩ | ⟨s,id,ax,ad,rfl,rfl⟩
    ·exact SG ag.sym ax a6 av e.aA e.a7 e.ae g1 (key vs (by simpa using g2)) fun v aS w' qE aI=>fin v aS w' qE aI
    ·obtain⟨gL,og,lb,rfl,iC⟩:=ag.has _ _ ad
     exact Tb ag.sym ax a6 av (h0 og) e.aA e.a7 e.ae g1 (key (vs++lb) (by simpa using g2.append (Be iC))) fun v aS w' qE aI=>fin v aS w' qE aI
    ·obtain⟨gL,og,b,BJ,rfl⟩:=ag.has _ _ ad
     exact Yi ag.sym ax a6 av (h0 og) e.aA e.a7 e.ae g1 (key (.pointer (some ⟨b,0,none⟩) :: vs) (by rw[List.append_nil]; exact⟨_,_,rfl,⟨b,BJ,rfl⟩,g2⟩)) fun v aS w' qE aI=>fin v aS w' qE aI
   ·cases aq
  ·cases aq
 ·cases aq
end
end
section
set_option linter.unusedSectionVars false
section
variable {X:br} {M:Bool} {n:Nat} {r:Option Nat} {st:aM} {Q:Exit->aM->Prop} {ops rest:List Oper} {o:Oper} {d:Nat}
theorem Yy(gk aZ:aQ) {t:TypeId} (ax:o.op=.makeMap t none) (a6:o.guard=none/\o.dst=some d) (av:Nat.blt d n=true)
  : fg X n o st ⟨(d,.c (.cp d)) :: eJ d .dead st.L,(d,.mp gk aZ [] none) :: dq d .dead st.H⟩:=by
 intro R W aG ks env B ai H a w ag KK hb dt;refine(fU ag.bL a6.1 a6.2 (du av) (v:=.map (some w.heap.size)) (w':=w.alloc (.map #[] 0)) (by simp[execOp,ax,Instr.makeMap,newObj,Sem.run]) fun aS aI=>?_);obtain⟨H',_,ah⟩:=ag.mK (d:=d) av (l:=.blk w.heap.size) (blk:=.mp gk aZ [] none) (sv:=.c (.cp d)) (ag.aJ.alloc (.map #[] 0)) ⟨_,[],0,eG,rfl,rfl,⟨List.Pairwise.nil,fun _ h=>by cases h⟩,fun _ h=>by cases h⟩ ⟨_,eG,rfl⟩ aI;exact dt aS _ _ H' (ah)
theorem MP(ar:X.tt.ok X.P) {t fa fv:TypeId} {bj r8 dr:bh} {k:IntKind} {aZ:aQ} {u x:Operand} {id:Nat} {l:List (Int×aZ.D)} {jA:Option (List MapEntry×Nat)} {z:Int} {g:Bool} {bq:bf} (ax:o.op=.lookup t u x false) (a6:o.guard=none/\o.dst=some d) (av:Nat.blt d n=true)
  (aV:X.tt.find t=some bj) (cP:bj.bk.desc=.map fa fv) (ab:X.tt.find fa=some r8) (ye:r8.bk.desc=.int k) (he:X.tt.find fv=some dr) (bG:∀ B w,ea B w aZ aZ.zero dr.bk.zero)
  (hu:bm X st.L u=some (true,.c (.cp id))) (aj:bm X st.L x=some (g,.c (.val (.int k z)))) (aL:g=true) (bO:aU st.H id=some (.mp (.int k) aZ l jA)) (iH:nB aZ ((cJ (.int k) aZ l z).getD aZ.zero)=some bq)
  : fg X n o st ⟨(d,.a bq) :: st.L,st.H⟩:=by
 intro R W aG ks env B ai H a w ag KK hb dt;obtain⟨hM,J,b,ae,rfl⟩:=ag.aD hu rfl;obtain⟨vx,U,ah⟩:=ag.aD aj aL;rw[show vx=_ from ah]at U;obtain⟨c,K,⟨b',es,clock,dm,rfl,hR,dn,_⟩,dV⟩:=ag.heap.fE bO;rw[ae]at dm;cases dm;have ha:=(ag.aJ.ok _ dV.more.mem).2;have aC:=(bV.get ar aV).bk.1;rw[cP]at aC;have cB:=(bV.get ar ab).bk.1;rw[ye]at cB;have gj:=bC.pw (bV.get ar he).bk w;have nC:∃ v,(Instr.lookup t (.map (some b)) (.int k z) false).run X.P w=.ok v w/\ea B ai aZ ((cJ (.int k) aZ l z).getD aZ.zero) v:=by
  unfold Instr.lookup;rw[show(10000:Nat)=9999+1 from rfl];simp only[Sem.run_bind,run_underlying aC,Result.andThen_ok,MapKept.run_getObj_map ha,Em cB,Sem.run_pure]
  rcases hR.FD (z:=z) 0 with⟨au,aF⟩ | ⟨y,j,v,au,aF,aY,_⟩
  ·refine⟨dr.bk.zero,?_,by rw[au]; exact bG _ _⟩
   simp[MapKept.run_findKey cB aF,gj,Result.andThen]
  ·refine⟨v,?_,by rw[au]; exact aY⟩
   simp[MapKept.run_findKey cB aF,Result.andThen]
 obtain⟨v,dE,la⟩:=nC;refine(fU ag.bL a6.1 a6.2 (du av) (v:=v) (w':=w) ?_ fun aS aI=>?_)
 ·simp[execOp,ax,ag.bL.aD J,ag.bL.aD U,dE]
 ·exact dt aS _ env H (ag.set (sv:=.a bq) (la.bq iH) aI)
theorem Yz(ar:X.tt.ok X.P) {t:TypeId} {bj:bh} {u x:Operand} {s:List UInt8} {k:IntKind} {z:Int} {g g2:Bool} (ax:o.op=.index t u x) (a6:o.guard=none/\o.dst=some d) (av:Nat.blt d n=true)
  (aV:X.tt.find t=some bj) (cP:bj.bk.desc=.string) (hu:bm X st.L u=some (g,.c (.str s))) (aL:g=true) (aj:bm X st.L x=some (g2,.c (.val (.int k z)))) (dp:g2=true) (ae:bl z s.length=true)
  : fg X n o st ⟨(d,.c (.val (.int .u8 ((s.getD z.toNat 0).toNat:Int)))) :: st.L,st.H⟩:=by
 intro R W aG ks env B ai H a w ag KK hb dt;obtain⟨hM,J,U⟩:=ag.aD hu aL;rw[show hM=eP s from U]at J;obtain⟨vx,ah,au⟩:=ag.aD aj dp;rw[show vx=_ from au]at ah;obtain⟨j,rfl,aR,iM⟩:=kU ae;have aC:=(bV.get ar aV).bk.1;rw[cP]at aC;have qw:(ByteArray.mk s.toArray)[j]?=some (s.getD j 0):=by
  have a8:j < (ByteArray.mk s.toArray).size:=by simpa [ByteArray.size] using aR
  have aW:(ByteArray.mk s.toArray)[j]?=some ((ByteArray.mk s.toArray)[j]'a8):=by
   exact getElem?_pos (ByteArray.mk s.toArray) j a8
  rw[aW,List.getD_eq_getElem?_getD,List.getElem?_eq_getElem aR]
  rfl
 refine(fU ag.bL a6.1 a6.2 (du av) (v:=.int .u8 ((s.getD j 0).toNat:Int)) (w':=w) ?_ fun aS aI=>?_)
 ·have aN:(0:Int)<=(j:Int):=Int.natCast_nonneg j
  have dE:(Instr.index t (eP s) (.int k (j:Int))).run X.P w=.ok (.int .u8 ((s.getD j 0).toNat:Int)) w:=by
   simp only[Instr.index,eP,asIntOf,Sem.run_bind,Sem.run_pure,Result.andThen_ok,run_underlying aC,aN,if_true,Int.toNat_natCast,qw]
  simp[execOp,ax,ag.bL.aD J,ag.bL.aD ah,dE]
 ·simp only[Int.toNat_natCast]at dt
  exact dt aS _ env H (ag.set (sv:=.c (.val (.int .u8 ((s.getD j 0).toNat:Int)))) rfl aI)
theorem YA(g:aQ) (p m:Nat) (z:Int) (kV:Nat.blt 0 g.size=true) (ar:X.tt.ok X.P) {t T:TypeId} {bj:bh} {x y:Operand} {id:Nat} {cs cw:List ba} {l:List g.D} {g1 g2 c cF:Bool} {dH:bf} {eK:g.D} {hI:List ba} (ax:o.op=.store t x y) (a6:o.guard=none/\o.dst=none)
  (aV:X.tt.find t=some bj) (cQ:Nat.beq g.size bj.bk.size=true) (aj:bm X st.L x=some (g1,.c (.ptr id (p+z.toNat * g.size)))) (cR:g1=true) (aT:bm X st.L y=some (g2,dH)) (dp:g2=true) (bO:aU st.H id=some (.cells T cs))
  (jr:pP g m (cs.drop p)=some (c,l,cw)) (aa:c=true) (bG:bl z m=true) (nD:dec g dH.cells=some (cF,eK,[])) (iu:cF=true) (dN:kk g dH=true) (ns:l5 dH.cells=true) (fN:x9 g (py z.toNat eK 0 l)=some hI)
  : fg X n o st ⟨st.L,ef id (.cells T (cs.take p++(hI++cw))) st.H⟩:=by
 intro R W aG ks env B ai H a w ag KK hb dt;obtain⟨vx,J,b,ae,rfl⟩:=ag.aD aj cR;obtain⟨vy,fp,iO⟩:=ag.aD aT dp;obtain⟨dk,K,⟨b',vs,dm,rfl,gi⟩,dV,fX⟩:=ag.lD (b':=.cells T (cs.take p++(hI++cw))) bO;rw[ae]at dm;cases dm;obtain⟨ad,v1,v2,aB,cv,iL⟩:=x6 (gi.drop p) jr aa;obtain⟨j,rfl,aR,iM⟩:=kU bG;rw[Int.toNat_natCast]at J fN;have MQ:cd env B ai dH.cells vy.cells.toList:=iO.cells fun c e=>by
  subst e;simp only[bf.cells,l5,Bool.and_true]at ns;exact dv.one ns iO
 have hJ:=MQ.iD ns;obtain⟨aiJ,mf,hu,F0,yj⟩:=oR MQ nD iu;have YB:mf=[]:=yj;subst YB;rw[List.append_nil]at hu;rw[<- hu]at F0;have F1:=bz.length F0;have fM:=Nat.eq_of_beq_eq_true cQ;have hi:=(bV.get ar aV).bk;have s9:=Flat.set (fun _ _=>bz.length) cv (by omega:j < l.length) F0;have mL:=bz.jq cv;have sY:(j+1) * g.size<=l.length * g.size:=Nat.mul_le_mul_right _ (by omega);rw[Nat.add_mul,Nat.one_mul]at sY;have pI:vs=vs.take p++(v1++v2):=by rw[<- aB,List.take_append_drop]
 have MR:=Mm eK l j 0;rw[Nat.add_zero]at MR;rw[MR]at fN;have YC:=Flat.all (env:=env) s9 fN;have YD:=congrArg List.length aB;rw[List.length_drop,List.length_append]at YD;have aiK:=du kV;have hle:p+j * g.size+vy.cells.toList.length<=vs.length:=by rw[F1]; omega
 refine(LF ag.sym ax a6 hi J fp (by rw[<- fM,<- F1]; simp) hJ dV (kB.mk' hle) fun aS w' cr=>?_);obtain⟨A,eM⟩:∃ A,A=vs.take p:=⟨_,rfl⟩
 have BK:A.length=p:=by rw[eM,List.length_take]; omega
 have aC:vs.take (p+j * g.size)=A++v1.take (j * g.size):=by
  rw[pI,<- eM,List.take_append,BK,List.take_of_length_le (by omega),show p+j * g.size - p=j * g.size by omega,List.take_append_of_le_length (by omega)]
 have aW:vs.drop (p+j * g.size+vy.cells.toList.length)=v1.drop (j * g.size+g.size)++v2:=by
  rw[pI,<- eM,F1,List.drop_append,BK,List.drop_of_length_le (by omega),List.nil_append,show p+j * g.size+g.size - p=j * g.size+g.size by omega,List.drop_append_of_le_length (by omega)]
 obtain⟨H',ah⟩:=fX _ aS w' ⟨b,_,ae,rfl,by
  rw[aC,aW]
  have:=(cd.take p gi).app (YC.app iL)
  rw[<- eM]at this
  simpa only[List.append_assoc] using this⟩ cr.aJ cr.st
 exact dt aS _ env H' (ah)
theorem YE(ar:X.tt.ok X.P) {t fa fv:TypeId} {bj r8:bh} {k:IntKind} {aZ:aQ} {u x y:Operand} {id:Nat} {l:List (Int×aZ.D)} {jA:Option (List MapEntry×Nat)} {z:Int} {g g2 c:Bool} {dH:bf} {eK:aZ.D} (ax:o.op=.insert t u x y) (a6:o.guard=none/\o.dst=none)
  (aV:X.tt.find t=some bj) (cP:bj.bk.desc=.map fa fv) (ab:X.tt.find fa=some r8) (ye:r8.bk.desc=.int k)
  (hu:bm X st.L u=some (true,.c (.cp id))) (aj:bm X st.L x=some (g,.c (.val (.int k z)))) (aL:g=true) (aT:bm X st.L y=some (g2,dH)) (dp:g2=true) (bO:aU st.H id=some (.mp (.int k) aZ l jA))
  (jr:dec aZ dH.cells=some (c,eK,[])) (aa:c=true) (dN:kk aZ dH=true)
  : fg X n o st ⟨st.L,ef id (.mp (.int k) aZ (eD (.int k) aZ l z eK) none) st.H⟩:=by
 intro R W aG ks env B ai H a w ag KK hb dt;obtain⟨hM,J,b,ae,rfl⟩:=ag.aD hu rfl;obtain⟨vx,U,ah⟩:=ag.aD aj aL;rw[show vx=_ from ah]at U;obtain⟨vy,au,aF⟩:=ag.aD aT dp;have la:ea B ai aZ eK vy:=ea.tq jr aa dN aF;obtain⟨dk,K,⟨b',es,clock,dm,rfl,hR,dn,_⟩,dV,fX⟩:=ag.lD (b':=.mp (.int k) aZ (eD (.int k) aZ l z eK) none) bO;rw[ae]at dm;cases dm;have ha:=(ag.aJ.ok _ dV.mem).2;have aC:=(bV.get ar aV).bk.1;rw[cP]at aC;have cB:=(bV.get ar ab).bk.1;rw[ye]at cB;have nC:∃ nE o7,(Instr.mapUpdate t (.map (some b)) (.int k z) vy).run X.P w=.ok () { w with heap:=w.heap.setIfInBounds b (.map nE.toArray o7) }/\fW B ai (.int k) aZ (eD (.int k) aZ l z eK) nE/\Stamped nE o7:=by
  unfold Instr.mapUpdate;rw[show(10000:Nat)=9999+1 from rfl];simp only[Sem.run_bind,run_underlying aC,Result.andThen_ok,MapKept.run_getObj_map ha,Em cB]
  rcases hR.setInt la (z:=z) 0 with⟨aY,bK⟩ | ⟨j,v,e,aY,bK,c7,hN⟩
  ·refine⟨es++[MapEntry.mk (.int k z) vy clock],clock+1,?_,?_,?_⟩
   ·simp only[MapKept.run_findKey cB aY,Result.andThen_ok,MapKept.run_setObj_map _ ha]
    simp
   ·rw[bK]
    have iT:ea B ai (.int k) z (.int k z):=show [Value.int k z]=[Value.int k z] from rfl
    exact fW.snoc (gk:=.int k) (x:=(z,eK)) (e:=MapEntry.mk (.int k z) vy clock) iT la hR
   ·refine⟨?_,?_⟩
    ·rw[List.map_append,List.pairwise_append]
     exact⟨dn.1,by simp,fun p aq q ao=>by simp at ao; subst ao; exact dn.2 p aq⟩
    ·intro p aq
     rw[List.map_append,List.mem_append]at aq
     rcases aq with aq | aq
     ·exact Nat.lt_succ_of_lt (dn.2 p aq)
     ·simp at aq; omega
  ·refine⟨es.modify j fun e=>{ e with key:=.int k z,val:=vy },clock,?_,hN,?_⟩
   ·rw[Nat.zero_add]at aY
    have lz:(Instr.keyThatStays (((es.toArray[j]?).map (·.key)).getD (.int k z)) (.int k z)).run X.P w=.ok (.int k z) w:=by
     have:((es.toArray[j]?).map (·.key)).getD (.int k z)=.int k z:=by simp[bK,c7]
     rw[this]
     simp[Instr.keyThatStays,Instr.sameBits]
    simp only[MapKept.run_findKey cB aY,Result.andThen_ok,Sem.run_bind,lz,MapKept.run_setObj_map _ ha]
    simp
   ·rw[Stamped,x5 (f:=fun e=>{ e with key:=.int k z,val:=vy }) (fun _=>rfl)]
    exact dn
 obtain⟨nE,o7,dE,F2,F3⟩:=nC;refine(AA ag.bL a6.1 a6.2 (w':={ w with heap:=w.heap.setIfInBounds b (.map nE.toArray o7) }) ?_ fun aS aI=>?_)
 ·simp[execOp,ax,ag.bL.aD J,ag.bL.aD U,ag.bL.aD au,dE]
 ·obtain⟨H',gZ⟩:=fX _ aS _ ⟨b,nE,o7,ae,rfl,F2,F3,fun _ h=>by cases h⟩ (ag.aJ.u9 dV) aI
  exact dt aS _ env H' (gZ)
theorem YF(ar:X.tt.ok X.P) {t T yk:TypeId} {bj:bh} {x y:Operand} {id d i:Nat} {g g':aQ} {l:List (List g.D)} {bw:List g'.D} {cap yl:Option Nat} {g1 g2:Bool} (ax:o.op=.store t x y) (a6:o.guard=none/\o.dst=none)
  (aV:X.tt.find t=some bj) (cQ:Nat.beq bj.bk.size 1=true) (aj:bm X st.L x=some (g1,.c (.dZ id 1 i 0))) (cR:g1=true) (aT:bm X st.L y=some (g2,.c (.an d))) (dp:g2=true) (bO:aU st.H id=some (.row T (.an g) l cap)) (BL:aU st.H d=some (.row yk g' bw yl))
  (hi:decide (i < l.length)=true)
  : fg X n o st ⟨st.L,ef id (.cC false T g l cap i d) st.H⟩:=by
 intro R W aG ks env B ai H a w ag KK hb dt;obtain⟨vx,J,b,c,m,he,rfl⟩:=ag.aD aj cR;obtain⟨vy,fp,cY,cF,m2,k5,rfl⟩:=ag.aD aT dp;obtain⟨dk,K,⟨A,k,xs,cI,rfl,cv,fc⟩,aA,fX⟩:=ag.lD (b':=.cC false T g l cap i d) bO;rw[he]at cI;cases cI;have a8:=of_decide_eq_true hi;have iZ:=bz.jq cv;have YG:xs.length=l.length:=by rw[iZ]; show l.length * 1=_; omega
 have mD:=(bV.get ar aV).bk;have e5:=Nat.eq_of_beq_eq_true cQ;refine(A1 (v:=.slice cY m2 cF) ag.sym ax a6 mD J fp (by rw[e5]; rfl) (by intro u hu; simp[Value.cells]at hu; subst hu; rfl) aA (by show i * 1+0+1<=l.length * 1; omega) fun aS w' cr=>?_);obtain⟨H',ah⟩:=fX _ aS w' ⟨some ⟨b,0,none⟩,c,xs,cY,cF,m2,he,rfl,cv,a8,k5,fc,fun h=>by cases h⟩ (by
  have e:xs.take (i * 1+0)++(Value.slice cY m2 cF).cells.toList++xs.drop (i * 1+0+(Value.slice cY m2 cF).cells.toList.length)=xs.set i (.slice cY m2 cF):=by
   rw[List.set_eq_take_append_cons_drop,if_pos (by omega)]
   simp[Value.cells]
  have:=cr.aJ
  rw[e]at this;exact this) cr.st
 exact dt aS _ env H' (ah)
theorem YH(ar:X.tt.ok X.P) {t T yk:TypeId} {bj:bh} {x y:Operand} {id d i:Nat} {g g':aQ} {l:List (List g.D)} {bw:List g'.D} {cap:Option Nat} {q:Nat} {g1 g2:Bool} (ax:o.op=.store t x y) (a6:o.guard=none/\o.dst=none)
  (aV:X.tt.find t=some bj) (cQ:Nat.beq bj.bk.size 1=true) (aj:bm X st.L x=some (g1,.c (.dZ id 1 i 0))) (cR:g1=true) (aT:bm X st.L y=some (g2,.c (.an d))) (dp:g2=true) (bO:aU st.H id=some (.row T (.gI g) l cap)) (BL:aU st.H d=some (.row yk g' bw (some q)))
  (hi:decide (i < l.length)=true) (ao:Nat.beq q bw.length=true)
  : fg X n o st ⟨st.L,ef id (.cC true T g l cap i d) st.H⟩:=by
 intro R W aG ks env B ai H a w ag KK hb dt;obtain⟨vx,J,b,c,m,he,rfl⟩:=ag.aD aj cR;obtain⟨vy,fp,cY,cF,m2,k5,rfl⟩:=ag.aD aT dp;obtain⟨dk,K,⟨A,k,xs,cI,rfl,cv,fc⟩,aA,fX⟩:=ag.lD (b':=.cC true T g l cap i d) bO;rw[he]at cI;cases cI;have a8:=of_decide_eq_true hi;have h9:cF=m2:=by
  obtain⟨YI,MS,⟨YJ,lK,aiL,vt,_,_,sc⟩,_⟩:=ag.heap.fE BL;rw[k5]at vt;cases vt;rw[sc q rfl];exact Nat.eq_of_beq_eq_true ao
 have iZ:=bz.jq cv;have YG:xs.length=l.length:=by rw[iZ]; show l.length * 1=_; omega
 have mD:=(bV.get ar aV).bk;have e5:=Nat.eq_of_beq_eq_true cQ;refine(A1 (v:=.slice cY m2 cF) ag.sym ax a6 mD J fp (by rw[e5]; rfl) (by intro u hu; simp[Value.cells]at hu; subst hu; rfl) aA (by show i * 1+0+1<=l.length * 1; omega) fun aS w' cr=>?_);obtain⟨H',ah⟩:=fX _ aS w' ⟨some ⟨b,0,none⟩,c,xs,cY,cF,m2,he,rfl,cv,a8,k5,fc,fun _=>h9⟩ (by
  have e:xs.take (i * 1+0)++(Value.slice cY m2 cF).cells.toList++xs.drop (i * 1+0+(Value.slice cY m2 cF).cells.toList.length)=xs.set i (.slice cY m2 cF):=by
   rw[List.set_eq_take_append_cons_drop,if_pos (by omega)]
   simp[Value.cells]
  have:=cr.aJ
  rw[e]at this;exact this) cr.st
 exact dt aS _ env H' (ah)
theorem YK(g:aQ) (m:Nat) (z:Int) (ar:X.tt.ok X.P) {t e:TypeId} {bj dr:bh} {u x:Operand} {qU:bf} {k:IntKind} {l:List g.D} {g1 g2 c:Bool} {bq:bf} (ax:o.op=.index t u x) (a6:o.guard=none/\o.dst=some d) (av:Nat.blt d n=true)
  (aV:X.tt.find t=some bj) (cP:bj.bk.desc=.array m e) (he:X.tt.find e=some dr) (cQ:Nat.beq g.size dr.bk.size=true) (k9:jn dr.bk.desc=g.mT) (hJ:(g.mT || Nat.beq g.size 1)=true) (hu:bm X st.L u=some (g1,qU)) (cR:g1=true)
  (aj:bm X st.L x=some (g2,.c (.val (.int k z)))) (dp:g2=true) (bo:Bv g m qU=some (c,l)) (aa:c=true) (bG:bl z m=true) (l4:bl z l.length=true) (iH:nB g (l.getD z.toNat g.zero)=some bq)
  : fg X n o st ⟨(d,.a bq) :: st.L,st.H⟩:=by
 intro R W aG ks env B ai H a w ag KK hb dt;obtain⟨hM,J,U⟩:=ag.aD hu cR;obtain⟨vs,rfl,cv⟩:=X5 U bo aa;obtain⟨vx,ah,au⟩:=ag.aD aj dp;rw[show vx=_ from au]at ah;obtain⟨j,rfl,aR,_⟩:=kU bG;obtain⟨jv,TF,l3,_⟩:=kU l4;have F4:j < l.length:=by omega
 rw[Int.toNat_natCast]at iH;have aC:=(bV.get ar aV).bk.1;rw[cP]at aC;obtain⟨v,aB,la⟩:=X4 (w:=w) (bV.get ar he).bk cv F4 (Nat.eq_of_beq_eq_true cQ) k9 hJ;have dE:=X3 (k:=k) aC (bV.get ar he).bk aR aB;refine(fU ag.bL a6.1 a6.2 (du av) (v:=v) (w':=w) (by simp[execOp,ax,ag.bL.aD J,ag.bL.aD ah,dE]) fun aS aI=>?_);exact dt aS _ env H (ag.set (sv:=.a bq) (la.bq iH) aI)
theorem YL(ar:X.tt.ok X.P) {t T e:TypeId} {bj:bh} {x:Operand} {id m cA:Nat} {g:aQ} {l:List g.D} {cap:Option Nat} {g1:Bool} (ax:o.op=.load t x) (a6:o.guard=none/\o.dst=some d) (av:Nat.blt d n=true)
  (aV:X.tt.find t=some bj) (cP:bj.bk.desc=.array m e) (aj:bm X st.L x=some (g1,.c (.dZ id cA 0 0))) (cR:g1=true) (bO:aU st.H id=some (.row T g l cap)) (cQ:Nat.beq bj.bk.size (m * g.size)=true) (ad:decide (l.length=m)=true)
  : fg X n o st ⟨(d,.a (.arr g l)) :: st.L,st.H⟩:=by
 intro R W aG ks env B ai H a w ag KK hb dt;obtain⟨vx,J,b,c,q,he,rfl⟩:=ag.aD aj cR;obtain⟨dk,K,⟨A,k,xs,cI,rfl,cv,_⟩,aA⟩:=ag.heap.fE bO;rw[he]at cI;cases cI;have eW:ew w (fun k=>R k\/B k) T g.size (some ⟨b,0,none⟩) c l.length xs:=ag.aJ.ok _ aA.more.mem;have hlen:=bz.jq cv;have gG:=of_decide_eq_true ad;refine(fU ag.bL a6.1 a6.2 (du av) (v:=.agg xs.toArray) (w':=w) (s3 ag.bL ax (bV.get ar aV).bk (by rw[cP]; rfl) J (by rw[hlen,gG,Nat.eq_of_beq_eq_true cQ]) fun j v aR=>?_) fun aS aI=>?_)
 ·rw[show 0 * cA+0+j=j by omega,eW.cells rfl _ (by rw[<- hlen]; exact(List.getElem?_eq_some_iff.1 aR).1)]
  exact aR
 ·exact dt aS _ env H (ag.set (sv:=.a (.arr g l)) ⟨xs,rfl,cv⟩ aI)
theorem YM(ar:X.tt.ok X.P) {t e:TypeId} {bj:bh} {x:Operand} {m:Nat} {g:aQ} {l:List g.D} {g1:Bool} (ax:o.op=.load t x) (a6:o.guard=none/\o.dst=some d) (av:Nat.blt d n=true)
  (aV:X.tt.find t=some bj) (cP:bj.bk.desc=.array m e) (aj:bm X st.L x=some (g1,.c (.par g l))) (cR:g1=true) (cQ:Nat.beq bj.bk.size (m * g.size)=true) (ad:decide (l.length=m)=true)
  : fg X n o st ⟨(d,.a (.arr g l)) :: st.L,st.H⟩:=by
 intro R W aG ks env B ai H a w ag KK hb dt;obtain⟨vx,J,b,p,vs,rfl,ae,cv,ir⟩:=ag.aD aj cR;have hlen:=bz.jq cv;have gG:=of_decide_eq_true ad;refine(fU ag.bL a6.1 a6.2 (du av) (v:=.agg vs.toArray) (w':=w) (s3 ag.bL ax (bV.get ar aV).bk (by rw[cP]; rfl) J (by rw[hlen,gG,Nat.eq_of_beq_eq_true cQ]) fun j v aR=>AU ae (ir j v aR) ag.aJ) fun aS aI=>?_);exact dt aS _ env H (ag.set (sv:=.a (.arr g l)) ⟨vs,rfl,cv⟩ aI)
theorem YN(ar:X.tt.ok X.P) {t bQ e:TypeId} {bj MT dr:bh} {u:Operand} {qU:bf} {l:List Int} {g:Bool} (ax:o.op=.convert t bQ u) (a6:o.guard=none/\o.dst=some d) (av:Nat.blt d n=true)
  (aV:X.tt.find t=some bj) (cP:bj.bk.desc=.slice e) (xN:X.tt.find bQ=some MT) (YO:MT.bk.desc=.string) (he:X.tt.find e=some dr) (FH:dr.bk.desc=.int .u8)
  (hu:bm X st.L u=some (g,qU)) (aL:g=true) (ak:kZ st (.int .u8) qU=some l) (ae:Bw l=true)
  : fg X n o st ⟨(d,.c (.str (r7 l))) :: st.L,st.H⟩:=by
 intro R W aG ks env B ai H a w ag KK hb dt;obtain⟨hM,J,U⟩:=ag.aD hu aL;obtain⟨A,c,xs,rfl,cv,az⟩:=qz ag ak U;obtain⟨T,bE,cV,dU,gb⟩:=Tq (bV.get ar aV).bk (bV.get ar xN).bk (bV.get ar he).bk;rw[Fy cv,<- Mp l ae]at az;have hlen:(r7 l).length=l.length:=by simp[r7]
 rw[<- hlen]at J az;refine(fU ag.bL a6.1 a6.2 (du av) (v:=eP (r7 l)) (w':=w) (Tg ag.bL ax bE cV dU cP YO gb FH J w az) fun aS aI=>?_);exact dt aS _ env H (ag.set (sv:=.c (.str (r7 l))) rfl aI)
theorem YP(ar:X.tt.ok X.P) {t:TypeId} {bj:bh} {u x:Operand} {s:List UInt8} {k:IntKind} {z:Int} {g g2:Bool} (ax:o.op=.slice t u (some x) none none) (a6:o.guard=none/\o.dst=some d) (av:Nat.blt d n=true)
  (aV:X.tt.find t=some bj) (cP:bj.bk.desc=.string) (hu:bm X st.L u=some (g,.c (.str s))) (aL:g=true) (aj:bm X st.L x=some (g2,.c (.val (.int k z)))) (dp:g2=true) (aN:decide (0<=z)=true) (J:decide (z<=(s.length:Int))=true)
  : fg X n o st ⟨(d,.c (.str (s.drop z.toNat))) :: st.L,st.H⟩:=by
 intro R W aG ks env B ai H a w ag KK hb dt;obtain⟨hM,cV,dU⟩:=ag.aD hu aL;rw[show hM=eP s from dU]at cV;obtain⟨vx,gb,hL⟩:=ag.aD aj dp;rw[show vx=_ from hL]at gb;have aC:=(bV.get ar aV).bk.1;rw[cP]at aC;have o8:=of_decide_eq_true aN;have tG:=of_decide_eq_true J;have dE:=FI (w:=w) (s:=s) (lo:=some (.int k z)) (hi:=none) (a:=z.toNat) (b:=s.length) aC (by simp[Instr.sliceBounds,Instr.sliceBound,asIntOf,o8,tG]);rw[List.take_length]at dE;refine(fU ag.bL a6.1 a6.2 (du av) (v:=eP (s.drop z.toNat)) (w':=w) (by simp[execOp,ax,ag.bL.aD cV,ag.bL.aD gb,dE]) fun aS aI=>?_);exact dt aS _ env H (ag.set (sv:=.c (.str (s.drop z.toNat))) rfl aI)
theorem YQ(ar:X.tt.ok X.P) {t:TypeId} {bj:bh} {u x:Operand} {s:List UInt8} {k:IntKind} {z:Int} {g g2:Bool} (ax:o.op=.slice t u none (some x) none) (a6:o.guard=none/\o.dst=some d) (av:Nat.blt d n=true)
  (aV:X.tt.find t=some bj) (cP:bj.bk.desc=.string) (hu:bm X st.L u=some (g,.c (.str s))) (aL:g=true) (aj:bm X st.L x=some (g2,.c (.val (.int k z)))) (dp:g2=true) (aN:decide (0<=z)=true) (J:decide (z<=(s.length:Int))=true)
  : fg X n o st ⟨(d,.c (.str (s.take z.toNat))) :: st.L,st.H⟩:=by
 intro R W aG ks env B ai H a w ag KK hb dt;obtain⟨hM,cV,dU⟩:=ag.aD hu aL;rw[show hM=eP s from dU]at cV;obtain⟨vx,gb,hL⟩:=ag.aD aj dp;rw[show vx=_ from hL]at gb;have aC:=(bV.get ar aV).bk.1;rw[cP]at aC;have o8:=of_decide_eq_true aN;have tG:=of_decide_eq_true J;have dE:=FI (w:=w) (s:=s) (lo:=none) (hi:=some (.int k z)) (a:=0) (b:=z.toNat) aC (by simp[Instr.sliceBounds,Instr.sliceBound,asIntOf,o8,tG]);rw[List.drop_zero]at dE;refine(fU ag.bL a6.1 a6.2 (du av) (v:=eP (s.take z.toNat)) (w':=w) (by simp[execOp,ax,ag.bL.aD cV,ag.bL.aD gb,dE]) fun aS aI=>?_);exact dt aS _ env H (ag.set (sv:=.c (.str (s.take z.toNat))) rfl aI)
theorem YR(ar:X.tt.ok X.P) {t:TypeId} {bj:bh} {u x y:Operand} {s:List UInt8} {k ek:IntKind} {z z2:Int} {g g2 g3:Bool} (ax:o.op=.slice t u (some x) (some y) none) (a6:o.guard=none/\o.dst=some d) (av:Nat.blt d n=true)
  (aV:X.tt.find t=some bj) (cP:bj.bk.desc=.string) (hu:bm X st.L u=some (g,.c (.str s))) (aL:g=true) (aj:bm X st.L x=some (g2,.c (.val (.int k z)))) (dp:g2=true) (aT:bm X st.L y=some (g3,.c (.val (.int ek z2)))) (ib:g3=true) (aN:decide (0<=z)=true) (J:decide (z<=z2)=true) (U:decide (z2<=(s.length:Int))=true)
  : fg X n o st ⟨(d,.c (.str ((s.take z2.toNat).drop z.toNat))) :: st.L,st.H⟩:=by
 intro R W aG ks env B ai H a w ag KK hb dt;obtain⟨hM,cV,dU⟩:=ag.aD hu aL;rw[show hM=eP s from dU]at cV;obtain⟨vx,gb,hL⟩:=ag.aD aj dp;rw[show vx=_ from hL]at gb;obtain⟨vy,mH,vM⟩:=ag.aD aT ib;rw[show vy=_ from vM]at mH;have aC:=(bV.get ar aV).bk.1;rw[cP]at aC;have o8:=of_decide_eq_true aN;have tG:=of_decide_eq_true J;have Eh:=of_decide_eq_true U;have ET:0<=z2:=by omega
 have aiM:z<=(z2.toNat:Int):=by omega
 have dE:=FI (w:=w) (s:=s) (lo:=some (.int k z)) (hi:=some (.int ek z2)) (a:=z.toNat) (b:=z2.toNat) aC (by
  have ym:z<=max z2 0:=by omega
  simp[Instr.sliceBounds,Instr.sliceBound,asIntOf,o8,Eh,ET,ym])
 refine(fU ag.bL a6.1 a6.2 (du av) (v:=eP ((s.take z2.toNat).drop z.toNat)) (w':=w) (by simp[execOp,ax,ag.bL.aD cV,ag.bL.aD gb,ag.bL.aD mH,dE]) fun aS aI=>?_);exact dt aS _ env H (ag.set (sv:=.c (.str ((s.take z2.toNat).drop z.toNat))) rfl aI)
theorem YS(ar:X.tt.ok X.P) {t e:TypeId} {x y:Operand} {g1 g2:Bool} {dH:bf} {cA gJ c:Nat} {ge g:aQ} {l bw:List g.D} {bj:bh} {aE:TypeDesc} {jM:Value} (ax:o.op=.call ⟨.builtin .append,⟨[x,y]⟩,⟨[t,t]⟩⟩) (a6:o.guard=none/\o.dst=some d) (av:Nat.blt d n=true)
  (aV:X.tt.find t=some bj) (cP:bj.bk.desc=.slice e) (he:X.tt.find e=some ⟨⟨aE,cA,gJ,jM⟩,some ge⟩) (aj:bm X st.L x=some (g1,.c (.bn g l (some c)))) (aL:g1=true) (aT:bm X st.L y=some (g2,dH)) (fm:g2=true)
  (cQ:Nat.beq g.size cA=true) (l8:kZ st g dH=some bw) (aa:en gJ (l.length+bw.length)=true) (lH:decide (c=l.length)=true)
  : fg X n o st ⟨(d,.c (.an d)) :: eJ d .dead st.L,(d,.fk e g (l++bw)) :: dq d .dead st.H⟩:=by
 intro R W aG ks env B ai H a w h KK hb dt;obtain⟨vx,gW,A,c',xs,rfl,cV,dU,fc,cv,gU⟩:=h.aD aj aL;obtain⟨vy,fp,iO⟩:=h.aD aT fm;have aC:=fc c rfl;have aW:=of_decide_eq_true lH;have cB:c'=l.length:=aC.trans aW;rw[cB]at gW dU;obtain⟨cR,dp,ib⟩:=(bV.get ar he).g ge rfl;obtain⟨T,bE,J,au⟩:=mG (bV.get ar aV).bk (bV.get ar he).bk;dsimp only at cR dp au;have nY:jM.cells.size=cA:=by
  have:jM.cells.toList.length=cA:=by rw[dp,<- cR]; exact bz.length (bz.eh (B:=B) (w:=ai) ge)
  simpa using this
 have fM:=Nat.eq_of_beq_eq_true cQ;simp only[en,Bool.and_eq_true,decide_eq_true_eq]at aa;obtain⟨cY,cF,fZ,rfl,iF,gm⟩:=qz h l8 iO;have qA:=gU.jo h.aJ;rw[fM]at qA gm;refine(Mq h.sym ax a6 av bE J cP au (by rw[<- cR]; exact Nat.ble_eq_true_of_le ib) nY gW fp qA gm (Flat.iD (fun _ _=>bz.iD) iF) aa.1 aa.2 (fun hm aS w' cr=>?_) fun b9 c' aS w' cr=>?_)
 ·have ih:bw=[]:=List.eq_nil_of_length_eq_zero hm
  subst ih;obtain⟨H',_,c7⟩:=h.mK (d:=d) av (l:=.row A l.length (l++[]).length) (c:=.row none 0 e g.size 0 []) (blk:=.fk e g (l++[])) (sv:=.c (.an d)) (v:=.slice A l.length l.length) (cr.aJ.pD e g.size) ⟨A,l.length,eG,.inr ⟨rfl,by simp,dU,xs,by rw[List.append_nil]; exact cv,by rw[List.append_nil]; exact gU⟩⟩ ⟨A,l.length,_,eG,by simp⟩ cr.st;exact dt aS w' _ H' (c7)
 ·obtain⟨H',_,c7⟩:=h.mK (d:=d) av (l:=.row b9 c' (l++bw).length) (c:=.row b9 c' e g.size (l++bw).length (xs++fZ)) (blk:=.fk e g (l++bw)) (sv:=.c (.an d)) (v:=.slice b9 (l.length+bw.length) c') (by have:=cr.aJ; rw[<- fM]at this; rw[List.length_append]; exact this) ⟨b9,c',eG,.inl ⟨_,rfl,cv.append iF⟩⟩ ⟨b9,c',_,eG,by rw[List.length_append]⟩ cr.st
  exact dt aS w' _ H' (c7)
theorem YT(g:aQ) (m:Nat) (x:g.D) (v:Value) (ar:X.tt.ok X.P) {t:TypeId} {bj:bh} (ax:o.op=.alloc t) (a6:o.guard=none/\o.dst=some d) (av:Nat.blt d n=true) (cP:X.tt.find t=some bj)
  (bG:bj.bk.zero.cells.toList=List.replicate m v) (aB:∀ (B:Nat->Prop) (w:World),bz B w g x [v]) (hm:Nat.ble m 140737488355328=true)
  : fg X n o st ⟨(d,.c (.gD d 0)) :: eJ d .dead st.L,(d,.row t g (List.replicate m x) (some m)) :: dq d .dead st.H⟩:=by
 intro R W aG ks env B ai H a w h KK hb dt;have l4:=bC.pw (bV.get ar cP).bk;have cv:∀ k,Flat (bz B ai g) (List.replicate k x) (List.replicate k v):=fun k=>by
  induction k with
  | zero=>exact rfl
  | succ k bA=>exact⟨[v],_,rfl,aB B ai,bA⟩
 have J:g.size=1:=by
  have:=bz.length (aB B ai)
  simpa using this.symm
 refine(fU h.bL a6.1 a6.2 (du av) (v:=.pointer (some ⟨w.heap.size,0,none⟩)) (w':=w.alloc (.cells bj.bk.zero.cells.toList.toArray t)) (by simp[execOp,ax,Instr.alloc,l4,newVar,Go.newRow,newObj,Sem.run]) fun aS aI=>?_);have dK:=(h.aJ.xo bj.bk.zero.cells.toList t)
 rw[bG]at dK;have dT:=dK.AL (e:=t) (size:=g.size) (m:=m) (by rw[J]; simp) (Nat.le_of_ble_eq_true hm);obtain⟨H',_,ah⟩:=h.mK (d:=d) av (l:=.row (some ⟨w.heap.size,0,none⟩) m m) (blk:=.row t g (List.replicate m x) (some m)) (sv:=.c (.gD d 0)) (w':=w.alloc (.cells bj.bk.zero.cells.toList.toArray t)) (by rw[bG]; exact dT) ⟨some ⟨w.heap.size,0,none⟩,m,List.replicate m v,by rw[List.length_replicate]; exact eG,by rw[List.length_replicate],cv m,fun q ao=>by cases ao; rfl⟩ ⟨_,_,_,eG,rfl⟩ aI;exact dt aS _ _ H' (ah)
end
end
section
section
variable {X:br} {n:Nat} {st st':aM} {o:Oper} {d:Nat}
theorem YU(ar:X.tt.ok X.P) {t:TypeId} {bj:bh} {u:Operand} {g:Bool} {s:List UInt8} (ax:o.op=.range t u) (a6:o.guard=none/\o.dst=some d) (av:Nat.blt d n=true) (aV:X.tt.find t=some bj) (cP:bj.bk.desc=.string) (hu:bm X st.L u=some (g,.c (.str s))) (aL:g=true) :
  fg X n o st ⟨(d,.c (.ptr d 0)) :: eJ d .dead st.L,(d,.hq ⟨s.toArray⟩ 0) :: dq d .dead st.H⟩:=by
 intro R W aG ks env B ai H a w h KK hb dt;obtain⟨hM,J,U⟩:=h.aD hu aL;rw[show hM=eP s from U]at J;have aC:=(bV.get ar aV).bk.1;rw[cP]at aC;refine fU h.bL a6.1 a6.2 (du av) (v:=.pointer (some ⟨w.heap.size,0,none⟩)) (w':=w.alloc (.stringIter ⟨s.toArray⟩ 0)) (by simp[execOp,ax,h.bL.aD J,Instr.range,run_underlying aC,eP,newObj,Sem.run]) fun aS aI=>?_
 obtain⟨H',_,ah⟩:=h.mK (d:=d) av (l:=.blk w.heap.size) (blk:=.hq ⟨s.toArray⟩ 0) (sv:=.c (.ptr d 0)) (w':=w.alloc (.stringIter ⟨s.toArray⟩ 0)) (h.aJ.alloc _) ⟨_,eG,rfl⟩ ⟨_,eG,rfl⟩ aI;exact dt aS _ _ H' ah
theorem YV{x:Operand} {g:Bool} {id p:Nat} {S:ByteArray} (ax:o.op=.next x true) (a6:o.guard=none/\o.dst=some d) (av:Nat.blt d n=true) (aj:bm X st.L x=some (g,.c (.ptr id 0))) (aL:g=true) (bO:aU st.H id=some (.hq S p)) (aq:p < S.size) :
  fg X n o st ⟨(d,.da [.c (.val (.bool true)),.c (.val (.int .i64 (p:Int))),.c (.val (.int .i32 (Utf8.decode S p).1))]) :: st.L,ef id (.hq S (p+(Utf8.decode S p).2)) st.H⟩:=by
 intro R W aG ks env B ai H a w h KK hb dt;obtain⟨vx,J,b,ae,rfl⟩:=h.aD aj aL;obtain⟨dk,K,⟨b',dm,rfl⟩,dV,fX⟩:=h.lD (b':=.hq S (p+(Utf8.decode S p).2)) bO;rw[ae]at dm;cases dm;have ha:=(h.aJ.ok _ dV.mem).2;refine fU h.bL a6.1 a6.2 (du av) (v:=.tuple #[.bool true,.int .i64 p,.int .i32 (Utf8.decode S p).1]) (w':={ w with heap:=w.heap.setIfInBounds b (.stringIter S (p+(Utf8.decode S p).2)) }) ?_ fun aS aI=>?_
 ·have:=Lib.run_next_any_at (P:=X.P) w b S p o.type ha aq
  simp[execOp,ax,h.bL.aD J,this,World.iterAt]
 ·obtain⟨H',ah⟩:=fX (.obj b (.stringIter S (p+(Utf8.decode S p).2))) a { w with heap:=w.heap.setIfInBounds b (.stringIter S (p+(Utf8.decode S p).2)) } ⟨b,ae,rfl⟩ (h.aJ.u9 dV) h.bL
  exact dt aS _ _ H' (ah.set ⟨[.bool true,.int .i64 p,.int .i32 (Utf8.decode S p).1],rfl,_,_,rfl,rfl,_,_,rfl,rfl,_,_,rfl,rfl,rfl⟩ aI)
theorem YW{x:Operand} {g:Bool} {id p:Nat} {S:ByteArray} (ax:o.op=.next x true) (a6:o.guard=none/\o.dst=some d) (av:Nat.blt d n=true) (aj:bm X st.L x=some (g,.c (.ptr id 0))) (aL:g=true) (bO:aU st.H id=some (.hq S p)) (aq:¬ p < S.size) :
  fg X n o st ⟨(d,.da [.c (.val (.bool false))]) :: st.L,st.H⟩:=by
 intro R W aG ks env B ai H a w h KK hb dt;obtain⟨vx,J,b,ae,rfl⟩:=h.aD aj aL;obtain⟨dk,K,⟨b',dm,rfl⟩,dV,fX⟩:=h.lD (b':=.hq S p) bO;rw[ae]at dm;cases dm;have ha:=(h.aJ.ok _ dV.mem).2;refine fU h.bL a6.1 a6.2 (du av) (v:=.tuple #[.bool false]) (w':=w) ?_ fun aS aI=>?_
 ·have:=Lib.run_next_end_at (P:=X.P) w b S p o.type ha aq
  simp[execOp,ax,h.bL.aD J,this]
 ·exact dt aS _ _ H (h.set ⟨[.bool false],rfl,_,_,rfl,rfl,rfl⟩ aI)
end
end
section
set_option linter.unusedSectionVars false
section
variable {X:br} {M:Bool} {n:Nat} {st:aM} {Q:Exit->aM->Prop} {ops rest:List Oper} {o:Oper} {d:Nat}
theorem YX(ar:X.tt.ok X.P) {t e:TypeId} {bj dr:bh} {u x:Operand} {id:Nat} {T:TypeId} {g:aQ} {l:List g.D} {cap:Option Nat} {k:IntKind} {z:Int} {g1 g2:Bool} (ax:o.op=.slice t u (some x) none none)
  (aV:X.tt.find t=some bj) (cP:bj.bk.desc=.slice e) (he:X.tt.find e=some dr) (hu:bm X st.L u=some (g1,.c (.an id))) (cR:g1=true) (aj:bm X st.L x=some (g2,.c (.val (.int k z)))) (dp:g2=true)
  (bO:aU st.H id=some (.row T g l cap)) (cQ:Nat.beq g.size dr.bk.size=true) (bG:(decide (0<=z)&&decide (z<=(l.length:Int)))=true):gT X st o (.c (.iB id g.size z.toNat)):=by
 intro R W aG n ks env B ai H a bZ ag;simp only[Bool.and_eq_true,decide_eq_true_eq]at bG;obtain⟨hM,J,A,c,m,iG,rfl⟩:=ag.aD hu cR;obtain⟨vx,U,ah⟩:=ag.aD aj dp;rw[show vx=_ from ah]at U;obtain⟨dk,K,⟨b9,k',xs,cI,rfl,_⟩,aA⟩:=ag.heap.fE bO;rw[iG]at cI;cases cI;obtain⟨MU,bE,cV,hL⟩:=mG (bV.get ar aV).bk (bV.get ar he).bk;refine⟨_,⟨A,c,l.length,iG,by omega,rfl⟩,fun w _=>?_⟩
 have:=K0 (l:=z.toNat) ag.bL ax bE cV cP hL J U (by omega) (by omega) w
 rw[<- Nat.eq_of_beq_eq_true cQ]at this;exact this
theorem Flat.part{α:Type} {R:α->List Value->Prop} {k:Nat} (h:∀ x vs,R x vs->vs.length=k) {l bw:List α} {xs fZ:List Value} {i:Nat} (J:Flat R l xs) (U:Flat R bw fZ):Flat R (l.take i++bw++l.drop (i+bw.length)) (xs.take (i * k)++fZ++xs.drop (i * k+fZ.length)):=by
 have e:=Flat.length h U;rw[e,<- Nat.add_mul];exact((Flat.split h i J).1.append U).append (Flat.split h (i+bw.length) J).2
theorem YY(ar:X.tt.ok X.P) {t e:TypeId} {x y:Operand} {g1 g2:Bool} {dH:bf} {id cA gJ s p:Nat} {ge g:aQ} {l bw:List g.D} {cap:Option Nat} {bj:bh} {aE:TypeDesc} {jM:Value} (ax:o.op=.call ⟨.builtin .copy,⟨[x,y]⟩,⟨[t,t]⟩⟩) (a6:o.guard=none/\o.dst=some d) (av:Nat.blt d n=true)
  (aV:X.tt.find t=some bj) (cP:bj.bk.desc=.slice e) (he:X.tt.find e=some ⟨⟨aE,cA,gJ,jM⟩,some ge⟩) (aj:bm X st.L x=some (g1,.c (.iB id s p))) (aL:g1=true) (aT:bm X st.L y=some (g2,dH)) (fm:g2=true)
  (bO:aU st.H id=some (.row e g l cap)) (cQ:Nat.beq g.size cA=true) (ak:Nat.beq s cA=true) (l8:kZ st g dH=some bw) (kV:Nat.blt 0 cA=true) (aa:decide (p+bw.length<=l.length)=true):fg X n o st ⟨(d,.c (.val (.int .i64 (bw.length:Int)))) :: st.L,ef id (.row e g (l.take p++bw++l.drop (p+bw.length)) cap) st.H⟩:=by
 intro R W aG ks env B ai H a w h KK lo dt;obtain⟨vx,gW,kD⟩:=h.aD aj aL;obtain⟨vy,fp,iO⟩:=h.aD aT fm;obtain⟨T,bE,J,au⟩:=mG (bV.get ar aV).bk (bV.get ar he).bk;have fM:=Nat.eq_of_beq_eq_true cQ;have gQ:=Nat.eq_of_beq_eq_true ak;have lH:=of_decide_eq_true aa;obtain⟨cY,cF,fZ,rfl,iF,gm⟩:=qz h l8 iO;obtain⟨A,c,m,iG,vT,rfl⟩:=kD;obtain⟨dk,K,⟨b9,k',xs,mM,rfl,cv,fc⟩,dV,nv⟩:=h.lD (b':=.row e g (l.take p++bw++l.drop (p+bw.length)) cap) bO;rw[iG]at mM;cases mM;rw[fM]at dV gm;rw[gQ]at gW;have hlen:(l.take p++bw++l.drop (p+bw.length)).length=l.length:=by
  simp only[List.length_append,List.length_take,List.length_drop];omega
 refine K2 h.sym ax a6 av bE J cP au gW fp dV gm (Flat.iD (fun _ _=>bz.iD) iF) (du kV) lH fun aS w' cr=>?_
 have vU:=Flat.part (i:=p) (fun _ _=>bz.length) cv iF;rw[fM]at vU;obtain⟨H',c7⟩:=nv (.row A c e g.size l.length (xs.take (p * cA)++fZ++xs.drop (p * cA+fZ.length))) a w' ⟨A,c,_,by rw[hlen]; exact iG,by rw[hlen],vU,fc⟩ (by rw[fM]; exact cr.aJ) h.bL;exact dt aS w' _ H' (c7.set rfl cr.st)
theorem YZ(ar:X.tt.ok X.P) {t e:TypeId} {bj:bh} {u:Operand} {id:Nat} {g1:Bool} (ax:o.op=.call ⟨.builtin .cap,⟨[u]⟩,⟨[t]⟩⟩)
  (aV:X.tt.find t=some bj) (cP:bj.bk.desc=.slice e) (hu:bm X st.L u=some (g1,.c (.an id))) (cR:g1=true):gT X st o (.c (.iK id)):=by
 intro R W aG n ks env B ai H a bZ ag;obtain⟨hM,J,A,c,m,iG,rfl⟩:=ag.aD hu cR;obtain⟨MU,bE,cV⟩:=AP (bV.get ar aV).bk;exact⟨_,⟨A,c,m,iG,rfl⟩,fun w _=>Ei ag.bL ax bE cV cP J w⟩
theorem ew.less{w:World} {B:Nat->Prop} {e:TypeId} {size c n m:Nat} {A:Option Addr} {xs:List Value} (h:ew w B e size A c n xs) (hm:m<=n):ew w B e size A c m (xs.take (m * size)):=by
 have MV:m * size<=n * size:=Nat.mul_le_mul_right _ hm;refine⟨by rw[List.length_take,h.1,Nat.min_eq_left MV],?_⟩
 rcases h.2 with⟨J,U,ah⟩ | ⟨g,cur,dB,J,U,ah,au,aF,aY,bK,c7⟩
 ·exact .inl ⟨J,by omega,ah⟩
 ·exact .inr ⟨g,cur,dB,J,U,ah,au,by omega,aY,bK,by rw[<- c7,List.take_take,Nat.min_eq_left MV]⟩
theorem Y0(ar:X.tt.ok X.P) {t e:TypeId} {bj dr:bh} {u y v:Operand} {id:Nat} {T:TypeId} {g:aQ} {l:List g.D} {cap:Option Nat} {k:IntKind} {z:Int} {g1 g2 g3:Bool} (ax:o.op=.slice t u none (some y) (some v)) (a6:o.guard=none/\o.dst=some d) (av:(Nat.blt d n&&Nat.blt id hZ)=true)
  (aV:X.tt.find t=some bj) (cP:bj.bk.desc=.slice e) (he:X.tt.find e=some dr) (hu:bm X st.L u=some (g1,.c (.an id))) (cR:g1=true) (aT:bm X st.L y=some (g2,.c (.val (.int k z)))) (dp:g2=true) (aB:bm X st.L v=some (g3,.c (.iK id))) (ib:g3=true)
  (bO:aU st.H id=some (.row T g l cap)) (bG:(decide (0<=z)&&decide (z<=(l.length:Int)))=true):fg X n o st ⟨(d,.c (.an id)) :: eJ id .dead st.L,(id,.row T g (l.take z.toNat) cap) :: dq id .dead st.H⟩:=by
 intro R W aG ks env B ai H a w ag KK hb dt;simp only[Bool.and_eq_true,decide_eq_true_eq]at bG av;obtain⟨av,ta⟩:=av;obtain⟨hM,J,A,c,m,iG,rfl⟩:=ag.aD hu cR;obtain⟨vy,U,ah⟩:=ag.aD aT dp;rw[show vy=_ from ah]at U;obtain⟨vv,au,aiN,MW,m4,MX,rfl⟩:=ag.aD aB ib;rw[iG]at MX;cases MX;obtain⟨dk,K,⟨b9,k',xs,cI,rfl,cv,fc⟩,aA,nv⟩:=ag.EV (d:=d) (b':=.row T g (l.take z.toNat) cap) bO (fun q aq=>by
  obtain⟨_,aF,aY⟩:=ag.df _ _ aq;rw[iG]at aF
  rcases aY with⟨b,aY⟩ | aY
  ·rw[<- aF]at aY; cases aY
  ·have:=du ta; omega)
 rw[iG]at cI;cases cI;obtain⟨MU,bE,cV,hL⟩:=mG (bV.get ar aV).bk (bV.get ar he).bk;have eW:ew w (fun k=>R k\/B k) T g.size A c l.length xs:=ag.aJ.ok _ aA.mem;have dE:=Lc (h:=z.toNat) (q:=c) ag.bL ax bE cV cP hL J U au (by omega) rfl (by have:=eW.le.1; omega) (Nat.le_refl _) w;refine fU ag.bL a6.1 a6.2 (du av) (v:=.slice A z.toNat c) (w':=w) dE fun aS aI=>?_
 have MY:(l.take z.toNat).length=z.toNat:=by rw[List.length_take]; omega
 have ak:bF (fun k=>R k\/B k) ai (K (.row A c T g.size z.toNat (xs.take (z.toNat * g.size)))) w:=ag.aJ.sU aA (c6.refl _ _) (eW.less (by omega)) (fun b ae=>.inl ae) fun b _ _=>rfl
 obtain⟨H',_,c7⟩:=nv (.row A c z.toNat) _ aS w (.c (.an id)) _ ⟨A,c,_,by rw[MY]; exact eG,by rw[MY],(Flat.split (fun _ _=>bz.length) z.toNat cv).1,fc⟩ ⟨A,c,_,eG,rfl⟩ ak aI;exact dt aS w _ H' c7
end
end
end Go.Proofs.YtcheedjfedcbpaaGreatDoor
