/- Part 2 of 6 of the proof. -/
import Derived.Test.YtcheedjfedcbpaaGreatDoorSs01
import Derived.Lib.LaidTab
import Derived.Test.YtcheedjfedcbpaaGreatDoorProg
import Derived.KernelRfl
import Derived.Lib.ItoaNum
import Derived.Test.YtcheedjfedcbpaaGreatDoorRows
import Derived.LaidMore
import Derived.OpenShut
import Derived.Stop.Joined
import Derived.Test.YtcheedjfedcbpaaGreatDoorCards
import Derived.Test.YtcheedjfedcbpaaGreatDoorTie
import Derived.SevenTiedAt
import Derived.Maps.RangeRun
import Derived.Scope
import Derived.Lib.OthersKept
set_option linter.unusedSimpArgs false
set_option linter.unusedVariables false
set_option maxRecDepth 100000
namespace Go.Proofs.YtcheedjfedcbpaaGreatDoor
open Go.RowKit
section
abbrev ec:=List (Nat×Nat)
def wv(ps:ec):List e4->Option (List e4)
 | []=>some []
 | .id i :: r=>match bd ps i,wv ps r with
  | some j,some l=>some (.id j :: l)
  | _,_=>none
 | .eT g x :: r=>match wv ps r with
  | some l=>some (.eT g x :: l)
  | none=>none
def bm.dF(ps:ec):bm->Option bm
 | .ptr i o=>match bd ps i with
  | some j=>some (.ptr j o)
  | none=>none
 | .eG i cJ k o=>match bd ps i with
  | some j=>some (.eG j cJ k o)
  | none=>none
 | .ai i=>match bd ps i with
  | some j=>some (.ai j)
  | none=>none
 | .fn f ids=>match wv ps ids with
  | some l=>some (.fn f l)
  | none=>none
 | .b8 i=>match bd ps i with
  | some j=>some (.b8 j)
  | none=>none
 | .iH f i=>match bd ps i with
  | some j=>some (.iH f j)
  | none=>none
 | .hG i o=>match bd ps i with
  | some j=>some (.hG j o)
  | none=>none
 | .iU i=>match bd ps i with
  | some j=>some (.iU j)
  | none=>none
 | .iI i s o=>match bd ps i with
  | some j=>some (.iI j s o)
  | none=>none
 | .hQ b i=>match bd ps i with
  | some j=>some (.hQ b j)
  | none=>none
 | .val v=>some (.val v)
 | .str s=>some (.str s)
 | .dead=>some .dead
 | .fO g x o=>some (.fO g x o)
 | .par g l=>some (.par g l)
 | .bk g l c=>some (.bk g l c)
def yA(ps:ec):List bm->Option (List bm)
 | []=>some []
 | c :: r=>match c.dF ps,yA ps r with
  | some c',some cy=>some (c' :: cy)
  | _,_=>none
def bl.dF(ps:ec):bl->Option bl
 | .c x=>match x.dF ps with
  | some y=>some (.c y)
  | none=>none
 | .agg cs=>match yA ps cs with
  | some l=>some (.agg l)
  | none=>none
 | .arr g l=>some (.arr g l)
def yB(ps:ec):List bl->Option (List bl)
 | []=>some []
 | c :: r=>match c.dF ps,yB ps r with
  | some c',some cy=>some (c' :: cy)
  | _,_=>none
def b3.dF(ps:ec):b3->Option b3
 | .a x=>match x.dF ps with
  | some y=>some (.a y)
  | none=>none
 | .c3 xs=>match yB ps xs with
  | some l=>some (.c3 l)
  | none=>none
 | .may _ _=>none
def cv.dF(ps:ec):cv->Option cv
 | .cells t cs=>match yA ps cs with
  | some l=>some (.cells t l)
  | none=>none
 | .row t g l c=>some (.row t g l c)
 | .kn s p=>some (.kn s p)
 | .mp gk aY l o=>some (.mp gk aY l o)
 | .it eU es k M1=>match bd ps eU with
  | some j=>some (.it j es k M1)
  | none=>none
 | .ko=>some .ko
 | .hj eU=>match bd ps eU with
  | some j=>some (.hj j)
  | none=>none
 | .cM el t g l c i d=>match bd ps d with
  | some j=>some (.cM el t g l c i j)
  | none=>none
 | .kL=>some .kL
 | .gl t g l=>some (.gl t g l)
 | .b2 t bW g l c none=>some (.b2 t bW g l c none)
 | .b2 t bW g l c (some (i,none))=>some (.b2 t bW g l c (some (i,none)))
 | .b2 t bW g l c (some (i,some d))=>match bd ps d with
  | some j=>some (.b2 t bW g l c (some (i,some j)))
  | none=>none
def tV(ps:ec):bz->Option bz
 | []=>some []
 | (i,b) :: r=>match bd ps i,b.dF ps,tV ps r with
  | some j,some b',some cy=>some ((j,b') :: cy)
  | _,_,_=>none
def pg(js:List Nat):List e4->Bool
 | []=>false
 | .id i :: r=>js.elem i || pg js r
 | .eT _ _ :: r=>pg js r
def bm.kill:bm->List Nat->bm
 | .ptr i o,js=>match js.elem i with
  | true=>.dead
  | false=>.ptr i o
 | .eG i cJ j o,js=>match js.elem i with
  | true=>.dead
  | false=>.eG i cJ j o
 | .ai i,js=>match js.elem i with
  | true=>.dead
  | false=>.ai i
 | .fn f ids,js=>match pg js ids with
  | true=>.dead
  | false=>.fn f ids
 | .b8 i,js=>match js.elem i with
  | true=>.dead
  | false=>.b8 i
 | .iH f i,js=>match js.elem i with
  | true=>.dead
  | false=>.iH f i
 | .hG i o,js=>match js.elem i with
  | true=>.dead
  | false=>.hG i o
 | .iU i,js=>match js.elem i with
  | true=>.dead
  | false=>.iU i
 | .iI i s o,js=>match js.elem i with
  | true=>.dead
  | false=>.iI i s o
 | .hQ b i,js=>match js.elem i with
  | true=>.dead
  | false=>.hQ b i
 | c,_=>c
def qd(js:List Nat):List bm->List bm
 | []=>[]
 | c :: r=>c.kill js :: qd js r
def bl.kill:bl->List Nat->bl
 | .c x,js=>.c (x.kill js)
 | .agg cs,js=>.agg (qd js cs)
 | .arr g l,_=>.arr g l
def tW(js:List Nat):List bl->List bl
 | []=>[]
 | c :: r=>c.kill js :: tW js r
def b3.kill:b3->List Nat->b3
 | .a x,js=>.a (x.kill js)
 | .may g x,js=>.may g (x.kill js)
 | .c3 xs,js=>.c3 (tW js xs)
def rf(js:List Nat):cX->cX
 | []=>[]
 | (k,v) :: r=>(k,v.kill js) :: rf js r
def cv.kill:cv->List Nat->cv
 | .cells t cs,js=>.cells t (qd js cs)
 | .it eU es k ps,js=>match js.elem eU with
  | true=>.ko
  | false=>.it eU es k ps
 | .hj eU,js=>match js.elem eU with
  | true=>.ko
  | false=>.hj eU
 | .cM el t g l c i d,js=>match js.elem d with
  | true=>.kL
  | false=>.cM el t g l c i d
 | .b2 t bW g l c (some (i,some d)),js=>match js.elem d with
  | true=>.b2 t bW g l c (some (i,none))
  | false=>.b2 t bW g l c (some (i,some d))
 | b,_=>b
def iY(js ks:List Nat):bz->bz
 | []=>[]
 | (k,b) :: r=>match js.elem k with
  | true=>iY js ks r
  | false=>(k,b.kill ks) :: iY js ks r
def kx:ec->List Nat
 | []=>[]
 | (_,j) :: r=>j :: kx r
def BO(h:bz) (i:Nat):Bool:=match Nat.ble h5 i,Nat.ble mZ i,bd h i with
 | true,_,_=>true
 | _,true,some (.cells _ _)=>true
 | _,true,some (.mp _ _ _ _)=>true
 | _,_,_=>false
def ll(h:bz):ec->List Nat
 | []=>[]
 | (i,j) :: r=>match BO h i with
  | true=>ll h r
  | false=>j :: ll h r
def ph:List Nat->Bool
 | []=>true
 | x :: r=>!(r.elem x)&&ph r
def sx:ec->List Nat
 | []=>[]
 | (i,_) :: r=>i :: sx r
def BP(n:Nat):ec->Bool
 | []=>true
 | (i,j) :: r=>(Nat.ble h5 i || (Nat.ble mZ i&&Nat.blt j h5) || Nat.blt j n)&&BP n r
def BQ(n:Nat) (ps:ec):Bool:=ph (sx ps)&&ph (kx ps)&&BP n ps
def inv:ec->Nat->Option Nat
 | [],_=>none
 | (i,j) :: r,k=>if k=j then some i else inv r k
theorem yC:∀ {l:List Nat},ph l=true->l.Nodup
 | [],_=>List.nodup_nil
 | x :: r,h=>by
  simp only[ph,Bool.and_eq_true,Bool.not_eq_true',List.elem_eq_mem,decide_eq_false_iff_not]at h;exact List.nodup_cons.2 ⟨h.1,yC h.2⟩
theorem wx{α:Type}:∀ {l:List (Nat×α)} {i:Nat} {x:α},bd l i=some x->(i,x)∈l
 | [],_,_,h=>by cases h
 | (k,v) :: r,i,x,h=>by
  rw[cI]at h
  split at h
  ·rename_i e; subst e; cases h; exact List.mem_cons_self
  ·exact List.mem_cons_of_mem _ (wx h)
theorem M3:∀ {ps:ec} {i j:Nat},(i,j)∈ps->i∈sx ps
 | [],_,_,h=>by cases h
 | (k,l) :: r,i,j,h=>by
  rcases List.mem_cons.1 h with h | h
  ·cases h; exact List.mem_cons_self
  ·exact List.mem_cons_of_mem _ (M3 h)
theorem BR:∀ {ps:ec} {i j:Nat},(i,j)∈ps->j∈kx ps
 | [],_,_,h=>by cases h
 | (k,l) :: r,i,j,h=>by
  rcases List.mem_cons.1 h with h | h
  ·cases h; exact List.mem_cons_self
  ·exact List.mem_cons_of_mem _ (BR h)
theorem yD:∀ {ps:ec} {i j:Nat},(sx ps).Nodup->(i,j)∈ps->bd ps i=some j
 | [],_,_,_,h=>by cases h
 | (k,l) :: r,i,j,aV,h=>by
  have hr:=List.nodup_cons.1 aV;rw[cI]
  rcases List.mem_cons.1 h with hm | hm
  ·cases hm; rw[if_pos rfl]
  ·rw[if_neg (fun e=>hr.1 (by subst e; exact M3 hm)),yD hr.2 hm]
theorem M4:∀ {ps:ec} {i j:Nat},(kx ps).Nodup->(i,j)∈ps->inv ps j=some i
 | [],_,_,_,h=>by cases h
 | (k,l) :: r,i,j,aV,h=>by
  have hr:=List.nodup_cons.1 aV;unfold inv
  rcases List.mem_cons.1 h with hm | hm
  ·cases hm; rw[if_pos rfl]
  ·rw[if_neg (fun e=>hr.1 (by subst e; exact BR hm)),M4 hr.2 hm]
theorem BS:∀ {ps:ec} {i j:Nat},inv ps j=some i->(i,j)∈ps
 | [],_,_,h=>by cases h
 | (k,l) :: r,i,j,h=>by
  unfold inv at h
  split at h
  ·rename_i e; subst e; cases h; exact List.mem_cons_self
  ·exact List.mem_cons_of_mem _ (BS h)
theorem M5{n:Nat}:∀ {ps:ec} {i j:Nat},BP n ps=true->(i,j)∈ps->h5<=i\/(mZ<=i/\j < h5)\/j < n
 | [],_,_,_,h=>by cases h
 | (k,l) :: r,i,j,ao,h=>by
  simp only[BP,Bool.and_eq_true,Bool.or_eq_true]at ao
  rcases List.mem_cons.1 h with h | h
  ·cases h
   rcases ao.1 with(J | J) | J
   ·exact .inl (Nat.le_of_ble_eq_true J)
   ·exact .inr (.inl ⟨Nat.le_of_ble_eq_true J.1,dY J.2⟩)
   ·exact .inr (.inr (dY J))
  ·exact M5 ao.2 h
theorem F7{h:bz}:∀ {ps:ec} {i j:Nat},(i,j)∈ps->(ll h ps).elem j=false->BO h i=true
 | [],_,_,h,_=>by cases h
 | (k,l) :: r,i,j,hm,ab=>by
  unfold ll at ab
  rcases List.mem_cons.1 hm with hm | hm
  ·cases hm
   split at ab
   ·assumption
   ·simp at ab
  ·split at ab
   ·exact F7 hm ab
   ·simp only[List.elem_eq_mem,List.mem_cons,decide_eq_false_iff_not,not_or]at ab
    exact F7 hm (by simpa using ab.2)
section
variable {env env' env'':Nat->Loc} {B:Nat->Prop} {w:World} {ps:ec} {js:List Nat}
theorem eZ.dF(he:∀ i j,bd ps i=some j->env' j=env i):∀ {ids l:List e4} {vs:List Value},wv ps ids=some l->(eZ env B w ids vs ↔ eZ env' B w l vs)
 | [],l,vs,h=>by cases h; exact Iff.rfl
 | .id i :: ids,l,vs,h=>by
  simp only[wv]at h
  split at h
  ·rename_i j r hi aw
   cases h;constructor
   ·rintro⟨v,cy,J,⟨b,U,aq⟩,ag⟩
    exact⟨v,cy,J,⟨b,by rw[he i j hi]; exact U,aq⟩,(eZ.dF he aw).1 ag⟩
   ·rintro⟨v,cy,J,⟨b,U,aq⟩,ag⟩
    exact⟨v,cy,J,⟨b,by rw[<- he i j hi]; exact U,aq⟩,(eZ.dF he aw).2 ag⟩
  ·cases h
 | .eT g x :: ids,l,vs,h=>by
  simp only[wv]at h
  split at h
  ·rename_i r aw
   cases h;constructor
   ·rintro⟨v,cy,J,U,ag⟩; exact⟨v,cy,J,U,(eZ.dF he aw).1 ag⟩
   ·rintro⟨v,cy,J,U,ag⟩; exact⟨v,cy,J,U,(eZ.dF he aw).2 ag⟩
  ·cases h
theorem dB.dF(he:∀ i j,bd ps i=some j->env' j=env i):∀ {c c':bm} {v:Value},c.dF ps=some c'->(dB env B w c v ↔ dB env' B w c' v)
 | .val _,_,_,h=>by cases h; exact Iff.rfl
 | .str _,_,_,h=>by cases h; exact Iff.rfl
 | .dead,_,_,h=>by cases h; exact Iff.rfl
 | .ptr i o,_,_,h=>by
  simp only[bm.dF]at h
  split at h
  ·rename_i j hi
   cases h;simp only[dB,he i j hi]
  ·cases h
 | .eG i cJ k o,_,_,h=>by
  simp only[bm.dF]at h
  split at h
  ·rename_i j hi
   cases h;simp only[dB,he i j hi]
  ·cases h
 | .hQ b i,_,_,h=>by
  simp only[bm.dF]at h
  split at h
  ·rename_i j hi
   cases h;simp only[dB,he i j hi]
  ·cases h
 | .iU i,_,_,h=>by
  simp only[bm.dF]at h
  split at h
  ·rename_i j hi
   cases h;simp only[dB,he i j hi]
  ·cases h
 | .iI i s o,_,_,h=>by
  simp only[bm.dF]at h
  split at h
  ·rename_i j hi
   cases h;simp only[dB,he i j hi]
  ·cases h
 | .hG i o,_,_,h=>by
  simp only[bm.dF]at h
  split at h
  ·rename_i j hi
   cases h;simp only[dB,he i j hi]
  ·cases h
 | .fO _ _ _,_,_,h=>by cases h; exact Iff.rfl
 | .par _ _,_,_,h=>by cases h; exact Iff.rfl
 | .ai i,_,_,h=>by
  simp only[bm.dF]at h
  split at h
  ·rename_i j hi
   cases h;simp only[dB,he i j hi]
  ·cases h
 | .bk _ _ _,_,_,h=>by cases h; exact Iff.rfl
 | .fn f ids,_,_,h=>by
  simp only[bm.dF]at h
  split at h
  ·rename_i l ah
   cases h;simp only[dB];constructor
   ·rintro⟨vs,J,U⟩; exact⟨vs,J,(eZ.dF he ah).1 U⟩
   ·rintro⟨vs,J,U⟩; exact⟨vs,J,(eZ.dF he ah).2 U⟩
  ·cases h
 | .b8 i,_,_,h=>by
  simp only[bm.dF]at h
  split at h
  ·rename_i j hi
   cases h;simp only[dB,he i j hi]
  ·cases h
 | .iH f i,_,_,h=>by
  simp only[bm.dF]at h
  split at h
  ·rename_i j hi
   cases h;simp only[dB,he i j hi]
  ·cases h
theorem cH.dF(he:∀ i j,bd ps i=some j->env' j=env i):∀ {c c':List bm} {v:List Value},yA ps c=some c'->(cH env B w c v ↔ cH env' B w c' v)
 | [],_,_,h=>by cases h; exact Iff.rfl
 | c :: r,_,_,h=>by
  simp only[yA]at h
  split at h
  ·rename_i c' cy J U
   cases h;constructor
   ·rintro⟨v,q,e,ag,aq⟩; exact⟨v,q,e,(dB.dF he J).1 ag,(cH.dF he U).1 aq⟩
   ·rintro⟨v,q,e,ag,aq⟩; exact⟨v,q,e,(dB.dF he J).2 ag,(cH.dF he U).2 aq⟩
  ·cases h
theorem dH.dF(he:∀ i j,bd ps i=some j->env' j=env i):∀ {c c':bl} {v:Value},c.dF ps=some c'->(dH env B w c v ↔ dH env' B w c' v)
 | .c x,_,_,h=>by
  simp only[bl.dF]at h
  split at h
  ·rename_i y aL; cases h; exact dB.dF he aL
  ·cases h
 | .agg cs,_,_,h=>by
  simp only[bl.dF]at h
  split at h
  ·rename_i l ah
   cases h;constructor
   ·rintro⟨vs,e,ag⟩; exact⟨vs,e,(cH.dF he ah).1 ag⟩
   ·rintro⟨vs,e,ag⟩; exact⟨vs,e,(cH.dF he ah).2 ag⟩
  ·cases h
 | .arr g l,_,_,h=>by cases h; exact Iff.rfl
theorem dn.dF(he:∀ i j,bd ps i=some j->env' j=env i):∀ {c c':List bl} {v:List Value},yB ps c=some c'->(dn env B w c v ↔ dn env' B w c' v)
 | [],_,_,h=>by cases h; exact Iff.rfl
 | c :: r,_,_,h=>by
  simp only[yB]at h
  split at h
  ·rename_i c' cy J U
   cases h;constructor
   ·rintro⟨v,q,e,ag,aq⟩; exact⟨v,q,e,(dH.dF he J).1 ag,(dn.dF he U).1 aq⟩
   ·rintro⟨v,q,e,ag,aq⟩; exact⟨v,q,e,(dH.dF he J).2 ag,(dn.dF he U).2 aq⟩
  ·cases h
theorem eH.dF(he:∀ i j,bd ps i=some j->env' j=env i):∀ {c c':b3} {v:Value},c.dF ps=some c'->eH env B w c v->eH env' B w c' v
 | .a x,_,_,h,aC=>by
  simp only[b3.dF]at h
  split at h
  ·rename_i y aL; cases h; exact(dH.dF he aL).1 aC
  ·cases h
 | .c3 xs,_,_,h,⟨vs,e,aC⟩=>by
  simp only[b3.dF]at h
  split at h
  ·rename_i l ah; cases h; exact⟨vs,e,(dn.dF he ah).1 aC⟩
  ·cases h
 | .may _ _,_,_,h,_=>by cases h
theorem er.dF(he:∀ i j,bd ps i=some j->env' j=env i) {i j:Nat} (hi:bd ps i=some j):∀ {b b':cv} {c:bf},b.dF ps=some b'->(er env B w i b c ↔ er env' B w j b' c)
 | .cells t cs,_,_,h=>by
  simp only[cv.dF]at h
  split at h
  ·rename_i l ah
   cases h;simp only[er,he i j hi];constructor
   ·rintro⟨b,vs,J,U,ag⟩; exact⟨b,vs,J,U,(cH.dF he ah).1 ag⟩
   ·rintro⟨b,vs,J,U,ag⟩; exact⟨b,vs,J,U,(cH.dF he ah).2 ag⟩
  ·cases h
 | .row t g l c,_,_,h=>by cases h; simp only[er,he i j hi]
 | .kn s p,_,_,h=>by cases h; simp only[er,he i j hi]
 | .mp gk aY l o,_,_,h=>by cases h; simp only[er,he i j hi]
 | .it eU es k M1,_,_,h=>by
  simp only[cv.dF]at h
  split at h
  ·rename_i iV aH
   cases h;simp only[er,he i j hi,he eU iV aH]
  ·cases h
 | .hj eU,_,_,h=>by
  simp only[cv.dF]at h
  split at h
  ·rename_i iV aH
   cases h;simp only[er,he i j hi,he eU iV aH]
  ·cases h
 | .ko,_,_,h=>by cases h; simp only[er,he i j hi]
 | .cM el t g l c q d,_,_,h=>by
  simp only[cv.dF]at h
  split at h
  ·rename_i iV aH
   cases h;simp only[er,he i j hi,he d iV aH]
  ·cases h
 | .kL,_,_,h=>by cases h; simp only[er,he i j hi]
 | .gl t g l,_,_,h=>by cases h; simp only[er,he i j hi]
 | .b2 t bW g l c none,_,_,h=>by cases h; simp only[er,he i j hi,yg]
 | .b2 t bW g l c (some (q,none)),_,_,h=>by
  cases h;simp only[er,he i j hi,yg];constructor<;>rintro⟨A,k,ys,c4,I,e,aa,J,⟨U,v,aq,_⟩,ag⟩<;>exact⟨A,k,ys,c4,I,e,aa,J,⟨U,v,aq,fun _ h=>by cases h⟩,ag⟩
 | .b2 t bW g l c (some (q,some d)),_,_,h=>by
  simp only[cv.dF]at h
  split at h
  ·rename_i iV aH
   cases h;simp only[er,he i j hi,yg];constructor
   ·rintro⟨A,k,ys,c4,I,e,aa,J,⟨U,v,aq,aE⟩,ag⟩
    exact⟨A,k,ys,c4,I,e,aa,J,⟨U,v,aq,fun c5 ax=>by cases ax; rw[he d iV aH]; exact aE d rfl⟩,ag⟩
   ·rintro⟨A,k,ys,c4,I,e,aa,J,⟨U,v,aq,aE⟩,ag⟩
    exact⟨A,k,ys,c4,I,e,aa,J,⟨U,v,aq,fun c5 ax=>by cases ax; rw[<- he d iV aH]; exact aE iV rfl⟩,ag⟩
  ·cases h
theorem bA.dF(he:∀ i j,bd ps i=some j->env' j=env i):∀ {h aK:bz} {H:List bf},tV ps h=some aK->bA env B w h H->bA env' B w aK H
 | [],_,_,h,cg=>by cases h; exact cg
 | (i,b) :: r,_,_,h,⟨c,H',e,J,U⟩=>by
  simp only[tV]at h
  split at h
  ·rename_i j b' cy ag aq aE
   cases h;exact⟨c,H',e,(er.dF he ag aq).1 J,bA.dF he aE U⟩
  ·cases h
theorem eZ.kill(he:∀ j,js.elem j=false->env' j=env j):∀ {ids:List e4} {vs:List Value},pg js ids=false->eZ env B w ids vs->eZ env' B w ids vs
 | [],_,_,h=>h
 | .id i :: ids,_,aV,⟨v,r,e,⟨b,ae,aC⟩,h⟩=>by
  simp only[pg,Bool.or_eq_false_iff]at aV;exact⟨v,r,e,⟨b,by rw[he i aV.1]; exact ae,aC⟩,eZ.kill he aV.2 h⟩
 | .eT g x :: ids,_,aV,⟨v,r,e,J,h⟩=>⟨v,r,e,J,eZ.kill he (by simpa [pg] using aV) h⟩
variable (he:∀ j,js.elem j=false->env' j=env j)
include he
theorem dB.kill:∀ {c:bm} {v:Value},dB env B w c v->dB env' B w (c.kill js) v
 | .val _,_,aa=>aa
 | .str _,_,aa=>aa
 | .dead,_,aa=>aa
 | .ptr i o,v,aa=>by
  simp only[bm.kill]
  split
  ·trivial
  ·rename_i h
   obtain⟨b,e,aC⟩:=aa;exact⟨b,by rw[he i h]; exact e,aC⟩
 | .eG i cJ j o,v,aa=>by
  simp only[bm.kill]
  split
  ·trivial
  ·rename_i h
   obtain⟨b,c,n,e,aC⟩:=aa;exact⟨b,c,n,by rw[he i h]; exact e,aC⟩
 | .hQ b i,v,aa=>by
  simp only[bm.kill]
  split
  ·trivial
  ·rename_i h
   obtain⟨k,e,aC⟩:=aa;exact⟨k,fun ae=>by rw[he i h]; exact e ae,aC⟩
 | .iU i,v,aa=>by
  simp only[bm.kill]
  split
  ·trivial
  ·rename_i h
   obtain⟨b,c,n,e,aC⟩:=aa;exact⟨b,c,n,by rw[he i h]; exact e,aC⟩
 | .iI i s o,v,aa=>by
  simp only[bm.kill]
  split
  ·trivial
  ·rename_i h
   obtain⟨b,c,n,e,aC⟩:=aa;exact⟨b,c,n,by rw[he i h]; exact e,aC⟩
 | .hG i o,v,aa=>by
  simp only[bm.kill]
  split
  ·trivial
  ·rename_i h
   obtain⟨b,c,n,e,aC⟩:=aa;exact⟨b,c,n,by rw[he i h]; exact e,aC⟩
 | .fO _ _ _,_,aa=>aa
 | .par _ _,_,aa=>aa
 | .ai i,v,aa=>by
  simp only[bm.kill]
  split
  ·trivial
  ·rename_i h
   obtain⟨A,c,n,e,aC⟩:=aa;exact⟨A,c,n,by rw[he i h]; exact e,aC⟩
 | .bk _ _ _,_,aa=>aa
 | .fn f ids,v,aa=>by
  simp only[bm.kill]
  split
  ·trivial
  ·rename_i h
   obtain⟨vs,aC,ao⟩:=aa;exact⟨vs,aC,eZ.kill he h ao⟩
 | .b8 i,v,aa=>by
  simp only[bm.kill]
  split
  ·trivial
  ·rename_i h
   obtain⟨b,e,aC⟩:=aa;exact⟨b,by rw[he i h]; exact e,aC⟩
 | .iH f i,v,aa=>by
  simp only[bm.kill]
  split
  ·trivial
  ·rename_i h
   obtain⟨b,e,aC⟩:=aa;exact⟨b,by rw[he i h]; exact e,aC⟩
theorem cH.kill:∀ {c:List bm} {v:List Value},cH env B w c v->cH env' B w (qd js c) v
 | [],_,aa=>aa
 | _ :: _,_,⟨v,r,e,J,U⟩=>⟨v,r,e,dB.kill he J,cH.kill U⟩
theorem dH.kill:∀ {c:bl} {v:Value},dH env B w c v->dH env' B w (c.kill js) v
 | .c _,_,aa=>dB.kill he aa
 | .agg _,_,⟨vs,e,J⟩=>⟨vs,e,cH.kill he J⟩
 | .arr _ _,_,h=>h
theorem dn.kill:∀ {c:List bl} {v:List Value},dn env B w c v->dn env' B w (tW js c) v
 | [],_,aa=>aa
 | _ :: _,_,⟨v,r,e,J,U⟩=>⟨v,r,e,dH.kill he J,dn.kill U⟩
theorem eH.kill:∀ {c:b3} {v:Value},eH env B w c v->eH env' B w (c.kill js) v
 | .a _,_,aa=>dH.kill he aa
 | .may _ _,_,aa=>⟨fun aQ=>dH.kill he (aa.1 aQ),aa.2⟩
 | .c3 _,_,⟨vs,e,J⟩=>⟨vs,e,dn.kill he J⟩
theorem er.kill{k:Nat} (ab:env' k=env k):∀ {b:cv} {c:bf},er env B w k b c->er env' B w k (b.kill js) c
 | .cells _ _,_,⟨b,vs,e,aa,J⟩=>⟨b,vs,by rw[ab]; exact e,aa,cH.kill he J⟩
 | .row _ _ _ _,_,⟨A,c,xs,e,aa,J⟩=>⟨A,c,xs,by rw[ab]; exact e,aa,J⟩
 | .kn _ _,_,⟨b,e,aa⟩=>⟨b,by rw[ab]; exact e,aa⟩
 | .mp _ _ _ _,_,⟨b,es,q,e,aa⟩=>⟨b,es,q,by rw[ab]; exact e,aa⟩
 | .it eU _ _ _,_,⟨b,m,e,hm,aa⟩=>by
  simp only[cv.kill]
  split
  ·exact⟨b,_,by rw[ab]; exact e,aa⟩
  ·rename_i h
   exact⟨b,m,by rw[ab]; exact e,by rw[he eU h]; exact hm,aa⟩
 | .hj eU,_,⟨b,m,q,e,hm,aa⟩=>by
  simp only[cv.kill]
  split
  ·exact⟨b,_,by rw[ab]; exact e,aa⟩
  ·rename_i h
   exact⟨b,m,q,by rw[ab]; exact e,by rw[he eU h]; exact hm,aa⟩
 | .ko,_,⟨b,o,e,aa⟩=>⟨b,o,by rw[ab]; exact e,aa⟩
 | .cM el t g l cap i d,_,⟨A,c,ys,bP,c',m,e,aa,J,hi,U,ag⟩=>by
  simp only[cv.kill]
  split
  ·exact⟨A,c,_,_,_,_,_,by rw[ab]; exact e,aa⟩
  ·rename_i h
   exact⟨A,c,ys,bP,c',m,by rw[ab]; exact e,aa,J,hi,by rw[he d h]; exact U,ag⟩
 | .kL,_,⟨A,c,n,t,s,m,xs,e,aa⟩=>⟨A,c,n,t,s,m,xs,by rw[ab]; exact e,aa⟩
 | .gl _ _ _,_,⟨A,c,e,J⟩=>⟨A,c,by rw[ab]; exact e,J⟩
 | .b2 _ _ _ _ _ none,_,⟨A,q,ys,c4,I,e,aa,J,U,ag⟩=>⟨A,q,ys,c4,I,by rw[ab]; exact e,aa,J,U,ag⟩
 | .b2 _ _ _ _ _ (some (i,none)),_,⟨A,q,ys,c4,I,e,aa,J,⟨U,v,aq,_⟩,ag⟩=>⟨A,q,ys,c4,I,by rw[ab]; exact e,aa,J,⟨U,v,aq,fun _ h=>by cases h⟩,ag⟩
 | .b2 _ _ _ _ _ (some (i,some d)),_,⟨A,q,ys,c4,I,e,aa,J,⟨U,v,aq,aE⟩,ag⟩=>by
  simp only[cv.kill]
  split
  ·exact⟨A,q,ys,c4,I,by rw[ab]; exact e,aa,J,⟨U,v,aq,fun _ h=>by cases h⟩,ag⟩
  ·rename_i h
   exact⟨A,q,ys,c4,I,by rw[ab]; exact e,aa,J,⟨U,v,aq,fun c5 ax=>by cases ax; rw[he d h]; exact aE d rfl⟩,ag⟩
omit he in
theorem F8:∀ {l:cX} {s:Nat} {v:b3},bd (rf js l) s=some v->∃ u,bd l s=some u/\v=u.kill js
 | [],_,_,h=>by cases h
 | (k,u) :: l,s,v,h=>by
  unfold rf at h;rw[cI]at h ⊢
  split at h
  ·rename_i e
   cases h;rw[if_pos e];exact⟨u,rfl,rfl⟩
  ·rename_i e
   rw[if_neg e];exact F8 h
omit he in
theorem bA.append:∀ {h aK:bz} {H H':List bf},bA env B w h H->bA env B w aK H'->bA env B w (h++aK) (H++H')
 | [],_,_,_,J,U=>by rw[show _=[] from J]; exact U
 | _ :: _,_,_,_,⟨c,H',e,J,U⟩,ag=>⟨c,_,by rw[e]; rfl,J,bA.append U ag⟩
end
section
variable {env env' env'':Nat->Loc} {B:Nat->Prop} {w:World} {ps:ec} {js ks:List Nat}
def sy(js:List Nat):bz->Bool
 | []=>true
 | (k,_) :: r=>!js.elem k&&sy js r
theorem bA.frame(he:∀ j,ks.elem j=false->env' j=env j) (ab:∀ k,js.elem k=false->env' k=env k):∀ {l:bz} {H:List bf},bA env B w l H->∃ H',H'.Sublist H/\bA env' B w (iY js ks l) H'/\(sy js l=true->H'=H)
 | [],_,cg=>⟨[],by rw[show _=[] from cg]; exact List.Sublist.refl _,rfl,fun _=>(show _=[] from cg).symm⟩
 | (k,b) :: l,_,⟨c,H',e,J,U⟩=>by
  obtain⟨H2,an,ag,aq⟩:=bA.frame he ab U;subst e;unfold iY
  split
  ·rename_i h
   exact⟨H2,an.cons _,ag,fun e=>by unfold sy at e; rw[h]at e; cases e⟩
  ·rename_i h
   exact⟨c :: H2,an.cons_cons _,⟨c,H2,rfl,er.kill he (ab k h) J,ag⟩,fun e=>by unfold sy at e; rw[Bool.and_eq_true]at e; rw[aq e.2]⟩
end
def qe(X:bs) (L:cX):List Operand->Option (Bool×List bl)
 | []=>some (true,[])
 | u :: r=>match bp X L u,qe X L r with
  | some (g,x),some (c,l)=>some (g&&c,x :: l)
  | _,_=>none
theorem yE{X:bs} {R:Nat->Prop} {W:World} {aJ:e0} {n:Nat} {ks:List Nat} {env:Nat->Loc} {B:Nat->Prop} {al:World} {H:List bf} {st:aO} {a:Act} {w:World} (h:bH X R W aJ n ks env B al H st a w) :
  ∀ {us:List Operand} {c:Bool} {xs:List bl},qe X st.L us=some (c,xs)->c=true->∃ vs,iE (gm a) us=some vs/\dn env B al xs vs
 | [],c,xs,hu,_=>by cases hu; exact⟨[],rfl,rfl⟩
 | u :: us,c,xs,hu,aa=>by
  simp only[qe]at hu
  split at hu
  ·rename_i g x c' l J U
   cases hu;simp only[Bool.and_eq_true]at aa;obtain⟨v,ag,aq⟩:=h.aD J aa.1;obtain⟨vs,aE,bb⟩:=yE h U aa.2;refine⟨v :: vs,?_,v,vs,rfl,aq,bb⟩;unfold iE;rw[ag,aE]
  ·cases hu
theorem bH.called{X:bs} {R:Nat->Prop} {W:World} {aJ:e0} {n d:Nat} {ks:List Nat} {env:Nat->Loc} {B:Nat->Prop} {al:World} {H:List bf} {st:aO} {a aP:Act} {w w':World} {ps:ec} {h H1:bz} {Q:b3->bz->Prop} {v:Value} (aj:bH X R W aJ n ks env B al H st a w)
  (mw:BQ n ps=true) {fT oq:List bf} (pj:H.Perm (fT++oq)) (BT:bA (fun i=>match bd ps i with | some j=>env j | none=>.no) B al h fT) (VD:bA env B al H1 oq)
  (rh:wq X (fun i=>match bd ps i with | some j=>env j | none=>.no) B fT w Q v w') (aI:cT n (j2 ks aJ) ((d,v) :: gm a) aP) :
  ∃ sv aK,Q sv aK/\∀ nc nJ,sv.dF ps=some nc->tV ps aK=some nJ->∃ env' B' cC H',bH X R W aJ n ks env' B' cC H' ⟨(d,nc) :: rf (ll h ps) st.L,nJ++iY (ll h ps) (ll h ps) H1⟩ aP w'/\(∀ k,B k->B' k)/\c6 (fun k=>R k\/B k) al cC/\(sy (ll h ps) H1=true->∀ c∈oq,c∈H'):=by
 obtain⟨env',B',cC,H',sv,aK,nK,gL,hH,ln,VE,VF,dP,yF⟩:=rh;refine⟨sv,aK,nK,fun nc nJ F9 cg=>?_⟩;simp only[BQ,Bool.and_eq_true]at mw;obtain⟨⟨VG,Ga⟩,VH⟩:=mw;have az:=yC VG;have ih:=yC Ga;have an:bE (fun k=>R k\/B k) al (fT++(oq++ks.map dk)) w:=by
  have:=aj.aM.perm (pj.append_right (ks.map dk))
  rw[List.append_assoc]at this;exact this
 have lX:=List.pairwise_append.1 an.apart;have im:∀ k,R k\/B k->gj w fT k:=fun k ab=>⟨an.base k ab,fun c aa e=>((an.ok c (List.mem_append_left _ aa)).lt e).1 ab⟩
 have Gb:∀ c∈oq++ks.map dk,∀ b,c.has b->gj w fT b/\¬ (R b\/B b):=fun c aa b ae=>by
  have J:=(an.ok c (List.mem_append_right _ aa)).lt ae;exact⟨⟨J.2,fun c' dE e=>lX.2.2 c' dE c aa b e ae⟩,J.1⟩
 have jM:∀ k,gj w fT k->w'.heap[k]?=w.heap[k]?:=fun k ab=>(dP.below.block k (.inl ab)).trans (ln.block k ab)
 have dp:fJ B al B' cC:=⟨gL,fun k ab=>(ln.block k (im k (.inr ab))).trans (an.below.block k (.inr ab))⟩
 let aS:Nat->Loc:=fun j=>match inv ps j with | some i=>env' i | none=>env j
 have lY:∀ i j,bd ps i=some j->aS j=env' i:=fun i j kQ=>by
  show(match inv ps j with | some i=>env' i | none=>env j)=_;rw[M4 ih (wx kQ)]
 have VI:∀ {l:bz} {C:List bf} {tX:Nat->Loc} {bV:Nat->Prop} {yG:World} {i:Nat} {t:TypeId} {cs:List bm},bA tX bV yG l C->bd l i=some (.cells t cs)->∃ b,tX i=.blk b:=by
  intro l C tX bV yG i t cs ah hi;obtain⟨c,K,⟨b,vs,J,_⟩,_⟩:=ah.gz hi;exact⟨b,J⟩
 have VJ:∀ {l:bz} {C:List bf} {tX:Nat->Loc} {bV:Nat->Prop} {yG:World} {i:Nat} {gk aY:aU} {q:List (gk.D×aY.D)} {o:Option (List MapEntry×Nat)},bA tX bV yG l C->bd l i=some (.mp gk aY q o)->∃ b,tX i=.blk b:=by
  intro l C tX bV yG i gk aY q o ah hi;obtain⟨c,K,⟨b,_,_,J,_⟩,_⟩:=ah.gz hi;exact⟨b,J⟩
 have lp:∀ j,(ll h ps).elem j=false->aS j=env j:=fun j aH=>by
  show(match inv ps j with | some i=>env' i | none=>env j)=_;cases hi:inv ps j with
  | none=>rfl
  | some i=>
   have hm:=BS hi;have lS:=F7 hm aH;have kQ:=yD az hm;unfold BO at lS
   split at lS
   ·rename_i ae
    show env' i=env j;exact yF i (env j) (.inr (Nat.le_of_ble_eq_true ae)) (by simp only[kQ])
   ·rename_i t cs ae ah _
    obtain⟨b,hs⟩:=VI BT ah;have J:=yF i (.blk b) (.inl ⟨Nat.le_of_ble_eq_true ae,b,rfl⟩) hs;rw[kQ]at hs;show env' i=env j;rw[J];exact hs.symm
   ·rename_i gk aY q o ae ah _
    obtain⟨b,hs⟩:=VJ BT ah;have J:=yF i (.blk b) (.inl ⟨Nat.le_of_ble_eq_true ae,b,rfl⟩) hs;rw[kQ]at hs;show env' i=env j;rw[J];exact hs.symm
   ·cases lS
 have wy:∀ k,(kx ps).elem k=false->aS k=env k:=fun k ab=>by
  show(match inv ps k with | some i=>env' i | none=>env k)=_;cases hi:inv ps k with
  | none=>rfl
  | some i=>
   have:=BR (BS hi)
   simp only[List.elem_eq_mem,decide_eq_false_iff_not]at ab;exact absurd this ab
 obtain⟨sz,p3,VK,VL⟩:=bA.frame (js:=ll h ps) (ks:=ll h ps) lp lp (VD.up dp);have jN:c6 (fun k=>R k\/B k) al cC:=⟨ln.os.trans an.below.os,ln.tape.trans an.below.tape,ln.output.trans an.below.output,Nat.le_trans an.below.size ln.size,fun k ab=>(ln.block k (im k ab)).trans (an.below.block k ab)⟩
 refine⟨aS,B',cC,H'++sz,⟨aI.size,aI.defs,fun s u hu=>?_,(bA.dF lY cg VF).append VK,?_,fun k ab=>gL k (aj.sub k ab),fun k ab=>?_,fun id b ae=>?_,?_,fun i x ak=>(aj.et i x ak).up dp⟩,gL,jN,fun e c aa=>List.mem_append_right _ (by rw[VL e]; exact aa)⟩
 ·rw[cI]at hu
  split at hu
  ·rename_i e; subst e; cases hu; exact⟨v,aI.this,eH.dF lY F9 VE⟩
  ·rename_i e
   obtain⟨jK,jL,rfl⟩:=F8 hu;obtain⟨fL,ag,aq⟩:=aj.has s jK jL;exact⟨fL,aI.other e ag,eH.kill lp (aq.up dp)⟩
 ·have ri:(sz++ks.map dk).Sublist (oq++ks.map dk):=p3.append_right _
  rw[List.append_assoc];refine⟨⟨dP.below.os,dP.below.tape,dP.below.output,dP.below.size,fun k ab=>dP.below.block k (ab.imp (fun h=>im k (.inl h)) id)⟩,fun k ab=>dP.base k (ab.imp (fun h=>im k (.inl h)) id),fun c aa=>?_,List.pairwise_append.2 ⟨dP.apart,lX.2.1.sublist ri,fun c aa d ax b ae dM=>?_⟩⟩
  ·rcases List.mem_append.1 aa with aa | aa
   ·exact(dP.ok c aa).base fun b ae ab=>((dP.ok c aa).lt ae).1 (ab.imp (fun h=>im b (.inl h)) id)
   ·have dE:=ri.subset aa
    have fU:=an.ok c (List.mem_append_right _ dE);refine(fU.dQ (w':=w') fun b ae=>jM b (Gb c dE b ae).1).base fun b ae ab=>?_
    obtain⟨aE,bb⟩:=Gb c dE b ae
    rcases ab with ab | ab
    ·exact bb (.inl ab)
    ·rcases hH b ab with bX | bX
     ·exact bb (.inr bX)
     ·exact bX.1 aE
  ·exact((dP.ok c aa).lt ae).1 (.inl (Gb d (ri.subset ax) b dM).1)
 ·rcases hH k ab with aE | aE
  ·exact(aj.new k aE).imp_right fun aK=>⟨aK.1,aK.2.dQ ((ln.block k (im k (.inr aE))).trans (an.below.block k (.inr aE)))⟩
  ·exact .inr ⟨fun dT=>aE.1 (im k (.inl dT)),aE.2⟩
 ·obtain⟨aE,bb,dj⟩:=aj.dL id b ae
  refine⟨aE,?_,dj⟩;show(match inv ps id with | some i=>env' i | none=>env id)=_;cases hi:inv ps id with
  | none=>exact bb
  | some i=>
   have hm:=BS hi;have kQ:=yD az hm
   rcases M5 VH hm with bX | ⟨bX,il⟩ | bX
   ·exact yF i b (.inr bX) (by simp only[kQ]; exact bb)
   ·rcases dj with dj | dj
    ·exact yF i b (.inl ⟨bX,dj⟩) (by simp only[kQ]; exact bb)
    ·omega
   ·omega
 ·exact aj.base.trans ⟨ln.os.trans an.below.os,ln.tape.trans an.below.tape,ln.output.trans an.below.output,Nat.le_trans an.below.size ln.size,fun k ab=>(ln.block k (im k (.inl ab))).trans (an.below.block k (.inl ab))⟩
section
variable {X:bs} {M:Bool} {n:Nat} {r:Option Nat} {st:aO} {Q:Exit->aO->Prop} {ops rest:List Oper} {o:Oper} {d:Nat}
end
end
section
def pk:List e4->List bl
 | []=>[]
 | .id i :: r=>.c (.ptr i 0) :: pk r
 | .eT g x :: r=>.c (.fO g x 0) :: pk r
section
variable {X:bs} {M:Bool} {n:Nat} {r:Option Nat} {st:aO} {Q:Exit->aO->Prop} {ops rest:List Oper} {o:Oper} {d:Nat}
theorem BU{env:Nat->Loc} {B:Nat->Prop} {w:World}:∀ {ids:List e4} {vs:List Value},eZ env B w ids vs->dn env B w (pk ids) vs
 | [],_,h=>h
 | .id _ :: ids,_,⟨v,r,e,J,h⟩=>⟨v,r,e,J,BU h⟩
 | .eT _ _ :: ids,_,⟨v,r,e,⟨b,o,J,U⟩,h⟩=>⟨v,r,e,⟨b,o,by rw[J]; rfl,U⟩,BU h⟩
theorem dn.append{env:Nat->Loc} {B:Nat->Prop} {w:World}:∀ {xs ys:List bl} {vs us:List Value},dn env B w xs vs->dn env B w ys us->dn env B w (xs++ys) (vs++us)
 | [],_,_,_,h,aK=>by rw[show _=[] from h]; exact aK
 | _ :: _,_,_,_,⟨v,r,e,J,U⟩,aK=>⟨v,_,by rw[e]; rfl,J,dn.append U aK⟩
theorem VM:∀ L:cX,rf [] L=L:=by
 have J:∀ c:bm,c.kill []=c:=by
  have aN:∀ ids:List e4,pg [] ids=false:=by
   intro ids
   induction ids with
   | nil=>rfl
   | cons i r br=>cases i<;>simp[pg,br]
  intro c;cases c with
  | fn f ids=>simp only[bm.kill,aN]
  | _=>rfl
 have U:∀ cs:List bm,qd [] cs=cs:=by
  intro cs
  induction cs with
  | nil=>rfl
  | cons c r br=>simp only[qd,J,br]
 have ag:∀ x:bl,x.kill []=x:=by
  intro x;cases x with
  | c x=>simp only[bl.kill,J]
  | agg cs=>simp only[bl.kill,U]
  | arr g l=>rfl
 have aq:∀ xs:List bl,tW [] xs=xs:=by
  intro xs
  induction xs with
  | nil=>rfl
  | cons c r br=>simp only[tW,ag,br]
 have aE:∀ x:b3,x.kill []=x:=by
  intro x;cases x with
  | a x=>simp only[b3.kill,ag]
  | may g x=>simp only[b3.kill,ag]
  | c3 xs=>simp only[b3.kill,aq]
 intro L
 induction L with
 | nil=>rfl
 | cons p r br=>obtain⟨k,v⟩:=p; simp only[rf,aE,br]
theorem VN:∀ H:bz,iY [] [] H=H:=by
 have J:∀ c:bm,c.kill []=c:=by
  have aN:∀ ids:List e4,pg [] ids=false:=by
   intro ids
   induction ids with
   | nil=>rfl
   | cons i r br=>cases i<;>simp[pg,br]
  intro c;cases c with
  | fn f ids=>simp only[bm.kill,aN]
  | _=>rfl
 have U:∀ cs:List bm,qd [] cs=cs:=by
  intro cs
  induction cs with
  | nil=>rfl
  | cons c r br=>simp only[qd,J,br]
 intro H
 induction H with
 | nil=>rfl
 | cons p r br=>
  obtain⟨k,b⟩:=p;cases b with
  | cells t cs=>simp[iY,cv.kill,U,br]
  | row t g l c=>simp[iY,cv.kill,br]
  | kn s p=>simp[iY,cv.kill,br]
  | mp gk aY l o=>simp[iY,cv.kill,br]
  | it eU es k ps=>simp[iY,cv.kill,br]
  | hj eU=>simp[iY,cv.kill,br]
  | ko=>simp[iY,cv.kill,br]
  | cM el t g l c i d=>simp[iY,cv.kill,br]
  | kL=>simp[iY,cv.kill,br]
  | gl t g l=>simp[iY,cv.kill,br]
  | b2 t bW g l c h=>rcases h with _ | ⟨i,_ | d⟩<;>simp[iY,cv.kill,br]
end
end
section
section
variable {P:Program} {ops:Array Oper} {Q:Exit->Act->World->Prop} {S:Nat->Array Bool->World->Prop}
def fV(P:Program) (ops:Array Oper) (Q:Exit->Act->World->Prop) (S:Nat->Array Bool->World->Prop):Nat->Array Bool->Act->World->Prop
 | 0,listed,a,w=>Region.ready .any ops listed=[]/\Q .normal a w
 | fuel+1,listed,a,w=>(Region.ready .any ops listed=[]->Q .normal a w)/\∀ i∈Region.ready .any ops listed,∃ o,ops[i]?=some o/\eS P ops o (fun aP w'=>S i listed w'/\fV P ops Q S fuel (listed.setIfInBounds i true) aP w') a w
theorem x6.mono{o:Oper} {a:Act} {w:World} {K yH:Value->World->Prop} (h:x6 P o a w K) (ab:∀ v w,K v w->yH v w):x6 P o a w yH:=by
 rcases h with⟨v,w',J,U⟩ | ⟨w',J,U⟩ | ⟨f,args,b1,J,U⟩
 ·exact .inl ⟨v,w',J,ab _ _ U⟩
 ·exact .inr (.inl ⟨w',J,ab _ _ U⟩)
 ·exact .inr (.inr ⟨f,args,b1,J,Calls.mono U fun e w' ⟨v,he,aC⟩=>⟨v,he,ab _ _ aC⟩⟩)
theorem eS.mono{o:Oper} {a:Act} {w:World} {K yH:Act->World->Prop} (h:eS P ops o K a w) (ab:∀ a w,K a w->yH a w):eS P ops o yH a w:=by
 rcases h with⟨J,U⟩ | ⟨J,U⟩
 ·exact .inl ⟨J,U.mono fun _ _=>ab _ _⟩
 ·exact .inr ⟨J,ab _ _ U⟩
theorem fV.any(r:Option Nat):∀ (fuel:Nat) (listed:Array Bool) (a:Act) (w:World),fV P ops Q S fuel listed a w->wpAnyIn (WF r) 0 P .any ops Q fuel listed a w
 | 0,_,_,_,h=>h
 | fuel+1,_,_,_,h=>⟨h.1,fun i hi=>by
  obtain⟨o,bg,ak⟩:=h.2 i hi;unfold wpOpIn;simp only[bg];exact eS.fenced (ak.mono fun aP w' aK=>fV.any r fuel _ aP w' aK.2)⟩
theorem eS.M6{T:World->Prop} {gC eu:Oper} {v:Value} (kl:gC.apart ops eu=true) (VO:∀ cs b,gC.op≠.select cs b) (sw:∀ cs b,eu.op≠.select cs b) {K:Act->World->Prop} {a:Act} {w:World} (aL:YieldsIf P ops T gC v a) (h:eS P ops eu K (a.put gC.dst v) w) :
  eS P ops eu (fun aP w'=>YieldsIf P ops T gC v aP/\K (aP.put gC.dst v) w') a w:=by
 obtain⟨J,U,ag⟩:=Oper.apart_spec kl;have dQ:∀ u,YieldsIf P ops T gC v (a.put eu.dst u):=fun u=>aL.of_same (execOp_put gC VO a eu.dst u ag) (wanted_put gC a eu.dst u ag)
 have M7:=wanted_put eu a gC.dst v J;have dC:=execOp_put eu sw a gC.dst v J;have BV:∀ u,(a.put eu.dst u).put gC.dst v=(a.put gC.dst v).put eu.dst u:=fun u=>(Act.put_comm a v u U).symm
 rcases h with⟨hw,h⟩ | ⟨hw,h⟩
 ·refine .inl ⟨by rw[<- M7]; exact hw,?_⟩
  unfold x6 at h ⊢;rw[dC]at h
  rcases h with⟨u,w',g1,g2⟩ | ⟨w',g1,g2⟩ | ⟨f,args,b1,g1,g2⟩
  ·exact .inl ⟨u,w',g1,dQ u,by rw[BV]; exact g2⟩
  ·exact .inr (.inl ⟨w',g1,dQ _,by rw[BV]; exact g2⟩)
  ·exact .inr (.inr ⟨f,args,b1,g1,Calls.mono g2 fun e w' ⟨u,he,hu⟩=>⟨u,he,dQ u,by rw[BV]; exact hu⟩⟩)
 ·exact .inr ⟨by rw[<- M7]; exact hw,dQ _,by rw[BV]; exact h⟩
theorem BW{T:World->Prop} {o:Oper} {v:Value} {a:Act} (aL:YieldsIf P ops T o v a) {K:Act->World->Prop} {w:World} (bI:T w) (h:K (a.put o.dst v) w):eS P ops o K a w:=by
 rcases aL with⟨hw,aC⟩ | ⟨hw,rfl⟩
 ·exact .inl ⟨hw,.inl ⟨v,w,aC w bI,h⟩⟩
 ·exact .inr ⟨hw,h⟩
def Gc(ops:Array Oper) (i:Nat) (D:List Nat) (j:Nat):Prop:=∃ eu e,ops[j]?=some eu/\e∈eu.after/\Region.binds .any e=true/\(e.on=i\/e.on∈D)
theorem fV.first{i:Nat} {gC:Oper} {v:Value} {T:World->Prop} (hi:ops[i]?=some gC) (yI:∀ (j:Nat) (o:Oper) cs b,ops[j]?=some o->o.op≠.select cs b) (D:List Nat) (VP:∀ j∈D,Gc ops i D j) (yJ:∀ j l w,S j (l.setIfInBounds i true) w->S j l w):∀ (fuel:Nat) (listed:Array Bool) (a:Act) (w:World),
   (∀ j∈D,listed.getD j true=false)->(∀ j eu,ops[j]?=some eu->j≠i->listed.getD j true=false->(∀ e∈eu.after,Region.binds .any e=true->e.on≠i)->gC.apart ops eu=true/\(j∈D\/∀ l w,(∀ d∈D,l.getD d true=false)->S j l w->T w)) ->
   i∈Region.ready .any ops listed->YieldsIf P ops T gC v a->T w ->
   fV P ops Q S fuel (listed.setIfInBounds i true) (a.put gC.dst v) w->(∀ l w',T w'->S i l w')->fV P ops Q S (fuel+1) listed a w:=by
 intro fuel
 induction fuel with
 | zero=>
  intro listed a w _ _ aw aL bI H BX;refine⟨fun h=>(by rw[h]at aw; cases aw),fun j aH=>?_⟩
  by_cases e5:j=i
  ·subst e5; exact⟨gC,hi,BW aL bI ⟨BX _ w bI,H⟩⟩
  ·have:=ready_mono aH e5
   rw[H.1]at this;cases this
 | succ fuel br=>
  intro listed a w tY lq aw aL bI H BX;refine⟨fun h=>(by rw[h]at aw; cases aw),fun j aH=>?_⟩
  by_cases e5:j=i
  ·subst e5; exact⟨gC,hi,BW aL bI ⟨BX _ w bI,H⟩⟩
  ·obtain⟨Gd,Ge,dt⟩:=H.2 j (ready_mono aH e5)
   obtain⟨kR,eu,hT,lW⟩:=mem_ready.1 aH;have Gf:Gd=eu:=Option.some.inj (Ge.symm.trans hT);rw[Gf]at dt;have BY:∀ e∈eu.after,Region.binds .any e=true->e.on≠i:=fun e he ae heq=>by
    have db:=lW e he ae;have nL:=(mem_ready.1 aw).1;rw[heq]at db
    rcases Nat.lt_or_ge i listed.size with aK | aK
    ·simp[aK]at nL db; rw[nL]at db; cases db
    ·simp[Array.getElem?_eq_none aK]at db
   have M8:j ∉ D:=fun VQ=>by
    obtain⟨ok,e,ab,he,ae,yK⟩:=VP j VQ
    have:ok=eu:=Option.some.inj (ab.symm.trans hT)
    subst this;have db:=lW e he ae
    rcases yK with yK | yK
    ·exact BY e he ae yK
    ·have nL:=tY _ yK
     rcases Nat.lt_or_ge e.on listed.size with aK | aK
     ·simp[aK]at nL db; rw[nL]at db; cases db
     ·simp[Array.getElem?_eq_none aK]at db
   obtain⟨kl,Gg⟩:=lq j eu hT e5 kR BY;have lr:=eS.M6 kl (fun cs b=>yI i gC cs b hi) (fun cs b=>yI j eu cs b hT) aL dt;refine⟨eu,hT,lr.mono fun aP w' aq=>⟨yJ j listed w' aq.2.1,?_⟩⟩;have VR:=(Gg.resolve_left M8) listed w' tY (yJ j listed w' aq.2.1);refine br (listed.setIfInBounds j true) aP w' (fun k ab=>?_) (fun k ok ab pq yL ff=>?_) (ready_mono aw (Ne.symm e5)) aq.1 VR ?_ BX
   ·rw[getD_set_ne true (fun e=>M8 (by rw[e]; exact ab))]
    exact tY k ab
   ·refine lq k ok ab pq ?_ ff
    by_cases yM:j=k
    ·subst yM; exact kR
    ·rw[getD_set_ne true yM]at yL; exact yL
   ·rw[Array.setIfInBounds_comm _ _ e5]
    exact aq.2.2
end
def wz:Op->Bool
 | .move _=>true
 | .assign _=>true
 | .pick _ _ _=>true
 | .unOp _ _ _=>true
 | .binOp _ _ _ _ _=>true
 | .load _ _=>true
 | .fieldAddr _ _ _=>true
 | .indexAddr _ _ _=>true
 | .slice _ _ _ _ _=>true
 | .convert _ _ _=>true
 | .build _ _=>true
 | .makeFunc _ _ _=>true
 | .nilCheck _=>true
 | .extract _ _=>true
 | .call ⟨.builtin .len,_,_⟩=>true
 | .call ⟨.builtin .cap,_,_⟩=>true
 | .call ⟨.builtin .min,_,_⟩=>true
 | .call ⟨.builtin .max,_,_⟩=>true
 | _=>false
def wA(ops:Array Oper) (i:Nat) (D:List Nat) (j:Nat):Bool:=match ops[j]? with
 | some o=>o.after.any fun e=>Region.binds .any e&&(e.on == i || D.elem e.on)
 | none=>false
def yu(ops:Array Oper) (i:Nat):List Nat:=(List.range ops.size).foldl (fun D j=>match wA ops i D j with
 | true=>j :: D
 | false=>D) []
def lZ:Nat:=1000000
def rj(E:List Nat) (listed:Array Bool):Bool:=E.any fun e=>Nat.ble lZ e&&listed.getD (e - lZ) true
def fg(E:List Nat) (listed:Array Bool) (j:Nat):Bool:=E.elem j&&!rj E listed
def BZ(E D:List Nat):Bool:=E.all fun e=>!Nat.ble lZ e || D.elem (e - lZ)
def yN(E:List Nat) (i:Nat):Bool:=!E.elem (i+lZ)
theorem M9{E:List Nat} {l:Array Bool} {j:Nat} (h:fg E l j=true):E.elem j=true:=by
 unfold fg at h;rw[Bool.and_eq_true]at h;exact h.1
theorem Gh{E:List Nat} {l:Array Bool} {i j:Nat} (hi:yN E i=true) (h:fg E l j=true):fg E (l.setIfInBounds i true) j=true:=by
 unfold fg rj at h ⊢;rw[Bool.and_eq_true]at h ⊢;refine⟨h.1,?_⟩;have U:=h.2;rw[Bool.not_eq_true',List.any_eq_false]at U ⊢;intro e he;have ag:=U e he
 by_cases ae:Nat.ble lZ e=true
 ·rw[ae,Bool.true_and]at ag ⊢
  have cr:i≠e - lZ:=fun cg=>by
   have hle:=Nat.le_of_ble_eq_true ae
   have:i+lZ=e:=by omega
   unfold yN at hi;rw[this,List.elem_eq_true_of_mem he]at hi;cases hi
  rwa [getD_set_ne true cr]
 ·rw[(by simpa only[Bool.not_eq_true] using ae:Nat.ble lZ e=false),Bool.false_and]
  simp
theorem VS{E D:List Nat} {l:Array Bool} {j:Nat} (ae:BZ E D=true) (dD:∀ d∈D,l.getD d true=false) (aH:E.elem j=true):fg E l j=true:=by
 unfold fg rj;rw[aH,Bool.true_and,Bool.not_eq_true',List.any_eq_false];intro e he;unfold BZ at ae;rw[List.all_eq_true]at ae;have J:=ae e he;rw[Bool.or_eq_true,Bool.not_eq_true']at J
 rcases J with J | J
 ·rw[J]; simp
 ·rw[dD _ (by simpa using J)]; simp
def yO(ops:Array Oper) (E D:List Nat) (listed:Array Bool) (i:Nat):Bool:=
 (D.all fun j=>!listed.getD j true&&wA ops i D j)&&(List.range ops.size).all (fun j=>j == i || listed.getD j true || E.elem j || D.elem j)&&BZ E D
theorem Na{ops:Array Oper} {i j:Nat} {D:List Nat} (h:wA ops i D j=true):Gc ops i D j:=by
 unfold wA at h
 split at h
 ·rename_i o bg
  simp only[Array.any_eq_true]at h;obtain⟨k,ab,U⟩:=h;simp only[Bool.and_eq_true,Bool.or_eq_true,beq_iff_eq,List.elem_eq_mem,decide_eq_true_eq]at U;exact⟨o,_,bg,Array.getElem_mem ab,U.1,U.2⟩
 ·cases h
def qf(ops:Array Oper) (E:List Nat) (listed:Array Bool) (i:Nat):Bool:=yN E i&&Region.noSelect ops&&Region.free .any ops listed i&&(Region.ready .any ops listed).contains i
def sA(f:Op->Bool) (ops:Array Oper) (i:Nat):Bool:=match ops[i]? with
 | some o=>f o.op
 | none=>false
def B0(ops:Array Oper) (E:List Nat) (listed:Array Bool) (pre:Bool) (i:Nat):Bool:=!E.elem i || (pre&&yO ops E (yu ops i) listed i)
structure hJ where
 listed:Array Bool
 early:Bool
 pre:Bool
 ky:Bool
 all:Bool
def nf:bz->bz
 | []=>[]
 | (k,.cells t cs) :: r=>(k,.cells t cs) :: nf r
 | _ :: r=>nf r
def pr(j5:Bool) (c:bf):Bool:=j5 || iw c
structure lu(R:Nat->Prop) (aG:hJ) (dc:Nat->Prop) (dG:World) (cN:List bf) (F:World->Prop) (B:Nat->Prop) (al:World) (H:List bf):Prop where
 early:aG.early=true->dc=B/\dG=al/\cN=H.filter (pr aG.all)
 pre:aG.pre=true->(∀ c∈cN,c∈H/\pr aG.all c=true)/\cN.Pairwise bf.off/\(∀ k,dc k->B k)/\c6 (fun k=>R k\/dc k) dG al
 de:aG.ky=true->F=fun w=>c6 (fun k=>R k\/B k) al w
 pt:∀ w,c6 (fun k=>R k\/B k) al w->F w
def jq(X:bs) (M:Bool) (n:Nat) (ops:List Oper) (E:List Nat) (fuel:Nat) (aG:hJ) (st:aO) (Q:Exit->aO->Prop):Prop:=
 ∀ (R:Nat->Prop) (W:World) (aJ:e0) (dc:Nat->Prop) (dG:World) (cN:List bf) (F:World->Prop) (ks:List Nat) (env:Nat->Loc) (B:Nat->Prop) (al:World) (H:List bf) (a:Act) (w:World),Fw M ks aJ->bH X R W aJ n ks env B al H st a w->lu R aG dc dG cN F B al H ->
  fV X.P ops.toArray (fun e a w=>e=.normal/\∃ st',Q e st'/\lV X R W aJ M n st' a w) (fun j l w=>(fg E l j=true->bE (fun k=>R k\/dc k) dG cN w)/\F w) fuel aG.listed a w
def qg(X:bs) (M:Bool) (n:Nat) (ops:List Oper) (E:List Nat) (fuel:Nat) (aG:hJ) (st:aO) (Q:Exit->aO->Prop) (i:Nat):Prop:=
 ∀ (R:Nat->Prop) (W:World) (aJ:e0) (dc:Nat->Prop) (dG:World) (cN:List bf) (F:World->Prop) (ks:List Nat) (env:Nat->Loc) (B:Nat->Prop) (al:World) (H:List bf) (a:Act) (w:World),Fw M ks aJ->bH X R W aJ n ks env B al H st a w->lu R aG dc dG cN F B al H ->
  ∃ o,ops.toArray[i]?=some o/\eS X.P ops.toArray o (fun aP w'=>((fg E aG.listed i=true->bE (fun k=>R k\/dc k) dG cN w')/\F w')/\fV X.P ops.toArray (fun e a w=>e=.normal/\∃ st',Q e st'/\lV X R W aJ M n st' a w) (fun j l w=>(fg E l j=true->bE (fun k=>R k\/dc k) dG cN w)/\F w) fuel (aG.listed.setIfInBounds i true) aP w') a w
theorem lu.T{R:Nat->Prop} {aG:hJ} {dc:Nat->Prop} {dG:World} {cN:List bf} {F:World->Prop} {X:bs} {W:World} {aJ:e0} {n:Nat} {ks:List Nat} {env:Nat->Loc} {B:Nat->Prop} {al:World} {H:List bf} {st:aO} {a:Act} {w:World} (dD:lu R aG dc dG cN F B al H) (ao:aG.pre=true) (aj:bH X R W aJ n ks env B al H st a w):bE (fun k=>R k\/dc k) dG cN w:=by
 obtain⟨J,U,ag,aq⟩:=dD.pre ao;have ae:=aj.aM.below;refine⟨aq.trans ⟨ae.os,ae.tape,ae.output,ae.size,fun k ab=>ae.block k (ab.imp id (ag k))⟩,fun k ab=>aj.aM.base k (ab.imp id (ag k)),fun c aa=>?_,U⟩;have fU:=aj.aM.ok c (List.mem_append_left _ (J c aa).1);exact fU.base fun b ae ab=>(fU.lt ae).1 (ab.imp id (ag b))
theorem lu.F{R:Nat->Prop} {aG:hJ} {dc:Nat->Prop} {dG:World} {cN:List bf} {F:World->Prop} {X:bs} {W:World} {aJ:e0} {n:Nat} {ks:List Nat} {env:Nat->Loc} {B:Nat->Prop} {al:World} {H:List bf} {st:aO} {a:Act} {w:World} (dD:lu R aG dc dG cN F B al H) (aj:bH X R W aJ n ks env B al H st a w):F w:=
 dD.pt w ⟨aj.aM.below.os,aj.aM.below.tape,aj.aM.below.output,aj.aM.below.size,aj.aM.below.block⟩
theorem bA.gQ{env:Nat->Loc} {B:Nat->Prop} {w:World}:∀ {l:bz} {H:List bf},bA env B w l H->bA env B w (nf l) (H.filter iw)
 | [],_,h=>by rw[show _=[] from h]; exact rfl
 | (k,.cells t cs) :: r,_,⟨c,H',e,J,U⟩=>by
  subst e;have aa:iw c=true:=by
   obtain⟨b,vs,_,e,_⟩:=J;rw[e]; rfl
  rw[List.filter_cons_of_pos aa];exact⟨c,_,rfl,J,bA.gQ U⟩
 | (k,.row t g l cap) :: r,_,⟨c,H',e,J,U⟩=>by
  subst e;have aa:iw c=false:=J.nF (fun _ _ e=>by cases e);rw[List.filter_cons_of_neg (by rw[aa]; simp)];show bA env B w (nf r) _;exact bA.gQ U
 | (k,.kn s p) :: r,_,⟨c,H',e,J,U⟩=>by
  subst e;have aa:iw c=false:=J.nF (fun _ _ e=>by cases e);rw[List.filter_cons_of_neg (by rw[aa]; simp)];show bA env B w (nf r) _;exact bA.gQ U
 | (k,.mp gk aY l o) :: r,_,⟨c,H',e,J,U⟩=>by
  subst e;have aa:iw c=false:=J.nF (fun _ _ e=>by cases e);rw[List.filter_cons_of_neg (by rw[aa]; simp)];show bA env B w (nf r) _;exact bA.gQ U
 | (k,.it eU es q ps) :: r,_,⟨c,H',e,J,U⟩=>by
  subst e;have aa:iw c=false:=J.nF (fun _ _ e=>by cases e);rw[List.filter_cons_of_neg (by rw[aa]; simp)];show bA env B w (nf r) _;exact bA.gQ U
 | (k,.hj eU) :: r,_,⟨c,H',e,J,U⟩=>by
  subst e;have aa:iw c=false:=J.nF (fun _ _ e=>by cases e);rw[List.filter_cons_of_neg (by rw[aa]; simp)];show bA env B w (nf r) _;exact bA.gQ U
 | (k,.ko) :: r,_,⟨c,H',e,J,U⟩=>by
  subst e;have aa:iw c=false:=J.nF (fun _ _ e=>by cases e);rw[List.filter_cons_of_neg (by rw[aa]; simp)];show bA env B w (nf r) _;exact bA.gQ U
 | (k,.cM el t g l cap i d) :: r,_,⟨c,H',e,J,U⟩=>by
  subst e;have aa:iw c=false:=J.nF (fun _ _ e=>by cases e);rw[List.filter_cons_of_neg (by rw[aa]; simp)];show bA env B w (nf r) _;exact bA.gQ U
 | (k,.kL) :: r,_,⟨c,H',e,J,U⟩=>by
  subst e;have aa:iw c=false:=J.nF (fun _ _ e=>by cases e);rw[List.filter_cons_of_neg (by rw[aa]; simp)];show bA env B w (nf r) _;exact bA.gQ U
 | (k,.gl t g l) :: r,_,⟨c,H',e,J,U⟩=>by
  subst e;have aa:iw c=false:=J.nF (fun _ _ e=>by cases e);rw[List.filter_cons_of_neg (by rw[aa]; simp)];show bA env B w (nf r) _;exact bA.gQ U
 | (k,.b2 t bW g l cap q) :: r,_,⟨c,H',e,J,U⟩=>by
  subst e;have aa:iw c=false:=J.nF (fun _ _ e=>by cases e);rw[List.filter_cons_of_neg (by rw[aa]; simp)];show bA env B w (nf r) _;exact bA.gQ U
section
variable {X:bs} {M:Bool} {n:Nat} {st st':aO} {Q:Exit->aO->Prop} {ops:List Oper} {E:List Nat} {aG wB:hJ} {fuel:Nat}
theorem bH.drew{R:Nat->Prop} {W:World} {aJ:e0} {ks:List Nat} {env:Nat->Loc} {B:Nat->Prop} {al:World} {H:List bf} {a:Act} {w:World} (h:bH X R W aJ n ks env B al H st a w):bH X R W aJ n ks env B al H st a w.drew:=
 ⟨h.size,h.defs,h.has,h.heap,h.aM.drew,h.sub,h.new,h.dL,h.base,h.et⟩
theorem VT{id N:Nat} {r:Option Nat} {j5:Bool} (E:List Nat) (hm:X.P.follows .mixedOrders=true) (a6:ops.length=N) (h:jq X M n ops E N ⟨Array.replicate N false,true,true,true,j5⟩ st Q):lk X M n r (.region id ops.toArray true) st Q:=by
 rintro R W aJ a w ⟨ks,env,B,al,H,bL,aj⟩;have J:=fV.any r _ _ _ _ (h R W aJ B al (H.filter (pr j5)) _ ks env B al H a w.drew bL aj.drew ⟨fun _=>⟨rfl,rfl,rfl⟩,fun _=>⟨fun c aa=>List.mem_filter.1 aa,(List.pairwise_append.1 aj.aM.apart).1.sublist List.filter_sublist,fun _ h=>h,c6.refl _ _⟩,fun _=>rfl,fun _ h=>h⟩);have U:(Code.region id ops.toArray true).wpIn (WF r) 0 X.P (fun e a w=>e=.normal/\∃ st',Q e st'/\lV X R W aJ M n st' a w) a w:=wpIn_region_any hm (by simp only[List.size_toArray,a6]; exact J);refine wpIn_mono U ?_;rintro e a w ⟨rfl,st',ag,aq⟩;exact⟨st',ag,aq⟩
theorem VU(aw:Region.ready .any ops.toArray aG.listed=[]) (h:Q .normal st):jq X M n ops E 0 aG st Q:=fun R W aJ dc dG cN F ks env B al H a w bL aj _=>⟨aw,rfl,st,h,ks,env,B,al,H,bL,aj⟩
theorem lv{i:Nat} {o:Oper} (h:nth ops i=some o):ops.toArray[i]?=some o:=by simpa using FH h
theorem Gi{R:Nat->Prop} {dc:Nat->Prop} {dG:World} {cN:List bf} {F:World->Prop} {wC:Exit->Act->World->Prop} {listed:Array Bool} {fl i:Nat} {o:Oper} {a:Act} {w:World} (sB:Bool) (v:Value) (ot:ops.toArray[i]?=some o) (ae:qf ops.toArray E listed i=true) (gn:E.elem i=true->sB=true) (aw:sB=true->yO ops.toArray E (yu ops.toArray i) listed i=true)
  (aL:YieldsIf X.P ops.toArray (fun w=>(sB=true->bE (fun k=>R k\/dc k) dG cN w)/\F w) o v a) (bI:sB=true->bE (fun k=>R k\/dc k) dG cN w) (hy:F w) (Gj:fV X.P ops.toArray wC (fun j l w=>(fg E l j=true->bE (fun k=>R k\/dc k) dG cN w)/\F w) fl (listed.setIfInBounds i true) (a.put o.dst v) w) :
  fV X.P ops.toArray wC (fun j l w=>(fg E l j=true->bE (fun k=>R k\/dc k) dG cN w)/\F w) (fl+1) listed a w:=by
 simp only[qf,Bool.and_eq_true]at ae;obtain⟨⟨⟨yP,wD⟩,lq⟩,Gk⟩:=ae;have B1:∀ {l:Array Bool} {j:Nat},fg E l j=true->fg E (l.setIfInBounds i true) j=true:=Gh yP;have kz:∀ D,(sB=true->BZ E D=true)->(∀ j∈D,Gc ops.toArray i D j)->(∀ j∈D,listed.getD j true=false)->(∀ j eu,ops.toArray[j]?=some eu->j≠i->listed.getD j true=false->(∀ e∈eu.after,Region.binds .any e=true->e.on≠i)->j∈D\/(sB=true->E.elem j=true))->fV X.P ops.toArray wC (fun j l w=>(fg E l j=true->bE (fun k=>R k\/dc k) dG cN w)/\F w) (fl+1) listed a w:=by
  intro D aN J U ag;refine fV.first (T:=fun w=>(sB=true->bE (fun k=>R k\/dc k) dG cN w)/\F w) ot (Region.noSelect_spec wD) D J (fun j l w aI=>⟨fun he=>aI.1 (B1 he),aI.2⟩) _ _ _ _ U ?_ (by simpa using Gk) aL ⟨bI,hy⟩ Gj (fun l w' hw=>⟨fun he=>hw.1 (gn (M9 he)),hw.2⟩)
  intro j eu hT e5 kR ff;refine⟨Region.free_spec ot lq j eu hT e5 kR ff,?_⟩
  rcases ag j eu hT e5 kR ff with aq | aq
  ·exact .inl aq
  ·exact .inr fun l w tY Nb=>⟨fun cr=>Nb.1 (VS (aN cr) tY (aq cr)),Nb.2⟩
 cases aV:sB with
 | false=>exact kz [] (fun h=>by rw[aV]at h; cases h) (fun _ h=>by cases h) (fun _ h=>by cases h) (fun _ _ _ _ _ _=>.inr fun h=>by rw[aV]at h; cases h)
 | true=>
  have qh:=aw aV;unfold yO at qh;rw[Bool.and_eq_true]at qh;obtain⟨qh,wE⟩:=qh;simp only[Bool.and_eq_true,List.all_eq_true,List.mem_range,Bool.not_eq_true']at qh;obtain⟨hs,ij⟩:=qh;refine kz (yu ops.toArray i) (fun _=>wE) (fun j aH=>Na (hs j aH).2) (fun j aH=>(hs j aH).1) (fun j eu hT e5 kR _=>?_)
  have:=ij j (Array.getElem?_eq_some_iff.1 hT).1
  simp only[Bool.or_eq_true,beq_iff_eq]at this
  rcases this with((J | J) | J) | J
  ·exact absurd J e5
  ·rw[kR]at J; cases J
  ·exact .inr fun _=>J
  ·exact .inl (by simpa using J)
theorem Nc{listed:Array Bool} {pre:Bool} {i:Nat} (h:B0 ops.toArray E listed pre i=true):(E.elem i=true->yO ops.toArray E (yu ops.toArray i) listed i=true)/\(E.elem i=true->pre=true):=by
 simp only[B0,Bool.or_eq_true,Bool.not_eq_true',Bool.and_eq_true]at h
 rcases h with h | h
 ·exact⟨fun e=>(by rw[h]at e; cases e),fun e=>(by rw[h]at e; cases e)⟩
 ·exact⟨fun _=>h.2,fun _=>h.1⟩
theorem lu.kept{R:Nat->Prop} {dc:Nat->Prop} {dG:World} {cN:List bf} {F:World->Prop} {B:Nat->Prop} {al:World} {H H':List bf} (dD:lu R aG dc dG cN F B al H) (ab:aG.pre=true->∀ c∈H,pr aG.all c=true->c∈H') {l:Array Bool}:lu R ⟨l,false,aG.pre,aG.ky,aG.all⟩ dc dG cN F B al H':=
 ⟨fun h=>(by cases h),fun h=>by
  obtain⟨J,U,ag,aq⟩:=dD.pre h;exact⟨fun c aa=>⟨ab h c (J c aa).1 (J c aa).2,(J c aa).2⟩,U,ag,aq⟩,dD.de,dD.pt⟩
theorem lu.lost{R:Nat->Prop} {dc:Nat->Prop} {dG:World} {cN:List bf} {F:World->Prop} {B:Nat->Prop} {al:World} {H H':List bf} (dD:lu R aG dc dG cN F B al H) {l:Array Bool}:lu R ⟨l,false,false,aG.ky,aG.all⟩ dc dG cN F B al H':=
 ⟨fun h=>(by cases h),fun h=>(by cases h),dD.de,dD.pt⟩
theorem Nd(av:X.tt.ok X.P) {i:Nat} {o:Oper} {c:Bool} {l':Array Bool} (hi:nth ops i=some o) (gn:fg E aG.listed i=false) (an:oo X n (e1 ops) st o=.ok c st') (aa:c=true) (ah:aG.listed.setIfInBounds i true=l') (h:jq X M n ops E fuel ⟨l',false,false,aG.ky,aG.all⟩ st' Q):qg X M n ops E fuel aG st Q i:=by
 intro R W aJ dc dG cN F ks env B al H a w bL aj dD;refine⟨o,lv hi,BL av an aa aj fun aP w' env' H' B2 ck=>?_⟩;have gD:=dD.lost (H':=H') (l:=l');rw[ah];exact⟨⟨fun he=>(by rw[gn]at he; cases he),gD.F ck⟩,h R W aJ dc dG cN F ks env' B al H' aP w' bL ck gD⟩
theorem Nf(av:X.tt.ok X.P) {i:Nat} {o:Oper} {c:Bool} {l':Array Bool} (hi:nth ops i=some o) (ab:(aG.pre&&BC o.op&&qa o st.H&&!aG.all)=true) (an:oo X n (e1 ops) st o=.ok c st') (aa:c=true) (ah:aG.listed.setIfInBounds i true=l') (h:jq X M n ops E fuel ⟨l',false,true,aG.ky,aG.all⟩ st' Q):qg X M n ops E fuel aG st Q i:=by
 intro R W aJ dc dG cN F ks env B al H a w bL aj dD;simp only[Bool.and_eq_true]at ab;refine⟨o,lv hi,BL av an aa aj fun aP w' env' H' B2 ck=>?_⟩;have iZ:aG.all=false:=by simpa using ab.2
 have gD:=dD.kept (H':=H') (l:=l') (fun _=>by rw[iZ]; exact B2.dQ ab.1.1.2 ab.1.2);rw[ah];refine⟨⟨fun he=>gD.T ab.1.1.1 ck,gD.F ck⟩,h R W aJ dc dG cN F ks env' B al H' aP w' bL ck ?_⟩;rw[ab.1.1.1]at gD;exact gD
theorem Ng(av:X.tt.ok X.P) {i:Nat} {o:Oper} {c:Bool} {l':Array Bool} (hi:nth ops i=some o) (ab:(aG.pre&&we o.op&&so o st.H)=true) (an:oo X n (e1 ops) st o=.ok c st') (aa:c=true) (ah:aG.listed.setIfInBounds i true=l') (h:jq X M n ops E fuel ⟨l',false,true,aG.ky,aG.all⟩ st' Q):qg X M n ops E fuel aG st Q i:=by
 intro R W aJ dc dG cN F ks env B al H a w bL aj dD;simp only[Bool.and_eq_true]at ab;refine⟨o,lv hi,BL av an aa aj fun aP w' env' H' B2 ck=>?_⟩;have gD:=dD.kept (H':=H') (l:=l') (fun _ c aa _=>B2.all ab.1.2 ab.2 c aa);rw[ah];refine⟨⟨fun he=>gD.T ab.1.1 ck,gD.F ck⟩,h R W aJ dc dG cN F ks env' B al H' aP w' bL ck ?_⟩;rw[ab.1.1]at gD;exact gD
def B3(X:bs) (M:Bool) (n:Nat) (ops:List Oper) (E:List Nat) (fuel:Nat) (aG:hJ) (st:aO) (Q:Exit->aO->Prop) (rs:List Nat):Prop:=∀ i∈rs,qg X M n ops E fuel aG st Q i
theorem Gl:B3 X M n ops E fuel aG st Q []:=fun _ h=>by cases h
theorem wF{i:Nat} {rs:List Nat} (h:qg X M n ops E fuel aG st Q i) (aw:B3 X M n ops E fuel aG st Q rs):B3 X M n ops E fuel aG st Q (i :: rs):=fun j aH=>by
 rcases List.mem_cons.1 aH with rfl | aH
 ·exact h
 ·exact aw j aH
theorem Gm{i:Nat} {rs:List Nat} (aw:Region.ready .any ops.toArray aG.listed=i :: rs) (h:B3 X M n ops E fuel aG st Q (i :: rs)):jq X M n ops E (fuel+1) aG st Q:=by
 intro R W aJ dc dG cN F ks env B al H a w bL aj dD;refine⟨fun aN=>(by rw[aw]at aN; cases aN),fun k ab=>?_⟩;rw[aw]at ab;exact h k ab R W aJ dc dG cN F ks env B al H a w bL aj dD
end
/-! ### A drawn region, yu a call, as at its beginning -/
theorem fV.Gn{P:Program} {ops:Array Oper} {Q:Exit->Act->World->Prop} {S S':Nat->Array Bool->World->Prop} (aI:∀ j l w,S' j l w->S j l w):∀ (fuel:Nat) (listed:Array Bool) (a:Act) (w:World),fV P ops Q S' fuel listed a w->fV P ops Q S fuel listed a w
 | 0,_,_,_,h=>h
 | fuel+1,_,_,_,h=>⟨h.1,fun i hi=>by
  obtain⟨o,bg,ak⟩:=h.2 i hi;exact⟨o,bg,ak.mono fun aP w' aK=>⟨aI _ _ _ aK.1,fV.Gn aI fuel _ aP w' aK.2⟩⟩⟩
theorem VV{X:bs} {M:Bool} {n:Nat} {st:aO} {Q:Exit->aO->Prop} {ops:List Oper} {E:List Nat} {aG:hJ} {fuel:Nat} (gn:(E.isEmpty || aG.pre)=true) (h:jq X M n ops E fuel ⟨aG.listed,true,true,true,aG.all⟩ st Q):jq X M n ops E fuel aG st Q:=by
 intro R W aJ dc dG cN F ks env B al H a w bL aj dD;refine fV.Gn ?_ _ _ _ _ (h R W aJ B al (H.filter (pr aG.all)) (fun w=>c6 (fun k=>R k\/B k) al w) ks env B al H a w bL aj ⟨fun _=>⟨rfl,rfl,rfl⟩,fun _=>⟨fun c aa=>List.mem_filter.1 aa,(List.pairwise_append.1 aj.aM.apart).1.sublist List.filter_sublist,fun _ h=>h,c6.refl _ _⟩,fun _=>rfl,fun _ h=>h⟩);rintro j l w' ⟨J,U⟩;refine⟨fun he=>?_,dD.pt w' U⟩;have ao:aG.pre=true:=by
  cases E with
  | nil=>cases (M9 he)
  | cons e E=>simpa using gn
 obtain⟨h8,hF,qi,Nh⟩:=dD.pre ao;have an:=J he;have ae:=an.below;refine⟨Nh.trans ⟨ae.os,ae.tape,ae.output,ae.size,fun k ab=>ae.block k (ab.imp id (qi k))⟩,fun k ab=>an.base k (ab.imp id (qi k)),fun c aa=>?_,hF⟩;have fU:=an.ok c (List.mem_filter.2 ⟨(h8 c aa).1,(h8 c aa).2⟩);exact fU.base fun b ae ab=>(fU.lt ae).1 (ab.imp id (qi b))
end
section
def sC(id:Nat) (g:aU) (x:g.D):List e4->List e4
 | []=>[]
 | .id i :: r=>match Nat.beq i id with
  | true=>.eT g x :: sC id g x r
  | false=>.id i :: sC id g x r
 | .eT h y :: r=>.eT h y :: sC id g x r
def bm.eC:bm->Nat->(g:aU)->g.D->bm
 | .ptr i o,id,g,x=>match Nat.beq i id with
  | true=>.fO g x o
  | false=>.ptr i o
 | .fn f ids,id,g,x=>.fn f (sC id g x ids)
 | c,_,_,_=>c
def wG(id:Nat) (g:aU) (x:g.D):List bm->List bm
 | []=>[]
 | c :: r=>c.eC id g x :: wG id g x r
def bl.eC:bl->Nat->(g:aU)->g.D->bl
 | .c y,id,g,x=>.c (y.eC id g x)
 | .agg cs,id,g,x=>.agg (wG id g x cs)
 | .arr g l,_,_,_=>.arr g l
def yQ(id:Nat) (g:aU) (x:g.D):List bl->List bl
 | []=>[]
 | c :: r=>c.eC id g x :: yQ id g x r
def b3.eC:b3->Nat->(g:aU)->g.D->b3
 | .a y,id,g,x=>.a (y.eC id g x)
 | .may b y,id,g,x=>.may b (y.eC id g x)
 | .c3 ys,id,g,x=>.c3 (yQ id g x ys)
def tZ(id:Nat) (g:aU) (x:g.D):cX->cX
 | []=>[]
 | (k,v) :: r=>(k,v.eC id g x) :: tZ id g x r
def cv.eC:cv->Nat->(g:aU)->g.D->cv
 | .cells t cs,id,g,x=>.cells t (wG id g x cs)
 | b,_,_,_=>b
def ng(id:Nat) (g:aU) (x:g.D):bz->bz
 | []=>[]
 | (k,b) :: r=>match Nat.beq k id with
  | true=>ng id g x r
  | false=>(k,b.eC id g x) :: ng id g x r
section
variable {env:Nat->Loc} {B:Nat->Prop} {w:World} {id b:Nat} {g:aU} {x:g.D} (he:env id=.blk b) (aX:At B w g x b 0)
include he aX
theorem eZ.eC{cs:List e4}:∀ {vs:List Value},eZ env B w cs vs->eZ env B w (sC id g x cs) vs:=by
 induction cs with
 | nil=>intro vs h; exact h
 | cons c cs br=>
  intro vs h;obtain⟨v,r,e,J,ag⟩:=h;cases c with
  | id i=>
   obtain⟨b',J,U⟩:=J;simp only[sC]
   split
   ·rename_i hi
    have:=Nat.eq_of_beq_eq_true hi
    subst this;rw[he]at J;cases J;exact⟨v,r,e,⟨b,0,U,aX⟩,br ag⟩
   ·exact⟨v,r,e,⟨b',J,U⟩,br ag⟩
  | eT h y=>exact⟨v,r,e,J,br ag⟩
theorem dB.eC:∀ {c:bm} {v:Value},dB env B w c v->dB env B w (c.eC id g x) v
 | .val _,_,aa=>aa
 | .str _,_,aa=>aa
 | .dead,_,aa=>aa
 | .ptr i o,v,aa=>by
  simp only[bm.eC]
  split
  ·rename_i hi
   have:=Nat.eq_of_beq_eq_true hi
   subst this;obtain⟨b',J,U⟩:=aa;rw[he]at J;cases J;exact⟨b,0,by rw[Nat.zero_add]; exact U,aX⟩
  ·exact aa
 | .eG _ _ _ _,_,aa=>aa
 | .fO _ _ _,_,aa=>aa
 | .par _ _,_,aa=>aa
 | .ai _,_,aa=>aa
 | .bk _ _ _,_,aa=>aa
 | .fn _ _,_,⟨vs,J,U⟩=>⟨vs,J,eZ.eC he aX U⟩
 | .b8 _,_,aa=>aa
 | .iH _ _,_,aa=>aa
 | .hG _ _,_,aa=>aa
 | .iI _ _ _,_,aa=>aa
 | .iU _,_,aa=>aa
 | .hQ _ _,_,aa=>aa
theorem cH.eC:∀ {c:List bm} {v:List Value},cH env B w c v->cH env B w (wG id g x c) v
 | [],_,aa=>aa
 | _ :: _,_,⟨v,r,e,J,U⟩=>⟨v,r,e,dB.eC he aX J,cH.eC U⟩
theorem dH.eC:∀ {c:bl} {v:Value},dH env B w c v->dH env B w (c.eC id g x) v
 | .c _,_,aa=>dB.eC he aX aa
 | .agg _,_,⟨vs,e,J⟩=>⟨vs,e,cH.eC he aX J⟩
 | .arr _ _,_,h=>h
theorem dn.eC:∀ {c:List bl} {v:List Value},dn env B w c v->dn env B w (yQ id g x c) v
 | [],_,aa=>aa
 | _ :: _,_,⟨v,r,e,J,U⟩=>⟨v,r,e,dH.eC he aX J,dn.eC U⟩
theorem eH.eC:∀ {c:b3} {v:Value},eH env B w c v->eH env B w (c.eC id g x) v
 | .a _,_,aa=>dH.eC he aX aa
 | .may _ _,_,aa=>⟨fun aQ=>dH.eC he aX (aa.1 aQ),aa.2⟩
 | .c3 _,_,⟨vs,e,J⟩=>⟨vs,e,dn.eC he aX J⟩
theorem er.eC{k:Nat}:∀ {ua:cv} {c:bf},er env B w k ua c->er env B w k (ua.eC id g x) c
 | .cells _ _,_,⟨b',vs,e,aa,J⟩=>⟨b',vs,e,aa,cH.eC he aX J⟩
 | .row _ _ _ _,_,h=>h
 | .kn _ _,_,h=>h
 | .mp _ _ _ _,_,h=>h
 | .it _ _ _ _,_,h=>h
 | .hj _,_,h=>h
 | .ko,_,h=>h
 | .cM _ _ _ _ _ _ _,_,h=>h
 | .kL,_,h=>h
 | .gl _ _ _,_,h=>h
 | .b2 _ _ _ _ _ _,_,h=>h
theorem bA.eC:∀ {l:bz} {H:List bf},bA env B w l H->∃ H',H'.Sublist H/\bA env B w (ng id g x l) H'
 | [],_,cg=>⟨[],by rw[show _=[] from cg]; exact List.Sublist.refl _,rfl⟩
 | (k,ua) :: l,_,⟨c,H',e,J,U⟩=>by
  obtain⟨H2,an,ag⟩:=bA.eC U;subst e;unfold ng
  split
  ·exact⟨H2,an.cons _,ag⟩
  ·exact⟨c :: H2,an.cons_cons _,c,H2,rfl,er.eC he aX J,ag⟩
theorem bA.Ni:∀ {l:bz} {H:List bf} {ua:cv},bA env B w l H->bd l id=some ua->∃ c Y Z H',er env B w id ua c/\H=Y++c :: Z/\H'.Sublist (Y++Z)/\bA env B w (ng id g x l) H'
 | [],_,_,_,h=>by cases h
 | (k,b') :: l,H,ua,⟨c,H',e,J,U⟩,h=>by
  rw[cI]at h;subst e
  split at h
  ·rename_i e
   subst e;cases h;obtain⟨H2,ag,aq⟩:=bA.eC he aX U;refine⟨c,[],H',H2,J,rfl,ag,?_⟩;unfold ng;rw[Nat.beq_refl];exact aq
  ·rename_i e
   obtain⟨c',Y,Z,H2,ag,aq,aE,bb⟩:=bA.Ni U h;have ab:Nat.beq k id=false:=by
    cases ae:Nat.beq k id with
    | false=>rfl
    | true=>exact absurd (Nat.eq_of_beq_eq_true ae).symm e
   refine⟨c',c :: Y,Z,c :: H2,ag,by rw[aq]; rfl,aE.cons_cons _,?_⟩;unfold ng;rw[ab];exact⟨c,H2,rfl,er.eC he aX J,bb⟩
omit he aX in
theorem Gp:∀ {l:cX} {s:Nat} {v:b3},bd (tZ id g x l) s=some v->∃ u,bd l s=some u/\v=u.eC id g x
 | [],_,_,h=>by cases h
 | (k,u) :: l,s,v,h=>by
  unfold tZ at h;rw[cI]at h ⊢
  split at h
  ·rename_i e
   cases h;rw[if_pos e];exact⟨u,rfl,rfl⟩
  ·rename_i e
   rw[if_neg e];exact Gp h
end
section
variable {X:bs} {R:Nat->Prop} {W:World} {aJ:e0} {n:Nat} {ks:List Nat} {env:Nat->Loc} {B:Nat->Prop} {al:World} {H:List bf} {st st':aO} {a:Act} {w:World}
theorem bH.cd(h:bH X R W aJ n ks env B al H st a w) {id:Nat} {t:TypeId} {cs:List bm} {g:aU} {x:g.D} {c:Bool} (b5:bd st.H id=some (.cells t cs)) (mq:dec g cs=some (c,x,[])) (aa:c=true):∃ env' B' cC H',bH X R W aJ n ks env' B' cC H' ⟨tZ id g x st.L,ng id g x st.H⟩ a w:=by
 obtain⟨c0,_,⟨b,vs,he,rfl,h3⟩,ey⟩:=h.heap.gz b5;have dp:fJ B al (fun q=>B q\/q=b) w:=⟨fun q ar=>.inl ar,fun q ar=>h.aM.below.block q (.inr ar)⟩
 obtain⟨v1,v2,aC,kK,lh⟩:=qb (h3.up dp) mq aa;have VW:v2=[]:=lh;subst VW;rw[List.append_nil]at aC;subst aC;have iv:At (fun q=>B q\/q=b) w g x b 0:=⟨.inr rfl,vs,kK,fun j u hu=>by rw[Nat.zero_add,Fl h.aM ey.more]; exact hu⟩
 obtain⟨c,Y,Z,H2,⟨b',pb,cV,rfl,_⟩,U,aq,aE⟩:=bA.Ni he iv (h.heap.up dp) b5;rw[he]at cV;cases cV;have kP:bf.gQ b pb t∈H++ks.map dk:=by rw[U]; simp
 have hH:=(h.aM.ok _ kP).lt (b:=b) rfl;have lX:=h.aM.apart;rw[U,List.append_assoc,List.cons_append]at lX;refine⟨env,_,w,H2,h.size,h.defs,fun s u hu=>?_,aE,?_,fun q ar=>.inl (h.sub q ar),fun q ar=>?_,h.dL,h.base.trans ⟨h.aM.below.os,h.aM.below.tape,h.aM.below.output,h.aM.below.size,fun q ar=>h.aM.below.block q (.inl ar)⟩,fun i x ak=>(h.et i x ak).up dp⟩
 ·obtain⟨jK,jL,rfl⟩:=Gp hu
  obtain⟨fL,bb,bX⟩:=h.has s jK jL;exact⟨fL,bb,eH.eC he iv (bX.up dp)⟩
 ·have an:bE (fun k=>R k\/B k) al (H2++ks.map dk) w:=by
   have bb:=h.aM;rw[U]at bb;have ao:(Y++bf.gQ b pb t :: Z++ks.map dk).Perm (bf.gQ b pb t :: (Y++Z++ks.map dk)):=by
    simp only[List.append_assoc,List.cons_append];exact List.perm_middle
   exact(bb.perm ao).e6 (((aq.append_right _)).cons _)
  refine⟨c6.refl _ _,fun q ar=>?_,fun c aa=>(an.ok c aa).base fun q ae cm=>?_,an.apart⟩
  ·rcases ar with ar | ar | ar
   ·exact h.aM.base q (.inl ar)
   ·exact h.aM.base q (.inr ar)
   ·subst ar; exact hH.2
  ·rcases cm with cm | cm | cm
   ·exact((an.ok c aa).lt ae).1 (.inl cm)
   ·exact((an.ok c aa).lt ae).1 (.inr cm)
   ·subst cm
    have iF:c∈Y++(Z++ks.map dk):=by
     rcases List.mem_append.1 aa with aa | aa
     ·have:=aq.subset aa
      rcases List.mem_append.1 this with bX | bX
      ·exact List.mem_append_left _ bX
      ·exact List.mem_append_right _ (List.mem_append_left _ bX)
     ·exact List.mem_append_right _ (List.mem_append_right _ aa)
    rw[List.pairwise_append,List.pairwise_cons]at lX;obtain⟨_,⟨dj,_⟩,il⟩:=lX
    rcases List.mem_append.1 iF with bX | bX
    ·exact il c bX _ List.mem_cons_self q ae rfl
    ·exact dj c bX q rfl ae
 ·rcases ar with ar | ar
  ·exact(h.new q ar).imp_right fun aK=>⟨aK.1,aK.2.dQ (h.aM.below.block q (.inr ar))⟩
  ·subst ar; exact .inr ⟨fun dT=>hH.1 (.inl dT),(h.aM.ok _ kP).cells rfl rfl⟩
theorem fq.cd(id:Nat) (g:aU) {t:TypeId} {cs:List bm} {x:g.D} {c:Bool} (b5:bd st.H id=some (.cells t cs)) (mq:dec g cs=some (c,x,[])) (aa:c=true):fq X n st ⟨tZ id g x st.L,ng id g x st.H⟩:=fun _ _ _ _ _ _ ⟨ks,env,B,al,H,bL,aj⟩=>by
 obtain⟨env',B',cC,H',h⟩:=aj.cd b5 mq aa;exact⟨ks,env',B',cC,H',bL,h⟩
end
section
variable {X:bs} {M:Bool} {n:Nat} {st:aO} {Q:Exit->aO->Prop} {ops:List Oper} {E:List Nat} {aG:hJ} {L8:Array Bool} {fuel d i:Nat} {o:Oper}
theorem VX{st':aO} (z:Nat) (az:de z st=some st') (h:jq X M n ops E fuel ⟨aG.listed,false,aG.pre&&!aG.all,false,aG.all⟩ st' Q):jq X M n ops E fuel aG st Q:=by
 intro R W aJ dc dG cN F ks env B al H a w bL aj dD;obtain⟨env',B',cC,H',ck,gL,jN,lS⟩:=aj.de az;refine h R W aJ dc dG cN F ks env' B' cC H' a w bL ck ⟨fun h=>(by cases h),fun ao=>?_,fun h=>(by cases h),fun w hw=>dD.pt w (jN.trans ⟨hw.os,hw.tape,hw.output,hw.size,fun k ab=>hw.block k (ab.imp id (gL k))⟩)⟩;have B4:aG.pre=true/\aG.all=false:=by
  have:(aG.pre&&!aG.all)=true:=ao
  simpa using this
 obtain⟨g1,g2,g3,g4⟩:=dD.pre B4.1;exact⟨fun c aa=>⟨lS c (g1 c aa).1 (by have:=(g1 c aa).2; rw[B4.2]at this; exact this),(g1 c aa).2⟩,g2,fun k ab=>gL k (g3 k ab),g4.trans ⟨jN.os,jN.tape,jN.output,jN.size,fun k ab=>jN.block k (ab.imp id (g3 k))⟩⟩
end
end
section
abbrev hK:=Bool->Nat->Option Nat
def qj(bN:hK):List e4->Option (List e4)
 | []=>some []
 | .id i :: r=>match bN true i,qj bN r with
  | some j,some l=>some (.id j :: l)
  | _,_=>none
 | .eT g x :: r=>match qj bN r with
  | some l=>some (.eT g x :: l)
  | none=>none
def bm.cQ:bm->hK->bm
 | .ptr i o,bN=>match bN true i with
  | some j=>.ptr j o
  | none=>.dead
 | .eG i cJ k o,bN=>match bN false i with
  | some j=>.eG j cJ k o
  | none=>.dead
 | .ai i,bN=>match bN false i with
  | some j=>.ai j
  | none=>.dead
 | .fn f ids,bN=>match qj bN ids with
  | some l=>.fn f l
  | none=>.dead
 | .b8 i,bN=>match bN true i with
  | some j=>.b8 j
  | none=>.dead
 | .iH f i,bN=>match bN true i with
  | some j=>.iH f j
  | none=>.dead
 | .hG i o,bN=>match bN false i with
  | some j=>.hG j o
  | none=>.dead
 | .iU i,bN=>match bN false i with
  | some j=>.iU j
  | none=>.dead
 | .iI i s o,bN=>match bN false i with
  | some j=>.iI j s o
  | none=>.dead
 | .hQ b i,bN=>match bN true i with
  | some j=>.hQ b j
  | none=>.dead
 | c,_=>c
def sD(bN:hK):List bm->List bm
 | []=>[]
 | c :: r=>c.cQ bN :: sD bN r
def bl.cQ:bl->hK->bl
 | .c x,bN=>.c (x.cQ bN)
 | .agg cs,bN=>.agg (sD bN cs)
 | .arr g l,_=>.arr g l
def ub(bN:hK):List bl->List bl
 | []=>[]
 | c :: r=>c.cQ bN :: ub bN r
def b3.cQ:b3->hK->b3
 | .a x,bN=>.a (x.cQ bN)
 | .may g x,bN=>.may g (x.cQ bN)
 | .c3 xs,bN=>.c3 (ub bN xs)
def fC(bN:hK):cX->cX
 | []=>[]
 | (k,v) :: r=>(k,v.cQ bN) :: fC bN r
def cv.cQ:cv->hK->cv
 | .cells t cs,bN=>.cells t (sD bN cs)
 | .it eU es k ps,bN=>match bN true eU with
  | some j=>.it j es k ps
  | none=>.ko
 | .hj eU,bN=>match bN true eU with
  | some j=>.hj j
  | none=>.ko
 | .cM el t g l c i d,bN=>match bN false d with
  | some j=>.cM el t g l c i j
  | none=>.kL
 | .b2 t bW g l c (some (i,some d)),bN=>match bN false d with
  | some j=>.b2 t bW g l c (some (i,some j))
  | none=>.b2 t bW g l c (some (i,none))
 | b,_=>b
def cv.ou:cv->Bool
 | .row _ _ _ _=>false
 | .cM _ _ _ _ _ _ _=>false
 | .kL=>false
 | .gl _ _ _=>false
 | .b2 _ _ _ _ _ _=>false
 | _=>true
def nM(bN:hK):bz->bz
 | []=>[]
 | (k,b) :: r=>match bN b.ou k with
  | some j=>(j,b.cQ bN) :: nM bN r
  | none=>nM bN r
structure Gq(bN:hK) (env env':Nat->Loc):Prop where
 blk:∀ k j b,bN true k=some j->env k=.blk b->env' j=.blk b
 row:∀ k j A c n,bN false k=some j->env k=.row A c n->env' j=.row A c n
section
variable {bN:hK} {env env':Nat->Loc} {B:Nat->Prop} {w:World} (he:Gq bN env env')
include he
theorem eZ.cQ:∀ {ids l:List e4} {vs:List Value},qj bN ids=some l->eZ env B w ids vs->eZ env' B w l vs
 | [],l,vs,h,aC=>by cases h; exact aC
 | .id i :: ids,l,vs,h,⟨v,r,e,⟨b,U,aq⟩,ag⟩=>by
  simp only[qj]at h
  split at h
  ·rename_i j r hi aw
   cases h;exact⟨v,_,e,⟨b,he.blk i j b hi U,aq⟩,eZ.cQ aw ag⟩
  ·cases h
 | .eT g x :: ids,l,vs,h,⟨v,r,e,U,ag⟩=>by
  simp only[qj]at h
  split at h
  ·rename_i r aw
   cases h;exact⟨v,_,e,U,eZ.cQ aw ag⟩
  ·cases h
theorem dB.cQ:∀ {c:bm} {v:Value},dB env B w c v->dB env' B w (c.cQ bN) v
 | .val _,_,aa=>aa
 | .str _,_,aa=>aa
 | .dead,_,aa=>aa
 | .ptr i o,v,aa=>by
  simp only[bm.cQ]
  split
  ·rename_i j h
   obtain⟨b,e,aC⟩:=aa;exact⟨b,he.blk i j b h e,aC⟩
  ·trivial
 | .eG i cJ j o,v,aa=>by
  simp only[bm.cQ]
  split
  ·rename_i j h
   obtain⟨b,c,n,e,aC⟩:=aa;exact⟨b,c,n,he.row i j _ _ _ h e,aC⟩
  ·trivial
 | .hQ b i,v,aa=>by
  simp only[bm.cQ]
  split
  ·rename_i j h
   obtain⟨k,e,aC⟩:=aa;exact⟨k,fun ae=>he.blk i j k h (e ae),aC⟩
  ·trivial
 | .iU i,v,aa=>by
  simp only[bm.cQ]
  split
  ·rename_i j h
   obtain⟨b,c,n,e,aC⟩:=aa;exact⟨b,c,n,he.row i j _ _ _ h e,aC⟩
  ·trivial
 | .iI i s o,v,aa=>by
  simp only[bm.cQ]
  split
  ·rename_i j h
   obtain⟨b,c,n,e,aC⟩:=aa;exact⟨b,c,n,he.row i j _ _ _ h e,aC⟩
  ·trivial
 | .hG i o,v,aa=>by
  simp only[bm.cQ]
  split
  ·rename_i j h
   obtain⟨b,c,n,e,aC⟩:=aa;exact⟨b,c,n,he.row i j _ _ _ h e,aC⟩
  ·trivial
 | .fO _ _ _,_,aa=>aa
 | .par _ _,_,aa=>aa
 | .ai i,v,aa=>by
  simp only[bm.cQ]
  split
  ·rename_i j h
   obtain⟨A,c,n,e,aC⟩:=aa;exact⟨A,c,n,he.row i j _ _ _ h e,aC⟩
  ·trivial
 | .bk _ _ _,_,aa=>aa
 | .fn f ids,v,aa=>by
  simp only[bm.cQ]
  split
  ·rename_i l h
   obtain⟨vs,aC,ao⟩:=aa;exact⟨vs,aC,eZ.cQ he h ao⟩
  ·trivial
 | .b8 i,v,aa=>by
  simp only[bm.cQ]
  split
  ·rename_i j h
   obtain⟨b,e,aC⟩:=aa;exact⟨b,he.blk i j b h e,aC⟩
  ·trivial
 | .iH f i,v,aa=>by
  simp only[bm.cQ]
  split
  ·rename_i j h
   obtain⟨b,e,aC⟩:=aa;exact⟨b,he.blk i j b h e,aC⟩
  ·trivial
theorem cH.cQ:∀ {c:List bm} {v:List Value},cH env B w c v->cH env' B w (sD bN c) v
 | [],_,aa=>aa
 | _ :: _,_,⟨v,r,e,J,U⟩=>⟨v,r,e,dB.cQ he J,cH.cQ U⟩
theorem dH.cQ:∀ {c:bl} {v:Value},dH env B w c v->dH env' B w (c.cQ bN) v
 | .c _,_,aa=>dB.cQ he aa
 | .agg _,_,⟨vs,e,J⟩=>⟨vs,e,cH.cQ he J⟩
 | .arr _ _,_,h=>h
theorem dn.cQ:∀ {c:List bl} {v:List Value},dn env B w c v->dn env' B w (ub bN c) v
 | [],_,aa=>aa
 | _ :: _,_,⟨v,r,e,J,U⟩=>⟨v,r,e,dH.cQ he J,dn.cQ U⟩
theorem eH.cQ:∀ {c:b3} {v:Value},eH env B w c v->eH env' B w (c.cQ bN) v
 | .a _,_,aa=>dH.cQ he aa
 | .may _ _,_,aa=>⟨fun aQ=>dH.cQ he (aa.1 aQ),aa.2⟩
 | .c3 _,_,⟨vs,e,J⟩=>⟨vs,e,dn.cQ he J⟩
theorem er.cQ{k j:Nat}:∀ {b:cv} {c:bf},bN b.ou k=some j->er env B w k b c->er env' B w j (b.cQ bN) c
 | .cells _ _,_,h,⟨b,vs,e,aa,J⟩=>⟨b,vs,he.blk k j b h e,aa,cH.cQ he J⟩
 | .row _ _ _ _,_,h,⟨A,c,xs,e,aa,J⟩=>⟨A,c,xs,he.row k j _ _ _ h e,aa,J⟩
 | .kn _ _,_,h,⟨b,e,aa⟩=>⟨b,he.blk k j b h e,aa⟩
 | .mp _ _ _ _,_,h,⟨b,es,q,e,aa⟩=>⟨b,es,q,he.blk k j b h e,aa⟩
 | .it eU _ _ _,_,h,⟨b,m,e,hm,aa⟩=>by
  simp only[cv.cQ]
  split
  ·rename_i iV aH
   exact⟨b,m,he.blk k j b h e,he.blk eU iV m aH hm,aa⟩
  ·exact⟨b,_,he.blk k j b h e,aa⟩
 | .hj eU,_,h,⟨b,m,q,e,hm,aa⟩=>by
  simp only[cv.cQ]
  split
  ·rename_i iV aH
   exact⟨b,m,q,he.blk k j b h e,he.blk eU iV m aH hm,aa⟩
  ·exact⟨b,_,he.blk k j b h e,aa⟩
 | .ko,_,h,⟨b,o,e,aa⟩=>⟨b,o,he.blk k j b h e,aa⟩
 | .cM el t g l cap i d,_,h,⟨A,c,ys,bP,c',m,e,aa,J,hi,U,ag⟩=>by
  simp only[cv.cQ]
  split
  ·rename_i iV aH
   exact⟨A,c,ys,bP,c',m,he.row k j _ _ _ h e,aa,J,hi,he.row d iV _ _ _ aH U,ag⟩
  ·exact⟨A,c,_,_,_,_,_,he.row k j _ _ _ h e,aa⟩
 | .kL,_,h,⟨A,c,n,t,s,m,xs,e,aa⟩=>⟨A,c,n,t,s,m,xs,he.row k j _ _ _ h e,aa⟩
 | .gl _ _ _,_,h,⟨A,c,e,J⟩=>⟨A,c,he.row k j _ _ _ h e,J⟩
 | .b2 _ _ _ _ _ none,_,h,⟨A,q,ys,c4,I,e,aa,J,U,ag⟩=>⟨A,q,ys,c4,I,he.row k j _ _ _ h e,aa,J,U,ag⟩
 | .b2 _ _ _ _ _ (some (i,none)),_,h,⟨A,q,ys,c4,I,e,aa,J,⟨U,v,aq,_⟩,ag⟩=>⟨A,q,ys,c4,I,he.row k j _ _ _ h e,aa,J,⟨U,v,aq,fun _ h=>by cases h⟩,ag⟩
 | .b2 _ _ _ _ _ (some (i,some d)),_,h,⟨A,q,ys,c4,I,e,aa,J,⟨U,v,aq,aE⟩,ag⟩=>by
  simp only[cv.cQ]
  split
  ·rename_i iV aH
   obtain⟨bP,c',m,bb,bX⟩:=aE d rfl;exact⟨A,q,ys,c4,I,he.row k j _ _ _ h e,aa,J,⟨U,v,aq,fun c5 ax=>by cases ax; exact⟨bP,c',m,he.row d iV _ _ _ aH bb,bX⟩⟩,ag⟩
  ·exact⟨A,q,ys,c4,I,he.row k j _ _ _ h e,aa,J,⟨U,v,aq,fun _ h=>by cases h⟩,ag⟩
theorem bA.cQ:∀ {l:bz} {H:List bf},bA env B w l H->∃ H',H'.Sublist H/\bA env' B w (nM bN l) H'
 | [],_,cg=>⟨[],by rw[show _=[] from cg]; exact List.Sublist.refl _,rfl⟩
 | (k,b) :: l,_,⟨c,H',e,J,U⟩=>by
  obtain⟨H2,an,ag⟩:=bA.cQ U;subst e;unfold nM
  split
  ·rename_i j h
   exact⟨c :: H2,an.cons_cons _,c,H2,rfl,er.cQ he h J,ag⟩
  ·exact⟨H2,an.cons _,ag⟩
omit he in
theorem ud:∀ {l:cX} {s:Nat} {v:b3},bd (fC bN l) s=some v->∃ u,bd l s=some u/\v=u.cQ bN
 | [],_,_,h=>by cases h
 | (k,u) :: l,s,v,h=>by
  unfold fC at h;rw[cI]at h ⊢
  split at h
  ·rename_i e
   cases h;rw[if_pos e];exact⟨u,rfl,rfl⟩
  ·rename_i e
   rw[if_neg e];exact ud h
end
def jr(i j:Nat):hK:=fun _ k=>match Nat.beq k i with
 | true=>some j
 | false=>match Nat.beq k j with
  | true=>none
  | false=>some k
theorem B5{i j:Nat} {env:Nat->Loc}:Gq (jr i j) env (kr env j (env i)):=by
 have key:∀ b k k',jr i j b k=some k'->kr env j (env i) k'=env k:=by
  intro b k k' h;unfold jr at h
  split at h
  ·rename_i ae
   cases h
   have:=Nat.eq_of_beq_eq_true ae
   subst this;exact fp
  ·split at h
   ·cases h
   ·rename_i ae
    cases h;exact jJ _ (fun e=>by subst e; rw[Nat.beq_refl]at ae; cases ae)
 exact⟨fun k iV b h e=>by rw[key _ _ _ h]; exact e,fun k iV A c n h e=>by rw[key _ _ _ h]; exact e⟩
end
section
def gE(n:Nat):hK:=fun b k=>match b with
 | true=>match Nat.ble n k with
  | true=>some k
  | false=>none
 | false=>match Nat.ble h5 k with
  | true=>some k
  | false=>none
theorem Nj{n:Nat} {env env':Nat->Loc} (h:∀ id l,n<=id->env id=l->((∃ b,l=.blk b)\/h5<=id)->env' id=l) (aV:n<=h5):Gq (gE n) env env':=by
 refine⟨fun k j b ab e=>?_,fun k j A c m ab e=>?_⟩
 ·simp only[gE]at ab
  split at ab
  ·rename_i ae
   cases ab;exact h _ _ (Nat.le_of_ble_eq_true ae) e (.inl ⟨b,rfl⟩)
  ·cases ab
 ·simp only[gE]at ab
  split at ab
  ·rename_i ae
   cases ab
   have:=Nat.le_of_ble_eq_true ae
   exact h _ _ (Nat.le_trans aV this) e (.inr this)
  ·cases ab
def rk:List e4->Bool
 | []=>true
 | .id _ :: _=>false
 | .eT _ _ :: r=>rk r
section
variable {env env':Nat->Loc} {B:Nat->Prop} {w:World}
theorem eZ.Gr:∀ {cs:List e4} {vs:List Value},rk cs=true->eZ env B w cs vs->eZ env' B w cs vs
 | [],_,_,h=>h
 | .id _ :: _,_,h,_=>by cases h
 | .eT _ _ :: _,_,h,⟨v,r,e,J,U⟩=>⟨v,r,e,J,eZ.Gr (by simpa [rk] using h) U⟩
theorem eZ.any:∀ {cs:List e4} {vs:List Value},eZ (fun _=>.no) B w cs vs->eZ env B w cs vs
 | [],_,h=>h
 | .id _ :: _,_,⟨v,r,e,⟨b,J,_⟩,U⟩=>by cases J
 | .eT _ _ :: _,_,⟨v,r,e,J,U⟩=>⟨v,r,e,J,eZ.any U⟩
theorem dB.any:∀ {c:bm} {v:Value},dB (fun _=>.no) B w c v->dB env B w c v
 | .val _,_,aa=>aa
 | .str _,_,aa=>aa
 | .dead,_,aa=>aa
 | .ptr _ _,_,⟨b,h,_⟩=>by cases h
 | .eG _ _ _ _,_,⟨_,_,_,h,_⟩=>by cases h
 | .fO _ _ _,_,aa=>aa
 | .par _ _,_,aa=>aa
 | .ai _,_,⟨_,_,_,h,_⟩=>by cases h
 | .bk _ _ _,_,aa=>aa
 | .fn _ _,_,⟨vs,J,U⟩=>⟨vs,J,eZ.any U⟩
 | .b8 _,_,⟨_,h,_⟩=>by cases h
 | .iH _ _,_,⟨_,h,_⟩=>by cases h
 | .hG _ _,_,⟨_,_,_,h,_⟩=>by cases h
 | .iI _ _ _,_,⟨_,_,_,h,_⟩=>by cases h
 | .iU _,_,⟨_,_,_,h,_⟩=>by cases h
 | .hQ true _,_,⟨_,h,_⟩=>by cases h rfl
 | .hQ false _,_,⟨k,_,h⟩=>⟨k,fun h=>(by cases h),h⟩
theorem cH.any:∀ {c:List bm} {v:List Value},cH (fun _=>.no) B w c v->cH env B w c v
 | [],_,aa=>aa
 | _ :: _,_,⟨v,r,e,J,U⟩=>⟨v,r,e,J.any,U.any⟩
theorem dH.any:∀ {c:bl} {v:Value},dH (fun _=>.no) B w c v->dH env B w c v
 | .c _,_,aa=>dB.any aa
 | .agg _,_,⟨vs,e,J⟩=>⟨vs,e,J.any⟩
 | .arr _ _,_,h=>h
theorem dn.any:∀ {c:List bl} {v:List Value},dn (fun _=>.no) B w c v->dn env B w c v
 | [],_,aa=>aa
 | _ :: _,_,⟨v,r,e,J,U⟩=>⟨v,r,e,J.any,U.any⟩
end
/-! ### Slots: parameters and moves -/
structure Has(n:Nat) (env:Nat->Loc) (B:Nat->Prop) (w:World) (L:cX) (tmps:Array Value):Prop where
 size:tmps.size=n
 has:∀ s sv,bd L s=some sv->∃ v,tmps[s]?=some v/\eH env B w sv v
def sE:List Nat->List bl->cX->cX
 | p :: ps,x :: xs,L=>sE ps xs ((p,.a x) :: L)
 | _,_,L=>L
def rl:List (Nat×Nat)->cX->cX
 | [],L=>L
 | (d,s) :: r,L=>match bd L s with
  | some v=>rl r ((d,v) :: L)
  | none=>rl r ((d,.a (.c .dead)) :: L)
def rm:List (Nat×Nat)->Array Value->Array Value
 | [],t=>t
 | (d,s) :: r,t=>rm r (t.setIfInBounds d (t.getD s undef))
def l0(n:Nat):List Nat->Bool
 | []=>true
 | p :: r=>Nat.blt p n&&l0 n r
section
variable {n:Nat} {env:Nat->Loc} {B:Nat->Prop} {w:World} {L:cX} {tmps:Array Value}
theorem Has.set(h:Has n env B w L tmps) {d:Nat} (ax:d < n) {sv:b3} {v:Value} (aC:eH env B w sv v):Has n env B w ((d,sv) :: L) (tmps.setIfInBounds d v):=by
 refine⟨by simpa using h.size,fun s u hu=>?_⟩;rw[cI]at hu
 split at hu
 ·rename_i e
  subst e;cases hu;exact⟨v,by rw[Array.getElem?_setIfInBounds_self_of_lt (by rw[h.size]; exact ax)],aC⟩
 ·rename_i e
  obtain⟨fL,J,U⟩:=h.has s u hu;exact⟨fL,by rw[Array.getElem?_setIfInBounds_ne (fun cj=>e cj.symm)]; exact J,U⟩
theorem Has.par:∀ {ps:List Nat} {xs:List bl} {vs:List Value} {L:cX} {tmps:Array Value},Has n env B w L tmps->l0 n ps=true->dn env B w xs vs->Has n env B w (sE ps xs L) ((ps.zip vs).foldl (fun t (p,v)=>t.setIfInBounds p v) tmps)
 | [],_,_,_,_,h,_,_=>by cases ‹List bl›<;>exact h
 | _ :: _,[],_,_,_,h,_,ak=>by rw[show _=[] from ak]; exact h
 | p :: ps,x :: xs,_,L,tmps,h,ao,⟨v,r,e,J,U⟩=>by
  subst e;simp only[l0,Bool.and_eq_true]at ao;exact Has.par (ps:=ps) (xs:=xs) (vs:=r) (L:=(p,.a x) :: L) (tmps:=tmps.setIfInBounds p v) (h.set (dY ao.1) (sv:=.a x) J) ao.2 U
theorem Has.cP:∀ {ms:List (Nat×Nat)} {L:cX} {tmps:Array Value},Has n env B w L tmps->l0 n (ms.map (·.1))=true->Has n env B w (rl ms L) (rm ms tmps)
 | [],_,_,h,_=>h
 | (d,s) :: r,L,tmps,h,ao=>by
  simp only[List.map_cons,l0,Bool.and_eq_true]at ao;unfold rl rm
  split
  ·rename_i v aC
   obtain⟨u,J,U⟩:=h.has s v aC;refine Has.cP (h.set (dY ao.1) ?_) ao.2;rw[Array.getD_eq_getD_getElem?,J];exact U
  ·exact Has.cP (h.set (dY ao.1) trivial) ao.2
end
def wH(n:Nat):List Oper->Option (List (Nat×Nat))
 | []=>some []
 | o :: r=>match o.guard,o.dst,o.op,wH n r with
  | none,some d,.assign (.tmp s),some l=>some ((d,s) :: l)
  | none,some d,.move (.tmp s),some l=>some ((d,s) :: l)
  | _,_,_,_=>none
inductive lx (n:Nat):Code->List (Nat×Nat)->Prop where
 | region {id:Nat} {ops:List Oper} {ms:List (Nat×Nat)} (h:wH n ops=some ms):lx n (.region id ops.toArray false) ms
 | skip:lx n .skip []
 | seq {a b:Code} {m1 m2:List (Nat×Nat)} (J:lx n a m1) (U:lx n b m2):lx n (.seq a b) (m1++m2)
theorem Nk:∀ (a b:List (Nat×Nat)) (t:Array Value),rm (a++b) t=rm b (rm a t)
 | [],_,_=>rfl
 | (d,s) :: a,b,t=>Nk a b (t.setIfInBounds d (t.getD s undef))
theorem Nl{P:Program} {n l:Nat} {ops:Array Oper} {Q:Exit->Act->World->Prop} {w:World}:∀ {os:List Oper} {ms:List (Nat×Nat)} {a:Act},wH n os=some ms->Q .normal { a with tmps:=rm ms a.tmps } w->se (some l) P ops Q os a w
 | [],ms,a,h,ar=>by cases h; exact LW ar
 | o :: os,ms,a,h,ar=>by
  have key:∀ d s,o.guard=none->o.dst=some d->(o.op=.assign (.tmp s)\/o.op=.move (.tmp s))->∀ l',wH n os=some l'->ms=(d,s) :: l'->se (some l) P ops Q (o :: os) a w:=by
   intro d s aQ ax aA l' ah mv;subst mv;refine LV (.inl ⟨by simp[Region.wanted,aQ],.inl ⟨a.eval (.tmp s),w,?_,Nl ah ?_⟩⟩)
   ·rcases aA with aA | aA<;>simp[execOp,aA]
   ·rw[ax]
    exact ar
  unfold wH at h
  split at h
  ·rename_i d s l' aQ ax aA ah
   cases h;exact key d s aQ ax (.inl aA) l' ah rfl
  ·rename_i d s l' aQ ax aA ah
   cases h;exact key d s aQ ax (.inr aA) l' ah rfl
  ·cases h
theorem lx.ok{P:Program} {n l:Nat} {c:Code} {ms:List (Nat×Nat)} {w:World} (h:lx n c ms):∀ {Q:Exit->Act->World->Prop} {a:Act},Q .normal { a with tmps:=rm ms a.tmps } w->kJ (some l) P c Q a w:=by
 induction h with
 | region h=>exact fun ar=>L6 (Nl h ar)
 | skip=>exact fun ar=>L7 ar
 | seq J U Gs Gt=>exact fun ar=>T2 fun K bQ=>Gs (bQ _ _ (Gt (by rw[Nk]at ar; exact ar)))
end
section
def Nn:Exit->Option Code
 | .ret=>some .ret
 | .exit id=>some (.exit id)
 | _=>none
def B6:Exit->Bool
 | .normal=>true
 | .ret=>true
 | .exit _=>true
 | _=>false
section
variable {X:bs} {R:Nat->Prop} {W:World} {aJ:e0} {n:Nat} {ks:List Nat} {env:Nat->Loc} {B:Nat->Prop} {al:World} {H:List bf} {st:aO} {a:Act} {w:World}
def mA(n:Nat) (env:Nat->Loc):Nat->Loc->Prop:=fun id l=>n<=id/\env id=l/\((∃ b,l=.blk b)\/h5<=id)
theorem bH.No(h:bH X R W aJ n ks env B al H st a w):bH X (fun k=>R k\/B k) w ⟨B,mA n env,aJ.d⟩ n ks env B w H st a w:=by
 have dp:fJ B al B w:=⟨fun _ h=>h,fun k ab=>h.aM.below.block k (.inr ab)⟩
 refine⟨h.size,h.defs,fun s sv an=>?_,h.heap.up dp,?_,fun _ h=>h,fun _ h=>.inl h,fun _ _ h=>h,c6.refl _ _,fun i x ak=>(h.et i x ak).up dp⟩
 ·obtain⟨v,J,U⟩:=h.has s sv an
  exact⟨v,J,U.up dp⟩
 ·exact⟨c6.refl _ _,fun k ab=>h.aM.base k (ab.elim (fun h=>h) .inr),fun c aa=>(h.aM.ok c aa).base fun b ae ab=>((h.aM.ok c aa).lt ae).1 (ab.elim (fun h=>h) .inr),h.aM.apart⟩
theorem bH.VY{env':Nat->Loc} {B':Nat->Prop} {cC:World} {H':List bf} {st':aO} {aP:Act} {w':World} {Np:List Nat} (h:bH X R W aJ n ks env B al H st a w) (aK:bH X (fun k=>R k\/B k) w ⟨B,mA n env,aJ.d⟩ n Np env' B' cC H' st' aP w'):bH X R W aJ n Np env' B' cC H' st' aP w':=by
 refine⟨aK.size,aK.defs,aK.has,aK.heap,?_,fun k ab=>aK.sub k (h.sub k ab),fun k ab=>?_,fun id l ao=>?_,?_,aK.et⟩
 ·exact⟨⟨aK.aM.below.os,aK.aM.below.tape,aK.aM.below.output,aK.aM.below.size,fun k ab=>aK.aM.below.block k (ab.imp .inl id)⟩,fun k ab=>aK.aM.base k (ab.imp .inl id),fun c aa=>(aK.aM.ok c aa).base fun b ae ab=>((aK.aM.ok c aa).lt ae).1 (ab.imp .inl id),aK.aM.apart⟩
 ·have jN:∀ q,B q->cC.heap[q]?=al.heap[q]?:=fun q ar=>(aK.base.block q (.inr ar)).trans (h.aM.below.block q (.inr ar))
  rcases aK.new k ab with J | J
  ·exact(h.new k J).imp_right fun U=>⟨U.1,U.2.dQ (jN k J)⟩
  ·exact .inr ⟨fun dT=>J.1 (.inl dT),J.2⟩
 ·obtain⟨J,U,ag⟩:=h.dL id l ao
  exact⟨J,(aK.dL id l ⟨J,U,ag⟩).2.1,ag⟩
 ·exact h.base.trans ⟨h.aM.below.os.symm ▸ aK.base.os,h.aM.below.tape ▸ aK.base.tape,h.aM.below.output ▸ aK.base.output,Nat.le_trans h.aM.below.size aK.base.size,fun k ab=>(aK.base.block k (.inl ab)).trans (h.aM.below.block k (.inl ab))⟩
theorem bH.round(h:bH X R W aJ n ks env B al H st a w) {L':cX} {t:Array Value} (dV:Has n env B w L' t):bH X (gj w H) w ⟨B,mA n env,[]⟩ n [] env B w H ⟨L',st.H⟩ { tmps:=t,defers:=[] } w:=by
 have dp:fJ B al B w:=⟨fun _ h=>h,fun k ab=>h.aM.below.block k (.inr ab)⟩
 have an:bE (fun k=>R k\/B k) al H w:=h.aM.e6 (List.sublist_append_left _ _);refine⟨dV.size,rfl,dV.has,h.heap.up dp,?_,fun _ h=>h,fun _ h=>.inl h,fun _ _ h=>h,c6.refl _ _,fun i x ak=>(h.et i x ak).up dp⟩;have J:=an.rest;simp only[List.map_nil,List.append_nil];exact⟨c6.refl _ _,fun k ab=>ab.elim (fun h=>h.1) (fun h=>an.base k (.inr h)),fun c aa=>(J.ok c aa).base fun b ae ab=>ab.elim (fun h=>((J.ok c aa).lt ae).1 h) (fun h=>((an.ok c aa).lt ae).1 (.inr h)),J.apart⟩
theorem bH.VZ{env':Nat->Loc} {B':Nat->Prop} {cC:World} {H':List bf} {st':aO} {aP:Act} {w':World} (h:bH X R W aJ n ks env B al H st a w) (aK:bH X (gj w H) w ⟨B,mA n env,[]⟩ n [] env' B' cC H' st' aP w') {L:cX} (dV:∀ s sv,bd L s=some sv->∃ v,a.tmps[s]?=some v/\eH env' B' cC sv v):bH X R W aJ n ks env' B' cC H' ⟨L,st'.H⟩ a w':=by
 have an:bE (fun k=>R k\/B k) al H w:=h.aM.e6 (List.sublist_append_left _ _);have im:∀ k,R k\/B k->gj w H k:=fun k ab=>⟨an.base k ab,fun c aa e=>((an.ok c aa).lt e).1 ab⟩
 have dp:fJ B al B' cC:=⟨aK.sub,fun k ab=>(aK.base.block k (im k (.inr ab))).trans (h.aM.below.block k (.inr ab))⟩
 have dP:=aK.aM;simp only[List.map_nil,List.append_nil]at dP;have az:bE (gj w H) w H' w':=⟨aK.base.trans ⟨dP.below.os,dP.below.tape,dP.below.output,dP.below.size,fun k ab=>dP.below.block k (.inl ab)⟩,fun k ab=>dP.base k (.inl ab),fun c aa=>(dP.ok c aa).base fun b ae ab=>((dP.ok c aa).lt ae).1 (.inl ab),dP.apart⟩
 have kK:=h.aM.frame az;have lX:=List.pairwise_append.1 h.aM.apart;refine⟨h.size,h.defs,dV,aK.heap,⟨⟨dP.below.os,dP.below.tape,dP.below.output,dP.below.size,fun k ab=>dP.below.block k (ab.imp (fun h=>im k (.inl h)) id)⟩,fun k ab=>dP.base k (ab.imp (fun h=>im k (.inl h)) id),fun c aa=>(kK.ok c aa).base fun b ae ab=>?_,kK.apart⟩,fun k ab=>aK.sub k (h.sub k ab),fun k ab=>?_,fun id l ao=>?_,?_,fun i x ak=>(h.et i x ak).up dp⟩
 ·rcases ab with ab | ab
  ·exact((kK.ok c aa).lt ae).1 (.inl ab)
  ·rcases List.mem_append.1 aa with dE | dE
   ·exact((dP.ok c dE).lt ae).1 (.inr ab)
   ·rcases aK.new b ab with J | J
    ·exact((kK.ok c aa).lt ae).1 (.inr J)
    ·exact J.1 ⟨((h.aM.ok c (List.mem_append_right _ dE)).lt ae).2,fun c' V0 e=>lX.2.2 c' V0 c dE b e ae⟩
 ·rcases aK.new k ab with J | J
  ·exact(h.new k J).imp_right fun U=>⟨U.1,U.2.dQ (dp.2 k J)⟩
  ·exact .inr ⟨fun dT=>J.1 (im k (.inl dT)),J.2⟩
 ·obtain⟨J,U,ag⟩:=h.dL id l ao
  exact⟨J,(aK.dL id l ⟨J,U,ag⟩).2.1,ag⟩
 ·exact h.base.trans ⟨aK.base.os.trans h.aM.below.os,aK.base.tape.trans h.aM.below.tape,aK.base.output.trans h.aM.below.output,Nat.le_trans h.aM.below.size aK.base.size,fun k ab=>(aK.base.block k (im k (.inl ab))).trans (h.aM.below.block k (.inl ab))⟩
end
end
section
section
variable {X:bs} {R:Nat->Prop} {W:World} {aJ:e0} {n:Nat} {ks:List Nat} {B:Nat->Prop} {al:World} {r:Option Nat} {ops:List Oper} {Q:Exit->Act->World->Prop}
end
section
variable {X:bs} {B:Nat->Prop} {n:Nat} {L L':cX} {b1:World} {a:Act} {w:World} {Q:Exit->Act->World->Prop}
theorem Nq{D:List Deferred} {M:List (Nat×Value)} (aI:cT n D M a) {us:List Operand} {vs:List Value} (h:iE M us=some vs):us.toArray.map a.eval=vs.toArray:=by
 have:=aI.iE h
 simp[this]
end
end
section
def wI(id:Nat):Nat->List bm->List bm
 | 0,.val (.slice none 0 0) :: r=>.ai id :: r
 | p+1,c :: r=>c :: wI id p r
 | _,cs=>cs
def jt(k p id:Nat):bz->bz
 | []=>[]
 | (j,.cells t cs) :: r=>match Nat.beq j k with
  | true=>(j,.cells t (wI id p cs)) :: r
  | false=>(j,.cells t cs) :: jt k p id r
 | b :: r=>b :: jt k p id r
section
variable {env:Nat->Loc} {B:Nat->Prop} {w:World} {id:Nat} (he:env id=.row none 0 0)
include he
theorem cH.wI:∀ {p:Nat} {cs:List bm} {vs:List Value},cH env B w cs vs->cH env B w (wI id p cs) vs:=by
 intro p
 induction p with
 | zero=>
  intro cs vs h;unfold Go.Proofs.YtcheedjfedcbpaaGreatDoor.wI
  split
  ·obtain⟨v,r,e,J,U⟩:=h
   exact⟨v,r,e,⟨none,0,0,he,J⟩,U⟩
  ·omega
  ·exact h
 | succ p br=>
  intro cs vs h;cases cs with
  | nil=>exact h
  | cons c r=>
   obtain⟨v,q,e,J,U⟩:=h;exact⟨v,q,e,J,br U⟩
theorem bA.jt{k p:Nat}:∀ {l:bz} {H:List bf},bA env B w l H->bA env B w (jt k p id l) H
 | [],_,h=>h
 | (j,.cells t cs) :: r,_,⟨c,H',e,J,U⟩=>by
  unfold Go.Proofs.YtcheedjfedcbpaaGreatDoor.jt
  split
  ·obtain⟨b,vs,ag,aq,aE⟩:=J
   exact⟨c,H',e,⟨b,vs,ag,aq,cH.wI he aE⟩,U⟩
  ·exact⟨c,H',e,J,bA.jt U⟩
 | (j,.row _ _ _ _) :: r,_,⟨c,H',e,J,U⟩=>⟨c,H',e,J,bA.jt U⟩
 | (j,.kn _ _) :: r,_,⟨c,H',e,J,U⟩=>⟨c,H',e,J,bA.jt U⟩
 | (j,.mp _ _ _ _) :: r,_,⟨c,H',e,J,U⟩=>⟨c,H',e,J,bA.jt U⟩
 | (j,.it _ _ _ _) :: r,_,⟨c,H',e,J,U⟩=>⟨c,H',e,J,bA.jt U⟩
 | (j,.hj _) :: r,_,⟨c,H',e,J,U⟩=>⟨c,H',e,J,bA.jt U⟩
 | (j,.ko) :: r,_,⟨c,H',e,J,U⟩=>⟨c,H',e,J,bA.jt U⟩
 | (j,.cM _ _ _ _ _ _ _) :: r,_,⟨c,H',e,J,U⟩=>⟨c,H',e,J,bA.jt U⟩
 | (j,.kL) :: r,_,⟨c,H',e,J,U⟩=>⟨c,H',e,J,bA.jt U⟩
 | (j,.gl _ _ _) :: r,_,⟨c,H',e,J,U⟩=>⟨c,H',e,J,bA.jt U⟩
 | (j,.b2 _ _ _ _ _ _) :: r,_,⟨c,H',e,J,U⟩=>⟨c,H',e,J,bA.jt U⟩
end
theorem fq.sF{X:bs} {n:Nat} {st:aO} (k p id:Nat) (t:TypeId) (g:aU) (hid:Nat.blt id n=true):fq X n st ⟨fK id .dead st.L,(id,.row t g [] none) :: jt k p id (ef id .dead st.H)⟩:=fun R W aJ M a w ⟨ks,env,B,al,H,bL,h⟩=>by
 obtain⟨H2,J,U⟩:=h.heap.del (z:=.dead) (jJ (env:=env) (id:=id) (l:=.row none 0 0)) (fun _ _=>trivial);refine⟨ks,kr env id (.row none 0 0),B,al,.row none 0 t g.size 0 [] :: H2,bL,h.size,h.defs,fun q u hu=>?_,⟨_,H2,rfl,⟨none,0,[],fp,rfl,rfl,fun _ ar=>by cases ar⟩,bA.jt fp U⟩,(h.aM.sg t g.size).e6 ((J.append_right _).cons_cons _),h.sub,h.new,tR h.dL (fun q ao=>by have J:=(h.dL _ _ ao).1; have U:=dY hid; omega),h.base,h.et⟩;obtain⟨jK,jL,rfl⟩:=pc hu;obtain⟨fL,bb,bX⟩:=h.has q jK jL;exact⟨fL,bb,eH.sub (z:=.dead) jJ (fun _ _=>trivial) bX⟩
end
theorem AC.Nr{X:bs} {f:FuncId} {args:List bl} {sv:b3} {v0:Value} (gM:∀ env B w,eH env B w sv v0)
  (dT:∀ (env:Nat->Loc) (B:Nat->Prop) (al:World) (vs:List Value) (W:World),wo X B W->dn env B W args vs->(∀ k,B k->k < W.heap.size)->o4 X.P f vs.toArray W (fun v w'=>v=v0/\Below W.heap.size W w')):AC X f args [] (fun s h=>s=sv/\h=[]):=by
 intro B al env vs H W aQ aX cg an;have e:H=[]:=cg;subst e;have dp:fJ B al B W:=⟨fun _ h=>h,an.below.block⟩
 refine(dT env B al vs W (fun i x ak=>(aQ i x ak).up dp) (aX.up dp) an.base).mono ?_;rintro v w' ⟨rfl,ae⟩;refine⟨env,B,W,[],sv,[],⟨rfl,rfl⟩,fun _ h=>h,fun _ h=>.inl h,c6.refl _ _,gM _ _ _,rfl,⟨⟨ae.os,ae.tape,ae.output,ae.size,fun k ab=>ae.block k (ab.elim (fun h=>h.1) (an.base k))⟩,fun k ab=>Nat.lt_of_lt_of_le (ab.elim (fun h=>h.1) (an.base k)) ae.size,(fun _ h=>by cases h),List.Pairwise.nil⟩,fun _ _ _ h=>h⟩
theorem V1{env:Nat->Loc} {B:Nat->Prop} {w:World} {g:aU} {v:Value} (h:dH env B w (.c (.val (.slice none 0 0))) v):dH env B w (.c (.bk g [] (some 0))) v:=by
 have e:v=_:=h;subst e;exact⟨none,0,[],rfl,Nat.le_refl _,Nat.zero_le _,fun _ h=>by cases h; rfl,rfl,Reads.nil _ _ _,fun _ _ h=>absurd h (Nat.lt_irrefl 0)⟩
theorem Ns{B:Nat->Prop} {w:World} {k:IntKind}:∀ {l:List Int} {vs:List Value},Flat (bF B w (.int k)) l vs->vs=l.map fun z=>Value.int k z
 | [],_,h=>h
 | x :: l,_,⟨v1,v2,e,J,U⟩=>by rw[e,show v1=_ from J,Ns U]; rfl
theorem Nt{B:Nat->Prop} {w:World}:∀ {l:List (List UInt8)} {vs:List Value},Flat (bF B w .str) l vs->vs=l.map fc
 | [],_,h=>h
 | x :: l,_,⟨v1,v2,e,J,U⟩=>by rw[e,show v1=_ from J,Nt U]; rfl
theorem sl.V3{P:Program} {B:Nat->Prop} {w:World} {i:Nat} {k:IntKind} {zs:List Int} (h:sl B w i ⟨.int k,zs⟩) {name:String} (aV:P.globalNamed name=some i):Lib.TabIs P w name k zs:=by
 obtain⟨⟨b,o,vs,e,ae,az,aa⟩,cs,t,dz,J,U⟩:=h;cases e;have yq:=Ns az;unfold Lib.TabIs World.var?;rw[aV];simp only[Option.bind_some,J,Option.some.injEq];have ah:cs.size=vs.length:=by rw[U,yq]; simp[aU.size]
 rw[<- yq]
 apply Array.ext (by simpa using ah)
 intro j Gu V4;have aH:j < vs.length:=by simpa using V4
 have:=aa j vs[j] (List.getElem?_eq_getElem aH)
 simp only[Nat.zero_add,World.cell?,J]at this;rw[Array.getElem?_eq_getElem Gu]at this
 simpa using this
def hk(d:TypeDesc)(s b:Nat)(z:Value)(g:Option aU):bh:=⟨⟨d,s,b,z⟩,g⟩
def kA(k:IntKind)(b:Nat):bh:=hk (.int k) 1 b (.int k 0) (some (.int k))
def cR(a r:Array TypeId)(v:Bool):bh:=hk (.func a r v) 1 8 .nilFunc none
def wJ(t:TypeId):bh:=hk (.pointer t) 1 8 (.pointer none) none
def jO(t:TypeId)(g:Option aU):bh:=hk (.slice t) 1 24 (.slice none 0 0) g
def cA(n:String)(t:TypeId)(o b:Nat):Field:=⟨n,t,o,false,"","",b⟩
def h9(f:Array Field)(s b:Nat)(g:aU):bh:=hk (.struct f) s b (.agg g.ek.toArray) (some g)
theorem cD{P:Program} {t:TypeId} {d:TypeDesc} {s b:Nat} {z:Value} (h:P.underlying t=some d) (U:(P.info? t).map (fun x=>(x.size,x.bytes,x.zero))=some (s,b,some z)):bh.ok P t (hk d s b z none):=⟨⟨h,U⟩,fun g aQ=>by cases aQ⟩
theorem c7{P:Program} {t:TypeId} {d:TypeDesc} {s b:Nat} {z:Value} {g:aU} (h:P.underlying t=some d) (U:(P.info? t).map (fun x=>(x.size,x.bytes,x.zero))=some (s,b,some z)) (ag:g.size=s) (aq:z.cells.toList=g.ek) (aE:Nat.blt 0 s=true):bh.ok P t (hk d s b z (some g)):=⟨⟨h,U⟩,fun g' aQ=>by cases aQ;exact⟨ag,aq,ag ▸ dY aE⟩⟩
def V5:bh:=cR #[] #[] false
def V6:bh:=kA .i64 8
def V7:bh:=kA .i64 8
def V8:bh:=hk (.bool) 1 1 (.bool false) (some (.bool))
def V9:bh:=kA .u8 1
def Wa:bh:=kA .u8 1
def Wb:bh:=hk (.string) 1 16 (.string { data:=#[] }) (some (.str))
def Wc:bh:=hk (.string) 1 16 (.string { data:=#[] }) (some (.str))
def Wd:bh:=hk (.string) 1 16 (.string { data:=#[] }) (some (.str))
def We:bh:=kA .u64 8
def Wf:bh:=wJ 320
def Wg:bh:=wJ 331
def Wh:bh:=hk (.interface #[]) 1 16 (.nilIface) none
def Wi:bh:=kA .i32 4
def Wj:bh:=jO 84 (some (.ai (.pair (.int .u8) (.pair (.int .u8) (.int .u8)))))
def Wk:bh:=jO 84 (some (.ai (.pair (.int .u8) (.pair (.int .u8) (.int .u8)))))
def Wl:bh:=jO 3 (some (.ai (.int .i64)))
def Wm:bh:=cR #[4] #[24,24,24] false
def Wn:bh:=jO 34 (some (.ai (.ai (.pair (.int .u8) (.int .i64)))))
def Wo:bh:=h9 #[cA "Front" 27 0 0,cA "Back" 27 1 24] 2 48 (.pair (.ai (.ai (.pair (.int .u8) (.int .i64)))) (.ai (.ai (.pair (.int .u8) (.int .i64)))))
def Wp:bh:=h9 #[cA "Front" 27 0 0,cA "Back" 27 1 24] 2 48 (.pair (.ai (.ai (.pair (.int .u8) (.int .i64)))) (.ai (.ai (.pair (.int .u8) (.int .i64)))))
def Wq:bh:=jO 73 (some (.ai (.pair (.bool) (.pair (.int .i64) (.pair (.int .i64) (.pair (.bool) (.ai (.pair (.pair (.int .u8) (.int .i64)) (.pair (.bool) (.int .u8))))))))))
def Wr:bh:=jO 118 (some (.ai (.ai (.pair (.int .u8) (.pair (.bool) (.pair (.ai (.pair (.int .u8) (.int .i64))) (.ai (.pair (.pair (.int .u8) (.int .i64)) (.pair (.bool) (.int .u8))))))))))
def Ws:bh:=jO 118 (some (.ai (.ai (.pair (.int .u8) (.pair (.bool) (.pair (.ai (.pair (.int .u8) (.int .i64))) (.ai (.pair (.pair (.int .u8) (.int .i64)) (.pair (.bool) (.int .u8))))))))))
def Wt:bh:=jO 124 (some (.ai (.pair (.pair (.int .u8) (.int .i64)) (.pair (.pair (.int .u8) (.int .i64)) (.int .i64)))))
def Wu:bh:=jO 102 (some (.ai (.pair (.int .u8) (.int .i64))))
def Wv:bh:=h9 #[cA "Yarns" 32 0 0,cA "Crossings" 33 1 24,cA "Held" 34 2 48,cA "Fallen" 34 3 72] 4 96 (.pair (.ai (.ai (.pair (.int .u8) (.pair (.bool) (.pair (.ai (.pair (.int .u8) (.int .i64))) (.ai (.pair (.pair (.int .u8) (.int .i64)) (.pair (.bool) (.int .u8))))))))) (.pair (.ai (.pair (.pair (.int .u8) (.int .i64)) (.pair (.pair (.int .u8) (.int .i64)) (.int .i64)))) (.pair (.ai (.pair (.int .u8) (.int .i64))) (.ai (.pair (.int .u8) (.int .i64))))))
def Ww:bh:=h9 #[cA "Yarns" 32 0 0,cA "Crossings" 33 1 24,cA "Held" 34 2 48,cA "Fallen" 34 3 72] 4 96 (.pair (.ai (.ai (.pair (.int .u8) (.pair (.bool) (.pair (.ai (.pair (.int .u8) (.int .i64))) (.ai (.pair (.pair (.int .u8) (.int .i64)) (.pair (.bool) (.int .u8))))))))) (.pair (.ai (.pair (.pair (.int .u8) (.int .i64)) (.pair (.pair (.int .u8) (.int .i64)) (.int .i64)))) (.pair (.ai (.pair (.int .u8) (.int .i64))) (.ai (.pair (.int .u8) (.int .i64))))))
def Wx:bh:=h9 #[cA "Rack" 3 0 0,cA "Beds" 29 1 8,cA "Yarns" 30 3 56,cA "Fabric" 36 4 80] 8 176 (.pair (.int .i64) (.pair (.pair (.ai (.ai (.pair (.int .u8) (.int .i64)))) (.ai (.ai (.pair (.int .u8) (.int .i64))))) (.pair (.ai (.pair (.bool) (.pair (.int .i64) (.pair (.int .i64) (.pair (.bool) (.ai (.pair (.pair (.int .u8) (.int .i64)) (.pair (.bool) (.int .u8))))))))) (.pair (.ai (.ai (.pair (.int .u8) (.pair (.bool) (.pair (.ai (.pair (.int .u8) (.int .i64))) (.ai (.pair (.pair (.int .u8) (.int .i64)) (.pair (.bool) (.int .u8))))))))) (.pair (.ai (.pair (.pair (.int .u8) (.int .i64)) (.pair (.pair (.int .u8) (.int .i64)) (.int .i64)))) (.pair (.ai (.pair (.int .u8) (.int .i64))) (.ai (.pair (.int .u8) (.int .i64)))))))))
def Wy:bh:=h9 #[cA "Rack" 3 0 0,cA "Beds" 29 1 8,cA "Yarns" 30 3 56,cA "Fabric" 36 4 80] 8 176 (.pair (.int .i64) (.pair (.pair (.ai (.ai (.pair (.int .u8) (.int .i64)))) (.ai (.ai (.pair (.int .u8) (.int .i64))))) (.pair (.ai (.pair (.bool) (.pair (.int .i64) (.pair (.int .i64) (.pair (.bool) (.ai (.pair (.pair (.int .u8) (.int .i64)) (.pair (.bool) (.int .u8))))))))) (.pair (.ai (.ai (.pair (.int .u8) (.pair (.bool) (.pair (.ai (.pair (.int .u8) (.int .i64))) (.ai (.pair (.pair (.int .u8) (.int .i64)) (.pair (.bool) (.int .u8))))))))) (.pair (.ai (.pair (.pair (.int .u8) (.int .i64)) (.pair (.pair (.int .u8) (.int .i64)) (.int .i64)))) (.pair (.ai (.pair (.int .u8) (.int .i64))) (.ai (.pair (.int .u8) (.int .i64)))))))))
def Wz:bh:=cR #[24,24] #[38] false
def WA:bh:=jO 57 (some (.ai (.pair (.int .u8) (.pair (.int .u8) (.pair (.pair (.int .u8) (.int .i64)) (.pair (.int .u8) (.int .i64)))))))
def WB:bh:=kA .i64 8
def WC:bh:=cR #[24,24] #[40,41] false
def WD:bh:=cR #[29,50] #[34] false
def WE:bh:=kA .u8 1
def WG:bh:=h9 #[cA "Bed" 48 0 0,cA "At" 3 1 8] 2 16 (.pair (.int .u8) (.int .i64))
def WH:bh:=cR #[] #[4] false
def WI:bh:=jO 50 (some (.ai (.pair (.int .u8) (.int .i64))))
def WJ:bh:=kA .u8 1
def WK:bh:=kA .u8 1
def WL:bh:=h9 #[cA "Kind" 54 0 0,cA "Dir" 55 1 1,cA "Needle" 50 2 8,cA "Yarn" 5 4 24,cA "Rack" 3 5 32] 6 40 (.pair (.int .u8) (.pair (.int .u8) (.pair (.pair (.int .u8) (.int .i64)) (.pair (.int .u8) (.int .i64)))))
def WM:bh:=h9 #[cA "Kind" 54 0 0,cA "Dir" 55 1 1,cA "Needle" 50 2 8,cA "Yarn" 5 4 24,cA "Rack" 3 5 32] 6 40 (.pair (.int .u8) (.pair (.int .u8) (.pair (.pair (.int .u8) (.int .i64)) (.pair (.int .u8) (.int .i64)))))
def WN:bh:=cR #[53] #[40,41] false
def WO:bh:=cR #[36,36] #[4] false
def WQ:bh:=cR #[23] #[24] false
def WR:bh:=cR #[5,24] #[40,41] false
def WS:bh:=cR #[] #[38] false
def WT:bh:=jO 137 (some (.ai (.pair (.int .u8) (.ai (.pair (.int .u8) (.int .i64))))))
def WU:bh:=h9 #[cA "Slots" 65 0 0,cA "Yarns" 30 1 24,cA "Fabric" 36 2 48,cA "Dir" 55 6 144] 7 152 (.pair (.ai (.pair (.int .u8) (.ai (.pair (.int .u8) (.int .i64))))) (.pair (.ai (.pair (.bool) (.pair (.int .i64) (.pair (.int .i64) (.pair (.bool) (.ai (.pair (.pair (.int .u8) (.int .i64)) (.pair (.bool) (.int .u8))))))))) (.pair (.pair (.ai (.ai (.pair (.int .u8) (.pair (.bool) (.pair (.ai (.pair (.int .u8) (.int .i64))) (.ai (.pair (.pair (.int .u8) (.int .i64)) (.pair (.bool) (.int .u8))))))))) (.pair (.ai (.pair (.pair (.int .u8) (.int .i64)) (.pair (.pair (.int .u8) (.int .i64)) (.int .i64)))) (.pair (.ai (.pair (.int .u8) (.int .i64))) (.ai (.pair (.int .u8) (.int .i64)))))) (.int .u8))))
def WV:bh:=h9 #[cA "Slots" 65 0 0,cA "Yarns" 30 1 24,cA "Fabric" 36 2 48,cA "Dir" 55 6 144] 7 152 (.pair (.ai (.pair (.int .u8) (.ai (.pair (.int .u8) (.int .i64))))) (.pair (.ai (.pair (.bool) (.pair (.int .i64) (.pair (.int .i64) (.pair (.bool) (.ai (.pair (.pair (.int .u8) (.int .i64)) (.pair (.bool) (.int .u8))))))))) (.pair (.pair (.ai (.ai (.pair (.int .u8) (.pair (.bool) (.pair (.ai (.pair (.int .u8) (.int .i64))) (.ai (.pair (.pair (.int .u8) (.int .i64)) (.pair (.bool) (.int .u8))))))))) (.pair (.ai (.pair (.pair (.int .u8) (.int .i64)) (.pair (.pair (.int .u8) (.int .i64)) (.int .i64)))) (.pair (.ai (.pair (.int .u8) (.int .i64))) (.ai (.pair (.int .u8) (.int .i64)))))) (.int .u8))))
def WW:bh:=cR #[5,3] #[67,41] false
def WX:bh:=cR #[73,73] #[4] false
def WY:bh:=jO 116 (some (.ai (.pair (.pair (.int .u8) (.int .i64)) (.pair (.bool) (.int .u8)))))
def WZ:bh:=h9 #[cA "In" 4 0 0,cA "Place" 3 1 8,cA "Count" 3 2 16,cA "New" 4 3 24,cA "Pending" 71 4 32] 5 56 (.pair (.bool) (.pair (.int .i64) (.pair (.int .i64) (.pair (.bool) (.ai (.pair (.pair (.int .u8) (.int .i64)) (.pair (.bool) (.int .u8))))))))
def W0:bh:=h9 #[cA "In" 4 0 0,cA "Place" 3 1 8,cA "Count" 3 2 16,cA "New" 4 3 24,cA "Pending" 71 4 32] 5 56 (.pair (.bool) (.pair (.int .i64) (.pair (.int .i64) (.pair (.bool) (.ai (.pair (.pair (.int .u8) (.int .i64)) (.pair (.bool) (.int .u8))))))))
def W1:bh:=cR #[50,3] #[3] false
def W2:bh:=hk (.array 2 5) 2 2 (.agg #[.int .u8 0,.int .u8 0]) (some (.pair (.int .u8) (.int .u8)))
def W3:bh:=cR #[73,3,71] #[73,41] false
def W4:bh:=cR #[38,24] #[67] false
def W5:bh:=cR #[67,5] #[36,41] false
def W6:bh:=hk (.array 3 5) 3 3 (.agg #[.int .u8 0,.int .u8 0,.int .u8 0]) (some (.pair (.int .u8) (.pair (.int .u8) (.int .u8))))
def W7:bh:=cR #[24] #[41] false
def W8:bh:=hk (.struct #[{ name := "ops",type := 40,offset := 0,embedded := false,tag := "",pkgPath := "gansey/shifts",byteOffset := 0 },{ name := "rack",type := 3,offset := 1,embedded := false,tag := "",pkgPath := "gansey/shifts",byteOffset := 24 }]) 2 32 (.agg #[.slice none 0 0,.int .i64 0]) (some (.pair (.ai (.pair (.int .u8) (.pair (.int .u8) (.pair (.pair (.int .u8) (.int .i64)) (.pair (.int .u8) (.int .i64)))))) (.int .i64)))
def W9:bh:=hk (.struct #[{ name := "ops",type := 40,offset := 0,embedded := false,tag := "",pkgPath := "gansey/shifts",byteOffset := 0 },{ name := "rack",type := 3,offset := 1,embedded := false,tag := "",pkgPath := "gansey/shifts",byteOffset := 24 }]) 2 32 (.agg #[.slice none 0 0,.int .i64 0]) (some (.pair (.ai (.pair (.int .u8) (.pair (.int .u8) (.pair (.pair (.int .u8) (.int .i64)) (.pair (.int .u8) (.int .i64)))))) (.int .i64)))
def Xa:bh:=cR #[24,3] #[] false
def Xb:bh:=cR #[3] #[3] false
def Xc:bh:=cR #[163] #[] false
def Xd:bh:=cR #[163] #[] false
def Xe:bh:=cR #[24] #[91] false
def Xf:bh:=cR #[3] #[] false
def Xg:bh:=cR #[40] #[40] false
def Xh:bh:=cR #[38] #[41] false
def Xi:bh:=wJ 172
def Xj:bh:=cR #[38] #[96] false
def Xk:bh:=hk (.map 54 174) 1 8 (.map none) none
def Xl:bh:=cR #[] #[98] false
def Xm:bh:=cR #[98,57] #[41] false
def Xn:bh:=h9 #[cA "Yarn" 5 0 0,cA "N" 3 1 8] 2 16 (.pair (.int .u8) (.int .i64))
def Xo:bh:=h9 #[cA "Yarn" 5 0 0,cA "N" 3 1 8] 2 16 (.pair (.int .u8) (.int .i64))
def Xp:bh:=cR #[50] #[41] false
def Xq:bh:=cR #[34] #[34] false
def Xr:bh:=jO 24 (some (.ai (.ai (.int .i64))))
def Xs:bh:=jO 9 (some (.ai (.str)))
def Xt:bh:=cR #[40] #[9] false
def Xu:bh:=cR #[40] #[] true
def Xv:bh:=cR #[27,27,46] #[4] false
def Xw:bh:=cR #[27] #[3] false
def Xx:bh:=h9 #[cA "Bed" 48 0 0,cA "New" 4 1 1,cA "Through" 34 2 8,cA "Past" 71 3 32] 4 56 (.pair (.int .u8) (.pair (.bool) (.pair (.ai (.pair (.int .u8) (.int .i64))) (.ai (.pair (.pair (.int .u8) (.int .i64)) (.pair (.bool) (.int .u8)))))))
def Xy:bh:=h9 #[cA "Id" 102 0 0,cA "Front" 4 2 16,cA "Dir" 55 3 17] 4 24 (.pair (.pair (.int .u8) (.int .i64)) (.pair (.bool) (.int .u8)))
def Xz:bh:=cR #[113,113] #[4] false
def XA:bh:=jO 113 (some (.ai (.pair (.int .u8) (.pair (.bool) (.pair (.ai (.pair (.int .u8) (.int .i64))) (.ai (.pair (.pair (.int .u8) (.int .i64)) (.pair (.bool) (.int .u8)))))))))
def XB:bh:=cR #[32,32,120] #[4] false
def XC:bh:=cR #[33,33] #[4] false
def XD:bh:=h9 #[cA "A" 102 0 0,cA "B" 102 2 16,cA "N" 3 4 32] 5 40 (.pair (.pair (.int .u8) (.int .i64)) (.pair (.pair (.int .u8) (.int .i64)) (.int .i64)))
def XE:bh:=h9 #[cA "A" 102 0 0,cA "B" 102 2 16,cA "N" 3 4 32] 5 40 (.pair (.pair (.int .u8) (.int .i64)) (.pair (.pair (.int .u8) (.int .i64)) (.int .i64)))
def XF:bh:=cR #[5,24] #[41] false
def XG:bh:=cR #[54,3] #[57] false
def XH:bh:=cR #[] #[36] false
def XI:bh:=wJ 132
def XJ:bh:=jO 335 (some (.ai (.pair (.int .u8) (.pair (.int .u8) (.pair (.int .i64) (.pair (.int .i64) (.bool)))))))
def XK:bh:=jO 65 (some (.ai (.ai (.pair (.int .u8) (.ai (.pair (.int .u8) (.int .i64)))))))
def XL:bh:=hk (.struct #[{ name := "row",type := 129,offset := 0,embedded := false,tag := "",pkgPath := "gansey/rows",byteOffset := 0 },{ name := "slots",type := 130,offset := 1,embedded := false,tag := "",pkgPath := "gansey/rows",byteOffset := 24 },{ name := "yarns",type := 30,offset := 2,embedded := false,tag := "",pkgPath := "gansey/rows",byteOffset := 48 },{ name := "table",type := 32,offset := 3,embedded := false,tag := "",pkgPath := "gansey/rows",byteOffset := 72 },{ name := "dir",type := 55,offset := 4,embedded := false,tag := "",pkgPath := "gansey/rows",byteOffset := 96 }]) 5 104 (.agg #[.slice none 0 0,.slice none 0 0,.slice none 0 0,.slice none 0 0,.int .u8 0]) (some (.pair (.ai (.pair (.int .u8) (.pair (.int .u8) (.pair (.int .i64) (.pair (.int .i64) (.bool)))))) (.pair (.ai (.ai (.pair (.int .u8) (.ai (.pair (.int .u8) (.int .i64)))))) (.pair (.ai (.pair (.bool) (.pair (.int .i64) (.pair (.int .i64) (.pair (.bool) (.ai (.pair (.pair (.int .u8) (.int .i64)) (.pair (.bool) (.int .u8))))))))) (.pair (.ai (.ai (.pair (.int .u8) (.pair (.bool) (.pair (.ai (.pair (.int .u8) (.int .i64))) (.ai (.pair (.pair (.int .u8) (.int .i64)) (.pair (.bool) (.int .u8))))))))) (.int .u8))))))
def XM:bh:=hk (.struct #[{ name := "row",type := 129,offset := 0,embedded := false,tag := "",pkgPath := "gansey/rows",byteOffset := 0 },{ name := "slots",type := 130,offset := 1,embedded := false,tag := "",pkgPath := "gansey/rows",byteOffset := 24 },{ name := "yarns",type := 30,offset := 2,embedded := false,tag := "",pkgPath := "gansey/rows",byteOffset := 48 },{ name := "table",type := 32,offset := 3,embedded := false,tag := "",pkgPath := "gansey/rows",byteOffset := 72 },{ name := "dir",type := 55,offset := 4,embedded := false,tag := "",pkgPath := "gansey/rows",byteOffset := 96 }]) 5 104 (.agg #[.slice none 0 0,.slice none 0 0,.slice none 0 0,.slice none 0 0,.int .u8 0]) (some (.pair (.ai (.pair (.int .u8) (.pair (.int .u8) (.pair (.int .i64) (.pair (.int .i64) (.bool)))))) (.pair (.ai (.ai (.pair (.int .u8) (.ai (.pair (.int .u8) (.int .i64)))))) (.pair (.ai (.pair (.bool) (.pair (.int .i64) (.pair (.int .i64) (.pair (.bool) (.ai (.pair (.pair (.int .u8) (.int .i64)) (.pair (.bool) (.int .u8))))))))) (.pair (.ai (.ai (.pair (.int .u8) (.pair (.bool) (.pair (.ai (.pair (.int .u8) (.int .i64))) (.ai (.pair (.pair (.int .u8) (.int .i64)) (.pair (.bool) (.int .u8))))))))) (.int .u8))))))
def XN:bh:=cR #[5] #[41] false
def XO:bh:=cR #[5,48,34] #[102,41] false
def XP:bh:=h9 #[cA "Bed" 48 0 0,cA "Loops" 34 1 8] 2 32 (.pair (.int .u8) (.ai (.pair (.int .u8) (.int .i64))))
def XQ:bh:=h9 #[cA "Bed" 48 0 0,cA "Loops" 34 1 8] 2 32 (.pair (.int .u8) (.ai (.pair (.int .u8) (.int .i64))))
def XR:bh:=cR #[5,3,71] #[41] false
def XS:bh:=cR #[36,65] #[67] false
def XT:bh:=cR #[3] #[4] false
def XU:bh:=cR #[142] #[40,41] false
def XV:bh:=jO 5 (some (.ai (.int .u8)))
def XW:bh:=cR #[73] #[41] false
def XX:bh:=cR #[71,71] #[71] false
def XY:bh:=cR #[65] #[34] false
def XZ:bh:=cR #[71] #[] false
def X0:bh:=cR #[55] #[4] false
def X1:bh:=cR #[3] #[50] false
def X2:bh:=cR #[67] #[41] false
def X3:bh:=cR #[32] #[3] false
def X4:bh:=cR #[34,102] #[34] false
def X5:bh:=cR #[33] #[33] false
def X6:bh:=cR #[32,5,3] #[32] false
def X7:bh:=h9 #[cA "N" 3 0 0,cA "New" 4 1 8,cA "Past" 71 2 16] 3 40 (.pair (.int .i64) (.pair (.bool) (.ai (.pair (.pair (.int .u8) (.int .i64)) (.pair (.bool) (.int .u8))))))
def X8:bh:=h9 #[cA "N" 3 0 0,cA "New" 4 1 8,cA "Past" 71 2 16] 3 40 (.pair (.int .i64) (.pair (.bool) (.ai (.pair (.pair (.int .u8) (.int .i64)) (.pair (.bool) (.int .u8))))))
def X9:bh:=cR #[73] #[73,157,41] false
def Ya:bh:=wJ 87
def Yb:bh:=cR #[24] #[24] false
def Yc:bh:=cR #[48,24,3] #[] false
def Yd:bh:=cR #[3,3] #[4] false
def Ye:bh:=cR #[29] #[41] false
def Yf:bh:=cR #[30] #[30] false
def Yg:bh:=hk (.map 173 3) 1 8 (.map none) none
def Yh:bh:=hk (.struct #[{ name := "rack",type := 3,offset := 0,embedded := false,tag := "",pkgPath := "gansey/machines",byteOffset := 0 },{ name := "beds",type := 29,offset := 1,embedded := false,tag := "",pkgPath := "gansey/machines",byteOffset := 8 },{ name := "yarns",type := 30,offset := 3,embedded := false,tag := "",pkgPath := "gansey/machines",byteOffset := 56 },{ name := "table",type := 32,offset := 4,embedded := false,tag := "",pkgPath := "gansey/machines",byteOffset := 80 },{ name := "cross",type := 170,offset := 5,embedded := false,tag := "",pkgPath := "gansey/machines",byteOffset := 104 },{ name := "fallen",type := 34,offset := 6,embedded := false,tag := "",pkgPath := "gansey/machines",byteOffset := 112 }]) 7 136 (.agg #[.int .i64 0,.slice none 0 0,.slice none 0 0,.slice none 0 0,.slice none 0 0,.map none,.slice none 0 0]) none
def Yi:bh:=hk (.array 2 102) 4 32 (.agg #[.int .u8 0,.int .i64 0,.int .u8 0,.int .i64 0]) (some (.pair (.pair (.int .u8) (.int .i64)) (.pair (.int .u8) (.int .i64))))
def Yj:bh:=cR #[96,57] #[41] false
def Yk:bh:=cR #[57] #[41] false
def Yl:bh:=cR #[33,178] #[] false
def Ym:bh:=cR #[102,102] #[3] false
def Yn:bh:=cR #[124,124] #[3] false
def Yo:bh:=cR #[27] #[34] true
def Yp:bh:=cR #[73,3,32] #[4] false
def Yq:bh:=cR #[225] #[] false
def Yr:bh:=cR #[225] #[] false
def Ys:bh:=cR #[29] #[191] false
def Yt:bh:=hk (.map 102 4) 1 8 (.map none) none
def Yu:bh:=cR #[29] #[3] false
def Yv:bh:=cR #[32] #[41] false
def Yw:bh:=jO 200 (some (.ai (.pair (.pair (.int .u8) (.int .i64)) (.pair (.pair (.int .u8) (.int .i64)) (.int .i64)))))
def Yx:bh:=cR #[29,3] #[196,41] false
def Yy:bh:=h9 #[cA "Id" 102 0 0,cA "Needle" 50 2 16,cA "Spot" 3 4 32] 5 40 (.pair (.pair (.int .u8) (.int .i64)) (.pair (.pair (.int .u8) (.int .i64)) (.int .i64)))
def Yz:bh:=h9 #[cA "Id" 102 0 0,cA "Needle" 50 2 16,cA "Spot" 3 4 32] 5 40 (.pair (.pair (.int .u8) (.int .i64)) (.pair (.pair (.int .u8) (.int .i64)) (.int .i64)))
def YA:bh:=cR #[57] #[4] false
def YB:bh:=cR #[33,3,3,3,178] #[] false
def YC:bh:=cR #[215] #[3] false
def YD:bh:=kA .u64 8
def YE:bh:=cR #[24] #[3] true
def YF:bh:=hk (.array 9 9) 9 144 (.agg #[.string { data:=#[] },.string { data:=#[] },.string { data:=#[] },.string { data:=#[] },.string { data:=#[] },.string { data:=#[] },.string { data:=#[] },.string { data:=#[] },.string { data:=#[] }]) (some (.pair (.str) (.pair (.str) (.pair (.str) (.pair (.str) (.pair (.str) (.pair (.str) (.pair (.str) (.pair (.str) (.str))))))))))
def YG:bh:=hk (.array 2 9) 2 32 (.agg #[.string { data:=#[] },.string { data:=#[] }]) (some (.pair (.str) (.str)))
def YH:bh:=cR #[48,27] #[4] false
def YI:bh:=cR #[281] #[] false
def YJ:bh:=cR #[281] #[] false
def YK:bh:=hk (.array 2 34) 2 48 (.agg #[.slice none 0 0,.slice none 0 0]) (some (.pair (.ai (.pair (.int .u8) (.int .i64))) (.ai (.pair (.int .u8) (.int .i64)))))
def YL:bh:=hk (.map 102 3) 1 8 (.map none) none
def YM:bh:=cR #[200,200] #[3] false
def YN:bh:=jO 246 (some (.ai (.pair (.pair (.int .u8) (.int .i64)) (.pair (.pair (.int .u8) (.int .i64)) (.int .i64)))))
def YO:bh:=h9 #[cA "A" 102 0 0,cA "B" 102 2 16,cA "Sign" 3 4 32] 5 40 (.pair (.pair (.int .u8) (.int .i64)) (.pair (.pair (.int .u8) (.int .i64)) (.int .i64)))
def YP:bh:=hk (.struct #[{ name := "dir",type := 4,offset := 0,embedded := false,tag := "",pkgPath := "gansey/operations",byteOffset := 0 },{ name := "needle",type := 4,offset := 1,embedded := false,tag := "",pkgPath := "gansey/operations",byteOffset := 1 },{ name := "yarn",type := 4,offset := 2,embedded := false,tag := "",pkgPath := "gansey/operations",byteOffset := 2 },{ name := "rack",type := 4,offset := 3,embedded := false,tag := "",pkgPath := "gansey/operations",byteOffset := 3 }]) 4 4 (.agg #[.bool false,.bool false,.bool false,.bool false]) (some (.pair (.bool) (.pair (.bool) (.pair (.bool) (.bool)))))
def YQ:bh:=hk (.map 54 251) 1 8 (.map none) none
def YR:bh:=kA .i64 8
def YS:bh:=kA .u32 4
def YT:bh:=kA .u64 8
def YU:bh:=cR #[50,34] #[4] false
def YV:bh:=hk (.array 2 3) 2 16 (.agg #[.int .i64 0,.int .i64 0]) (some (.pair (.int .i64) (.int .i64)))
def YW:bh:=wJ 5
def YX:bh:=kA .u8 1
def YY:bh:=kA .u8 1
def YZ:bh:=cR #[311,311] #[4] false
def Y0:bh:=kA .i32 4
def Y1:bh:=kA .i32 4
def Y2:bh:=hk (.struct #[cA "Size_" 12 0 0,cA "PtrBytes" 12 1 8,cA "Hash" 264 2 16,cA "TFlag" 325 3 20,cA "Align_" 5 4 21,cA "FieldAlign_" 5 5 22,cA "Kind_" 326 6 23,cA "Equal" 327 7 24,cA "GCData" 298 8 32,cA "Str" 328 9 40,cA "PtrToThis" 329 10 44]) 11 48 (.agg #[.int .u64 0,.int .u64 0,.int .u32 0,.int .u8 0,.int .u8 0,.int .u8 0,.int .u8 0,.nilFunc,.pointer none,.int .i32 0,.int .i32 0]) none
def Y3:bh:=kA .u8 1
def Y4:bh:=h9 #[cA "Kind" 333 0 0,cA "Yarn" 5 1 1,cA "A" 3 2 8,cA "B" 3 3 16,cA "Front" 4 4 24] 5 32 (.pair (.int .u8) (.pair (.int .u8) (.pair (.int .i64) (.pair (.int .i64) (.bool)))))
def tt:b9:=(.node (.node (.node (.node (.node (.node (.node (.node .leaf 1 V5 .leaf) 2 V6 .leaf) 3 V7 (.node (.node .leaf 4 V8 .leaf) 5 V9 .leaf)) 6 Wa (.node (.node (.node .leaf 9 Wb .leaf) 10 Wc .leaf) 11 Wd (.node (.node .leaf 12 We .leaf) 15 Wf .leaf))) 17 Wg (.node (.node (.node (.node .leaf 20 Wh .leaf) 21 Wi .leaf) 22 Wj (.node (.node .leaf 23 Wk .leaf) 24 Wl .leaf)) 26 Wm (.node (.node (.node .leaf 27 Wn .leaf) 28 Wo .leaf) 29 Wp (.node (.node .leaf 30 Wq .leaf) 31 Wr .leaf)))) 32 Ws (.node (.node (.node (.node (.node .leaf 33 Wt .leaf) 34 Wu .leaf) 35 Wv (.node (.node .leaf 36 Ww .leaf) 37 Wx .leaf)) 38 Wy (.node (.node (.node .leaf 39 Wz .leaf) 40 WA .leaf) 41 WB (.node (.node .leaf 43 WC .leaf) 47 WD .leaf))) 48 WE (.node (.node (.node (.node .leaf 50 WG .leaf) 51 WH .leaf) 53 WI (.node (.node .leaf 54 WJ .leaf) 55 WK .leaf)) 56 WL (.node (.node (.node .leaf 57 WM .leaf) 58 WN .leaf) 60 WO (.node .leaf 62 WQ .leaf))))) 63 WR (.node (.node (.node (.node (.node (.node .leaf 64 WS .leaf) 65 WT .leaf) 66 WU (.node (.node .leaf 67 WV .leaf) 69 WW .leaf)) 70 WX (.node (.node (.node .leaf 71 WY .leaf) 72 WZ .leaf) 73 W0 (.node (.node .leaf 74 W1 .leaf) 75 W2 .leaf))) 77 W3 (.node (.node (.node (.node .leaf 80 W4 .leaf) 82 W5 .leaf) 84 W6 (.node (.node .leaf 85 W7 .leaf) 86 W8 .leaf)) 87 W9 (.node (.node (.node .leaf 88 Xa .leaf) 89 Xb .leaf) 90 Xc (.node .leaf 91 Xd .leaf)))) 92 Xe (.node (.node (.node (.node (.node .leaf 93 Xf .leaf) 94 Xg .leaf) 95 Xh (.node (.node .leaf 96 Xi .leaf) 97 Xj .leaf)) 98 Xk (.node (.node (.node .leaf 99 Xl .leaf) 100 Xm .leaf) 101 Xn (.node (.node .leaf 102 Xo .leaf) 103 Xp .leaf))) 104 Xq (.node (.node (.node (.node .leaf 105 Xr .leaf) 106 Xs .leaf) 107 Xt (.node (.node .leaf 108 Xu .leaf) 109 Xv .leaf)) 110 Xw (.node (.node (.node .leaf 113 Xx .leaf) 116 Xy .leaf) 117 Xz (.node .leaf 118 XA .leaf)))))) 121 XB (.node (.node (.node (.node (.node (.node (.node .leaf 122 XC .leaf) 123 XD .leaf) 124 XE (.node (.node .leaf 125 XF .leaf) 126 XG .leaf)) 127 XH (.node (.node (.node .leaf 128 XI .leaf) 129 XJ .leaf) 130 XK (.node (.node .leaf 131 XL .leaf) 132 XM .leaf))) 133 XN (.node (.node (.node (.node .leaf 135 XO .leaf) 136 XP .leaf) 137 XQ (.node (.node .leaf 138 XR .leaf) 139 XS .leaf)) 140 XT (.node (.node (.node .leaf 141 XU .leaf) 142 XV .leaf) 143 XW (.node .leaf 145 XX .leaf)))) 147 XY (.node (.node (.node (.node (.node .leaf 148 XZ .leaf) 149 X0 .leaf) 150 X1 (.node (.node .leaf 151 X2 .leaf) 152 X3 .leaf)) 153 X4 (.node (.node (.node .leaf 154 X5 .leaf) 155 X6 .leaf) 156 X7 (.node (.node .leaf 157 X8 .leaf) 159 X9 .leaf))) 160 Ya (.node (.node (.node (.node .leaf 161 Yb .leaf) 162 Yc .leaf) 163 Yd (.node (.node .leaf 164 Ye .leaf) 168 Yf .leaf)) 170 Yg (.node (.node (.node .leaf 172 Yh .leaf) 173 Yi .leaf) 174 Yj (.node .leaf 175 Yk .leaf))))) 176 Yl (.node (.node (.node (.node (.node (.node .leaf 177 Ym .leaf) 178 Yn .leaf) 188 Yo (.node (.node .leaf 189 Yp .leaf) 190 Yq .leaf)) 191 Yr (.node (.node (.node .leaf 192 Ys .leaf) 193 Yt .leaf) 194 Yu (.node (.node .leaf 195 Yv .leaf) 196 Yw .leaf))) 198 Yx (.node (.node (.node (.node .leaf 199 Yy .leaf) 200 Yz .leaf) 212 YA (.node (.node .leaf 213 YB .leaf) 214 YC .leaf)) 215 YD (.node (.node (.node .leaf 216 YE .leaf) 221 YF .leaf) 222 YG (.node .leaf 225 YH .leaf)))) 226 YI (.node (.node (.node (.node (.node .leaf 227 YJ .leaf) 232 YK .leaf) 233 YL (.node (.node .leaf 238 YM .leaf) 242 YN .leaf)) 246 YO (.node (.node (.node .leaf 251 YP .leaf) 253 YQ .leaf) 256 YR (.node (.node .leaf 264 YS .leaf) 266 YT .leaf))) 281 YU (.node (.node (.node (.node .leaf 285 YV .leaf) 298 YW .leaf) 325 YX (.node (.node .leaf 326 YY .leaf) 327 YZ .leaf)) 328 Y0 (.node (.node (.node .leaf 329 Y1 .leaf) 331 Y2 .leaf) 333 Y3 (.node .leaf 335 Y4 .leaf)))))))
theorem b0:tt.ok Tryz.prog:=⟨⟨⟨⟨⟨⟨⟨⟨trivial,cD Tryz.underlying1 (by kernel_rfl),trivial⟩,c7 Tryz.underlying2 (by kernel_rfl) rfl rfl rfl,trivial⟩,c7 Tryz.underlying3 (by kernel_rfl) rfl rfl rfl,⟨⟨trivial,c7 Tryz.underlying4 (by kernel_rfl) rfl rfl rfl,trivial⟩,c7 Tryz.underlying5 (by kernel_rfl) rfl rfl rfl,trivial⟩⟩,c7 Tryz.underlying6 (by kernel_rfl) rfl rfl rfl,⟨⟨⟨trivial,c7 Tryz.underlying9 (by kernel_rfl) rfl rfl rfl,trivial⟩,c7 Tryz.underlying10 (by kernel_rfl) rfl rfl rfl,trivial⟩,c7 Tryz.underlying11 (by kernel_rfl) rfl rfl rfl,⟨⟨trivial,c7 Tryz.underlying12 (by kernel_rfl) rfl rfl rfl,trivial⟩,cD Tryz.underlying15 (by kernel_rfl),trivial⟩⟩⟩,cD Tryz.underlying17 (by kernel_rfl),⟨⟨⟨⟨trivial,cD Tryz.underlying20 (by kernel_rfl),trivial⟩,c7 Tryz.underlying21 (by kernel_rfl) rfl rfl rfl,trivial⟩,c7 Tryz.underlying22 (by kernel_rfl) rfl rfl rfl,⟨⟨trivial,c7 Tryz.underlying23 (by kernel_rfl) rfl rfl rfl,trivial⟩,c7 Tryz.underlying24 (by kernel_rfl) rfl rfl rfl,trivial⟩⟩,cD Tryz.underlying26 (by kernel_rfl),⟨⟨⟨trivial,c7 Tryz.underlying27 (by kernel_rfl) rfl rfl rfl,trivial⟩,c7 Tryz.underlying28 (by kernel_rfl) rfl rfl rfl,trivial⟩,c7 Tryz.underlying29 (by kernel_rfl) rfl rfl rfl,⟨⟨trivial,c7 Tryz.underlying30 (by kernel_rfl) rfl rfl rfl,trivial⟩,c7 Tryz.underlying31 (by kernel_rfl) rfl rfl rfl,trivial⟩⟩⟩⟩,c7 Tryz.underlying32 (by kernel_rfl) rfl rfl rfl,⟨⟨⟨⟨⟨trivial,c7 Tryz.underlying33 (by kernel_rfl) rfl rfl rfl,trivial⟩,c7 Tryz.underlying34 (by kernel_rfl) rfl rfl rfl,trivial⟩,c7 Tryz.underlying35 (by kernel_rfl) rfl rfl rfl,⟨⟨trivial,c7 Tryz.underlying36 (by kernel_rfl) rfl rfl rfl,trivial⟩,c7 Tryz.underlying37 (by kernel_rfl) rfl rfl rfl,trivial⟩⟩,c7 Tryz.underlying38 (by kernel_rfl) rfl rfl rfl,⟨⟨⟨trivial,cD Tryz.underlying39 (by kernel_rfl),trivial⟩,c7 Tryz.underlying40 (by kernel_rfl) rfl rfl rfl,trivial⟩,c7 Tryz.underlying41 (by kernel_rfl) rfl rfl rfl,⟨⟨trivial,cD Tryz.underlying43 (by kernel_rfl),trivial⟩,cD Tryz.underlying47 (by kernel_rfl),trivial⟩⟩⟩,c7 Tryz.underlying48 (by kernel_rfl) rfl rfl rfl,⟨⟨⟨⟨trivial,c7 Tryz.underlying50 (by kernel_rfl) rfl rfl rfl,trivial⟩,cD Tryz.underlying51 (by kernel_rfl),trivial⟩,c7 Tryz.underlying53 (by kernel_rfl) rfl rfl rfl,⟨⟨trivial,c7 Tryz.underlying54 (by kernel_rfl) rfl rfl rfl,trivial⟩,c7 Tryz.underlying55 (by kernel_rfl) rfl rfl rfl,trivial⟩⟩,c7 Tryz.underlying56 (by kernel_rfl) rfl rfl rfl,⟨⟨⟨trivial,c7 Tryz.underlying57 (by kernel_rfl) rfl rfl rfl,trivial⟩,cD Tryz.underlying58 (by kernel_rfl),trivial⟩,cD Tryz.underlying60 (by kernel_rfl),⟨trivial,cD Tryz.underlying62 (by kernel_rfl),trivial⟩⟩⟩⟩⟩,cD Tryz.underlying63 (by kernel_rfl),⟨⟨⟨⟨⟨⟨trivial,cD Tryz.underlying64 (by kernel_rfl),trivial⟩,c7 Tryz.underlying65 (by kernel_rfl) rfl rfl rfl,trivial⟩,c7 Tryz.underlying66 (by kernel_rfl) rfl rfl rfl,⟨⟨trivial,c7 Tryz.underlying67 (by kernel_rfl) rfl rfl rfl,trivial⟩,cD Tryz.underlying69 (by kernel_rfl),trivial⟩⟩,cD Tryz.underlying70 (by kernel_rfl),⟨⟨⟨trivial,c7 Tryz.underlying71 (by kernel_rfl) rfl rfl rfl,trivial⟩,c7 Tryz.underlying72 (by kernel_rfl) rfl rfl rfl,trivial⟩,c7 Tryz.underlying73 (by kernel_rfl) rfl rfl rfl,⟨⟨trivial,cD Tryz.underlying74 (by kernel_rfl),trivial⟩,c7 Tryz.underlying75 (by kernel_rfl) rfl rfl rfl,trivial⟩⟩⟩,cD Tryz.underlying77 (by kernel_rfl),⟨⟨⟨⟨trivial,cD Tryz.underlying80 (by kernel_rfl),trivial⟩,cD Tryz.underlying82 (by kernel_rfl),trivial⟩,c7 Tryz.underlying84 (by kernel_rfl) rfl rfl rfl,⟨⟨trivial,cD Tryz.underlying85 (by kernel_rfl),trivial⟩,c7 Tryz.underlying86 (by kernel_rfl) rfl rfl rfl,trivial⟩⟩,c7 Tryz.underlying87 (by kernel_rfl) rfl rfl rfl,⟨⟨⟨trivial,cD Tryz.underlying88 (by kernel_rfl),trivial⟩,cD Tryz.underlying89 (by kernel_rfl),trivial⟩,cD Tryz.underlying90 (by kernel_rfl),⟨trivial,cD Tryz.underlying91 (by kernel_rfl),trivial⟩⟩⟩⟩,cD Tryz.underlying92 (by kernel_rfl),⟨⟨⟨⟨⟨trivial,cD Tryz.underlying93 (by kernel_rfl),trivial⟩,cD Tryz.underlying94 (by kernel_rfl),trivial⟩,cD Tryz.underlying95 (by kernel_rfl),⟨⟨trivial,cD Tryz.underlying96 (by kernel_rfl),trivial⟩,cD Tryz.underlying97 (by kernel_rfl),trivial⟩⟩,cD Tryz.underlying98 (by kernel_rfl),⟨⟨⟨trivial,cD Tryz.underlying99 (by kernel_rfl),trivial⟩,cD Tryz.underlying100 (by kernel_rfl),trivial⟩,c7 Tryz.underlying101 (by kernel_rfl) rfl rfl rfl,⟨⟨trivial,c7 Tryz.underlying102 (by kernel_rfl) rfl rfl rfl,trivial⟩,cD Tryz.underlying103 (by kernel_rfl),trivial⟩⟩⟩,cD Tryz.underlying104 (by kernel_rfl),⟨⟨⟨⟨trivial,c7 Tryz.underlying105 (by kernel_rfl) rfl rfl rfl,trivial⟩,c7 Tryz.underlying106 (by kernel_rfl) rfl rfl rfl,trivial⟩,cD Tryz.underlying107 (by kernel_rfl),⟨⟨trivial,cD Tryz.underlying108 (by kernel_rfl),trivial⟩,cD Tryz.underlying109 (by kernel_rfl),trivial⟩⟩,cD Tryz.underlying110 (by kernel_rfl),⟨⟨⟨trivial,c7 Tryz.underlying113 (by kernel_rfl) rfl rfl rfl,trivial⟩,c7 Tryz.underlying116 (by kernel_rfl) rfl rfl rfl,trivial⟩,cD Tryz.underlying117 (by kernel_rfl),⟨trivial,c7 Tryz.underlying118 (by kernel_rfl) rfl rfl rfl,trivial⟩⟩⟩⟩⟩⟩,cD Tryz.underlying121 (by kernel_rfl),⟨⟨⟨⟨⟨⟨⟨trivial,cD Tryz.underlying122 (by kernel_rfl),trivial⟩,c7 Tryz.underlying123 (by kernel_rfl) rfl rfl rfl,trivial⟩,c7 Tryz.underlying124 (by kernel_rfl) rfl rfl rfl,⟨⟨trivial,cD Tryz.underlying125 (by kernel_rfl),trivial⟩,cD Tryz.underlying126 (by kernel_rfl),trivial⟩⟩,cD Tryz.underlying127 (by kernel_rfl),⟨⟨⟨trivial,cD Tryz.underlying128 (by kernel_rfl),trivial⟩,c7 Tryz.underlying129 (by kernel_rfl) rfl rfl rfl,trivial⟩,c7 Tryz.underlying130 (by kernel_rfl) rfl rfl rfl,⟨⟨trivial,c7 Tryz.underlying131 (by kernel_rfl) rfl rfl rfl,trivial⟩,c7 Tryz.underlying132 (by kernel_rfl) rfl rfl rfl,trivial⟩⟩⟩,cD Tryz.underlying133 (by kernel_rfl),⟨⟨⟨⟨trivial,cD Tryz.underlying135 (by kernel_rfl),trivial⟩,c7 Tryz.underlying136 (by kernel_rfl) rfl rfl rfl,trivial⟩,c7 Tryz.underlying137 (by kernel_rfl) rfl rfl rfl,⟨⟨trivial,cD Tryz.underlying138 (by kernel_rfl),trivial⟩,cD Tryz.underlying139 (by kernel_rfl),trivial⟩⟩,cD Tryz.underlying140 (by kernel_rfl),⟨⟨⟨trivial,cD Tryz.underlying141 (by kernel_rfl),trivial⟩,c7 Tryz.underlying142 (by kernel_rfl) rfl rfl rfl,trivial⟩,cD Tryz.underlying143 (by kernel_rfl),⟨trivial,cD Tryz.underlying145 (by kernel_rfl),trivial⟩⟩⟩⟩,cD Tryz.underlying147 (by kernel_rfl),⟨⟨⟨⟨⟨trivial,cD Tryz.underlying148 (by kernel_rfl),trivial⟩,cD Tryz.underlying149 (by kernel_rfl),trivial⟩,cD Tryz.underlying150 (by kernel_rfl),⟨⟨trivial,cD Tryz.underlying151 (by kernel_rfl),trivial⟩,cD Tryz.underlying152 (by kernel_rfl),trivial⟩⟩,cD Tryz.underlying153 (by kernel_rfl),⟨⟨⟨trivial,cD Tryz.underlying154 (by kernel_rfl),trivial⟩,cD Tryz.underlying155 (by kernel_rfl),trivial⟩,c7 Tryz.underlying156 (by kernel_rfl) rfl rfl rfl,⟨⟨trivial,c7 Tryz.underlying157 (by kernel_rfl) rfl rfl rfl,trivial⟩,cD Tryz.underlying159 (by kernel_rfl),trivial⟩⟩⟩,cD Tryz.underlying160 (by kernel_rfl),⟨⟨⟨⟨trivial,cD Tryz.underlying161 (by kernel_rfl),trivial⟩,cD Tryz.underlying162 (by kernel_rfl),trivial⟩,cD Tryz.underlying163 (by kernel_rfl),⟨⟨trivial,cD Tryz.underlying164 (by kernel_rfl),trivial⟩,cD Tryz.underlying168 (by kernel_rfl),trivial⟩⟩,cD Tryz.underlying170 (by kernel_rfl),⟨⟨⟨trivial,cD Tryz.underlying172 (by kernel_rfl),trivial⟩,c7 Tryz.underlying173 (by kernel_rfl) rfl rfl rfl,trivial⟩,cD Tryz.underlying174 (by kernel_rfl),⟨trivial,cD Tryz.underlying175 (by kernel_rfl),trivial⟩⟩⟩⟩⟩,cD Tryz.underlying176 (by kernel_rfl),⟨⟨⟨⟨⟨⟨trivial,cD Tryz.underlying177 (by kernel_rfl),trivial⟩,cD Tryz.underlying178 (by kernel_rfl),trivial⟩,cD Tryz.underlying188 (by kernel_rfl),⟨⟨trivial,cD Tryz.underlying189 (by kernel_rfl),trivial⟩,cD Tryz.underlying190 (by kernel_rfl),trivial⟩⟩,cD Tryz.underlying191 (by kernel_rfl),⟨⟨⟨trivial,cD Tryz.underlying192 (by kernel_rfl),trivial⟩,cD Tryz.underlying193 (by kernel_rfl),trivial⟩,cD Tryz.underlying194 (by kernel_rfl),⟨⟨trivial,cD Tryz.underlying195 (by kernel_rfl),trivial⟩,c7 Tryz.underlying196 (by kernel_rfl) rfl rfl rfl,trivial⟩⟩⟩,cD Tryz.underlying198 (by kernel_rfl),⟨⟨⟨⟨trivial,c7 Tryz.underlying199 (by kernel_rfl) rfl rfl rfl,trivial⟩,c7 Tryz.underlying200 (by kernel_rfl) rfl rfl rfl,trivial⟩,cD Tryz.underlying212 (by kernel_rfl),⟨⟨trivial,cD Tryz.underlying213 (by kernel_rfl),trivial⟩,cD Tryz.underlying214 (by kernel_rfl),trivial⟩⟩,c7 Tryz.underlying215 (by kernel_rfl) rfl rfl rfl,⟨⟨⟨trivial,cD Tryz.underlying216 (by kernel_rfl),trivial⟩,c7 Tryz.underlying221 (by kernel_rfl) rfl rfl rfl,trivial⟩,c7 Tryz.underlying222 (by kernel_rfl) rfl rfl rfl,⟨trivial,cD Tryz.underlying225 (by kernel_rfl),trivial⟩⟩⟩⟩,cD Tryz.underlying226 (by kernel_rfl),⟨⟨⟨⟨⟨trivial,cD Tryz.underlying227 (by kernel_rfl),trivial⟩,c7 Tryz.underlying232 (by kernel_rfl) rfl rfl rfl,trivial⟩,cD Tryz.underlying233 (by kernel_rfl),⟨⟨trivial,cD Tryz.underlying238 (by kernel_rfl),trivial⟩,c7 Tryz.underlying242 (by kernel_rfl) rfl rfl rfl,trivial⟩⟩,c7 Tryz.underlying246 (by kernel_rfl) rfl rfl rfl,⟨⟨⟨trivial,c7 Tryz.underlying251 (by kernel_rfl) rfl rfl rfl,trivial⟩,cD Tryz.underlying253 (by kernel_rfl),trivial⟩,c7 Tryz.underlying256 (by kernel_rfl) rfl rfl rfl,⟨⟨trivial,c7 Tryz.underlying264 (by kernel_rfl) rfl rfl rfl,trivial⟩,c7 Tryz.underlying266 (by kernel_rfl) rfl rfl rfl,trivial⟩⟩⟩,cD Tryz.underlying281 (by kernel_rfl),⟨⟨⟨⟨trivial,c7 Tryz.underlying285 (by kernel_rfl) rfl rfl rfl,trivial⟩,cD Tryz.underlying298 (by kernel_rfl),trivial⟩,c7 Tryz.underlying325 (by kernel_rfl) rfl rfl rfl,⟨⟨trivial,c7 Tryz.underlying326 (by kernel_rfl) rfl rfl rfl,trivial⟩,cD Tryz.underlying327 (by kernel_rfl),trivial⟩⟩,c7 Tryz.underlying328 (by kernel_rfl) rfl rfl rfl,⟨⟨⟨trivial,c7 Tryz.underlying329 (by kernel_rfl) rfl rfl rfl,trivial⟩,cD Tryz.underlying331 (by kernel_rfl),trivial⟩,c7 Tryz.underlying333 (by kernel_rfl) rfl rfl rfl,⟨trivial,c7 Tryz.underlying335 (by kernel_rfl) rfl rfl rfl,trivial⟩⟩⟩⟩⟩⟩⟩
def nh:List (List UInt8):=[[],[105,110],[111,117,116],[114,97,99,107],[107,110,105,116],[116,117,99,107],[109,105,115,115],[120,102,101,114],[100,114,111,112]]
def sG:List (List UInt8):=[[108,101,102,116],[114,105,103,104,116]]
def ue:List Int:=[-1,1]
def Y5:Nat->Option Bu
 | 0=>some ⟨.str,nh⟩
 | 1=>some ⟨.str,sG⟩
 | 2=>some ⟨.int .i64,ue⟩
 | 3=>some ⟨.int .u64,Lib.pow10Tab⟩
 | _=>none
noncomputable def bS:bs:=⟨Tryz.prog,tt,Y5⟩
section
open Go.ChangeShapes Go.WideShapes Go.ChangeAt Go.WideElems Go.RowKit
section
variable {H:Type} {enc:TypeId×Value->H} {P:Program} {W:World}
def uf(enc:TypeId×Value->H) (P:Program) (W:World) (t:TypeId) (g:aU) (R:g.D->Prop):Prop:=
 ∀ k cs x,DataW.trod enc P W 0 (fun _=>true) true k t cs=some x->∃ y:g.D,R y/\bF (fun b=>b < W.heap.size) W g y cs
theorem Y6{t:TypeId} {k:IntKind} (a8:P.underlying t=some (.int k)):uf enc P W t (.int k) (fun(y:Int)=>k.min<=y/\y<=k.max):=fun n cs x h=>by
 obtain⟨z,rfl,_,hw⟩:=DataW.trod_int a8 h;exact⟨z,by simpa [Lit.wf] using hw,rfl⟩
theorem Gv{g:aU} {R:g.D->Prop}:∀ l:List { p:g.D×List Value // R p.1/\bF (fun b=>b < W.heap.size) W g p.1 p.2 },Flat (bF (fun b=>b < W.heap.size) W g) (l.map (·.1.1)) (l.flatMap (·.1.2))
 | []=>rfl
 | x :: l=>⟨x.1.2,l.flatMap (·.1.2),rfl,x.2.2,Gv l⟩
theorem Nu{b o:Nat} {v:Value} (h:W.cell? ⟨b,o,none⟩=some v):b < W.heap.size:=by
 by_cases ae:b < W.heap.size
 ·exact ae
 ·simp[World.cell?,Array.getElem?_eq_none (by omega:W.heap.size<=b)]at h
theorem Y7{g:aU} {R:g.D->Prop} (aN:0 < g.size) {t e:TypeId} {r:Reach} {pa:Nat} {v:Value} {d:DataW H} {ps:List MemPlace} (a8:P.underlying t=some (.slice e)) (aa:P.cellsOf e=g.size) (mq:uf enc P W e g R) (tJ:Value.okWide P W r pa t v) (ax:DataW.Trod enc P W 0 (fun _=>true) true t v d ps) :
  ∃ l:List g.D,(∀ x∈l,R x)/\∀ env,dH env (fun b=>b < W.heap.size) W (.c (.bk g l none)) v:=by
 obtain⟨A,len,cap,l,rfl,ah,J,U,aw⟩:=UD (α:={ p:g.D×List Value // R p.1/\bF (fun b=>b < W.heap.size) W g p.1 p.2 }) (f:=fun p=>p.1.2) (fun x=>x.2.2.length) aN a8 aa (fun k cs x h=>by
  obtain⟨y,aL,az⟩:=mq k cs x h;exact⟨⟨(y,cs),aL,az⟩,rfl⟩) tJ ax
 refine⟨l.map (·.1.1),fun x ak=>?_,fun env=>?_⟩
 ·obtain⟨p,_,rfl⟩:=List.mem_map.1 ak
  exact p.2.1
 ·refine⟨A,cap,l.flatMap (·.1.2),by rw[List.length_map,ah],by rw[List.length_map,ah]; exact J,U,(fun _ h=>by cases h),Gv l,by rw[List.length_map,ah]; exact aw,fun b p hm e=>?_⟩
  rw[List.length_map]at hm;obtain⟨b',Bs,cj,k9⟩:=aw.2 (by omega);rw[e]at cj;cases cj;cases ak:(l.flatMap (·.1.2))[0]? with
  | some u=>exact Nu (k9 0 u ak)
  | none=>
   exfalso
   have ag:=aw.1;rw[List.getElem?_eq_none_iff]at ak;have aq:0 < len * g.size:=Nat.mul_pos (by omega) aN;omega
theorem Nv{base:Nat} {sp:Nat->Bool} {held:Bool} {fuel:Nat} {t e:TypeId} {n:Nat} {cs:List Value} {zs:List (List UInt8)} {p:List MemPlace}
  (a8:P.underlying t=some (.array n e)) (he:P.underlying e=some .string) (Y8:P.cellsOf e=1) (aj3:P.cellsOf t=n)
  (h:DataW.trod enc P W base sp held fuel t cs=some (.agg (zs.map fun z=>.lit (.string z)),p)):cs=zs.map fc:=by
 obtain⟨xs,m,_,ak,hlen,j0,nD⟩:=DataW.trod_array a8 h;have qk:xs.map (·.1)=zs.map fun z=>(DataW.lit (.string z):DataW H):=by
  have:=congrArg Prod.fst ak
  simpa using this.symm
 have yt:zs.length=n:=by
  have:=congrArg List.length qk
  simp at this
  omega
 rw[Y8]at nD
 apply List.ext_getElem?
 intro i
 by_cases hi:i < n
 ·have J:=nD i hi
  rw[List.getElem?_eq_getElem (by omega:i < xs.length)]at J;obtain⟨s,an,B7,_⟩:=DataW.trod_string he J;have U:cs[i]?=some (.string s):=by
   have:=congrArg (·[0]?) an
   simpa [List.getElem?_take,List.getElem?_drop] using this
  have ag:(xs.map (·.1))[i]?=some (DataW.lit (.string s.data.toList):DataW H):=by
   rw[List.getElem?_map,List.getElem?_eq_getElem (by omega),B7]
   rfl
  rw[qk]at ag;simp only[List.getElem?_map,Option.map_eq_some_iff,DataW.lit.injEq,Lit.string.injEq]at ag;obtain⟨ob,qZ,aS⟩:=ag;rw[U,List.getElem?_map,qZ,Option.map_some,aS]
  rfl
 ·rw[List.getElem?_eq_none (by omega),List.getElem?_eq_none (by simp; omega)]
theorem Gw{B:Nat->Prop} {k:IntKind}:∀ l:List Int,Flat (bF B W (.int k)) l (l.map fun z=>Value.int k z)
 | []=>rfl
 | x :: l=>⟨[.int k x],_,rfl,rfl,Gw l⟩
theorem Gx{B:Nat->Prop}:∀ l:List (List UInt8),Flat (bF B W .str) l (l.map fc)
 | []=>rfl
 | x :: l=>⟨[fc x],_,rfl,rfl,Gx l⟩
theorem B8{n:String} {i:Nat} {g:aU} {l:List g.D} {cs:Array Value} (aQ:P.globalNamed n=some i) (aC:W.var? P n=some cs) (az:Flat (bF (fun b=>b < W.heap.size) W g) l cs.toList):sl (fun b=>b < W.heap.size) W i ⟨g,l⟩:=by
 unfold World.var? at aC;rw[aQ,Option.bind_some]at aC
 split at aC
 ·rename_i o3 e dz cg
  cases aC;have aW:i < W.heap.size:=(Array.getElem?_eq_some_iff.1 cg).1;refine⟨⟨i,0,cs.toList,rfl,aW,az,fun j u hu=>?_⟩,cs,e,dz,cg,?_⟩
  ·simp only[Nat.zero_add,World.cell?,cg]
   simpa using hu
  ·have:=bF.mX az
   simpa using this
 ·cases aC
theorem B9{n:String} {g i:Nat} (h:P.globalNamed n=some g) (ab:P.globalNamed n=some i):g=i:=Option.some.inj (h.symm.trans ab)
theorem Ca{a:Option TypeId} {t u:TypeId} (h:a=some t) (ab:a=some u):t=u:=Option.some.inj (h.symm.trans ab)
end
theorem AC.law{X:bs} {f:FuncId} {args:List bl} {vs:List Value} {W:World} (h:AC X f args [] (fun sv h=>sv=.c (.val (.bool true))/\h=[])) (aQ:wo X (fun b=>b < W.heap.size) W) (aX:dn (fun _=>.no) (fun b=>b < W.heap.size) W args vs):o4 X.P f vs.toArray W (fun v w'=>v=.bool true/\Below W.heap.size W w'):=by
 refine(h (fun b=>b < W.heap.size) W (fun _=>.no) vs [] W aQ aX rfl (bE.start W)).mono ?_;rintro v w' ⟨env',B',cC,H',sv,aK,⟨rfl,rfl⟩,J,U,ag,aq,aE,bb,bX⟩;have aw:∀ k,k < W.heap.size->gj W [] k:=fun k ab=>⟨ab,fun c aa=>by cases aa⟩
 exact⟨aq,bb.below.os.trans ag.os,bb.below.tape.trans ag.tape,bb.below.output.trans ag.output,Nat.le_trans ag.size bb.below.size,fun k ab=>(bb.below.block k (.inl (aw k ab))).trans (ag.block k (aw k ab))⟩
end
section
def au{α:Type} (c:Bool) (k:Option α):Option α:=match c with
 | true=>k
 | false=>none
theorem iq{α:Type} {c:Bool} {k:Option α} {r:α} (h:au c k=some r):c=true/\k=some r:=by
 cases c with
 | true=>exact⟨rfl,h⟩
 | false=>cases h
theorem hl{α β:Type} {x:Option α} {f:α->Option β} {r:β} (h:x.bind f=some r):∃ a,x=some a/\f a=some r:=by
 cases x with
 | none=>cases h
 | some a=>exact⟨a,rfl,h⟩
theorem Y9{α:Type} {b:Bool} {x y z:α} (ae:b=true) (h:cond b x y=z):x=z:=by rw[ae]at h; exact h
theorem Za{α:Type} {b:Bool} {x y z:α} (ae:b=false) (h:cond b x y=z):y=z:=by rw[ae]at h; exact h
abbrev sm {α β kB:Type} (x:α⊕β) (f:α->Option kB) (g:β->Option kB):Option kB:=match x with
 | .inl a=>f a
 | .inr b=>g b
section
variable {X:bs} {M:Bool} {n:Nat} {r:Option Nat} {c:Code} {st:aO} {Q:Exit->aO->Prop}
end
theorem hn:(∀ b,(b&&true)=b)/\(∀ b,(true&&b)=b)/\(∀ b,(b || true)=true)/\(∀ b,(true || b)=true)/\(!true)=false/\(!false)=true/\(∀ b,(b || false)=b)/\(∀ b,(false || b)=b)/\(∀ b,(b&&b)=b)/\(∀ b:Bool,(!b || b)=true)/\(∀ b,(b || b)=b):=by decide
theorem aj4:(∀ b,(b&&true)=b)/\(∀ b,(true&&b)=b)/\(∀ b,(b||true)=true)/\(∀ b,(true||b)=true)/\(!true)=false/\(!false)=true/\(∀ b,(b||false)=b)/\(∀ b,(false||b)=b)/\(∀ b,(b&&b)=b)/\(∀ b:Bool,(!b||b)=true)/\(∀ b,(b||b)=b)/\(∀ [h:Decidable True],@decide True h=true)/\(∀ {α:Type}(a b:α),cond true a b=a)/\(∀ {α:Type}(a b:α),cond false a b=b):=⟨hn.1,hn.2.1,hn.2.2.1,hn.2.2.2.1,hn.2.2.2.2.1,hn.2.2.2.2.2.1,hn.2.2.2.2.2.2.1,hn.2.2.2.2.2.2.2.1,hn.2.2.2.2.2.2.2.2.1,hn.2.2.2.2.2.2.2.2.2.1,hn.2.2.2.2.2.2.2.2.2.2,fun {_}=>decide_true _,fun _ _=>rfl,fun _ _=>rfl⟩
theorem cH.data{env:Nat->Loc} {B:Nat->Prop} {w:World} {g:aU} {cs o3:List bm} {x:g.D} {c:Bool} {vs:List Value} (J:cH env B w cs vs) (ax:dec g cs=some (c,x,[])) (aa:c=true) (aQ:od g x 0 g.size=some o3):cH env B w o3 vs:=by
 obtain⟨v1,v2,aS,az,U⟩:=qb J ax aa;have aq:v2=[]:=U;subst aq;rw[List.append_nil]at aS;subst aS;obtain⟨us,⟨ah,ao⟩,ag⟩:=bF.cells az aQ;have qc:=bF.length az;have yR:us=vs:=by
  apply List.ext_getElem?
  intro j;cases aH:us[j]? with
  | some u=>
   have:=ao j u aH
   rw[Nat.zero_add]at this;exact this.symm
  | none=>
   rw[List.getElem?_eq_none_iff]at aH;exact(List.getElem?_eq_none_iff.2 (by omega)).symm
 subst yR;exact ag
end
section
open Go.ChangeShapes Go.WideShapes Go.ChangeAt Go.WideElems Go.RowKit
theorem Tryz.own:ownKnob Tryz.prog.godebug=none:=by kernel_rfl
theorem Tryz.laidOut:laidOutB Tryz.prog=true:=by kernel_rfl
end
section
def aU.beq:(g:aU)->g.D->g.D->Bool
 | .int _=>fun(x:Int) (y:Int)=>x == y
 | .bool=>fun(x:Bool) (y:Bool)=>x == y
 | .str=>fun(x:List UInt8) (y:List UInt8)=>x == y
 | .pair g h=>fun x y=>g.beq x.1 y.1&&h.beq x.2 y.2
 | _=>fun _ _=>false
def cF(gk aY:aU):List (gk.D×aY.D)->gk.D->Option aY.D
 | [],_=>none
 | x :: l,k=>match gk.beq x.1 k with
  | true=>some x.2
  | false=>cF gk aY l k
def eD(gk aY:aU):List (gk.D×aY.D)->gk.D->aY.D->List (gk.D×aY.D)
 | [],k,v=>[(k,v)]
 | x :: l,k,v=>match gk.beq x.1 k with
  | true=>(x.1,v) :: l
  | false=>x :: eD gk aY l k v
def ql:(g:aU)->g.D->Option bl
 | .pair a b,x=>(od (.pair a b) x 0 (a.size+b.size)).map .agg
 | g,x=>(ld g x 0).map .c
section
variable {B:Nat->Prop} {w:World} {k:IntKind} {aY:aU}
theorem gb.Gy{z:Int}:∀ {l:List (Int×aY.D)} {es:List MapEntry} (i:Nat),gb B w (.int k) aY l es ->
  (cF (.int k) aY l z=none/\Instr.findNow (.int k) (.int k z) es i=some none)\/∃ x j v,cF (.int k) aY l z=some x/\Instr.findNow (.int k) (.int k z) es i=some (some (i+j,v))/\dZ B w aY x v/\j < es.length
 | [],_,i,h=>by rw[show _=[] from h]; exact .inl ⟨rfl,rfl⟩
 | x :: l,_,i,⟨e,r,he,J,U,ag⟩=>by
  subst he;have ab:e.key=.int k x.1:=by
   have:=(show bF B w (.int k) x.1 [e.key] from J)
   have aq:[e.key]=[Value.int k x.1]:=this;exact(List.cons.inj aq).1
  unfold Instr.findNow cF;rw[ab];simp only[Instr.sameNow,if_true]
  by_cases bG:x.1=z
  ·have ay:(aU.int k).beq x.1 z=true:=by simp[aU.beq,bG]
   have aS:(z == x.1)=true:=by simp[bG]
   rw[ay,aS];exact .inr ⟨x.2,0,e.val,rfl,rfl,U,by simp⟩
  ·have ay:(aU.int k).beq x.1 z=false:=by simp[aU.beq,bG]
   have aS:(z == x.1)=false:=by simp[Ne.symm bG]
   rw[ay,aS]
   rcases gb.Gy (i+1) ag with⟨aq,aE⟩ | ⟨y,j,v,aq,aE,bb,bX⟩
   ·exact .inl ⟨aq,aE⟩
   ·exact .inr ⟨y,j+1,v,aq,by rw[aE,Nat.add_assoc,Nat.add_comm 1 j],bb,by simpa using bX⟩
theorem yS{es:List MapEntry} {f:MapEntry->MapEntry} (az:∀ e,(f e).born=e.born):∀ (j:Nat),(es.modify j f).map (·.born)=es.map (·.born):=by
 induction es with
 | nil=>intro j; cases j<;>rfl
 | cons e es br=>
  intro j;cases j with
  | zero=>simp[az]
  | succ j=>simp only[List.modify_succ_cons,List.map_cons,br j]
theorem gb.setInt{z:Int} {e8:aY.D} {vv:Value} (aC:dZ B w aY e8 vv):∀ {l:List (Int×aY.D)} {es:List MapEntry} (i:Nat),gb B w (.int k) aY l es ->
  (Instr.findNow (.int k) (.int k z) es i=some none/\eD (.int k) aY l z e8=l++[(z,e8)]) \/
  ∃ j v e,Instr.findNow (.int k) (.int k z) es i=some (some (i+j,v))/\es[j]?=some e/\e.key=.int k z/\gb B w (.int k) aY (eD (.int k) aY l z e8) (es.modify j fun e=>{ e with key:=.int k z,val:=vv })
 | [],_,i,h=>by rw[show _=[] from h]; exact .inl ⟨rfl,rfl⟩
 | x :: l,_,i,⟨e,r,he,J,U,ag⟩=>by
  subst he;have ab:e.key=.int k x.1:=by
   have aq:[e.key]=[Value.int k x.1]:=J;exact(List.cons.inj aq).1
  unfold Instr.findNow eD;rw[ab];simp only[Instr.sameNow,if_true]
  by_cases bG:x.1=z
  ·have ay:(aU.int k).beq x.1 z=true:=by simp[aU.beq,bG]
   have aS:(z == x.1)=true:=by simp[bG]
   rw[ay,aS];refine .inr ⟨0,e.val,e,rfl,rfl,by rw[ab,bG],{ e with key:=.int k z,val:=vv },r,rfl,?_,aC,ag⟩;show [Value.int k z]=[Value.int k x.1]
   rw[bG]
  ·have ay:(aU.int k).beq x.1 z=false:=by simp[aU.beq,bG]
   have aS:(z == x.1)=false:=by simp[Ne.symm bG]
   rw[ay,aS]
   rcases gb.setInt aC (i+1) ag with⟨aq,aE⟩ | ⟨j,v,cj,aq,aE,bb,bX⟩
   ·exact .inl ⟨aq,by show x :: eD (.int k) aY l z e8=_; rw[aE]; rfl⟩
   ·exact .inr ⟨j+1,v,cj,by rw[aq,Nat.add_assoc,Nat.add_comm 1 j],by simpa using aE,bb,e,_,rfl,J,U,bX⟩
theorem gb.snoc{gk aY:aU} {x:gk.D×aY.D} {e:MapEntry} (J:dZ B w gk x.1 e.key) (U:dZ B w aY x.2 e.val):∀ {l:List (gk.D×aY.D)} {es:List MapEntry},gb B w gk aY l es->gb B w gk aY (l++[x]) (es++[e])
 | [],_,h=>by rw[show _=[] from h]; exact⟨e,[],rfl,J,U,rfl⟩
 | _ :: _,_,⟨cj,r,he,ag,aq,aE⟩=>by subst he; exact⟨cj,_,rfl,ag,aq,gb.snoc J U aE⟩
def ly:aU->bl->Bool
 | .pair _ _,.agg _=>true
 | .pair _ _,.c _=>false
 | _,.c _=>true
 | _,.agg _=>false
 | _,.arr _ _=>false
theorem dZ.ug{env:Nat->Loc} {g:aU} {bx:bl} {c:Bool} {x:g.D} {v:Value} (ax:dec g bx.cells=some (c,x,[])) (aa:c=true) (an:ly g bx=true) (h:dH env B w bx v):dZ B w g x v:=by
 cases bx with
 | c b4=>
  obtain⟨v1,v2,e,J,U⟩:=qb (cs:=[b4]) (vs:=[v]) ⟨v,[],rfl,h,rfl⟩ ax aa;have aS:v2=[]:=U;rw[aS,List.append_nil]at e;rw[<- e]at J;cases g with
  | pair a b=>cases an
  | _=>exact J
 | arr g2 l=>
  cases g with
  | pair a b=>cases an
  | _=>cases an
 | agg cs=>
  obtain⟨vs,e,ag⟩:=h;obtain⟨v1,v2,ay,J,U⟩:=qb ag ax aa;have aS:v2=[]:=U;rw[aS,List.append_nil]at ay;cases g with
  | pair a b=>exact⟨vs,e,by rw[ay]; exact J⟩
  | _=>cases an
theorem dZ.bx{env:Nat->Loc} {g:aU} {x:g.D} {v:Value} {bx:bl} (h:dZ B w g x v) (an:ql g x=some bx):dH env B w bx v:=by
 have one:∀ {g:aU} {x:g.D} {v:Value} {bx:bl},bF B w g x [v]->(ld g x 0).map bl.c=some bx->dH env B w bx v:=by
  intro g x v bx h an;obtain⟨c,aa,rfl⟩:=Option.map_eq_some_iff.1 an;obtain⟨u,J,U⟩:=bF.cell (env:=env) h aa;simp only[List.getElem?_cons_zero,Option.some.injEq]at J;rw[J];exact U
 cases g with
 | pair a b=>
  obtain⟨vs,e,J⟩:=h;obtain⟨l,ah,rfl⟩:=Option.map_eq_some_iff.1 (show(od (.pair a b) x 0 (a.size+b.size)).map bl.agg=some bx from an);obtain⟨us,⟨U,ag⟩,aq⟩:=bF.cells (env:=env) J ah;have hlen:vs.length=a.size+b.size:=bF.length J
  have:us=vs:=by
   apply List.ext_getElem?
   intro i
   by_cases hi:i < us.length
   ·rw[List.getElem?_eq_getElem hi]
    have:=ag i us[i] (List.getElem?_eq_getElem hi)
    rw[Nat.zero_add]at this;exact this.symm
   ·rw[List.getElem?_eq_none (by omega),List.getElem?_eq_none (by omega)]
  subst this;exact⟨us,e,aq⟩
 | _=>exact one h an
end
section
variable {X:bs} {M:Bool} {n:Nat} {r:Option Nat} {st:aO} {Q:Exit->aO->Prop} {ops rest:List Oper} {o:Oper} {d:Nat}
end
end
section
section
variable {X:bs} {M:Bool} {n:Nat} {r:Option Nat} {st:aO} {Q:Exit->aO->Prop} {ops rest:List Oper} {o:Oper} {d:Nat}
end
end
section
section
variable {α β:Type}
end
end
section
section
variable {X:bs} {M:Bool} {n:Nat} {r:Option Nat} {st:aO} {Q:Exit->aO->Prop} {ops rest:List Oper} {o:Oper} {d:Nat}
end
end
section
def Cb(g:aU):Nat->List bm->Option (Bool×List g.D×List bm)
 | 0,r=>some (true,[],r)
 | m+1,r=>match dec g r with
  | some (fw,x,aF)=>match Cb g m aF with
   | some (cL,l,a7)=>some (fw&&cL,x :: l,a7)
   | none=>none
  | none=>none
section
variable {env:Nat->Loc} {B:Nat->Prop} {w:World}
theorem Nw{g:aU}:∀ {m:Nat} {cs:List bm} {c:Bool} {l:List g.D} {r:List bm} {vs:List Value},cH env B w cs vs->Cb g m cs=some (c,l,r)->c=true->l.length=m/\∃ v1 v2,vs=v1++v2/\Flat (bF B w g) l v1/\cH env B w r v2
 | 0,cs,c,l,r,vs,h,ax,_=>by
  cases ax;exact⟨rfl,[],vs,rfl,rfl,h⟩
 | m+1,cs,c,l,r,vs,h,ax,aa=>by
  simp only[Cb]at ax
  split at ax
  ·rename_i fw x aF J
   split at ax
   ·rename_i cL l2 a7 U
    cases ax;simp only[Bool.and_eq_true]at aa;obtain⟨v1,v2,rfl,ag,aq⟩:=qb h J aa.1;obtain⟨ah,v3,v4,rfl,aE,bb⟩:=Nw aq U aa.2;exact⟨by rw[List.length_cons,ah],v1++v3,v4,by rw[List.append_assoc],⟨v1,v3,rfl,ag,aE⟩,bb⟩
   ·cases ax
  ·cases ax
end
section
variable {X:bs} {R:Nat->Prop} {W:World} {aJ:e0} {n:Nat} {ks:List Nat} {env:Nat->Loc} {B:Nat->Prop} {al:World} {H:List bf} {st st':aO} {a:Act} {w:World}
end
section
variable {X:bs} {M:Bool} {n:Nat} {r:Option Nat} {st:aO} {Q:Exit->aO->Prop} {ops rest:List Oper} {o:Oper} {d:Nat}
end
end
section
def aU.key:aU->Bool
 | .int _=>true
 | .bool=>true
 | .str=>true
 | .pair g h=>g.key&&h.key
 | _=>false
def aU.cE:(g:aU)->g.D->List Value
 | .int k,x=>[.int k x]
 | .bool,x=>[.bool x]
 | .str,x=>[fc x]
 | .pair g h,x=>g.cE x.1++h.cE x.2
 | _,_=>[]
theorem bF.cE{B:Nat->Prop} {w:World}:∀ {g:aU} {x:g.D} {vs:List Value},g.key=true->bF B w g x vs->vs=g.cE x
 | .int _,_,_,_,h=>h
 | .bool,_,_,_,h=>h
 | .str,_,_,_,h=>h
 | .ai _,_,_,h,_=>by cases h
 | .gS _,_,_,h,_=>by cases h
 | .unit,_,_,h,_=>by cases h
 | .fn,_,_,h,_=>by cases h
 | .pair g h,x,_,ab,⟨v1,v2,e,J,U⟩=>by
  simp only[aU.key,Bool.and_eq_true]at ab;rw[e,bF.cE ab.1 J,bF.cE ab.2 U]
  rfl
theorem beq_iff{g:aU} (x y:g.D) (ab:g.key=true):g.beq x y=true ↔ x=y:=by
 induction g with
 | int k=>show((x:Int) == y)=true ↔ _; simp
 | bool=>show((x:Bool) == y)=true ↔ _; simp
 | str=>show((x:List UInt8) == y)=true ↔ _; simp
 | ai g _=>cases ab
 | gS g _=>cases ab
 | unit=>cases ab
 | fn=>cases ab
 | pair g h Gs Gt=>
  simp only[aU.key,Bool.and_eq_true]at ab;show(g.beq x.1 y.1&&h.beq x.2 y.2)=true ↔ _;rw[Bool.and_eq_true,Gs _ _ ab.1,Gt _ _ ab.2];exact⟨fun⟨a,b⟩=>Prod.ext a b,fun e=>by rw[e]; exact⟨rfl,rfl⟩⟩
structure sH(P:Program) (t:TypeId) (g:aU):Prop where
 key:g.key=true
 eq:∀ (x y:g.D) (w:World),(Op.equalIn 10000 t (.agg (g.cE x).toArray) (.agg (g.cE y).toArray)).run P w=.ok (g.beq x y) w
 guard:P.eqGuardType P.depth t=false
def aU.wK:aU->Nat->Bool
 | .int _,0=>true
 | .bool,1=>true
 | .str,2=>true
 | _,_=>false
def jP(e:TypeId->aU->Bool):Nat->List Field->aU->Bool
 | _,[],_=>false
 | off, [f], g => decide (f.name ≠ "_") && (Nat.beq f.offset off && e f.type g)
 | off, f :: c1, .pair g h => decide (f.name ≠ "_") && (Nat.beq f.offset off && (e f.type g && jP e (off + g.size) c1 h))
 | _,_,_=>false
def kS(P:Program) (tt:b9):Nat->TypeId->aU->Bool
 | 0,_,_=>false
 | d+1,t,g=>match tt.find t with
  | none=>false
  | some bw=>match bw.bq.desc with
   | .int _=>g.wK 0
   | .bool=>g.wK 1
   | .string=>g.wK 2
   | .struct c1=>Nat.beq bw.bq.size g.size&&(!P.stoodInHeld t&&jP (kS P tt d) 0 c1.toList g)
   | _=>false
def pv(tt:b9) (t:TypeId) (vs:List Value):Value:=match tt.find t with
 | some bw=>match lR bw.bq.desc with
  | true=>.agg vs.toArray
  | false=>vs.headD undef
 | none=>undef
theorem wL:∀ {g:aU} (x:g.D),g.key=true->(g.cE x).length=g.size
 | .int _,_,_=>rfl
 | .bool,_,_=>rfl
 | .str,_,_=>rfl
 | .ai _,_,h=>by cases h
 | .gS _,_,h=>by cases h
 | .unit,_,h=>by cases h
 | .fn,_,h=>by cases h
 | .pair g h,x,ab=>by
  simp only[aU.key,Bool.and_eq_true]at ab;show(g.cE x.1++h.cE x.2).length=g.size+h.size;rw[List.length_append,wL x.1 ab.1,wL x.2 ab.2]
theorem wM{P:Program} {tt:b9} (av:tt.ok P) {d:Nat} {t:TypeId} {g:aU} {x:g.D} {xs:Array Value} {off:Nat} {r:List Value} (ab:g.key=true) (he:kS P tt d t g=true) (ak:xs.toList.drop off=g.cE x++r) (w:World):(part t xs off).run P w=.ok (pv tt t (g.cE x)) w:=by
 cases d with
 | zero=>cases he
 | succ d=>
  unfold kS at he;cases az:tt.find t with
  | none=>simp[az]at he
  | some bw=>
   rw[az]at he;dsimp only at he;have ra:=(b9.get av az).bq;have J:∀ v,g.cE x=[v]->xs[off]?=some v:=fun v aC=>by
    have U:(xs.toList.drop off)[0]?=some v:=by rw[ak,aC]; rfl
    rw[List.getElem?_drop]at U
    simpa using U
   unfold part;simp only[Sem.run_bind,bD.x7 ra,Result.andThen_ok];unfold pv;rw[az];dsimp only;have iT:∀ q,g.wK q=true->∃ v,g.cE x=[v]:=fun q ar=>by
    cases g with
    | int k=>exact⟨_,rfl⟩
    | bool=>exact⟨_,rfl⟩
    | str=>exact⟨_,rfl⟩
    | ai _=>cases ab
    | gS _=>cases ab
    | unit=>cases ab
    | fn=>cases ab
    | pair _ _=>cases q<;>cases ar
   split at he
   ·rename_i ax
    obtain⟨v,aC⟩:=iT _ he;rw[ax,J v aC,aC]
    rfl
   ·rename_i ax
    obtain⟨v,aC⟩:=iT _ he;rw[ax,J v aC,aC]
    rfl
   ·rename_i ax
    obtain⟨v,aC⟩:=iT _ he;rw[ax,J v aC,aC]
    rfl
   ·rename_i c1 ax
    simp only[Bool.and_eq_true]at he;rw[ax];have an:=Nat.eq_of_beq_eq_true he.1;simp only[lR,if_true,Sem.run_bind,bD.run_sizeOf ra,Result.andThen_ok,Sem.run_pure,an];have ag:xs.extract off (off+g.size)=(g.cE x).toArray:=by
     apply Array.toList_inj.1
     rw[Array.toList_extract,List.extract_eq_take_drop,ak,Nat.add_sub_cancel_left,List.take_left' (wL x ab)]
    rw[ag]
   ·cases he
theorem Zb{P:Program} {tt:b9} (av:tt.ok P) {k d:Nat} (br:∀ t (g:aU) (x y:g.D) w,g.key=true->kS P tt k t g=true->(Op.equalIn d t (pv tt t (g.cE x)) (pv tt t (g.cE y))).run P w=.ok (g.beq x y) w) :
  ∀ (c1:List Field) (off:Nat) (g:aU) (x y:g.D) (xs ys:Array Value) (w:World),g.key=true->jP (kS P tt k) off c1 g=true->xs.toList.drop off=g.cE x->ys.toList.drop off=g.cE y->(Op.eqFields d xs ys c1).run P w=.ok (g.beq x y) w:=by
 intro c1
 induction c1 with
 | nil=>intro off g x y xs ys w _ h; simp[jP]at h
 | cons f c1 yT=>
  intro off g x y xs ys w ab h ak aL;cases c1 with
  | nil=>
   have aK : (decide (f.name ≠ "_") && (Nat.beq f.offset off && kS P tt k f.type g)) = true := by
    cases g<;>exact h
   simp only[Bool.and_eq_true,decide_eq_true_eq]at aK;obtain⟨aV,bg,he⟩:=aK;have bg:=Nat.eq_of_beq_eq_true bg;simp only[Op.eqFields,if_pos aV,Sem.run_bind,bg,wM av ab he (r:=[]) (by rw[ak,List.append_nil]),wM av ab he (r:=[]) (by rw[aL,List.append_nil]),Result.andThen_ok,br _ _ _ _ _ ab he];cases g.beq x y<;>simp
  | cons f2 c1=>
   cases g with
   | pair g U=>
    have aK : (decide (f.name ≠ "_") && (Nat.beq f.offset off && (kS P tt k f.type g && jP (kS P tt k) (off + g.size) (f2 :: c1) U))) = true := h
    simp only[Bool.and_eq_true,decide_eq_true_eq]at aK;obtain⟨aV,bg,he,aw⟩:=aK;have bg:=Nat.eq_of_beq_eq_true bg;simp only[aU.key,Bool.and_eq_true]at ab;have ni:xs.toList.drop off=g.cE x.1++U.cE x.2:=ak;have iW:ys.toList.drop off=g.cE y.1++U.cE y.2:=aL;have pw:=yT (off+g.size) U x.2 y.2 xs ys w ab.2 aw (by rw[<- List.drop_drop,ni,<- wL x.1 ab.1,List.drop_left]) (by rw[<- List.drop_drop,iW,<- wL y.1 ab.1,List.drop_left]);show _=Result.ok (g.beq x.1 y.1&&U.beq x.2 y.2) w;rw[Op.eqFields,if_pos aV];simp only[Sem.run_bind,bg,wM av ab.1 he ni,wM av ab.1 he iW,Result.andThen_ok,br _ _ _ _ _ ab.1 he];cases ae:g.beq x.1 y.1 with
    | true=>simpa using pw
    | false=>simp
   | int _=>simp[jP]at h
   | bool=>simp[jP]at h
   | str=>simp[jP]at h
   | ai _=>simp[jP]at h
   | gS _=>simp[jP]at h
   | unit=>simp[jP]at h
   | fn=>simp[jP]at h
theorem Zc{P:Program} {tt:b9} (av:tt.ok P) (m:Nat):∀ (k:Nat) (t:TypeId) (g:aU) (x y:g.D) (w:World),g.key=true->kS P tt k t g=true->(Op.equalIn (m+k) t (pv tt t (g.cE x)) (pv tt t (g.cE y))).run P w=.ok (g.beq x y) w:=by
 intro k
 induction k with
 | zero=>intro t g x y w _ h; cases h
 | succ k br=>
  intro t g x y w ab h;have aN:=h;unfold kS at h;cases az:tt.find t with
  | none=>simp[az]at h
  | some bw=>
   rw[az]at h;dsimp only at h;have ra:=(b9.get av az).bq;have gN:=ra.1;unfold pv;rw[az];dsimp only
   split at h
   ·rename_i j4 ax
    rw[ax]at gN ⊢;cases g with
    | int k=>exact run_equalIn_int w _ t _ _ _ _ gN
    | _=>cases h
   ·rename_i ax
    rw[ax]at gN ⊢;cases g with
    | bool=>exact run_equalIn_bool w _ t _ _ gN
    | _=>cases h
   ·rename_i ax
    rw[ax]at gN ⊢;cases g with
    | str=>
     have:=run_equalIn_string (P:=P) w (m+k) t ⟨List.toArray x⟩ ⟨List.toArray y⟩ gN
     simp only[ye]at this;exact this
    | _=>cases h
   ·rename_i c1 ax
    rw[ax]at gN ⊢;simp only[Bool.and_eq_true,Bool.not_eq_true']at h;have Zd:P.underlying t=some (.struct c1.toList.toArray):=by simpa using gN
    show(Op.equalIn (m+k+1) t (.agg _) (.agg _)).run P w=_;rw[Ug w (m+k) t _ _ Zd h.2.1];exact Zb av br c1.toList 0 g x y _ _ w ab h.2.2 (by simp) (by simp)
   ·cases h
theorem sH.of{P:Program} {tt:b9} (av:tt.ok P) {t:TypeId} {bw:bh} {g:aU} {c1:Array Field} (ab:g.key=true) (az:tt.find t=some bw) (ax:bw.bq.desc=.struct c1) (h:kS P tt 12 t g=true) (aQ:P.eqGuardType P.depth t=false):sH P t g:=by
 refine⟨ab,fun x y w=>?_,aQ⟩
 have:=Zc av 9988 12 t g x y w ab h
 unfold pv at this;rw[az]at this;dsimp only at this;rw[ax]at this;exact this
section
variable {X:bs} {M:Bool} {n:Nat} {r:Option Nat} {st:aO} {Q:Exit->aO->Prop} {ops rest:List Oper} {o:Oper} {d:Nat}
theorem cH.cE{env:Nat->Loc} {B:Nat->Prop} {w:World} {g:aU} {cs:List bm} {x:g.D} {c:Bool} {v:Value} (ab:g.key=true) (J:dH env B w (.agg cs) v) (ax:dec g cs=some (c,x,[])) (aa:c=true):v=.agg (g.cE x).toArray:=by
 obtain⟨vs,rfl,J⟩:=J;obtain⟨v1,v2,aS,az,U⟩:=qb J ax aa;have aq:v2=[]:=U;subst aq;rw[List.append_nil]at aS;subst aS;rw[bF.cE ab az]
end
end
section
open Go.ChangeShapes Go.WideShapes Go.ChangeAt Go.WideElems Go.RowKit
def rn:(g:aU)->g.D->Prop
 | .int k,(x:Int)=>k.min<=x/\x<=k.max
 | .ai g,(l:List g.D)=>∀ y∈l,rn g y
 | .pair g h,x=>rn g x.1/\rn h x.2
 | _,_=>True
def uh(tt:b9) (t:TypeId) (n:Nat):Bool:=match tt.find t with
 | some bw=>Nat.beq bw.bq.size n
 | none=>false
def ov(tt:b9) (e:TypeId->aU->Bool):Nat->List Field->aU->Bool
 | _,[],_=>false
 | off,[f],g=>Nat.beq f.offset off&&(uh tt f.type g.size&&e f.type g)
 | off,f :: c1,.pair g h=>Nat.beq f.offset off&&(uh tt f.type g.size&&(e f.type g&&ov tt e (off+g.size) c1 h))
 | _,_,_=>false
def ow(tt:b9) (e:TypeId->aU->Bool) (t:TypeId) (s:Nat):Nat->aU->Bool
 | 0,_=>false
 | 1,g=>Nat.beq g.size s&&e t g
 | n+1,.pair g h=>Nat.beq g.size s&&(e t g&&ow tt e t s n h)
 | _,_=>false
def aU.Ze:aU->IntKind->Bool
 | .int k,k'=>decide (k=k')
 | _,_=>false
def yU(tt:b9):Nat->TypeId->aU->Bool
 | 0,_,_=>false
 | d+1,t,g=>match tt.find t with
  | none=>false
  | some bw=>match bw.bq.desc with
   | .int k=>g.Ze k
   | .bool=>g.wK 1
   | .string=>g.wK 2
   | .slice e=>match g with
    | .ai h=>Nat.blt 0 h.size&&(uh tt e h.size&&yU tt d e h)
    | _=>false
   | .struct c1=>Nat.beq bw.bq.size g.size&&ov tt (yU tt d) 0 c1.toList g
   | .array n e=>Nat.beq bw.bq.size g.size&&(match tt.find e with
    | some dC=>ow tt (yU tt d) e dC.bq.size n g
    | none=>false)
   | _=>false
section
variable {H:Type} {enc:TypeId×Value->H} {P:Program} {W:World} {tt:b9}
theorem Gz(av:tt.ok P) {t:TypeId} {bw:bh} (h:tt.find t=some bw):P.cellsOf t=bw.bq.size:=by
 obtain⟨x,J,U,_⟩:=bD.info (b9.get av h).bq;unfold Program.cellsOf;rw[J];exact U
theorem GA(av:tt.ok P) {t:TypeId} {n:Nat} (h:uh tt t n=true):P.cellsOf t=n:=by
 unfold uh at h
 split at h
 ·rename_i bw az
  rw[Gz av az];exact Nat.eq_of_beq_eq_true h
 ·cases h
theorem Zf{g:aU} {R:g.D->Prop} (km:0 < g.size) {t e:TypeId} (a8:P.underlying t=some (.slice e)) (aa:P.cellsOf e=g.size) (mq:uf enc P W e g R):uf enc P W t (.ai g) (fun(l:List g.D)=>∀ y∈l,R y):=fun k cs x az=>by
 let α:={ p:g.D×List Value // R p.1/\bF (fun b=>b < W.heap.size) W g p.1 p.2 }
 let f:α->List Value:=fun p=>p.1.2
 have an:∀ x:α,(f x).length=g.size:=fun x=>x.2.2.length
 rcases DataW.trod_slice a8 az with⟨h,_⟩ | ⟨a,len,cap,elems,rest,n,_,h,_,_,ah,hm,hlen,nD,_,_⟩
 ·subst h
  exact⟨([]:List g.D),(fun y aL=>by cases aL),none,0,[],rfl,Nat.le_refl _,Nat.zero_le _,rfl,Reads.nil _ _ _,fun _ _ h=>absurd h (Nat.lt_irrefl _)⟩
 ·subst h
  rw[aa]at nD;obtain⟨l,p6,ar⟩:=Ft (Q:=fun i (y:α)=>∀ j,j < g.size->W.cell? ((a.add (i * g.size)).add j)=(f y)[j]?) len (fun i hi=>by
   have J:=nD i hi;have U:elems[i]?=some (elems[i]'(by omega)):=List.getElem?_eq_getElem (by omega);rw[U,Option.bind_eq_some_iff]at J;obtain⟨cs,ag,aq⟩:=J;obtain⟨y,Zg,kT⟩:=mq _ _ _ aq;exact⟨⟨(y,cs),Zg,kT⟩,(World.cells?_some ag).2.2⟩)
  have aw:Reads W (some a) len g.size (l.flatMap f):=by
   refine⟨by rw[mX f g.size an,p6],fun aN=>?_⟩;have bG:=ar 0 (by omega) 0 km;have qZ:W.cell? a=some ((f l[0])[0]'(by rw[an]; exact km)):=by
    have aS:(a.add (0 * g.size)).add 0=a:=by simp[Addr.add]
    rw[aS,List.getElem?_eq_getElem (by rw[an]; exact km)]at bG;exact bG
   have jn:=Ml qZ;refine⟨a.block,a.off,congrArg some jn,fun j u hu=>?_⟩;have aH:j < len * g.size:=by have:=(List.getElem?_eq_some_iff.1 hu).1; rwa [mX f g.size an,p6]at this
   have hdiv:j / g.size < len:=(Nat.div_lt_iff_lt_mul km).2 aH;have tK:=Nat.mod_lt j km;have aE:=ar (j / g.size) (by omega) (j % g.size) tK;rw[jn,Addr.add_lit,Addr.add_lit,List.getElem?_eq_getElem (by rw[an]; exact tK)]at aE;have bb:=Mj f g.size an l (j / g.size) (j % g.size) (by omega) _ (List.getElem?_eq_getElem (by rw[an]; exact tK));have yf:j / g.size * g.size+j % g.size=j:=by rw[Nat.mul_comm]; exact Nat.div_add_mod j g.size
   rw[yf,hu]at bb;rw[Nat.add_assoc,yf]at aE;rw[aE,bb]
  refine⟨l.map (·.1.1),fun x ak=>?_,some a,cap,l.flatMap f,by rw[List.length_map,p6],by rw[List.length_map,p6]; exact ah,hm,Gv l,by rw[List.length_map,p6]; exact aw,fun b p hm e=>?_⟩
  ·obtain⟨p,_,rfl⟩:=List.mem_map.1 ak
   exact p.2.1
  ·rw[List.length_map]at hm
   obtain⟨b',Bs,cj,k9⟩:=aw.2 (by omega);rw[e]at cj;cases cj;cases ak:(l.flatMap f)[0]? with
   | some u=>exact Nu (k9 0 u ak)
   | none=>
    exfalso
    have ag:=aw.1;rw[List.getElem?_eq_none_iff]at ak;have aq:0 < len * g.size:=Nat.mul_pos (by omega) km;omega
theorem Zh(av:tt.ok P) {e:TypeId->aU->Bool} (br:∀ t g,e t g=true->uf enc P W t g (rn g)):∀ (c1:List Field) (off:Nat) (g:aU) (cs:List Value),ov tt e off c1 g=true->cs.length=off+g.size ->
  (∀ f∈c1,∃ m x,DataW.trod enc P W 0 (fun _=>true) true m f.type ((cs.drop f.offset).take (P.cellsOf f.type))=some x)->∃ y:g.D,rn g y/\bF (fun b=>b < W.heap.size) W g y (cs.drop off):=by
 intro c1
 induction c1 with
 | nil=>intro off g cs h; simp[ov]at h
 | cons f c1 yT=>
  intro off g cs h ah az;cases c1 with
  | nil=>
   have aK:(Nat.beq f.offset off&&(uh tt f.type g.size&&e f.type g))=true:=by
    cases g<;>exact h
   simp only[Bool.and_eq_true]at aK;obtain⟨bg,an,he⟩:=aK;have bg:=Nat.eq_of_beq_eq_true bg;obtain⟨m,x,ak⟩:=az f List.mem_cons_self;obtain⟨y,J,U⟩:=br _ _ he _ _ _ ak;rw[bg,GA av an,List.take_of_length_le (by rw[List.length_drop]; omega)]at U;exact⟨y,J,U⟩
  | cons f2 c1=>
   cases g with
   | pair g U=>
    have aK:(Nat.beq f.offset off&&(uh tt f.type g.size&&(e f.type g&&ov tt e (off+g.size) (f2 :: c1) U)))=true:=h;simp only[Bool.and_eq_true]at aK;obtain⟨bg,an,he,aw⟩:=aK;have bg:=Nat.eq_of_beq_eq_true bg;have hU:cs.length=off+(g.size+U.size):=ah;obtain⟨m,x,ak⟩:=az f List.mem_cons_self;obtain⟨mu,ag,aq⟩:=br _ _ he _ _ _ ak;rw[bg,GA av an]at aq;obtain⟨lf,aE,bb⟩:=yT (off+g.size) U cs aw (by omega) (fun q ar=>az q (List.mem_cons_of_mem _ ar));refine⟨(mu,lf),⟨ag,aE⟩,_,_,?_,aq,bb⟩;rw[<- List.drop_drop,List.take_append_drop]
   | int _=>simp[ov]at h
   | bool=>simp[ov]at h
   | str=>simp[ov]at h
   | ai _=>simp[ov]at h
   | gS _=>simp[ov]at h
   | unit=>simp[ov]at h
   | fn=>simp[ov]at h
theorem Zi{e:TypeId->aU->Bool} {t:TypeId} {s:Nat} (br:∀ g,e t g=true->uf enc P W t g (rn g)):∀ (n:Nat) (i0:Nat) (g:aU) (cs:List Value),ow tt e t s n g=true->cs.length=i0 * s+g.size ->
  (∀ i,i < n->∃ m x,DataW.trod enc P W 0 (fun _=>true) true m t ((cs.drop ((i0+i) * s)).take s)=some x)->∃ y:g.D,rn g y/\bF (fun b=>b < W.heap.size) W g y (cs.drop (i0 * s)):=by
 intro n
 induction n with
 | zero=>intro i0 g cs h; simp[ow]at h
 | succ n Zj=>
  intro i0 g cs h ah az;cases n with
  | zero=>
   have aK:(Nat.beq g.size s&&e t g)=true:=by
    cases g<;>exact h
   simp only[Bool.and_eq_true]at aK;obtain⟨an,he⟩:=aK;have an:=Nat.eq_of_beq_eq_true an;obtain⟨m,x,ak⟩:=az 0 (by omega);obtain⟨y,J,U⟩:=br _ he _ _ _ ak;rw[Nat.add_zero,List.take_of_length_le (by rw[List.length_drop]; omega)]at U;exact⟨y,J,U⟩
  | succ n=>
   cases g with
   | pair g U=>
    have aK:(Nat.beq g.size s&&(e t g&&ow tt e t s (n+1) U))=true:=h;simp only[Bool.and_eq_true]at aK;obtain⟨an,he,aw⟩:=aK;have an:=Nat.eq_of_beq_eq_true an;have hU:cs.length=i0 * s+(g.size+U.size):=ah;obtain⟨m,x,ak⟩:=az 0 (by omega);obtain⟨mu,ag,aq⟩:=br _ he _ _ _ ak;obtain⟨lf,aE,bb⟩:=Zj (i0+1) U cs aw (by rw[Nat.add_mul]; omega) (fun i hi=>by
     have:=az (i+1) (by omega)
     rw[show i0+1+i=i0+(i+1) by omega];exact this)
    refine⟨(mu,lf),⟨ag,aE⟩,_,_,?_,aq,bb⟩;rw[Nat.add_zero,Nat.add_mul,Nat.one_mul,<- List.drop_drop,List.take_append_drop]
   | int _=>simp[ow]at h
   | bool=>simp[ow]at h
   | str=>simp[ow]at h
   | ai _=>simp[ow]at h
   | gS _=>simp[ow]at h
   | unit=>simp[ow]at h
   | fn=>simp[ow]at h
theorem Zk(av:tt.ok P):∀ (d:Nat) (t:TypeId) (g:aU),yU tt d t g=true->uf enc P W t g (rn g):=by
 intro d
 induction d with
 | zero=>intro t g h; cases h
 | succ d br=>
  intro t g h k cs x ak;unfold yU at h;cases az:tt.find t with
  | none=>simp[az]at h
  | some bw=>
   rw[az]at h;dsimp only at h;have ra:=(b9.get av az).bq;have gN:=ra.1;have dv:=Gz av az
   split at h
   ·rename_i j4 ax
    rw[ax]at gN;cases g with
    | int en=>
     have:en=j4:=of_decide_eq_true h
     subst this;exact Y6 gN k cs x ak
    | _=>cases h
   ·rename_i ax
    rw[ax]at gN;cases g with
    | bool=>
     obtain⟨b,rfl,_⟩:=DataW.trod_bool gN ak;exact⟨b,trivial,rfl⟩
    | _=>cases h
   ·rename_i ax
    rw[ax]at gN;cases g with
    | str=>
     obtain⟨s,rfl,_⟩:=DataW.trod_string gN ak;exact⟨s.data.toList,trivial,rfl⟩
    | _=>cases h
   ·rename_i e ax
    rw[ax]at gN;cases g with
    | ai g=>
     simp only[Bool.and_eq_true]at h;exact Zf (dY h.1) gN (GA av h.2.1) (br _ _ h.2.2) k cs x ak
    | _=>cases h
   ·rename_i c1 ax
    rw[ax]at gN;simp only[Bool.and_eq_true]at h;have an:=Nat.eq_of_beq_eq_true h.1;obtain⟨xs,n,_,_,hlen,j0,nD⟩:=DataW.trod_struct gN ak;rw[dv,an]at hlen;obtain⟨y,J,U⟩:=Zh (enc:=enc) (W:=W) av br c1.toList 0 g cs h.2 (by omega) (fun f Zl=>by
     obtain⟨i,hi,rfl⟩:=List.mem_iff_getElem.1 Zl;have lT:i < c1.size:=by simpa using hi
     have ag:=nD i c1[i] (Array.getElem?_eq_getElem lT);rw[List.getElem?_eq_getElem (by omega)]at ag;exact⟨n,_,by simpa using ag⟩)
    exact⟨y,J,U⟩
   ·rename_i n e ax
    rw[ax]at gN;simp only[Bool.and_eq_true]at h;have an:=Nat.eq_of_beq_eq_true h.1;obtain⟨xs,m,_,_,hlen,j0,nD⟩:=DataW.trod_array gN ak;rw[dv,an]at hlen;have U:=h.2
    split at U
    ·rename_i dC Zm
     rw[Gz av Zm]at nD;obtain⟨y,J,ag⟩:=Zi (enc:=enc) (W:=W) (tt:=tt) (fun g aQ=>br e g aQ) n 0 g cs U (by omega) (fun i hi=>by
      have ag:=nD i hi;rw[List.getElem?_eq_getElem (by omega)]at ag;rw[Nat.zero_add];exact⟨m,_,ag⟩)
     rw[Nat.zero_mul]at ag;exact⟨y,J,ag⟩
    ·cases U
   ·cases h
end
end
section
section
variable {env:Nat->Loc} {B:Nat->Prop} {w:World}
end
def aU.rp:aU->Bool
 | .pair _ _=>true
 | _=>false
theorem dZ.Zn{B:Nat->Prop} {w:World} {g:aU} {x:g.D} {vs:List Value} (h:bF B w g x vs) (ao:g.rp=true):dZ B w g x (.agg vs.toArray):=by
 cases g with
 | pair a b=>exact⟨vs,rfl,h⟩
 | _=>cases ao
theorem dZ.Zo{B:Nat->Prop} {w:World} {g:aU} {x:g.D} {v:Value} (h:bF B w g x [v]) (ao:g.rp=false):dZ B w g x v:=by
 cases g with
 | pair a b=>cases ao
 | _=>exact h
section
variable {X:bs} {M:Bool} {n:Nat} {r:Option Nat} {st:aO} {Q:Exit->aO->Prop} {ops rest:List Oper} {o:Oper} {d:Nat}
end
end
section
section
variable {P:Program} {b:Frame} {a:Act} {k:List Item} {cs:List Frame} {w:World} {Q:Exit->Act->World->Prop} {F:Fence} {n:Nat}
theorem yV{c:Code}:step P (lone (b.atR a (.code (.scope c) :: k)) cs w)=.next (lone (b.atR a (.code c :: .inScope c :: k)) cs w):=
 step_lone_go (by simp[stepG,stepG.exec,Frame.atR])
theorem Zp{c:Code}:step P (lone (b.atR a (.inScope c :: k)) cs w)=.next (lone (b.atR a k) cs w):=
 step_lone_go (by simp[stepG,stepG.exec,Frame.atR])
theorem Zq{c:Code} (h:c.wpIn F n P (Exit.noGoto Q) a w):(Code.scope c).wpIn F n P Q a w:=by
 intro b k cs ui ae aw;have aN:(lone (b.atR a (.code (.scope c) :: k)) cs w).fenced P F:=fenced_calm ae aw rfl;obtain⟨e,sI,yW,ar,wN⟩:=h b (.inScope c :: k) cs ui ae aw;have ak:∀ id,exitTo id (.inScope c :: k)=exitTo id k:=fun id=>by simp[exitTo]
 cases e with
 | normal=>exact⟨.normal,sI,yW,ar,.head aN yV (StepsIn.trans wN (.one (fenced_calm ae aw rfl) Zp))⟩
 | exit id=>exact⟨.exit id,sI,yW,ar,.of_steps (.one aN yV) ⟨fun k' ab=>wN.1 k' (by rw[ak]; exact ab),fun aw ab=>wN.2 aw (by rw[ak]; exact ab)⟩⟩
 | goto l=>exact ar.elim
 | ret=>exact⟨_,sI,yW,ar,.of_steps (.one aN yV) wN⟩
 | panic Zr=>exact⟨_,sI,yW,ar,.of_steps (.one aN yV) wN⟩
 | outgrown=>exact⟨_,sI,yW,ar,.of_steps (.one aN yV) wN⟩
end
section
variable {X:bs} {M:Bool} {n:Nat} {r:Option Nat} {st:aO} {Q:Exit->aO->Prop} {c:Code}
theorem Zs{l:Nat} (h:Q .normal st):lk X M n r (.label l) st Q:=fun R W aJ a w aj=>wpIn_label ⟨st,h,aj⟩
end
end
section
section
variable {X:bs} {M:Bool} {n:Nat} {r:Option Nat} {st:aO} {Q:Exit->aO->Prop} {ops rest:List Oper} {o:Oper} {d:Nat}
end
end
section
theorem Zt{P:Program} {t e:TypeId} {m:Nat} {i':bD} {cs:List Value} {k:IntKind} {j:Nat} {w:World} (a8:P.underlying t=some (.array m e)) (he:bD.ok P e i') (aH:j < m) {v:Value} (aC:(part e cs.toArray (j * i'.size)).run P w=.ok v w):(Instr.index t (.agg cs.toArray) (.int k (j:Int))).run P w=.ok v w:=by
 have aN:(0:Int)<=(j:Int):=Int.natCast_nonneg j;unfold Instr.index;simp only[asIntOf,Sem.run_bind,Sem.run_pure,Result.andThen_ok,run_underlying a8];rw[if_pos ⟨aN,by omega⟩];simp only[Sem.run_bind,bD.run_sizeOf he,Result.andThen_ok,Int.toNat_natCast,aC]
theorem Zu{P:Program} {e:TypeId} {i':bD} {B:Nat->Prop} {al w:World} {g:aU} {l:List g.D} {vs:List Value} {j:Nat} (he:bD.ok P e i') (az:Flat (bF B al g) l vs) (aH:j < l.length) (dv:g.size=i'.size) (qm:lR i'.desc=g.rp) (iT:(g.rp || Nat.beq g.size 1)=true) :
  ∃ v,(part e vs.toArray (j * i'.size)).run P w=.ok v w/\dZ B al g (l.getD j g.zero) v:=by
 have j0:l[j]?=some (l.getD j g.zero):=by rw[List.getD_eq_getElem?_getD,List.getElem?_eq_getElem aH]; rfl
 have U:=Flat.get (fun _ _=>bF.length) az j0;have hlen:=bF.length U;cases ao:g.rp with
 | true=>
  refine⟨.agg (vs.toArray.extract (j * i'.size) (j * i'.size+i'.size)),?_,?_⟩
  ·unfold part
   simp[bD.x7 he,qm,ao,bD.run_sizeOf he]
  ·have:=dZ.Zn U ao
   rw[<- dv];have ay:vs.toArray.extract (j * g.size) (j * g.size+g.size)=((vs.drop (j * g.size)).take g.size).toArray:=by
    apply Array.ext'
    simp[Array.toList_extract,List.extract]
   rw[ay];exact this
 | false=>
  rw[ao,Bool.false_or]at iT;have yk:=Nat.eq_of_beq_eq_true iT;obtain⟨v,oj⟩:∃ v,(vs.drop (j * g.size)).take g.size=[v]:=by
   match hm:(vs.drop (j * g.size)).take g.size,hlen with
   | [v],_=>exact⟨v,rfl⟩
   | [],h=>simp[yk]at h
   | _ :: _ :: _,h=>simp[yk]at h
  have q7:vs[j * i'.size]?=some v:=by
   have:=congrArg (·[0]?) oj
   rw[<- dv]
   simpa [List.getElem?_take,List.getElem?_drop,yk] using this
  refine⟨v,?_,dZ.Zo (by rw[<- oj]; exact U) ao⟩;unfold part
  simp[bD.x7 he,qm,ao,q7]
def Cc(g:aU) (m:Nat):bl->Option (Bool×List g.D)
 | .agg cs=>match Cb g m cs with
  | some (c,l,[])=>some (c,l)
  | _=>none
 | .arr g' l=>match decEq g' g with
  | isTrue h=>some (true,h ▸ l)
  | isFalse _=>none
 | _=>none
theorem Zv{env:Nat->Loc} {B:Nat->Prop} {w:World} {g:aU} {m:Nat} {x:bl} {c:Bool} {l:List g.D} {v:Value} (h:dH env B w x v) (aX:Cc g m x=some (c,l)) (aa:c=true):∃ vs,v=.agg vs.toArray/\Flat (bF B w g) l vs:=by
 unfold Cc at aX
 split at aX
 ·split at aX
  ·rename_i c' l' ax
   cases aX;obtain⟨vs,rfl,J⟩:=h;obtain⟨_,v1,v2,e,U,ag⟩:=Nw J ax aa;have aq:v2=[]:=ag;rw[aq,List.append_nil]at e;subst e;exact⟨_,rfl,U⟩
  ·cases aX
 ·split at aX
  ·rename_i aQ _
   subst aQ;cases aX;exact h
  ·cases aX
 ·cases aX
section
variable {X:bs} {M:Bool} {n:Nat} {r:Option Nat} {st:aO} {Q:Exit->aO->Prop} {ops rest:List Oper} {o:Oper} {d:Nat}
end
end
section
theorem Zw(s:List UInt8) (a b:Nat):Value.string ((ByteArray.mk s.toArray).extract a b)=fc ((s.take b).drop a):=by
 unfold fc
 congr 1
 apply ByteArray.ext
 rw[ByteArray.data_extract]
 apply Array.ext'
 simp[Array.toList_extract,List.extract,List.drop_take]
section
variable {X:bs} {M:Bool} {n:Nat} {r:Option Nat} {st:aO} {Q:Exit->aO->Prop} {ops rest:List Oper} {o:Oper} {d:Nat}
theorem GB{P:Program} {t:TypeId} {s:List UInt8} {w:World} (a8:P.underlying t=some .string) {lo hi:Option Value} {a b:Nat} (h:(Instr.sliceBounds false s.length s.length lo hi none).run P w=.ok (a,b,s.length) w):(Instr.sliceAt t (fc s) lo hi none).run P w=.ok (fc ((s.take b).drop a)) w:=by
 have dv:(ByteArray.mk s.toArray).size=s.length:=by simp[ByteArray.size]
 unfold Instr.sliceAt Instr.slice;simp only[fc,Sem.run_bind,run_underlying a8,Result.andThen_ok,dv,h,Option.isSome_none,Bool.false_eq_true,if_false,Sem.run_pure]
 have:=Zw s a b
 simp only[fc]at this;rw[this]
end
end
section
section
variable {P:Program} {o:Oper} {n d:Nat} {D:List Deferred} {L:List (Nat×Value)} {a:Act} {w al:World} {B:Nat->Prop} {H:List bf} {T:List (TypeId×bD)} {ops:Array Oper} {KK:Act->World->Prop}
theorem Nx{s x:Operand} {t e:TypeId} {i i':bD} {A c2:Option Addr} {k m cc:Nat} {xs news:List Value} (av:Sym n D L B al H a w)
  (aA:o.op=.call { callee:=.builtin .append,args:=#[s,x],argTypes:=#[t,t] }) (bg:o.guard=none/\o.dst=some d) (ax:Nat.blt d n=true)
  (bI:hp P T) (J:T.lookup t=some i) (U:i.desc=.slice e) (ag:T.lookup e=some i') (aq:Nat.blt 0 i'.size=true) (aE:i'.zero.cells.size=i'.size) (an:aD L s=some (.slice A k k)) (ak:aD L x=some (.slice c2 m cc))
  (jF:Reads w A k i'.size xs) (aw:Reads w c2 m i'.size news) (iT:∀ u∈news,u.oneCell'=true) (hs:(k+m) * i'.bytes<=140737488355328) (ij:k+m<=140737488355328)
  (bG:m=0->∀ aP w',Sym n D ((d,.slice A k k) :: L) B al H aP w'->KK aP w')
  (h:∀ bP c' aP w',Sym n D ((d,.slice bP (k+m) c') :: L) B al (.row bP c' e i'.size (k+m) (xs++news) :: H) aP w'->KK aP w'):eS P ops o KK a w:=by
 have ay:=(bI _ _ J).1;rw[U]at ay;have cz:=bI _ _ ag
 by_cases hm:m=0
 ·subst hm
  have dy:(execOp a.eval o).run P w=.ok (.value (.slice A k k)) w:=by
   have o8:(Builtin.append_ #[t,t] o.type #[.slice A k k,.slice c2 0 cc]).run P w=.ok (.slice A k k) w:=by
    have hh:=bD.run_sizeOf cz w;have o9:(Builtin.firstCells i'.size 0 (.slice c2 0 cc)).run P w=.ok #[] w:=by
     cases c2<;>simp[Builtin.firstCells,loadCells,loadCellsFrom]
    simp only[Builtin.append_,Sem.run_bind,run_underlying ay,Result.andThen_ok,hh]
    simp[run_underlying ay,Builtin.lenOf,o9]
    cases A<;>simp[storeCells,hh,o9]
   simp[execOp,aA,resolve,invoke,builtin,av.aD an,av.aD ak,o8]
  exact qW av bg ax dy av.aM (bG rfl)
 ·have o7:0 < m:=by omega
  cases A with
  | none=>
   have ab:k=0:=by
    by_cases ab:k=0
    ·exact ab
    ·obtain⟨b,p,e,_⟩:=jF.2 (by omega)
     cases e
   subst ab;have qk:xs=[]:=List.eq_nil_of_length_eq_zero (by rw[jF.1]; simp);subst qk;have tT:Sym n D L B al (.row none 0 e i'.size 0 [] :: H) a w:=⟨av.st,av.aM.sg e i'.size⟩
   exact Bp tT aA bg ax bI J U ag aq aE an ak vT aw iT hs ij h
  | some vW=>
   obtain⟨inf,pZ,fb,ih,mn⟩:=bD.info cz;obtain⟨jE,hF,cj,h4⟩:=aw.2 o7;subst cj;have holds:∀ j u,xs[j]?=some u->w.cell? (vW.add j)=some u:=fun j u hu=>by
    have aW:j < xs.length:=(List.getElem?_eq_some_iff.1 hu).1;rw[jF.1]at aW;have ab:0 < k:=by
     rcases Nat.eq_zero_or_pos k with ab | ab
     ·rw[ab,Nat.zero_mul]at aW; omega
     ·exact ab
    obtain⟨b,p,cj,iG⟩:=jF.2 ab;cases cj;rw[Addr.add_lit];exact iG j u hu
   have hlen:(xs++news).length=(k+m) * i'.size:=by rw[List.length_append,jF.1,aw.1,Nat.add_mul]
   have dy:=run_append_grow (P:=P) w t o.type e inf i'.zero ay pZ mn vW k k xs (by rw[jF.1,fb]) holds ⟨jE,hF,none⟩ m cc news (by rw[aw.1,fb]) (fun j u hu=>by rw[Addr.add_lit]; exact h4 j u hu) (by omega) (by omega) (growslice_fits (by omega) (by rw[ih]; exact hs));have p0:=grownCap_ge w (k+m) k e;have iF:grownCap w (k+m) k e<=maxLen:=grownCap_le_maxLen w (k+m) k e (by simp only[maxLen]; omega);refine qW av bg ax (v:=.slice (some ⟨w.heap.size,0,none⟩) (k+m) (grownCap w (k+m) k e)) (w':=w.drew.alloc (.cells (xs.toArray++news.toArray++Builtin.zeroCells i'.zero.cells (grownCap w (k+m) k e - (k+m))) e)) (by simp[execOp,aA,resolve,invoke,builtin,av.aD an,av.aD ak,dy]) ?_ (h (some ⟨w.heap.size,0,none⟩) (grownCap w (k+m) k e));have lU:=av.aM.drew;have aX:=lU.alloc (.cells (xs.toArray++news.toArray++Builtin.zeroCells i'.zero.cells (grownCap w (k+m) k e - (k+m))) e);have ao:=List.pairwise_cons.1 aX.apart;refine⟨aX.below,aX.base,fun ee ik=>?_,List.Pairwise.cons (fun ee ik q cj=>ao.1 ee ik q (by simpa [bf.has] using cj)) ao.2⟩
   rcases List.mem_cons.1 ik with rfl | ik
   ·refine⟨hlen,.inr ⟨w.heap.size,_,(0,0),rfl,av.aM.fresh,heap_alloc_new w.drew _,.inl rfl,p0,iF,?_,?_⟩⟩
    ·simp only[Array.size_append,List.size_toArray,size_zeroCells,aE,jF.1,aw.1,<- Nat.add_mul]
     congr 1
     omega
    ·simp only[Array.toList_append,List.append_assoc]
     rw[<- List.append_assoc,<- hlen];exact List.take_left
   ·exact aX.ok ee (List.mem_cons_of_mem _ ik)
end
section
variable {X:bs} {M:Bool} {n:Nat} {r:Option Nat} {st:aO} {Q:Exit->aO->Prop} {ops rest:List Oper} {o:Oper} {d:Nat}
def gp(X:bs) (n:Nat) (o:Oper) (st st':aO):Prop:=∀ (R:Nat->Prop) (W:World) (aJ:e0) (ks:List Nat) (env:Nat->Loc) (B:Nat->Prop) (al:World) (H:List bf) (a:Act) (w:World),bH X R W aJ n ks env B al H st a w->∀ (KK:Act->World->Prop) (l:List Oper),(∀ aP w' env' H',bH X R W aJ n ks env' B al H' st' aP w'->KK aP w')->eS X.P l.toArray o KK a w
theorem Cd{st':aO} {E:List Nat} {aG:hJ} {fuel i:Nat} {l':Array Bool} (hi:nth ops i=some o) (ao:gp X n o st st') (gn:fg E aG.listed i=false) (ah:aG.listed.setIfInBounds i true=l')
  (h:jq X M n ops E fuel ⟨l',false,false,aG.ky,aG.all⟩ st' Q):qg X M n ops E fuel aG st Q i:=by
 intro R W aJ dc dG cN F ks env B al H a w bL aj dD;refine⟨o,lv hi,ao R W aJ ks env B al H a w aj _ _ fun aP w' env' H' ck=>?_⟩;have gD:=dD.lost (H':=H') (l:=l');rw[ah];exact⟨⟨fun he=>(by rw[gn]at he; cases he),gD.F ck⟩,h R W aJ dc dG cN F ks env' B al H' aP w' bL ck gD⟩
theorem Zx(av:X.tt.ok X.P) {t e:TypeId} {x y:Operand} {g1 g2:Bool} {eb:bl} {id cJ gU:Nat} {ge g:aU} {l l2:List g.D} {bw:bh} {aG:TypeDesc} {kO:Value} (aA:o.op=.call ⟨.builtin .append,⟨[x,y]⟩,⟨[t,t]⟩⟩) (bg:o.guard=none/\o.dst=some d) (ax:(Nat.blt d n&&Nat.blt id h5)=true)
  (a8:X.tt.find t=some bw) (dh:bw.bq.desc=.slice e) (he:X.tt.find e=some ⟨⟨aG,cJ,gU,kO⟩,some ge⟩) (ak:bp X st.L x=some (g1,.c (.ai id))) (aQ:g1=true) (aL:bp X st.L y=some (g2,eb)) (ea:g2=true)
  (b5:bd st.H id=some (.gl e g l)) (dv:Nat.beq g.size cJ=true) (my:mx st g eb=some l2) (aa:eg gU (l.length+l2.length)=true):gp X n o st ⟨(d,.c (.ai id)) :: fK id .dead st.L,(id,.gl e g (l++l2)) :: ef id .dead st.H⟩:=by
 intro R W aJ ks env B al H a w h KK lo ei;obtain⟨vx,gZ,kt⟩:=h.aD ak aQ;obtain⟨vy,fF,j3⟩:=h.aD aL ea;obtain⟨dN,dm,jo⟩:=(b9.get av he).g ge rfl;obtain⟨T,bI,J,aq⟩:=mY (b9.get av a8).bq (b9.get av he).bq;dsimp only at dN dm aq;have oa:kO.cells.size=cJ:=by
  have:kO.cells.toList.length=cJ:=by rw[dm,<- dN]; exact bF.length (bF.ek (B:=B) (w:=al) ge)
  simpa using this
 simp only[Bool.and_eq_true]at ax;obtain⟨ax,tS⟩:=ax;have gJ:=Nat.eq_of_beq_eq_true dv;simp only[eg,Bool.and_eq_true,decide_eq_true_eq]at aa;obtain⟨c2,cL,gB,rfl,iK,fS⟩:=ss h my j3;obtain⟨A,c,m,iL,rfl⟩:=kt;obtain⟨ee,K,⟨bP,k',nb,rq⟩,ey,nH⟩:=h.FY (d:=d) (b':=.gl e g (l++l2)) b5 (fun q ao=>by
  obtain⟨_,aE,bb⟩:=h.dL _ _ ao;rw[iL]at aE
  rcases bb with⟨b,bb⟩ | bb
  ·rw[<- aE]at bb; cases bb
  ·have:=dY tS; omega)
 rw[iL]at nb;cases nb;have Ny:Nat.blt 0 cJ=true:=by rw[<- dN]; exact Nat.ble_eq_true_of_le jo
 rcases rq with⟨xs,rfl,di⟩ | ⟨rfl,rfl,eB,xs,di,hR⟩
 ·rw[gJ]at ey fS
  refine Bp h.sym aA bg ax bI J dh aq Ny oa gZ fF ey fS (Flat.iX (fun _ _=>bF.iX) iK) aa.1 aa.2 fun bP c' aP w' cw=>?_
  obtain⟨H',_,dj⟩:=nH (.row bP c' (l++l2).length) (.row bP c' e g.size (l++l2).length (xs++gB)) aP w' (.c (.ai id)) _ ⟨bP,c',fp,.inl ⟨_,rfl,di.append iK⟩⟩ ⟨bP,c',_,fp,by rw[List.length_append]⟩ (by rw[gJ,List.length_append]; exact cw.aM) cw.st;exact ei aP w' _ H' dj
 ·have rb:=hR.jD h.aM
  rw[gJ]at rb fS;refine Nx h.sym aA bg ax bI J dh aq Ny oa gZ fF rb fS (Flat.iX (fun _ _=>bF.iX) iK) aa.1 aa.2 (fun hm aP w' cw=>?_) fun bP c' aP w' cw=>?_
  ·have ja:l2=[]:=List.eq_nil_of_length_eq_zero hm
   subst ja;obtain⟨Y,Z,hL,yX⟩:=ey;obtain⟨H',_,dj⟩:=nH (.row A l.length (l++[]).length) (.row none 0 e g.size 0 []) aP w' (.c (.ai id)) (.slice A l.length l.length) ⟨A,l.length,fp,.inr ⟨rfl,by simp,eB,xs,by rw[List.append_nil]; exact di,by rw[List.append_nil]; exact hR⟩⟩ ⟨A,l.length,_,fp,by simp⟩ (by rw[yX]; dsimp only; rw[<- hL]; exact cw.aM) cw.st;exact ei aP w' _ H' dj
  ·obtain⟨Y,Z,hL,yX⟩:=ey
   obtain⟨H',_,dj⟩:=nH (.row bP c' (l++l2).length) (.row bP c' e g.size (l++l2).length (xs++gB)) aP w' (.c (.ai id)) (.slice bP (l.length+l2.length) c') ⟨bP,c',fp,.inl ⟨_,rfl,di.append iK⟩⟩ ⟨bP,c',_,fp,by rw[List.length_append]⟩ (by
    have il:=cw.aM;rw[hL]at il;rw[yX];dsimp only;have ao:(bf.row bP c' e cJ (l.length+l2.length) (xs++gB) :: (Y++bf.row none 0 e g.size 0 [] :: Z)).Perm (bf.row none 0 e g.size 0 [] :: (Y++bf.row bP c' e cJ (l.length+l2.length) (xs++gB) :: Z)):=by
     refine(List.Perm.cons _ List.perm_middle).trans ?_;refine(List.Perm.swap _ _ _).trans (List.Perm.cons _ List.perm_middle.symm)
    have hb:=(il.perm ao).e6 (List.sublist_cons_self _ _);rw[gJ,List.length_append];exact hb) cw.st
   exact ei aP w' _ H' dj
end
section
variable {X:bs} {n:Nat} {st:aO}
def ru(id:Nat) (st:aO):Option aO:=
 match bd st.H id with
 | some (.gl _ g l)=>some ⟨fK id (.bk g l none) st.L,ef id (.bk g l none) st.H⟩
 | _=>none
theorem Nz{b jE:cv} {id:Nat}:∀ {l:bz},bd l id=some b->bd (eM id jE l) id=some jE
 | [],h=>by cases h
 | (k,b') :: r,h=>by
  rw[cI]at h;unfold eM
  split
  ·rename_i ab
   rw[cI,if_pos (Nat.eq_of_beq_eq_true ab).symm]
  ·rename_i ab
   have cr:¬ id=k:=fun e=>by rw[e,Nat.beq_refl]at ab; cases ab
   rw[if_neg cr]at h;rw[cI,if_neg cr];exact Nz h
theorem NA{b:cv} {id:Nat} {z:bm}:∀ {l:bz} {jE:cv},bd l id=some jE->ef id z (eM id b l)=ef id z l
 | [],_,h=>by cases h
 | (k,b') :: r,jE,h=>by
  rw[cI]at h;unfold eM;cases ab:Nat.beq k id with
  | true=>simp only[ef,ab]
  | false=>
   have cr:¬ id=k:=fun e=>by rw[e,Nat.beq_refl]at ab; cases ab
   rw[if_neg cr]at h;simp only[ef,ab,NA h]
theorem fq.ru{id:Nat} {st':aO} (az:ru id st=some st'):fq X n st st':=fun R W aJ M a w ⟨ks,env,B,al,H,bL,h⟩=>by
 unfold Go.Proofs.YtcheedjfedcbpaaGreatDoor.ru at az
 split at az
 ·rename_i t g l b5
  cases az;obtain⟨ee,K,⟨A,k,he,rq⟩,⟨Y,Z,ay,aS⟩,aE⟩:=h.pe (b':=.row t g l none) b5
  rcases rq with⟨xs,rfl,di⟩ | ⟨rfl,rfl,eB,xs,di,hR⟩
  ·obtain⟨H',bb⟩:=aE _ a w ⟨A,k,xs,he,rfl,di,fun _ ar=>by cases ar⟩ (by rw[aS]; dsimp only; rw[<- ay]; exact h.aM) h.bZ
   have NB:Go.Proofs.YtcheedjfedcbpaaGreatDoor.de id ⟨st.L,eM id (.row t g l none) st.H⟩=some ⟨fK id (.bk g l none) st.L,ef id (.bk g l none) st.H⟩:=by
    unfold Go.Proofs.YtcheedjfedcbpaaGreatDoor.de;dsimp only;rw[Nz b5];dsimp only;rw[NA b5]
   exact fq.de (X:=X) (n:=n) NB R W aJ M a w ⟨ks,env,B,al,H',bL,bb⟩
  ·have su:∀ v,dB env B al (.ai id) v->dB env B al (.bk g l none) v:=by
    rintro v ⟨bP,c',m,cV,rfl⟩;rw[he]at cV;cases cV;exact⟨A,l.length,xs,rfl,Nat.le_refl _,eB,(fun _ ar=>by cases ar),di,hR⟩
   obtain⟨H2,J,U⟩:=h.heap.del (id:=id) (env':=env) (fun _ _=>rfl) su;refine⟨ks,env,B,al,H2,bL,h.size,h.defs,fun q u hu=>?_,U,h.aM.e6 (J.append_right _),h.sub,h.new,h.dL,h.base,h.et⟩;obtain⟨jK,jL,rfl⟩:=pc hu;obtain⟨fL,bb,bX⟩:=h.has q jK jL;exact⟨fL,bb,eH.sub (fun _ _=>rfl) su bX⟩
 ·cases az
end
end
section
section
variable {X:bs} {M:Bool} {n:Nat} {r:Option Nat} {st:aO} {Q:Exit->aO->Prop} {ops rest:List Oper} {o:Oper} {d:Nat} {bx:bl}
theorem Zy(av:X.tt.ok X.P) {t T:TypeId} {bw:bh} {x:Operand} {id d2 i:Nat} {el:Bool} {g:aU} {l:List (List g.D)} {cap:Option Nat} {g1:Bool} (aA:o.op=.load t x)
  (a8:X.tt.find t=some bw) (qm:lR bw.bq.desc=false) (ak:bp X st.L x=some (g1,.c (.eG id 1 i 0))) (dN:g1=true) (b5:bd st.H id=some (.cM el T g l cap i d2)):ix X st o (.c (.ai d2)):=by
 intro R W aJ n ks env B al H a b1 aj;obtain⟨vx,J,b,c,m,he,rfl⟩:=aj.aD ak dN;obtain⟨ee,K,⟨A,k,ys,bP,c',ca,cV,rfl,di,hi,lp,_⟩,az⟩:=aj.heap.gz b5;rw[he]at cV;cases cV;have Zz:ys.length=l.length:=oc.mX di;refine⟨.slice bP ca c',⟨bP,c',ca,lp,rfl⟩,fun w an=>?_⟩;have fx:eQ w (fun k=>R k\/B k) T 1 (some ⟨b,0,none⟩) c l.length (ys.set i (.slice bP ca c')):=(an (by rw[aA]; rfl)).ok _ az.more.mem;have k9:w.cell? ⟨b,i * 1+0,none⟩=some (.slice bP ca c'):=by
  rw[fx.cells rfl _ (by omega)]
  simp[List.getElem?_set,Zz,hi]
 exact v8 aj.bZ aA (b9.get av a8).bq qm J k9
theorem ZA{t bW:TypeId} {u v:Operand} {g1 g2 fw cL:Bool} {cs aG:List bm} {g:aU} {x y:g.D} (bQ:sH X.P t g) (aA:o.op=.binOp .eql t u v bW)
  (hu:bp X st.L u=some (g1,.agg cs)) (dN:g1=true) (aC:bp X st.L v=some (g2,.agg aG)) (dm:g2=true) (ak:dec g cs=some (fw,x,[])) (iG:fw=true) (aL:dec g aG=some (cL,y,[])) (h4:cL=true):ix X st o (.c (.val (.bool (g.beq x y)))):=by
 intro R W aJ n ks env B al H a b1 aj;obtain⟨iz,J,U⟩:=aj.aD hu dN;obtain⟨vv,ag,aq⟩:=aj.aD aC dm;rw[cH.cE bQ.key U ak iG]at J;rw[cH.cE bQ.key aq aL h4]at ag;exact⟨_,rfl,fun w _=>Ue aj.bZ aA J ag bQ.guard (bQ.eq x y) w⟩
theorem ZB{t bW:TypeId} {u v:Operand} {g1 g2 fw cL:Bool} {cs aG:List bm} {g:aU} {x y:g.D} (bQ:sH X.P t g) (aA:o.op=.binOp .neq t u v bW)
  (hu:bp X st.L u=some (g1,.agg cs)) (dN:g1=true) (aC:bp X st.L v=some (g2,.agg aG)) (dm:g2=true) (ak:dec g cs=some (fw,x,[])) (iG:fw=true) (aL:dec g aG=some (cL,y,[])) (h4:cL=true):ix X st o (.c (.val (.bool (!(g.beq x y))))):=by
 intro R W aJ n ks env B al H a b1 aj;obtain⟨iz,J,U⟩:=aj.aD hu dN;obtain⟨vv,ag,aq⟩:=aj.aD aC dm;rw[cH.cE bQ.key U ak iG]at J;rw[cH.cE bQ.key aq aL h4]at ag;exact⟨_,rfl,fun w _=>Uf aj.bZ aA J ag bQ.guard (bQ.eq x y) w⟩
end
end
section
section
variable {env:Nat->Loc} {B B':Nat->Prop} {w w':World}
end
end
section
section
variable {env:Nat->Loc} {B:Nat->Prop} {w:World}
end
end
section
section
variable {P:Program} {ops:Array Oper} {o:Oper} {KK:Act->World->Prop} {n:Nat} {D:List Deferred} {L:List (Nat×Value)} {B:Nat->Prop} {al:World} {H:List bf} {a:Act} {w:World} {d:Nat}
theorem ZC{f:FuncId} {fn:Func} {s:Nat} {p:Value} {xs:List Operand} {fN:Array TypeId} {vs:List Value} (av:Sym n D L B al H a w) (aA:o.op=.call { callee:=.value (.tmp s),args:=xs.toArray,argTypes:=fN })
  (an:L.lookup s=some (.func (.func f) #[p] #[])) (gX:P.funcs[f]?=some fn)
  (aV : (fn.name == "runtime.NumGoroutine") = false) (ae : fn.body.isNone = false) (aC : iE L xs = some vs) : (execOp a.eval o).run P w = .ok (.enter f (p :: vs).toArray) w := by
 have e:a.eval (.tmp s)=.func (.func f) #[p] #[]:=av.aD (x:=.tmp s) an
 have hr : fn.name ≠ "runtime.NumGoroutine" := by simpa using aV
 have dM:fn.body≠none:=by intro h; rw[h]at ae; cases ae
 simp[execOp,aA,resolve,e,Deferred.ofValue,invoke,callFunc,program,Sem.run,gX,hr,dM,av.st.iE aC]
theorem ZD{f:FuncId} {fn:Func} {s:Nat} {p:Value} {xs:List Operand} {fN:Array TypeId} {vs:List Value} {R:Value->World->Prop} (av:Sym n D L B al H a w)
  (aA:o.op=.call { callee:=.value (.tmp s),args:=xs.toArray,argTypes:=fN }) (bg:o.guard=none/\o.dst=some d) (ax:Nat.blt d n=true) (an:L.lookup s=some (.func (.func f) #[p] #[]))
  (gX : P.funcs[f]? = some fn) (aV : (fn.name == "runtime.NumGoroutine") = false) (ae : fn.body.isNone = false) (aC : iE L xs = some vs) (dA : o4 P f (p :: vs).toArray w R)
  (h:∀ v aP w',R v w'->cT n D ((d,v) :: L) aP->KK aP w'):eS P ops o KK a w:=by
 refine .inl ⟨by simp[Region.wanted,bg.1],.inr (.inr ⟨f,(p :: vs).toArray,w,ZC av aA an gX aV ae aC,?_⟩)⟩;refine Calls.mono dA ?_;rintro e w' ⟨v,rfl,dT⟩;exact⟨v,rfl,h v _ w' dT (by rw[bg.2]; exact av.st.put d v (dY ax))⟩
end
section
variable {X:bs} {M:Bool} {n:Nat} {r:Option Nat} {st:aO} {Q:Exit->aO->Prop} {ops rest:List Oper} {o:Oper} {d:Nat}
end
section
variable {X:bs} {M:Bool} {n:Nat} {st:aO} {Q:Exit->aO->Prop} {ops:List Oper} {E:List Nat} {aG:hJ} {L8:Array Bool} {fuel d i:Nat} {o:Oper}
end
end
section
section
variable {X:bs} {M:Bool} {n:Nat} {r:Option Nat} {st:aO} {Q:Exit->aO->Prop} {ops rest:List Oper} {o:Oper} {d:Nat}
theorem ZE(av:X.tt.ok X.P) {t fh fr:TypeId} {bw sJ dC:bh} {k:IntKind} {aY:aU} {u x:Operand} {id:Nat} {l:List (Int×aY.D)} {jQ:Option (List MapEntry×Nat)} {z:Int} {g:Bool} {bx:bl} (aA:o.op=.lookup t u x true) (bg:o.guard=none/\o.dst=some d) (ax:Nat.blt d n=true)
  (a8:X.tt.find t=some bw) (dh:bw.bq.desc=.map fh fr) (ab:X.tt.find fh=some sJ) (rv:sJ.bq.desc=.int k) (he:X.tt.find fr=some dC) (bG:∀ B w,dZ B w aY aY.zero dC.bq.zero)
  (hu:bp X st.L u=some (true,.c (.b8 id))) (ak:bp X st.L x=some (g,.c (.val (.int k z)))) (aQ:g=true) (b5:bd st.H id=some (.mp (.int k) aY l jQ)) (l1:ql aY ((cF (.int k) aY l z).getD aY.zero)=some bx):gp X n o st ⟨(d,.c3 [bx,.c (.val (.bool (cF (.int k) aY l z).isSome))]) :: st.L,st.H⟩:=by
 intro R W aJ ks env B al H a w aj KK lo ei;obtain⟨iz,J,b,ae,rfl⟩:=aj.aD hu rfl;obtain⟨vx,U,ag⟩:=aj.aD ak aQ;rw[show vx=_ from ag]at U;obtain⟨c,K,⟨b',es,clock,dM,rfl,hV,cU,_⟩,ey⟩:=aj.heap.gz b5;rw[ae]at dM;cases dM;have hW:=(aj.aM.ok _ ey.more.mem).2;have ay:=(b9.get av a8).bq.1;rw[dh]at ay;have cz:=(b9.get av ab).bq.1;rw[rv]at cz;have hL:=bD.qU (b9.get av he).bq w;have lz:∃ v,(Instr.lookup t (.map (some b)) (.int k z) true).run X.P w=.ok (.tuple #[v,.bool (cF (.int k) aY l z).isSome]) w/\dZ B al aY ((cF (.int k) aY l z).getD aY.zero) v:=by
  unfold Instr.lookup;rw[show(10000:Nat)=9999+1 from rfl];simp only[Sem.run_bind,run_underlying ay,Result.andThen_ok,MapKept.run_getObj_map hW,Fo cz,Sem.run_pure]
  rcases hV.Gy (z:=z) 0 with⟨aq,aE⟩ | ⟨y,j,v,aq,aE,bb,_⟩
  ·refine⟨dC.bq.zero,?_,by rw[aq]; exact bG _ _⟩
   simp[MapKept.run_findKey cz aE,hL,Result.andThen,aq]
  ·refine⟨v,?_,by rw[aq]; exact bb⟩
   simp[MapKept.run_findKey cz aE,Result.andThen,aq]
 obtain⟨v,dy,lA⟩:=lz;refine hP aj.bZ bg.1 bg.2 (dY ax) (v:=.tuple #[v,.bool (cF (.int k) aY l z).isSome]) (w':=w) ?_ fun aP aI=>?_
 ·simp[execOp,aA,aj.bZ.aD J,aj.bZ.aD U,dy]
 ·exact ei aP _ env H (aj.set (sv:=.c3 [bx,.c (.val (.bool (cF (.int k) aY l z).isSome))]) ⟨[v,.bool (cF (.int k) aY l z).isSome],rfl,v,_,rfl,lA.bx l1,_,_,rfl,rfl,rfl⟩ aI)
end
end
section
section
variable {X:bs} {M:Bool} {n:Nat} {r:Option Nat} {ops:List Oper} {rest:List Oper} {o:Oper} {d:Nat} {st:aO} {Q:Exit->aO->Prop}
theorem ZF(av:X.tt.ok X.P) {t e:TypeId} {x y:Operand} {g1 g2:Bool} {eb:bl} {id cJ gU:Nat} {ge g:aU} {l l2:List g.D} {cap:Option Nat} {bw:bh} {aG:TypeDesc} {kO:Value} (aA:o.op=.call ⟨.builtin .copy,⟨[x,y]⟩,⟨[t,t]⟩⟩) (bg:o.guard=none/\o.dst=some d) (ax:Nat.blt d n=true)
  (a8:X.tt.find t=some bw) (dh:bw.bq.desc=.slice e) (he:X.tt.find e=some ⟨⟨aG,cJ,gU,kO⟩,some ge⟩) (ak:bp X st.L x=some (g1,.c (.ai id))) (aQ:g1=true) (aL:bp X st.L y=some (g2,eb)) (ea:g2=true)
  (b5:bd st.H id=some (.row e g l cap)) (dv:Nat.beq g.size cJ=true) (my:mx st g eb=some l2) (aa:Nat.beq l2.length l.length=true):gp X n o st ⟨(d,.c (.val (.int .i64 (l.length:Int)))) :: st.L,eM id (.row e g l2 cap) st.H⟩:=by
 intro R W aJ ks env B al H a w h KK lo ei;obtain⟨vx,gZ,kt⟩:=h.aD ak aQ;obtain⟨vy,fF,j3⟩:=h.aD aL ea;obtain⟨dN,dm,jo⟩:=(b9.get av he).g ge rfl;obtain⟨T,bI,J,aq⟩:=mY (b9.get av a8).bq (b9.get av he).bq;have gJ:=Nat.eq_of_beq_eq_true dv;have kU:=Nat.eq_of_beq_eq_true aa;obtain⟨c2,cL,gB,rfl,iK,fS⟩:=ss h my j3;obtain⟨A,c,m,iL,rfl⟩:=kt;obtain⟨ee,K,⟨bP,k',xs,nb,rfl,di,fy⟩,ey,nH⟩:=h.pe (b':=.row e g l2 cap) b5;rw[iL]at nb;cases nb;rw[gJ]at ey fS;rw[kU]at fF fS;refine Uo h.sym aA bg ax bI J dh aq gZ fF ey fS (Flat.iX (fun _ _=>bF.iX) iK) fun aP w' cw=>?_
 obtain⟨H',dj⟩:=nH (.row A c e g.size l.length gB) a w' ⟨A,c,gB,by rw[kU]; exact iL,by rw[kU],iK,fy⟩ (by rw[gJ]; exact cw.aM) h.bZ;exact ei aP w' _ H' (dj.set rfl cw.st)
end
end
section
section
variable {X:bs} {M:Bool} {n:Nat} {r:Option Nat} {ops rest:List Oper} {o:Oper} {d:Nat} {st:aO} {Q:Exit->aO->Prop}
end
end
section
def L5{α β:Type} (x:α) (k:α->Option β):Option β:=k x
section
variable {X:bs} {n:Nat} {st:aO}
end
/-! ### Arrays that are rows are frozen -/
section
variable {X:bs} {R:Nat->Prop} {W:World} {aJ:e0} {n:Nat} {ks:List Nat} {env:Nat->Loc} {B:Nat->Prop} {al:World} {H:List bf} {st st':aO} {a:Act} {w:World}
end
end
abbrev c8:List Type->Type
 | []=>Unit
 | A :: r=>A×c8 r
abbrev yY:List Type->Type
 | []=>Unit
 | [A]=>A
 | A :: B :: r=>A×yY (B :: r)
def px:(l:List Type)->c8 l->yY l
 | [],_=>()
 | [_],u=>u.1
 | _ :: B :: r,u=>(u.1,px (B :: r) u.2)
def mB:(l:List Type)->yY l->c8 l
 | [],_=>()
 | [_],u=>(u,())
 | _ :: B :: r,u=>(u.1,mB (B :: r) u.2)
theorem uj:∀ (l:List Type) (u:c8 l),mB l (px l u)=u
 | [],_=>rfl
 | [_],_=>rfl
 | _ :: B :: r,u=>by
  show(u.1,mB (B :: r) (px (B :: r) u.2))=u;rw[uj (B :: r)]
inductive sK where
 | id (i:Nat)
 | eT (g:aU)
abbrev qn:List sK->List Type->List Type
 | [],T=>T
 | .id _ :: r,T=>qn r T
 | .eT g :: r,T=>g.D :: qn r T
def l4:(l:List sK)->{T:List Type}->c8 (qn l T)->List e4×c8 T
 | [],_,t=>([],t)
 | .id i :: r,_,u=>(.id i :: (l4 r u).1,(l4 r u).2)
 | .eT g :: r,_,u=>(.eT g u.1 :: (l4 r u.2).1,(l4 r u.2).2)
def NC{g g':aU} (h:g'=g) (x:g'.D):g.D:=h ▸ x
def ox{g g':aU} (h:g'=g) (l:List g'.D):List g.D:=h ▸ l
def sL:(l:List sK)->List e4->{T:List Type}->c8 T->Option (c8 (qn l T))
 | [],[],_,t=>some t
 | .id i :: r,.id j :: s,_,t=>match Nat.beq i j with
  | true=>sL r s t
  | false=>none
 | .eT g :: r,.eT g' x :: s,_,t=>match decEq g' g with
  | isTrue h=>match sL r s t with
   | some u=>some (NC h x,u)
   | none=>none
  | isFalse _=>none
 | _,_,_,_=>none
theorem Ce:∀ {l:List sK} {s:List e4} {T:List Type} {t:c8 T} {u:c8 (qn l T)},sL l s t=some u->l4 l u=(s,t)
 | [],[],_,_,_,h=>by cases h; rfl
 | .id i :: r,.id j :: s,_,t,u,h=>by
  unfold sL at h
  split at h
  ·rename_i e
   have:=Nat.eq_of_beq_eq_true e
   subst this
   have:=Ce h
   unfold l4;rw[this]
  ·cases h
 | .eT g :: r,.eT g' x :: s,_,t,u,h=>by
  unfold sL at h
  split at h
  ·rename_i e _
   subst e
   split at h
   ·rename_i fL e
    cases h
    have:=Ce e
    unfold l4;rw[this]
    rfl
   ·cases h
  ·cases h
 | [],_ :: _,_,_,_,h=>by cases h
 | .id _ :: _,[],_,_,_,h=>by cases h
 | .eT _ :: _,[],_,_,_,h=>by cases h
 | .id _ :: _,.eT _ _ :: _,_,_,_,h=>by cases h
 | .eT _ :: _,.id _ :: _,_,_,_,h=>by cases h
inductive cN where
 | raw (c:bm)
 | int (k:IntKind)
 | bool
 | str
 | bk (g:aU)
 | Cf (g:aU)
 | jb (g:aU)
 | Cg (g:aU)
 | fO (g:aU) (off:Nat)
 | par (g:aU)
 | fn (f:FuncId) (cs:List sK)
 | eG (id cJ off:Nat)
 | hG (id:Nat)
 | hQ (id:Nat)
abbrev cN.LT:cN->List Type->List Type
 | .raw _,T=>T
 | .int _,T=>Int :: T
 | .bool,T=>Bool :: T
 | .str,T=>List UInt8 :: T
 | .bk g,T=>List g.D :: T
 | .Cf g,T=>List g.D :: T
 | .jb g,T=>List g.D :: Nat :: T
 | .Cg g,T=>List g.D :: Option Nat :: T
 | .fO g _,T=>g.D :: T
 | .par g,T=>List g.D :: T
 | .fn _ cs,T=>qn cs T
 | .eG _ _ _,T=>Nat :: T
 | .hG _,T=>Nat :: T
 | .hQ _,T=>Bool :: T
def cN.S:(s:cN)->{T:List Type}->c8 (s.LT T)->bm×c8 T
 | .raw c,_,t=>(c,t)
 | .int k,_,u=>(.val (.int k u.1),u.2)
 | .bool,_,u=>(.val (.bool u.1),u.2)
 | .str,_,u=>(.str u.1,u.2)
 | .bk g,_,u=>(.bk g u.1 none,u.2)
 | .Cf g,_,u=>(.bk g u.1 (some u.1.length),u.2)
 | .jb g,_,u=>(.bk g u.1 (some u.2.1),u.2.2)
 | .Cg g,_,u=>(.bk g u.1 u.2.1,u.2.2)
 | .fO g off,_,u=>(.fO g u.1 off,u.2)
 | .par g,_,u=>(.par g u.1,u.2)
 | .fn f cs,_,u=>(.fn f (l4 cs u).1,(l4 cs u).2)
 | .eG id cJ off,_,u=>(.eG id cJ u.1 off,u.2)
 | .hG id,_,u=>(.hG id u.1,u.2)
 | .hQ id,_,u=>(.hQ u.1 id,u.2)
def GC:Value->Value->Bool
 | .slice none 0 0,.slice none 0 0=>true
 | .pointer none,.pointer none=>true
 | .map none,.map none=>true
 | .nilIface,.nilIface=>true
 | .nilFunc,.nilFunc=>true
 | _,_=>false
def bm.eqv:bm->bm->Bool
 | .dead,_=>true
 | .ptr i o,.ptr j p=>Nat.beq i j&&Nat.beq o p
 | .ai i,.ai j=>Nat.beq i j
 | .b8 i,.b8 j=>Nat.beq i j
 | .hG i o,.hG j p=>Nat.beq i j&&Nat.beq o p
 | .iH f i,.iH g j=>Nat.beq f g&&Nat.beq i j
 | .val v,.val u=>GC v u
 | _,_=>false
def qo(x y:bm):Prop:=∀ env B w v,dB env B w x v->dB env B w y v
theorem ZG:∀ {v u:Value},GC v u=true->v=u:=by
 intro v u h;unfold GC at h
 split at h<;>first | rfl | cases h
theorem bm.ZH{c x:bm} (h:c.eqv x=true):qo x c:=by
 unfold bm.eqv at h
 split at h
 ·intro _ _ _ _ _; trivial
 ·simp only[Bool.and_eq_true]at h
  rw[Nat.eq_of_beq_eq_true h.1,Nat.eq_of_beq_eq_true h.2]; exact fun _ _ _ _ h=>h
 ·rw[Nat.eq_of_beq_eq_true h]; exact fun _ _ _ _ h=>h
 ·rw[Nat.eq_of_beq_eq_true h]; exact fun _ _ _ _ h=>h
 ·simp only[Bool.and_eq_true]at h
  rw[Nat.eq_of_beq_eq_true h.1,Nat.eq_of_beq_eq_true h.2]; exact fun _ _ _ _ h=>h
 ·simp only[Bool.and_eq_true]at h
  rw[Nat.eq_of_beq_eq_true h.1,Nat.eq_of_beq_eq_true h.2]; exact fun _ _ _ _ h=>h
 ·rw[ZG h]; exact fun _ _ _ _ h=>h
 ·cases h
def isNil:Value->Bool
 | .slice none 0 0=>true
 | _=>false
theorem ND{v:Value} (h:isNil v=true):v=.slice none 0 0:=by
 unfold isNil at h
 split at h
 ·rfl
 ·cases h
def cN.get:(s:cN)->bm->{T:List Type}->c8 T->Option (c8 (s.LT T))
 | .raw c,x,_,t=>match c.eqv x with
  | true=>some t
  | false=>none
 | .int k,.val (.int k' z),_,t=>match decEq k' k with
  | isTrue _=>some (z,t)
  | isFalse _=>none
 | .bool,.val (.bool b),_,t=>some (b,t)
 | .str,.str s,_,t=>some (s,t)
 | .bk g,.bk g' l _,_,t=>match decEq g' g with
  | isTrue h=>some (ox h l,t)
  | isFalse _=>none
 | .bk g,.val v,_,t=>match isNil v with
  | true=>some (([]:List g.D),t)
  | false=>none
 | .Cf g,.bk g' l (some c),_,t=>match decEq g' g,Nat.beq c l.length with
  | isTrue h,true=>some (ox h l,t)
  | _,_=>none
 | .Cf g,.val v,_,t=>match isNil v with
  | true=>some (([]:List g.D),t)
  | false=>none
 | .jb g,.bk g' l (some c),_,t=>match decEq g' g with
  | isTrue h=>some (ox h l,c,t)
  | isFalse _=>none
 | .jb g,.val v,_,t=>match isNil v with
  | true=>some (([]:List g.D),0,t)
  | false=>none
 | .Cg g,.bk g' l c,_,t=>match decEq g' g with
  | isTrue h=>some (ox h l,c,t)
  | isFalse _=>none
 | .Cg g,.val v,_,t=>match isNil v with
  | true=>some (([]:List g.D),some 0,t)
  | false=>none
 | .fO g off,.fO g' x o,_,t=>match decEq g' g,Nat.beq off o with
  | isTrue h,true=>some (NC h x,t)
  | _,_=>none
 | .par g,.par g' l,_,t=>match decEq g' g with
  | isTrue h=>some (ox h l,t)
  | isFalse _=>none
 | .fn f cs,.fn f' ids,_,t=>match Nat.beq f f' with
  | true=>sL cs ids t
  | false=>none
 | .eG id cJ off,.eG oy ZI i ZJ,_,t=>match Nat.beq id oy,Nat.beq cJ ZI,Nat.beq off ZJ with
  | true,true,true=>some (i,t)
  | _,_,_=>none
 | .hG id,.hG oy i,_,t=>match Nat.beq id oy with
  | true=>some (i,t)
  | false=>none
 | .hQ id,.hQ b oy,_,t=>match Nat.beq id oy with
  | true=>some (b,t)
  | false=>none
 | .hQ id,.ptr oy 0,_,t=>match Nat.beq id oy with
  | true=>some (true,t)
  | false=>none
 | .hQ _,.val (.pointer none),_,t=>some (false,t)
 | _,_,_,_=>none
theorem qo.nil{g:aU} {v:Value} (h:isNil v=true) (k:Option Nat) (ab:∀ q,k=some q->q=0):qo (.val v) (.bk g [] k):=fun env B w u hu=>by
 rw[ND h]at hu;obtain⟨A,c,xs,J,U,ag,aq,aE⟩:=V1 (env:=env) (B:=B) (w:=w) (g:=g) hu;exact⟨A,c,xs,J,U,ag,fun q ar=>by rw[ab q ar]; exact aq 0 rfl,aE⟩
theorem ZK{f:FuncId} {cs:List sK} {ids:List e4} {T:List Type} {t:c8 T} {u:c8 (qn cs T)} (h:sL cs ids t=some u):((cN.fn f cs).S (T:=T) u).2=t/\qo (.fn f ids) ((cN.fn f cs).S (T:=T) u).1:=by
 show(l4 cs u).2=t/\qo _ (.fn f (l4 cs u).1);rw[Ce h];exact⟨rfl,fun _ _ _ _ h=>h⟩
theorem cN.iA{s:cN} {x:bm} {T:List Type} {t:c8 T} {u:c8 (s.LT T)} (h:s.get x t=some u):(s.S u).2=t/\qo x (s.S u).1:=by
 unfold cN.get at h
 split at h
 ·split at h
  ·rename_i e; cases h; exact⟨rfl,bm.ZH e⟩
  ·cases h
 ·split at h
  ·rename_i e _; subst e; cases h; exact⟨rfl,fun _ _ _ _ h=>h⟩
  ·cases h
 ·cases h; exact⟨rfl,fun _ _ _ _ h=>h⟩
 ·cases h; exact⟨rfl,fun _ _ _ _ h=>h⟩
 ·split at h
  ·rename_i e _; subst e; cases h
   exact⟨rfl,fun _ _ _ _ ⟨A,c,xs,J,U,ag,_,aE⟩=>⟨A,c,xs,J,U,ag,(fun _ e=>by cases e),aE⟩⟩
  ·cases h
 ·split at h
  ·rename_i e; cases h; exact⟨rfl,qo.nil e _ fun _ e=>by cases e⟩
  ·cases h
 ·split at h
  ·rename_i e _ aa; subst e; cases h
   have:=Nat.eq_of_beq_eq_true aa
   subst this;exact⟨rfl,fun _ _ _ _ h=>h⟩
  ·cases h
 ·split at h
  ·rename_i e; cases h; exact⟨rfl,qo.nil e _ fun _ e=>by cases e; rfl⟩
  ·cases h
 ·split at h
  ·rename_i e _; subst e; cases h; exact⟨rfl,fun _ _ _ _ h=>h⟩
  ·cases h
 ·split at h
  ·rename_i e; cases h; exact⟨rfl,qo.nil e _ fun _ e=>by cases e; rfl⟩
  ·cases h
 ·split at h
  ·rename_i e _; subst e; cases h; exact⟨rfl,fun _ _ _ _ h=>h⟩
  ·cases h
 ·split at h
  ·rename_i e; cases h; exact⟨rfl,qo.nil e _ fun _ e=>by cases e; rfl⟩
  ·cases h
 ·split at h
  ·rename_i e _ aa; subst e; cases h
   have:=Nat.eq_of_beq_eq_true aa
   subst this;exact⟨rfl,fun _ _ _ _ h=>h⟩
  ·cases h
 ·split at h
  ·rename_i e _; subst e; cases h; exact⟨rfl,fun _ _ _ _ h=>h⟩
  ·cases h
 ·split at h
  ·rename_i e
   have:=Nat.eq_of_beq_eq_true e
   subst this;exact ZK h
  ·cases h
 ·split at h
  ·rename_i ay aS cz
   cases h;rw[<- Nat.eq_of_beq_eq_true ay,<- Nat.eq_of_beq_eq_true aS,<- Nat.eq_of_beq_eq_true cz];exact⟨rfl,fun _ _ _ _ h=>h⟩
  ·cases h
 ·split at h
  ·rename_i ay
   cases h;rw[<- Nat.eq_of_beq_eq_true ay];exact⟨rfl,fun _ _ _ _ h=>h⟩
  ·cases h
 ·split at h
  ·rename_i ay
   cases h;rw[<- Nat.eq_of_beq_eq_true ay];exact⟨rfl,fun _ _ _ _ h=>h⟩
  ·cases h
 ·split at h
  ·rename_i ay
   cases h;rw[<- Nat.eq_of_beq_eq_true ay];exact⟨rfl,fun _ _ _ _ ⟨b,J,U⟩=>⟨b,fun _=>J,U⟩⟩
  ·cases h
 ·cases h
  exact⟨rfl,fun _ _ _ _ h=>⟨0,fun h=>(by cases h),h⟩⟩
 ·cases h
abbrev wO:List cN->List Type->List Type
 | [],T=>T
 | c :: r,T=>c.LT (wO r T)
def ry:(l:List cN)->{T:List Type}->c8 (wO l T)->List bm×c8 T
 | [],_,t=>([],t)
 | c :: r,_,u=>((c.S u).1 :: (ry r (c.S u).2).1,(ry r (c.S u).2).2)
def yZ:(l:List cN)->List bm->{T:List Type}->c8 T->Option (c8 (wO l T))
 | [],[],_,t=>some t
 | c :: r,x :: s,_,t=>match yZ r s t with
  | some u=>c.get x u
  | none=>none
 | _,_,_,_=>none
theorem GD:∀ {l:List cN} {s:List bm} {T:List Type} {t:c8 T} {u:c8 (wO l T)},yZ l s t=some u->(ry l u).2=t/\∀ env B w vs,cH env B w s vs->cH env B w (ry l u).1 vs
 | [],[],_,_,_,h=>by cases h; exact⟨rfl,fun _ _ _ _ h=>h⟩
 | c :: r,x :: s,_,t,u,h=>by
  unfold yZ at h
  split at h
  ·rename_i fL e
   obtain⟨J,U⟩:=GD e;obtain⟨ag,aq⟩:=cN.iA h;unfold ry;rw[ag];refine⟨J,fun env B w vs ⟨v,q,e,aX,ae⟩=>⟨v,q,e,aq _ _ _ _ aX,U _ _ _ _ ae⟩⟩
  ·cases h
 | [],_ :: _,_,_,_,h=>by cases h
 | _ :: _,[],_,_,_,h=>by cases h
inductive fW where
 | c (x:cN)
 | agg (l:List cN)
 | arr (g:aU)
 | cY (g:aU)
abbrev fW.LT:fW->List Type->List Type
 | .c x,T=>x.LT T
 | .agg l,T=>wO l T
 | .arr g,T=>List g.D :: T
 | .cY g,T=>g.D :: T
def GF(g:aU) (x:g.D):bl:=match od g x 0 g.size with
 | some cs=>.agg cs
 | none=>.agg []
def fW.S:(s:fW)->{T:List Type}->c8 (s.LT T)->bl×c8 T
 | .c x,_,u=>(.c (x.S u).1,(x.S u).2)
 | .agg l,_,u=>(.agg (ry l u).1,(ry l u).2)
 | .arr g,_,u=>(.arr g u.1,u.2)
 | .cY g,_,u=>(GF g u.1,u.2)
def fW.get:(s:fW)->bl->{T:List Type}->c8 T->Option (c8 (s.LT T))
 | .c x,.c y,_,t=>x.get y t
 | .agg l,.agg cs,_,t=>yZ l cs t
 | .arr g,.arr g' l,_,t=>match decEq g' g with
  | isTrue h=>some (ox h l,t)
  | isFalse _=>none
 | .cY g,.agg cs,_,t=>match dec g cs with
  | some (true,x,[])=>match od g x 0 g.size with
   | some _=>some (x,t)
   | none=>none
  | _=>none
 | _,_,_,_=>none
theorem fW.iA{s:fW} {x:bl} {T:List Type} {t:c8 T} {u:c8 (s.LT T)} (h:s.get x t=some u):(s.S u).2=t/\∀ env B w v,dH env B w x v->dH env B w (s.S u).1 v:=by
 unfold fW.get at h
 split at h
 ·exact cN.iA h
 ·obtain⟨J,U⟩:=GD h
  exact⟨J,fun env B w v ⟨vs,e,aa⟩=>⟨vs,e,U _ _ _ _ aa⟩⟩
 ·split at h
  ·rename_i e _; subst e; cases h; exact⟨rfl,fun _ _ _ _ h=>h⟩
  ·cases h
 ·split at h
  ·rename_i ay
   split at h
   ·rename_i o3 aS
    cases h;refine⟨rfl,fun env B w v ⟨vs,e,aa⟩=>?_⟩;show dH env B w (GF _ _) v;unfold GF;rw[aS];exact⟨vs,e,aa.data ay rfl aS⟩
   ·cases h
  ·cases h
 ·cases h
abbrev jc:List fW->List Type->List Type
 | [],T=>T
 | c :: r,T=>c.LT (jc r T)
def hX:(l:List fW)->{T:List Type}->c8 (jc l T)->List bl×c8 T
 | [],_,t=>([],t)
 | c :: r,_,u=>((c.S u).1 :: (hX r (c.S u).2).1,(hX r (c.S u).2).2)
def wP:(l:List fW)->List bl->{T:List Type}->c8 T->Option (c8 (jc l T))
 | [],[],_,t=>some t
 | c :: r,x :: s,_,t=>match wP r s t with
  | some u=>c.get x u
  | none=>none
 | _,_,_,_=>none
theorem y0:∀ {l:List fW} {s:List bl} {T:List Type} {t:c8 T} {u:c8 (jc l T)},wP l s t=some u->(hX l u).2=t/\∀ env B w vs,dn env B w s vs->dn env B w (hX l u).1 vs
 | [],[],_,_,_,h=>by cases h; exact⟨rfl,fun _ _ _ _ h=>h⟩
 | c :: r,x :: s,_,t,u,h=>by
  unfold wP at h
  split at h
  ·rename_i fL e
   obtain⟨J,U⟩:=y0 e;obtain⟨ag,aq⟩:=fW.iA h;unfold hX;rw[ag];refine⟨J,fun env B w vs ⟨v,q,e,aX,ae⟩=>⟨v,q,e,aq _ _ _ _ aX,U _ _ _ _ ae⟩⟩
  ·cases h
 | [],_ :: _,_,_,_,h=>by cases h
 | _ :: _,[],_,_,_,h=>by cases h
inductive kV where
 | a (x:fW)
 | c3 (l:List fW)
abbrev kV.LT:kV->List Type->List Type
 | .a x,T=>x.LT T
 | .c3 l,T=>jc l T
def kV.S:(s:kV)->{T:List Type}->c8 (s.LT T)->b3×c8 T
 | .a x,_,u=>(.a (x.S u).1,(x.S u).2)
 | .c3 l,_,u=>(.c3 (hX l u).1,(hX l u).2)
def kV.get:(s:kV)->b3->{T:List Type}->c8 T->Option (c8 (s.LT T))
 | .a x,.a y,_,t=>x.get y t
 | .c3 l,.c3 cs,_,t=>wP l cs t
 | _,_,_,_=>none
def uk(x y:b3):Prop:=∀ env B w v,eH env B w x v->eH env B w y v
theorem kV.iA{s:kV} {x:b3} {T:List Type} {t:c8 T} {u:c8 (s.LT T)} (h:s.get x t=some u):(s.S u).2=t/\uk x (s.S u).1:=by
 unfold kV.get at h
 split at h
 ·exact fW.iA h
 ·obtain⟨J,U⟩:=y0 h
  exact⟨J,fun env B w v ⟨vs,e,aa⟩=>⟨vs,e,U _ _ _ _ aa⟩⟩
 ·cases h
abbrev wQ:List (Nat×kV)->List Type->List Type
 | [],T=>T
 | c :: r,T=>c.2.LT (wQ r T)
def nj:(l:List (Nat×kV))->{T:List Type}->c8 (wQ l T)->cX×c8 T
 | [],_,t=>([],t)
 | c :: r,_,u=>((c.1,(c.2.S u).1) :: (nj r (c.2.S u).2).1,(nj r (c.2.S u).2).2)
def Ch:(l:List (Nat×kV))->cX->{T:List Type}->c8 T->Option (c8 (wQ l T))
 | [],_,_,t=>some t
 | c :: r,L,_,t=>match bd L c.1,Ch r L t with
  | some x,some u=>c.2.get x u
  | _,_=>none
theorem Ci:∀ {l:List (Nat×kV)} {L:cX} {T:List Type} {t:c8 T} {u:c8 (wQ l T)},Ch l L t=some u->(nj l u).2=t/\∀ s sv,bd (nj l u).1 s=some sv->∃ x,bd L s=some x/\uk x sv
 | [],_,_,_,_,h=>by cases h; exact⟨rfl,fun _ _ h=>by cases h⟩
 | c :: r,L,_,t,u,h=>by
  unfold Ch at h
  split at h
  ·rename_i x fL ay e
   obtain⟨J,U⟩:=Ci e;obtain⟨ag,aq⟩:=kV.iA h;unfold nj;rw[ag];refine⟨J,fun s sv an=>?_⟩;rw[cI]at an
   split at an
   ·rename_i e; subst e; cases an; exact⟨x,ay,aq⟩
   ·exact U s sv an
  ·cases h
inductive ia where
 | cells (t:TypeId) (l:List cN)
 | row (t:TypeId) (g:aU)
 | GG (t:TypeId) (g:aU)
 | gl (t:TypeId) (g:aU)
 | mp (gk aY:aU)
 | cM (el:Bool) (t:TypeId) (g:aU) (d:Nat)
 | GH (el:Bool) (t:TypeId) (g:aU) (d:Nat)
 | kn
 | hj (eU:Nat)
 | b2 (t bW:TypeId) (g:aU)
 | GI (t bW:TypeId) (g:aU) (d:Option Nat)
abbrev ia.LT:ia->List Type->List Type
 | .cells _ l,T=>wO l T
 | .row _ g,T=>List g.D :: T
 | .GG _ g,T=>List g.D :: Nat :: T
 | .gl _ g,T=>List g.D :: T
 | .mp gk aY,T=>List (gk.D×aY.D) :: T
 | .cM _ _ g _,T=>List (List g.D) :: Nat :: T
 | .GH _ _ g _,T=>List (List g.D) :: Nat :: Nat :: T
 | .kn,T=>ByteArray :: Nat :: T
 | .hj _,T=>T
 | .b2 _ _ g,T=>List (Bool×List g.D) :: T
 | .GI _ _ g _,T=>List (Bool×List g.D) :: Nat :: T
def ia.S:(s:ia)->{T:List Type}->c8 (s.LT T)->cv×c8 T
 | .cells t l,_,u=>(.cells t (ry l u).1,(ry l u).2)
 | .row t g,_,u=>(.row t g u.1 none,u.2)
 | .GG t g,_,u=>(.row t g u.1 (some u.2.1),u.2.2)
 | .gl t g,_,u=>(.gl t g u.1,u.2)
 | .mp gk aY,_,u=>(.mp gk aY u.1 none,u.2)
 | .cM el t g d,_,u=>(.cM el t g u.1 none u.2.1 d,u.2.2)
 | .GH el t g d,_,u=>(.cM el t g u.1 (some u.2.2.1) u.2.1 d,u.2.2.2)
 | .kn,_,u=>(.kn u.1 u.2.1,u.2.2)
 | .hj m,_,u=>(.hj m,u)
 | .b2 t bW g,_,u=>(.b2 t bW g u.1 none none,u.2)
 | .GI t bW g d,_,u=>(.b2 t bW g u.1 none (some (u.2.1,d)),u.2.2)
def NF{g g':aU} (h:g'=g) (l:List (Bool×List g'.D)):List (Bool×List g.D):=h ▸ l
def NG{g g':aU} (h:g'=g) (l:List (List g'.D)):List (List g.D):=h ▸ l
def ZL{gk Cj aY Ck:aU} (h:Cj=gk) (U:Ck=aY) (l:List (Cj.D×Ck.D)):List (gk.D×aY.D):=h ▸ U ▸ l
def ia.get:(s:ia)->cv->{T:List Type}->c8 T->Option (c8 (s.LT T))
 | .cells t l,.cells bW cs,_,u=>match Nat.beq bW t with
  | true=>yZ l cs u
  | false=>none
 | .row t g,.row bW g' l _,_,u=>match Nat.beq bW t,decEq g' g with
  | true,isTrue h=>some (ox h l,u)
  | _,_=>none
 | .GG t g,.row bW g' l (some c),_,u=>match Nat.beq bW t,decEq g' g with
  | true,isTrue h=>some (ox h l,c,u)
  | _,_=>none
 | .gl t g,.gl bW g' l,_,u=>match Nat.beq bW t,decEq g' g with
  | true,isTrue h=>some (ox h l,u)
  | _,_=>none
 | .gl t g,.row bW g' l _,_,u=>match Nat.beq bW t,decEq g' g with
  | true,isTrue h=>some (ox h l,u)
  | _,_=>none
 | .mp gk aY,.mp Cj Ck l _,_,u=>match decEq Cj gk,decEq Ck aY with
  | isTrue h,isTrue U=>some (ZL h U l,u)
  | _,_=>none
 | .cM el t g d,.cM GJ bW g' l _ i c5,_,u=>match decEq GJ el,Nat.beq bW t,Nat.beq c5 d,decEq g' g with
  | isTrue _,true,true,isTrue h=>some (NG h l,i,u)
  | _,_,_,_=>none
 | .GH el t g d,.cM GJ bW g' l (some c) i c5,_,u=>match decEq GJ el,Nat.beq bW t,Nat.beq c5 d,decEq g' g with
  | isTrue _,true,true,isTrue h=>some (NG h l,i,c,u)
  | _,_,_,_=>none
 | .kn,.kn s p,_,u=>some (s,p,u)
 | .hj m,.hj ca,_,u=>match Nat.beq ca m with
  | true=>some u
  | false=>none
 | .b2 t t2 g,.b2 bW GK g' l _ none,_,u=>match Nat.beq bW t,Nat.beq GK t2,decEq g' g with
  | true,true,isTrue h=>some (NF h l,u)
  | _,_,_=>none
 | .GI t t2 g d,.b2 bW GK g' l _ (some (i,c5)),_,u=>match Nat.beq bW t,Nat.beq GK t2,decEq c5 d,decEq g' g with
  | true,true,isTrue _,isTrue h=>some (NF h l,i,u)
  | _,_,_,_=>none
 | _,_,_,_=>none
def ZM(id:Nat) (x y:cv):Prop:=∀ env B w c,er env B w id x c->er env B w id y c
theorem ia.iA{s:ia} {x:cv} {T:List Type} {t:c8 T} {u:c8 (s.LT T)} (id:Nat) (h:s.get x t=some u):(s.S u).2=t/\ZM id x (s.S u).1:=by
 unfold ia.get at h
 split at h
 ·split at h
  ·rename_i e
   rw[Nat.eq_of_beq_eq_true e];obtain⟨J,U⟩:=GD h;exact⟨J,fun env B w c ⟨b,vs,e,aa,ag⟩=>⟨b,vs,e,aa,U _ _ _ _ ag⟩⟩
  ·cases h
 ·split at h
  ·rename_i U e _
   subst U;rw[Nat.eq_of_beq_eq_true e];cases h;exact⟨rfl,fun env B w c ⟨A,k,xs,e,aa,ag,_⟩=>⟨A,k,xs,e,aa,ag,fun _ e=>by cases e⟩⟩
  ·cases h
 ·split at h
  ·rename_i U e _
   subst U;rw[Nat.eq_of_beq_eq_true e];cases h;exact⟨rfl,fun env B w c h=>h⟩
  ·cases h
 ·split at h
  ·rename_i U e _
   subst U;rw[Nat.eq_of_beq_eq_true e];cases h;exact⟨rfl,fun env B w c h=>h⟩
  ·cases h
 ·split at h
  ·rename_i U e _
   subst U;rw[Nat.eq_of_beq_eq_true e];cases h;exact⟨rfl,fun env B w c ⟨A,k,xs,e,aa,ag,_⟩=>⟨A,k,e,.inl ⟨xs,aa,ag⟩⟩⟩
  ·cases h
 ·split at h
  ·rename_i J U _ _
   subst J;subst U;cases h;exact⟨rfl,fun env B w c ⟨b,es,k,e,aa,ag,aq,_⟩=>⟨b,es,k,e,aa,ag,aq,fun _ e=>by cases e⟩⟩
  ·cases h
 ·split at h
  ·rename_i he ag _ J U _
   subst he;subst ag;rw[Nat.eq_of_beq_eq_true J,Nat.eq_of_beq_eq_true U];cases h;exact⟨rfl,fun env B w c ⟨A,k,ys,bP,c',m,e,aa,J,hi,U,_,aq⟩=>⟨A,k,ys,bP,c',m,e,aa,J,hi,U,(fun _ e=>by cases e),aq⟩⟩
  ·cases h
 ·split at h
  ·rename_i he ag _ J U _
   subst he;subst ag;rw[Nat.eq_of_beq_eq_true J,Nat.eq_of_beq_eq_true U];cases h;exact⟨rfl,fun env B w c h=>h⟩
  ·cases h
 ·cases h
  exact⟨rfl,fun env B w c h=>h⟩
 ·split at h
  ·rename_i e
   rw[Nat.eq_of_beq_eq_true e];cases h;exact⟨rfl,fun env B w c h=>h⟩
  ·cases h
 ·split at h
  ·rename_i ag J U _
   subst ag;rw[Nat.eq_of_beq_eq_true J,Nat.eq_of_beq_eq_true U];cases h;exact⟨rfl,fun env B w c ⟨A,k,ys,c4,I,e,aa,aq,aE,_⟩=>⟨A,k,ys,c4,I,e,aa,aq,aE,fun _ e=>by cases e⟩⟩
  ·cases h
 ·split at h
  ·rename_i he ag J U _ _
   subst he;subst ag;rw[Nat.eq_of_beq_eq_true J,Nat.eq_of_beq_eq_true U];cases h;exact⟨rfl,fun env B w c ⟨A,k,ys,c4,I,e,aa,aq,aE,_⟩=>⟨A,k,ys,c4,I,e,aa,aq,aE,fun _ e=>by cases e⟩⟩
  ·cases h
 ·cases h
abbrev mC:List (Nat×ia)->List Type->List Type
 | [],T=>T
 | c :: r,T=>c.2.LT (mC r T)
def ju:(l:List (Nat×ia))->{T:List Type}->c8 (mC l T)->bz×c8 T
 | [],_,t=>([],t)
 | c :: r,_,u=>((c.1,(c.2.S u).1) :: (ju r (c.2.S u).2).1,(ju r (c.2.S u).2).2)
def um:(l:List (Nat×ia))->bz->{T:List Type}->c8 T->Option (c8 (mC l T))
 | [],[],_,t=>some t
 | c :: r,x :: s,_,t=>match Nat.beq c.1 x.1,um r s t with
  | true,some u=>c.2.get x.2 u
  | _,_=>none
 | _,_,_,_=>none
theorem uo:∀ {l:List (Nat×ia)} {h:bz} {T:List Type} {t:c8 T} {u:c8 (mC l T)},um l h t=some u->(ju l u).2=t/\∀ env B w H,bA env B w h H->bA env B w (ju l u).1 H
 | [],[],_,_,_,h=>by cases h; exact⟨rfl,fun _ _ _ _ h=>h⟩
 | c :: r,x :: s,_,t,u,h=>by
  unfold um at h
  split at h
  ·rename_i fL ay e
   obtain⟨J,U⟩:=uo e;obtain⟨ag,aq⟩:=ia.iA x.1 h;unfold ju;rw[ag];refine⟨J,fun env B w H ⟨q,H',e,aX,ae⟩=>⟨q,H',e,?_,U _ _ _ _ ae⟩⟩;rw[Nat.eq_of_beq_eq_true ay];exact aq _ _ _ _ aX
  ·cases h
 | [],_ :: _,_,_,_,h=>by cases h
 | _ :: _,[],_,_,_,h=>by cases h
structure dW where
 L:List (Nat×kV)
 H:List (Nat×ia)
 rz:List Nat:=[]
 j6:List Nat:=[]
abbrev dW.T (s:dW):List Type:=wQ s.L (mC s.H [])
abbrev dW.D (s:dW):Type:=yY s.T
section
structure bC(X:bs) where
 f:FuncId
 fn:Func
 A:List fW
 eN:List (Nat×ia)
 aR:Type
 oz:aR
 m:c8 (jc A (mC eN []))->Option aR
 out:c8 (jc A (mC eN []))->aR->b3×bz
 az:X.P.funcs[f]?=some fn
 aV : (fn.name == "runtime.NumGoroutine") = false
 ae:fn.body.isNone=false
 ok:∀ d r,m d=some r->AC X f (hX A d).1 (ju eN (hX A d).2).1 (fun sv h=>sv=(out d r).1/\h=(out d r).2)
def py:ec->ec
 | []=>[]
 | (i,j) :: r=>(j,i) :: py r
theorem GL:∀ {ps:ec} {i j:Nat},(j,i)∈py ps ↔ (i,j)∈ps
 | [],_,_=>by simp[py]
 | (a,b) :: r,i,j=>by
  unfold py;rw[List.mem_cons,List.mem_cons,GL];simp only[Prod.mk.injEq];constructor<;>rintro(⟨J,U⟩ | h)
  ·exact .inl ⟨U,J⟩
  ·exact .inr h
  ·exact .inl ⟨U,J⟩
  ·exact .inr h
theorem NH:∀ ps:ec,sx (py ps)=kx ps
 | []=>rfl
 | (a,b) :: r=>by
  unfold py sx kx;rw[NH r]
theorem GM{ps:ec} (J:(sx ps).Nodup) (U:(kx ps).Nodup) {i j:Nat}:bd (py ps) j=some i ↔ bd ps i=some j:=by
 constructor
 ·intro h
  exact yD J (GL.1 (wx h))
 ·intro h
  exact yD (by rw[NH]; exact U) (GL.2 (wx h))
def oA(ps jd:ec):List Nat->bz->Option (bz×bz)
 | [],H=>some ([],H)
 | i :: is,H=>match bd ps i with
  | some j=>match bd H j with
   | some b'=>match b'.dF jd,oA ps jd is (mz j H)with
    | some b,some (h,H')=>some ((i,b) :: h,H')
    | _,_=>none
   | none=>none
  | none=>none
section
variable {X:bs} {R:Nat->Prop} {W:World} {aJ:e0} {n:Nat} {ks:List Nat} {env NI:Nat->Loc} {B:Nat->Prop} {al:World} {H:List bf} {st st':aO} {a aP:Act} {w w':World} {o:Oper} {d:Nat} {ps:ec}
theorem NJ(J:(sx ps).Nodup) (U:(kx ps).Nodup) (he:∀ i j,bd ps i=some j->NI i=env j):∀ {is:List Nat} {l h l':bz} {C:List bf},oA ps (py ps) is l=some (h,l')->bA env B al l C->∃ fT oq,C.Perm (fT++oq)/\bA NI B al h fT/\bA env B al l' oq
 | [],l,h,l',C,ao,dA=>by cases ao; exact⟨[],C,List.Perm.refl _,rfl,dA⟩
 | i :: is,l,h,l',C,ao,dA=>by
  unfold oA at ao
  split at ao
  ·rename_i j aH
   split at ao
   ·rename_i b' ah
    split at ao
    ·rename_i b aN uq ae aw
     cases ao;obtain⟨c,H2,ay,aS,cz⟩:=dA.erase ah;obtain⟨fT,oq,hh,hL,yX⟩:=NJ J U he aw cz;have ar:bd (py ps) j=some i:=(GM J U).2 aH;exact⟨c :: fT,oq,aS.trans (List.Perm.cons _ hh),⟨c,fT,rfl,(er.dF (fun j i h=>he i j ((GM J U).1 h)) ar ae).1 ay,hL⟩,yX⟩
    ·cases ao
   ·cases ao
  ·cases ao
structure wR(X:bs) (e:bC X) where
 d:c8 (jc e.A (mC e.eN []))
 H1:bz
def sM(X:bs) (n:Nat) (e:bC X) (ps:ec) (H:bz) (args:List bl):Option (wR X e):=
 match BQ n ps,yB (py ps) args,oA ps (py ps) (e.eN.map (·.1)) H with
 | true,some GN,some (J,H1)=>match um (T:=[]) e.eN J ()with
  | some u=>match wP e.A GN u with
   | some d=>some ⟨d,H1⟩
   | none=>none
  | none=>none
 | _,_,_=>none
def after(X:bs) (e:bC X) (ps:ec) (st:aO) (d:Nat) (p:wR X e) (r:e.aR):Option aO:=
 match ((e.out p.d r).1).dF ps,tV ps (e.out p.d r).2 with
 | some nc,some nJ=>match ps with
  | []=>some ⟨(d,nc) :: st.L,nJ++st.H⟩
  | _=>some ⟨(d,nc) :: rf (ll (ju e.eN (hX e.A p.d).2).1 ps) st.L,nJ++iY (ll (ju e.eN (hX e.A p.d).2).1 ps) (ll (ju e.eN (hX e.A p.d).2).1 ps) p.H1⟩
 | _,_=>none
def sN(X:bs) (n:Nat) (o:Oper) (dQ:bf->Bool) (st st':aO):Prop:=∀ (R:Nat->Prop) (W:World) (aJ:e0) (ks:List Nat) (env:Nat->Loc) (B:Nat->Prop) (al:World) (H:List bf) (a:Act) (w:World),bH X R W aJ n ks env B al H st a w->∀ (KK:Act->World->Prop) (l:List Oper),
 (∀ aP w' env' B' cC H',bH X R W aJ n ks env' B' cC H' st' aP w'->(∀ k,B k->B' k)->c6 (fun k=>R k\/B k) al cC->(∀ c∈H,dQ c=true->c∈H')->KK aP w')->eS X.P l.toArray o KK a w
theorem gp.c(h:gp X n o st st'):sN X n o (fun _=>false) st st':=fun R W aJ ks env B al H a w aj KK l bQ=>h R W aJ ks env B al H a w aj KK l fun aP w' env' H' ck=>bQ aP w' env' B al H' ck (fun _ h=>h) (c6.refl _ _) (fun _ _ h=>by cases h)
def Callee(X:bs) (st:aO) (o:Oper) (f:FuncId) (xs:List Operand) (pre post:List bl):Prop:=
 ∃ fN,(o.op=.call { callee:=.value (.func f),args:=xs.toArray,argTypes:=fN }/\pre=[]/\post=[]) \/
  (∃ s ids,o.op=.call { callee:=.value (.tmp s),args:=xs.toArray,argTypes:=fN }/\bd st.L s=some (.c (.fn f ids))/\pre=[]/\post=pk ids) \/
  ∃ s id,o.op=.call { callee:=.value (.tmp s),args:=xs.toArray,argTypes:=fN }/\bd st.L s=some (.c (.iH f id))/\pre=[.c (.ptr id 0)]/\post=[]
def Cl(X:bs) (n:Nat) (st:aO) (xs:List Operand) (args:List bl):Prop:=∀ (R:Nat->Prop) (W:World) (aJ:e0) (ks:List Nat) (env:Nat->Loc) (B:Nat->Prop) (al:World) (H:List bf) (a:Act) (w:World),bH X R W aJ n ks env B al H st a w->∃ vs,iE (gm a) xs=some vs/\dn env B al args vs
theorem Cl.of{xs:List Operand} {args:List bl} {c:Bool} (h:qe X st.L xs=some (c,args)) (aa:c=true):Cl X n st xs args:=fun _ _ _ _ _ _ _ _ _ _ aj=>yE aj h aa
def ur:cv->Bool
 | .cells _ _=>false
 | _=>true
def rA(j:Nat):bz->Bool
 | []=>true
 | (k,_) :: r=>!Nat.beq k j&&rA j r
def uu(H:bz):ec->Bool
 | []=>true
 | (i,j) :: r=>(Nat.ble h5 i || rA j H)&&uu H r
def pz(H:bz):ec->Bool
 | []=>true
 | (_,j) :: r=>rA j H&&pz H r
def rB(js:List Nat):bz->Bool
 | []=>true
 | (j,b) :: r=>(!js.elem j || ur b)&&rB js r
def wS(H:bz) (ps:ec):Bool:=uu H ps&&rB (kx ps) H
def uv(H:bz) (ps:ec) (c:bf):Bool:=pz H ps || (iw c&&wS H ps)
theorem NK{j:Nat}:∀ {H:bz},rA j H=true->∀ p∈H,p.1≠j
 | (k,b) :: r,h,p,ao=>by
  unfold rA at h;rw[Bool.and_eq_true]at h
  rcases List.mem_cons.1 ao with rfl | ao
  ·intro e
   have J:=h.1;rw[show k=j from e,Nat.beq_refl]at J;cases J
  ·exact NK h.2 p ao
theorem NL{j:Nat}:∀ {H:bz},rA j H=true->bd H j=none
 | [],_=>rfl
 | (k,b) :: r,h=>by
  unfold rA at h;rw[Bool.and_eq_true]at h;rw[cI,if_neg (fun e=>by have J:=h.1; rw[e,Nat.beq_refl]at J; cases J)];exact NL h.2
theorem NM{js:List Nat}:∀ {l:bz},(∀ p∈l,p.1 ∉ js)->sy js l=true
 | [],_=>rfl
 | (k,b) :: r,h=>by
  unfold sy;have J:=h (k,b) List.mem_cons_self;rw[Bool.and_eq_true];exact⟨by simpa using J,NM fun p ao=>h p (List.mem_cons_of_mem _ ao)⟩
theorem GO{h H:bz}:∀ {ps:ec},uu H ps=true->∀ j∈ll h ps,rA j H=true
 | [],_,j,aH=>by cases aH
 | (i,k) :: r,az,j,aH=>by
  unfold uu at az;rw[Bool.and_eq_true,Bool.or_eq_true]at az;unfold ll at aH
  split at aH
  ·exact GO az.2 j aH
  ·rename_i ab
   rcases List.mem_cons.1 aH with rfl | aH
   ·rcases az.1 with J | J
    ·unfold BO at ab
     rw[J]at ab;cases ab
    ·exact J
   ·exact GO az.2 j aH
theorem NN{H:bz}:∀ {ps:ec},pz H ps=true->uu H ps=true
 | [],_=>rfl
 | (i,j) :: r,h=>by
  unfold pz at h;rw[Bool.and_eq_true]at h;unfold uu;rw[h.1,NN h.2,Bool.or_true]
  rfl
theorem NO{H:bz}:∀ {ps:ec},pz H ps=true->∀ i j,(i,j)∈ps->rA j H=true
 | (_,_) :: r,h,i,j,hm=>by
  unfold pz at h;rw[Bool.and_eq_true]at h
  rcases List.mem_cons.1 hm with hm | hm
  ·cases hm; exact h.1
  ·exact NO h.2 i j hm
theorem NP{j:Nat}:∀ {l:bz} {p:Nat×cv},p∈mz j l->p∈l
 | (k,b) :: r,p,h=>by
  unfold mz at h
  split at h
  ·exact List.mem_cons_of_mem _ h
  ·rcases List.mem_cons.1 h with rfl | h
   ·exact List.mem_cons_self
   ·exact List.mem_cons_of_mem _ (NP h)
theorem GP{ps jd:ec}:∀ {is:List Nat} {l h l':bz},oA ps jd is l=some (h,l')->∀ p∈l',p∈l
 | [],_,_,_,ao,p,hm=>by cases ao; exact hm
 | i :: is,l,h,l',ao,p,hm=>by
  unfold oA at ao
  split at ao
  ·split at ao
   ·split at ao
    ·rename_i b aN uq ae aw
     cases ao;exact NP (GP aw p hm)
    ·cases ao
   ·cases ao
  ·cases ao
theorem ZN{ps jd:ec}:∀ {is:List Nat} {l h l':bz},pz l ps=true->oA ps jd is l=some (h,l')->h=[]/\l'=l
 | [],_,_,_,_,ao=>by cases ao; exact⟨rfl,rfl⟩
 | i :: is,l,h,l',aV,ao=>by
  unfold oA at ao
  split at ao
  ·rename_i j aH
   split at ao
   ·rename_i b' ah
    rw[NL (NO aV i j (wx aH))]at ah;cases ah
   ·cases ao
  ·cases ao
theorem NQ{h H H1:bz} {ps:ec} (az:uu H ps=true) (an:∀ p∈H1,p∈H):sy (ll h ps) H1=true:=NM fun p ao hm=>NK (GO az p.1 hm) p (an p ao) rfl
theorem ZO{ps:ec} {b b':cv} (h:b.dF ps=some b') (ae:ur b=true):ur b'=true:=by
 unfold cv.dF at h
 split at h
 all_goals first
  | (cases h; rfl)
  | (exfalso; simp[ur]at ae; done)
  | (split at h<;>first | (cases h; rfl) | cases h)
theorem NR{js:List Nat}:∀ {l:bz} {j:Nat} {b:cv},rB js l=true->j∈js->bd l j=some b->ur b=true
 | [],_,_,_,_,h=>by cases h
 | (k,pa) :: r,j,b,aV,aH,h=>by
  simp only[rB,Bool.and_eq_true]at aV;rw[cI]at h
  split at h
  ·rename_i e; subst e; cases h
   have J:=aV.1;rw[show js.elem _=true from List.elem_eq_true_of_mem aH]at J
   simpa using J
  ·exact NR aV.2 aH h
theorem NS{js:List Nat} {j:Nat}:∀ {l:bz},rB js l=true->rB js (mz j l)=true
 | [],_=>rfl
 | (k,pa) :: r,aV=>by
  have hr:=aV;simp only[rB,Bool.and_eq_true]at aV;unfold mz
  split
  ·exact aV.2
  ·simp only[rB,Bool.and_eq_true]
   exact⟨aV.1,NS aV.2⟩
theorem NT{ps jd:ec}:∀ {is:List Nat} {l h l':bz},rB (kx ps) l=true->oA ps jd is l=some (h,l')->∀ p∈h,ur p.2=true
 | [],_,_,_,_,ao=>by cases ao; intro p ao; cases ao
 | i :: is,l,h,l',aV,ao=>by
  unfold oA at ao
  split at ao
  ·rename_i j aH
   split at ao
   ·rename_i b' ah
    split at ao
    ·rename_i b aN uq ae aw
     cases ao;intro p ao
     rcases List.mem_cons.1 ao with rfl | ao
     ·exact ZO ae (NR aV (BR (wx aH)) ah)
     ·exact NT (NS aV) aw p ao
    ·cases ao
   ·cases ao
  ·cases ao
theorem bA.p9{env:Nat->Loc} {B:Nat->Prop} {w:World}:∀ {l:bz} {H:List bf},bA env B w l H->(∀ p∈l,ur p.2=true)->∀ c∈H,iw c=false
 | [],_,h,_,c,aa=>by rw[show _=[] from h]at aa; cases aa
 | (k,b) :: r,_,⟨c0,H',e,J,U⟩,aV,c,aa=>by
  subst e
  rcases List.mem_cons.1 aa with rfl | aa
  ·exact J.nF fun t cs e=>by
    have:=aV _ List.mem_cons_self
    rw[e]at this;cases this
  ·exact bA.p9 U (fun p ao=>aV p (List.mem_cons_of_mem _ ao)) c aa
theorem NU(e:bC X) {xs:List Operand} {pre post GQ:List bl} (ps:ec) (uw:Callee X st o e.f xs pre post) (bg:o.guard=none/\o.dst=some d) (ax:Nat.blt d n=true) (rC:Cl X n st xs GQ)
  {p:wR X e} (ao:sM X n e ps st.H (pre++(GQ++post))=some p) {r:e.aR} (aw:e.m p.d=some r) (aX:after X e ps st d p r=some st'):sN X n o (uv st.H ps) st st':=by
 intro R W aJ ks env B al H a w aj KK l bQ;unfold sM at ao
 split at ao
 ·rename_i GN J H1 mw NV l5
  split at ao
  ·rename_i u hu
   split at ao
   ·rename_i dd ZP
    cases ao;have NW:=mw;simp only[BQ,Bool.and_eq_true]at NW;obtain⟨⟨rD,y1⟩,aj5⟩:=NW;have pA:=yC rD;have pB:=yC y1;obtain⟨vs,g1,g2⟩:=rC _ _ _ _ _ _ _ _ _ _ aj;obtain⟨GR,ux⟩:=uo hu;obtain⟨rE,ZQ⟩:=y0 ZP;have he:∀ i j,bd ps i=some j->(fun i=>match bd ps i with | some j=>env j | none=>Loc.no) i=env j:=fun i j kQ=>by simp only[kQ]
    obtain⟨fT,oq,cz,hh,hL⟩:=NJ pA pB he l5 aj.heap;have an:bE B al fT w:=by
     have bb:=(aj.aM.perm (cz.append_right (ks.map dk))).e6 (H':=fT) (by rw[List.append_assoc]; exact List.sublist_append_left _ _);exact⟨⟨bb.below.os,bb.below.tape,bb.below.output,bb.below.size,fun k ab=>bb.below.block k (.inr ab)⟩,fun k ab=>bb.base k (.inr ab),fun c aa=>(bb.ok c aa).base fun b ae ab=>((bb.ok c aa).lt ae).1 (.inr ab),bb.apart⟩
    have dA:bA (fun i=>match bd ps i with | some j=>env j | none=>Loc.no) B al (ju e.eN (hX e.A dd).2).1 fT:=by rw[rE]; exact ux _ _ _ _ hh
    have key:∀ pb,dn env B al (pre++(GQ++post)) pb->o4 X.P e.f pb.toArray w (wq X (fun i=>match bd ps i with | some j=>env j | none=>Loc.no) B fT w (fun sv h=>sv=(e.out dd r).1/\h=(e.out dd r).2)):=fun pb h=>by
     have U:=(dn.dF (env:=env) (env':=fun i=>match bd ps i with | some j=>env j | none=>Loc.no) (fun j i e5=>he i j ((GM pA pB).1 e5)) NV).1 h;exact e.ok dd r aw B al _ pb fT w (fun i x ak=>aj.et i x ak) (ZQ _ _ _ _ U) dA an
    have fin:∀ v aP w',wq X (fun i=>match bd ps i with | some j=>env j | none=>Loc.no) B fT w (fun sv h=>sv=(e.out dd r).1/\h=(e.out dd r).2) v w'->cT n (j2 ks aJ) ((d,v) :: gm a) aP->KK aP w':=fun v aP w' rh aI=>by
     obtain⟨sv,aK,⟨rfl,rfl⟩,GS⟩:=aj.called mw cz dA hL rh aI;unfold after at aX
     split at aX
     ·rename_i nc nJ f1 f2
      obtain⟨env',B',cC,H',ck,j4,en,l6⟩:=GS nc nJ f1 f2;have Cm:∀ c∈H,uv st.H ps c=true->c∈H':=fun c aa aN=>by
       unfold uv at aN;rw[Bool.or_eq_true]at aN;have bX:=cz.mem_iff.1 aa
       rcases aN with aN | aN
       ·obtain⟨db,eB⟩:=ZN aN l5
        have BT:fT=[]:=by rw[db]at hh; exact hh
        rw[BT]at bX;exact l6 (NQ (NN aN) (GP l5)) c (by simpa using bX)
       ·simp only[Bool.and_eq_true,wS]at aN
        obtain⟨jG,tS,ff⟩:=aN
        rcases List.mem_append.1 bX with bX | bX
        ·have:=hh.p9 (NT ff l5) c bX
         rw[jG]at this;cases this
        ·exact l6 (NQ tS (GP l5)) c bX
      split at aX
      ·cases aX
       have dj:H1=st.H:=by
        cases il:e.eN with
        | nil=>rw[il]at l5; cases l5; rfl
        | cons q _=>rw[il]at l5; cases l5
       have fQ:bH X R W aJ n ks env' B' cC H' ⟨(d,nc) :: rf [] st.L,nJ++iY [] [] H1⟩ aP w':=ck;rw[VM,VN,dj]at fQ;exact bQ aP w' env' B' cC H' fQ j4 en Cm
      ·cases aX
       exact bQ aP w' env' B' cC H' ck j4 en Cm
     ·cases aX
    obtain⟨fN,uw⟩:=uw
    rcases uw with⟨aA,rfl,rfl⟩ | ⟨s,ids,aA,ah,rfl,rfl⟩ | ⟨s,id,aA,ah,rfl,rfl⟩
    ·exact T1 aj.sym aA bg ax e.az e.aV e.ae g1 (key vs (by simpa using g2)) fun v aP w' rh aI=>fin v aP w' rh aI
    ·obtain⟨fX,rF,lb,rfl,iM⟩:=aj.has _ _ ah
     exact Uu aj.sym aA bg ax (h6 rF) e.az e.aV e.ae g1 (key (vs++lb) (by simpa using g2.append (BU iM))) fun v aP w' rh aI=>fin v aP w' rh aI
    ·obtain⟨fX,rF,b,Cn,rfl⟩:=aj.has _ _ ah
     exact ZD aj.sym aA bg ax (h6 rF) e.az e.aV e.ae g1 (key (.pointer (some ⟨b,0,none⟩) :: vs) (by rw[List.append_nil]; exact⟨_,_,rfl,⟨b,Cn,rfl⟩,g2⟩)) fun v aP w' rh aI=>fin v aP w' rh aI
   ·cases ao
  ·cases ao
 ·cases ao
end
end
section
set_option linter.unusedSectionVars false
section
variable {X:bs} {M:Bool} {n:Nat} {r:Option Nat} {st:aO} {Q:Exit->aO->Prop} {ops rest:List Oper} {o:Oper} {d:Nat}
theorem ZR(gk aY:aU) {t:TypeId} (aA:o.op=.makeMap t none) (bg:o.guard=none/\o.dst=some d) (ax:Nat.blt d n=true)
  : gp X n o st ⟨(d,.c (.b8 d)) :: fK d .dead st.L,(d,.mp gk aY [] none) :: ef d .dead st.H⟩:=by
 intro R W aJ ks env B al H a w aj KK je ei;refine(hP aj.bZ bg.1 bg.2 (dY ax) (v:=.map (some w.heap.size)) (w':=w.alloc (.map #[] 0)) (by simp[execOp,aA,Instr.makeMap,newObj,Sem.run]) fun aP aI=>?_);obtain⟨H',_,ag⟩:=aj.oi (d:=d) ax (l:=.blk w.heap.size) (blk:=.mp gk aY [] none) (sv:=.c (.b8 d)) (aj.aM.alloc (.map #[] 0)) ⟨_,[],0,fp,rfl,rfl,⟨List.Pairwise.nil,fun _ h=>by cases h⟩,fun _ h=>by cases h⟩ ⟨_,fp,rfl⟩ aI;exact ei aP _ _ H' (ag)
theorem ZS(av:X.tt.ok X.P) {t fh fr:TypeId} {bw sJ dC:bh} {k:IntKind} {aY:aU} {u x:Operand} {id:Nat} {l:List (Int×aY.D)} {jQ:Option (List MapEntry×Nat)} {z:Int} {g:Bool} {bx:bl} (aA:o.op=.lookup t u x false) (bg:o.guard=none/\o.dst=some d) (ax:Nat.blt d n=true)
  (a8:X.tt.find t=some bw) (dh:bw.bq.desc=.map fh fr) (ab:X.tt.find fh=some sJ) (rv:sJ.bq.desc=.int k) (he:X.tt.find fr=some dC) (bG:∀ B w,dZ B w aY aY.zero dC.bq.zero)
  (hu:bp X st.L u=some (true,.c (.b8 id))) (ak:bp X st.L x=some (g,.c (.val (.int k z)))) (aQ:g=true) (b5:bd st.H id=some (.mp (.int k) aY l jQ)) (l1:ql aY ((cF (.int k) aY l z).getD aY.zero)=some bx)
  : gp X n o st ⟨(d,.a bx) :: st.L,st.H⟩:=by
 intro R W aJ ks env B al H a w aj KK je ei;obtain⟨iz,J,b,ae,rfl⟩:=aj.aD hu rfl;obtain⟨vx,U,ag⟩:=aj.aD ak aQ;rw[show vx=_ from ag]at U;obtain⟨c,K,⟨b',es,clock,dM,rfl,hV,cU,_⟩,ey⟩:=aj.heap.gz b5;rw[ae]at dM;cases dM;have hW:=(aj.aM.ok _ ey.more.mem).2;have ay:=(b9.get av a8).bq.1;rw[dh]at ay;have cz:=(b9.get av ab).bq.1;rw[rv]at cz;have hL:=bD.qU (b9.get av he).bq w;have lz:∃ v,(Instr.lookup t (.map (some b)) (.int k z) false).run X.P w=.ok v w/\dZ B al aY ((cF (.int k) aY l z).getD aY.zero) v:=by
  unfold Instr.lookup;rw[show(10000:Nat)=9999+1 from rfl];simp only[Sem.run_bind,run_underlying ay,Result.andThen_ok,MapKept.run_getObj_map hW,Fo cz,Sem.run_pure]
  rcases hV.Gy (z:=z) 0 with⟨aq,aE⟩ | ⟨y,j,v,aq,aE,bb,_⟩
  ·refine⟨dC.bq.zero,?_,by rw[aq]; exact bG _ _⟩
   simp[MapKept.run_findKey cz aE,hL,Result.andThen]
  ·refine⟨v,?_,by rw[aq]; exact bb⟩
   simp[MapKept.run_findKey cz aE,Result.andThen]
 obtain⟨v,dy,lA⟩:=lz;refine(hP aj.bZ bg.1 bg.2 (dY ax) (v:=v) (w':=w) ?_ fun aP aI=>?_)
 ·simp[execOp,aA,aj.bZ.aD J,aj.bZ.aD U,dy]
 ·exact ei aP _ env H (aj.set (sv:=.a bx) (lA.bx l1) aI)
theorem ZT(av:X.tt.ok X.P) {t:TypeId} {bw:bh} {u x:Operand} {s:List UInt8} {k:IntKind} {z:Int} {g g2:Bool} (aA:o.op=.index t u x) (bg:o.guard=none/\o.dst=some d) (ax:Nat.blt d n=true)
  (a8:X.tt.find t=some bw) (dh:bw.bq.desc=.string) (hu:bp X st.L u=some (g,.c (.str s))) (aQ:g=true) (ak:bp X st.L x=some (g2,.c (.val (.int k z)))) (dm:g2=true) (ae:bc z s.length=true)
  : gp X n o st ⟨(d,.c (.val (.int .u8 ((s.getD z.toNat 0).toNat:Int)))) :: st.L,st.H⟩:=by
 intro R W aJ ks env B al H a w aj KK je ei;obtain⟨iz,J,U⟩:=aj.aD hu aQ;rw[show iz=fc s from U]at J;obtain⟨vx,ag,aq⟩:=aj.aD ak dm;rw[show vx=_ from aq]at ag;obtain⟨j,rfl,aH,ht⟩:=mr ae;have ay:=(b9.get av a8).bq.1;rw[dh]at ay;have q7:(ByteArray.mk s.toArray)[j]?=some (s.getD j 0):=by
  have aW:j < (ByteArray.mk s.toArray).size:=by simpa [ByteArray.size] using aH
  have aS:(ByteArray.mk s.toArray)[j]?=some ((ByteArray.mk s.toArray)[j]'aW):=by
   exact getElem?_pos (ByteArray.mk s.toArray) j aW
  rw[aS,List.getD_eq_getElem?_getD,List.getElem?_eq_getElem aH]
  rfl
 refine(hP aj.bZ bg.1 bg.2 (dY ax) (v:=.int .u8 ((s.getD j 0).toNat:Int)) (w':=w) ?_ fun aP aI=>?_)
 ·have aN:(0:Int)<=(j:Int):=Int.natCast_nonneg j
  have dy:(Instr.index t (fc s) (.int k (j:Int))).run X.P w=.ok (.int .u8 ((s.getD j 0).toNat:Int)) w:=by
   simp only[Instr.index,fc,asIntOf,Sem.run_bind,Sem.run_pure,Result.andThen_ok,run_underlying ay,aN,if_true,Int.toNat_natCast,q7]
  simp[execOp,aA,aj.bZ.aD J,aj.bZ.aD ag,dy]
 ·simp only[Int.toNat_natCast]at ei
  exact ei aP _ env H (aj.set (sv:=.c (.val (.int .u8 ((s.getD j 0).toNat:Int)))) rfl aI)
theorem ZU(av:X.tt.ok X.P) {t fh fr:TypeId} {bw sJ:bh} {k:IntKind} {aY:aU} {u x y:Operand} {id:Nat} {l:List (Int×aY.D)} {jQ:Option (List MapEntry×Nat)} {z:Int} {g g2 c:Bool} {eb:bl} {e8:aY.D} (aA:o.op=.insert t u x y) (bg:o.guard=none/\o.dst=none)
  (a8:X.tt.find t=some bw) (dh:bw.bq.desc=.map fh fr) (ab:X.tt.find fh=some sJ) (rv:sJ.bq.desc=.int k)
  (hu:bp X st.L u=some (true,.c (.b8 id))) (ak:bp X st.L x=some (g,.c (.val (.int k z)))) (aQ:g=true) (aL:bp X st.L y=some (g2,eb)) (dm:g2=true) (b5:bd st.H id=some (.mp (.int k) aY l jQ))
  (mq:dec aY eb.cells=some (c,e8,[])) (aa:c=true) (dP:ly aY eb=true)
  : gp X n o st ⟨st.L,eM id (.mp (.int k) aY (eD (.int k) aY l z e8) none) st.H⟩:=by
 intro R W aJ ks env B al H a w aj KK je ei;obtain⟨iz,J,b,ae,rfl⟩:=aj.aD hu rfl;obtain⟨vx,U,ag⟩:=aj.aD ak aQ;rw[show vx=_ from ag]at U;obtain⟨vy,aq,aE⟩:=aj.aD aL dm;have lA:dZ B al aY e8 vy:=dZ.ug mq aa dP aE;obtain⟨ee,K,⟨b',es,clock,dM,rfl,hV,cU,_⟩,ey,ha⟩:=aj.pe (b':=.mp (.int k) aY (eD (.int k) aY l z e8) none) b5;rw[ae]at dM;cases dM;have hW:=(aj.aM.ok _ ey.mem).2;have ay:=(b9.get av a8).bq.1;rw[dh]at ay;have cz:=(b9.get av ab).bq.1;rw[rv]at cz;have lz:∃ nN pC,(Instr.mapUpdate t (.map (some b)) (.int k z) vy).run X.P w=.ok () { w with heap:=w.heap.setIfInBounds b (.map nN.toArray pC) }/\gb B al (.int k) aY (eD (.int k) aY l z e8) nN/\Stamped nN pC:=by
  unfold Instr.mapUpdate;rw[show(10000:Nat)=9999+1 from rfl];simp only[Sem.run_bind,run_underlying ay,Result.andThen_ok,MapKept.run_getObj_map hW,Fo cz]
  rcases hV.setInt lA (z:=z) 0 with⟨bb,bX⟩ | ⟨j,v,e,bb,bX,dj,il⟩
  ·refine⟨es++[MapEntry.mk (.int k z) vy clock],clock+1,?_,?_,?_⟩
   ·simp only[MapKept.run_findKey cz bb,Result.andThen_ok,MapKept.run_setObj_map _ hW]
    simp
   ·rw[bX]
    have iN:dZ B al (.int k) z (.int k z):=show [Value.int k z]=[Value.int k z] from rfl
    exact gb.snoc (gk:=.int k) (x:=(z,e8)) (e:=MapEntry.mk (.int k z) vy clock) iN lA hV
   ·refine⟨?_,?_⟩
    ·rw[List.map_append,List.pairwise_append]
     exact⟨cU.1,by simp,fun p ao q ar=>by simp at ar; subst ar; exact cU.2 p ao⟩
    ·intro p ao
     rw[List.map_append,List.mem_append]at ao
     rcases ao with ao | ao
     ·exact Nat.lt_succ_of_lt (cU.2 p ao)
     ·simp at ao; omega
  ·refine⟨es.modify j fun e=>{ e with key:=.int k z,val:=vy },clock,?_,il,?_⟩
   ·rw[Nat.zero_add]at bb
    have lS:(Instr.keyThatStays (((es.toArray[j]?).map (·.key)).getD (.int k z)) (.int k z)).run X.P w=.ok (.int k z) w:=by
     have:((es.toArray[j]?).map (·.key)).getD (.int k z)=.int k z:=by simp[bX,dj]
     rw[this]
     simp[Instr.keyThatStays,Instr.sameBits]
    simp only[MapKept.run_findKey cz bb,Result.andThen_ok,Sem.run_bind,lS,MapKept.run_setObj_map _ hW]
    simp
   ·rw[Stamped,yS (f:=fun e=>{ e with key:=.int k z,val:=vy }) (fun _=>rfl)]
    exact cU
 obtain⟨nN,pC,dy,GU,GV⟩:=lz;refine(Bj aj.bZ bg.1 bg.2 (w':={ w with heap:=w.heap.setIfInBounds b (.map nN.toArray pC) }) ?_ fun aP aI=>?_)
 ·simp[execOp,aA,aj.bZ.aD J,aj.bZ.aD U,aj.bZ.aD aq,dy]
 ·obtain⟨H',hb⟩:=ha _ aP _ ⟨b,nN,pC,ae,rfl,GU,GV,fun _ h=>by cases h⟩ (aj.aM.x9 ey) aI
  exact ei aP _ env H' (hb)
theorem ZV(av:X.tt.ok X.P) {t T y2:TypeId} {bw:bh} {x y:Operand} {id d i:Nat} {g g':aU} {l:List (List g.D)} {l2:List g'.D} {cap y3:Option Nat} {g1 g2:Bool} (aA:o.op=.store t x y) (bg:o.guard=none/\o.dst=none)
  (a8:X.tt.find t=some bw) (dv:Nat.beq bw.bq.size 1=true) (ak:bp X st.L x=some (g1,.c (.eG id 1 i 0))) (dN:g1=true) (aL:bp X st.L y=some (g2,.c (.ai d))) (dm:g2=true) (b5:bd st.H id=some (.row T (.ai g) l cap)) (Co:bd st.H d=some (.row y2 g' l2 y3))
  (hi:decide (i < l.length)=true)
  : gp X n o st ⟨st.L,eM id (.cM false T g l cap i d) st.H⟩:=by
 intro R W aJ ks env B al H a w aj KK je ei;obtain⟨vx,J,b,c,m,he,rfl⟩:=aj.aD ak dN;obtain⟨vy,fF,c2,cL,m2,lp,rfl⟩:=aj.aD aL dm;obtain⟨ee,K,⟨A,k,xs,cV,rfl,di,fy⟩,az,ha⟩:=aj.pe (b':=.cM false T g l cap i d) b5;rw[he]at cV;cases cV;have aW:=of_decide_eq_true hi;have j0:=bF.mX di;have ZW:xs.length=l.length:=by rw[j0]; show l.length * 1=_; omega
 have lT:=(b9.get av a8).bq;have fb:=Nat.eq_of_beq_eq_true dv;refine(BF (v:=.slice c2 m2 cL) aj.sym aA bg lT J fF (by rw[fb]; rfl) (by intro u hu; simp[Value.cells]at hu; subst hu; rfl) az (by show i * 1+0+1<=l.length * 1; omega) fun aP w' cw=>?_);obtain⟨H',ag⟩:=ha _ aP w' ⟨some ⟨b,0,none⟩,c,xs,c2,cL,m2,he,rfl,di,aW,lp,fy,fun h=>by cases h⟩ (by
  have e:xs.take (i * 1+0)++(Value.slice c2 m2 cL).cells.toList++xs.drop (i * 1+0+(Value.slice c2 m2 cL).cells.toList.length)=xs.set i (.slice c2 m2 cL):=by
   rw[List.set_eq_take_append_cons_drop,if_pos (by omega)]
   simp[Value.cells]
  have:=cw.aM
  rw[e]at this;exact this) cw.st
 exact ei aP _ env H' (ag)
theorem ZX(av:X.tt.ok X.P) {t T y2:TypeId} {bw:bh} {x y:Operand} {id d i:Nat} {g g':aU} {l:List (List g.D)} {l2:List g'.D} {cap:Option Nat} {q:Nat} {g1 g2:Bool} (aA:o.op=.store t x y) (bg:o.guard=none/\o.dst=none)
  (a8:X.tt.find t=some bw) (dv:Nat.beq bw.bq.size 1=true) (ak:bp X st.L x=some (g1,.c (.eG id 1 i 0))) (dN:g1=true) (aL:bp X st.L y=some (g2,.c (.ai d))) (dm:g2=true) (b5:bd st.H id=some (.row T (.gS g) l cap)) (Co:bd st.H d=some (.row y2 g' l2 (some q)))
  (hi:decide (i < l.length)=true) (ar:Nat.beq q l2.length=true)
  : gp X n o st ⟨st.L,eM id (.cM true T g l cap i d) st.H⟩:=by
 intro R W aJ ks env B al H a w aj KK je ei;obtain⟨vx,J,b,c,m,he,rfl⟩:=aj.aD ak dN;obtain⟨vy,fF,c2,cL,m2,lp,rfl⟩:=aj.aD aL dm;obtain⟨ee,K,⟨A,k,xs,cV,rfl,di,fy⟩,az,ha⟩:=aj.pe (b':=.cM true T g l cap i d) b5;rw[he]at cV;cases cV;have aW:=of_decide_eq_true hi;have iF:cL=m2:=by
  obtain⟨ZY,NX,⟨ZZ,l6,aj6,wy,_,_,sO⟩,_⟩:=aj.heap.gz Co;rw[lp]at wy;cases wy;rw[sO q rfl];exact Nat.eq_of_beq_eq_true ar
 have j0:=bF.mX di;have ZW:xs.length=l.length:=by rw[j0]; show l.length * 1=_; omega
 have lT:=(b9.get av a8).bq;have fb:=Nat.eq_of_beq_eq_true dv;refine(BF (v:=.slice c2 m2 cL) aj.sym aA bg lT J fF (by rw[fb]; rfl) (by intro u hu; simp[Value.cells]at hu; subst hu; rfl) az (by show i * 1+0+1<=l.length * 1; omega) fun aP w' cw=>?_);obtain⟨H',ag⟩:=ha _ aP w' ⟨some ⟨b,0,none⟩,c,xs,c2,cL,m2,he,rfl,di,aW,lp,fy,fun _=>iF⟩ (by
  have e:xs.take (i * 1+0)++(Value.slice c2 m2 cL).cells.toList++xs.drop (i * 1+0+(Value.slice c2 m2 cL).cells.toList.length)=xs.set i (.slice c2 m2 cL):=by
   rw[List.set_eq_take_append_cons_drop,if_pos (by omega)]
   simp[Value.cells]
  have:=cw.aM
  rw[e]at this;exact this) cw.st
 exact ei aP _ env H' (ag)
theorem Z0(g:aU) (m:Nat) (z:Int) (av:X.tt.ok X.P) {t e:TypeId} {bw dC:bh} {u x:Operand} {Cp:bl} {k:IntKind} {l:List g.D} {g1 g2 c:Bool} {bx:bl} (aA:o.op=.index t u x) (bg:o.guard=none/\o.dst=some d) (ax:Nat.blt d n=true)
  (a8:X.tt.find t=some bw) (dh:bw.bq.desc=.array m e) (he:X.tt.find e=some dC) (dv:Nat.beq g.size dC.bq.size=true) (qm:lR dC.bq.desc=g.rp) (iT:(g.rp || Nat.beq g.size 1)=true) (hu:bp X st.L u=some (g1,Cp)) (dN:g1=true)
  (ak:bp X st.L x=some (g2,.c (.val (.int k z)))) (dm:g2=true) (aX:Cc g m Cp=some (c,l)) (aa:c=true) (bG:bc z m=true) (nG:bc z l.length=true) (l1:ql g (l.getD z.toNat g.zero)=some bx)
  : gp X n o st ⟨(d,.a bx) :: st.L,st.H⟩:=by
 intro R W aJ ks env B al H a w aj KK je ei;obtain⟨iz,J,U⟩:=aj.aD hu dN;obtain⟨vs,rfl,di⟩:=Zv U aX aa;obtain⟨vx,ag,aq⟩:=aj.aD ak dm;rw[show vx=_ from aq]at ag;obtain⟨j,rfl,aH,_⟩:=mr bG;obtain⟨iV,UX,kN,_⟩:=mr nG;have GW:j < l.length:=by omega
 rw[Int.toNat_natCast]at l1;have ay:=(b9.get av a8).bq.1;rw[dh]at ay;obtain⟨v,aC,lA⟩:=Zu (w:=w) (b9.get av he).bq di GW (Nat.eq_of_beq_eq_true dv) qm iT;have dy:=Zt (k:=k) ay (b9.get av he).bq aH aC;refine(hP aj.bZ bg.1 bg.2 (dY ax) (v:=v) (w':=w) (by simp[execOp,aA,aj.bZ.aD J,aj.bZ.aD ag,dy]) fun aP aI=>?_);exact ei aP _ env H (aj.set (sv:=.a bx) (lA.bx l1) aI)
theorem Z1(av:X.tt.ok X.P) {t:TypeId} {bw:bh} {u x:Operand} {s:List UInt8} {k:IntKind} {z:Int} {g g2:Bool} (aA:o.op=.slice t u (some x) none none) (bg:o.guard=none/\o.dst=some d) (ax:Nat.blt d n=true)
  (a8:X.tt.find t=some bw) (dh:bw.bq.desc=.string) (hu:bp X st.L u=some (g,.c (.str s))) (aQ:g=true) (ak:bp X st.L x=some (g2,.c (.val (.int k z)))) (dm:g2=true) (aN:decide (0<=z)=true) (J:decide (z<=(s.length:Int))=true)
  : gp X n o st ⟨(d,.c (.str (s.drop z.toNat))) :: st.L,st.H⟩:=by
 intro R W aJ ks env B al H a w aj KK je ei;obtain⟨iz,db,eB⟩:=aj.aD hu aQ;rw[show iz=fc s from eB]at db;obtain⟨vx,hM,iJ⟩:=aj.aD ak dm;rw[show vx=_ from iJ]at hM;have ay:=(b9.get av a8).bq.1;rw[dh]at ay;have pD:=of_decide_eq_true aN;have rG:=of_decide_eq_true J;have dy:=GB (w:=w) (s:=s) (lo:=some (.int k z)) (hi:=none) (a:=z.toNat) (b:=s.length) ay (by simp[Instr.sliceBounds,Instr.sliceBound,asIntOf,pD,rG]);rw[List.take_length]at dy;refine(hP aj.bZ bg.1 bg.2 (dY ax) (v:=fc (s.drop z.toNat)) (w':=w) (by simp[execOp,aA,aj.bZ.aD db,aj.bZ.aD hM,dy]) fun aP aI=>?_);exact ei aP _ env H (aj.set (sv:=.c (.str (s.drop z.toNat))) rfl aI)
theorem Z2(av:X.tt.ok X.P) {t:TypeId} {bw:bh} {u x:Operand} {s:List UInt8} {k:IntKind} {z:Int} {g g2:Bool} (aA:o.op=.slice t u none (some x) none) (bg:o.guard=none/\o.dst=some d) (ax:Nat.blt d n=true)
  (a8:X.tt.find t=some bw) (dh:bw.bq.desc=.string) (hu:bp X st.L u=some (g,.c (.str s))) (aQ:g=true) (ak:bp X st.L x=some (g2,.c (.val (.int k z)))) (dm:g2=true) (aN:decide (0<=z)=true) (J:decide (z<=(s.length:Int))=true)
  : gp X n o st ⟨(d,.c (.str (s.take z.toNat))) :: st.L,st.H⟩:=by
 intro R W aJ ks env B al H a w aj KK je ei;obtain⟨iz,db,eB⟩:=aj.aD hu aQ;rw[show iz=fc s from eB]at db;obtain⟨vx,hM,iJ⟩:=aj.aD ak dm;rw[show vx=_ from iJ]at hM;have ay:=(b9.get av a8).bq.1;rw[dh]at ay;have pD:=of_decide_eq_true aN;have rG:=of_decide_eq_true J;have dy:=GB (w:=w) (s:=s) (lo:=none) (hi:=some (.int k z)) (a:=0) (b:=z.toNat) ay (by simp[Instr.sliceBounds,Instr.sliceBound,asIntOf,pD,rG]);rw[List.drop_zero]at dy;refine(hP aj.bZ bg.1 bg.2 (dY ax) (v:=fc (s.take z.toNat)) (w':=w) (by simp[execOp,aA,aj.bZ.aD db,aj.bZ.aD hM,dy]) fun aP aI=>?_);exact ei aP _ env H (aj.set (sv:=.c (.str (s.take z.toNat))) rfl aI)
theorem Z3(av:X.tt.ok X.P) {t:TypeId} {bw:bh} {u x y:Operand} {s:List UInt8} {k en:IntKind} {z z2:Int} {g g2 g3:Bool} (aA:o.op=.slice t u (some x) (some y) none) (bg:o.guard=none/\o.dst=some d) (ax:Nat.blt d n=true)
  (a8:X.tt.find t=some bw) (dh:bw.bq.desc=.string) (hu:bp X st.L u=some (g,.c (.str s))) (aQ:g=true) (ak:bp X st.L x=some (g2,.c (.val (.int k z)))) (dm:g2=true) (aL:bp X st.L y=some (g3,.c (.val (.int en z2)))) (jo:g3=true) (aN:decide (0<=z)=true) (J:decide (z<=z2)=true) (U:decide (z2<=(s.length:Int))=true)
  : gp X n o st ⟨(d,.c (.str ((s.take z2.toNat).drop z.toNat))) :: st.L,st.H⟩:=by
 intro R W aJ ks env B al H a w aj KK je ei;obtain⟨iz,db,eB⟩:=aj.aD hu aQ;rw[show iz=fc s from eB]at db;obtain⟨vx,hM,iJ⟩:=aj.aD ak dm;rw[show vx=_ from iJ]at hM;obtain⟨vy,j1,uy⟩:=aj.aD aL jo;rw[show vy=_ from uy]at j1;have ay:=(b9.get av a8).bq.1;rw[dh]at ay;have pD:=of_decide_eq_true aN;have rG:=of_decide_eq_true J;have qV:=of_decide_eq_true U;have BE:0<=z2:=by omega
 have Z4:z<=(z2.toNat:Int):=by omega
 have dy:=GB (w:=w) (s:=s) (lo:=some (.int k z)) (hi:=some (.int en z2)) (a:=z.toNat) (b:=z2.toNat) ay (by
  have uz:z<=max z2 0:=by omega
  simp[Instr.sliceBounds,Instr.sliceBound,asIntOf,pD,qV,BE,uz])
 refine(hP aj.bZ bg.1 bg.2 (dY ax) (v:=fc ((s.take z2.toNat).drop z.toNat)) (w':=w) (by simp[execOp,aA,aj.bZ.aD db,aj.bZ.aD hM,aj.bZ.aD j1,dy]) fun aP aI=>?_);exact ei aP _ env H (aj.set (sv:=.c (.str ((s.take z2.toNat).drop z.toNat))) rfl aI)
theorem Z5(av:X.tt.ok X.P) {t e:TypeId} {x y:Operand} {g1 g2:Bool} {eb:bl} {cJ gU c:Nat} {ge g:aU} {l l2:List g.D} {bw:bh} {aG:TypeDesc} {kO:Value} (aA:o.op=.call ⟨.builtin .append,⟨[x,y]⟩,⟨[t,t]⟩⟩) (bg:o.guard=none/\o.dst=some d) (ax:Nat.blt d n=true)
  (a8:X.tt.find t=some bw) (dh:bw.bq.desc=.slice e) (he:X.tt.find e=some ⟨⟨aG,cJ,gU,kO⟩,some ge⟩) (ak:bp X st.L x=some (g1,.c (.bk g l (some c)))) (aQ:g1=true) (aL:bp X st.L y=some (g2,eb)) (ea:g2=true)
  (dv:Nat.beq g.size cJ=true) (my:mx st g eb=some l2) (aa:eg gU (l.length+l2.length)=true) (kU:decide (c=l.length)=true)
  : gp X n o st ⟨(d,.c (.ai d)) :: fK d .dead st.L,(d,.gl e g (l++l2)) :: ef d .dead st.H⟩:=by
 intro R W aJ ks env B al H a w h KK je ei;obtain⟨vx,gZ,A,c',xs,rfl,db,eB,fy,di,hR⟩:=h.aD ak aQ;obtain⟨vy,fF,j3⟩:=h.aD aL ea;have ay:=fy c rfl;have aS:=of_decide_eq_true kU;have cz:c'=l.length:=ay.trans aS;rw[cz]at gZ eB;obtain⟨dN,dm,jo⟩:=(b9.get av he).g ge rfl;obtain⟨T,bI,J,aq⟩:=mY (b9.get av a8).bq (b9.get av he).bq;dsimp only at dN dm aq;have oa:kO.cells.size=cJ:=by
  have:kO.cells.toList.length=cJ:=by rw[dm,<- dN]; exact bF.length (bF.ek (B:=B) (w:=al) ge)
  simpa using this
 have gJ:=Nat.eq_of_beq_eq_true dv;simp only[eg,Bool.and_eq_true,decide_eq_true_eq]at aa;obtain⟨c2,cL,gB,rfl,iK,fS⟩:=ss h my j3;have rb:=hR.jD h.aM;rw[gJ]at rb fS;refine(Nx h.sym aA bg ax bI J dh aq (by rw[<- dN]; exact Nat.ble_eq_true_of_le jo) oa gZ fF rb fS (Flat.iX (fun _ _=>bF.iX) iK) aa.1 aa.2 (fun hm aP w' cw=>?_) fun bP c' aP w' cw=>?_)
 ·have ja:l2=[]:=List.eq_nil_of_length_eq_zero hm
  subst ja;obtain⟨H',_,dj⟩:=h.oi (d:=d) ax (l:=.row A l.length (l++[]).length) (c:=.row none 0 e g.size 0 []) (blk:=.gl e g (l++[])) (sv:=.c (.ai d)) (v:=.slice A l.length l.length) (cw.aM.sg e g.size) ⟨A,l.length,fp,.inr ⟨rfl,by simp,eB,xs,by rw[List.append_nil]; exact di,by rw[List.append_nil]; exact hR⟩⟩ ⟨A,l.length,_,fp,by simp⟩ cw.st;exact ei aP w' _ H' (dj)
 ·obtain⟨H',_,dj⟩:=h.oi (d:=d) ax (l:=.row bP c' (l++l2).length) (c:=.row bP c' e g.size (l++l2).length (xs++gB)) (blk:=.gl e g (l++l2)) (sv:=.c (.ai d)) (v:=.slice bP (l.length+l2.length) c') (by have:=cw.aM; rw[<- gJ]at this; rw[List.length_append]; exact this) ⟨bP,c',fp,.inl ⟨_,rfl,di.append iK⟩⟩ ⟨bP,c',_,fp,by rw[List.length_append]⟩ cw.st
  exact ei aP w' _ H' (dj)
end
end
section
section
variable {X:bs} {n:Nat} {st st':aO} {o:Oper} {d:Nat}
end
end
section
set_option linter.unusedSectionVars false
section
variable {X:bs} {M:Bool} {n:Nat} {st:aO} {Q:Exit->aO->Prop} {ops rest:List Oper} {o:Oper} {d:Nat}
theorem Z6(av:X.tt.ok X.P) {t e:TypeId} {bw dC:bh} {u x:Operand} {id:Nat} {T:TypeId} {g:aU} {l:List g.D} {cap:Option Nat} {k:IntKind} {z:Int} {g1 g2:Bool} (aA:o.op=.slice t u (some x) none none)
  (a8:X.tt.find t=some bw) (dh:bw.bq.desc=.slice e) (he:X.tt.find e=some dC) (hu:bp X st.L u=some (g1,.c (.ai id))) (dN:g1=true) (ak:bp X st.L x=some (g2,.c (.val (.int k z)))) (dm:g2=true)
  (b5:bd st.H id=some (.row T g l cap)) (dv:Nat.beq g.size dC.bq.size=true) (bG:(decide (0<=z)&&decide (z<=(l.length:Int)))=true):ix X st o (.c (.iI id g.size z.toNat)):=by
 intro R W aJ n ks env B al H a b1 aj;simp only[Bool.and_eq_true,decide_eq_true_eq]at bG;obtain⟨iz,J,A,c,m,iL,rfl⟩:=aj.aD hu dN;obtain⟨vx,U,ag⟩:=aj.aD ak dm;rw[show vx=_ from ag]at U;obtain⟨ee,K,⟨bP,k',xs,cV,rfl,_⟩,az⟩:=aj.heap.gz b5;rw[iL]at cV;cases cV;obtain⟨NY,bI,db,iJ⟩:=mY (b9.get av a8).bq (b9.get av he).bq;refine⟨_,⟨A,c,l.length,iL,by omega,rfl⟩,fun w _=>?_⟩
 have:=Ma (l:=z.toNat) aj.bZ aA bI db dh iJ J U (by omega) (by omega) w
 rw[<- Nat.eq_of_beq_eq_true dv]at this;exact this
theorem Flat.part{α:Type} {R:α->List Value->Prop} {k:Nat} (h:∀ x vs,R x vs->vs.length=k) {l l2:List α} {xs gB:List Value} {i:Nat} (J:Flat R l xs) (U:Flat R l2 gB):Flat R (l.take i++l2++l.drop (i+l2.length)) (xs.take (i * k)++gB++xs.drop (i * k+gB.length)):=by
 have e:=Flat.length h U;rw[e,<- Nat.add_mul];exact((Flat.split h i J).1.append U).append (Flat.split h (i+l2.length) J).2
theorem Z7(av:X.tt.ok X.P) {t e:TypeId} {x y:Operand} {g1 g2:Bool} {eb:bl} {id cJ gU s p:Nat} {ge g:aU} {l l2:List g.D} {cap:Option Nat} {bw:bh} {aG:TypeDesc} {kO:Value} (aA:o.op=.call ⟨.builtin .copy,⟨[x,y]⟩,⟨[t,t]⟩⟩) (bg:o.guard=none/\o.dst=some d) (ax:Nat.blt d n=true)
  (a8:X.tt.find t=some bw) (dh:bw.bq.desc=.slice e) (he:X.tt.find e=some ⟨⟨aG,cJ,gU,kO⟩,some ge⟩) (ak:bp X st.L x=some (g1,.c (.iI id s p))) (aQ:g1=true) (aL:bp X st.L y=some (g2,eb)) (ea:g2=true)
  (b5:bd st.H id=some (.row e g l cap)) (dv:Nat.beq g.size cJ=true) (an:Nat.beq s cJ=true) (my:mx st g eb=some l2) (jH:Nat.blt 0 cJ=true) (aa:decide (p+l2.length<=l.length)=true):gp X n o st ⟨(d,.c (.val (.int .i64 (l2.length:Int)))) :: st.L,eM id (.row e g (l.take p++l2++l.drop (p+l2.length)) cap) st.H⟩:=by
 intro R W aJ ks env B al H a w h KK lo ei;obtain⟨vx,gZ,kt⟩:=h.aD ak aQ;obtain⟨vy,fF,j3⟩:=h.aD aL ea;obtain⟨T,bI,J,aq⟩:=mY (b9.get av a8).bq (b9.get av he).bq;have gJ:=Nat.eq_of_beq_eq_true dv;have hq:=Nat.eq_of_beq_eq_true an;have kU:=of_decide_eq_true aa;obtain⟨c2,cL,gB,rfl,iK,fS⟩:=ss h my j3;obtain⟨A,c,m,iL,qp,rfl⟩:=kt;obtain⟨ee,K,⟨bP,k',xs,nb,rfl,di,fy⟩,ey,nH⟩:=h.pe (b':=.row e g (l.take p++l2++l.drop (p+l2.length)) cap) b5;rw[iL]at nb;cases nb;rw[gJ]at ey fS;rw[hq]at gZ;have hlen:(l.take p++l2++l.drop (p+l2.length)).length=l.length:=by
  simp only[List.length_append,List.length_take,List.length_drop];omega
 refine Mc h.sym aA bg ax bI J dh aq gZ fF ey fS (Flat.iX (fun _ _=>bF.iX) iK) (dY jH) kU fun aP w' cw=>?_
 have wT:=Flat.part (i:=p) (fun _ _=>bF.length) di iK;rw[gJ]at wT;obtain⟨H',dj⟩:=nH (.row A c e g.size l.length (xs.take (p * cJ)++gB++xs.drop (p * cJ+gB.length))) a w' ⟨A,c,_,by rw[hlen]; exact iL,by rw[hlen],wT,fy⟩ (by rw[gJ]; exact cw.aM) h.bZ;exact ei aP w' _ H' (dj.set rfl cw.st)
theorem Z8(av:X.tt.ok X.P) {t e:TypeId} {bw:bh} {u:Operand} {id:Nat} {g1:Bool} (aA:o.op=.call ⟨.builtin .cap,⟨[u]⟩,⟨[t]⟩⟩)
  (a8:X.tt.find t=some bw) (dh:bw.bq.desc=.slice e) (hu:bp X st.L u=some (g1,.c (.ai id))) (dN:g1=true):ix X st o (.c (.iU id)):=by
 intro R W aJ n ks env B al H a b1 aj;obtain⟨iz,J,A,c,m,iL,rfl⟩:=aj.aD hu dN;obtain⟨NY,bI,db⟩:=Bt (b9.get av a8).bq;exact⟨_,⟨A,c,m,iL,rfl⟩,fun w _=>Fi aj.bZ aA bI db dh J w⟩
theorem eQ.less{w:World} {B:Nat->Prop} {e:TypeId} {size c n m:Nat} {A:Option Addr} {xs:List Value} (h:eQ w B e size A c n xs) (hm:m<=n):eQ w B e size A c m (xs.take (m * size)):=by
 have NZ:m * size<=n * size:=Nat.mul_le_mul_right _ hm;refine⟨by rw[List.length_take,h.1,Nat.min_eq_left NZ],?_⟩
 rcases h.2 with⟨J,U,ag⟩ | ⟨g,cur,dz,J,U,ag,aq,aE,bb,bX,dj⟩
 ·exact .inl ⟨J,by omega,ag⟩
 ·exact .inr ⟨g,cur,dz,J,U,ag,aq,by omega,bb,bX,by rw[<- dj,List.take_take,Nat.min_eq_left NZ]⟩
theorem Z9(av:X.tt.ok X.P) {t e:TypeId} {bw dC:bh} {u y v:Operand} {id:Nat} {T:TypeId} {g:aU} {l:List g.D} {cap:Option Nat} {k:IntKind} {z:Int} {g1 g2 g3:Bool} (aA:o.op=.slice t u none (some y) (some v)) (bg:o.guard=none/\o.dst=some d) (ax:(Nat.blt d n&&Nat.blt id h5)=true)
  (a8:X.tt.find t=some bw) (dh:bw.bq.desc=.slice e) (he:X.tt.find e=some dC) (hu:bp X st.L u=some (g1,.c (.ai id))) (dN:g1=true) (aL:bp X st.L y=some (g2,.c (.val (.int k z)))) (dm:g2=true) (aC:bp X st.L v=some (g3,.c (.iU id))) (jo:g3=true)
  (b5:bd st.H id=some (.row T g l cap)) (bG:(decide (0<=z)&&decide (z<=(l.length:Int)))=true):gp X n o st ⟨(d,.c (.ai id)) :: fK id .dead st.L,(id,.row T g (l.take z.toNat) cap) :: ef id .dead st.H⟩:=by
 intro R W aJ ks env B al H a w aj KK je ei;simp only[Bool.and_eq_true,decide_eq_true_eq]at bG ax;obtain⟨ax,tS⟩:=ax;obtain⟨iz,J,A,c,m,iL,rfl⟩:=aj.aD hu dN;obtain⟨vy,U,ag⟩:=aj.aD aL dm;rw[show vy=_ from ag]at U;obtain⟨vv,aq,aj7,N0,m4,N1,rfl⟩:=aj.aD aC jo;rw[iL]at N1;cases N1;obtain⟨ee,K,⟨bP,k',xs,cV,rfl,di,fy⟩,az,nH⟩:=aj.FY (d:=d) (b':=.row T g (l.take z.toNat) cap) b5 (fun q ao=>by
  obtain⟨_,aE,bb⟩:=aj.dL _ _ ao;rw[iL]at aE
  rcases bb with⟨b,bb⟩ | bb
  ·rw[<- aE]at bb; cases bb
  ·have:=dY tS; omega)
 rw[iL]at cV;cases cV;obtain⟨NY,bI,db,iJ⟩:=mY (b9.get av a8).bq (b9.get av he).bq;have fx:eQ w (fun k=>R k\/B k) T g.size A c l.length xs:=aj.aM.ok _ az.mem;have dy:=Mm (h:=z.toNat) (q:=c) aj.bZ aA bI db dh iJ J U aq (by omega) rfl (by have:=fx.le.1; omega) (Nat.le_refl _) w;refine hP aj.bZ bg.1 bg.2 (dY ax) (v:=.slice A z.toNat c) (w':=w) dy fun aP aI=>?_
 have GX:(l.take z.toNat).length=z.toNat:=by rw[List.length_take]; omega
 have an:bE (fun k=>R k\/B k) al (K (.row A c T g.size z.toNat (xs.take (z.toNat * g.size)))) w:=aj.aM.tH az (c6.refl _ _) (fx.less (by omega)) (fun b ae=>.inl ae) fun b _ _=>rfl
 obtain⟨H',_,dj⟩:=nH (.row A c z.toNat) _ aP w (.c (.ai id)) _ ⟨A,c,_,by rw[GX]; exact fp,by rw[GX],(Flat.split (fun _ _=>bF.length) z.toNat di).1,fy⟩ ⟨A,c,_,fp,rfl⟩ an aI;exact ei aP w _ H' dj
end
end
def bm.free:bm->Bool
 | .val _=>true
 | .str _=>true
 | .fO _ _ _=>true
 | .par _ _=>true
 | .bk _ _ _=>true
 | .fn _ cs=>rk cs
 | _=>false
def rH:List bm->Bool
 | []=>true
 | c :: r=>match c.free with
  | true=>rH r
  | false=>false
def bl.free:bl->Bool
 | .c x=>x.free
 | .agg cs=>rH cs
 | .arr _ _=>true
def lB:List bl->Bool
 | []=>true
 | c :: r=>match c.free with
  | true=>lB r
  | false=>false
def b3.free:b3->Bool
 | .a x=>x.free
 | .may _ x=>x.free
 | .c3 xs=>lB xs
def cv.free:cv->Bool
 | .cells _ cs=>rH cs
 | .row _ _ _ _=>true
 | .mp _ _ _ _=>true
 | .gl _ _ _=>true
 | .b2 _ _ _ _ _ none=>true
 | _=>false
theorem N2{id:Nat}:∀ {cs:List e4},rk cs=true->tM id cs=false
 | [],_=>rfl
 | .id _ :: _,h=>by cases h
 | .eT _ _ :: cs,h=>N2 (cs:=cs) h
theorem N3{js:List Nat}:∀ {cs:List e4},rk cs=true->pg js cs=false
 | [],_=>rfl
 | .id _ :: _,h=>by cases h
 | .eT _ _ :: cs,h=>N3 (cs:=cs) h
theorem N4{id:Nat} {g:aU} {x:g.D}:∀ {cs:List e4},rk cs=true->sC id g x cs=cs
 | [],_=>rfl
 | .id _ :: _,h=>by cases h
 | .eT _ _ :: cs,h=>by
  show e4.eT _ _ :: sC id g x cs=_;rw[N4 (cs:=cs) h]
structure Fix(f:bm->bm):Prop where
 fix:∀ c,c.free=true->f c=c
theorem GY(id:Nat) (z:bm):Fix fun c=>c.sub id z:=⟨fun c h=>by
 cases c with
 | fn f cs=>simp only[bm.sub]; rw[N2 h]
 | _=>first | rfl | cases h⟩
theorem GZ(js:List Nat):Fix fun c=>c.kill js:=⟨fun c h=>by
 cases c with
 | fn f cs=>simp only[bm.kill]; rw[N3 h]
 | _=>first | rfl | cases h⟩
theorem G0(id:Nat) (g:aU) (x:g.D):Fix fun c=>c.eC id g x:=⟨fun c h=>by
 cases c with
 | fn f cs=>simp only[bm.eC]; rw[N4 h]
 | _=>first | rfl | cases h⟩
def uA(f:bm->bm):List bm->List bm
 | []=>[]
 | c :: r=>f c :: uA f r
theorem rI{f:bm->bm} (az:Fix f):∀ {cs:List bm},rH cs=true->uA f cs=cs
 | [],_=>rfl
 | c :: r,h=>by
  unfold rH at h
  split at h
  ·rename_i e
   show f c :: uA f r=_;rw[az.fix c e,rI az h]
  ·cases h
theorem G1(id:Nat) (z:bm):∀ cs:List bm,q1 id z cs=uA (fun c=>c.sub id z) cs
 | []=>rfl
 | c :: r=>by
  show c.sub id z :: q1 id z r=_;rw[G1 id z r]; rfl
theorem G2(js:List Nat):∀ cs:List bm,qd js cs=uA (fun c=>c.kill js) cs
 | []=>rfl
 | c :: r=>by
  show c.kill js :: qd js r=_;rw[G2 js r]; rfl
theorem G4(id:Nat) (g:aU) (x:g.D):∀ cs:List bm,wG id g x cs=uA (fun c=>c.eC id g x) cs
 | []=>rfl
 | c :: r=>by
  show c.eC id g x :: wG id g x r=_;rw[G4 id g x r]; rfl
theorem G5{id:Nat} {z:bm} {x:bl} (h:x.free=true):x.sub id z=x:=by
 cases x with
 | c x=>simp only[bl.sub]; rw[(GY id z).fix x h]
 | agg cs=>simp only[bl.sub]; rw[G1,rI (GY id z) h]
 | arr g l=>rfl
theorem G6{js:List Nat} {x:bl} (h:x.free=true):x.kill js=x:=by
 cases x with
 | c x=>simp only[bl.kill]; rw[(GZ js).fix x h]
 | agg cs=>simp only[bl.kill]; rw[G2,rI (GZ js) h]
 | arr g l=>rfl
theorem G7{id:Nat} {g:aU} {y:g.D} {x:bl} (h:x.free=true):x.eC id g y=x:=by
 cases x with
 | c x=>simp only[bl.eC]; rw[(G0 id g y).fix x h]
 | agg cs=>simp only[bl.eC]; rw[G4,rI (G0 id g y) h]
 | arr g l=>rfl
theorem N5{id:Nat} {z:bm}:∀ {xs:List bl},lB xs=true->yh id z xs=xs
 | [],_=>rfl
 | c :: r,h=>by
  unfold lB at h
  split at h
  ·rename_i e
   show c.sub id z :: yh id z r=_;rw[G5 e,N5 h]
  ·cases h
theorem N6{js:List Nat}:∀ {xs:List bl},lB xs=true->tW js xs=xs
 | [],_=>rfl
 | c :: r,h=>by
  unfold lB at h
  split at h
  ·rename_i e
   show c.kill js :: tW js r=_;rw[G6 e,N6 h]
  ·cases h
theorem N7{id:Nat} {g:aU} {y:g.D}:∀ {xs:List bl},lB xs=true->yQ id g y xs=xs
 | [],_=>rfl
 | c :: r,h=>by
  unfold lB at h
  split at h
  ·rename_i e
   show c.eC id g y :: yQ id g y r=_;rw[G7 e,N7 h]
  ·cases h
theorem aaa{id:Nat} {z:bm} {v:b3} (h:v.free=true):v.sub id z=v:=by
 cases v with
 | a x=>simp only[b3.sub]; rw[G5 h]
 | may g x=>simp only[b3.sub]; rw[G5 h]
 | c3 xs=>simp only[b3.sub]; rw[N5 h]
theorem aab{js:List Nat} {v:b3} (h:v.free=true):v.kill js=v:=by
 cases v with
 | a x=>simp only[b3.kill]; rw[G6 h]
 | may g x=>simp only[b3.kill]; rw[G6 h]
 | c3 xs=>simp only[b3.kill]; rw[N6 h]
theorem aac{id:Nat} {g:aU} {y:g.D} {v:b3} (h:v.free=true):v.eC id g y=v:=by
 cases v with
 | a x=>simp only[b3.eC]; rw[G7 h]
 | may g x=>simp only[b3.eC]; rw[G7 h]
 | c3 xs=>simp only[b3.eC]; rw[N7 h]
theorem aad{id:Nat} {z:bm} {b:cv} (h:b.free=true):b.sub id z=b:=by
 cases b with
 | cells t cs=>simp only[cv.sub]; rw[G1,rI (GY id z) h]
 | b2 T T' g l c q=>rcases q with _ | ⟨i,_ | d⟩<;>first | rfl | cases h
 | _=>first | rfl | cases h
theorem aae{js:List Nat} {b:cv} (h:b.free=true):b.kill js=b:=by
 cases b with
 | cells t cs=>simp only[cv.kill]; rw[G2,rI (GZ js) h]
 | b2 T T' g l c q=>rcases q with _ | ⟨i,_ | d⟩<;>first | rfl | cases h
 | _=>first | rfl | cases h
theorem aaf{id:Nat} {g:aU} {y:g.D} {b:cv} (h:b.free=true):b.eC id g y=b:=by
 cases b with
 | cells t cs=>simp only[cv.eC]; rw[G4,rI (G0 id g y) h]
 | _=>first | rfl | cases h
def e2(q:Nat):List Nat->Bool
 | []=>false
 | k :: r=>match Nat.beq k q with
  | true=>true
  | false=>e2 q r
theorem pE{q:Nat}:∀ {l r:List Nat},e2 q (l++r)=false ↔ e2 q l=false/\e2 q r=false
 | [],r=>by simp[e2]
 | k :: l,r=>by
  show(match Nat.beq k q with | true=>true | false=>e2 q (l++r))=false ↔ (match Nat.beq k q with | true=>true | false=>e2 q l)=false/\_;cases Nat.beq k q with
  | true=>simp
  | false=>exact pE
theorem fY{q k:Nat} {r:List Nat} (h:e2 q (k :: r)=false):q≠k/\e2 q r=false:=by
 unfold e2 at h
 split at h
 ·cases h
 ·rename_i e
  exact⟨(fun cj=>by rw[cj,Nat.beq_refl]at e; cases e),h⟩
def cp{α:Type} (dz:α->Bool) (V:List Nat) (L L':List (Nat×α)):Prop:=∀ q v,e2 q V=false->bd L' q=some v->∃ u,bd L q=some u/\(dz u=true->v=u)
theorem cp.refl{α:Type} {dz:α->Bool} {V:List Nat} (L:List (Nat×α)):cp dz V L L:=fun _ v _ h=>⟨v,h,fun _=>rfl⟩
theorem cp.trans{α:Type} {dz:α->Bool} {V V2:List Nat} {L y4 Cq:List (Nat×α)} (h:cp dz V L y4) (k:cp dz V2 y4 Cq):cp dz (V2++V) L Cq:=fun q v ar ah=>by
 obtain⟨J,U⟩:=pE.1 ar;obtain⟨u,ag,aq⟩:=k q v J ah;obtain⟨nO,aE,bb⟩:=h q u U ag;exact⟨nO,aE,fun az=>by have:=bb az; subst this; exact aq az⟩
theorem cp.more{α:Type} {dz:α->Bool} {V V2:List Nat} {L y4:List (Nat×α)} (h:cp dz V L y4) (aC:∀ q,e2 q V2=false->e2 q V=false):cp dz V2 L y4:=fun q v ar ah=>h q v (aC q ar) ah
theorem cp.cons{α:Type} {dz:α->Bool} {V:List Nat} {L L':List (Nat×α)} {d:Nat} {v:α} (h:cp dz V L L'):cp dz (d :: V) L ((d,v) :: L'):=fun q u ar ah=>by
 obtain⟨J,U⟩:=fY ar;rw[cI,if_neg J]at ah;exact h q u U ah
theorem cp.append{α:Type} {dz:α->Bool} {V:List Nat} {L L':List (Nat×α)} (h:cp dz V L L'):∀ {U:List (Nat×α)} {ks:List Nat},U.map (·.1)=ks->cp dz (ks++V) L (U++L')
 | [],_,rfl=>h
 | (k,v) :: r,_,rfl=>cp.cons (V:=r.map (·.1)++V) (cp.append h rfl)
theorem cp.map{α:Type} {dz:α->Bool} {V:List Nat} {L L':List (Nat×α)} {f:α->α} (az:∀ v,dz v=true->f v=v) (h:∀ q v,bd L' q=some v->∃ u,bd L q=some u/\v=f u):cp dz V L L':=fun q v _ ah=>by
 obtain⟨u,J,U⟩:=h q v ah;exact⟨u,J,fun hu=>by rw[U,az u hu]⟩
abbrev wU:=cp b3.free
abbrev lC:=cp cv.free
theorem kC(id:Nat) (z:bm) (L:cX) {V:List Nat}:wU V L (fK id z L):=cp.map (f:=fun v=>v.sub id z) (fun _ h=>aaa h) fun _ _ h=>pc h
theorem aag(js:List Nat) (L:cX) {V:List Nat}:wU V L (rf js L):=cp.map (f:=fun v=>v.kill js) (fun _ h=>aab h) fun _ _ h=>F8 h
theorem aah(id:Nat) (g:aU) (x:g.D) (L:cX) {V:List Nat}:wU V L (tZ id g x L):=cp.map (f:=fun v=>v.eC id g x) (fun _ h=>aac h) fun _ _ h=>Gp h
theorem jR(id:Nat) (z:bm) {V:List Nat}:∀ H:bz,lC V H (ef id z H)
 | []=>cp.refl []
 | (k,b) :: r=>fun q v ar ah=>by
  unfold ef at ah
  split at ah
  ·rename_i e
   have ab:=Nat.eq_of_beq_eq_true e;obtain⟨u,J,U⟩:=jR id z (V:=V) r q v ar ah;have cr:q≠k:=fun cj=>by
    subst cj;rw[ab]at ah;exact G8 ah
   exact⟨u,by rw[cI,if_neg cr]; exact J,U⟩
  ·rw[cI]at ah ⊢
   split at ah
   ·rename_i e
    cases ah;rw[if_pos e];exact⟨b,rfl,fun az=>aad az⟩
   ·rename_i e
    rw[if_neg e];exact jR id z r q v ar ah
where G8 {id:Nat} {z:bm} {v:cv}:∀ {H:bz},bd (ef id z H) id=some v->False
 | [],h=>by cases h
 | (k,b) :: r,h=>by
  unfold ef at h
  split at h
  ·exact G8 h
  ·rename_i e
   rw[cI,if_neg (fun cj=>by rw[cj,Nat.beq_refl]at e; cases e)]at h;exact G8 h
theorem j7{id:Nat} {b:cv} {V:List Nat} (gM:e2 id V=true):∀ {H:bz},lC V H (eM id b H)
 | []=>cp.refl []
 | (k,b') :: r=>fun q v ar ah=>by
  have cr:q≠id:=fun e=>by rw[e,gM]at ar; cases ar
  unfold eM at ah
  split at ah
  ·rename_i e
   have ab:=Nat.eq_of_beq_eq_true e;rw[cI,if_neg (by rw[ab]; exact cr)]at ah;exact⟨v,by rw[cI,if_neg (by rw[ab]; exact cr)]; exact ah,fun _=>rfl⟩
  ·rw[cI]at ah ⊢
   split at ah
   ·rename_i e
    rw[if_pos e];exact⟨b',rfl,fun _=>by cases ah; rfl⟩
   ·rename_i e
    rw[if_neg e];exact j7 gM q v ar ah
end Go.Proofs.YtcheedjfedcbpaaGreatDoor
