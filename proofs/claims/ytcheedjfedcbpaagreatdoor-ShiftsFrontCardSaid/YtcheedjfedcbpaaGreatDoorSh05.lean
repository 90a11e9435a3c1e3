/- Part 5 of 6 of the proof. -/
import Derived.Test.YtcheedjfedcbpaaGreatDoorSh04
set_option linter.unusedSimpArgs false
set_option linter.unusedVariables false
set_option maxRecDepth 100000
namespace Go.Proofs.YtcheedjfedcbpaaGreatDoor
open Go.RowKit
abbrev fL:=Int×(Bool×((List (Int×Int))×(List ((Int×Int)×(Bool×Int)))))
def hG(t:List (List fL)) (a:Int×Int):Option fL:=
 if 1<=a.1/\0<=a.2 then(t.getD (a.1 - 1).toNat [])[a.2.toNat]? else none
def gr(t:List (List fL)) (a:Int×Int):Prop:=∃ l,hG t a=some l
theorem p6(t:List (List fL)) (y n:Nat):hG t ((y:Int)+1,(n:Int))=(t.getD y [])[n]?:=by
 unfold hG;rw[if_pos ⟨by show(1:Int)<=y+1; omega,by show(0:Int)<=n; omega⟩];show(t.getD ((y:Int)+1 - 1).toNat [])[(n:Int).toNat]?=_;rw[show((y:Int)+1 - 1).toNat=y by omega,Int.toNat_natCast]
theorem pk{t:List (List fL)} {a:Int×Int}:gr t a ↔ 1<=a.1/\0<=a.2/\a.2 < ((t.getD (a.1 - 1).toNat []).length:Int):=by
 unfold gr hG;constructor
 ·rintro⟨l,h⟩
  split at h
  ·rename_i J
   have:=(List.getElem?_eq_some_iff.1 h).1
   omega
  ·cases h
 ·rintro⟨J,U,ah⟩
  rw[if_pos ⟨J,U⟩];exact⟨_,List.getElem?_eq_getElem (by omega)⟩
theorem Ja{t:List (List fL)} {a:Int×Int} (h:gr t a):a.1<=t.length:=by
 rw[pk]at h
 by_cases ad:(a.1 - 1).toNat < t.length
 ·omega
 ·rw[List.getD_eq_getElem?_getD,List.getElem?_eq_none (by omega)]at h
  simp at h
  omega
instance (t:List (List fL)) (a:Int×Int):Decidable (gr t a):=decidable_of_iff _ pk.symm
def hx(t:List (List fL)) (y:Nat) (l:fL):List (List fL):=t.set y (t.getD y []++[l])
theorem PU(t:List (List fL)) (y:Nat) (l:fL):(hx t y l).length=t.length:=by simp[hx]
theorem zL{t:List (List fL)} {y:Nat} (aT:y < t.length) (l:fL) (z:Nat):(hx t y l).getD z []=if z=y then t.getD y []++[l] else t.getD z []:=by
 unfold hx;rw[List.getD_eq_getElem?_getD,List.getElem?_set]
 by_cases e:y=z
 ·subst e
  simp[aT]
 ·rw[if_neg e,if_neg (fun h=>e h.symm),<- List.getD_eq_getElem?_getD]
theorem adA{t:List (List fL)} {y:Nat} (aT:y < t.length) (l:fL) {a:Int×Int} {k:fL} (h:hG t a=some k):hG (hx t y l) a=some k:=by
 unfold hG at h ⊢
 split at h
 ·rename_i J
  rw[if_pos J,zL aT]
  split
  ·rename_i e
   rw[e]at h;rw[List.getElem?_append_left (List.getElem?_eq_some_iff.1 h).1,h]
  ·exact h
 ·cases h
theorem gr.put{t:List (List fL)} {y:Nat} (aT:y < t.length) (l:fL) {a:Int×Int} (h:gr t a):gr (hx t y l) a:=by
 obtain⟨k,h⟩:=h;exact⟨k,adA aT l h⟩
theorem PV{t:List (List fL)} {y:Nat} (aT:y < t.length) (l:fL):hG (hx t y l) ((y:Int)+1,((t.getD y []).length:Int))=some l:=by
 rw[p6,zL aT,if_pos rfl]
 simp
theorem sD{t:List (List fL)} {y:Nat} (aT:y < t.length) {l:fL} {a:Int×Int} {k:fL} (h:hG (hx t y l) a=some k) :
  (a=((y:Int)+1,((t.getD y []).length:Int))/\k=l)\/(hG t a=some k):=by
 unfold hG at h ⊢
 split at h
 ·rename_i J
  rw[zL aT]at h;rw[if_pos J]
  split at h
  ·rename_i e
   rw[List.getElem?_append]at h
   split at h
   ·right; rw[e]; exact h
   ·left
    have a8:=(List.getElem?_eq_some_iff.1 h).1;simp only[List.length_cons,List.length_nil]at a8;have gE:a.2.toNat - (t.getD y []).length=0:=by omega
    rw[gE]at h;cases h;refine⟨Prod.ext ?_ ?_,rfl⟩
    ·show a.1=(y:Int)+1; omega
    ·show a.2=((t.getD y []).length:Int); omega
  ·exact Or.inr h
 ·cases h
theorem PW{t:List (List fL)} {y:Nat} (aT:y < t.length) (l:fL):¬ gr t ((y:Int)+1,((t.getD y []).length:Int)):=by
 rintro⟨k,h⟩;rw[p6]at h
 have:=(List.getElem?_eq_some_iff.1 h).1
 omega
theorem zM{t:List (List fL)} {y:Nat} (aT:y < t.length) (l:fL) {a:Int×Int}:gr (hx t y l) a ↔ a=((y:Int)+1,((t.getD y []).length:Int))\/gr t a:=by
 constructor
 ·rintro⟨k,h⟩
  rcases sD aT h with⟨h,_⟩ | h
  ·exact Or.inl h
  ·exact Or.inr ⟨k,h⟩
 ·rintro(h | h)
  ·rw[h]; exact⟨l,PV aT l⟩
  ·exact h.put aT l
def eo(t:List (List fL)):Nat:=(t.map List.length).sum
def gB(t:List (List fL)):List (Int×Int):=t.flatten.flatMap (·.2.2.1)
theorem C0{α:Type}:∀ {l:List α} {j:Nat} (_:j < l.length) (z x:α),∃ a b,l=a++l.getD j z :: b/\l.set j x=a++x :: b
 | [],_,h,_,_=>by simp at h
 | y :: l,0,_,z,x=>⟨[],l,by simp,by simp⟩
 | y :: l,j+1,h,z,x=>by
  obtain⟨a,b,J,U⟩:=C0 (l:=l) (j:=j) (by simpa using h) z x;exact⟨y :: a,b,by simp; rw[List.getD_eq_getElem?_getD]at J; exact J,by simp; exact U⟩
theorem Jb{t:List (List fL)} {y:Nat} (aT:y < t.length) (l:fL):eo (hx t y l)=eo t+1:=by
 obtain⟨a,b,J,U⟩:=C0 aT [] (t.getD y []++[l]);unfold eo hx;rw[U]
 conv=>rhs; rw[J]
 simp
 omega
theorem adB{t:List (List fL)} {y:Nat} (aT:y < t.length) (l:fL) (a:Int×Int):(gB (hx t y l)).count a=(gB t).count a+l.2.2.1.count a:=by
 obtain⟨p,q,J,U⟩:=C0 aT [] (t.getD y []++[l]);unfold gB hx;rw[U]
 conv=>rhs; rw[J]
 simp[List.flatten_append,List.flatMap_append,List.count_append]
 omega
theorem wS{t:List (List fL)} (y:Nat):(t.getD y []).length<=eo t:=by
 by_cases aT:y < t.length
 ·obtain⟨a,b,J,_⟩:=C0 aT [] []
  unfold eo
  conv=>rhs; rw[J]
  simp
  omega
 ·rw[List.getD_eq_getElem?_getD,List.getElem?_eq_none (by omega)]
  simp
structure lU(t:List (List fL)) (aP:Int×Int->Nat):Prop where
 len:t.length=6
 C1:∀ a,gr t a->aP a < eo t
 mono:∀ a b,gr t b->a.1=b.1->0<=a.2->a.2 < b.2->aP a < aP b
 PX:∀ a l,hG t a=some l->l.1=0\/l.1=1
 thr:∀ a l,hG t a=some l->∀ b∈l.2.2.1,gr t b/\aP b < aP a
 oC:∀ a l,hG t a=some l->∀ p∈l.2.2.2,gr t p.1/\aP p.1 < aP a/\(p.2.2=0\/p.2.2=1)
 uD:∀ a l,hG t a=some l->l.2.2.1.length<=4
 C2:∀ a l,hG t a=some l->l.2.2.2.length<=4096
 red:∀ a l,hG t a=some l->wR l.2.2.2
 new:∀ a l,hG t a=some l->a.2=0->l.2.1=true
theorem lU.put{t:List (List fL)} {aP:Int×Int->Nat} (h:lU t aP) {y:Nat} (aT:y < 6) {l:fL} (ae:l.1=0\/l.1=1) (aV:∀ b∈l.2.2.1,gr t b)
  (aq:∀ p∈l.2.2.2,gr t p.1/\(p.2.2=0\/p.2.2=1)) (rh:l.2.2.1.length<=4) (gx:l.2.2.2.length<=4096) (az:wR l.2.2.2) (a7:(t.getD y []).length=0->l.2.1=true) :
  lU (hx t y l) fun a=>if a=((y:Int)+1,((t.getD y []).length:Int))then eo t else aP a:=by
 have kG:y < t.length:=by rw[h.len]; exact aT
 have jo:∀ a,gr t a->a≠((y:Int)+1,((t.getD y []).length:Int)):=fun a bo e=>PW kG l (e ▸ bo)
 have hl:∀ {a k},hG t a=some k->gr t a:=fun h=>⟨_,h⟩
 refine⟨by rw[PU,h.len],?_,?_,?_,?_,?_,?_,?_,?_,?_⟩
 ·intro a bo
  rw[Jb kG]
  rcases (zM kG l).1 bo with e | bo
  ·rw[if_pos e]; omega
  ·rw[if_neg (jo a bo)]
   have:=h.C1 a bo
   omega
 ·intro a b ae e aN a8
  have oi:b≠((y:Int)+1,((t.getD y []).length:Int))->gr t b:=fun cu=>((zM kG l).1 ae).resolve_left cu
  have PY:gr t a/\a≠((y:Int)+1,((t.getD y []).length:Int)):=by
   have:gr t a:=by
    rw[pk]
    rcases (zM kG l).1 ae with aW | ae
    ·rw[aW]at e a8
     simp only at e a8;rw[e];refine⟨by omega,aN,?_⟩;rw[show((y:Int)+1 - 1).toNat=y by omega];exact a8
    ·rw[pk]at ae
     rw[e];exact⟨ae.1,aN,by omega⟩
   exact⟨this,jo a this⟩
  rw[if_neg PY.2]
  split
  ·exact h.C1 a PY.1
  ·rename_i cu
   exact h.mono a b (oi cu) e aN a8
 ·intro a k ab
  rcases sD kG ab with⟨_,rfl⟩ | ab
  ·exact ae
  ·exact h.PX a k ab
 ·intro a k ab b BJ
  rcases sD kG ab with⟨e,rfl⟩ | ab
  ·have:=aV b BJ
   refine⟨this.put kG _,?_⟩;rw[if_neg (jo b this),if_pos e];exact h.C1 b this
  ·have:=h.thr a k ab b BJ
   refine⟨this.1.put kG _,?_⟩;rw[if_neg (jo b this.1),if_neg (jo a (hl ab))];exact this.2
 ·intro a k ab p PZ
  rcases sD kG ab with⟨e,rfl⟩ | ab
  ·have:=aq p PZ
   refine⟨this.1.put kG _,?_,this.2⟩;rw[if_neg (jo _ this.1),if_pos e];exact h.C1 _ this.1
  ·have:=h.oC a k ab p PZ
   refine⟨this.1.put kG _,?_,this.2.2⟩;rw[if_neg (jo _ this.1),if_neg (jo a (hl ab))];exact this.2.1
 ·intro a k ab
  rcases sD kG ab with⟨_,rfl⟩ | ab
  ·exact rh
  ·exact h.uD a k ab
 ·intro a k ab
  rcases sD kG ab with⟨_,rfl⟩ | ab
  ·exact gx
  ·exact h.C2 a k ab
 ·intro a k ab
  rcases sD kG ab with⟨_,rfl⟩ | ab
  ·exact az
  ·exact h.red a k ab
 ·intro a k ab aN
  rcases sD kG ab with⟨e,rfl⟩ | ab
  ·apply a7
   rw[e]at aN;simp only at aN;omega
  ·exact h.new a k ab aN
def ri(t:List (List fL)) (l:List (Int×Int)):Prop:=∀ a,(l++gB t).count a=if gr t a then 1 else 0
section
open Go.RowKit
def sE(p:c1):Prop:=(1<=p.1.1/\p.1.1<=6/\0<=p.1.2/\p.1.2 < 2048)/\(p.2.2=0\/p.2.2=1)
theorem Jc(N:Nat) {a:al} (h:1<=a.1/\a.1<=6/\0<=a.2/\a.2 < 2048):wO N a=some true:=by
 unfold wO;rw[decide_eq_true h.1,decide_eq_true h.2.1,decide_eq_true h.2.2.1,decide_eq_true h.2.2.2]
 rfl
theorem C3(N:Nat) {d:Int} (h:d=0\/d=1):uw N d=some true:=by
 unfold uw
 rcases h with rfl | rfl<;>rfl
theorem P0(N:Nat) {p:c1} (h:sE p):zx N p=some true:=by
 unfold zx;rw[Jc N h.1,Option.bind_some,cond_true,C3 N h.2]
 rfl
theorem P1(N:Nat) {p q:c1} (aq:p.2.2=0\/p.2.2=1) (ao:q.2.2=0\/q.2.2=1):zy N p q=some (rf p q):=by
 unfold zy;rw[C3 N aq,Option.bind_some,show(!(!true))=true from rfl,cond_true,C3 N ao,Option.bind_some];unfold rf
 by_cases e:p.2.2=q.2.2
 ·rw[decide_eq_true e]; rfl
 ·rw[decide_eq_false e]
  show some (aQ.beq eb p (q.1,(q.2.1,p.2.2)))=some (true&&_)
  congr 1
  rw[Bool.eq_iff_iff,beq_iff (g:=eb) _ _ rfl];simp only[Bool.true_and,Bool.and_eq_true,decide_eq_true_eq,beq_iff_eq];constructor
  ·intro h
   rw[h];exact⟨rfl,rfl⟩
  ·rintro⟨J,U⟩
   exact Prod.ext J (Prod.ext U rfl)
theorem P2{N:Nat} (l s:List c1) (bd:l.length < N) (ad:∀ p∈l,p.2.2=0\/p.2.2=1) (ak:∀ p∈s,p.2.2=0\/p.2.2=1) (ae:l.length+s.length<=100000):zz N l s=some (jF s l):=by
 have dY:IA N l N ((0:Int),s)=some (jF s l):=by
  unfold IA;refine e8 (fun k d=>∃ j:Nat,j+k=l.length/\d=((j:Int),jF s (l.take j))) _ ?_ N l.length _ (by omega) ⟨0,by omega,by simp[jF]⟩;rintro k d rec ⟨j,aR,rfl⟩ bY;obtain⟨S,aI⟩:∃ S,S=jF s (l.take j):=⟨_,rfl⟩
  have P3:S.length<=l.length+s.length:=by
   rw[aI]
   have:=PS s (l.take j)
   rw[List.length_take]at this;omega
  have adC:∀ p∈S,p.2.2=0\/p.2.2=1:=by
   intro p aq;rw[aI]at aq
   rcases ady aq with h | h
   ·exact ak p h
   ·exact ad p (List.mem_of_mem_take h)
  rw[<- aI]
  apply T.eq
  by_cases a8:j < l.length
  ·obtain⟨x,aj⟩:∃ x,l[j]?=some x:=⟨_,List.getElem?_eq_getElem a8⟩
   have adD:=ad x (List.mem_of_getElem? aj);have adE:jF s (l.take (j+1))=ni S x:=by
    rw[List.take_succ_eq_append_getElem a8,PT,aI,(List.getElem?_eq_some_iff.1 aj).2]
   have ma:∀ S',S'=ni S x->T (rec ((j:Int)+1,S')) (·=jF s l):=fun S' e=>⟨_,bY (k - 1) _ (by omega) ⟨j+1,by omega,by rw[adE,e]; rfl⟩,rfl⟩
   have bg:(j:Int) < (l.length:Int):=by omega
   simp only[bc,Int.reduceEq,Int.reduceLT,Int.reduceLE,reduceCtorEq,bg,b8 aj];cases tW:S.getLast? with
   | none=>
    have aN:S=[]:=List.getLast?_eq_none_iff.1 tW;subst aN
    have:=ma [x] rfl
    simp only[bc,Int.reduceEq,Int.reduceLT,Int.reduceLE,reduceCtorEq,List.length_nil,List.nil_append,List.length_singleton,show ¬ ((0:Int) < ((0:Nat):Int)) by omega]
    and_intros<;>first | omega | (simp only[bN]; omega) | exact this | trivial
   | some q=>
    have kV:0 < S.length:=by
     cases S with
     | nil=>cases tW
     | cons a b=>simp
    have ao:S[S.length - 1]?=some q:=by rw[<- tW,List.getLast?_eq_getElem?]
    have B0:=adC q (List.mem_of_getElem? ao);have adF:(0:Int) < (S.length:Int):=by omega
    have aC:((S.length:Int) - 1).toNat=S.length - 1:=by omega
    simp only[adF,aC,b8 ao,bt (P1 N B0 adD),bc,Int.reduceEq,Int.reduceLT,Int.reduceLE,reduceCtorEq]
    by_cases aa:rf q x=true
    ·have:=ma (S.take (S.length - 1)) (by unfold ni; rw[tW]; show _=if rf q x=true then _ else _; rw[if_pos aa,List.dropLast_eq_take])
     simp only[aa,bc,Int.reduceEq,Int.reduceLT,Int.reduceLE,reduceCtorEq]
     and_intros<;>first | omega | (simp only[bN]; omega) | exact this | trivial
    ·have:=ma (S++[x]) (by unfold ni; rw[tW]; show _=if rf q x=true then _ else _; rw[if_neg aa])
     have er:rf q x=false:=by simpa using aa
     simp only[er,bc,Int.reduceEq,Int.reduceLT,Int.reduceLE,reduceCtorEq]
     and_intros<;>first | omega | (simp only[bN]; omega) | exact this | trivial
  ·have bg:¬ (j:Int) < (l.length:Int):=by omega
   simp only[bc,Int.reduceEq,Int.reduceLT,Int.reduceLE,reduceCtorEq,bg];rw[aI,List.take_of_length_le (by omega)]
 unfold zz;rw[dY,Option.bind_some]
theorem Jd(N:Nat) (l:List c1) (h:l.length<=100000):sz N l=some (l,l.length):=by
 unfold sz
 apply T.eq
 simp only[bc,Int.reduceEq,Int.reduceLT,Int.reduceLE,reduceCtorEq,List.length_replicate]
 and_intros<;>first | omega | (simp only[bN]; omega) | exact this | trivial
theorem adG{N:Nat} {l:List c1} (bd:l.length < N) (ad:∀ p∈l,p.2.2=0\/p.2.2=1) (ae:l.length<=100000) (az:wR l):CJ N l=some (l,l.length):=by
 unfold CJ;have J:=P2 l [] bd ad (fun _ h=>by cases h) (by simp; omega);rw[adz az]at J
 apply T.eq
 simp only[bc,Int.reduceEq,Int.reduceLT,Int.reduceLE,reduceCtorEq,bt J,bt (Jd N l ae)]
 and_intros<;>first | omega | (simp only[bN]; omega) | exact this | trivial
structure nR(y:cb):Prop where
 zN:0<=y.2.2.1/\y.2.2.1<=2048
 out:y.1=false->y.2.1=0/\y.2.2.2.1=false/\y.2.2.2.2=[]
 at':y.1=true->Int.tmod y.2.1 2≠0/\-13<=y.2.1/\y.2.1<=179
 e9:y.2.2.2.2.length<=4096
 ok:∀ p∈y.2.2.2.2,sE p
 red:wR y.2.2.2.2
theorem zO{N:Nat} {y:cb} (h:nR y) (bd:y.2.2.2.2.length < N):re N y=some 0:=by
 have dY:IC N y N (0:Int)=some (.inl ()):=by
  unfold IC;refine e8 (fun k d=>∃ j:Nat,j+k=y.2.2.2.2.length/\d=(j:Int)) _ ?_ N y.2.2.2.2.length _ (by omega) ⟨0,by omega,rfl⟩;rintro k d rec ⟨j,aR,rfl⟩ bY;have aA:=h.e9
  apply T.eq
  by_cases a8:j < y.2.2.2.2.length
  ·obtain⟨x,aj⟩:∃ x,y.2.2.2.2[j]?=some x:=⟨_,List.getElem?_eq_getElem a8⟩
   have Bp:=h.ok x (List.mem_of_getElem? aj);have bg:(j:Int) < (y.2.2.2.2.length:Int):=by omega
   have ma:T (rec ((j:Int)+1)) (·=.inl ()):=⟨_,bY (k - 1) _ (by omega) ⟨j+1,by omega,rfl⟩,rfl⟩
   simp only[bc,Int.reduceEq,Int.reduceLT,Int.reduceLE,reduceCtorEq,bg,b8 aj,bt (P0 N Bp),Bool.not_true,Bool.not_false]
   by_cases aN:j=0
   ·subst aN
    simp only[bc,Int.reduceEq,Int.reduceLT,Int.reduceLE,reduceCtorEq,show ¬ ((0:Int) < ((0:Nat):Int)) by omega];have this:=ma
    and_intros<;>first | omega | (simp only[bN]; omega) | exact this | trivial
   ·have ln:(0:Int) < (j:Int):=by omega
    obtain⟨q,ao⟩:∃ x,y.2.2.2.2[j - 1]?=some x:=⟨_,List.getElem?_eq_getElem (by omega)⟩
    have adH:=h.ok q (List.mem_of_getElem? ao);have aa:rf q x=false:=h.red (j - 1) q x ao (by rw[show j - 1+1=j by omega]; exact aj);simp only[bc,Int.reduceEq,Int.reduceLT,Int.reduceLE,reduceCtorEq,ln,show((j:Int) - 1).toNat=j - 1 by omega,b8 ao,bt (P1 N adH.2 Bp.2),aa];have this:=ma
    and_intros<;>first | omega | (simp only[bN]; omega) | exact this | trivial
  ·have bg:¬ (j:Int) < (y.2.2.2.2.length:Int):=by omega
   simp only[bc,Int.reduceEq,Int.reduceLT,Int.reduceLE,reduceCtorEq,bg]
 have aa:=h.zN;have aA:=h.e9;unfold re
 apply T.eq
 cases hl:y.1 with
 | false=>
  obtain⟨J,U,ah⟩:=h.out hl;simp only[bc,Int.reduceEq,Int.reduceLT,Int.reduceLE,reduceCtorEq,J,U,ah,hl,Bool.not_false,List.length_nil,show ¬ y.2.2.1 < 0 by omega,show ¬ (2048:Int) < y.2.2.1 by omega]
  decide
 | true=>
  obtain⟨J,U,ah⟩:=h.at' hl;have aq:ux N y.2.1=some true:=by
   unfold ux
   apply T.eq
   simp only[bc,Int.reduceEq,Int.reduceLT,Int.reduceLE,reduceCtorEq];exact⟨⟨J,U⟩,ah⟩
  simp only[bc,Int.reduceEq,Int.reduceLT,Int.reduceLE,reduceCtorEq,hl,bt aq,bt dY,Bool.not_true,Bool.not_false,show ¬ y.2.2.1 < 0 by omega,show ¬ (2048:Int) < y.2.2.1 by omega,show ¬ (4096:Int) < (y.2.2.2.2.length:Int) by omega]
theorem P4{N:Nat} {y:cb} (h:nR y) (hl:y.1=true) (bd:5000 < N) {place:Int} (aq:Int.tmod place 2≠0/\-13<=place/\place<=179) {l:List c1} (ad:∀ p∈l,sE p) (ae:l.length+y.2.2.2.2.length<=4096) :
  uy N y place l=some ((true,place,y.2.2.1,y.2.2.2.1,jF y.2.2.2.2 l),0):=by
 have aA:=h.e9;have dY:ID N l N (0:Int)=some (.inl ()):=by
  unfold ID;refine e8 (fun k d=>∃ j:Nat,j+k=l.length/\d=(j:Int)) _ ?_ N l.length _ (by omega) ⟨0,by omega,rfl⟩;rintro k d rec ⟨j,aR,rfl⟩ bY
  apply T.eq
  by_cases a8:j < l.length
  ·obtain⟨x,aj⟩:∃ x,l[j]?=some x:=⟨_,List.getElem?_eq_getElem a8⟩
   have bg:(j:Int) < (l.length:Int):=by omega
   have this:T (rec ((j:Int)+1)) (·=.inl ()):=⟨_,bY (k - 1) _ (by omega) ⟨j+1,by omega,rfl⟩,rfl⟩
   simp only[bc,Int.reduceEq,Int.reduceLT,Int.reduceLE,reduceCtorEq,bg,b8 aj,bt (P0 N (ad x (List.mem_of_getElem? aj)))]
   and_intros<;>first | omega | (simp only[bN]; omega) | exact this | trivial
  ·have bg:¬ (j:Int) < (l.length:Int):=by omega
   simp only[bc,Int.reduceEq,Int.reduceLT,Int.reduceLE,reduceCtorEq,bg]
 have gx:ux N place=some true:=by
  unfold ux;rw[decide_eq_false aq.1,decide_eq_true aq.2.1,decide_eq_true aq.2.2]
  rfl
 have adI:=P2 l y.2.2.2.2 (by omega:l.length < N) (fun p h=>(ad p h).2) (fun p aq=>(h.ok p aq).2) (by omega);have hlen:=PS y.2.2.2.2 l;unfold uy
 apply T.eq
 simp only[bc,Int.reduceEq,Int.reduceLT,Int.reduceLE,reduceCtorEq,bt (zO (N:=N) h (by omega)),bt gx,bt dY,hl,List.nil_append,List.length_nil,bt adI,bt (Jd N _ (show(jF y.2.2.2.2 l).length<=100000 by omega)),show ¬ (4096:Int) < ((jF y.2.2.2.2 l).length:Int) by omega]
 and_intros<;>first | omega | (simp only[bN]; omega) | exact this | trivial
theorem adJ{N:Nat} {y:cb} (h:nR y) (nS:y.1=false) (bd:5000 < N) {side:Int} (ak:side=0\/side=1):uz N y side=some ((true,(if side=1 then 179 else -13),y.2.2.1,true,[]),0):=by
 have aA:=h.e9;unfold uz
 apply T.eq
 simp only[bc,Int.reduceEq,Int.reduceLT,Int.reduceLE,reduceCtorEq,bt (zO (N:=N) h (by omega)),bt (C3 N ak),nS]
 rcases ak with rfl | rfl
 ·simp
 ·simp
theorem adK{N:Nat} {y:cb} (h:nR y) (hl:y.1=true) (bd:5000 < N) (a8:y.2.2.1 < 2048):oB N y=some ((true,y.2.1,y.2.2.1+1,false,[]),(y.2.2.1,y.2.2.2.1,y.2.2.2.2),0):=by
 have aA:=h.e9;have aa:=h.zN;unfold oB
 apply T.eq
 simp only[bc,Int.reduceEq,Int.reduceLT,Int.reduceLE,reduceCtorEq,bt (zO (N:=N) h (by omega)),hl,bt (Jd N _ (show y.2.2.2.2.length<=100000 by omega)),show ¬ y.2.2.1=2048 by omega]
 and_intros<;>first | omega | (simp only[bN]; omega) | exact this | trivial
end
section
open Go.RowKit
def wT(N:Nat) (b:Bool) (a0:il):Option (List (Int×(List (List al))×Unit)):=
  sx b ((0:Int),a0.1,()) (some [])
  (sx b ((1:Int),a0.2,()) (some [])
  (some []))
noncomputable def P5 (N:Nat):lk bU:=Ix N b2 (by kernel_rfl) [.eS fy] [] [.c (.int .u8),.c (.bn (.an aK))] [] [] (.s (.r [.n 3,.y]) (.c (.r [.n 3,.y]) .d)) 147 (fun b d=>wT N b d.1) Tryz.func147 rfl rfl Tryz.ntmps147 (fun _=>rfl) rfl rfl (fun id d=>by kernel_rfl)
def wU(N:Nat) (a0:il):Option (il):=
  some a0
noncomputable def P6 (N:Nat):bI bU:=cj N b2 (by kernel_rfl) [.c9 fy] [] ⟨.a (.c (.fn 147 [.eS fy])),[],[]⟩ [] [] (.s (.r [.n 2,.w (.ca 1 fy)]) .d) [.tmp 2] 121 fy.zero (fun d=>wU N d.1) Tryz.func121 rfl rfl Tryz.ntmps121 rfl rfl rfl (fun d=>by kernel_rfl)
def zP(N:Nat) (b:Bool) (jw:(Int×(List (List al))×Unit)) (fz:Unit->Option ((List (al×(List al)×Unit)))):Nat->Int->Option ((List (al×(List al)×Unit))):=cx fun d3 gO=>
  cond (decide (d3 < (jw.2.1.length:Int))) (aw ((bl d3 jw.2.1.length)&&(true)) <|
  cond (decide ((40:Int)<=d3)) (fz ()) (aw ((bp (d3+(1:Int)))&&(true)) <|
  sx b ((jw.1,(d3+(1:Int))),(jw.2.1.getD d3.toNat []),()) (some [])
  (aw ((bp (d3+(1:Int)))&&(true)) <|
  gO (d3+(1:Int))))) (fz ())
def uE(N:Nat) (b:Bool) (a0:il):Option (List (al×(List al)×Unit)):=
  Option.bind (wU N a0) fun aH=>
  Option.bind (wT N true aH) fun bw=>j4 (fun(jw:Int×(List (List al))×Unit) (kX:Unit) (ek:Unit->Option (List (al×(List al)×Unit)))=>
  zP N b jw ek N (0:Int)) bw () fun ch=>
  some []
noncomputable def P7 (N:Nat):lk bU:=Ix N b2 (by kernel_rfl) [.eS fy] [] [.c9 aK,.c (.bn aK)] [P6 N] [P5 N] (.s .d (.s .d (.b (.mX [(2,31)] ⟨[],[],[],[31]⟩ (.b (.s .d (.b (.l ⟨[(2,.a (.c (.raw (.ptr 31 0)))),(13,.a (.c (.int .i64)))],[],[3,11,12],[31]⟩ (.s .d (.s .d (.s (.b (.s .d (.s .d (.s (.r [.n 6,.y]) .d)))) .d))))))))))) 188 (fun b d=>uE N b d.1) Tryz.func188 rfl rfl Tryz.ntmps188 (fun _=>rfl) rfl rfl (fun id d=>by kernel_rfl)
end
section
open Go.RowKit
def Je(N:Nat) (a0:il):Option (il):=
  some a0
noncomputable def P8 (N:Nat):bI bU:=cj N b2 (by kernel_rfl) [.c9 fy] [] ⟨.a (.c (.fn 188 [.eS fy])),[],[]⟩ [] [] (.s (.r [.n 2,.w (.ca 1 fy)]) .d) [.tmp 2] 148 fy.zero (fun d=>Je N d.1) Tryz.func148 rfl rfl Tryz.ntmps148 rfl rfl rfl (fun d=>by kernel_rfl)
def uF(N:Nat) (a0:il):Option (Int):=
  Option.bind (Je N a0) fun aH=>
  Option.bind (uE N true aH) fun bw=>j4 (fun(jw:al×(List al)×Unit) (kX:Int) (ek:Int->Option (Int))=>
  aw ((bp (kX+(jw.2.1.length:Int)))&&(true)) <|
  ek (kX+(jw.2.1.length:Int))) bw (0:Int) fun ch=>
  some ch
noncomputable def P9 (N:Nat):bI bU:=cj N b2 (by kernel_rfl) [.c9 fy] [] ⟨.a (.c (.int .i64)),[],[]⟩ [P8 N] [P7 N] (.s (.r [.n 2,.w (.ca 1 fy)]) (.s .d (.s (.s .d (.b (.mX [(3,18)] ⟨[],[(18,.cells 3 [.int .i64])],[],[]⟩ .d))) .d))) [.tmp 2] 122 0 (fun d=>uF N d.1) Tryz.func122 rfl rfl Tryz.ntmps122 rfl rfl rfl (fun d=>by kernel_rfl)
def zQ(N:Nat) (jw:(Int×(List (List al))×Unit)):Nat->Int->Option ((Int×Bool)⊕(Int)):=cx fun d3 gO=>
  cond (decide (d3 < (jw.2.1.length:Int))) (aw ((bl d3 jw.2.1.length)&&(true)) <|
  cond (decide ((4:Int) < ((jw.2.1.getD d3.toNat []).length:Int))) (some (.inr (9:Int))) (aw ((bp (d3+(1:Int)))&&(true)) <|
  gO (d3+(1:Int)))) (some (.inl (d3,(decide (d3 < (jw.2.1.length:Int))))))
def Jf(N:Nat) (p7:(Int×(List (List al))×Unit)) (Jg:Int):Nat->Int->Option ((Unit)⊕((Int×Bool)⊕(Int))):=cx fun d7 uG=>
  cond (decide (d7 < ((p7.2.1.getD Jg.toNat []).length:Int))) (aw ((bl d7 (p7.2.1.getD Jg.toNat []).length)&&(true)) <|
  Option.bind (wO N ((p7.2.1.getD Jg.toNat []).getD d7.toNat aK.zero)) fun jk=>
  cond (!jk) (some (.inr (.inr (1:Int)))) (aw ((bp (d7+(1:Int)))&&(true)) <|
  uG (d7+(1:Int)))) (some (.inl ()))
def zR(N:Nat) (p7:(Int×(List (List al))×Unit)):Nat->Int->Option ((Int×Bool)⊕(Int)):=cx fun d6 Qa=>
  cond (decide (d6 < (p7.2.1.length:Int))) (aw ((bl d6 p7.2.1.length)&&(true)) <|
  Option.bind (Jf N p7 d6 N (0:Int)) fun(kO:(Unit)⊕((Int×Bool)⊕(Int)))=>
  sm kO (fun kO=>
  aw ((bp (d6+(1:Int)))&&(true)) <|
  Qa (d6+(1:Int))) (fun q=>some q)) (some (.inl (d6,(decide (d6 < (p7.2.1.length:Int))))))
def Jh(N:Nat) (pq:(Int×(List (List al))×Unit)) (C4:Int):Nat->(Int×(List (al×Bool)))->Option (((List (al×Bool)))⊕((Int×Bool×(List (al×Bool)))⊕(Int))):=cx fun d13 adL=>
  cond (decide (d13.1 < ((pq.2.1.getD C4.toNat []).length:Int))) (aw ((bl d13.1 (pq.2.1.getD C4.toNat []).length)&&(true)) <|
  cond ((cJ aK .bool d13.2 ((pq.2.1.getD C4.toNat []).getD d13.1.toNat aK.zero)).getD false) (some (.inr (.inr (8:Int)))) (aw ((true&&true)&&(true)) <|
  aw ((bp (d13.1+(1:Int)))&&(true)) <|
  adL ((d13.1+(1:Int)),(eD aK .bool d13.2 ((pq.2.1.getD C4.toNat []).getD d13.1.toNat aK.zero) true)))) (some (.inl d13.2))
def zS(N:Nat) (pq:(Int×(List (List al))×Unit)):Nat->(Int×(List (al×Bool)))->Option ((Int×Bool×(List (al×Bool)))⊕(Int)):=cx fun d12 I4=>
  cond (decide (d12.1 < (pq.2.1.length:Int))) (aw ((bl d12.1 pq.2.1.length)&&(true)) <|
  Option.bind (Jh N pq d12.1 N ((0:Int),d12.2)) fun(rj:((List (al×Bool)))⊕((Int×Bool×(List (al×Bool)))⊕(Int)))=>
  sm rj (fun rj=>
  aw ((bp (d12.1+(1:Int)))&&(true)) <|
  I4 ((d12.1+(1:Int)),rj)) (fun q=>some q)) (some (.inl (d12.1,(decide (d12.1 < (pq.2.1.length:Int))),d12.2)))
def uH(N:Nat) (a0:il):Option (Int):=
  Option.bind (wU N a0) fun aH=>
  Option.bind (wT N true aH) fun bw=>j4 (fun(jw:Int×(List (List al))×Unit) (kX:Unit) (ek:Unit->Option (Int))=>
  cond (decide ((40:Int) < (jw.2.1.length:Int))) (some (9:Int)) (Option.bind (zQ N jw N (0:Int)) fun(cg:(Int×Bool)⊕(Int))=>
  sm cg (fun cg=>
  ek ()) (fun q=>some q))) bw () fun ch=>
  Option.bind (wU N a0) fun cq=>
  Option.bind (wT N true cq) fun adM=>j4 (fun(p7:Int×(List (List al))×Unit) (ai5:Unit) (Hh:Unit->Option (Int))=>
  Option.bind (zR N p7 N (0:Int)) fun(hg:(Int×Bool)⊕(Int))=>
  sm hg (fun hg=>
  Hh ()) (fun q=>some q)) adM () fun dz=>
  Option.bind (uF N a0) fun oD=>
  Option.bind (wU N a0) fun nQ=>
  Option.bind (wT N true nQ) fun adN=>j4 (fun(pq:Int×(List (List al))×Unit) (adO:(List (al×Bool))) (adP:(List (al×Bool))->Option (Int))=>
  Option.bind (zS N pq N ((0:Int),adO)) fun(wQ:(Int×Bool×(List (al×Bool)))⊕(Int))=>
  sm wQ (fun wQ=>
  adP wQ.2.2) (fun q=>some q)) adN ([]:List (al×Bool)) fun I6=>
  some (0:Int)
noncomputable def C5 (N:Nat):bI bU:=cj N b2 (by kernel_rfl) [.c9 fy] [] ⟨.a (.c (.int .i64)),[],[]⟩ [P6 N,Iz N,P9 N] [P5 N] (.s (.r [.n 2,.w (.ca 1 fy)]) (.s (.s .d (.b (.mX [(2,86)] ⟨[],[],[],[86]⟩ (.b (.s .d (.s .d (.b (.fw 2 ⟨[(2,.a (.c (.raw (.ptr 86 0)))),(29,.a (.c (.int .i64)))],[],[1,24,25,26,27,28],[86]⟩ ⟨[(2,.a (.c (.raw (.ptr 86 0)))),(29,.a (.c (.int .i64))),(30,.a (.c .bool))],[],[1,24,25,26,27,28],[86]⟩ .d)))))))) (.s (.s .d (.b (.mX [] ⟨[],[],[],[86]⟩ (.b (.s .d (.b (.fw 6 ⟨[(2,.a (.c (.raw (.ptr 86 0)))),(43,.a (.c (.int .i64)))],[],[1,41,42],[86]⟩ ⟨[(2,.a (.c (.raw (.ptr 86 0)))),(43,.a (.c (.int .i64))),(44,.a (.c .bool))],[],[1,41,42],[86]⟩ (.s .d (.s .d (.s (.b (.s .d (.s .d (.b (.fw 8 ⟨[(2,.a (.c (.raw (.ptr 86 0)))),(49,.a (.c (.int .i64)))],[],[1,41,42,43,47,48],[86]⟩ ⟨[(2,.a (.c (.raw (.ptr 86 0))))],[],[1,41,42,43],[86]⟩ (.s .d (.s .d (.s (.b (.s (.r [.n 4,.w (.ca 12 aK)]) .d)) .d)))))))) .d)))))))))) (.s (.r [.n 2,.t (.mV aK .bool)]) (.s (.s .d (.b (.mX [(13,97)] ⟨[],[(60,.mp aK .bool),(97,.cells 193 [.raw (.cp 60)])],[],[86]⟩ (.b (.s .d (.b (.fw 12 ⟨[(2,.a (.c (.raw (.ptr 86 0)))),(13,.a (.c (.raw (.ptr 97 0)))),(67,.a (.c (.int .i64)))],[(60,.mp aK .bool),(97,.cells 193 [.raw (.cp 60)])],[65,66],[86]⟩ ⟨[(2,.a (.c (.raw (.ptr 86 0)))),(13,.a (.c (.raw (.ptr 97 0)))),(67,.a (.c (.int .i64))),(68,.a (.c .bool))],[(60,.mp aK .bool),(97,.cells 193 [.raw (.cp 60)])],[65,66],[86]⟩ (.s .d (.s .d (.s (.b (.s .d (.s .d (.b (.fw 14 ⟨[(2,.a (.c (.raw (.ptr 86 0)))),(13,.a (.c (.raw (.ptr 97 0)))),(73,.a (.c (.int .i64)))],[(60,.mp aK .bool),(97,.cells 193 [.raw (.cp 60)])],[65,66,67,71,72],[86]⟩ ⟨[(2,.a (.c (.raw (.ptr 86 0)))),(13,.a (.c (.raw (.ptr 97 0))))],[(60,.mp aK .bool),(97,.cells 193 [.raw (.cp 60)])],[65,66,67],[86]⟩ (.s .d (.s .d (.s (.b (.s (.r [.n 4,.w (.ca 19 aK)]) (.s (.s (.r [.n 2,.t .yF]) .d) (.r [.n 2,.t .BV])))) .d)))))))) .d)))))))))) .d))))) [.cell 2 41] 87 0 (fun d=>uH N d.1) Tryz.func87 rfl rfl Tryz.ntmps87 rfl rfl rfl (fun d=>by kernel_rfl)
end
section
open Go.RowKit
theorem Qb{hf aP:Type} {step:hf->(hf->Option aP)->Option aP} (I:Nat->hf->aP->Prop)
  (h:∀ k d r rec,I k d r->(∀ k' fG cw,k' < k->I k' fG cw->rec fG=some cw)->step d rec=some r):∀ n k d r,k < n->I k d r->cx step n d=some r
 | 0,_,_,_,ab,_=>by omega
 | n+1,k,d,r,ab,gM=>h k d r _ gM fun k' fG cw oQ zr=>Qb I h n k' fG cw (by omega) zr
theorem adQ{α:Type} {x:α} {k:Option (List α)} {P:List α->Prop}:T (sx true x (some []) k) P ↔ T k fun l=>P (x :: l):=by
 cases k with
 | none=>exact⟨fun⟨_,h,_⟩=>(by cases h),fun⟨_,h,_⟩=>by cases h⟩
 | some l=>exact⟨fun⟨_,h,aq⟩=>⟨l,rfl,by cases h; exact aq⟩,fun⟨_,h,aq⟩=>⟨_,rfl,by cases h; exact aq⟩⟩
def nT(a:al):Prop:=1<=a.1/\a.1<=6/\0<=a.2/\a.2 < 2048
def gu(l:List al):List (al×Bool):=l.map fun a=>(a,true)
theorem Ji(a b:al):aQ.beq aK a b=decide (a=b):=by
 rw[Bool.eq_iff_iff,beq_iff (g:=aK) _ _ rfl,decide_eq_true_eq]
theorem Jj:∀ (l:List al) (a:al),a ∉ l->cJ aK .bool (gu l) a=none
 | [],_,_=>rfl
 | x :: l,a,h=>by
  show(match aQ.beq aK x a with | true=>some true | false=>cJ aK .bool (gu l) a)=none;rw[Ji,decide_eq_false (fun e=>h (by rw[e]; exact List.mem_cons_self))];exact Jj l a fun hm=>h (List.mem_cons_of_mem _ hm)
theorem C6:∀ (l:List al) (a:al),a ∉ l->eD aK .bool (gu l) a true=gu (l++[a])
 | [],_,_=>rfl
 | x :: l,a,h=>by
  show(match aQ.beq aK x a with | true=>(x,true) :: gu l | false=>(x,true) :: eD aK .bool (gu l) a true)=_;rw[Ji,decide_eq_false (fun e=>h (by rw[e]; exact List.mem_cons_self))];show(x,true) :: eD aK .bool (gu l) a true=_;rw[C6 l a fun hm=>h (List.mem_cons_of_mem _ hm)]
  rfl
def hy(b:Int):Nat->List (List al)->List (al×List al×Unit)
 | _,[]=>[]
 | i,s :: r=>((b,(i:Int)+1),s,()) :: hy b (i+1) r
theorem rk{α:Type} {l:List α} {i:Nat} {x:α} (h:l[i]?=some x):l.drop i=x :: l.drop (i+1):=by
 obtain⟨J,U⟩:=List.getElem?_eq_some_iff.1 h;rw[List.drop_eq_getElem_cons J,U]
theorem Qc{N:Nat} (b:Int) (l:List (List al)) (ad:l.length<=40) (bd:5000 < N) {fz:Unit->Option (List (al×List al×Unit))} {R:List (al×List al×Unit)} (dT:fz ()=some R) :
  zP N true (b,l,()) fz N (0:Int)=some (hy b 0 l++R):=by
 unfold zP;refine Qb (fun k d r=>∃ i:Nat,i+k=l.length/\d=(i:Int)/\r=hy b i (l.drop i)++R) ?_ N l.length _ _ (by omega) ⟨0,by omega,rfl,rfl⟩;rintro k d r rec ⟨i,hi,rfl,rfl⟩ bY
 apply T.eq
 by_cases a8:i < l.length
 ·obtain⟨x,aj⟩:∃ x,l[i]?=some x:=⟨_,List.getElem?_eq_getElem a8⟩
  have bg:(i:Int) < (l.length:Int):=by omega
  have Qd:¬ (40:Int)<=(i:Int):=by omega
  have az:=bY (k - 1) ((i:Int)+1) _ (by omega) ⟨i+1,by omega,rfl,rfl⟩;rw[rk aj];simp only[bc,Int.reduceEq,Int.reduceLT,Int.reduceLE,reduceCtorEq,bg,Qd,adQ,b8 aj,bt az]
  and_intros<;>first | omega | (simp only[bN]; omega) | exact this | trivial
 ·have bg:¬ (i:Int) < (l.length:Int):=by omega
  rw[List.drop_eq_nil_of_le (by omega)];simp only[bc,Int.reduceEq,Int.reduceLT,Int.reduceLE,reduceCtorEq,bg,bt dT]
  rfl
theorem Jk{N:Nat} (bd:5000 < N) {f g:List (List al)} (aA:f.length<=40) (aL:g.length<=40):uE N true (f,g)=some (hy 0 0 f++(hy 1 0 g++[])):=by
 show zP N true ((0:Int),f,()) (fun _=>zP N true ((1:Int),g,()) (fun _=>some []) N (0:Int)) N (0:Int)=_;exact Qc 0 f aA bd (Qc 1 g aL bd rfl)
def lens(E:List (al×List al×Unit)):Nat:=(E.map fun x=>x.2.1.length).sum
theorem Qe(b:Int) (l:List (List al)):∀ i,lens (hy b i l)=l.flatten.length:=by
 induction l with
 | nil=>intro i; rfl
 | cons s r bA=>
  intro i;show s.length+lens (hy b (i+1) r)=(s++r.flatten).length;rw[bA,List.length_append]
theorem adR(E:List (al×List al×Unit)):∀ c:Nat,c+lens E<=100000 ->
  j4 (fun(jw:al×List al×Unit) (kX:Int) (ek:Int->Option Int)=>aw ((bp (kX+(jw.2.1.length:Int)))&&(true))<|ek (kX+(jw.2.1.length:Int))) E (c:Int) (fun o=>some o)=some ((c+lens E:Nat):Int):=by
 induction E with
 | nil=>intro c _; rfl
 | cons e E bA=>
  intro c h;have ad:lens (e :: E)=e.2.1.length+lens E:=rfl;rw[ad]at h;show aw ((bp ((c:Int)+(e.2.1.length:Int)))&&(true)) (j4 _ E ((c:Int)+(e.2.1.length:Int)) _)=_;rw[oA (by rw[Bool.and_true]; exact zt (by omega) (by omega)),ad,<- Nat.add_assoc];exact bA (c+e.2.1.length) (by omega)
theorem Jl{N:Nat} (bd:5000 < N) {f g:List (List al)} (aA:f.length<=40) (aL:g.length<=40) (aa:f.flatten.length+g.flatten.length<=100000):uF N (f,g)=some ((f.flatten.length+g.flatten.length:Nat):Int):=by
 have ad:lens (hy 0 0 f++(hy 1 0 g++[]))=f.flatten.length+g.flatten.length:=by
  rw[List.append_nil];unfold lens;rw[List.map_append,List.sum_append];exact congr (congrArg _ (Qe 0 f 0)) (Qe 1 g 0)
 unfold uF;show Option.bind (uE N true (f,g)) _=_;rw[Jk bd aA aL,Option.bind_some]
 have:=adR (hy 0 0 f++(hy 1 0 g++[])) 0 (by omega)
 rw[ad,Nat.zero_add]at this;exact this
structure fD(l:List (List al)):Prop where
 len:l.length<=40
 e9:∀ s∈l,s.length<=4
 ok:∀ s∈l,∀ a∈s,nT a
theorem Qf{N:Nat} (bd:5000 < N) (b:Int) {l:List (List al)} (h:fD l):zQ N (b,l,()) N (0:Int)=some (.inl ((l.length:Int),false)):=by
 unfold zQ;have hlen:=h.len;refine e8 (fun k d=>∃ i:Nat,i+k=l.length/\d=(i:Int)) _ ?_ N l.length _ (by omega) ⟨0,by omega,rfl⟩;rintro k d rec ⟨i,hi,rfl⟩ bY
 apply T.eq
 by_cases a8:i < l.length
 ·obtain⟨x,aj⟩:∃ x,l[i]?=some x:=⟨_,List.getElem?_eq_getElem a8⟩
  have bg:(i:Int) < (l.length:Int):=by omega
  have au:=h.e9 x (List.mem_of_getElem? aj);have adS:¬ (4:Int) < (x.length:Int):=by omega
  have this:T (rec ((i:Int)+1)) (·=.inl ((l.length:Int),false)):=⟨_,bY (k - 1) _ (by omega) ⟨i+1,by omega,rfl⟩,rfl⟩
  simp only[bc,Int.reduceEq,Int.reduceLT,Int.reduceLE,reduceCtorEq,bg,b8 aj,adS]
  and_intros<;>first | omega | (simp only[bN]; omega) | exact this | trivial
 ·have bg:¬ (i:Int) < (l.length:Int):=by omega
  simp only[bc,Int.reduceEq,Int.reduceLT,Int.reduceLE,reduceCtorEq,bg];rw[show i=l.length by omega]
theorem adT{N:Nat} (bd:5000 < N) (b:Int) {l:List (List al)} (h:fD l) {i:Nat} {s:List al} (ak:l[i]?=some s):Jf N (b,l,()) (i:Int) N (0:Int)=some (.inl ()):=by
 unfold Jf;have Qg:=List.mem_of_getElem? ak;have au:=h.e9 s Qg;refine e8 (fun k d=>∃ j:Nat,j+k=s.length/\d=(j:Int)) _ ?_ N s.length _ (by omega) ⟨0,by omega,rfl⟩;rintro k d rec ⟨j,aR,rfl⟩ bY
 apply T.eq
 by_cases a8:j < s.length
 ·obtain⟨x,aj⟩:∃ x,s[j]?=some x:=⟨_,List.getElem?_eq_getElem a8⟩
  have bg:(j:Int) < (s.length:Int):=by omega
  have this:T (rec ((j:Int)+1)) (·=.inl ()):=⟨_,bY (k - 1) _ (by omega) ⟨j+1,by omega,rfl⟩,rfl⟩
  simp only[bc,Int.reduceEq,Int.reduceLT,Int.reduceLE,reduceCtorEq,b8 ak,bg,b8 aj,bt (Jc N (h.ok s Qg x (List.mem_of_getElem? aj)))]
  and_intros<;>first | omega | (simp only[bN]; omega) | exact this | trivial
 ·have bg:¬ (j:Int) < (s.length:Int):=by omega
  simp only[bc,Int.reduceEq,Int.reduceLT,Int.reduceLE,reduceCtorEq,b8 ak,bg]
theorem Qh{N:Nat} (bd:5000 < N) (b:Int) {l:List (List al)} (h:fD l):zR N (b,l,()) N (0:Int)=some (.inl ((l.length:Int),false)):=by
 unfold zR;have hlen:=h.len;refine e8 (fun k d=>∃ i:Nat,i+k=l.length/\d=(i:Int)) _ ?_ N l.length _ (by omega) ⟨0,by omega,rfl⟩;rintro k d rec ⟨i,hi,rfl⟩ bY
 apply T.eq
 by_cases a8:i < l.length
 ·obtain⟨x,aj⟩:∃ x,l[i]?=some x:=⟨_,List.getElem?_eq_getElem a8⟩
  have bg:(i:Int) < (l.length:Int):=by omega
  have this:T (rec ((i:Int)+1)) (·=.inl ((l.length:Int),false)):=⟨_,bY (k - 1) _ (by omega) ⟨i+1,by omega,rfl⟩,rfl⟩
  simp only[bc,Int.reduceEq,Int.reduceLT,Int.reduceLE,reduceCtorEq,bg,bt (adT bd b h aj)]
  and_intros<;>first | omega | (simp only[bN]; omega) | exact this | trivial
 ·have bg:¬ (i:Int) < (l.length:Int):=by omega
  simp only[bc,Int.reduceEq,Int.reduceLT,Int.reduceLE,reduceCtorEq,bg];rw[show i=l.length by omega]
theorem C7{α:Type} {P Q:List α} {x:α} (h:(P++x :: Q).Nodup):x ∉ P:=fun aj=>(List.nodup_append.1 h).2.2 x aj x List.mem_cons_self rfl
theorem p8{α:Type} {l:List α} {i:Nat} {x:α} (h:l[i]?=some x):l.take (i+1)=l.take i++[x]:=by
 obtain⟨J,U⟩:=List.getElem?_eq_some_iff.1 h;rw[List.take_succ_eq_append_getElem J,U]
theorem adU{N:Nat} (bd:5000 < N) (b:Int) {l:List (List al)} (h:fD l) {i:Nat} {s:List al} (ak:l[i]?=some s) (acc Q:List al) (a7:(acc++(s++Q)).Nodup) :
  Jh N (b,l,()) (i:Int) N ((0:Int),gu acc)=some (.inl (gu (acc++s))):=by
 unfold Jh;have au:=h.e9 s (List.mem_of_getElem? ak);refine e8 (fun k d=>∃ j:Nat,j+k=s.length/\d=((j:Int),gu (acc++s.take j))) _ ?_ N s.length _ (by omega) ⟨0,by omega,by simp⟩;rintro k d rec ⟨j,aR,rfl⟩ bY
 apply T.eq
 by_cases a8:j < s.length
 ·obtain⟨x,aj⟩:∃ x,s[j]?=some x:=⟨_,List.getElem?_eq_getElem a8⟩
  have bg:(j:Int) < (s.length:Int):=by omega
  have fN:x ∉ acc++s.take j:=by
   refine C7 (Q:=s.drop (j+1)++Q) ?_;have e:acc++s.take j++x :: (s.drop (j+1)++Q)=acc++(s++Q):=by
    conv=>rhs; rw[<- List.take_append_drop j s,rk aj]
    simp only[List.append_assoc,List.cons_append]
   rw[e];exact a7
  have this:T (rec ((j:Int)+1,gu (acc++s.take j++[x]))) (·=.inl (gu (acc++s))):=⟨_,bY (k - 1) _ (by omega) ⟨j+1,by omega,by rw[p8 aj,List.append_assoc]; rfl⟩,rfl⟩
  simp only[bc,Int.reduceEq,Int.reduceLT,Int.reduceLE,reduceCtorEq,b8 ak,bg,b8 aj,Jj _ _ fN,C6 _ _ fN,Option.getD_none,Bool.false_eq_true]
  and_intros<;>first | omega | (simp only[bN]; omega) | exact this | trivial
 ·have bg:¬ (j:Int) < (s.length:Int):=by omega
  simp only[bc,Int.reduceEq,Int.reduceLT,Int.reduceLE,reduceCtorEq,b8 ak,bg];rw[List.take_of_length_le (by omega)]
theorem Qi{N:Nat} (bd:5000 < N) (b:Int) {l:List (List al)} (h:fD l) (acc:List al) (a7:(acc++l.flatten).Nodup) :
  zS N (b,l,()) N ((0:Int),gu acc)=some (.inl ((l.length:Int),false,gu (acc++l.flatten))):=by
 unfold zS;have hlen:=h.len;refine e8 (fun k d=>∃ i:Nat,i+k=l.length/\d=((i:Int),gu (acc++(l.take i).flatten))) _ ?_ N l.length _ (by omega) ⟨0,by omega,by simp⟩;rintro k d rec ⟨i,hi,rfl⟩ bY
 apply T.eq
 by_cases a8:i < l.length
 ·obtain⟨x,aj⟩:∃ x,l[i]?=some x:=⟨_,List.getElem?_eq_getElem a8⟩
  have bg:(i:Int) < (l.length:Int):=by omega
  have e:(l.take (i+1)).flatten=(l.take i).flatten++x:=by rw[p8 aj,List.flatten_append,List.flatten_singleton]
  have hn:(acc++(l.take i).flatten++(x++(l.drop (i+1)).flatten)).Nodup:=by
   have aW:acc++(l.take i).flatten++(x++(l.drop (i+1)).flatten)=acc++l.flatten:=by
    conv=>rhs; rw[<- List.take_append_drop i l,rk aj,List.flatten_append,List.flatten_cons]
    simp only[List.append_assoc]
   rw[aW];exact a7
  have this:T (rec ((i:Int)+1,gu (acc++(l.take i).flatten++x))) (·=.inl ((l.length:Int),false,gu (acc++l.flatten))):=⟨_,bY (k - 1) _ (by omega) ⟨i+1,by omega,by rw[e,List.append_assoc]; rfl⟩,rfl⟩
  simp only[bc,Int.reduceEq,Int.reduceLT,Int.reduceLE,reduceCtorEq,bg,bt (adU bd b h aj _ _ hn)]
  and_intros<;>first | omega | (simp only[bN]; omega) | exact this | trivial
 ·have bg:¬ (i:Int) < (l.length:Int):=by omega
  simp only[bc,Int.reduceEq,Int.reduceLT,Int.reduceLE,reduceCtorEq,bg];rw[show i=l.length by omega,List.take_length]
theorem wV{N:Nat} (bd:5000 < N) {f g:List (List al)} (aA:fD f) (aL:fD g) (a7:(f.flatten++g.flatten).Nodup) (aa:f.flatten.length+g.flatten.length<=100000):uH N (f,g)=some 0:=by
 have cv:=aA.len;have C8:=aL.len;have oo:=Qi bd 0 aA [] (by rw[List.nil_append]; exact(List.nodup_append.1 a7).1);rw[List.nil_append]at oo;have adV:=Qi bd 1 aL f.flatten a7;have ae:wU N (f,g)=some (f,g):=rfl;have ho:wT N true (f,g)=some [((0:Int),f,()),((1:Int),g,())]:=rfl;unfold uH;simp only[ae,ho,Option.bind_some];show cond (decide ((40:Int) < (f.length:Int))) _ (Option.bind (zQ N ((0:Int),f,()) N (0:Int)) _)=_;rw[decide_eq_false (by omega),cond_false,Qf bd 0 aA,Option.bind_some];show cond (decide ((40:Int) < (g.length:Int))) _ (Option.bind (zQ N ((1:Int),g,()) N (0:Int)) _)=_;rw[decide_eq_false (by omega),cond_false,Qf bd 1 aL,Option.bind_some];show Option.bind (zR N ((0:Int),f,()) N (0:Int)) _=_;rw[Qh bd 0 aA,Option.bind_some];show Option.bind (zR N ((1:Int),g,()) N (0:Int)) _=_;rw[Qh bd 1 aL,Option.bind_some];show Option.bind (uF N (f,g)) _=_;rw[Jl bd cv C8 aa,Option.bind_some];show Option.bind (zS N ((0:Int),f,()) N ((0:Int),gu [])) _=_;rw[oo,Option.bind_some];show Option.bind (zS N ((1:Int),g,()) N ((0:Int),gu f.flatten)) _=_;rw[adV,Option.bind_some]
 rfl
end
section
set_option linter.unusedSectionVars false
def adW(X:br) (f:FuncId) (args:List bf) (h:bx) (Q:b0->bx->Prop):Prop:=
 ∀ (B:Nat->Prop) (ai:World) (env:Nat->Loc) (vs:List Value) (H:List bb) (W:World),vn X B ai->dw env B ai args vs->bu env B ai h H->bF B ai H W->∀ u,CallsDIn Fence.wide 0 X.P f vs.toArray u W (fun e eF w'=>eF=u/\∃ v,e=.returned v/\vo X env B H W Q v w')
structure adX(X:br) where
 c:bI X
 ai6:∀ d r,c.m d=some r->adW X c.f (hS c.A d).1 (je c.eL (hS c.A d).2).1 (fun sv h=>sv=(c.out d r).1/\h=(c.out d r).2)
section
variable {X:br} {n:Nat}
end
section
variable {X:br} {R:Nat->Prop} {W:World} {aG:eX} {n:Nat} {env:Nat->Loc} {B:Nat->Prop} {ai:World} {H:List bb} {st:aM} {a:Act} {w:World}
end
end
section
set_option linter.unusedSectionVars false
section
variable {X:br} {R:Nat->Prop} {W:World} {aG:eX} {n:Nat} {env:Nat->Loc} {B:Nat->Prop} {ai:World} {H:List bb} {st:aM} {a:Act} {w:World}
end
section
variable {X:br} {N n:Nat} {T:List (bI X)} {bC:List (lk X)} {ai7:adX X} {ms:List (Nat×Nat)} {ps:eg} {ai8:Nat} {res:List ResultVar} {ai9:ll} {fn:Func}
end
end
section
open Go.RowKit
end
section
open Go.RowKit
end
section
open Go.RowKit
def hW(a b:Int):Int:=if a < b then b else a
def oE(a b:Int):Int:=if b < a then b else a
def wW(N:Nat) (a0:(List cS)):Option ((List cS)×Nat):=
  aw (((decide (0<=(a0.length:Int)))&&(decide ((a0.length:Int)<=(a0.length:Int)))&&(decide ((a0.length:Int)<=(a0.length:Int))))&&(true)) <|
  some ((a0.take (a0.length:Int).toNat),(a0.length:Int).toNat)
noncomputable def Qj (N:Nat):bI bU:=cj N b2 (by kernel_rfl) [.c (.bn dW)] [] ⟨.a (.c (.jT dW)),[],[]⟩ [] [] (.d) [.tmp 2] 35 ([],0) (fun d=>wW N d.1) Tryz.func35 rfl rfl Tryz.ntmps35 rfl rfl rfl (fun d=>by kernel_rfl)
end
section
open Go.RowKit
def kP(N:Nat) (a0:al):Option (Int):=
  cond (cond (!(decide (a0.1=(0:Int)))) (!(decide (a0.1=(1:Int)))) false) (some (1:Int)) (cond (cond (decide (a0.2 < (1:Int))) true (decide ((40:Int) < a0.2))) (some (1:Int)) (some (0:Int)))
noncomputable def uI (N:Nat):bI bU:=cj N b2 (by kernel_rfl) [.c9 aK] [] ⟨.a (.c (.int .i64)),[],[]⟩ [] [] (.s (.r [.n 2,.w (.ca 1 aK)]) .d) [.tmp 2] 41 0 (fun d=>kP N d.1) Tryz.func41 rfl rfl Tryz.ntmps41 rfl rfl rfl (fun d=>by kernel_rfl)
def wX(N:Nat) (a0:Int):Option (Bool):=
  some (cond (decide ((-4:Int)<=a0)) (decide (a0<=(4:Int))) false)
noncomputable def Qk (N:Nat):bI bU:=cj N b2 (by kernel_rfl) [.c (.int .i64)] [] ⟨.a (.c .bool),[],[]⟩ [] [] (.d) [.tmp 2] 62 false (fun d=>wX N d.1) Tryz.func62 rfl rfl Tryz.ntmps62 rfl rfl rfl (fun d=>by kernel_rfl)
def lV(N:Nat) (a0:al) (ay:Int):Option (Int):=
  Option.bind (kP N a0) fun aH=>
  Option.bind (cond (!(!(decide (aH=(0:Int))))) (wX N ay) (some false)) fun a1=>
  cond (cond (!(decide (aH=(0:Int)))) true (!a1)) (some (0:Int)) (cond (decide (a0.1=(0:Int))) (aw ((bp ((4:Int) * a0.2))&&((bp (((4:Int) * a0.2)+(2:Int)))&&(true))) <|
  some (((4:Int) * a0.2)+(2:Int))) (aw ((bp (a0.2+ay))&&((bp ((4:Int) * (a0.2+ay)))&&(true))) <|
  some ((4:Int) * (a0.2+ay))))
noncomputable def Jm (N:Nat):bI bU:=cj N b2 (by kernel_rfl) [.c9 aK,.c (.int .i64)] [] ⟨.a (.c (.int .i64)),[],[]⟩ [uI N,Qk N] [] (.s (.r [.n 2,.w (.ca 2 aK)]) .d) [.tmp 4] 22 0 (fun d=>lV N d.1 d.2.1) Tryz.func22 rfl rfl Tryz.ntmps22 rfl rfl rfl (fun d=>by kernel_rfl)
def wY(N:Nat) (a0:al) (ay:Int):Option (al×Int):=
  Option.bind (kP N a0) fun aH=>
  cond (!(decide (aH=(0:Int)))) (some (((0:Int),(0:Int)),(1:Int))) (Option.bind (wX N ay) fun a1=>
  cond (!a1) (some (((0:Int),(0:Int)),(11:Int))) (aw ((bp (a0.2 - ay))&&(true)) <|
  Option.bind (cond (decide (a0.1=(1:Int))) (aw ((bp (a0.2+ay))&&(true)) <|
  some ((0:Int),(a0.2+ay))) (some ((1:Int),(a0.2 - ay)))) fun cg=>
  Option.bind (kP N cg) fun cq=>
  cond (!(decide (cq=(0:Int)))) (some (((0:Int),(0:Int)),(11:Int))) (some (cg,(0:Int)))))
noncomputable def adY (N:Nat):bI bU:=cj N b2 (by kernel_rfl) [.c9 aK,.c (.int .i64)] [] ⟨.da [.c9 aK,.c (.int .i64)],[],[]⟩ [uI N,Qk N] [] (.s (.r [.n 3,.w (.ca 2 aK)]) (.s .d (.s .d (.s .d (.j ⟨[(4,.a (.c (.raw (.ptr 4 0)))),(6,.a (.c (.raw (.ptr 6 0))))],[(6,.cells 50 [.int .u8,.int .i64])],[],[4]⟩ .d .d))))) [.cell 4 50,.tmp 5] 134 (aK.zero,0) (fun d=>wY N d.1 d.2.1) Tryz.func134 rfl rfl Tryz.ntmps134 rfl rfl rfl (fun d=>by kernel_rfl)
def sF(N:Nat) :Option ((List (Int×Pj))):=
  some (eD (.int .u8) c5 (eD (.int .u8) c5 (eD (.int .u8) c5 (eD (.int .u8) c5 (eD (.int .u8) c5 (eD (.int .u8) c5 (eD (.int .u8) c5 (eD (.int .u8) c5 ([]:List (Int×Pj)) (1:Int) (true,(false,(true,false)))) (2:Int) (false,(false,(true,false)))) (3:Int) (false,(false,(false,true)))) (4:Int) (true,(true,(true,false)))) (5:Int) (true,(true,(true,false)))) (6:Int) (true,(true,(true,false)))) (7:Int) (false,(true,(false,false)))) (8:Int) (false,(true,(false,false))))
noncomputable def adZ (N:Nat):bI bU:=cj N b2 (by kernel_rfl) [] [] ⟨.a (.c (.raw (.cp 1))),[(1,.mp (.int .u8) c5)],[]⟩ [] [] (.s .d (.s (.r [.t (.mV (.int .u8) c5),.n 1,.t .lh,.n 1,.t .lh,.n 1,.t .lh,.n 1,.t .lh,.n 1,.t .lh,.n 1,.t .lh,.n 1,.t .lh,.n 1,.t .lh]) .d)) [.tmp 0] 163 [] (fun d=>sF N ) Tryz.func163 rfl rfl Tryz.ntmps163 rfl rfl rfl (fun d=>by kernel_rfl)
def nU(N:Nat) (a0:cS):Option (Bool):=
  Option.bind (sF N) fun aH=>
  cond (!((cJ (.int .u8) c5 aH a0.1).isSome)) (some false) (cond (cond (cond (cond ((cJ (.int .u8) c5 aH a0.1).getD c5.zero).1 (!(decide (a0.2.1=(0:Int)))) false) (!(decide (a0.2.1=(1:Int)))) false) true (cond (!((cJ (.int .u8) c5 aH a0.1).getD c5.zero).1) (!(decide (a0.2.1=(0:Int)))) false)) (some false) (Option.bind (cond ((cJ (.int .u8) c5 aH a0.1).getD c5.zero).2.1 (kP N a0.2.2.1) (some 0)) fun a1=>
  cond (cond (cond ((cJ (.int .u8) c5 aH a0.1).getD c5.zero).2.1 (!(decide (a1=(0:Int)))) false) true (cond (!((cJ (.int .u8) c5 aH a0.1).getD c5.zero).2.1) (!(aQ.beq aK a0.2.2.1 ((0:Int),(0:Int)))) false)) (some false) (cond (cond (cond ((cJ (.int .u8) c5 aH a0.1).getD c5.zero).2.2.1 (cond (decide (a0.2.2.2.1 < (1:Int))) true (decide ((6:Int) < a0.2.2.2.1))) false) true (cond (!((cJ (.int .u8) c5 aH a0.1).getD c5.zero).2.2.1) (!(decide (a0.2.2.2.1=(0:Int)))) false)) (some false) (some (cond ((cJ (.int .u8) c5 aH a0.1).getD c5.zero).2.2.2 true (decide (a0.2.2.2.2=(0:Int))))))))
noncomputable def C9 (N:Nat) (a0:cS):Option (Bool):=
  eV (Option.bind (sF N) fun aH=>
  eV (cond (!((cJ (.int .u8) c5 aH a0.1).isSome)) (some false) (cond (cond (cond (cond ((cJ (.int .u8) c5 aH a0.1).getD c5.zero).1 (!(decide (a0.2.1=(0:Int)))) false) (!(decide (a0.2.1=(1:Int)))) false) true (cond (!((cJ (.int .u8) c5 aH a0.1).getD c5.zero).1) (!(decide (a0.2.1=(0:Int)))) false)) (some false) (Option.bind (cond ((cJ (.int .u8) c5 aH a0.1).getD c5.zero).2.1 (kP N a0.2.2.1) (some 0)) fun a1=>
  cond (cond (cond ((cJ (.int .u8) c5 aH a0.1).getD c5.zero).2.1 (!(decide (a1=(0:Int)))) false) true (cond (!((cJ (.int .u8) c5 aH a0.1).getD c5.zero).2.1) (!(aQ.beq aK a0.2.2.1 ((0:Int),(0:Int)))) false)) (some false) (cond (cond (cond ((cJ (.int .u8) c5 aH a0.1).getD c5.zero).2.2.1 (cond (decide (a0.2.2.2.1 < (1:Int))) true (decide ((6:Int) < a0.2.2.2.1))) false) true (cond (!((cJ (.int .u8) c5 aH a0.1).getD c5.zero).2.2.1) (!(decide (a0.2.2.2.1=(0:Int)))) false)) (some false) (some (cond ((cJ (.int .u8) c5 aH a0.1).getD c5.zero).2.2.2 true (decide (a0.2.2.2.2=(0:Int))))))))) (cond (!((cJ (.int .u8) c5 aH a0.1).isSome)) (some false) (cond (cond (cond (cond ((cJ (.int .u8) c5 aH a0.1).getD c5.zero).1 (!(decide (a0.2.1=(0:Int)))) false) (!(decide (a0.2.1=(1:Int)))) false) true (cond (!((cJ (.int .u8) c5 aH a0.1).getD c5.zero).1) (!(decide (a0.2.1=(0:Int)))) false)) (some false) (Option.bind (cond ((cJ (.int .u8) c5 aH a0.1).getD c5.zero).2.1 (kP N a0.2.2.1) (some 0)) fun a1=>
  cond (cond (cond ((cJ (.int .u8) c5 aH a0.1).getD c5.zero).2.1 (!(decide (a1=(0:Int)))) false) true (cond (!((cJ (.int .u8) c5 aH a0.1).getD c5.zero).2.1) (!(aQ.beq aK a0.2.2.1 ((0:Int),(0:Int)))) false)) (some false) (cond (cond (cond ((cJ (.int .u8) c5 aH a0.1).getD c5.zero).2.2.1 (cond (decide (a0.2.2.2.1 < (1:Int))) true (decide ((6:Int) < a0.2.2.2.1))) false) true (cond (!((cJ (.int .u8) c5 aH a0.1).getD c5.zero).2.2.1) (!(decide (a0.2.2.2.1=(0:Int)))) false)) (some false) (some (cond ((cJ (.int .u8) c5 aH a0.1).getD c5.zero).2.2.2 true (decide (a0.2.2.2.2=(0:Int)))))))))) (Option.bind (sF N) fun aH=>
  cond (!((cJ (.int .u8) c5 aH a0.1).isSome)) (some false) (cond (cond (cond (cond ((cJ (.int .u8) c5 aH a0.1).getD c5.zero).1 (!(decide (a0.2.1=(0:Int)))) false) (!(decide (a0.2.1=(1:Int)))) false) true (cond (!((cJ (.int .u8) c5 aH a0.1).getD c5.zero).1) (!(decide (a0.2.1=(0:Int)))) false)) (some false) (Option.bind (cond ((cJ (.int .u8) c5 aH a0.1).getD c5.zero).2.1 (kP N a0.2.2.1) (some 0)) fun a1=>
  cond (cond (cond ((cJ (.int .u8) c5 aH a0.1).getD c5.zero).2.1 (!(decide (a1=(0:Int)))) false) true (cond (!((cJ (.int .u8) c5 aH a0.1).getD c5.zero).2.1) (!(aQ.beq aK a0.2.2.1 ((0:Int),(0:Int)))) false)) (some false) (cond (cond (cond ((cJ (.int .u8) c5 aH a0.1).getD c5.zero).2.2.1 (cond (decide (a0.2.2.2.1 < (1:Int))) true (decide ((6:Int) < a0.2.2.2.1))) false) true (cond (!((cJ (.int .u8) c5 aH a0.1).getD c5.zero).2.2.1) (!(decide (a0.2.2.2.1=(0:Int)))) false)) (some false) (some (cond ((cJ (.int .u8) c5 aH a0.1).getD c5.zero).2.2.2 true (decide (a0.2.2.2.2=(0:Int)))))))))
theorem ad0:C9=nU:=by
 unfold C9 nU;simp only[nI]
noncomputable def ad1 (N:Nat):bI bU:=nO N b2 (by kernel_rfl) [.c9 dW] [] ⟨.a (.c .bool),[],[]⟩ [adZ N,uI N] [] (.s (.r [.n 2,.w (.ca 1 dW)]) (.s (.hk [] [] (.b [.t 1 0,.t 2 1] 0 7 [(1,6)] [] none none (.b [] 3 7 [] [] (some .BW) none (.f [.m 4,.t 5 0,.t 6 0,.s 7,.s 8,.t 9 0]) (.f [.u 3 .BW,.m 4,.t 5 0,.t 6 0,.s 8,.t 9 0])) (.f [.c 0 [(1,6)],.u 3 .BW,.m 4,.t 5 0,.t 6 0,.s 8,.t 9 0])) [(.ca 3 c5)] false) .d)) [.tmp 2] 137 false (fun d=>C9 N d.1) (fun d=>nU N d.1) (fun d=>(by rw[ad0]:C9 N d.1=nU N d.1)) Tryz.func137 rfl rfl Tryz.ntmps137 rfl rfl rfl (fun d=>by kernel_rfl)
def lp(N:Nat) (a0:cS):Option (Int):=
  Option.bind (nU N a0) fun aH=>
  cond (!aH) (some (1:Int)) (cond (cond (decide (a0.2.2.2.2 < (-4:Int))) true (decide ((4:Int) < a0.2.2.2.2))) (some (11:Int)) (some (0:Int)))
noncomputable def Ql (N:Nat):bI bU:=cj N b2 (by kernel_rfl) [.c9 dW] [] ⟨.a (.c (.int .i64)),[],[]⟩ [ad1 N] [] (.s (.r [.n 2,.w (.ca 1 dW)]) .d) [.tmp 2] 102 0 (fun d=>lp N d.1) Tryz.func102 rfl rfl Tryz.ntmps102 rfl rfl rfl (fun d=>by kernel_rfl)
end
section
open Go.RowKit
def wZ(N:Nat) (a0:Int):Option (Bool):=
  some (cond (decide ((-4:Int)<=a0)) (decide (a0<=(4:Int))) false)
noncomputable def ad2 (N:Nat):bI bU:=cj N b2 (by kernel_rfl) [.c (.int .i64)] [] ⟨.a (.c .bool),[],[]⟩ [] [] (.d) [.tmp 2] 193 false (fun d=>wZ N d.1) Tryz.func193 rfl rfl Tryz.ntmps193 rfl rfl rfl (fun d=>by kernel_rfl)
def w0(N:Nat) (a0:il) (ay:Int):Option (Int):=
  Option.bind (uH N a0) fun aH=>
  cond (!(decide (aH=(0:Int)))) (some aH) (Option.bind (wZ N ay) fun a1=>
  cond (!a1) (some (11:Int)) (some (0:Int)))
noncomputable def ad3 (N:Nat):bI bU:=cj N b2 (by kernel_rfl) [.c9 fy,.c (.int .i64)] [] ⟨.a (.c (.int .i64)),[],[]⟩ [C5 N,ad2 N] [] (.s (.r [.n 2,.w (.ca 2 fy)]) .d) [.tmp 4] 153 0 (fun d=>w0 N d.1 d.2.1) Tryz.func153 rfl rfl Tryz.ntmps153 rfl rfl rfl (fun d=>by kernel_rfl)
def Jn(N:Nat) (a0:Int) (ay:(List (List al))) (a2:Int) (dx:Int):Nat->(Int×(List cH))->Option ((List cH)):=cx fun d2 fz=>
  cond (decide (d2.1 < ((ay.getD dx.toNat []).length:Int))) (aw ((bl d2.1 (ay.getD dx.toNat []).length)&&(true)) <|
  Option.bind (lV N (a0,(dx+(1:Int))) a2) fun bD=>
  aw ((en 40 (d2.2.length+[(((ay.getD dx.toNat []).getD d2.1.toNat aK.zero),((a0,(dx+(1:Int))),bD))].length))&&(true)) <|
  aw ((bp (d2.1+(1:Int)))&&(true)) <|
  fz ((d2.1+(1:Int)),(d2.2++[(((ay.getD dx.toNat []).getD d2.1.toNat aK.zero),((a0,(dx+(1:Int))),bD))]))) (some d2.2)
def Jo(N:Nat) (a0:Int) (ay:(List (List al))) (a2:Int):Nat->(Int×(List cH))->Option ((List cH)):=cx fun d1 dG=>
  cond (decide (d1.1 < (ay.length:Int))) (aw ((bl d1.1 ay.length)&&(true)) <|
  aw ((bp (d1.1+(1:Int)))&&(true)) <|
  Option.bind (Jn N a0 ay a2 d1.1 N ((0:Int),d1.2)) fun ch=>
  aw ((bp (d1.1+(1:Int)))&&(true)) <|
  dG ((d1.1+(1:Int)),ch)) (some d1.2)
def uJ(N:Nat) (a0:Int) (ay:(List (List al))) (a2:Int) (a3:List cH):Option ((List cH)):=
  Option.bind (Jo N a0 ay a2 N ((0:Int),a3)) fun aX=>
  some aX
noncomputable def ad4 (N:Nat):bI bU:=cj N b2 (by kernel_rfl) [.c (.int .u8),.c (.bn (.an aK)),.c (.raw (.ptr 1000000 0)),.c (.fF (.int .i64) 0)] [(1000000,.cells 196 [.raw (.an 1000001)]),(1000001,.row 200 c2)] ⟨.da [],[(1000000,.cells 196 [.raw (.an 1000001)]),(1000001,.row 200 c2)],[]⟩ [Jm N] [] (.s .d (.b (.eY 0 ⟨[(2,.a (.c (.raw (.ptr 1000000 0)))),(13,.a (.c (.int .i64)))],[(1000000,.cells 196 [.raw (.an 1000001)]),(1000001,.row 200 c2)],[0,3,11,12],[]⟩ ⟨[],[(1000000,.cells 196 [.raw (.an 1000001)]),(1000001,.row 200 c2)],[],[]⟩ (.s .d (.s .d (.s (.b (.s .d (.s (.r [.n 6,.w (.ca 8 aK)]) (.s .d (.b (.eY 2 ⟨[(2,.a (.c (.raw (.ptr 1000000 0)))),(24,.a (.c (.int .i64)))],[(1000000,.cells 196 [.raw (.an 1000001)]),(1000001,.row 200 c2)],[0,3,8,11,12,13,22,23],[]⟩ ⟨[(2,.a (.c (.raw (.ptr 1000000 0))))],[(1000000,.cells 196 [.raw (.an 1000001)]),(1000001,.row 200 c2)],[0,3,11,12,13],[]⟩ (.s .d (.s .d (.s (.b (.s (.r [.n 4,.w (.ca 10 aK)]) (.o [0,1,2,3,4,5,6,7,1000008,1000009] [.t 0 3,.t 1 1,.t 2 1,.t 3 1,.t 4 1,.c 5 [],.t 6 0,.k 7,.s 8,.s 9] []))) .d))))))))) .d)))))) [] 154 [] (fun d=>uJ N d.1 d.2.1 d.2.2.1 d.2.2.2.1) Tryz.func154 rfl rfl Tryz.ntmps154 rfl rfl rfl (fun d=>by kernel_rfl)
def w1(N:Nat) (a0:cH) (ay:cH):Option (Int):=
  Option.bind (zD N a0.2.2 ay.2.2) fun aH=>
  some aH
noncomputable def ad5 (N:Nat):bI bU:=cj N b2 (by kernel_rfl) [.c9 c2,.c9 c2] [] ⟨.a (.c (.int .i64)),[],[]⟩ [PI N] [] (.s (.r [.n 3,.w (.ca 2 c2),.w (.ca 3 c2)]) .d) [.tmp 4] 156 0 (fun d=>w1 N d.1 d.2.1) Tryz.func156 rfl rfl Tryz.ntmps156 rfl rfl rfl (fun d=>by kernel_rfl)
def w2(N:Nat) (a0:Int):Nat->(Int×(List cH))->Option ((List cH)):=cx fun d2 fz=>
  aw ((ez (decide (a0 < d2.1)) (bl d2.1 d2.2.length))&&((ez (decide (a0 < d2.1)) (decide (d2.1.toNat < d2.2.length)))&&((ez (decide (a0 < d2.1)) (bp (d2.1 - (1:Int))))&&((ez (decide (a0 < d2.1)) (bl (d2.1 - (1:Int)) d2.2.length))&&((ez (decide (a0 < d2.1)) (decide ((d2.1 - (1:Int)).toNat < d2.2.length)))&&(true)))))) <|
  Option.bind (cond (decide (a0 < d2.1)) (w1 N (d2.2.getD d2.1.toNat c2.zero) (d2.2.getD (d2.1 - (1:Int)).toNat c2.zero)) (some 0)) fun bD=>
  cond (cond (decide (a0 < d2.1)) (decide (bD < (0:Int))) false) (aw ((bp (d2.1 - (1:Int)))&&((bp (d2.1 - (1:Int)))&&((bl (d2.1 - (1:Int)) d2.2.length)&&((decide ((d2.1 - (1:Int)).toNat < d2.2.length))&&((bl d2.1 d2.2.length)&&((decide (d2.1.toNat < d2.2.length))&&((bl d2.1 d2.2.length)&&(((decide (d2.1.toNat < d2.2.length))&&(true))&&((bl (d2.1 - (1:Int)) (d2.2.set d2.1.toNat (d2.2.getD (d2.1 - (1:Int)).toNat c2.zero)).length)&&(((decide ((d2.1 - (1:Int)).toNat < (d2.2.set d2.1.toNat (d2.2.getD (d2.1 - (1:Int)).toNat c2.zero)).length))&&(true))&&(true))))))))))) <|
  aw ((bp (d2.1 - (1:Int)))&&(true)) <|
  fz ((d2.1 - (1:Int)),((d2.2.set d2.1.toNat (d2.2.getD (d2.1 - (1:Int)).toNat c2.zero)).set (d2.1 - (1:Int)).toNat (d2.2.getD d2.1.toNat c2.zero)))) (some d2.2)
def zT(N:Nat) (a0:Int) (ay:Int):Nat->(Int×(List cH))->Option ((List cH)):=cx fun d1 dG=>
  cond (decide (d1.1 < ay)) (Option.bind (w2 N a0 N (d1.1,d1.2)) fun ch=>
  aw ((bp (d1.1+(1:Int)))&&(true)) <|
  dG ((d1.1+(1:Int)),ch)) (some d1.2)
def uK(N:Nat) (a0:Int) (ay:Int) (a2:List cH):Option ((List cH)):=
  aw ((bp (a0+(1:Int)))&&(true)) <|
  Option.bind (zT N a0 ay N ((a0+(1:Int)),a2)) fun aX=>
  some aX
noncomputable def ad6 (N:Nat):bI bU:=cj N b2 (by kernel_rfl) [.c (.raw (.an 2000000)),.c (.int .i64),.c (.int .i64),.c (.fn 156 [])] [(2000000,.row 200 c2)] ⟨.da [],[(2000000,.row 200 c2)],[]⟩ [ad5 N] [] (.s .d (.b (.eY 0 ⟨[(0,.a (.c (.raw (.an 2000000)))),(8,.a (.c (.int .i64)))],[(2000000,.row 200 c2)],[1,2,3],[]⟩ ⟨[],[(2000000,.row 200 c2)],[],[]⟩ (.s .d (.s (.b (.s .d (.b (.eY 2 ⟨[(0,.a (.c (.raw (.an 2000000)))),(9,.a (.c (.int .i64)))],[(2000000,.row 200 c2)],[1,2,3,8],[]⟩ ⟨[(0,.a (.c (.raw (.an 2000000))))],[(2000000,.row 200 c2)],[1,2,3,8],[]⟩ (.s (.s (.na [9,10,11,12,13] [.t 0 0,.t 1 0,.t 2 0,.t 3 0,.t 4 0,.t 5 0,.t 6 0,.t 7 0,.t 8 3,.t 9 0,.t 10 0,.t 11 0,.t 12 0,.t 13 3,.g 14,.t 15 0,.t 16 0] []) .d) (.s (.b (.na [10,11,12,13] [.t 0 0,.t 1 0,.t 2 0,.t 3 0,.t 4 0,.t 5 0,.t 6 0,.t 7 0,.t 8 0,.t 9 3,.t 10 0,.t 11 0,.t 12 0,.t 13 3,.t 14 0,.s 15,.t 16 0,.s 17] [])) .d)))))) .d))))) [] 214 [] (fun d=>uK N d.1 d.2.1 d.2.2.1) Tryz.func214 rfl rfl Tryz.ntmps214 rfl rfl rfl (fun d=>by kernel_rfl)
def Jp(N:Nat) (a0:Int):Nat->(Int×Int×(List cH))->Option (Int×(List cH)):=cx fun d1 dG=>
  cond (decide (d1.2.1<=a0)) (Option.bind (uK N d1.1 d1.2.1 d1.2.2) fun a1=>
  aw ((bp (d1.2.1+(20:Int)))&&(true)) <|
  dG (d1.2.1,(d1.2.1+(20:Int)),a1)) (some (d1.1,d1.2.2))
def ad7(N:Nat) (a0:Int) (Qm:Int):Nat->Unit->Option (Unit):=cx fun d5 p9=>
  cond (decide (((2:Int) * Qm)<=a0)) (aw ((bp ((0:Int)+Qm))&&(true)) <|
  none) (some ())
def Jq(N:Nat) (a0:Int):Nat->Int->Option (Unit):=cx fun d4 lT=>
  cond (decide (d4 < a0)) (aw ((bp ((2:Int) * d4))&&(true)) <|
  Option.bind (ad7 N a0 d4 N ()) fun dz=>
  aw ((bp ((0:Int)+d4))&&(true)) <|
  cond (decide (((0:Int)+d4) < a0)) (none) (aw ((bp (d4 * (2:Int)))&&(true)) <|
  lT (d4 * (2:Int)))) (some ())
def Da(N:Nat) (a0:Int) (ay:List cH):Option ((List cH)):=
  Option.bind (Jp N a0 N ((0:Int),(20:Int),ay)) fun aX=>
  Option.bind (uK N aX.1 a0 aX.2) fun bD=>
  Option.bind (Jq N a0 N (20:Int)) fun e0=>
  some bD
noncomputable def ad8 (N:Nat):bI bU:=cj N b2 (by kernel_rfl) [.c (.raw (.an 2000000)),.c (.int .i64),.c (.fn 156 [])] [(2000000,.row 200 c2)] ⟨.da [],[(2000000,.row 200 c2)],[]⟩ [ad6 N] [] (.s .d (.s .d (.s (.b (.eY 0 ⟨[(0,.a (.c (.raw (.an 2000000)))),(7,.a (.c (.int .i64))),(8,.a (.c (.int .i64)))],[(2000000,.row 200 c2)],[1,2,6],[]⟩ ⟨[(0,.a (.c (.raw (.an 2000000)))),(7,.a (.c (.int .i64)))],[(2000000,.row 200 c2)],[1,2,6],[]⟩ (.s .d (.b (.s (.r [.n 4,.c [(2000000,2000000)]]) .d))))) (.s (.r [.n 4,.c [(2000000,2000000)]]) (.b (.eY 2 ⟨[(0,.a (.c (.raw (.an 2000000)))),(6,.a (.c (.int .i64)))],[],[1,2],[2000000]⟩ ⟨[],[],[],[2000000]⟩ (.s .d (.b (.s .d (.s (.b (.eY 4 ⟨[(0,.a (.c (.raw (.an 2000000))))],[],[1,2,6,7,8],[2000000]⟩ ⟨[(0,.a (.c (.raw (.an 2000000))))],[],[1,2,6,7],[2000000]⟩ .d)) .d)))))))))) [] 194 [] (fun d=>Da N d.1 d.2.1) Tryz.func194 rfl rfl Tryz.ntmps194 rfl rfl rfl (fun d=>by kernel_rfl)
def uL(N:Nat) (a0:List cH):Option ((List cH)):=
  Option.bind (Da N (a0.length:Int) a0) fun aH=>
  some aH
noncomputable def ad9 (N:Nat):bI bU:=cj N b2 (by kernel_rfl) [.c (.raw (.an 2000000)),.c (.fn 156 [])] [(2000000,.row 200 c2)] ⟨.da [],[(2000000,.row 200 c2)],[]⟩ [ad8 N] [] (.r [.n 4,.c [(2000000,2000000)]]) [] 155 [] (fun d=>uL N d.1) Tryz.func155 rfl rfl Tryz.ntmps155 rfl rfl rfl (fun d=>by kernel_rfl)
def Db(N:Nat) (a0:(List cH)):Option ((List cH)×Nat):=
  aw (((decide (0<=(a0.length:Int)))&&(decide ((a0.length:Int)<=(a0.length:Int)))&&(gw 40 (a0.length:Int)))&&(true)) <|
  aw ((Nat.beq a0.length (List.replicate (a0.length:Int).toNat (c2.zero:cH)).length)&&(true)) <|
  some (a0,(a0.length:Int).toNat)
noncomputable def aea (N:Nat):bI bU:=cj N b2 (by kernel_rfl) [.c (.bn c2)] [] ⟨.a (.c (.jT c2)),[],[]⟩ [] [] (.s .d (.s .d (.s .d (.s .d (.t [.di 6]))))) [.tmp 2] 157 ([],0) (fun d=>Db N d.1) Tryz.func157 rfl rfl Tryz.ntmps157 rfl rfl rfl (fun d=>by kernel_rfl)
def sG(N:Nat) (a0:il) (ay:Int):Option ((List cH)×Nat×Int):=
  Option.bind (w0 N a0 ay) fun aH=>
  cond (!(decide (aH=(0:Int)))) (some (([]:List cH),0,aH)) (Option.bind (uF N a0) fun a1=>
  aw (((decide ((0:Int)<=a1))&&(gw 40 a1))&&(true)) <|
  Option.bind (uJ N (0:Int) a0.1 ay ([]:List cH)) fun bD=>
  Option.bind (uJ N (1:Int) a0.2 ay bD) fun cq=>
  Option.bind (uL N cq) fun bX=>
  Option.bind (Db N bX) fun cy=>
  some (cy.1,cy.2,(0:Int)))
noncomputable def Qn (N:Nat):bI bU:=cj N b2 (by kernel_rfl) [.c9 fy,.c (.int .i64)] [] ⟨.da [.c (.jT c2),.c (.int .i64)],[],[]⟩ [ad3 N,P9 N,ad4 N,ad9 N,aea N] [] (.s (.r [.n 4,.w (.ca 2 fy),.w (.ca 3 (.int .i64))]) (.s .d (.s .d (.s .d (.s (.r [.n 3,.c [(1000000,7),(1000001,17)]]) (.s (.r [.n 3,.c [(1000000,7),(1000001,17)]]) (.s (.r [.n 1,.c [(2000000,17)]]) (.s (.r [.n 1,.w (.di 17)]) .d)))))))) [.tmp 4,.tmp 5] 126 ([],0,0) (fun d=>sG N d.1 d.2.1) Tryz.func126 rfl rfl Tryz.ntmps126 rfl rfl rfl (fun d=>by kernel_rfl)
def Dc(N:Nat) (a0:(List c1)):Option ((List c1)×Nat):=
  aw (((decide (0<=(a0.length:Int)))&&(decide ((a0.length:Int)<=(a0.length:Int)))&&(gw 24 (a0.length:Int)))&&(true)) <|
  aw ((Nat.beq a0.length (List.replicate (a0.length:Int).toNat (eb.zero:c1)).length)&&(true)) <|
  some (a0,(a0.length:Int).toNat)
noncomputable def aeb (N:Nat):bI bU:=cj N b2 (by kernel_rfl) [.c (.bn eb)] [] ⟨.a (.c (.jT eb)),[],[]⟩ [] [] (.s .d (.s .d (.s .d (.s .d (.t [.di 6]))))) [.tmp 2] 196 ([],0) (fun d=>Dc N d.1) Tryz.func196 rfl rfl Tryz.ntmps196 rfl rfl rfl (fun d=>by kernel_rfl)
def uM(N:Nat) (a0:(List cH)) (aX:Int×Int×Int):Nat->(Int×(List c1))->Option ((List c1)):=cx fun d2 fz=>
  cond (decide (d2.1 < (a0.length:Int))) (aw ((bl d2.1 a0.length)&&(true)) <|
  cond (cond (decide (aX.1 < (a0.getD d2.1.toNat c2.zero).2.2)) (decide ((a0.getD d2.1.toNat c2.zero).2.2 < aX.2.1)) false) (aw ((en 24 (d2.2.length+[((a0.getD d2.1.toNat c2.zero).1,((decide ((a0.getD d2.1.toNat c2.zero).2.1.1=(1:Int))),aX.2.2))].length))&&(true)) <|
  aw ((bp (d2.1+(1:Int)))&&(true)) <|
  fz ((d2.1+(1:Int)),(d2.2++[((a0.getD d2.1.toNat c2.zero).1,((decide ((a0.getD d2.1.toNat c2.zero).2.1.1=(1:Int))),aX.2.2))]))) (aw ((bp (d2.1+(1:Int)))&&(true)) <|
  fz ((d2.1+(1:Int)),d2.2))) (some d2.2)
def qa(N:Nat) (a0:(List cH)) (ay:Int) (a2:Int):Option ((List c1)×Nat):=
  Option.bind (cond (decide (ay < a2)) (some (ay,a2,(1:Int))) (some (a2,ay,(0:Int)))) fun aX=>
  Option.bind (uM N a0 aX N ((0:Int),([]:List c1))) fun ch=>
  Option.bind (cond (decide (aX.2.2=(0:Int))) (Option.bind (zw N ch) fun cq=>
  some cq) (some ch)) fun cg=>
  Option.bind (Dc N cg) fun bX=>
  some (bX.1,bX.2)
noncomputable def aec (N:Nat):bI bU:=cj N b2 (by kernel_rfl) [.c (.bn c2),.c (.int .i64),.c (.int .i64)] [] ⟨.a (.c (.jT eb)),[],[]⟩ [acL N,aeb N] [] (.s .d (.s .d (.j ⟨[(7,.a (.c (.int .i64))),(8,.a (.c (.int .i64))),(9,.a (.c (.int .u8)))],[],[0],[]⟩ .d (.s (.r [.n 1,.w (.nil 10 10 116 eb)]) (.s (.s .d (.b (.eY 0 ⟨[(10,.a (.c (.raw (.an 10)))),(22,.a (.c (.int .i64)))],[(10,.row 116 eb)],[7,8,9,20,21],[]⟩ ⟨[(10,.a (.c (.raw (.an 10))))],[(10,.row 116 eb)],[9],[]⟩ (.s .d (.s .d (.s (.b (.s (.r [.n 4,.w (.ca 12 c2)]) .d)) .d)))))) (.j ⟨[(10,.a (.c (.raw (.an 10))))],[(10,.row 116 eb)],[],[]⟩ (.s .d (.c (.r [.n 1,.c [(2000000,10)]]) .d)) (.s (.r [.n 1,.w (.di 10)]) .d))))))) [.tmp 6] 161 ([],0) (fun d=>qa N d.1 d.2.1 d.2.2.1) Tryz.func161 rfl rfl Tryz.ntmps161 rfl rfl rfl (fun d=>by kernel_rfl)
end
section
open Go.RowKit
def sH(N:Nat) (a0:(List al)):Option ((List al)×Nat):=
  aw (((decide (0<=(a0.length:Int)))&&(decide ((a0.length:Int)<=(a0.length:Int)))&&(gw 16 (a0.length:Int)))&&(true)) <|
  aw ((Nat.beq a0.length (List.replicate (a0.length:Int).toNat (aK.zero:al)).length)&&(true)) <|
  some (a0,(a0.length:Int).toNat)
noncomputable def Jr (N:Nat):bI bU:=cj N b2 (by kernel_rfl) [.c (.bn aK)] [] ⟨.a (.c (.jT aK)),[],[]⟩ [] [] (.s .d (.s .d (.s .d (.s .d (.t [.di 6]))))) [.tmp 2] 42 ([],0) (fun d=>sH N d.1) Tryz.func42 rfl rfl Tryz.ntmps42 rfl rfl rfl (fun d=>by kernel_rfl)
def pr(N:Nat) (a0:il) (ay:al):Option ((List al)×Nat):=
  Option.bind (kP N ay) fun aH=>
  cond (!(decide (aH=(0:Int)))) (some (([]:List al),0)) (Option.bind (cond (decide (ay.1=(1:Int))) (some a0.2) (some a0.1)) fun ch=>
  cond (decide ((ch.length:Int) < ay.2)) (some (([]:List al),0)) (aw ((bp (ay.2 - (1:Int)))&&((bl (ay.2 - (1:Int)) ch.length)&&(true))) <|
  Option.bind (sH N (ch.getD (ay.2 - (1:Int)).toNat [])) fun bD=>
  some (bD.1,bD.2)))
noncomputable def Dd (N:Nat):bI bU:=cj N b2 (by kernel_rfl) [.c9 fy,.c9 aK] [] ⟨.a (.c (.jT aK)),[],[]⟩ [uI N,Jr N] [] (.s (.r [.n 3,.w (.ca 2 fy),.w (.ca 3 aK)]) (.s .d (.s .d (.j ⟨[(5,.a (.c (.bn (.an aK))))],[],[3],[]⟩ .d .d)))) [.tmp 4] 12 ([],0) (fun d=>pr N d.1 d.2.1) Tryz.func12 rfl rfl Tryz.ntmps12 rfl rfl rfl (fun d=>by kernel_rfl)
def zU(N:Nat) (a0:(List (List al))):Nat->Int->Option (Int):=cx fun d1 dG=>
  aw ((ez (decide ((0:Int) < d1)) (bp (d1 - (1:Int))))&&((ez (decide ((0:Int) < d1)) (bl (d1 - (1:Int)) a0.length))&&(true))) <|
  cond (cond (decide ((0:Int) < d1)) (decide (((a0.getD (d1 - (1:Int)).toNat []).length:Int)=(0:Int))) false) (aw ((bp (d1 - (1:Int)))&&(true)) <|
  dG (d1 - (1:Int))) (some d1)
def sI(N:Nat) (a0:(List (List al))):Option (Int):=
  Option.bind (zU N a0 N (a0.length:Int)) fun aX=>
  some aX
noncomputable def Qo (N:Nat):bI bU:=cj N b2 (by kernel_rfl) [.c (.bn (.an aK))] [] ⟨.a (.c (.int .i64)),[],[]⟩ [] [] (.s .d (.s .d (.s (.b (.eY 0 ⟨[(3,.a (.c (.int .i64)))],[],[0],[]⟩ ⟨[(3,.a (.c (.int .i64)))],[],[],[]⟩ .d)) .d))) [.tmp 2] 47 0 (fun d=>sI N d.1) Tryz.func47 rfl rfl Tryz.ntmps47 rfl rfl rfl (fun d=>by kernel_rfl)
def De(N:Nat) (a0:(List (List al))):Option ((List (List al))):=
  aw (((decide (0<=(a0.length:Int)))&&(decide ((a0.length:Int)<=(a0.length:Int)))&&(gw 24 (a0.length:Int)))&&(true)) <|
  aw ((Nat.beq a0.length (List.replicate (a0.length:Int).toNat ([]:(List al))).length)&&(true)) <|
  some a0
noncomputable def aed (N:Nat):bI bU:=cj N b2 (by kernel_rfl) [.c (.bn (.an aK))] [] ⟨.a (.c (.raw (.an 6))),[(6,.row 34 (.an aK))],[]⟩ [] [] (.d) [.tmp 2] 216 [] (fun d=>De N d.1) Tryz.func216 rfl rfl Tryz.ntmps216 rfl rfl rfl (fun d=>by kernel_rfl)
def Js(N:Nat) (bD:(List (List al))):Nat->(Int×(List (List al)))->Option ((List (List al))):=cx fun d4 lT=>
  cond (decide (d4.1 < (bD.length:Int))) (aw ((bl d4.1 d4.2.length)&&((decide (d4.1.toNat < d4.2.length))&&(true))) <|
  Option.bind (sH N (d4.2.getD d4.1.toNat [])) fun bX=>
  aw ((bl d4.1 d4.2.length)&&(((decide (d4.1.toNat < d4.2.length))&&(true))&&(true))) <|
  aw ((bp (d4.1+(1:Int)))&&(true)) <|
  lT ((d4.1+(1:Int)),(d4.2.set d4.1.toNat bX.1))) (some d4.2)
def nV(N:Nat) (a0:(List (List al))) (ay:Int) (a2:(List al)):Option ((List (List al))):=
  aw (((decide (0<=(if (a0.length:Int) < ay then ay else(a0.length:Int))))&&(decide ((if (a0.length:Int) < ay then ay else(a0.length:Int))<=(if (a0.length:Int) < ay then ay else(a0.length:Int))))&&(gw 24 (if (a0.length:Int) < ay then ay else(a0.length:Int))))&&(true)) <|
  aw ((decide (a0.length<=(List.replicate (if (a0.length:Int) < ay then ay else(a0.length:Int)).toNat ([]:(List al))).length))&&(true)) <|
  Option.bind (cond (decide ((0:Int) < ay)) (aw ((bp (ay - (1:Int)))&&((bl (ay - (1:Int)) (a0++(List.replicate (if (a0.length:Int) < ay then ay else(a0.length:Int)).toNat ([]:(List al))).drop a0.length).length)&&(((decide ((ay - (1:Int)).toNat < (a0++(List.replicate (if (a0.length:Int) < ay then ay else(a0.length:Int)).toNat ([]:(List al))).drop a0.length).length))&&(true))&&(true)))) <|
  some ((a0++(List.replicate (if (a0.length:Int) < ay then ay else(a0.length:Int)).toNat ([]:(List al))).drop a0.length).set (ay - (1:Int)).toNat a2)) (some (a0++(List.replicate (if (a0.length:Int) < ay then ay else(a0.length:Int)).toNat ([]:(List al))).drop a0.length))) fun aX=>
  Option.bind (sI N aX) fun a1=>
  aw (((decide (0<=a1))&&(decide (a1<=(aX.length:Int))))&&(true)) <|
  Option.bind (De N (aX.take a1.toNat)) fun bD=>
  Option.bind (Js N bD N ((0:Int),bD)) fun e0=>
  some e0
noncomputable def aee (N:Nat):bI bU:=cj N b2 (by kernel_rfl) [.c (.bn (.an aK)),.c (.int .i64),.c (.bn aK)] [] ⟨.a (.c (.bn (.an aK))),[],[]⟩ [Qo N,aed N,Jr N] [] (.s .d (.s .d (.s (.r [.n 2,.t .rG]) (.j ⟨[(7,.a (.c (.raw (.an 14))))],[(14,.row 34 (.an aK))],[],[]⟩ .d (.s (.r [.n 2,.w (.di 14),.n 2,.c [(6,29)]]) (.s (.s .d (.b (.eY 0 ⟨[(7,.a (.c (.raw (.an 29)))),(30,.a (.c (.raw (.an 29)))),(32,.a (.c (.int .i64)))],[(29,.row 34 (.an aK))],[31],[]⟩ ⟨[(7,.a (.c (.raw (.an 29))))],[(29,.row 34 (.an aK))],[],[]⟩ .d))) (.s .d (.t [.di 29])))))))) [.tmp 6] 200 [] (fun d=>nV N d.1 d.2.1 d.2.2.1) Tryz.func200 rfl rfl Tryz.ntmps200 rfl rfl rfl (fun d=>by kernel_rfl)
def oF(N:Nat) (a0:il) (ay:al) (a2:(List al)):Option (il):=
  cond (decide (ay.1=(0:Int))) (Option.bind (nV N a0.1 ay.2 a2) fun aH=>
  Option.bind (nV N a0.2 (0:Int) ([]:List al)) fun a1=>
  some (aH,a1)) (Option.bind (nV N a0.1 (0:Int) ([]:List al)) fun bD=>
  Option.bind (nV N a0.2 ay.2 a2) fun cq=>
  some (bD,cq))
noncomputable def Qp (N:Nat):bI bU:=cj N b2 (by kernel_rfl) [.c9 fy,.c9 aK,.c (.bn aK)] [] ⟨.a (.c9 fy),[],[]⟩ [aee N] [] (.s (.r [.n 3,.w (.ca 3 fy),.w (.ca 4 aK)]) (.s (.s .d (.c (.s (.o [] [.t 0 0,.t 1 1,.t 2 0,.t 3 1,.t 4 0,.t 6 0,.t 7 1,.c 5 [],.c 8 [],.t 9 0,.s 10] []) .d) .d)) (.s (.o [] [.t 0 0,.t 1 1,.t 3 0,.t 4 1,.t 5 0,.t 6 1,.t 7 0,.c 2 [],.c 8 [],.t 9 0,.s 10] []) .d))) [.cell 6 29] 162 fy.zero (fun d=>oF N d.1 d.2.1 d.2.2.1) Tryz.func162 rfl rfl Tryz.ntmps162 rfl rfl rfl (fun d=>by kernel_rfl)
def zV(N:Nat) (a2:(List al)):Nat->Int->Option ((Unit)⊕(il×Int)):=cx fun d3 gO=>
  cond (decide (d3 < (a2.length:Int))) (aw ((bl d3 a2.length)&&(true)) <|
  Option.bind (wO N (a2.getD d3.toNat aK.zero)) fun cq=>
  cond (!cq) (some (.inr ((([]:List (List al)),([]:List (List al))),(1:Int)))) (aw ((bp (d3+(1:Int)))&&(true)) <|
  gO (d3+(1:Int)))) (some (.inl ()))
def w3(N:Nat) (qb:(al×(List al)×Unit)):Nat->(Int×(List (al×Bool)))->Option (Int×Bool×(List (al×Bool))):=cx fun d7 uG=>
  cond (decide (d7.1 < (qb.2.1.length:Int))) (aw ((bl d7.1 qb.2.1.length)&&(true)) <|
  aw ((true&&true)&&(true)) <|
  aw ((bp (d7.1+(1:Int)))&&(true)) <|
  uG ((d7.1+(1:Int)),(eD aK .bool d7.2 (qb.2.1.getD d7.1.toNat aK.zero) true))) (some (d7.1,(decide (d7.1 < (qb.2.1.length:Int))),d7.2))
def zW(N:Nat) (a2:(List al)):Nat->(Int×(List (al×Bool)))->Option ((Unit)⊕(il×Int)):=cx fun d8 I1=>
  cond (decide (d8.1 < (a2.length:Int))) (aw ((bl d8.1 a2.length)&&(true)) <|
  cond ((cJ aK .bool d8.2 (a2.getD d8.1.toNat aK.zero)).getD false) (some (.inr ((([]:List (List al)),([]:List (List al))),(8:Int)))) (aw ((true&&true)&&(true)) <|
  aw ((bp (d8.1+(1:Int)))&&(true)) <|
  I1 ((d8.1+(1:Int)),(eD aK .bool d8.2 (a2.getD d8.1.toNat aK.zero) true)))) (some (.inl ()))
def lq(N:Nat) (a0:il) (ay:al) (a2:(List al)):Option (il×Int):=
  Option.bind (uH N a0) fun aH=>
  cond (!(decide (aH=(0:Int)))) (some ((([]:List (List al)),([]:List (List al))),aH)) (Option.bind (kP N ay) fun a1=>
  cond (!(decide (a1=(0:Int)))) (some ((([]:List (List al)),([]:List (List al))),(1:Int))) (Option.bind (zV N a2 N (0:Int)) fun(cg:(Unit)⊕(il×Int))=>
  sm cg (fun cg=>
  cond (decide ((4:Int) < (a2.length:Int))) (some ((([]:List (List al)),([]:List (List al))),(9:Int))) (Option.bind (Je N a0) fun bX=>
  Option.bind (uE N true bX) fun aef=>j4 (fun(qb:al×(List al)×Unit) (zX:(List (al×Bool))) (zY:(List (al×Bool))->Option (il×Int))=>
  cond (!(aQ.beq aK qb.1 ay)) (Option.bind (w3 N qb N ((0:Int),zX)) fun kO=>
  zY kO.2.2) (zY zX)) aef ([]:List (al×Bool)) fun hg=>
  Option.bind (zW N a2 N ((0:Int),hg)) fun(sB:(Unit)⊕(il×Int))=>
  sm sB (fun sB=>
  Option.bind (oF N a0 ay a2) fun oD=>
  some (oD,(0:Int))) (fun q=>some q))) (fun q=>some q)))
noncomputable def aeg (N:Nat):bI bU:=cj N b2 (by kernel_rfl) [.c9 fy,.c9 aK,.c (.bn aK)] [] ⟨.da [.c9 fy,.c (.int .i64)],[],[]⟩ [C5 N,uI N,Iz N,P8 N,Qp N] [P7 N] (.s (.r [.n 4,.w (.ca 3 fy),.w (.ca 4 aK)]) (.s .d (.s .d (.s (.s .d (.b (.fw 0 ⟨[(6,.a (.c (.raw (.ptr 6 0)))),(30,.a (.c (.int .i64)))],[],[2,3,4,28,29],[6]⟩ ⟨[(6,.a (.c (.raw (.ptr 6 0))))],[],[2,3,4],[6]⟩ (.s .d (.s .d (.s (.b (.s (.r [.n 4,.w (.ca 10 aK)]) .d)) .d)))))) (.s .d (.s (.r [.t (.mV aK .bool)]) (.s (.s .d (.b (.mX [(6,83),(11,88)] ⟨[],[(43,.mp aK .bool),(88,.cells 193 [.raw (.cp 43)])],[],[83]⟩ (.b (.s .d (.c (.s .d (.b (.eY 4 ⟨[(6,.a (.c (.raw (.ptr 83 0)))),(11,.a (.c (.raw (.ptr 88 0)))),(53,.a (.c (.int .i64)))],[(43,.mp aK .bool),(88,.cells 193 [.raw (.cp 43)])],[2,3,4,12,13,48,49,50,51,52],[83]⟩ ⟨[(6,.a (.c (.raw (.ptr 83 0)))),(11,.a (.c (.raw (.ptr 88 0)))),(53,.a (.c (.int .i64))),(54,.a (.c .bool))],[(43,.mp aK .bool),(88,.cells 193 [.raw (.cp 43)])],[2,3,4,12,13,48,49,50,51,52],[83]⟩ (.s .d (.s .d (.s (.b (.s (.r [.n 4,.w (.ca 15 aK)]) (.r [.n 2,.t .BV]))) .d)))))) .d)))))) (.s (.s .d (.b (.fw 6 ⟨[(6,.a (.c (.raw (.ptr 83 0)))),(11,.a (.c (.raw (.ptr 88 0)))),(62,.a (.c (.int .i64)))],[(43,.mp aK .bool),(88,.cells 193 [.raw (.cp 43)])],[2,3,4,60,61],[83]⟩ ⟨[(6,.a (.c (.raw (.ptr 83 0))))],[],[2,3,4],[83]⟩ (.s .d (.s .d (.s (.b (.s (.r [.n 4,.w (.ca 17 aK)]) (.s (.s (.r [.n 2,.t .yF]) .d) (.r [.n 2,.t .BV])))) .d)))))) .d)))))))) [.cell 6 29,.tmp 7] 136 (fy.zero,0) (fun d=>lq N d.1 d.2.1 d.2.2.1) Tryz.func136 rfl rfl Tryz.ntmps136 rfl rfl rfl (fun d=>by kernel_rfl)
def sJ(N:Nat) (a0:il) (ay:al) (a2:al):Option (il×Int):=
  Option.bind (uH N a0) fun aH=>
  cond (!(decide (aH=(0:Int)))) (some ((([]:List (List al)),([]:List (List al))),aH)) (Option.bind (kP N ay) fun a1=>
  Option.bind (cond (!(!(decide (a1=(0:Int))))) (kP N a2) (some 0)) fun bD=>
  cond (cond (cond (!(decide (a1=(0:Int)))) true (!(decide (bD=(0:Int))))) true (decide (ay.1=a2.1))) (some ((([]:List (List al)),([]:List (List al))),(1:Int))) (Option.bind (pr N a0 ay) fun cq=>
  Option.bind (pr N a0 a2) fun bX=>
  cond (decide ((cq.1.length:Int)=(0:Int))) (some ((([]:List (List al)),([]:List (List al))),(13:Int))) (aw ((bp ((cq.1.length:Int)+(bX.1.length:Int)))&&(true)) <|
  cond (decide ((4:Int) < ((cq.1.length:Int)+(bX.1.length:Int)))) (some ((([]:List (List al)),([]:List (List al))),(9:Int))) (Option.bind (sH N bX.1) fun cy=>
  aw (((en 16 (cy.1.length+cq.1.length))&&(decide (cy.2=cy.1.length)))&&(true)) <|
  Option.bind (cond (decide (ay.1=(1:Int))) (Option.bind (sH N cq.1) fun jk=>
  aw (((en 16 (jk.1.length+bX.1.length))&&(decide (jk.2=jk.1.length)))&&(true)) <|
  some (jk.1++bX.1)) (some (cy.1++cq.1))) fun kO=>
  aw (true) <|
  Option.bind (oF N a0 ay ([]:List al)) fun nQ=>
  Option.bind (oF N nQ a2 kO) fun oG=>
  some (oG,(0:Int))))))
noncomputable def aeh (N:Nat):bI bU:=cj N b2 (by kernel_rfl) [.c9 fy,.c9 aK,.c9 aK] [] ⟨.da [.c9 fy,.c (.int .i64)],[],[]⟩ [C5 N,uI N,Dd N,Jr N,Qp N] [] (.s (.r [.n 5,.w (.ca 3 fy),.w (.ca 4 aK),.w (.ca 5 aK)]) (.s .d (.s .d (.s (.o [] [.t 0 1,.t 1 1,.t 3 1,.t 4 1,.c 2 [],.c 5 [],.t 6 0,.t 7 0] []) (.s .d (.s .d (.s .d (.j ⟨[(6,.a (.c (.raw (.ptr 6 0)))),(11,.a (.c (.raw (.an 61))))],[(61,.fk 102 aK)],[3,4,5],[6]⟩ (.s .d (.c .d (.t [.t (.cU 54 61)]))) (.s (.p [.qM 61] (.o [] [.t 0 1,.t 1 1,.t 3 1,.t 4 0,.c 2 [],.c 5 [],.s 6,.t 7 0] [])) .d))))))))) [.cell 6 29,.tmp 7] 135 (fy.zero,0) (fun d=>sJ N d.1 d.2.1 d.2.2.1) Tryz.func135 rfl rfl Tryz.ntmps135 rfl rfl rfl (fun d=>by kernel_rfl)
end
section
open Go.RowKit
def lW(l:List (List al)):Prop:=∀ s,l.getLast?=some s->s≠[]
theorem w4:lW []:=fun _ h=>by cases h
theorem Df(l:List (List al)) {s:List al} (ak:s≠[]):lW (l++[s]):=by
 intro t aV;rw[List.getLast?_append,List.getLast?_singleton]at aV;cases aV;exact ak
theorem Jt{N:Nat} (bd:0 < N) {l:List (List al)} (h:lW l) (ad:l.length<=40):sI N l=some (l.length:Int):=by
 obtain⟨n,rfl⟩:∃ n,N=n+1:=⟨N - 1,by omega⟩
 have J:zU (n+1) l (n+1) (l.length:Int)=some (l.length:Int):=by
  unfold zU;rw[cx]
  apply T.eq
  by_cases aN:l.length=0
  ·have ln:¬ (0:Int) < (l.length:Int):=by omega
   simp only[bc,Int.reduceEq,Int.reduceLT,Int.reduceLE,reduceCtorEq,ln]
  ·have ln:(0:Int) < (l.length:Int):=by omega
   obtain⟨s,ak⟩:∃ s,l[l.length - 1]?=some s:=⟨_,List.getElem?_eq_getElem (by omega)⟩
   have cu:=h s (by rw[List.getLast?_eq_getElem?]; exact ak);have vb:¬ (s.length:Int)=0:=by
    have:=List.length_pos_iff.2 cu
    omega
   have aC:((l.length:Int) - 1).toNat=l.length - 1:=by omega
   simp only[bc,Int.reduceEq,Int.reduceLT,Int.reduceLE,reduceCtorEq,ln,aC,b8 ak,vb]
   and_intros<;>first | omega | (simp only[bN]; omega) | exact this | trivial
 unfold sI;rw[J,Option.bind_some]
theorem Dg(N:Nat) (l:List al) (h:l.length<=100000):sH N l=some (l,l.length):=by
 unfold sH
 apply T.eq
 simp only[bc,Int.reduceEq,Int.reduceLT,Int.reduceLE,reduceCtorEq,List.length_replicate]
 and_intros<;>first | omega | (simp only[bN]; omega) | exact this | trivial
theorem Ju(N:Nat) (l:List (List al)) (h:l.length<=100000):De N l=some l:=by
 unfold De
 apply T.eq
 simp only[bc,Int.reduceEq,Int.reduceLT,Int.reduceLE,reduceCtorEq,List.length_replicate]
 and_intros<;>first | omega | (simp only[bN]; omega) | exact this | trivial
theorem Jv{N:Nat} (bd:5000 < N) {l:List (List al)} (ad:l.length<=40) (au:∀ s∈l,s.length<=4):Js N l N ((0:Int),l)=some l:=by
 unfold Js;refine e8 (fun k d=>∃ i:Nat,i+k=l.length/\d=((i:Int),l)) _ ?_ N l.length _ (by omega) ⟨0,by omega,rfl⟩;rintro k d rec ⟨i,hi,rfl⟩ bY
 apply T.eq
 by_cases a8:i < l.length
 ·obtain⟨x,aj⟩:∃ x,l[i]?=some x:=⟨_,List.getElem?_eq_getElem a8⟩
  have bg:(i:Int) < (l.length:Int):=by omega
  have Qq:=au x (List.mem_of_getElem? aj);have this:T (rec ((i:Int)+1,l)) (·=l):=⟨_,bY (k - 1) _ (by omega) ⟨i+1,by omega,rfl⟩,rfl⟩
  simp only[bc,Int.reduceEq,Int.reduceLT,Int.reduceLE,reduceCtorEq,bg,b8 aj,bt (Dg N x (by omega)),zu aj]
  and_intros<;>first | omega | (simp only[bN]; omega) | exact this | trivial
 ·have bg:¬ (i:Int) < (l.length:Int):=by omega
  simp only[bc,Int.reduceEq,Int.reduceLT,Int.reduceLE,reduceCtorEq,bg]
def eN(l:List (List al)) (a:Nat) (s:List al):List (List al):=l++List.replicate (a - 1 - l.length) []++[s]
theorem w5{l:List (List al)} {a:Nat} (h:l.length < a) (s:List al):(eN l a s).length=a:=by
 simp only[eN,List.length_append,List.length_replicate,List.length_singleton];omega
theorem Jw(l:List (List al)) (a:Nat) (s:List al):(eN l a s).flatten=l.flatten++s:=by
 have h:∀ n:Nat,(List.replicate n ([]:List al)).flatten=[]:=fun n=>by
  induction n with
  | zero=>rfl
  | succ n bA=>rw[List.replicate_succ,List.flatten_cons,bA]; rfl
 simp only[eN,List.flatten_append,h,List.append_nil,List.flatten_singleton]
theorem Qr{l:List (List al)} {a:Nat} {s t:List al} (h:t∈eN l a s):t∈l\/t=[]\/t=s:=by
 simp only[eN,List.mem_append,List.mem_singleton]at h
 rcases h with(h | h) | h
 ·exact Or.inl h
 ·exact Or.inr (Or.inl (List.eq_of_mem_replicate h))
 ·exact Or.inr (Or.inr h)
theorem fD.put{l:List (List al)} (h:fD l) {a:Nat} (J:l.length < a) (U:a<=40) {s:List al} (ak:s.length<=4) (a6:∀ x∈s,nT x):fD (eN l a s):=by
 refine⟨by rw[w5 J]; exact U,fun t aV=>?_,fun t aV=>?_⟩
 ·rcases Qr aV with aO | aO | aO
  ·exact h.e9 t aO
  ·rw[aO]; exact Nat.zero_le _
  ·rw[aO]; exact ak
 ·rcases Qr aV with aO | aO | aO
  ·exact h.ok t aO
  ·rw[aO]; intro x aj; cases aj
  ·rw[aO]; exact a6
theorem aei(l:List (List al)) (a:Nat) (h:l.length < a) (s:List al):(l++(List.replicate a ([]:List al)).drop l.length).set (a - 1) s=eN l a s:=by
 have e:(List.replicate a ([]:List al)).drop l.length=List.replicate (a - 1 - l.length) []++[[]]:=by
  rw[List.drop_replicate,<- List.replicate_succ',show a - 1 - l.length+1=a - l.length by omega]
 rw[e,<- List.append_assoc];rw[List.set_append_right _ _ (by simp; omega)];have aW:a - 1 - (l++List.replicate (a - 1 - l.length) ([]:List al)).length=0:=by simp; omega
 rw[aW]
 rfl
theorem aej{N:Nat} (bd:5000 < N) {l:List (List al)} (h:fD l) {a:Nat} (J:l.length < a) (U:a<=40) {s:List al} (ak:s.length<=4) (aN:s≠[]) (a6:∀ x∈s,nT x):nV N l (a:Int) s=some (eN l a s):=by
 have aB:=h.put J U ak a6;have hlen:=w5 J s;have uN:(if (l.length:Int) < (a:Int)then(a:Int)else(l.length:Int))=(a:Int):=if_pos (by omega);have pc:(l++(List.replicate a ([]:List al)).drop l.length).length=a:=by
  rw[List.length_append,List.length_drop,List.length_replicate];omega
 have dN:=Jt (N:=N) (by omega) (l:=eN l a s) (Df _ aN) aB.len;rw[hlen]at dN;have kV:(0:Int) < (a:Int):=by omega
 have aC:((a:Int) - 1).toNat=a - 1:=by omega
 have aV:(eN l a s).take a=eN l a s:=List.take_of_length_le (by omega);have aa:=Ju N (eN l a s) (by omega);have au:=Jv bd aB.len aB.e9;unfold nV
 apply T.eq
 simp only[uN,bc,Int.reduceEq,Int.reduceLT,Int.reduceLE,reduceCtorEq,List.length_replicate,pc,kV,aC,aei l a J s,bt dN,aV,bt aa,bt au,hlen]
 and_intros<;>first | omega | (simp only[bN]; omega) | exact this | trivial
theorem Jx{N:Nat} (bd:5000 < N) {l:List (List al)} (h:fD l) (ak:lW l):nV N l (0:Int) []=some l:=by
 have ad:=h.len;have uN:(if (l.length:Int) < (0:Int)then(0:Int)else(l.length:Int))=(l.length:Int):=if_neg (by omega);have av:l++(List.replicate l.length ([]:List al)).drop l.length=l:=by simp
 have dN:=Jt (N:=N) (by omega) ak ad;have aa:=Ju N l (by omega);have au:=Jv bd ad h.e9;unfold nV
 apply T.eq
 simp only[uN,bc,Int.reduceEq,Int.reduceLT,Int.reduceLE,reduceCtorEq,List.length_replicate,av,show ¬ (0:Int) < (0:Int) by omega,bt dN,List.take_length,bt aa,bt au]
 and_intros<;>first | omega | (simp only[bN]; omega) | exact this | trivial
def lr(nd:al):List (al×List al×Unit)->List al
 | []=>[]
 | x :: E=>(if x.1=nd then [] else x.2.1)++lr nd E
theorem Qs{nd:al} (b:Int) (l:List (List al)):∀ i:Nat,(nd.1≠b\/(i:Int)+l.length < nd.2)->lr nd (hy b i l)=l.flatten:=by
 induction l with
 | nil=>intro i _; rfl
 | cons s r bA=>
  intro i h;show(if ((b,(i:Int)+1):al)=nd then [] else s)++lr nd (hy b (i+1) r)=s++r.flatten;rw[List.length_cons]at h;rw[if_neg (fun e=>by rw[<- e]at h; rcases h with h | h; exact h rfl; dsimp only at h; omega),bA (i+1) (by rcases h with h | h; exact Or.inl h; exact Or.inr (by omega))]
theorem Qt(nd:al) (E F:List (al×List al×Unit)):lr nd (E++F)=lr nd E++lr nd F:=by
 induction E with
 | nil=>rfl
 | cons e E bA=>show(if e.1=nd then [] else e.2.1)++lr nd (E++F)=_; rw[bA,<- List.append_assoc]; rfl
theorem aek{N:Nat} (bd:5000 < N) (x:al×List al×Unit) (au:x.2.1.length<=4) (acc:List al) (a7:(acc++x.2.1).Nodup) :
  w3 N x N ((0:Int),gu acc)=some ((x.2.1.length:Int),false,gu (acc++x.2.1)):=by
 unfold w3;refine e8 (fun k d=>∃ j:Nat,j+k=x.2.1.length/\d=((j:Int),gu (acc++x.2.1.take j))) _ ?_ N x.2.1.length _ (by omega) ⟨0,by omega,by simp⟩;rintro k d rec ⟨j,aR,rfl⟩ bY
 apply T.eq
 by_cases a8:j < x.2.1.length
 ·obtain⟨a,bo⟩:∃ a,x.2.1[j]?=some a:=⟨_,List.getElem?_eq_getElem a8⟩
  have bg:(j:Int) < (x.2.1.length:Int):=by omega
  have fN:a ∉ acc++x.2.1.take j:=by
   refine C7 (Q:=x.2.1.drop (j+1)) ?_;have e:acc++x.2.1.take j++a :: x.2.1.drop (j+1)=acc++x.2.1:=by
    conv=>rhs; rw[<- List.take_append_drop j x.2.1,rk bo]
    simp only[List.append_assoc]
   rw[e];exact a7
  have this:T (rec ((j:Int)+1,gu (acc++x.2.1.take j++[a]))) (·=((x.2.1.length:Int),false,gu (acc++x.2.1))):=⟨_,bY (k - 1) _ (by omega) ⟨j+1,by omega,by rw[p8 bo,List.append_assoc]; rfl⟩,rfl⟩
  simp only[bc,Int.reduceEq,Int.reduceLT,Int.reduceLE,reduceCtorEq,bg,b8 bo,C6 _ _ fN]
  and_intros<;>first | omega | (simp only[bN]; omega) | exact this | trivial
 ·have bg:¬ (j:Int) < (x.2.1.length:Int):=by omega
  simp only[bc,Int.reduceEq,Int.reduceLT,Int.reduceLE,reduceCtorEq,bg];rw[List.take_of_length_le (by omega),show j=x.2.1.length by omega]
theorem Qu{N:Nat} (bd:5000 < N) {s:List al} (au:s.length<=4) (acc:List al) (a7:(acc++s).Nodup):zW N s N ((0:Int),gu acc)=some (.inl ()):=by
 unfold zW;refine e8 (fun k d=>∃ j:Nat,j+k=s.length/\d=((j:Int),gu (acc++s.take j))) _ ?_ N s.length _ (by omega) ⟨0,by omega,by simp⟩;rintro k d rec ⟨j,aR,rfl⟩ bY
 apply T.eq
 by_cases a8:j < s.length
 ·obtain⟨a,bo⟩:∃ a,s[j]?=some a:=⟨_,List.getElem?_eq_getElem a8⟩
  have bg:(j:Int) < (s.length:Int):=by omega
  have fN:a ∉ acc++s.take j:=by
   refine C7 (Q:=s.drop (j+1)) ?_;have e:acc++s.take j++a :: s.drop (j+1)=acc++s:=by
    conv=>rhs; rw[<- List.take_append_drop j s,rk bo]
    simp only[List.append_assoc]
   rw[e];exact a7
  have this:T (rec ((j:Int)+1,gu (acc++s.take j++[a]))) (·=.inl ()):=⟨_,bY (k - 1) _ (by omega) ⟨j+1,by omega,by rw[p8 bo,List.append_assoc]; rfl⟩,rfl⟩
  simp only[bc,Int.reduceEq,Int.reduceLT,Int.reduceLE,reduceCtorEq,bg,b8 bo,Jj _ _ fN,C6 _ _ fN,Option.getD_none,Bool.false_eq_true]
  and_intros<;>first | omega | (simp only[bN]; omega) | exact this | trivial
 ·have bg:¬ (j:Int) < (s.length:Int):=by omega
  simp only[bc,Int.reduceEq,Int.reduceLT,Int.reduceLE,reduceCtorEq,bg]
theorem Dh{N:Nat} (bd:5000 < N) (nd:al) {aP:Type} (k:List (al×Bool)->Option aP):∀ (E:List (al×List al×Unit)) (acc:List al),(∀ x∈E,x.2.1.length<=4)->(acc++lr nd E).Nodup ->
  j4 (fun(qb:al×List al×Unit) (zX:List (al×Bool)) (zY:List (al×Bool)->Option aP)=>
   cond (!(aQ.beq aK qb.1 nd)) (Option.bind (w3 N qb N ((0:Int),zX)) fun kO=>zY kO.2.2) (zY zX)) E (gu acc) k=k (gu (acc++lr nd E))
 | [],acc,_,_=>by
  show k (gu acc)=k (gu (acc++[]));rw[List.append_nil]
 | x :: E,acc,au,a7=>by
  have fR:=fun y aT=>au y (List.mem_cons_of_mem _ aT)
  show cond (!(aQ.beq aK x.1 nd)) (Option.bind (w3 N x N ((0:Int),gu acc)) fun kO=>j4 _ E kO.2.2 k) (j4 _ E (gu acc) k)=_;rw[Ji];unfold lr at a7 ⊢
  by_cases e:x.1=nd
  ·rw[if_pos e,List.nil_append]at a7 ⊢
   rw[decide_eq_true e];exact Dh bd nd k E acc fR a7
  ·rw[if_neg e]at a7 ⊢
   rw[<- List.append_assoc]at a7 ⊢;rw[decide_eq_false e];show Option.bind (w3 N x N ((0:Int),gu acc)) _=_;rw[aek bd x (au x List.mem_cons_self) acc (List.nodup_append.1 a7).1,Option.bind_some];exact Dh bd nd k E _ fR a7
theorem Di{b:Int} {l:List (List al)} (h:∀ s∈l,s.length<=4):∀ (i:Nat),∀ x∈hy b i l,x.2.1.length<=4:=by
 induction l with
 | nil=>intro i x aj; cases aj
 | cons s r bA=>
  intro i x aj
  rcases List.mem_cons.1 aj with rfl | aj
  ·exact h s List.mem_cons_self
  ·exact bA (fun t aV=>h t (List.mem_cons_of_mem _ aV)) (i+1) x aj
theorem pt(N:Nat) {nd:al} (h:(nd.1=0\/nd.1=1)/\1<=nd.2/\nd.2<=40):kP N nd=some 0:=by
 obtain⟨J,U,ah⟩:=h;unfold kP
 apply T.eq
 rcases J with J | J<;>simp only[bc,Int.reduceEq,Int.reduceLT,Int.reduceLE,reduceCtorEq,J,show ¬ nd.2 < 1 by omega,show ¬ 40 < nd.2 by omega]
theorem Qv{N:Nat} (bd:5000 < N) {s:List al} (au:s.length<=4) (a6:∀ a∈s,nT a):zV N s N (0:Int)=some (.inl ()):=by
 unfold zV;refine e8 (fun k d=>∃ j:Nat,j+k=s.length/\d=(j:Int)) _ ?_ N s.length _ (by omega) ⟨0,by omega,rfl⟩;rintro k d rec ⟨j,aR,rfl⟩ bY
 apply T.eq
 by_cases a8:j < s.length
 ·obtain⟨x,aj⟩:∃ x,s[j]?=some x:=⟨_,List.getElem?_eq_getElem a8⟩
  have bg:(j:Int) < (s.length:Int):=by omega
  have this:T (rec ((j:Int)+1)) (·=.inl ()):=⟨_,bY (k - 1) _ (by omega) ⟨j+1,by omega,rfl⟩,rfl⟩
  simp only[bc,Int.reduceEq,Int.reduceLT,Int.reduceLE,reduceCtorEq,bg,b8 aj,bt (Jc N (a6 x (List.mem_of_getElem? aj)))]
  and_intros<;>first | omega | (simp only[bN]; omega) | exact this | trivial
 ·have bg:¬ (j:Int) < (s.length:Int):=by omega
  simp only[bc,Int.reduceEq,Int.reduceLT,Int.reduceLE,reduceCtorEq,bg]
theorem Qw{N:Nat} (bd:5000 < N) {f g:List (List al)} (aA:fD f) (aL:fD g) (ael:lW g) {a:Nat} (J:f.length < a) (U:a<=40) {s:List al} (ak:s.length<=4) (aN:s≠[]) (a6:∀ x∈s,nT x)
  (a7:(f.flatten++g.flatten++s).Nodup) (aa:f.flatten.length+g.flatten.length<=100000):lq N (f,g) ((0:Int),(a:Int)) s=some ((eN f a s,g),0):=by
 have qT:=(List.nodup_append.1 a7).1;have mQ:lr ((0:Int),(a:Int)) (hy 0 0 f++(hy 1 0 g++[]))=f.flatten++g.flatten:=by
  rw[List.append_nil,Qt,Qs 0 f 0 (Or.inr (by dsimp only; omega)),Qs 1 g 0 (Or.inl (by dsimp only; decide))]
 have az:=fun {aP:Type} (k:List (al×Bool)->Option aP)=>Dh bd ((0:Int),(a:Int)) k (hy 0 0 f++(hy 1 0 g++[])) [] (by
  intro x aj
  rcases List.mem_append.1 aj with aj | aj
  ·exact Di aA.e9 0 x aj
  ·rw[List.append_nil]at aj
   exact Di aL.e9 0 x aj) (by rw[mQ]; exact qT)
 have gx:oF N (f,g) ((0:Int),(a:Int)) s=some (eN f a s,g):=by
  unfold oF;show Option.bind (nV N f (a:Int) s) _=_;rw[aej bd aA J U ak aN a6,Option.bind_some];show Option.bind (nV N g (0:Int) []) _=_;rw[Jx bd aL ael,Option.bind_some]
 unfold lq;rw[wV bd aA aL qT aa,Option.bind_some];show Option.bind (kP N ((0:Int),(a:Int))) _=_;rw[pt N ⟨Or.inl rfl,by dsimp only; omega,by dsimp only; omega⟩,Option.bind_some];show Option.bind (zV N s N (0:Int)) _=_;rw[Qv bd ak a6,Option.bind_some];show cond (decide ((4:Int) < (s.length:Int))) _ (Option.bind (uE N true (f,g)) _)=_;rw[decide_eq_false (by omega),cond_false,Jk bd aA.len aL.len,Option.bind_some];refine(az _).trans ?_;rw[List.nil_append,mQ];show Option.bind (zW N s N ((0:Int),gu (f.flatten++g.flatten))) _=_;rw[Qu bd ak _ a7,Option.bind_some];show Option.bind (oF N (f,g) ((0:Int),(a:Int)) s) _=_;rw[gx,Option.bind_some]
end
section
open Go.RowKit
def w6(N:Nat) :Option (ko):=
  Option.bind (CL N) fun aH=>
  some ((0:Int),((([]:List (List al)),([]:List (List al))),((List.replicate (6:Int).toNat (b7.zero:cb)),((aH.2.2.2.map (·.2)),(aH.1,(aH.2.1,aH.2.2.1))))))
noncomputable def Dj (N:Nat) :Option (ko):=
  eV (Option.bind (CL N) fun aH=>
  some ((0:Int),((([]:List (List al)),([]:List (List al))),((List.replicate (6:Int).toNat (b7.zero:cb)),((aH.2.2.2.map (·.2)),(aH.1,(aH.2.1,aH.2.2.1))))))) (Option.bind (CL N) fun aH=>
  some ((0:Int),((([]:List (List al)),([]:List (List al))),((List.replicate (6:Int).toNat (b7.zero:cb)),((aH.2.2.2.map (·.2)),(aH.1,(aH.2.1,aH.2.2.1)))))))
theorem aem:Dj=w6:=by
 unfold Dj w6;simp only[nI]
noncomputable def aen (N:Nat):bI bU:=nO N b2 (by kernel_rfl) [] [] ⟨.a (.c9 kM),[],[]⟩ [acT N] [] (.s .d (.s (.hk [] [] (.b [] 0 1 [] [(1,2)] none none (.f [.c 1 [(1,2)],.t 2 0,.s 3]) (.f [.s 0,.t 2 0,.s 3])) [] false) (.t [.di 1,.t (.di 2)]))) [.cell 0 38] 19 kM.zero (fun d=>Dj N ) (fun d=>w6 N ) (fun d=>(by rw[aem]:Dj N =w6 N )) Tryz.func19 rfl rfl Tryz.ntmps19 rfl rfl rfl (fun d=>by kernel_rfl)
def w7(N:Nat) (aH:(List cH)×Nat×Int):Nat->(Int×(List al))->Option ((List al)):=cx fun d2 fz=>
  cond (decide (d2.1 < (aH.1.length:Int))) (aw ((bl d2.1 aH.1.length)&&(true)) <|
  aw ((bl d2.1 d2.2.length)&&(((decide (d2.1.toNat < d2.2.length))&&(true))&&(true))) <|
  aw ((bp (d2.1+(1:Int)))&&(true)) <|
  fz ((d2.1+(1:Int)),(d2.2.set d2.1.toNat (aH.1.getD d2.1.toNat c2.zero).1))) (some d2.2)
def qr(N:Nat) (a0:il) (ay:Int):Option ((List al)):=
  Option.bind (sG N a0 ay) fun aH=>
  aw (((decide (0<=(aH.1.length:Int)))&&(decide ((aH.1.length:Int)<=(aH.1.length:Int)))&&(gw 16 (aH.1.length:Int)))&&(true)) <|
  Option.bind (w7 N aH N ((0:Int),(List.replicate (aH.1.length:Int).toNat (aK.zero:al)))) fun ch=>
  some ch
noncomputable def Qx (N:Nat):bI bU:=cj N b2 (by kernel_rfl) [.c9 fy,.c (.int .i64)] [] ⟨.a (.c (.bn aK)),[],[]⟩ [Qn N] [] (.s (.r [.n 2,.w (.ca 2 fy)]) (.s .d (.s .d (.s (.s .d (.b (.eY 0 ⟨[(7,.a (.c (.raw (.an 18)))),(21,.a (.c (.int .i64)))],[(18,.row 102 aK)],[19,20],[]⟩ ⟨[(7,.a (.c (.raw (.an 18))))],[(18,.row 102 aK)],[],[]⟩ (.s .d (.s .d (.s (.b (.s (.r [.n 6,.w (.ca 9 c2)]) .d)) .d)))))) (.s .d (.t [.di 18])))))) [.tmp 4] 89 [] (fun d=>qr N d.1 d.2.1) Tryz.func89 rfl rfl Tryz.ntmps89 rfl rfl rfl (fun d=>by kernel_rfl)
def Jy(N:Nat) (a0:ko):Nat->Int->Option ((Unit)⊕(Int)):=cx fun d2 fz=>
  cond (decide (d2 < (a0.2.2.1.length:Int))) (aw ((bl d2 a0.2.2.1.length)&&(true)) <|
  Option.bind (re N (a0.2.2.1.getD d2.toNat b7.zero)) fun bD=>
  cond (!(decide (bD=(0:Int)))) (some (.inr bD)) (aw ((bp (d2+(1:Int)))&&(true)) <|
  fz (d2+(1:Int)))) (some (.inl ()))
def Jz(N:Nat) (a0:ko):Nat->Int->Option ((Unit)⊕(Int)):=cx fun d7 uG=>
  cond (decide (d7 < (a0.2.2.1.length:Int))) (aw ((bl d7 a0.2.2.1.length)&&(true)) <|
  aw ((bl d7 a0.2.2.2.1.length)&&(true)) <|
  cond (!(decide ((a0.2.2.1.getD d7.toNat b7.zero).2.2.1=((a0.2.2.2.1.getD d7.toNat []).length:Int)))) (some (.inr (6:Int))) (aw ((bp (d7+(1:Int)))&&(true)) <|
  uG (d7+(1:Int)))) (some (.inl ()))
def zZ(N:Nat) (a0:ko):Option (Int):=
  cond (cond (decide (a0.1 < (-4:Int))) true (decide ((4:Int) < a0.1))) (some (11:Int)) (Option.bind (uH N a0.2.1) fun aH=>
  cond (!(decide (aH=(0:Int)))) (some aH) (cond (!(decide ((a0.2.2.1.length:Int)=(6:Int)))) (some (5:Int)) (Option.bind (Jy N a0 N (0:Int)) fun(ch:(Unit)⊕(Int))=>
  sm ch (fun ch=>
  Option.bind (CV N a0.2.2.2) fun cq=>
  cond (!(decide (cq=(0:Int)))) (some cq) (Option.bind (qr N a0.2.1 a0.1) fun bX=>
  Option.bind (p5 N a0.2.2.2.2.2.1 bX) fun cy=>
  cond (!cy) (some (6:Int)) (Option.bind (Jz N a0 N (0:Int)) fun(kO:(Unit)⊕(Int))=>
  sm kO (fun kO=>
  some (0:Int)) (fun q=>some q)))) (fun q=>some q))))
noncomputable def aeo (N:Nat):bI bU:=cj N b2 (by kernel_rfl) [.c9 kM] [] ⟨.a (.c (.int .i64)),[],[]⟩ [C5 N,zA N,adk N,Qx N,CW N] [] (.s (.r [.n 2,.w (.ca 1 kM)]) (.s .d (.s .d (.s .d (.s (.s .d (.b (.fw 0 ⟨[(31,.a (.c (.int .i64)))],[],[1,29,30],[]⟩ ⟨[],[],[1],[]⟩ (.s .d (.s .d (.s (.b (.s (.r [.n 4,.w (.ca 5 b7)]) .d)) .d)))))) (.s .d (.s (.s (.o [] [.t 0 0,.t 1 0,.t 2 1,.t 3 0,.t 4 1,.t 5 0,.t 6 1,.c 7 [],.c 8 [],.t 9 0] []) .d) (.s (.s .d (.b (.fw 2 ⟨[(60,.a (.c (.int .i64)))],[],[1,58,59],[]⟩ ⟨[],[],[],[]⟩ (.s .d (.s .d (.s (.b (.s (.r [.n 6,.w (.ca 9 b7)]) (.s (.o [] [.t 0 0,.t 1 1,.t 2 0,.t 3 0,.t 4 1,.t 5 0,.t 6 0,.t 7 1,.t 8 0,.t 9 0] []) .d))) .d)))))) .d)))))))) [.tmp 2] 36 0 (fun d=>zZ N d.1) Tryz.func36 rfl rfl Tryz.ntmps36 rfl rfl rfl (fun d=>by kernel_rfl)
def qc(N:Nat) (a0:(List al)):Option ((List al)×Nat):=
  aw (((decide (0<=(a0.length:Int)))&&(decide ((a0.length:Int)<=(a0.length:Int)))&&(gw 16 (a0.length:Int)))&&(true)) <|
  aw ((Nat.beq a0.length (List.replicate (a0.length:Int).toNat (aK.zero:al)).length)&&(true)) <|
  some (a0,(a0.length:Int).toNat)
noncomputable def JA (N:Nat):bI bU:=cj N b2 (by kernel_rfl) [.c (.bn aK)] [] ⟨.a (.c (.jT aK)),[],[]⟩ [] [] (.s .d (.s .d (.s .d (.s .d (.t [.di 6]))))) [.tmp 2] 93 ([],0) (fun d=>qc N d.1) Tryz.func93 rfl rfl Tryz.ntmps93 rfl rfl rfl (fun d=>by kernel_rfl)
def lX(N:Nat) (a0:(List al)):Option ((List al)):=
  aw (((decide (0<=(a0.length:Int)))&&(decide ((a0.length:Int)<=(a0.length:Int)))&&(gw 16 (a0.length:Int)))&&(true)) <|
  aw ((Nat.beq a0.length (List.replicate (a0.length:Int).toNat (aK.zero:al)).length)&&(true)) <|
  some a0
noncomputable def Qy (N:Nat):bI bU:=cj N b2 (by kernel_rfl) [.c (.bn aK)] [] ⟨.a (.c (.raw (.an 6))),[(6,.row 102 aK)],[]⟩ [] [] (.d) [.tmp 2] 93 [] (fun d=>lX N d.1) Tryz.func93 rfl rfl Tryz.ntmps93 rfl rfl rfl (fun d=>by kernel_rfl)
def Dk(N:Nat) (a0:(List (List al))):Nat->Int->Option (Int):=cx fun d1 dG=>
  aw ((ez (decide ((0:Int) < d1)) (bp (d1 - (1:Int))))&&((ez (decide ((0:Int) < d1)) (bl (d1 - (1:Int)) a0.length))&&(true))) <|
  cond (cond (decide ((0:Int) < d1)) (decide (((a0.getD (d1 - (1:Int)).toNat []).length:Int)=(0:Int))) false) (aw ((bp (d1 - (1:Int)))&&(true)) <|
  dG (d1 - (1:Int))) (some d1)
def JB(N:Nat) (a0:(List (List al))) (aX:Int):Nat->(Int×(List (List al)))->Option ((List (List al))):=cx fun d2 fz=>
  cond (decide (d2.1 < aX)) (aw ((bl d2.1 a0.length)&&(true)) <|
  Option.bind (qc N (a0.getD d2.1.toNat [])) fun bD=>
  aw ((bl d2.1 d2.2.length)&&(((decide (d2.1.toNat < d2.2.length))&&(true))&&(true))) <|
  aw ((bp (d2.1+(1:Int)))&&(true)) <|
  fz ((d2.1+(1:Int)),(d2.2.set d2.1.toNat bD.1))) (some d2.2)
def qd(N:Nat) (a0:(List (List al))):Option ((List (List al))):=
  Option.bind (Dk N a0 N (a0.length:Int)) fun aX=>
  aw (((decide (0<=aX))&&(decide (aX<=aX))&&(gw 24 aX))&&(true)) <|
  Option.bind (JB N a0 aX N ((0:Int),(List.replicate aX.toNat ([]:(List al))))) fun ch=>
  some ch
noncomputable def aep (N:Nat):bI bU:=cj N b2 (by kernel_rfl) [.c (.bn (.an aK))] [] ⟨.a (.c (.bn (.an aK))),[],[]⟩ [JA N] [] (.s .d (.s .d (.s (.b (.eY 0 ⟨[(3,.a (.c (.int .i64)))],[],[0],[]⟩ ⟨[(3,.a (.c (.int .i64)))],[],[0],[]⟩ .d)) (.s .d (.s (.s .d (.b (.eY 2 ⟨[(4,.a (.c (.raw (.an 22)))),(24,.a (.c (.int .i64)))],[(22,.row 34 (.an aK))],[0,23],[]⟩ ⟨[(4,.a (.c (.raw (.an 22))))],[(22,.row 34 (.an aK))],[],[]⟩ .d))) (.s .d (.t [.di 22]))))))) [.tmp 2] 90 [] (fun d=>qd N d.1) Tryz.func90 rfl rfl Tryz.ntmps90 rfl rfl rfl (fun d=>by kernel_rfl)
def Dl(N:Nat) (a0:(List cb)):Option ((List cb)):=
  aw (((decide (0<=(a0.length:Int)))&&(decide ((a0.length:Int)<=(a0.length:Int)))&&(gw 56 (a0.length:Int)))&&(true)) <|
  aw ((Nat.beq a0.length (List.replicate (a0.length:Int).toNat (b7.zero:cb)).length)&&(true)) <|
  some a0
noncomputable def aeq (N:Nat):bI bU:=cj N b2 (by kernel_rfl) [.c (.bn b7)] [] ⟨.a (.c (.raw (.an 6))),[(6,.row 73 b7)],[]⟩ [] [] (.d) [.tmp 2] 127 [] (fun d=>Dl N d.1) Tryz.func127 rfl rfl Tryz.ntmps127 rfl rfl rfl (fun d=>by kernel_rfl)
def z1(N:Nat) (a0:(List c1)):Option ((List c1)×Nat):=
  aw (((decide (0<=(a0.length:Int)))&&(decide ((a0.length:Int)<=(a0.length:Int)))&&(gw 24 (a0.length:Int)))&&(true)) <|
  aw ((Nat.beq a0.length (List.replicate (a0.length:Int).toNat (eb.zero:c1)).length)&&(true)) <|
  some (a0,(a0.length:Int).toNat)
noncomputable def Qz (N:Nat):bI bU:=cj N b2 (by kernel_rfl) [.c (.bn eb)] [] ⟨.a (.c (.jT eb)),[],[]⟩ [] [] (.s .d (.s .d (.s .d (.s .d (.t [.di 6]))))) [.tmp 2] 128 ([],0) (fun d=>z1 N d.1) Tryz.func128 rfl rfl Tryz.ntmps128 rfl rfl rfl (fun d=>by kernel_rfl)
def JC(N:Nat) (aH:(List cb)):Nat->(Int×(List cb))->Option ((List cb)):=cx fun d2 fz=>
  cond (decide (d2.1 < (aH.length:Int))) (aw ((bl d2.1 d2.2.length)&&((decide (d2.1.toNat < d2.2.length))&&(true))) <|
  Option.bind (z1 N (d2.2.getD d2.1.toNat b7.zero).2.2.2.2) fun bD=>
  aw ((bl d2.1 d2.2.length)&&(((decide (d2.1.toNat < d2.2.length))&&(true))&&(true))) <|
  aw ((bp (d2.1+(1:Int)))&&(true)) <|
  fz ((d2.1+(1:Int)),(d2.2.set d2.1.toNat ((d2.2.getD d2.1.toNat b7.zero).1,((d2.2.getD d2.1.toNat b7.zero).2.1,((d2.2.getD d2.1.toNat b7.zero).2.2.1,((d2.2.getD d2.1.toNat b7.zero).2.2.2.1,bD.1))))))) (some d2.2)
def sK(N:Nat) (a0:(List cb)):Option ((List cb)):=
  Option.bind (Dl N a0) fun aH=>
  Option.bind (JC N aH N ((0:Int),aH)) fun ch=>
  some ch
noncomputable def aer (N:Nat):bI bU:=cj N b2 (by kernel_rfl) [.c (.bn b7)] [] ⟨.a (.c (.raw (.an 6))),[(6,.row 73 b7)],[]⟩ [aeq N,Qz N] [] (.s .d (.s (.r [.n 1,.c [(6,6)]]) (.s (.s .d (.b (.eY 0 ⟨[(3,.a (.c (.raw (.an 6)))),(9,.a (.c (.int .i64)))],[(6,.row 73 b7)],[8],[]⟩ ⟨[(3,.a (.c (.raw (.an 6))))],[(6,.row 73 b7)],[],[]⟩ .d))) .d))) [.tmp 2] 91 [] (fun d=>sK N d.1) Tryz.func91 rfl rfl Tryz.ntmps91 rfl rfl rfl (fun d=>by kernel_rfl)
def z6(N:Nat) (a0:(List bB)):Option ((List bB)):=
  aw (((decide (0<=(a0.length:Int)))&&(decide ((a0.length:Int)<=(a0.length:Int)))&&(gw 56 (a0.length:Int)))&&(true)) <|
  aw ((Nat.beq a0.length (List.replicate (a0.length:Int).toNat (ck.zero:bB)).length)&&(true)) <|
  some a0
noncomputable def QA (N:Nat):bI bU:=cj N b2 (by kernel_rfl) [.c (.bn ck)] [] ⟨.a (.c (.raw (.an 6))),[(6,.row 113 ck)],[]⟩ [] [] (.d) [.tmp 2] 106 [] (fun d=>z6 N d.1) Tryz.func106 rfl rfl Tryz.ntmps106 rfl rfl rfl (fun d=>by kernel_rfl)
def JD(N:Nat) (a0:(List (List bB))) (dx:Int):Nat->(Int×(List (Bool×List bB)))->Option ((List (Bool×List bB))):=cx fun d3 gO=>
  cond (decide (d3.1 < ((a0.getD dx.toNat []).length:Int))) (aw ((bl d3.1 (a0.getD dx.toNat []).length)&&(true)) <|
  aw (((decide (dx.toNat < d3.2.length))&&(d3.2.getD dx.toNat (false,[])).1)) <|
  aw ((bl dx d3.2.length)&&((decide (dx.toNat=dx.toNat))&&(true))) <|
  Option.bind (qc N ((a0.getD dx.toNat []).getD d3.1.toNat ck.zero).2.2.1) fun cq=>
  aw ((bl d3.1 (d3.2.getD dx.toNat (false,[])).2.length)&&(((decide (d3.1.toNat < (d3.2.getD dx.toNat (false,[])).2.length))&&(true))&&(true))) <|
  aw ((bl dx d3.2.length)&&((decide (dx.toNat=dx.toNat))&&(true))) <|
  Option.bind (z1 N ((a0.getD dx.toNat []).getD d3.1.toNat ck.zero).2.2.2) fun bX=>
  aw ((bl d3.1 ((d3.2.getD dx.toNat (false,[])).2.set d3.1.toNat (((d3.2.getD dx.toNat (false,[])).2.getD d3.1.toNat ck.zero).1,(((d3.2.getD dx.toNat (false,[])).2.getD d3.1.toNat ck.zero).2.1,(cq.1,((d3.2.getD dx.toNat (false,[])).2.getD d3.1.toNat ck.zero).2.2.2)))).length)&&(((decide (d3.1.toNat < ((d3.2.getD dx.toNat (false,[])).2.set d3.1.toNat (((d3.2.getD dx.toNat (false,[])).2.getD d3.1.toNat ck.zero).1,(((d3.2.getD dx.toNat (false,[])).2.getD d3.1.toNat ck.zero).2.1,(cq.1,((d3.2.getD dx.toNat (false,[])).2.getD d3.1.toNat ck.zero).2.2.2)))).length))&&(true))&&(true))) <|
  aw ((bp (d3.1+(1:Int)))&&(true)) <|
  gO ((d3.1+(1:Int)),(d3.2.set dx.toNat (true,(((d3.2.getD dx.toNat (false,[])).2.set d3.1.toNat (((d3.2.getD dx.toNat (false,[])).2.getD d3.1.toNat ck.zero).1,(((d3.2.getD dx.toNat (false,[])).2.getD d3.1.toNat ck.zero).2.1,(cq.1,((d3.2.getD dx.toNat (false,[])).2.getD d3.1.toNat ck.zero).2.2.2)))).set d3.1.toNat ((((d3.2.getD dx.toNat (false,[])).2.set d3.1.toNat (((d3.2.getD dx.toNat (false,[])).2.getD d3.1.toNat ck.zero).1,(((d3.2.getD dx.toNat (false,[])).2.getD d3.1.toNat ck.zero).2.1,(cq.1,((d3.2.getD dx.toNat (false,[])).2.getD d3.1.toNat ck.zero).2.2.2)))).getD d3.1.toNat ck.zero).1,((((d3.2.getD dx.toNat (false,[])).2.set d3.1.toNat (((d3.2.getD dx.toNat (false,[])).2.getD d3.1.toNat ck.zero).1,(((d3.2.getD dx.toNat (false,[])).2.getD d3.1.toNat ck.zero).2.1,(cq.1,((d3.2.getD dx.toNat (false,[])).2.getD d3.1.toNat ck.zero).2.2.2)))).getD d3.1.toNat ck.zero).2.1,((((d3.2.getD dx.toNat (false,[])).2.set d3.1.toNat (((d3.2.getD dx.toNat (false,[])).2.getD d3.1.toNat ck.zero).1,(((d3.2.getD dx.toNat (false,[])).2.getD d3.1.toNat ck.zero).2.1,(cq.1,((d3.2.getD dx.toNat (false,[])).2.getD d3.1.toNat ck.zero).2.2.2)))).getD d3.1.toNat ck.zero).2.2.1,bX.1)))))))) (some d3.2)
def JE(N:Nat) (a0:(List (List bB))):Nat->(Int×(List (Bool×List bB)))->Option ((List (Bool×List bB))):=cx fun d1 dG=>
  cond (decide (d1.1 < (a0.length:Int))) (aw ((bl d1.1 a0.length)&&(true)) <|
  Option.bind (z6 N (a0.getD d1.1.toNat [])) fun a1=>
  aw ((bl d1.1 d1.2.length)&&((decide (d1.1.toNat < d1.2.length))&&(true))) <|
  Option.bind (JD N a0 d1.1 N ((0:Int),(d1.2.set d1.1.toNat (true,a1)))) fun cg=>
  aw ((bp (d1.1+(1:Int)))&&(true)) <|
  dG ((d1.1+(1:Int)),cg)) (some d1.2)
def rl(N:Nat) (a0:(List (List bB))):Option ((List (Bool×List bB))):=
  aw (((decide (0<=(a0.length:Int)))&&(decide ((a0.length:Int)<=(a0.length:Int)))&&(gw 24 (a0.length:Int)))&&(true)) <|
  Option.bind (JE N a0 N ((0:Int),(List.replicate (a0.length:Int).toNat ((true,[]):Bool×List bB)))) fun aX=>
  some aX
noncomputable def aes (N:Nat):bI bU:=cj N b2 (by kernel_rfl) [.c (.bn (.an ck))] [] ⟨.a (.c (.raw (.an 10))),[(10,.b5 118 113 ck)],[]⟩ [QA N,JA N,Qz N] [] (.s .d (.s (.r [.n 2,.t .mk]) (.s (.s .d (.b (.eY 0 ⟨[(3,.a (.c (.raw (.an 10)))),(13,.a (.c (.int .i64)))],[(10,.b5 118 113 ck)],[11,12],[]⟩ ⟨[(3,.a (.c (.raw (.an 10))))],[(10,.b5 118 113 ck)],[],[]⟩ (.s .d (.s .d (.s (.b (.s .d (.s (.r [.n 3,.c [(6,21)],.n 1,.t .st]) (.s (.r [.n 3,.w (.t (.close 10 21))]) (.b (.eY 2 ⟨[(3,.a (.c (.raw (.an 10)))),(25,.a (.c (.int .i64)))],[(10,.b5 118 113 ck)],[4,11,12,13,23,24],[]⟩ ⟨[(3,.a (.c (.raw (.an 10))))],[(10,.b5 118 113 ck)],[11,12,13],[]⟩ (.s .d (.s .d (.s (.b (.s (.r [.n 6,.w (.ca 7 ck)]) (.s (.p [.t (.op 10 4 33)] (.na [4,5,6,7,1000010] [.t 0 0,.t 1 0,.t 2 0,.t 3 3,.t 4 0,.t 5 0,.t 6 1,.c 7 [],.t 8 0,.t 9 0,.s 10] [])) (.na [4,5,6,7,1000010] [.t 0 0,.t 1 0,.t 2 0,.t 3 3,.t 4 0,.t 5 0,.t 6 1,.c 7 [],.t 8 0,.t 9 0,.s 10] [(.t (.close 10 33))])))) .d))))))))) .d)))))) .d))) [.tmp 2] 92 [] (fun d=>rl N d.1) Tryz.func92 rfl rfl Tryz.ntmps92 rfl rfl rfl (fun d=>by kernel_rfl)
def sL(N:Nat) (a0:ko):Nat->(Int×(List (List al))×(List (List al)))->Option (Int×(List (List al))×(List (List al))):=cx fun d6 Qa=>
  cond (decide ((0:Int) < (a0.2.2.2.2.1.length:Int))) (aw ((bl (0:Int) a0.2.2.2.2.1.length)&&(true)) <|
  none) (some (d6.1,d6.2.1,d6.2.2))
def sM(N:Nat) (a0:ko):Option (Int×(List (List al))×(List (List al))×(List cb)×(List (Bool×List bB))×(List (fK×Int))×(List al)):=
  Option.bind (qd N a0.2.1.1) fun aH=>
  Option.bind (qd N a0.2.1.2) fun a1=>
  Option.bind (sK N a0.2.2.1) fun bD=>
  Option.bind (rl N a0.2.2.2.1) fun cq=>
  Option.bind (lX N a0.2.2.2.2.2.2) fun bX=>
  Option.bind (sL N a0 N (a0.1,aH,a1)) fun hg=>
  some (hg.1,hg.2.1,hg.2.2,bD,cq,([]:List (fK×Int)),bX)
noncomputable def Dm (N:Nat) (a0:ko):Option (Int×(List (List al))×(List (List al))×(List cb)×(List (Bool×List bB))×(List (fK×Int))×(List al)):=
  eV (Option.bind (qd N a0.2.1.1) fun aH=>
  eV (Option.bind (qd N a0.2.1.2) fun a1=>
  eV (Option.bind (sK N a0.2.2.1) fun bD=>
  eV (Option.bind (rl N a0.2.2.2.1) fun cq=>
  eV (Option.bind (lX N a0.2.2.2.2.2.2) fun bX=>
  Option.bind (sL N a0 N (a0.1,aH,a1)) fun hg=>
  some (hg.1,hg.2.1,hg.2.2,bD,cq,([]:List (fK×Int)),bX)) (Option.bind (lX N a0.2.2.2.2.2.2) fun bX=>
  Option.bind (sL N a0 N (a0.1,aH,a1)) fun hg=>
  some (hg.1,hg.2.1,hg.2.2,bD,cq,([]:List (fK×Int)),bX))) (Option.bind (rl N a0.2.2.2.1) fun cq=>
  Option.bind (lX N a0.2.2.2.2.2.2) fun bX=>
  Option.bind (sL N a0 N (a0.1,aH,a1)) fun hg=>
  some (hg.1,hg.2.1,hg.2.2,bD,cq,([]:List (fK×Int)),bX))) (Option.bind (sK N a0.2.2.1) fun bD=>
  Option.bind (rl N a0.2.2.2.1) fun cq=>
  Option.bind (lX N a0.2.2.2.2.2.2) fun bX=>
  Option.bind (sL N a0 N (a0.1,aH,a1)) fun hg=>
  some (hg.1,hg.2.1,hg.2.2,bD,cq,([]:List (fK×Int)),bX))) (Option.bind (qd N a0.2.1.2) fun a1=>
  Option.bind (sK N a0.2.2.1) fun bD=>
  Option.bind (rl N a0.2.2.2.1) fun cq=>
  Option.bind (lX N a0.2.2.2.2.2.2) fun bX=>
  Option.bind (sL N a0 N (a0.1,aH,a1)) fun hg=>
  some (hg.1,hg.2.1,hg.2.2,bD,cq,([]:List (fK×Int)),bX))) (Option.bind (qd N a0.2.1.1) fun aH=>
  Option.bind (qd N a0.2.1.2) fun a1=>
  Option.bind (sK N a0.2.2.1) fun bD=>
  Option.bind (rl N a0.2.2.2.1) fun cq=>
  Option.bind (lX N a0.2.2.2.2.2.2) fun bX=>
  Option.bind (sL N a0 N (a0.1,aH,a1)) fun hg=>
  some (hg.1,hg.2.1,hg.2.2,bD,cq,([]:List (fK×Int)),bX))
theorem aet:Dm=sM:=by
 unfold Dm sM;simp only[nI]
noncomputable def aeu (N:Nat):bI bU:=nO N b2 (by kernel_rfl) [.c9 kM] [] ⟨.a (.c (.raw (.ptr 34 0))),[(34,.cells 172 [.int .i64,.bn (.an aK),.bn (.an aK),.raw (.an 19),.raw (.an 23),.raw (.cp 28),.raw (.an 32)]),(19,.row 73 b7),(23,.b5 118 113 ck),(28,.mp hV (.int .i64)),(32,.row 102 aK)],[]⟩ [aep N,aer N,aes N,Qy N] [] (.s (.r [.n 2,.w (.ca 1 kM)]) (.s (.hk [] [] (.b [.t 0 0,.t 1 1,.t 2 0,.t 3 0,.t 4 1,.t 6 0,.t 7 0,.t 8 1,.t 11 0,.t 12 1,.t 14 0,.t 15 0,.t 16 1,.t 18 0,.t 19 0,.t 20 1,.t 21 0,.t 23 0,.t 24 0,.t 25 1] 5 22 [] [] none (some (.mV hV (.int .i64))) (.b [] 9 22 [] [] none (some (.mV hV (.int .i64))) (.b [.t 10 0] 13 22 [(6,19)] [] none (some (.mV hV (.int .i64))) (.b [] 17 22 [(10,23)] [] none (some (.mV hV (.int .i64))) (.b [] 22 26 [] [(6,32)] (some (.mV hV (.int .i64))) none (.f [.c 26 [(6,32)],.t 27 0,.s 28,.t 29 0]) (.f [.u 22 (.mV hV (.int .i64)),.t 27 0,.s 28,.t 29 0])) (.f [.c 17 [(10,23)],.c 26 [(6,32)],.t 27 0,.s 28,.t 29 0])) (.f [.c 13 [(6,19)],.c 17 [(10,23)],.c 26 [(6,32)],.t 27 0,.s 28,.t 29 0])) (.f [.c 9 [],.t 10 0,.c 13 [(6,19)],.c 17 [(10,23)],.c 26 [(6,32)],.t 27 0,.s 28,.t 29 0])) (.f [.c 5 [],.c 9 [],.t 10 0,.c 13 [(6,19)],.c 17 [(10,23)],.c 26 [(6,32)],.t 27 0,.s 28,.t 29 0])) [] false) (.s (.s .d (.b (.eY 0 ⟨[(3,.a (.c (.raw (.ptr 34 0))))],[(34,.cells 172 [.int .i64,.bn (.an aK),.bn (.an aK),.raw (.an 19),.raw (.an 23),.raw (.cp 28),.raw (.an 32)])],[37,38,39],[19,23,28,32]⟩ ⟨[(3,.a (.c (.raw (.ptr 34 0))))],[(34,.cells 172 [.int .i64,.bn (.an aK),.bn (.an aK),.raw (.an 19),.raw (.an 23),.raw (.cp 28),.raw (.an 32)])],[],[19,23,28,32]⟩ (.s .d (.s .d (.s (.b (.s (.r [.n 4,.w (.ca 5 c2)]) .d)) .d)))))) .d))) [.tmp 2] 37 (0,[],[],[],[],[],[]) (fun d=>Dm N d.1) (fun d=>sM N d.1) (fun d=>(by rw[aet]:Dm N d.1=sM N d.1)) Tryz.func37 rfl rfl Tryz.ntmps37 rfl rfl rfl (fun d=>by kernel_rfl)
def z7(N:Nat) (a0:(List cH)):Option ((List cH)×Nat):=
  aw (((decide (0<=(a0.length:Int)))&&(decide ((a0.length:Int)<=(a0.length:Int)))&&(gw 40 (a0.length:Int)))&&(true)) <|
  aw ((Nat.beq a0.length (List.replicate (a0.length:Int).toNat (c2.zero:cH)).length)&&(true)) <|
  some (a0,(a0.length:Int).toNat)
noncomputable def aev (N:Nat):bI bU:=cj N b2 (by kernel_rfl) [.c (.bn c2)] [] ⟨.a (.c (.jT c2)),[],[]⟩ [] [] (.s .d (.s .d (.s .d (.s .d (.t [.di 6]))))) [.tmp 2] 108 ([],0) (fun d=>z7 N d.1) Tryz.func108 rfl rfl Tryz.ntmps108 rfl rfl rfl (fun d=>by kernel_rfl)
end
section
open Go.RowKit
def fo(b k r:Int):Int:=if b=0 then 4 * k+2 else 4 * (k+r)
theorem z8(N:Nat) {nd:al} (h:(nd.1=0\/nd.1=1)/\1<=nd.2/\nd.2<=40) {r:Int} (az:-4<=r/\r<=4):lV N nd r=some (fo nd.1 nd.2 r):=by
 have ab:wX N r=some true:=by
  unfold wX;rw[decide_eq_true az.1,decide_eq_true az.2]
  rfl
 have aa:=pt N h;obtain⟨J,U,ah⟩:=h;obtain⟨au,aF⟩:=az;unfold lV fo
 apply T.eq
 rcases J with J | J
 ·simp only[bc,Int.reduceEq,Int.reduceLT,Int.reduceLE,reduceCtorEq,bt aa,bt ab,J,if_true]
  and_intros<;>first | omega | (simp only[bN]; omega) | exact this | trivial
 ·simp only[bc,Int.reduceEq,Int.reduceLT,Int.reduceLE,reduceCtorEq,bt aa,bt ab,J,if_false]
  and_intros<;>first | omega | (simp only[bN]; omega) | exact this | trivial
def hX(b r:Int):Nat->List (List al)->List cH
 | _,[]=>[]
 | i,s :: l=>s.map (fun a=>(a,((b,(i:Int)+1),fo b ((i:Int)+1) r)))++hX b r (i+1) l
theorem JF(b r:Int) (l m:List (List al)):∀ i,hX b r i (l++m)=hX b r i l++hX b r (i+l.length) m:=by
 induction l with
 | nil=>intro i; rfl
 | cons s l bA=>
  intro i;show _++hX b r (i+1) (l++m)=(_++hX b r (i+1) l)++_;rw[bA,List.append_assoc,List.length_cons,show i+1+l.length=i+(l.length+1) by omega]
theorem JG(b r:Int) (l:List (List al)):∀ i,(hX b r i l).map (·.1)=l.flatten:=by
 induction l with
 | nil=>intro i; rfl
 | cons s l bA=>
  intro i;show List.map (fun p:cH=>p.1) (List.map (fun a=>(a,((b,(i:Int)+1),fo b ((i:Int)+1) r))) s++hX b r (i+1) l)=s++l.flatten;rw[List.map_append,bA,List.map_map]
  congr 1
  exact List.map_id' s
theorem w8(b r:Int) (l:List (List al)) (i:Nat):(hX b r i l).length=l.flatten.length:=by
 rw[<- JG b r l i,List.length_map]
theorem Dn(b r:Int) (l:List (List al)):∀ i,∀ p∈hX b r i l,p.2.1.1=b/\p.2.2=fo b p.2.1.2 r/\(i:Int) < p.2.1.2/\p.2.1.2<=(i:Int)+l.length:=by
 induction l with
 | nil=>intro i p aq; cases aq
 | cons s l bA=>
  intro i p aq
  rcases List.mem_append.1 aq with aq | aq
  ·obtain⟨a,bo,rfl⟩:=List.mem_map.1 aq
   refine⟨rfl,rfl,?_,?_⟩
   ·show(i:Int) < (i:Int)+1
    omega
   ·show(i:Int)+1<=(i:Int)+((s :: l).length:Nat)
    rw[List.length_cons];omega
  ·obtain⟨J,U,ah,au⟩:=bA (i+1) p aq
   refine⟨J,U,by omega,?_⟩;rw[List.length_cons];omega
theorem aew(b r:Int) {k m:Int} (h:k<=m):fo b k r<=fo b m r:=by
 unfold fo
 split<;>omega
def qe(L:List cH):Prop:=L.Pairwise fun p q=>p.2.2<=q.2.2
theorem QB(b r:Int) (l:List (List al)):∀ i,qe (hX b r i l):=by
 induction l with
 | nil=>intro i; exact List.Pairwise.nil
 | cons s l bA=>
  intro i;refine List.pairwise_append.2 ⟨?_,bA (i+1),fun p aq q ao=>?_⟩
  ·rw[List.pairwise_map]
   exact List.pairwise_of_forall fun _ _=>Int.le_refl _
  ·obtain⟨a,bo,rfl⟩:=List.mem_map.1 aq
   obtain⟨J,U,ah,au⟩:=Dn b r l (i+1) q ao;show fo b ((i:Int)+1) r<=q.2.2;rw[U];exact aew b r (by omega)
theorem aex{N:Nat} (bd:5000 < N) {b:Int} (ae:b=0\/b=1) {r:Int} (az:-4<=r/\r<=4) {l:List (List al)} (aB:fD l) {i:Nat} {s:List al} (ak:l[i]?=some s) (acc:List cH) (bo:acc.length<=100000) :
  Jn N b l r (i:Int) N ((0:Int),acc)=some (acc++s.map (fun a=>(a,((b,(i:Int)+1),fo b ((i:Int)+1) r)))):=by
 have au:=aB.e9 s (List.mem_of_getElem? ak);have aja:=aB.len;have ajb:=(List.getElem?_eq_some_iff.1 ak).1;unfold Jn;refine e8 (fun k d=>∃ j:Nat,j+k=s.length/\d=((j:Int),acc++(s.take j).map (fun a=>(a,((b,(i:Int)+1),fo b ((i:Int)+1) r))))) _ ?_ N s.length _ (by omega) ⟨0,by omega,by simp⟩;rintro k d rec ⟨j,aR,rfl⟩ bY
 apply T.eq
 by_cases a8:j < s.length
 ·obtain⟨x,aj⟩:∃ x,s[j]?=some x:=⟨_,List.getElem?_eq_getElem a8⟩
  have bg:(j:Int) < (s.length:Int):=by omega
  have ja:=z8 N (nd:=((b,(i:Int)+1):al)) ⟨ae,by dsimp only; omega,by dsimp only; omega⟩ az;have this:T (rec ((j:Int)+1,acc++(s.take j).map (fun a=>(a,((b,(i:Int)+1),fo b ((i:Int)+1) r)))++[(x,((b,(i:Int)+1),fo b ((i:Int)+1) r))])) (·=acc++s.map (fun a=>(a,((b,(i:Int)+1),fo b ((i:Int)+1) r)))):=
   ⟨_,bY (k - 1) _ (by omega) ⟨j+1,by omega,by rw[p8 aj,List.map_append,List.append_assoc]; rfl⟩,rfl⟩
  simp only[bc,Int.reduceEq,Int.reduceLT,Int.reduceLE,reduceCtorEq,b8 ak,bg,b8 aj,bt ja,List.length_append,List.length_map,List.length_take,List.length_singleton]
  and_intros<;>first | omega | (simp only[bN]; omega) | exact this | trivial
 ·have bg:¬ (j:Int) < (s.length:Int):=by omega
  simp only[bc,Int.reduceEq,Int.reduceLT,Int.reduceLE,reduceCtorEq,b8 ak,bg];rw[List.take_of_length_le (by omega)]
theorem aey(l:List (List al)) (i:Nat):(l.take i).flatten.length<=l.flatten.length:=by
 conv=>rhs; rw[<- List.take_append_drop i l,List.flatten_append,List.length_append]
 omega
theorem Dp{N:Nat} (bd:5000 < N) {b:Int} (ae:b=0\/b=1) {r:Int} (az:-4<=r/\r<=4) {l:List (List al)} (aB:fD l) (acc:List cH) (bo:acc.length+l.flatten.length<=100000):uJ N b l r acc=some (acc++hX b r 0 l):=by
 have hlen:=aB.len;have dY:Jo N b l r N ((0:Int),acc)=some (acc++hX b r 0 l):=by
  unfold Jo;refine e8 (fun k d=>∃ i:Nat,i+k=l.length/\d=((i:Int),acc++hX b r 0 (l.take i))) _ ?_ N l.length _ (by omega) ⟨0,by omega,by simp[hX]⟩;rintro k d rec ⟨i,hi,rfl⟩ bY
  apply T.eq
  by_cases a8:i < l.length
  ·obtain⟨x,aj⟩:∃ x,l[i]?=some x:=⟨_,List.getElem?_eq_getElem a8⟩
   have bg:(i:Int) < (l.length:Int):=by omega
   have e:hX b r 0 (l.take (i+1))=hX b r 0 (l.take i)++x.map (fun a=>(a,((b,(i:Int)+1),fo b ((i:Int)+1) r))):=by
    rw[p8 aj,JF,List.length_take,Nat.zero_add,show min i l.length=i by omega];show _++(_++[])=_;rw[List.append_nil]
   have ajc:=aey l i;have U:=aex bd ae az aB aj (acc++hX b r 0 (l.take i)) (by rw[List.length_append,w8]; omega);have this:T (rec ((i:Int)+1,acc++hX b r 0 (l.take i)++x.map (fun a=>(a,((b,(i:Int)+1),fo b ((i:Int)+1) r))))) (·=acc++hX b r 0 l):=⟨_,bY (k - 1) _ (by omega) ⟨i+1,by omega,by rw[e,List.append_assoc]; rfl⟩,rfl⟩
   simp only[bc,Int.reduceEq,Int.reduceLT,Int.reduceLE,reduceCtorEq,bg,bt U]
   and_intros<;>first | omega | (simp only[bN]; omega) | exact this | trivial
  ·have bg:¬ (i:Int) < (l.length:Int):=by omega
   simp only[bc,Int.reduceEq,Int.reduceLT,Int.reduceLE,reduceCtorEq,bg];rw[List.take_of_length_le (by omega)]
 unfold uJ;rw[dY,Option.bind_some]
theorem aez(N:Nat) {p q:cH} (h:q.2.2<=p.2.2):T (w1 N p q) fun r=>¬ r < 0:=by
 unfold w1 zD zC;have J:¬ p.2.2 < q.2.2:=by omega
 simp only[bc,Int.reduceEq,Int.reduceLT,Int.reduceLE,reduceCtorEq,J]
theorem aeA{N:Nat} (bd:5000 < N) {L:List cH} (h:qe L) (ad:L.length<=1000) {i:Nat} (aN:0 < i) (hi:i < L.length):w2 N (0:Int) N ((i:Int),L)=some L:=by
 obtain⟨n,a7⟩:∃ n,N=n+1:=⟨N - 1,by omega⟩
 have U:w2 N (0:Int) (n+1) ((i:Int),L)=some L:=by
  unfold w2;rw[cx]
  apply T.eq
  obtain⟨p,aq⟩:∃ p,L[i]?=some p:=⟨_,List.getElem?_eq_getElem hi⟩
  obtain⟨q,ao⟩:∃ q,L[i - 1]?=some q:=⟨_,List.getElem?_eq_getElem (by omega)⟩
  have aeB:q.2.2<=p.2.2:=by
   have:=List.pairwise_iff_getElem.1 h (i - 1) i (by omega) hi (by omega)
   rw[<- (List.getElem?_eq_some_iff.1 aq).2,<- (List.getElem?_eq_some_iff.1 ao).2];exact this
  have ln:(0:Int) < (i:Int):=by omega
  have aC:((i:Int) - 1).toNat=i - 1:=by omega
  have aW:((i:Nat):Int).toNat=i:=by omega
  simp only[bc,Int.reduceEq,Int.reduceLT,Int.reduceLE,reduceCtorEq,ln,aC,b8 aq,b8 ao];refine⟨by and_intros<;>first | omega | (simp only[bN]; omega) | exact this | trivial,(aez N aeB).mono fun r az=>?_⟩;simp only[bc,Int.reduceEq,Int.reduceLT,Int.reduceLE,reduceCtorEq,az]
 rw[<- a7]at U;exact U
theorem aeC{N:Nat} (bd:5000 < N) {L:List cH} (h:qe L) (ad:L.length<=1000):uK N (0:Int) (L.length:Int) L=some L:=by
 have dY:zT N (0:Int) (L.length:Int) N ((0:Int)+1,L)=some L:=by
  unfold zT;refine e8 (fun k d=>∃ i:Nat,i+k=L.length+1/\0 < i/\d=((i:Int),L)) _ ?_ N L.length _ (by omega) ⟨1,by omega,by omega,rfl⟩;rintro k d rec ⟨i,hi,aN,rfl⟩ bY
  apply T.eq
  by_cases a8:i < L.length
  ·have bg:(i:Int) < (L.length:Int):=by omega
   have this:T (rec ((i:Int)+1,L)) (·=L):=⟨_,bY (k - 1) _ (by omega) ⟨i+1,by omega,by omega,rfl⟩,rfl⟩
   simp only[bc,Int.reduceEq,Int.reduceLT,Int.reduceLE,reduceCtorEq,bg,bt (aeA bd h ad aN a8)]
   and_intros<;>first | omega | (simp only[bN]; omega) | exact this | trivial
  ·have bg:¬ (i:Int) < (L.length:Int):=by omega
   simp only[bc,Int.reduceEq,Int.reduceLT,Int.reduceLE,reduceCtorEq,bg]
 unfold uK;rw[oA (c:=bp ((0:Int)+1)&&true) (by rfl),dY,Option.bind_some]
theorem aeD{N:Nat} (bd:5000 < N) {L:List cH} (h:qe L) (ad:L.length < 20):uL N L=some L:=by
 have hi:=aeC bd h (by omega);obtain⟨n,a7⟩:∃ n,N=n+1:=⟨N - 1,by omega⟩
 have J:Jp N (L.length:Int) N ((0:Int),(20:Int),L)=some ((0:Int),L):=by
  rw[a7];show cond (decide ((20:Int)<=(L.length:Int))) _ (some ((0:Int),L))=_;rw[decide_eq_false (by omega)]
  rfl
 have au:Jq N (L.length:Int) N (20:Int)=some ():=by
  rw[a7];show cond (decide ((20:Int) < (L.length:Int))) _ (some ())=_;rw[decide_eq_false (by omega)]
  rfl
 unfold uL Da;rw[J,Option.bind_some,hi,Option.bind_some,au,Option.bind_some,Option.bind_some]
theorem QC(N:Nat) (l:List cH) (h:l.length<=100000):Db N l=some (l,l.length):=by
 unfold Db
 apply T.eq
 simp only[bc,Int.reduceEq,Int.reduceLT,Int.reduceLE,reduceCtorEq,List.length_replicate]
 and_intros<;>first | omega | (simp only[bN]; omega) | exact this | trivial
def fA(f g:List (List al)) (r:Int):List cH:=hX 0 r 0 f++hX 1 r 0 g
theorem w9(f g:List (List al)) (r:Int):(fA f g r).length=f.flatten.length+g.flatten.length:=by
 unfold fA;rw[List.length_append,w8,w8]
theorem QD(f g:List (List al)) (r:Int):(fA f g r).map (·.1)=f.flatten++g.flatten:=by
 unfold fA;rw[List.map_append,JG,JG]
theorem JH{N:Nat} (bd:5000 < N) {f g:List (List al)} (aA:fD f) (aL:fD g) (a7:(f.flatten++g.flatten).Nodup) {r:Int} (az:-4<=r/\r<=4) (aa:f.flatten.length+g.flatten.length < 20) (ak:qe (fA f g r)) :
  sG N (f,g) r=some (fA f g r,f.flatten.length+g.flatten.length,0):=by
 have ab:wZ N r=some true:=by
  unfold wZ;rw[decide_eq_true az.1,decide_eq_true az.2]
  rfl
 have uO:w0 N (f,g) r=some 0:=by
  unfold w0
  apply T.eq
  simp only[bc,Int.reduceEq,Int.reduceLT,Int.reduceLE,reduceCtorEq,bt (wV bd aA aL a7 (by omega)),bt ab]
 have J:=Dp bd (b:=0) (Or.inl rfl) az aA [] (by rw[List.length_nil]; omega);rw[List.nil_append]at J;have U:=Dp bd (b:=1) (Or.inr rfl) az aL (hX 0 r 0 f) (by rw[w8]; omega);have hlen:=w9 f g r;have ah:=aeD bd ak (by omega);have au:=QC N (fA f g r) (by omega);rw[hlen]at au;unfold sG;rw[uO,Option.bind_some];show Option.bind (uF N (f,g)) _=_;rw[Jl bd aA.len aL.len (by omega),Option.bind_some,oA (by simp only[bc,Int.reduceEq,Int.reduceLT,Int.reduceLE,reduceCtorEq]; and_intros<;>first | omega | (simp only[bN]; omega) | exact this | trivial)];show Option.bind (uJ N 0 f r []) _=_;rw[J,Option.bind_some];show Option.bind (uJ N 1 g r _) _=_;rw[U,Option.bind_some];show Option.bind (uL N (fA f g r)) _=_;rw[ah,Option.bind_some,au,Option.bind_some]
theorem aeE{N:Nat} (bd:5000 < N) {f g:List (List al)} (aA:fD f) (aL:fD g) (a7:(f.flatten++g.flatten).Nodup) {r:Int} (az:-4<=r/\r<=4) (aa:f.flatten.length+g.flatten.length < 20) (ak:qe (fA f g r)) :
  qr N (f,g) r=some (f.flatten++g.flatten):=by
 have hlen:=w9 f g r;have dY:w7 N (fA f g r,f.flatten.length+g.flatten.length,0) N ((0:Int),List.replicate ((fA f g r).length:Int).toNat (aK.zero:al))=some (f.flatten++g.flatten):=by
  rw[<- QD f g r,<- Pg (fun p:cH=>p.1) (aK.zero:al) (fA f g r)];unfold w7;refine e8 (fun k d=>∃ i:Nat,i+k=(fA f g r).length/\d=((i:Int),lQ (fun p:cH=>p.1) (aK.zero:al) (fA f g r) i)) _ ?_ N (fA f g r).length _ (by omega) ⟨0,by omega,by rw[Pf]; rfl⟩;rintro k d rec ⟨i,hi,rfl⟩ bY
  apply T.eq
  by_cases a8:i < (fA f g r).length
  ·obtain⟨x,aj⟩:∃ x,(fA f g r)[i]?=some x:=⟨_,List.getElem?_eq_getElem a8⟩
   have bg:(i:Int) < ((fA f g r).length:Int):=by omega
   have cv:=Ph (fun p:cH=>p.1) (aK.zero:al) (fA f g r) i (by omega);have this:T (rec ((i:Int)+1,lQ (fun p:cH=>p.1) (aK.zero:al) (fA f g r) (i+1))) (·=lQ (fun p:cH=>p.1) (aK.zero:al) (fA f g r) (fA f g r).length):=⟨_,bY (k - 1) _ (by omega) ⟨i+1,by omega,rfl⟩,rfl⟩
   have fX:=H7 (fun p:cH=>p.1) (aK.zero:al) (fA f g r) i a8 x aj;simp only[bc,Int.reduceEq,Int.reduceLT,Int.reduceLE,reduceCtorEq,bg,b8 aj,cv,fX]
   and_intros<;>first | omega | (simp only[bN]; omega) | exact this | trivial
  ·have bg:¬ (i:Int) < ((fA f g r).length:Int):=by omega
   simp only[bc,Int.reduceEq,Int.reduceLT,Int.reduceLE,reduceCtorEq,bg];rw[show i=(fA f g r).length by omega]
 unfold qr;rw[JH bd aA aL a7 az aa ak,Option.bind_some,oA (by simp only[bc,Int.reduceEq,Int.reduceLT,Int.reduceLE,reduceCtorEq]; and_intros<;>first | omega | (simp only[bN]; omega) | exact this | trivial)];show Option.bind (w7 N (fA f g r,f.flatten.length+g.flatten.length,0) N ((0:Int),List.replicate ((fA f g r).length:Int).toNat (aK.zero:al))) _=_;rw[dY,Option.bind_some]
theorem aeF{N:Nat} (bd:5000 < N) {L:List cH} (ad:L.length<=1000) {a b:Int} (oi:a < b) (h:∀ p∈L,¬ (a < p.2.2/\p.2.2 < b)):qa N L a b=some ([],0):=by
 have dY:uM N L (a,b,(1:Int)) N ((0:Int),[])=some []:=by
  unfold uM;refine e8 (fun k d=>∃ i:Nat,i+k=L.length/\d=((i:Int),[])) _ ?_ N L.length _ (by omega) ⟨0,by omega,rfl⟩;rintro k d rec ⟨i,hi,rfl⟩ bY
  apply T.eq
  by_cases a8:i < L.length
  ·obtain⟨x,aj⟩:∃ x,L[i]?=some x:=⟨_,List.getElem?_eq_getElem a8⟩
   have bg:(i:Int) < (L.length:Int):=by omega
   have jS:=h x (List.mem_of_getElem? aj);have ae:cond (decide (a < x.2.2)) (decide (x.2.2 < b)) false=false:=by
    rw[H9,decide_eq_false_iff_not,decide_eq_false_iff_not];omega
   have this:T (rec ((i:Int)+1,[])) (·=[]):=⟨_,bY (k - 1) _ (by omega) ⟨i+1,by omega,rfl⟩,rfl⟩
   show T (cond (decide ((i:Int) < (L.length:Int))) _ _) _;rw[decide_eq_true bg,cond_true];show T (aw _ (cond (cond (decide (a < (L.getD ((i:Nat):Int).toNat _).2.2)) (decide ((L.getD ((i:Nat):Int).toNat _).2.2 < b)) false) _ _)) _;rw[Int.toNat_natCast,b8 aj,ae,cond_false];simp only[bc,Int.reduceEq,Int.reduceLT,Int.reduceLE,reduceCtorEq]
   and_intros<;>first | omega | (simp only[bN]; omega) | exact this | trivial
  ·have bg:¬ (i:Int) < (L.length:Int):=by omega
   simp only[bc,Int.reduceEq,Int.reduceLT,Int.reduceLE,reduceCtorEq,bg]
 unfold qa;rw[decide_eq_true oi];show Option.bind (uM N L (a,b,(1:Int)) N ((0:Int),[])) _=_;rw[dY,Option.bind_some]
 rfl
end
section
open Go.RowKit
theorem Dq{l m:List (List al)} (ad:lW l) (hm:lW m) (h:∀ k,l.getD k []=m.getD k []):l=m:=by
 have key:∀ {a b:List (List al)},lW a->(∀ k,a.getD k []=b.getD k [])->a.length<=b.length:=by
  intro a b bo oi
  rcases Nat.lt_or_ge b.length a.length with a8 | pA
  ·exfalso
   have J:a[a.length - 1]?=some (a.getD (a.length - 1) []):=by
    rw[List.getD_eq_getElem?_getD,List.getElem?_eq_getElem (by omega)]
    rfl
   refine bo (a.getD (a.length - 1) []) (by rw[List.getLast?_eq_getElem?]; exact J) ?_;rw[oi,List.getD_eq_getElem?_getD,List.getElem?_eq_none (by omega)]
   rfl
  ·exact pA
 have hlen:l.length=m.length:=Nat.le_antisymm (key ad h) (key hm fun k=>(h k).symm)
 apply List.ext_getElem?
 intro k;have ab:=h k;rw[List.getD_eq_getElem?_getD,List.getD_eq_getElem?_getD]at ab
 by_cases J:k < l.length
 ·rw[List.getElem?_eq_getElem J,List.getElem?_eq_getElem (by omega)]at ab ⊢
  exact congrArg some ab
 ·rw[List.getElem?_eq_none (by omega),List.getElem?_eq_none (by omega)]
theorem aeG{N:Nat} (bd:5000 < N) (l:List (List al)) (ad:l.length<=40):T (sI N l) fun n=>∃ m:Nat,n=(m:Int)/\m<=l.length/\lW (l.take m)/\∀ k,m<=k->l.getD k []=[]:=by
 have dY:T (zU N l N (l.length:Int)) fun n=>∃ m:Nat,n=(m:Int)/\m<=l.length/\lW (l.take m)/\∀ k,m<=k->l.getD k []=[]:=by
  unfold zU;refine lR (fun k d=>∃ m:Nat,m=k/\d=(m:Int)/\m<=l.length/\∀ k,m<=k->l.getD k []=[]) _ ?_ N l.length _ (by omega) ⟨l.length,rfl,rfl,Nat.le_refl _,fun k ab=>by rw[List.getD_eq_getElem?_getD,List.getElem?_eq_none ab]; rfl⟩;rintro k d rec ⟨m,rfl,rfl,hm,he⟩ bY
  by_cases aN:m=0
  ·subst aN
   simp only[bc,Int.reduceEq,Int.reduceLT,Int.reduceLE,reduceCtorEq,show ¬ ((0:Int) < ((0:Nat):Int)) by omega];exact⟨0,rfl,Nat.zero_le _,fun s ak=>(by rw[List.take_zero]at ak; cases ak),he⟩
  ·have ln:(0:Int) < (m:Int):=by omega
   obtain⟨s,ak⟩:∃ s,l[m - 1]?=some s:=⟨_,List.getElem?_eq_getElem (by omega)⟩
   have aC:((m:Int) - 1).toNat=m - 1:=by omega
   have aW:((m:Int) - 1)=((m - 1:Nat):Int):=by omega
   simp only[bc,Int.reduceEq,Int.reduceLT,Int.reduceLE,reduceCtorEq,ln,aC,b8 ak];refine⟨by and_intros<;>first | omega | (simp only[bN]; omega) | exact this | trivial,fun bG=>?_,fun bG=>?_⟩
   ·have this:=bY (m - 1) ((m:Int) - 1) (by omega) ⟨m - 1,rfl,aW,by omega,fun k ab=>?_⟩
    ·and_intros<;>first | omega | (simp only[bN]; omega) | exact this | trivial
    ·by_cases aeH:k=m - 1
     ·rw[aeH,b8 ak]
      exact List.length_eq_zero_iff.1 (by omega)
     ·exact he k (by omega)
   ·refine⟨m,rfl,hm,fun t aV=>?_,he⟩
    have hlen:(l.take m).length=m:=by rw[List.length_take]; omega
    rw[List.getLast?_eq_getElem?,hlen,List.getElem?_take,if_pos (by omega),ak]at aV;cases aV;intro e;rw[e]at bG;exact bG rfl
 unfold sI;simp only[bc,Int.reduceEq,Int.reduceLT,Int.reduceLE,reduceCtorEq];exact dY.mono fun r az=>az
theorem QE{N:Nat} (bd:5000 < N) {l:List (List al)} (h:fD l) {a:Nat} (J:1<=a) (U:a<=40) {s:List al} (ak:s.length<=4) (a6:∀ x∈s,nT x) :
  T (nV N l (a:Int) s) fun r=>lW r/\fD r/\∀ k,r.getD k []=if k=a - 1 then s else l.getD k []:=by
 have ad:=h.len;obtain⟨M,bJ⟩:∃ M:Nat,(if (l.length:Int) < (a:Int)then(a:Int)else(l.length:Int))=(M:Int)/\l.length<=M/\a<=M/\M<=40:=by
  by_cases QF:(l.length:Int) < (a:Int)
  ·exact⟨a,if_pos QF,by omega,Nat.le_refl _,U⟩
  ·exact⟨l.length,if_neg QF,Nat.le_refl _,by omega,ad⟩
 obtain⟨uN,QG,xa,Cm⟩:=bJ;obtain⟨X,ar⟩:∃ X,X=(l++(List.replicate M ([]:List al)).drop l.length).set (a - 1) s:=⟨_,rfl⟩
 have pc:(l++(List.replicate M ([]:List al)).drop l.length).length=M:=by
  rw[List.length_append,List.length_drop,List.length_replicate];omega
 have ajd:X.length=M:=by rw[ar,List.length_set,pc]
 have aeI:∀ k,X.getD k []=if k=a - 1 then s else l.getD k []:=by
  intro k;rw[ar,List.getD_eq_getElem?_getD,List.getElem?_set]
  by_cases ab:a - 1=k
  ·rw[if_pos ab,if_pos (by rw[pc]; omega),if_pos ab.symm]
   rfl
  ·rw[if_neg ab,if_neg (fun e=>ab e.symm),List.getElem?_append,List.getD_eq_getElem?_getD]
   by_cases p3:k < l.length
   ·rw[if_pos p3]
   ·rw[if_neg p3,List.drop_replicate,List.getElem?_replicate,List.getElem?_eq_none (by omega)]
    split<;>rfl
 have kV:(0:Int) < (a:Int):=by omega
 have aC:((a:Int) - 1).toNat=a - 1:=by omega
 unfold nV;simp only[uN,bc,Int.reduceEq,Int.reduceLT,Int.reduceLE,reduceCtorEq,List.length_replicate,pc,kV,aC,<- ar];refine⟨by and_intros<;>first | omega | (simp only[bN]; omega) | exact this | trivial,by and_intros<;>first | omega | (simp only[bN]; omega) | exact this | trivial,by and_intros<;>first | omega | (simp only[bN]; omega) | exact this | trivial,?_⟩;refine(aeG bd X (by omega)).mono ?_;rintro n ⟨m,rfl,hm,dN,bG⟩;have aL:∀ k,(X.take m).getD k []=if k=a - 1 then s else l.getD k []:=by
  intro k;rw[<- aeI,List.getD_eq_getElem?_getD,List.getElem?_take]
  by_cases ab:k < m
  ·rw[if_pos ab,List.getD_eq_getElem?_getD]
  ·rw[if_neg ab,bG k (by omega)]
   rfl
 have hs:∀ t∈X.take m,t=s\/t∈l\/t=[]:=by
  intro t aV;obtain⟨k,ab⟩:=List.mem_iff_getElem?.1 aV
  have:=aL k
  rw[b8 ab]at this
  split at this
  ·exact Or.inl this
  ·rw[List.getD_eq_getElem?_getD]at this
   cases ao:l[k]? with
   | none=>rw[ao]at this; exact Or.inr (Or.inr this)
   | some q=>rw[ao]at this; exact Or.inr (Or.inl (by rw[show t=q from this]; exact List.mem_of_getElem? ao))
 have hlen:(X.take m).length=m:=by rw[List.length_take]; omega
 have aB:fD (X.take m):=by
  refine⟨by omega,fun t aV=>?_,fun t aV=>?_⟩
  ·rcases hs t aV with e | e | e
   ·rw[e]; exact ak
   ·exact h.e9 t e
   ·rw[e]; exact Nat.zero_le _
  ·rcases hs t aV with e | e | e
   ·rw[e]; exact a6
   ·exact h.ok t e
   ·rw[e]; intro x aj; cases aj
 simp only[bc,Int.reduceEq,Int.reduceLT,Int.reduceLE,reduceCtorEq,bt (Ju N (X.take m) (by omega)),bt (Jv bd aB.len aB.e9)];exact⟨by and_intros<;>first | omega | (simp only[bN]; omega) | exact this | trivial,dN,aB,aL⟩
def aeJ(x:al) (l:List (List al)):Nat:=((List.range 40).map fun k=>(l.getD k []).count x).sum
theorem Dr(x:al) {l:List (List al)} (ad:l.length<=40):l.flatten.count x=aeJ x l:=by
 have key:∀ (m:List (List al)) (n:Nat),m.length<=n->m.flatten.count x=((List.range n).map fun k=>(m.getD k []).count x).sum:=by
  intro m
  induction m with
  | nil=>
   intro n _
   have:(List.range n).map (fun k=>(([]:List (List al)).getD k []).count x)=List.replicate n 0:=by
    rw[List.eq_replicate_iff];refine⟨by simp,fun b ae=>?_⟩;obtain⟨k,_,rfl⟩:=List.mem_map.1 ae
    simp
   rw[this]
   simp
  | cons s m bA=>
   intro n a7;rw[List.length_cons]at a7;obtain⟨q,rfl⟩:∃ q,n=q+1:=⟨n - 1,by omega⟩
   rw[List.flatten_cons,List.count_append,bA q (by omega),List.range_succ_eq_map,List.map_cons,List.sum_cons,List.map_map]
   rfl
 exact key l 40 ad
end
section
open Go.RowKit
theorem swap_perm{α:Type} {l:List α} {i:Nat} {p q:α} (aN:0 < i) (aq:l[i]?=some p) (ao:l[i - 1]?=some q):((l.set i q).set (i - 1) p).Perm l:=by
 obtain⟨j,rfl⟩:∃ j,i=j+1:=⟨i - 1,by omega⟩
 rw[Nat.add_sub_cancel]at ao ⊢;have a8:=(List.getElem?_eq_some_iff.1 aq).1;have ad:l=l.take j++q :: p :: l.drop (j+2):=by
  conv=>lhs; rw[<- List.take_append_drop j l,rk ao,rk aq]
 have ag:(l.take j).length=j:=by rw[List.length_take]; omega
 obtain⟨A,cf⟩:∃ A,A=l.take j:=⟨_,rfl⟩
 obtain⟨B,mx⟩:∃ B,B=l.drop (j+2):=⟨_,rfl⟩
 rw[<- cf,<- mx]at ad;rw[<- cf]at ag;rw[ad];have aC:(A++q :: p :: B).set (j+1) q=A++q :: q :: B:=by
  rw[List.set_append_right _ _ (by omega),ag,Nat.add_sub_cancel_left]
  rfl
 have aW:(A++q :: q :: B).set j p=A++p :: q :: B:=by
  rw[List.set_append_right _ _ (by omega),ag,Nat.sub_self]
  rfl
 rw[aC,aW];exact List.Perm.append_left A (List.Perm.swap q p B)
theorem aeK(N:Nat) (p q:cH):T (w1 N p q) fun _=>True:=by
 unfold w1 zD zC;simp only[bc,Int.reduceEq,Int.reduceLT,Int.reduceLE,reduceCtorEq]
theorem aeL{N:Nat} (bd:5000 < N) {L:List cH} (ad:L.length<=1000):∀ (i:Nat) (M:List cH),M.Perm L->i < M.length->T (w2 N (0:Int) N ((i:Int),M)) fun R=>R.Perm L:=by
 intro i M bJ hi;have QH:=bJ.length_eq;unfold w2;refine lR (fun k d=>∃ (i:Nat) (M:List cH),i=k/\d=((i:Int),M)/\M.Perm L/\i < M.length) _ ?_ N i _ (by omega) ⟨i,M,rfl,rfl,bJ,hi⟩;rintro k d rec ⟨i,M,rfl,rfl,bJ,hi⟩ bY;have QH:=bJ.length_eq
 by_cases aN:i=0
 ·subst aN
  simp only[bc,Int.reduceEq,Int.reduceLT,Int.reduceLE,reduceCtorEq,show ¬ ((0:Int) < ((0:Nat):Int)) by omega];exact bJ
 ·have ln:(0:Int) < (i:Int):=by omega
  obtain⟨p,aq⟩:∃ p,M[i]?=some p:=⟨_,List.getElem?_eq_getElem hi⟩
  obtain⟨q,ao⟩:∃ q,M[i - 1]?=some q:=⟨_,List.getElem?_eq_getElem (by omega)⟩
  have aC:((i:Int) - 1).toNat=i - 1:=by omega
  have aW:((i:Int) - 1)=((i - 1:Nat):Int):=by omega
  have vT:=(swap_perm (by omega) aq ao).trans bJ;have this:=bY (i - 1) ((i:Int) - 1,(M.set i q).set (i - 1) p) (by omega) ⟨i - 1,_,rfl,by rw[aW],vT,by rw[List.length_set,List.length_set]; omega⟩;simp only[bc,Int.reduceEq,Int.reduceLT,Int.reduceLE,reduceCtorEq,ln,aC,b8 aq,b8 ao,List.length_set];refine⟨by and_intros<;>first | omega | (simp only[bN]; omega) | exact this | trivial,(aeK N p q).mono fun r _=>⟨fun _=>?_,fun _=>bJ⟩⟩
  and_intros<;>first | omega | (simp only[bN]; omega) | exact this | trivial
theorem aeM{N:Nat} (bd:5000 < N) {L:List cH} (ad:L.length<=1000):T (uK N (0:Int) (L.length:Int) L) fun R=>R.Perm L:=by
 have dY:T (zT N (0:Int) (L.length:Int) N ((0:Int)+1,L)) fun R=>R.Perm L:=by
  unfold zT;refine lR (fun k d=>∃ (i:Nat) (M:List cH),i+k=L.length+1/\0 < i/\d=((i:Int),M)/\M.Perm L) _ ?_ N L.length _ (by omega) ⟨1,L,by omega,by omega,rfl,List.Perm.refl _⟩;rintro k d rec ⟨i,M,hi,aN,rfl,bJ⟩ bY;have QH:=bJ.length_eq
  by_cases a8:i < L.length
  ·have bg:(i:Int) < (L.length:Int):=by omega
   simp only[bc,Int.reduceEq,Int.reduceLT,Int.reduceLE,reduceCtorEq,bg];refine(aeL bd ad i M bJ (by omega)).mono fun R dT=>?_
   have this:=bY (k - 1) ((i:Int)+1,R) (by omega) ⟨i+1,R,by omega,by omega,rfl,dT⟩
   and_intros<;>first | omega | (simp only[bN]; omega) | exact this | trivial
  ·have bg:¬ (i:Int) < (L.length:Int):=by omega
   simp only[bc,Int.reduceEq,Int.reduceLT,Int.reduceLE,reduceCtorEq,bg];exact bJ
 unfold uK;rw[oA (c:=bp ((0:Int)+1)&&true) (by rfl)];simp only[bc,Int.reduceEq,Int.reduceLT,Int.reduceLE,reduceCtorEq];exact dY.mono fun R dT=>dT
theorem aeN{N:Nat} (bd:5000 < N) {L:List cH} (ad:L.length < 20):T (uL N L) fun R=>R.Perm L:=by
 obtain⟨n,a7⟩:∃ n,N=n+1:=⟨N - 1,by omega⟩
 have J:Jp N (L.length:Int) N ((0:Int),(20:Int),L)=some ((0:Int),L):=by
  rw[a7];show cond (decide ((20:Int)<=(L.length:Int))) _ (some ((0:Int),L))=_;rw[decide_eq_false (by omega)]
  rfl
 have au:Jq N (L.length:Int) N (20:Int)=some ():=by
  rw[a7];show cond (decide ((20:Int) < (L.length:Int))) _ (some ())=_;rw[decide_eq_false (by omega)]
  rfl
 unfold uL Da;simp only[bc,Int.reduceEq,Int.reduceLT,Int.reduceLE,reduceCtorEq,bt J,bt au];exact(aeM bd (by omega)).mono fun R dT=>dT
theorem aeO{N:Nat} (bd:5000 < N) {f g:List (List al)} (aA:fD f) (aL:fD g) (a7:(f.flatten++g.flatten).Nodup) {r:Int} (az:-4<=r/\r<=4) (aa:f.flatten.length+g.flatten.length < 20) :
  T (sG N (f,g) r) fun q=>q.1.Perm (fA f g r)/\q.2.2=0:=by
 have ab:wZ N r=some true:=by
  unfold wZ;rw[decide_eq_true az.1,decide_eq_true az.2]
  rfl
 have uO:w0 N (f,g) r=some 0:=by
  unfold w0
  apply T.eq
  simp only[bc,Int.reduceEq,Int.reduceLT,Int.reduceLE,reduceCtorEq,bt (wV bd aA aL a7 (by omega)),bt ab]
 have J:=Dp bd (b:=0) (Or.inl rfl) az aA [] (by rw[List.length_nil]; omega);rw[List.nil_append]at J;have U:=Dp bd (b:=1) (Or.inr rfl) az aL (hX 0 r 0 f) (by rw[w8]; omega);have hlen:=w9 f g r;unfold sG;simp only[bc,Int.reduceEq,Int.reduceLT,Int.reduceLE,reduceCtorEq,bt uO,bt (Jl bd aA.len aL.len (by omega)),bt J,bt U];refine⟨by and_intros<;>first | omega | (simp only[bN]; omega) | exact this | trivial,?_⟩;refine(aeN bd (L:=fA f g r) (by omega)).mono fun R dT=>?_
 have Aa:=dT.length_eq;simp only[bc,Int.reduceEq,Int.reduceLT,Int.reduceLE,reduceCtorEq,bt (QC N R (by omega))];exact dT
theorem QI{N:Nat} (bd:5000 < N) {f g:List (List al)} (aA:fD f) (aL:fD g) (a7:(f.flatten++g.flatten).Nodup) {r:Int} (az:-4<=r/\r<=4) (aa:f.flatten.length+g.flatten.length < 20) :
  T (qr N (f,g) r) fun H=>H.Perm (f.flatten++g.flatten):=by
 unfold qr;simp only[bc,Int.reduceEq,Int.reduceLT,Int.reduceLE,reduceCtorEq];refine(aeO bd aA aL a7 az aa).mono ?_;rintro⟨R,c,e⟩ ⟨dT,he⟩;have Aa:=dT.length_eq;have hlen:=w9 f g r;have dY:w7 N (R,c,e) N ((0:Int),List.replicate (R.length:Int).toNat (aK.zero:al))=some (R.map fun p:cH=>p.1):=by
  rw[<- Pg (fun p:cH=>p.1) (aK.zero:al) R];unfold w7;refine e8 (fun k d=>∃ i:Nat,i+k=R.length/\d=((i:Int),lQ (fun p:cH=>p.1) (aK.zero:al) R i)) _ ?_ N R.length _ (by dsimp only at Aa; omega) ⟨0,by omega,by rw[Pf]; rfl⟩;rintro k d rec ⟨i,hi,rfl⟩ bY
  apply T.eq
  by_cases a8:i < R.length
  ·obtain⟨x,aj⟩:∃ x,R[i]?=some x:=⟨_,List.getElem?_eq_getElem a8⟩
   have bg:(i:Int) < (R.length:Int):=by omega
   have cv:=Ph (fun p:cH=>p.1) (aK.zero:al) R i (by omega);have this:T (rec ((i:Int)+1,lQ (fun p:cH=>p.1) (aK.zero:al) R (i+1))) (·=lQ (fun p:cH=>p.1) (aK.zero:al) R R.length):=⟨_,bY (k - 1) _ (by omega) ⟨i+1,by omega,rfl⟩,rfl⟩
   have fX:=H7 (fun p:cH=>p.1) (aK.zero:al) R i a8 x aj;have aeP:R.length < 20:=by dsimp only at Aa; omega
   simp only[bc,Int.reduceEq,Int.reduceLT,Int.reduceLE,reduceCtorEq,bg,b8 aj,cv,fX]
   and_intros<;>first | omega | (simp only[bN]; omega) | exact this | trivial
  ·have bg:¬ (i:Int) < (R.length:Int):=by omega
   simp only[bc,Int.reduceEq,Int.reduceLT,Int.reduceLE,reduceCtorEq,bg];rw[show i=R.length by omega]
 have aeP:R.length < 20:=by dsimp only at Aa; omega
 rw[Int.toNat_natCast]at dY;simp only[bc,Int.reduceEq,Int.reduceLT,Int.reduceLE,reduceCtorEq,bt dY];refine⟨by and_intros<;>first | omega | (simp only[bN]; omega) | exact this | trivial,?_⟩
 have:=dT.map fun p:cH=>p.1
 rw[QD]at this;exact this
end
section
open Go.RowKit
end
section
open Go.RowKit
theorem aeQ{α:Type} (z:α) {N:Nat} (l:List α) (bd:l.length < N) (h:l.length<=100000):cx (fun(d1:Int×Int×List α) dG=>
  cond (decide (d1.1 < d1.2.1)) (aw ((bl d1.2.1 d1.2.2.length)&&((decide (d1.2.1.toNat < d1.2.2.length))&&((bl d1.1 d1.2.2.length)&&((decide (d1.1.toNat < d1.2.2.length))&&((bl d1.1 d1.2.2.length)&&(((decide (d1.1.toNat < d1.2.2.length))&&(true))&&((bl d1.2.1 (d1.2.2.set d1.1.toNat (d1.2.2.getD d1.2.1.toNat z)).length)&&(((decide (d1.2.1.toNat < (d1.2.2.set d1.1.toNat (d1.2.2.getD d1.2.1.toNat z)).length))&&(true))&&(true))))))))) <|
  aw ((bp (d1.1+(1:Int)))&&((bp (d1.2.1 - (1:Int)))&&(true))) <|
  dG ((d1.1+(1:Int)),(d1.2.1 - (1:Int)),((d1.2.2.set d1.1.toNat (d1.2.2.getD d1.2.1.toNat z)).set d1.2.1.toNat (d1.2.2.getD d1.1.toNat z)))) (some d1.2.2)) N ((0:Int),((l.length:Int) - (1:Int)),l)=some l.reverse:=by
 refine e8 (fun k (d:Int×Int×List α)=>∃ i:Nat,i+k=l.length/\d.1=i/\d.2.1=(l.length:Int) - 1 - i/\d.2.2.length=l.length/\∀ x,x < l.length->d.2.2[x]?=if x < i\/l.length<=x+i then l[l.length - 1 - x]? else l[x]?) _ ?_ N l.length _ (by omega) ⟨0,by omega,rfl,by simp,rfl,fun x aj=>by rw[if_neg (by omega)]⟩;rintro k ⟨d1,d2,l'⟩ rec ⟨i,hi,aC,aW,hlen,aj⟩ bY;dsimp only at aC aW hlen aj;subst aC;subst aW;dsimp only
 by_cases a8:2 * i+1 < l.length
 ·have cB:(l.length:Int) - 1 - (i:Int)=((l.length - 1 - i:Nat):Int):=by omega
  obtain⟨a,bo⟩:∃ a,l'[i]?=some a:=⟨_,List.getElem?_eq_getElem (by omega)⟩
  obtain⟨b,ae⟩:∃ b,l'[l.length - 1 - i]?=some b:=⟨_,List.getElem?_eq_getElem (by omega)⟩
  have aeR:l[i]?=some a:=by rw[<- bo,aj i (by omega),if_neg (by omega)]
  have dm:l[l.length - 1 - i]?=some b:=by rw[<- ae,aj _ (by omega),if_neg (by omega)]
  rw[cB,show decide ((i:Int) < ((l.length - 1 - i:Nat):Int))=true from decide_eq_true (by omega),cond_true,Int.toNat_natCast,Int.toNat_natCast,b8 bo,b8 ae];rw[oA (by simp[bl]; omega),oA (by rw[zt (by omega) (by omega),zt (by omega) (by omega)]; rfl)];refine bY (k - 1) _ (by omega) ⟨i+1,by omega,by simp,by dsimp only; omega,by simp[hlen],fun x iZ=>?_⟩;dsimp only;rw[List.getElem?_set,List.getElem?_set]
  by_cases fs:l.length - 1 - i=x
  ·subst fs
   rw[if_pos rfl,if_pos (by simp; omega),if_pos (by omega),show l.length - 1 - (l.length - 1 - i)=i by omega,aeR]
  ·rw[if_neg fs]
   by_cases cF:i=x
   ·subst cF
    rw[if_pos rfl,if_pos (by omega),if_pos (by omega),dm]
   ·rw[if_neg cF,aj x iZ]
    by_cases se:x < i\/l.length<=x+i
    ·rw[if_pos se,if_pos (by omega)]
    ·rw[if_neg se,if_neg (by omega)]
 ·rw[show decide ((i:Int) < (l.length:Int) - 1 - (i:Int))=false from decide_eq_false (by omega),cond_false]
  congr 1
  apply List.ext_getElem?
  intro x
  by_cases iZ:x < l.length
  ·rw[aj x iZ,List.getElem?_reverse iZ]
   by_cases se:x < i\/l.length<=x+i
   ·rw[if_pos se]
   ·rw[if_neg se]
    have:l.length - 1 - x=x:=by omega
    rw[this]
  ·rw[List.getElem?_eq_none (by omega),List.getElem?_eq_none (by simp; omega)]
theorem aeS{N:Nat} (l:List c1) (bd:l.length < N) (h:l.length<=100000):zw N l=some l.reverse:=by
 unfold zw;rw[oA (by rw[zt (by omega) (by omega)]; rfl),show PA N N ((0:Int),((l.length:Int) - (1:Int)),l)=some l.reverse from aeQ eb.zero l bd h,Option.bind_some]
theorem aeT{α:Type} {l:List (List α)} {j:Nat} {x:List α} (h:l[j]?=some x):(l.take (j+1)).flatten=(l.take j).flatten++x:=by
 obtain⟨J,U⟩:=List.getElem?_eq_some_iff.1 h;rw[List.take_succ_eq_append_getElem J,U,List.flatten_append]
 simp
end
section
open Go.RowKit
theorem QJ{α β:Type} (p:α×β):(p.1,p.2)=p:=rfl
def own{α:Type} (t:List (List α)):List (Bool×List α):=t.map fun x=>(true,x)
theorem uP{α:Type} (t:List (List α)):(own t).length=t.length:=by simp[own]
theorem aeU{α:Type} {t:List (List α)} {j:Nat} {x:List α} (h:t[j]?=some x):(own t)[j]?=some (true,x):=by simp[own,h]
theorem Ds{α:Type} {t:List (List α)} {j:Nat} {x:List α} (h:t[j]?=some x):(own t).getD j (false,[])=(true,x):=b8 (aeU h)
theorem JI{α:Type} (t:List (List α)) (j:Nat) (x:List α):(own t).set j (true,x)=own (t.set j x):=by simp[own,List.map_set]
theorem aeV{α:Type} (t:List (List α)):(own t).map (·.2)=t:=by simp[own,Function.comp_def]
theorem JJ{α:Type} {t:List (List α)} {j:Nat} {x:List α} (h:t[j]?=some x):(own t).set j (true,x)=own t:=by rw[JI,zu h]
theorem aeW{α:Type} (n:Nat):List.replicate n ((true,[]):Bool×List α)=own (List.replicate n []):=by simp[own]
theorem QK{t:List (List bB)} {j:Nat} {x:List bB} (h:t[j]?=some x):eo (t.take (j+1))=eo (t.take j)+x.length:=by
 obtain⟨J,U⟩:=List.getElem?_eq_some_iff.1 h;unfold eo;rw[List.take_succ_eq_append_getElem J,U]
 simp
theorem QL(t:List (List bB)) (j:Nat):eo (t.take j)<=eo t:=by
 unfold eo;have h:((t.take j).map List.length++(t.drop j).map List.length).sum=_:=List.sum_append;rw[<- List.map_append,List.take_append_drop]at h;omega
theorem QM{N:Nat} (t:List (List bB)) (bd:t.length < N) (h:t.length<=100000) (U:eo t<=100000):uA N t=some (eo t:Int):=by
 have dY:IE N t N ((0:Int),(0:Int))=some (eo t:Int):=by
  unfold IE;refine e8 (fun k d=>∃ j:Nat,j+k=t.length/\d=((eo (t.take j):Int),(j:Int))) _ ?_ N t.length _ (by omega) ⟨0,by omega,by simp[eo]⟩;rintro k d rec ⟨j,aR,rfl⟩ bY
  apply T.eq
  by_cases a8:j < t.length
  ·obtain⟨x,aj⟩:∃ x,t[j]?=some x:=⟨_,List.getElem?_eq_getElem a8⟩
   have bg:(j:Int) < (t.length:Int):=by omega
   have aA:=QK aj;have ad:=QL t (j+1);have this:T (rec ((eo (t.take j):Int)+(x.length:Int),(j:Int)+1)) (·=(eo t:Int)):=⟨_,bY (k - 1) _ (by omega) ⟨j+1,by omega,by rw[aA]; rfl⟩,rfl⟩
   simp only[bc,Int.reduceEq,Int.reduceLT,Int.reduceLE,reduceCtorEq,bg,b8 aj]
   and_intros<;>first | omega | (simp only[bN]; omega) | exact this | trivial
  ·have bg:¬ (j:Int) < (t.length:Int):=by omega
   simp only[bc,Int.reduceEq,Int.reduceLT,Int.reduceLE,reduceCtorEq,bg];rw[List.take_of_length_le (by omega)]
 unfold uA;rw[dY,Option.bind_some]
theorem aeX{N:Nat} (t:List (List bB)) (bd:t.length < N) (h:t.length<=100000) (U:eo t<=100000):zB N (own t)=some ((eo t:Int),own t):=by
 have dY:IF N (own t) N ((0:Int),(0:Int),own t)=some ((eo t:Int),own t):=by
  unfold IF;refine e8 (fun k d=>∃ j:Nat,j+k=t.length/\d=((eo (t.take j):Int),(j:Int),own t)) _ ?_ N t.length _ (by omega) ⟨0,by omega,by simp[eo]⟩;rintro k d rec ⟨j,aR,rfl⟩ bY
  apply T.eq
  by_cases a8:j < t.length
  ·obtain⟨x,aj⟩:∃ x,t[j]?=some x:=⟨_,List.getElem?_eq_getElem a8⟩
   have bg:(j:Int) < (t.length:Int):=by omega
   have aA:=QK aj;have ad:=QL t (j+1);have this:T (rec ((eo (t.take j):Int)+(x.length:Int),(j:Int)+1,own t)) (·=((eo t:Int),own t)):=⟨_,bY (k - 1) _ (by omega) ⟨j+1,by omega,by rw[aA]; rfl⟩,rfl⟩
   simp only[bc,Int.reduceEq,Int.reduceLT,Int.reduceLE,reduceCtorEq,uP,bg,Ds aj,JJ aj]
   and_intros<;>first | omega | (simp only[bN]; omega) | exact this | trivial
  ·have bg:¬ (j:Int) < (t.length:Int):=by omega
   simp only[bc,Int.reduceEq,Int.reduceLT,Int.reduceLE,reduceCtorEq,uP,bg];rw[List.take_of_length_le (by omega)]
 unfold zB;rw[dY,Option.bind_some]
structure Dt(t:List (List bB)):Prop where
 e9:t.length<=300
 row:∀ x∈t,x.length<=4096
 thr:∀ x∈t,∀ l∈x,l.2.2.1.length<=100000
 oC:∀ x∈t,∀ l∈x,l.2.2.2.length<=100000
theorem QN{α:Type} {t:List α} {j:Nat} {x:α} (h:t[j]?=some x) (z:α):(t.take j++List.replicate (t.length - j) z).set j x=t.take (j+1)++List.replicate (t.length - (j+1)) z:=by
 have J:=(List.getElem?_eq_some_iff.1 h).1
 have:=H7 (fun y:α=>y) z t j J x h
 simpa [lQ] using this
theorem aeY{α:Type} {t:List α} {j:Nat} {x:α} (h:t[j]?=some x) (z:α):(t.take (j+1)++List.replicate (t.length - (j+1)) z)[j]?=some x:=by
 have J:=(List.getElem?_eq_some_iff.1 h).1;rw[List.getElem?_append_left (by rw[List.length_take]; omega),List.getElem?_take_of_lt (by omega),h]
theorem QO{α:Type} {t:List α} {j:Nat} (h:j<=t.length) (z:α):(t.take j++List.replicate (t.length - j) z).length=t.length:=by simp; omega
end
section
open Go.RowKit
theorem uQ{y:Nat} (h:y < 6):IntKind.wrap .u8 ((y:Int)+1 - 1)=(y:Int):=by
 rw[H8 (by omega) (by omega)];omega
theorem ri.has{t:List (List bB)} {l:List al} (h:ri t l) {a:al} (bo:a∈l):gr t a:=by
 have:=h a
 rw[List.count_append]at this;have J:0 < l.count a:=List.count_pos_iff.2 bo
 by_cases cn:gr t a
 ·exact cn
 ·rw[if_neg cn]at this
  omega
end
section
open Go.RowKit
def rm(N:Nat) (a0:cS) (ay:Int) (a2:(List (List al))) (a3:(List (List al))) (a4:List (Bool×List bB)) (a5:List (fK×Int)) (b6:List cb) (ff:List al):Option (Int×Int×(List (List al))×(List (List al))×(List cb)):=
  aw ((bl (IntKind.wrap .u8 (a0.2.2.2.1 - (1:Int))) b6.length)&&(true)) <|
  aw ((decide ((IntKind.wrap .u8 (a0.2.2.2.1 - (1:Int))).toNat < b6.length))&&(true)) <|
  Option.bind (uz N (b6.getD (IntKind.wrap .u8 (a0.2.2.2.1 - (1:Int))).toNat b7.zero) a0.2.1) fun aH=>
  cond (decide (aH.2=(0:Int))) (aw ((bl (IntKind.wrap .u8 (a0.2.2.2.1 - (1:Int))) b6.length)&&(((decide ((IntKind.wrap .u8 (a0.2.2.2.1 - (1:Int))).toNat < b6.length))&&(true))&&(true))) <|
  some (aH.2,ay,a2,a3,(b6.set (IntKind.wrap .u8 (a0.2.2.2.1 - (1:Int))).toNat aH.1))) (some (aH.2,ay,a2,a3,b6))
noncomputable def Du (N:Nat) (a0:cS) (ay:Int) (a2:(List (List al))) (a3:(List (List al))) (a4:List (Bool×List bB)) (a5:List (fK×Int)) (b6:List cb) (ff:List al):Option (Int×Int×(List (List al))×(List (List al))×(List cb)):=
  aw ((bl (IntKind.wrap .u8 (a0.2.2.2.1 - (1:Int))) b6.length)&&(true)) <|
  eV (aw ((decide ((IntKind.wrap .u8 (a0.2.2.2.1 - (1:Int))).toNat < b6.length))&&(true)) <|
  eV (Option.bind (uz N (b6.getD (IntKind.wrap .u8 (a0.2.2.2.1 - (1:Int))).toNat b7.zero) a0.2.1) fun aH=>
  cond (decide (aH.2=(0:Int))) (aw ((bl (IntKind.wrap .u8 (a0.2.2.2.1 - (1:Int))) b6.length)&&(((decide ((IntKind.wrap .u8 (a0.2.2.2.1 - (1:Int))).toNat < b6.length))&&(true))&&(true))) <|
  some (aH.2,ay,a2,a3,(b6.set (IntKind.wrap .u8 (a0.2.2.2.1 - (1:Int))).toNat aH.1))) (some (aH.2,ay,a2,a3,b6))) (Option.bind (uz N (b6.getD (IntKind.wrap .u8 (a0.2.2.2.1 - (1:Int))).toNat b7.zero) a0.2.1) fun aH=>
  cond (decide (aH.2=(0:Int))) (aw ((bl (IntKind.wrap .u8 (a0.2.2.2.1 - (1:Int))) b6.length)&&(((decide ((IntKind.wrap .u8 (a0.2.2.2.1 - (1:Int))).toNat < b6.length))&&(true))&&(true))) <|
  some (aH.2,ay,a2,a3,(b6.set (IntKind.wrap .u8 (a0.2.2.2.1 - (1:Int))).toNat aH.1))) (some (aH.2,ay,a2,a3,b6)))) (aw ((decide ((IntKind.wrap .u8 (a0.2.2.2.1 - (1:Int))).toNat < b6.length))&&(true)) <|
  Option.bind (uz N (b6.getD (IntKind.wrap .u8 (a0.2.2.2.1 - (1:Int))).toNat b7.zero) a0.2.1) fun aH=>
  cond (decide (aH.2=(0:Int))) (aw ((bl (IntKind.wrap .u8 (a0.2.2.2.1 - (1:Int))) b6.length)&&(((decide ((IntKind.wrap .u8 (a0.2.2.2.1 - (1:Int))).toNat < b6.length))&&(true))&&(true))) <|
  some (aH.2,ay,a2,a3,(b6.set (IntKind.wrap .u8 (a0.2.2.2.1 - (1:Int))).toNat aH.1))) (some (aH.2,ay,a2,a3,b6)))
theorem aeZ:Du=rm:=by
 unfold Du rm;simp only[nI]
noncomputable def ae0 (N:Nat):bI bU:=nO N b2 (by kernel_rfl) [.c (.raw (.ptr 1000000 0)),.c9 dW] [(1000000,.cells 172 [.int .i64,.bn (.an aK),.bn (.an aK),.raw (.an 2000000),.raw (.an 2000001),.raw (.cp 1000001),.raw (.an 1000002)]),(2000001,.b5 118 113 ck),(1000001,.mp hV (.int .i64)),(2000000,.row 73 b7),(1000002,.row 102 aK)] ⟨.a (.c (.int .i64)),[(1000000,.cells 172 [.int .i64,.bn (.an aK),.bn (.an aK),.raw (.an 2000000),.raw (.an 2000001),.raw (.cp 1000001),.raw (.an 1000002)]),(2000000,.row 73 b7)],[2000001,1000001,1000002]⟩ [acO N] [] (.s (.r [.n 2,.w (.ca 3 dW)]) (.s (.hk [] [4,5,6,8,9,10,15,1000011,1000016] (.b [.t 0 0,.t 1 0,.t 2 0,.t 3 3,.t 4 0,.t 5 1,.t 6 0,.t 7 0,.t 9 0,.t 10 1] 8 15 [] [] none none (.b [] 11 15 [] [] none none (.f [.m 12,.t 13 0,.t 14 0,.s 15,.s 16,.t 17 0]) (.f [.c 11 [],.m 12,.t 13 0,.t 14 0,.s 16,.t 17 0])) (.f [.f,.k 8,.c 11 [],.m 12,.t 13 0,.t 14 0,.s 16,.t 17 0])) [(.ca 5 b7)] false) (.s (.s .d (.c (.o [4,5,6,7] [.t 0 0,.t 1 0,.t 2 0,.t 3 3,.t 4 0,.t 5 1,.t 6 0,.t 7 1,.t 8 0,.s 9] []) .d)) .d))) [.tmp 4] 94 (0,0,[],[],[]) (fun d=>Du N d.1 d.2.1 d.2.2.1 d.2.2.2.1 d.2.2.2.2.1 d.2.2.2.2.2.1 d.2.2.2.2.2.2.1 d.2.2.2.2.2.2.2.1) (fun d=>rm N d.1 d.2.1 d.2.2.1 d.2.2.2.1 d.2.2.2.2.1 d.2.2.2.2.2.1 d.2.2.2.2.2.2.1 d.2.2.2.2.2.2.2.1) (fun d=>(by rw[aeZ]:Du N d.1 d.2.1 d.2.2.1 d.2.2.2.1 d.2.2.2.2.1 d.2.2.2.2.2.1 d.2.2.2.2.2.2.1 d.2.2.2.2.2.2.2.1=rm N d.1 d.2.1 d.2.2.1 d.2.2.2.1 d.2.2.2.2.1 d.2.2.2.2.2.1 d.2.2.2.2.2.2.1 d.2.2.2.2.2.2.2.1)) Tryz.func94 rfl rfl Tryz.ntmps94 rfl rfl rfl (fun d=>by kernel_rfl)
def xb(N:Nat) (a0:cb):Option (cb×Int):=
  Option.bind (re N a0) fun aH=>
  cond (!(decide (aH=(0:Int)))) (some ((false,((0:Int),((0:Int),(false,([]:List c1))))),aH)) (cond (!a0.1) (some ((false,((0:Int),((0:Int),(false,([]:List c1))))),(12:Int))) (some ((false,((0:Int),(a0.2.2.1,(false,([]:List c1))))),(0:Int))))
noncomputable def ae1 (N:Nat):bI bU:=cj N b2 (by kernel_rfl) [.c9 b7] [] ⟨.da [.c9 b7,.c (.int .i64)],[],[]⟩ [zA N] [] (.s (.r [.n 3,.w (.ca 1 b7)]) .d) [.cell 2 73,.tmp 3] 129 (b7.zero,0) (fun d=>xb N d.1) Tryz.func129 rfl rfl Tryz.ntmps129 rfl rfl rfl (fun d=>by kernel_rfl)
def rn(N:Nat) (a0:cS) (ay:Int) (a2:(List (List al))) (a3:(List (List al))) (a4:List (Bool×List bB)) (a5:List (fK×Int)) (b6:List cb) (ff:List al):Option (Int×Int×(List (List al))×(List (List al))×(List cb)):=
  aw ((bl (IntKind.wrap .u8 (a0.2.2.2.1 - (1:Int))) b6.length)&&((decide ((IntKind.wrap .u8 (a0.2.2.2.1 - (1:Int))).toNat < b6.length))&&(true))) <|
  Option.bind (xb N (b6.getD (IntKind.wrap .u8 (a0.2.2.2.1 - (1:Int))).toNat b7.zero)) fun aH=>
  cond (decide (aH.2=(0:Int))) (aw ((bl (IntKind.wrap .u8 (a0.2.2.2.1 - (1:Int))) b6.length)&&(((decide ((IntKind.wrap .u8 (a0.2.2.2.1 - (1:Int))).toNat < b6.length))&&(true))&&(true))) <|
  some (aH.2,ay,a2,a3,(b6.set (IntKind.wrap .u8 (a0.2.2.2.1 - (1:Int))).toNat aH.1))) (some (aH.2,ay,a2,a3,b6))
noncomputable def Dv (N:Nat) (a0:cS) (ay:Int) (a2:(List (List al))) (a3:(List (List al))) (a4:List (Bool×List bB)) (a5:List (fK×Int)) (b6:List cb) (ff:List al):Option (Int×Int×(List (List al))×(List (List al))×(List cb)):=
  aw ((bl (IntKind.wrap .u8 (a0.2.2.2.1 - (1:Int))) b6.length)&&((decide ((IntKind.wrap .u8 (a0.2.2.2.1 - (1:Int))).toNat < b6.length))&&(true))) <|
  eV (Option.bind (xb N (b6.getD (IntKind.wrap .u8 (a0.2.2.2.1 - (1:Int))).toNat b7.zero)) fun aH=>
  cond (decide (aH.2=(0:Int))) (aw ((bl (IntKind.wrap .u8 (a0.2.2.2.1 - (1:Int))) b6.length)&&(((decide ((IntKind.wrap .u8 (a0.2.2.2.1 - (1:Int))).toNat < b6.length))&&(true))&&(true))) <|
  some (aH.2,ay,a2,a3,(b6.set (IntKind.wrap .u8 (a0.2.2.2.1 - (1:Int))).toNat aH.1))) (some (aH.2,ay,a2,a3,b6))) (Option.bind (xb N (b6.getD (IntKind.wrap .u8 (a0.2.2.2.1 - (1:Int))).toNat b7.zero)) fun aH=>
  cond (decide (aH.2=(0:Int))) (aw ((bl (IntKind.wrap .u8 (a0.2.2.2.1 - (1:Int))) b6.length)&&(((decide ((IntKind.wrap .u8 (a0.2.2.2.1 - (1:Int))).toNat < b6.length))&&(true))&&(true))) <|
  some (aH.2,ay,a2,a3,(b6.set (IntKind.wrap .u8 (a0.2.2.2.1 - (1:Int))).toNat aH.1))) (some (aH.2,ay,a2,a3,b6)))
theorem ae2:Dv=rn:=by
 unfold Dv rn;simp only[nI]
noncomputable def ae3 (N:Nat):bI bU:=nO N b2 (by kernel_rfl) [.c (.raw (.ptr 1000000 0)),.c9 dW] [(1000000,.cells 172 [.int .i64,.bn (.an aK),.bn (.an aK),.raw (.an 2000000),.raw (.an 2000001),.raw (.cp 1000001),.raw (.an 1000002)]),(2000001,.b5 118 113 ck),(1000001,.mp hV (.int .i64)),(2000000,.row 73 b7),(1000002,.row 102 aK)] ⟨.a (.c (.int .i64)),[(1000000,.cells 172 [.int .i64,.bn (.an aK),.bn (.an aK),.raw (.an 2000000),.raw (.an 2000001),.raw (.cp 1000001),.raw (.an 1000002)]),(2000000,.row 73 b7)],[2000001,1000001,1000002]⟩ [ae1 N] [] (.s (.r [.n 2,.w (.ca 3 dW)]) (.s (.hk [] [4,5,6,13,1000009,1000014] (.b [.t 0 0,.t 1 0,.t 2 0,.t 3 3,.t 4 0,.t 5 1,.t 6 0,.t 7 0,.t 8 3] 9 13 [] [] none none (.f [.m 10,.t 11 0,.t 12 0,.s 13,.s 14,.t 15 0]) (.f [.c 9 [],.m 10,.t 11 0,.t 12 0,.s 14,.t 15 0])) [(.ca 5 b7)] true) (.s (.s .d (.c (.o [4,5,6,7] [.t 0 0,.t 1 0,.t 2 0,.t 3 3,.t 4 0,.t 5 1,.t 6 0,.t 7 1,.t 8 0,.s 9] []) .d)) .d))) [.tmp 4] 95 (0,0,[],[],[]) (fun d=>Dv N d.1 d.2.1 d.2.2.1 d.2.2.2.1 d.2.2.2.2.1 d.2.2.2.2.2.1 d.2.2.2.2.2.2.1 d.2.2.2.2.2.2.2.1) (fun d=>rn N d.1 d.2.1 d.2.2.1 d.2.2.2.1 d.2.2.2.2.1 d.2.2.2.2.2.1 d.2.2.2.2.2.2.1 d.2.2.2.2.2.2.2.1) (fun d=>(by rw[ae2]:Dv N d.1 d.2.1 d.2.2.1 d.2.2.2.1 d.2.2.2.2.1 d.2.2.2.2.2.1 d.2.2.2.2.2.2.1 d.2.2.2.2.2.2.2.1=rn N d.1 d.2.1 d.2.2.1 d.2.2.2.1 d.2.2.2.2.1 d.2.2.2.2.2.1 d.2.2.2.2.2.2.1 d.2.2.2.2.2.2.2.1)) Tryz.func95 rfl rfl Tryz.ntmps95 rfl rfl rfl (fun d=>by kernel_rfl)
def nj(N:Nat) (a0:cS) (ay:Int) (a2:(List (List al))) (a3:(List (List al))) (a4:List (Bool×List bB)) (a5:List (fK×Int)) (b6:List cb) (ff:List al):Option (Int×Int×Int×Int×(List (List al))×(List (List al))):=
  aw ((bl (IntKind.wrap .u8 (a0.2.2.2.1 - (1:Int))) b6.length)&&(true)) <|
  aw ((decide ((IntKind.wrap .u8 (a0.2.2.2.1 - (1:Int))).toNat < b6.length))&&(true)) <|
  Option.bind (lV N a0.2.2.1 ay) fun aH=>
  cond (!(b6.getD (IntKind.wrap .u8 (a0.2.2.2.1 - (1:Int))).toNat b7.zero).1) (some ((0:Int),(0:Int),(12:Int),ay,a2,a3)) (cond (decide (a0.2.1=(1:Int))) (cond (decide (aH < (b6.getD (IntKind.wrap .u8 (a0.2.2.2.1 - (1:Int))).toNat b7.zero).2.1)) (some ((0:Int),(0:Int),(12:Int),ay,a2,a3)) (aw ((bp (aH+(1:Int)))&&(true)) <|
  some ((aH+(1:Int)),aH,(0:Int),ay,a2,a3))) (cond (decide ((b6.getD (IntKind.wrap .u8 (a0.2.2.2.1 - (1:Int))).toNat b7.zero).2.1 < aH)) (some ((0:Int),(0:Int),(12:Int),ay,a2,a3)) (aw ((bp (aH - (1:Int)))&&(true)) <|
  some ((aH - (1:Int)),aH,(0:Int),ay,a2,a3))))
noncomputable def Dw (N:Nat) (a0:cS) (ay:Int) (a2:(List (List al))) (a3:(List (List al))) (a4:List (Bool×List bB)) (a5:List (fK×Int)) (b6:List cb) (ff:List al):Option (Int×Int×Int×Int×(List (List al))×(List (List al))):=
  aw ((bl (IntKind.wrap .u8 (a0.2.2.2.1 - (1:Int))) b6.length)&&(true)) <|
  eV (aw ((decide ((IntKind.wrap .u8 (a0.2.2.2.1 - (1:Int))).toNat < b6.length))&&(true)) <|
  eV (Option.bind (lV N a0.2.2.1 ay) fun aH=>
  cond (!(b6.getD (IntKind.wrap .u8 (a0.2.2.2.1 - (1:Int))).toNat b7.zero).1) (some ((0:Int),(0:Int),(12:Int),ay,a2,a3)) (cond (decide (a0.2.1=(1:Int))) (cond (decide (aH < (b6.getD (IntKind.wrap .u8 (a0.2.2.2.1 - (1:Int))).toNat b7.zero).2.1)) (some ((0:Int),(0:Int),(12:Int),ay,a2,a3)) (aw ((bp (aH+(1:Int)))&&(true)) <|
  some ((aH+(1:Int)),aH,(0:Int),ay,a2,a3))) (cond (decide ((b6.getD (IntKind.wrap .u8 (a0.2.2.2.1 - (1:Int))).toNat b7.zero).2.1 < aH)) (some ((0:Int),(0:Int),(12:Int),ay,a2,a3)) (aw ((bp (aH - (1:Int)))&&(true)) <|
  some ((aH - (1:Int)),aH,(0:Int),ay,a2,a3))))) (Option.bind (lV N a0.2.2.1 ay) fun aH=>
  cond (!(b6.getD (IntKind.wrap .u8 (a0.2.2.2.1 - (1:Int))).toNat b7.zero).1) (some ((0:Int),(0:Int),(12:Int),ay,a2,a3)) (cond (decide (a0.2.1=(1:Int))) (cond (decide (aH < (b6.getD (IntKind.wrap .u8 (a0.2.2.2.1 - (1:Int))).toNat b7.zero).2.1)) (some ((0:Int),(0:Int),(12:Int),ay,a2,a3)) (aw ((bp (aH+(1:Int)))&&(true)) <|
  some ((aH+(1:Int)),aH,(0:Int),ay,a2,a3))) (cond (decide ((b6.getD (IntKind.wrap .u8 (a0.2.2.2.1 - (1:Int))).toNat b7.zero).2.1 < aH)) (some ((0:Int),(0:Int),(12:Int),ay,a2,a3)) (aw ((bp (aH - (1:Int)))&&(true)) <|
  some ((aH - (1:Int)),aH,(0:Int),ay,a2,a3)))))) (eV (Option.bind (lV N a0.2.2.1 ay) fun aH=>
  eV (aw ((decide ((IntKind.wrap .u8 (a0.2.2.2.1 - (1:Int))).toNat < b6.length))&&(true)) <|
  cond (!(b6.getD (IntKind.wrap .u8 (a0.2.2.2.1 - (1:Int))).toNat b7.zero).1) (some ((0:Int),(0:Int),(12:Int),ay,a2,a3)) (cond (decide (a0.2.1=(1:Int))) (cond (decide (aH < (b6.getD (IntKind.wrap .u8 (a0.2.2.2.1 - (1:Int))).toNat b7.zero).2.1)) (some ((0:Int),(0:Int),(12:Int),ay,a2,a3)) (aw ((bp (aH+(1:Int)))&&(true)) <|
  some ((aH+(1:Int)),aH,(0:Int),ay,a2,a3))) (cond (decide ((b6.getD (IntKind.wrap .u8 (a0.2.2.2.1 - (1:Int))).toNat b7.zero).2.1 < aH)) (some ((0:Int),(0:Int),(12:Int),ay,a2,a3)) (aw ((bp (aH - (1:Int)))&&(true)) <|
  some ((aH - (1:Int)),aH,(0:Int),ay,a2,a3))))) (aw ((decide ((IntKind.wrap .u8 (a0.2.2.2.1 - (1:Int))).toNat < b6.length))&&(true)) <|
  cond (!(b6.getD (IntKind.wrap .u8 (a0.2.2.2.1 - (1:Int))).toNat b7.zero).1) (some ((0:Int),(0:Int),(12:Int),ay,a2,a3)) (cond (decide (a0.2.1=(1:Int))) (cond (decide (aH < (b6.getD (IntKind.wrap .u8 (a0.2.2.2.1 - (1:Int))).toNat b7.zero).2.1)) (some ((0:Int),(0:Int),(12:Int),ay,a2,a3)) (aw ((bp (aH+(1:Int)))&&(true)) <|
  some ((aH+(1:Int)),aH,(0:Int),ay,a2,a3))) (cond (decide ((b6.getD (IntKind.wrap .u8 (a0.2.2.2.1 - (1:Int))).toNat b7.zero).2.1 < aH)) (some ((0:Int),(0:Int),(12:Int),ay,a2,a3)) (aw ((bp (aH - (1:Int)))&&(true)) <|
  some ((aH - (1:Int)),aH,(0:Int),ay,a2,a3)))))) (eV (aw ((decide ((IntKind.wrap .u8 (a0.2.2.2.1 - (1:Int))).toNat < b6.length))&&(true)) <|
  Option.bind (lV N a0.2.2.1 ay) fun aH=>
  cond (!(b6.getD (IntKind.wrap .u8 (a0.2.2.2.1 - (1:Int))).toNat b7.zero).1) (some ((0:Int),(0:Int),(12:Int),ay,a2,a3)) (cond (decide (a0.2.1=(1:Int))) (cond (decide (aH < (b6.getD (IntKind.wrap .u8 (a0.2.2.2.1 - (1:Int))).toNat b7.zero).2.1)) (some ((0:Int),(0:Int),(12:Int),ay,a2,a3)) (aw ((bp (aH+(1:Int)))&&(true)) <|
  some ((aH+(1:Int)),aH,(0:Int),ay,a2,a3))) (cond (decide ((b6.getD (IntKind.wrap .u8 (a0.2.2.2.1 - (1:Int))).toNat b7.zero).2.1 < aH)) (some ((0:Int),(0:Int),(12:Int),ay,a2,a3)) (aw ((bp (aH - (1:Int)))&&(true)) <|
  some ((aH - (1:Int)),aH,(0:Int),ay,a2,a3))))) (Option.bind (lV N a0.2.2.1 ay) fun aH=>
  aw ((decide ((IntKind.wrap .u8 (a0.2.2.2.1 - (1:Int))).toNat < b6.length))&&(true)) <|
  cond (!(b6.getD (IntKind.wrap .u8 (a0.2.2.2.1 - (1:Int))).toNat b7.zero).1) (some ((0:Int),(0:Int),(12:Int),ay,a2,a3)) (cond (decide (a0.2.1=(1:Int))) (cond (decide (aH < (b6.getD (IntKind.wrap .u8 (a0.2.2.2.1 - (1:Int))).toNat b7.zero).2.1)) (some ((0:Int),(0:Int),(12:Int),ay,a2,a3)) (aw ((bp (aH+(1:Int)))&&(true)) <|
  some ((aH+(1:Int)),aH,(0:Int),ay,a2,a3))) (cond (decide ((b6.getD (IntKind.wrap .u8 (a0.2.2.2.1 - (1:Int))).toNat b7.zero).2.1 < aH)) (some ((0:Int),(0:Int),(12:Int),ay,a2,a3)) (aw ((bp (aH - (1:Int)))&&(true)) <|
  some ((aH - (1:Int)),aH,(0:Int),ay,a2,a3)))))))
theorem ae4:Dw=nj:=by
 unfold Dw nj
 funext; simp (disch:=simp only[abn,abo,abm]) only[abp]
noncomputable def JK (N:Nat):bI bU:=nO N b2 (by kernel_rfl) [.c (.raw (.ptr 1000000 0)),.c9 dW] [(1000000,.cells 172 [.int .i64,.bn (.an aK),.bn (.an aK),.raw (.an 2000000),.raw (.an 2000001),.raw (.cp 1000001),.raw (.an 1000002)]),(2000001,.b5 118 113 ck),(1000001,.mp hV (.int .i64)),(2000000,.row 73 b7),(1000002,.row 102 aK)] ⟨.da [.c (.int .i64),.c (.int .i64),.c (.int .i64)],[(1000000,.cells 172 [.int .i64,.bn (.an aK),.bn (.an aK),.raw (.an 2000000),.raw (.an 2000001),.raw (.cp 1000001),.raw (.an 1000002)])],[2000001,1000001,2000000,1000002]⟩ [Jm N] [] (.s (.r [.n 4,.w (.ca 3 dW)]) (.s (.hk [] [4,5,6,8,9,10,11,12,13,14,15,16,1000017] (.t [.t 0 0,.t 1 0,.t 2 0,.t 3 3,.t 4 0,.t 5 1,.t 6 0,.t 7 0,.t 9 0,.t 10 1,.t 11 0,.t 12 0,.t 13 0,.t 14 3] 8 15 16 [] [] [] none none none (.b [] 15 16 [] [] none none (.f [.k 16,.s 17,.t 18 0]) (.f [.c 15 [],.s 17,.t 18 0])) (.b [.f] 8 16 [] [] none none (.f [.k 16,.s 17,.t 18 0]) (.f [.f,.k 8,.s 17,.t 18 0])) (.b [.f] 8 15 [] [] none none (.f [.c 15 [],.s 17,.t 18 0]) (.f [.f,.k 8,.s 17,.t 18 0]))) [(.ca 7 b7)] false) .d)) [.tmp 4,.tmp 5,.tmp 6] 131 (0,0,0,0,[],[]) (fun d=>Dw N d.1 d.2.1 d.2.2.1 d.2.2.2.1 d.2.2.2.2.1 d.2.2.2.2.2.1 d.2.2.2.2.2.2.1 d.2.2.2.2.2.2.2.1) (fun d=>nj N d.1 d.2.1 d.2.2.1 d.2.2.2.1 d.2.2.2.2.1 d.2.2.2.2.2.1 d.2.2.2.2.2.2.1 d.2.2.2.2.2.2.2.1) (fun d=>(by rw[ae4]:Dw N d.1 d.2.1 d.2.2.1 d.2.2.2.1 d.2.2.2.2.1 d.2.2.2.2.2.1 d.2.2.2.2.2.2.1 d.2.2.2.2.2.2.2.1=nj N d.1 d.2.1 d.2.2.1 d.2.2.2.1 d.2.2.2.2.1 d.2.2.2.2.2.1 d.2.2.2.2.2.2.1 d.2.2.2.2.2.2.2.1)) Tryz.func131 rfl rfl Tryz.ntmps131 rfl rfl rfl (fun d=>by kernel_rfl)
def nk(N:Nat) (a0:Int) (ay:Int) (a2:Int) (a3:Int) (a4:(List (List al))) (a5:(List (List al))) (b6:List (Bool×List bB)) (ff:List (fK×Int)) (ec:List cb) (a9:List al):Option (Int×Int×(List (List al))×(List (List al))×(List cb)):=
  Option.bind (sG N (a4,a5) a3) fun aH=>
  cond (!(decide (aH.2.2=(0:Int)))) (some (aH.2.2,a3,a4,a5,ec)) (aw ((bl (IntKind.wrap .u8 (a0 - (1:Int))) ec.length)&&((decide ((IntKind.wrap .u8 (a0 - (1:Int))).toNat < ec.length))&&(true))) <|
  Option.bind (qa N aH.1 (ec.getD (IntKind.wrap .u8 (a0 - (1:Int))).toNat b7.zero).2.1 a2) fun a1=>
  Option.bind (uy N (ec.getD (IntKind.wrap .u8 (a0 - (1:Int))).toNat b7.zero) ay a1.1) fun bD=>
  cond (decide (bD.2=(0:Int))) (aw ((bl (IntKind.wrap .u8 (a0 - (1:Int))) ec.length)&&(((decide ((IntKind.wrap .u8 (a0 - (1:Int))).toNat < ec.length))&&(true))&&(true))) <|
  some (bD.2,a3,a4,a5,(ec.set (IntKind.wrap .u8 (a0 - (1:Int))).toNat bD.1))) (some (bD.2,a3,a4,a5,ec)))
noncomputable def Dx (N:Nat) (a0:Int) (ay:Int) (a2:Int) (a3:Int) (a4:(List (List al))) (a5:(List (List al))) (b6:List (Bool×List bB)) (ff:List (fK×Int)) (ec:List cb) (a9:List al):Option (Int×Int×(List (List al))×(List (List al))×(List cb)):=
  Option.bind (sG N (a4,a5) a3) fun aH=>
  cond (!(decide (aH.2.2=(0:Int)))) (some (aH.2.2,a3,a4,a5,ec)) (aw ((bl (IntKind.wrap .u8 (a0 - (1:Int))) ec.length)&&((decide ((IntKind.wrap .u8 (a0 - (1:Int))).toNat < ec.length))&&(true))) <|
  eV (Option.bind (qa N aH.1 (ec.getD (IntKind.wrap .u8 (a0 - (1:Int))).toNat b7.zero).2.1 a2) fun a1=>
  eV (Option.bind (uy N (ec.getD (IntKind.wrap .u8 (a0 - (1:Int))).toNat b7.zero) ay a1.1) fun bD=>
  cond (decide (bD.2=(0:Int))) (aw ((bl (IntKind.wrap .u8 (a0 - (1:Int))) ec.length)&&(((decide ((IntKind.wrap .u8 (a0 - (1:Int))).toNat < ec.length))&&(true))&&(true))) <|
  some (bD.2,a3,a4,a5,(ec.set (IntKind.wrap .u8 (a0 - (1:Int))).toNat bD.1))) (some (bD.2,a3,a4,a5,ec))) (Option.bind (uy N (ec.getD (IntKind.wrap .u8 (a0 - (1:Int))).toNat b7.zero) ay a1.1) fun bD=>
  cond (decide (bD.2=(0:Int))) (aw ((bl (IntKind.wrap .u8 (a0 - (1:Int))) ec.length)&&(((decide ((IntKind.wrap .u8 (a0 - (1:Int))).toNat < ec.length))&&(true))&&(true))) <|
  some (bD.2,a3,a4,a5,(ec.set (IntKind.wrap .u8 (a0 - (1:Int))).toNat bD.1))) (some (bD.2,a3,a4,a5,ec)))) (Option.bind (qa N aH.1 (ec.getD (IntKind.wrap .u8 (a0 - (1:Int))).toNat b7.zero).2.1 a2) fun a1=>
  Option.bind (uy N (ec.getD (IntKind.wrap .u8 (a0 - (1:Int))).toNat b7.zero) ay a1.1) fun bD=>
  cond (decide (bD.2=(0:Int))) (aw ((bl (IntKind.wrap .u8 (a0 - (1:Int))) ec.length)&&(((decide ((IntKind.wrap .u8 (a0 - (1:Int))).toNat < ec.length))&&(true))&&(true))) <|
  some (bD.2,a3,a4,a5,(ec.set (IntKind.wrap .u8 (a0 - (1:Int))).toNat bD.1))) (some (bD.2,a3,a4,a5,ec))))
theorem ae5:Dx=nk:=by
 unfold Dx nk;simp only[nI]
noncomputable def JL (N:Nat):bI bU:=nO N b2 (by kernel_rfl) [.c (.raw (.ptr 1000000 0)),.c (.int .u8),.c (.int .i64),.c (.int .i64)] [(1000000,.cells 172 [.int .i64,.bn (.an aK),.bn (.an aK),.raw (.an 2000000),.raw (.an 2000001),.raw (.cp 1000001),.raw (.an 1000002)]),(2000001,.b5 118 113 ck),(1000001,.mp hV (.int .i64)),(2000000,.row 73 b7),(1000002,.row 102 aK)] ⟨.a (.c (.int .i64)),[(1000000,.cells 172 [.int .i64,.bn (.an aK),.bn (.an aK),.raw (.an 2000000),.raw (.an 2000001),.raw (.cp 1000001),.raw (.an 1000002)]),(2000000,.row 73 b7)],[2000001,1000001,1000002]⟩ [Qn N,aec N,acN N] [] (.s .d (.s (.o [4,5,6,7] [.t 0 0,.t 1 0,.t 2 0,.t 3 3,.t 4 0,.t 5 0,.t 6 0,.t 7 3,.c 8 [],.m 9,.t 10 0,.t 11 0,.t 12 0,.t 13 0] []) (.s .d (.s (.r [.n 10,.w (.ca 11 b7)]) (.s (.hk [] [] (.b [.t 0 1,.t 1 0,.t 2 0,.t 3 0,.t 4 1,.t 5 0] 6 11 [] [] none none (.b [] 7 11 [] [] none none (.f [.m 8,.t 9 0,.t 10 0,.s 11,.s 12,.t 13 0]) (.f [.c 7 [],.m 8,.t 9 0,.t 10 0,.s 12,.t 13 0])) (.f [.c 6 [],.c 7 [],.m 8,.t 9 0,.t 10 0,.s 12,.t 13 0])) [(.ca 12 b7)] false) (.s (.s .d (.c (.o [4,5,6] [.t 0 0,.t 1 0,.t 2 0,.t 3 3,.t 4 0,.t 5 0,.t 6 1,.t 7 0,.s 8] []) .d)) .d)))))) [.tmp 8] 132 (0,0,[],[],[]) (fun d=>Dx N d.1 d.2.1 d.2.2.1 d.2.2.2.1 d.2.2.2.2.1 d.2.2.2.2.2.1 d.2.2.2.2.2.2.1 d.2.2.2.2.2.2.2.1 d.2.2.2.2.2.2.2.2.1 d.2.2.2.2.2.2.2.2.2.1) (fun d=>nk N d.1 d.2.1 d.2.2.1 d.2.2.2.1 d.2.2.2.2.1 d.2.2.2.2.2.1 d.2.2.2.2.2.2.1 d.2.2.2.2.2.2.2.1 d.2.2.2.2.2.2.2.2.1 d.2.2.2.2.2.2.2.2.2.1) (fun d=>(by rw[ae5]:Dx N d.1 d.2.1 d.2.2.1 d.2.2.2.1 d.2.2.2.2.1 d.2.2.2.2.2.1 d.2.2.2.2.2.2.1 d.2.2.2.2.2.2.2.1 d.2.2.2.2.2.2.2.2.1 d.2.2.2.2.2.2.2.2.2.1=nk N d.1 d.2.1 d.2.2.1 d.2.2.2.1 d.2.2.2.2.1 d.2.2.2.2.2.1 d.2.2.2.2.2.2.1 d.2.2.2.2.2.2.2.1 d.2.2.2.2.2.2.2.2.1 d.2.2.2.2.2.2.2.2.2.1)) Tryz.func132 rfl rfl Tryz.ntmps132 rfl rfl rfl (fun d=>by kernel_rfl)
end
section
open Go.RowKit
def ae6(N:Nat) (a0:cS) (ay:Int) (a2:(List (List al))) (a3:(List (List al))) (a4:List (Bool×List bB)) (a5:List (fK×Int)) (b6:List cb) (ff:List al):Option (Int×Int×(List (List al))×(List (List al))×(List (Bool×List bB))×(List (fK×Int))×(List cb)×(List al)):=
  none
noncomputable def ae7 (N:Nat):bI bU:=Pe [.c (.raw (.ptr 1000000 0)),.c9 dW] [(1000000,.cells 172 [.int .i64,.bn (.an aK),.bn (.an aK),.raw (.an 2000000),.raw (.an 2000001),.raw (.cp 1000001),.raw (.an 1000002)]),(2000001,.b5 118 113 ck),(1000001,.mp hV (.int .i64)),(2000000,.row 73 b7),(1000002,.row 102 aK)] ⟨.a (.c (.int .i64)),[(1000000,.cells 172 [.int .i64,.bn (.an aK),.bn (.an aK),.raw (.an 2000000),.raw (.an 2000001),.raw (.cp 1000001),.raw (.an 1000002)]),(2000001,.b5 118 113 ck),(1000001,.mp hV (.int .i64)),(2000000,.row 73 b7),(1000002,.row 102 aK)],[]⟩ 96 (0,0,[],[],[],[],[],[]) Tryz.func96 rfl rfl
end
section
open Go.RowKit
def qf(N:Nat) (a0:cS) (ay:(List al)) (a2:(List al)) (a3:Int) (a4:(List (List al))) (a5:(List (List al))) (b6:List (Bool×List bB)) (ff:List (fK×Int)) (ec:List cb) (a9:List al):Option (Int×Int×(List (List al))×(List (List al))×(List (Bool×List bB))×(List cb)):=
  Option.bind (aw ((bl (IntKind.wrap .u8 (a0.2.2.2.1 - (1:Int))) ec.length)&&((decide ((IntKind.wrap .u8 (a0.2.2.2.1 - (1:Int))).toNat < ec.length))&&(true))) <|
  Option.bind (oB N (ec.getD (IntKind.wrap .u8 (a0.2.2.2.1 - (1:Int))).toNat b7.zero)) fun a1=>
  some (a1.1,a1.2.1,a1.2.2,a3,a4,a5)) fun aX=>
  cond (!(decide (aX.2.2.1=(0:Int)))) (some (aX.2.2.1,aX.2.2.2.1,aX.2.2.2.2.1,aX.2.2.2.2.2,b6,ec)) (Option.bind (zB N b6) fun bD=>
  cond (decide ((2048:Int)<=bD.1)) (some ((3:Int),aX.2.2.2.1,aX.2.2.2.2.1,aX.2.2.2.2.2,bD.2,ec)) (Option.bind (Option.bind (lX N a2) fun bX=>
  aw ((en 16 (bX.length+[(a0.2.2.2.1,aX.2.1.1)].length))&&(true)) <|
  Option.bind (lq N aX.2.2.2.2 a0.2.2.1 (bX++[(a0.2.2.2.1,aX.2.1.1)])) fun cy=>
  some (cy.2,cy.1,aX.2.2.2.1,aX.2.2.2.2.1,aX.2.2.2.2.2)) fun e0=>
  cond (!(decide (e0.1=(0:Int)))) (some (e0.1,e0.2.2.1,e0.2.2.2.1,e0.2.2.2.2,bD.2,ec)) (aw ((bl (IntKind.wrap .u8 (a0.2.2.2.1 - (1:Int))) ec.length)&&(((decide ((IntKind.wrap .u8 (a0.2.2.2.1 - (1:Int))).toNat < ec.length))&&(true))&&(true))) <|
  aw (((decide ((IntKind.wrap .u8 (a0.2.2.2.1 - (1:Int))).toNat < bD.2.length))&&(bD.2.getD (IntKind.wrap .u8 (a0.2.2.2.1 - (1:Int))).toNat (false,[])).1)) <|
  aw ((bl (IntKind.wrap .u8 (a0.2.2.2.1 - (1:Int))) bD.2.length)&&(true)) <|
  aw ((decide ((IntKind.wrap .u8 (a0.2.2.2.1 - (1:Int))).toNat=(IntKind.wrap .u8 (a0.2.2.2.1 - (1:Int))).toNat))&&((en 56 ((bD.2.getD (IntKind.wrap .u8 (a0.2.2.2.1 - (1:Int))).toNat (false,[])).2.length+[(a0.2.2.1.1,(aX.2.1.2.1,(ay,aX.2.1.2.2)))].length))&&((bl (IntKind.wrap .u8 (a0.2.2.2.1 - (1:Int))) bD.2.length)&&(((decide ((IntKind.wrap .u8 (a0.2.2.2.1 - (1:Int))).toNat=(IntKind.wrap .u8 (a0.2.2.2.1 - (1:Int))).toNat))&&(decide ((IntKind.wrap .u8 (a0.2.2.2.1 - (1:Int))).toNat < bD.2.length)))&&(true))))) <|
  some ((0:Int),e0.2.2.1,e0.2.1.1,e0.2.1.2,(bD.2.set (IntKind.wrap .u8 (a0.2.2.2.1 - (1:Int))).toNat (true,((bD.2.getD (IntKind.wrap .u8 (a0.2.2.2.1 - (1:Int))).toNat (false,[])).2++[(a0.2.2.1.1,(aX.2.1.2.1,(ay,aX.2.1.2.2)))]))),(ec.set (IntKind.wrap .u8 (a0.2.2.2.1 - (1:Int))).toNat aX.1)))))
noncomputable def Dy (N:Nat) (a0:cS) (ay:(List al)) (a2:(List al)) (a3:Int) (a4:(List (List al))) (a5:(List (List al))) (b6:List (Bool×List bB)) (ff:List (fK×Int)) (ec:List cb) (a9:List al):Option (Int×Int×(List (List al))×(List (List al))×(List (Bool×List bB))×(List cb)):=
  Option.bind (aw ((bl (IntKind.wrap .u8 (a0.2.2.2.1 - (1:Int))) ec.length)&&((decide ((IntKind.wrap .u8 (a0.2.2.2.1 - (1:Int))).toNat < ec.length))&&(true))) <|
  eV (Option.bind (oB N (ec.getD (IntKind.wrap .u8 (a0.2.2.2.1 - (1:Int))).toNat b7.zero)) fun a1=>
  eV (some (a1.1,a1.2.1,a1.2.2,a3,a4,a5)) (some (a1.1,a1.2.1,a1.2.2,a3,a4,a5))) (eV (eV (Option.bind (oB N (ec.getD (IntKind.wrap .u8 (a0.2.2.2.1 - (1:Int))).toNat b7.zero)) fun a1=>
  some (a1.1,a1.2.1,a1.2.2,a3,a4,a5)) (Option.bind (oB N (ec.getD (IntKind.wrap .u8 (a0.2.2.2.1 - (1:Int))).toNat b7.zero)) fun a1=>
  some (a1.1,a1.2.1,a1.2.2,a3,a4,a5))) (eV (Option.bind (oB N (ec.getD (IntKind.wrap .u8 (a0.2.2.2.1 - (1:Int))).toNat b7.zero)) fun a1=>
  some (a1.1,a1.2.1,a1.2.2,a3,a4,a5)) (Option.bind (oB N (ec.getD (IntKind.wrap .u8 (a0.2.2.2.1 - (1:Int))).toNat b7.zero)) fun a1=>
  some (a1.1,a1.2.1,a1.2.2,a3,a4,a5))))) fun aX=>
  cond (!(decide (aX.2.2.1=(0:Int)))) (some (aX.2.2.1,aX.2.2.2.1,aX.2.2.2.2.1,aX.2.2.2.2.2,b6,ec)) (Option.bind (zB N b6) fun bD=>
  cond (decide ((2048:Int)<=bD.1)) (some ((3:Int),aX.2.2.2.1,aX.2.2.2.2.1,aX.2.2.2.2.2,bD.2,ec)) (Option.bind (eV (Option.bind (lX N a2) fun bX=>
  eV (eV (aw ((en 16 (bX.length+[(a0.2.2.2.1,aX.2.1.1)].length))&&(true)) <|
  eV (Option.bind (lq N aX.2.2.2.2 a0.2.2.1 (bX++[(a0.2.2.2.1,aX.2.1.1)])) fun cy=>
  some (cy.2,cy.1,aX.2.2.2.1,aX.2.2.2.2.1,aX.2.2.2.2.2)) (Option.bind (lq N aX.2.2.2.2 a0.2.2.1 (bX++[(a0.2.2.2.1,aX.2.1.1)])) fun cy=>
  some (cy.2,cy.1,aX.2.2.2.1,aX.2.2.2.2.1,aX.2.2.2.2.2))) (aw ((en 16 (bX.length+[(a0.2.2.2.1,aX.2.1.1)].length))&&(true)) <|
  Option.bind (lq N aX.2.2.2.2 a0.2.2.1 (bX++[(a0.2.2.2.1,aX.2.1.1)])) fun cy=>
  some (cy.2,cy.1,aX.2.2.2.1,aX.2.2.2.2.1,aX.2.2.2.2.2))) (aw ((en 16 (bX.length+[(a0.2.2.2.1,aX.2.1.1)].length))&&(true)) <|
  Option.bind (lq N aX.2.2.2.2 a0.2.2.1 (bX++[(a0.2.2.2.1,aX.2.1.1)])) fun cy=>
  some (cy.2,cy.1,aX.2.2.2.1,aX.2.2.2.2.1,aX.2.2.2.2.2))) (eV (eV (Option.bind (lX N a2) fun bX=>
  eV (aw ((en 16 (bX.length+[(a0.2.2.2.1,aX.2.1.1)].length))&&(true)) <|
  eV (Option.bind (lq N aX.2.2.2.2 a0.2.2.1 (bX++[(a0.2.2.2.1,aX.2.1.1)])) fun cy=>
  some (cy.2,cy.1,aX.2.2.2.1,aX.2.2.2.2.1,aX.2.2.2.2.2)) (Option.bind (lq N aX.2.2.2.2 a0.2.2.1 (bX++[(a0.2.2.2.1,aX.2.1.1)])) fun cy=>
  some (cy.2,cy.1,aX.2.2.2.1,aX.2.2.2.2.1,aX.2.2.2.2.2))) (aw ((en 16 (bX.length+[(a0.2.2.2.1,aX.2.1.1)].length))&&(true)) <|
  Option.bind (lq N aX.2.2.2.2 a0.2.2.1 (bX++[(a0.2.2.2.1,aX.2.1.1)])) fun cy=>
  some (cy.2,cy.1,aX.2.2.2.1,aX.2.2.2.2.1,aX.2.2.2.2.2))) (Option.bind (lX N a2) fun bX=>
  aw ((en 16 (bX.length+[(a0.2.2.2.1,aX.2.1.1)].length))&&(true)) <|
  Option.bind (lq N aX.2.2.2.2 a0.2.2.1 (bX++[(a0.2.2.2.1,aX.2.1.1)])) fun cy=>
  some (cy.2,cy.1,aX.2.2.2.1,aX.2.2.2.2.1,aX.2.2.2.2.2))) (eV (Option.bind (lX N a2) fun bX=>
  aw ((en 16 (bX.length+[(a0.2.2.2.1,aX.2.1.1)].length))&&(true)) <|
  Option.bind (lq N aX.2.2.2.2 a0.2.2.1 (bX++[(a0.2.2.2.1,aX.2.1.1)])) fun cy=>
  some (cy.2,cy.1,aX.2.2.2.1,aX.2.2.2.2.1,aX.2.2.2.2.2)) (Option.bind (lX N a2) fun bX=>
  aw ((en 16 (bX.length+[(a0.2.2.2.1,aX.2.1.1)].length))&&(true)) <|
  Option.bind (lq N aX.2.2.2.2 a0.2.2.1 (bX++[(a0.2.2.2.1,aX.2.1.1)])) fun cy=>
  some (cy.2,cy.1,aX.2.2.2.1,aX.2.2.2.2.1,aX.2.2.2.2.2))))) fun e0=>
  cond (!(decide (e0.1=(0:Int)))) (some (e0.1,e0.2.2.1,e0.2.2.2.1,e0.2.2.2.2,bD.2,ec)) (aw ((bl (IntKind.wrap .u8 (a0.2.2.2.1 - (1:Int))) ec.length)&&(((decide ((IntKind.wrap .u8 (a0.2.2.2.1 - (1:Int))).toNat < ec.length))&&(true))&&(true))) <|
  aw (((decide ((IntKind.wrap .u8 (a0.2.2.2.1 - (1:Int))).toNat < bD.2.length))&&(bD.2.getD (IntKind.wrap .u8 (a0.2.2.2.1 - (1:Int))).toNat (false,[])).1)) <|
  aw ((bl (IntKind.wrap .u8 (a0.2.2.2.1 - (1:Int))) bD.2.length)&&(true)) <|
  eV (aw ((decide ((IntKind.wrap .u8 (a0.2.2.2.1 - (1:Int))).toNat=(IntKind.wrap .u8 (a0.2.2.2.1 - (1:Int))).toNat))&&((en 56 ((bD.2.getD (IntKind.wrap .u8 (a0.2.2.2.1 - (1:Int))).toNat (false,[])).2.length+[(a0.2.2.1.1,(aX.2.1.2.1,(ay,aX.2.1.2.2)))].length))&&((bl (IntKind.wrap .u8 (a0.2.2.2.1 - (1:Int))) bD.2.length)&&(((decide ((IntKind.wrap .u8 (a0.2.2.2.1 - (1:Int))).toNat=(IntKind.wrap .u8 (a0.2.2.2.1 - (1:Int))).toNat))&&(decide ((IntKind.wrap .u8 (a0.2.2.2.1 - (1:Int))).toNat < bD.2.length)))&&(true))))) <|
  some ((0:Int),e0.2.2.1,e0.2.1.1,e0.2.1.2,(bD.2.set (IntKind.wrap .u8 (a0.2.2.2.1 - (1:Int))).toNat (true,((bD.2.getD (IntKind.wrap .u8 (a0.2.2.2.1 - (1:Int))).toNat (false,[])).2++[(a0.2.2.1.1,(aX.2.1.2.1,(ay,aX.2.1.2.2)))]))),(ec.set (IntKind.wrap .u8 (a0.2.2.2.1 - (1:Int))).toNat aX.1))) (aw ((decide ((IntKind.wrap .u8 (a0.2.2.2.1 - (1:Int))).toNat=(IntKind.wrap .u8 (a0.2.2.2.1 - (1:Int))).toNat))&&((en 56 ((bD.2.getD (IntKind.wrap .u8 (a0.2.2.2.1 - (1:Int))).toNat (false,[])).2.length+[(a0.2.2.1.1,(aX.2.1.2.1,(ay,aX.2.1.2.2)))].length))&&((bl (IntKind.wrap .u8 (a0.2.2.2.1 - (1:Int))) bD.2.length)&&(((decide ((IntKind.wrap .u8 (a0.2.2.2.1 - (1:Int))).toNat=(IntKind.wrap .u8 (a0.2.2.2.1 - (1:Int))).toNat))&&(decide ((IntKind.wrap .u8 (a0.2.2.2.1 - (1:Int))).toNat < bD.2.length)))&&(true))))) <|
  some ((0:Int),e0.2.2.1,e0.2.1.1,e0.2.1.2,(bD.2.set (IntKind.wrap .u8 (a0.2.2.2.1 - (1:Int))).toNat (true,((bD.2.getD (IntKind.wrap .u8 (a0.2.2.2.1 - (1:Int))).toNat (false,[])).2++[(a0.2.2.1.1,(aX.2.1.2.1,(ay,aX.2.1.2.2)))]))),(ec.set (IntKind.wrap .u8 (a0.2.2.2.1 - (1:Int))).toNat aX.1))))))
theorem ae8:Dy=qf:=by
 unfold Dy qf;simp only[nI]
noncomputable def QP (N:Nat):bI bU:=nO N b2 (by kernel_rfl) [.c (.raw (.ptr 1000000 0)),.c9 dW,.c (.bn aK),.c (.bn aK)] [(1000000,.cells 172 [.int .i64,.bn (.an aK),.bn (.an aK),.raw (.an 2000000),.raw (.an 2000001),.raw (.cp 1000001),.raw (.an 1000002)]),(2000001,.b5 118 113 ck),(1000001,.mp hV (.int .i64)),(2000000,.row 73 b7),(1000002,.row 102 aK)] ⟨.a (.c (.int .i64)),[(1000000,.cells 172 [.int .i64,.bn (.an aK),.bn (.an aK),.raw (.an 2000000),.raw (.an 2000001),.raw (.cp 1000001),.raw (.an 1000002)]),(2000001,.b5 118 113 ck),(2000000,.row 73 b7)],[1000001,1000002]⟩ [acQ N,acR N,Qy N,aeg N] [] (.s (.r [.n 2,.w (.ca 5 dW)]) (.j ⟨[(0,.a (.c (.raw (.ptr 1000000 0)))),(9,.a (.c (.fF b7 0))),(10,.a (.c (.fF wL 0))),(11,.a (.c (.int .i64)))],[(1000000,.cells 172 [.int .i64,.bn (.an aK),.bn (.an aK),.raw (.an 2000000),.raw (.an 2000001),.raw (.cp 1000001),.raw (.an 1000002)])],[2,3,5],[1000001,1000002,2000000,2000001]⟩ (.hk [] [4,5,6,14,15,1000009,1000016,1000017] (.t [.t 0 0,.t 1 0,.t 2 0,.t 3 3,.t 4 0,.t 5 1,.t 6 0,.t 7 0,.t 8 3] 9 14 15 [] [] [] none none none (.b [.m 10,.t 11 0,.t 12 0,.t 13 0] 14 15 [] [] none none (.f [.s 15,.s 16,.s 17,.t 18 0]) (.f [.s 14,.s 16,.s 17,.t 18 0])) (.b [] 9 15 [] [] none none (.f [.m 10,.t 11 0,.t 12 0,.t 13 0,.s 15,.s 16,.s 17,.t 18 0]) (.f [.c 9 [],.m 10,.t 11 0,.t 12 0,.t 13 0,.s 16,.s 17,.t 18 0])) (.b [] 9 14 [] [] none none (.f [.m 10,.t 11 0,.t 12 0,.t 13 0,.s 14,.s 16,.s 17,.t 18 0]) (.f [.c 9 [],.m 10,.t 11 0,.t 12 0,.t 13 0,.s 16,.s 17,.t 18 0]))) [(.ca 9 b7),(.ca 10 wL)] true) (.s .d (.s (.s (.r [.n 4,.c [(2000000,2000001)]]) .d) (.s (.r [.n 7,.w (.ca 12 aK)]) (.s (.r [.n 11,.w (.ca 13 ck)]) (.j ⟨[(0,.a (.c (.raw (.ptr 1000000 0)))),(11,.a (.c (.int .i64))),(14,.a (.c (.fF fy 0)))],[(1000000,.cells 172 [.int .i64,.bn (.an aK),.bn (.an aK),.raw (.an 2000000),.raw (.an 2000001),.raw (.cp 1000001),.raw (.an 1000002)])],[5,9,13],[1000001,1000002,2000000,2000001]⟩ (.hk [] [4,5,6,7,8,9,10,15,1000011,1000016] (.t [.t 0 0,.t 1 0,.t 2 0,.t 3 3,.t 4 0,.t 5 1,.t 6 0,.t 8 1] 7 9 15 [(6,60)] [] [] none none none (.b [] 9 15 [] [] none none (.b [] 10 15 [] [] none none (.b [.z 60] 11 15 [] [] none none (.f [.m 12,.t 13 0,.t 14 0,.s 15,.s 16,.t 17 0]) (.f [.c 11 [],.m 12,.t 13 0,.t 14 0,.s 16,.t 17 0])) (.f [.k 10,.z 60,.c 11 [],.m 12,.t 13 0,.t 14 0,.s 16,.t 17 0])) (.f [.k 9,.k 10,.z 60,.c 11 [],.m 12,.t 13 0,.t 14 0,.s 16,.t 17 0])) (.b [] 7 15 [(6,60)] [] none none (.b [] 10 15 [] [] none none (.b [.z 60] 11 15 [] [] none none (.f [.m 12,.t 13 0,.t 14 0,.s 15,.s 16,.t 17 0]) (.f [.c 11 [],.m 12,.t 13 0,.t 14 0,.s 16,.t 17 0])) (.f [.k 10,.z 60,.c 11 [],.m 12,.t 13 0,.t 14 0,.s 16,.t 17 0])) (.f [.c 7 [(6,60)],.k 10,.z 60,.c 11 [],.m 12,.t 13 0,.t 14 0,.s 16,.t 17 0])) (.b [] 7 9 [(6,60)] [] none none (.f [.k 9,.k 10,.z 60,.c 11 [],.m 12,.t 13 0,.t 14 0,.s 16,.t 17 0]) (.f [.c 7 [(6,60)],.k 10,.z 60,.c 11 [],.m 12,.t 13 0,.t 14 0,.s 16,.t 17 0]))) [(.ca 14 fy)] false) (.s .d (.s .d (.s (.o [4,5,6,7] [.t 0 0,.t 1 0,.t 2 0,.t 3 3,.t 4 0,.t 5 1,.t 6 0,.t 7 1,.t 8 0,.s 9] []) (.s (.hk [.t (.Gn 2000001 79 98 .u8 1)] [4,5,6,7,8,9,10,11,12,13,14,15,16,17,18,1000020] (.b [.t 0 0,.t 1 0,.t 2 0,.t 3 3,.t 4 0,.t 5 1,.t 6 0,.t 7 0,.t 8 0,.t 9 0,.t 10 3,.t 11 0,.t 12 1,.t 13 0,.t 14 0,.t 16 1] 15 17 [] [] none none (.f [.k 17,.k 18,.t 19 0,.u 20 .st]) (.f [.f,.k 15,.k 18,.t 19 0,.u 20 .st])) [] false) (.s (.r [.n 1,.w (.t (.close 2000001 98))]) .d)))))))))))) [.tmp 8] 133 (0,0,[],[],[],[]) (fun d=>Dy N d.1 d.2.1 d.2.2.1 d.2.2.2.1 d.2.2.2.2.1 d.2.2.2.2.2.1 d.2.2.2.2.2.2.1 d.2.2.2.2.2.2.2.1 d.2.2.2.2.2.2.2.2.1 d.2.2.2.2.2.2.2.2.2.1) (fun d=>qf N d.1 d.2.1 d.2.2.1 d.2.2.2.1 d.2.2.2.2.1 d.2.2.2.2.2.1 d.2.2.2.2.2.2.1 d.2.2.2.2.2.2.2.1 d.2.2.2.2.2.2.2.2.1 d.2.2.2.2.2.2.2.2.2.1) (fun d=>(by rw[ae8]:Dy N d.1 d.2.1 d.2.2.1 d.2.2.2.1 d.2.2.2.2.1 d.2.2.2.2.2.1 d.2.2.2.2.2.2.1 d.2.2.2.2.2.2.2.1 d.2.2.2.2.2.2.2.2.1 d.2.2.2.2.2.2.2.2.2.1=qf N d.1 d.2.1 d.2.2.1 d.2.2.2.1 d.2.2.2.2.1 d.2.2.2.2.2.1 d.2.2.2.2.2.2.1 d.2.2.2.2.2.2.2.1 d.2.2.2.2.2.2.2.2.1 d.2.2.2.2.2.2.2.2.2.1)) Tryz.func133 rfl rfl Tryz.ntmps133 rfl rfl rfl (fun d=>by kernel_rfl)
def rp(N:Nat) (a0:cS) (ay:Int) (a2:(List (List al))) (a3:(List (List al))) (a4:List (Bool×List bB)) (a5:List (fK×Int)) (b6:List cb) (ff:List al):Option (Int×Int×(List (List al))×(List (List al))×(List (Bool×List bB))×(List (fK×Int))×(List cb)×(List al)):=
  Option.bind (nj N a0 ay a2 a3 a4 a5 b6 ff) fun aH=>
  cond (!(decide (aH.2.2.1=(0:Int)))) (some (aH.2.2.1,aH.2.2.2.1,aH.2.2.2.2.1,aH.2.2.2.2.2,a4,a5,b6,ff)) (Option.bind (nk N a0.2.2.2.1 aH.1 aH.2.1 aH.2.2.2.1 aH.2.2.2.2.1 aH.2.2.2.2.2 a4 a5 b6 ff) fun a1=>
  cond (!(decide (a1.1=(0:Int)))) (some (a1.1,a1.2.1,a1.2.2.1,a1.2.2.2.1,a4,a5,a1.2.2.2.2,ff)) (Option.bind (pr N (a1.2.2.1,a1.2.2.2.1) a0.2.2.1) fun bD=>
  Option.bind (qf N a0 bD.1 ([]:List al) a1.2.1 a1.2.2.1 a1.2.2.2.1 a4 a5 a1.2.2.2.2 ff) fun cq=>
  some (cq.1,cq.2.1,cq.2.2.1,cq.2.2.2.1,cq.2.2.2.2.1,a5,cq.2.2.2.2.2,ff)))
noncomputable def ae9 (N:Nat):bI bU:=cj N b2 (by kernel_rfl) [.c (.raw (.ptr 1000000 0)),.c9 dW] [(1000000,.cells 172 [.int .i64,.bn (.an aK),.bn (.an aK),.raw (.an 2000000),.raw (.an 2000001),.raw (.cp 1000001),.raw (.an 1000002)]),(2000001,.b5 118 113 ck),(1000001,.mp hV (.int .i64)),(2000000,.row 73 b7),(1000002,.row 102 aK)] ⟨.a (.c (.int .i64)),[(1000000,.cells 172 [.int .i64,.bn (.an aK),.bn (.an aK),.raw (.an 2000000),.raw (.an 2000001),.raw (.cp 1000001),.raw (.an 1000002)]),(2000001,.b5 118 113 ck),(1000001,.mp hV (.int .i64)),(2000000,.row 73 b7),(1000002,.row 102 aK)],[]⟩ [JK N,JL N,Dd N,QP N] [] (.s (.r [.n 2,.w (.ca 3 dW)]) (.s (.r [.n 2,.c [(1000000,1000000),(2000001,2000001),(1000001,1000001),(2000000,2000000),(1000002,1000002)]]) (.s .d (.s (.s (.r [.n 5,.c [(1000000,1000000),(2000001,2000001),(1000001,1000001),(2000000,2000000),(1000002,1000002)]]) .d) (.s (.o [6,7] [.t 0 0,.t 1 1,.t 2 0,.t 3 0,.t 4 0,.t 5 3,.t 6 0,.t 7 1,.c 8 [],.c 9 [(1000000,1000000),(2000001,2000001),(1000001,1000001),(2000000,2000000),(1000002,1000002)],.t 10 0] []) .d))))) [.tmp 4] 97 (0,0,[],[],[],[],[],[]) (fun d=>rp N d.1 d.2.1 d.2.2.1 d.2.2.2.1 d.2.2.2.2.1 d.2.2.2.2.2.1 d.2.2.2.2.2.2.1 d.2.2.2.2.2.2.2.1) Tryz.func97 rfl rfl Tryz.ntmps97 rfl rfl rfl (fun d=>by kernel_rfl)
def uR(N:Nat) (a0:cS) (ay:Int) (a2:(List (List al))) (a3:(List (List al))) (a4:List (Bool×List bB)) (a5:List (fK×Int)) (b6:List cb) (ff:List al):Option (Int×Int×(List (List al))×(List (List al))×(List (Bool×List bB))×(List (fK×Int))×(List cb)×(List al)):=
  Option.bind (nj N a0 ay a2 a3 a4 a5 b6 ff) fun aH=>
  cond (!(decide (aH.2.2.1=(0:Int)))) (some (aH.2.2.1,aH.2.2.2.1,aH.2.2.2.2.1,aH.2.2.2.2.2,a4,a5,b6,ff)) (Option.bind (nk N a0.2.2.2.1 aH.1 aH.2.1 aH.2.2.2.1 aH.2.2.2.2.1 aH.2.2.2.2.2 a4 a5 b6 ff) fun a1=>
  cond (!(decide (a1.1=(0:Int)))) (some (a1.1,a1.2.1,a1.2.2.1,a1.2.2.2.1,a4,a5,a1.2.2.2.2,ff)) (Option.bind (pr N (a1.2.2.1,a1.2.2.2.1) a0.2.2.1) fun bD=>
  cond (decide ((4:Int)<=(bD.1.length:Int))) (some ((9:Int),a1.2.1,a1.2.2.1,a1.2.2.2.1,a4,a5,a1.2.2.2.2,ff)) (Option.bind (qf N a0 ([]:List al) bD.1 a1.2.1 a1.2.2.1 a1.2.2.2.1 a4 a5 a1.2.2.2.2 ff) fun cq=>
  some (cq.1,cq.2.1,cq.2.2.1,cq.2.2.2.1,cq.2.2.2.2.1,a5,cq.2.2.2.2.2,ff))))
noncomputable def afa (N:Nat):bI bU:=cj N b2 (by kernel_rfl) [.c (.raw (.ptr 1000000 0)),.c9 dW] [(1000000,.cells 172 [.int .i64,.bn (.an aK),.bn (.an aK),.raw (.an 2000000),.raw (.an 2000001),.raw (.cp 1000001),.raw (.an 1000002)]),(2000001,.b5 118 113 ck),(1000001,.mp hV (.int .i64)),(2000000,.row 73 b7),(1000002,.row 102 aK)] ⟨.a (.c (.int .i64)),[(1000000,.cells 172 [.int .i64,.bn (.an aK),.bn (.an aK),.raw (.an 2000000),.raw (.an 2000001),.raw (.cp 1000001),.raw (.an 1000002)]),(2000001,.b5 118 113 ck),(1000001,.mp hV (.int .i64)),(2000000,.row 73 b7),(1000002,.row 102 aK)],[]⟩ [JK N,JL N,Dd N,QP N] [] (.s (.r [.n 2,.w (.ca 3 dW)]) (.s (.r [.n 2,.c [(1000000,1000000),(2000001,2000001),(1000001,1000001),(2000000,2000000),(1000002,1000002)]]) (.s .d (.s (.s (.r [.n 5,.c [(1000000,1000000),(2000001,2000001),(1000001,1000001),(2000000,2000000),(1000002,1000002)]]) .d) (.s (.o [4,5] [.t 0 0,.t 1 0,.t 2 0,.t 3 3,.t 4 0,.t 5 1,.c 6 [],.t 7 0] []) (.s .d (.s (.r [.n 3,.c [(1000000,1000000),(2000001,2000001),(1000001,1000001),(2000000,2000000),(1000002,1000002)]]) .d))))))) [.tmp 4] 98 (0,0,[],[],[],[],[],[]) (fun d=>uR N d.1 d.2.1 d.2.2.1 d.2.2.2.1 d.2.2.2.2.1 d.2.2.2.2.2.1 d.2.2.2.2.2.2.1 d.2.2.2.2.2.2.2.1) Tryz.func98 rfl rfl Tryz.ntmps98 rfl rfl rfl (fun d=>by kernel_rfl)
def uS(N:Nat) (a0:cS) (ay:Int) (a2:(List (List al))) (a3:(List (List al))) (a4:List (Bool×List bB)) (a5:List (fK×Int)) (b6:List cb) (ff:List al):Option (Int×Int×(List (List al))×(List (List al))×(List (Bool×List bB))×(List (fK×Int))×(List cb)×(List al)):=
  Option.bind (nj N a0 ay a2 a3 a4 a5 b6 ff) fun aH=>
  cond (!(decide (aH.2.2.1=(0:Int)))) (some (aH.2.2.1,aH.2.2.2.1,aH.2.2.2.2.1,aH.2.2.2.2.2,a4,a5,b6,ff)) (Option.bind (nk N a0.2.2.2.1 aH.1 aH.1 aH.2.2.2.1 aH.2.2.2.2.1 aH.2.2.2.2.2 a4 a5 b6 ff) fun a1=>
  some (a1.1,a1.2.1,a1.2.2.1,a1.2.2.2.1,a4,a5,a1.2.2.2.2,ff))
noncomputable def afb (N:Nat):bI bU:=cj N b2 (by kernel_rfl) [.c (.raw (.ptr 1000000 0)),.c9 dW] [(1000000,.cells 172 [.int .i64,.bn (.an aK),.bn (.an aK),.raw (.an 2000000),.raw (.an 2000001),.raw (.cp 1000001),.raw (.an 1000002)]),(2000001,.b5 118 113 ck),(1000001,.mp hV (.int .i64)),(2000000,.row 73 b7),(1000002,.row 102 aK)] ⟨.a (.c (.int .i64)),[(1000000,.cells 172 [.int .i64,.bn (.an aK),.bn (.an aK),.raw (.an 2000000),.raw (.an 2000001),.raw (.cp 1000001),.raw (.an 1000002)]),(2000001,.b5 118 113 ck),(1000001,.mp hV (.int .i64)),(2000000,.row 73 b7),(1000002,.row 102 aK)],[]⟩ [JK N,JL N] [] (.s (.r [.n 2,.w (.ca 3 dW)]) (.s (.r [.n 2,.c [(1000000,1000000),(2000001,2000001),(1000001,1000001),(2000000,2000000),(1000002,1000002)]]) (.s .d (.s (.r [.n 5,.c [(1000000,1000000),(2000001,2000001),(1000001,1000001),(2000000,2000000),(1000002,1000002)]]) .d)))) [.tmp 4] 99 (0,0,[],[],[],[],[],[]) (fun d=>uS N d.1 d.2.1 d.2.2.1 d.2.2.2.1 d.2.2.2.2.1 d.2.2.2.2.2.1 d.2.2.2.2.2.2.1 d.2.2.2.2.2.2.2.1) Tryz.func99 rfl rfl Tryz.ntmps99 rfl rfl rfl (fun d=>by kernel_rfl)
def Ab(N:Nat) (b6:List cb) (bD:Int) (cq:Int):Nat->(Int×Int×(List (List al))×(List (List al)))->Option ((Int×(List (List al))×(List (List al)))⊕(Int×Int×(List (List al))×(List (List al)))):=cx fun d5 p9=>
  cond (decide (d5.1 < (b6.length:Int))) (aw ((bl d5.1 b6.length)&&((decide (d5.1.toNat < b6.length))&&(true))) <|
  cond (cond (b6.getD d5.1.toNat b7.zero).1 (decide ((b6.getD d5.1.toNat b7.zero).2.1=((if cq < bD then cq else bD)+(1:Int)))) false) (some (.inr ((12:Int),d5.2.1,d5.2.2.1,d5.2.2.2))) (aw ((bp (d5.1+(1:Int)))&&(true)) <|
  p9 ((d5.1+(1:Int)),d5.2.1,d5.2.2.1,d5.2.2.2))) (some (.inl (d5.2.1,d5.2.2.1,d5.2.2.2)))
def sN(N:Nat) (a0:cS) (ay:Int) (a2:(List (List al))) (a3:(List (List al))) (a4:List (Bool×List bB)) (a5:List (fK×Int)) (b6:List cb) (ff:List al):Option (Int×Int×(List (List al))×(List (List al))):=
  Option.bind (pr N (a2,a3) a0.2.2.1) fun aH=>
  cond (decide ((aH.1.length:Int)=(0:Int))) (some ((13:Int),ay,a2,a3)) (Option.bind (wY N a0.2.2.1 ay) fun a1=>
  cond (!(decide (a1.2=(0:Int)))) (some (a1.2,ay,a2,a3)) (Option.bind (lV N a0.2.2.1 ay) fun bD=>
  Option.bind (lV N a1.1 ay) fun cq=>
  aw ((bp ((if cq < bD then cq else bD)+(1:Int)))&&(true)) <|
  Option.bind (Ab N b6 bD cq N ((0:Int),ay,a2,a3)) fun(dz:(Int×(List (List al))×(List (List al)))⊕(Int×Int×(List (List al))×(List (List al))))=>
  sm dz (fun dz=>
  Option.bind (sJ N dz.2 a0.2.2.1 a1.1) fun cy=>
  cond (decide (cy.2=(0:Int))) (some (cy.2,dz.1,cy.1.1,cy.1.2)) (some (cy.2,dz.1,dz.2.1,dz.2.2))) (fun q=>some q)))
noncomputable def Dz (N:Nat) (a0:cS) (ay:Int) (a2:(List (List al))) (a3:(List (List al))) (a4:List (Bool×List bB)) (a5:List (fK×Int)) (b6:List cb) (ff:List al):Option (Int×Int×(List (List al))×(List (List al))):=
  Option.bind (pr N (a2,a3) a0.2.2.1) fun aH=>
  cond (decide ((aH.1.length:Int)=(0:Int))) (some ((13:Int),ay,a2,a3)) (eV (Option.bind (wY N a0.2.2.1 ay) fun a1=>
  cond (!(decide (a1.2=(0:Int)))) (some (a1.2,ay,a2,a3)) (Option.bind (lV N a0.2.2.1 ay) fun bD=>
  Option.bind (lV N a1.1 ay) fun cq=>
  aw ((bp ((if cq < bD then cq else bD)+(1:Int)))&&(true)) <|
  Option.bind (Ab N b6 bD cq N ((0:Int),ay,a2,a3)) fun(dz:(Int×(List (List al))×(List (List al)))⊕(Int×Int×(List (List al))×(List (List al))))=>
  sm dz (fun dz=>
  eV (Option.bind (sJ N dz.2 a0.2.2.1 a1.1) fun cy=>
  cond (decide (cy.2=(0:Int))) (some (cy.2,dz.1,cy.1.1,cy.1.2)) (some (cy.2,dz.1,dz.2.1,dz.2.2))) (Option.bind (sJ N dz.2 a0.2.2.1 a1.1) fun cy=>
  cond (decide (cy.2=(0:Int))) (some (cy.2,dz.1,cy.1.1,cy.1.2)) (some (cy.2,dz.1,dz.2.1,dz.2.2)))) (fun q=>some q))) (Option.bind (wY N a0.2.2.1 ay) fun a1=>
  cond (!(decide (a1.2=(0:Int)))) (some (a1.2,ay,a2,a3)) (Option.bind (lV N a0.2.2.1 ay) fun bD=>
  Option.bind (lV N a1.1 ay) fun cq=>
  aw ((bp ((if cq < bD then cq else bD)+(1:Int)))&&(true)) <|
  Option.bind (Ab N b6 bD cq N ((0:Int),ay,a2,a3)) fun(dz:(Int×(List (List al))×(List (List al)))⊕(Int×Int×(List (List al))×(List (List al))))=>
  sm dz (fun dz=>
  eV (Option.bind (sJ N dz.2 a0.2.2.1 a1.1) fun cy=>
  cond (decide (cy.2=(0:Int))) (some (cy.2,dz.1,cy.1.1,cy.1.2)) (some (cy.2,dz.1,dz.2.1,dz.2.2))) (Option.bind (sJ N dz.2 a0.2.2.1 a1.1) fun cy=>
  cond (decide (cy.2=(0:Int))) (some (cy.2,dz.1,cy.1.1,cy.1.2)) (some (cy.2,dz.1,dz.2.1,dz.2.2)))) (fun q=>some q))))
theorem afc:Dz=sN:=by
 unfold Dz sN;simp only[nI]
noncomputable def afd (N:Nat):bI bU:=nO N b2 (by kernel_rfl) [.c (.raw (.ptr 1000000 0)),.c9 dW] [(1000000,.cells 172 [.int .i64,.bn (.an aK),.bn (.an aK),.raw (.an 2000000),.raw (.an 2000001),.raw (.cp 1000001),.raw (.an 1000002)]),(2000001,.b5 118 113 ck),(1000001,.mp hV (.int .i64)),(2000000,.row 73 b7),(1000002,.row 102 aK)] ⟨.a (.c (.int .i64)),[(1000000,.cells 172 [.int .i64,.bn (.an aK),.bn (.an aK),.raw (.an 2000000),.raw (.an 2000001),.raw (.cp 1000001),.raw (.an 1000002)])],[2000001,1000001,2000000,1000002]⟩ [Dd N,adY N,Jm N,aeh N] [] (.s (.r [.n 2,.w (.ca 3 dW)]) (.s (.s (.o [4,5] [.t 0 0,.t 1 0,.t 2 0,.t 3 3,.t 4 0,.t 5 1,.c 6 [],.t 7 0,.t 8 0] []) .d) (.s (.hk [] [10,1000006,1000011] (.b [.t 0 0,.t 1 1,.t 2 0,.t 3 0,.t 4 0,.t 5 3] 6 10 [] [] none none (.f [.m 7,.t 8 0,.t 9 0,.s 10,.s 11,.t 12 0]) (.f [.c 6 [],.m 7,.t 8 0,.t 9 0,.s 11,.t 12 0])) [(.ca 5 aK)] false) (.s .d (.s (.o [6,7,8,9,10,11] [.t 0 0,.t 1 1,.t 2 0,.t 3 0,.t 4 0,.t 5 3,.t 7 1,.t 8 0,.t 9 0,.t 10 0,.t 11 3,.c 6 [],.c 12 [],.t 13 0,.t 14 0,.t 15 0] []) (.s (.s .d (.b (.fw 0 ⟨[(0,.a (.c (.raw (.ptr 1000000 0)))),(51,.a (.c (.raw (.an 2000000)))),(53,.a (.c (.int .i64)))],[(1000000,.cells 172 [.int .i64,.bn (.an aK),.bn (.an aK),.raw (.an 2000000),.raw (.an 2000001),.raw (.cp 1000001),.raw (.an 1000002)])],[3,5,7,52],[1000001,1000002,2000000,2000001]⟩ ⟨[(0,.a (.c (.raw (.ptr 1000000 0))))],[(1000000,.cells 172 [.int .i64,.bn (.an aK),.bn (.an aK),.raw (.an 2000000),.raw (.an 2000001),.raw (.cp 1000001),.raw (.an 1000002)])],[3,5],[1000001,1000002,2000000,2000001]⟩ (.s .d (.s .d (.s (.b (.s (.r [.n 4,.w (.ca 9 b7)]) .d)) .d)))))) (.s (.hk [] [4,5,6,11,1000007,1000012] (.b [.t 0 0,.t 1 0,.t 2 0,.t 3 3,.t 4 0,.t 5 1,.t 6 1] 7 11 [] [] none none (.f [.m 8,.t 9 0,.t 10 0,.s 11,.s 12,.t 13 0]) (.f [.c 7 [],.m 8,.t 9 0,.t 10 0,.s 12,.t 13 0])) [(.ca 10 fy)] false) .d))))))) [.tmp 4] 100 (0,0,[],[]) (fun d=>Dz N d.1 d.2.1 d.2.2.1 d.2.2.2.1 d.2.2.2.2.1 d.2.2.2.2.2.1 d.2.2.2.2.2.2.1 d.2.2.2.2.2.2.2.1) (fun d=>sN N d.1 d.2.1 d.2.2.1 d.2.2.2.1 d.2.2.2.2.1 d.2.2.2.2.2.1 d.2.2.2.2.2.2.1 d.2.2.2.2.2.2.2.1) (fun d=>(by rw[afc]:Dz N d.1 d.2.1 d.2.2.1 d.2.2.2.1 d.2.2.2.2.1 d.2.2.2.2.2.1 d.2.2.2.2.2.2.1 d.2.2.2.2.2.2.2.1=sN N d.1 d.2.1 d.2.2.1 d.2.2.2.1 d.2.2.2.2.1 d.2.2.2.2.2.1 d.2.2.2.2.2.2.1 d.2.2.2.2.2.2.2.1)) Tryz.func100 rfl rfl Tryz.ntmps100 rfl rfl rfl (fun d=>by kernel_rfl)
def afe(N:Nat) (a0:cS) (ay:Int) (a2:(List (List al))) (a3:(List (List al))) (a4:List (Bool×List bB)) (a5:List (fK×Int)) (b6:List cb) (ff:List al):Option (Int×Int×(List (List al))×(List (List al))×(List al)):=
  none
noncomputable def aff (N:Nat):bI bU:=Pe [.c (.raw (.ptr 1000000 0)),.c9 dW] [(1000000,.cells 172 [.int .i64,.bn (.an aK),.bn (.an aK),.raw (.an 2000000),.raw (.an 2000001),.raw (.cp 1000001),.raw (.an 1000002)]),(2000001,.b5 118 113 ck),(1000001,.mp hV (.int .i64)),(2000000,.row 73 b7),(1000002,.row 102 aK)] ⟨.a (.c (.int .i64)),[(1000000,.cells 172 [.int .i64,.bn (.an aK),.bn (.an aK),.raw (.an 2000000),.raw (.an 2000001),.raw (.cp 1000001),.raw (.an 1000002)]),(1000002,.row 102 aK)],[2000001,1000001,2000000]⟩ 101 (0,0,[],[],[]) Tryz.func101 rfl rfl
end
section
open Go.RowKit
def my(N:Nat) :Option ((List (Int×(Option Nat)))):=
  some (eD (.int .u8) .fn (eD (.int .u8) .fn (eD (.int .u8) .fn (eD (.int .u8) .fn (eD (.int .u8) .fn (eD (.int .u8) .fn (eD (.int .u8) .fn (eD (.int .u8) .fn ([]:List (Int×(Option Nat))) (1:Int) (some 94)) (2:Int) (some 95)) (3:Int) (some 96)) (4:Int) (some 97)) (5:Int) (some 98)) (6:Int) (some 99)) (7:Int) (some 100)) (8:Int) (some 101))
noncomputable def afg (N:Nat):bI bU:=cj N b2 (by kernel_rfl) [] [] ⟨.a (.c (.raw (.cp 1))),[(1,.mp (.int .u8) .fn)],[]⟩ [] [] (.s .d (.s (.r [.t (.mV (.int .u8) .fn),.t .lh,.t .lh,.t .lh,.t .lh,.t .lh,.t .lh,.t .lh,.t .lh]) .d)) [.tmp 0] 38 [] (fun d=>my N ) Tryz.func38 rfl rfl Tryz.ntmps38 rfl rfl rfl (fun d=>by kernel_rfl)
def jG(N:Nat) (a0:cS) (ay:Int) (a2:(List (List al))) (a3:(List (List al))) (a4:List (Bool×List bB)) (a5:List (fK×Int)) (b6:List cb) (ff:List al) (ec:List (Int×(Option Nat))):Option (Int×Int×(List (List al))×(List (List al))×(List (Bool×List bB))×(List (fK×Int))×(List cb)×(List al)):=
  Option.bind (lp N a0) fun aH=>
  cond (!(decide (aH=(0:Int)))) (some (aH,ay,a2,a3,a4,a5,b6,ff)) (cond (decide (a0.1=1)) (aw ((pb 94 (cJ (.int .u8) .fn ec (1:Int)))&&(true)) <|
  Option.bind (rm N a0 ay a2 a3 a4 a5 b6 ff) fun a1=>
  some (a1.1,a1.2.1,a1.2.2.1,a1.2.2.2.1,a4,a5,a1.2.2.2.2,ff))
  (cond (decide (a0.1=2)) (aw ((pb 95 (cJ (.int .u8) .fn ec (2:Int)))&&(true)) <|
  Option.bind (rn N a0 ay a2 a3 a4 a5 b6 ff) fun bD=>
  some (bD.1,bD.2.1,bD.2.2.1,bD.2.2.2.1,a4,a5,bD.2.2.2.2,ff))
  (cond (decide (a0.1=3)) (aw ((pb 96 (cJ (.int .u8) .fn ec (3:Int)))&&(true)) <|
  Option.bind (ae6 N a0 ay a2 a3 a4 a5 b6 ff) fun cq=>
  some (cq.1,cq.2.1,cq.2.2.1,cq.2.2.2.1,cq.2.2.2.2.1,cq.2.2.2.2.2.1,cq.2.2.2.2.2.2.1,cq.2.2.2.2.2.2.2))
  (cond (decide (a0.1=4)) (aw ((pb 97 (cJ (.int .u8) .fn ec (4:Int)))&&(true)) <|
  Option.bind (rp N a0 ay a2 a3 a4 a5 b6 ff) fun bX=>
  some (bX.1,bX.2.1,bX.2.2.1,bX.2.2.2.1,bX.2.2.2.2.1,bX.2.2.2.2.2.1,bX.2.2.2.2.2.2.1,bX.2.2.2.2.2.2.2))
  (cond (decide (a0.1=5)) (aw ((pb 98 (cJ (.int .u8) .fn ec (5:Int)))&&(true)) <|
  Option.bind (uR N a0 ay a2 a3 a4 a5 b6 ff) fun cy=>
  some (cy.1,cy.2.1,cy.2.2.1,cy.2.2.2.1,cy.2.2.2.2.1,cy.2.2.2.2.2.1,cy.2.2.2.2.2.2.1,cy.2.2.2.2.2.2.2))
  (cond (decide (a0.1=6)) (aw ((pb 99 (cJ (.int .u8) .fn ec (6:Int)))&&(true)) <|
  Option.bind (uS N a0 ay a2 a3 a4 a5 b6 ff) fun nh=>
  some (nh.1,nh.2.1,nh.2.2.1,nh.2.2.2.1,nh.2.2.2.2.1,nh.2.2.2.2.2.1,nh.2.2.2.2.2.2.1,nh.2.2.2.2.2.2.2))
  (cond (decide (a0.1=7)) (aw ((pb 100 (cJ (.int .u8) .fn ec (7:Int)))&&(true)) <|
  Option.bind (sN N a0 ay a2 a3 a4 a5 b6 ff) fun jk=>
  some (jk.1,jk.2.1,jk.2.2.1,jk.2.2.2,a4,a5,b6,ff))
  (cond (decide (a0.1=8)) (aw ((pb 101 (cJ (.int .u8) .fn ec (8:Int)))&&(true)) <|
  Option.bind (afe N a0 ay a2 a3 a4 a5 b6 ff) fun oD=>
  some (oD.1,oD.2.1,oD.2.2.1,oD.2.2.2.1,a4,a5,b6,oD.2.2.2.2))
  (none)))))))))
noncomputable def afh (N:Nat):bI bU:=cj N b2 (by kernel_rfl) [.c (.raw (.ptr 1000000 0)),.c (.raw (.cp 1000001)),.c9 dW] [(1000000,.cells 172 [.int .i64,.bn (.an aK),.bn (.an aK),.raw (.an 2000000),.raw (.an 2000001),.raw (.cp 1000002),.raw (.an 1000003)]),(2000001,.b5 118 113 ck),(1000002,.mp hV (.int .i64)),(2000000,.row 73 b7),(1000003,.row 102 aK),(1000001,.mp (.int .u8) .fn)] ⟨.a (.c (.int .i64)),[(1000000,.cells 172 [.int .i64,.bn (.an aK),.bn (.an aK),.raw (.an 2000000),.raw (.an 2000001),.raw (.cp 1000002),.raw (.an 1000003)]),(2000001,.b5 118 113 ck),(1000002,.mp hV (.int .i64)),(2000000,.row 73 b7),(1000003,.row 102 aK)],[1000001]⟩ [Ql N,ae0 N,ae3 N,ae7 N,ae9 N,afa N,afb N,afd N,aff N] [] (.s (.r [.n 2,.w (.ca 5 dW)]) (.s .d (.s (.r [.n 3,.f 15 [1,2,3,4,5,6,7,8],.t (.NJ [(1,94),(2,95),(3,96),(4,97),(5,98),(6,99),(7,100),(8,101)]),.n 2,.c [(1000000,1000000),(2000001,2000001),(1000001,1000002),(2000000,2000000),(1000002,1000003)]]) .d))) [.tmp 6] 39 (0,0,[],[],[],[],[],[]) (fun d=>jG N d.1 d.2.1 d.2.2.1 d.2.2.2.1 d.2.2.2.2.1 d.2.2.2.2.2.1 d.2.2.2.2.2.2.1 d.2.2.2.2.2.2.2.1 d.2.2.2.2.2.2.2.2.1) Tryz.func39 rfl rfl Tryz.ntmps39 rfl rfl rfl (fun d=>by kernel_rfl)
def QQ(N:Nat) (a0:cH) (ay:cH):Option (Int):=
  Option.bind (sA N a0.1 ay.1) fun aH=>
  cond (!(decide (aH=(0:Int)))) (some aH) (Option.bind (sA N a0.2.1 ay.2.1) fun a1=>
  some a1)
noncomputable def afi (N:Nat):bI bU:=cj N b2 (by kernel_rfl) [.c9 c2,.c9 c2] [] ⟨.a (.c (.int .i64)),[],[]⟩ [zE N] [] (.s (.r [.n 3,.w (.ca 2 c2),.w (.ca 3 c2)]) .d) [.tmp 4] 104 0 (fun d=>QQ N d.1 d.2.1) Tryz.func104 rfl rfl Tryz.ntmps104 rfl rfl rfl (fun d=>by kernel_rfl)
def afj(N:Nat) (a0:Int):Nat->(Int×(List cH))->Option ((List cH)):=cx fun d2 fz=>
  aw ((ez (decide (a0 < d2.1)) (bl d2.1 d2.2.length))&&((ez (decide (a0 < d2.1)) (decide (d2.1.toNat < d2.2.length)))&&((ez (decide (a0 < d2.1)) (bp (d2.1 - (1:Int))))&&((ez (decide (a0 < d2.1)) (bl (d2.1 - (1:Int)) d2.2.length))&&((ez (decide (a0 < d2.1)) (decide ((d2.1 - (1:Int)).toNat < d2.2.length)))&&(true)))))) <|
  Option.bind (cond (decide (a0 < d2.1)) (QQ N (d2.2.getD d2.1.toNat c2.zero) (d2.2.getD (d2.1 - (1:Int)).toNat c2.zero)) (some 0)) fun bD=>
  cond (cond (decide (a0 < d2.1)) (decide (bD < (0:Int))) false) (aw ((bp (d2.1 - (1:Int)))&&((bp (d2.1 - (1:Int)))&&((bl (d2.1 - (1:Int)) d2.2.length)&&((decide ((d2.1 - (1:Int)).toNat < d2.2.length))&&((bl d2.1 d2.2.length)&&((decide (d2.1.toNat < d2.2.length))&&((bl d2.1 d2.2.length)&&(((decide (d2.1.toNat < d2.2.length))&&(true))&&((bl (d2.1 - (1:Int)) (d2.2.set d2.1.toNat (d2.2.getD (d2.1 - (1:Int)).toNat c2.zero)).length)&&(((decide ((d2.1 - (1:Int)).toNat < (d2.2.set d2.1.toNat (d2.2.getD (d2.1 - (1:Int)).toNat c2.zero)).length))&&(true))&&(true))))))))))) <|
  aw ((bp (d2.1 - (1:Int)))&&(true)) <|
  fz ((d2.1 - (1:Int)),((d2.2.set d2.1.toNat (d2.2.getD (d2.1 - (1:Int)).toNat c2.zero)).set (d2.1 - (1:Int)).toNat (d2.2.getD d2.1.toNat c2.zero)))) (some d2.2)
def afk(N:Nat) (a0:Int) (ay:Int):Nat->(Int×(List cH))->Option ((List cH)):=cx fun d1 dG=>
  cond (decide (d1.1 < ay)) (Option.bind (afj N a0 N (d1.1,d1.2)) fun ch=>
  aw ((bp (d1.1+(1:Int)))&&(true)) <|
  dG ((d1.1+(1:Int)),ch)) (some d1.2)
def QR(N:Nat) (a0:Int) (ay:Int) (a2:List cH):Option ((List cH)):=
  aw ((bp (a0+(1:Int)))&&(true)) <|
  Option.bind (afk N a0 ay N ((a0+(1:Int)),a2)) fun aX=>
  some aX
noncomputable def afl (N:Nat):bI bU:=cj N b2 (by kernel_rfl) [.c (.raw (.an 2000000)),.c (.int .i64),.c (.int .i64),.c (.fn 104 [])] [(2000000,.row 124 c2)] ⟨.da [],[(2000000,.row 124 c2)],[]⟩ [afi N] [] (.s .d (.b (.eY 0 ⟨[(0,.a (.c (.raw (.an 2000000)))),(8,.a (.c (.int .i64)))],[(2000000,.row 124 c2)],[1,2,3],[]⟩ ⟨[],[(2000000,.row 124 c2)],[],[]⟩ (.s .d (.s (.b (.s .d (.b (.eY 2 ⟨[(0,.a (.c (.raw (.an 2000000)))),(9,.a (.c (.int .i64)))],[(2000000,.row 124 c2)],[1,2,3,8],[]⟩ ⟨[(0,.a (.c (.raw (.an 2000000))))],[(2000000,.row 124 c2)],[1,2,3,8],[]⟩ (.s (.s (.na [9,10,11,12,13] [.t 0 0,.t 1 0,.t 2 0,.t 3 0,.t 4 0,.t 5 0,.t 6 0,.t 7 0,.t 8 3,.t 9 0,.t 10 0,.t 11 0,.t 12 0,.t 13 3,.g 14,.t 15 0,.t 16 0] []) .d) (.s (.b (.na [10,11,12,13] [.t 0 0,.t 1 0,.t 2 0,.t 3 0,.t 4 0,.t 5 0,.t 6 0,.t 7 0,.t 8 0,.t 9 3,.t 10 0,.t 11 0,.t 12 0,.t 13 3,.t 14 0,.s 15,.t 16 0,.s 17] [])) .d)))))) .d))))) [] 164 [] (fun d=>QR N d.1 d.2.1 d.2.2.1) Tryz.func164 rfl rfl Tryz.ntmps164 rfl rfl rfl (fun d=>by kernel_rfl)
def afm(N:Nat) (a0:Int) (ay:Int) (a2:Int) (a3:List cH):Nat->Unit->Option ((Unit)⊕((List cH))):=cx fun d1 dG=>
  aw ((bp (ay - a0))&&(true)) <|
  cond (decide ((ay - a0)<=(12:Int))) (Option.bind (QR N a0 ay a3) fun a1=>
  some (.inr a1)) (cond (decide (a2=(0:Int))) (none) (Option.bind (some ()) fun cg=>
  none))
def QS(N:Nat) (a0:Int) (ay:Int) (a2:Int) (a3:List cH):Option ((List cH)):=
  Option.bind (afm N a0 ay a2 a3 N ()) fun(aX:(Unit)⊕((List cH)))=>
  sm aX (fun aX=>
  none) (fun q=>some q)
noncomputable def afn (N:Nat):bI bU:=cj N b2 (by kernel_rfl) [.c (.raw (.an 2000000)),.c (.int .i64),.c (.int .i64),.c (.int .i64),.c (.fn 104 [])] [(2000000,.row 124 c2)] ⟨.da [],[(2000000,.row 124 c2)],[]⟩ [afl N] [] (.s .d (.s .d (.b (.fw 0 ⟨[(0,.a (.c (.raw (.an 2000000))))],[],[1,2,3,4,10,11],[2000000]⟩ ⟨[],[],[],[]⟩ (.b (.s .d (.s (.s .d (.c (.s (.r [.n 4,.c [(2000000,2000000)]]) .d) .d)) (.s .d (.j ⟨[(0,.a (.c (.raw (.an 2000000))))],[],[1,2,3,4,10,11,12],[2000000]⟩ .d .d))))))))) [] 138 [] (fun d=>QS N d.1 d.2.1 d.2.2.1 d.2.2.2.1) Tryz.func138 rfl rfl Tryz.ntmps138 rfl rfl rfl (fun d=>by kernel_rfl)
def DA(N:Nat) (a0:List cH):Option ((List cH)):=
  Option.bind (I7 N (IntKind.wrap .u64 (a0.length:Int))) fun aH=>
  Option.bind (QS N (0:Int) (a0.length:Int) aH a0) fun a1=>
  some a1
noncomputable def afo (N:Nat):bI bU:=cj N b2 (by kernel_rfl) [.c (.raw (.an 2000000)),.c (.fn 104 [])] [(2000000,.row 124 c2)] ⟨.da [],[(2000000,.row 124 c2)],[]⟩ [PO N,afn N] [] (.s .d (.r [.n 6,.c [(2000000,2000000)]])) [] 103 [] (fun d=>DA N d.1) Tryz.func103 rfl rfl Tryz.ntmps103 rfl rfl rfl (fun d=>by kernel_rfl)
def JM(N:Nat) :Nat->(Int×(List (List al))×(List (List al)))->Option (Int×(List (List al))×(List (List al))):=cx fun d1 dG=>
  some (d1.1,d1.2.1,d1.2.2)
def DB(N:Nat) (a3:List (Bool×List bB)):Nat->(Int×Int×(List (List al))×(List (List al))×(List (Bool×List bB)))->Option (Int×(List (List al))×(List (List al))×(List (Bool×List bB))):=cx fun d3 gO=>
  cond (decide (d3.1 < (a3.length:Int))) (aw ((bl d3.1 d3.2.2.2.2.length)&&(((decide (d3.1.toNat < d3.2.2.2.2.length))&&(d3.2.2.2.2.getD d3.1.toNat (false,[])).1)&&(true))) <|
  Option.bind (z6 N (d3.2.2.2.2.getD d3.1.toNat (false,[])).2) fun cq=>
  aw ((bl d3.1 d3.2.2.2.2.length)&&(((decide (d3.1.toNat=d3.1.toNat))&&(decide (d3.1.toNat < d3.2.2.2.2.length)))&&(true))) <|
  aw ((bp (d3.1+(1:Int)))&&(true)) <|
  gO ((d3.1+(1:Int)),d3.2.1,d3.2.2.1,d3.2.2.2.1,(d3.2.2.2.2.set d3.1.toNat (true,cq)))) (some (d3.2.1,d3.2.2.1,d3.2.2.2.1,d3.2.2.2.2))
def uT(N:Nat) (a0:Int) (ay:(List (List al))) (a2:(List (List al))) (a3:List (Bool×List bB)) (a4:List (fK×Int)) (a5:List cb) (b6:List al):Option (ko):=
  aw (((decide ((0:Int)<=(a4.length:Int)))&&(gw 40 (a4.length:Int)))&&(true)) <|
  aw ((a4.isEmpty)&&(true)) <|
  Option.bind (JM N N (a0,ay,a2)) fun aX=>
  Option.bind (DA N ([]:List cH)) fun a1=>
  Option.bind (DB N a3 N ((0:Int),aX.1,aX.2.1,aX.2.2,a3)) fun cg=>
  Option.bind (CX N b6) fun bX=>
  aw (true) <|
  aw (true) <|
  Option.bind (z7 N a1) fun nQ=>
  Option.bind (qr N (cg.2.1,cg.2.2.1) cg.1) fun oG=>
  Option.bind (qc N bX) fun nW=>
  some (cg.1,((cg.2.1,cg.2.2.1),(a5,((cg.2.2.2.map (·.2)),(nQ.1,(oG,nW.1))))))
noncomputable def DC (N:Nat) (a0:Int) (ay:(List (List al))) (a2:(List (List al))) (a3:List (Bool×List bB)) (a4:List (fK×Int)) (a5:List cb) (b6:List al):Option (ko):=
  aw (((decide ((0:Int)<=(a4.length:Int)))&&(gw 40 (a4.length:Int)))&&(true)) <|
  aw ((a4.isEmpty)&&(true)) <|
  Option.bind (JM N N (a0,ay,a2)) fun aX=>
  Option.bind (DA N ([]:List cH)) fun a1=>
  Option.bind (DB N a3 N ((0:Int),aX.1,aX.2.1,aX.2.2,a3)) fun cg=>
  Option.bind (CX N b6) fun bX=>
  aw (true) <|
  aw (true) <|
  eV (Option.bind (z7 N a1) fun nQ=>
  eV (Option.bind (qr N (cg.2.1,cg.2.2.1) cg.1) fun oG=>
  eV (Option.bind (qc N bX) fun nW=>
  some (cg.1,((cg.2.1,cg.2.2.1),(a5,((cg.2.2.2.map (·.2)),(nQ.1,(oG,nW.1))))))) (Option.bind (qc N bX) fun nW=>
  some (cg.1,((cg.2.1,cg.2.2.1),(a5,((cg.2.2.2.map (·.2)),(nQ.1,(oG,nW.1)))))))) (Option.bind (qr N (cg.2.1,cg.2.2.1) cg.1) fun oG=>
  Option.bind (qc N bX) fun nW=>
  some (cg.1,((cg.2.1,cg.2.2.1),(a5,((cg.2.2.2.map (·.2)),(nQ.1,(oG,nW.1)))))))) (Option.bind (z7 N a1) fun nQ=>
  Option.bind (qr N (cg.2.1,cg.2.2.1) cg.1) fun oG=>
  Option.bind (qc N bX) fun nW=>
  some (cg.1,((cg.2.1,cg.2.2.1),(a5,((cg.2.2.2.map (·.2)),(nQ.1,(oG,nW.1)))))))
theorem afp:DC=uT:=by
 unfold DC uT;simp only[nI]
noncomputable def afq (N:Nat):bI bU:=nO N b2 (by kernel_rfl) [.c (.raw (.ptr 1000000 0))] [(1000000,.cells 172 [.int .i64,.bn (.an aK),.bn (.an aK),.raw (.an 2000000),.raw (.an 2000001),.raw (.cp 1000001),.raw (.an 1000002)]),(2000001,.b5 118 113 ck),(1000001,.mp hV (.int .i64)),(2000000,.row 73 b7),(1000002,.row 102 aK)] ⟨.a (.c9 kM),[],[]⟩ [afo N,QA N,adr N,aev N,Qx N,JA N] [] (.s .d (.s (.r [.n 4,.t .NK]) (.s (.s (.r [.n 4,.t .NL]) (.b (.eY 0 ⟨[(0,.a (.c (.raw (.ptr 1000000 0)))),(2,.a (.c (.raw (.ptr 2 0)))),(3,.a (.c (.raw (.an 14)))),(19,.a (.c (.raw (.ptr 19 0))))],[(19,.gS 1000001),(1000000,.cells 172 [.int .i64,.bn (.an aK),.bn (.an aK),.raw (.an 2000000),.raw (.an 2000001),.raw (.cp 1000001),.raw (.an 1000002)])],[],[2,14,1000001,1000002,2000000,2000001]⟩ ⟨[(0,.a (.c (.raw (.ptr 1000000 0)))),(2,.a (.c (.raw (.ptr 2 0)))),(3,.a (.c (.raw (.an 14))))],[(1000000,.cells 172 [.int .i64,.bn (.an aK),.bn (.an aK),.raw (.an 2000000),.raw (.an 2000001),.raw (.cp 1000001),.raw (.an 1000002)])],[],[2,14,1000001,1000002,2000000,2000001]⟩ (.s (.r [.t .NM]) .d)))) (.s (.r [.n 1,.c [(2000000,14)]]) (.s (.s .d (.b (.eY 2 ⟨[(0,.a (.c (.raw (.ptr 1000000 0)))),(2,.a (.c (.raw (.ptr 2 0)))),(3,.a (.c (.raw (.an 14)))),(39,.a (.c (.raw (.an 2000001)))),(41,.a (.c (.int .i64)))],[(1000000,.cells 172 [.int .i64,.bn (.an aK),.bn (.an aK),.raw (.an 2000000),.raw (.an 2000001),.raw (.cp 1000001),.raw (.an 1000002)]),(2000001,.b5 118 113 ck)],[40],[2,14,1000001,1000002,2000000]⟩ ⟨[(0,.a (.c (.raw (.ptr 1000000 0)))),(2,.a (.c (.raw (.ptr 2 0)))),(3,.a (.c (.raw (.an 14))))],[(1000000,.cells 172 [.int .i64,.bn (.an aK),.bn (.an aK),.raw (.an 2000000),.raw (.an 2000001),.raw (.cp 1000001),.raw (.an 1000002)]),(2000001,.b5 118 113 ck)],[],[2,14,1000001,1000002,2000000]⟩ (.s .d (.s .d (.s (.b (.s (.r [.n 2,.t .GM]) (.o [4,5,6,1000008] [.t 0 0,.t 1 0,.t 2 0,.t 3 3,.t 4 0,.t 5 0,.z 45,.c 6 [(6,52)],.t 7 0,.u 8 .st] [(.t (.close 2000001 52))]))) .d)))))) (.s (.r [.n 4,.c [(2000000,1000002)]]) (.s (.hk [.di 14,.di 1000002] [4,5,6,7,8,9,10,11,12,13,14,15,16,17,18,19,21,1000022] (.b [.t 0 0,.t 1 0,.t 2 0,.t 3 3,.t 4 0,.t 6 0,.t 7 0,.t 8 0,.t 9 3,.t 10 0,.t 11 0,.t 12 0,.t 13 3,.t 15 0,.t 16 0,.t 17 0,.t 18 3] 5 21 [] [] none none (.b [] 14 21 [] [] none none (.b [] 19 21 [] [] none none (.f [.t 20 0,.k 21,.s 22]) (.f [.c 19 [],.t 20 0,.s 22])) (.f [.c 14 [],.c 19 [],.t 20 0,.s 22])) (.f [.c 5 [],.c 14 [],.c 19 [],.t 20 0,.s 22])) [] false) (.s (.o [4,5,6,7,8,9,10,11,12] [.t 0 0,.t 1 0,.t 2 0,.t 3 3,.t 4 0,.t 5 0,.t 6 0,.t 7 3,.t 8 0,.t 9 0,.t 10 0,.t 11 3,.t 12 3,.t 13 0,.s 14] []) (.t [.di 2000000,.t (.di 2000001)]))))))))) [.cell 2 38] 40 kM.zero (fun d=>DC N d.1 d.2.1 d.2.2.1 d.2.2.2.1 d.2.2.2.2.1 d.2.2.2.2.2.1 d.2.2.2.2.2.2.1) (fun d=>uT N d.1 d.2.1 d.2.2.1 d.2.2.2.1 d.2.2.2.2.1 d.2.2.2.2.2.1 d.2.2.2.2.2.2.1) (fun d=>(by rw[afp]:DC N d.1 d.2.1 d.2.2.1 d.2.2.2.1 d.2.2.2.2.1 d.2.2.2.2.2.1 d.2.2.2.2.2.2.1=uT N d.1 d.2.1 d.2.2.1 d.2.2.2.1 d.2.2.2.2.1 d.2.2.2.2.2.1 d.2.2.2.2.2.2.1)) Tryz.func40 rfl rfl Tryz.ntmps40 rfl rfl rfl (fun d=>by kernel_rfl)
def Ac(N:Nat) (ay:(List cS)):Nat->(Int×Int×(List (List al))×(List (List al))×(List (Int×(Option Nat)))×(List al)×(List (fK×Int))×(List (Bool×List bB))×(List cb))->Option ((Int×(List (List al))×(List (List al))×(List al)×(List (fK×Int))×(List (Bool×List bB))×(List cb))⊕(ko×Int×Int)):=cx fun d4 lT=>
  cond (decide (d4.1 < (ay.length:Int))) (aw ((bl d4.1 ay.length)&&(true)) <|
  Option.bind (jG N (ay.getD d4.1.toNat dW.zero) d4.2.1 d4.2.2.1 d4.2.2.2.1 d4.2.2.2.2.2.2.2.1 d4.2.2.2.2.2.2.1 d4.2.2.2.2.2.2.2.2 d4.2.2.2.2.2.1 d4.2.2.2.2.1) fun bX=>
  cond (!(decide (bX.1=(0:Int)))) (some (.inr (((0:Int),((([]:List (List al)),([]:List (List al))),(([]:List cb),(([]:List (List bB)),(([]:List cH),(([]:List al),([]:List al))))))),d4.1,bX.1))) (aw ((bp (d4.1+(1:Int)))&&(true)) <|
  lT ((d4.1+(1:Int)),bX.2.1,bX.2.2.1,bX.2.2.2.1,d4.2.2.2.2.1,bX.2.2.2.2.2.2.2,bX.2.2.2.2.2.1,bX.2.2.2.2.1,bX.2.2.2.2.2.2.1))) (some (.inl (d4.2.1,d4.2.2.1,d4.2.2.2.1,d4.2.2.2.2.2.1,d4.2.2.2.2.2.2.1,d4.2.2.2.2.2.2.2.1,d4.2.2.2.2.2.2.2.2)))
def rq(N:Nat) (a0:ko) (ay:(List cS)):Option (ko×Int×Int):=
  cond (decide ((4096:Int) < (ay.length:Int))) (some (((0:Int),((([]:List (List al)),([]:List (List al))),(([]:List cb),(([]:List (List bB)),(([]:List cH),(([]:List al),([]:List al))))))),(0:Int),(3:Int))) (Option.bind (zZ N a0) fun aH=>
  cond (!(decide (aH=(0:Int)))) (some (((0:Int),((([]:List (List al)),([]:List (List al))),(([]:List cb),(([]:List (List bB)),(([]:List cH),(([]:List al),([]:List al))))))),(0:Int),aH)) (Option.bind (sM N a0) fun a1=>
  Option.bind (my N) fun bD=>
  Option.bind (Ac N ay N ((0:Int),a1.1,a1.2.1,a1.2.2.1,bD,a1.2.2.2.2.2.2,a1.2.2.2.2.2.1,a1.2.2.2.2.1,a1.2.2.2.1)) fun(e0:(Int×(List (List al))×(List (List al))×(List al)×(List (fK×Int))×(List (Bool×List bB))×(List cb))⊕(ko×Int×Int))=>
  sm e0 (fun e0=>
  Option.bind (uT N e0.1 e0.2.1 e0.2.2.1 e0.2.2.2.2.2.1 e0.2.2.2.2.1 e0.2.2.2.2.2.2 e0.2.2.2.1) fun cy=>
  some (cy,(ay.length:Int),(0:Int))) (fun q=>some q)))
noncomputable def QT (N:Nat):bI bU:=cj N b2 (by kernel_rfl) [.c9 kM,.c (.bn dW)] [] ⟨.da [.c9 kM,.c (.int .i64),.c (.int .i64)],[],[]⟩ [aeo N,aeu N,afg N,afh N,afq N] [] (.s (.r [.n 4,.w (.ca 2 kM)]) (.s .d (.s .d (.s (.r [.n 1,.c [(34,24),(19,42),(23,38),(28,31),(32,29)],.c [(1,25)]]) (.s (.s .d (.b (.fw 0 ⟨[(4,.a (.c (.raw (.ptr 4 0)))),(8,.a (.c (.raw (.ptr 24 0)))),(9,.a (.c (.raw (.cp 25)))),(28,.a (.c (.int .i64)))],[(24,.cells 172 [.int .i64,.bn (.an aK),.bn (.an aK),.raw (.an 42),.raw (.an 38),.raw (.cp 31),.raw (.an 29)]),(25,.mp (.int .u8) .fn),(29,.row 102 aK),(31,.mp hV (.int .i64)),(38,.b5 118 113 ck),(42,.row 73 b7)],[1,26,27],[4]⟩ ⟨[(4,.a (.c (.raw (.ptr 4 0)))),(8,.a (.c (.raw (.ptr 24 0))))],[(24,.cells 172 [.int .i64,.bn (.an aK),.bn (.an aK),.raw (.an 42),.raw (.an 38),.raw (.cp 31),.raw (.an 29)]),(29,.row 102 aK),(31,.mp hV (.int .i64)),(38,.b5 118 113 ck),(42,.row 73 b7)],[1],[4]⟩ (.s .d (.s .d (.s (.b (.s (.r [.n 6,.w (.ca 11 dW)]) (.s (.r [.n 3,.c [(1000000,24),(2000001,38),(1000002,31),(2000000,42),(1000003,29),(1000001,25)]]) .d))) .d)))))) (.s (.r [.n 1,.c [(1000000,24),(2000001,38),(1000001,31),(2000000,42),(1000002,29)]]) .d)))))) [.cell 4 38,.tmp 5,.tmp 6] 10 (kM.zero,0,0) (fun d=>rq N d.1 d.2.1) Tryz.func10 rfl rfl Tryz.ntmps10 rfl rfl rfl (fun d=>by kernel_rfl)
end
section
open Go.RowKit
theorem JN(N:Nat) {k d:Int} {nd:al} {y:Int} (ab:k=4\/k=5\/k=6) (av:d=0\/d=1) (lu:(nd.1=0\/nd.1=1)/\1<=nd.2/\nd.2<=40) (aT:1<=y/\y<=6):lp N (k,(d,(nd,(y,0))))=some 0:=by
 obtain⟨kQ,uU,au,aF,aY⟩:∃ kQ,sF N=some kQ/\cJ (.int .u8) c5 kQ 4=some (true,(true,(true,false)))/\cJ (.int .u8) c5 kQ 5=some (true,(true,(true,false)))/\cJ (.int .u8) c5 kQ 6=some (true,(true,(true,false))):=⟨_,rfl,rfl,rfl,rfl⟩
 have hm:cJ (.int .u8) c5 kQ k=some (true,(true,(true,false))):=by
  rcases ab with rfl | rfl | rfl
  ·exact au
  ·exact aF
  ·exact aY
 have aq:nU N (k,(d,(nd,(y,0))))=some true:=by
  unfold nU
  apply T.eq
  rcases av with rfl | rfl<;>simp only[bc,Int.reduceEq,Int.reduceLT,Int.reduceLE,reduceCtorEq,bt uU,hm,Option.isSome_some,Option.getD_some,bt (pt N lu),show ¬ y < 1 by omega,show ¬ 6 < y by omega]
 unfold lp
 apply T.eq
 simp only[bc,Int.reduceEq,Int.reduceLT,Int.reduceLE,reduceCtorEq,bt aq]
theorem afr(N:Nat) {d:Int} {y:Int} (av:d=0\/d=1) (aT:1<=y/\y<=6):lp N (1,(d,((0,0),(y,0))))=some 0:=by
 obtain⟨kQ,uU,hm⟩:∃ kQ,sF N=some kQ/\cJ (.int .u8) c5 kQ 1=some (true,(false,(true,false))):=⟨_,rfl,rfl⟩
 have ae:aQ.beq aK ((0:Int),(0:Int)) ((0:Int),(0:Int))=true:=rfl;have aq:nU N (1,(d,((0,0),(y,0))))=some true:=by
  unfold nU
  apply T.eq
  rcases av with rfl | rfl<;>simp only[bc,Int.reduceEq,Int.reduceLT,Int.reduceLE,reduceCtorEq,bt uU,hm,ae,Option.isSome_some,Option.getD_some,show ¬ y < 1 by omega,show ¬ 6 < y by omega]
 unfold lp
 apply T.eq
 simp only[bc,Int.reduceEq,Int.reduceLT,Int.reduceLE,reduceCtorEq,bt aq]
theorem afs{N:Nat} {op:cS} (h:lp N op=some 0) (ab:op.1=1) (r:Int) (f g:List (List al)) (eO:List (Bool×List bB)) (fB) (ys:List cb) (fl:List al) {A} (ag:my N=some A) :
  jG N op r f g eO fB ys fl A=Option.bind (rm N op r f g eO fB ys fl) fun a1=>some (a1.1,a1.2.1,a1.2.2.1,a1.2.2.2.1,eO,fB,a1.2.2.2.2,fl):=by
 obtain⟨k,op⟩:=op;dsimp only at ab;subst ab;cases ag;unfold jG;rw[h]
 rfl
theorem aft{N:Nat} {op:cS} (h:lp N op=some 0) (ab:op.1=4) (r:Int) (f g:List (List al)) (eO:List (Bool×List bB)) (fB) (ys:List cb) (fl:List al) {A} (ag:my N=some A) :
  jG N op r f g eO fB ys fl A=rp N op r f g eO fB ys fl:=by
 obtain⟨k,op⟩:=op;dsimp only at ab;subst ab;cases ag;unfold jG;rw[h];show Option.bind (rp N _ r f g eO fB ys fl) _=_;cases rp N ((4:Int),op) r f g eO fB ys fl<;>rfl
theorem afu{N:Nat} {op:cS} (h:lp N op=some 0) (ab:op.1=6) (r:Int) (f g:List (List al)) (eO:List (Bool×List bB)) (fB) (ys:List cb) (fl:List al) {A} (ag:my N=some A) :
  jG N op r f g eO fB ys fl A=uS N op r f g eO fB ys fl:=by
 obtain⟨k,op⟩:=op;dsimp only at ab;subst ab;cases ag;unfold jG;rw[h];show Option.bind (uS N _ r f g eO fB ys fl) _=_;cases uS N ((6:Int),op) r f g eO fB ys fl<;>rfl
theorem JO{N:Nat} {ys:List cb} {y:Nat} (aT:y < 6) {Y:cb} (cr:ys[y]?=some Y) (hl:Y.1=true) {nd:al} (lu:(nd.1=0\/nd.1=1)/\1<=nd.2/\nd.2<=40) {r:Int} (az:-4<=r/\r<=4) (gx:Y.2.1<=fo nd.1 nd.2 r) (k:Int) (f g:List (List al)) (eO:List (Bool×List bB)) (fB) (fl:List al) :
  nj N (k,(1,(nd,((y:Int)+1,0)))) r f g eO fB ys fl=some (fo nd.1 nd.2 r+1,fo nd.1 nd.2 r,0,r,f,g):=by
 have a8:=(List.getElem?_eq_some_iff.1 cr).1;have ak:=z8 N lu az;have ae:-1000<=fo nd.1 nd.2 r/\fo nd.1 nd.2 r<=1000:=by
  unfold fo
  split<;>omega
 obtain⟨S,aI⟩:∃ S,S=fo nd.1 nd.2 r:=⟨_,rfl⟩
 rw[<- aI]at ak ae gx ⊢;unfold nj
 apply T.eq
 simp only[uQ aT,bc,Int.reduceEq,Int.reduceLT,Int.reduceLE,reduceCtorEq,b8 cr,bt ak,hl,show ¬ S < Y.2.1 by omega]
 and_intros<;>first | omega | (simp only[bN]; omega) | exact this | trivial
theorem JP{N:Nat} (bd:5000 < N) {f g:List (List al)} (aA:fD f) (aL:fD g) (a7:(f.flatten++g.flatten).Nodup) {r:Int} (az:-4<=r/\r<=4) (aa:f.flatten.length+g.flatten.length < 20) (ak:qe (fA f g r))
  {ys:List cb} {y:Nat} (aT:y < 6) {Y:cb} (cr:ys[y]?=some Y) (aB:nR Y) (hl:Y.1=true) {place e:Int} (aq:Int.tmod place 2≠0/\-13<=place/\place<=179) (a8:Y.2.1 < e) (gn:∀ p∈fA f g r,¬ (Y.2.1 < p.2.2/\p.2.2 < e)) (eO:List (Bool×List bB)) (fB) (fl:List al) :
  nk N ((y:Int)+1) place e r f g eO fB ys fl=some (0,r,f,g,ys.set y (true,place,Y.2.2.1,Y.2.2.2.1,Y.2.2.2.2)):=by
 have pa:=(List.getElem?_eq_some_iff.1 cr).1;have ad:=JH bd aA aL a7 az aa ak;have ae:=aeF bd (L:=fA f g r) (by rw[w9]; omega) a8 gn;have aje:=aB.e9;have ma:=P4 aB hl bd aq (l:=[]) (fun p aq=>by cases aq) (by rw[List.length_nil]; omega);unfold nk
 apply T.eq
 simp only[uQ aT,bc,Int.reduceEq,Int.reduceLT,Int.reduceLE,reduceCtorEq,bt ad,b8 cr,bt ae,bt ma];refine⟨⟨⟨by omega,by omega⟩,by omega⟩,⟨⟨by omega,by omega⟩,by omega⟩,rfl⟩
theorem QU{N:Nat} {f g:List (List al)} {a:Nat} (J:f.length < a) (U:a<=40):pr N (f,g) ((0:Int),(a:Int))=some ([],0):=by
 unfold pr
 apply T.eq
 simp only[bc,Int.reduceEq,Int.reduceLT,Int.reduceLE,reduceCtorEq,bt (pt N (nd:=((0:Int),(a:Int))) ⟨Or.inl rfl,by dsimp only; omega,by dsimp only; omega⟩),show(f.length:Int) < (a:Int) by omega]
theorem QV(N:Nat) (l:List al) (h:l.length<=100000):lX N l=some l:=by
 unfold lX
 apply T.eq
 simp only[bc,Int.reduceEq,Int.reduceLT,Int.reduceLE,reduceCtorEq,List.length_replicate]
 and_intros<;>first | omega | (simp only[bN]; omega) | exact this | trivial
theorem JQ{N:Nat} (bd:5000 < N) {f g f' g':List (List al)} {t:List (List bB)} (aY:t.length=6) (aV:eo t < 2048) {ys:List cb} {y:Nat} (aT:y < 6) {Y:cb} (cr:ys[y]?=some Y) (aB:nR Y) (hl:Y.1=true) (QW:Y.2.2.1=((t.getD y []).length:Int))
  {nd:al} {stack thr:List al} (au:stack.length<=4) (fX:lq N (f,g) nd (stack++[((y:Int)+1,Y.2.2.1)])=some ((f',g'),0)) (k d r:Int) (fB) (fl:List al) :
  qf N (k,(d,(nd,((y:Int)+1,0)))) thr stack r f g (own t) fB ys fl=some (0,r,f',g',own (hx t y (nd.1,(Y.2.2.2.1,(thr,Y.2.2.2.2)))),ys.set y (true,Y.2.1,Y.2.2.1+1,false,[])):=by
 have pa:=(List.getElem?_eq_some_iff.1 cr).1;have ie:=wS (t:=t) y;have aA:=aB.e9;obtain⟨x,aj⟩:∃ x,t[y]?=some x:=⟨_,List.getElem?_eq_getElem (by omega)⟩
 have QX:t.getD y []=x:=b8 aj;rw[QX]at ie QW;unfold qf
 apply T.eq
 simp only[uQ aT,bc,Int.reduceEq,Int.reduceLT,Int.reduceLE,reduceCtorEq,bt (aeX (N:=N) t (by omega) (by omega) (by omega)),b8 cr,bt (adK aB hl bd (by rw[QW]; omega)),bt (QV N stack (by omega)),bt fX,uP,Ds aj,JI,show ¬ (2048:Int)<=(eo t:Int) by omega,QX,hx,List.length_singleton,List.length_append]
 and_intros<;>first | omega | (simp only[bN]; omega) | exact this | trivial
end
section
open Go.RowKit
structure lv(f g:List (List al)):Prop where
 gL:fD f
 aZ:fD g
 cX:lW f
 gs:lW g
theorem DD{N:Nat} {f g:List (List al)} (h:lv f g) {b:Int} (ae:b=0\/b=1) {a:Nat} (J:1<=a) (U:a<=40):pr N (f,g) (b,(a:Int))=some ((if b=1 then g else f).getD (a - 1) [],((if b=1 then g else f).getD (a - 1) []).length):=by
 have lu:=pt N (nd:=(b,(a:Int))) ⟨ae,by dsimp only; omega,by dsimp only; omega⟩;have key:∀ l:List (List al),fD l->T (cond (decide ((l.length:Int) < (a:Int))) (some (([]:List al),0)) (aw ((bp ((a:Int) - (1:Int)))&&((bl ((a:Int) - (1:Int)) l.length)&&(true))) <|
   Option.bind (sH N (l.getD ((a:Int) - (1:Int)).toNat [])) fun bD=>some (bD.1,bD.2))) (·=(l.getD (a - 1) [],(l.getD (a - 1) []).length)):=by
  intro l aB;have ad:=aB.len;have aC:((a:Int) - 1).toNat=a - 1:=by omega
  by_cases a8:(l.length:Int) < (a:Int)
  ·have aW:l.getD (a - 1) []=[]:=by
    rw[List.getD_eq_getElem?_getD,List.getElem?_eq_none (by omega)]
    rfl
   simp only[bc,Int.reduceEq,Int.reduceLT,Int.reduceLE,reduceCtorEq,a8,aW,List.length_nil]
  ·obtain⟨s,ak⟩:∃ s,l[a - 1]?=some s:=⟨_,List.getElem?_eq_getElem (by omega)⟩
   have au:=aB.e9 s (List.mem_of_getElem? ak);simp only[bc,Int.reduceEq,Int.reduceLT,Int.reduceLE,reduceCtorEq,a8,aC,b8 ak,bt (Dg N s (by omega))]
   and_intros<;>first | omega | (simp only[bN]; omega) | exact this | trivial
 unfold pr
 apply T.eq
 rcases ae with rfl | rfl
 ·simp only[bt lu,ur,sw,Ia,Ib,decide_eq_true_iff,decide_eq_false_iff_not,su,Int.reduceEq,false_implies,true_implies,not_true_eq_false,not_false_eq_true,and_true,true_and,implies_true,if_false,reduceCtorEq]
  exact⟨fun a8=>(by have q:=(sw.1 (key f h.gL)).1 (decide_eq_true a8); rw[su]at q; exact q),fun a8=>(sw.1 (key f h.gL)).2 (decide_eq_false a8)⟩
 ·simp only[bt lu,ur,sw,Ia,Ib,decide_eq_true_iff,decide_eq_false_iff_not,su,Int.reduceEq,false_implies,true_implies,not_true_eq_false,not_false_eq_true,and_true,true_and,implies_true,if_true,reduceCtorEq]
  exact⟨fun a8=>(by have q:=(sw.1 (key g h.aZ)).1 (decide_eq_true a8); rw[su]at q; exact q),fun a8=>(sw.1 (key g h.aZ)).2 (decide_eq_false a8)⟩
theorem JR{N:Nat} (bd:5000 < N) {f g:List (List al)} (h:lv f g) {b:Int} (ae:b=0\/b=1) {a:Nat} (J:1<=a) (U:a<=40) {s:List al} (ak:s.length<=4) (a6:∀ x∈s,nT x) :
  T (oF N (f,g) (b,(a:Int)) s) fun r=>lv r.1 r.2/\(∀ k,r.1.getD k []=if b=0/\k=a - 1 then s else f.getD k [])/\(∀ k,r.2.getD k []=if b=1/\k=a - 1 then s else g.getD k []):=by
 unfold oF
 rcases ae with rfl | rfl
 ·simp only[bc,Int.reduceEq,Int.reduceLT,Int.reduceLE,reduceCtorEq,bt (Jx bd h.aZ h.gs)]
  refine(QE bd h.gL J U ak a6).mono ?_;rintro r ⟨j9,sn,Ad⟩;exact⟨⟨sn,h.aZ,j9,h.gs⟩,fun k=>by first | (rw[Ad]; done) | (rw[Ad]; simp; done) | simp | rfl,fun k=>by first | (simp; done) | rfl⟩
 ·simp only[bc,Int.reduceEq,Int.reduceLT,Int.reduceLE,reduceCtorEq,bt (Jx bd h.gL h.cX)]
  refine(QE bd h.aZ J U ak a6).mono ?_;rintro r ⟨j9,sn,Ad⟩;exact⟨⟨h.gL,sn,h.cX,j9⟩,fun k=>by first | (simp; done) | rfl,fun k=>by first | (rw[Ad]; done) | (rw[Ad]; simp; done) | simp | rfl⟩
theorem afv{f g:List (List al)} {b:Int} {a:Nat} (h:lv f g):((if b=1 then g else f).getD (a - 1) []).length<=4/\∀ x∈(if b=1 then g else f).getD (a - 1) [],nT x:=by
 have key:∀ l:List (List al),fD l->(l.getD (a - 1) []).length<=4/\∀ x∈l.getD (a - 1) [],nT x:=by
  intro l aB;rw[List.getD_eq_getElem?_getD];cases ao:l[a - 1]? with
  | none=>exact⟨Nat.zero_le _,fun x aj=>by cases aj⟩
  | some s=>exact⟨aB.e9 s (List.mem_of_getElem? ao),aB.ok s (List.mem_of_getElem? ao)⟩
 split
 ·exact key g h.aZ
 ·exact key f h.gL
theorem afw{N:Nat} (bd:5000 < N) {f g:List (List al)} (h:lv f g) (a7:(f.flatten++g.flatten).Nodup) (aa:f.flatten.length+g.flatten.length < 20) {b:Int} (ae:b=0\/b=1) {a:Nat} (J:1<=a) (U:a<=40)
  (ak:(if b=1 then g else f).getD (a - 1) []≠[]) (he:(if b=1 then f else g).getD (a - 1) []=[]) :
  T (sJ N (f,g) (b,(a:Int)) (1 - b,(a:Int))) fun q=>q.2=0/\lv q.1.1 q.1.2/\(∀ k,q.1.1.getD k []=if k=a - 1 then(if b=1 then g.getD (a - 1) [] else [])else f.getD k [])/\(∀ k,q.1.2.getD k []=if k=a - 1 then(if b=1 then [] else f.getD (a - 1) [])else g.getD k []):=by
 have uO:=wV bd h.gL h.aZ a7 (by omega);have ia:1 - b=0\/1 - b=1:=by omega
 have DE:=pt N (nd:=(b,(a:Int))) ⟨ae,by dsimp only; omega,by dsimp only; omega⟩;have DF:=pt N (nd:=(1 - b,(a:Int))) ⟨ia,by dsimp only; omega,by dsimp only; omega⟩;have DG:=DD (N:=N) h ae J U;have QY:=DD (N:=N) h ia J U;have uN:(if 1 - b=1 then g else f)=(if b=1 then f else g):=by
  rcases ae with rfl | rfl<;>rfl
 rw[uN,he]at QY;obtain⟨S,aI⟩:∃ S,S=(if b=1 then g else f).getD (a - 1) []:=⟨_,rfl⟩
 have DH:=afv (b:=b) (a:=a) h;rw[<- aI]at DH ak DG;have P3:¬ (S.length:Int)=0:=by
  have:=List.length_pos_iff.2 ak
  omega
 have cu:¬ b=1 - b:=by omega
 unfold sJ;simp only[bc,Int.reduceEq,Int.reduceLT,Int.reduceLE,reduceCtorEq,bt uO,bt DE,bt DF,bt DG,bt QY,cu,P3,List.length_nil,bt (Dg N [] (show([]:List al).length<=100000 by decide)),bt (Dg N S (by omega)),List.nil_append,List.append_nil];have QZ:T (oF N (f,g) (b,(a:Int)) []) fun r=>T (oF N r (1 - b,(a:Int)) S) fun r=>lv r.fst r.snd/\(∀ k,r.fst.getD k []=if k=a - 1 then(if b=1 then g.getD (a - 1) [] else [])else f.getD k [])/\∀ k,r.snd.getD k []=if k=a - 1 then(if b=1 then [] else f.getD (a - 1) [])else g.getD k []:=by
  refine(JR bd h ae J U (s:=[]) (by simp) (fun x aj=>by cases aj)).mono ?_;rintro⟨f1,g1⟩ ⟨bT,og,cR⟩;refine(JR bd bT ia J U DH.1 DH.2).mono ?_;rintro⟨f2,g2⟩ ⟨q7,iC,dp⟩;refine⟨q7,fun k=>?_,fun k=>?_⟩
  ·dsimp only at iC og ⊢
   rw[iC,og]
   rcases ae with rfl | rfl
   ·simp
   ·rw[aI]; simp
  ·dsimp only at dp cR ⊢
   rw[dp,cR]
   rcases ae with rfl | rfl
   ·rw[aI]; simp
   ·simp
 have ajf:=DH.1;refine⟨by and_intros<;>first | omega | (simp only[bN]; omega) | exact this | trivial,fun h=>by omega,fun _=>⟨by and_intros<;>first | omega | (simp only[bN]; omega) | exact this | trivial,fun _=>⟨by and_intros<;>first | omega | (simp only[bN]; omega) | exact this | trivial,QZ⟩,fun _=>QZ⟩⟩
end
section
open Go.RowKit
theorem afx(N:Nat) {nd:al} (lu:(nd.1=0\/nd.1=1)/\1<=nd.2/\nd.2<=40):lp N (7,(0,(nd,(0,0))))=some 0:=by
 obtain⟨kQ,uU,hm⟩:∃ kQ,sF N=some kQ/\cJ (.int .u8) c5 kQ 7=some (false,(true,(false,false))):=⟨_,rfl,rfl⟩
 have aq:nU N (7,(0,(nd,(0,0))))=some true:=by
  unfold nU
  apply T.eq
  simp only[bc,Int.reduceEq,Int.reduceLT,Int.reduceLE,reduceCtorEq,bt uU,hm,Option.isSome_some,Option.getD_some,bt (pt N lu)]
 unfold lp
 apply T.eq
 simp only[bc,Int.reduceEq,Int.reduceLT,Int.reduceLE,reduceCtorEq,bt aq]
theorem afy{N:Nat} {op:cS} (h:lp N op=some 0) (ab:op.1=7) (r:Int) (f g:List (List al)) (eO:List (Bool×List bB)) (fB) (ys:List cb) (fl:List al) {A} (ag:my N=some A) :
  jG N op r f g eO fB ys fl A=Option.bind (sN N op r f g eO fB ys fl) fun jk=>some (jk.1,jk.2.1,jk.2.2.1,jk.2.2.2,eO,fB,ys,fl):=by
 obtain⟨k,op⟩:=op;dsimp only at ab;subst ab;cases ag;unfold jG;rw[h]
 rfl
theorem afz(N:Nat) {b:Int} (ae:b=0\/b=1) {a:Nat} (J:1<=a) (U:a<=40):wY N (b,(a:Int)) 0=some ((1 - b,(a:Int)),0):=by
 have DE:=pt N (nd:=(b,(a:Int))) ⟨ae,by dsimp only; omega,by dsimp only; omega⟩;have ab:wX N 0=some true:=rfl;have DF:∀ c:Int,c=0\/c=1->kP N (c,(a:Int))=some 0:=fun c aa=>pt N (nd:=(c,(a:Int))) ⟨aa,by dsimp only; omega,by dsimp only; omega⟩
 unfold wY
 apply T.eq
 rcases ae with rfl | rfl
 ·simp only[bc,Int.reduceEq,Int.reduceLT,Int.reduceLE,reduceCtorEq,bt DE,bt ab,Int.sub_zero,bt (DF 1 (Or.inr rfl))]
  and_intros<;>first | omega | (simp only[bN]; omega) | exact this | trivial
 ·simp only[bc,Int.reduceEq,Int.reduceLT,Int.reduceLE,reduceCtorEq,bt DE,bt ab,Int.add_zero,Int.sub_zero,bt (DF 0 (Or.inl rfl))]
  and_intros<;>first | omega | (simp only[bN]; omega) | exact this | trivial
theorem afA{N:Nat} (bd:5000 < N) {ys:List cb} (aT:ys.length=6) (nS:∀ Y∈ys,Y.1=false) (bD cq r:Int) (f g:List (List al)) (ae:-1000<=bD/\bD<=1000/\-1000<=cq/\cq<=1000):Ab N ys bD cq N ((0:Int),r,f,g)=some (.inl (r,f,g)):=by
 unfold Ab;refine e8 (fun k d=>∃ i:Nat,i+k=6/\d=((i:Int),r,f,g)) _ ?_ N 6 _ (by omega) ⟨0,by omega,rfl⟩;rintro k d rec ⟨i,hi,rfl⟩ bY
 apply T.eq
 by_cases a8:i < 6
 ·obtain⟨Y,cr⟩:∃ Y,ys[i]?=some Y:=⟨_,List.getElem?_eq_getElem (by omega)⟩
  have afB:=nS Y (List.mem_of_getElem? cr);have bg:(i:Int) < (ys.length:Int):=by omega
  have this:T (rec ((i:Int)+1,r,f,g)) (·=.inl (r,f,g)):=⟨_,bY (k - 1) _ (by omega) ⟨i+1,by omega,rfl⟩,rfl⟩
  simp only[bc,Int.reduceEq,Int.reduceLT,Int.reduceLE,reduceCtorEq,bg,b8 cr,afB,Bool.false_eq_true]
  and_intros<;>first | omega | (simp only[bN]; omega) | exact this | trivial
 ·have bg:¬ (i:Int) < (ys.length:Int):=by omega
  simp only[bc,Int.reduceEq,Int.reduceLT,Int.reduceLE,reduceCtorEq,bg]
theorem afC{N:Nat} (bd:5000 < N) {f g:List (List al)} (h:lv f g) (a7:(f.flatten++g.flatten).Nodup) (aa:f.flatten.length+g.flatten.length < 20) {b:Int} (ae:b=0\/b=1) {a:Nat} (J:1<=a) (U:a<=40)
  (ak:(if b=1 then g else f).getD (a - 1) []≠[]) (he:(if b=1 then f else g).getD (a - 1) []=[]) {ys:List cb} (aT:ys.length=6) (nS:∀ Y∈ys,Y.1=false) (eO:List (Bool×List bB)) (fB) (fl:List al) :
  T (sN N (7,(0,((b,(a:Int)),(0,0)))) 0 f g eO fB ys fl) fun q=>q.1=0/\q.2.1=0/\lv q.2.2.1 q.2.2.2/\(∀ k,q.2.2.1.getD k []=if k=a - 1 then(if b=1 then g.getD (a - 1) [] else [])else f.getD k [])/\(∀ k,q.2.2.2.getD k []=if k=a - 1 then(if b=1 then [] else f.getD (a - 1) [])else g.getD k []):=by
 have ia:1 - b=0\/1 - b=1:=by omega
 have DG:=DD (N:=N) h ae J U;have ax:=afz N ae J U;have e5:=z8 N (nd:=(b,(a:Int))) ⟨ae,by dsimp only; omega,by dsimp only; omega⟩ (r:=0) ⟨by decide,by decide⟩;have h8:=z8 N (nd:=(1 - b,(a:Int))) ⟨ia,by dsimp only; omega,by dsimp only; omega⟩ (r:=0) ⟨by decide,by decide⟩;have lP:∀ c:Int, -1000<=fo c (a:Int) 0/\fo c (a:Int) 0<=1000:=fun c=>by
  unfold fo
  split<;>omega
 have dY:=afA bd aT nS (fo b (a:Int) 0) (fo (1 - b) (a:Int) 0) 0 f g ⟨(lP b).1,(lP b).2,(lP (1 - b)).1,(lP (1 - b)).2⟩;have hlen:¬ (((if b=1 then g else f).getD (a - 1) []).length:Int)=0:=by
  have:=List.length_pos_iff.2 ak
  omega
 have Ir:=lP b;have ajg:=lP (1 - b);have xu:bp ((if fo (1 - b) (a:Int) 0 < fo b (a:Int) 0 then fo (1 - b) (a:Int) 0 else fo b (a:Int) 0)+1)=true:=by
  split<;>exact zt (by omega) (by omega)
 unfold sN;simp only[bc,Int.reduceEq,Int.reduceLT,Int.reduceLE,reduceCtorEq,bt DG,hlen,bt ax,bt e5,bt h8,bt dY];refine⟨AS.1 xu,(afw bd h a7 aa ae J U ak he).mono ?_⟩;rintro q ⟨e,bT,ah,au⟩;exact⟨fun _=>⟨e,bT,ah,au⟩,fun cu=>absurd e cu⟩
end
section
open Go.RowKit
theorem JS(N:Nat) (l:List al) (h:l.length<=100000):qc N l=some (l,l.length):=by
 unfold qc
 apply T.eq
 simp only[bc,Int.reduceEq,Int.reduceLT,Int.reduceLE,reduceCtorEq,List.length_replicate]
 and_intros<;>first | omega | (simp only[bN]; omega) | exact this | trivial
theorem Q0(N:Nat) (l:List c1) (h:l.length<=100000):z1 N l=some (l,l.length):=by
 unfold z1
 apply T.eq
 simp only[bc,Int.reduceEq,Int.reduceLT,Int.reduceLE,reduceCtorEq,List.length_replicate]
 and_intros<;>first | omega | (simp only[bN]; omega) | exact this | trivial
theorem Q1(N:Nat) (l:List bB) (h:l.length<=100000):z6 N l=some l:=by
 unfold z6
 apply T.eq
 simp only[bc,Int.reduceEq,Int.reduceLT,Int.reduceLE,reduceCtorEq,List.length_replicate]
 and_intros<;>first | omega | (simp only[bN]; omega) | exact this | trivial
theorem afD(N:Nat) (l:List cb) (h:l.length<=100000):Dl N l=some l:=by
 unfold Dl
 apply T.eq
 simp only[bc,Int.reduceEq,Int.reduceLT,Int.reduceLE,reduceCtorEq,List.length_replicate]
 and_intros<;>first | omega | (simp only[bN]; omega) | exact this | trivial
theorem Q2{N:Nat} (bd:5000 < N) {l:List (List al)} (h:fD l) (ak:lW l):qd N l=some l:=by
 have ad:=h.len;have J:Dk N l N (l.length:Int)=some (l.length:Int):=by
  obtain⟨n,a7⟩:∃ n,N=n+1:=⟨N - 1,by omega⟩
  have U:Dk N l (n+1) (l.length:Int)=some (l.length:Int):=by
   unfold Dk;rw[cx]
   apply T.eq
   by_cases aN:l.length=0
   ·have ln:¬ (0:Int) < (l.length:Int):=by omega
    simp only[bc,Int.reduceEq,Int.reduceLT,Int.reduceLE,reduceCtorEq,ln]
   ·have ln:(0:Int) < (l.length:Int):=by omega
    obtain⟨s,gQ⟩:∃ s,l[l.length - 1]?=some s:=⟨_,List.getElem?_eq_getElem (by omega)⟩
    have cu:=ak s (by rw[List.getLast?_eq_getElem?]; exact gQ);have vb:¬ (s.length:Int)=0:=by
     have:=List.length_pos_iff.2 cu
     omega
    have aC:((l.length:Int) - 1).toNat=l.length - 1:=by omega
    simp only[bc,Int.reduceEq,Int.reduceLT,Int.reduceLE,reduceCtorEq,ln,aC,b8 gQ,vb]
    and_intros<;>first | omega | (simp only[bN]; omega) | exact this | trivial
  rw[<- a7]at U;exact U
 have U:JB N l (l.length:Int) N ((0:Int),List.replicate (l.length:Int).toNat [])=some l:=by
  unfold JB;refine e8 (fun k d=>∃ i:Nat,i+k=l.length/\d=((i:Int),l.take i++List.replicate (l.length - i) [])) _ ?_ N l.length _ (by omega) ⟨0,by omega,by simp⟩;rintro k d rec ⟨i,hi,rfl⟩ bY
  apply T.eq
  by_cases a8:i < l.length
  ·obtain⟨x,aj⟩:∃ x,l[i]?=some x:=⟨_,List.getElem?_eq_getElem a8⟩
   have bg:(i:Int) < (l.length:Int):=by omega
   have Qq:=h.e9 x (List.mem_of_getElem? aj);have this:T (rec ((i:Int)+1,l.take (i+1)++List.replicate (l.length - (i+1)) [])) (·=l):=⟨_,bY (k - 1) _ (by omega) ⟨i+1,by omega,rfl⟩,rfl⟩
   simp only[bc,Int.reduceEq,Int.reduceLT,Int.reduceLE,reduceCtorEq,bg,b8 aj,bt (JS N x (by omega)),QO (Nat.le_of_lt a8),QN aj]
   and_intros<;>first | omega | (simp only[bN]; omega) | exact this | trivial
  ·have bg:¬ (i:Int) < (l.length:Int):=by omega
   simp only[bc,Int.reduceEq,Int.reduceLT,Int.reduceLE,reduceCtorEq,bg];rw[List.take_of_length_le (by omega),show l.length - i=0 by omega]
   simp
 unfold qd
 apply T.eq
 rw[Int.toNat_natCast]at U;simp only[bc,Int.reduceEq,Int.reduceLT,Int.reduceLE,reduceCtorEq,bt J,bt U]
 and_intros<;>first | omega | (simp only[bN]; omega) | exact this | trivial
theorem afE{N:Nat} (bd:5000 < N) {ys:List cb} (ad:ys.length<=300) (h:∀ Y∈ys,Y.2.2.2.2.length<=100000):sK N ys=some ys:=by
 have U:JC N ys N ((0:Int),ys)=some ys:=by
  unfold JC;refine e8 (fun k d=>∃ i:Nat,i+k=ys.length/\d=((i:Int),ys)) _ ?_ N ys.length _ (by omega) ⟨0,by omega,rfl⟩;rintro k d rec ⟨i,hi,rfl⟩ bY
  apply T.eq
  by_cases a8:i < ys.length
  ·obtain⟨x,aj⟩:∃ x,ys[i]?=some x:=⟨_,List.getElem?_eq_getElem a8⟩
   have bg:(i:Int) < (ys.length:Int):=by omega
   have this:T (rec ((i:Int)+1,ys)) (·=ys):=⟨_,bY (k - 1) _ (by omega) ⟨i+1,by omega,rfl⟩,rfl⟩
   simp only[bc,Int.reduceEq,Int.reduceLT,Int.reduceLE,reduceCtorEq,bg,b8 aj,bt (Q0 N _ (h x (List.mem_of_getElem? aj))),QJ,zu aj]
   and_intros<;>first | omega | (simp only[bN]; omega) | exact this | trivial
  ·have bg:¬ (i:Int) < (ys.length:Int):=by omega
   simp only[bc,Int.reduceEq,Int.reduceLT,Int.reduceLE,reduceCtorEq,bg]
 unfold sK
 apply T.eq
 simp only[bc,Int.reduceEq,Int.reduceLT,Int.reduceLE,reduceCtorEq,bt (afD N ys (by omega)),bt U]
theorem afF{N:Nat} (t:List (List bB)) (bd:5000 < N) (h:Dt t):rl N t=some (own t):=by
 have uV:=h.e9;have ah:∀ (j:Nat) (x:List bB) (R:List (List bB)),t[j]?=some x->R[j]?=some x->JD N t (j:Int) N ((0:Int),own R)=some (own R):=by
  intro j x R aj dT;have JT:=List.mem_of_getElem? aj;have iZ:=h.row x JT;have Aa:=(List.getElem?_eq_some_iff.1 dT).1;unfold JD;refine e8 (fun k d=>∃ i:Nat,i+k=x.length/\d=((i:Int),own R)) _ ?_ N x.length _ (by omega) ⟨0,by omega,rfl⟩;rintro k d rec ⟨i,hi,rfl⟩ bY
  apply T.eq
  by_cases a8:i < x.length
  ·obtain⟨l,ad⟩:∃ l,x[i]?=some l:=⟨_,List.getElem?_eq_getElem a8⟩
   have Q3:=List.mem_of_getElem? ad;have bg:(i:Int) < (x.length:Int):=by omega
   have this:T (rec ((i:Int)+1,own R)) (·=own R):=⟨_,bY (k - 1) _ (by omega) ⟨i+1,by omega,rfl⟩,rfl⟩
   simp only[bc,Int.reduceEq,Int.reduceLT,Int.reduceLE,reduceCtorEq,bg,uP,Ds dT,b8 aj,b8 ad,bt (JS N _ (h.thr x JT l Q3)),bt (Q0 N _ (h.oC x JT l Q3)),QJ,zu ad,JJ dT,List.length_set]
   and_intros<;>first | omega | (simp only[bN]; omega) | exact this | trivial
  ·have bg:¬ (i:Int) < (x.length:Int):=by omega
   simp only[bc,Int.reduceEq,Int.reduceLT,Int.reduceLE,reduceCtorEq,bg,b8 aj]
 have J:JE N t N ((0:Int),own (List.replicate t.length []))=some (own t):=by
  unfold JE;refine e8 (fun k d=>∃ j:Nat,j+k=t.length/\d=((j:Int),own (t.take j++List.replicate (t.length - j) []))) _ ?_ N t.length _ (by omega) ⟨0,by omega,by simp⟩;rintro k d rec ⟨j,aR,rfl⟩ bY
  apply T.eq
  by_cases a8:j < t.length
  ·obtain⟨x,aj⟩:∃ x,t[j]?=some x:=⟨_,List.getElem?_eq_getElem a8⟩
   have bg:(j:Int) < (t.length:Int):=by omega
   have iZ:=h.row x (List.mem_of_getElem? aj);have this:T (rec ((j:Int)+1,own (t.take (j+1)++List.replicate (t.length - (j+1)) []))) (·=own t):=⟨_,bY (k - 1) _ (by omega) ⟨j+1,by omega,rfl⟩,rfl⟩
   simp only[bc,Int.reduceEq,Int.reduceLT,Int.reduceLE,reduceCtorEq,bg,b8 aj,bt (Q1 N x (by omega)),uP,QO (Nat.le_of_lt a8),JI,QN aj,bt (ah j x _ aj (aeY aj []))]
   and_intros<;>first | omega | (simp only[bN]; omega) | exact this | trivial
  ·have bg:¬ (j:Int) < (t.length:Int):=by omega
   simp only[bc,Int.reduceEq,Int.reduceLT,Int.reduceLE,reduceCtorEq,bg];rw[List.take_of_length_le (by omega),show t.length - j=0 by omega]
   simp
 unfold rl
 apply T.eq
 simp only[bc,Int.reduceEq,Int.reduceLT,Int.reduceLE,reduceCtorEq,aeW,bt J]
 and_intros<;>first | omega | (simp only[bN]; omega) | exact this | trivial
theorem afG{N:Nat} (bd:5000 < N) {r:Int} {f g:List (List al)} (h:lv f g) {ys:List cb} (ad:ys.length<=300) (aT:∀ Y∈ys,Y.2.2.2.2.length<=100000) {t:List (List bB)} (aV:Dt t) (held:List al) {fl:List al} (aA:fl.length<=100000) :
  sM N (r,((f,g),(ys,(t,([],(held,fl))))))=some (r,f,g,ys,own t,[],fl):=by
 have aY:sL N (r,((f,g),(ys,(t,([],(held,fl)))))) N (r,f,g)=some (r,f,g):=by
  obtain⟨n,rfl⟩:∃ n,N=n+1:=⟨N - 1,by omega⟩
  rfl
 unfold sM
 apply T.eq
 simp only[bc,Int.reduceEq,Int.reduceLT,Int.reduceLE,reduceCtorEq,bt (Q2 bd h.gL h.cX),bt (Q2 bd h.aZ h.gs),bt (afE bd ad aT),bt (afF t bd aV),bt (QV N fl aA),bt aY]
end
section
open Go.RowKit
theorem Q4{z:Int} (J:1<=z) (U:z<=6):IntKind.wrap .u8 (z - 1)=z - 1:=H8 (by omega) (by omega)
theorem JU(N:Nat) {t:List (List bB)} (aY:t.length=6) {a:al} (h:gr t a):zF N t a=some true:=by
 have hle:=Ja h;rw[pk]at h;rw[aY]at hle;have J:(1:Int)<=a.1:=h.1;have hw:=Q4 J (by omega:a.1<=6);unfold zF
 apply T.eq
 simp only[bc,Int.reduceEq,Int.reduceLT,Int.reduceLE,reduceCtorEq,hw,aY,J,show a.1<=((6:Nat):Int) by omega,h.2.1,h.2.2]
 and_intros<;>first | omega | (simp only[bN]; omega) | exact this | trivial
theorem afH(N:Nat) {t:List (List bB)} (aY:t.length=6) {a:al} (h:gr t a):zJ N t a=some true:=JU N aY h
theorem afI{N:Nat} (bd:5000 < N) {t:List (List bB)} {aP:al->Nat} (h:lU t aP) {a:al} {l:bB} (ad:hG t a=some l):CM N t l=some true:=by
 have JV:=h.uD a l ad;have afJ:=h.C2 a l ad;have ae:=h.PX a l ad;have J:II N t l N (0:Int)=some (.inl ()):=by
  unfold II;refine e8 (fun k d=>∃ j:Nat,j+k=l.2.2.1.length/\d=(j:Int)) _ ?_ N l.2.2.1.length _ (by omega) ⟨0,by omega,rfl⟩;rintro k d rec ⟨j,aR,rfl⟩ bY
  apply T.eq
  by_cases a8:j < l.2.2.1.length
  ·obtain⟨x,aj⟩:∃ x,l.2.2.1[j]?=some x:=⟨_,List.getElem?_eq_getElem a8⟩
   have bg:(j:Int) < (l.2.2.1.length:Int):=by omega
   have this:T (rec ((j:Int)+1)) (·=.inl ()):=⟨_,bY (k - 1) _ (by omega) ⟨j+1,by omega,rfl⟩,rfl⟩
   simp only[bc,Int.reduceEq,Int.reduceLT,Int.reduceLE,reduceCtorEq,bg,b8 aj,bt (JU N h.len (h.thr a l ad x (List.mem_of_getElem? aj)).1)]
   and_intros<;>first | omega | (simp only[bN]; omega) | exact this | trivial
  ·have bg:¬ (j:Int) < (l.2.2.1.length:Int):=by omega
   simp only[bc,Int.reduceEq,Int.reduceLT,Int.reduceLE,reduceCtorEq,bg]
 have ah:IJ N t l N (0:Int)=some (.inl ()):=by
  unfold IJ;refine e8 (fun k d=>∃ j:Nat,j+k=l.2.2.2.length/\d=(j:Int)) _ ?_ N l.2.2.2.length _ (by omega) ⟨0,by omega,rfl⟩;rintro k d rec ⟨j,aR,rfl⟩ bY
  apply T.eq
  by_cases a8:j < l.2.2.2.length
  ·obtain⟨x,aj⟩:∃ x,l.2.2.2[j]?=some x:=⟨_,List.getElem?_eq_getElem a8⟩
   have bg:(j:Int) < (l.2.2.2.length:Int):=by omega
   have aq:=h.oC a l ad x (List.mem_of_getElem? aj);have this:T (rec ((j:Int)+1)) (·=.inl ()):=⟨_,bY (k - 1) _ (by omega) ⟨j+1,by omega,rfl⟩,rfl⟩
   simp only[bc,Int.reduceEq,Int.reduceLT,Int.reduceLE,reduceCtorEq,bg,b8 aj,bt (JU N h.len aq.1)];refine⟨by and_intros<;>first | omega | (simp only[bN]; omega) | exact this | trivial,fun e=>?_,fun _=>by and_intros<;>first | omega | (simp only[bN]; omega) | exact this | trivial⟩
   have:=aq.2.2
   omega
  ·have bg:¬ (j:Int) < (l.2.2.2.length:Int):=by omega
   simp only[bc,Int.reduceEq,Int.reduceLT,Int.reduceLE,reduceCtorEq,bg]
 have aF:=adG (N:=N) (l:=l.2.2.2) (by omega) (fun p aq=>(h.oC a l ad p aq).2.2) (by omega) (h.red a l ad);unfold CM
 apply T.eq
 simp only[bc,Int.reduceEq,Int.reduceLT,Int.reduceLE,reduceCtorEq,bt J,bt ah,bt aF];refine⟨fun e=>by omega,fun e=>by omega⟩
theorem afK{N:Nat} (bd:5000 < N) {t:List (List bB)} {aP:al->Nat} (h:lU t aP) (aV:eo t<=2048):CN N t=some 0:=by
 have aY:=h.len;have U:∀ (y:Nat) (row:List bB),t[y]?=some row->IK N t (y:Int) N (0:Int)=some (.inl ()):=by
  intro y row cC;have ie:=wS (t:=t) y;rw[b8 cC]at ie;unfold IK;refine e8 (fun k d=>∃ j:Nat,j+k=row.length/\d=(j:Int)) _ ?_ N row.length _ (by omega) ⟨0,by omega,rfl⟩;rintro k d rec ⟨j,aR,rfl⟩ bY
  apply T.eq
  by_cases a8:j < row.length
  ·obtain⟨l,ad⟩:∃ x,row[j]?=some x:=⟨_,List.getElem?_eq_getElem a8⟩
   have bg:(j:Int) < (row.length:Int):=by omega
   have xc:hG t ((y:Int)+1,(j:Int))=some l:=by rw[p6,b8 cC,ad]
   have fN:=h.new _ l xc;have this:T (rec ((j:Int)+1)) (·=.inl ()):=⟨_,bY (k - 1) _ (by omega) ⟨j+1,by omega,rfl⟩,rfl⟩
   simp only[bc,Int.reduceEq,Int.reduceLT,Int.reduceLE,reduceCtorEq,b8 cC,bg,b8 ad,bt (afI bd h xc)];refine⟨by and_intros<;>first | omega | (simp only[bN]; omega) | exact this | trivial,fun e=>?_,fun _=>by and_intros<;>first | omega | (simp only[bN]; omega) | exact this | trivial⟩
   have:=fN (by show(j:Int)=0; exact e.1)
   rw[this]at e;exact absurd e.2 (by decide)
  ·have bg:¬ (j:Int) < (row.length:Int):=by omega
   simp only[bc,Int.reduceEq,Int.reduceLT,Int.reduceLE,reduceCtorEq,b8 cC,bg]
 have J:IL N t N (0:Int)=some (.inl ()):=by
  unfold IL;refine e8 (fun k d=>∃ j:Nat,j+k=t.length/\d=(j:Int)) _ ?_ N t.length _ (by omega) ⟨0,by omega,rfl⟩;rintro k d rec ⟨j,aR,rfl⟩ bY
  apply T.eq
  by_cases a8:j < t.length
  ·obtain⟨x,aj⟩:∃ x,t[j]?=some x:=⟨_,List.getElem?_eq_getElem a8⟩
   have bg:(j:Int) < (t.length:Int):=by omega
   have this:T (rec ((j:Int)+1)) (·=.inl ()):=⟨_,bY (k - 1) _ (by omega) ⟨j+1,by omega,rfl⟩,rfl⟩
   simp only[bc,Int.reduceEq,Int.reduceLT,Int.reduceLE,reduceCtorEq,bg,bt (U j x aj)]
   and_intros<;>first | omega | (simp only[bN]; omega) | exact this | trivial
  ·have bg:¬ (j:Int) < (t.length:Int):=by omega
   simp only[bc,Int.reduceEq,Int.reduceLT,Int.reduceLE,reduceCtorEq,bg]
 unfold CN
 apply T.eq
 simp only[bc,Int.reduceEq,Int.reduceLT,Int.reduceLE,reduceCtorEq,bt J]
abbrev lY:=List (al×Int)
def im(m:lY) (L:List al):Prop:=∀ a,(cJ aK (.int .i64) m a).getD (0:Int)=(L.count a:Int)
theorem DI(x y:al):aQ.beq aK x y=decide (x=y):=by
 rw[Bool.eq_iff_iff,beq_iff (g:=aK) _ _ rfl,decide_eq_true_eq]
theorem DJ(m:lY) (k:al) (v:Int) (a:al):cJ aK (.int .i64) (eD aK (.int .i64) m k v) a=if k=a then some v else cJ aK (.int .i64) m a:=by
 induction m with
 | nil=>
  show(match aQ.beq aK k a with | true=>some v | false=>none)=_;rw[DI]
  by_cases e:k=a
  ·rw[decide_eq_true e,if_pos e]
  ·rw[decide_eq_false e,if_neg e]
   rfl
 | cons x l bA=>
  have ak:eD aK (.int .i64) (x :: l) k v=if x.1=k then(x.1,v) :: l else x :: eD aK (.int .i64) l k v:=by
   show(match aQ.beq aK x.1 k with | true=>(x.1,v) :: l | false=>x :: eD aK (.int .i64) l k v)=_;rw[DI]
   by_cases e:x.1=k
   ·rw[decide_eq_true e,if_pos e]
   ·rw[decide_eq_false e,if_neg e]
  have aL:∀ (x:al×Int) l,cJ aK (.int .i64) (x :: l) a=if x.1=a then some x.2 else cJ aK (.int .i64) l a:=by
   intro x l;show(match aQ.beq aK x.1 a with | true=>some x.2 | false=>cJ aK (.int .i64) l a)=_;rw[DI]
   by_cases e:x.1=a
   ·rw[decide_eq_true e,if_pos e]
   ·rw[decide_eq_false e,if_neg e]
  rw[ak]
  by_cases e:x.1=k
  ·rw[if_pos e,aL,aL,e]
   by_cases aW:k=a
   ·rw[if_pos aW,if_pos aW]
   ·rw[if_neg aW,if_neg aW,if_neg aW]
  ·rw[if_neg e,aL,aL,bA]
   by_cases aW:x.1=a
   ·rw[if_pos aW,if_pos aW,if_neg (fun h=>e (aW.trans h.symm))]
   ·rw[if_neg aW,if_neg aW]
theorem im.nil:im [] []:=fun a=>rfl
theorem im.add{m:lY} {L:List al} (h:im m L) (a:al):im (eD aK (.int .i64) m a ((cJ aK (.int .i64) m a).getD (0:Int)+1)) (L++[a]):=by
 intro b;rw[DJ,List.count_append,List.count_singleton]
 by_cases e:a=b
 ·subst e
  rw[if_pos rfl,if_pos (by simp),Option.getD_some,h a];exact(Int.natCast_add _ _).symm
 ·rw[if_neg e,h b,if_neg (by simpa using e)]
  exact congrArg _ (Nat.add_zero _).symm
theorem Q5{X:Int} {c:Nat} (h:X+1=(c:Int)) (aa:c<=100000):-9223372036854775808<=X+1/\X+1<=9223372036854775807:=by omega
theorem afL{X:Int} {c:Nat} (h:X+1=(c:Int)) (aa:c<=1) (e:1 < X+1):False:=by omega
theorem DK{t:List (List bB)} {y:Nat} {row:List bB} (h:t[y]?=some row):gB (t.take (y+1))=gB (t.take y)++row.flatMap (·.2.2.1):=by
 unfold gB;rw[aeT h,List.flatMap_append]
theorem JW{row:List bB} {n:Nat} {l:bB} (h:row[n]?=some l):(row.take (n+1)).flatMap (·.2.2.1)=(row.take n).flatMap (·.2.2.1)++l.2.2.1:=by
 obtain⟨J,U⟩:=List.getElem?_eq_some_iff.1 h;rw[List.take_succ_eq_append_getElem J,U,List.flatMap_append]
 simp
theorem Q6{row:List bB} (n:Nat):((row.take n).flatMap (fun l=>l.2.2.1)).Sublist (row.flatMap fun l=>l.2.2.1):=by
 conv=>rhs; rw[<- List.take_append_drop n row,List.flatMap_append]
 exact List.sublist_append_left _ _
theorem Q7{t:List (List bB)} (y:Nat):(gB (t.take y)).Sublist (gB t):=by
 unfold gB
 conv=>rhs; rw[<- List.take_append_drop y t,List.flatten_append,List.flatMap_append]
 exact List.sublist_append_left _ _
theorem afM{N:Nat} (bd:5000 < N) {t:List (List bB)} {aP:al->Nat} (h:lU t aP) (aV:eo t<=2048) (a6:∀ a,(gB t).count a<=1):CP N t=some 0:=by
 have aY:=h.len;have ah:∀ (y n:Nat) (row:List bB) (l:bB) (m:lY),t[y]?=some row->row[n]?=some l->im m (gB (t.take y)++(row.take n).flatMap (·.2.2.1)) ->
   T (IM N t (y:Int) (n:Int) N ((0:Int),m)) fun q=>∃ dO,q=.inl dO/\im dO (gB (t.take y)++(row.take (n+1)).flatMap (·.2.2.1)):=by
  intro y n row l m cC ad hm;have xc:hG t ((y:Int)+1,(n:Int))=some l:=by rw[p6,b8 cC,ad]
  have JV:=h.uD _ l xc;rw[JW ad];have afN:∀ (j:Nat) a,(gB (t.take y)++(row.take n).flatMap (·.2.2.1)++l.2.2.1.take j).count a<=1:=by
   intro j a;refine Nat.le_trans (List.Sublist.count_le a ?_) (a6 a);refine List.Sublist.trans ?_ (Q7 (y+1));rw[DK cC,List.append_assoc];refine List.Sublist.append (List.Sublist.refl _) (List.Sublist.trans ?_ (Q6 (n+1)));rw[JW ad];exact List.Sublist.append (List.Sublist.refl _) (List.take_sublist _ _)
  unfold IM;refine lR (fun k d=>∃ (j:Nat) (dO:lY),j+k=l.2.2.1.length/\d=((j:Int),dO)/\im dO (gB (t.take y)++(row.take n).flatMap (·.2.2.1)++l.2.2.1.take j)) _ ?_ N l.2.2.1.length _ (by omega) ⟨0,m,by omega,rfl,by simpa using hm⟩;rintro k d rec ⟨j,dO,aR,rfl,ht⟩ bY
  by_cases a8:j < l.2.2.1.length
  ·obtain⟨x,aj⟩:∃ x,l.2.2.1[j]?=some x:=⟨_,List.getElem?_eq_getElem a8⟩
   have bg:(j:Int) < (l.2.2.1.length:Int):=by omega
   have uW:=ht.add x;have rb:l.2.2.1.take (j+1)=l.2.2.1.take j++[x]:=by rw[List.take_succ_eq_append_getElem a8,(List.getElem?_eq_some_iff.1 aj).2]
   rw[List.append_assoc,<- rb]at uW;have xd:=uW x;rw[DJ,if_pos rfl,Option.getD_some]at xd;have q3:(cJ aK (.int .i64) dO x).getD (0:Int)+(1:Int)=(List.count x (gB (t.take y)++(row.take n).flatMap (·.2.2.1)++l.2.2.1.take (j+1)):Int):=xd;have ka:=afN (j+1) x;have this:=bY (k - 1) _ (by omega) ⟨j+1,_,by omega,rfl,uW⟩;simp only[bc,Int.reduceEq,Int.reduceLT,Int.reduceLE,reduceCtorEq,b8 cC,b8 ad,bg,b8 aj,DJ,if_true,Option.getD_some];exact⟨by and_intros<;>first | omega | (simp only[bN]; omega) | exact this | trivial,Q5 q3 (by omega),fun e=>(afL q3 ka e).elim,fun _=>by and_intros<;>first | omega | (simp only[bN]; omega) | exact this | trivial⟩
  ·have bg:¬ (j:Int) < (l.2.2.1.length:Int):=by omega
   simp only[bc,Int.reduceEq,Int.reduceLT,Int.reduceLE,reduceCtorEq,b8 cC,b8 ad,bg];rw[show l.2.2.1.take j=l.2.2.1 from List.take_of_length_le (by omega)]at ht;exact⟨dO,rfl,by rw[<- List.append_assoc]; exact ht⟩
 have U:∀ (y:Nat) (row:List bB) (m:lY),t[y]?=some row->im m (gB (t.take y))->T (IN N t (y:Int) N ((0:Int),m)) fun q=>∃ dO,q=.inl dO/\im dO (gB (t.take (y+1))):=by
  intro y row m cC hm;have ie:=wS (t:=t) y;rw[b8 cC]at ie;unfold IN;refine lR (fun k d=>∃ (j:Nat) (dO:lY),j+k=row.length/\d=((j:Int),dO)/\im dO (gB (t.take y)++(row.take j).flatMap (·.2.2.1))) _ ?_ N row.length _ (by omega) ⟨0,m,by omega,rfl,by simpa using hm⟩;rintro k d rec ⟨j,dO,aR,rfl,ht⟩ bY
  by_cases a8:j < row.length
  ·obtain⟨l,ad⟩:∃ x,row[j]?=some x:=⟨_,List.getElem?_eq_getElem a8⟩
   have bg:(j:Int) < (row.length:Int):=by omega
   simp only[bc,Int.reduceEq,Int.reduceLT,Int.reduceLE,reduceCtorEq,b8 cC,bg];refine⟨by and_intros<;>first | omega | (simp only[bN]; omega) | exact this | trivial,(ah y j row l dO cC ad ht).mono ?_⟩;rintro q ⟨m2,rfl,qg⟩;simp only[bc,Int.reduceEq,Int.reduceLT,Int.reduceLE,reduceCtorEq];have this:=bY (k - 1) _ (by omega) ⟨j+1,m2,by omega,rfl,qg⟩
   and_intros<;>first | omega | (simp only[bN]; omega) | exact this | trivial
  ·have bg:¬ (j:Int) < (row.length:Int):=by omega
   simp only[bc,Int.reduceEq,Int.reduceLT,Int.reduceLE,reduceCtorEq,b8 cC,bg];rw[show row.take j=row from List.take_of_length_le (by omega)]at ht;exact⟨dO,rfl,by rw[DK cC]; exact ht⟩
 have J:T (IP N t N ((0:Int),[])) fun q=>q=.inl ():=by
  unfold IP;refine lR (fun k d=>∃ (j:Nat) (dO:lY),j+k=t.length/\d=((j:Int),dO)/\im dO (gB (t.take j))) _ ?_ N t.length _ (by omega) ⟨0,[],by omega,rfl,im.nil⟩;rintro k d rec ⟨j,dO,aR,rfl,ht⟩ bY
  by_cases a8:j < t.length
  ·obtain⟨row,cC⟩:∃ x,t[j]?=some x:=⟨_,List.getElem?_eq_getElem a8⟩
   have bg:(j:Int) < (t.length:Int):=by omega
   simp only[bc,Int.reduceEq,Int.reduceLT,Int.reduceLE,reduceCtorEq,bg];refine⟨by and_intros<;>first | omega | (simp only[bN]; omega) | exact this | trivial,(U j row dO cC ht).mono ?_⟩;rintro q ⟨m2,rfl,qg⟩;simp only[bc,Int.reduceEq,Int.reduceLT,Int.reduceLE,reduceCtorEq];have this:=bY (k - 1) _ (by omega) ⟨j+1,m2,by omega,rfl,qg⟩
   and_intros<;>first | omega | (simp only[bN]; omega) | exact this | trivial
  ·have bg:¬ (j:Int) < (t.length:Int):=by omega
   simp only[bc,Int.reduceEq,Int.reduceLT,Int.reduceLE,reduceCtorEq,bg]
 unfold CP
 apply T.eq
 simp only[bc,Int.reduceEq,Int.reduceLT,Int.reduceLE,reduceCtorEq,bt J.eq]
end
section
open Go.RowKit
theorem Q8:∀ (t:List (List bB)) (mk:List Nat),t.length=mk.length->(∀ i,(t.getD i []).length<=mk.getD i 0)->eo t<=mk.sum
 | [],_,_,_=>by simp[eo]
 | r :: t,[],h,_=>by cases h
 | r :: t,m :: mk,h,hle=>by
  have J:=Q8 t mk (by simpa using h) fun i=>by
   have:=hle (i+1)
   simpa using this
  have U:=hle 0;have ah:r.length<=m:=by simpa using U
  have aC:eo (r :: t)=r.length+eo t:=by simp[eo]
  rw[aC,List.sum_cons];omega
theorem Q9:∀ (mk:List Nat) (y:Nat),y < mk.length->(mk.set y (mk.getD y 0+1)).sum=mk.sum+1
 | [],_,h=>by simp at h
 | m :: mk,0,_=>by simp; omega
 | m :: mk,y+1,h=>by
  have:=Q9 mk y (by simpa using h)
  rw[List.getD_eq_getElem?_getD]at this
  simp[this]
  omega
def mz(mk:List Nat) (y:Nat):al:=((y:Int)+1,((mk.getD y 0:Nat):Int))
def lZ(l:bB):List al:=l.2.2.1++l.2.2.2.map (·.1)
def DL(t:List (List bB)) (mk:List Nat) (y:Nat):Prop:=
 ∀ l,hG t (mz mk y)=some l->∃ b∈lZ l,((mk.getD (b.1 - 1).toNat 0:Nat):Int)<=b.2
theorem afO{t:List (List bB)} {aP:al->Nat} (h:lU t aP) {mk:List Nat} (rD:mk.length=6) (hm:∀ y,mk.getD y 0<=(t.getD y []).length) (ak:∀ y,y < 6->DL t mk y):eo t<=mk.sum:=by
 have key:∀ (n y:Nat),y < 6->gr t (mz mk y)->aP (mz mk y)<=n->False:=by
  intro n
  induction n with
  | zero=>
   intro y aT ⟨l,ad⟩ a7;obtain⟨b,ae,_⟩:=ak y aT l ad
   have:gr t b/\aP b < aP (mz mk y):=by
    unfold lZ at ae;rw[List.mem_append,List.mem_map]at ae
    rcases ae with ae | ⟨p,aq,rfl⟩
    ·exact h.thr _ l ad b ae
    ·exact⟨(h.oC _ l ad p aq).1,(h.oC _ l ad p aq).2.1⟩
   omega
  | succ n bA=>
   intro y aT ⟨l,ad⟩ a7;obtain⟨b,ae,ajh⟩:=ak y aT l ad;have rM:gr t b/\aP b < aP (mz mk y):=by
    unfold lZ at ae;rw[List.mem_append,List.mem_map]at ae
    rcases ae with ae | ⟨p,aq,rfl⟩
    ·exact h.thr _ l ad b ae
    ·exact⟨(h.oC _ l ad p aq).1,(h.oC _ l ad p aq).2.1⟩
   have hle:=Ja rM.1;rw[h.len]at hle;have tY:=pk.1 rM.1;have bG:mz mk (b.1 - 1).toNat=(b.1,((mk.getD (b.1 - 1).toNat 0:Nat):Int)):=by
    unfold mz;rw[show(((b.1 - 1).toNat:Nat):Int)+1=b.1 by omega]
   refine bA (b.1 - 1).toNat (by omega) ?_ ?_
   ·rw[bG,pk]
    exact⟨tY.1,by show(0:Int)<=((mk.getD (b.1 - 1).toNat 0:Nat):Int); omega,by show((mk.getD (b.1 - 1).toNat 0:Nat):Int) < ((t.getD (b.1 - 1).toNat []).length:Int); omega⟩
   ·rw[bG]
    by_cases e:((mk.getD (b.1 - 1).toNat 0:Nat):Int)=b.2
    ·rw[e]
     show aP b<=n;omega
    ·have:=h.mono (b.1,((mk.getD (b.1 - 1).toNat 0:Nat):Int)) b rM.1 rfl (by show(0:Int)<=((mk.getD (b.1 - 1).toNat 0:Nat):Int); omega) (by show((mk.getD (b.1 - 1).toNat 0:Nat):Int) < b.2; omega)
     omega
 refine Q8 t mk (by rw[h.len,rD]) fun i=>?_
 by_cases hi:i < 6
 ·by_cases a8:mk.getD i 0 < (t.getD i []).length
  ·refine(key _ i hi ?_ (Nat.le_refl _)).elim
   rw[pk];unfold mz;refine⟨by show(1:Int)<=(i:Int)+1; omega,by show(0:Int)<=((mk.getD i 0:Nat):Int); omega,?_⟩;show((mk.getD i 0:Nat):Int) < _;rw[show((i:Int)+1 - 1).toNat=i by omega];omega
  ·omega
 ·rw[List.getD_eq_getElem?_getD (l:=t),List.getElem?_eq_none (by rw[h.len]; omega)]
  simp
theorem afP(N:Nat) (l:bB) {i:Nat} (J:l.2.2.1.length<=100000) (U:l.2.2.2.length<=100000) {b:al} (ae:(lZ l)[i]?=some b):uB N l (i:Int)=some b:=by
 have hi:=(List.getElem?_eq_some_iff.1 ae).1;unfold lZ at ae hi;rw[List.length_append,List.length_map]at hi;rw[List.getElem?_append]at ae;unfold uB
 apply T.eq
 by_cases a8:i < l.2.2.1.length
 ·rw[if_pos a8]at ae
  have bg:(i:Int) < (l.2.2.1.length:Int):=by omega
  simp only[bc,Int.reduceEq,Int.reduceLT,Int.reduceLE,reduceCtorEq,bg,b8 ae]
  and_intros<;>first | omega | (simp only[bN]; omega) | exact this | trivial
 ·rw[if_neg a8,List.getElem?_map,Option.map_eq_some_iff]at ae
  obtain⟨p,aq,rfl⟩:=ae;have bg:¬ (i:Int) < (l.2.2.1.length:Int):=by omega
  simp only[bc,Int.reduceEq,Int.reduceLT,Int.reduceLE,reduceCtorEq,bg,show((i:Int) - (l.2.2.1.length:Int)).toNat=i - l.2.2.1.length by omega,b8 aq]
  and_intros<;>first | omega | (simp only[bN]; omega) | exact this | trivial
def hH(l:List Nat):List Int:=l.map fun(n:Nat)=>(n:Int)
theorem DM(l:List Nat):(hH l).length=l.length:=by simp[hH]
theorem DN(l:List Nat) (i:Nat):(hH l).getD i 0=((l.getD i 0:Nat):Int):=by
 unfold hH;rw[List.getD_eq_getElem?_getD,List.getElem?_map,List.getD_eq_getElem?_getD];cases l[i]?<;>rfl
theorem JX(l:List Nat) (i n:Nat):(hH l).set i (n:Int)=hH (l.set i n):=by
 unfold hH;rw[List.map_set]
structure sO(t:List (List bB)) (r:List al) (mk mA:List Nat):Prop where
 Ra:mk.length=6
 JY:mA.length=6
 le:∀ y,mk.getD y 0<=(t.getD y []).length
 JZ:r.length=mk.sum
 ok:∀ (y:Nat) l,hG t (mz mk y)=some l->mA.getD y 0<=(lZ l).length
 z:∀ y:Nat,(t.getD y []).length<=mk.getD y 0->True
theorem Ae(l:List Nat) (i n j:Nat) (hi:i < l.length):(l.set i n).getD j 0=if j=i then n else l.getD j 0:=by
 rw[List.getD_eq_getElem?_getD,List.getElem?_set]
 by_cases e:i=j
 ·subst e
  simp[hi]
 ·rw[if_neg e,if_neg (fun h=>e h.symm),List.getD_eq_getElem?_getD]
def J0(t:List (List bB)) (r:List al) (q:(List al)×(List Int)×(List Int)):Prop:=∃ cw mk' hh,q=(cw,hH mk',hH hh)/\cw.length=r.length+1/\sO t cw mk' hh
theorem afQ{N:Nat} (bd:5000 < N) {t:List (List bB)} {aP:al->Nat} (h:lU t aP) (aV:eo t<=2048) {r:List al} {mk mA:List Nat} (mQ:sO t r mk mA) {y:Nat} (aT:y < 6) {l:bB} (ad:hG t (mz mk y)=some l) (gO:(Int×(List Int))->Option ((List al)×(List Int)×(List Int)))
  (afR:∀ hh,sO t r mk hh->DL t mk y->T (gO ((y:Int)+1,hH hh)) (J0 t r)) :
  T (zG N t (hH mk) (y:Int) gO N (hH mA)) fun o=>(∃ hh,o=.inl (hH hh)/\sO t r mk hh)\/(∃ q,o=.inr q/\J0 t r q):=by
 have cC:∃ row,t[y]?=some row:=⟨_,List.getElem?_eq_getElem (by rw[h.len]; exact aT)⟩
 obtain⟨row,cC⟩:=cC;have gG:=ad;unfold mz at gG;rw[p6,b8 cC]at gG;have JV:=h.uD _ l ad;have afJ:=h.C2 _ l ad;have Rb:(lZ l).length=l.2.2.1.length+l.2.2.2.length:=by unfold lZ; rw[List.length_append,List.length_map]
 unfold zG;refine lR (fun k d=>∃ hh,d=hH hh/\sO t r mk hh/\hh.getD y 0+k=(lZ l).length) _ ?_ N ((lZ l).length - mA.getD y 0) _ (by omega) ⟨mA,rfl,mQ,by have:=mQ.ok y l ad; omega⟩;rintro k d rec ⟨hh,rfl,lx,ab⟩ bY;have rh:=lx.JY;have rD:=lx.Ra;have aC:((l.2.2.1.length:Int)+(l.2.2.2.length:Int))=((lZ l).length:Int):=by omega
 by_cases a8:hh.getD y 0 < (lZ l).length
 ·obtain⟨b,ae⟩:∃ b,(lZ l)[hh.getD y 0]?=some b:=⟨_,List.getElem?_eq_getElem a8⟩
  have xe:=List.mem_of_getElem? ae;have Af:gr t b:=by
   unfold lZ at xe;rw[List.mem_append,List.mem_map]at xe
   rcases xe with xe | ⟨p,aq,rfl⟩
   ·exact(h.thr _ l ad b xe).1
   ·exact(h.oC _ l ad p aq).1
  have afS:=Ja Af;rw[h.len]at afS;have tY:=pk.1 Af;have bg:((hh.getD y 0:Nat):Int) < ((lZ l).length:Int):=by omega
  have hw:=Q4 tY.1 (by omega:b.1<=6);simp only[bc,Int.reduceEq,Int.reduceLT,Int.reduceLE,reduceCtorEq,DM,DN,b8 cC,b8 gG,aC,bg,bt (afP N l (by omega) (by omega) ae),hw];refine⟨by and_intros<;>first | omega | (simp only[bN]; omega) | exact this | trivial,by and_intros<;>first | omega | (simp only[bN]; omega) | exact this | trivial,by and_intros<;>first | omega | (simp only[bN]; omega) | exact this | trivial,by and_intros<;>first | omega | (simp only[bN]; omega) | exact this | trivial,fun e=>?_,fun e=>?_⟩
  ·refine⟨by and_intros<;>first | omega | (simp only[bN]; omega) | exact this | trivial,(afR hh lx fun l' ih=>?_).mono fun q ao=>?_⟩
   ·rw[ad]at ih
    cases ih;exact⟨b,xe,e⟩
   ·exact Or.inr ⟨q,rfl,ao⟩
  ·have fX:(hH hh).set y (((hh.getD y 0:Nat):Int)+1)=hH (hh.set y (hh.getD y 0+1)):=by
    rw[<- JX]
    rfl
   rw[fX];have this:=bY (k - 1) (hH (hh.set y (hh.getD y 0+1))) (by omega) ⟨_,rfl,⟨rD,by rw[List.length_set]; exact rh,lx.le,lx.JZ,fun z l' ih=>?_,fun _ _=>trivial⟩,by rw[Ae _ _ _ _ (by omega),if_pos rfl]; omega⟩
   ·and_intros<;>first | omega | (simp only[bN]; omega) | exact this | trivial
   ·rw[Ae _ _ _ _ (by omega)]
    split
    ·rename_i aW
     subst aW;rw[ad]at ih;cases ih;exact a8
    ·exact lx.ok z l' ih
 ·have bg:¬ ((hh.getD y 0:Nat):Int) < ((lZ l).length:Int):=by omega
  simp only[bc,Int.reduceEq,Int.reduceLT,Int.reduceLE,reduceCtorEq,DM,DN,b8 cC,b8 gG,aC,bg];refine⟨by and_intros<;>first | omega | (simp only[bN]; omega) | exact this | trivial,Or.inl ⟨hh,rfl,lx⟩⟩
theorem afT{N:Nat} (bd:5000 < N) {t:List (List bB)} {aP:al->Nat} (h:lU t aP) (aV:eo t<=2048) {r:List al} {mk mA:List Nat} (mQ:sO t r mk mA) (a8:mk.sum < eo t) :
  T (zH N t r (hH mk) N ((0:Int),hH mA)) (J0 t r):=by
 unfold zH;refine lR (fun k d=>∃ (y:Nat) (hh:List Nat),y+k=6/\d=((y:Int),hH hh)/\sO t r mk hh/\∀ z,z < y->DL t mk z) _ ?_ N 6 _ (by omega) ⟨0,mA,by omega,rfl,mQ,fun z bG=>by omega⟩;rintro k d rec ⟨y,hh,aT,rfl,lx,dn⟩ bY;have rh:=lx.JY;have rD:=lx.Ra;have aY:=h.len
 by_cases afU:y < 6
 ·obtain⟨row,cC⟩:∃ x,t[y]?=some x:=⟨_,List.getElem?_eq_getElem (by omega)⟩
  have bg:(y:Int) < (t.length:Int):=by omega
  have hle:=lx.le y;have ie:=wS (t:=t) y;rw[b8 cC]at hle ie;simp only[bc,Int.reduceEq,Int.reduceLT,Int.reduceLE,reduceCtorEq,bg,DM,DN,b8 cC];refine⟨by and_intros<;>first | omega | (simp only[bN]; omega) | exact this | trivial,by and_intros<;>first | omega | (simp only[bN]; omega) | exact this | trivial,fun e=>?_,fun e=>?_⟩
  ·have ak:DL t mk y:=by
    intro l ad;unfold mz at ad;rw[p6,b8 cC,List.getElem?_eq_none (by omega)]at ad;cases ad
   have this:=bY (k - 1) _ (by omega) ⟨y+1,hh,by omega,rfl,lx,fun z bG=>by
    by_cases e:z=y
    ·rw[e]; exact ak
    ·exact dn z (by omega)⟩
   and_intros<;>first | omega | (simp only[bN]; omega) | exact this | trivial
  ·obtain⟨l,ad⟩:∃ l,row[mk.getD y 0]?=some l:=⟨_,List.getElem?_eq_getElem (by omega)⟩
   have Rb:hG t (mz mk y)=some l:=by unfold mz; rw[p6,b8 cC,ad]
   refine⟨by and_intros<;>first | omega | (simp only[bN]; omega) | exact this | trivial,(afQ bd h aV lx afU Rb rec fun DO Ag ak=>bY (k - 1) _ (by omega) ⟨y+1,DO,by omega,rfl,Ag,fun z bG=>by
    by_cases e:z=y
    ·rw[e]; exact ak
    ·exact dn z (by omega)⟩).mono ?_⟩
   rintro o (⟨DO,rfl,Ag⟩ | ⟨q,rfl,ao⟩)
   ·have qy:=Ag.JZ
    have afV:=Ag.JY;have fX:(hH mk).set y (((mk.getD y 0:Nat):Int)+1)=hH (mk.set y (mk.getD y 0+1)):=by
     rw[<- JX]
     rfl
    have EU:(hH DO).set y (0:Int)=hH (DO.set y 0):=by rw[<- JX]; rfl
    simp only[bc,Int.reduceEq,Int.reduceLT,Int.reduceLE,reduceCtorEq,DM,DN,fX,EU,List.length_singleton];refine⟨by and_intros<;>first | omega | (simp only[bN]; omega) | exact this | trivial,by and_intros<;>first | omega | (simp only[bN]; omega) | exact this | trivial,by and_intros<;>first | omega | (simp only[bN]; omega) | exact this | trivial,_,_,_,rfl,by simp,⟨by rw[List.length_set]; exact rD,by rw[List.length_set]; exact afV,fun z=>?_,by rw[List.length_append,Q9 _ _ (by omega),qy]; rfl,fun z l' ih=>?_,fun _ _=>trivial⟩⟩
    ·rw[Ae _ _ _ _ (by omega)]
     split
     ·rename_i aW
      subst aW;rw[b8 cC];omega
     ·exact lx.le z
    ·rw[Ae _ _ _ _ (by omega)]
     split
     ·omega
     ·rename_i aW
      refine Ag.ok z l' ?_;unfold mz at ih ⊢;rw[Ae _ _ _ _ (by omega),if_neg aW]at ih;exact ih
   ·simp only[bc,Int.reduceEq,Int.reduceLT,Int.reduceLE,reduceCtorEq]
    exact ao
 ·exfalso
  have:=afO h rD lx.le fun z bG=>dn z (by omega)
  omega
theorem afW{N:Nat} (bd:5000 < N) {t:List (List bB)} {aP:al->Nat} (h:lU t aP) (aV:eo t<=2048):T (uC N t) fun r=>r.length=eo t:=by
 have aY:=h.len;have U:T (zI N t (eo t:Int) N ([],hH (List.replicate 6 0),hH (List.replicate 6 0))) fun r=>r.length=eo t:=by
  unfold zI;refine lR (fun k d=>∃ r mk mA,d=(r,hH mk,hH mA)/\sO t r mk mA/\r.length+k=eo t) _ ?_ N (eo t) _ (by omega) ⟨[],_,_,rfl,⟨rfl,rfl,fun y=>?_,rfl,fun y l _=>?_,fun _ _=>trivial⟩,by simp⟩
  ·rintro k d rec ⟨r,mk,mA,rfl,mQ,ab⟩ bY
   have qy:=mQ.JZ
   by_cases a8:r.length < eo t
   ·have bg:(r.length:Int) < (eo t:Int):=by omega
    simp only[bc,Int.reduceEq,Int.reduceLT,Int.reduceLE,reduceCtorEq,bg];refine(afT bd h aV mQ (by omega)).mono ?_;rintro q ⟨cw,mk',hh,rfl,iL,lx⟩;simp only[show ¬ (cw.length:Int)=(r.length:Int) by omega,bc,Int.reduceEq,Int.reduceLT,Int.reduceLE,reduceCtorEq];exact bY (k - 1) _ (by omega) ⟨cw,mk',hh,rfl,lx,by omega⟩
   ·have bg:¬ (r.length:Int) < (eo t:Int):=by omega
    simp only[bc,Int.reduceEq,Int.reduceLT,Int.reduceLE,reduceCtorEq,bg];omega
  ·rw[List.getD_eq_getElem?_getD,List.getElem?_replicate]
   split<;>simp
  ·rw[List.getD_eq_getElem?_getD,List.getElem?_replicate]
   split<;>simp
 have az:List.replicate (t.length:Int).toNat (0:Int)=hH (List.replicate 6 0):=by rw[aY]; rfl
 unfold uC;simp only[ur,bt (QM (N:=N) t (by omega) (by omega) (by omega)),az];simp only[bc,Int.reduceEq,Int.reduceLT,Int.reduceLE,reduceCtorEq,aY];refine⟨by and_intros<;>first | omega | (simp only[bN]; omega) | exact this | trivial,by and_intros<;>first | omega | (simp only[bN]; omega) | exact this | trivial,by and_intros<;>first | omega | (simp only[bN]; omega) | exact this | trivial,U⟩
theorem afX{N:Nat} (bd:5000 < N) {t:List (List bB)} {aP:al->Nat} (h:lU t aP) (aV:eo t<=2048) (a6:∀ a,(gB t).count a<=1):CR N t=some 0:=by
 have aY:=h.len;obtain⟨r,az,qy⟩:=afW bd h aV;have aa:CO N r=some (r,r.length):=by
  unfold CO
  apply T.eq
  simp only[bc,Int.reduceEq,Int.reduceLT,Int.reduceLE,reduceCtorEq,List.length_replicate]
  and_intros<;>first | omega | (simp only[bN]; omega) | exact this | trivial
 unfold CR IU
 apply T.eq
 simp only[bc,Int.reduceEq,Int.reduceLT,Int.reduceLE,reduceCtorEq,aY,bt (QM (N:=N) t (by omega) (by omega) (by omega)),bt (afK bd h aV),bt (afM bd h aV a6),bt az,bt aa,show ¬ (2048:Int) < (eo t:Int) by omega,qy,show ¬ (eo t:Int) < (eo t:Int) by omega,show((6:Nat):Int)=6 from rfl]
end
section
open Go.RowKit
theorem J1{N:Nat} (bd:5000 < N) (l:List al) (ad:l.length<=5000) {m:lY} {L:List al} (h:im m L) (ae:L.length+l.length<=100000):T (wP N l m) fun dO=>im dO (L++l):=by
 have dY:T (IV N l N ((0:Int),m)) fun dO=>im dO (L++l):=by
  unfold IV;refine lR (fun k d=>∃ (j:Nat) (dO:lY),j+k=l.length/\d=((j:Int),dO)/\im dO (L++l.take j)) _ ?_ N l.length _ (by omega) ⟨0,m,by omega,rfl,by simpa using h⟩;rintro k d rec ⟨j,dO,aR,rfl,ht⟩ bY
  by_cases a8:j < l.length
  ·obtain⟨x,aj⟩:∃ x,l[j]?=some x:=⟨_,List.getElem?_eq_getElem a8⟩
   have bg:(j:Int) < (l.length:Int):=by omega
   have uW:=ht.add x;have rb:l.take (j+1)=l.take j++[x]:=by rw[List.take_succ_eq_append_getElem a8,(List.getElem?_eq_some_iff.1 aj).2]
   rw[List.append_assoc,<- rb]at uW;have xd:=uW x;rw[DJ,if_pos rfl,Option.getD_some]at xd;have q3:(cJ aK (.int .i64) dO x).getD (0:Int)+(1:Int)=(List.count x (L++l.take (j+1)):Int):=xd;have ka:List.count x (L++l.take (j+1))<=100000:=by
    refine Nat.le_trans List.count_le_length ?_;rw[List.length_append,List.length_take];omega
   have this:=bY (k - 1) _ (by omega) ⟨j+1,_,by omega,rfl,uW⟩;simp only[bc,Int.reduceEq,Int.reduceLT,Int.reduceLE,reduceCtorEq,bg,b8 aj];exact⟨by and_intros<;>first | omega | (simp only[bN]; omega) | exact this | trivial,Q5 q3 ka,by and_intros<;>first | omega | (simp only[bN]; omega) | exact this | trivial⟩
  ·have bg:¬ (j:Int) < (l.length:Int):=by omega
   simp only[bc,Int.reduceEq,Int.reduceLT,Int.reduceLE,reduceCtorEq,bg];rw[show l.take j=l from List.take_of_length_le (by omega)]at ht;exact ht
 unfold wP;simp only[bc,Int.reduceEq,Int.reduceLT,Int.reduceLE,reduceCtorEq];exact dY
theorem afY{t:List (List bB)} {aP:al->Nat} (h:lU t aP):(gB t).length<=4 * eo t:=by
 have key:∀ (l:List bB),(∀ x∈l,x.2.2.1.length<=4)->(l.flatMap fun x=>x.2.2.1).length<=4 * l.length:=by
  intro l
  induction l with
  | nil=>intro _; exact Nat.le_refl _
  | cons a l bA=>
   intro cn;have J:=bA fun x aj=>cn x (List.mem_cons_of_mem _ aj)
   have U:=cn a List.mem_cons_self;rw[List.flatMap_cons,List.length_append,List.length_cons];omega
 have ad:t.flatten.length=eo t:=by rw[List.length_flatten]; rfl
 unfold gB;rw[<- ad];refine key _ fun x aj=>?_
 rw[List.mem_flatten]at aj;obtain⟨row,az,aj⟩:=aj;obtain⟨j,aR⟩:=List.getElem?_of_mem az;obtain⟨n,a7⟩:=List.getElem?_of_mem aj;exact h.uD ((j:Int)+1,(n:Int)) x (by rw[p6,b8 aR,a7])
theorem afZ{N:Nat} (bd:5000 < N) {f:lS} {aP:al->Nat} (h:lU f.1 aP) (aV:eo f.1<=2048) (a6:ri f.1 (f.2.2.1++f.2.2.2)) (cn:f.2.2.1.length<=1000) (aA:f.2.2.2.length<=1):CU N f=some 0:=by
 have aY:=h.len;have DP:∀ a,a∈f.2.2.1\/a∈f.2.2.2->gr f.1 a:=fun a bo=>a6.has (List.mem_append.2 bo)
 have U:∀ (v:Nat) (l:List al),([f.2.2.1,f.2.2.2]:List (List al))[v]?=some l->(∀ a∈l,gr f.1 a)->l.length<=1000->CT N f (v:Int) N (0:Int)=some (.inl ()):=by
  intro v l aB ad hlen;unfold CT;refine e8 (fun k d=>∃ j:Nat,j+k=l.length/\d=(j:Int)) _ ?_ N l.length _ (by omega) ⟨0,by omega,rfl⟩;rintro k d rec ⟨j,aR,rfl⟩ bY
  apply T.eq
  by_cases a8:j < l.length
  ·obtain⟨x,aj⟩:∃ x,l[j]?=some x:=⟨_,List.getElem?_eq_getElem a8⟩
   have bg:(j:Int) < (l.length:Int):=by omega
   have this:T (rec ((j:Int)+1)) (·=.inl ()):=⟨_,bY (k - 1) _ (by omega) ⟨j+1,by omega,rfl⟩,rfl⟩
   simp only[bc,Int.reduceEq,Int.reduceLT,Int.reduceLE,reduceCtorEq,b8 aB,bg,b8 aj,bt (afH N aY (ad x (List.mem_of_getElem? aj)))]
   and_intros<;>first | omega | (simp only[bN]; omega) | exact this | trivial
  ·have bg:¬ (j:Int) < (l.length:Int):=by omega
   simp only[bc,Int.reduceEq,Int.reduceLT,Int.reduceLE,reduceCtorEq,b8 aB,bg]
 have J:IW N f N (0:Int)=some (.inl ()):=by
  unfold IW;refine e8 (fun k d=>∃ j:Nat,j+k=2/\d=(j:Int)) _ ?_ N 2 _ (by omega) ⟨0,by omega,rfl⟩;rintro k d rec ⟨j,aR,rfl⟩ bY
  apply T.eq
  by_cases a8:j < 2
  ·have bg:(j:Int) < 2:=by omega
   have this:T (rec ((j:Int)+1)) (·=.inl ()):=⟨_,bY (k - 1) _ (by omega) ⟨j+1,by omega,rfl⟩,rfl⟩
   have af0:CT N f (j:Int) N (0:Int)=some (.inl ()):=by
    have:j=0\/j=1:=by omega
    rcases this with rfl | rfl
    ·exact U 0 _ rfl (fun a bo=>DP a (Or.inl bo)) cn
    ·exact U 1 _ rfl (fun a bo=>DP a (Or.inr bo)) (by omega)
   simp only[bc,Int.reduceEq,Int.reduceLT,Int.reduceLE,reduceCtorEq,bg,bt af0,List.length_cons,List.length_nil]
   and_intros<;>first | omega | (simp only[bN]; omega) | exact this | trivial
  ·have bg:¬ (j:Int) < 2:=by omega
   simp only[bc,Int.reduceEq,Int.reduceLT,Int.reduceLE,reduceCtorEq,bg]
 have au:IX N f N (0:Int)=some (.inl ()):=by
  unfold IX;refine e8 (fun k d=>∃ j:Nat,j+k=f.2.2.2.length/\d=(j:Int)) _ ?_ N f.2.2.2.length _ (by omega) ⟨0,by omega,rfl⟩;rintro k d rec ⟨j,aR,rfl⟩ bY
  apply T.eq
  by_cases a8:j < f.2.2.2.length
  ·obtain rfl:j=0:=by omega
   have bg:((0:Nat):Int) < (f.2.2.2.length:Int):=by omega
   have this:T (rec (((0:Nat):Int)+1)) (·=.inl ()):=⟨_,bY (k - 1) _ (by omega) ⟨1,by omega,rfl⟩,rfl⟩
   simp only[bc,Int.reduceEq,Int.reduceLT,Int.reduceLE,reduceCtorEq,bg,show ¬ (0:Int) < ((0:Nat):Int) by omega]
   and_intros<;>first | omega | (simp only[bN]; omega) | exact this | trivial
  ·have bg:¬ (j:Int) < (f.2.2.2.length:Int):=by omega
   simp only[bc,Int.reduceEq,Int.reduceLT,Int.reduceLE,reduceCtorEq,bg]
 have hN:∀ (y:Nat) (row:List bB) (m:lY) (H:List al),H.length<=2000->f.1[y]?=some row->im m (H++gB (f.1.take y))->T (IY N f (y:Int) N ((0:Int),m)) fun dO=>im dO (H++gB (f.1.take (y+1))):=by
  intro y row m H DQ cC hm;have ie:=wS (t:=f.1) y;rw[b8 cC]at ie;have rh:=afY h;unfold IY;refine lR (fun k d=>∃ (j:Nat) (dO:lY),j+k=row.length/\d=((j:Int),dO)/\im dO (H++(gB (f.1.take y)++(row.take j).flatMap (·.2.2.1)))) _ ?_ N row.length _ (by omega) ⟨0,m,by omega,rfl,by simpa using hm⟩;rintro k d rec ⟨j,dO,aR,rfl,ht⟩ bY
  by_cases a8:j < row.length
  ·obtain⟨l,ad⟩:∃ x,row[j]?=some x:=⟨_,List.getElem?_eq_getElem a8⟩
   have bg:(j:Int) < (row.length:Int):=by omega
   have xc:hG f.1 ((y:Int)+1,(j:Int))=some l:=by rw[p6,b8 cC,ad]
   have JV:=h.uD _ l xc;have gF:(gB (f.1.take y)++(row.take j).flatMap (·.2.2.1)).length<=(gB f.1).length:=by
    refine List.Sublist.length_le ?_;refine List.Sublist.trans ?_ (Q7 (y+1));rw[DK cC];exact List.Sublist.append (List.Sublist.refl _) (Q6 j)
   simp only[bc,Int.reduceEq,Int.reduceLT,Int.reduceLE,reduceCtorEq,b8 cC,bg,b8 ad];refine⟨by and_intros<;>first | omega | (simp only[bN]; omega) | exact this | trivial,(J1 bd l.2.2.1 (by omega) ht (by rw[List.length_append]; omega)).mono fun m2 qg=>?_⟩;rw[List.append_assoc,List.append_assoc,<- JW ad]at qg;have this:=bY (k - 1) _ (by omega) ⟨j+1,m2,by omega,rfl,qg⟩
   and_intros<;>first | omega | (simp only[bN]; omega) | exact this | trivial
  ·have bg:¬ (j:Int) < (row.length:Int):=by omega
   simp only[bc,Int.reduceEq,Int.reduceLT,Int.reduceLE,reduceCtorEq,b8 cC,bg];rw[show row.take j=row from List.take_of_length_le (by omega)]at ht;rw[DK cC];exact ht
 have c7:∀ (m:lY) (H:List al),H.length<=2000->im m H->T (I0 N f N ((0:Int),m)) fun dO=>im dO (H++gB f.1):=by
  intro m H DQ hm;unfold I0;refine lR (fun k d=>∃ (j:Nat) (dO:lY),j+k=f.1.length/\d=((j:Int),dO)/\im dO (H++gB (f.1.take j))) _ ?_ N f.1.length _ (by omega) ⟨0,m,by omega,rfl,by simpa [gB] using hm⟩;rintro k d rec ⟨j,dO,aR,rfl,ht⟩ bY
  by_cases a8:j < f.1.length
  ·obtain⟨row,cC⟩:∃ x,f.1[j]?=some x:=⟨_,List.getElem?_eq_getElem a8⟩
   have bg:(j:Int) < (f.1.length:Int):=by omega
   simp only[bc,Int.reduceEq,Int.reduceLT,Int.reduceLE,reduceCtorEq,bg];refine⟨by and_intros<;>first | omega | (simp only[bN]; omega) | exact this | trivial,(hN j row dO H DQ cC ht).mono fun m2 qg=>?_⟩;have this:=bY (k - 1) _ (by omega) ⟨j+1,m2,by omega,rfl,qg⟩
   and_intros<;>first | omega | (simp only[bN]; omega) | exact this | trivial
  ·have bg:¬ (j:Int) < (f.1.length:Int):=by omega
   simp only[bc,Int.reduceEq,Int.reduceLT,Int.reduceLE,reduceCtorEq,bg];rw[show f.1.take j=f.1 from List.take_of_length_le (by omega)]at ht;exact ht
 have oo:∀ (y:Nat) (row:List bB) (m:lY),y < 6->f.1[y]?=some row->im m (f.2.2.1++f.2.2.2++gB f.1)->I2 N f m (y:Int) N (0:Int)=some (.inl ()):=by
  intro y row m aT cC hm;have ie:=wS (t:=f.1) y;rw[b8 cC]at ie;have hw:IntKind.wrap .u8 ((y:Int)+(1:Int))=(y:Int)+1:=H8 (by omega) (by omega);unfold I2;refine e8 (fun k d=>∃ j:Nat,j+k=row.length/\d=(j:Int)) _ ?_ N row.length _ (by omega) ⟨0,by omega,rfl⟩;rintro k d rec ⟨j,aR,rfl⟩ bY
  apply T.eq
  by_cases a8:j < row.length
  ·have bg:(j:Int) < (row.length:Int):=by omega
   have hJ:(cJ aK (.int .i64) m ((y:Int)+1,(j:Int))).getD (0:Int)=(1:Int):=by
    rw[hm,a6,if_pos (by
     rw[pk];refine⟨by show(1:Int)<=(y:Int)+1; omega,by show(0:Int)<=(j:Int); omega,?_⟩;show(j:Int) < ((f.1.getD ((y:Int)+1 - 1).toNat []).length:Int);rw[show((y:Int)+1 - 1).toNat=y by omega,b8 cC];omega)]
    rfl
   have this:T (rec ((j:Int)+1)) (·=.inl ()):=⟨_,bY (k - 1) _ (by omega) ⟨j+1,by omega,rfl⟩,rfl⟩
   simp only[bc,Int.reduceEq,Int.reduceLT,Int.reduceLE,reduceCtorEq,b8 cC,bg,hw];refine⟨by and_intros<;>first | omega | (simp only[bN]; omega) | exact this | trivial,fun e=>absurd hJ e,fun _=>by and_intros<;>first | omega | (simp only[bN]; omega) | exact this | trivial⟩
  ·have bg:¬ (j:Int) < (row.length:Int):=by omega
   simp only[bc,Int.reduceEq,Int.reduceLT,Int.reduceLE,reduceCtorEq,b8 cC,bg]
 have mm:∀ (m:lY),im m (f.2.2.1++f.2.2.2++gB f.1)->I5 N f m N (0:Int)=some (.inl ()):=by
  intro m hm;unfold I5;refine e8 (fun k d=>∃ j:Nat,j+k=f.1.length/\d=(j:Int)) _ ?_ N f.1.length _ (by omega) ⟨0,by omega,rfl⟩;rintro k d rec ⟨j,aR,rfl⟩ bY
  apply T.eq
  by_cases a8:j < f.1.length
  ·obtain⟨row,cC⟩:∃ x,f.1[j]?=some x:=⟨_,List.getElem?_eq_getElem a8⟩
   have bg:(j:Int) < (f.1.length:Int):=by omega
   have this:T (rec ((j:Int)+1)) (·=.inl ()):=⟨_,bY (k - 1) _ (by omega) ⟨j+1,by omega,rfl⟩,rfl⟩
   simp only[bc,Int.reduceEq,Int.reduceLT,Int.reduceLE,reduceCtorEq,bg,bt (oo j row m (by omega) cC hm)]
   and_intros<;>first | omega | (simp only[bN]; omega) | exact this | trivial
  ·have bg:¬ (j:Int) < (f.1.length:Int):=by omega
   simp only[bc,Int.reduceEq,Int.reduceLT,Int.reduceLE,reduceCtorEq,bg]
 unfold CU
 apply T.eq
 simp only[bc,Int.reduceEq,Int.reduceLT,Int.reduceLE,reduceCtorEq,bt J,bt au];refine(J1 bd f.2.2.1 (by omega) im.nil (by simp; omega)).mono fun m1 af1=>?_
 refine(J1 bd f.2.2.2 (by omega) af1 (by simp; omega)).mono fun m2 qg=>?_
 refine(c7 m2 _ (by simp; omega) qg).mono fun m3 B9=>?_
 rw[List.nil_append]at B9;simp only[bc,Int.reduceEq,Int.reduceLT,Int.reduceLE,reduceCtorEq,bt (mm m3 B9)]
theorem af2{N:Nat} (bd:5000 < N) {f:lS} {aP:al->Nat} (h:lU f.1 aP) (aV:eo f.1<=2048) (a6:ri f.1 (f.2.2.1++f.2.2.2)) (cn:f.2.2.1.length<=1000) (aA:f.2.2.2.length<=1) (ar:f.2.1=[]):CV N f=some 0:=by
 have aj:CS N f=some 0:=by
  obtain⟨n,rfl⟩:∃ n,N=n+1:=⟨N - 1,by omega⟩
  unfold CS PM;rw[ar]
  rfl
 have aa:∀ a,(gB f.1).count a<=1:=by
  intro a
  have:=a6 a
  rw[List.count_append]at this
  split at this<;>omega
 unfold CV
 apply T.eq
 simp only[bc,Int.reduceEq,Int.reduceLT,Int.reduceLE,reduceCtorEq,bt (afX bd h aV aa),bt aj,bt (afZ bd h aV a6 cn aA)]
theorem af3{N:Nat} (bd:5000 < N) (l:List al) (ad:l.length<=5000):p5 N l l=some true:=by
 have dY:zK N l l N (0:Int)=some (.inl ()):=by
  unfold zK;refine e8 (fun k d=>∃ j:Nat,j+k=l.length/\d=(j:Int)) _ ?_ N l.length _ (by omega) ⟨0,by omega,rfl⟩;rintro k d rec ⟨j,aR,rfl⟩ bY
  apply T.eq
  by_cases a8:j < l.length
  ·have bg:(j:Int) < (l.length:Int):=by omega
   have this:T (rec ((j:Int)+1)) (·=.inl ()):=⟨_,bY (k - 1) _ (by omega) ⟨j+1,by omega,rfl⟩,rfl⟩
   simp only[bc,Int.reduceEq,Int.reduceLT,Int.reduceLE,reduceCtorEq,bg,DI]
   and_intros<;>first | omega | (simp only[bN]; omega) | exact this | trivial
  ·have bg:¬ (j:Int) < (l.length:Int):=by omega
   simp only[bc,Int.reduceEq,Int.reduceLT,Int.reduceLE,reduceCtorEq,bg]
 unfold p5
 apply T.eq
 simp only[bc,Int.reduceEq,Int.reduceLT,Int.reduceLE,reduceCtorEq,bt dY]
end
end Go.Proofs.YtcheedjfedcbpaaGreatDoor
