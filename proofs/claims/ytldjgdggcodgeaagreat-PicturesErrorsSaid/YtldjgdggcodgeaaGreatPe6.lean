/- PicturesErrors: for every chart and every fabric, whatever the memory and the order that Go leaves open, the law returns true, and its arguments read as before. No condition. -/
import Derived.Test.YtldjgdggcodgeaaGreatPe5
import Derived.Test.YtldjgdggcodgeaaGreatRows
import Derived.ChangeMaps5
set_option linter.unusedSimpArgs false
set_option linter.unusedVariables false
set_option maxRecDepth 100000
namespace Go.Proofs.YtldjgdggcodgeaaGreat
open Go.RowKit
theorem wX{N:Nat} (aT:5000 < N) (l:List aB) (ad:l.length<=5000) {m:hP} {L:List aB} (h:fH m L) (ae:L.length+l.length<=100000):T (wG N l m) fun cI=>fH cI (L++l):=by
 have dJ:T (Iz N l N ((0:Int),m)) fun cI=>fH cI (L++l):=by
  unfold Iz;refine eI (fun k d=>∃ (j:Nat) (cI:hP),j+k=l.length/\d=((j:Int),cI)/\fH cI (L++l.take j)) _ ?_ N l.length _ (by omega) ⟨0,m,by omega,rfl,by simpa using h⟩;rintro k d rec ⟨j,cI,aF,rfl,gG⟩ bm
  by_cases aL:j < l.length
  ·obtain⟨x,ah⟩:∃ x,l[j]?=some x:=⟨_,List.getElem?_eq_getElem aL⟩
   have br:(j:Int) < (l.length:Int):=by omega
   have pC:=gG.add x;have pn:l.take (j+1)=l.take j++[x]:=by rw[List.take_succ_eq_append_getElem aL,(List.getElem?_eq_some_iff.1 ah).2]
   rw[List.append_assoc,<- pn]at pC;have ic:=pC x;rw[wU,if_pos rfl,Option.getD_some]at ic;have nE:(hF bf (.int .i64) cI x).getD (0:Int)+(1:Int)=(List.count x (L++l.take (j+1)):Int):=ic;have jf:List.count x (L++l.take (j+1))<=100000:=by
    refine Nat.le_trans List.count_le_length ?_;rw[List.length_append,List.length_take];omega
   have this:=bm (k - 1) _ (by omega) ⟨j+1,_,by omega,rfl,pC⟩;simp only[aG,Int.reduceEq,Int.reduceLT,Int.reduceLE,reduceCtorEq,br,bB ah];exact⟨by(repeat' apply And.intro)<;>first | omega | (simp only[bF]; omega) | exact this | rfl | trivial,DR nE jf,by(repeat' apply And.intro)<;>first | omega | (simp only[bF]; omega) | exact this | rfl | trivial⟩
  ·have br:¬ (j:Int) < (l.length:Int):=by omega
   simp only[aG,Int.reduceEq,Int.reduceLT,Int.reduceLE,reduceCtorEq,br];rw[show l.take j=l from List.take_of_length_le (by omega)]at gG;exact gG
 unfold wG;simp only[aG,Int.reduceEq,Int.reduceLT,Int.reduceLE,reduceCtorEq];exact dJ
theorem afr{t:List (List aQ)} {ρ:aB->Nat} (h:kL t ρ):(gF t).length<=4 * cl t:=by
 have key:∀ (l:List aQ),(∀ x∈l,x.2.2.1.length<=4)->(l.flatMap fun x=>x.2.2.1).length<=4 * l.length:=by
  intro l
  induction l with
  | nil=>intro _; exact Nat.le_refl _
  | cons a l bJ=>
   intro b1;have J:=bJ fun x ah=>b1 x (List.mem_cons_of_mem _ ah)
   have U:=b1 a List.mem_cons_self;rw[List.flatMap_cons,List.length_append,List.length_cons];omega
 have ad:t.flatten.length=cl t:=by rw[List.length_flatten]; rfl
 unfold gF;rw[<- ad];refine key _ fun x ah=>?_
 rw[List.mem_flatten]at ah;obtain⟨row,au,ah⟩:=ah;obtain⟨j,aF⟩:=List.getElem?_of_mem au;obtain⟨n,a6⟩:=List.getElem?_of_mem ah;exact h.m5 ((j:Int)+1,(n:Int)) x (by rw[lh,bB aF,a6])
theorem afs{N:Nat} (aT:5000 < N) {f:eC} {ρ:aB->Nat} (h:kL f.1 ρ) (aY:cl f.1<=2048) (bb:lF f.1 (f.2.2.1++f.2.2.2)) (b1:f.2.2.1.length<=1000) (az:f.2.2.2.length<=1):wH N f=some 0:=by
 have aK:=h.len;have QE:∀ a,a∈f.2.2.1\/a∈f.2.2.2->eM f.1 a:=fun a aS=>bb.has (List.mem_append.2 aS)
 have U:∀ (v:Nat) (l:List aB),([f.2.2.1,f.2.2.2]:List (List aB))[v]?=some l->(∀ a∈l,eM f.1 a)->l.length<=1000->tX N f (v:Int) N (0:Int)=some (.inl ()):=by
  intro v l aw ad hlen;unfold tX;refine eU (fun k d=>∃ j:Nat,j+k=l.length/\d=(j:Int)) _ ?_ N l.length _ (by omega) ⟨0,by omega,rfl⟩;rintro k d rec ⟨j,aF,rfl⟩ bm
  apply T.eq
  by_cases aL:j < l.length
  ·obtain⟨x,ah⟩:∃ x,l[j]?=some x:=⟨_,List.getElem?_eq_getElem aL⟩
   have br:(j:Int) < (l.length:Int):=by omega
   have this:T (rec ((j:Int)+1)) (·=.inl ()):=⟨_,bm (k - 1) _ (by omega) ⟨j+1,by omega,rfl⟩,rfl⟩
   simp only[aG,Int.reduceEq,Int.reduceLT,Int.reduceLE,reduceCtorEq,bB aw,br,bB ah,bu (afg N aK (ad x (List.mem_of_getElem? ah)))]
   (repeat' apply And.intro)<;>first | omega | (simp only[bF]; omega) | exact this | rfl | trivial
  ·have br:¬ (j:Int) < (l.length:Int):=by omega
   simp only[aG,Int.reduceEq,Int.reduceLT,Int.reduceLE,reduceCtorEq,bB aw,br]
 have J:zI N f N (0:Int)=some (.inl ()):=by
  unfold zI;refine eU (fun k d=>∃ j:Nat,j+k=2/\d=(j:Int)) _ ?_ N 2 _ (by omega) ⟨0,by omega,rfl⟩;rintro k d rec ⟨j,aF,rfl⟩ bm
  apply T.eq
  by_cases aL:j < 2
  ·have br:(j:Int) < 2:=by omega
   have this:T (rec ((j:Int)+1)) (·=.inl ()):=⟨_,bm (k - 1) _ (by omega) ⟨j+1,by omega,rfl⟩,rfl⟩
   have Jy:tX N f (j:Int) N (0:Int)=some (.inl ()):=by
    have:j=0\/j=1:=by omega
    rcases this with rfl | rfl
    ·exact U 0 _ rfl (fun a aS=>QE a (Or.inl aS)) b1
    ·exact U 1 _ rfl (fun a aS=>QE a (Or.inr aS)) (by omega)
   simp only[aG,Int.reduceEq,Int.reduceLT,Int.reduceLE,reduceCtorEq,br,bu Jy,List.length_cons,List.length_nil]
   (repeat' apply And.intro)<;>first | omega | (simp only[bF]; omega) | exact this | rfl | trivial
  ·have br:¬ (j:Int) < 2:=by omega
   simp only[aG,Int.reduceEq,Int.reduceLT,Int.reduceLE,reduceCtorEq,br]
 have ay:zJ N f N (0:Int)=some (.inl ()):=by
  unfold zJ;refine eU (fun k d=>∃ j:Nat,j+k=f.2.2.2.length/\d=(j:Int)) _ ?_ N f.2.2.2.length _ (by omega) ⟨0,by omega,rfl⟩;rintro k d rec ⟨j,aF,rfl⟩ bm
  apply T.eq
  by_cases aL:j < f.2.2.2.length
  ·obtain rfl:j=0:=by omega
   have br:((0:Nat):Int) < (f.2.2.2.length:Int):=by omega
   have this:T (rec (((0:Nat):Int)+1)) (·=.inl ()):=⟨_,bm (k - 1) _ (by omega) ⟨1,by omega,rfl⟩,rfl⟩
   simp only[aG,Int.reduceEq,Int.reduceLT,Int.reduceLE,reduceCtorEq,br,show ¬ (0:Int) < ((0:Nat):Int) by omega]
   (repeat' apply And.intro)<;>first | omega | (simp only[bF]; omega) | exact this | rfl | trivial
  ·have br:¬ (j:Int) < (f.2.2.2.length:Int):=by omega
   simp only[aG,Int.reduceEq,Int.reduceLT,Int.reduceLE,reduceCtorEq,br]
 have hB:∀ (y:Nat) (row:List aQ) (m:hP) (H:List aB),H.length<=2000->f.1[y]?=some row->fH m (H++gF (f.1.take y))->T (zK N f (y:Int) N ((0:Int),m)) fun cI=>fH cI (H++gF (f.1.take (y+1))):=by
  intro y row m H QF bX hm;have fj:=lE (t:=f.1) y;rw[bB bX]at fj;have mB:=afr h;unfold zK;refine eI (fun k d=>∃ (j:Nat) (cI:hP),j+k=row.length/\d=((j:Int),cI)/\fH cI (H++(gF (f.1.take y)++(row.take j).flatMap (·.2.2.1)))) _ ?_ N row.length _ (by omega) ⟨0,m,by omega,rfl,by simpa using hm⟩;rintro k d rec ⟨j,cI,aF,rfl,gG⟩ bm
  by_cases aL:j < row.length
  ·obtain⟨l,ad⟩:∃ x,row[j]?=some x:=⟨_,List.getElem?_eq_getElem aL⟩
   have br:(j:Int) < (row.length:Int):=by omega
   have ll:eg f.1 ((y:Int)+1,(j:Int))=some l:=by rw[lh,bB bX,ad]
   have ui:=h.m5 _ l ll;have fT:(gF (f.1.take y)++(row.take j).flatMap (·.2.2.1)).length<=(gF f.1).length:=by
    refine List.Sublist.length_le ?_;refine List.Sublist.trans ?_ (QA (y+1));rw[DS bX];exact List.Sublist.append (List.Sublist.refl _) (Qz j)
   simp only[aG,Int.reduceEq,Int.reduceLT,Int.reduceLE,reduceCtorEq,bB bX,br,bB ad];refine⟨by(repeat' apply And.intro)<;>first | omega | (simp only[bF]; omega) | exact this | rfl | trivial,(wX aT l.2.2.1 (by omega) gG (by rw[List.length_append]; omega)).mono fun fS j6=>?_⟩;rw[List.append_assoc,List.append_assoc,<- Jt ad]at j6;have this:=bm (k - 1) _ (by omega) ⟨j+1,fS,by omega,rfl,j6⟩
   (repeat' apply And.intro)<;>first | omega | (simp only[bF]; omega) | exact this | rfl | trivial
  ·have br:¬ (j:Int) < (row.length:Int):=by omega
   simp only[aG,Int.reduceEq,Int.reduceLT,Int.reduceLE,reduceCtorEq,bB bX,br];rw[show row.take j=row from List.take_of_length_le (by omega)]at gG;rw[DS bX];exact gG
 have c3:∀ (m:hP) (H:List aB),H.length<=2000->fH m H->T (zL N f N ((0:Int),m)) fun cI=>fH cI (H++gF f.1):=by
  intro m H QF hm;unfold zL;refine eI (fun k d=>∃ (j:Nat) (cI:hP),j+k=f.1.length/\d=((j:Int),cI)/\fH cI (H++gF (f.1.take j))) _ ?_ N f.1.length _ (by omega) ⟨0,m,by omega,rfl,by simpa [gF] using hm⟩;rintro k d rec ⟨j,cI,aF,rfl,gG⟩ bm
  by_cases aL:j < f.1.length
  ·obtain⟨row,bX⟩:∃ x,f.1[j]?=some x:=⟨_,List.getElem?_eq_getElem aL⟩
   have br:(j:Int) < (f.1.length:Int):=by omega
   simp only[aG,Int.reduceEq,Int.reduceLT,Int.reduceLE,reduceCtorEq,br];refine⟨by(repeat' apply And.intro)<;>first | omega | (simp only[bF]; omega) | exact this | rfl | trivial,(hB j row cI H QF bX gG).mono fun fS j6=>?_⟩;have this:=bm (k - 1) _ (by omega) ⟨j+1,fS,by omega,rfl,j6⟩
   (repeat' apply And.intro)<;>first | omega | (simp only[bF]; omega) | exact this | rfl | trivial
  ·have br:¬ (j:Int) < (f.1.length:Int):=by omega
   simp only[aG,Int.reduceEq,Int.reduceLT,Int.reduceLE,reduceCtorEq,br];rw[show f.1.take j=f.1 from List.take_of_length_le (by omega)]at gG;exact gG
 have lY:∀ (y:Nat) (row:List aQ) (m:hP),y < 6->f.1[y]?=some row->fH m (f.2.2.1++f.2.2.2++gF f.1)->zM N f m (y:Int) N (0:Int)=some (.inl ()):=by
  intro y row m aH bX hm;have fj:=lE (t:=f.1) y;rw[bB bX]at fj;have hw:IntKind.wrap .u8 ((y:Int)+(1:Int))=(y:Int)+1:=ua (by omega) (by omega);unfold zM;refine eU (fun k d=>∃ j:Nat,j+k=row.length/\d=(j:Int)) _ ?_ N row.length _ (by omega) ⟨0,by omega,rfl⟩;rintro k d rec ⟨j,aF,rfl⟩ bm
  apply T.eq
  by_cases aL:j < row.length
  ·have br:(j:Int) < (row.length:Int):=by omega
   have iL:(hF bf (.int .i64) m ((y:Int)+1,(j:Int))).getD (0:Int)=(1:Int):=by
    rw[hm,bb,if_pos (by
     rw[ko];refine⟨by show(1:Int)<=(y:Int)+1; omega,by show(0:Int)<=(j:Int); omega,?_⟩;show(j:Int) < ((f.1.getD ((y:Int)+1 - 1).toNat []).length:Int);rw[show((y:Int)+1 - 1).toNat=y by omega,bB bX];omega)]
    rfl
   have this:T (rec ((j:Int)+1)) (·=.inl ()):=⟨_,bm (k - 1) _ (by omega) ⟨j+1,by omega,rfl⟩,rfl⟩
   simp only[aG,Int.reduceEq,Int.reduceLT,Int.reduceLE,reduceCtorEq,bB bX,br,hw];refine⟨by(repeat' apply And.intro)<;>first | omega | (simp only[bF]; omega) | exact this | rfl | trivial,fun e=>absurd iL e,fun _=>by(repeat' apply And.intro)<;>first | omega | (simp only[bF]; omega) | exact this | rfl | trivial⟩
  ·have br:¬ (j:Int) < (row.length:Int):=by omega
   simp only[aG,Int.reduceEq,Int.reduceLT,Int.reduceLE,reduceCtorEq,bB bX,br]
 have k9:∀ (m:hP),fH m (f.2.2.1++f.2.2.2++gF f.1)->zN N f m N (0:Int)=some (.inl ()):=by
  intro m hm;unfold zN;refine eU (fun k d=>∃ j:Nat,j+k=f.1.length/\d=(j:Int)) _ ?_ N f.1.length _ (by omega) ⟨0,by omega,rfl⟩;rintro k d rec ⟨j,aF,rfl⟩ bm
  apply T.eq
  by_cases aL:j < f.1.length
  ·obtain⟨row,bX⟩:∃ x,f.1[j]?=some x:=⟨_,List.getElem?_eq_getElem aL⟩
   have br:(j:Int) < (f.1.length:Int):=by omega
   have this:T (rec ((j:Int)+1)) (·=.inl ()):=⟨_,bm (k - 1) _ (by omega) ⟨j+1,by omega,rfl⟩,rfl⟩
   simp only[aG,Int.reduceEq,Int.reduceLT,Int.reduceLE,reduceCtorEq,br,bu (lY j row m (by omega) bX hm)]
   (repeat' apply And.intro)<;>first | omega | (simp only[bF]; omega) | exact this | rfl | trivial
  ·have br:¬ (j:Int) < (f.1.length:Int):=by omega
   simp only[aG,Int.reduceEq,Int.reduceLT,Int.reduceLE,reduceCtorEq,br]
 unfold wH
 apply T.eq
 simp only[aG,Int.reduceEq,Int.reduceLT,Int.reduceLE,reduceCtorEq,bu J,bu ay];refine(wX aT f.2.2.1 (by omega) fH.nil (by simp; omega)).mono fun GN Jz=>?_
 refine(wX aT f.2.2.2 (by omega) Jz (by simp; omega)).mono fun fS j6=>?_
 refine(c3 fS _ (by simp; omega) j6).mono fun yR B6=>?_
 rw[List.nil_append]at B6;simp only[aG,Int.reduceEq,Int.reduceLT,Int.reduceLE,reduceCtorEq,bu (k9 yR B6)]
theorem aft{N:Nat} (aT:5000 < N) {f:eC} {ρ:aB->Nat} (h:kL f.1 ρ) (aY:cl f.1<=2048) (bb:lF f.1 (f.2.2.1++f.2.2.2)) (b1:f.2.2.1.length<=1000) (az:f.2.2.2.length<=1) (av:f.2.1=[]):pv N f=some 0:=by
 have ah:wF N f=some 0:=by
  obtain⟨n,rfl⟩:∃ n,N=n+1:=⟨N - 1,by omega⟩
  unfold wF Iy;rw[av]
  rfl
 have aa:∀ a,(gF f.1).count a<=1:=by
  intro a
  have:=bb a
  rw[List.count_append]at this
  split at this<;>omega
 unfold pv
 apply T.eq
 simp only[aG,Int.reduceEq,Int.reduceLT,Int.reduceLE,reduceCtorEq,bu (afq aT h aY aa),bu ah,bu (afs aT h aY bb b1 az)]
theorem afu{N:Nat} (aT:5000 < N) {t:List (List aQ)} (aK:t.length=6) (aY:cl t<=2048) {B y:Nat} {Y:bL} (h:hZ t B y Y) (an:Y.1=true->Y.2.1=-13\/Y.2.1=179):Di N Y ((t.getD y []).length:Int) t=some true:=by
 have az:=h.v.gd;have dJ:ID N Y t N (0:Int)=some (.inl ()):=by
  unfold ID;refine eU (fun k d=>∃ j:Nat,j+k=Y.2.2.2.2.length/\d=(j:Int)) _ ?_ N Y.2.2.2.2.length _ (by omega) ⟨0,by omega,rfl⟩;rintro k d rec ⟨j,aF,rfl⟩ bm
  apply T.eq
  by_cases aL:j < Y.2.2.2.2.length
  ·obtain⟨x,ah⟩:∃ x,Y.2.2.2.2[j]?=some x:=⟨_,List.getElem?_eq_getElem aL⟩
   have br:(j:Int) < (Y.2.2.2.2.length:Int):=by omega
   have Aj:=List.mem_of_getElem? ah;have lj:=h.v.ok x Aj;have oA:=h.r6 x Aj;have hle:=r2 oA;rw[aK]at hle;rw[ko]at oA;have hw:=wT oA.1 (by omega:x.1.1<=6);have this:T (rec ((j:Int)+1)) (·=.inl ()):=⟨_,bm (k - 1) _ (by omega) ⟨j+1,by omega,rfl⟩,rfl⟩
   simp only[aG,Int.reduceEq,Int.reduceLT,Int.reduceLE,reduceCtorEq,br,bB ah,bu (PY N lj.1),hw,aK,show ¬ ((t.getD (x.1.1 - 1).toNat []).length:Int)<=x.1.2 by omega]
   (repeat' apply And.intro)<;>first | omega | (simp only[bF]; omega) | exact this | rfl | trivial
  ·have br:¬ (j:Int) < (Y.2.2.2.2.length:Int):=by omega
   simp only[aG,Int.reduceEq,Int.reduceLT,Int.reduceLE,reduceCtorEq,br]
 unfold Di
 apply T.eq
 simp only[aG,Int.reduceEq,Int.reduceLT,Int.reduceLE,reduceCtorEq,bu (DH (N:=N) h.v (by omega)),h.fB,bu dJ];intro e
 have:=an e.1.1
 omega
theorem afv{N:Nat} (aT:5000 < N) (l:List aB) (ad:l.length<=5000):qG N l l=some true:=by
 have dJ:Dj N l l N (0:Int)=some (.inl ()):=by
  unfold Dj;refine eU (fun k d=>∃ j:Nat,j+k=l.length/\d=(j:Int)) _ ?_ N l.length _ (by omega) ⟨0,by omega,rfl⟩;rintro k d rec ⟨j,aF,rfl⟩ bm
  apply T.eq
  by_cases aL:j < l.length
  ·have br:(j:Int) < (l.length:Int):=by omega
   have this:T (rec ((j:Int)+1)) (·=.inl ()):=⟨_,bm (k - 1) _ (by omega) ⟨j+1,by omega,rfl⟩,rfl⟩
   simp only[aG,Int.reduceEq,Int.reduceLT,Int.reduceLE,reduceCtorEq,br,DQ]
   (repeat' apply And.intro)<;>first | omega | (simp only[bF]; omega) | exact this | rfl | trivial
  ·have br:¬ (j:Int) < (l.length:Int):=by omega
   simp only[aG,Int.reduceEq,Int.reduceLT,Int.reduceLE,reduceCtorEq,br]
 unfold qG
 apply T.eq
 simp only[aG,Int.reduceEq,Int.reduceLT,Int.reduceLE,reduceCtorEq,bu dJ]
theorem QG{N:Nat} (aT:5000 < N) {bH:eV} {w:Nat} {ids:List aB} {B:Nat} (h:wS bH w ids B) (ja:1<=w) (nO:w<=16) (aY:cl bH.2.2.1.1<=2048):tY N bH=some 0:=by
 obtain⟨fv,fE,gm,oY⟩:=h.fv;have qd:=h.Ak;obtain⟨ρ,fm⟩:=h.st.tok;have aK:=fm.len;have JA:=h.st.oD;have mD:bH.1.length=w:=by rw[gm,wR fE,qd]
 have oC:gr bH.1=ids:=by rw[gm,Qu fE]
 have J:IF N bH N (0:Int)=some (.inl ()):=by
  unfold IF;refine eU (fun k d=>∃ j:Nat,j+k=6/\d=(j:Int)) _ ?_ N 6 _ (by omega) ⟨0,by omega,rfl⟩;rintro k d rec ⟨j,aF,rfl⟩ bm
  apply T.eq
  by_cases aL:j < 6
  ·obtain⟨Y,ck⟩:∃ x,bH.2.1[j]?=some x:=⟨_,List.getElem?_eq_getElem (by omega)⟩
   have br:(j:Int) < (bH.2.1.length:Int):=by omega
   have sh:=afu aT aK aY (h.st.jM j Y ck) (h.st.pA j Y ck);have this:T (rec ((j:Int)+1)) (·=.inl ()):=⟨_,bm (k - 1) _ (by omega) ⟨j+1,by omega,rfl⟩,rfl⟩
   simp only[aG,Int.reduceEq,Int.reduceLT,Int.reduceLE,reduceCtorEq,br,bB ck,bu sh]
   (repeat' apply And.intro)<;>first | omega | (simp only[bF]; omega) | exact this | rfl | trivial
  ·have br:¬ (j:Int) < (bH.2.1.length:Int):=by omega
   simp only[aG,Int.reduceEq,Int.reduceLT,Int.reduceLE,reduceCtorEq,br]
 have ag:IG N bH N (0:Int)=some (.inl ()):=by
  unfold IG;refine eU (fun k d=>∃ j:Nat,j+k=w/\d=(j:Int)) _ ?_ N w _ (by omega) ⟨0,by omega,rfl⟩;rintro k d rec ⟨j,aF,rfl⟩ bm
  apply T.eq
  by_cases aL:j < w
  ·obtain⟨s,aj⟩:∃ x,bH.1[j]?=some x:=⟨_,List.getElem?_eq_getElem (by omega)⟩
   have br:(j:Int) < (bH.1.length:Int):=by omega
   have hd:=aj;rw[gm]at hd;obtain⟨b,a,ae,_,rfl⟩:=DP hd;have ahL:=oY b (List.mem_of_getElem? ae);have this:T (rec ((j:Int)+1)) (·=.inl ()):=⟨_,bm (k - 1) _ (by omega) ⟨j+1,by omega,rfl⟩,rfl⟩
   simp only[aG,Int.reduceEq,Int.reduceLT,Int.reduceLE,reduceCtorEq,br,bB aj,List.length_singleton];refine⟨by(repeat' apply And.intro)<;>first | omega | (simp only[bF]; omega) | exact this | rfl | trivial,fun e=>by omega,fun _=>by(repeat' apply And.intro)<;>first | omega | (simp only[bF]; omega) | exact this | rfl | trivial⟩
  ·have br:¬ (j:Int) < (bH.1.length:Int):=by omega
   simp only[aG,Int.reduceEq,Int.reduceLT,Int.reduceLE,reduceCtorEq,br]
 have nT:pv N bH.2.2.1=some 0:=aft aT fm aY (by rw[h.H,h.F,List.append_nil]; exact h.st.once) (by rw[h.H]; omega) (by rw[h.F]; simp) h.X;have ax:=h.d;unfold tY
 apply T.eq
 simp only[aG,Int.reduceEq,Int.reduceLT,Int.reduceLE,reduceCtorEq,JA,aK,bu J,bu ag,bu nT,bu (DI (N:=N) bH.1 (by omega) (by omega) (by rw[oC]; omega)),oC,h.H,bu (afv aT ids (by omega)),mD,show((6:Nat):Int)=6 from rfl,show ¬ ((w:Int) < 1) by omega,show ¬ ((16:Int) < (w:Int)) by omega];omega

theorem QH(N:Nat) (l:List aB) (h:l.length<=100000):wI N l=some (l,l.length):=by
 unfold wI
 apply T.eq
 simp only[aG,Int.reduceEq,Int.reduceLT,Int.reduceLE,reduceCtorEq,List.length_replicate]
 (repeat' apply And.intro)<;>first | omega | (simp only[bF]; omega) | exact this | rfl | trivial
theorem afw(N:Nat) (l:List b9) (h:l.length<=100000):zP N l=some (l,l.length):=by
 unfold zP
 apply T.eq
 simp only[aG,Int.reduceEq,Int.reduceLT,Int.reduceLE,reduceCtorEq,List.length_replicate]
 (repeat' apply And.intro)<;>first | omega | (simp only[bF]; omega) | exact this | rfl | trivial
theorem JB(N:Nat) (l:List cF) (h:l.length<=100000):rW N l=some (l,l.length):=by
 unfold rW
 apply T.eq
 simp only[aG,Int.reduceEq,Int.reduceLT,Int.reduceLE,reduceCtorEq,List.length_replicate]
 (repeat' apply And.intro)<;>first | omega | (simp only[bF]; omega) | exact this | rfl | trivial
theorem QI(N:Nat) (l:List aB):wJ N l=some (l,l.length):=by
 unfold wJ
 apply T.eq
 simp only[aG,Int.reduceEq,Int.reduceLT,Int.reduceLE,reduceCtorEq,List.take_length]
 (repeat' apply And.intro)<;>first | omega | (simp only[bF]; omega) | exact this | rfl | trivial
theorem afx{N:Nat} (t:List (List aQ)) (aT:5000 < N) (h:Ab t) (y w:Nat) (aH:y < 6) (hw:w<=300):zQ N t ((y:Int)+1) (w:Int)=some (own t):=by
 have zY:=h.gd;have ag:∀ (j:Nat) (x:List aQ) (R:List (List aQ)),t[j]?=some x->j < R.length->II N t (j:Int) N ((0:Int),own (R.set j (List.replicate x.length bT.zero)))=some (own (R.set j x)):=by
  intro j x R ah dO;have oA:=List.mem_of_getElem? ah;have kx:=h.row x oA;unfold II;refine eU (fun k d=>∃ i:Nat,i+k=x.length/\d=((i:Int),own (R.set j (x.take i++List.replicate (x.length - i) bT.zero)))) _ ?_ N x.length _ (by omega) ⟨0,by omega,by simp⟩;rintro k d rec ⟨i,hi,rfl⟩ bm
  apply T.eq
  by_cases aL:i < x.length
  ·obtain⟨l,ad⟩:∃ l,x[i]?=some l:=⟨_,List.getElem?_eq_getElem aL⟩
   have Ac:=List.mem_of_getElem? ad;have br:(i:Int) < (x.length:Int):=by omega
   have aV:(R.set j (x.take i++List.replicate (x.length - i) bT.zero))[j]?=some (x.take i++List.replicate (x.length - i) bT.zero):=by rw[List.getElem?_set,if_pos rfl,if_pos dO]
   have this:T (rec ((i:Int)+1,own (R.set j (x.take (i+1)++List.replicate (x.length - (i+1)) bT.zero)))) (·=own (R.set j x)):=⟨_,bm (k - 1) _ (by omega) ⟨i+1,by omega,rfl⟩,rfl⟩
   simp only[aG,Int.reduceEq,Int.reduceLT,Int.reduceLE,reduceCtorEq,qr,List.length_set,oz aV,bB ah,br,bB ad,bu (QH N _ (h.thr x oA l Ac)),bu (JB N _ (h.m4 x oA l Ac)),DJ,r5,List.set_set,Jc ad,Jd (Nat.le_of_lt aL)]
   (repeat' apply And.intro)<;>first | omega | (simp only[bF]; omega) | exact this | rfl | trivial
  ·have br:¬ (i:Int) < (x.length:Int):=by omega
   simp only[aG,Int.reduceEq,Int.reduceLT,Int.reduceLE,reduceCtorEq,br,bB ah];rw[show i=x.length by omega]
   simp
 have J:IJ N t ((y:Int)+1) (w:Int) N ((0:Int),own (List.replicate t.length []))=some (own t):=by
  unfold IJ;refine eU (fun k d=>∃ j:Nat,j+k=t.length/\d=((j:Int),own (t.take j++List.replicate (t.length - j) []))) _ ?_ N t.length _ (by omega) ⟨0,by omega,by simp⟩;rintro k d rec ⟨j,aF,rfl⟩ bm
  apply T.eq
  by_cases aL:j < t.length
  ·obtain⟨x,ah⟩:∃ x,t[j]?=some x:=⟨_,List.getElem?_eq_getElem aL⟩
   have br:(j:Int) < (t.length:Int):=by omega
   have kx:=h.row x (List.mem_of_getElem? ah);have iO:=Jd (t:=t) (Nat.le_of_lt aL) [];have xu:=ag j x (t.take j++List.replicate (t.length - j) []) ah (by omega);have this:T (rec ((j:Int)+1,own (t.take (j+1)++List.replicate (t.length - (j+1)) []))) (·=own t):=⟨_,bm (k - 1) _ (by omega) ⟨j+1,by omega,rfl⟩,rfl⟩
   simp only[aG,Int.reduceEq,Int.reduceLT,Int.reduceLE,reduceCtorEq,br,bB ah,qr,iO,r5,bu xu,Jc ah];refine⟨by(repeat' apply And.intro)<;>first | omega | (simp only[bF]; omega) | exact this | rfl | trivial,by(repeat' apply And.intro)<;>first | omega | (simp only[bF]; omega) | exact this | rfl | trivial,fun e=>?_,fun e=>?_⟩
   ·(repeat' apply And.intro)<;>first | omega | (simp only[bF]; omega) | exact this | rfl | trivial
   ·(repeat' apply And.intro)<;>first | omega | (simp only[bF]; omega) | exact this | rfl | trivial
  ·have br:¬ (j:Int) < (t.length:Int):=by omega
   simp only[aG,Int.reduceEq,Int.reduceLT,Int.reduceLE,reduceCtorEq,br];rw[List.take_of_length_le (by omega),show t.length - j=0 by omega]
   simp
 unfold zQ
 apply T.eq
 simp only[aG,Int.reduceEq,Int.reduceLT,Int.reduceLE,reduceCtorEq,Qa,bu J]
 (repeat' apply And.intro)<;>first | omega | (simp only[bF]; omega) | exact this | rfl | trivial
theorem afy{N:Nat} (aT:5000 < N) (a:aB):Dk N [] a=some [a]:=by
 obtain⟨n,rfl⟩:∃ n,N=n+3:=⟨N - 3,by omega⟩
 have aj:IK (n+3) [a]=some [a]:=by kernel_rfl
 unfold Dk
 apply T.eq
 simp only[aG,Int.reduceEq,Int.reduceLT,Int.reduceLE,reduceCtorEq,List.nil_append,bu aj,List.length_nil,List.length_singleton]
 (repeat' apply And.intro)<;>first | omega | (simp only[bF]; omega) | exact this | rfl | trivial
theorem lF.bind{t:List (List aQ)} {P Q:List aB} (h:lF t (P++Q)) {y:Nat} (aH:y < t.length) {l:aQ} (ad:l.2.2.1=P):lF (gV t y l) (((y:Int)+1,((t.getD y []).length:Int)) :: Q):=by
 intro c;have J:=h c;have ag:=I6 aH l c;have a6:=DC aH l;rw[ad]at ag;rw[List.count_append,List.count_append]at J;rw[List.count_append,List.count_cons,ag];have Af:(if (((y:Int)+1,((t.getD y []).length:Int)) == c)=true then 1 else 0)=if ((y:Int)+1,((t.getD y []).length:Int))=c then 1 else 0:=by simp
 rw[Af]
 by_cases e:((y:Int)+1,((t.getD y []).length:Int))=c
 ·rw[if_pos e]
  rw[e]at a6;rw[if_neg a6]at J;rw[if_pos ((qJ aH l).2 (Or.inl e.symm))];omega
 ·rw[if_neg e]
  by_cases aa:eM t c
  ·rw[if_pos aa]at J
   rw[if_pos (aa.put aH l)];omega
  ·rw[if_neg aa]at J
   rw[if_neg (fun b1=>((qJ aH l).1 b1).elim (fun h=>e h.symm) aa)];omega
structure uj(t0:List (List aQ)) (ids:List aB) (y:Nat) (B i:Nat) (t:List (List aQ)) (Y:bL) (fI:aB):Prop where
 tok:∃ ρ,kL t ρ
 once:lF t ((if i=0 then [] else [fI])++ids.drop i)
 jM:hZ t B y Y
 afz:Y.1=true
 all:cl t=cl t0+i
 len:(t.getD y []).length=(t0.getD y []).length+i
 rest:∀ z:Nat,z≠y->t.getD z []=t0.getD z []
 last:0 < i->fI=((y:Int)+1,(((t0.getD y []).length+(i - 1):Nat):Int))
 ext:∀ (a:aB) (l:aQ),eg t0 a=some l->eg t a=some l
 made:∀ (k:Nat) (a:aB),k < i->ids[k]?=some a->∃ l:aQ,eg t ((y:Int)+1,(((t0.getD y []).length+k:Nat):Int))=some l/\l.1=0/\l.2.2.1=(if k=0 then [a] else [((y:Int)+1,(((t0.getD y []).length+(k - 1):Nat):Int)),a])
theorem uj.next{t0:List (List aQ)} {ids:List aB} {y:Nat} (aH:y < 6) {B i:Nat} {t:List (List aQ)} {Y:bL} {fI:aB} (h:uj t0 ids y B i t Y fI) {a:aB} (aS:ids[i]?=some a) (aY:cl t < 2048) {Z:bL} {C:Nat} (eB:hZ t C y Z) (dR:Z.1=true) (a6:(t.getD y []).length=0->Z.2.2.2.1=true) :
  uj t0 ids y B (i+1) (gV t y (0,(Z.2.2.2.1,((if i=0 then [] else [fI])++[a],Z.2.2.2.2)))) (true,Z.2.1,Z.2.2.1+1,false,[]) ((y:Int)+1,((t.getD y []).length:Int)):=by
 obtain⟨ρ,fm⟩:=h.tok;have aK:=fm.len;have ax:ids.drop i=a :: ids.drop (i+1):=by
  rw[List.drop_eq_getElem_cons (List.getElem?_eq_some_iff.1 aS).1,(List.getElem?_eq_some_iff.1 aS).2]
 have bb:=h.once;rw[ax,show(if i=0 then [] else [fI])++a :: ids.drop (i+1)=((if i=0 then [] else [fI])++[a])++ids.drop (i+1) by simp]at bb;refine⟨⟨_,fm.put aH (Or.inl rfl) (fun b ae=>bb.has (List.mem_append.2 (Or.inl ae))) (fun p an=>⟨eB.r6 p an,(eB.v.ok p an).2⟩) ?_ eB.v.gd eB.v.red a6⟩,?_,(eB.made aK aY dR aH _).le (Nat.zero_le _),rfl,by rw[DD (by omega),h.all]; omega,by rw[py (by omega),if_pos rfl,List.length_append,h.len]; rfl,fun z bk=>by rw[py (by omega),if_neg bk]; exact h.rest z bk,
  fun _=>by rw[h.len]; rfl,fun b l ae=>z1 (by omega) _ (h.ext b l ae),fun k b ab ae=>?_⟩
 ·show((if i=0 then [] else [fI])++[a]).length<=4
  split<;>simp
 ·rw[if_neg (show ¬ i+1=0 by omega)]
  exact lF.bind bb (by omega) rfl
 ·by_cases e:k=i
  ·subst e
   rw[aS]at ae;cases ae;have hU:=I5 (t:=t) (y:=y) (by omega) (0,(Z.2.2.2.1,((if k=0 then [] else [fI])++[a],Z.2.2.2.2)));rw[h.len]at hU;refine⟨_,hU,rfl,?_⟩;show(if k=0 then [] else [fI])++[a]=_
   by_cases ez:k=0
   ·rw[if_pos ez,if_pos ez]; rfl
   ·rw[if_neg ez,if_neg ez,h.last (by omega)]; rfl
  ·obtain⟨l,J,U⟩:=h.made k b (by omega) ae
   exact⟨l,z1 (by omega) _ J,U⟩
theorem afA{N:Nat} (aT:5000 < N) {bH:eV} {w:Nat} {ids:List aB} {B:Nat} (h:wS bH w ids B) (ja:1<=w) (nO:w<=16) (aY:cl bH.2.2.1.1+32<=2048) (cH:B+2<=4096) {y:Nat} (aH:y < 6) {Y:bL} (ck:bH.2.1[y]?=some Y) (dR:Y.1=true) (gH:Y.2.1=-13) :
  T (r0 N bH ((y:Int)+1)) fun q=>∃ t Z fI,q=((t,([],([],[fI]))),0)/\uj bH.2.2.1.1 ids y (B+1) w t Z fI:=by
 obtain⟨fv,fE,gm,oY⟩:=h.fv;have qd:=h.Ak;obtain⟨ρ,fm⟩:=h.st.tok;have aK:=fm.len;have JA:=h.st.oD;have mD:bH.1.length=w:=by rw[gm,wR fE,qd]
 have dJ:T (zU N bH ((y:Int)+1) N (bH,(0:Int),Y.1,Y.2.1,Y.2.2.1,Y.2.2.2.1,Y.2.2.2.2,own bH.2.2.1.1,[],ids,(0:Int),(0:Int))) fun q=>∃ t Z fI,q=.inl (bH,own t,[],ids,fI)/\uj bH.2.2.1.1 ids y (B+1) w t Z fI:=by
  unfold zU;refine eI (fun k D=>∃ (i:Nat) (t:List (List aQ)) (Z:bL) (fI:aB),i+k=w/\D=(bH,(i:Int),Z.1,Z.2.1,Z.2.2.1,Z.2.2.2.1,Z.2.2.2.2,own t,[],ids,fI.1,fI.2)/\uj bH.2.2.1.1 ids y (B+1) i t Z fI) _ ?_ N w _ (by omega)
   ⟨0,bH.2.2.1.1,Y,(0,0),by omega,rfl,⟨⟨ρ,fm⟩,by simpa using h.st.once,(h.st.jM y Y ck).le (by omega),dR,rfl,rfl,fun _ _=>rfl,fun h=>by omega,fun _ _ h=>h,fun k a ab=>by omega⟩⟩
  rintro k D rec ⟨i,t,Z,fI,hi,rfl,aJ⟩ bm
  by_cases aL:i < w
  ·obtain⟨s,aj⟩:∃ x,bH.1[i]?=some x:=⟨_,List.getElem?_eq_getElem (by omega)⟩
   have hd:=aj;rw[gm]at hd;obtain⟨b,a,ae,aS,rfl⟩:=DP hd;have br:(i:Int) < (bH.1.length:Int):=by omega
   obtain⟨Qs,Ai⟩:=aJ.tok;have QJ:=Ai.len;have hS:=aJ.all;have l6:=aJ.afz;have pB:=aJ.jM;have aeZ:=pB.gd;have uh:=pB.v;have fj:=lE (t:=t) y;obtain⟨row,bX⟩:∃ x,t[y]?=some x:=⟨_,List.getElem?_eq_getElem (by omega)⟩
   have wY:t.getD y []=row:=bB bX;obtain⟨P,nD⟩:∃ P:List cF,P=if i=0 then [] else [(fI,(true,(0:Int)))]:=⟨_,rfl⟩
   obtain⟨R,dO⟩:∃ R:List aB,R=if i=0 then [] else [fI]:=⟨_,rfl⟩
   have ahM:P.length<=1:=by rw[nD]; split<;>simp
   have aew:R.length<=1:=by rw[dO]; split<;>simp
   have JC:∀ p∈P,eM t p.1/\(p.2.2=0\/p.2.2=1):=by
    intro p an;rw[nD]at an
    split at an
    ·cases an
    ·rename_i e
     rw[List.mem_singleton]at an;rw[an];have bb:=aJ.once;rw[if_neg e]at bb;exact⟨bb.has (by simp),Or.inl rfl⟩
   have afB:∀ p∈P,nN p:=fun p an=>nN.of QJ (by omega) (JC p an).1 (JC p an).2
   have fE:P.length+Z.2.2.2.2.length<=4096:=by
    by_cases e:i=0
    ·have:P.length=0:=by rw[nD,if_pos e]; rfl
     omega
    ·omega
   have jF:=P1 uh l6 aT (uh.at' l6) afB fE;have afC:∃ C,hZ t C y (true,Z.2.1,Z.2.2.1,Z.2.2.2.1,gq Z.2.2.2.2 P):=by
    refine⟨P.length+Z.2.2.2.2.length,?_⟩;have afD:hZ t Z.2.2.2.2.length y Z:=⟨pB.v,pB.fB,pB.r6,Nat.le_refl _,pB.new⟩
    exact afD.go QJ (by omega) l6 (uh.at' l6) JC fE
   obtain⟨C,c5⟩:=afC;have QK:=c5.fB;have QL:=c5.v.gd;have uw:=P2 c5.v rfl aT (by rw[QK,wY]; rw[wY]at fj; omega);have ed:=aJ.next aH aS (by omega) c5 rfl (fun h0=>pB.new l6 h0);have this:=bm (k - 1) _ (by omega) ⟨i+1,_,_,_,by omega,rfl,ed⟩;rw[<- dO,wY,show gV t y (0,(Z.2.2.2.1,(R++[a],gq Z.2.2.2.2 P)))=t.set y (row++[(0,(Z.2.2.2.1,(R++[a],gq Z.2.2.2.2 P)))]) by unfold gV; rw[wY]]at this;have DV:Z.2.2.1=(row.length:Int):=by rw[<- wY]; exact QK
   have afE:Z=(true,(Z.2.1,((row.length:Int),Z.2.2.2))):=by
    rw[<- DV,<- l6]
   have JD:tC N (true,(Z.2.1,((row.length:Int),Z.2.2.2))) Z.2.1 P=some ((true,Z.2.1,Z.2.2.1,Z.2.2.2.1,gq Z.2.2.2.2 P),0):=by
    rw[<- afE];exact jF
   rw[DV]at JD uw this QL;rw[wY]at fj;simp only at QL;simp only[aG,Int.reduceEq,Int.reduceLT,Int.reduceLE,reduceCtorEq,br,bB aj,List.length_singleton];refine⟨by(repeat' apply And.intro)<;>first | omega | (simp only[bF]; omega) | exact this | rfl | trivial,by(repeat' apply And.intro)<;>first | omega | (simp only[bF]; omega) | exact this | rfl | trivial,fun e=>?_,fun e=>?_⟩
   ·have ez:¬ i=0:=by omega
    rw[if_neg ez]at nD dO;subst nD dO;simp only[DV,l6,bu JD,aG,Int.reduceEq,Int.reduceLT,Int.reduceLE,reduceCtorEq,DJ,bu uw,bu (QI N _),ug aH,bu (JB N (gq Z.2.2.2.2 [(fI,(true,(0:Int)))]) (by omega)),qr,oz bX,r5,List.nil_append,List.length_nil,List.length_singleton]
    (repeat' apply And.intro)<;>first | omega | (simp only[bF]; omega) | exact this | rfl | trivial
   ·have ez:i=0:=by omega
    rw[if_pos ez]at nD dO;subst nD dO;simp only[DV,l6,bu JD,aG,Int.reduceEq,Int.reduceLT,Int.reduceLE,reduceCtorEq,DJ,bu uw,bu (QI N _),ug aH,bu (JB N (gq Z.2.2.2.2 []) (by omega)),qr,oz bX,r5,List.nil_append,List.length_nil,List.length_singleton]
    (repeat' apply And.intro)<;>first | omega | (simp only[bF]; omega) | exact this | rfl | trivial
  ·have br:¬ (i:Int) < (bH.1.length:Int):=by omega
   simp only[aG,Int.reduceEq,Int.reduceLT,Int.reduceLE,reduceCtorEq,br];obtain rfl:i=w:=by omega
   exact⟨t,Z,fI,rfl,aJ⟩
 unfold r0;simp only[aG,Int.reduceEq,Int.reduceLT,Int.reduceLE,reduceCtorEq,bu (QG aT h ja nO (by omega)),ug aH,JA,bB ck,gH,bu (Aa (N:=N) bH.2.2.1.1 (by omega) (by omega) (by omega)),show ¬ ((y:Int)+1 < 1) by omega,show ¬ (6 < (y:Int)+1) by omega];refine⟨by(repeat' apply And.intro)<;>first | omega | (simp only[bF]; omega) | exact this | rfl | trivial,fun e=>?_,fun _=>?_⟩
 ·rw[dR]at e
  cases e
 ·refine⟨by(repeat' apply And.intro)<;>first | omega | (simp only[bF]; omega) | exact this | rfl | trivial,fun e=>by omega,fun _=>?_⟩
  simp only[mD,h.H,h.X,h.F,bu (QH N ids (by omega)),bu (afw N [] (by simp)),bu (afx bH.2.2.1.1 aT (fm.Jm (by omega)) y w aH (by omega))];rw[gH]at dJ;refine dJ.mono ?_;rintro q ⟨t,Z,fI,rfl,aJ⟩;have ae:qH N bH 0 t [] ids [] fI.1 fI.2=some (t,[],[],[fI]):=by
   unfold qH;rw[h.F,show((fI.1,fI.2):aB)=fI from rfl,afy aT fI]
   rfl
  simp only[aG,Int.reduceEq,Int.reduceLT,Int.reduceLE,reduceCtorEq,I9,bu ae];exact⟨t,Z,fI,rfl,aJ⟩

def qQ(p:List (List aN)) (j k:Nat):aB:=
 if j=0 then(jw (p.getD 0 []),(k:Int))else(((p.getD (j - 1) []).getD k bN.zero).2.1,(DA p (j - 1) k:Int))
def sd(j:Nat):Int:=if j % 2=0 then 0 else 1
structure qR(p:List (List aN)) (w:Nat) (j:Nat) (bH:eV) (ids:List aB):Prop where
 m9:wS bH w ids (192 * j)
 dir:bH.2.2.2=sd j
 all:cl bH.2.2.1.1=w * (j+1)
 num:∀ z:Nat,z < 6->(bH.2.2.1.1.getD z []).length=(if (z:Int)+1=jw (p.getD 0 [])then w else 0)+mz ((z:Int)+1) (p.take j)
 afF:∀ k:Nat,k < w->ids[k]?=some (qQ p j k)
 gv:∀ i k:Nat,i < j->k < w->∃ l:aQ,eg bH.2.2.1.1 (qQ p (i+1) k)=some l/\l.1=hN ((p.getD i []).getD k bN.zero)/\l.2.2.1=[qQ p i k]
 used:0 < j->∀ x∈p.getD (j - 1) [],∃ Y:bL,bH.2.1[(x.2.1 - 1).toNat]?=some Y/\Y.1=true/\Y.2.1=lG (sd (j - 1))
 ak:bH.1=im (if j=0 then List.replicate w 0 else(p.getD (j - 1) []).map hN) ids
theorem QM(r:List aN) (h:1<=r.length):∃ x∈r,x.2.1=jw r:=by
 have key:∀ (l:List aN) (b:Int),(∃ x∈r,x.2.1=b)->(∀ x∈l,x∈r)->∃ x∈r,x.2.1=l.foldl (fun b x=>if x.2.1 < b then x.2.1 else b) b:=by
  intro l
  induction l with
  | nil=>intro b ae _; exact ae
  | cons a l bJ=>
   intro b ae ad;rw[List.foldl_cons];refine bJ _ ?_ fun x ah=>ad x (List.mem_cons_of_mem _ ah)
   split
   ·exact⟨a,ad a List.mem_cons_self,rfl⟩
   ·exact ae
 cases r with
 | nil=>simp at h
 | cons a r=>exact key (a :: r) a.2.1 ⟨a,List.mem_cons_self,rfl⟩ fun _ h=>h
theorem lD.fst{p:List (List aN)} {w:Nat} (h:lD p w) {j:Nat} {r:List aN} (au:p[j]?=some r):1<=jw r/\jw r<=6:=by
 obtain⟨J,U⟩:=h.row au;obtain⟨x,ah,he⟩:=QM r (by have:=h.b0; omega)
 have:=U x ah
 rw[<- he];exact⟨this.2.1,this.2.2.1⟩
theorem afG(j:Nat):lk (sd j)=sd (j+1):=by
 unfold lk sd
 by_cases h:j % 2=0
 ·rw[if_pos h,if_pos rfl,if_neg (by omega)]
 ·rw[if_neg h,if_neg (by omega),if_pos (by omega)]
theorem qR.start{N:Nat} (aT:5000 < N) {p:List (List aN)} {w:Nat} (h:lD p w) {ek:List aN} (jJ:p[0]?=some ek):∃ bH,wk N (jw ek) (w:Int)=some (bH,0)/\qR p w 0 bH (kr (jw ek - 1).toNat w):=by
 have az:=h.fst jJ;obtain⟨y,aH⟩:∃ y:Nat,jw ek=(y:Int)+1:=⟨(jw ek - 1).toNat,by omega⟩
 have iU:(jw ek - 1).toNat=y:=by omega
 rw[iU];have ez:p.getD 0 []=ek:=bB jJ;obtain⟨q,ao,bH,rfl,hw,ax,a6,aS,aj⟩:=afb aT (show y < 6 by omega) h.b0 h.pw;refine⟨bH,by rw[aH]; exact ao,⟨hw,ax,by rw[aS]; omega,fun z bk=>?_,fun k ab=>?_,fun i k hi=>(by omega),fun h=>(by omega),aj⟩⟩
 ·rw[a6,ez,aH]
  have aa:mz ((z:Int)+1) (p.take 0)=0:=rfl;rw[aa]
  by_cases e:z=y
  ·rw[if_pos e,if_pos (by omega)]
   rfl
  ·rw[if_neg e,if_neg (by omega)]
 ·unfold qQ kr
  rw[if_pos rfl,ez,aH,List.getElem?_map,List.getElem?_range ab]
  rfl
theorem qR.next{N:Nat} (aT:5000 < N) {p:List (List aN)} {w:Nat} (h:lD p w) (QN:p.length<=20) {j:Nat} {r:List aN} (au:p[j]?=some r) {bH:eV} {ids:List aB} (hY:qR p w j bH ids):∃ lg,qC N bH r=some (lg,0)/\∃ jd,qR p w (j+1) lg jd:=by
 obtain⟨QO,di⟩:=h.row au;have aF:=(List.getElem?_eq_some_iff.1 au).1;have nO:=h.pw;have ja:=h.b0;have hS:=hY.all;have hmul:w * (j+1)<=16 * 20:=Nat.mul_le_mul nO (by omega);have Am:p.getD j []=r:=bB au;obtain⟨ek,jJ⟩:∃ ek,p[0]?=some ek:=⟨_,List.getElem?_eq_getElem (by omega)⟩
 have ez:p.getD 0 []=ek:=bB jJ;have afH:=(h.row jJ).1;obtain⟨q,ao,lg,jd,rfl,oN,dY,dO,aJ⟩:=ae8 aT hY.m9 QO ja nO di (by omega) (by omega);have kH:∀ k,k < w->jd[k]?=some (qQ p (j+1) k)/\∃ l:aQ,eg lg.2.2.1.1 (qQ p (j+1) k)=some l/\l.1=hN (r.getD k bN.zero)/\l.2.2.1=[qQ p j k]:=by
  intro k ab;obtain⟨x,ah⟩:∃ x,r[k]?=some x:=⟨_,List.getElem?_eq_getElem (by omega)⟩
  have tK:r.getD k bN.zero=x:=bB ah;have oB:=di x (List.mem_of_getElem? ah);have J:=oB.2.1;have aK:=oB.2.2.1;obtain⟨o5,l,qa,FF⟩:=dO.new k x _ ah (hY.afF k ab) (by omega);have mD:qQ p (j+1) k=(x.2.1,(((bH.2.2.1.1.getD (x.2.1 - 1).toNat []).length+qL bH.2.2.2 x.2.1 r k:Nat):Int)):=by
   unfold qQ;rw[if_neg (by omega),Nat.add_sub_cancel,Am,tK]
   congr 2
   have r7:=hY.num (x.2.1 - 1).toNat (by omega);rw[show(((x.2.1 - 1).toNat:Nat):Int)+1=x.2.1 by omega]at r7;rw[r7];unfold DA qL;rw[Am,tK,ez,afH,hY.dir];unfold sd
   by_cases an:j % 2=0
   ·rw[if_pos an,if_pos an,if_pos rfl]
   ·rw[if_neg an,if_neg an,if_neg (show ¬ (1:Int)=0 by decide)]
  rw[mD,tK];exact⟨o5,l,qa,FF⟩
 refine⟨lg,ao,jd,⟨?_,by rw[dY,hY.dir,afG],by rw[dO.all,hS,ae5 di,QO]; exact(Nat.mul_succ w (j+1)).symm,fun z bk=>?_,fun k ab=>?_,fun i k hi ab=>?_,fun _ x ah=>?_,?_⟩⟩
 ·rw[show 192 * (j+1)=192 * j+192 by omega]
  exact oN
 ·rw[dO.num z bk,if_pos bk,hY.num z bk,PO au]
  omega
 ·exact(kH k ab).1
 ·by_cases e:i=j
  ·subst e
   rw[Am];exact(kH k ab).2
  ·obtain⟨l,J,U⟩:=hY.gv i k (by omega) ab
   exact⟨l,dO.ext _ l J,U⟩
 ·rw[Nat.add_sub_cancel,Am]at ah
  have:=di x ah
  rw[Nat.add_sub_cancel,<- hY.dir];exact dO.used x ah (by have:=this.2.2.1; omega)
 ·rw[aJ,if_neg (by omega),Nat.add_sub_cancel,Am]
theorem afI{N:Nat} (aT:5000 < N) {p:List (List aN)} {w:Nat} (h:lD p w) (QN:p.length<=20):∃ bH ids t Z fI,r1 N p=some ((t,([],([],[fI]))),0)/\qR p w p.length bH ids/\uj bH.2.2.1.1 ids (jw (p.getD (p.length - 1) []) - 1).toNat (192 * p.length+1) w t Z fI:=by
 have wM:=h.ox;have ja:=h.b0;have nO:=h.pw;obtain⟨ek,jJ⟩:∃ ek,p[0]?=some ek:=⟨_,List.getElem?_eq_getElem (by omega)⟩
 obtain⟨jK,iO⟩:∃ jK,p[p.length - 1]?=some jK:=⟨_,List.getElem?_eq_getElem (by omega)⟩
 have el:p.getD (p.length - 1) []=jK:=bB iO;obtain⟨c,aa,na⟩:=qR.start aT h jJ;have QP:=na.all;obtain⟨ρ,fm⟩:=na.m9.st.tok;have ahN:c.1.length=w:=by
  obtain⟨fv,fE,gm,_⟩:=na.m9.fv;rw[gm,wR fE,na.m9.Ak]
 have J:=QG aT na.m9 ja nO (by rw[QP]; omega);have U:wx N c=some c:=by
  refine adR (by omega) c (by omega) (fun s aj=>?_) (by rw[na.m9.st.oD]; omega) (fun Y ck=>?_) (by rw[na.m9.X]; simp) (by rw[na.m9.H,na.m9.Ak]; omega) (by rw[na.m9.F]; simp) (Qc c.2.2.1.1 aT (fm.Jm (by rw[QP]; omega))) (I9 _)
  ·obtain⟨fv,fE,gm,_⟩:=na.m9.fv
   obtain⟨k,ab⟩:=List.getElem?_of_mem aj;rw[gm]at ab;obtain⟨b,a,_,_,rfl⟩:=DP ab
   simp
  ·obtain⟨k,ab⟩:=List.getElem?_of_mem ck
   have:=(na.m9.st.jM k Y ab).v.gd
   omega
 obtain⟨bH,ag,ids,hY⟩:=adQ (N:=N) (by omega) (fun j bH=>∃ ids,qR p w j bH ids) (by omega) J U ⟨_,na⟩ fun i r bH au ⟨ids,hY⟩=>qR.next aT h QN au hY
 obtain⟨x,ah,afJ⟩:=QM jK (by have:=(h.row iO).1; omega);have cS:=h.fst iO;obtain⟨Y,ck,qM,DN⟩:=hY.used (by omega) x (by rw[el]; exact ah);rw[afJ]at ck;have ax:sd (p.length - 1)=0:=by unfold sd; rw[if_pos (by omega)]
 rw[ax]at DN;have hS:=hY.all;have hmul:w * (p.length+1)<=16 * 21:=Nat.mul_le_mul nO (by omega);obtain⟨y,aH⟩:∃ y:Nat,jw jK=(y:Int)+1:=⟨(jw jK - 1).toNat,by omega⟩
 have iU:(jw jK - 1).toNat=y:=by omega
 rw[iU]at ck;obtain⟨q,ao,t,Z,fI,rfl,cH⟩:=afA aT hY.m9 ja nO (by omega) (by omega) (show y < 6 by omega) ck qM DN;refine⟨bH,ids,t,Z,fI,?_,hY,by rw[el,iU]; exact cH⟩;exact adP (by omega) h jJ iO aa ag (by rw[aH]; exact ao)

def fX(x:aN):Nat:=if x.1=3 then 0 else if x.1=4\/x.1=5 then 2 else if x.1=8 then(x.2.2.1+x.2.2.2.1).toNat else 1
def h6(x:aN):Nat:=if x.1=8 then(x.2.2.1+x.2.2.2.1).toNat else 1
structure qS(x:aN):Prop where
 jk:1<=x.1
 ahO:x.1<=8
 lP:1<=x.2.1
 afK:x.2.1<=6
 pl:x.1≠8->x.2.2=(0,0,false)
 DW:x.1=8->1<=x.2.2.1/\1<=x.2.2.2.1/\x.2.2.1+x.2.2.2.1<=4
theorem qS.JE{x:aN} (h:qS x):fX x<=4:=by
 unfold fX
 have:=h.DW
 split
 ·omega
 ·split
  ·omega
  ·split
   ·have:=this ‹_›
    omega
   ·omega
theorem qS.JF{x:aN} (h:qS x):1<=h6 x/\h6 x<=4:=by
 unfold h6
 have:=h.DW
 split
 ·have:=this ‹_›
  omega
 ·omega
theorem afL(N:Nat) (x:aN):T (mx N x) fun e=>(e=0/\qS x)\/e=1:=by
 obtain⟨k,y,A,B,F⟩:=x;unfold mx;simp only[aG,Int.reduceEq,Int.reduceLT,Int.reduceLE,reduceCtorEq];refine fun h=>⟨fun c3 U=>?_,fun c3=>⟨fun ag=>by omega,fun ag=>?_⟩⟩
 ·refine⟨by show 1<=k; omega,by show k<=8; omega,by show 1<=y; omega,by show y<=6; omega,fun _=>?_,fun e=>absurd e c3⟩
  show(A,B,F)=_;rw[U.1.1,U.1.2,U.2]
 ·refine⟨by show 1<=k; omega,by show k<=8; omega,by show 1<=y; omega,by show y<=6; omega,fun e=>absurd c3 e,fun _=>?_⟩
  show 1<=A/\1<=B/\A+B<=4;omega
theorem JG{N:Nat} {x:aN} (h0:mx N x=some 0) (h:qS x):qs N x=some (fX x:Int):=by
 obtain⟨k,y,A,B,F⟩:=x;have An:=h.DW;unfold qs
 apply T.eq
 simp only[aG,Int.reduceEq,Int.reduceLT,Int.reduceLE,reduceCtorEq,bu h0];unfold fX;simp only at An ⊢;refine⟨fun e=>by simp[e],fun cq=>⟨fun ep=>⟨fun _=>by simp[ep],fun e=>absurd ep e⟩,fun ep=>⟨fun gh=>by simp[gh],fun gh=>⟨fun qT=>?_,fun qT=>by simp[cq,ep,gh,qT]⟩⟩⟩⟩
 have:=An qT
 rw[if_neg cq,if_neg (fun h=>h.elim ep gh),if_pos qT];omega
theorem QQ{N:Nat} {x:aN} (h0:mx N x=some 0) (h:qS x):rP N x=some (h6 x:Int):=by
 obtain⟨k,y,A,B,F⟩:=x;have An:=h.DW;unfold rP
 apply T.eq
 simp only[aG,Int.reduceEq,Int.reduceLT,Int.reduceLE,reduceCtorEq,bu h0];unfold h6;simp only at An ⊢;refine⟨fun qT=>?_,fun qT=>by simp[qT]⟩
 have:=An qT
 rw[if_pos qT];omega
theorem afM{N:Nat} {r:Nat} (aT:5000 < N) (au:r<=100):T (CW N (r:Int) N ((0:Int),(List.replicate r (0:Int)))) fun o=>o.length=r:=by
 unfold CW;refine eI (fun k d=>∃ j:Nat,j+k=r/\d.1=(j:Int)/\d.2.length=r) _ ?_ N r _ (by omega) ⟨0,by omega,rfl,by simp⟩;rintro k ⟨i,l⟩ rec ⟨j,aF,J,U⟩ bm;dsimp only at J U;subst J
 by_cases aL:j < r
 ·have this:=bm (k - 1) (((j:Int)+1),l.set j 1) (by omega) ⟨j+1,by omega,rfl,by simpa using U⟩
  simp only[aG,Int.reduceEq,Int.reduceLT,Int.reduceLE,reduceCtorEq,List.length_replicate,show(j:Int) < (r:Int) by omega]
  (repeat' apply And.intro)<;>first | omega | (simp only[bF]; omega) | exact this | rfl | trivial
 ·simp only[aG,Int.reduceEq,Int.reduceLT,Int.reduceLE,reduceCtorEq,List.length_replicate,show ¬ (j:Int) < (r:Int) by omega]
  exact U
theorem afN{N:Nat} (aT:5000 < N) {x:aN} (h0:mx N x=some 0) (h:qS x) {s:List Int} (aj:s.length=fX x):T (tI N x s) fun r=>r.2=0->r.1.length=h6 x:=by
 have JH:=h.JE;have uw:=h.JF;have ag:T (CV N s N (0:Int)) fun o=>(o=.inl ()/\∀ a∈s,1<=a/\a<=3)\/o=.inr ([],1):=by
  unfold CV;refine eI (fun k d=>∃ j:Nat,j+k=s.length/\d=(j:Int)/\∀ a∈s.take j,1<=a/\a<=3) _ ?_ N s.length _ (by omega) ⟨0,by omega,rfl,by simp⟩;rintro k d rec ⟨j,aF,rfl,hS⟩ bm
  by_cases aL:j < s.length
  ·obtain⟨a,aS⟩:∃ a,s[j]?=some a:=⟨_,List.getElem?_eq_getElem aL⟩
   simp only[aG,Int.reduceEq,Int.reduceLT,Int.reduceLE,reduceCtorEq,show(j:Int) < (s.length:Int) by omega,bB aS];refine⟨by(repeat' apply And.intro)<;>first | omega | (simp only[bF]; omega) | exact this | rfl | trivial,fun e=>⟨by(repeat' apply And.intro)<;>first | omega | (simp only[bF]; omega) | exact this | rfl | trivial,bm (k - 1) _ (by omega) ⟨j+1,by omega,rfl,fun b ae=>?_⟩⟩⟩;rw[List.take_succ_eq_append_getElem aL,(List.getElem?_eq_some_iff.1 aS).2]at ae
   rcases List.mem_append.1 ae with ae | ae
   ·exact hS b ae
   ·rw[List.mem_singleton]at ae
    subst ae;omega
  ·simp only[aG,Int.reduceEq,Int.reduceLT,Int.reduceLE,reduceCtorEq,show ¬ (j:Int) < (s.length:Int) by omega]
   rw[show s.take j=s from List.take_of_length_le (by omega)]at hS
   first | exact hS | exact⟨rfl,hS⟩ | exact Or.inl ⟨rfl,hS⟩
 unfold tI;simp only[aG,Int.reduceEq,Int.reduceLT,Int.reduceLE,reduceCtorEq,bu h0,bu (JG h0 h),aj];refine ag.mono fun o bb=>?_
 rcases bb with⟨rfl,bb⟩ | rfl
 ·simp only[aG,Int.reduceEq,Int.reduceLT,Int.reduceLE,reduceCtorEq,bu (QQ h0 h)]
  have aV:∀ i:Nat,0<=s.getD i 0/\s.getD i 0<=3:=fun i=>by
   by_cases hi:i < s.length
   ·have:=bb _ (List.getElem_mem hi)
    rw[List.getD_eq_getElem?_getD,List.getElem?_eq_getElem hi];exact⟨by show 0<=s[i]; omega,this.2⟩
   ·rw[List.getD_eq_getElem?_getD,List.getElem?_eq_none (by omega)]
    exact⟨by decide,by decide⟩
  have Nr:x.1=4->fX x=2:=fun e=>by simp[fX,e]
  have Ns:x.1=5->fX x=2:=fun e=>by simp[fX,e]
  have Nt:x.1=6->fX x=1:=fun e=>by simp[fX,e]
  have ahP:x.1=7->fX x=1:=fun e=>by simp[fX,e]
  have g0:=aV 0;have g1:=aV 1;refine⟨by(repeat' apply And.intro)<;>first | omega | (simp only[bF]; omega) | exact this | rfl | trivial,(afM aT (by omega)).mono fun r au=>?_⟩;simp only[au,List.length_set,Int.toNat_zero,Int.toNat_one,aG,Int.reduceEq,Int.reduceLT,Int.reduceLE,reduceCtorEq];omega
 ·simp only[aG,Int.reduceEq,Int.reduceLT,Int.reduceLE,reduceCtorEq]
def fC(f:aN->Nat) (r:List aN):Nat:=(r.map f).sum
theorem DX{f:aN->Nat} {r:List aN} {j:Nat} {x:aN} (h:r[j]?=some x):fC f (r.take (j+1))=fC f (r.take j)+f x:=by
 obtain⟨J,U⟩:=List.getElem?_eq_some_iff.1 h;unfold fC;rw[List.take_succ_eq_append_getElem J,U,List.map_append,List.sum_append]
 simp
theorem QR{f:aN->Nat} {r:List aN} (h:∀ x∈r,f x<=4):fC f r<=4 * r.length:=by
 induction r with
 | nil=>simp[fC]
 | cons a r bJ=>
  have J:=bJ fun x ah=>h x (List.mem_cons_of_mem _ ah)
  have U:=h a List.mem_cons_self;unfold fC at J ⊢;rw[List.map_cons,List.sum_cons,List.length_cons];omega
def Ao(N:Nat) (r:List aN):Prop:=∀ x∈r,mx N x=some 0/\qS x
theorem JI{N:Nat} (aT:5000 < N) {r:List aN} (au:r.length<=16) (h:Ao N r):ov N r=some (fC fX r:Int):=by
 have dJ:CQ N r N ((0:Int),(0:Int))=some (fC fX r:Int):=by
  unfold CQ;refine eU (fun k d=>∃ j:Nat,j+k=r.length/\d=((fC fX (r.take j):Int),(j:Int))) _ ?_ N r.length _ (by omega) ⟨0,by omega,rfl⟩;rintro k d rec ⟨j,aF,rfl⟩ bm
  apply T.eq
  by_cases aL:j < r.length
  ·obtain⟨x,ah⟩:∃ x,r[j]?=some x:=⟨_,List.getElem?_eq_getElem aL⟩
   have lj:=h x (List.mem_of_getElem? ah);have JH:=lj.2.JE;have hle:=QR (f:=fX) (r:=r.take j) fun y aH=>(h y (List.mem_of_mem_take aH)).2.JE
   have fz:(r.take j).length<=16:=by rw[List.length_take]; omega
   have this:T (rec ((fC fX (r.take j):Int)+(fX x:Int),(j:Int)+1)) (·=(fC fX r:Int)):=⟨_,bm (k - 1) _ (by omega) ⟨j+1,by omega,by rw[DX ah]; rfl⟩,rfl⟩
   simp only[aG,Int.reduceEq,Int.reduceLT,Int.reduceLE,reduceCtorEq,show(j:Int) < (r.length:Int) by omega,bB ah,bu (JG lj.1 lj.2)]
   (repeat' apply And.intro)<;>first | omega | (simp only[bF]; omega) | exact this | rfl | trivial
  ·simp only[aG,Int.reduceEq,Int.reduceLT,Int.reduceLE,reduceCtorEq,show ¬ (j:Int) < (r.length:Int) by omega]
   rw[show r.take j=r from List.take_of_length_le (by omega)]
 unfold ov CR;rw[dJ]
 rfl
theorem JJ{N:Nat} (aT:5000 < N) {r:List aN} (au:r.length<=16) (h:Ao N r):qy N r=some (fC h6 r:Int):=by
 have dJ:CS N r N ((0:Int),(0:Int))=some (fC h6 r:Int):=by
  unfold CS;refine eU (fun k d=>∃ j:Nat,j+k=r.length/\d=((fC h6 (r.take j):Int),(j:Int))) _ ?_ N r.length _ (by omega) ⟨0,by omega,rfl⟩;rintro k d rec ⟨j,aF,rfl⟩ bm
  apply T.eq
  by_cases aL:j < r.length
  ·obtain⟨x,ah⟩:∃ x,r[j]?=some x:=⟨_,List.getElem?_eq_getElem aL⟩
   have lj:=h x (List.mem_of_getElem? ah);have JH:=lj.2.JF;have hle:=QR (f:=h6) (r:=r.take j) fun y aH=>(h y (List.mem_of_mem_take aH)).2.JF.2
   have fz:(r.take j).length<=16:=by rw[List.length_take]; omega
   have this:T (rec ((fC h6 (r.take j):Int)+(h6 x:Int),(j:Int)+1)) (·=(fC h6 r:Int)):=⟨_,bm (k - 1) _ (by omega) ⟨j+1,by omega,by rw[DX ah]; rfl⟩,rfl⟩
   simp only[aG,Int.reduceEq,Int.reduceLT,Int.reduceLE,reduceCtorEq,show(j:Int) < (r.length:Int) by omega,bB ah,bu (QQ lj.1 lj.2)]
   (repeat' apply And.intro)<;>first | omega | (simp only[bF]; omega) | exact this | rfl | trivial
  ·simp only[aG,Int.reduceEq,Int.reduceLT,Int.reduceLE,reduceCtorEq,show ¬ (j:Int) < (r.length:Int) by omega]
   rw[show r.take j=r from List.take_of_length_le (by omega)]
 unfold qy CT;rw[dJ]
 rfl
structure wZ(N:Nat) (r:List aN):Prop where
 afO:1<=r.length
 uk:r.length<=16
 v:Ao N r
 nw:1<=fC fX r
 afP:fC fX r<=16
 QS:fC h6 r<=16
theorem afQ{N:Nat} (aT:5000 < N) (r:List aN):T (tG N r) fun e=>e=0->wZ N r:=by
 unfold tG;simp only[aG,Int.reduceEq,Int.reduceLT,Int.reduceLE,reduceCtorEq];refine fun kn J=>T.mono (P:=fun o=>(o=.inl ()/\Ao N r)\/o=.inr 1) ?_ ?_
 ·unfold H4
  refine eI (fun k d=>∃ j:Nat,j+k=r.length/\d=(j:Int)/\Ao N (r.take j)) _ ?_ N r.length _ (by omega) ⟨0,by omega,rfl,fun x ah=>by simp at ah⟩;rintro k d rec ⟨j,aF,rfl,aw⟩ bm
  by_cases aL:j < r.length
  ·obtain⟨x,ah⟩:∃ x,r[j]?=some x:=⟨_,List.getElem?_eq_getElem aL⟩
   obtain⟨e,he,px⟩:=afL N x;simp only[aG,Int.reduceEq,Int.reduceLT,Int.reduceLE,reduceCtorEq,show(j:Int) < (r.length:Int) by omega,bB ah,bu he];refine⟨by(repeat' apply And.intro)<;>first | omega | (simp only[bF]; omega) | exact this | rfl | trivial,fun h0=>⟨by(repeat' apply And.intro)<;>first | omega | (simp only[bF]; omega) | exact this | rfl | trivial,bm (k - 1) _ (by omega) ⟨j+1,by omega,rfl,fun y aH=>?_⟩⟩⟩;subst h0;rw[List.take_succ_eq_append_getElem aL,(List.getElem?_eq_some_iff.1 ah).2]at aH
   rcases List.mem_append.1 aH with aH | aH
   ·exact aw y aH
   ·rw[List.mem_singleton]at aH
    subst aH
    rcases px with⟨_,px⟩ | px
    ·exact⟨he,px⟩
    ·cases px
  ·simp only[aG,Int.reduceEq,Int.reduceLT,Int.reduceLE,reduceCtorEq,show ¬ (j:Int) < (r.length:Int) by omega]
   rw[show r.take j=r from List.take_of_length_le (by omega)]at aw
   first | exact aw | exact⟨rfl,aw⟩ | exact Or.inl ⟨rfl,aw⟩
 ·rintro o (⟨rfl,aw⟩ | rfl)
  ·simp only[aG,Int.reduceEq,Int.reduceLT,Int.reduceLE,reduceCtorEq,bu (JI aT (by omega) aw),bu (JJ aT (by omega) aw)]
   intro h;exact⟨by omega,by omega,aw,by omega,by omega,by omega⟩
  ·simp only[aG,Int.reduceEq,Int.reduceLT,Int.reduceLE,reduceCtorEq]

theorem QT{f:aN->Nat} {r:List aN} (j:Nat):fC f (r.take j)<=fC f r:=by
 unfold fC
 conv=>rhs; rw[<- List.take_append_drop j r,List.map_append,List.sum_append]
 omega
structure w0(N:Nat) (p:List (List aN)):Prop where
 gd:p.length<=31
 ox:p.length % 2=1
 rows:∀ r∈p,wZ N r
 link:∀ j r cv,p[j]?=some r->p[j+1]?=some cv->fC fX cv=fC h6 r
theorem afR{N:Nat} (aT:5000 < N) (p:List (List aN)):T (wo N p) fun e=>e=0->w0 N p:=by
 have J:p.length<=31->T (CU N p N (0:Int)) fun o=>(o=.inl ()/\∀ r∈p,wZ N r)\/∃ e:Int,o=.inr e/\e≠0:=by
  intro QU;unfold CU;refine eI (fun k d=>∃ j:Nat,j+k=p.length/\d=(j:Int)/\∀ r∈p.take j,wZ N r) _ ?_ N p.length _ (by omega) ⟨0,by omega,rfl,fun x ah=>by simp at ah⟩;rintro k d rec ⟨j,aF,rfl,aw⟩ bm
  by_cases aL:j < p.length
  ·obtain⟨x,ah⟩:∃ x,p[j]?=some x:=⟨_,List.getElem?_eq_getElem aL⟩
   obtain⟨e,he,px⟩:=afQ aT x;simp only[aG,Int.reduceEq,Int.reduceLT,Int.reduceLE,reduceCtorEq,show(j:Int) < (p.length:Int) by omega,bB ah,bu he];refine⟨by(repeat' apply And.intro)<;>first | omega | (simp only[bF]; omega) | exact this | rfl | trivial,fun h0=>⟨e,rfl,h0⟩,fun h0=>⟨by(repeat' apply And.intro)<;>first | omega | (simp only[bF]; omega) | exact this | rfl | trivial,bm (k - 1) _ (by omega) ⟨j+1,by omega,rfl,fun y aH=>?_⟩⟩⟩;rw[List.take_succ_eq_append_getElem aL,(List.getElem?_eq_some_iff.1 ah).2]at aH
   rcases List.mem_append.1 aH with aH | aH
   ·exact aw y aH
   ·rw[List.mem_singleton]at aH
    subst aH;exact px h0
  ·simp only[aG,Int.reduceEq,Int.reduceLT,Int.reduceLE,reduceCtorEq,show ¬ (j:Int) < (p.length:Int) by omega]
   rw[show p.take j=p from List.take_of_length_le (by omega)]at aw
   first | exact Or.inl aw | exact Or.inl ⟨rfl,aw⟩
 have ag:p.length<=31->p.length % 2=1->(∀ r∈p,wZ N r)->T (zr N p N (1:Int)) fun o=>(o=.inl ()/\∀ j r cv,p[j]?=some r->p[j+1]?=some cv->fC fX cv=fC h6 r)\/∃ e:Int,o=.inr e/\e≠0:=by
  intro QU wM QV;unfold zr;refine eI (fun k d=>∃ j:Nat,j+1+k=p.length/\d=(j:Int)+1/\∀ i r cv,i < j->p[i]?=some r->p[i+1]?=some cv->fC fX cv=fC h6 r) _ ?_ N (p.length - 1) _ (by omega) ⟨0,by omega,rfl,fun i _ _ h=>by omega⟩;rintro k d rec ⟨j,aF,rfl,aw⟩ bm
  by_cases aL:j+1 < p.length
  ·obtain⟨x,ah⟩:∃ x,p[j]?=some x:=⟨_,List.getElem?_eq_getElem (by omega)⟩
   obtain⟨y,aH⟩:∃ x,p[j+1]?=some x:=⟨_,List.getElem?_eq_getElem aL⟩
   have QW:=QV x (List.mem_of_getElem? ah);have QX:=QV y (List.mem_of_getElem? aH);simp only[aG,Int.reduceEq,Int.reduceLT,Int.reduceLE,reduceCtorEq,show(j:Int)+1 < (p.length:Int) by omega,show((j:Int)+1).toNat=j+1 by omega,show((j:Int)+1 - 1).toNat=j by omega,bB ah,bB aH,bu (JI aT QX.uk QX.v),bu (JJ aT QW.uk QW.v)];refine⟨by(repeat' apply And.intro)<;>first | omega | (simp only[bF]; omega) | exact this | rfl | trivial,fun h0=>⟨14,rfl,by decide⟩,fun h0=>⟨by(repeat' apply And.intro)<;>first | omega | (simp only[bF]; omega) | exact this | rfl | trivial,bm (k - 1) _ (by omega) ⟨j+1,by omega,by omega,fun i r cv hi J U=>?_⟩⟩⟩
   by_cases e:i=j
   ·subst e
    rw[ah]at J;rw[aH]at U;cases J;cases U;omega
   ·exact aw i r cv (by omega) J U
  ·simp only[aG,Int.reduceEq,Int.reduceLT,Int.reduceLE,reduceCtorEq,show ¬ (j:Int)+1 < (p.length:Int) by omega]
   have fM:∀ j r cv,p[j]?=some r->p[j+1]?=some cv->fC fX cv=fC h6 r:=fun i r cv J U=>aw i r cv (by have:=(List.getElem?_eq_some_iff.1 U).1; omega) J U
   first | exact Or.inl fM | exact Or.inl ⟨rfl,fM⟩
 unfold wo;simp only[aG,Int.reduceEq,Int.reduceLT,Int.reduceLE,reduceCtorEq];refine fun QU wM=>(J (by omega)).mono ?_
 have QY:p.length % 2=1:=by
  rw[show Int.tmod (p.length:Int) 2=((p.length % 2:Nat):Int)from rfl]at wM;omega
 rintro o (⟨rfl,aw⟩ | ⟨e,rfl,he⟩)
 ·simp only[aG,Int.reduceEq,Int.reduceLT,Int.reduceLE,reduceCtorEq]
  refine(ag (by omega) QY aw).mono ?_;rintro o (⟨rfl,ad⟩ | ⟨e,rfl,he⟩)
  ·simp only[aG,Int.reduceEq,Int.reduceLT,Int.reduceLE,reduceCtorEq]
   exact⟨by omega,QY,aw,ad⟩
  ·simp only[aG,Int.reduceEq,Int.reduceLT,Int.reduceLE,reduceCtorEq]
   exact fun ez=>absurd ez he
 ·simp only[aG,Int.reduceEq,Int.reduceLT,Int.reduceLE,reduceCtorEq]
  exact fun ez=>absurd ez he
theorem afS{N:Nat} {r:Nat} (aT:5000 < N) (au:r<=100):T (CX N (r:Int) N ((0:Int),(List.replicate r (0:Int)))) fun o=>o.length=r:=by
 unfold CX;refine eI (fun k d=>∃ j:Nat,j+k=r/\d.1=(j:Int)/\d.2.length=r) _ ?_ N r _ (by omega) ⟨0,by omega,rfl,by simp⟩;rintro k ⟨i,l⟩ rec ⟨j,aF,J,U⟩ bm;dsimp only at J U;subst J
 by_cases aL:j < r
 ·have this:=bm (k - 1) (((j:Int)+1),l.set j 1) (by omega) ⟨j+1,by omega,rfl,by simpa using U⟩
  simp only[aG,Int.reduceEq,Int.reduceLT,Int.reduceLE,reduceCtorEq,List.length_replicate,show(j:Int) < (r:Int) by omega]
  (repeat' apply And.intro)<;>first | omega | (simp only[bF]; omega) | exact this | rfl | trivial
 ·simp only[aG,Int.reduceEq,Int.reduceLT,Int.reduceLE,reduceCtorEq,List.length_replicate,show ¬ (j:Int) < (r:Int) by omega]
  exact U
theorem afT{N:Nat} (aT:5000 < N) {p:List (List aN)} {y:Nat} {r:List aN} (au:p[y]?=some r) (g:wZ N r) (v:List (List Int)) {b:List Int} (ae:b.length=fC fX r) :
  T (CY N p (y:Int) v N (b,(0:Int),([]:List Int))) fun o=>(∃ l,o=.inl l/\l.length=fC h6 r)\/∃ e:Int,o=.inr (e,v)/\e≠0:=by
 have ahQ:=g.uk;have afU:=g.QS;unfold CY;refine eI (fun k d=>∃ j:Nat,j+k=r.length/\d.2.1=(j:Int)/\d.1.length+fC fX (r.take j)=fC fX r/\d.2.2.length=fC h6 (r.take j)) _ ?_ N r.length _ (by omega) ⟨0,by omega,rfl,by simp[fC,ae],by simp[fC]⟩;rintro k ⟨b,i,l⟩ rec ⟨j,aF,J,U,ag⟩ bm;dsimp only at J U ag;subst J
 by_cases aL:j < r.length
 ·obtain⟨x,ah⟩:∃ x,r[j]?=some x:=⟨_,List.getElem?_eq_getElem aL⟩
  have lj:=g.v x (List.mem_of_getElem? ah);have t1:=DX (f:=fX) ah;have t2:=DX (f:=h6) ah;have t3:=QT (f:=fX) (r:=r) (j+1);have t4:=QT (f:=h6) (r:=r) (j+1);simp only[aG,Int.reduceEq,Int.reduceLT,Int.reduceLE,reduceCtorEq,bB au,show(j:Int) < (r.length:Int) by omega,bB ah,bu (JG lj.1 lj.2)];refine⟨by(repeat' apply And.intro)<;>first | omega | (simp only[bF]; omega) | exact this | rfl | trivial,by omega,(afN aT lj.1 lj.2 (s:=b.take (fX x)) (by rw[List.length_take]; omega)).mono fun q ao=>⟨fun h0=>Or.inr ⟨q.2,rfl,h0⟩,fun h0=>?_⟩⟩;have ao:=ao h0;refine⟨by omega,by omega,by omega,bm (k - 1) (b.drop (fX x),(j:Int)+1,l++q.1) (by omega) ⟨j+1,by omega,rfl,?_,?_⟩⟩
  ·dsimp only
   rw[List.length_drop];omega
  ·dsimp only
   rw[List.length_append];omega
 ·simp only[aG,Int.reduceEq,Int.reduceLT,Int.reduceLE,reduceCtorEq,bB au,show ¬ (j:Int) < (r.length:Int) by omega]
  rw[show r.take j=r from List.take_of_length_le (by omega)]at ag;exact Or.inl ⟨l,rfl,ag⟩
theorem afV{N:Nat} (aT:5000 < N) (p:List (List aN)):T (wq N p) fun q=>q.2=0->w0 N p:=by
 unfold wq;simp only[aG,Int.reduceEq,Int.reduceLT,Int.reduceLE,reduceCtorEq];refine(afR aT p).mono fun e he=>⟨fun h0=>fun J=>absurd J h0,fun h0=>?_⟩
 have g:=he h0;have zY:=g.gd;have wM:=g.ox;obtain⟨ek,jJ⟩:∃ x,p[0]?=some x:=⟨_,List.getElem?_eq_getElem (by omega)⟩
 have g0:=g.rows ek (List.mem_of_getElem? jJ);have kn:=g0.afP;simp only[Int.toNat_zero,Int.toNat_one,bB jJ,aG,Int.reduceEq,Int.reduceLT,Int.reduceLE,reduceCtorEq,bu (JI aT g0.uk g0.v)];refine⟨by omega,by omega,(afS aT (by omega)).mono fun f az=>⟨by omega,by simp,?_⟩⟩;refine T.mono (P:=fun _=>True) ?_ fun o _=>⟨fun J U=>absurd U J,fun _=>g⟩
 unfold H5;refine eI (fun k d=>∃ j:Nat,j+k=p.length/\d.1=(j:Int)/\d.2.length=j+1/\∀ r,p[j]?=some r->(d.2.getD j []).length=fC fX r) _ ?_ N p.length _ (by omega) ⟨0,by omega,rfl,by simp,fun r au=>?_⟩
 ·rintro k ⟨i,l⟩ rec ⟨j,aF,J,U,ag⟩ bm
  dsimp only at J U ag;subst J
  by_cases aL:j < p.length
  ·obtain⟨r,au⟩:∃ x,p[j]?=some x:=⟨_,List.getElem?_eq_getElem aL⟩
   have DY:=g.rows r (List.mem_of_getElem? au);have afU:=DY.QS;simp only[aG,Int.reduceEq,Int.reduceLT,Int.reduceLE,reduceCtorEq,show(j:Int) < (p.length:Int) by omega,bB au,bu (JJ aT DY.uk DY.v)];refine⟨by omega,by omega,by omega,(afT aT au DY l (ag r au)).mono ?_⟩;rintro o (⟨b,rfl,ae⟩ | ⟨e,rfl,he⟩)
   ·simp only[aG,Int.reduceEq,Int.reduceLT,Int.reduceLE,reduceCtorEq]
    refine⟨by simp; omega,by omega,bm (k - 1) ((j:Int)+1,l++[b]) (by omega) ⟨j+1,by omega,rfl,by simp[U],fun cv hR=>?_⟩⟩;dsimp only;rw[List.getD_eq_getElem?_getD,List.getElem?_append_right (by omega),U,Nat.sub_self];show b.length=_;rw[ae,g.link j r cv au hR]
   ·simp only[aG,Int.reduceEq,Int.reduceLT,Int.reduceLE,reduceCtorEq]
  ·simp only[aG,Int.reduceEq,Int.reduceLT,Int.reduceLE,reduceCtorEq,show ¬ (j:Int) < (p.length:Int) by omega]
 ·rw[jJ]at au
  cases au;exact az
theorem afW{N:Nat} (aT:5000 < N) (p:List (List aN)):T (qz N p) fun e=>e=0->w0 N p:=by
 unfold qz;simp only[aG,Int.reduceEq,Int.reduceLT,Int.reduceLE,reduceCtorEq];exact afV aT p

def pD(l:List (List aN)):Nat->List (Int×List aN×Unit)
 | 0=>[]
 | j+1=>((j:Int),l.getD j [],()) :: pD l j
theorem QZ{N:Nat} (l:List (List aN)) (ad:l.length<=300):∀ (j n:Nat),j < n->j<=l.length->Ib N true l n ((j:Int) - 1)=some (pD l j)
 | 0,n+1,_,_=>rfl
 | j+1,n+1,a6,aF=>by
  have bJ:=QZ (N:=N) l ad j n (by omega) (by omega);have aC:((j+1:Nat):Int) - 1=(j:Int):=by omega
  rw[aC];refine Eq.trans (b:=cond (decide ((0:Int)<=(j:Int))) (ar ((aR (j:Int) l.length)&&(true))<|we true ((j:Int),(l.getD (j:Int).toNat []),()) (some []) (ar ((bl ((j:Int) - (1:Int)))&&(true))<|Ib N true l n ((j:Int) - (1:Int)))) (some [])) rfl ?_;rw[show decide ((0:Int)<=(j:Int))=true from decide_eq_true (by omega),cond_true,da (by rw[hM (by omega)]; rfl),da (by rw[gE (by omega) (by omega)]; rfl),bJ,Int.toNat_natCast]
  rfl
theorem afX{N:Nat} (aT:300 < N) (l:List (List aN)) (ad:l.length<=300):C4 N true l=some (pD l l.length):=by
 unfold C4;rw[da (by rw[gE (by omega) (by omega)]; rfl)];exact QZ l ad _ _ (by omega) (Nat.le_refl _)
theorem JK{N:Nat} (c:Int) (b:Bool) (l:List Int) (h:l.length<=1000):tL N c b l=some (true,l++[c]):=by
 unfold tL Ii;rw[Option.bind_some,da (by simp[ee]; omega)]
def jN(x:aN):Int:=if x.1=2 then 96+x.2.1 else 48+x.2.1
theorem afY{x:aN} (h:hI x) (e:x.1=2):IntKind.wrap .u8 ((IntKind.wrap .u8 ((97:Int)+x.2.1)) - (1:Int))=jN x:=by
 obtain⟨J,U,ag,ay⟩:=h;have aC:IntKind.wrap .u8 ((97:Int)+x.2.1)=97+x.2.1:=ua (by omega) (by omega);rw[aC,ua (by omega) (by omega),jN,if_pos e];omega
theorem afZ{x:aN} (h:hI x) (e:¬ x.1=2):IntKind.wrap .u8 ((48:Int)+x.2.1)=jN x:=by
 obtain⟨J,U,ag,ay⟩:=h;rw[ua (by omega) (by omega),jN,if_neg e]
theorem af0{N:Nat} (aT:300 < N) (i:Int) (r:List aN) (hw:r.length<=16) (aj:∀ x∈r,hI x) (buf:List Int) (ae:buf.length<=800) (b:Bool) :
  ∃ b',zt N (i,r,()) N ((0:Int),buf,b)=some (buf++r.map jN,b'):=by
 obtain⟨q,ao,Ap⟩:∃ q,zt N (i,r,()) N ((0:Int),buf,b)=some q/\q.1=buf++r.map jN:=by
  refine v8 (fun k (d:Int×List Int×Bool)=>∃ j:Nat,j+k=r.length/\d.1=(j:Int)/\d.2.1=buf++(r.take j).map jN) (fun(q:List Int×Bool)=>q.1=buf++r.map jN) ?_ N r.length _ (by omega) ⟨0,by omega,rfl,by simp⟩;rintro k ⟨d1,d2,d3⟩ rec ⟨j,aF,aC,a1⟩ bm;dsimp only at aC a1;subst aC;subst a1;dsimp only
  by_cases aL:j < r.length
  ·obtain⟨x,ah⟩:∃ x,r[j]?=some x:=⟨_,List.getElem?_eq_getElem aL⟩
   have mo:=aj x (List.mem_of_getElem? ah);have hlen:(buf++(r.take j).map jN).length<=1000:=by simp; omega
   have pn:(buf++(r.take j).map jN)++[jN x]=buf++(r.take (j+1)).map jN:=by
    rw[List.append_assoc,List.take_add_one,ah]
    simp
   rw[show decide ((j:Int) < (r.length:Int))=true from decide_eq_true (by omega),cond_true,da (by rw[hM aL]; rfl),Int.toNat_natCast,bB ah]
   by_cases e:x.1=2
   ·rw[show decide (x.1=(2:Int))=true from decide_eq_true e,cond_true,afY mo e,JK _ _ _ hlen,Option.bind_some,da (by rw[gE (by omega) (by omega)]; rfl)]
    exact bm (k - 1) _ (by omega) ⟨j+1,by omega,rfl,pn⟩
   ·rw[show decide (x.1=(2:Int))=false from decide_eq_false e,cond_false,afZ mo e,JK _ _ _ hlen,Option.bind_some,da (by rw[gE (by omega) (by omega)]; rfl)]
    exact bm (k - 1) _ (by omega) ⟨j+1,by omega,rfl,pn⟩
  ·rw[show decide ((j:Int) < (r.length:Int))=false from decide_eq_false (by omega),cond_false]
   refine⟨_,rfl,?_⟩;show buf++(r.take j).map jN=_;rw[List.take_of_length_le (by omega)]
 obtain⟨c8,dL⟩:=q;exact⟨dL,ao.trans (by rw[show c8=_ from Ap])⟩
theorem Q0{N:Nat} (aT:300 < N) (K:(List Int)×Bool->Option (List UInt8)):∀ (L:List (Int×List aN×Unit)),(∀ e∈L,e.2.1.length<=16/\∀ x∈e.2.1,hI x)->∀ (buf:List Int) (b:Bool),buf.length+17 * L.length<=800 ->
  ∃ b',l2 (fun(qB:Int×(List aN)×Unit) (zu:(List Int)×Bool) (Ij:(List Int)×Bool->Option (List UInt8))=>Option.bind (zt N qB N ((0:Int),zu.1,zu.2)) fun rU=>Option.bind (tL N (10:Int) rU.2 rU.1) fun gD=>Ij (gD.2,gD.1)) L (buf,b) K=K (buf++L.flatMap (fun e=>e.2.1.map jN++[10]),b')
 | [],_,buf,b,_=>⟨b,by simp[l2]⟩
 | (i,r,u) :: L,h,buf,b,ae=>by
  obtain⟨J,U⟩:=h _ List.mem_cons_self;simp only[List.length_cons]at ae;obtain⟨EW,aC⟩:=af0 aT i r J U buf (by omega) b;have hlen:(buf++r.map jN).length<=1000:=by simp; dsimp only at J; omega
  obtain⟨iM,a1⟩:=Q0 aT K L (fun e he=>h e (List.mem_cons_of_mem _ he)) ((buf++r.map jN)++[10]) true (by simp; dsimp only at J; omega);refine⟨iM,?_⟩;have cq:buf++((i,r,u) :: L).flatMap (fun e=>e.2.1.map jN++[10])=((buf++r.map jN)++[10])++L.flatMap (fun e=>e.2.1.map jN++[10]):=by simp
  rw[cq,<- a1];show Option.bind (zt N (i,r,()) N ((0:Int),buf,b)) _=_;rw[aC,Option.bind_some,JK _ _ _ hlen,Option.bind_some]
theorem Q1(l:List (List aN)):∀ j,(pD l j).length=j
 | 0=>rfl
 | j+1=>by simp[pD,Q1 l j]
theorem JL{l:List (List aN)}:∀ {j:Nat},j<=l.length->∀ e∈pD l j,e.2.1∈l
 | 0,_,_,h=>by cases h
 | j+1,aF,e,h=>by
  rcases List.mem_cons.1 h with rfl | h
  ·show l.getD j []∈l
   rw[List.getD_eq_getElem?_getD,List.getElem?_eq_getElem (by omega)];exact List.getElem_mem _
  ·exact JL (by omega) e h
def se(p:List (List aN)):List Int:=(pD p p.length).flatMap (fun e=>e.2.1.map jN++[10])
theorem af1{p:List (List aN)} {w:Nat} (h:lD p w):∀ z∈se p,0<=z/\z < 128:=fun z bk=>by
 obtain⟨e,he,bk⟩:=List.mem_flatMap.1 bk
 rcases List.mem_append.1 bk with bk | bk
 ·obtain⟨x,ah,rfl⟩:=List.mem_map.1 bk
  obtain⟨J,U,ag,_⟩:=h.st _ (JL (Nat.le_refl _) e he) x ah;unfold jN
  split<;>omega
 ·rw[List.mem_singleton.1 bk]; omega
theorem af2{N:Nat} (aT:300 < N) {p:List (List aN)} {w:Nat} (h:lD p w):tM N p=some (kg (se p)):=by
 have az:=h.gd;have bb:=h.ox;have kn:=h.pw;unfold tM;rw[PM aT h,Option.bind_some,show(!true)=false from rfl,cond_false];show Option.bind (some p) _=_;rw[Option.bind_some,afX aT p (by omega),Option.bind_some];obtain⟨b',e⟩:=Q0 aT (fun zv=>Option.bind (zs zv.2 zv.1) fun qx=>some qx) (pD p p.length) (fun e he=>by
  have:=JL (Nat.le_refl _) e he
  exact⟨by rw[h.wide _ this]; exact kn,h.st _ this⟩) [] false (by rw[Q1]; simp; omega)
 refine Eq.trans e ?_;rw[List.nil_append];have ae:rn (se p)=true:=by
  unfold rn;rw[List.all_eq_true];intro z bk
  have:=af1 h z bk
  simp
  omega
 have cG:(se p).isEmpty=false:=by
  obtain⟨n,a6⟩:∃ n,p.length=n+1:=⟨p.length - 1,by omega⟩
  unfold se;rw[a6]
  simp[pD]
 show Option.bind (zs b' (se p)) _=_;unfold zs;rw[ae,cG]
 rfl

section
set_option linter.unusedSimpArgs false
set_option linter.unusedVariables false
open Go.RowKit
def DZ(N:Nat) (b:Bool) (a0:eC) (cX:List aB) (cz:(List aB)->Option ((List ((List aN)×Unit)))):Nat->(Int×(List aN)×(List aB))->Option ((List ((List aN)×Unit))):=ch fun d2 e5=>
  cond (decide (d2.1 < (cX.length:Int))) (ar ((aR d2.1 cX.length)&&(true)) <|
  Option.bind (zR N a0.1 (cX.getD d2.1.toNat bf.zero)) fun bG=>
  cond (cond (!(decide (bG.2=(0:Int)))) true (!(decide ((bG.1.2.2.1.length:Int)=(1:Int))))) (some []) (ar ((aR d2.1 d2.2.1.length)&&(((decide (d2.1.toNat < d2.2.1.length))&&(true))&&(true))) <|
  cond (decide (bG.1.1=(1:Int))) (ar ((aR d2.1 (d2.2.1.set d2.1.toNat ((1:Int),((cX.getD d2.1.toNat bf.zero).1,((0:Int),((0:Int),false))))).length)&&(((decide (d2.1.toNat < (d2.2.1.set d2.1.toNat ((1:Int),((cX.getD d2.1.toNat bf.zero).1,((0:Int),((0:Int),false))))).length))&&(true))&&(true))) <|
  ar ((aR (0:Int) bG.1.2.2.1.length)&&((ee 16 (d2.2.2.length+[(bG.1.2.2.1.getD (0:Int).toNat bf.zero)].length))&&(true))) <|
  ar ((bl (d2.1+(1:Int)))&&(true)) <|
  e5 ((d2.1+(1:Int)),((d2.2.1.set d2.1.toNat ((1:Int),((cX.getD d2.1.toNat bf.zero).1,((0:Int),((0:Int),false))))).set d2.1.toNat ((2:Int),((d2.2.1.set d2.1.toNat ((1:Int),((cX.getD d2.1.toNat bf.zero).1,((0:Int),((0:Int),false))))).getD d2.1.toNat bN.zero).2)),(d2.2.2++[(bG.1.2.2.1.getD (0:Int).toNat bf.zero)]))) (ar ((aR (0:Int) bG.1.2.2.1.length)&&((ee 16 (d2.2.2.length+[(bG.1.2.2.1.getD (0:Int).toNat bf.zero)].length))&&(true))) <|
  ar ((bl (d2.1+(1:Int)))&&(true)) <|
  e5 ((d2.1+(1:Int)),(d2.2.1.set d2.1.toNat ((1:Int),((cX.getD d2.1.toNat bf.zero).1,((0:Int),((0:Int),false))))),(d2.2.2++[(bG.1.2.2.1.getD (0:Int).toNat bf.zero)]))))) (we b (d2.2.1,()) (some [])
  (cz d2.2.2))
def Q2(N:Nat) (b:Bool) (a0:eC):Nat->(List aB)->Option ((List ((List aN)×Unit))):=ch fun d1 cz=>
  cond (decide ((0:Int) < (d1.length:Int))) (ar (((decide (0<=(d1.length:Int)))&&(decide ((d1.length:Int)<=(d1.length:Int)))&&(eo 32 (d1.length:Int)))&&(true)) <|
  ar (((decide ((0:Int)<=(d1.length:Int)))&&(eo 16 (d1.length:Int)))&&(true)) <|
  DZ N b a0 d1 cz N ((0:Int),(List.replicate (d1.length:Int).toNat (bN.zero:aN)),([]:List aB))) (some [])
def D0(N:Nat) (b:Bool) (a0:eC) (aq:(List aB)):Option (List ((List aN)×Unit)):=
  Q2 N b a0 N aq
noncomputable def af3 (N:Nat):ju bS:=Hz N bU (by kernel_rfl) [.id 900000,.cL fW] [(900000,.cells 39 [.bd bf])] [.c (.bd bN)] [Pr N] [] (.b (.l ⟨[(1,.a (.c (.raw (.ptr 900000 0))))],[(900000,.cells 39 [.bd bf])],[0,2],[]⟩ (.s .d (.b (.s .d (.s .d (.s (.s .d (.b (.l ⟨[(1,.a (.c (.raw (.ptr 900000 0)))),(4,.a (.c (.raw (.ak 15)))),(5,.a (.c (.raw (.ak 18)))),(21,.a (.c (.int .i64)))],[(15,.row 46 bN),(18,.row 30 bf)],[0,2,19,20],[900000]⟩ (.s .d (.s .d (.s (.b (.s (.r [.n 6,.w (.b4 7 bf)]) (.s (.r [.n 10,.w (.b4 8 bT)]) .d))) .d)))))) (.s (.s (.r [.n 2,.w (.dn 15),.y]) .d) (.r [.n 2,.w (.dn 18)]))))))))) 63 (fun b d=>D0 N b d.1 d.2.1) Tryz.func63 rfl rfl Tryz.ntmps63 (fun _=>rfl) rfl rfl (fun id d=>by kernel_rfl)
def JM(N:Nat) (a0:eC) (aq:(List aB)):Option (eC×(List aB)):=
  some (a0,aq)
noncomputable def af4 (N:Nat):bz bS:=b2 N bU (by kernel_rfl) [.c9 fW,.c (.bd bf)] [] ⟨.a (.c (.fn 63 [.id 3,.cL fW])),[(3,.cells 39 [.bd bf])],[]⟩ [] [] (.s (.r [.n 3,.w (.b4 2 fW)]) .d) [.tmp 4] 31 (fW.zero,[]) (fun d=>JM N d.1 d.2.1) Tryz.func31 rfl rfl Tryz.ntmps31 rfl rfl rfl (fun d=>by kernel_rfl)
end

section
set_option linter.unusedSimpArgs false
set_option linter.unusedVariables false
open Go.RowKit
def Q3(N:Nat) (a0:(List aQ)) (aq:(List aQ)):Nat->Int->Option ((Unit)⊕(Bool)):=ch fun d1 cz=>
  cond (decide (d1 < (a0.length:Int))) (ar ((aR d1 a0.length)&&(true)) <|
  ar ((aR d1 aq.length)&&(true)) <|
  Option.bind (Ds N (a0.getD d1.toNat bT.zero) (aq.getD d1.toNat bT.zero)) fun aX=>
  cond (!aX) (some (.inr false)) (ar ((bl (d1+(1:Int)))&&(true)) <|
  cz (d1+(1:Int)))) (some (.inl ()))
def D1(N:Nat) (a0:(List aQ)) (aq:(List aQ)):Option (Bool):=
  cond (!(decide ((a0.length:Int)=(aq.length:Int)))) (some false) (Option.bind (Q3 N a0 aq N (0:Int)) fun(bj:(Unit)⊕(Bool))=>
  sm bj (fun bj=>
  some true) (fun q=>some q))
noncomputable def af5 (N:Nat):bz bS:=b2 N bU (by kernel_rfl) [.c (.bd bT),.c (.bd bT),.c (.fn 66 [])] [] ⟨.a (.c .bool),[],[]⟩ [adm N] [] (.s .d (.s .d (.s (.s .d (.b (.fh 0 ⟨[(17,.a (.c (.int .i64)))],[],[1,2,15,16],[]⟩ ⟨[],[],[],[]⟩ (.s .d (.s .d (.s (.b (.s (.r [.n 6,.w (.b4 8 bT)]) (.s (.r [.n 6,.w (.b4 9 bT)]) .d))) .d)))))) .d))) [.tmp 6] 70 false (fun d=>D1 N d.1 d.2.1) Tryz.func70 rfl rfl Tryz.ntmps70 rfl rfl rfl (fun d=>by kernel_rfl)
def JN(N:Nat) (a0:(List aQ)) (aq:(List aQ)):Option (Bool):=
  Option.bind (D1 N a0 aq) fun aP=>
  some aP
noncomputable def af6 (N:Nat):bz bS:=b2 N bU (by kernel_rfl) [.c (.bd bT),.c (.bd bT),.c (.raw (.ptr 1000000 0))] [(1000000,.cells 143 [.fn 66 []])] ⟨.a (.c .bool),[],[1000000]⟩ [af5 N] [] (.d) [.tmp 5] 69 false (fun d=>JN N d.1 d.2.1) Tryz.func69 rfl rfl Tryz.ntmps69 rfl rfl rfl (fun d=>by kernel_rfl)
def Q4(N:Nat) (a0:(List (List aQ))) (aq:(List (List aQ))):Nat->Int->Option ((Unit)⊕(Bool)):=ch fun d1 cz=>
  cond (decide (d1 < (a0.length:Int))) (ar ((aR d1 a0.length)&&(true)) <|
  ar ((aR d1 aq.length)&&(true)) <|
  Option.bind (JN N (a0.getD d1.toNat []) (aq.getD d1.toNat [])) fun aX=>
  cond (!aX) (some (.inr false)) (ar ((bl (d1+(1:Int)))&&(true)) <|
  cz (d1+(1:Int)))) (some (.inl ()))
def Aq(N:Nat) (a0:(List (List aQ))) (aq:(List (List aQ))):Option (Bool):=
  cond (!(decide ((a0.length:Int)=(aq.length:Int)))) (some false) (Option.bind (Q4 N a0 aq N (0:Int)) fun(bj:(Unit)⊕(Bool))=>
  sm bj (fun bj=>
  some true) (fun q=>some q))
noncomputable def af7 (N:Nat):bz bS:=b2 N bU (by kernel_rfl) [.c (.bd (.ak bT)),.c (.bd (.ak bT)),.c (.fn 69 [.id 1000000])] [(1000000,.cells 143 [.fn 66 []])] ⟨.a (.c .bool),[(1000000,.cells 143 [.fn 66 []])],[]⟩ [af6 N] [] (.s .d (.s .d (.s (.s .d (.b (.fh 0 ⟨[(2,.a (.c (.fn 69 [.id 1000000]))),(17,.a (.c (.int .i64)))],[(1000000,.cells 143 [.fn 66 []])],[1,15,16],[]⟩ ⟨[],[(1000000,.cells 143 [.fn 66 []])],[],[]⟩ (.s .d (.s .d (.s (.b (.s .d (.s .d (.s (.r [.n 3,.c [(1000000,1000000)]]) .d)))) .d)))))) .d))) [.tmp 6] 71 false (fun d=>Aq N d.1 d.2.1) Tryz.func71 rfl rfl Tryz.ntmps71 rfl rfl rfl (fun d=>by kernel_rfl)
def w1(N:Nat) (a0:eC) (aq:eC):Option (Bool):=
  Option.bind (Aq N a0.1 aq.1) fun aP=>
  Option.bind (cond aP (Dr N a0.2.1 aq.2.1) (some false)) fun aX=>
  Option.bind (cond (cond aP aX false) (qG N a0.2.2.1 aq.2.2.1) (some false)) fun bG=>
  Option.bind (cond (cond (cond aP aX false) bG false) (qG N a0.2.2.2 aq.2.2.2) (some false)) fun cf=>
  some (cond (cond (cond aP aX false) bG false) cf false)
noncomputable def Q5 (N:Nat):bz bS:=b2 N bU (by kernel_rfl) [.c9 fW,.c9 fW] [] ⟨.a (.c .bool),[],[]⟩ [af7 N,adl N,IE N] [] (.s (.r [.n 3,.w (.b4 2 fW),.w (.b4 3 fW)]) (.s .d (.s .d (.s (.r [.n 5,.c [(1000000,5)]]) .d)))) [.tmp 4] 35 false (fun d=>w1 N d.1 d.2.1) Tryz.func35 rfl rfl Tryz.ntmps35 rfl rfl rfl (fun d=>by kernel_rfl)
def w3(N:Nat) (a0:eC):Option ((List (List aN))×Int):=
  Option.bind (pv N a0) fun aP=>
  cond (!(decide (aP=(0:Int)))) (some (([]:List (List aN)),aP)) (Option.bind (Dp N a0) fun aX=>
  Option.bind (JM N a0 aX) fun bG=>
  Option.bind (D0 N true bG.1 bG.2) fun af8=>l2 (fun(Ar:(List aN)×Unit) (As:(List (List aN))) (yS:(List (List aN))->Option ((List (List aN))×Int))=>
  ar ((ee 24 (As.length+[Ar.1].length))&&(true)) <|
  yS (As++[Ar.1])) af8 ([]:List (List aN)) fun cx=>
  Option.bind (C3 N cx) fun gR=>
  Option.bind (C0 N gR) fun gb=>
  Option.bind (m3 N gb.1) fun gS=>
  cond (!gS) (some (([]:List (List aN)),(4:Int))) (Option.bind (r1 N gb.1) fun j4=>
  Option.bind (cond (!(!(decide (j4.2=(0:Int))))) (w1 N a0 j4.1) (some false)) fun dh=>
  cond (cond (!(decide (j4.2=(0:Int)))) true (!dh)) (some (([]:List (List aN)),(4:Int))) (some (gb.1,(0:Int)))))
noncomputable def Q6 (N:Nat):bz bS:=b2 N bU (by kernel_rfl) [.c9 fW] [] ⟨.dj [.c9 (.ak (.ak bN)),.c (.int .i64)],[],[]⟩ [IC N,adj N,af4 N,abN N,abK N,wu N,PH N,Q5 N] [af3 N] (.s (.r [.n 3,.w (.b4 1 fW)]) (.s .d (.s .d (.s (.s (.o [] [.t 0 1,.t 1 1,.c 2 [],.c 3 [(3,18)]] [(.nr 5 0 9 34 (.ak bN))]) (.b (.pd [(18,900000),(2,54),(5,57)] ⟨[],[(9,.row 34 (.ak bN)),(57,.cells 27 [.raw (.ak 9)])],[],[54]⟩ .d))) (.s (.r [.n 2,.c [(2000000,9)]]) (.s (.r [.n 2,.w (.dn 9)]) (.s .d (.s (.s (.r [.n 8,.w (.b4 7 fW)]) .d) .d)))))))) [.cell 2 27,.tmp 3] 15 ([],0) (fun d=>w3 N d.1) Tryz.func15 rfl rfl Tryz.ntmps15 rfl rfl rfl (fun d=>by kernel_rfl)
def D2(N:Nat) (a0:eC):Option (Bool):=
  Option.bind (w3 N a0) fun aP=>
  cond (!(decide (aP.2=(0:Int)))) (some (decide ((aP.1.length:Int)=(0:Int)))) (Option.bind (r1 N aP.1) fun aX=>
  Option.bind (cond (decide (aX.2=(0:Int))) (m3 N aP.1) (some false)) fun bG=>
  Option.bind (cond (cond (decide (aX.2=(0:Int))) bG false) (w1 N a0 aX.1) (some false)) fun cf=>
  some (cond (cond (decide (aX.2=(0:Int))) bG false) cf false))
noncomputable def af9 (N:Nat):bz bS:=b2 N bU (by kernel_rfl) [.c9 fW] [] ⟨.a (.c .bool),[],[]⟩ [Q6 N,PH N,wu N,Q5 N] [] (.s (.r [.n 2,.w (.b4 1 fW)]) (.s (.r [.n 8,.w (.b4 3 (.ak (.ak bN)))]) (.s .d (.s (.r [.n 8,.w (.b4 5 fW)]) .d)))) [.tmp 2] 17 false (fun d=>D2 N d.1) Tryz.func17 rfl rfl Tryz.ntmps17 rfl rfl rfl (fun d=>by kernel_rfl)
end

section
set_option linter.unusedSimpArgs false
set_option linter.unusedVariables false
open Go.RowKit
def JO(N:Nat) (aq:eC):Nat->(Int×Int)->Option (Int):=ch fun d1 cz=>
  cond (decide (d1.2 < (aq.1.length:Int))) (ar ((aR d1.2 aq.1.length)&&(true)) <|
  ar ((bl (d1.2+(1:Int)))&&(true)) <|
  cz ((IntKind.wrap .i64 (d1.1+((aq.1.getD d1.2.toNat []).length:Int))),(d1.2+(1:Int)))) (some d1.1)
def JP(N:Nat) (a0:(List (List aN))) (nM:Int):Nat->(Bool×Int)->Option (Bool):=ch fun d6 my=>
  ar ((aR nM a0.length)&&(true)) <|
  cond (decide (d6.2 < ((a0.getD nM.toNat []).length:Int))) (ar ((fr d6.1 (aR nM a0.length))&&((fr d6.1 (aR d6.2 (a0.getD nM.toNat []).length))&&((fr (d6.1&&!(decide (((a0.getD nM.toNat []).getD d6.2.toNat bN.zero).1=(1:Int)))) (aR nM a0.length))&&((fr (d6.1&&!(decide (((a0.getD nM.toNat []).getD d6.2.toNat bN.zero).1=(1:Int)))) (aR d6.2 (a0.getD nM.toNat []).length))&&(true))))) <|
  ar ((bl (d6.2+(1:Int)))&&(true)) <|
  my ((cond d6.1 (cond (decide (((a0.getD nM.toNat []).getD d6.2.toNat bN.zero).1=(1:Int))) true (decide (((a0.getD nM.toNat []).getD d6.2.toNat bN.zero).1=(2:Int)))) false),(d6.2+(1:Int)))) (some d6.1)
def JQ(N:Nat) (a0:(List (List aN))):Nat->(Bool×Int)->Option ((Bool)⊕(Bool)):=ch fun d4 l4=>
  cond (decide (d4.2 < (a0.length:Int))) (ar ((aR d4.2 a0.length)&&(true)) <|
  cond (decide ((8:Int) < ((a0.getD d4.2.toNat []).length:Int))) (Option.bind (tN N) fun cw=>
  some (.inr cw)) (Option.bind (JP N a0 d4.2 N (d4.1,(0:Int))) fun ff=>
  ar ((bl (d4.2+(1:Int)))&&(true)) <|
  l4 (ff,(d4.2+(1:Int))))) (some (.inl d4.1))
def JR(N:Nat) (a0:(List (List aN))) (aq:eC):Option (Bool):=
  Option.bind (JO N aq N ((0:Int),(0:Int))) fun bj=>
  cond (cond (cond (cond (cond (decide ((5:Int) < (a0.length:Int))) true (decide ((6:Int) < bj))) true (decide ((10:Int) < (aq.2.2.1.length:Int)))) true (decide ((10:Int) < (aq.2.2.2.length:Int)))) true (decide ((10:Int) < (aq.2.1.length:Int)))) (Option.bind (tN N) fun aX=>
  some aX) (Option.bind (qz N a0) fun bG=>
  Option.bind (JQ N a0 N ((decide (bG=(0:Int))),(0:Int))) fun(cE:(Bool)⊕(Bool))=>
  sm cE (fun cE=>
  Option.bind (qA N a0 (0:Int) (0:Int)) fun gb=>
  Option.bind (m3 N a0) fun gS=>
  Option.bind (cond (!(gS != cE)) (tM N a0) (some [])) fun j4=>
  Option.bind (cond (!(cond (cond (gS != cE) true ((!(j4 == ([]:List UInt8))) != cE)) true ((decide (gb.2=(0:Int))) != cE))) (C2 N a0) (some ([],0))) fun dh=>
  cond (cond (cond (cond (gS != cE) true ((!(j4 == ([]:List UInt8))) != cE)) true ((decide (gb.2=(0:Int))) != cE)) true (!(decide ((dh.1.length:Int)=(a0.length:Int))))) (some false) (Option.bind (w3 N aq) fun jv=>
  Option.bind (pv N aq) fun km=>
  cond (cond (!(decide (km=(0:Int)))) (!(decide (jv.2=km))) false) (some false) (Option.bind (cond (cond (cond (!(decide (km=(0:Int)))) true (decide (jv.2=(0:Int)))) true (decide (jv.2=(4:Int)))) (D2 N aq) (some false)) fun gT=>
  Option.bind (cond (cond (cond (cond (!(decide (km=(0:Int)))) true (decide (jv.2=(0:Int)))) true (decide (jv.2=(4:Int)))) gT false) (tN N) (some false)) fun gD=>
  some (cond (cond (cond (cond (!(decide (km=(0:Int)))) true (decide (jv.2=(0:Int)))) true (decide (jv.2=(4:Int)))) gT false) gD false)))) (fun q=>some q))
noncomputable def aga (N:Nat):bz bS:=b2 N bU (by kernel_rfl) [.c9 (.ak (.ak bN)),.c9 fW] [] ⟨.a (.c .bool),[],[]⟩ [ab4 N,H6 N,OP N,wu N,OZ N,abM N,Q6 N,IC N,af9 N] [] (.s (.r [.n 3,.w (.b4 2 (.ak (.ak bN))),.w (.b4 3 fW)]) (.s .d (.s (.s .d (.b (.eb 0 ⟨[(5,.a (.c (.int .i64))),(6,.a (.c (.int .i64)))],[],[2,3],[]⟩ ⟨[(5,.a (.c (.int .i64)))],[],[2,3],[]⟩ (.s .d (.s (.b (.r [.n 7,.t .MN])) .d))))) (.s .d (.s .d (.s (.s .d (.b (.fh 2 ⟨[(7,.a (.c .bool)),(8,.a (.c (.int .i64)))],[],[2,3],[]⟩ ⟨[(7,.a (.c .bool))],[],[2,3],[]⟩ (.s .d (.s (.b (.s .d (.s .d (.b (.eb 4 ⟨[(7,.a (.c .bool)),(9,.a (.c (.int .i64)))],[],[2,3,8],[]⟩ ⟨[(7,.a (.c .bool))],[],[2,3,8],[]⟩ .d))))) .d))))) (.s (.r [.n 8,.w (.b4 10 bf)]) (.s (.s (.o [] [.t 0 1,.t 2 0,.c 1 [],.f,.t 3 0,.t 4 0,.t 5 1,.t 8 0,.g 6,.f,.t 7 0,.t 9 0,.t 10 0,.t 11 0,.t 12 0,.t 13 0,.t 14 0,.t 15 0,.t 16 0,.t 17 0,.t 18 1,.t 21 0,.t 22 1,.t 23 0,.g 19,.t 20 0,.t 24 0,.t 25 0] []) .d) (.s (.r [.n 8,.w (.b4 12 (.ak (.ak bN)))]) .d))))))))) [.tmp 4] 4 false (fun d=>JR N d.1 d.2.1) Tryz.func4 rfl rfl Tryz.ntmps4 rfl rfl rfl (fun d=>by kernel_rfl)
end

def At(x:aN):Bool:=decide (x.1=1) || decide (x.1=2)
def mC(r:List aN):Bool:=r.all At
def kM(p:List (List aN)):Bool:=p.all mC
theorem D3{α:Type} {f:α->Bool} {r:List α} {j:Nat} {x:α} (h:r[j]?=some x):(r.take (j+1)).all f=((r.take j).all f&&f x):=by
 obtain⟨J,U⟩:=List.getElem?_eq_some_iff.1 h;rw[List.take_succ_eq_append_getElem J,U,List.all_append]
 simp
theorem Q7{α:Type} {f:α->Bool} {r:List α} {j:Nat} {x:α} (h:r[j]?=some x) (az:f x=false):r.all f=false:=by
 rw[Bool.eq_false_iff];intro aS;rw[List.all_eq_true]at aS
 have:=aS x (List.mem_of_getElem? h)
 rw[az]at this;cases this
theorem JS{N:Nat} {p:List (List aN)} (g:w0 N p) (ab:kM p=true):∃ w,lD p w:=by
 have wM:=g.ox;obtain⟨ek,jJ⟩:∃ x,p[0]?=some x:=⟨_,List.getElem?_eq_getElem (by omega)⟩
 have g0:=g.rows ek (List.mem_of_getElem? jJ);unfold kM at ab;rw[List.all_eq_true]at ab;have ah:∀ r∈p,∀ x∈r,hI x:=by
  intro r au x ah;have aw:=((g.rows r au).v x ah).2;have JT:=ab r au;unfold mC at JT;rw[List.all_eq_true]at JT;have lY:=JT x ah;unfold At at lY;simp only[aG,Int.reduceEq,Int.reduceLT,Int.reduceLE,reduceCtorEq]at lY;exact⟨lY,aw.lP,aw.afK,aw.pl (by omega)⟩
 have aj:∀ r∈p,fC fX r=r.length/\fC h6 r=r.length:=by
  intro r au;have b1:=ah r au;have key:∀ l:List aN,(∀ x∈l,hI x)->fC fX l=l.length/\fC h6 l=l.length:=by
   intro l
   induction l with
   | nil=>intro _; exact⟨rfl,rfl⟩
   | cons a l bJ=>
    intro h;obtain⟨J,U⟩:=bJ fun x ah=>h x (List.mem_cons_of_mem _ ah)
    have aS:=(h a List.mem_cons_self).1;have aC:fX a=1:=by unfold fX; rw[if_neg (by omega),if_neg (by omega),if_neg (by omega)]
    have a1:h6 a=1:=by unfold h6; rw[if_neg (by omega)]
    unfold fC at J U ⊢;rw[List.map_cons,List.map_cons,List.sum_cons,List.sum_cons,J,U,aC,a1,List.length_cons];omega
  exact key r b1
 have hw:∀ (j:Nat) (r:List aN),p[j]?=some r->r.length=ek.length:=by
  intro j
  induction j with
  | zero=>intro r au; rw[jJ]at au; cases au; rfl
  | succ j bJ=>
   intro r au;obtain⟨aP,gw⟩:∃ x,p[j]?=some x:=⟨_,List.getElem?_eq_getElem (by have:=(List.getElem?_eq_some_iff.1 au).1; omega)⟩
   have:=g.link j aP r gw au
   rw[(aj r (List.mem_of_getElem? au)).1,(aj aP (List.mem_of_getElem? gw)).2]at this;rw[this,bJ aP gw]
 refine⟨ek.length,g.gd,g.ox,g0.afO,g0.uk,fun r au=>?_,ah⟩;obtain⟨j,aF⟩:=List.getElem?_of_mem au;exact hw j r aF
theorem agb{N:Nat} (aT:5000 < N) {p:List (List aN)} {y:Nat} {r:List aN} (au:p[y]?=some r) (kn:r.length<=16) :
  T (CZ N p (y:Int) N (0:Int)) fun o=>(o=.inl ()/\mC r=true)\/(o=.inr (.inr false)/\mC r=false):=by
 unfold CZ;refine eI (fun k d=>∃ j:Nat,j+k=r.length/\d=(j:Int)/\mC (r.take j)=true) _ ?_ N r.length _ (by omega) ⟨0,by omega,rfl,rfl⟩;rintro k d rec ⟨j,aF,rfl,aw⟩ bm
 by_cases aL:j < r.length
 ·obtain⟨x,ah⟩:∃ x,r[j]?=some x:=⟨_,List.getElem?_eq_getElem aL⟩
  simp only[aG,Int.reduceEq,Int.reduceLT,Int.reduceLE,reduceCtorEq,bB au,show(j:Int) < (r.length:Int) by omega,bB ah];refine⟨by(repeat' apply And.intro)<;>first | omega | (simp only[bF]; omega) | exact this | rfl | trivial,fun h=>Q7 ah ?_,fun h=>⟨by(repeat' apply And.intro)<;>first | omega | (simp only[bF]; omega) | exact this | rfl | trivial,bm (k - 1) _ (by omega) ⟨j+1,by omega,by omega,?_⟩⟩⟩
  ·unfold At
   rw[decide_eq_false h.1,decide_eq_false h.2]
   rfl
  ·have agc:At x=true:=by
    unfold At
    rcases h with h | h
    ·rw[decide_eq_true h]; rfl
    ·rw[decide_eq_true h,Bool.or_true]
   unfold mC at aw ⊢;rw[D3 ah,aw,agc]
   rfl
 ·simp only[aG,Int.reduceEq,Int.reduceLT,Int.reduceLE,reduceCtorEq,bB au,show ¬ (j:Int) < (r.length:Int) by omega]
  rw[show r.take j=r from List.take_of_length_le (by omega)]at aw
  first | exact aw | exact Or.inl aw | exact Or.inl ⟨rfl,aw⟩
theorem Q8{N:Nat} (aT:5000 < N) (p:List (List aN)):∃ e,qz N p=some e/\(e=0->w0 N p)/\m3 N p=some (decide (e=0)&&kM p):=by
 obtain⟨e,he,aV⟩:=afW aT p;refine⟨e,he,aV,?_⟩;unfold m3
 apply T.eq
 simp only[aG,Int.reduceEq,Int.reduceLT,Int.reduceLE,reduceCtorEq,bu he];refine⟨fun h=>by rw[decide_eq_false h]; rfl,fun h=>?_⟩;have g:=aV h;have zY:=g.gd;refine T.mono (P:=fun o=>(o=.inl ()/\kM p=true)\/(o=.inr false/\kM p=false)) ?_ ?_
 ·unfold H7
  refine eI (fun k d=>∃ j:Nat,j+k=p.length/\d=(j:Int)/\kM (p.take j)=true) _ ?_ N p.length _ (by omega) ⟨0,by omega,rfl,rfl⟩;rintro k d rec ⟨j,aF,rfl,aw⟩ bm
  by_cases aL:j < p.length
  ·obtain⟨r,au⟩:∃ x,p[j]?=some x:=⟨_,List.getElem?_eq_getElem aL⟩
   simp only[aG,Int.reduceEq,Int.reduceLT,Int.reduceLE,reduceCtorEq,show(j:Int) < (p.length:Int) by omega];refine⟨by(repeat' apply And.intro)<;>first | omega | (simp only[bF]; omega) | exact this | rfl | trivial,(agb aT au (g.rows r (List.mem_of_getElem? au)).uk).mono ?_⟩;rintro o (⟨rfl,bb⟩ | ⟨rfl,bb⟩)
   ·simp only[aG,Int.reduceEq,Int.reduceLT,Int.reduceLE,reduceCtorEq]
    refine⟨by(repeat' apply And.intro)<;>first | omega | (simp only[bF]; omega) | exact this | rfl | trivial,bm (k - 1) _ (by omega) ⟨j+1,by omega,by omega,?_⟩⟩;unfold kM at aw ⊢;rw[D3 au,aw,bb]
    rfl
   ·simp only[aG,Int.reduceEq,Int.reduceLT,Int.reduceLE,reduceCtorEq]
    exact Q7 au bb
  ·simp only[aG,Int.reduceEq,Int.reduceLT,Int.reduceLE,reduceCtorEq,show ¬ (j:Int) < (p.length:Int) by omega]
   rw[show p.take j=p from List.take_of_length_le (by omega)]at aw
   first | exact aw | exact Or.inl aw | exact Or.inl ⟨rfl,aw⟩
 ·rintro o (⟨rfl,bb⟩ | ⟨rfl,bb⟩)
  ·simp only[aG,Int.reduceEq,Int.reduceLT,Int.reduceLE,reduceCtorEq]
   rw[decide_eq_true h,bb]
   rfl
  ·simp only[aG,Int.reduceEq,Int.reduceLT,Int.reduceLE,reduceCtorEq]
   rw[bb,Bool.and_false]
theorem agd(b c d:Bool):cond b (cond c true d) false=(b&&(c || d)):=by cases b<;>cases c<;>rfl
theorem age{N:Nat} (aT:5000 < N) {p:List (List aN)} {y:Nat} {r:List aN} (au:p[y]?=some r) (c3:r.length<=8) (b:Bool):JP N p (y:Int) N (b,(0:Int))=some (b&&mC r):=by
 have aH:=(List.getElem?_eq_some_iff.1 au).1;unfold JP;refine eU (fun k d=>∃ j:Nat,j+k=r.length/\d=((b&&mC (r.take j)),(j:Int))) _ ?_ N r.length _ (by omega) ⟨0,by omega,by simp[mC]⟩;rintro k d rec ⟨j,aF,rfl⟩ bm
 apply T.eq
 by_cases aL:j < r.length
 ·obtain⟨x,ah⟩:∃ x,r[j]?=some x:=⟨_,List.getElem?_eq_getElem aL⟩
  have e:cond (b&&mC (r.take j)) (cond (decide (x.1=(1:Int))) true (decide (x.1=(2:Int)))) false=(b&&mC (r.take (j+1))):=by
   rw[agd];unfold mC;rw[D3 ah,<- Bool.and_assoc]
   rfl
  have this:T (rec ((b&&mC (r.take (j+1))),(j:Int)+1)) (·=(b&&mC r)):=⟨_,bm (k - 1) _ (by omega) ⟨j+1,by omega,rfl⟩,rfl⟩
  simp only[bB au,Int.toNat_natCast,bB ah,e];simp only[aG,Int.reduceEq,Int.reduceLT,Int.reduceLE,reduceCtorEq,show(j:Int) < (r.length:Int) by omega,this];omega
 ·simp only[aG,Int.reduceEq,Int.reduceLT,Int.reduceLE,reduceCtorEq,bB au,show ¬ (j:Int) < (r.length:Int) by omega]
  rw[show r.take j=r from List.take_of_length_le (by omega)];exact⟨by omega,rfl⟩
theorem agf{N:Nat} (aT:5000 < N) (Au:tN N=some true) {p:List (List aN)} (aO:p.length<=5) (b:Bool) :
  T (JQ N p N (b,(0:Int))) fun o=>(o=.inl (b&&kM p)/\∀ r∈p,r.length<=8)\/o=.inr true:=by
 unfold JQ;refine eI (fun k d=>∃ j:Nat,j+k=p.length/\d=((b&&kM (p.take j)),(j:Int))/\∀ r∈p.take j,r.length<=8) _ ?_ N p.length _ (by omega) ⟨0,by omega,by simp[kM],fun x ah=>by simp at ah⟩;rintro k d rec ⟨j,aF,rfl,aw⟩ bm
 by_cases aL:j < p.length
 ·obtain⟨r,au⟩:∃ x,p[j]?=some x:=⟨_,List.getElem?_eq_getElem aL⟩
  simp only[aG,Int.reduceEq,Int.reduceLT,Int.reduceLE,reduceCtorEq,show(j:Int) < (p.length:Int) by omega,bB au];refine⟨by(repeat' apply And.intro)<;>first | omega | (simp only[bF]; omega) | exact this | rfl | trivial,fun h=>bu Au |>.2 (by simp only[aG,Int.reduceEq,Int.reduceLT,Int.reduceLE,reduceCtorEq]),fun h=>?_⟩;rw[bu (age aT au (by omega) _)];refine⟨by(repeat' apply And.intro)<;>first | omega | (simp only[bF]; omega) | exact this | rfl | trivial,bm (k - 1) _ (by omega) ⟨j+1,by omega,?_,fun y aH=>?_⟩⟩
  ·rw[Bool.and_assoc]
   unfold kM;rw[D3 au]
   rfl
  ·rw[List.take_succ_eq_append_getElem aL,(List.getElem?_eq_some_iff.1 au).2]at aH
   rcases List.mem_append.1 aH with aH | aH
   ·exact aw y aH
   ·rw[List.mem_singleton]at aH
    subst aH;omega
 ·simp only[aG,Int.reduceEq,Int.reduceLT,Int.reduceLE,reduceCtorEq,show ¬ (j:Int) < (p.length:Int) by omega]
  rw[show p.take j=p from List.take_of_length_le (by omega)]at aw ⊢;exact⟨rfl,aw⟩
theorem agh{N:Nat} (aT:5000 < N) {p:List (List aN)} (aO:p.length<=5) (c3:∀ r∈p,r.length<=8):T (C1 N p) fun q=>q.1.length=p.length:=by
 have U:∀ (y:Nat) (r:List aN) (L:List (List Int)) (c:Nat),p[y]?=some r->L.length=p.length->T (Ia N p (y:Int) N ((0:Int),L,y,c,List.replicate r.length (0:Int),r.length)) fun o=>o.1.length=p.length:=by
  intro y r L c au dJ;have aH:=(List.getElem?_eq_some_iff.1 au).1;have agi:=c3 r (List.mem_of_getElem? au);unfold Ia;refine eI (fun k d=>∃ j:Nat,j+k=r.length/\d.1=(j:Int)/\d.2.1=L/\d.2.2.1=y/\d.2.2.2.2.1.length=r.length) _ ?_ N r.length _ (by omega) ⟨0,by omega,rfl,rfl,rfl,by simp⟩;rintro k ⟨i,cY,z,c',l,m⟩ rec ⟨j,aF,aC,a1,cq,ep⟩ bm;dsimp only at aC a1 cq ep;subst aC a1 cq
  by_cases aL:j < r.length
  ·obtain⟨x,ah⟩:∃ x,r[j]?=some x:=⟨_,List.getElem?_eq_getElem aL⟩
   simp only[aG,Int.reduceEq,Int.reduceLT,Int.reduceLE,reduceCtorEq,bB au,show(j:Int) < (r.length:Int) by omega,bB ah];refine⟨by(repeat' apply And.intro)<;>first | omega | (simp only[bF]; omega) | exact this | rfl | trivial,by(repeat' apply And.intro)<;>first | omega | (simp only[bF]; omega) | exact this | rfl | trivial,?_⟩;unfold H9;simp only[aG,Int.reduceEq,Int.reduceLT,Int.reduceLE,reduceCtorEq];refine⟨by(repeat' apply And.intro)<;>first | omega | (simp only[bF]; omega) | exact this | rfl | trivial,by(repeat' apply And.intro)<;>first | omega | (simp only[bF]; omega) | exact this | rfl | trivial,bm (k - 1) _ (by omega) ⟨j+1,by omega,by omega,rfl,rfl,by simpa using ep⟩⟩
  ·simp only[aG,Int.reduceEq,Int.reduceLT,Int.reduceLE,reduceCtorEq,bB au,show ¬ (j:Int) < (r.length:Int) by omega]
   exact dJ
 unfold C1;simp only[aG,Int.reduceEq,Int.reduceLT,Int.reduceLE,reduceCtorEq];refine⟨by omega,T.mono (P:=fun o=>o.1.length=p.length) ?_ fun o bb=>bb⟩;unfold OQ;refine eI (fun k d=>∃ j:Nat,j+k=p.length/\d.1=(j:Int)/\d.2.1.length=p.length) _ ?_ N p.length _ (by omega) ⟨0,by omega,rfl,by simp⟩;rintro k ⟨i,L,c⟩ rec ⟨j,aF,aC,a1⟩ bm;dsimp only at aC a1;subst aC
 by_cases aL:j < p.length
 ·obtain⟨r,au⟩:∃ x,p[j]?=some x:=⟨_,List.getElem?_eq_getElem aL⟩
  have agi:=c3 r (List.mem_of_getElem? au);simp only[aG,Int.reduceEq,Int.reduceLT,Int.reduceLE,reduceCtorEq,show(j:Int) < (p.length:Int) by omega,bB au];refine⟨by(repeat' apply And.intro)<;>first | omega | (simp only[bF]; omega) | exact this | rfl | trivial,by omega,(U j r L c au a1).mono fun o bb=>⟨by(repeat' apply And.intro)<;>first | omega | (simp only[bF]; omega) | exact this | rfl | trivial,bm (k - 1) _ (by omega) ⟨j+1,by omega,by omega,by simpa using bb⟩⟩⟩
 ·simp only[aG,Int.reduceEq,Int.reduceLT,Int.reduceLE,reduceCtorEq,show ¬ (j:Int) < (p.length:Int) by omega]
  exact a1
theorem agj{N:Nat} (aT:5000 < N) {p:List (List aN)} (aO:p.length<=5) (c3:∀ r∈p,r.length<=8) {e:Int} (aV:e=0->w0 N p) (an:m3 N p=some (decide (e=0)&&kM p)) :
  T (qA N p (0:Int) (0:Int)) (fun q=>decide (q.2=0)=(decide (e=0)&&kM p))/\T (tM N p) (fun s=>(!(s == ([]:List UInt8)))=(decide (e=0)&&kM p))/\T (C2 N p) fun q=>q.1.length=p.length:=by
 refine⟨?_,?_,?_⟩
 ·cases ae:(decide (e=0)&&kM p)with
  | false=>
   rw[ae]at an;unfold qA;simp only[aG,Int.reduceEq,Int.reduceLT,Int.reduceLE,reduceCtorEq,bu an]
  | true=>
   simp only[aG,Int.reduceEq,Int.reduceLT,Int.reduceLE,reduceCtorEq]at ae;obtain⟨w,aK⟩:=JS (aV ae.1) ae.2
   have:=aK.ox
   have:=aK.b0
   exact⟨_,adN (by omega) aK 0 0 (by omega) (by omega),rfl⟩
 ·cases ae:(decide (e=0)&&kM p)with
  | false=>
   rw[ae]at an;unfold tM;simp only[aG,Int.reduceEq,Int.reduceLT,Int.reduceLE,reduceCtorEq,bu an]
   rfl
  | true=>
   simp only[aG,Int.reduceEq,Int.reduceLT,Int.reduceLE,reduceCtorEq]at ae;obtain⟨w,aK⟩:=JS (aV ae.1) ae.2
   have:=aK.ox
   refine⟨_,af2 (by omega) aK,?_⟩;obtain⟨n,a6⟩:∃ n,p.length=n+1:=⟨p.length - 1,by omega⟩
   have:kg (se p)≠[]:=by
    unfold kg se;rw[a6]
    simp[pD]
   simpa using this
 ·unfold C2
  simp only[aG,Int.reduceEq,Int.reduceLT,Int.reduceLE,reduceCtorEq];exact agh aT aO c3

def ku(a:aB):Prop:=0<=a.1/\a.1<=255
def JU(t:List (List aQ)):Prop:=∀ a l,eg t a=some l->(∀ b∈l.2.2.1,ku b)/\∀ q∈l.2.2.2,ku q.1
theorem D4(N:Nat) {t:List (List aQ)} (aK:t.length=6) {a:aB} (aS:ku a):qE N t a=some (decide (eM t a)):=by
 unfold ku at aS;have ax:T (qE N t a) fun b=>b=true ↔ eM t a:=by
  unfold qE;rw[ko]
  by_cases J:1<=a.1/\a.1<=6
  ·have hw:=wT J.1 J.2
   simp only[aG,Int.reduceEq,Int.reduceLT,Int.reduceLE,reduceCtorEq,hw,aK];omega
  ·have bY:6 < a.1->(t.getD (a.1 - 1).toNat []).length=0:=fun h=>by rw[List.getD_eq_getElem?_getD,List.getElem?_eq_none (by omega)]; rfl
   simp only[aG,Int.reduceEq,Int.reduceLT,Int.reduceLE,reduceCtorEq,aK];omega
 obtain⟨b,ae,he⟩:=ax;rw[ae,Option.some.injEq,Bool.eq_iff_iff,he,decide_eq_true_iff]
theorem JV(N:Nat) {t:List (List aQ)} (aK:t.length=6) {a:aB} (aS:ku a):wE N t a=some (decide (eM t a)):=D4 N aK aS
structure w4(t:List (List aQ)) (l:aQ):Prop where
 iJ:l.1=0\/l.1=1
 m5:l.2.2.1.length<=4
 r4:l.2.2.2.length<=4096
 thr:∀ b∈l.2.2.1,eM t b
 m4:∀ q∈l.2.2.2,eM t q.1
theorem agk{N:Nat} (aT:5000 < N) {t:List (List aQ)} (aK:t.length=6) {l:aQ} (ae:∀ b∈l.2.2.1,ku b) (ao:∀ q∈l.2.2.2,ku q.1):T (wz N t l) fun r=>r=true->w4 t l:=by
 have J:l.2.2.1.length<=4->T (zB N t l N (0:Int)) fun o=>(o=.inl ()/\∀ b∈l.2.2.1,eM t b)\/o=.inr false:=by
  intro ts;unfold zB;refine eI (fun k d=>∃ j:Nat,j+k=l.2.2.1.length/\d=(j:Int)/\∀ b∈l.2.2.1.take j,eM t b) _ ?_ N l.2.2.1.length _ (by omega) ⟨0,by omega,rfl,fun x ah=>by simp at ah⟩;rintro k d rec ⟨j,aF,rfl,aw⟩ bm
  by_cases aL:j < l.2.2.1.length
  ·obtain⟨x,ah⟩:∃ x,l.2.2.1[j]?=some x:=⟨_,List.getElem?_eq_getElem aL⟩
   simp only[aG,Int.reduceEq,Int.reduceLT,Int.reduceLE,reduceCtorEq,show(j:Int) < (l.2.2.1.length:Int) by omega,bB ah,bu (D4 N aK (ae x (List.mem_of_getElem? ah)))];refine⟨by(repeat' apply And.intro)<;>first | omega | (simp only[bF]; omega) | exact this | rfl | trivial,fun h=>⟨by(repeat' apply And.intro)<;>first | omega | (simp only[bF]; omega) | exact this | rfl | trivial,bm (k - 1) _ (by omega) ⟨j+1,by omega,by omega,fun y aH=>?_⟩⟩⟩;rw[List.take_succ_eq_append_getElem aL,(List.getElem?_eq_some_iff.1 ah).2]at aH
   rcases List.mem_append.1 aH with aH | aH
   ·exact aw y aH
   ·rw[List.mem_singleton]at aH
    subst aH;exact h
  ·simp only[aG,Int.reduceEq,Int.reduceLT,Int.reduceLE,reduceCtorEq,show ¬ (j:Int) < (l.2.2.1.length:Int) by omega]
   rw[show l.2.2.1.take j=l.2.2.1 from List.take_of_length_le (by omega)]at aw
   first | exact aw | exact⟨rfl,aw⟩ | exact Or.inl aw
 have ag:l.2.2.2.length<=4096->T (zC N t l N (0:Int)) fun o=>(o=.inl ()/\∀ q∈l.2.2.2,eM t q.1/\(q.2.2=0\/q.2.2=1))\/o=.inr false:=by
  intro ts;unfold zC;refine eI (fun k d=>∃ j:Nat,j+k=l.2.2.2.length/\d=(j:Int)/\∀ q∈l.2.2.2.take j,eM t q.1/\(q.2.2=0\/q.2.2=1)) _ ?_ N l.2.2.2.length _ (by omega) ⟨0,by omega,rfl,fun x ah=>by simp at ah⟩;rintro k d rec ⟨j,aF,rfl,aw⟩ bm
  by_cases aL:j < l.2.2.2.length
  ·obtain⟨x,ah⟩:∃ x,l.2.2.2[j]?=some x:=⟨_,List.getElem?_eq_getElem aL⟩
   simp only[aG,Int.reduceEq,Int.reduceLT,Int.reduceLE,reduceCtorEq,show(j:Int) < (l.2.2.2.length:Int) by omega,bB ah,bu (D4 N aK (ao x (List.mem_of_getElem? ah)))];refine⟨by(repeat' apply And.intro)<;>first | omega | (simp only[bF]; omega) | exact this | rfl | trivial,fun h=>⟨by(repeat' apply And.intro)<;>first | omega | (simp only[bF]; omega) | exact this | rfl | trivial,bm (k - 1) _ (by omega) ⟨j+1,by omega,by omega,fun y aH=>?_⟩⟩⟩;rw[List.take_succ_eq_append_getElem aL,(List.getElem?_eq_some_iff.1 ah).2]at aH
   rcases List.mem_append.1 aH with aH | aH
   ·exact aw y aH
   ·rw[List.mem_singleton]at aH
    subst aH;exact⟨h.1,by omega⟩
  ·simp only[aG,Int.reduceEq,Int.reduceLT,Int.reduceLE,reduceCtorEq,show ¬ (j:Int) < (l.2.2.2.length:Int) by omega]
   rw[show l.2.2.2.take j=l.2.2.2 from List.take_of_length_le (by omega)]at aw
   first | exact aw | exact⟨rfl,aw⟩ | exact Or.inl aw
 unfold wz;simp only[aG,Int.reduceEq,Int.reduceLT,Int.reduceLE,reduceCtorEq];refine fun ahR hlen=>(J (by omega)).mono ?_
 rintro o (⟨rfl,uv⟩ | rfl)
 ·simp only[aG,Int.reduceEq,Int.reduceLT,Int.reduceLE,reduceCtorEq]
  refine(ag (by omega)).mono ?_;rintro o (⟨rfl,si⟩ | rfl)
  ·simp only[aG,Int.reduceEq,Int.reduceLT,Int.reduceLE,reduceCtorEq]
   have an:=I7 (N:=N) l.2.2.2 [] (by omega) (fun p an=>(si p an).2) (fun _ h=>by cases h) (by simp; omega);have gH:=zZ [] l.2.2.2;simp only[List.length_nil]at gH;unfold zk;simp only[aG,Int.reduceEq,Int.reduceLT,Int.reduceLE,reduceCtorEq,bu an,bu (DG N (gq [] l.2.2.2) (by omega))];refine⟨by omega,fun _=>⟨by omega,by omega,by omega,uv,fun q ao=>(si q ao).1⟩⟩
  ·simp only[aG,Int.reduceEq,Int.reduceLT,Int.reduceLE,reduceCtorEq]
 ·simp only[aG,Int.reduceEq,Int.reduceLT,Int.reduceLE,reduceCtorEq]
def pE(t:List (List aQ)):Prop:=∀ a l,eg t a=some l->w4 t l
theorem agl{N:Nat} (aT:5000 < N) {t:List (List aQ)} (aK:t.length=6) (aY:cl t<=2048) (a6:JU t):T (wA N t) fun e=>e=0->pE t:=by
 have U:∀ (y:Nat) (row:List aQ),t[y]?=some row->T (zD N t (y:Int) N (0:Int)) fun o=>(o=.inl ()/\∀ l∈row,w4 t l)\/o=.inr (.inr 1):=by
  intro y row bX;have fj:=lE (t:=t) y;rw[bB bX]at fj;unfold zD;refine eI (fun k d=>∃ j:Nat,j+k=row.length/\d=(j:Int)/\∀ l∈row.take j,w4 t l) _ ?_ N row.length _ (by omega) ⟨0,by omega,rfl,fun x ah=>by simp at ah⟩;rintro k d rec ⟨j,aF,rfl,aw⟩ bm
  by_cases aL:j < row.length
  ·obtain⟨x,ah⟩:∃ x,row[j]?=some x:=⟨_,List.getElem?_eq_getElem aL⟩
   have Av:=a6 ((y:Int)+1,(j:Int)) x (by rw[lh,bB bX,ah]);obtain⟨b,ae,oT⟩:=agk aT aK Av.1 Av.2;simp only[aG,Int.reduceEq,Int.reduceLT,Int.reduceLE,reduceCtorEq,bB bX,show(j:Int) < (row.length:Int) by omega,bB ah,bu ae];refine⟨by(repeat' apply And.intro)<;>first | omega | (simp only[bF]; omega) | exact this | rfl | trivial,fun h=>⟨by(repeat' apply And.intro)<;>first | omega | (simp only[bF]; omega) | exact this | rfl | trivial,bm (k - 1) _ (by omega) ⟨j+1,by omega,by omega,fun y aH=>?_⟩⟩⟩;rw[List.take_succ_eq_append_getElem aL,(List.getElem?_eq_some_iff.1 ah).2]at aH
   rcases List.mem_append.1 aH with aH | aH
   ·exact aw y aH
   ·rw[List.mem_singleton]at aH
    subst aH;exact oT h.1
  ·simp only[aG,Int.reduceEq,Int.reduceLT,Int.reduceLE,reduceCtorEq,bB bX,show ¬ (j:Int) < (row.length:Int) by omega]
   rw[show row.take j=row from List.take_of_length_le (by omega)]at aw
   first | exact aw | exact⟨rfl,aw⟩ | exact Or.inl aw
 have J:T (zE N t N (0:Int)) fun o=>(o=.inl ()/\∀ row∈t,∀ l∈row,w4 t l)\/o=.inr 1:=by
  unfold zE;refine eI (fun k d=>∃ j:Nat,j+k=t.length/\d=(j:Int)/\∀ row∈t.take j,∀ l∈row,w4 t l) _ ?_ N t.length _ (by omega) ⟨0,by omega,rfl,fun x ah=>by simp at ah⟩;rintro k d rec ⟨j,aF,rfl,aw⟩ bm
  by_cases aL:j < t.length
  ·obtain⟨x,ah⟩:∃ x,t[j]?=some x:=⟨_,List.getElem?_eq_getElem aL⟩
   simp only[aG,Int.reduceEq,Int.reduceLT,Int.reduceLE,reduceCtorEq,show(j:Int) < (t.length:Int) by omega];refine⟨by(repeat' apply And.intro)<;>first | omega | (simp only[bF]; omega) | exact this | rfl | trivial,(U j x ah).mono ?_⟩;rintro o (⟨rfl,bb⟩ | rfl)
   ·simp only[aG,Int.reduceEq,Int.reduceLT,Int.reduceLE,reduceCtorEq]
    refine⟨by(repeat' apply And.intro)<;>first | omega | (simp only[bF]; omega) | exact this | rfl | trivial,bm (k - 1) _ (by omega) ⟨j+1,by omega,by omega,fun y aH=>?_⟩⟩;rw[List.take_succ_eq_append_getElem aL,(List.getElem?_eq_some_iff.1 ah).2]at aH
    rcases List.mem_append.1 aH with aH | aH
    ·exact aw y aH
    ·rw[List.mem_singleton]at aH
     subst aH;exact bb
   ·simp only[aG,Int.reduceEq,Int.reduceLT,Int.reduceLE,reduceCtorEq]
  ·simp only[aG,Int.reduceEq,Int.reduceLT,Int.reduceLE,reduceCtorEq,show ¬ (j:Int) < (t.length:Int) by omega]
   rw[show t.take j=t from List.take_of_length_le (by omega)]at aw
   first | exact aw | exact⟨rfl,aw⟩ | exact Or.inl aw
 unfold wA;simp only[aG,Int.reduceEq,Int.reduceLT,Int.reduceLE,reduceCtorEq];refine J.mono ?_;rintro o (⟨rfl,bb⟩ | rfl)
 ·simp only[aG,Int.reduceEq,Int.reduceLT,Int.reduceLE,reduceCtorEq]
  intro a l ad;unfold eg at ad
  split at ad
  ·have hm:=List.mem_of_getElem? ad
   by_cases au:(a.1 - 1).toNat < t.length
   ·rw[List.getD_eq_getElem?_getD,List.getElem?_eq_getElem au]at hm
    exact bb _ (List.getElem_mem au) l hm
   ·rw[List.getD_eq_getElem?_getD,List.getElem?_eq_none (by omega)]at hm
    cases hm
  ·cases ad
 ·simp only[aG,Int.reduceEq,Int.reduceLT,Int.reduceLE,reduceCtorEq]
theorem agm{N:Nat} (aT:5000 < N) {t:List (List aQ)} (aK:t.length=6) (aY:cl t<=2048) (au:pE t):T (wB N t) fun _=>True:=by
 have ag:∀ (y n:Nat) (row:List aQ) (l:aQ) (m:hP) (L:List aB),t[y]?=some row->row[n]?=some l->fH m L->L.length<=60000 ->
   T (zF N t (y:Int) (n:Int) N ((0:Int),m)) fun q=>(∃ cI cY,q=.inl cI/\fH cI cY/\cY.length<=L.length+4)\/q=.inr (.inr (.inr 8)):=by
  intro y n row l m L bX ad hm JW;have ui:=(au ((y:Int)+1,(n:Int)) l (by rw[lh,bB bX,ad])).m5;unfold zF;refine eI (fun k d=>∃ (j:Nat) (cI:hP) (cY:List aB),j+k=l.2.2.1.length/\d=((j:Int),cI)/\fH cI cY/\cY.length=L.length+j) _ ?_ N l.2.2.1.length _ (by omega) ⟨0,m,L,by omega,rfl,hm,rfl⟩;rintro k d rec ⟨j,cI,cY,aF,rfl,gG,w5⟩ bm
  by_cases aL:j < l.2.2.1.length
  ·obtain⟨x,ah⟩:∃ x,l.2.2.1[j]?=some x:=⟨_,List.getElem?_eq_getElem aL⟩
   have br:(j:Int) < (l.2.2.1.length:Int):=by omega
   have pC:=gG.add x;have ic:=pC x;rw[wU,if_pos rfl,Option.getD_some]at ic;have nE:(hF bf (.int .i64) cI x).getD (0:Int)+(1:Int)=(List.count x (cY++[x]):Int):=ic;have jf:List.count x (cY++[x])<=100000:=Nat.le_trans List.count_le_length (by rw[List.length_append,List.length_singleton]; omega);have this:=bm (k - 1) _ (by omega) ⟨j+1,_,_,by omega,rfl,pC,by rw[List.length_append,List.length_singleton]; omega⟩;simp only[aG,Int.reduceEq,Int.reduceLT,Int.reduceLE,reduceCtorEq,bB bX,bB ad,br,bB ah,wU,if_true,Option.getD_some]
   first | exact⟨by(repeat' apply And.intro)<;>first | omega | (simp only[bF]; omega) | exact this | rfl | trivial,DR nE jf,fun _=>by(repeat' apply And.intro)<;>first | omega | (simp only[bF]; omega) | exact this | rfl | trivial⟩ | exact⟨by(repeat' apply And.intro)<;>first | omega | (simp only[bF]; omega) | exact this | rfl | trivial,DR nE jf,fun _=>Or.inr rfl,fun _=>by(repeat' apply And.intro)<;>first | omega | (simp only[bF]; omega) | exact this | rfl | trivial⟩
  ·have br:¬ (j:Int) < (l.2.2.1.length:Int):=by omega
   simp only[aG,Int.reduceEq,Int.reduceLT,Int.reduceLE,reduceCtorEq,bB bX,bB ad,br];exact⟨cI,cY,rfl,gG,by omega⟩
 have U:∀ (y:Nat) (row:List aQ) (m:hP) (L:List aB),t[y]?=some row->fH m L->L.length<=8192 * y->T (zG N t (y:Int) N ((0:Int),m)) fun q=>(∃ cI cY,q=.inl cI/\fH cI cY/\cY.length<=8192 * (y+1))\/q=.inr (.inr 8):=by
  intro y row m L bX hm JW;have aH:=(List.getElem?_eq_some_iff.1 bX).1;have fj:=lE (t:=t) y;rw[bB bX]at fj;unfold zG;refine eI (fun k d=>∃ (j:Nat) (cI:hP) (cY:List aB),j+k=row.length/\d=((j:Int),cI)/\fH cI cY/\cY.length<=L.length+4 * j) _ ?_ N row.length _ (by omega) ⟨0,m,L,by omega,rfl,hm,by omega⟩;rintro k d rec ⟨j,cI,cY,aF,rfl,gG,w5⟩ bm
  by_cases aL:j < row.length
  ·obtain⟨l,ad⟩:∃ x,row[j]?=some x:=⟨_,List.getElem?_eq_getElem aL⟩
   have br:(j:Int) < (row.length:Int):=by omega
   simp only[aG,Int.reduceEq,Int.reduceLT,Int.reduceLE,reduceCtorEq,bB bX,br];refine⟨by(repeat' apply And.intro)<;>first | omega | (simp only[bF]; omega) | exact this | rfl | trivial,(ag y j row l cI cY bX ad gG (by omega)).mono ?_⟩;rintro o (⟨fS,o8,rfl,j6,ud⟩ | rfl)
   ·simp only[aG,Int.reduceEq,Int.reduceLT,Int.reduceLE,reduceCtorEq]
    exact⟨by(repeat' apply And.intro)<;>first | omega | (simp only[bF]; omega) | exact this | rfl | trivial,bm (k - 1) _ (by omega) ⟨j+1,fS,o8,by omega,rfl,j6,by omega⟩⟩
   ·simp only[aG,Int.reduceEq,Int.reduceLT,Int.reduceLE,reduceCtorEq]
  ·have br:¬ (j:Int) < (row.length:Int):=by omega
   simp only[aG,Int.reduceEq,Int.reduceLT,Int.reduceLE,reduceCtorEq,bB bX,br];exact⟨cI,cY,rfl,gG,by omega⟩
 have J:T (zH N t N ((0:Int),([]:hP))) fun q=>q=.inl ()\/q=.inr 8:=by
  unfold zH;refine eI (fun k d=>∃ (j:Nat) (cI:hP) (cY:List aB),j+k=t.length/\d=((j:Int),cI)/\fH cI cY/\cY.length<=8192 * j) _ ?_ N t.length _ (by omega) ⟨0,[],[],by omega,rfl,fH.nil,by simp⟩;rintro k d rec ⟨j,cI,cY,aF,rfl,gG,w5⟩ bm
  by_cases aL:j < t.length
  ·obtain⟨row,bX⟩:∃ x,t[j]?=some x:=⟨_,List.getElem?_eq_getElem aL⟩
   have br:(j:Int) < (t.length:Int):=by omega
   simp only[aG,Int.reduceEq,Int.reduceLT,Int.reduceLE,reduceCtorEq,br];refine⟨by(repeat' apply And.intro)<;>first | omega | (simp only[bF]; omega) | exact this | rfl | trivial,(U j row cI cY bX gG w5).mono ?_⟩;rintro o (⟨fS,o8,rfl,j6,ud⟩ | rfl)
   ·simp only[aG,Int.reduceEq,Int.reduceLT,Int.reduceLE,reduceCtorEq]
    exact⟨by(repeat' apply And.intro)<;>first | omega | (simp only[bF]; omega) | exact this | rfl | trivial,bm (k - 1) _ (by omega) ⟨j+1,fS,o8,by omega,rfl,j6,by omega⟩⟩
   ·simp only[aG,Int.reduceEq,Int.reduceLT,Int.reduceLE,reduceCtorEq]
  ·have br:¬ (j:Int) < (t.length:Int):=by omega
   simp only[aG,Int.reduceEq,Int.reduceLT,Int.reduceLE,reduceCtorEq,br]
 unfold wB;simp only[aG,Int.reduceEq,Int.reduceLT,Int.reduceLE,reduceCtorEq];refine J.mono ?_;rintro o (rfl | rfl)<;>simp only[aG,Int.reduceEq,Int.reduceLT,Int.reduceLE,reduceCtorEq]

def l7(mk:List Nat) (a:aB):Prop:=a.2 < ((mk.getD (a.1 - 1).toNat 0:Nat):Int)
structure nQ(t:List (List aQ)) (r:List aB) (mk fP:List Nat):Prop where
 sb:mk.length=6
 sc:fP.length=6
 le:∀ y,mk.getD y 0<=(t.getD y []).length
 jK:r.length=mk.sum
 ok:∀ (y:Nat) l,eg t (hb mk y)=some l->fP.getD y 0<=(hc l).length
 there:∀ (y:Nat) l (i:Nat) b,eg t (hb mk y)=some l->i < fP.getD y 0->(hc l)[i]?=some b->l7 mk b
 ord:∃ ρ:aB->Nat,∀ a l,eg t a=some l->l7 mk a->ρ a < r.length/\∀ b∈l.2.2.1,l7 mk b/\ρ b < ρ a
def JX(t:List (List aQ)) (r:List aB) (q:(List aB)×(List Int)×(List Int)):Prop:=∃ cv mk' dN,q=(cv,e1 mk',e1 dN)/\(cv.length=r.length+1\/cv.length=r.length)/\nQ t cv mk' dN
theorem nQ.more{t:List (List aQ)} (aK:t.length=6) (au:pE t) {r:List aB} {mk fP:List Nat} (h:nQ t r mk fP) {y:Nat} (aH:y < 6) {l:aQ} (ad:eg t (hb mk y)=some l) (um:fP.getD y 0=(hc l).length) (z:aB) :
  nQ t (r++[z]) (mk.set y (mk.getD y 0+1)) (fP.set y 0):=by
 have mF:=h.sb;have mB:=h.sc;have hle:=h.le y;have iO:=h.jK;have aV:∀ j,(mk.set y (mk.getD y 0+1)).getD j 0=if j=y then mk.getD y 0+1 else mk.getD j 0:=fun j=>oE _ _ _ _ (by omega)
 have dp:∀ a,l7 mk a->l7 (mk.set y (mk.getD y 0+1)) a:=by
  intro a aS;unfold l7 at aS ⊢;rw[aV]
  split
  ·rename_i e
   rw[e]at aS;omega
  ·exact aS
 have aL:mk.getD y 0 < (t.getD y []).length:=by
  unfold hb at ad;rw[lh]at ad;exact(List.getElem?_eq_some_iff.1 ad).1
 have a6:∀ b∈hc l,l7 mk b:=by
  intro b ae;obtain⟨i,hi⟩:=List.getElem?_of_mem ae;exact h.there y l i b ad (by rw[um]; exact(List.getElem?_eq_some_iff.1 hi).1) hi
 have hU:¬ l7 mk (hb mk y):=by
  unfold l7 hb;rw[show((y:Int)+1 - 1).toNat=y by omega];omega
 refine⟨by rw[List.length_set]; exact mF,by rw[List.length_set]; exact mB,fun j=>?_,by rw[List.length_append,Ju _ _ (by omega),iO]; rfl,fun j l' fz=>?_,fun j l' i b fz hi ae=>?_,?_⟩
 ·rw[aV]
  split
  ·rename_i e
   subst e;omega
  ·exact h.le j
 ·rw[oE _ _ _ _ (by omega)]
  split
  ·omega
  ·rename_i e
   refine h.ok j l' ?_;unfold hb at fz ⊢;rw[aV,if_neg e]at fz;exact fz
 ·rw[oE _ _ _ _ (by omega)]at hi
  split at hi
  ·omega
  ·rename_i e
   refine dp b (h.there j l' i b ?_ hi ae);unfold hb at fz ⊢;rw[aV,if_neg e]at fz;exact fz
 ·obtain⟨ρ,fm⟩:=h.ord
  refine⟨fun a=>if a=hb mk y then r.length else ρ a,fun a l' hV aS=>?_⟩;rw[List.length_append,List.length_singleton];dsimp only
  by_cases e:a=hb mk y
  ·subst e
   rw[ad]at hV;cases hV;rw[if_pos rfl];refine⟨by omega,fun b ae=>?_⟩;have kt:=a6 b (List.mem_append.2 (Or.inl ae));obtain⟨lb,Hy⟩:=(au _ l ad).thr b ae;have cG:b≠hb mk y:=fun e=>hU (e ▸ kt)
   rw[if_neg cG];exact⟨dp b kt,(fm b lb Hy kt).1⟩
  ·have agn:l7 mk a:=by
    unfold l7 at aS ⊢;rw[aV]at aS
    split at aS
    ·rename_i a1
     rw[a1];unfold eg at hV
     split at hV
     ·rename_i J
      by_cases cq:a.2=((mk.getD y 0:Nat):Int)
      ·refine absurd (Prod.ext ?_ cq) e
       show a.1=(y:Int)+1;omega
      ·omega
     ·cases hV
    ·exact aS
   obtain⟨g1,g2⟩:=fm a l' hV agn;rw[if_neg e];refine⟨by omega,fun b ae=>?_⟩;obtain⟨g3,g4⟩:=g2 b ae;have cG:b≠hb mk y:=fun e=>hU (e ▸ g3)
   rw[if_neg cG];exact⟨dp b g3,g4⟩
theorem ago{N:Nat} (aT:5000 < N) {t:List (List aQ)} (aK:t.length=6) (au:pE t) (aY:cl t<=2048) {r:List aB} {mk fP:List Nat} (dE:nQ t r mk fP) {y:Nat} (aH:y < 6) {l:aQ} (ad:eg t (hb mk y)=some l) (eD:(Int×(List Int))->Option ((List aB)×(List Int)×(List Int)))
  (Jw:∀ dN,nQ t r mk dN->T (eD ((y:Int)+1,e1 dN)) (JX t r)) :
  T (tU N t (e1 mk) (y:Int) eD N (e1 fP)) fun o=>(∃ dN,o=.inl (e1 dN)/\nQ t r mk dN/\dN.getD y 0=(hc l).length)\/(∃ q,o=.inr q/\JX t r q):=by
 obtain⟨row,bX⟩:∃ row,t[y]?=some row:=⟨_,List.getElem?_eq_getElem (by omega)⟩
 have hV:=ad;unfold hb at hV;rw[lh,bB bX]at hV;have dO:=au _ l ad;have ui:=dO.m5;have Js:=dO.r4;have wW:(hc l).length=l.2.2.1.length+l.2.2.2.length:=by unfold hc; rw[List.length_append,List.length_map]
 unfold tU;refine eI (fun k d=>∃ dN,d=e1 dN/\nQ t r mk dN/\dN.getD y 0+k=(hc l).length) _ ?_ N ((hc l).length - fP.getD y 0) _ (by omega) ⟨fP,rfl,dE,by have:=dE.ok y l ad; omega⟩;rintro k d rec ⟨dN,rfl,fQ,ab⟩ bm;have mB:=fQ.sc;have mF:=fQ.sb;have aC:((l.2.2.1.length:Int)+(l.2.2.2.length:Int))=((hc l).length:Int):=by omega
 by_cases aL:dN.getD y 0 < (hc l).length
 ·obtain⟨b,ae⟩:∃ b,(hc l)[dN.getD y 0]?=some b:=⟨_,List.getElem?_eq_getElem aL⟩
  have kt:=List.mem_of_getElem? ae;have Al:eM t b:=by
   unfold hc at kt;rw[List.mem_append,List.mem_map]at kt
   rcases kt with kt | ⟨p,an,rfl⟩
   ·exact dO.thr b kt
   ·exact dO.m4 p an
  have Jx:=r2 Al;rw[aK]at Jx;have qn:=ko.1 Al;have br:((dN.getD y 0:Nat):Int) < ((hc l).length:Int):=by omega
  have hw:=wT qn.1 (by omega:b.1<=6);simp only[aG,Int.reduceEq,Int.reduceLT,Int.reduceLE,reduceCtorEq,r8,r9,bB bX,bB hV,aC,br,bu (QC N l (by omega) (by omega) ae),hw];refine⟨by(repeat' apply And.intro)<;>first | omega | (simp only[bF]; omega) | exact this | rfl | trivial,by(repeat' apply And.intro)<;>first | omega | (simp only[bF]; omega) | exact this | rfl | trivial,by(repeat' apply And.intro)<;>first | omega | (simp only[bF]; omega) | exact this | rfl | trivial,by(repeat' apply And.intro)<;>first | omega | (simp only[bF]; omega) | exact this | rfl | trivial,fun e=>?_,fun e=>?_⟩
  ·exact⟨by(repeat' apply And.intro)<;>first | omega | (simp only[bF]; omega) | exact this | rfl | trivial,(Jw dN fQ).mono fun q ao=>Or.inr ⟨q,rfl,ao⟩⟩
  ·have gN:(e1 dN).set y (((dN.getD y 0:Nat):Int)+1)=e1 (dN.set y (dN.getD y 0+1)):=by
    rw[<- wV]
    rfl
   rw[gN];have this:=bm (k - 1) (e1 (dN.set y (dN.getD y 0+1))) (by omega) ⟨_,rfl,⟨mF,by rw[List.length_set]; exact mB,fQ.le,fQ.jK,fun z l' fz=>?_,fun z l' i b' fz hi eX=>?_,fQ.ord⟩,by rw[oE _ _ _ _ (by omega),if_pos rfl]; omega⟩
   ·(repeat' apply And.intro)<;>first | omega | (simp only[bF]; omega) | exact this | rfl | trivial
   ·rw[oE _ _ _ _ (by omega)]
    split
    ·rename_i a1
     subst a1;rw[ad]at fz;cases fz;exact aL
    ·exact fQ.ok z l' fz
   ·rw[oE _ _ _ _ (by omega)]at hi
    split at hi
    ·rename_i a1
     subst a1;rw[ad]at fz;cases fz
     by_cases cq:i=dN.getD z 0
     ·subst cq
      rw[ae]at eX;cases eX;unfold l7;omega
     ·exact fQ.there z l i b' ad (by omega) eX
    ·exact fQ.there z l' i b' fz hi eX
 ·have br:¬ ((dN.getD y 0:Nat):Int) < ((hc l).length:Int):=by omega
  have hle:=fQ.ok y l ad;simp only[aG,Int.reduceEq,Int.reduceLT,Int.reduceLE,reduceCtorEq,r8,r9,bB bX,bB hV,aC,br];refine⟨by(repeat' apply And.intro)<;>first | omega | (simp only[bF]; omega) | exact this | rfl | trivial,Or.inl ⟨dN,rfl,fQ,by omega⟩⟩
theorem agp{N:Nat} (aT:5000 < N) {t:List (List aQ)} (aK:t.length=6) (au:pE t) (aY:cl t<=2048) {r:List aB} {mk fP:List Nat} (dE:nQ t r mk fP) (aL:mk.sum < cl t) :
  T (tV N t r (e1 mk) N ((0:Int),e1 fP)) (JX t r):=by
 unfold tV;refine eI (fun k d=>∃ (y:Nat) (dN:List Nat),y+k=6/\d=((y:Int),e1 dN)/\nQ t r mk dN) _ ?_ N 6 _ (by omega) ⟨0,fP,by omega,rfl,dE⟩;rintro k d rec ⟨y,dN,aH,rfl,fQ⟩ bm;have mB:=fQ.sc;have mF:=fQ.sb
 by_cases DU:y < 6
 ·obtain⟨row,bX⟩:∃ x,t[y]?=some x:=⟨_,List.getElem?_eq_getElem (by omega)⟩
  have br:(y:Int) < (t.length:Int):=by omega
  have hle:=fQ.le y;have fj:=lE (t:=t) y;rw[bB bX]at hle fj;simp only[aG,Int.reduceEq,Int.reduceLT,Int.reduceLE,reduceCtorEq,br,r8,r9,bB bX];refine⟨by(repeat' apply And.intro)<;>first | omega | (simp only[bF]; omega) | exact this | rfl | trivial,by(repeat' apply And.intro)<;>first | omega | (simp only[bF]; omega) | exact this | rfl | trivial,fun e=>?_,fun e=>?_⟩
  ·have this:=bm (k - 1) _ (by omega) ⟨y+1,dN,by omega,rfl,fQ⟩
   (repeat' apply And.intro)<;>first | omega | (simp only[bF]; omega) | exact this | rfl | trivial
  ·obtain⟨l,ad⟩:∃ l,row[mk.getD y 0]?=some l:=⟨_,List.getElem?_eq_getElem (by omega)⟩
   have wW:eg t (hb mk y)=some l:=by unfold hb; rw[lh,bB bX,ad]
   refine⟨by(repeat' apply And.intro)<;>first | omega | (simp only[bF]; omega) | exact this | rfl | trivial,(ago aT aK au aY fQ DU wW rec fun qP oF=>bm (k - 1) _ (by omega) ⟨y+1,qP,by omega,rfl,oF⟩).mono ?_⟩;rintro o (⟨qP,rfl,oF,agq⟩ | ⟨q,rfl,ao⟩)
   ·have iO:=oF.jK
    have QD:=oF.sc;have gN:(e1 mk).set y (((mk.getD y 0:Nat):Int)+1)=e1 (mk.set y (mk.getD y 0+1)):=by
     rw[<- wV]
     rfl
    have xw:(e1 qP).set y (0:Int)=e1 (qP.set y 0):=by rw[<- wV]; rfl
    simp only[aG,Int.reduceEq,Int.reduceLT,Int.reduceLE,reduceCtorEq,r8,r9,gN,xw,List.length_singleton];exact⟨by(repeat' apply And.intro)<;>first | omega | (simp only[bF]; omega) | exact this | rfl | trivial,by(repeat' apply And.intro)<;>first | omega | (simp only[bF]; omega) | exact this | rfl | trivial,by(repeat' apply And.intro)<;>first | omega | (simp only[bF]; omega) | exact this | rfl | trivial,_,_,_,rfl,Or.inl (by simp),oF.more aK au DU wW agq _⟩
   ·simp only[aG,Int.reduceEq,Int.reduceLT,Int.reduceLE,reduceCtorEq]
    exact ao
 ·have br:¬ (y:Int) < (t.length:Int):=by omega
  simp only[aG,Int.reduceEq,Int.reduceLT,Int.reduceLE,reduceCtorEq,br];exact⟨r,mk,dN,rfl,Or.inr rfl,fQ⟩
def Aw(t:List (List aQ)):Prop:=∃ ρ:aB->Nat,∀ a l,eg t a=some l->ρ a < cl t/\∀ b∈l.2.2.1,ρ b < ρ a
theorem JY:∀ (t:List (List aQ)) (mk:List Nat),t.length=mk.length->(∀ i,mk.getD i 0<=(t.getD i []).length)->mk.sum<=cl t
 | [],[],_,_=>by simp
 | [],m :: mk,h,_=>by cases h
 | r :: t,[],h,_=>by cases h
 | r :: t,m :: mk,h,hle=>by
  have J:=JY t mk (by simpa using h) fun i=>by simpa using hle (i+1)
  have ag:m<=r.length:=by simpa using hle 0
  have aC:cl (r :: t)=r.length+cl t:=by simp[cl]
  rw[aC,List.sum_cons];omega
theorem Q9:∀ (t:List (List aQ)) (mk:List Nat),t.length=mk.length->(∀ i,mk.getD i 0<=(t.getD i []).length)->cl t<=mk.sum->∀ i,(t.getD i []).length<=mk.getD i 0
 | [],[],_,_,_,i=>by simp
 | [],m :: mk,h,_,_,_=>by cases h
 | r :: t,[],h,_,_,_=>by cases h
 | r :: t,m :: mk,h,hle,aj,i=>by
  have aC:cl (r :: t)=r.length+cl t:=by simp[cl]
  have h0:m<=r.length:=by simpa using hle 0
  have mB:∀ i,mk.getD i 0<=(t.getD i []).length:=fun i=>by simpa using hle (i+1)
  have pI:=JY t mk (by simpa using h) mB;rw[aC,List.sum_cons]at aj;cases i with
  | zero=>show r.length<=m; omega
  | succ i=>
   have:=Q9 t mk (by simpa using h) mB (by omega) i
   simpa using this
theorem agr{N:Nat} (aT:5000 < N) {t:List (List aQ)} (aK:t.length=6) (au:pE t) (aY:cl t<=2048):T (qF N t) fun r=>r.length<=10000/\(cl t<=r.length->Aw t):=by
 have U:T (tW N t (cl t:Int) N ([],e1 (List.replicate 6 0),e1 (List.replicate 6 0))) fun r=>r.length<=10000/\(cl t<=r.length->Aw t):=by
  unfold tW;have bk:∀ i:Nat,(List.replicate 6 0).getD i 0=0:=fun i=>by
   rw[List.getD_eq_getElem?_getD,List.getElem?_replicate]
   split<;>rfl
  have fin:∀ {r mk fP},nQ t r mk fP->cl t<=r.length->Aw t:=by
   intro r mk fP dE hle;have iO:=dE.jK;have hS:=Q9 t mk (by rw[aK,dE.sb]) dE.le (by omega);obtain⟨ρ,fm⟩:=dE.ord;have Kr:=JY t mk (by rw[aK,dE.sb]) dE.le;refine⟨ρ,fun a l ad=>?_⟩;have ags:l7 mk a:=by
    have:=ko.1 ⟨l,ad⟩
    have U:=hS (a.1 - 1).toNat;unfold l7;omega
   obtain⟨g1,g2⟩:=fm a l ad ags;exact⟨by omega,fun b ae=>(g2 b ae).2⟩
  refine eI (fun k d=>∃ r mk fP,d=(r,e1 mk,e1 fP)/\nQ t r mk fP/\r.length+k=cl t) _ ?_ N (cl t) _ (by omega) ⟨[],_,_,rfl,⟨rfl,rfl,fun y=>?_,rfl,fun y l _=>?_,fun y l i b _ hi=>?_,⟨fun _=>0,fun a l ad aS=>?_⟩⟩,by simp⟩
  ·rintro k d rec ⟨r,mk,fP,rfl,dE,ab⟩ bm
   have iO:=dE.jK
   by_cases aL:r.length < cl t
   ·simp only[aG,Int.reduceEq,Int.reduceLT,Int.reduceLE,reduceCtorEq,show(r.length:Int) < (cl t:Int) by omega]
    refine(agp aT aK au aY dE (by omega)).mono ?_;rintro o ⟨cv,mk',dN,rfl,ad,fQ⟩;refine⟨fun e=>?_,fun e=>?_⟩
    ·dsimp only at e ⊢
     exact⟨by omega,fin fQ⟩
    ·have cu:¬ (cv.length:Int)=(r.length:Int):=e
     exact bm (k - 1) _ (by omega) ⟨cv,mk',dN,rfl,fQ,by omega⟩
   ·simp only[aG,Int.reduceEq,Int.reduceLT,Int.reduceLE,reduceCtorEq,show ¬ (r.length:Int) < (cl t:Int) by omega]
    exact⟨by omega,fin dE⟩
  ·rw[bk]; omega
  ·rw[bk]; omega
  ·rw[bk]at hi; omega
  ·exfalso
   unfold l7 at aS;rw[bk]at aS
   have:=ko.1 ⟨l,ad⟩
   omega
 unfold qF;simp only[l5,bu (Aa (N:=N) t (by omega) (by omega) (by omega))];simp only[aG,Int.reduceEq,Int.reduceLT,Int.reduceLE,reduceCtorEq,aK];refine⟨by omega,by omega,by omega,?_⟩;exact U

theorem agt{N:Nat} (aT:5000 < N) {t:List (List aQ)} (aY:t.length=6->cl t<=2048) (a6:JU t):T (wD N t) fun e=>e=0->t.length=6/\pE t/\Aw t:=by
 unfold wD Dh;simp only[aG,Int.reduceEq,Int.reduceLT,Int.reduceLE,reduceCtorEq];refine fun aK=>?_
 have aK:t.length=6:=by omega
 have aY:=aY aK;simp only[bu (Aa (N:=N) t (by omega) (by omega) (by omega)),aG,Int.reduceEq,Int.reduceLT,Int.reduceLE,reduceCtorEq,show ¬ (2048:Int) < (cl t:Int) by omega];refine(agl aT aK aY a6).mono fun aC J=>⟨fun e h=>absurd h e,fun e=>?_⟩
 have dO:=J e;refine(agm aT aK aY dO).mono fun a1 _=>⟨fun e h=>absurd h e,fun e=>?_⟩
 refine(agr aT aK dO aY).mono fun r au=>fun hle=>?_
 have iO:=au.1;unfold tT;simp only[aG,Int.reduceEq,Int.reduceLT,Int.reduceLE,reduceCtorEq,List.length_replicate];refine⟨by omega,?_⟩
 first | exact⟨aK,dO,au.2 (by omega)⟩ | exact fun _=>⟨aK,dO,au.2 (by omega)⟩
theorem Ra{N:Nat} (aT:5000 < N) (a b:Int):T (zw N [a,b]) fun _=>True:=by
 unfold zw;simp only[aG,Int.reduceEq,Int.reduceLT,Int.reduceLE,reduceCtorEq];refine T.mono (P:=fun _=>True) ?_ fun o _=>by cases o<;>simp only[aG,Int.reduceEq,Int.reduceLT,Int.reduceLE,reduceCtorEq]
 unfold O0;refine eI (fun k d=>∃ j:Nat,j+k=2/\d=(j:Int)) _ ?_ N 2 _ (by omega) ⟨0,by omega,rfl⟩;rintro k d rec ⟨j,aF,rfl⟩ bm
 by_cases aL:j < 2
 ·have this:=bm (k - 1) _ (by omega) ⟨j+1,by omega,rfl⟩
  simp only[aG,Int.reduceEq,Int.reduceLT,Int.reduceLE,reduceCtorEq,List.length_cons,List.length_nil,show(j:Int) < ((0+1+1:Nat):Int) by omega];refine⟨by(repeat' apply And.intro)<;>first | omega | (simp only[bF]; omega) | exact this | rfl | trivial,fun _=>⟨by(repeat' apply And.intro)<;>first | omega | (simp only[bF]; omega) | exact this | rfl | trivial,this⟩⟩
 ·simp only[aG,Int.reduceEq,Int.reduceLT,Int.reduceLE,reduceCtorEq,List.length_cons,List.length_nil,show ¬ (j:Int) < ((0+1+1:Nat):Int) by omega]
theorem agu(N:Nat) (a b:Int):T (C7 N a b) fun _=>True:=by
 unfold C7 C6;simp only[aG,Int.reduceEq,Int.reduceLT,Int.reduceLE,reduceCtorEq,ite_self,implies_true]
theorem agv(N:Nat) (a b:Int):T (C9 N a b) fun _=>True:=by
 unfold C9 C8;simp only[aG,Int.reduceEq,Int.reduceLT,Int.reduceLE,reduceCtorEq,ite_self,implies_true]
theorem D5{N:Nat} (aT:5000 < N) (a b:aB):T (ow N a b) fun _=>True:=by
 unfold ow;simp only[aG,Int.reduceEq,Int.reduceLT,Int.reduceLE,reduceCtorEq];exact(agu N a.1 b.1).mono fun x _=>(agv N a.2 b.2).mono fun y _=>Ra aT x y
theorem agw{N:Nat} (aT:5000 < N) (a b:b9):T (Da N a b) fun _=>True:=by
 unfold Da;simp only[aG,Int.reduceEq,Int.reduceLT,Int.reduceLE,reduceCtorEq];exact(D5 aT a.1 b.1).mono fun x _=>(D5 aT a.2.1 b.2.1).mono fun y _=>Ra aT x y
structure qU(f:eC):Prop where
 JZ:JU f.1
 agx:∀ c∈f.2.1,ku c.1/\ku c.2.1
 agy:∀ a∈f.2.2.1,ku a
 Rb:∀ a∈f.2.2.2,ku a
theorem agz{N:Nat} (aT:5000 < N) {f:eC} (aK:f.1.length=6) (a6:qU f) (hr:f.2.1.length<=10):T (wF N f) fun _=>True:=by
 unfold wF;simp only[aG,Int.reduceEq,Int.reduceLT,Int.reduceLE,reduceCtorEq];refine T.mono (P:=fun _=>True) ?_ fun o _=>by cases o<;>simp only[aG,Int.reduceEq,Int.reduceLT,Int.reduceLE,reduceCtorEq]
 unfold Iy;refine eI (fun k d=>∃ j:Nat,j+k=f.2.1.length/\d=(j:Int)) _ ?_ N f.2.1.length _ (by omega) ⟨0,by omega,rfl⟩;rintro k d rec ⟨j,aF,rfl⟩ bm
 by_cases aL:j < f.2.1.length
 ·obtain⟨x,ah⟩:∃ x,f.2.1[j]?=some x:=⟨_,List.getElem?_eq_getElem aL⟩
  have Av:=a6.agx x (List.mem_of_getElem? ah);have this:T (rec ((j:Int)+1)) fun _=>True:=bm (k - 1) _ (by omega) ⟨j+1,by omega,rfl⟩
  simp only[aG,Int.reduceEq,Int.reduceLT,Int.reduceLE,reduceCtorEq,show(j:Int) < (f.2.1.length:Int) by omega,bB ah,bu (JV N aK Av.1),bu (JV N aK Av.2)];obtain⟨p,an,_⟩:=agw aT (f.2.1.getD ((j:Int) - 1).toNat bW.zero) x;obtain⟨q,ao,_⟩:=D5 aT x.1 x.2.1;simp only[aG,Int.reduceEq,Int.reduceLT,Int.reduceLE,reduceCtorEq,bu an,bu ao];have gI:(-9223372036854775808:Int)<=(j:Int)+1/\(j:Int)+1<=9223372036854775807:=by omega
  simp only[this,gI,aG,Int.reduceEq,Int.reduceLT,Int.reduceLE,reduceCtorEq];omega
 ·simp only[aG,Int.reduceEq,Int.reduceLT,Int.reduceLE,reduceCtorEq,show ¬ (j:Int) < (f.2.1.length:Int) by omega]
theorem Rc{N:Nat} (aT:5000 < N) {f:eC} (aK:f.1.length=6) {v:Nat} {l:List aB} (aw:([f.2.2.1,f.2.2.2]:List (List aB))[v]?=some l) (ad:∀ a∈l,ku a) (hr:l.length<=10):T (tX N f (v:Int) N (0:Int)) fun o=>o=.inl ()\/o=.inr (.inr 7):=by
 unfold tX;refine eI (fun k d=>∃ j:Nat,j+k=l.length/\d=(j:Int)) _ ?_ N l.length _ (by omega) ⟨0,by omega,rfl⟩;rintro k d rec ⟨j,aF,rfl⟩ bm
 by_cases aL:j < l.length
 ·obtain⟨x,ah⟩:∃ x,l[j]?=some x:=⟨_,List.getElem?_eq_getElem aL⟩
  have this:=bm (k - 1) _ (by omega) ⟨j+1,by omega,rfl⟩;simp only[aG,Int.reduceEq,Int.reduceLT,Int.reduceLE,reduceCtorEq,bB aw,show(j:Int) < (l.length:Int) by omega,bB ah,bu (JV N aK (ad x (List.mem_of_getElem? ah)))];refine⟨by(repeat' apply And.intro)<;>first | omega | (simp only[bF]; omega) | exact this | rfl | trivial,fun _=>by(repeat' apply And.intro)<;>first | omega | (simp only[bF]; omega) | exact this | rfl | trivial⟩
 ·simp only[aG,Int.reduceEq,Int.reduceLT,Int.reduceLE,reduceCtorEq,bB aw,show ¬ (j:Int) < (l.length:Int) by omega]
theorem agA{N:Nat} (aT:5000 < N) {f:eC} (aK:f.1.length=6) (aY:cl f.1<=2048) (au:pE f.1) (a6:qU f) (b1:f.2.2.1.length<=10) (az:f.2.2.2.length<=10):T (wH N f) fun _=>True:=by
 have J:T (zI N f N (0:Int)) fun o=>o=.inl ()\/o=.inr 7:=by
  unfold zI;refine eI (fun k d=>∃ j:Nat,j+k=2/\d=(j:Int)) _ ?_ N 2 _ (by omega) ⟨0,by omega,rfl⟩;rintro k d rec ⟨j,aF,rfl⟩ bm
  by_cases aL:j < 2
  ·have Jy:T (tX N f (j:Int) N (0:Int)) fun o=>o=.inl ()\/o=.inr (.inr 7):=by
    have:j=0\/j=1:=by omega
    rcases this with rfl | rfl
    ·exact Rc aT aK (v:=0) rfl a6.agy b1
    ·exact Rc aT aK (v:=1) rfl a6.Rb az
   simp only[aG,Int.reduceEq,Int.reduceLT,Int.reduceLE,reduceCtorEq,show(j:Int) < 2 by omega,List.length_cons,List.length_nil];refine⟨by(repeat' apply And.intro)<;>first | omega | (simp only[bF]; omega) | exact this | rfl | trivial,Jy.mono ?_⟩;rintro o (rfl | rfl)
   ·simp only[aG,Int.reduceEq,Int.reduceLT,Int.reduceLE,reduceCtorEq]
    exact⟨by(repeat' apply And.intro)<;>first | omega | (simp only[bF]; omega) | exact this | rfl | trivial,bm (k - 1) _ (by omega) ⟨j+1,by omega,rfl⟩⟩
   ·simp only[aG,Int.reduceEq,Int.reduceLT,Int.reduceLE,reduceCtorEq]
  ·simp only[aG,Int.reduceEq,Int.reduceLT,Int.reduceLE,reduceCtorEq,show ¬ (j:Int) < 2 by omega]
 have ay:T (zJ N f N (0:Int)) fun o=>o=.inl ()\/o=.inr 6:=by
  unfold zJ;refine eI (fun k d=>∃ j:Nat,j+k=f.2.2.2.length/\d=(j:Int)) _ ?_ N f.2.2.2.length _ (by omega) ⟨0,by omega,rfl⟩;rintro k d rec ⟨j,aF,rfl⟩ bm
  by_cases aL:j < f.2.2.2.length
  ·have this:T (rec ((j:Int)+1)) fun o=>o=.inl ()\/o=.inr 6:=bm (k - 1) _ (by omega) ⟨j+1,by omega,rfl⟩
   obtain⟨x,ah⟩:∃ x,f.2.2.2[j]?=some x:=⟨_,List.getElem?_eq_getElem aL⟩
   obtain⟨q,ao,_⟩:=D5 aT (f.2.2.2.getD ((j:Int) - 1).toNat bf.zero) x;simp only[aG,Int.reduceEq,Int.reduceLT,Int.reduceLE,reduceCtorEq,show(j:Int) < (f.2.2.2.length:Int) by omega,bB ah,bu ao,this];omega
  ·simp only[aG,Int.reduceEq,Int.reduceLT,Int.reduceLE,reduceCtorEq,show ¬ (j:Int) < (f.2.2.2.length:Int) by omega]
 have hB:∀ (y:Nat) (row:List aQ) (m:hP) (L:List aB),f.1[y]?=some row->fH m L->L.length<=20+8192 * y->T (zK N f (y:Int) N ((0:Int),m)) fun cI=>∃ cY,fH cI cY/\cY.length<=20+8192 * (y+1):=by
  intro y row m L bX hm JW;have aH:=(List.getElem?_eq_some_iff.1 bX).1;have fj:=lE (t:=f.1) y;rw[bB bX]at fj;unfold zK;refine eI (fun k d=>∃ (j:Nat) (cI:hP) (cY:List aB),j+k=row.length/\d=((j:Int),cI)/\fH cI cY/\cY.length<=L.length+4 * j) _ ?_ N row.length _ (by omega) ⟨0,m,L,by omega,rfl,hm,by omega⟩;rintro k d rec ⟨j,cI,cY,aF,rfl,gG,w5⟩ bm
  by_cases aL:j < row.length
  ·obtain⟨l,ad⟩:∃ x,row[j]?=some x:=⟨_,List.getElem?_eq_getElem aL⟩
   have ui:=(au ((y:Int)+1,(j:Int)) l (by rw[lh,bB bX,ad])).m5;simp only[aG,Int.reduceEq,Int.reduceLT,Int.reduceLE,reduceCtorEq,bB bX,show(j:Int) < (row.length:Int) by omega,bB ad];exact⟨by(repeat' apply And.intro)<;>first | omega | (simp only[bF]; omega) | exact this | rfl | trivial,(wX aT l.2.2.1 (by omega) gG (by omega)).mono fun fS j6=>⟨by(repeat' apply And.intro)<;>first | omega | (simp only[bF]; omega) | exact this | rfl | trivial,bm (k - 1) _ (by omega) ⟨j+1,fS,_,by omega,rfl,j6,by rw[List.length_append]; omega⟩⟩⟩
  ·simp only[aG,Int.reduceEq,Int.reduceLT,Int.reduceLE,reduceCtorEq,bB bX,show ¬ (j:Int) < (row.length:Int) by omega]
   exact⟨cY,gG,by omega⟩
 have c3:∀ (m:hP) (L:List aB),L.length<=20->fH m L->T (zL N f N ((0:Int),m)) fun _=>True:=by
  intro m L JW hm;unfold zL;refine eI (fun k d=>∃ (j:Nat) (cI:hP) (cY:List aB),j+k=f.1.length/\d=((j:Int),cI)/\fH cI cY/\cY.length<=20+8192 * j) _ ?_ N f.1.length _ (by omega) ⟨0,m,L,by omega,rfl,hm,by omega⟩;rintro k d rec ⟨j,cI,cY,aF,rfl,gG,w5⟩ bm
  by_cases aL:j < f.1.length
  ·obtain⟨row,bX⟩:∃ x,f.1[j]?=some x:=⟨_,List.getElem?_eq_getElem aL⟩
   simp only[aG,Int.reduceEq,Int.reduceLT,Int.reduceLE,reduceCtorEq,show(j:Int) < (f.1.length:Int) by omega];exact⟨by(repeat' apply And.intro)<;>first | omega | (simp only[bF]; omega) | exact this | rfl | trivial,(hB j row cI cY bX gG w5).mono fun fS ⟨o8,j6,ud⟩=>⟨by(repeat' apply And.intro)<;>first | omega | (simp only[bF]; omega) | exact this | rfl | trivial,bm (k - 1) _ (by omega) ⟨j+1,fS,o8,by omega,rfl,j6,by omega⟩⟩⟩
  ·simp only[aG,Int.reduceEq,Int.reduceLT,Int.reduceLE,reduceCtorEq,show ¬ (j:Int) < (f.1.length:Int) by omega]
 have lY:∀ (y:Nat) (row:List aQ) (m:hP),y < 6->f.1[y]?=some row->T (zM N f m (y:Int) N (0:Int)) fun o=>o=.inl ()\/o=.inr (.inr 6):=by
  intro y row m aH bX;have fj:=lE (t:=f.1) y;rw[bB bX]at fj;unfold zM;refine eI (fun k d=>∃ j:Nat,j+k=row.length/\d=(j:Int)) _ ?_ N row.length _ (by omega) ⟨0,by omega,rfl⟩;rintro k d rec ⟨j,aF,rfl⟩ bm
  by_cases aL:j < row.length
  ·have this:=bm (k - 1) _ (by omega) ⟨j+1,by omega,rfl⟩
   simp only[aG,Int.reduceEq,Int.reduceLT,Int.reduceLE,reduceCtorEq,bB bX,show(j:Int) < (row.length:Int) by omega];exact⟨by(repeat' apply And.intro)<;>first | omega | (simp only[bF]; omega) | exact this | rfl | trivial,fun _=>by(repeat' apply And.intro)<;>first | omega | (simp only[bF]; omega) | exact this | rfl | trivial⟩
  ·simp only[aG,Int.reduceEq,Int.reduceLT,Int.reduceLE,reduceCtorEq,bB bX,show ¬ (j:Int) < (row.length:Int) by omega]
 have k9:∀ (m:hP),T (zN N f m N (0:Int)) fun o=>o=.inl ()\/o=.inr 6:=by
  intro m;unfold zN;refine eI (fun k d=>∃ j:Nat,j+k=f.1.length/\d=(j:Int)) _ ?_ N f.1.length _ (by omega) ⟨0,by omega,rfl⟩;rintro k d rec ⟨j,aF,rfl⟩ bm
  by_cases aL:j < f.1.length
  ·obtain⟨row,bX⟩:∃ x,f.1[j]?=some x:=⟨_,List.getElem?_eq_getElem aL⟩
   simp only[aG,Int.reduceEq,Int.reduceLT,Int.reduceLE,reduceCtorEq,show(j:Int) < (f.1.length:Int) by omega];refine⟨by(repeat' apply And.intro)<;>first | omega | (simp only[bF]; omega) | exact this | rfl | trivial,(lY j row m (by omega) bX).mono ?_⟩;rintro o (rfl | rfl)
   ·simp only[aG,Int.reduceEq,Int.reduceLT,Int.reduceLE,reduceCtorEq]
    exact⟨by(repeat' apply And.intro)<;>first | omega | (simp only[bF]; omega) | exact this | rfl | trivial,bm (k - 1) _ (by omega) ⟨j+1,by omega,rfl⟩⟩
   ·simp only[aG,Int.reduceEq,Int.reduceLT,Int.reduceLE,reduceCtorEq]
  ·simp only[aG,Int.reduceEq,Int.reduceLT,Int.reduceLE,reduceCtorEq,show ¬ (j:Int) < (f.1.length:Int) by omega]
 unfold wH;simp only[aG,Int.reduceEq,Int.reduceLT,Int.reduceLE,reduceCtorEq];refine J.mono ?_;rintro o (rfl | rfl)
 ·simp only[aG,Int.reduceEq,Int.reduceLT,Int.reduceLE,reduceCtorEq]
  refine ay.mono ?_;rintro o (rfl | rfl)
  ·simp only[aG,Int.reduceEq,Int.reduceLT,Int.reduceLE,reduceCtorEq]
   refine(wX aT f.2.2.1 (by omega) fH.nil (by simp; omega)).mono fun GN Jz=>?_
   refine(wX aT f.2.2.2 (by omega) Jz (by simp; omega)).mono fun fS j6=>?_
   refine(c3 fS _ (by simp; omega) j6).mono fun yR _=>(k9 yR).mono ?_
   rintro o (rfl | rfl)<;>simp only[aG,Int.reduceEq,Int.reduceLT,Int.reduceLE,reduceCtorEq]
  ·simp only[aG,Int.reduceEq,Int.reduceLT,Int.reduceLE,reduceCtorEq]
 ·simp only[aG,Int.reduceEq,Int.reduceLT,Int.reduceLE,reduceCtorEq]
structure Ax(f:eC):Prop where
 len:f.1.length=6
 right:pE f.1
 agB:Aw f.1
theorem agC{N:Nat} (aT:5000 < N) {f:eC} (aY:f.1.length=6->cl f.1<=2048) (a6:qU f) (av:f.2.1.length<=10) (b1:f.2.2.1.length<=10) (az:f.2.2.2.length<=10):T (pv N f) fun e=>e=0->Ax f:=by
 unfold pv;simp only[aG,Int.reduceEq,Int.reduceLT,Int.reduceLE,reduceCtorEq];refine(agt aT aY a6.JZ).mono fun e he=>⟨fun h0 J=>absurd J h0,fun h0=>?_⟩
 obtain⟨aK,dO,ab⟩:=he h0;refine(agz aT aK a6 av).mono fun e _=>⟨fun h0 J=>absurd J h0,fun h0=>?_⟩
 exact(agA aT aK (aY aK) dO a6 b1 az).mono fun _ _ _=>⟨aK,dO,ab⟩

theorem Rd{gJ ρ:Type} {step:gJ->(gJ->Option ρ)->Option ρ} (I:Nat->gJ->Prop) (post:Nat->ρ->Prop)
  (h:∀ k d rec,I k d->(∀ k' ga,k' < k->I k' ga->T (rec ga) (post k'))->T (step d rec) (post k)):∀ (n k:Nat) (d:gJ),k < n->I k d->T (ch step n d) (post k)
 | 0,_,_,h,_=>absurd h (Nat.not_lt_zero _)
 | n+1,k,d,ab,gI=>h k d _ gI fun k' ga kS zb=>Rd I post h n k' ga (by omega) zb
theorem agD(N:Nat) (l:aQ) (J:l.2.2.1.length<=10000) (U:l.2.2.2.length<=10000):Dm N l=some l:=by
 unfold Dm tT IL
 apply T.eq
 simp only[aG,Int.reduceEq,Int.reduceLT,Int.reduceLE,reduceCtorEq,List.length_replicate];omega
theorem J0(N:Nat) {t:List (List aQ)} (aK:t.length=6) (au:pE t) {a:aB} (aS:ku a):T (zR N t a) fun q=>(q.2=7/\eg t a=none)\/∃ l,eg t a=some l/\q=(l,0):=by
 unfold zR;simp only[aG,Int.reduceEq,Int.reduceLT,Int.reduceLE,reduceCtorEq,bu (D4 N aK aS)];refine⟨fun h=>?_,fun h=>?_⟩
 ·have Re:eg t a=none:=by
   cases e:eg t a with
   | none=>rfl
   | some l=>exact absurd ⟨l,e⟩ h
  first | exact Or.inl Re | exact Or.inl ⟨rfl,Re⟩
 ·obtain⟨l,ad⟩:=h
  have hi:=ko.1 ⟨l,ad⟩;have hle:=r2 ⟨l,ad⟩;rw[aK]at hle;have hw:=wT hi.1 (by omega:a.1<=6);have dO:=au a l ad;have ui:=dO.m5;have Js:=dO.r4;have fz:=ad;unfold eg at fz;rw[if_pos ⟨hi.1,hi.2.1⟩]at fz;simp only[hw,aK,bB fz,bu (agD N l (by omega) (by omega)),aG,Int.reduceEq,Int.reduceLT,Int.reduceLE,reduceCtorEq];refine⟨by omega,?_⟩
  first | exact Or.inr ⟨l,ad,rfl⟩ | exact⟨l,ad,rfl⟩
theorem agE{N:Nat} (aT:5000 < N) (l:List aB) (ad:l.length<=1000):T (Dn N l) fun r=>r.length=l.length/\∀ a∈r,a∈l:=by
 unfold Dn;simp only[aG,Int.reduceEq,Int.reduceLT,Int.reduceLE,reduceCtorEq];refine⟨by omega,?_⟩;unfold Ps;refine eI (fun k d=>∃ i:Nat,i+k=l.length/\d.1=(i:Int)/\d.2.1=(l.length:Int) - 1 - (i:Int)/\d.2.2.length=l.length/\∀ a∈d.2.2,a∈l) _ ?_ N l.length _ (by omega) ⟨0,by omega,rfl,by simp,rfl,fun a aS=>aS⟩;rintro k ⟨x,y,s⟩ rec ⟨i,hi,aC,a1,cq,ep⟩ bm;dsimp only at aC a1 cq ep;subst aC a1
 by_cases aL:(i:Int) < (l.length:Int) - 1 - (i:Int)
 ·have g1:s.getD i bf.zero∈s:=by rw[List.getD_eq_getElem?_getD,List.getElem?_eq_getElem (by omega)]; exact List.getElem_mem _
  have g2:s.getD (l.length - 1 - i) bf.zero∈s:=by rw[List.getD_eq_getElem?_getD,List.getElem?_eq_getElem (by omega)]; exact List.getElem_mem _
  have this:=bm (k - 1) ((i:Int)+1,(l.length:Int) - 1 - (i:Int) - 1,(s.set i (s.getD (l.length - 1 - i) bf.zero)).set (l.length - 1 - i) (s.getD i bf.zero)) (by omega) ⟨i+1,by omega,by omega,by dsimp only; omega,by simpa using cq,fun a aS=>by
   rcases List.mem_or_eq_of_mem_set aS with aS | aS
   ·rcases List.mem_or_eq_of_mem_set aS with aS | aS
    ·exact ep a aS
    ·rw[aS]; exact ep _ g2
   ·rw[aS]; exact ep _ g1⟩
  simp only[aG,Int.reduceEq,Int.reduceLT,Int.reduceLE,reduceCtorEq,aL,show((l.length:Int) - 1 - (i:Int)).toNat=l.length - 1 - i by omega,List.length_set,cq];exact⟨by omega,by omega,this⟩
 ·simp only[aG,Int.reduceEq,Int.reduceLT,Int.reduceLE,reduceCtorEq,aL]
  exact⟨cq,ep⟩
theorem agF{N:Nat} (aT:5000 < N) {f:eC} (g:Ax f) (a6:qU f):T (Dp N f) fun l=>l.length<=16/\∀ a∈l,ku a:=by
 unfold Dp;simp only[aG,Int.reduceEq,Int.reduceLT,Int.reduceLE,reduceCtorEq,Int.toNat_zero];refine⟨fun _=>⟨by simp,fun a aS=>by cases aS⟩,fun J=>?_⟩;have J:f.2.2.2.length=1:=by omega
 obtain⟨a,aS⟩:∃ x,f.2.2.2[0]?=some x:=⟨_,List.getElem?_eq_getElem (by omega)⟩
 have Gw:=a6.Rb a (List.mem_of_getElem? aS);simp only[J,bB aS];refine⟨by omega,T.mono (P:=fun o=>∃ l,(o=.inl l\/o=.inr l)/\l.length<=16/\∀ a∈l,ku a) ?_ ?_⟩
 ·unfold Pt
  refine eI (fun k d=>d.2.2.length+k=16/\ku (d.1,d.2.1)/\∀ a∈d.2.2,ku a) _ ?_ N 16 _ (by omega) ⟨rfl,Gw,fun a aS=>by cases aS⟩;rintro k ⟨y,n,s⟩ rec ⟨aC,a1,cq⟩ bm;dsimp only at aC a1 cq;simp only[aG,Int.reduceEq,Int.reduceLT,Int.reduceLE,reduceCtorEq];refine(J0 N g.len g.right a1).mono ?_;rintro q (⟨ub,_⟩ | ⟨l',ad,rfl⟩)
  ·simp only[ub,aG,Int.reduceEq,Int.reduceLT,Int.reduceLE,reduceCtorEq]
   exact⟨[],rfl,by simp,fun a aS=>by cases aS⟩
  ·have um:=(a6.JZ _ l' ad).1
   simp only[aG,Int.reduceEq,Int.reduceLT,Int.reduceLE,reduceCtorEq,Int.toNat_zero,Int.toNat_one];refine⟨fun _=>⟨[],rfl,by simp,fun a aS=>by cases aS⟩,fun kn=>⟨fun J=>?_,fun _=>⟨fun U=>?_,fun _=>⟨[],rfl,by simp,fun a aS=>by cases aS⟩⟩⟩⟩
   ·obtain⟨b,ae⟩:∃ x,l'.2.2.1[0]?=some x:=⟨_,List.getElem?_eq_getElem (by omega)⟩
    rw[bB ae,List.length_singleton];refine⟨by omega,s++[b],rfl,by rw[List.length_append,List.length_singleton]; omega,fun a aS=>?_⟩
    rcases List.mem_append.1 aS with aS | aS
    ·exact cq a aS
    ·rw[List.mem_singleton.1 aS]; exact um b (List.mem_of_getElem? ae)
   ·obtain⟨b,ae⟩:∃ x,l'.2.2.1[0]?=some x:=⟨_,List.getElem?_eq_getElem (by omega)⟩
    obtain⟨c,aa⟩:∃ x,l'.2.2.1[1]?=some x:=⟨_,List.getElem?_eq_getElem (by omega)⟩
    rw[bB ae,bB aa,List.length_singleton];refine⟨by omega,by omega,bm (k - 1) (b.1,b.2,s++[c]) (by omega) ⟨by dsimp only; rw[List.length_append,List.length_singleton]; omega,um b (List.mem_of_getElem? ae),fun a aS=>?_⟩⟩
    rcases List.mem_append.1 aS with aS | aS
    ·exact cq a aS
    ·rw[List.mem_singleton.1 aS]; exact um c (List.mem_of_getElem? aa)
 ·rintro o ⟨l,rfl | rfl,kn,bb⟩
  ·simp only[aG,Int.reduceEq,Int.reduceLT,Int.reduceLE,reduceCtorEq]
   exact(agE aT l (by omega)).mono fun r au=>⟨by omega,fun a aS=>bb a (au.2 a aS)⟩
  ·simp only[aG,Int.reduceEq,Int.reduceLT,Int.reduceLE,reduceCtorEq]
   exact⟨kn,bb⟩
theorem agG{N:Nat} (aT:5000 < N) (l:List (List aN)) (ad:l.length<=1000):T (C3 N l) fun r=>r.length=l.length/\∀ a∈r,a∈l:=by
 unfold C3;simp only[aG,Int.reduceEq,Int.reduceLT,Int.reduceLE,reduceCtorEq];refine⟨by omega,?_⟩;unfold OR;refine eI (fun k d=>∃ i:Nat,i+k=l.length/\d.1=(i:Int)/\d.2.1=(l.length:Int) - 1 - (i:Int)/\d.2.2.length=l.length/\∀ a∈d.2.2,a∈l) _ ?_ N l.length _ (by omega) ⟨0,by omega,rfl,by simp,rfl,fun a aS=>aS⟩;rintro k ⟨x,y,s⟩ rec ⟨i,hi,aC,a1,cq,ep⟩ bm;dsimp only at aC a1 cq ep;subst aC a1
 by_cases aL:(i:Int) < (l.length:Int) - 1 - (i:Int)
 ·have g1:s.getD i ([]:List aN)∈s:=by rw[List.getD_eq_getElem?_getD,List.getElem?_eq_getElem (by omega)]; exact List.getElem_mem _
  have g2:s.getD (l.length - 1 - i) ([]:List aN)∈s:=by rw[List.getD_eq_getElem?_getD,List.getElem?_eq_getElem (by omega)]; exact List.getElem_mem _
  have this:=bm (k - 1) ((i:Int)+1,(l.length:Int) - 1 - (i:Int) - 1,(s.set i (s.getD (l.length - 1 - i) ([]:List aN))).set (l.length - 1 - i) (s.getD i ([]:List aN))) (by omega) ⟨i+1,by omega,by omega,by dsimp only; omega,by simpa using cq,fun a aS=>by
   rcases List.mem_or_eq_of_mem_set aS with aS | aS
   ·rcases List.mem_or_eq_of_mem_set aS with aS | aS
    ·exact ep a aS
    ·rw[aS]; exact ep _ g2
   ·rw[aS]; exact ep _ g1⟩
  simp only[aG,Int.reduceEq,Int.reduceLT,Int.reduceLE,reduceCtorEq,aL,show((l.length:Int) - 1 - (i:Int)).toNat=l.length - 1 - i by omega,List.length_set,cq];exact⟨by omega,by omega,this⟩
 ·simp only[aG,Int.reduceEq,Int.reduceLT,Int.reduceLE,reduceCtorEq,aL]
  exact⟨cq,ep⟩
def Ay(t:List (List aQ)) (ρ:aB->Nat) (K:Nat) (l:List aB):Prop:=∀ a∈l,ku a/\∀ x,eg t a=some x->ρ a < K
def w6(K:Nat) (L:List (List aN×Unit)):Prop:=L.length<=K/\∀ e∈L,e.1.length<=16/\∀ x∈e.1,hI x
theorem agH{α:Type} {l:List α} {j:Nat} (h:j < l.length) (v:α):(l.set j v).take (j+1)=l.take j++[v]:=by
 rw[List.take_succ_eq_append_getElem (by rw[List.length_set]; exact h),List.getElem_set_self,List.take_set_of_le (Nat.le_refl j)]
theorem agI{N:Nat} (aT:5000 < N) {f:eC} (g:Ax f) (a6:qU f) {ρ:aB->Nat} (fm:∀ a l,eg f.1 a=some l->∀ b∈l.2.2.1,ρ b < ρ a) {K:Nat} {l:List aB} (ad:Ay f.1 ρ (K+1) l) (J:1<=l.length) (kn:l.length<=16) (cz:(List aB)->Option (List ((List aN)×Unit)))
  (agJ:∀ b,b.length<=16->Ay f.1 ρ K b->T (cz b) (w6 K)):T (DZ N true f l cz N ((0:Int),(List.replicate l.length (bN.zero:aN)),([]:List aB))) (w6 (K+1)):=by
 have h0:w6 (K+1) []:=⟨by simp,fun e he=>by cases he⟩
 unfold DZ;refine eI (fun k d=>∃ j:Nat,j+k=l.length/\d.1=(j:Int)/\d.2.1.length=l.length/\(∀ x∈d.2.1.take j,hI x)/\d.2.2.length=j/\Ay f.1 ρ K d.2.2) _ ?_ N l.length _ (by omega) ⟨0,by omega,rfl,by simp,fun x ah=>by simp at ah,rfl,fun a aS=>by cases aS⟩;rintro k ⟨i,row,Rf⟩ rec ⟨j,aF,aC,a1,cq,ep,gh⟩ bm;dsimp only at aC a1 cq ep gh;subst aC
 by_cases aL:j < l.length
 ·obtain⟨a,aS⟩:∃ x,l[j]?=some x:=⟨_,List.getElem?_eq_getElem aL⟩
  have fj:=ad a (List.mem_of_getElem? aS);simp only[aG,Int.reduceEq,Int.reduceLT,Int.reduceLE,reduceCtorEq,show(j:Int) < (l.length:Int) by omega,bB aS];refine⟨by(repeat' apply And.intro)<;>first | omega | (simp only[bF]; omega) | exact this | rfl | trivial,(J0 N g.len g.right fj.1).mono ?_⟩;rintro q (⟨ub,_⟩ | ⟨pN,ao,rfl⟩)
  ·simp only[ub,aG,Int.reduceEq,Int.reduceLT,Int.reduceLE,reduceCtorEq]
   exact h0
  ·have um:=(a6.JZ _ pN ao).1
   have ahS:=fj.2 pN ao;have hi:=ko.1 ⟨pN,ao⟩;have hle:=r2 ⟨pN,ao⟩;rw[g.len]at hle;have bX:j < row.length:=by omega
   have agK:∀ v:aN,(row.set j v).getD j bN.zero=v:=fun v=>by rw[List.getD_eq_getElem?_getD,List.getElem?_set_self bX]; rfl
   simp only[aG,Int.reduceEq,Int.reduceLT,Int.reduceLE,reduceCtorEq,Int.toNat_zero,agK,List.length_set,List.set_set];refine⟨fun _=>h0,fun e=>?_⟩;obtain⟨b,ae⟩:∃ x,pN.2.2.1[0]?=some x:=⟨_,List.getElem?_eq_getElem (by omega)⟩
   have kt:=List.mem_of_getElem? ae;rw[bB ae,List.length_singleton];have go:∀ v:aN,hI v->T (rec ((j:Int)+1,row.set j v,Rf++[b])) (w6 (K+1)):=fun v aw=>bm (k - 1) _ (by omega) ⟨j+1,by omega,rfl,by simpa using a1,fun x ah=>by
     rw[agH bX]at ah
     rcases List.mem_append.1 ah with ah | ah
     ·exact cq x ah
     ·rw[List.mem_singleton.1 ah]; exact aw,by simp[ep],fun c aa=>by
     rcases List.mem_append.1 aa with aa | aa
     ·exact gh c aa
     ·rw[List.mem_singleton.1 aa]
      refine⟨um b kt,fun x _=>?_⟩
      have:=fm a pN ao b kt
      omega⟩
   refine⟨by omega,fun _=>⟨by omega,by omega,by omega,go _ ⟨Or.inr rfl,hi.1,hle,rfl⟩⟩,fun _=>⟨by omega,by omega,go _ ⟨Or.inl rfl,hi.1,hle,rfl⟩⟩⟩
 ·simp only[aG,Int.reduceEq,Int.reduceLT,Int.reduceLE,reduceCtorEq,show ¬ (j:Int) < (l.length:Int) by omega]
  rw[List.take_of_length_le (by omega)]at cq;obtain⟨L,dJ,yX,ud⟩:=agJ Rf (by omega) gh;rw[dJ];refine⟨_,rfl,by rw[List.length_cons]; omega,fun e he=>?_⟩
  rcases List.mem_cons.1 he with rfl | he
  ·exact⟨by dsimp only; omega,cq⟩
  ·exact ud e he
theorem agL{N:Nat} (aT:5000 < N) {f:eC} (g:Ax f) (a6:qU f) {ρ:aB->Nat} (fm:∀ a l,eg f.1 a=some l->∀ b∈l.2.2.1,ρ b < ρ a) {K:Nat} (bZ:K<=2048) {l:List aB} (ad:Ay f.1 ρ K l) (kn:l.length<=16):T (D0 N true f l) (w6 K):=by
 unfold D0 Q2;refine Rd (fun k d=>Ay f.1 ρ k d/\d.length<=16) (fun k L=>w6 k L) ?_ N K l (by omega) ⟨ad,kn⟩;rintro k d rec ⟨ae,ax⟩ bm
 by_cases h0:0 < d.length
 ·simp only[aG,Int.reduceEq,Int.reduceLT,Int.reduceLE,reduceCtorEq,show(0:Int) < (d.length:Int) by omega]
  refine⟨by omega,by omega,?_⟩;cases k with
  | succ K=>exact agI aT g a6 fm ae h0 ax rec fun b J U=>bm K b (by omega) ⟨U,J⟩
  | zero=>
   unfold DZ;obtain⟨n,rfl⟩:∃ n,N=n+1:=⟨N - 1,by omega⟩
   obtain⟨a,aS⟩:∃ x,d[0]?=some x:=⟨_,List.getElem?_eq_getElem h0⟩
   have fj:=ae a (List.mem_of_getElem? aS);show T (cond _ _ _) _;simp only[aG,Int.reduceEq,Int.reduceLT,Int.reduceLE,reduceCtorEq,Int.toNat_zero,bB aS,show(0:Int) < (d.length:Int) by omega];refine(J0 _ g.len g.right fj.1).mono ?_;rintro q (⟨ub,_⟩ | ⟨pN,ao,rfl⟩)
   ·simp only[ub,aG,Int.reduceEq,Int.reduceLT,Int.reduceLE,reduceCtorEq]
    exact⟨by simp,fun e he=>by cases he⟩
   ·have:=fj.2 pN ao
    omega
 ·simp only[aG,Int.reduceEq,Int.reduceLT,Int.reduceLE,reduceCtorEq,show ¬ (0:Int) < (d.length:Int) by omega]
  exact⟨by simp,fun e he=>by cases he⟩
theorem J1{N:Nat} (aT:5000 < N) (a b:List aB) (h:a.length<=5000):T (qG N a b) fun _=>True:=by
 unfold qG;simp only[aG,Int.reduceEq,Int.reduceLT,Int.reduceLE,reduceCtorEq];intro he;refine T.mono (P:=fun o=>o=.inl ()\/o=.inr false) ?_ fun o bb=>by rcases bb with rfl | rfl<;>simp only[aG,Int.reduceEq,Int.reduceLT,Int.reduceLE,reduceCtorEq]
 unfold Dj;refine eI (fun k d=>∃ j:Nat,j+k=a.length/\d=(j:Int)) _ ?_ N a.length _ (by omega) ⟨0,by omega,rfl⟩;rintro k d rec ⟨j,aF,rfl⟩ bm
 by_cases aL:j < a.length
 ·simp only[aG,Int.reduceEq,Int.reduceLT,Int.reduceLE,reduceCtorEq,show(j:Int) < (a.length:Int) by omega]
  exact⟨by omega,fun _=>⟨by omega,bm (k - 1) _ (by omega) ⟨j+1,by omega,rfl⟩⟩⟩
 ·simp only[aG,Int.reduceEq,Int.reduceLT,Int.reduceLE,reduceCtorEq,show ¬ (j:Int) < (a.length:Int) by omega]
theorem agM{N:Nat} (aT:5000 < N) (a b:List cF) (h:a.length<=5000):T (Dq N a b) fun _=>True:=by
 unfold Dq;simp only[aG,Int.reduceEq,Int.reduceLT,Int.reduceLE,reduceCtorEq];intro he;refine T.mono (P:=fun o=>o=.inl ()\/o=.inr false) ?_ fun o bb=>by rcases bb with rfl | rfl<;>simp only[aG,Int.reduceEq,Int.reduceLT,Int.reduceLE,reduceCtorEq]
 unfold Pu;refine eI (fun k d=>∃ j:Nat,j+k=a.length/\d=(j:Int)) _ ?_ N a.length _ (by omega) ⟨0,by omega,rfl⟩;rintro k d rec ⟨j,aF,rfl⟩ bm
 by_cases aL:j < a.length
 ·simp only[aG,Int.reduceEq,Int.reduceLT,Int.reduceLE,reduceCtorEq,show(j:Int) < (a.length:Int) by omega]
  exact⟨by omega,fun _=>⟨by omega,bm (k - 1) _ (by omega) ⟨j+1,by omega,rfl⟩⟩⟩
 ·simp only[aG,Int.reduceEq,Int.reduceLT,Int.reduceLE,reduceCtorEq,show ¬ (j:Int) < (a.length:Int) by omega]
theorem agN{N:Nat} (aT:5000 < N) (a b:List b9) (h:a.length<=5000):T (Dr N a b) fun _=>True:=by
 unfold Dr;simp only[aG,Int.reduceEq,Int.reduceLT,Int.reduceLE,reduceCtorEq];intro he;refine T.mono (P:=fun o=>o=.inl ()\/o=.inr false) ?_ fun o bb=>by rcases bb with rfl | rfl<;>simp only[aG,Int.reduceEq,Int.reduceLT,Int.reduceLE,reduceCtorEq]
 unfold Pv;refine eI (fun k d=>∃ j:Nat,j+k=a.length/\d=(j:Int)) _ ?_ N a.length _ (by omega) ⟨0,by omega,rfl⟩;rintro k d rec ⟨j,aF,rfl⟩ bm
 by_cases aL:j < a.length
 ·simp only[aG,Int.reduceEq,Int.reduceLT,Int.reduceLE,reduceCtorEq,show(j:Int) < (a.length:Int) by omega]
  exact⟨by omega,fun _=>⟨by omega,bm (k - 1) _ (by omega) ⟨j+1,by omega,rfl⟩⟩⟩
 ·simp only[aG,Int.reduceEq,Int.reduceLT,Int.reduceLE,reduceCtorEq,show ¬ (j:Int) < (a.length:Int) by omega]
theorem Az{α:Type} {b:Bool} {x:Option α} {y:α} (h:T x fun _=>True):T (cond b x (some y)) fun _=>True:=by
 cases b
 ·exact⟨_,rfl,trivial⟩
 ·exact h
theorem agO{N:Nat} (aT:5000 < N) (a b:aQ) (J:a.2.2.1.length<=5000) (U:a.2.2.2.length<=5000):T (Ds N a b) fun _=>True:=by
 unfold Ds;rw[l5];refine(Az (J1 aT _ _ J)).mono fun r _=>?_
 rw[l5];exact(Az (agM aT _ _ U)).mono fun r _=>⟨_,rfl,trivial⟩
theorem agP{N:Nat} (aT:5000 < N) (a b:List aQ) (h:a.length<=5000) (ad:∀ l∈a,l.2.2.1.length<=5000/\l.2.2.2.length<=5000):T (D1 N a b) fun _=>True:=by
 unfold D1;simp only[aG,Int.reduceEq,Int.reduceLT,Int.reduceLE,reduceCtorEq];intro he;refine T.mono (P:=fun o=>o=.inl ()\/o=.inr false) ?_ fun o bb=>by rcases bb with rfl | rfl<;>simp only[aG,Int.reduceEq,Int.reduceLT,Int.reduceLE,reduceCtorEq]
 unfold Q3;refine eI (fun k d=>∃ j:Nat,j+k=a.length/\d=(j:Int)) _ ?_ N a.length _ (by omega) ⟨0,by omega,rfl⟩;rintro k d rec ⟨j,aF,rfl⟩ bm
 by_cases aL:j < a.length
 ·obtain⟨l,Rg⟩:∃ x,a[j]?=some x:=⟨_,List.getElem?_eq_getElem aL⟩
  have fz:=ad l (List.mem_of_getElem? Rg);simp only[aG,Int.reduceEq,Int.reduceLT,Int.reduceLE,reduceCtorEq,show(j:Int) < (a.length:Int) by omega,bB Rg];exact⟨by omega,by omega,(agO aT l _ fz.1 fz.2).mono fun _ _=>fun _=>⟨by omega,bm (k - 1) _ (by omega) ⟨j+1,by omega,rfl⟩⟩⟩
 ·simp only[aG,Int.reduceEq,Int.reduceLT,Int.reduceLE,reduceCtorEq,show ¬ (j:Int) < (a.length:Int) by omega]
theorem agQ{N:Nat} (aT:5000 < N) (a b:List (List aQ)) (h:a.length<=5000) (U:∀ r∈a,r.length<=5000) (ad:∀ r∈a,∀ l∈r,l.2.2.1.length<=5000/\l.2.2.2.length<=5000):T (Aq N a b) fun _=>True:=by
 unfold Aq;simp only[aG,Int.reduceEq,Int.reduceLT,Int.reduceLE,reduceCtorEq];intro he;refine T.mono (P:=fun o=>o=.inl ()\/o=.inr false) ?_ fun o bb=>by rcases bb with rfl | rfl<;>simp only[aG,Int.reduceEq,Int.reduceLT,Int.reduceLE,reduceCtorEq]
 unfold Q4;refine eI (fun k d=>∃ j:Nat,j+k=a.length/\d=(j:Int)) _ ?_ N a.length _ (by omega) ⟨0,by omega,rfl⟩;rintro k d rec ⟨j,aF,rfl⟩ bm
 by_cases aL:j < a.length
 ·obtain⟨r,au⟩:∃ x,a[j]?=some x:=⟨_,List.getElem?_eq_getElem aL⟩
  have hm:=List.mem_of_getElem? au;simp only[aG,Int.reduceEq,Int.reduceLT,Int.reduceLE,reduceCtorEq,show(j:Int) < (a.length:Int) by omega,bB au];refine⟨by omega,by omega,?_⟩;unfold JN;simp only[aG,Int.reduceEq,Int.reduceLT,Int.reduceLE,reduceCtorEq];exact(agP aT r _ (U r hm) (ad r hm)).mono fun _ _=>fun _=>⟨by omega,bm (k - 1) _ (by omega) ⟨j+1,by omega,rfl⟩⟩
 ·simp only[aG,Int.reduceEq,Int.reduceLT,Int.reduceLE,reduceCtorEq,show ¬ (j:Int) < (a.length:Int) by omega]
theorem agR{N:Nat} (aT:5000 < N) {f:eC} (g:Ax f) (aY:cl f.1<=2048) (av:f.2.1.length<=10) (b1:f.2.2.1.length<=10) (az:f.2.2.2.length<=10) (b:eC):T (w1 N f b) fun _=>True:=by
 have J:T (Aq N f.1 b.1) fun _=>True:=by
  refine agQ aT _ _ (by rw[g.len]; omega) (fun r au=>?_) fun r au l ad=>?_
  ·obtain⟨j,aF⟩:=List.getElem?_of_mem au
   have:=lE (t:=f.1) j
   rw[bB aF]at this;omega
  ·obtain⟨j,aF⟩:=List.getElem?_of_mem au
   obtain⟨n,a6⟩:=List.getElem?_of_mem ad
   have:=g.right ((j:Int)+1,(n:Int)) l (by rw[lh,bB aF,a6])
   have J:=this.m5;have U:=this.r4;omega
 unfold w1;rw[l5];refine J.mono fun aP _=>?_
 rw[l5];refine(Az (agN aT _ _ (by omega))).mono fun aX _=>?_
 rw[l5];refine(Az (J1 aT _ _ (by omega))).mono fun bG _=>?_
 rw[l5];exact(Az (J1 aT _ _ (by omega))).mono fun cf _=>⟨_,rfl,trivial⟩

theorem collect(K:(List (List aN))->Option ((List (List aN))×Int)):∀ (L:List (List aN×Unit)) (s:List (List aN)),s.length+L.length<=5000 ->
  l2 (fun(Ar:(List aN)×Unit) (As:(List (List aN))) (yS:(List (List aN))->Option ((List (List aN))×Int))=>ar (ee 24 (As.length+[Ar.1].length))<|yS (As++[Ar.1])) L s K=K (s++L.map (·.1))
 | [],s,_=>by simp[l2]
 | x :: L,s,h=>by
  rw[List.length_cons]at h;have bJ:=collect K L (s++[x.1]) (by rw[List.length_append,List.length_singleton]; omega);have e:s++(x :: L).map (·.1)=s++[x.1]++L.map (·.1):=by simp
  rw[e,<- bJ];show ar _ _=_;rw[da];rw[List.length_singleton,PU];omega
def Rh(N:Nat) (f:eC) (q:(List (List aN))×Int):Prop:=∃ w,pv N f=some w/\(w≠0->q=([],w)) /\
 (w=0->q=([],4)\/(q.2=0/\m3 N q.1=some true/\∃ g,r1 N q.1=some (g,0)/\w1 N f g=some true))
theorem agS{N:Nat} (aT:5000 < N) {f:eC} (aY:f.1.length=6->cl f.1<=6) (a6:qU f) (av:f.2.1.length<=10) (b1:f.2.2.1.length<=10) (az:f.2.2.2.length<=10):T (w3 N f) (Rh N f):=by
 obtain⟨w,hw,aV⟩:=agC aT (fun h=>by have:=aY h; omega) a6 av b1 az;unfold w3;simp only[l5,DB,bu hw];simp only[aG,Int.reduceEq,Int.reduceLT,Int.reduceLE,reduceCtorEq];refine⟨fun h=>⟨w,hw,fun _=>rfl,fun e=>absurd e h⟩,fun h=>?_⟩;have g:=aV h;have ahT:=aY g.len;refine(agF aT g a6).mono fun l ad=>?_
 unfold JM;simp only[aG,Int.reduceEq,Int.reduceLT,Int.reduceLE,reduceCtorEq];obtain⟨ρ,fm⟩:=g.agB;refine(agL aT g a6 (ρ:=ρ) (fun a x ah b ae=>(fm a x ah).2 b ae) (K:=cl f.1) (by omega) (fun a aS=>⟨ad.2 a aS,fun x ah=>(fm a x ah).1⟩) ad.1).mono fun L dJ=>?_
 obtain⟨yX,ud⟩:=dJ;rw[collect _ L [] (by simp; omega)];rw[List.nil_append,l5];have aO:(L.map (·.1)).length<=6:=by rw[List.length_map]; omega
 generalize L.map (·.1)=s at aO ⊢
 obtain⟨p,agT,an⟩:=agG aT s (Nat.le_trans aO (by decide));rw[bu agT];obtain⟨Bd,_⟩:=an;have aa:C0 N p=some (p,p.length):=by
  unfold C0
  apply T.eq
  simp only[aG,Int.reduceEq,Int.reduceLT,Int.reduceLE,reduceCtorEq,List.take_length];omega
 rw[l5,bu aa];obtain⟨e,_,dP,gH⟩:=Q8 aT p;rw[l5,bu gH];cases ae:(decide (e=0)&&kM p)with
 | false=>
  simp only[aG,Int.reduceEq,Int.reduceLT,Int.reduceLE,reduceCtorEq];exact⟨w,hw,fun a8=>absurd h a8,fun _=>Or.inl rfl⟩
 | true=>
  rw[ae]at gH;simp only[aG,Int.reduceEq,Int.reduceLT,Int.reduceLE,reduceCtorEq]at ae;obtain⟨v,aK⟩:=JS (dP ae.1) ae.2;have hm:∃ g,r1 N p=some (g,0):=by
   obtain⟨bH,ids,t,Z,fI,hm,_,_⟩:=afI aT aK (by omega);exact⟨_,hm⟩
  obtain⟨g2,hm⟩:=hm;obtain⟨b,gm,_⟩:=agR aT g (by omega) av b1 az g2;simp only[aG,Int.reduceEq,Int.reduceLT,Int.reduceLE,reduceCtorEq,bu hm,bu gm];cases b with
  | false=>
   simp only[aG,Int.reduceEq,Int.reduceLT,Int.reduceLE,reduceCtorEq];exact⟨w,hw,fun a8=>absurd h a8,fun _=>Or.inl rfl⟩
  | true=>
   simp only[aG,Int.reduceEq,Int.reduceLT,Int.reduceLE,reduceCtorEq];exact⟨w,hw,fun a8=>absurd h a8,fun _=>Or.inr ⟨rfl,gH,g2,hm,gm⟩⟩
theorem agU{N:Nat} {f:eC} (h:T (w3 N f) (Rh N f)):D2 N f=some true:=by
 obtain⟨q,ao,w,hw,J,U⟩:=h;unfold D2
 apply T.eq
 simp only[l5,DB,bu ao]
 by_cases h0:w=0
 ·rcases U h0 with rfl | ⟨e,an,g,hm,aj⟩
  ·simp only[aG,Int.reduceEq,Int.reduceLT,Int.reduceLE,reduceCtorEq,List.length_nil]
   first | done | decide
  ·simp only[aG,Int.reduceEq,Int.reduceLT,Int.reduceLE,reduceCtorEq,e,bu hm,bu an,bu aj]
 ·rw[J h0]
  simp only[aG,Int.reduceEq,Int.reduceLT,Int.reduceLE,reduceCtorEq,List.length_nil]
  first | exact fun _=>rfl | exact⟨fun _=>rfl,fun e=>absurd e h0⟩ | omega
theorem wrap64{z:Int} (J:-9223372036854775808<=z) (U:z<=9223372036854775807):IntKind.wrap .i64 z=z:=Kx (AM.2 ⟨J,U⟩)
theorem agV{N:Nat} {f:eC} (hlen:f.1.length < N) (Ri:f.1.length<=140737488355328) (au:∀ r∈f.1,r.length<=140737488355328):T (JO N f N ((0:Int),(0:Int))) fun o=>f.1.length=6->o=(cl f.1:Int):=by
 unfold JO;refine eI (fun k d=>∃ (j:Nat) (s:Int),j+k=f.1.length/\d=(s,(j:Int))/\(f.1.length=6->s=(cl (f.1.take j):Int)/\s<=140737488355328 * (j:Int))) _ ?_ N f.1.length _ hlen ⟨0,0,by omega,rfl,fun _=>⟨rfl,by omega⟩⟩;rintro k d rec ⟨j,s,aF,rfl,aj⟩ bm
 by_cases aL:j < f.1.length
 ·obtain⟨r,gw⟩:∃ x,f.1[j]?=some x:=⟨_,List.getElem?_eq_getElem aL⟩
  have pg:=au r (List.mem_of_getElem? gw);simp only[aG,Int.reduceEq,Int.reduceLT,Int.reduceLE,reduceCtorEq,show(j:Int) < (f.1.length:Int) by omega,bB gw];refine⟨by omega,by omega,bm (k - 1) _ (by omega) ⟨j+1,_,by omega,rfl,fun aK=>?_⟩⟩;obtain⟨J,U⟩:=aj aK;rw[wrap64 (by omega) (by omega),Ja gw];omega
 ·simp only[aG,Int.reduceEq,Int.reduceLT,Int.reduceLE,reduceCtorEq,show ¬ (j:Int) < (f.1.length:Int) by omega]
  intro aK
  have:=(aj aK).1
  rwa [List.take_of_length_le (by omega)]at this
theorem agW{N:Nat} (aT:5000 < N) (Au:tN N=some true) {p:List (List aN)} {f:eC} (hlen:f.1.length < N) (Ri:f.1.length<=140737488355328) (au:∀ r∈f.1,r.length<=140737488355328) (a6:qU f):JR N p f=some true:=by
 obtain⟨o,bb,agX⟩:=agV hlen Ri au;obtain⟨e,he,aV,gH⟩:=Q8 aT p;unfold JR
 apply T.eq
 simp only[l5,DB,bu bb];simp only[aG,Int.reduceEq,Int.reduceLT,Int.reduceLE,reduceCtorEq];refine⟨fun _=>(bu Au).2 (by simp only[aG,Int.reduceEq,Int.reduceLT,Int.reduceLE,reduceCtorEq]),fun h=>?_⟩;have aY:f.1.length=6->cl f.1<=6:=fun aK=>by have:=agX aK; omega
 have je:=agS aT aY a6 (by omega) (by omega) (by omega);have agY:=agU je;rw[bu he];refine(agf aT Au (p:=p) (by omega) _).mono ?_;rintro o (⟨rfl,c3⟩ | rfl)
 ·obtain⟨⟨c8,agZ,Bd⟩,⟨dL,Ap,sG⟩,⟨fA,ag0,E4⟩⟩:=agj aT (by omega) c3 aV gH
  generalize ae:(decide (e=0)&&kM p)=b at *
  obtain⟨q,ao,w,hw,J,U⟩:=je;simp only[aG,Int.reduceEq,Int.reduceLT,Int.reduceLE,reduceCtorEq,bu agZ,bu gH,bne_self_eq_false,bu Ap,sG,Bd,bu ag0,E4,bu ao,bu hw];simp only[bu agY,bu Au,aG,Int.reduceEq,Int.reduceLT,Int.reduceLE,reduceCtorEq]
  by_cases h0:w=0
  ·have Ap:q.2=0\/q.2=4:=by
    rcases U h0 with rfl | ag
    ·exact Or.inr rfl
    ·exact Or.inl ag.1
   omega
  ·have Ap:q.2=w:=by rw[J h0]
   omega
 ·simp only[aG,Int.reduceEq,Int.reduceLT,Int.reduceLE,reduceCtorEq]

section
set_option linter.unusedSimpArgs false
set_option linter.unusedVariables false
open Go.ChangeMaps Go.ChangeShapes Go.WideShapes Go.ChangeAt Go.WideElems Go.RowKit
theorem ag1(x:Nat):tN (x+6000)=some true:=by kernel_rfl
theorem J2{x:eC} (h:p1 fW x):x.1.length<=140737488355328/\(∀ r∈x.1,r.length<=140737488355328)/\qU x:=by
 have ae:reachBytes<=140737488355328:=by decide
 obtain⟨⟨J,U⟩,⟨ag,ay⟩,⟨aO,aK⟩,bY,c3⟩:=h;have ab:∀ a:aB,p1 bf a->ku a:=fun a aS=>aS.1
 refine⟨Nat.le_trans J ae,fun r au=>Nat.le_trans (U r au).1 ae,fun a l ad=>?_,fun c aa=>⟨ab _ (ay c aa).1,ab _ (ay c aa).2.1⟩,fun a aS=>ab a (aK a aS),fun a aS=>ab a (c3 a aS)⟩;have hm:∃ r∈x.1,l∈r:=by
  unfold eg at ad
  split at ad
  ·have hm:=List.mem_of_getElem? ad
   by_cases au:(a.1 - 1).toNat < x.1.length
   ·rw[List.getD_eq_getElem?_getD,List.getElem?_eq_getElem au]at hm
    exact⟨_,List.getElem_mem au,hm⟩
   ·rw[List.getD_eq_getElem?_getD,List.getElem?_eq_none (by omega)]at hm
    cases hm
  ·cases ad
 obtain⟨r,au,fz⟩:=hm;obtain⟨_,_,⟨_,g1⟩,_,g2⟩:=(U r au).2 l fz;exact⟨fun b ae=>ab b (g1 b ae),fun q ao=>ab _ (g2 q ao).1⟩
theorem ag2:∀ t∈Tryz.f4.params.toList,Tryz.prog.readableRec t=true/\t < Tryz.prog.types.size:=by
 rw[Tryz.params4];intro t aY;simp only[List.mem_cons,List.not_mem_nil,or_false]at aY
 rcases aY with rfl | rfl<;>exact⟨by kernel_rfl,of_decide_eq_true (by kernel_rfl)⟩
theorem ag3(W:World):uI bS (fun b=>b < W.heap.size) W:=fun i x ah=>by cases ah
theorem ag4(os:Os) (started:os.Started) (H:Type) (enc:TypeId×Value->H) :
  ReturnsInHanded {} Tryz.checked os 4 .any (Rows.picturesErrorsSpec.pre6 enc Tryz.prog Tryz.f4 Rows.picturesErrorsRow.domain false) (Rows.picturesErrorsSpec.post enc Tryz.prog Tryz.f4 false true false false):=by
 refine returnsInHanded_of_change_sized (C:=Tryz.checked) Tryz.own started (by kernel_rfl) Tryz.func4
  (ChangeSpec.witness6 (enc:=enc) (C:=Tryz.checked) false ⟨#[],#[.agg #[.slice none 0 0],.agg #[.slice none 0 0,.slice none 0 0,.slice none 0 0,.slice none 0 0]],[]⟩ 8 (by kernel_rfl) (by kernel_rfl) (by kernel_rfl) (by kernel_rfl)) ?_
 intro W base args aI gs before ag5 oN ahU J3 _;rw[Tryz.params4]at J3;have o0:∀ (j:Nat) t v,Tryz.f4.params[j]?=some t->args[j]?=some v->Value.okWide Tryz.prog W .any base t v:=ag5;have AH:=oN;obtain⟨p,q,l1,jH,rfl,Fs,JH⟩:=oN;have al:DataW.TrodAll enc Tryz.prog W 0 (fun _=>true) true Tryz.f4.params.toList args.toList aI p:=l1;rw[Tryz.params4]at al o0;obtain⟨v0,v1,d0,d1,SM,h9,rfl,rfl,rfl,h0,J⟩:=trodAll_two al;obtain⟨rfl,rfl⟩:=trodVars_none jH;obtain⟨vU,KU,yI⟩:=LB (g:=(.ak (.ak bN))) bU rfl rfl (by kernel_rfl) (o0 0 27 v0 rfl rfl) h0 (fun n a6=>by have:=List.all_eq_true.1 J3 n (DataW.weights_mem_each (j:=0) (t:=27) (d:=d0) rfl rfl n a6); simpa using this);obtain⟨pQ,ic,kU⟩:=LB (g:=fW) bU rfl rfl (by kernel_rfl) (o0 1 41 v1 rfl rfl) J (fun n a6=>by have:=List.all_eq_true.1 J3 n (DataW.weights_mem_each (j:=1) (t:=41) (d:=d1) rfl rfl n a6); simpa using this);have ag6:=AC.law (W:=W) ((aga (pQ.1.length+6000)).ok (vU,pQ,()) true (agW (N:=pQ.1.length+6000) (p:=vU) (f:=pQ) (by omega) (ag1 _) (by omega) (J2 ic).1 (J2 ic).2.1 (J2 ic).2.2)) (ag3 W) (vs:=[v0,v1]) ⟨v0,_,rfl,yI _ _ rfl,v1,_,rfl,kU _ _ rfl,rfl⟩;refine Calls.mono ag6 fun e dZ ⟨v,he,aw,hw⟩=>?_
 subst aw;exact⟨_,he,Sp AH rfl rfl (by kernel_rfl) Tryz.underlying4 Tryz.laidOut ag2 hw⟩
theorem picturesErrors_holds:Rows.PicturesErrorsSaid:=
 OpenClaim.holds_of_wide 4 Tryz.f4 rfl rfl rfl rfl rfl rfl rfl ⟨rfl,rfl,rfl,rfl,rfl⟩ rfl rfl rfl rfl rfl (by kernel_rfl) Tryz.func4 (by kernel_rfl)
  (of_decide_eq_true (by kernel_rfl)) (by unfold Func.isWrapper; first | (rw[if_pos (by decide +kernel)]; kernel_rfl) | (rw[if_neg (by decide +kernel)]; exact⟨rfl,rfl⟩))
  (fun os started H enc _=>ag4 os started H enc)
end
end Go.Proofs.YtldjgdggcodgeaaGreat
