/- RoundsMeans: for every U of layer 21, whatever the memory and the order that Go leaves open, the law returns true, and its argument reads as before. The listed package-level variables start as the program's text lays them (the card ties them). -/
import Derived.Test.YtijeenjclhajhaaGreatDoorRm05
import Derived.Shelf.Spec.SlicesGrow
import Derived.Shelf.SlicesE.Clone
set_option linter.all false
set_option maxRecDepth 100000
namespace Go.Proofs.YtijeenjclhajhaaGreatDoor
open Go.Proofs.Tryz
open _root_.Or (inl inr)
open _root_.Option (bind_some getD_some)
open _root_.Nat (beq le_trans lt_or_ge mul_le_mul sub_self zero_le)
open _root_.Int (add_zero le_of_lt le_refl reduceEq reduceLE reduceLT tmod toNat_natCast)
open _root_.List (append_assoc append_nil count count_append elem_eq_mem eq_nil_of_length_eq_zero eq_of_mem_replicate filter_congr flatMap flatMap_cons flatten_cons flatten_nil getD_eq_getElem?_getD getElem?_eq_getElem getElem?_eq_none getElem?_set getElem_mem length_append length_cons length_map length_nil length_range length_replicate length_set length_singleton map_append map_cons map_map mem_cons_self mem_of_getElem? nil_append nodup_nil not_mem_nil perm_iff_count range range' range_succ replicate set_set sum_append sum_cons take_of_length_le)
open Go.RowKit
noncomputable section
variable{t:bY}{N a i ti w y:Nat}{f f' g:bF}{ys:b2}{Y:aU}{b e p r:Int}{x:ad}{Q:hY->Prop}{cw:List (Int×Option Nat)}
section
theorem YC{H H':bJ}(h:s9 t H)(aA:y<t.length){l:a7}(an:(H'++l.2.2.1).Perm (H++[((y:Int)+1,((t.getD y []).length:Int))])):s9 (eS t y l) H':=by
 intro c;have J:=h c;have ah:=alI aA l c;have bc:=yv aA l;have aa:=an.count_eq c;rw[count_append,count_append,List.count_singleton]at aa;rw[count_append]at J;rw[count_append,ah];have b:(if (((y:Int)+1,((t.getD y []).length:Int))==c)=true then 1 else 0)=if ((y:Int)+1,((t.getD y []).length:Int))=c then 1 else 0:=by simp
 rw[b]at aa
 by_cases e:((y:Int)+1,((t.getD y []).length:Int))=c
 ·rw[if_pos e]at aa
  rw[e]at bc;rw[if_neg bc]at J;rw[if_pos ((DX aA l).2 (inl e.symm))];omega
 ·rw[if_neg e]at aa
  by_cases a:fY t c
  ·rw[if_pos a]at J
   rw[if_pos (a.put aA l)];omega
  ·rw[if_neg a]at J
   rw[if_neg (λd=>((DX aA l).1 d).elim (λh=>e h.symm) a)];omega
theorem wo.put(h:wo t)(aA:y<t.length){l:a7}(b:(t.getD y []).length<4096)(J:l.2.2.1.length<=100000)(U:l.2.2.2.length<=100000):wo (eS t y l):=by
 have a:t.getD y []∈t:=by rw[getD_eq_getElem?_getD,getElem?_eq_getElem aA];exact getElem_mem aA
 refine⟨by rw[yu];exact h.dy,λx ak=>?_,λx ak=>?_,λx ak=>?_⟩<;>unfold eS at ak<;>rcases List.mem_or_eq_of_mem_set ak with ak|rfl
 ·exact h.row x ak
 ·rw[length_append];show(t.getD y []).length+1<=4096;omega
 ·exact h.thr x ak
 ·intro k ab
  rcases List.mem_append.1 ab with ab|ab
  ·exact h.thr _ a k ab
  ·rw[List.mem_singleton]at ab
   rw[ab];exact J
 ·exact h.ra x ak
 ·intro k ab
  rcases List.mem_append.1 ab with ab|ab
  ·exact h.ra _ a k ab
  ·rw[List.mem_singleton]at ab
   rw[ab];exact U
structure ha(f:bF)(ys:b2)(t:bY):Prop where
 cx:jw f []
 jx:f.flatten.Nodup
 once:s9 t f.flatten
 dy:f.flatten.length<=16
 jy:ys.length=6
 gR:∀Y∈ys,hn Y
 tok:∃aT,nq t aT
 all:c1 t<=300
 tb:wo t
 gE:∀(i:Nat) (Y:aU),ys[i]?=some Y->Y.2.2.1=((t.getD i []).length:Int)
 pA:∀Y∈ys,∀p∈Y.2.2.2.2,fY t p.1
 ih:∀Y∈ys,Y.1=true->Y.2.2.1=0->Y.2.2.2.1=true
theorem ha.sv(h:ha f ys t):k4 f []:=by
 have a:=h.dy;refine⟨h.cx,?_,?_⟩
 ·show(f.flatten++[]).Nodup
  rw[append_nil];exact h.jx
 ·show f.flatten.length+0<20
  omega
theorem ha.ms(aR:5000<N)(h:ha f ys t):Yc N f [] ys t f.flatten:=by
 have b:=h.dy;have a:=h.all;exact⟨h.cx,h.sv.jx,h.sv.dy,h.jy,h.gR,h.tok,by omega,h.tb,h.once,Pl aR h.sv,by omega,h.gE⟩
theorem ha.len(h:ha f ys t):t.length=6:=by
 obtain⟨aT,a⟩:=h.tok;exact a.len
theorem ha.has(h:ha f ys t){a:ad}(bl:a∈f.flatten):fY t a:=by
 have J:=h.once a;have U:=List.count_pos_iff.2 bl;rw[count_append]at J
 by_cases b:fY t a
 ·exact b
 ·rw[if_neg b]at J
  omega
theorem ix{Z:aU}(h:Z∈ys.set y Y):Z∈ys\/Z=Y:=List.mem_or_eq_of_mem_set h
theorem ha.go(h:ha f ys t)(bt:ys[y]?=some Y){Z:aU}(a:hn Z)(aa:Z.2.2.1=Y.2.2.1)(an:∀p∈Z.2.2.2.2,fY t p.1)(hw:Z.1=true->Z.2.2.1=0->Z.2.2.2.1=true):ha f (ys.set y Z) t:=by
 refine⟨h.cx,h.jx,h.once,h.dy,by rw[length_set];exact h.jy,λW ck=>?_,h.tok,h.all,h.tb,λi W ck=>?_,λW ck=>?_,λW ck=>?_⟩
 ·rcases ix ck with ck|rfl
  ·exact h.gR W ck
  ·exact a
 ·rw[getElem?_set]at ck
  split at ck
  ·rename_i e
   subst e
   split at ck
   ·cases ck
    rw[aa];exact h.gE y Y bt
   ·cases ck
  ·exact h.gE i W ck
 ·rcases ix ck with ck|rfl
  ·exact h.pA W ck
  ·exact an
 ·rcases ix ck with ck|rfl
  ·exact h.ih W ck
  ·exact hw
theorem ha.put{t:bY}(h:ha f ys t)(aA:y<6)(bt:ys[y]?=some Y)(ca:Y.1=true)(v:c1 t<300){thr:bJ}(l:∀b∈thr,b∈f.flatten)(n:thr.length<=4)(ag:jw f' [])(s:f'.flatten.length<=16)(an:(f'.flatten++thr).Perm (f.flatten++[((y:Int)+1,Y.2.2.1)])) :
  ha f' (ys.set y (true,Y.2.1,Y.2.2.1+1,false,[])) (eS t y (0,(Y.2.2.2.1,(thr,Y.2.2.2.2)))):=by
 have g:=mem_of_getElem? bt;have d:=h.gR Y g;have ao:=h.len;have c:y<t.length:=by omega
 have r:=h.gE y Y bt;obtain⟨aT,u⟩:=h.tok;have cN:=mH (t:=t) y;have m:=d.dy;rw[r]at an;have q:((y:Int)+1,((t.getD y []).length:Int)) ∉ f.flatten:=λaa=>yv c (0,(Y.2.2.2.1,(thr,Y.2.2.2.2))) (h.has aa)
 have k:(f.flatten++[((y:Int)+1,((t.getD y []).length:Int))]).Nodup:=List.nodup_append.2 ⟨h.jx,by simp,λa bl b ag e=>by
  rw[List.mem_singleton]at ag;rw[e,ag]at bl;exact q bl⟩
 refine⟨ag,(List.nodup_append.1 (an.nodup_iff.2 k)).1,YC h.once c an,s,by rw[length_set];exact h.jy,λW ck=>?_,⟨_,u.put aA (inl rfl) (λb ag=>h.has (l b ag)) (λp an=>⟨h.pA Y g p an,(d.ok p an).2⟩) n m d.red (λj=>h.ih Y g ca (by omega))⟩,by rw[uJ c];omega,h.tb.put c (by omega) (by show thr.length<=100000;omega) (by show Y.2.2.2.2.length<=100000;omega),λi W ck=>?_,λW ck p an=>?_,λW ck=>?_⟩
 ·rcases ix ck with ck|rfl
  ·exact h.gR W ck
  ·exact Iz d ca (by omega)
 ·rw[getElem?_set]at ck
  rw[s8 c]
  split at ck
  ·rename_i e
   subst e
   split at ck
   ·cases ck
    rw[if_pos rfl,length_append];show Y.2.2.1+1=(((t.getD y []).length+1:Nat):Int)
    omega
   ·cases ck
  ·rename_i e
   rw[if_neg (λo=>e o.symm)];exact h.gE i W ck
 ·rcases ix ck with ck|rfl
  ·exact(h.pA W ck p an).put c _
  ·cases an
 ·rcases ix ck with ck|rfl
  ·exact h.ih W ck
  ·intro _ j
   have w:Y.2.2.1+1=0:=j;omega
theorem ha.move(h:ha f ys t)(ag:jw f' [])(an:f'.flatten.Perm f.flatten):ha f' ys t:=
 ⟨ag,an.nodup_iff.2 h.jx,λa=>by
  have:=h.once a
  rw[count_append]at this ⊢;rw[an.count_eq];exact this,by rw[an.length_eq];exact h.dy,h.jy,h.gR,h.tok,h.all,h.tb,h.gE,h.pA,h.ih⟩
def stM(f:bF)(ys:b2)(t:bY):mu:=((0:Int),((f,[]),(ys,(t,([],(f.flatten,[]))))))
theorem anF(aR:5000<N){cw}(dM:hB N=some cw)(h:ha f ys t){l:dc}(ao:l.length<=4000){Q:bF->b2->bY->Prop}(e:dz N cw l (fm t ys 0 f []) λs=>∃f' ys' t',s=fm t' ys' 0 f' []/\ha f' ys' t'/\Q f' ys' t') :
  T (v8 N (stM f ys t) l) λq=>∃f' ys' t',q=(stM f' ys' t',(l.length:Int),0)/\ha f' ys' t'/\Q f' ys' t':=by
 have c:=h.ms aR;have m:=h.jy;have g:=Yd aR c;have b:=X1 aR (r:=0) h.cx (ys:=ys) (by omega) (λY bt=>by have:=(h.gR Y bt).dy;omega) h.tb f.flatten (fl:=[]) (by decide);have cR:=Yv (by omega) (by omega) e;unfold stM v8;simp only[aO,reduceCtorEq,show ¬4096<(l.length:Int) by omega,bd g,bd b,bd dM];refine cR.mono ?_;rintro q ⟨k,rfl,f',ys',t',rfl,a,d⟩;have i:=a.len;have j:=a.dy;have cY:=am6 aR (t:=t') ys' (by omega) (λx ak=>by have:=a.tb.row x ak;omega) (by omega) (Pl aR a.sv);simp only[aO,fm,bd cY];exact⟨f',ys',t',rfl,a,d⟩
theorem anG(aF:jw f [])(b:jw f' [])(bl:1<=a/\a<=40)(h:∀k,k≠a-1->f'.getD k []=f.getD k [])(x:ad):f'.flatten.count x+(f.getD (a-1) []).count x=f.flatten.count x+(f'.getD (a-1) []).count x:=by
 have:=yC (f:=f) (f':=f') (a:=a-1) (by omega) x h
 rw[px x aF.e6.len,px x b.e6.len];exact this
def nr(f:bF)(p e:Int):dd:=(((gF f [] 0).filter (hp p e)).map sb).reverse
theorem YD{q:b5}(h:q∈nr f p e):q.1∈f.flatten/\q.2.2=0:=by
 unfold nr at h;rw[List.mem_reverse,List.mem_map]at h;obtain⟨x,ak,rfl⟩:=h;have a:=(List.mem_filter.1 ak).1
 have:x.1∈(gF f [] 0).map (·.1):=List.mem_map.2 ⟨x,a,rfl⟩
 rw[OI]at this;exact⟨(List.mem_append.1 this).elim id (λh=>by cases h),rfl⟩
theorem Po(f:bF)(p e:Int):(nr f p e).length<=f.flatten.length:=by
 unfold nr;rw[List.length_reverse,length_map];have J:=List.length_filter_le (hp p e) (gF f [] 0);rw[yy]at J;exact J
theorem Eb(h:ho f)(ak:x∈f.flatten):l6 x:=by
 obtain⟨s,a,ak⟩:=List.mem_flatten.1 ak;exact h.ok s a x ak
theorem YE(h:ho f)(p e:Int):∀q∈nr f p e,oH q:=λq a=>by
 obtain⟨J,U⟩:=YD a;exact⟨Eb h J,inl U⟩
section
variable {N:Nat} (aR:5000<N) {cw:List (Int×Option Nat)} (dM:hB N=some cw) {f:bF} {ys:b2} {t:bY} (h:ha f ys t) {y:Nat} (aA:y<6) {Y:aU} (bt:ys[y]?=some Y) (ca:Y.1=true)
include aR h aA bt ca
theorem anH{place:Int}(an:tmod place 2≠0/\-13<=place/\place<=179)(he:e<Y.2.1)(d:Y.2.2.2.2.length<=4000) :
  qf N ((y:Int)+1) place e 0 f [] (own t) [] ys []=some (0,0,f,[],ys.set y (true,place,Y.2.2.1,Y.2.2.2.1,ee Y.2.2.2.2 (nr f Y.2.1 e))):=by
 have c:=h.sv;have g:=h.dy;have ao:=Po f Y.2.1 e;have ag:=Yp aR (L:=gF f [] 0) (by rw[yy];have:=c.dy;omega) (a:=Y.2.1) (b:=e) he;exact anp aR c.cx.e6 wv c.jx (r:=0) ⟨by decide,by decide⟩ c.dy (Pa.qn f) aA bt (h.gR Y (mem_of_getElem? bt)) ca an (P:=nr f Y.2.1 e) ag (YE c.cx.e6 _ _) (by omega) (own t) [] []
theorem ha.anI{place:Int}(an:tmod place 2≠0/\-13<=place/\place<=179)(c:Y.2.2.2.2.length<=4000):ha f (ys.set y (true,place,Y.2.2.1,Y.2.2.2.1,ee Y.2.2.2.2 (nr f Y.2.1 e))) t:=by
 have a:=mem_of_getElem? bt;have ao:=Po f Y.2.1 e;have d:=h.dy;refine h.go bt (wi (h.gR Y a) an (YE h.cx.e6 _ _) (by omega)) rfl (λp an=>?_) (λ_ b=>h.ih Y a ca b)
 rcases DW an with an|an
 ·exact h.pA Y a p an
 ·exact h.has (YD an).1
theorem anJ(dM:hB N=some cw)(d:Y.2.2.2.2.length<=4000)(an:4<=Y.2.1)(c:Q (fm t (ys.set y (true,3,Y.2.2.1,Y.2.2.2.1,ee Y.2.2.2.2 (nr f Y.2.1 3))) 0 f [])):dz N cw [(6,(0,((1,1),((y:Int)+1,0))))] (fm t ys 0 f []) Q:=by
 have b:eH 1 1 0=4:=rfl;have a:(((1:Int),(1:Int)).1=0\/((1:Int),(1:Int)).1=1)/\1<=((1:Int),(1:Int)).2/\((1:Int),(1:Int)).2<=40:=⟨inr rfl,by decide,by decide⟩
 have ag:=Yt (N:=N) aA bt ca (nd:=((1:Int),(1:Int))) a (r:=0) ⟨by decide,by decide⟩ (by rw[b];exact an) 6 f [] (own t) [] [];rw[b]at ag;have aa:=anH aR h aA bt ca (place:=3) (e:=3) ⟨by decide,by decide,by decide⟩ (by omega) d;have az:=amx (II N (inr (inr rfl)) (inl rfl) a ⟨by omega,by omega⟩ (y:=(y:Int)+1)) rfl 0 f [] (own t) [] ys [] dM;refine dz.one (az.trans ?_) c;unfold DI
 apply T.eq
 simp only[aO,bd ag,show(4:Int)-1=3 from rfl,bd aa]
 rfl
end
theorem anK(aR:5000<N)(aA:ys.length=6){a:Int}(h:∀Y∈ys,Y.1=true->Y.2.1≠(if a<b then a else b)+1)(r:Int)(f g:bF)(ag:-1000<=b/\b<=1000/\-1000<=a/\a<=1000):NX N ys b a N ((0:Int),r,f,g)=some (.inl (r,f,g)):=by
 refine ek (λk d=>∃i:Nat,i+k=6/\d=((i:Int),r,f,g)) _ ?_ N 6 _ (by omega) ⟨0,by omega,rfl⟩;rintro k d rec ⟨i,hi,rfl⟩ c
 apply T.eq
 by_cases e:i<6
 ·obtain⟨Y,bt⟩:∃Y,ys[i]?=some Y:=⟨_,getElem?_eq_getElem (by omega)⟩
  have this:T (rec ((i:Int)+1,r,f,g)) (·=.inl (r,f,g)):=⟨_,c (k-1) _ (by omega) ⟨i+1,by omega,rfl⟩,rfl⟩
  grind [aO,reduceCtorEq,b1,Bool.false_eq_true]
 grind [Int,aO,reduceCtorEq]
theorem anL(aR:5000<N)(h:k4 f g)(ag:b=0\/b=1){a c:Int}(bl:1<=a/\a<=40)(aa:1<=c/\c<=40)(n:-4<=r/\r<=4)(he:c=if b=1 then a+r else a-r)(m:cp (if b=1 then g else f) a≠[])(o:(cp (if b=1 then g else f) a).length+(cp (if b=1 then f else g) c).length<=4)(aA:ys.length=6)(J:∀Y∈ys,Y.1=true->Y.2.1 % 4=3)(tb:List (Bool×cq))(dt)(fl:bJ) :
  T (v7 N (7,(0,((b,a),(0,0)))) r f g tb dt ys fl) λq=>q.1=0/\q.2.1=r/\k4 q.2.2.1 q.2.2.2/\(∀k,cp q.2.2.1 k=if b=1 then(if k=c then cp g a++cp f k else cp f k)else(if k=a then [] else cp f k))/\(∀k,cp q.2.2.2 k=if b=1 then(if k=a then [] else cp g k)else(if k=c then cp g k++cp f a else cp g k)):=by
 obtain⟨aS,rfl⟩:∃aS:Nat,a=(aS:Int):=⟨a.toNat,by omega⟩
 obtain⟨c',rfl⟩:∃c':Nat,c=(c':Int):=⟨c.toNat,by omega⟩
 have d:1<=aS/\aS<=40:=by omega
 have j:1<=c'/\c'<=40:=by omega
 have I:1-b=0\/1-b=1:=by omega
 rw[hC d.1 d.2]at m o;rw[hC j.1 j.2]at o;have L:=yA (N:=N) h.cx ag d.1 d.2;have y:=anx N ag bl aa n he;have F:=A0 N (nd:=(b,(aS:Int))) ⟨ag,bl.1,bl.2⟩ n;have H:=A0 N (nd:=(1-b,(c':Int))) ⟨I,aa.1,aa.2⟩ n;have v:∀x k:Int,1<=k/\k<=40->-1000<=eH x k r/\eH x k r<=1000:=λx k ab=>by
  unfold eH;omega
 have p:=v b (aS:Int) bl;have s:=v (1-b) (c':Int) aa;have M:(if eH (1-b) (c':Int) r<eH b (aS:Int) r then eH (1-b) (c':Int) r else eH b (aS:Int) r) % 4=0:=by
  rcases ag with rfl|rfl
  ·rw[if_neg (by decide)]at he
   have t:eH (1-0) (c':Int) r=4 * ((c':Int)+r):=rfl;have u:eH 0 (aS:Int) r=4 * (aS:Int)+2:=rfl;omega
  ·rw[if_pos rfl]at he
   have t:eH (1-1) (c':Int) r=4 * (c':Int)+2:=rfl;have u:eH 1 (aS:Int) r=4 * ((aS:Int)+r):=rfl;omega
 have cR:=anK aR aA (λY bt hi e=>by have:=J Y bt hi;omega) r f g ⟨p.1,p.2,s.1,s.2⟩;have G:¬(((if b=1 then g else f).getD (aS-1) []).length:Int)=0:=by
  have:=List.length_pos_iff.2 m
  omega
 have w:bf ((if eH (1-b) (c':Int) r<eH b (aS:Int) r then eH (1-b) (c':Int) r else eH b (aS:Int) r)+1)=true:=by
  split<;>exact DU (by omega) (by omega)
 have A:=anm aR h.cx h.jx h.dy ag d j m o;unfold v7;simp only[aO,reduceEq,bd L,G,bd y,bd F,bd H,bd cR];refine⟨EJ.1 w,A.mono ?_⟩;rintro⟨⟨f',g'⟩,e⟩ ⟨ni,ay⟩;dsimp only at ni ay;have an:=ay.perm ag d j h.cx;have B:=an.length_eq;rw[length_append,length_append]at B;have O:=h.dy;have K:k4 f' g':=⟨ay.cx,an.nodup_iff.2 h.jx,by omega⟩
 have key:∀k:Int,(1<=k/\k<=40)\/¬(1<=k/\k<=40):=λk=>Decidable.em _
 have E:∀k,cp f' k=if b=1 then(if k=(c':Int)then cp g (aS:Int)++cp f k else cp f k)else(if k=(aS:Int)then [] else cp f k):=by
  intro k
  rcases key k with ab|ab
  ·obtain⟨k',rfl⟩:∃k':Nat,k=(k':Int):=⟨k.toNat,by omega⟩
   have i:1<=k'/\k'<=40:=by omega
   rw[hC i.1 i.2,hC i.1 i.2,hC d.1 d.2,ay.mJ]
   grind
  ·have z:∀l:bF,cp l k=[]:=λl=>by unfold cp;rw[if_neg ab]
   have t:¬k=(c':Int):=by omega
   have u:¬k=(aS:Int):=by omega
   grind
 have D:∀k,cp g' k=if b=1 then(if k=(aS:Int)then [] else cp g k)else(if k=(c':Int)then cp g k++cp f (aS:Int)else cp g k):=by
  intro k
  rcases key k with ab|ab
  ·obtain⟨k',rfl⟩:∃k':Nat,k=(k':Int):=⟨k.toNat,by omega⟩
   have i:1<=k'/\k'<=40:=by omega
   rw[hC i.1 i.2,hC i.1 i.2,hC d.1 d.2,ay.gk]
   grind
  ·have z:∀l:bF,cp l k=[]:=λl=>by unfold cp;rw[if_neg ab]
   grind
 exact⟨λ_=>⟨ni,K,E,D⟩,λC=>absurd ni C⟩
theorem Pp(aR:5000<N){cw}(dM:hB N=some cw)(aA:ys.length=6)(n:∀Y∈ys,Y.1=true->Y.2.1 % 4=3)(h:k4 f g)(ag:b=0\/b=1){a c:Int}(bl:1<=a/\a<=40)(aa:1<=c/\c<=40)(i:-4<=r/\r<=4)(he:c=if b=1 then a+r else a-r)(e:cp (if b=1 then g else f) a≠[])(j:(cp (if b=1 then g else f) a).length+(cp (if b=1 then f else g) c).length<=4){l:dc}(m:∀f' g',k4 f' g'->(∀k,cp f' k=if b=1 then(if k=c then cp g a++cp f k else cp f k)else(if k=a then [] else cp f k))->(∀k,cp g' k=if b=1 then(if k=a then [] else cp g k)else(if k=c then cp g k++cp f a else cp g k))->dz N cw l (fm t ys r f' g') Q) :
  dz N cw (oL b a::l) (fm t ys r f g) Q:=by
 have ak:=anL aR h ag bl aa i he e j aA n (own t) [] [];have d:=amA (amz N (nd:=(b,a)) ⟨ag,bl.1,bl.2⟩) rfl r f g (own t) [] ys [] dM;show T (lA N (7,(0,((b,a),(0,0)))) r f g (own t) [] ys [] cw) _;rw[d];simp only[aO];refine ak.mono ?_;rintro⟨dA,e1,f',g'⟩ ⟨J,U,ah,aI,bb⟩;subst J U;exact⟨rfl,m f' g' ah aI bb⟩
def iO(g:bF)(r d p b:Int):Nat->dd
 |0=>[]
 |i+1=>iO g r d p b i++(if p=4 * ((i:Int)+1+r)+(if d=0 then -1 else 1)\/p=4 * ((i:Int)+1+r)+3 * (if d=0 then -1 else 1)then(g.getD i []).map (λa=>(a,(true,b)))else [])
theorem Pr(a:ho g)(r d p b:Int):∀i,(iO g r d p b i).length<=4 * i
 |0=>Nat.le_refl _
 |i+1=>by
  have:=Pr a r d p b i
  have c:(g.getD i []).length<=4:=by
   rw[getD_eq_getElem?_getD];cases aq:g[i]? with
   |none=>exact zero_le _
   |some z=>exact a.dy z (mem_of_getElem? aq)
  grind [iO,length_append,Int]
theorem anN(aR:5000<N)(c:Int)(n:(g.getD i []).length<=4)(b:dd)(bl:b.length<=1000):Wp N (f,g) c (i:Int) N ((0:Int),b)=some (b++(g.getD i []).map (λa=>(a,(true,c)))):=by
 refine ek (λk s=>∃j:Nat,j+k=(g.getD i []).length/\s=((j:Int),b++((g.getD i []).take j).map (λa=>(a,(true,c))))) _ ?_ N (g.getD i []).length _ (by omega) ⟨0,by omega,by simp⟩;rintro k s rec ⟨j,m,rfl⟩ h
 apply T.eq
 by_cases l:j<(g.getD i []).length
 ·obtain⟨x,ak⟩:∃x,(g.getD i [])[j]?=some x:=⟨_,getElem?_eq_getElem l⟩
  have d:(j:Int)<((g.getD i []).length:Int):=by omega
  have e:=h (k-1) ((j:Int)+1,b++((g.getD i []).take (j+1)).map (λa=>(a,(true,c)))) (by omega) ⟨j+1,by omega,rfl⟩;rw[qg ak,map_append,<- append_assoc]at e;have this:T (rec ((j:Int)+1,b++((g.getD i []).take j).map (λa=>(a,(true,c)))++[(x,(true,c))])) (·=b++(g.getD i []).map (λa=>(a,(true,c)))):=⟨_,e,rfl⟩
  simp only[aO,reduceCtorEq,d,b1 ak,length_append,length_map,List.length_take,length_singleton]
  grind
 ·have d:¬(j:Int)<((g.getD i []).length:Int):=by omega
  simp only[aO,reduceCtorEq,d]
  grind [take_of_length_le]
theorem YH(N:Nat)(l:dd)(h:l.length<=100000):sW N l=some (l,l.length):=by
 unfold sW
 apply T.eq
 grind [aO,length_replicate]
theorem anO(aR:5000<N)(h:k4 f g){d:Int}(n:-4<=r/\r<=4)(az:(d=0/\-3<=r)\/(d=1/\r<=3))(an:p % 4=3)(E:-13<=p/\p<=179):HP N (f,g) r d p=some (if d=0 then iO g r d p 1 g.length else(iO g r d p 0 g.length).reverse,if d=0 then(iO g r d p 1 g.length).length else(iO g r d p 0 g.length).reverse.length,0):=by
 have C:=h.cx.gv.len;have K:=Yw aR h.cx h.jx h.dy n az;have F:¬tmod p 2=0:=by
  grind
 have A:lf.length=2:=rfl;have cY:lf.getD d.toNat 0=if d=0 then -1 else 1:=by
  rcases az with⟨rfl,_⟩|⟨rfl,_⟩<;>rfl
 have G:∀b:Int,Wq N (f,g) r d p b N (0,[])=some (iO g r d p b g.length):=by
  intro b;refine ek (λk s=>∃i:Nat,i+k=g.length/\s=((i:Int),iO g r d p b i)) _ ?_ N g.length _ (by omega) ⟨0,by omega,rfl⟩;rintro k s rec ⟨i,hi,rfl⟩ w
  apply T.eq
  by_cases I:i<g.length
  ·have o:(i:Int)<(g.length:Int):=by omega
   have y:=A0 N (nd:=(1,(i:Int)+1)) ⟨inr rfl,by dsimp only;omega,by dsimp only;omega⟩ n;have J:eH 1 ((i:Int)+1) r=4 * ((i:Int)+1+r):=rfl;have H:=Pr h.cx.gv r d p b i;have v:(g.getD i []).length<=4:=by
    rw[getD_eq_getElem?_getD];cases aq:g[i]? with
    |none=>exact zero_le _
    |some z=>exact h.cx.gv.dy z (mem_of_getElem? aq)
   have cR:=anN aR (f:=f) b v (iO g r d p b i) (by omega);have j:=w (k-1) ((i:Int)+1,iO g r d p b (i+1)) (by omega) ⟨i+1,by omega,rfl⟩;obtain⟨c,m⟩:∃c:Int,c=if d=0 then -1 else 1:=⟨_,rfl⟩
   have t:iO g r d p b (i+1)=iO g r d p b i++(if p=4 * ((i:Int)+1+r)+c\/p=4 * ((i:Int)+1+r)+3 * c then(g.getD i []).map (λa=>(a,(true,b)))else []):=by
    rw[m]
    rfl
   rw[t]at j;have B:lf.getD d.toNat 0=c:=by rw[cY,m]
   by_cases l:p=4 * ((i:Int)+1+r)+c\/p=4 * ((i:Int)+1+r)+3 * c
   ·rw[if_pos l]at j
    have this:T (rec ((i:Int)+1,iO g r d p b i++(g.getD i []).map (λa=>(a,(true,b))))) (·=iO g r d p b g.length):=⟨_,j,rfl⟩
    have u:¬(¬p=4 * ((i:Int)+1+r)+c/\¬p=4 * ((i:Int)+1+r)+3 * c):=λe=>l.elim e.1 e.2
    simp only[aO,reduceCtorEq,o,bd y,B,A,bd cR];refine⟨by omega,by and_intros<;>first|omega|(simp only[dU];omega)|exact this|trivial,by and_intros<;>first|omega|(simp only[dU];omega)|exact this|trivial,λe=>absurd e u,λ_=>⟨by omega,this⟩⟩
   ·rw[if_neg l,append_nil]at j
    grind [aO,reduceCtorEq,bd,absurd]
  ·have o:¬(i:Int)<(g.length:Int):=by omega
   grind [aO,reduceCtorEq]
 have q:=λb=>Pr h.cx.gv r d p b g.length
 unfold HP
 apply T.eq
 rcases az with⟨rfl,ah⟩|⟨rfl,ah⟩
 ·grind [YH,iO,aO,reduceEq,reduceCtorEq,bd]
 ·have D:=OL (N:=N) (iO g r 1 p 0 g.length) (by have:=q 0;omega) (by have:=q 0;omega)
  grind [YH,iO,List.length_reverse,aO,reduceCtorEq,bd,Int]
theorem Ec{d a:Int}:∀i:Nat,(∀j:Nat,j<i->(p=4 * ((j:Int)+1+r)+(if d=0 then -1 else 1)\/p=4 * ((j:Int)+1+r)+3 * (if d=0 then -1 else 1))->g.getD j []=[])->iO g r d p a i=[]
 |0,_=>rfl
 |i+1,h=>by
  show iO g r d p a i++_=[]
  rw[Ec i λj b=>h j (by omega)]
  by_cases c:p=4 * ((i:Int)+1+r)+(if d=0 then -1 else 1)\/p=4 * ((i:Int)+1+r)+3 * (if d=0 then -1 else 1)
  ·grind
  grind
theorem YJ{a:Int}{c:Nat}(aa:g.getD c []=[x])(b:∀j,j≠c->g.getD j []=[])(an:p=4 * ((c:Int)+1+r)+3):∀i,iO g r 1 p a i=if c<i then [(x,(true,a))] else []
 |0=>by rw[if_neg (by omega)];rfl
 |i+1=>by
  show iO g r 1 p a i++_=_;rw[YJ aa b an i]
  by_cases hi:i=c
  ·grind
  grind
def yF(ys:b2):Prop:=∀(i:Nat) (Y:aU),ys[i]?=some Y->Y.1=true->Y.2.1 % 4=3
theorem IZ(aR:5000<N)(h:k4 f g){d:Int}(j:-4<=r/\r<=4)(az:(d=0/\-3<=r)\/(d=1/\r<=3))(B:∀i:Nat,i<g.length->g.getD i []≠[]->cp f ((i:Int)+1+(if d=0 then r-1 else r))=[])(aA:ys.length=6)(lB:∀Y∈ys,hn Y)(cA:yF ys)(gV:ti<6)(bt:ys[ti]?=some Y)(ca:Y.1=true)(sc:∀(i:Nat) (Z:aU),i≠ti->ys[i]?=some Z->Z.1=true->∀A,iO g r d Z.2.1 A g.length=[]){M:dd}(J:(if d=0 then iO g r d Y.2.1 1 g.length else(iO g r d Y.2.1 0 g.length).reverse)=M)(q:∀p∈M,oH p)(s:M.length+Y.2.2.2.2.length<=4096)(tb:List (Bool×cq))(b:List (eJ×Int))(fl:bJ) :
  vY N d r f g tb b ys fl=some (0,r,f,g,tb,b,ys.set ti (true,Y.2.1,Y.2.2.1,Y.2.2.2.1,ee Y.2.2.2.2 M),fl):=by
 obtain⟨Z,y⟩:∃Z:aU,Z=(true,Y.2.1,Y.2.2.1,Y.2.2.2.1,ee Y.2.2.2.2 M):=⟨_,rfl⟩
 rw[<- y];have t:∀W∈ys,W.1=true->-13<=W.2.1/\W.2.1<=179:=λW ck hi=>((lB W ck).at' hi).2
 have E:WH N d tb b ys fl N (0,r,f,g,ys)=some (.inl (r,f,g,ys.set ti Z)):=by
  refine ek (λk m=>∃i:Nat,i+k=6/\m=((i:Int),r,f,g,if i<=ti then ys else ys.set ti Z)) _ ?_ N 6 _ (by omega) ⟨0,by omega,by rw[if_pos (zero_le _)];rfl⟩;rintro k m rec ⟨i,hi,rfl⟩ z
  apply T.eq
  by_cases K:i<6
  ·obtain⟨W,ck⟩:∃W,ys[i]?=some W:=⟨_,getElem?_eq_getElem (by omega)⟩
   have a:=mem_of_getElem? ck;obtain⟨C,G⟩:∃C,C=if i<=ti then ys else ys.set ti Z:=⟨_,rfl⟩
   have u:C[i]?=some W:=by
    grind
   have L:=z (k-1) ((i:Int)+1,r,f,g,if i+1<=ti then ys else ys.set ti Z) (by omega) ⟨i+1,by omega,rfl⟩
   by_cases c:W.1=true
   ·have v:=t W a c
    have P:=anO aR h j az (cA i W ck c) v
    by_cases o:i=ti
    ·subst o
     rw[bt]at ck;obtain rfl:=Option.some.inj ck;have D:=AX (lB Y a) ca aR ((lB Y a).at' ca) q s
     grind [Int,aO,reduceCtorEq,b1,bd]
    ·have F:(if d=0 then iO g r d W.2.1 1 g.length else(iO g r d W.2.1 0 g.length).reverse)=[]:=by
      grind
     have D:=AX (lB W a) c aR ((lB W a).at' c) (l:=[]) (λp an=>by cases an) (by have:=(lB W a).dy;show 0+_<=4096;omega);have H:((true,W.2.1,W.2.2.1,W.2.2.2.1,ee W.2.2.2.2 []):aU)=W:=by
      show(true,W.2.1,W.2.2.1,W.2.2.2.1,W.2.2.2.2)=W
      grind
     have O:C.set i W=C:=s6 u;have Q:(if i+1<=ti then ys else ys.set ti Z)=C:=by
      grind
     grind [aO,reduceCtorEq,b1,bd]
   ·have I:W.1=false:=by simpa using c
    have o:i≠ti:=λe=>by
     grind
    grind [Int,aO,reduceCtorEq,b1]
  grind [Int,aO,reduceCtorEq]
 have cY:=anu aR h.cx h.jx h.dy j az B;have w:WI N (([]:dI),0,0) N (0,r,f,g,b,fl,ys.set ti Z,tb)=some (.inl (r,f,g,b,fl,ys.set ti Z,tb)):=by
  obtain⟨n,rfl⟩:∃n,N=n+1:=⟨N-1,by omega⟩
  rfl
 unfold vY
 apply T.eq
 simp only[aO,bd E,bd cY,bd w]
theorem Ps(h:Y.1=true):((true,Y.2.1,Y.2.2.1,Y.2.2.2.1,ee Y.2.2.2.2 []):aU)=Y:=by
 show(true,Y.2.1,Y.2.2.1,Y.2.2.2.1,Y.2.2.2.2)=Y
 grind
theorem YK(aR:5000<N)(h:k4 f []){q:Int}(m:-4<=q/\q<=4)(n:-4<=r/\r<=4)(aA:ys.length=6)(lB:∀Y∈ys,hn Y)(cA:yF ys)(gV:ti<6)(bt:ys[ti]?=some Y)(ca:Y.1=true)(tb:List (Bool×cq))(a:List (eJ×Int))(fl:bJ) :
  vZ N (3,(0,((0,0),(0,r)))) q f [] tb a ys fl=some (0,r,f,[],tb,a,ys,fl):=by
 have b:∀x d:Int, -4<=x/\x<=4->(d=0/\-3<=x)\/(d=1/\x<=3)->vY N d x f [] tb a ys fl=some (0,x,f,[],tb,a,ys,fl):=by
  intro x d ak az;have c:=IZ aR h ak az (λi hi=>absurd hi (Nat.not_lt_zero _)) aA lB cA gV bt ca (λi Z _ _ _ s=>rfl) (M:=[]) (by split<;>rfl) (λp an=>by cases an) (by have:=(lB Y (mem_of_getElem? bt)).dy;show 0+_<=4096;omega) tb a fl
  grind [Ps,s6]
 have l:NW N (3,(0,((0,0),(0,r)))) N (q,f,[],a,fl,ys,tb)=some (.inl (r,f,[],a,fl,ys,tb)):=by
  refine ek (λk g=>∃x:Int,(x-r).natAbs=k/\((q<=x/\x<=r)\/(r<=x/\x<=q))/\g=(x,f,[],a,fl,ys,tb)) _ ?_ N (q-r).natAbs _ (by omega) ⟨q,rfl,by omega,rfl⟩;rintro k g rec ⟨x,ak,u,rfl⟩ e
  apply T.eq
  by_cases j:x=r
  ·grind [aO,reduceCtorEq]
  ·have t:¬x=r:=j
   by_cases o:r<x
   ·have c:=b x 0 (by omega) (inl ⟨rfl,by omega⟩)
    have this:T (rec (x-1,f,[],a,fl,ys,tb)) (·=.inl (r,f,[],a,fl,ys,tb)):=⟨_,e (k-1) _ (by omega) ⟨x-1,by omega,by omega,rfl⟩,rfl⟩
    grind [aO,reduceCtorEq,bd]
   ·have c:=b x 1 (by omega) (inr ⟨rfl,by omega⟩)
    have this:T (rec (x+1,f,[],a,fl,ys,tb)) (·=.inl (r,f,[],a,fl,ys,tb)):=⟨_,e (k-1) _ (by omega) ⟨x+1,by omega,by omega,rfl⟩,rfl⟩
    grind [aO,reduceCtorEq,bd]
 unfold vZ
 apply T.eq
 simp only[aO,bd l]
theorem anW(aR:5000<N)(h:k4 f g){q:Int}(G:-4<=q/\q<=4)(am:-4<=r/\r<=4)(af:q<r)(y:anw f g q r){c:Nat}(aa:g.getD c []=[x])(u:∀j,j≠c->g.getD j []=[])(ak:l6 x)(aA:ys.length=6)(lB:∀Y∈ys,hn Y)(cA:yF ys)(gV:ti<6)(bt:ys[ti]?=some Y)(ca:Y.1=true)(jR:Y.2.2.2.2.length<=4000)(hle:Y.2.1<=4 * ((c:Int)+1+q)+3)(sc:∀(i:Nat) (Z:aU),i≠ti->ys[i]?=some Z->Z.1=true->Z.2.1<4 * ((c:Int)+1+q))(tb:List (Bool×cq))(a:List (eJ×Int))(fl:bJ) :
  vZ N (3,(0,((0,0),(0,r)))) q f g tb a ys fl=some (0,r,f,g,tb,a,(if Y.2.1=4 * ((c:Int)+1+q)+3 then ys.set ti (true,Y.2.1,Y.2.2.1,Y.2.2.2.1,ee Y.2.2.2.2 [(x,(true,0))])else ys),fl):=by
 have C:=mem_of_getElem? bt;have S:c<g.length:=by
  grind
 obtain⟨b,J⟩:∃b,b=if Y.2.1=4 * ((c:Int)+1+q)+3 then ys.set ti (true,Y.2.1,Y.2.2.1,Y.2.2.2.1,ee Y.2.2.2.2 [(x,(true,0))])else ys:=⟨_,rfl⟩
 rw[<- J];have ai:vY N 1 q f g tb a ys fl=some (0,q,f,g,tb,a,b,fl):=by
  have D:∀(i:Nat) (Z:aU),i≠ti->ys[i]?=some Z->Z.1=true->∀w,iO g q 1 Z.2.1 w g.length=[]:=λi Z n d s w=>Ec g.length λj v A=>by
   have U:=sc i Z n d s;have ah:=cA i Z d s
   grind
  by_cases l:Y.2.1=4 * ((c:Int)+1+q)+3
  ·rw[if_pos l]at J
   rw[J];exact IZ aR h G (inr ⟨rfl,by omega⟩) (λi hi o=>by rw[if_neg (by decide)];exact y i hi o q (by omega)) aA lB cA gV bt ca D (by rw[if_neg (by decide),YJ aa u l,if_pos S];rfl) (λp an=>by rw[List.mem_singleton]at an;rw[an];exact⟨ak,inl rfl⟩) (by show 1+_<=4096;omega) tb a fl
  ·rw[if_neg l]at J
   have m:=IZ aR h G (inr ⟨rfl,by omega⟩) (λi hi o=>by rw[if_neg (by decide)];exact y i hi o q (by omega)) aA lB cA gV bt ca D (M:=[]) (by
    rw[if_neg (by decide),Ec g.length λj v A=>by
     have ah:=cA ti Y bt ca;exact u j (λe=>by subst e;omega)]
    rfl) (λp an=>by cases an) (by show 0+_<=4096;omega) tb a fl
   rw[Ps ca,s6 bt]at m;rw[J];exact m
 have ag:hn (true,Y.2.1,Y.2.2.1,Y.2.2.2.1,ee Y.2.2.2.2 [(x,(true,0))]):=wi (lB Y C) ((lB Y C).at' ca) (λp an=>by rw[List.mem_singleton]at an;rw[an];exact⟨ak,inl rfl⟩) (by show 1+_<=4096;omega);obtain⟨t,B,K,aj,X,L,V,O⟩:∃t,b[ti]?=some t/\t.1=true/\t.2.1=Y.2.1/\b.length=6/\(∀W∈b,hn W)/\yF b/\∀(i:Nat) (Z:aU),i≠ti->b[i]?=some Z->ys[i]?=some Z:=by
  by_cases l:Y.2.1=4 * ((c:Int)+1+q)+3
  ·rw[if_pos l]at J
   refine⟨(true,Y.2.1,Y.2.2.1,Y.2.2.2.1,ee Y.2.2.2.2 [(x,(true,0))]),by rw[J,getElem?_set,if_pos rfl,if_pos (by omega)],rfl,rfl,by rw[J,length_set];exact aA,λW ck=>?_,λi W ck ab=>?_,λi Z n d=>?_⟩
   ·rw[J]at ck
    rcases ix ck with ck|rfl
    ·grind
    omega
   ·rw[J,getElem?_set]at ck
    split at ck
    ·grind
    ·exact cA i W ck ab
   ·rw[J,getElem?_set,if_neg (λe=>n e.symm)]at d
    exact d
  ·rw[if_neg l]at J
   rw[J];exact⟨Y,bt,ca,rfl,aA,lB,cA,λi Z _ d=>d⟩
 have ae:∀z:Int,q<z->z<r->vY N 1 z f g tb a b fl=some (0,z,f,g,tb,a,b,fl):=by
  intro z hF gn;have m:=IZ aR h (r:=z) (by omega) (inr ⟨rfl,by omega⟩) (λi hi o=>by rw[if_neg (by decide)];exact y i hi o z (by omega)) X L V gV B K (λi Z n d s w=>Ec g.length λj v A=>by
   have E:=O i Z n d;have U:=sc i Z n E s;have ah:=cA i Z E s;exact u j (λe=>by subst e;omega)) (M:=[]) (by
   rw[if_neg (by decide),Ec g.length λj v A=>by
    exact u j (λe=>by subst e;omega)]
   rfl) (λp an=>by cases an) (by have:=(L t (mem_of_getElem? B)).dy;show 0+_<=4096;omega) tb a fl
  rw[Ps K,s6 B]at m;omega
 have ac:NW N (3,(0,((0,0),(0,r)))) N (q,f,g,a,fl,ys,tb)=some (.inl (r,f,g,a,fl,b,tb)):=by
  refine ek (λk H=>∃z:Int,(z-r).natAbs=k/\q<=z/\z<=r/\H=(z,f,g,a,fl,(if z=q then ys else b),tb)) _ ?_ N (q-r).natAbs _ (by omega) ⟨q,rfl,by omega,by omega,by rw[if_pos rfl]⟩;rintro k H rec ⟨z,bw,hF,gn,rfl⟩ P
  apply T.eq
  by_cases F:z=r
  ·subst F
   rw[if_neg (by omega)];simp only[aO,reduceCtorEq]
  ·have R:¬z=r:=F
   have Q:¬r<z:=by omega
   have I:=P (k-1) (z+1,f,g,a,fl,(if z+1=q then ys else b),tb) (by omega) ⟨z+1,by omega,by omega,by omega,rfl⟩;rw[if_neg (by omega)]at I;have this:T (rec (z+1,f,g,a,fl,b,tb)) (·=.inl (r,f,g,a,fl,b,tb)):=⟨_,I,rfl⟩
   have m:vY N 1 z f g tb a (if z=q then ys else b) fl=some (0,z,f,g,tb,a,b,fl):=by
    by_cases al:z=q
    ·grind
    ·grind
   simp only[aO,reduceCtorEq,R,Q,bd m]
   grind
 unfold vZ
 apply T.eq
 simp only[aO,bd ac]
def tf(c:Int->bJ)(x:ad)(b a:Int):Int->bJ:=λk=>(if k=a then [x] else [])++(if k=b then [] else c k)
structure A8(fo:b2)(ti:Nat)(Y:aU)(h3:Int->bJ)(x:ad)(a0 b:Int):Prop where
 aA:fo.length=6
 lB:∀W∈fo,hn W
 cA:yF fo
 gV:ti<6
 bt:fo[ti]?=some Y
 ca:Y.1=true
 an:Y.2.1=4 * a0+3
 jR:Y.2.2.2.2.length<=3000
 sc:∀(i:Nat) (Z:aU),i≠ti->fo[i]?=some Z->Z.1=true->Z.2.1<4 * a0
 ok:l6 x
 qo:1<=a0/\a0<b/\b<=40
 ar6:h3 a0=[x]
 free:∀k,a0<k->k<b->h3 k=[]
 dy:(h3 b).length<=3
def kd(a:b2)(ti:Nat)(Y:aU)(x:ad):b2:=a.set ti (true,Y.2.1,Y.2.2.1,Y.2.2.2.1,ee Y.2.2.2.2 [(x,(true,0))])
def rf(t:bY)(c:b2)(ti:Nat)(Y:aU)(d:Int->bJ)(x:ad)(b:Int)(q a:Int)(s:hY):Prop:=∃f,s=fm t (if a=b then c else kd c ti Y x) q f []/\k4 f []/\∀k,cp f k=tf d x b a k
theorem A8.Pu{c:b2}{n:Int->bJ}{d:Int}(h:A8 c ti Y n x d b)(a:Int):∃f,(if a=d then c else kd c ti Y x)[ti]?=some f/\f.1=true/\f.2.1=4 * d+3/\(a=d->f=Y)/\f.2.2.2.2.length<=3001/\(if a=d then c else kd c ti Y x).length=6/\(∀W∈(if a=d then c else kd c ti Y x),hn W)/\yF (if a=d then c else kd c ti Y x)/\∀(i:Nat) (Z:aU),i≠ti->(if a=d then c else kd c ti Y x)[i]?=some Z->Z.1=true->Z.2.1<4 * d:=by
 have j:=mem_of_getElem? h.bt;have jR:=h.jR;have gV:=h.gV;have aA:=h.aA
 by_cases e:a=d
 ·rw[if_pos e]
  exact⟨Y,h.bt,h.ca,h.an,λ_=>rfl,by omega,h.aA,h.lB,h.cA,h.sc⟩
 ·rw[if_neg e]
  have ao:=DV Y.2.2.2.2 [(x,(true,0))];have l:hn (true,Y.2.1,Y.2.2.1,Y.2.2.2.1,ee Y.2.2.2.2 [(x,(true,0))]):=wi (h.lB Y j) ((h.lB Y j).at' h.ca) (λp an=>by rw[List.mem_singleton]at an;rw[an];exact⟨h.ok,inl rfl⟩) (by show 1+_<=4096;omega);refine⟨(true,Y.2.1,Y.2.2.1,Y.2.2.2.1,ee Y.2.2.2.2 [(x,(true,0))]),by unfold kd;rw[getElem?_set,if_pos rfl,if_pos (by omega)],rfl,h.an,λm=>absurd m e,by show(ee Y.2.2.2.2 [(x,(true,0))]).length<=3001;rw[length_singleton]at ao;omega,by unfold kd;rw[length_set];exact aA,λW ck=>?_,λi W ck o=>?_,λi Z k g=>?_⟩
  ·unfold kd at ck
   rcases ix ck with ck|rfl
   ·exact h.lB W ck
   ·exact l
  ·unfold kd at ck
   rw[getElem?_set]at ck
   split at ck
   ·split at ck
    ·cases ck
     exact h.cA ti Y h.bt h.ca
    ·cases ck
   ·exact h.cA i W ck o
  ·unfold kd at g
   rw[getElem?_set,if_neg (λe=>k e.symm)]at g;exact h.sc i Z k g
theorem anX(aR:5000<N){cw}(dM:hB N=some cw){g:b2}{n:Int->bJ}{d:Int}(h:A8 g ti Y n x d b){a B q:Int}(bl:d<=a)(aD:0<B)(aF:a+B<=b)(aj:-4<=q/\q<=4)(w:-4<=r/\r<=4)(A:-4<=r+B/\r+B<=4)(H:1<=a-r/\a-r<=40){s:hY}(ae:rf t g ti Y n x d q a s) :
  dz N cw (yE [a] q r B) s (rf t g ti Y n x d (r+B) (a+B)):=by
 obtain⟨f,rfl,T,am⟩:=ae;obtain⟨M,P,S,av,ah,az,E,V,D,ac⟩:=h.Pu a;have aw:=h.qo;obtain⟨c,aa⟩:∃c:Nat,a-r=(c:Int)+1:=⟨(a-r-1).toNat,by omega⟩
 have v:∀k,cp f k=if k=a then [x] else if k=d then [] else n k:=λk=>by
  rw[am];unfold tf
  by_cases ab:k=a
  ·rw[if_pos ab,if_pos ab]
   by_cases p:k=d
   ·rw[if_pos p,append_nil]
   ·rw[if_neg p,h.free k (by omega) (by omega),append_nil]
  ·rw[if_neg ab,if_neg ab,nil_append]
 have R:∀ys:b2,yF ys->∀W∈ys,W.1=true->W.2.1 % 4=3:=λys cA W ck hi=>by
  obtain⟨i,aq⟩:=List.mem_iff_getElem?.1 ck;exact cA i W aq hi
 have J:dz N cw (if q=r then [] else [td r]) (fm t (if a=d then g else kd g ti Y x) q f []) (·=fm t (if a=d then g else kd g ti Y x) r f []):=by
  by_cases y:q=r
  ·rw[if_pos y,y]
   rfl
  ·rw[if_neg y]
   have C:=YK aR T aj w E V D h.gV P S (own t) [] [];exact dz.one ((Pd (Pc N w) rfl q f [] (own t) [] _ [] dM).trans C) rfl
 have U:dz N cw [oL 0 a] (fm t (if a=d then g else kd g ti Y x) r f []) λs=>∃f' g',s=fm t (if a=d then g else kd g ti Y x) r f' g'/\k4 f' g'/\(∀k,cp f' k=if k=a then [] else if k=d then [] else n k)/\∀k,cp g' k=if k=a-r then [x] else []:=by
  refine Pp aR dM E (R _ D) T (inl rfl) (by omega) H w (by rw[if_neg (by decide)]) (by rw[if_neg (by decide),v,if_pos rfl];simp) (by rw[if_neg (by decide),if_neg (by decide),v,if_pos rfl,Pe];show 1+0<=4;decide) λf' g' o m l=>?_
  simp only[show((0:Int)=1)=False by simp,if_false]at m l;refine⟨f',g',rfl,o,λk=>?_,λk=>?_⟩
  ·rw[m,v]
   by_cases ab:k=a
   ·rw[if_pos ab,if_pos ab]
   ·rw[if_neg ab,if_neg ab,if_neg ab]
  ·rw[l,v,if_pos rfl,Pe]
   by_cases ab:k=a-r
   ·rw[if_pos ab,if_pos ab,nil_append]
   ·rw[if_neg ab,if_neg ab]
 unfold yE;rw[if_neg (show ¬r=r+B by omega)];refine dz.append (Q:=λs=>∃f' g',s=fm t (kd g ti Y x) (r+B) f' g'/\k4 f' g'/\(∀k,cp f' k=if k=a then [] else if k=d then [] else n k)/\∀k,cp g' k=if k=a-r then [x] else []) ?_ (dz.append (Q:=λs=>∃f' g',s=fm t (if a=d then g else kd g ti Y x) r f' g'/\k4 f' g'/\(∀k,cp f' k=if k=a then [] else if k=d then [] else n k)/\∀k,cp g' k=if k=a-r then [x] else []) ?_ (dz.append ?_ J))
 ·rintro s ⟨f',g',rfl,o,m,l⟩
  obtain⟨au,ap,aG,aE,_,aA,L,ai,G,af⟩:=h.Pu (d+1);rw[if_neg (show ¬d+1=d by omega)]at ap L ai G af;have ax:(n (a+B)).length<=3:=by
   by_cases e:a+B=b
   ·rw[e];exact h.dy
   ·rw[h.free (a+B) (by omega) (by omega)];decide
  refine Pp aR dM L (R _ G) o (inr rfl) H (c:=a+B) (by omega) A (by rw[if_pos rfl];omega) (by rw[if_pos rfl,l,if_pos rfl];simp) (by rw[if_pos rfl,if_pos rfl,l,if_pos rfl,m,if_neg (by omega),if_neg (by omega)];show 1+_<=4;omega) λal g2 F K I=>?_
  simp only[if_true]at K I;have ar:g2=[]:=yz F.cx.gs qh (anz F.cx.gv.len (zero_le _) λk=>by
   rw[I,Pe,l]
   by_cases ab:k=a-r
   ·rw[if_pos ab]
   ·rw[if_neg ab,if_neg ab])
  subst ar;refine⟨al,by rw[if_neg (show ¬a+B=d by omega)],F,λk=>?_⟩;rw[K,l,if_pos rfl,m];unfold tf
  by_cases ab:k=a+B
  ·rw[if_pos ab,if_pos ab,if_neg (show ¬k=a by omega)]
  ·rw[if_neg ab,if_neg ab,nil_append]
   by_cases u:k=a
   ·rw[if_pos u]
    by_cases p:k=d
    ·rw[if_pos p]
    ·rw[if_neg p,h.free k (by omega) (by omega)]
   ·rw[if_neg u]
 ·rintro s ⟨f',g',rfl,o,m,l⟩
  have X:g'.getD c []=[x]:=by
   have:=l ((c+1:Nat):Int)
   rw[hC (by omega) (by omega),if_pos (by omega)]at this;exact this
  have O:∀j,j≠c->g'.getD j []=[]:=λj ay=>by
   by_cases aB:j<40
   ·have:=l ((j+1:Nat):Int)
    rw[hC (by omega) (by omega),if_neg (by omega)]at this;exact this
   ·have:=o.cx.gv.len
    rw[getD_eq_getElem?_getD,getElem?_eq_none (by omega)]
    rfl
  have C:=anW aR o w A (by omega) (λi hi ag z bw=>by
   have aC:i=c:=by
    by_cases e:i=c
    ·exact e
    ·exact absurd (O i e) ag
   rw[m]
   by_cases u:(i:Int)+1+z=a
   ·rw[if_pos u]
   ·rw[if_neg u,if_neg (by omega)]
    exact h.free _ (by omega) (by omega)) X O h.ok E V D h.gV P S (by omega) (by omega) (λi Z ao ak an=>by have:=ac i Z ao ak an;omega) (own t) [] []
  refine dz.one ((Pd (Pc N A) rfl r f' g' (own t) [] _ [] dM).trans C) ⟨f',g',?_,o,m,l⟩
  by_cases e:a=d
  ·rw[if_pos (show M.2.1=4 * ((c:Int)+1+r)+3 by omega),ah e]
   rw[if_pos e]
   rfl
  ·rw[if_neg (show ¬M.2.1=4 * ((c:Int)+1+r)+3 by omega),if_neg e]
   rfl
 ·rintro s rfl
  exact U
theorem an2(aR:5000<N){cw}(dM:hB N=some cw){g:b2}{i:Int->bJ}{c:Int}(h:A8 g ti Y i x c b){m:hY}{q:Int}(S:-4<=q/\q<=4){ops:dc}(al:ops.length<=10000)(W:dz N cw ops m (rf t g ti Y i x c q c)) :
  T (vO N [c] (b-c) q ops) λo=>(-4<=o.1/\o.1<=4)/\o.2.length<=ops.length+90/\dz N cw o.2 m (rf t g ti Y i x c o.1 b):=by
 have af:=h.qo;have aa:Hz N [c]=some [c]:=by
  unfold Hz
  apply T.eq
  simp only[aO,nil_append,length_nil,length_singleton];omega
 have cR:T (V7 N N (b-c,[c],q,ops)) λo=>(-4<=o.1/\o.1<=4)/\o.2.length<=ops.length+90/\dz N cw o.2 m (rf t g ti Y i x c o.1 b):=by
  refine kB (λk s=>∃(a e:Int) (f:dc),(b-a).natAbs=k/\c<=a/\a<=b/\s=(b-a,[a],e,f)/\(-4<=e/\e<=4)/\f.length+18 * ((k+7) / 8)<=ops.length+90/\dz N cw f m (rf t g ti Y i x c e a)) _ ?_ N (b-c).natAbs _ (by omega) ⟨c,q,ops,rfl,by omega,by omega,rfl,S,by omega,W⟩;rintro k s rec ⟨a,e,f,ab,Q,ak,rfl,F,ag,w⟩ U
  by_cases az:b-a=0
  ·have M:b=a:=by omega
   subst M;simp only[aO,reduceLT,reduceLE,reduceCtorEq,az];exact⟨F,by omega,w⟩
  ·have aj:=(anA (b-a)).1 (by omega)
   obtain⟨B,D⟩:∃B,B=iN (b-a):=⟨_,rfl⟩
   have n:=anB (b:=B) (last:=a) (q:=e) (by omega) (by omega) (by omega) (le_refl _);obtain⟨r,C⟩:∃r,r=wx B a a e:=⟨_,rfl⟩
   rw[<- C]at n;have E:=anC aR (d:=b-a) (q:=r+B) (A:=[a]) (by simp) (λz bw=>by rw[List.mem_singleton]at bw;omega);rw[<- D]at E;have V:=λ(s:hY) (p:rf t g ti Y i x c e a s)=>anX aR dM h Q (by omega) (by omega) F n.1 n.2.1 (by omega) p
   have Z:=w.append λs p=>V s p
   have L:fR (-8:Int) (if b-a<(8:Int)then b-a else(8:Int))=B:=D.symm;have K:fR (fR (fR (-4:Int) ((-4:Int)-B)) (a-(40:Int))) (ja (ja (ja (4:Int) ((4:Int)-B)) (a-(1:Int))) e)=r:=C.symm;have G:=Pf (N:=N) r e (ops:=f) (by omega);obtain⟨j,u⟩:∃j,j=f++(if e=r then [] else [td r]):=⟨_,rfl⟩
   have ah:j.length<=f.length+1:=by
    rw[u]
    split
    ·simp
    ·simp
   rw[<- u]at G;have H:=YA aR 0 0 r (by decide) (ops:=j) (by omega) (A:=[a]) (by simp) (λz bw=>by rw[List.mem_singleton]at bw;omega);have ac:([a].map λz=>z-0)=[a]:=by simp
   rw[ac]at H;have I:=Pf (N:=N) (r+B) r (ops:=j++[a].map (oL 0)) (by rw[length_append,length_map];show _+1<=_;omega);obtain⟨l,v⟩:∃l,l=j++[a].map (oL 0)++(if r=r+B then [] else [td (r+B)]):=⟨_,rfl⟩
   have ai:l.length<=f.length+10:=by
    rw[v]
    split
    ·simp only[length_append,length_map,length_nil,length_singleton];omega
    ·simp only[length_append,length_map,length_singleton];omega
   rw[<- v]at I;have J:=YA aR 1 r (r+B) (by omega) (ops:=l) (by omega) (A:=[a]) (by simp) (λz bw=>by rw[List.mem_singleton]at bw;omega);have y:l++([a].map λz=>z-r).map (oL 1)=f++yE [a] e r B:=by
    rw[v,u];unfold yE;simp only[append_assoc]
   rw[y]at J;have ae:(f++yE [a] e r B).length<=f.length+18:=by
    rw[<- y,length_append,length_map,length_map];show l.length+1<=_;omega
   have R:T (rec (b-a-B,[a].map (λz=>z+B),r+B,f++yE [a] e r B)) λo=>(-4<=o.1/\o.1<=4)/\o.2.length<=ops.length+90/\dz N cw o.2 m (rf t g ti Y i x c o.1 b):=by
    refine U (b-(a+B)).natAbs _ (by omega) ⟨a+B,r+B,f++yE [a] e r B,rfl,by omega,by omega,?_,n.2.1,by omega,Z⟩;rw[show b-a-B=b-(a+B) by omega]
    rfl
   have P:(((1:Nat):Int)-1).toNat=0:=rfl;have X:[a].getD 0 0=a:=rfl;simp only[aO,reduceLE,reduceCtorEq,L,az,P,X,K,bd G,bd H,bd I,bd J,bd E,Int.toNat_zero,length_singleton]
   and_intros<;>first|omega|exact this
   all_goals first|exact R|omega
 unfold vO;simp only[aO,bd aa];exact cR.mono λo O=>O
theorem an5(aR:5000<N){cw}(dM:hB N=some cw){d:b2}{g:Int->bJ}{a:Int}(h:A8 d ti Y g x a b){i:hY}(E:rf t d ti Y g x a 0 a i) :
  T (vP N [a] [b]) λo=>o.2.2=0/\o.1.length<=100/\dz N cw o.1 i (rf t d ti Y g x a 0 b):=by
 have P:=h.qo;obtain⟨n,bc⟩:∃n,N=n+2:=⟨N-2,by omega⟩
 have fp:vN N [a]=some 0:=by
  have cR:Dk N [a] N (0:Int)=some (.inl ()):=by
   subst bc;unfold Dk
   apply T.eq
   unfold b4;have J:¬a<1:=by omega
   have U:¬40<a:=by omega
   have c:[a].getD (0:Int).toNat 0=a:=rfl;unfold b4;simp only[aO,reduceCtorEq,show ¬(0:Int)+1<((1:Nat):Int) by decide]
   and_intros<;>first|omega|(simp only[dU];omega)|exact this|trivial
  unfold vN
  apply T.eq
  simp only[aO,bd cR]
 have cC:HC N [b] N (0:Int)=some (.inl ()):=by
  subst bc;unfold HC
  apply T.eq
  unfold b4;have J:¬b<1:=by omega
  have U:¬40<b:=by omega
  have c:[b].getD (0:Int).toNat 0=b:=rfl;unfold b4;simp only[aO,reduceCtorEq,show ¬(0:Int)+1<((1:Nat):Int) by decide]
  and_intros<;>first|omega|(simp only[dU];omega)|exact this|trivial
 have O:Dn N [a] [b] N ((0:Int),(0:Int),[],[],[])=some ((0:Int),[a],[b-a],[]):=by
  subst bc;unfold Dn
  apply T.eq
  unfold b4;have c:[b].getD (0:Int).toNat 0=b:=rfl;have g2:[a].getD (0:Int).toNat 0=a:=rfl;simp only[aO,reduceLE,reduceCtorEq,length_singleton,c,g2,nil_append,length_nil,show(0:Int)<((1:Nat):Int) by decide,show ¬(0:Int)+1<((1:Nat):Int) by decide];unfold b4;simp only[aO,reduceCtorEq,length_singleton,show ¬(0:Int)+1<((1:Nat):Int) by decide]
  and_intros<;>first|omega|(simp only[dU];omega)|exact this|trivial
 have k:uz N (0:Int) [a] [b-a]=some 1:=by
  subst bc;have cR:HA (n+2) (0:Int) [a] [b-a] (n+2) ((0:Int)+1)=some 1:=by
   unfold HA
   apply T.eq
   unfold b4;simp only[aO,reduceLE,reduceCtorEq,length_singleton,show ¬(0:Int)+1<((1:Nat):Int) by decide]
   and_intros<;>first|omega|(simp only[dU];omega)|exact this|trivial
  unfold uz
  apply T.eq
  simp only[aO,bd cR]
  and_intros<;>first|omega|(simp only[dU];omega)|exact this|trivial
 have q:HD N ((0:Int),[a],[b-a],([]:dc)) N ((0:Int),(0:Int),[])=some ((0:Int),[(0:Int)]):=by
  subst bc;unfold HD
  apply T.eq
  unfold b4;simp only[aO,reduceCtorEq,length_singleton,length_nil,nil_append,bd k,show(0:Int)<((1:Nat):Int) by decide];unfold b4;simp only[aO,reduceCtorEq,length_singleton,show ¬(1:Int)<((1:Nat):Int) by decide]
  and_intros<;>first|omega|(simp only[dU];omega)|exact this|trivial
 have u:HB N [(0:Int)]=some [(0:Int)]:=rfl;have l:=anD aR [(0:Int)] (by decide);have M:=an2 aR dM h ⟨by decide,by decide⟩ (ops:=[]) (by decide) E;have D:(0:Int)<b-a:=by omega
 have c:[b-a].getD (0:Int).toNat 0=b-a:=rfl;have F:(([a].take (1:Int).toNat).drop (0:Int).toNat)=[a]:=rfl;have p:D9 [(0:Int)] [(0:Int)].length=[((0:Int),(0:Int),())]:=rfl;rw[p]at l;unfold vP;simp only[aO,reduceEq,reduceCtorEq,bd fp,bd cC,bd O,bd q,bd u,bd l,length_singleton];unfold ky;unfold ky;simp only[aO,reduceLE,reduceCtorEq,c,D,bd k,F];refine⟨by omega,by and_intros<;>first|omega|(simp only[dU];omega)|exact this|trivial,by and_intros<;>first|omega|(simp only[dU];omega)|exact this|trivial,M.mono ?_⟩;rintro⟨dA,wA⟩ ⟨GX,Pw,qF⟩;dsimp only at GX Pw qF;have v:HE N ((0:Int),[a],[b-a],([]:dc)) ((0:Int),[(0:Int)]) N ((0:Int),wA,dA)=some (wA,dA):=by
  subst bc;unfold HE
  apply T.eq
  unfold b4;have z:[(0:Int)].getD (0:Int).toNat 0=0:=rfl;simp only[aO,reduceLE,reduceCtorEq,length_singleton,z,c,show(0:Int)<((1:Nat):Int) by decide,show ¬b-a<0 by omega];unfold b4;simp only[aO,reduceCtorEq,show ¬(0:Int)+1<((1:Nat):Int) by decide]
  and_intros<;>first|omega|(simp only[dU];omega)|exact this|trivial
 have w:=Pf (N:=N) 0 dA (ops:=wA) (by rw[length_nil]at Pw;omega);have y:=Pk N (wA++if dA=0 then [] else [td 0]);have I:dz N cw (wA++if dA=0 then [] else [td 0]) i (rf t d ti Y g x a 0 b):=by
  refine qF.append ?_;rintro s ⟨f,rfl,j,m⟩
  by_cases e:dA=0
  ·rw[if_pos e,e]
   exact⟨f,rfl,j,m⟩
  ·rw[if_neg e]
   obtain⟨Q,B,C,_,_,_,H,L,G,_⟩:=h.Pu b;have A:=YK aR j GX (r:=0) ⟨by decide,by decide⟩ H L G h.gV B C (own t) [] [];exact dz.one ((Pd (Pc N ⟨by decide,by decide⟩) rfl dA f [] (own t) [] _ [] dM).trans A) ⟨f,rfl,j,m⟩
 have K:(wA++if dA=0 then [] else [td 0]).length<=100:=by
  rw[length_nil]at Pw;rw[length_append]
  split
  ·show wA.length+0<=100
   omega
  ·show wA.length+1<=100
   omega
 simp only[bd v,bd w,bd y];exact⟨K,I⟩
theorem aob(b r:Int)(l:bF):∀i:Nat,∀p∈iK b r i l,p.2.1.1=b/\p.2.2=eH b p.2.1.2 r/\(i:Int)<p.2.1.2/\p.2.1.2<=(i:Int)+l.length/\p.1∈l.getD (p.2.1.2-i-1).toNat []:=by
 induction l with
 |nil=>intro i p an;cases an
 |cons s l d=>
  intro i p an
  rcases List.mem_append.1 an with an|an
  ·obtain⟨a,bl,rfl⟩:=List.mem_map.1 an
   refine⟨rfl,rfl,?_,?_,?_⟩
   ·show(i:Int)<(i:Int)+1
    omega
   ·show(i:Int)+1<=(i:Int)+((s::l).length:Nat)
    rw[length_cons];omega
   ·show a∈(s::l).getD ((i:Int)+1-i-1).toNat []
    rw[show((i:Int)+1-i-1).toNat=0 by omega];exact bl
  ·obtain⟨J,U,ah,e,c⟩:=d (i+1) p an
   refine⟨J,U,by omega,?_,?_⟩
   ·rw[length_cons]
    omega
   ·rw[show(p.2.1.2-(i:Int)-1).toNat=(p.2.1.2-((i+1:Nat):Int)-1).toNat+1 by omega,List.getD_cons_succ]
    exact c
section
variable {N:Nat} (aR:5000<N) {cw:List (Int×Option Nat)} (dM:hB N=some cw) {f:bF} {ys:b2} {t:bY} (h:ha f ys t) {y:Nat} (aA:y<6) {Y:aU} (bt:ys[y]?=some Y) (ca:Y.1=true)
include aR h aA bt ca
theorem YX(dM:hB N=some cw)(P:c1 t<300)(J:1<=a)(U:a<=40)(an:Y.2.1<4 * (a:Int)+2)(L:∀k:Int,Y.2.1<4 * k+2->k<(a:Int)->cp f k=[])(K:f.getD (a-1) []≠[])(M:∀f',jw f' []->(∀k,f'.getD k []=if k=a-1 then [((y:Int)+1,Y.2.2.1)] else f.getD k [])->ha f' (ys.set y (true,4 * (a:Int)+2+1,Y.2.2.1+1,false,[])) (eS t y (0,(Y.2.2.2.1,(f.getD (a-1) [],Y.2.2.2.2))))->Q (fm (eS t y (0,(Y.2.2.2.1,(f.getD (a-1) [],Y.2.2.2.2)))) (ys.set y (true,4 * (a:Int)+2+1,Y.2.2.1+1,false,[])) 0 f' [])) :
  dz N cw [(4,(1,((0,(a:Int)),((y:Int)+1,0))))] (fm t ys 0 f []) Q:=by
 have j:=mem_of_getElem? bt;have g:=h.gR Y j;have u:(((0:Int),(a:Int)).1=0\/((0:Int),(a:Int)).1=1)/\1<=((0:Int),(a:Int)).2/\((0:Int),(a:Int)).2<=40:=⟨inl rfl,by dsimp only;omega,by dsimp only;omega⟩
 have z:eH 0 (a:Int) 0=4 * (a:Int)+2:=rfl;have E:=Yu J U;have ag:=XW (N:=N) aA bt ca u (r:=0) ⟨by decide,by decide⟩ (by rw[z];exact le_of_lt an) 4 f [] (own t) [] [];rw[z]at ag;have H:∀q∈gF f [] 0,¬(Y.2.1<q.2.2/\q.2.2<4 * (a:Int)+2):=by
  intro q d aa;rw[Yn]at d;obtain⟨ad,I,ah,aj,o⟩:=aob 0 0 f 0 q d;have ae:q.2.2=4 * q.2.1.2+2:=by rw[I];rfl
  have c:=L q.2.1.2 (by omega) (by omega);unfold cp at c;rw[if_pos ⟨by omega,by have:=h.cx.e6.len;omega⟩]at c;rw[show(q.2.1.2-((0:Nat):Int)-1).toNat=(q.2.1.2-1).toNat by omega,c]at o;cases o
 have aa:=amy aR h.cx.e6 wv h.sv.jx ⟨by decide,by decide⟩ h.sv.dy (Pa.qn f) aA bt g ca E.1 an H (own t) [] [];have R:=(List.getElem?_eq_some_iff.1 bt).1;have A:ha f (ys.set y (true,4 * (a:Int)+2+1,Y.2.2.1,Y.2.2.2.1,Y.2.2.2.2)) t:=by
  have X:hn (true,4 * (a:Int)+2+1,Y.2.2.1,Y.2.2.2.1,ee Y.2.2.2.2 []):=wi g E.1 (λp an=>by cases an) (by have:=g.dy;show 0+_<=4096;omega);exact h.go bt X rfl (λp an=>h.pA Y j p an) (λ_ c=>h.ih Y j ca c)
 have l:(ys.set y (true,4 * (a:Int)+2+1,Y.2.2.1,Y.2.2.2.1,Y.2.2.2.2))[y]?=some (true,4 * (a:Int)+2+1,Y.2.2.1,Y.2.2.2.1,Y.2.2.2.2):=by
  rw[getElem?_set,if_pos rfl,if_pos R]
 have cY:=yA (N:=N) h.cx (inl rfl) J U;rw[if_neg (by decide)]at cY;have v:=h.gE y Y bt;have cN:=mH (t:=t) y;have W:((y:Int)+1,Y.2.2.1) ∉ f.flatten:=λeD=>by
  have c:=h.has eD;rw[v]at c;exact yv (by rw[h.len];exact aA) (0,(true,([],[]))) c
 have ac:=D2 (b:=0) (a:=a) h.cx;have F:l6 ((y:Int)+1,Y.2.2.1):=⟨by dsimp only;omega,by dsimp only;omega,by dsimp only;omega,by dsimp only;omega⟩
 have G:=IU aR h.cx h.sv.jx (by have:=h.sv.dy;omega) (inl rfl) J U (s:=[((y:Int)+1,Y.2.2.1)]) (by simp) (λx ak=>by rw[List.mem_singleton]at ak;rw[ak];exact F) (by simp) (λx ak=>by
  rw[List.mem_singleton]at ak;refine inr λeD=>?_
  rw[ak]at eD
  rcases List.mem_append.1 eD with eD|eD
  ·exact W eD
  ·cases eD)
 obtain⟨⟨⟨f',g'⟩,ai⟩,O,C,e,n,m⟩:=G;dsimp only at C e n m;have Z:g'=[]:=yz e.gs qh λk=>by
  rw[m,if_neg (λh=>absurd h.1 (by decide))]
 subst Z C;have B:=OQ aR (f':=f') (g':=[]) h.len (by omega) aA l (A.gR _ (mem_of_getElem? l)) rfl (by show Y.2.2.1=_;exact v) (stack:=[]) (thr:=f.getD (a-1) []) (by simp) O 4 1 0 [] [];rw[set_set]at B;have i:∀k,f'.getD k []=if k=a-1 then [((y:Int)+1,Y.2.2.1)] else f.getD k []:=λk=>by
  rw[n]
  by_cases ab:k=a-1
  ·rw[if_pos ⟨rfl,ab⟩,if_pos ab]
  ·rw[if_neg (λh=>ab h.2),if_neg ab]
 have w:(f'.flatten++f.getD (a-1) []).Perm (f.flatten++[((y:Int)+1,Y.2.2.1)]):=by
  rw[perm_iff_count];intro x;have c:=anG h.cx e ⟨J,U⟩ (λk ab=>by rw[i,if_neg ab]) x;rw[i,if_pos rfl]at c;rw[count_append,count_append];exact c
 have V:=w.length_eq;rw[length_append,length_append,length_singleton]at V;have al:=h.dy;have af:=List.length_pos_iff.2 K;have S:∀x∈f.getD (a-1) [],x∈f.flatten:=λx ak=>by
  rw[getD_eq_getElem?_getD]at ak;cases d:f[a-1]? with
  |none=>rw[d]at ak;cases ak
  |some s=>
   rw[d]at ak;exact List.mem_flatten.2 ⟨s,mem_of_getElem? d,ak⟩
 have D:=A.put aA l rfl P S ac.1 e (by omega) w;rw[set_set]at D;have az:=OP (II N (inl rfl) (inr rfl) u ⟨by omega,by omega⟩ (y:=(y:Int)+1)) rfl 0 f [] (own t) [] ys [] dM;refine dz.one (az.trans ?_) (M f' e i D);unfold ym
 apply T.eq
 simp only[aO,bd ag,bd aa,bd cY,bd B]
 rfl
end
theorem YY(N:Nat)(p q:cb):T (AJ N p q) λr=>(r<0↔p.2.2<q.2.2):=by
 unfold AJ De Dd
 by_cases h:p.2.2<q.2.2
 ·simp only[aO,reduceLT,reduceCtorEq,h]<;>decide
 ·simp only[aO,reduceLT,reduceCtorEq,h]
theorem aod(aR:5000<N){A B:dI}{p:cb}(ae:mI A)(ao:(A++p::B).length<=1000):T (Dx N (0:Int) N ((A.length:Int),A++p::B)) λR=>∃C,R=C++B/\C.Perm (A++[p])/\mI C:=by
 rw[length_append,length_cons]at ao;refine kB (λk d=>∃e C:dI,e.length=k/\d=((e.length:Int),e++p::(C++B))/\e++C=A/\∀c∈C,p.2.2<c.2.2) _ ?_ N A.length _ (by omega) ⟨A,[],rfl,rfl,append_nil A,λc aa=>by cases aa⟩;rintro k d rec ⟨e,C,rfl,rfl,g,cA⟩ j;have w:e.length+C.length=A.length:=by rw[<- g,length_append]
 have o:e=[]\/(∃q,e.getLast?=some q/\q.2.2<=p.2.2)->∃ie,e++p::(C++B)=ie++B/\ie.Perm (A++[p])/\mI ie:=by
  intro f;refine⟨e++p::C,by rw[append_assoc];rfl,?_,?_⟩
  ·rw[<- g,append_assoc]
   refine List.Perm.append_left e ?_;exact(List.perm_append_singleton p C).symm
  ·have z:mI (e++C):=by rw[g];exact ae
   obtain⟨J,U,ah⟩:=List.pairwise_append.1 z;refine List.pairwise_append.2 ⟨J,List.pairwise_cons.2 ⟨λc aa=>le_of_lt (cA c aa),U⟩,λa bl c aa=>?_⟩;have kK:a.2.2<=p.2.2:=by
    rcases f with rfl|⟨q,f,t⟩
    ·cases bl
    ·obtain⟨b,rfl⟩:∃b,e=b++[q]:=by
      obtain⟨l,ao⟩:=List.getLast?_eq_some_iff.1 f;exact⟨l,ao⟩
     rcases List.mem_append.1 bl with bl|bl
     ·exact Int.le_trans ((List.pairwise_append.1 J).2.2 a bl q (by simp)) t
     ·rw[List.mem_singleton]at bl
      rw[bl];exact t
   rcases List.mem_cons.1 aa with rfl|aa
   ·exact kK
   ·exact ah a bl c aa
 rcases List.eq_nil_or_concat e with rfl|⟨b,q,rfl⟩
 ·have:=o (inl rfl)
  simp only[aO,reduceCtorEq,length_nil,show ¬(0<((0:Nat):Int)) by omega];exact this
 ·simp only[List.concat_eq_append]at w j g o ⊢
  rw[length_append,length_singleton]at w j ⊢;have y:0<((b.length+1:Nat):Int):=by omega
  have v:(((b.length+1:Nat):Int)).toNat=b.length+1:=by omega
  have u:(((b.length+1:Nat):Int)-1)=((b.length:Nat):Int):=by omega
  have an:(b++[q]++p::(C++B))[b.length+1]?=some p:=by
   rw[List.getElem?_append_right (by simp),length_append,length_singleton,sub_self]
   rfl
  have f:(b++[q]++p::(C++B))[b.length]?=some q:=by
   rw[append_assoc,List.getElem?_append_right (Nat.le_refl _),sub_self]
   rfl
  have s:((b++[q]++p::(C++B)).set (b.length+1) q).set b.length p=b++p::(q::C++B):=by
   rw[List.set_append_right _ _ (by simp),length_append,length_singleton,sub_self,append_assoc,List.set_append_right _ _ (Nat.le_refl _),sub_self]
   rfl
  have cR:(b++[q]++p::(C++B)).length=b.length+1+(1+(C.length+B.length)):=by
   simp only[length_append,length_cons,length_nil];omega
  obtain⟨M,D⟩:∃M,M=b++[q]++p::(C++B):=⟨_,rfl⟩
  by_cases m:p.2.2<q.2.2
  ·have this:=j b.length ((b.length:Int),b++p::(q::C++B)) (by omega) ⟨b,q::C,rfl,rfl,by rw[<- g,append_assoc];rfl,λc aa=>by
    rcases List.mem_cons.1 aa with rfl|aa
    ·exact m
    ·exact cA c aa⟩
   simp only[aO,reduceLT,reduceCtorEq,y,u,v,b1 an,b1 f,length_set,s];refine⟨by and_intros<;>first|omega|(simp only[dU];omega)|exact this|trivial,(YY N p q).mono λr i=>?_⟩;have n:=i.2 m;simp only[n];refine⟨λ_=>?_,λh=>absurd trivial h⟩
   and_intros<;>first|omega|exact this
  ·have:=o (inr ⟨q,by rw[List.getLast?_concat],by omega⟩)
   simp only[aO,reduceLT,reduceCtorEq,y,u,v,b1 an,b1 f,length_set,s];refine⟨by and_intros<;>first|omega|(simp only[dU];omega)|exact this|trivial,(YY N p q).mono λr i=>?_⟩;have n:¬r<0:=λh=>m (i.1 h)
   simp only[n];exact⟨λh=>h.elim,λ_=>this⟩
theorem aoe(aR:5000<N){L:dI}(ao:L.length<=1000):T (yh N (0:Int) (L.length:Int) L) λR=>R.Perm L/\mI R:=by
 have cR:T (NJ N 0 (L.length:Int) N (0+1,L)) λR=>R.Perm L/\mI R:=by
  refine kB (λk d=>∃(A B:dI),A.length+k=L.length+1/\(0<A.length\/L=[])/\d=((A.length:Int)+(if L=[] then 1 else 0),A++B)/\mI A/\(A++B).Perm L) _ ?_ N (L.length+(if L=[] then 1 else 0)) _ (by split<;>omega) ?_
  ·rintro k d rec ⟨A,B,hi,n,rfl,ae,a⟩ l
   have b:=a.length_eq;rw[length_append]at b
   by_cases bc:L=[]
   ·subst bc
    rw[length_nil]at b hi;have h:A=[]:=eq_nil_of_length_eq_zero (by omega);have c:B=[]:=eq_nil_of_length_eq_zero (by omega);subst h c;rw[if_pos rfl];simp only[aO,reduceCtorEq,length_nil,show ¬(((0:Nat):Int)+1<((0:Nat):Int)) by omega];exact⟨List.Perm.refl _,List.Pairwise.nil⟩
   ·rw[if_neg bc]
    by_cases o:A.length<L.length
    ·obtain⟨p,B',rfl⟩:∃p B',B=p::B':=by
      cases B with
      |nil=>rw[length_nil]at b;omega
      |cons p B'=>exact⟨p,B',rfl⟩
     have f:(A.length:Int)<(L.length:Int):=by omega
     rw[add_zero];simp only[aO,reduceCtorEq,f];refine(aod aR ae (by rw[length_append];omega)).mono ?_;rintro R ⟨C,rfl,g,i⟩;have j:=g.length_eq;rw[length_append,length_singleton]at j;have this:=l (k-1) ((C.length:Int),C++B') (by omega) ⟨C,B',by omega,inl (by omega),by rw[if_neg bc,add_zero],i,(g.append_right B').trans (by rw[append_assoc];exact a)⟩;have e:(C.length:Int)=(A.length:Int)+1:=by omega
     rw[e]at this;exact⟨by omega,this⟩
    ·have f:¬(A.length:Int)<(L.length:Int):=by omega
     have c:B=[]:=eq_nil_of_length_eq_zero (by omega);subst c;rw[append_nil]at a;rw[add_zero];simp only[aO,reduceCtorEq,f,append_nil];exact⟨a,ae⟩
  ·cases L with
   |nil=>exact⟨[],[],rfl,inr rfl,rfl,List.Pairwise.nil,List.Perm.refl _⟩
   |cons x L=>
    refine⟨[x],L,?_,inl (by simp),?_,List.pairwise_singleton _ _,List.Perm.refl _⟩
    ·rw[if_neg (by simp),length_singleton]
     omega
    ·rw[if_neg (by simp)]
     rfl
 unfold yh;rw[np (by rfl)];simp only[aO];exact cR.mono λR m=>m
theorem aoi(aR:5000<N){L:dI}(ao:L.length<20):T (yi N L) λR=>R.Perm L/\mI R:=by
 obtain⟨n,bc⟩:∃n,N=n+1:=⟨N-1,by omega⟩
 have J:NK N (L.length:Int) N (0,20,L)=some (0,L):=by
  rw[bc];show cond (decide (20<=(L.length:Int))) _ (some (0,L))=_;rw[decide_eq_false (by omega)]
  rfl
 have a:NL N (L.length:Int) N 20=some ():=by
  rw[bc];show cond (decide (20<(L.length:Int))) _ (some ())=_;rw[decide_eq_false (by omega)]
  rfl
 unfold yi HN;simp only[aO,bd J,bd a];exact(aoe aR (by omega)).mono λR b=>b
def I3(L:dI):Prop:=L.Pairwise λp q=>p.2.2<q.2.2
theorem Y2:∀ {R I:dI},R.Perm I->mI R->I3 I->R=I
 |[],I,h,_,_=>(List.nil_perm.1 h).symm
 |a::R,[],h,_,_=>absurd h.length_eq (by simp)
 |a::R,b::I,h,d,f=>by
  obtain⟨J,U⟩:=List.pairwise_cons.1 d;obtain⟨ah,c⟩:=List.pairwise_cons.1 f;have e:a=b:=by
   rcases List.mem_cons.1 (h.mem_iff.1 (mem_cons_self))with e|bl
   ·exact e
   ·rcases List.mem_cons.1 (h.mem_iff.2 (mem_cons_self))with e|ag
    ·exact e.symm
    ·have g:=ah a bl
     have i:=J b ag;omega
  subst e;rw[Y2 (List.perm_cons a |>.1 h) U c]
theorem aoj(aR:5000<N)(aF:ho f)(b:ho g)(bc:(f.flatten++g.flatten).Nodup)(a:-4<=r/\r<=4)(aa:f.flatten.length+g.flatten.length<20){I:dI}(e:I.Perm (gF f g r))(d:I3 I) :
  T (r3 N (f,g) r) λq=>q.1=I/\q.2.2=0:=by
 have ab:uB N r=some true:=by
  unfold uB;rw[decide_eq_true a.1,decide_eq_true a.2]
  rfl
 have h:uC N (f,g) r=some 0:=by
  unfold uC
  apply T.eq
  simp only[aO,reduceEq,reduceCtorEq,bd (AY aR aF b bc (by omega)),bd ab]
 have J:=IF aR (inl rfl) a aF [] (by rw[length_nil];omega);rw[nil_append]at J;have U:=IF aR (inr rfl) a b (iK 0 r 0 f) (by rw[IE];omega);have j:=yy f g r;unfold r3;simp only[aO,bd h,bd (OF aR aF.len b.len (by omega)),bd J,bd U];refine⟨by omega,?_⟩;refine(aoi aR (L:=gF f g r) (by omega)).mono λR c=>?_
 have i:=c.1.length_eq;simp only[bd (XH N R (by omega))];exact Y2 (c.1.trans e.symm) c.2 d
def l8(b:Int)(l:bF)(k:Nat):dI:=(l.getD k []).map λa=>(a,((b,(k:Int)+1),eH b ((k:Int)+1) 0))
def mix(f g:bF):dI:=(range 40).flatMap λk=>l8 1 g k++l8 0 f k
theorem aok{α β:Type}(l:List α):l.flatMap (λ_=>([]:List β))=[]:=by
 induction l with
 |nil=>rfl
 |cons a l b=>rw[flatMap_cons,b];rfl
theorem aol(b:Int)(l:bF):∀(i n:Nat),l.length<=n->iK b 0 i l=(range n).flatMap λk=>(l.getD k []).map λa=>(a,((b,((i+k:Nat):Int)+1),eH b (((i+k:Nat):Int)+1) 0)):=by
 induction l with
 |nil=>
  intro i n _
  have:(λk=>(([]:bF).getD k []).map λa:ad=>(a,((b,((i+k:Nat):Int)+1),eH b (((i+k:Nat):Int)+1) 0)))=λ_:Nat=>([]:dI):=funext λk=>by cases k<;>rfl
  rw[this,aok]
  rfl
 |cons s l c=>
  intro i n bc;obtain⟨m,rfl⟩:∃m,n=m+1:=⟨n-1,by rw[length_cons]at bc;omega⟩
  rw[List.range_succ_eq_map,flatMap_cons,List.flatMap_map];show _++iK b 0 (i+1) l=_;rw[c (i+1) m (by rw[length_cons]at bc;omega)]
  congr 1
  refine congrArg (λF=>flatMap F (range m)) (funext λk=>?_);rw[show i+1+k=i+(k+1) by omega]
  rfl
theorem aom(b:Int){l:bF}(h:l.length<=40):iK b 0 0 l=(range 40).flatMap (l8 b l):=by
 rw[aol b l 0 40 h];refine congrArg (λF=>flatMap F (range 40)) (funext λk=>?_);rw[Nat.zero_add]
 rfl
theorem Y3{α β:Type}(F G:α->List β):∀l:List α,(l.flatMap λa=>F a++G a).Perm (l.flatMap G++l.flatMap F)
 |[]=>List.Perm.refl _
 |a::l=>by
  rw[flatMap_cons,flatMap_cons,flatMap_cons];refine((Y3 F G l).append_left (F a++G a)).trans ?_;rw[append_assoc,append_assoc];refine(List.perm_append_comm).trans ?_
  grind [append_assoc,List.Perm.append_left,List.perm_append_comm]
theorem Pz(aF:f.length<=40)(a:g.length<=40):(mix f g).Perm (gF f g 0):=by
 grind [mix,gF,aom,Y3]
theorem yI{l:bF}{k:Nat}{p:cb}(h:p∈l8 b l k):p.2.1.1=b/\p.2.2=eH b ((k:Int)+1) 0/\p.1∈l.getD k []:=by
 grind [l8]
theorem Eh(k:Int):eH 0 k 0=4 * k+2:=rfl
theorem Ei(k:Int):eH 1 k 0=4 * k:=by
 grind [eH]
theorem aon{α:Type}{R:α->α->Prop}{l:List α}(h:l.length<=1):l.Pairwise R:=by
 cases l with
 |nil=>exact List.Pairwise.nil
 |cons a l=>
  cases l with
  |nil=>exact List.pairwise_singleton _ _
  |cons b l=>simp at h
theorem aoo(J:∀k,(f.getD k []).length<=1)(U:∀k,(g.getD k []).length<=1):I3 (mix f g):=by
 unfold I3 mix;rw[List.pairwise_flatMap];refine⟨λk _=>?_,?_⟩
 ·grind [aon,l8,length_map,yI,Ei,Eh]
 ·refine List.Pairwise.imp ?_ List.pairwise_lt_range
  intro k m a p an q aq;have b:p.2.2<=4 * ((k:Int)+1)+2:=by
   rcases List.mem_append.1 an with an|an
   ·have:=(yI an).2.1
    grind [Ei]
   ·have:=(yI an).2.1
    grind [Eh]
  have c:4 * ((m:Int)+1)<=q.2.2:=by
   rcases List.mem_append.1 aq with aq|aq
   ·have:=(yI aq).2.1
    grind [Ei]
   ·have:=(yI aq).2.1
    grind [Eh]
  omega
theorem Y4(aF:f.length<=40)(a:g.length<=40):(mix f g).length=f.flatten.length+g.flatten.length:=by
 rw[(Pz aF a).length_eq,yy]
theorem aop(aF:f.length<=40)(a:g.length<=40):((mix f g).map λp:cb=>p.1).Perm (f.flatten++g.flatten):=by
 grind [Pz,OI]
def wC(p:cb):b5:=(p.1,(decide (p.2.1.1=1),1))
theorem aoq(aR:5000<N){L:dI}(ao:L.length<=1000){a:Int}(n:a<b):qd N L a b=some (((L.filter (hp b a)).map wC),(L.filter (hp b a)).length):=by
 have cR:vR N L (a,b,1) N (0,[])=some ((L.filter (hp b a)).map wC):=by
  refine ek (λk d=>∃i:Nat,i+k=L.length/\d=((i:Int),((L.take i).filter (hp b a)).map wC)) _ ?_ N L.length _ (by omega) ⟨0,by omega,rfl⟩;rintro k d rec ⟨i,hi,rfl⟩ f
  apply T.eq
  by_cases g:i<L.length
  ·obtain⟨x,ak⟩:∃x,L[i]?=some x:=⟨_,getElem?_eq_getElem g⟩
   have j:(i:Int)<(L.length:Int):=by omega
   have m:((L.take i).filter (hp b a)).length<=1000:=by
    grind
   have c:=f (k-1) _ (by omega) ⟨i+1,by omega,rfl⟩;rw[qg ak,List.filter_append,map_append]at c;rw[decide_eq_true j,cond_true];rw[toNat_natCast,b1 ak];cases ag:hp b a x with
   |true=>
    rw[show [x].filter (hp b a)=[x] by simp[ag]]at c;have this:T (rec ((i:Int)+1,((L.take i).filter (hp b a)).map wC++[wC x])) (·=(L.filter (hp b a)).map wC):=⟨_,c,rfl⟩
    have e:cond (decide (a<x.2.2)) (decide (x.2.2<b)) false=true:=ag;rw[e,cond_true];simp only[aO,length_map,length_singleton]
    and_intros<;>first|omega|exact this
   |false=>
    have e:cond (decide (a<x.2.2)) (decide (x.2.2<b)) false=false:=ag
    grind [aO]
  grind [Int,aO,reduceCtorEq,take_of_length_le]
 have o:∀l:dd,l.length<=100000->sW N l=some (l,l.length):=by
  intro l h;unfold sW
  apply T.eq
  grind [aO,length_replicate]
 unfold qd
 grind [decide_eq_true,Option.bind,vR,Int,hp,wC,sW,length_map]
def nu(f g:bF)(p e:Int):dd:=if p<e then((mix f g).filter (hp e p)).map wC else(((mix f g).filter (hp p e)).map sb).reverse
theorem PA(aF:f.length<=40)(a:g.length<=40){q:b5}(h:q∈nu f g p e):q.1∈f.flatten++g.flatten/\(q.2.2=0\/q.2.2=1):=by
 have key:∀x∈mix f g,x.1∈f.flatten++g.flatten:=λx ak=>(aop aF a).mem_iff.1 (List.mem_map.2 ⟨x,ak,rfl⟩)
 unfold nu at h
 split at h
 ·obtain⟨x,ak,rfl⟩:=List.mem_map.1 h
  exact⟨key x (List.mem_filter.1 ak).1,inr rfl⟩
 ·rw[List.mem_reverse]at h
  obtain⟨x,ak,rfl⟩:=List.mem_map.1 h;exact⟨key x (List.mem_filter.1 ak).1,inl rfl⟩
theorem Y5(aF:f.length<=40)(a:g.length<=40)(p e:Int):(nu f g p e).length<=f.flatten.length+g.flatten.length:=by
 grind [Y4,nu,length_map,List.length_filter_le,hp,mix,List.length_reverse]
theorem Y6(aR:5000<N)(ao:(mix f g).length<=1000)(a:p≠e):∃n,qd N (mix f g) p e=some (nu f g p e,n):=by
 unfold nu
 by_cases h:p<e
 ·rw[if_pos h,aoq aR ao h]
  grind
 ·rw[if_neg h,Yp aR ao (by omega)]
  grind
theorem aor(aR:5000<N)(h:jw f g)(bc:(f.flatten++g.flatten).Nodup)(aa:f.flatten.length+g.flatten.length<20)(J:∀k,(f.getD k []).length<=1)(U:∀k,(g.getD k []).length<=1):∃c,r3 N (f,g) 0=some (mix f g,c,0):=by
 obtain⟨⟨I,c,e⟩,a,rfl,rfl⟩:=aoj aR h.e6 h.gv bc (by decide) aa (Pz h.e6.len h.gv.len) (aoo J U)
 grind
theorem Y7(aR:5000<N){I:dI}{c:Nat}(ao:r3 N (f,g) r=some (I,c,0))(aA:y<6)(bt:ys[y]?=some Y)(b:hn Y)(ca:Y.1=true){place:Int}(an:tmod place 2≠0/\-13<=place/\place<=179){P:dd}(ag:qd N I Y.2.1 e=some (P,a))(nT:∀p∈P,oH p)(h:P.length+Y.2.2.2.2.length<=4096)(tb:List (Bool×cq))(dt)(fl:bJ) :
  qf N ((y:Int)+1) place e r f g tb dt ys fl=some (0,r,f,g,ys.set y (true,place,Y.2.2.1,Y.2.2.2.1,ee Y.2.2.2.2 P)):=by
 have i:=(List.getElem?_eq_some_iff.1 bt).1;have d:=AX b ca aR an nT h;unfold qf
 apply T.eq
 simp only[r9 aA,aO,bd ao,b1 bt,bd ag,bd d];omega
structure jn(f g:bF)(ys:b2)(t:bY):Prop where
 cx:jw f g
 jx:(f.flatten++g.flatten).Nodup
 one:(∀k,(f.getD k []).length<=1)/\∀k,(g.getD k []).length<=1
 once:s9 t (f.flatten++g.flatten)
 dy:f.flatten.length+g.flatten.length<=16
 jy:ys.length=6
 gR:∀Y∈ys,hn Y
 tok:∃aT,nq t aT
 all:c1 t<=200
 tb:wo t
 gE:∀(i:Nat) (Y:aU),ys[i]?=some Y->Y.2.2.1=((t.getD i []).length:Int)
 pA:∀Y∈ys,∀p∈Y.2.2.2.2,fY t p.1
 ih:∀Y∈ys,Y.1=true->Y.2.2.1=0->Y.2.2.2.1=true
section
variable {f g:bF} {ys:b2} {t:bY}
theorem jn.list(aR:5000<N)(h:jn f g ys t):∃c,r3 N (f,g) 0=some (mix f g,c,0):=aor aR h.cx h.jx (by have:=h.dy;omega) h.one.1 h.one.2
theorem jn.Y8(h:jn f g ys t):(mix f g).length<=16:=by
 rw[Y4 h.cx.e6.len h.cx.gv.len];exact h.dy
theorem jn.len(h:jn f g ys t):t.length=6:=by
 obtain⟨aT,a⟩:=h.tok;exact a.len
theorem jn.has(h:jn f g ys t){a:ad}(bl:a∈f.flatten++g.flatten):fY t a:=by
 have J:=h.once a;have U:=List.count_pos_iff.2 bl;rw[count_append]at J
 by_cases b:fY t a
 ·exact b
 ·rw[if_neg b]at J
  omega
theorem jn.go(h:jn f g ys t)(bt:ys[y]?=some Y){Z:aU}(a:hn Z)(aa:Z.2.2.1=Y.2.2.1)(an:∀p∈Z.2.2.2.2,fY t p.1)(hw:Z.1=true->Z.2.2.1=0->Z.2.2.2.1=true):jn f g (ys.set y Z) t:=by
 refine⟨h.cx,h.jx,h.one,h.once,h.dy,by rw[length_set];exact h.jy,λW ck=>?_,h.tok,h.all,h.tb,λi W ck=>?_,λW ck=>?_,λW ck=>?_⟩
 ·rcases ix ck with ck|rfl
  ·exact h.gR W ck
  ·exact a
 ·rw[getElem?_set]at ck
  split at ck
  ·rename_i e
   subst e
   split at ck
   ·cases ck
    rw[aa];exact h.gE y Y bt
   ·cases ck
  ·exact h.gE i W ck
 ·rcases ix ck with ck|rfl
  ·exact h.pA W ck
  ·exact an
 ·rcases ix ck with ck|rfl
  ·exact h.ih W ck
  ·exact hw
theorem jn.put{g':bF}(h:jn f g ys t)(aA:y<6)(bt:ys[y]?=some Y)(ca:Y.1=true)(B:c1 t<200)(ag:b=0\/b=1){thr:bJ}(n:∀x∈thr,x∈f.flatten++g.flatten)(q:thr.length<=4)(r:jw f' g')(u:(∀k,(f'.getD k []).length<=1)/\∀k,(g'.getD k []).length<=1)(z:f'.flatten.length+g'.flatten.length<=16)(an:((f'.flatten++g'.flatten)++thr).Perm ((f.flatten++g.flatten)++[((y:Int)+1,Y.2.2.1)])) :
  jn f' g' (ys.set y (true,Y.2.1,Y.2.2.1+1,false,[])) (eS t y (b,(Y.2.2.2.1,(thr,Y.2.2.2.2)))):=by
 have j:=mem_of_getElem? bt;have d:=h.gR Y j;have ao:=h.len;have c:y<t.length:=by omega
 have w:=h.gE y Y bt;obtain⟨aT,A⟩:=h.tok;have cN:=mH (t:=t) y;have o:=d.dy;rw[w]at an;have v:((y:Int)+1,((t.getD y []).length:Int)) ∉ f.flatten++g.flatten:=λaa=>yv c (b,(Y.2.2.2.1,(thr,Y.2.2.2.2))) (h.has aa)
 have m:((f.flatten++g.flatten)++[((y:Int)+1,((t.getD y []).length:Int))]).Nodup:=List.nodup_append.2 ⟨h.jx,by simp,λa bl b ag e=>by
  rw[List.mem_singleton]at ag;rw[e,ag]at bl;exact v bl⟩
 refine⟨r,(List.nodup_append.1 (an.nodup_iff.2 m)).1,u,YC h.once c an,z,by rw[length_set];exact h.jy,λW ck=>?_,⟨_,A.put aA ag (λb ag=>h.has (n b ag)) (λp an=>⟨h.pA Y j p an,(d.ok p an).2⟩) q o d.red (λl=>h.ih Y j ca (by omega))⟩,by rw[uJ c];omega,h.tb.put c (by omega) (by show thr.length<=100000;omega) (by show Y.2.2.2.2.length<=100000;omega),λi W ck=>?_,λW ck p an=>?_,λW ck=>?_⟩
 ·rcases ix ck with ck|rfl
  ·exact h.gR W ck
  ·exact Iz d ca (by omega)
 ·rw[getElem?_set]at ck
  rw[s8 c]
  split at ck
  ·rename_i e
   subst e
   split at ck
   ·cases ck
    rw[if_pos rfl,length_append];show Y.2.2.1+1=(((t.getD y []).length+1:Nat):Int)
    omega
   ·cases ck
  ·rename_i e
   rw[if_neg (λs=>e s.symm)];exact h.gE i W ck
 ·rcases ix ck with ck|rfl
  ·exact(h.pA W ck p an).put c _
  ·cases an
 ·rcases ix ck with ck|rfl
  ·exact h.ih W ck
  ·intro _ l
   have C:Y.2.2.1+1=0:=l;omega
theorem jn.enter(h:jn f g ys t)(bt:ys[y]?=some Y):jn f g (ys.set y (true, -13,Y.2.2.1,true,[])) t:=
 h.go bt ⟨(h.gR Y (mem_of_getElem? bt)).gE,(λe=>by cases e),(λ_=>by show tmod (-13) 2≠0/\-13<=-13/\-13<=179;decide),zero_le _,(λp an=>by cases an),(λi p q an=>by cases an)⟩ rfl (λp an=>by cases an) (λ_ _=>rfl)
theorem aos(aR:5000<N){cw}(dM:hB N=some cw)(h:jn f g ys t)(aA:y<6)(bt:ys[y]?=some Y)(c:Y.1=false)(a:Q (fm t (ys.set y (true, -13,Y.2.2.1,true,[])) 0 f g)):dz N cw [(1,(0,((0,0),((y:Int)+1,0))))] (fm t ys 0 f g) Q:=by
 have he:=Xt (h.gR Y (mem_of_getElem? bt)) c aR (inl rfl);rw[if_neg (by decide)]at he;have b:=h.jy;have hi:vW N (1,(0,((0,0),((y:Int)+1,0)))) 0 f g (own t) [] ys []=some (0,0,f,g,ys.set y (true, -13,Y.2.2.1,true,[])):=by
  unfold vW
  apply T.eq
  simp only[r9 aA,aO,b1 bt,bd he,b];omega
 have az:=amw (amv N (inl rfl) ⟨by omega,by omega⟩ (y:=(y:Int)+1)) rfl 0 f g (own t) [] ys [] dM;rw[hi]at az;exact dz.one az a
end
theorem Y9(h:jw f g):∀q∈nu f g p e,oH q:=λq a=>by
 obtain⟨J,U⟩:=PA h.e6.len h.gv.len a;exact⟨(List.mem_append.1 J).elim (Eb h.e6) (Eb h.gv),U⟩
theorem aot(aR:5000<N){cw}(dM:hB N=some cw)(h:jn f g ys t)(aA:y<6)(bt:ys[y]?=some Y)(ca:Y.1=true)(ae:c1 t<200)(J:1<=a)(U:a<=40)(an:Y.2.1<4 * (a:Int)+2)(V:f.flatten.length+g.flatten.length<16\/f.getD (a-1) []≠[])(au:Y.2.2.2.2.length<=4000)(z:∀f',(∀k,f'.getD k []=if k=a-1 then [((y:Int)+1,Y.2.2.1)] else f.getD k [])->jn f' g (ys.set y (true,4 * (a:Int)+2+1,Y.2.2.1+1,false,[])) (eS t y (0,(Y.2.2.2.1,(f.getD (a-1) [],ee Y.2.2.2.2 (nu f g Y.2.1 (4 * (a:Int)+2))))))->Q (fm (eS t y (0,(Y.2.2.2.1,(f.getD (a-1) [],ee Y.2.2.2.2 (nu f g Y.2.1 (4 * (a:Int)+2)))))) (ys.set y (true,4 * (a:Int)+2+1,Y.2.2.1+1,false,[])) 0 f' g)) :
  dz N cw [(4,(1,((0,(a:Int)),((y:Int)+1,0))))] (fm t ys 0 f g) Q:=by
 have m:=mem_of_getElem? bt;have v:=h.gR Y m;have B:(((0:Int),(a:Int)).1=0\/((0:Int),(a:Int)).1=1)/\1<=((0:Int),(a:Int)).2/\((0:Int),(a:Int)).2<=40:=⟨inl rfl,by dsimp only;omega,by dsimp only;omega⟩
 have E:eH 0 (a:Int) 0=4 * (a:Int)+2:=Eh _;have M:tmod (4 * (a:Int)+2+1) 2≠0/\-13<=4 * (a:Int)+2+1/\4 * (a:Int)+2+1<=179:=by
  refine⟨?_,by omega,by omega⟩;rw[Int.tmod_eq_emod_of_nonneg (by omega)];omega
 have ag:=XW (N:=N) aA bt ca B (r:=0) ⟨by decide,by decide⟩ (by rw[E];exact le_of_lt an) 4 f g (own t) [] [];rw[E]at ag;obtain⟨c,W⟩:=h.list aR;have aw:=h.Y8;have av:=h.dy;obtain⟨n,H⟩:=Y6 aR (f:=f) (g:=g) (by omega) (p:=Y.2.1) (e:=4 * (a:Int)+2) (by omega);have ao:=Y5 h.cx.e6.len h.cx.gv.len Y.2.1 (4 * (a:Int)+2);obtain⟨P,u⟩:∃P,P=nu f g Y.2.1 (4 * (a:Int)+2):=⟨_,rfl⟩
 have L:∀q∈P,oH q:=λq i=>Y9 h.cx q (u ▸ i)
 have X:∀q∈P,q.1∈f.flatten++g.flatten:=λq i=>(PA h.cx.e6.len h.cx.gv.len (u ▸ i)).1
 rw[<- u]at H ao z;have aa:=Y7 aR W aA bt v ca M H L (by omega) (own t) [] [];have af:=(List.getElem?_eq_some_iff.1 bt).1;have F:jn f g (ys.set y (true,4 * (a:Int)+2+1,Y.2.2.1,Y.2.2.2.1,ee Y.2.2.2.2 P)) t:=by
  refine h.go bt (wi v M L (by omega)) rfl (λp an=>?_) (λ_ d=>h.ih Y m ca d)
  rcases DW an with an|an
  ·exact h.pA Y m p an
  ·exact h.has (X p an)
 have o:(ys.set y (true,4 * (a:Int)+2+1,Y.2.2.1,Y.2.2.2.1,ee Y.2.2.2.2 P))[y]?=some (true,4 * (a:Int)+2+1,Y.2.2.1,Y.2.2.2.1,ee Y.2.2.2.2 P):=by
  rw[getElem?_set,if_pos rfl,if_pos af]
 have cY:=yA (N:=N) h.cx (inl rfl) J U;rw[if_neg (by decide)]at cY;have C:=h.gE y Y bt;have cN:=mH (t:=t) y;have al:((y:Int)+1,Y.2.2.1) ∉ f.flatten++g.flatten:=λac=>by
  have d:=h.has ac;rw[C]at d;exact yv (by rw[h.len];exact aA) (0,(true,([],[]))) d
 have ap:=D2 (b:=0) (a:=a) h.cx;have R:l6 ((y:Int)+1,Y.2.2.1):=⟨by dsimp only;omega,by dsimp only;omega,by dsimp only;omega,by dsimp only;omega⟩
 have S:=IU aR h.cx h.jx (by omega) (inl rfl) J U (s:=[((y:Int)+1,Y.2.2.1)]) (by simp) (λx ak=>by rw[List.mem_singleton]at ak;rw[ak];exact R) (by simp) (λx ak=>by
  rw[List.mem_singleton]at ak;rw[ak];exact inr al)
 obtain⟨⟨⟨f',g'⟩,ar⟩,A,I,j,Z,w⟩:=S;dsimp only at I j Z w;have am:g'=g:=yz j.gs h.cx.gs λk=>by
  rw[w,if_neg (λh=>absurd h.1 (by decide))]
 subst I;rw[am]at A j;have G:=OQ aR (f':=f') (g':=g) h.len (by omega) aA o (F.gR _ (mem_of_getElem? o)) rfl (by show Y.2.2.1=_;exact C) (stack:=[]) (thr:=f.getD (a-1) []) (by simp) A 4 1 0 [] [];rw[set_set]at G;have l:∀k,f'.getD k []=if k=a-1 then [((y:Int)+1,Y.2.2.1)] else f.getD k []:=λk=>by
  by_cases ab:k=a-1
  ·grind
  grind
 have O:∀x,f'.flatten.count x+(f.getD (a-1) []).count x=f.flatten.count x+count x [((y:Int)+1,Y.2.2.1)]:=λx=>by
  have d:=yC (f:=f) (f':=f') (a:=a-1) (by omega) x (λk ab=>by rw[l,if_neg ab]);rw[l,if_pos rfl]at d;rw[px x j.e6.len,px x h.cx.e6.len];omega
 have D:((f'.flatten++g.flatten)++f.getD (a-1) []).Perm ((f.flatten++g.flatten)++[((y:Int)+1,Y.2.2.1)]):=by
  rw[perm_iff_count];intro x;have d:=O x;simp only[count_append];omega
 have aj:=D.length_eq;rw[length_append,length_append,length_append,length_append,length_singleton]at aj;have aq:f.flatten.length+g.flatten.length<16\/0<(f.getD (a-1) []).length:=V.imp id List.length_pos_iff.2;have ai:∀x∈f.getD (a-1) [],x∈f.flatten++g.flatten:=λx ak=>by
  rw[getD_eq_getElem?_getD]at ak;cases i:f[a-1]? with
  |none=>rw[i]at ak;cases ak
  |some s=>
   grind [List.mem_flatten,mem_of_getElem?]
 have ah:∀k,(f'.getD k []).length<=1:=λk=>by
  rw[l]
  split
  ·simp
  ·exact h.one.1 k
 have K:=F.put aA o rfl ae (inl rfl) ai ap.1 j ⟨ah,h.one.2⟩ (by omega) D;rw[set_set]at K;have az:=OP (II N (inl rfl) (inr rfl) B ⟨by omega,by omega⟩ (y:=(y:Int)+1)) rfl 0 f g (own t) [] ys [] dM;refine dz.one (az.trans ?_) (z f' l K);unfold ym
 apply T.eq
 simp only[aO,bd ag,bd aa,bd cY,bd G]
 rfl
theorem aov(aR:5000<N){cw}(dM:hB N=some cw)(h:jn f g ys t)(aA:y<6)(bt:ys[y]?=some Y)(ca:Y.1=true)(ae:c1 t<200)(J:1<=a)(U:a<=40)(an:4 * (a:Int)<Y.2.1)(W:f.flatten.length+g.flatten.length<16\/g.getD (a-1) []≠[])(au:Y.2.2.2.2.length<=4000)(A:∀g',(∀k,g'.getD k []=if k=a-1 then [((y:Int)+1,Y.2.2.1)] else g.getD k [])->jn f g' (ys.set y (true,4 * (a:Int)-1,Y.2.2.1+1,false,[])) (eS t y (1,(Y.2.2.2.1,(g.getD (a-1) [],ee Y.2.2.2.2 (nu f g Y.2.1 (4 * (a:Int)))))))->Q (fm (eS t y (1,(Y.2.2.2.1,(g.getD (a-1) [],ee Y.2.2.2.2 (nu f g Y.2.1 (4 * (a:Int))))))) (ys.set y (true,4 * (a:Int)-1,Y.2.2.1+1,false,[])) 0 f g')) :
  dz N cw [(4,(0,((1,(a:Int)),((y:Int)+1,0))))] (fm t ys 0 f g) Q:=by
 have m:=mem_of_getElem? bt;have v:=h.gR Y m;have C:(((1:Int),(a:Int)).1=0\/((1:Int),(a:Int)).1=1)/\1<=((1:Int),(a:Int)).2/\((1:Int),(a:Int)).2<=40:=⟨inr rfl,by dsimp only;omega,by dsimp only;omega⟩
 have F:eH 1 (a:Int) 0=4 * (a:Int):=Ei _;have O:tmod (4 * (a:Int)-1) 2≠0/\-13<=4 * (a:Int)-1/\4 * (a:Int)-1<=179:=by
  refine⟨?_,by omega,by omega⟩;rw[Int.tmod_eq_emod_of_nonneg (by omega)];omega
 have ag:=Yt (N:=N) aA bt ca C (r:=0) ⟨by decide,by decide⟩ (by rw[F];exact le_of_lt an) 4 f g (own t) [] [];rw[F]at ag;obtain⟨c,X⟩:=h.list aR;have aw:=h.Y8;have av:=h.dy;obtain⟨n,I⟩:=Y6 aR (f:=f) (g:=g) (by omega) (p:=Y.2.1) (e:=4 * (a:Int)) (by omega);have ao:=Y5 h.cx.e6.len h.cx.gv.len Y.2.1 (4 * (a:Int));obtain⟨P,u⟩:∃P,P=nu f g Y.2.1 (4 * (a:Int)):=⟨_,rfl⟩
 have M:∀q∈P,oH q:=λq i=>Y9 h.cx q (u ▸ i)
 have Z:∀q∈P,q.1∈f.flatten++g.flatten:=λq i=>(PA h.cx.e6.len h.cx.gv.len (u ▸ i)).1
 rw[<- u]at I ao A;have aa:=Y7 aR X aA bt v ca O I M (by omega) (own t) [] [];have af:=(List.getElem?_eq_some_iff.1 bt).1;have G:jn f g (ys.set y (true,4 * (a:Int)-1,Y.2.2.1,Y.2.2.2.1,ee Y.2.2.2.2 P)) t:=by
  refine h.go bt (wi v O M (by omega)) rfl (λp an=>?_) (λ_ d=>h.ih Y m ca d)
  rcases DW an with an|an
  ·exact h.pA Y m p an
  ·exact h.has (Z p an)
 have o:(ys.set y (true,4 * (a:Int)-1,Y.2.2.1,Y.2.2.2.1,ee Y.2.2.2.2 P))[y]?=some (true,4 * (a:Int)-1,Y.2.2.1,Y.2.2.2.1,ee Y.2.2.2.2 P):=by
  rw[getElem?_set,if_pos rfl,if_pos af]
 have cY:=yA (N:=N) h.cx (inr rfl) J U;rw[if_pos rfl]at cY;have D:=h.gE y Y bt;have cN:=mH (t:=t) y;have al:((y:Int)+1,Y.2.2.1) ∉ f.flatten++g.flatten:=λac=>by
  have d:=h.has ac;rw[D]at d;exact yv (by rw[h.len];exact aA) (1,(true,([],[]))) d
 have ap:=D2 (b:=1) (a:=a) h.cx;have S:l6 ((y:Int)+1,Y.2.2.1):=⟨by dsimp only;omega,by dsimp only;omega,by dsimp only;omega,by dsimp only;omega⟩
 have V:=IU aR h.cx h.jx (by omega) (inr rfl) J U (s:=[((y:Int)+1,Y.2.2.1)]) (by simp) (λx ak=>by rw[List.mem_singleton]at ak;rw[ak];exact S) (by simp) (λx ak=>by
  rw[List.mem_singleton]at ak;rw[ak];exact inr al)
 obtain⟨⟨⟨f',g'⟩,ar⟩,B,K,j,z,w⟩:=V;dsimp only at K j z w;have am:f'=f:=yz j.dp h.cx.dp λk=>by
  rw[z,if_neg (λh=>absurd h.1 (by decide))]
 subst K;rw[am]at B j;have H:=OQ aR (f':=f) (g':=g') h.len (by omega) aA o (G.gR _ (mem_of_getElem? o)) rfl (by show Y.2.2.1=_;exact D) (stack:=[]) (thr:=g.getD (a-1) []) (by simp) B 4 0 0 [] [];rw[set_set]at H;have l:∀k,g'.getD k []=if k=a-1 then [((y:Int)+1,Y.2.2.1)] else g.getD k []:=λk=>by
  rw[w]
  by_cases ab:k=a-1
  ·rw[if_pos ⟨rfl,ab⟩,if_pos ab]
  ·rw[if_neg (λh=>ab h.2),if_neg ab]
 have R:∀x,g'.flatten.count x+(g.getD (a-1) []).count x=g.flatten.count x+count x [((y:Int)+1,Y.2.2.1)]:=λx=>by
  have d:=yC (f:=g) (f':=g') (a:=a-1) (by omega) x (λk ab=>by rw[l,if_neg ab]);rw[l,if_pos rfl]at d;rw[px x j.gv.len,px x h.cx.gv.len];exact d
 have E:((f.flatten++g'.flatten)++g.getD (a-1) []).Perm ((f.flatten++g.flatten)++[((y:Int)+1,Y.2.2.1)]):=by
  rw[perm_iff_count];intro x;have d:=R x;simp only[count_append];omega
 have aj:=E.length_eq;rw[length_append,length_append,length_append,length_append,length_singleton]at aj;have aq:f.flatten.length+g.flatten.length<16\/0<(g.getD (a-1) []).length:=W.imp id List.length_pos_iff.2;have ai:∀x∈g.getD (a-1) [],x∈f.flatten++g.flatten:=λx ak=>by
  rw[getD_eq_getElem?_getD]at ak;cases i:g[a-1]? with
  |none=>rw[i]at ak;cases ak
  |some s=>
   rw[i]at ak;exact List.mem_append.2 (inr (List.mem_flatten.2 ⟨s,mem_of_getElem? i,ak⟩))
 have ah:∀k,(g'.getD k []).length<=1:=λk=>by
  rw[l]
  split
  ·simp
  ·exact h.one.2 k
 have L:=G.put aA o rfl ae (inr rfl) ai ap.1 j ⟨h.one.1,ah⟩ (by omega) E;rw[set_set]at L;have az:=OP (II N (inl rfl) (inl rfl) C ⟨by omega,by omega⟩ (y:=(y:Int)+1)) rfl 0 f g (own t) [] ys [] dM;refine dz.one (az.trans ?_) (A g' l L);unfold ym
 apply T.eq
 simp only[aO,bd ag,bd aa,bd cY,bd H]
 rfl
theorem Za{β:Type}(x:List β)(k0:Nat):∀n,(range n).flatMap (λk=>if k=k0 then x else [])=if k0<n then x else []
 |0=>by rw[if_neg (by omega)];rfl
 |n+1=>by
  rw[range_succ,List.flatMap_append,Za x k0 n,List.flatMap_singleton]
  by_cases J:k0<n
  ·grind
  grind
theorem Zb{c:cb->Bool}(ag:b=0\/b=1){k0:Nat}(ab:k0<40)(aa:∀p∈l8 b (if b=1 then g else f) k0,c p=true)(J:∀k,∀p∈l8 1 g k,¬(b=1/\k=k0)->c p=false)(d:∀k,∀p∈l8 0 f k,¬(b=0/\k=k0)->c p=false):(mix f g).filter c=l8 b (if b=1 then g else f) k0:=by
 unfold mix;rw[List.filter_flatMap]
 have:(λk=>(l8 1 g k++l8 0 f k).filter c)=λk=>if k=k0 then l8 b (if b=1 then g else f) k0 else []:=funext λk=>by
  have a:∀(z:Int) (l:bF),(∀p∈l8 z l k,c p=false)->(l8 z l k).filter c=[]:=λz l h=>by
   grind [List.filter_eq_nil_iff]
  by_cases e:k=k0
  ·grind [absurd,List.filter_eq_self]
  grind
 rw[this,Za,if_pos ab]
theorem I4(P:Nat->Nat):∀(n:Nat) (f:bF),f.length<=n->(∀k,(f.getD k []).length<=P k)->f.flatten.length<=((range n).map P).sum:=by
 intro n f aF h;have key:∀(f:bF) (n:Nat) (P:Nat->Nat),f.length<=n->(∀k,(f.getD k []).length<=P k)->f.flatten.length<=((range n).map P).sum:=by
  intro f
  induction f with
  |nil=>intro n P _ _;exact zero_le _
  |cons s f a=>
   intro n P bc h;obtain⟨m,rfl⟩:∃m,n=m+1:=⟨n-1,by rw[length_cons]at bc;omega⟩
   rw[List.range_succ_eq_map,map_cons,map_map,sum_cons,flatten_cons,length_append];have b:s.length<=P 0:=h 0
   have:=a m (P∘Nat.succ) (by rw[length_cons]at bc;omega) (λk=>h (k+1))
   omega
 grind
theorem Zc:∀w,w<=8->∀i,i<w->((range 40).map λk=>if 12<=k/\k<12+w/\k≠12+i then 1 else 0).sum=w-1:=by decide
theorem Zd:∀w,w<=8->((range 40).map λk=>if 12<=k/\k<12+w then 1 else 0).sum=w:=by decide
abbrev iz:=bY×(Nat->bJ)×(Nat->bJ)
def iP(t:bY)(y:Nat):ad:=((y:Int)+1,((t.getD y []).length:Int))
def kE(f:Nat->bJ)(i:Nat)(x:bJ):Nat->bJ:=λk=>if k=i then x else f k
def yK(x:bJ):dd:=x.map λa=>(a,(true,1))
def yL(x:bJ):dd:=x.map λa=>(a,(false,0))
def Ej(y i:Nat)(s:iz):iz:=(eS s.1 y (0,(decide ((s.1.getD y []).length=0),(s.2.1 i,ee [] (yK (s.2.2 i))))),kE s.2.1 i [iP s.1 y],s.2.2)
def Ek(y i:Nat)(s:iz):iz:=(eS s.1 y (1,(decide ((s.1.getD y []).length=0),(s.2.2 i,ee [] (yL (s.2.1 i))))),s.2.1,kE s.2.2 i [iP s.1 y])
def h4(y:Nat):Nat->iz->iz
 |0,s=>s
 |i+1,s=>Ej y i (h4 y i s)
def iA(y w:Nat):Nat->iz->iz
 |0,s=>s
 |i+1,s=>Ek y (w-1-i) (iA y w i s)
def wD:iz:=(replicate 6 [],λ_=>[],λ_=>[])
def ei(w:Nat)(a:bR):Nat->iz
 |0=>wD
 |k+1=>iA (a.getD k 0-1).toNat w w (h4 (a.getD k 0-1).toNat w (ei w a k))
structure hb(w:Nat)(s:iz)(f g:bF)(ys:b2):Prop where
 gy:jn f g ys s.1
 mJ:∀k,f.getD k []=if 12<=k/\k<12+w then s.2.1 (k-12)else []
 gk:∀k,g.getD k []=if 12<=k/\k<12+w then s.2.2 (k-12)else []
 nv:∀Y∈ys,Y.2.2.2.2=[]
 ih:∀Y∈ys,Y.1=true->Y.2.2.2.1=decide (Y.2.2.1=0)
section
variable {w:Nat} (hw:w<=8) {s:iz} {f g:bF} {ys:b2} (h:hb w s f g ys)
include h
theorem hb.Ba(hi:i<w):f.getD (12+i) []=s.2.1 i:=by
 rw[h.mJ,if_pos ⟨by omega,by omega⟩,Nat.add_sub_cancel_left]
theorem hb.El(hi:i<w):g.getD (12+i) []=s.2.2 i:=by
 rw[h.gk,if_pos ⟨by omega,by omega⟩,Nat.add_sub_cancel_left]
theorem hb.PD{k:Nat}{p:cb}(an:p∈l8 0 f k):p.2.2=4 * ((k:Int)+1)+2/\12<=k/\k<12+w:=by
 obtain⟨_,U,ah⟩:=yI an;rw[h.mJ]at ah
 split at ah
 ·grind [Eh]
 grind
theorem hb.PE{k:Nat}{p:cb}(an:p∈l8 1 g k):p.2.2=4 * ((k:Int)+1)/\12<=k/\k<12+w:=by
 obtain⟨_,U,ah⟩:=yI an;rw[h.gk]at ah
 split at ah
 ·grind [Ei]
 grind
theorem hb.aow(hi:i<w)(hw:w<=8)(an:p=4 * (12+(i:Int))+3\/i=0/\p=-13):nu f g p (4 * ((13+i:Nat):Int)+2)=yK (s.2.2 i):=by
 unfold nu;rw[if_pos (by omega)];rw[Zb (inr rfl) (k0:=12+i) (by omega) (λq a=>?_) (λk q a b=>?_) (λk q a b=>?_),if_pos rfl]
 ·unfold l8 yK
  rw[h.El hi,map_map]
  rfl
 ·rw[if_pos rfl]at a
  have J:=(h.PE a).1;unfold hp
  grind
 ·obtain⟨J,U,ah⟩:=h.PE a
  unfold hp
  rcases lt_or_ge k (12+i)with ab|ab
  ·grind
  grind
 ·obtain⟨J,U,ah⟩:=h.PD a
  unfold hp
  rcases lt_or_ge k (12+i)with ab|ab
  ·grind
  grind
theorem hb.pa(hi:i<w)(hw:w<=8):nu f g (4 * ((13+i:Nat):Int)+3) (4 * ((13+i:Nat):Int))=yL (s.2.1 i):=by
 unfold nu;rw[if_neg (by omega)];rw[Zb (inl rfl) (k0:=12+i) (by omega) (λq a=>?_) (λk q a b=>?_) (λk q a b=>?_),if_neg (by decide)]
 ·unfold l8 yL
  rw[h.Ba hi,map_map,<- List.map_reverse];have J:(s.2.1 i).length<=1:=by
   rw[<- h.Ba hi];exact h.gy.one.1 _
  have U:(s.2.1 i).reverse=s.2.1 i:=by
   cases a:s.2.1 i with
   |nil=>rfl
   |cons x l=>
    rw[a,length_cons]at J;rw[eq_nil_of_length_eq_zero (show l.length=0 by omega)]
    rfl
  rw[U]
  rfl
 ·rw[if_neg (by decide)]at a
  have J:=(h.PD a).1;unfold hp
  grind
 ·obtain⟨J,U,ah⟩:=h.PE a
  unfold hp
  rcases lt_or_ge (12+i) k with ab|ab
  ·grind
  grind
 ·obtain⟨J,U,ah⟩:=h.PD a
  unfold hp
  rcases lt_or_ge (12+i) k with ab|ab
  ·grind
  grind
theorem hb.aox(hi:i<w)(hw:w<=8):f.flatten.length+g.flatten.length<16\/f.getD (12+i) []≠[]:=by
 by_cases he:f.getD (12+i) []=[]
 ·left
  have J:=I4 (λk=>if 12<=k/\k<12+w/\k≠12+i then 1 else 0) 40 f h.gy.cx.e6.len (λk=>by
   have J:=h.gy.one.1 k
   by_cases ab:12<=k/\k<12+w/\k≠12+i
   ·rw[if_pos ab];exact J
   ·rw[if_neg ab]
    by_cases a:k=12+i
    ·rw[a,he];exact Nat.le_refl _
    ·rw[h.mJ,if_neg (λaa=>ab ⟨aa.1,aa.2,a⟩)];exact Nat.le_refl _)
  have U:=I4 (λk=>if 12<=k/\k<12+w then 1 else 0) 40 g h.gy.cx.gv.len (λk=>by
   have J:=h.gy.one.2 k
   by_cases ab:12<=k/\k<12+w
   ·rw[if_pos ab];exact J
   ·rw[if_neg ab,h.gk,if_neg ab];exact Nat.le_refl _)
  grind [Zc,Zd]
 grind
theorem hb.aoy(hi:i<w)(hw:w<=8):f.flatten.length+g.flatten.length<16\/g.getD (12+i) []≠[]:=by
 by_cases he:g.getD (12+i) []=[]
 ·left
  have J:=I4 (λk=>if 12<=k/\k<12+w/\k≠12+i then 1 else 0) 40 g h.gy.cx.gv.len (λk=>by
   have J:=h.gy.one.2 k
   by_cases ab:12<=k/\k<12+w/\k≠12+i
   ·rw[if_pos ab];exact J
   ·rw[if_neg ab]
    by_cases a:k=12+i
    ·rw[a,he];exact Nat.le_refl _
    ·rw[h.gk,if_neg (λaa=>ab ⟨aa.1,aa.2,a⟩)];exact Nat.le_refl _)
  have U:=I4 (λk=>if 12<=k/\k<12+w then 1 else 0) 40 f h.gy.cx.e6.len (λk=>by
   have J:=h.gy.one.1 k
   by_cases ab:12<=k/\k<12+w
   ·rw[if_pos ab];exact J
   ·rw[if_neg ab,h.mJ,if_neg ab];exact Nat.le_refl _)
  grind [Zc,Zd]
 grind
end
def nw(y:Int)(k:Nat):dc:=(range k).map λ(i:Nat)=>((4:Int),(1:Int),((0:Int),13+(i:Int)),y,(0:Int))
def qs(w:Int)(y:Int)(k:Nat):dc:=(range k).map λ(i:Nat)=>((4:Int),(0:Int),((1:Int),13+(w-1-(i:Int))),y,(0:Int))
section
variable {N:Nat} (aR:5000<N) {cw:List (Int×Option Nat)} (dM:hB N=some cw) {w:Nat} (hw:w<=8) {s:iz} {f g:bF} {ys:b2} {y:Nat} (aA:y<6)
include aR dM hw aA
theorem hb.front(h:hb w s f g ys)(bt:ys[y]?=some Y)(ca:Y.1=true)(p:c1 s.1<200)(hi:i<w)(an:Y.2.1=4 * (12+(i:Int))+3\/i=0/\Y.2.1=-13)(o:∀f' ys' c,hb w (Ej y i s) f' g ys'->ys'[y]?=some c->c.1=true->c.2.1=4 * (12+((i+1:Nat):Int))+3->(∀z,z≠y->ys'[z]?=ys[z]?)->Q (fm (Ej y i s).1 ys' 0 f' g)) :
  dz N cw [(4,1,(0,13+(i:Int)),(y:Int)+1,0)] (fm s.1 ys 0 f g) Q:=by
 have j:=mem_of_getElem? bt;have jR:=h.nv Y j;have u:=h.ih Y j ca;have t:=h.gy.gE y Y bt;have b:13+i-1=12+i:=by omega
 have m:13+(i:Int)=((13+i:Nat):Int):=by omega
 have n:decide (Y.2.2.1=0)=decide ((s.1.getD y []).length=0):=decide_eq_decide.2 (by omega);have hid:((y:Int)+1,Y.2.2.1)=iP s.1 y:=by unfold iP;rw[t]
 have q:=(List.getElem?_eq_some_iff.1 bt).1;rw[m];refine aot aR dM h.gy aA bt ca p (by omega) (by omega) (by omega) (by rw[b];exact h.aox hi hw) (by rw[jR];exact zero_le _) ?_;intro f' d l;rw[b,jR,h.aow hi hw an,h.Ba hi,u,n]at l ⊢;rw[b,hid]at d;refine o f' _ (true,4 * ((13+i:Nat):Int)+2+1,Y.2.2.1+1,false,[]) ⟨l,λk=>?_,h.gk,λZ a=>?_,λZ a r=>?_⟩ (by rw[getElem?_set,if_pos rfl,if_pos q]) rfl (by show 4 * ((13+i:Nat):Int)+2+1=_;omega) (λz bw=>by rw[getElem?_set,if_neg (λe=>bw e.symm)])
 ·rw[d,h.mJ]
  show _=if 12<=k/\k<12+w then kE s.2.1 i [iP s.1 y] (k-12)else []
  unfold kE
  by_cases ab:k=12+i
  ·rw[if_pos ab,if_pos ⟨by omega,by omega⟩,if_pos (by omega)]
  ·rw[if_neg ab]
   by_cases aa:12<=k/\k<12+w
   ·rw[if_pos aa,if_pos aa,if_neg (by omega)]
   ·rw[if_neg aa,if_neg aa]
 ·rcases ix a with a|rfl
  ·exact h.nv Z a
  ·rfl
 ·rcases ix a with a|rfl
  ·exact h.ih Z a r
  ·show false=decide (Y.2.2.1+1=0)
   rw[decide_eq_false (by omega)]
theorem hb.back(h:hb w s f g ys)(bt:ys[y]?=some Y)(ca:Y.1=true)(p:c1 s.1<200)(hi:i<w)(an:Y.2.1=4 * ((13+i:Nat):Int)+3)(o:∀g' ys' c,hb w (Ek y i s) f g' ys'->ys'[y]?=some c->c.1=true->c.2.1=4 * (12+(i:Int))+3->(∀z,z≠y->ys'[z]?=ys[z]?)->Q (fm (Ek y i s).1 ys' 0 f g')) :
  dz N cw [(4,0,(1,13+(i:Int)),(y:Int)+1,0)] (fm s.1 ys 0 f g) Q:=by
 have j:=mem_of_getElem? bt;have jR:=h.nv Y j;have u:=h.ih Y j ca;have t:=h.gy.gE y Y bt;have b:13+i-1=12+i:=by omega
 have m:13+(i:Int)=((13+i:Nat):Int):=by omega
 have n:decide (Y.2.2.1=0)=decide ((s.1.getD y []).length=0):=decide_eq_decide.2 (by omega);have hid:((y:Int)+1,Y.2.2.1)=iP s.1 y:=by unfold iP;rw[t]
 have q:=(List.getElem?_eq_some_iff.1 bt).1;rw[m];refine aov aR dM h.gy aA bt ca p (by omega) (by omega) (by omega) (by rw[b];exact h.aoy hi hw) (by rw[jR];exact zero_le _) ?_;intro g' d l;rw[b,jR,an,h.pa hi hw,h.El hi,u,n]at l ⊢;rw[b,hid]at d;refine o g' _ (true,4 * ((13+i:Nat):Int)-1,Y.2.2.1+1,false,[]) ⟨l,h.mJ,λk=>?_,λZ a=>?_,λZ a r=>?_⟩ (by rw[getElem?_set,if_pos rfl,if_pos q]) rfl (by show 4 * ((13+i:Nat):Int)-1=_;omega) (λz bw=>by rw[getElem?_set,if_neg (λe=>bw e.symm)])
 ·rw[d,h.gk]
  show _=if 12<=k/\k<12+w then kE s.2.2 i [iP s.1 y] (k-12)else []
  unfold kE
  by_cases ab:k=12+i
  ·rw[if_pos ab,if_pos ⟨by omega,by omega⟩,if_pos (by omega)]
  ·rw[if_neg ab]
   by_cases aa:12<=k/\k<12+w
   ·rw[if_pos aa,if_pos aa,if_neg (by omega)]
   ·rw[if_neg aa,if_neg aa]
 ·rcases ix a with a|rfl
  ·exact h.nv Z a
  ·rfl
 ·rcases ix a with a|rfl
  ·exact h.ih Z a r
  ·show false=decide (Y.2.2.1+1=0)
   rw[decide_eq_false (by omega)]
end
theorem wE{s:iz}(aA:y<s.1.length):∀i,(h4 y i s).1.length=s.1.length/\c1 (h4 y i s).1=c1 s.1+i
 |0=>⟨rfl,rfl⟩
 |i+1=>by
  obtain⟨J,U⟩:=wE aA i;refine⟨?_,?_⟩
  ·show(eS _ _ _).length=_
   rw[yu,J]
  ·show c1 (eS _ _ _)=_
   rw[uJ (by omega),U];omega
theorem Em{s:iz}(aA:y<s.1.length):∀i,(iA y w i s).1.length=s.1.length/\c1 (iA y w i s).1=c1 s.1+i
 |0=>⟨rfl,rfl⟩
 |i+1=>by
  obtain⟨J,U⟩:=Em aA i;refine⟨?_,?_⟩
  ·show(eS _ _ _).length=_
   rw[yu,J]
  ·show c1 (eS _ _ _)=_
   rw[uJ (by omega),U];omega
section
variable {N:Nat} (aR:5000<N) {cw:List (Int×Option Nat)} (dM:hB N=some cw) {w:Nat} (hw:w<=8) {y:Nat} (aA:y<6)
include aR dM hw aA
theorem hb.Ze{s:iz}(h:hb w s f g ys)(bt:ys[y]?=some Y)(ca:Y.1=true)(l:c1 s.1+w<=200)(an:Y.2.1=51\/Y.2.1=-13):∀i,i<=w ->
  dz N cw (nw ((y:Int)+1) i) (fm s.1 ys 0 f g) λst=>∃f' ys' a,st=fm (h4 y i s).1 ys' 0 f' g/\hb w (h4 y i s) f' g ys'/\ys'[y]?=some a/\a.1=true/\(a.2.1=4 * (12+(i:Int))+3\/i=0/\a.2.1=-13)/\∀z,z≠y->ys'[z]?=ys[z]?
 |0,_=>⟨f,ys,Y,rfl,h,bt,ca,an.elim (λh=>inl (by rw[h];rfl)) (λh=>inr ⟨rfl,h⟩),λ_ _=>rfl⟩
 |i+1,hi=>by
  have j:=hb.Ze h bt ca l an i (by omega);have e:nw ((y:Int)+1) (i+1)=nw ((y:Int)+1) i++[(4,1,(0,13+(i:Int)),(y:Int)+1,0)]:=by
   unfold nw;rw[range_succ,map_append]
   rfl
  rw[e];refine dz.append ?_ j;rintro st ⟨f',ys',a,rfl,d,u,c,q,t⟩;have v:=wE (by rw[h.gy.len];exact aA) i;refine hb.front aR dM hw aA d u c (by omega) (by omega) q ?_;intro k n b U m r p o;exact⟨k,n,b,rfl,U,m,r,inl p,λz bw=>(o z bw).trans (t z bw)⟩
theorem hb.Zf{s:iz}(h:hb w s f g ys)(bt:ys[y]?=some Y)(ca:Y.1=true)(k:c1 s.1+w<=200)(an:Y.2.1=4 * (12+(w:Int))+3):∀i,i<=w ->
  dz N cw (qs (w:Int) ((y:Int)+1) i) (fm s.1 ys 0 f g) λst=>∃g' ys' a,st=fm (iA y w i s).1 ys' 0 f g'/\hb w (iA y w i s) f g' ys'/\ys'[y]?=some a/\a.1=true/\a.2.1=4 * (12+((w-i:Nat):Int))+3/\∀z,z≠y->ys'[z]?=ys[z]?
 |0,_=>⟨g,ys,Y,rfl,h,bt,ca,an,λ_ _=>rfl⟩
 |i+1,hi=>by
  have j:=hb.Zf h bt ca k an i (by omega);have e:qs (w:Int) ((y:Int)+1) (i+1)=qs (w:Int) ((y:Int)+1) i++[(4,0,(1,13+((w-1-i:Nat):Int)),(y:Int)+1,0)]:=by
   unfold qs;rw[range_succ,map_append,show((w-1-i:Nat):Int)=(w:Int)-1-(i:Int) by omega]
   rfl
  rw[e];refine dz.append ?_ j;rintro st ⟨g',ys',a,rfl,d,t,c,p,r⟩;have u:=Em (w:=w) (by rw[h.gy.len];exact aA) i;refine hb.back aR dM hw aA d t c (by omega) (by omega) (by rw[p];omega) ?_;intro g2 m b U l q o n;exact⟨g2,m,b,rfl,U,l,q,by rw[o];omega,λz bw=>(n z bw).trans (r z bw)⟩
end
theorem aoz{α:Type}(A:List α)(z x:α)(m:Nat)(a:0<m):(A++replicate m z).set A.length x=(A++[x])++replicate (m-1) z:=by
 obtain⟨q,rfl⟩:∃q,m=q+1:=⟨m-1,by omega⟩
 rw[List.set_append_right (h:=Nat.le_refl _),sub_self,List.replicate_succ,List.set_cons_zero,Nat.add_sub_cancel,append_assoc]
 rfl
def kF(p:Int->Bool):bR:=[1,2,3,4,5,6].filter p
def Bb(m:Nat):Bool:=(perms (kF λy=>m.testBit (y.toNat-1))).all λq=>Ie q==some (kF λy=>m.testBit (y.toNat-1))
theorem aoA:(range' 0 32).all Bb=true:=by kernel_rfl
theorem aoB:(range' 32 16).all Bb=true:=by kernel_rfl
theorem aoC:(range' 48 15).all Bb=true:=by kernel_rfl
theorem aoD:Bb 63=true:=by kernel_rfl
theorem aoE{m:Nat}(h:m<64):Bb m=true:=by
 by_cases J:m<32
 ·exact List.all_eq_true.1 aoA m (List.mem_range'_1.2 (by omega))
 by_cases U:m<48
 ·exact List.all_eq_true.1 aoB m (List.mem_range'_1.2 (by omega))
 by_cases ah:m<63
 ·exact List.all_eq_true.1 aoC m (List.mem_range'_1.2 (by omega))
 obtain rfl:m=63:=by omega
 exact aoD
theorem aoF:AU=some true:=by kernel_rfl
def uO(la a b c e d:Bool):Nat:=la.toNat+2 * a.toNat+4 * b.toNat+8 * c.toNat+16 * e.toNat+32 * d.toNat
theorem Zg:∀la a b c e d:Bool,uO la a b c e d<64/\(uO la a b c e d).testBit 0=la/\(uO la a b c e d).testBit 1=a/\(uO la a b c e d).testBit 2=b/\(uO la a b c e d).testBit 3=c/\(uO la a b c e d).testBit 4=e/\(uO la a b c e d).testBit 5=d:=by decide
theorem aoG(q:bR)(bc:q.Nodup)(d:∀y∈q,1<=y/\y<=6):Ie q=some (kF λy=>q.elem y):=by
 obtain⟨c,J,U,ah,f,b,g⟩:=Zg (q.elem 1) (q.elem 2) (q.elem 3) (q.elem 4) (q.elem 5) (q.elem 6)
 generalize uO (q.elem 1) (q.elem 2) (q.elem 3) (q.elem 4) (q.elem 5) (q.elem 6)=m at *
 have e:(kF λy=>m.testBit (y.toNat-1))=kF λy=>q.elem y:=by
  refine filter_congr λy aA=>?_
  simp only[List.mem_cons,not_mem_nil,or_false]at aA
  rcases aA with rfl|rfl|rfl|rfl|rfl|rfl
  ·exact J
  ·exact U
  ·exact ah
  ·exact f
  ·exact b
  ·exact g
 have a:=aoE c;unfold Bb at a;rw[e]at a;have an:q.Perm (kF λy=>q.elem y):=by
  refine(List.perm_ext_iff_of_nodup bc (List.Pairwise.sublist List.filter_sublist (by decide))).2 λy=>?_
  simp only[List.mem_filter,elem_eq_mem,decide_eq_true_eq];constructor
  ·intro h
   have:=d y h
   refine⟨?_,h⟩;simp only[List.mem_cons,not_mem_nil,or_false];omega
  ·exact λh=>h.2
 have:=List.all_eq_true.1 a q (KS an)
 simpa using this
def En(l:bR)(i:Nat):Bool:=decide (1<=l.getD i 0)&&decide (l.getD i 0<=6)
def Zh(l:bR):Bool:=(range l.length).all (En l)
def uP(w:Int)(l:bR):Int:=if 16<w\/31<l.length then 3 else if w<1\/l.length<1 then 1 else if Zh l then 0 else 1
theorem Zi{w:Int}{l:bR}(h:uP w l=0):yo (w,l)=some 0:=by
 unfold uP at h
 split at h
 ·cases h
 split at h
 ·cases h
 split at h
 ·rename_i J U ah
  have cR:N4 6000 (w,l) 6000 0=some (.inl ()):=by
   unfold N4;refine ek (λk d=>∃i:Nat,i+k=l.length/\d=(i:Int)) _ ?_ 6000 l.length _ (by omega) ⟨0,by omega,rfl⟩;rintro k d rec ⟨i,hi,rfl⟩ b
   apply T.eq
   by_cases c:i<l.length
   ·have aA:En l i=true:=List.all_eq_true.1 ah i (List.mem_range.2 c)
    unfold En at aA;rw[Bool.and_eq_true,decide_eq_true_eq,decide_eq_true_eq]at aA;have a:(i:Int)<(l.length:Int):=by omega
    have this:T (rec ((i:Int)+1)) (·=.inl ()):=⟨_,b (k-1) _ (by omega) ⟨i+1,by omega,rfl⟩,rfl⟩
    simp only[aO,reduceCtorEq,a,show ¬l.getD i 0<1 by omega,show ¬6<l.getD i 0 by omega]
    and_intros<;>first|omega|exact this
   ·have a:¬(i:Int)<(l.length:Int):=by omega
    simp only[aO,reduceCtorEq,a]
  unfold yo N5
  apply T.eq
  simp only[aO,reduceEq,reduceCtorEq,show ¬16<w by omega,show ¬31<(l.length:Int) by omega,show ¬w<1 by omega,show ¬(l.length:Int)<1 by omega,bd cR]
 ·cases h
theorem Zj(b i d:Int)(ops:dc)(y:Int)(J:-1000<=i/\i<=1000)(U:ops.length<=1000000):AP b i d ops y=some (ops++[(4,d,(b,13+i),y,0)]):=by
 unfold AP
 simp (disch:=((try simp[a6,bf,dk, -getD_eq_getElem?_getD]);try omega;done)) only[s5]
theorem Zk(w:Int)(a:bR)(v:Int)(ops:dc)(hw:1<=w/\w<=16)(ao:ops.length<=900000):uG (w,a) v j4 0 ops=some (ops++nw (a.getD v.toNat 0) w.toNat):=
 It (λn i s=>uG (w,a) v n i s) w.toNat (λk=>ops++nw (a.getD v.toNat 0) k) ops _ (by simp[nw]) (Is (le_trans (show w.toNat<=16 by omega) (by decide))) (λn k ab=>by
  rw[uG,Zj _ _ _ _ _ (by omega) (by simp[nw];omega)]
  simp (disch:=((try simp[a6,bf,dk, -getD_eq_getElem?_getD]);try omega;done)) only[s5,yq,bind_some]
  simp[nw,range_succ]) (λn=>by
  rw[uG,we (by simp;omega)])
theorem Zl(w:Int)(a:bR)(v:Int)(ops:dc)(hw:1<=w/\w<=16)(ao:ops.length<=900000):uH (w,a) v j4 0 ops=some (ops++qs w (a.getD v.toNat 0) w.toNat):=
 It (λn i s=>uH (w,a) v n i s) w.toNat (λk=>ops++qs w (a.getD v.toNat 0) k) ops _ (by simp[qs]) (Is (le_trans (show w.toNat<=16 by omega) (by decide))) (λn k ab=>by
  rw[uH,Zj _ _ _ _ _ (by omega) (by simp[qs];omega)]
  simp (disch:=((try simp[a6,bf,dk, -getD_eq_getElem?_getD]);try omega;done)) only[s5,yq,bind_some]
  simp[qs,range_succ]) (λn=>by
  rw[uH,we (by simp;omega)])
def fZ(a:bR):Nat->bR
 |0=>[]
 |k+1=>if (fZ a k).elem (a.getD k 0)then fZ a k else fZ a k++[a.getD k 0]
theorem PG(c:bR):∀k,(fZ c k).Nodup
 |0=>List.Pairwise.nil
 |k+1=>by
  unfold fZ
  split
  ·exact PG c k
  ·rename_i h
   rw[List.nodup_append];refine⟨PG c k,by simp,λa bl b ag e=>?_⟩;simp only[List.mem_singleton]at ag;subst ag;subst e;exact h (by simpa using bl)
theorem PH(a:bR)(p:Int->Prop)(an:∀i,i<a.length->p (a.getD i 0)):∀k,k<=a.length->∀y∈fZ a k,p y
 |0,_,y,aA=>by simp[fZ]at aA
 |k+1,ab,y,aA=>by
  unfold fZ at aA
  split at aA
  ·exact PH a p an k (by omega) y aA
  ·rcases List.mem_append.1 aA with aA|aA
   ·exact PH a p an k (by omega) y aA
   ·simp only[List.mem_singleton]at aA
    subst aA;exact an k (by omega)
abbrev tj(l:bR):List (Int×Bool):=l.map λy=>(y,true)
theorem Zm(y:Int):∀l:bR,cX (.int .u8) .bool (tj l) y=if l.elem y then some true else none
 |[]=>rfl
 |x::l=>by
  show cX (.int .u8) .bool ((x,true)::tj l) y=_;unfold cX
  by_cases h:x=y
  ·subst h
   simp[aZ.beq]
  ·have e:(aZ.int .u8).beq x y=false:=by simp[aZ.beq,h]
   rw[e];rw[Zm y l]
   simp[Ne.symm h]
theorem Zn(y:Int):∀l:bR,l.elem y=false->ez (.int .u8) .bool (tj l) y true=tj (l++[y])
 |[],_=>rfl
 |x::l,h=>by
  show ez (.int .u8) .bool ((x,true)::tj l) y true=_;unfold ez;have ak:x≠y:=λe=>by subst e;simp at h
  have e:(aZ.int .u8).beq x y=false:=by simp[aZ.beq,ak]
  rw[e];rw[Zn y l (by simp at h ⊢;exact h.2)]
  rfl
def lC(w:Int)(a:bR):Nat->dc
 |0=>[]
 |k+1=>((lC w a k++(if (fZ a k).elem (a.getD k 0)then [] else [(1,0,(0,0),a.getD k 0,0)]))++nw (a.getD k 0) w.toNat)++qs w (a.getD k 0) w.toNat
def se(w:Int)(a:bR):Nat->bR
 |0=>[]
 |k+1=>se w a k++[((lC w a k).length:Int)]
theorem I5(w:Int)(a:bR)(hw:1<=w/\w<=16):∀k,(lC w a k).length<=40 * k
 |0=>by simp[lC]
 |k+1=>by
  have b:=I5 w a hw k;unfold lC
  split<;>simp[nw,qs]<;>omega
theorem PI(w:Int)(a:bR):∀k,(se w a k).length=k
 |0=>rfl
 |k+1=>by simp[se,PI w a k]
theorem aoH(w:Int)(a:bR)(m:Nat)(f:a.length<=m)(hw:1<=w/\w<=16)(e:a.length<=31):r4 (w,a) j4 0 [] [] (some m) []=some (lC w a a.length,se w a a.length,some m,tj (fZ a a.length)):=
 It (λn i (s:dc×bR×Option Nat×List (Int×Bool))=>r4 (w,a) n i s.1 s.2.1 s.2.2.1 s.2.2.2) a.length (λk=>(lC w a k,se w a k,some m,tj (fZ a k))) ([],[],some m,[]) _ rfl (Is (le_trans e (by decide))) (λn k ab=>by
  show r4 (w,a) (n+1) k (lC w a k) (se w a k) (some m) (tj (fZ a k))=r4 (w,a) n (k+1) (lC w a (k+1)) (se w a (k+1)) (some m) (tj (fZ a (k+1)));have J:=I5 w a hw k;have U:=PI w a k;rw[r4,toNat_natCast,Zm,lC,se,fZ,show o6 (some m) ((se w a k).length+[((lC w a k).length:Int)].length)=some m by rw[U,o6,yq (Nat.ble_eq_true_of_le (by simp;omega))]];cases he:(fZ a k).elem (a.getD k 0)
  ·have b:=Zk w a k (lC w a k++[(1,(0,((0,0),(a.getD k 0,0))))]) hw (by simp;omega)
   have c:=Zl w a k ((lC w a k++[(1,(0,((0,0),(a.getD k 0,0))))])++nw (a.getD k 0) w.toNat) hw (by simp[nw];omega);rw[toNat_natCast]at b c;have d:=Zn (a.getD k 0) (fZ a k) he;simp only[Bool.false_eq_true,if_false,Option.getD_none]
   simp (disch:=((try simp[a6,bf,dk, -getD_eq_getElem?_getD]);try omega;done)) only[s5,yq,bind_some,d,b,c]
  ·have b:=Zk w a k (lC w a k) hw (by omega)
   have c:=Zl w a k (lC w a k++nw (a.getD k 0) w.toNat) hw (by simp[nw];omega);rw[toNat_natCast]at b c;simp only[if_true,getD_some,append_nil]
   simp (disch:=((try simp[a6,bf,dk, -getD_eq_getElem?_getD]);try omega;done)) only[s5,yq,we,bind_some,b,c]) (λn=>by
  rw[r4,we (by simp)])
def lD(k:Nat):bR:=(range k).map λ(i:Nat)=>13+(i:Int)
def oM(k:Nat):dc:=(range k).map λ(i:Nat)=>((7:Int),(0:Int),((1:Int),13+(i:Int)),(0:Int),(0:Int))
theorem aoI(w:Int)(a:bR)(ops:dc)(hw:1<=w/\w<=16)(ao:ops.length<=900000):r5 (w,a) j4 0 ops (replicate w.toNat (0:Int))=some (ops++oM w.toNat,lD w.toNat):=
 It (λn i (s:dc×bR)=>r5 (w,a) n i s.1 s.2) w.toNat (λk=>(ops++oM k,lD k++replicate (w.toNat-k) 0)) (ops,replicate w.toNat 0) _ (by simp[oM,lD]) (Is (le_trans (show w.toNat<=16 by omega) (by decide))) (λn k ab=>by
  show r5 (w,a) (n+1) k (ops++oM k) (lD k++replicate (w.toNat-k) 0)=r5 (w,a) n (k+1) (ops++oM (k+1)) (lD (k+1)++replicate (w.toNat-(k+1)) 0);have c:(lD k).length=k:=by simp[lD]
  have b:=aoz (lD k) 0 (13+(k:Int)) (w.toNat-k) (by omega);rw[c]at b;have d:((lD k++[13+(k:Int)])++replicate (w.toNat-k-1) 0).getD k 0=13+(k:Int):=by
   simp[lD]
  rw[r5,toNat_natCast,b,d,length_replicate]
  simp (disch:=((try simp[a6,bf,dk, -getD_eq_getElem?_getD,lD,oM]);try omega;done)) only[s5,yq]
  simp[lD,oM,range_succ,Nat.sub_sub]) (λn=>by
  rw[r5,we (by simp),sub_self]
  simp)
theorem Zo:∀(q:List (Int×Bool)) (a:bR),a.length+q.length<=1000->r6 q a=some (a++q.map (·.1))
 |[],a,_=>by simp[r6]
 |e::q,a,h=>by
  simp only[length_cons]at h;rw[r6,N6]
  simp (disch:=((try simp[a6,bf,dk, -getD_eq_getElem?_getD]);try omega;done)) only[s5,bind_some]
  rw[Zo q (a++[e.1]) (by simp;omega)]
  simp
theorem aoJ{w:Int}{a:bR}(h:uP w a=0):(1<=w/\w<=16)/\(1<=a.length/\a.length<=31)/\∀i,i<a.length->1<=a.getD i 0/\a.getD i 0<=6:=by
 unfold uP at h
 split at h
 ·cases h
 ·split at h
  ·cases h
  ·split at h
   ·rename_i J U ah
    refine⟨by omega,by omega,λi hi=>?_⟩
    have:=List.all_eq_true.1 ah i (by simpa using hi)
    simpa only[En,Bool.and_eq_true,decide_eq_true_eq] using this
   ·cases h
theorem Zp(p:Int->Bool):(kF p).length<=6:=by
 exact le_trans (List.length_filter_le _ _) (by decide)
def I6(y:Int):bH:=(2,0,(0,0),y,0)
def Zq(m:Nat):Bool:=Ic (kF λy=>m.testBit (y.toNat-1))==some ((kF λy=>m.testBit (y.toNat-1)).map I6,0)
theorem aoK:(range 64).all Zq=true:=by kernel_rfl
theorem aoL(p:Int->Bool):Ic (kF p)=some ((kF p).map I6,0):=by
 obtain⟨c,J,U,ah,d,b,f⟩:=Zg (p 1) (p 2) (p 3) (p 4) (p 5) (p 6)
 generalize uO (p 1) (p 2) (p 3) (p 4) (p 5) (p 6)=m at *
 have e:(kF λy=>m.testBit (y.toNat-1))=kF p:=by
  refine filter_congr λy aA=>?_
  simp only[List.mem_cons,not_mem_nil,or_false]at aA
  rcases aA with rfl|rfl|rfl|rfl|rfl|rfl
  ·exact J
  ·exact U
  ·exact ah
  ·exact d
  ·exact b
  ·exact f
 have a:=List.all_eq_true.1 aoK m (by simpa using c);unfold Zq at a;rw[e]at a;exact eq_of_beq a
def qt(w:Int)(a:bR)(bops:dc):dc:=((lC w a a.length++oM w.toNat)++bops)++(kF λy=>(fZ a a.length).elem y).map I6
theorem aoM(w:Int)(a:bR)(h:uP w a=0){bops:dc}(n:AO (a.getD (a.length-1) 0) (lD w.toNat)=some (bops,bops.length,0))(o:bops.length<=4000):wb (w,a)=some (qt w a bops,(qt w a bops).length,se w a a.length++[((lC w a a.length).length:Int)],some (a.length+1),0):=by
 obtain⟨hw,i,aA⟩:=aoJ h;have z:=I5 w a hw a.length;have v:=PI w a a.length;have p:(lD w.toNat).length=w.toNat:=by simp[lD]
 have f:((a.length:Int)-1).toNat=a.length-1:=by omega
 have s:=aA (a.length-1) (by omega);have t:(oM w.toNat).length<=16:=by simp[oM];omega
 have e:=PG a a.length;have d:=PH a (λy=>1<=y/\y<=6) aA a.length (Nat.le_refl _);have m:=Zp (λy=>(fZ a a.length).elem y);unfold wb;rw[Zi h,bind_some];dsimp only;rw[show((a.length:Int)+1).toNat=a.length+1 by omega,aoH w a _ (by omega) hw i.2]
 simp (disch:=((try simp[a6,bf,dk, -getD_eq_getElem?_getD]);try omega;done)) only[s5,we,bind_some]
 rw[aoI w a _ hw (by omega)]
 simp (disch:=((try simp[a6,bf,dk, -getD_eq_getElem?_getD]);try omega;done)) only[bind_some]
 rw[f,n]
 simp (disch:=((try simp[a6,bf,dk, -getD_eq_getElem?_getD]);try omega;done)) only[we,bind_some]
 rw[s5 (by simp only[aO];omega),s5 (by simp only[aO];omega)]
 apply adU
 intro q g;have c:(q.map (·.1)).Perm (fZ a a.length):=by
  have:=g.map (·.1)
  simpa [tj,map_map,Function.comp_def] using this
 have u:(fZ a a.length).length<=6:=by
  have an:(fZ a a.length).Perm (kF λy=>(fZ a a.length).elem y):=by
   refine(List.perm_ext_iff_of_nodup e (List.Pairwise.sublist List.filter_sublist (by decide))).2 λy=>?_
   simp only[List.mem_filter,elem_eq_mem,decide_eq_true_eq];refine⟨λb=>⟨?_,b⟩,λb=>b.2⟩
   have:=d y b
   simp only[List.mem_cons,not_mem_nil,or_false];omega
  rw[an.length_eq];exact m
 have r:q.length<=6:=by
  have:=c.length_eq
  rw[length_map]at this;omega
 rw[Zo q [] (by simp;omega),bind_some,nil_append,aoG (q.map (·.1)) (c.nodup_iff.2 e) (λy b=>d y (c.mem_iff.1 b)),bind_some];have k:(kF λy=>(q.map (·.1)).elem y)=kF λy=>(fZ a a.length).elem y:=by
  unfold kF;refine filter_congr λy _=>?_
  simp only[elem_eq_mem];exact decide_eq_decide.2 c.mem_iff
 have j:∀l,N2 l=some (l,l.length):=λl=>Pk 6000 l
 rw[k,aoL,bind_some,we (by simp),Sb (by simp only[dk,length_append,length_map,Bool.and_eq_true,decide_eq_true_eq];omega),j,bind_some,o6,yq (Nat.ble_eq_true_of_le (by simp;omega))]
 rfl
theorem aoN(w:Int)(a:bR)(h:uP w a=0){bops:dc}(c:AO (a.getD (a.length-1) 0) (lD w.toNat)=some (bops,bops.length,0))(b:bops.length<=4000):AV (w,a)=some (qt w a bops,(qt w a bops).length,se w a a.length++[((lC w a a.length).length:Int)],a.length+1,0):=by
 unfold AV;rw[aoM w a h c b]
 rfl
structure ri(f:bF)(ys:b2)(t:bY)(A:bG)(ti:Nat)(Y:aU):Prop where
 Zr:ha f ys t
 qn:O6 A 40
 ne:1<=A.length
 Zs:A.length<=8
 gV:ti<6
 bt:ys[ti]?=some Y
 ca:Y.1=true
 pl:Y.2.1<4 * ((A.getD 0 0:Nat):Int)
 nv:Y.2.2.2.2.length<=3000
 PJ:∀(i:Nat) (Z:aU),i≠ti->ys[i]?=some Z->Z.1=true->Z.2.1 % 4=3/\Z.2.1<4 * ((A.getD 0 0:Nat):Int)
 full:∀a∈A,cp f (a:Int)≠[]/\(cp f (a:Int)).length<=2
 only:∀k,cp f k≠[]->∃a∈A,k=(a:Int)
 all:c1 t<=200
def iQ(ti:Nat)(c0:Int)(i:Nat):ad:=((ti:Int)+1,c0+(i:Int))
def tk(ti:Nat)(c0:Int)(S:Nat->bJ):Nat->bJ
 |0=>S 0
 |i+1=>iQ ti c0 i::S (i+1)
def mL(ti:Nat)(Y:aU):Nat->dd
 |0=>Y.2.2.2.2
 |i+1=>[(iQ ti Y.2.2.1 i,(true,0))]
def Bc(Y:aU):Nat->Bool
 |0=>Y.2.2.2.1
 |_+1=>false
def hq(t:bY)(ti:Nat)(Y:aU)(S:Nat->bJ):Nat->bY
 |0=>t
 |i+1=>eS (hq t ti Y S i) ti (0,(Bc Y i,(tk ti Y.2.2.1 S i,mL ti Y i)))
def kG(ys:b2)(ti:Nat)(Y:aU)(A:bG)(i:Nat):b2:=ys.set ti (true,4 * ((A.getD i 0:Nat):Int)+2+1,Y.2.2.1+(i:Int)+1,false,[])
def jS(f:bF)(A:bG)(i:Nat):bJ:=cp f ((A.getD i 0:Nat):Int)
def yN(f:bF)(ys:b2)(t:bY)(A:bG)(ti:Nat)(Y:aU):Nat->hY->Prop
 |0,s=>s=fm t ys 0 f []
 |i+1,s=>∃f',s=fm (hq t ti Y (jS f A) (i+1)) (kG ys ti Y A i) 0 f' []/\ha f' (kG ys ti Y A i) (hq t ti Y (jS f A) (i+1))/\∀k,cp f' k=if k=((A.getD i 0:Nat):Int)then [iQ ti Y.2.2.1 i] else if ((A.getD i 0:Nat):Int)<k then cp f k else []
theorem wH{Y:aU}{S:Nat->bJ}(h:ti<t.length):∀i,c1 (hq t ti Y S i)=c1 t+i/\(hq t ti Y S i).length=t.length
 |0=>⟨rfl,rfl⟩
 |i+1=>by
  obtain⟨J,U⟩:=wH h i (Y:=Y) (S:=S);refine⟨?_,?_⟩
  ·show c1 (eS _ ti _)=_
   grind [uJ]
  ·show(eS _ ti _).length=_
   grind [yu]
theorem aoO{d:bF}(aF:k4 f [])(e:k4 d []){c:Int}(bl:1<=c/\c<=40)(ag:1<=b/\b<=40)(m:c≠b)(h:cp f c=[x])(U:∀k,cp d k=tf (cp f) x c b k):d.flatten.Perm f.flatten:=by
 rw[perm_iff_count];intro z;have aa:∀l:bF,l.length<=40->l.flatten.count z=((range 40).map λk:Nat=>(cp l ((k:Int)+1)).count z).sum:=by
  intro l ao;rw[px z ao];unfold D0;have j:(range 40).map (λk=>(l.getD k []).count z)=(range 40).map λk:Nat=>(cp l ((k:Int)+1)).count z:=by
   refine List.map_congr_left λk ab=>?_
   rw[List.mem_range]at ab
   have:=hC (f:=l) (a:=k+1) (by omega) (by omega)
   rw[show((k+1:Nat):Int)=(k:Int)+1 by omega]at this;rw[this]
   rfl
  grind
 rw[aa d e.cx.e6.len,aa f aF.cx.e6.len];have g:=OK (λk:Nat=>if (k:Int)+1=c then 0 else(cp f ((k:Int)+1)).count z) (λk:Nat=>(cp f ((k:Int)+1)).count z) (c-1).toNat 40 (by omega) (λk ab=>by rw[if_neg (by omega)]);have i:=OK (λk:Nat=>(cp d ((k:Int)+1)).count z) (λk:Nat=>if (k:Int)+1=c then 0 else(cp f ((k:Int)+1)).count z) (b-1).toNat 40 (by omega) (λk ab=>by
  rw[U];unfold tf;rw[if_neg (show ¬(k:Int)+1=b by omega),nil_append]
  split
  ·rfl
  ·rfl)
 grind [Nat,Int,tf]
section
variable {N:Nat} (aR:5000<N) {cw:List (Int×Option Nat)} {f:bF} {ys:b2} {t:bY} {A:bG} {ti:Nat} {Y:aU} (h:ri f ys t A ti Y)
theorem ri.get(h:ri f ys t A ti Y)(hi:i<A.length):A[i]?=some (A.getD i 0)/\1<=A.getD i 0/\A.getD i 0<=40:=by
 have e:A[i]?=some (A.getD i 0):=by
  grind
 exact⟨e,h.qn.qo _ (mem_of_getElem? e)⟩
theorem ri.lt(h:ri f ys t A ti Y){j:Nat}(b:i<j)(a:j<A.length):A.getD i 0<A.getD j 0:=by
 have:=List.pairwise_iff_getElem.1 h.qn.qn i j (by omega) a b
 grind
theorem ri.I9(h:ri f ys t A ti Y){k:Int}(ab:∀j,j<A.length->k≠((A.getD j 0:Nat):Int)):cp f k=[]:=by
 by_cases e:cp f k=[]
 ·omega
 ·obtain⟨a,bl,b⟩:=h.only k e
  grind [List.mem_iff_getElem?,List.getElem?_eq_some_iff,absurd,b1]
theorem aoP(aR:5000<N)(dM:hB N=some cw)(h:ri f ys t A ti Y):dz N cw [(4,(1,((0,((A.getD 0 0:Nat):Int)),((ti:Int)+1,0))))] (fm t ys 0 f []) (yN f ys t A ti Y 1):=by
 have q:=h.ne;have r:=h.all;obtain⟨J,U,ah⟩:=h.get (i:=0) (by omega);have n:=mem_of_getElem? J;have c:=h.full _ n;have s:=h.pl;rw[hC U ah]at c;refine YX aR h.Zr h.gV h.bt h.ca dM (by omega) U ah (by omega) (λk _ ab=>h.I9 λj a e=>?_) c.1 λf' p l m=>?_
 ·by_cases g:j=0
  ·grind
  ·have:=h.lt (i:=0) (by omega) a
   omega
 ·have d:(hq t ti Y (jS f A) 1)=eS t ti (0,(Y.2.2.2.1,(f.getD (A.getD 0 0-1) [],Y.2.2.2.2))):=by
   show eS t ti (0,(Y.2.2.2.1,(cp f ((A.getD 0 0:Nat):Int),Y.2.2.2.2)))=_
   grind [hC]
  have b:kG ys ti Y A 0=ys.set ti (true,4 * ((A.getD 0 0:Nat):Int)+2+1,Y.2.2.1+1,false,[]):=by
   grind [kG,Nat,Int]
  refine⟨f',by rw[d,b],by rw[d,b];exact m,λk=>?_⟩;show cp f' k=if k=((A.getD 0 0:Nat):Int)then [iQ ti Y.2.2.1 0] else if ((A.getD 0 0:Nat):Int)<k then cp f k else []
  by_cases ab:1<=k/\k<=40
  ·obtain⟨k',rfl⟩:∃k':Nat,k=(k':Int):=⟨k.toNat,by omega⟩
   rw[hC (by omega) (by omega),l]
   by_cases u:k'=A.getD 0 0
   ·grind [iQ,Nat,Int]
   ·rw[if_neg (by omega),if_neg (by omega)]
    by_cases o:A.getD 0 0<k'
    ·grind [hC]
    ·rw[if_neg (by omega)]
     have:=h.I9 (k:=(k':Int)) λj a e=>by
      by_cases g:j=0
      ·grind
      ·have:=h.lt (i:=0) (by omega) a
       omega
     grind [hC]
  grind [List,cp]
theorem Zu(aR:5000<N)(dM:hB N=some cw)(h:ri f ys t A ti Y)(hi:i+1<A.length){s:hY}(R:yN f ys t A ti Y (i+1) s) :
  T (vP N [((A.getD i 0:Nat):Int)] [((A.getD (i+1) 0:Nat):Int)]) λo=>o.2.2=0/\o.1.length<=100/\dz N cw (o.1++[(4,(1,((0,((A.getD (i+1) 0:Nat):Int)),((ti:Int)+1,0))))]) s (yN f ys t A ti Y (i+2)):=by
 obtain⟨f',rfl,a,m⟩:=R;have ap:=h.all;have Jb:=h.Zs;obtain⟨ao,g2,ac⟩:=h.get (i:=i) (by omega);obtain⟨ae,I,K⟩:=h.get hi;have am:=h.lt (i:=i) (by omega) hi;have ar:=(List.getElem?_eq_some_iff.1 h.bt).1;have aw:=h.full _ (mem_of_getElem? ae);have g:(kG ys ti Y A i)[ti]?=some (true,4 * ((A.getD i 0:Nat):Int)+2+1,Y.2.2.1+(i:Int)+1,false,[]):=by
  unfold kG
  grind
 have U:∀(j:Nat) (Z:aU),j≠ti->(kG ys ti Y A i)[j]?=some Z->Z.1=true->Z.2.1 % 4=3/\Z.2.1<4 * ((A.getD 0 0:Nat):Int):=λj Z c d q=>by
  unfold kG at d;rw[getElem?_set,if_neg (λe=>c e.symm)]at d;exact h.PJ j Z c d q
 have b:cp f' ((A.getD i 0:Nat):Int)=[iQ ti Y.2.2.1 i]:=by rw[m,if_pos rfl]
 have u:iQ ti Y.2.2.1 i∈f'.flatten:=by
  rw[hC g2 ac,getD_eq_getElem?_getD]at b;cases aq:f'[A.getD i 0-1]? with
  |none=>rw[aq]at b;cases b
  |some z=>
   rw[aq]at b;have bw:z=[iQ ti Y.2.2.1 i]:=b;exact List.mem_flatten.2 ⟨z,mem_of_getElem? aq,by rw[bw];exact List.mem_singleton.2 rfl⟩
 have F:∀k:Int,((A.getD i 0:Nat):Int)<k->k<((A.getD (i+1) 0:Nat):Int)->cp f k=[]:=λk n y=>h.I9 λj c e=>by
  by_cases au:j<=i
  ·by_cases P:j=i
   ·grind
   ·have:=h.lt (i:=j) (j:=i) (by omega) (by omega)
    omega
  ·by_cases P:j=i+1
   ·grind
   ·have:=h.lt (i:=i+1) (by omega) c
    omega
 have aj:((A.getD 0 0:Nat):Int)<=((A.getD i 0:Nat):Int):=by
  by_cases ah:i=0
  ·subst ah;exact le_refl _
  ·have:=h.lt (i:=0) (j:=i) (by omega) (by omega)
   omega
 have V:A8 (kG ys ti Y A i) ti (true,4 * ((A.getD i 0:Nat):Int)+2+1,Y.2.2.1+(i:Int)+1,false,[]) (cp f') (iQ ti Y.2.2.1 i) ((A.getD i 0:Nat):Int) ((A.getD (i+1) 0:Nat):Int):=by
  refine⟨a.jy,a.gR,λj Z d q=>?_,h.gV,g,rfl,by show 4 * ((A.getD i 0:Nat):Int)+2+1=_;omega,zero_le _,λj Z c d q=>by have:=U j Z c d q;omega,Eb a.cx.e6 u,by omega,b,λk n y=>?_,?_⟩
  ·by_cases c:j=ti
   ·grind
   grind
  ·rw[m,if_neg (by omega),if_pos n]
   grind
  grind
 have ag:rf (hq t ti Y (jS f A) (i+1)) (kG ys ti Y A i) ti (true,4 * ((A.getD i 0:Nat):Int)+2+1,Y.2.2.1+(i:Int)+1,false,[]) (cp f') (iQ ti Y.2.2.1 i) ((A.getD i 0:Nat):Int) 0 ((A.getD i 0:Nat):Int) (fm (hq t ti Y (jS f A) (i+1)) (kG ys ti Y A i) 0 f' []):=by
  refine⟨f',by rw[if_pos rfl],a.sv,λk=>?_⟩;unfold tf
  by_cases ab:k=((A.getD i 0:Nat):Int)
  ·rw[if_pos ab,if_pos ab,ab,b]
   rfl
  grind
 refine(an5 aR dM V ag).mono ?_;rintro⟨ops,room,e⟩ ⟨he,yH,ej⟩;refine⟨he,yH,ej.append ?_⟩;rintro s ⟨J,rfl,G,r⟩;rw[if_neg (show ¬((A.getD (i+1) 0:Nat):Int)=((A.getD i 0:Nat):Int) by omega)];have af:=aoO a.sv G (by omega) (by omega) (by omega) b r;have W:ha J (kd (kG ys ti Y A i) ti (true,4 * ((A.getD i 0:Nat):Int)+2+1,Y.2.2.1+(i:Int)+1,false,[]) (iQ ti Y.2.2.1 i)) (hq t ti Y (jS f A) (i+1)):=by
  have E:=a.move G.cx af;unfold kd;refine E.go g (wi (a.gR _ (mem_of_getElem? g)) ((a.gR _ (mem_of_getElem? g)).at' rfl) (λp an=>by rw[List.mem_singleton]at an;rw[an];exact⟨Eb a.cx.e6 u,inl rfl⟩) (by show 1+0<=4096;decide)) rfl (λp an=>?_) (λ_ Q=>E.ih (true,4 * ((A.getD i 0:Nat):Int)+2+1,Y.2.2.1+(i:Int)+1,false,[]) (mem_of_getElem? g) rfl Q);have L:p∈[(iQ ti Y.2.2.1 i,(true,0))]:=an;rw[List.mem_singleton]at L;rw[L];exact a.has u
 have M:(kd (kG ys ti Y A i) ti (true,4 * ((A.getD i 0:Nat):Int)+2+1,Y.2.2.1+(i:Int)+1,false,[]) (iQ ti Y.2.2.1 i))[ti]?=some (true,4 * ((A.getD i 0:Nat):Int)+2+1,Y.2.2.1+(i:Int)+1,false,[(iQ ti Y.2.2.1 i,(true,0))]):=by
  unfold kd;rw[getElem?_set,if_pos rfl,if_pos (by rw[a.jy];exact h.gV)]
  rfl
 have H:J.getD (A.getD (i+1) 0-1) []=iQ ti Y.2.2.1 i::jS f A (i+1):=by
  have:=r ((A.getD (i+1) 0:Nat):Int)
  unfold tf at this;rw[hC I K,if_pos rfl,if_neg (by omega),m,if_neg (by omega),if_pos (by omega)]at this;exact this
 obtain⟨ai,_⟩:=wH (Y:=Y) (S:=jS f A) (by rw[h.Zr.len];exact h.gV) (i+1);refine YX aR W h.gV M rfl dM (by omega) I K (by show 4 * ((A.getD i 0:Nat):Int)+2+1<_;omega) (λk n y=>?_) (by rw[H];simp) λaa ak X C=>?_
 ·have al:4 * ((A.getD i 0:Nat):Int)+2+1<4 * k+2:=n
  rw[r];unfold tf;rw[if_neg (by omega),if_neg (by omega),m,if_neg (by omega),if_pos (by omega),nil_append];exact F k (by omega) y
 ·rw[H]at C ⊢
  have O:(kd (kG ys ti Y A i) ti (true,4 * ((A.getD i 0:Nat):Int)+2+1,Y.2.2.1+(i:Int)+1,false,[]) (iQ ti Y.2.2.1 i)).set ti (true,4 * ((A.getD (i+1) 0:Nat):Int)+2+1,Y.2.2.1+(i:Int)+1+1,false,[])=kG ys ti Y A (i+1):=by
   unfold kd kG
   grind [set_set,Nat,Int]
  rw[O]at C ⊢;refine⟨aa,rfl,C,λk=>?_⟩
  by_cases ab:1<=k/\k<=40
  ·obtain⟨k',rfl⟩:∃k':Nat,k=(k':Int):=⟨k.toNat,by omega⟩
   rw[hC (by omega) (by omega),X]
   by_cases av:k'=A.getD (i+1) 0
   ·rw[if_pos (by omega),if_pos (by omega)]
    unfold iQ;rw[show Y.2.2.1+((i+1:Nat):Int)=Y.2.2.1+(i:Int)+1 by omega]
   ·rw[if_neg (by omega),if_neg (by omega)]
    have B:=r (k':Int);unfold tf at B;rw[hC (by omega) (by omega),if_neg (by omega),nil_append]at B;rw[B]
    by_cases v:(k':Int)=((A.getD i 0:Nat):Int)
    ·rw[if_pos v,if_neg (by omega)]
    ·rw[if_neg v,m,if_neg v]
     by_cases D:((A.getD (i+1) 0:Nat):Int)<(k':Int)
     ·rw[if_pos D,if_pos (by omega)]
     ·rw[if_neg D]
      by_cases w:((A.getD i 0:Nat):Int)<(k':Int)
      ·rw[if_pos w]
       exact F _ w (by omega)
      ·rw[if_neg w]
  ·have bw:∀l:bF,cp l k=[]:=λl=>by unfold cp;rw[if_neg ab]
   rw[bw,bw,if_neg (by omega)]
   split<;>rfl
end
theorem aoU(N:Nat){nd:ad}(b:(nd.1=0\/nd.1=1)/\1<=nd.2/\nd.2<=40):kz N (8,(0,(nd,(0,0))))=some 0:=by
 obtain⟨a,d,c⟩:∃a,sV N=some a/\cX (.int .u8) eA a 8=some (false,(true,(false,false))):=⟨_,rfl,rfl⟩
 have an:nn N (8,(0,(nd,(0,0))))=some true:=by
  unfold nn
  apply T.eq
  simp only[aO,reduceEq,reduceLT,reduceCtorEq,bd d,c,Option.isSome_some,getD_some,bd (r8 N b)]
 unfold kz
 apply T.eq
 simp only[aO,reduceEq,reduceLT,reduceCtorEq,bd an]
theorem aoV{op:bH}(h:kz N op=some 0)(ab:op.1=8)(r:Int)(f g:bF)(tb:List (Bool×cq))(dt)(ys:b2)(fl:bJ){A}(ae:hB N=some A) :
  lA N op r f g tb dt ys fl A=Option.bind (yn N op r f g tb dt ys fl) λa=>some (a.1,a.2.1,a.2.2.1,a.2.2.2.1,tb,dt,ys,a.2.2.2.2):=by
 obtain⟨k,op⟩:=op;subst ab;cases ae;unfold lA;rw[h]
 rfl
theorem aoW(aR:5000<N)(dM:hB N=some cw)(h:k4 f [])(J:1<=a)(U:a<=40)(ak:cp f (a:Int)=[x])(g:∀k,k≠(a:Int)->cp f k=[]) :
  dz N cw [(8,(0,((0,(a:Int)),(0,0))))] (fm t ys 0 f []) λs=>s=((0:Int),[],[],own t,[],ys,[x]):=by
 have j:((0:Int)=0\/(0:Int)=1)/\(1:Int)<=(a:Int)/\(a:Int)<=40:=⟨inl rfl,by omega,by omega⟩
 have d:=aoV (aoU N (nd:=(0,(a:Int))) j) rfl (0:Int) f [] (own t) [] ys [] dM;rw[hC J U]at ak;have b:=yA (N:=N) h.cx (inl rfl) J U;rw[if_neg (by decide),ak]at b;have m:=h.dy;have i:=IU aR h.cx h.jx (by omega) (inl rfl) J U (zero_le _) (λx ak=>by cases ak) nodup_nil (λx ak=>by cases ak);show T (lA N (8,(0,((0,(a:Int)),(0,0)))) 0 f [] (own t) [] ys [] cw) _;rw[d];unfold yn;simp only[aO,reduceEq,bd b,length_singleton,show ¬(((1:Nat):Int)=0) by omega];refine i.mono ?_;rintro⟨⟨f',g'⟩,e⟩ ⟨he,cG,aF,aV⟩;subst he;have c:f'=[]:=yz cG.dp qh λk=>by
  rw[aF]
  by_cases ab:k=a-1
  ·rw[if_pos ⟨rfl,ab⟩]
   rfl
  ·rw[if_neg (λe=>ab e.2)]
   by_cases n:k<40
   ·have:=g ((k:Int)+1) (by omega)
    rw[show(k:Int)+1=((k+1:Nat):Int) by omega,hC (by omega) (by omega)]at this;exact this
   ·have:=h.cx.e6.len
    rw[getD_eq_getElem?_getD,getElem?_eq_none (by omega)]
    rfl
 have l:g'=[]:=yz cG.gs qh λk=>by
  rw[aV,if_neg (λe=>absurd e.1 (by decide))]
 subst c l;simp only[aO,nil_append];refine⟨by and_intros<;>first|omega|(simp only[dU];omega)|exact this,rfl⟩
section
variable {N:Nat} {cw:List (Int×Option Nat)} {f:bF} {ys:b2} {t:bY} {A:bG} {ti:Nat} {Y:aU}
theorem Zy{A:bG}(hi:i<A.length)(N:Nat):Du N (i:Int) (nZ A)=some (0,((A.getD i 0:Nat):Int)):=by
 have ae:A[i]?=some (A.getD i 0):=by
  rw[getD_eq_getElem?_getD,getElem?_eq_getElem hi]
  rfl
 unfold Du
 apply T.eq
 simp only[aO,b1 (D6 ae),tc];omega
theorem Zz{A:bG}(h:A[i]?=some a):((nZ A).take (i+1)).drop i=[(a:Int)]:=by
 rw[qg (D6 h),List.drop_left' (by rw[List.length_take,tc];have:=(List.getElem?_eq_some_iff.1 h).1;omega)]
theorem ZA(aR:5000<N)(dM:hB N=some cw)(h:ri f ys t A ti Y)(y:uK A) :
  T (Dv N ((ti:Int)+1) (nZ A)) λo=>o.2.2=0/\o.2.1=o.1.length/\o.1.length<=1000/\dz N cw o.1 (fm t ys 0 f []) λs=>s=(0,[],[],own (hq t ti Y (jS f A) A.length),[],kG ys ti Y A (A.length-1),[iQ ti Y.2.2.1 (A.length-1)]):=by
 have X:=h.ne;have Jb:=h.Zs;have gV:=h.gV;have Q:HI N ((ti:Int)+1) (nZ A)=some 0:=by
  unfold HI
  apply T.eq
  simp only[aO,reduceEq,reduceCtorEq,show ¬((ti:Int)+1<1) by omega,show ¬(6<(ti:Int)+1) by omega,bd (am7 y aR),tc,show ¬((A.length:Int)=0) by omega]
 have cR:T (Wd N ((ti:Int)+1) (nZ A) N (0,[])) λo=>∃ops,o=.inl ops/\ops.length<=101 * A.length/\dz N cw ops (fm t ys 0 f []) (yN f ys t A ti Y A.length):=by
  refine kB (λk d=>∃(i:Nat) (ops:dc),i+k=A.length/\d=((i:Int),ops)/\ops.length<=101 * i/\dz N cw ops (fm t ys 0 f []) (yN f ys t A ti Y i)) _ ?_ N A.length _ (by omega) ⟨0,[],by omega,rfl,Nat.le_refl 0,rfl⟩;rintro k d rec ⟨i,ops,hi,rfl,w,b⟩ q
  by_cases l:i<A.length
  ·have n:(i:Int)<(A.length:Int):=by omega
   have p:=Zy l N
   by_cases S:i=0
   ·subst S
    have K:dz N cw (ops++[(4,(1,((0,((A.getD 0 0:Nat):Int)),((ti:Int)+1,0))))]) (fm t ys 0 f []) (yN f ys t A ti Y 1):=b.append λs a=>by
     have L:s=fm t ys 0 f []:=a;subst L;exact aoP aR dM h
    have this:=q (k-1) (((0:Nat):Int)+1,ops++[(4,(1,((0,((A.getD 0 0:Nat):Int)),((ti:Int)+1,0))))]) (by omega) ⟨1,_,by omega,rfl,by rw[length_append,length_singleton];omega,K⟩;simp only[aO,reduceCtorEq,tc,n,bd p,show ¬(0<((0:Nat):Int)) by omega]
    and_intros<;>first|omega|(simp only[dU];omega)|exact this|trivial
   ·obtain⟨j,rfl⟩:∃j,i=j+1:=⟨i-1,by omega⟩
    have M:0<((j+1:Nat):Int):=by omega
    obtain⟨u,_⟩:=h.get (i:=j) (by omega);obtain⟨g2,_⟩:=h.get l;have z:((nZ A).take (j+1)).drop (((j+1:Nat):Int)-1).toNat=[((A.getD j 0:Nat):Int)]:=by
     rw[show(((j+1:Nat):Int)-1).toNat=j by omega];exact Zz u
    have F:((nZ A).take (((j+1:Nat):Int)+1).toNat).drop (j+1)=[((A.getD (j+1) 0:Nat):Int)]:=by
     exact Zz g2
    obtain⟨Z,I⟩:=b.ex;obtain⟨o,g,C,V,W⟩:=Zu aR dM h l I;have c:dz N cw (ops++(o.1++[(4,(1,((0,((A.getD (j+1) 0:Nat):Int)),((ti:Int)+1,0))))])) (fm t ys 0 f []) (yN f ys t A ti Y (j+1+1)):=b.append λs a=>by
     obtain⟨O,R,_,_,D⟩:=Zu aR dM h l a
     have:O=o:=Option.some.inj (R.symm.trans g)
     rw[<- this];exact D
    rw[<- append_assoc]at c;have this:=q (k-1) (((j+1:Nat):Int)+1,ops++o.1++[(4,(1,((0,((A.getD (j+1) 0:Nat):Int)),((ti:Int)+1,0))))]) (by omega) ⟨j+2,_,by omega,by rw[show((j+1:Nat):Int)+1=((j+2:Nat):Int) by omega],by rw[length_append,length_append,length_singleton];omega,c⟩;simp only[aO,reduceCtorEq,tc,n,M,bd p,z,F,bd g,C,length_append,length_singleton]
    and_intros<;>first|omega|(simp only[dU];omega)|exact this|trivial
  ·have n:¬(i:Int)<(A.length:Int):=by omega
   have E:i=A.length:=by omega
   subst E;simp only[aO,reduceCtorEq,tc,n];exact⟨ops,rfl,w,b⟩
 obtain⟨o,g,ops,rfl,w,b⟩:=cR;obtain⟨m,v⟩:∃m,A.length=m+1:=⟨A.length-1,by omega⟩
 have p:=Zy (A:=A) (i:=m) (by omega) N;have G:(A.length:Int)-1=(m:Int):=by omega
 have P:=Pk N (ops++[(8,(0,((0,((A.getD m 0:Nat):Int)),(0,0))))]);obtain⟨u,g2,J⟩:=h.get (i:=m) (by omega);have c:dz N cw (ops++[(8,(0,((0,((A.getD m 0:Nat):Int)),(0,0))))]) (fm t ys 0 f []) λs=>s=(0,[],[],own (hq t ti Y (jS f A) A.length),[],kG ys ti Y A (A.length-1),[iQ ti Y.2.2.1 (A.length-1)]):=b.append λs a=>by
  rw[v]at a;obtain⟨f',rfl,H,r⟩:=a;rw[v,show m+1-1=m by omega];refine aoW aR dM H.sv g2 J (by rw[r,if_pos rfl]) λk ab=>?_
  rw[r,if_neg ab]
  split
  ·exact h.I9 λj U e=>by
    by_cases B:j=m
    ·subst B;omega
    ·have:=h.lt (i:=j) (j:=m) (by omega) (by omega)
     omega
  ·rfl
 unfold Dv;simp only[aO,bd Q,bd g,tc,G,bd p,bd P];simp only[length_append,length_singleton];refine⟨by omega,by and_intros<;>first|omega|(simp only[dU];omega)|exact this|trivial,by omega,c⟩
end
theorem ao1(aR:5000<N)(ys:b2)(bj:t.length<=300)(m:∀x∈t,x.length<=100000){ids:bJ}(hi:ids.length<=100000)(x:ad)(h:pq N (f,g) 0=some ids) :
  uF N 0 f g (own t) [] ys [x]=some (0,((f,g),(ys,(t,([],(ids,[x])))))):=by
 have U:DJ N ([]:dI)=some []:=by
  obtain⟨n,rfl⟩:∃n,N=n+50:=⟨N-50,by omega⟩
  kernel_rfl
 have b:Dj N [x]=some [x]:=by
  obtain⟨n,rfl⟩:∃n,N=n+50:=⟨N-50,by omega⟩
  kernel_rfl
 have J:H9 N N ((0:Int),f,g)=some ((0:Int),f,g):=by
  obtain⟨n,rfl⟩:∃n,N=n+50:=⟨N-50,by omega⟩
  rfl
 have ah:AN N (own t) N ((0:Int),(0:Int),f,g,own t)=some ((0:Int),f,g,own t):=by
  unfold AN;refine ek (λk d=>∃i:Nat,i+k=t.length/\d=((i:Int),(0:Int),f,g,own t)) _ ?_ N t.length _ (by omega) ⟨0,by omega,rfl⟩;rintro k d rec ⟨i,hi,rfl⟩ c
  apply T.eq
  by_cases e:i<t.length
  ·obtain⟨x,ak⟩:∃x,t[i]?=some x:=⟨_,getElem?_eq_getElem e⟩
   have a:(i:Int)<(t.length:Int):=by omega
   have l:=m x (mem_of_getElem? ak);have this:T (rec ((i:Int)+1,(0:Int),f,g,own t)) (·=((0:Int),f,g,own t)):=⟨_,c (k-1) _ (by omega) ⟨i+1,by omega,rfl⟩,rfl⟩
   simp only[aO,reduceCtorEq,rb,a,A1 ak,bd (OS N x l),IH ak]
   and_intros<;>first|omega|(simp only[dU];omega)|exact this|trivial
  ·have a:¬(i:Int)<(t.length:Int):=by omega
   simp only[aO,reduceCtorEq,rb,a]
 have j:AM N ([]:dI)=some ([],0):=rfl;unfold uF;rw[np (by rfl),np (by rfl),J,bind_some,U,bind_some,ah,bind_some,b,bind_some,np rfl,np rfl,j,bind_some];show Option.bind (pq N (f,g) 0) _=_;rw[h,bind_some,IK N [x] (by show 1<=_;decide),bind_some,OO]
theorem ao2(aR:5000<N){cw}(dM:hB N=some cw){ys':b2}{t':bY}(h:ha f ys t){l:dc}(ao:l.length<=4000)(k:t'.length=6)(g:∀r∈t',r.length<=100000)(e:dz N cw l (fm t ys 0 f []) λs=>s=((0:Int),[],[],own t',[],ys',[x])) :
  v8 N (stM f ys t) l=some (((0:Int),(([],[]),(ys',(t',([],([],[x])))))),(l.length:Int),0):=by
 have c:=h.ms aR;have n:=h.jy;have o:=h.dy;have j:=Yd aR c;have b:=X1 aR (r:=0) h.cx (ys:=ys) (by omega) (λY bt=>by have:=(h.gR Y bt).dy;omega) h.tb f.flatten (fl:=[]) (by decide);have cR:=Yv (by omega) (by omega) e;have i:k4 [] []:=⟨⟨⟨zero_le _,(λs a=>by cases a),(λs a=>by cases a)⟩,⟨zero_le _,(λs a=>by cases a),(λs a=>by cases a)⟩,qh,qh⟩,nodup_nil,by decide⟩
 have d:=Pl aR i
 apply T.eq
 unfold stM v8;simp only[aO,reduceCtorEq,show ¬(4096:Int)<(l.length:Int) by omega,bd j,bd b,bd dM];refine cR.mono ?_;rintro q ⟨m,rfl,rfl⟩;have cY:=ao1 aR (t:=t') ys' (by omega) g (by decide) x d;simp only[aO,bd cY]
 rfl
theorem ao3{S:Nat->bJ}(h:ti<t.length)(i:Nat):((hq t ti Y S i).getD ti []).length=(t.getD ti []).length+i:=by
 induction i with
 |zero=>rfl
 |succ i a=>
  show((eS _ ti _).getD ti []).length=_;have ao:=(wH h i (Y:=Y) (S:=S)).2;rw[s8 (by omega),if_pos rfl,length_append,a]
  rfl
theorem ao4{A:bG}:∀j,pv (kD y A j)
 |0=>qh
 |j+1=>alW _ (by simp)
theorem ao5(aA:y<6):ha [] (pz y (-13) 0) (py y 0):=by
 rw[Yg aA];have bw:∀i,(replicate 6 ([]:cq)).getD i []=[]:=λi=>by
  rw[getD_eq_getElem?_getD,List.getElem?_replicate]
  split<;>rfl
 have e:∀a,¬fY (replicate 6 ([]:cq)) a:=λa h=>by
  rw[q9,bw]at h
  simp at *
  omega
 have d:∀ {a l},ig (replicate 6 ([]:cq)) a=some l->False:=λ{a l} h=>e a ⟨l,h⟩
 have f:∀Z∈pz y (-13) 0,Z=bU.zero\/Z=qm (-13) 0:=λZ c=>by
  rcases List.mem_or_eq_of_mem_set c with h|h
  ·exact inl (eq_of_mem_replicate h)
  ·exact inr h
 have g:hn (bU.zero:aU):=⟨⟨le_refl _,by decide⟩,λ_=>⟨rfl,rfl,rfl⟩,λh=>(by cases h),by decide,λp an=>(by cases an),λi p q an=>(by cases an)⟩
 refine⟨⟨wv,wv,qh,qh⟩,nodup_nil,λa=>by rw[if_neg (e a)];rfl,zero_le _,by simp[pz],λZ c=>?_,
  ⟨λ_=>0,⟨rfl,λa h=>(e a h).elim,λa b h=>(e b h).elim,λa l h=>(d h).elim,λa l h=>(d h).elim,λa l h=>(d h).elim,λa l h=>(d h).elim,λa l h=>(d h).elim,λa l h=>(d h).elim,λa l h=>(d h).elim⟩⟩,zero_le _,
  ⟨by decide,λx ak=>(by rw[eq_of_mem_replicate ak];decide),λx ak=>(by rw[eq_of_mem_replicate ak];intro l ao;cases ao),λx ak=>(by rw[eq_of_mem_replicate ak];intro l ao;cases ao)⟩,λi Z c=>?_,λZ c p an=>?_,λZ c J U=>?_⟩
 ·rcases f Z c with rfl|rfl
  ·exact g
  ·exact Yi (by decide) (by decide)
 ·rw[bw]
  rcases f Z (mem_of_getElem? c)with rfl|rfl<;>rfl
 ·rcases f Z c with rfl|rfl<;>cases an
 ·rcases f Z c with rfl|rfl
  ·cases J
  ·rfl
theorem ZB(aA:y<6){A:bG}(h:uK A):∀j,j<=A.length->ha (kD y A j) (pz y (-13) j) (py y j)
 |0,_=>ao5 aA
 |j+1,d=>by
  have g:=ZB aA h j (by omega);have k:=h.dy;have f:=O5 y A j;have a:=O5 y A (j+1);have an:=g.put (f':=kD y A (j+1)) aA (O4 aA (-13) j) rfl (by rw[O3 aA];omega) (thr:=[]) (λb ag=>by cases ag) (zero_le _) ⟨Ym h aA (j+1) d,wv,ao4 (j+1),qh⟩ (by rw[a,am1];omega) (by rw[a,f,append_nil,Ye];exact List.Perm.refl _);have c:(pz y (-13) j).set y (true,(qm (-13) j).2.1,(qm (-13) j).2.2.1+1,false,[])=pz y (-13) (j+1):=by
   have i:((true,(qm (-13) j).2.1,(qm (-13) j).2.2.1+1,false,[]):aU)=qm (-13) (j+1):=by
    rfl
   exact Yh y _ _ j (j+1)
  have e:eS (py y j) y (0,((qm (-13) j).2.2.2.1,([],(qm (-13) j).2.2.2.2)))=py y (j+1):=Yf aA j;rw[c,e]at an;exact an
theorem ao6(aA:y<6){A:bG}(h:uK A)(an:tmod p 2≠0/\-13<=p/\p<=179):ha (kD y A A.length) (pz y p A.length) (py y A.length):=by
 have b:=h.dy
 have:=(ZB aA h A.length (Nat.le_refl _)).go (O4 aA (-13) A.length) (Yi an (by omega)) rfl (λp an=>by cases an) (λ_ a=>by
  have c:(A.length:Int)=0:=a;exact decide_eq_true (by omega))
 rw[Yh]at this;exact this
theorem ZC{A:bG}(h:uK A):∀j,j<=A.length->(∀i,i<j->cp (kD y A j) ((A.getD i 0:Nat):Int)=[((y:Int)+1,(i:Int))])/\∀k,cp (kD y A j) k≠[]->∃i,i<j/\k=((A.getD i 0:Nat):Int)
 |0,_=>⟨λi hi=>absurd hi (by omega),λk ab=>absurd (by unfold cp;split<;>simp[kD]) ab⟩
 |j+1,p=>by
  obtain⟨J,U⟩:=ZC h j (by omega);obtain⟨a,bl⟩:∃a,A[j]?=some a:=⟨_,getElem?_eq_getElem (by omega)⟩
  have d:=h.qo a (mem_of_getElem? bl);have n:=Yk h y bl;have ab:∀k:Nat,1<=k->k<=40->cp (kD y A (j+1)) (k:Int)=if k=a then [((y:Int)+1,(j:Int))] else cp (kD y A j) (k:Int):=λk g f=>by
   rw[Yl y bl,hC g f,hC g f,anh n]
   by_cases e:k=a
   ·rw[if_pos (by omega),if_pos e]
   ·rw[if_neg (by omega),if_neg e]
  refine⟨λi hi=>?_,λk c=>?_⟩
  ·obtain⟨b,ag⟩:∃b,A[i]?=some b:=⟨_,getElem?_eq_getElem (by omega)⟩
   have q:=h.qo b (mem_of_getElem? ag);rw[b1 ag,ab b (by omega) (by omega)]
   by_cases o:i=j
   ·subst o
    rw[bl]at ag;cases ag;rw[if_pos rfl]
   ·have l:=List.pairwise_iff_getElem.1 h.qn i j (by omega) (by omega) (by omega)
    rw[(List.getElem?_eq_some_iff.1 bl).2,(List.getElem?_eq_some_iff.1 ag).2]at l;rw[if_neg (by omega)]
    have:=J i (by omega)
    rw[b1 ag]at this;exact this
  ·by_cases d:1<=k/\k<=40
   ·obtain⟨k',rfl⟩:∃k':Nat,k=(k':Int):=⟨k.toNat,by omega⟩
    rw[ab k' (by omega) (by omega)]at c
    by_cases e:k'=a
    ·exact⟨j,by omega,by rw[b1 bl,e]⟩
    ·rw[if_neg e]at c
     obtain⟨i,hi,m⟩:=U _ c;exact⟨i,by omega,m⟩
   ·exact absurd (by unfold cp;rw[if_neg d]) c
section
variable {N:Nat} (aR:5000<N) {A:bG} (ae:O6 A 40) (oi:1<=A.length) (Jb:A.length<=8) {ti:Nat} (gV:ti<6) {f:bF} {ys:b2} {t:bY}
include aR ae Jb gV
include oi
theorem ao8(c:ha f ys t)(bt:ys[ti]?=some Y)(ca:Y.1=true)(i:4<=Y.2.1)(b:Y.2.2.2.2=[])(PJ:∀(j:Nat) (Z:aU),j≠ti->ys[j]?=some Z->Z.1=true->Z.2.1=3)(full:∀a∈A,cp f (a:Int)≠[]/\(cp f (a:Int)).length<=2)(only:∀k,cp f k≠[]->∃a∈A,k=(a:Int))(all:c1 t<=200) :
  v8 N (stM f ys t) [(6,(0,((1,1),((ti:Int)+1,0))))]=some (stM f (ys.set ti (true,3,Y.2.2.1,Y.2.2.2.1,ee [] (nr f Y.2.1 3))) t,1,0)/\ri f (ys.set ti (true,3,Y.2.2.1,Y.2.2.2.1,ee [] (nr f Y.2.1 3))) t A ti (true,3,Y.2.2.1,Y.2.2.2.1,ee [] (nr f Y.2.1 3)):=by
 obtain⟨cw,dM⟩:∃cw,hB N=some cw:=⟨_,rfl⟩
 have m:=(List.getElem?_eq_some_iff.1 bt).1;have d:=ha.anI aR c gV bt ca (place:=3) (e:=3) ⟨by decide,by decide,by decide⟩ (by rw[b];exact zero_le _);have ao:=Po f Y.2.1 3;have n:=DV [] (nr f Y.2.1 3);have s:=c.dy;rw[b]at d;have p:([]:dd).length=0:=rfl;have r:1<=A.getD 0 0:=by
  have:=ae.qo (A.getD 0 0) (by rw[getD_eq_getElem?_getD,getElem?_eq_getElem (show 0<A.length by omega)];exact getElem_mem _)
  exact this.1
 refine⟨T.eq ?_,⟨d,ae,oi,Jb,gV,by rw[getElem?_set,if_pos rfl,if_pos m],rfl,by show(3:Int)<4 * ((A.getD 0 0:Nat):Int);omega,?_,λj Z g h o=>?_,full,only,all⟩⟩
 ·refine(anF aR dM c (l:=[(6,(0,((1,1),((ti:Int)+1,0))))]) (Q:=λf' ys' t'=>f'=f/\ys'=ys.set ti (true,3,Y.2.2.1,Y.2.2.2.1,ee [] (nr f Y.2.1 3))/\t'=t) (by show 1<=4000;decide) ?_).mono ?_
  ·refine anJ aR c gV bt ca dM (by rw[b];exact zero_le _) i ?_
   rw[b];exact⟨f,_,t,rfl,d,rfl,rfl,rfl⟩
  ·rintro q ⟨f',ys',t',rfl,_,rfl,rfl,rfl⟩
   rfl
 ·show(ee [] (nr f Y.2.1 3)).length<=3000
  have:(ee [] (nr f Y.2.1 3)).length<=0+(nr f Y.2.1 3).length:=n
  omega
 ·rw[getElem?_set,if_neg (λe=>g e.symm)]at h
  have:=PJ j Z g h o
  omega
end
def gG(w:Nat):bG:=(range w).map λi=>13+i
theorem ZD(w:Nat):lD w=nZ (gG w):=by
 unfold lD gG nZ;rw[map_map];refine List.map_congr_left λi _=>?_
 show(13:Int)+(i:Int)=((13+i:Nat):Int)
 omega
theorem PO(hw:w<=8):uK (gG w)/\O6 (gG w) 40:=by
 have an:(gG w).Pairwise (· < ·):=by
  unfold gG;rw[List.pairwise_map];exact List.pairwise_lt_range.imp λh=>by omega
 have b:∀a∈gG w,13<=a/\a<13+w:=λa bl=>by
  obtain⟨i,hi,rfl⟩:=List.mem_map.1 bl;rw[List.mem_range]at hi;omega
 exact⟨⟨an,λa bl=>by have:=b a bl;omega,by unfold gG;rw[length_map,length_range];omega⟩,⟨an,λa bl=>by have:=b a bl;omega⟩⟩
theorem ao9(aA:y<6)(J:1<=w)(hw:w<=8):∃bops,AO ((y:Int)+1) (lD w)=some (bops,bops.length,0)/\bops.length<=1000:=by
 obtain⟨ae,f⟩:=PO hw;obtain⟨A,d⟩:∃A,A=gG w:=⟨_,rfl⟩
 have t:A.length=w:=by rw[d];unfold gG;rw[length_map,length_range]
 rw[ZD,<- d];rw[<- d]at ae f;have aR:5000<6000:=by decide
 have q:∀j,j<A.length->A[j]?=some (A.getD j 0):=λj b=>by
  rw[getD_eq_getElem?_getD,getElem?_eq_getElem b]
  rfl
 obtain⟨r,o⟩:=ZC ae A.length (Nat.le_refl _) (y:=y);have l:=ao6 aA ae (p:=163) ⟨by decide,by decide,by decide⟩;have s:∀a∈A,cp (kD y A A.length) (a:Int)=[((y:Int)+1,((A.idxOf a:Nat):Int))]:=λa bl=>by
  have hi:=List.idxOf_lt_length_of_mem bl;have J:=r _ hi;rw[b1 (getElem?_eq_getElem hi),List.getElem_idxOf hi]at J;exact J
 have m:∀a∈A,cp (kD y A A.length) (a:Int)≠[]/\(cp (kD y A A.length) (a:Int)).length<=2:=λa bl=>by
  rw[s a bl];exact⟨by simp,by show 1<=2;decide⟩
 have n:∀k,cp (kD y A A.length) k≠[]->∃a∈A,k=(a:Int):=λk ab=>by
  obtain⟨i,hi,e⟩:=o k ab;exact⟨_,mem_of_getElem? (q i hi),e⟩
 have sc:∀(p:Int) (j:Nat) (Z:aU),j≠y->(pz y p A.length)[j]?=some Z->Z=bU.zero:=λp j Z b c=>by
  unfold pz at c;rw[getElem?_set,if_neg (λe=>b e.symm)]at c;exact eq_of_mem_replicate (mem_of_getElem? c)
 obtain⟨_,h⟩:=ao8 aR f (by omega) (by omega) aA (Y:=qm 163 A.length) l (O4 aA 163 A.length) rfl (by show(4:Int)<=163;decide) rfl (λj Z b c ca=>by rw[sc 163 j Z b c]at ca;cases ca) m n (by rw[O3 aA];omega);obtain⟨cw,dM⟩:∃cw,hB 6000=some cw:=⟨_,rfl⟩
 obtain⟨⟨ops,room,e⟩,ag,he,g,ao,_⟩:=ZA aR dM h ae;dsimp only at he g ao;subst he g;exact⟨ops,ag,ao⟩
theorem tl:∀Z∈replicate 6 (bU.zero:aU),Z=bU.zero:=λZ a=>eq_of_mem_replicate a
theorem pB:jn [] [] (replicate 6 (bU.zero:aU)) (replicate 6 []):=by
 have bw:∀i,(replicate 6 ([]:cq)).getD i []=[]:=λi=>by
  rw[getD_eq_getElem?_getD,List.getElem?_replicate]
  split<;>rfl
 have e:∀a,¬fY (replicate 6 ([]:cq)) a:=λa h=>by
  rw[q9,bw]at h
  simp at *
  omega
 have d:∀ {a l},ig (replicate 6 ([]:cq)) a=some l->False:=λ{a l} h=>e a ⟨l,h⟩
 have f:hn (bU.zero:aU):=⟨⟨le_refl _,by decide⟩,λ_=>⟨rfl,rfl,rfl⟩,λh=>(by cases h),by decide,λp an=>(by cases an),λi p q an=>(by cases an)⟩
 refine⟨⟨wv,wv,qh,qh⟩,nodup_nil,⟨λk=>by cases k<;>exact zero_le _,λk=>by cases k<;>exact zero_le _⟩,λa=>by rw[if_neg (e a)];rfl,zero_le _,by simp,λZ c=>by rw[tl Z c];exact f,
  ⟨λ_=>0,⟨rfl,λa h=>(e a h).elim,λa b h=>(e b h).elim,λa l h=>(d h).elim,λa l h=>(d h).elim,λa l h=>(d h).elim,λa l h=>(d h).elim,λa l h=>(d h).elim,λa l h=>(d h).elim,λa l h=>(d h).elim⟩⟩,zero_le _,
  ⟨by decide,λx ak=>(by rw[eq_of_mem_replicate ak];decide),λx ak=>(by rw[eq_of_mem_replicate ak];intro l ao;cases ao),λx ak=>(by rw[eq_of_mem_replicate ak];intro l ao;cases ao)⟩,λi Z c=>?_,λZ c p an=>?_,λZ c J U=>?_⟩
 ·rw[bw,tl Z (mem_of_getElem? c)]
  rfl
 ·rw[tl Z c]at an
  cases an
 ·rw[tl Z c]at J
  cases J
theorem PS(w:Nat):hb w wD [] [] (replicate 6 (bU.zero:aU)):=
 ⟨pB,λk=>by rw[show(wD.2.1 (k-12))=[] from rfl,ite_self];first|done|(cases k<;>rfl),λk=>by rw[show(wD.2.2 (k-12))=[] from rfl,ite_self];first|done|(cases k<;>rfl),λZ a=>by rw[tl Z a],λZ a h=>by rw[tl Z a]at h;cases h⟩
theorem yQ{w:Nat}{a:bR}(b:∀i,i<a.length->1<=a.getD i 0/\a.getD i 0<=6):∀k,k<=a.length->(ei w a k).1.length=6/\c1 (ei w a k).1=2 * w * k
 |0,_=>⟨rfl,rfl⟩
 |k+1,ab=>by
  obtain⟨J,U⟩:=yQ b k (by omega) (w:=w);have aA:=b k (by omega);obtain⟨ah,d⟩:=wE (y:=(a.getD k 0-1).toNat) (s:=ei w a k) (by omega) w;obtain⟨c,e⟩:=Em (y:=(a.getD k 0-1).toNat) (s:=h4 (a.getD k 0-1).toNat w (ei w a k)) (by omega) w;refine⟨?_,?_⟩
  ·show(iA _ w w _).1.length=6
   rw[c,ah,J]
  ·show c1 (iA _ w w _).1=_
   rw[e,d,U,Nat.mul_add];omega
structure ZF(rs:bR)(k:Nat)(ys:b2):Prop where
 pl:∀Y∈ys,Y.1=true->Y.2.1=51
 no:∀Y∈ys,Y.1=false->Y.2.2.1=0
 key:∀(z:Nat) (Y:aU),ys[z]?=some Y->(Y.1=true↔((z:Int)+1)∈fZ rs k)
theorem PT(aR:5000<N)(dM:hB N=some cw){w:Nat}(hw:w<=8)(S:1<=w){a:bR}(o:∀i,i<a.length->1<=a.getD i 0/\a.getD i 0<=6)(P:a.length<=8):∀k,k<=a.length ->
  dz N cw (lC (w:Int) a k) (fm wD.1 (replicate 6 (bU.zero:aU)) 0 [] []) λst=>∃f g ys,st=fm (ei w a k).1 ys 0 f g/\hb w (ei w a k) f g ys/\ZF a k ys
 |0,_=>⟨[],[],_,rfl,PS w,λZ b h=>(by rw[tl Z b]at h;cases h),λZ b _=>(by rw[tl Z b];first|done|rfl),λz Z b=>⟨λh=>(by rw[tl Z (mem_of_getElem? b)]at h;cases h),λh=>(by cases h)⟩⟩
 |k+1,ab=>by
  have M:=PT aR dM hw S o P k (by omega);have ai:=o k (by omega);obtain⟨y,af⟩:∃y:Nat,y=(a.getD k 0-1).toNat:=⟨_,rfl⟩
  have aA:y<6:=by omega
  have u:a.getD k 0=(y:Int)+1:=by omega
  obtain⟨aj,ao⟩:=yQ o k (by omega) (w:=w);have ak:2 * w * k<=2 * 8 * 7:=mul_le_mul (by omega) (by omega);show dz N cw (((lC (w:Int) a k++(if (fZ a k).elem (a.getD k 0)then [] else [(1,0,(0,0),a.getD k 0,0)]))++nw (a.getD k 0) (w:Int).toNat)++qs (w:Int) (a.getD k 0) (w:Int).toNat) _ _;have O:ei w a (k+1)=iA y w w (h4 y w (ei w a k)):=by
   rw[af]
   rfl
  rw[O,u,toNat_natCast,append_assoc,append_assoc];refine dz.append ?_ M;rintro st ⟨f,g,ys,rfl,c,cA⟩;have al:=c.gy.jy;obtain⟨Y,bt⟩:∃Y,ys[y]?=some Y:=⟨_,getElem?_eq_getElem (by omega)⟩
  have v:=mem_of_getElem? bt;have B:=cA.key y Y bt
  -- the carrier is in
  have A:∀(l:b2) (m:aU),hb w (ei w a k) f g l->l[y]?=some m->m.1=true->(m.2.1=51\/m.2.1=-13)->(∀z,z≠y->l[z]?=ys[z]?)->dz N cw (nw ((y:Int)+1) w++qs (w:Int) ((y:Int)+1) w) (fm (ei w a k).1 l 0 f g) λst=>∃f g ys,st=fm (iA y w w (h4 y w (ei w a k))).1 ys 0 f g/\hb w (iA y w w (h4 y w (ei w a k))) f g ys/\ZF a (k+1) ys:=by
   intro l m H U W E X;obtain⟨ag,an⟩:=wE (y:=y) (s:=ei w a k) (by omega) w;refine dz.append ?_ (hb.Ze aR dM hw aA H U W (by omega) E w (Nat.le_refl _));rintro st ⟨Q,am,ah,rfl,D,T,ae,ac,V⟩;have G:w≠0:=by omega
   refine dz.mono ?_ (hb.Zf aR dM hw aA D T ae (by omega) (ac.elim id (λh=>absurd h.1 G)) w (Nat.le_refl _));rintro st ⟨R,p,I,rfl,J,n,r,F,aa⟩;have sc:∀z,z≠y->p[z]?=ys[z]?:=λz bw=>(aa z bw).trans ((V z bw).trans (X z bw))
   have t:∀Z∈p,Z=I\/∃z,z≠y/\ys[z]?=some Z:=λZ b=>by
    obtain⟨z,bw,rfl⟩:=List.mem_iff_getElem.1 b
    by_cases j:z=y
    ·subst j
     rw[getElem?_eq_getElem bw]at n;cases n;exact inl rfl
    ·exact inr ⟨z,j,by rw[<- sc z j,getElem?_eq_getElem bw]⟩
   refine⟨Q,R,p,rfl,J,λZ b d=>?_,λZ b d=>?_,λz Z b=>?_⟩
   ·rcases t Z b with rfl|⟨z,_,bw⟩
    ·rw[F,sub_self]
     rfl
    ·exact cA.pl Z (mem_of_getElem? bw) d
   ·rcases t Z b with rfl|⟨z,_,bw⟩
    ·rw[r]at d
     cases d
    ·exact cA.no Z (mem_of_getElem? bw) d
   ·have ad:∀q,q∈fZ a (k+1)↔q∈fZ a k\/q=(y:Int)+1:=λq=>by
     rw[show fZ a (k+1)=(if (fZ a k).elem (a.getD k 0)=true then fZ a k else fZ a k++[a.getD k 0])from rfl,u]
     split
     ·rename_i he
      rw[elem_eq_mem,decide_eq_true_eq]at he;exact⟨inl,λh=>h.elim id (λh=>h ▸ he)⟩
     ·rw[List.mem_append,List.mem_singleton]
    rw[ad]
    by_cases j:z=y
    ·subst j
     rw[n]at b;cases b;exact⟨λ_=>inr rfl,λ_=>r⟩
    ·rw[sc z j]at b
     rw[cA.key z Z b];exact⟨inl,λh=>h.elim id (λh=>absurd h (by omega))⟩
  by_cases he:(fZ a k).elem ((y:Int)+1)=true
  ·rw[if_pos he,nil_append]
   rw[elem_eq_mem,decide_eq_true_eq]at he;have ca:=B.2 he;exact A ys Y c bt ca (inl (cA.pl Y v ca)) (λ_ _=>rfl)
  ·rw[if_neg he]
   rw[elem_eq_mem,decide_eq_true_eq]at he;have C:Y.1=false:=by
    cases aq:Y.1 with
    |false=>rfl
    |true=>exact absurd (B.1 aq) he
   have K:=cA.no Y v C;have L:=(List.getElem?_eq_some_iff.1 bt).1;refine dz.append ?_ (aos aR dM c.gy aA bt C rfl);rintro st rfl;refine A _ (true, -13,Y.2.2.1,true,[]) ⟨c.gy.enter bt,c.mJ,c.gk,λZ b=>?_,λZ b d=>?_⟩ (by rw[getElem?_set,if_pos rfl,if_pos L]) rfl (inr rfl) (λz bw=>by rw[getElem?_set,if_neg (λe=>bw e.symm)])
   ·rcases ix b with b|rfl
    ·exact c.nv Z b
    ·rfl
   ·rcases ix b with b|rfl
    ·exact c.ih Z b d
    ·show true=decide (Y.2.2.1=0)
     rw[decide_eq_true K]
def Jh(N:Nat)(b:lk):Option (dc×Nat×Int):=
  (AV b).bind λa=>
  some (a.1,a.2.1,a.2.2.2.2)
def apf(N:Nat):bA bD:=b0 N ba [.cK lT] [] ⟨.cE [.c (.iG c4),.c (.int .i64)],[],[]⟩ [alp] [] (.s (.r [.n 3,.w (.bX 1 lT)]) .d) [.tmp 2,.tmp 3] ([],0,0) (λd=>Jh N d.1) func6 ntmps6
def PW(N:Nat)(a:KX):Nat->(Int×Int×bR)->Option (Int×bR):=b4 λd2 eL=>
  cond (cond (decide (d2.1<(a.2.length:Int))) (decide (d2.1<8)) false) (ar ((a6 d2.1 a.2.length)&&((dk 1 (d2.2.2.length+[(IntKind.wrap .u8 (1+(tmod (a.2.getD d2.1.toNat 0) 3)))].length))&&(true))) <|
  ar ((bf (d2.1+1))&&(true)) <|
  eL ((d2.1+1),d2.2.1,(d2.2.2++[(IntKind.wrap .u8 (1+(tmod (a.2.getD d2.1.toNat 0) 3)))]))) (some (d2.2.1,d2.2.2))
def Ji(N:Nat)(a:KX):Option (lk):=
  ar ((bf (tmod a.1 8))&&((bf (1+(tmod a.1 8)))&&(true))) <|
  (PW N a N (0,(1+(tmod a.1 8)),([]:bR))).bind λb=>
  Option.bind (cond (decide ((b.2.length:Int)=0)) (some (b.1,[1])) (some (b.1,b.2))) λc=>
  some c
def apg(N:Nat):bA bD:=b0 N ba [.cK FD] [] ⟨.a (.cK lT),[],[]⟩ [] [] (.s (.r [.n 2,.w (.bX 1 FD)]) (.s .d (.s (.s (.r [.n 1,.w (.rG 3 1 6 5 (.int .u8))]) (.b (.eB 0 ⟨[(2,.a (.c (.raw (.ptr 2 0)))),(3,.a (.c (.raw (.ptr 3 0)))),(4,.a (.c (.int .i64)))],[(3,.cells 26 [.int .i64,.raw (.ax 6)]),(6,.row 5 (.int .u8))],[1],[2]⟩ ⟨[(2,.a (.c (.raw (.ptr 2 0)))),(3,.a (.c (.raw (.ptr 3 0))))],[(3,.cells 26 [.int .i64,.raw (.ax 6)]),(6,.row 5 (.int .u8))],[],[2]⟩ (.s .d (.s (.b (.o [2,3,4,5,6,7,8,9,1000010,1000012] [.t 0 0,.t 1 3,.t 2 0,.t 3 1,.t 4 0,.t 5 0,.t 6 1,.t 7 0,.t 8 0,.k 9,.s 10,.t 11 0,.s 12] [])) .d))))) (.j ⟨[(2,.a (.c (.raw (.ptr 2 0)))),(3,.a (.c (.raw (.ptr 3 0))))],[(3,.cells 26 [.int .i64,.raw (.ax 38)]),(38,.row 5 (.int .u8))],[],[2]⟩ (.s .d (.c .d (.t [.t (.cZ 6 38)]))) (.s .d (.t [.da 38])))))) [.cell 2 26] lT.zero (λd=>Ji N d.1) func5 ntmps5
theorem ZI{s:iz}(aA:y<s.1.length):∀i,(∀j,(h4 y i s).2.1 j=if j<i then [((y:Int)+1,((s.1.getD y []).length:Int)+(j:Int))] else s.2.1 j)/\(h4 y i s).2.2=s.2.2/\((h4 y i s).1.getD y []).length=(s.1.getD y []).length+i
 |0=>⟨λj=>by rw[if_neg (Nat.not_lt_zero j)];rfl,rfl,rfl⟩
 |i+1=>by
  obtain⟨J,U,ah⟩:=ZI aA i;obtain⟨c,_⟩:=wE aA i;refine⟨λj=>?_,U,?_⟩
  ·show kE (h4 y i s).2.1 i [iP (h4 y i s).1 y] j=_
   unfold kE iP;rw[ah,J]
   by_cases a:j=i
   ·rw[if_pos a,if_pos (by omega),a,Int.natCast_add]
   ·rw[if_neg a]
    by_cases b:j<i
    ·rw[if_pos b,if_pos (by omega)]
    ·rw[if_neg b,if_neg (by omega)]
  ·show((eS (h4 y i s).1 y _).getD y []).length=_
   rw[s8 (by omega),if_pos rfl,length_append,ah]
   rfl
theorem ZJ{w:Nat}{s:iz}(aA:y<s.1.length):∀i,i<=w->(iA y w i s).2.1=s.2.1/\(∀j,(iA y w i s).2.2 j=if w-i<=j/\j<w then [((y:Int)+1,((s.1.getD y []).length:Int)+((w-1-j:Nat):Int))] else s.2.2 j)/\((iA y w i s).1.getD y []).length=(s.1.getD y []).length+i
 |0,_=>⟨rfl,λj=>by rw[if_neg (by omega)];rfl,rfl⟩
 |i+1,hi=>by
  obtain⟨J,U,ah⟩:=ZJ aA (w:=w) i (by omega);obtain⟨c,_⟩:=Em aA (w:=w) i;refine⟨J,λj=>?_,?_⟩
  ·show kE (iA y w i s).2.2 (w-1-i) [iP (iA y w i s).1 y] j=_
   unfold kE iP;rw[ah,U]
   by_cases a:j=w-1-i
   ·rw[if_pos a,if_pos (by omega),a,Int.natCast_add,show w-1-(w-1-i)=i by omega]
   ·rw[if_neg a]
    by_cases b:w-i<=j/\j<w
    ·rw[if_pos b,if_pos (by omega)]
    ·rw[if_neg b,if_neg (by omega)]
  ·show((eS (iA y w i s).1 y _).getD y []).length=_
   rw[s8 (by omega),if_pos rfl,length_append,ah]
   rfl
theorem PX{a:bR}(b:∀i,i<a.length->1<=a.getD i 0/\a.getD i 0<=6){k:Nat}(ab:k<a.length)(aA:y=(a.getD k 0-1).toNat){M:Nat}(d:M=((ei w a (k+1)).1.getD y []).length):2 * w<=M/\∀i,i<w->(ei w a (k+1)).2.1 i=[((y:Int)+1,(M:Int)-2 * (w:Int)+(i:Int))]/\(ei w a (k+1)).2.2 i=[((y:Int)+1,(M:Int)-1-(i:Int))]:=by
 have g:=b k ab;obtain⟨bj,_⟩:=yQ b k (by omega) (w:=w);have f:ei w a (k+1)=iA y w w (h4 y w (ei w a k)):=by
  rw[aA]
  rfl
 obtain⟨J,U,ah⟩:=ZI (y:=y) (s:=ei w a k) (by omega) w;obtain⟨h,_⟩:=wE (y:=y) (s:=ei w a k) (by omega) w;obtain⟨c,e,j⟩:=ZJ (y:=y) (s:=h4 y w (ei w a k)) (by omega) w (Nat.le_refl _);rw[f]at d ⊢;refine⟨by omega,λi hi=>⟨?_,?_⟩⟩
 ·rw[c,J,if_pos hi,show((M:Int)-2 * (w:Int)+(i:Int))=(((ei w a k).1.getD y []).length:Int)+(i:Int) by omega]
 ·rw[e,if_pos ⟨by omega,hi⟩,ah,show((M:Int)-1-(i:Int))=((((ei w a k).1.getD y []).length+w:Nat):Int)+((w-1-i:Nat):Int) by omega]
end
def Et(n:Int):Option (List (Int×Int)):=ar (decide (0<=n)&&decide (n<=1000000))<|some []
theorem aph(n:Int)(r:List (Int×Int))(d:Et n=some r):AC bD 179 [.c (.val (.slice none 0 0)),.c (.val (.int .i64 n))] [] (λsv h=>sv=.c (.ax 5)/\h=[(5,.row 58 (.pair (.int .u8) (.int .i64)) r none)]):=by
 obtain⟨L,d⟩:=e7 d;simp only[Bool.and_eq_true,decide_eq_true_eq]at L;obtain rfl:=Option.some.inj d;obtain⟨m,rfl⟩:∃m:Nat,n=(m:Int):=⟨n.toNat,by omega⟩
 intro B ai env vs H W O bl y i;have C:H=[]:=y;subst C;obtain⟨v,N,rfl,rfl,P,w,rfl,rfl,K⟩:=bl;have s:w=[]:=K;subst s;have fin:∀(A:Option Addr) (k:Nat) (w':World),cV (ga W []) W w'->eY w' (λj=>ga W [] j\/B j) 58 2 A k 0 [] ->
   tz bD env B [] W (λsv h=>sv=.c (.ax 5)/\h=[(5,.row 58 (.pair (.int .u8) (.int .i64)) [] none)]) (.slice A 0 k) w':=λA k w' o q=>by
  let g:Nat->Loc:=λj=>match beq j 5 with
   |true=>.row A k 0
   |false=>env j
  have p:∀id l,(lJ<=id/\∃b,l=.blk b)\/h1<=id->env id=l->g id=l:=λid l h he=>by
   have:beq id 5=false:=by
    cases ag:beq id 5 with
    |false=>rfl
    |true=>
     have:=Nat.eq_of_beq_eq_true ag
     subst this
     rcases h with⟨h,_⟩|h
     ·exact absurd h (by decide)
     ·exact absurd h (by decide)
   show(match beq id 5 with|true=>_|false=>env id)=l;rw[this];exact he
  refine⟨g,B,w',[bm.row A k 58 2 0 []],.c (.ax 5),_,⟨rfl,rfl⟩,λ_ h=>h,λ_ h=>.inl h,o,⟨A,k,_,rfl,rfl⟩,⟨_,_,rfl,⟨A,k,_,rfl,rfl,rfl,λ_ h=>by cases h⟩,rfl⟩,?_,p⟩;refine⟨cV.refl _ _,λj u=>Nat.lt_of_lt_of_le (u.elim (λh=>h.1) (i.base j)) o.size,λc aa=>?_,List.pairwise_singleton _ _⟩;cases List.mem_singleton.1 aa;exact q
 by_cases D:m=0
 ·subst D
  refine Calls.mono (Any8.slices_Grow_room Qg none 0 0 0 W (Nat.le_refl _) (by decide) (by decide) (by decide)) ?_;rintro e w' ⟨rfl,rfl⟩;exact⟨_,rfl,fin none 0 _ (cV.refl _ _) ⟨rfl,.inl ⟨rfl,rfl,rfl⟩⟩⟩
 ·obtain⟨f,M,z,E,G⟩:=bI.info (cd.get (t:=58) ba rfl).ti
  have J:f.size=2:=z;have U:f.bytes=16:=E;have I:=grownCap_ge W (0+m) 0 58;have F:grownCap W (0+m) 0 58<=maxLen:=grownCap_le_maxLen W (0+m) 0 58 (by simp only[maxLen];omega);have bw:Array.size (Value.cells (.agg #[.int .u8 0,.int .i64 0]))=2:=by kernel_rfl
  refine Calls.mono (Any8.slices_Grow_grow Qg f _ M G (by omega) none 0 0 m [] W (Nat.le_refl _) (by omega) (by rw[U];omega) (by omega) (by rw[Nat.zero_mul];rfl) (λ_=>rfl) (λa bl=>by cases bl)) ?_;rintro e w' ⟨rfl,rfl⟩;refine⟨_,rfl,fin _ _ _ ⟨rfl,rfl,rfl,by simp,λk ab=>Below.heap_alloc W.drew _ k (ab.1)⟩ ⟨rfl,.inr ⟨W.heap.size,_,(0,0),rfl,λh=>?_,heap_alloc_new W.drew _,.inl rfl,zero_le _,F,?_,rfl⟩⟩⟩
  ·exact absurd (h.elim (λh=>h.1) (i.base _)) (Nat.lt_irrefl _)
  ·simp only[Array.size_append,size_zeroCells]
   erw [bw]
   simp only[Nat.zero_add]at I;have he:Qf.t 25=58:=rfl
   simp[he]
   omega
section
def api:bA bD where
 f:=179
 fn:=f179
 A:=[.c (.raw (.val (.slice none 0 0))),.c (.int .i64)]
 ec:=[]
 aT:=List (Int×Int)
 kW:=[]
 m:=λd=>Et d.1
 out:=λ_ r=>(.a (.c (.ax 5)),[(5,.row 58 (.pair (.int .u8) (.int .i64)) r none)])
 aF:=func179
 bc:=rfl
 ag:=rfl
 ok:=λd r he=>aph d.1 r he
def PY(N:Nat)(a:bF):Nat->(Int×Int)->Option (Int):=b4 λd1 cU=>
  cond (decide (d1.2<(a.length:Int))) (ar ((a6 d1.2 a.length)&&(true)) <|
  ar ((bf (d1.1+((a.getD d1.2.toNat []).length:Int)))&&(true)) <|
  cond (decide ((d1.1+((a.getD d1.2.toNat []).length:Int))<0)) (none) (ar ((bf (d1.2+1))&&(true)) <|
  cU ((d1.1+((a.getD d1.2.toNat []).length:Int)),(d1.2+1)))) (some d1.1)
def PZ(N:Nat)(b:bF):Nat->(Int×bJ)->Option (bJ):=b4 λa gJ=>
  cond (decide (a.1<(b.length:Int))) (ar ((a6 a.1 b.length)&&(true)) <|
  ar ((dk 16 (a.2.length+(b.getD a.1.toNat []).length))&&(true)) <|
  ar ((bf (a.1+1))&&(true)) <|
  gJ ((a.1+1),(a.2++(b.getD a.1.toNat [])))) (some a.2)
def Jj(N:Nat)(a:bF):Option (bJ):=
  (PY N a N (0,0)).bind λc=>
  (Et c).bind λb=>
  (PZ N a N (0,b)).bind λd=>
  some d
def apj(N:Nat):bA bD:=b0 N ba [.c (.bz (.ax aJ))] [] ⟨.a (.c (.bz aJ)),[],[]⟩ [api] [] (.s .d (.s .d (.s (.s .d (.b (.eB 0 ⟨[(3,.a (.c (.int .i64))),(11,.a (.c (.int .i64)))],[],[0,9,10],[]⟩ ⟨[(3,.a (.c (.int .i64)))],[],[0],[]⟩ .d))) (.s (.r [.n 1,.c [(5,24)]]) (.s (.s .d (.b (.eB 2 ⟨[(6,.a (.c (.raw (.ax 24)))),(27,.a (.c (.int .i64)))],[(24,.row 58 aJ)],[25,26],[]⟩ ⟨[(6,.a (.c (.raw (.ax 24))))],[(24,.row 58 aJ)],[],[]⟩ .d))) (.s .d (.t [.da 24]))))))) [.tmp 2] [] (λd=>Jj N d.1) func119 ntmps119
end
section
open Go.Shelf Go.RowKit Go.Lib
set_option maxHeartbeats 2000000 in
theorem apk(a:Addr)(c:Nat)(w:World):Calls prog 117 #[.slice (some a) 0 c] w λe w'=>∃b,e=.returned b/\w'.ownsRow w.heap.size 97 4 b 0 []/\b≠.slice none 0 0/\Below w.heap.size w w':=by
 have L:=Qh;have key:∀ {P:Program} {aT:Ren} (L:SlLaysE0.n41 P aT) (d:TypeInfo) (z:Value) (hi:P.info? (aT.t 23)=some d) (eP:d.zero=some z) (hF:d.size=4) (gn:d.bytes=24) (h:z.cells.size=4) (z23:∀w,(Go.sizeOf (aT.t 23)).run P w=.ok 4 w),Calls P (aT.f 41) #[.slice (some a) 0 c] w λe w'=>∃b,e=.returned b/\w'.ownsRow w.heap.size (aT.t 23) 4 b 0 []/\b≠.slice none 0 0/\Below w.heap.size w w':=by
  intro P aT L d z hi eP hF gn h z23;have mixed:=L.mixed;have B:=L.t4;have v:=L.a4;have D:=L.z4;have C:=L.v4;have t22:=L.t22;have a22:=L.a22;have z22:=L.z22;have v22:=L.v22;have y:∀(w:World) (a:Option Addr) (n c f c':Nat),(binOp .eql (aT.t 22) (.slice a n c) (.slice none f c')).run P w=.ok (.bool a.isNone) w:=λw a n c f c'=>Lib.run_eql_slice_nil w _ _ a n c f c' L.t22
  have A:∀w,Sem.run P (underlying (aT.t 22)) w=.ok (TypeDesc.slice (aT.t 23)) w:=run_underlying t22;obtain⟨_,_,m⟩:=L.f41
  go_enter m,SlBodyN.n41_ntmps aT
  go_wp2_with (at_builtin;refine wpList_append_own _ rfl _ _ (aT.t 22) rfl w.heap.size (aT.t 23) d z 4 24 t22 hi eP hF gn h (by decide) _ _ _ rfl (World.ownsRow_made w #[] 0 (Nat.le_refl _) (zero_le _) (by simp)) a 0 c [] rfl (by simp) (by intro j u l;simp at l) (by intro u hu;cases hu) (by unfold maxLen;omega) (by omega) (by simp) ?_)
  intro b b9 o i g
  go_wp2
  go_ret
  refine⟨b,rfl,by simpa using o,?_,?_⟩
  ·first|exact g|(intro e;exact absurd (g.1 e).1 (by simp))
  ·exact((Below.refl _ w).alloc (Nat.le_refl _) _).grown i (by simp) (by intro k ab;simp[Value.ownBlock]at ab;omega)
 obtain⟨d,s,p,q,r⟩:=bI.info (cd.get (t:=97) ba rfl).ti;exact key L d _ s r p q (by kernel_rfl) sizeOf97
def P0(N:Nat)(a:dd):Option (dd):=
  ar ((decide (0<a.length))&&(true)) <|
  ar ((dk 24 (([]:dd).length+a.length))&&(true)) <|
  some (([]:dd)++a)
def apm(N:Nat):bA bD:=b0 N ba [.c (.bz c3)] [] ⟨.a (.c (.bz c3)),[],[]⟩ [] [] (.s (.r [.n 1,.w (.nil 2 2 97 c3)]) (.s .d (.s .d (.t [.da 5])))) [.tmp 2] [] (λd=>P0 N d.1) func117 ntmps117
def yR(l:dd):Option dd:=ar (decide (l.length<=1000000)) (some l)
theorem apn(l:dd)(c0:Option Nat)(r:dd)(h:yR l=some r):AC bD 117 [.c (.bz c3 l c0)] [] (λsv h=>sv=.c (.bz c3 r none)/\h=[]):=by
 obtain⟨o,s⟩:=e7 h;rw[decide_eq_true_eq]at o;obtain rfl:=Option.some.inj s
 by_cases ao:0<l.length
 ·have y:P0 6000 l=some l:=by
   unfold P0
   apply T.eq
   simp only[aO,length_nil,nil_append]
   and_intros<;>first|omega|(simp only[dU];omega)|exact this|trivial
  exact AC.N1 ((apm 6000).ok (l,()) l y)
 ·have C:l=[]:=eq_nil_of_length_eq_zero (by omega)
  subst C;intro B ai env vs H W D bl u q;have w:H=[]:=u;subst w;obtain⟨v,n,rfl,⟨A,k,xs,rfl,J,U,ah,F,E⟩,z⟩:=bl;have m:n=[]:=z;subst m;have fin:∀(A:Option Addr) (k:Nat) (w':World),k<=maxLen->cV (ga W []) W w' ->
    tz bD env B [] W (λsv h=>sv=.c (.bz c3 [] none)/\h=[]) (.slice A 0 k) w':=λA k w' ab d=>by
   refine⟨env,B,w',[],.c (.bz c3 [] none),[],⟨rfl,rfl⟩,λ_ h=>h,λ_ h=>.inl h,d,⟨A,k,[],rfl,zero_le _,ab,λ_ h=>(by cases h),rfl,⟨rfl,λh=>absurd h (by decide)⟩,λb p h=>absurd h (by decide)⟩,rfl,?_,λid l _ he=>he⟩;refine⟨cV.refl _ _,λj i=>Nat.lt_of_lt_of_le (i.elim (λh=>h.1) (q.base j)) d.size,λc aa=>(by cases aa),List.Pairwise.nil⟩
  cases A with
  |none=>
   refine Calls.mono (AnyE.slices_Clone_nil Qh 0 k W) ?_;rintro e w' ⟨rfl,rfl⟩;exact⟨_,rfl,fin none 0 _ (zero_le _) (cV.refl _ _)⟩
  |some a=>
   refine Calls.mono (apk a k W) ?_;rintro e w' ⟨G,rfl,⟨_,f⟩,t,ag⟩;have d:cV (ga W []) W w':=⟨ag.os,ag.tape,ag.output,ag.size,λj i=>ag.block j i.1⟩
   rcases f with⟨f,_⟩|⟨g,cap,cur,rfl,_,_,_,aa,_⟩
   ·exact absurd f t
   ·exact⟨_,rfl,fin _ _ _ aa d⟩
def apo:bA bD where
 f:=117
 fn:=f117
 A:=[.c (.bz c3)]
 ec:=[]
 aT:=dd
 kW:=[]
 m:=λd=>yR d.1
 out:=λ_ r=>(.c (.bz c3 r none),[])
 aF:=func117
 bc:=rfl
 ag:=rfl
 ok:=λd r he=>apn d.1 none r he
def apq:bA bD where
 f:=26
 fn:=f26
 A:=[.cK lT]
 ec:=[]
 aT:=Int
 kW:=0
 m:=λd=>yo d.1
 out:=λ_ r=>(.c (.val (.int .i64 r)),[])
 aF:=func26
 bc:=rfl
 ag:=rfl
 ok:=λd r he=>WZ d.1 none r he
def Bd(N:Nat)(a:dd):Option (dd×Nat):=
  ar (((decide (0<=(a.length:Int)))&&(decide ((a.length:Int)<=(a.length:Int)))&&(decide ((a.length:Int)<=(a.length:Int))))&&(true)) <|
  some ((a.take (a.length:Int).toNat),(a.length:Int).toNat)
def apr(N:Nat):bA bD:=b0 N ba [.c (.bz c3)] [] ⟨.a (.c (.iG c3)),[],[]⟩ [] [] (.d) [.tmp 2] ([],0) (λd=>Bd N d.1) func116 ntmps116
def kH(N:Nat)(a:Int)(i:dd)(f:Int)(g:bJ)(b:List (Bool×cq))(c:b2)(k:bF)(l:bF):Option (ad×Int×(List (Bool×cq))×b2):=
  ar ((a6 (IntKind.wrap .u8 (a-1)) c.length)&&((decide ((IntKind.wrap .u8 (a-1)).toNat<c.length))&&(true))) <|
  (uw N (c.getD (IntKind.wrap .u8 (a-1)).toNat bU.zero) (c.getD (IntKind.wrap .u8 (a-1)).toNat bU.zero).2.1 i).bind λe=>
  cond (!(decide (e.2=0))) (some ((0,0),e.2,b,c)) ((rY N e.1).bind λd=>
  cond (!(decide (d.2.2=0))) (some ((0,0),d.2.2,b,c)) (ar ((a6 (IntKind.wrap .u8 (a-1)) c.length)&&(((decide ((IntKind.wrap .u8 (a-1)).toNat<c.length))&&(true))&&(true))) <|
  (yR d.2.1.2.2).bind λj=>
  (Bd N j).bind λh=>
  ar (((decide ((IntKind.wrap .u8 (a-1)).toNat<b.length))&&(b.getD (IntKind.wrap .u8 (a-1)).toNat (false,[])).1)) <|
  ar ((a6 (IntKind.wrap .u8 (a-1)) b.length)&&(true)) <|
  ar ((decide ((IntKind.wrap .u8 (a-1)).toNat=(IntKind.wrap .u8 (a-1)).toNat))&&((dk 56 ((b.getD (IntKind.wrap .u8 (a-1)).toNat (false,[])).2.length+[(f,(d.2.1.2.1,(g,h.1)))].length))&&((a6 (IntKind.wrap .u8 (a-1)) b.length)&&(((decide ((IntKind.wrap .u8 (a-1)).toNat=(IntKind.wrap .u8 (a-1)).toNat))&&(decide ((IntKind.wrap .u8 (a-1)).toNat<b.length)))&&(true))))) <|
  some ((a,d.2.1.1),0,(b.set (IntKind.wrap .u8 (a-1)).toNat (true,((b.getD (IntKind.wrap .u8 (a-1)).toNat (false,[])).2++[(f,(d.2.1.2.1,(g,h.1)))]))),(c.set (IntKind.wrap .u8 (a-1)).toNat d.1))))
def Jk(N:Nat)(a:Int)(k:dd)(h:Int)(i:bJ)(b:List (Bool×cq))(c:b2)(l:bF)(m:bF):Option (ad×Int×(List (Bool×cq))×b2):=
  ar ((a6 (IntKind.wrap .u8 (a-1)) c.length)&&((decide ((IntKind.wrap .u8 (a-1)).toNat<c.length))&&(true))) <|
  (uw N (c.getD (IntKind.wrap .u8 (a-1)).toNat bU.zero) (c.getD (IntKind.wrap .u8 (a-1)).toNat bU.zero).2.1 k).bind λf=>
  cond (!(decide (f.2=0))) (some ((0,0),f.2,b,c)) ((rY N f.1).bind λd=>
  cond (!(decide (d.2.2=0))) (some ((0,0),d.2.2,b,c)) (ar ((a6 (IntKind.wrap .u8 (a-1)) c.length)&&(((decide ((IntKind.wrap .u8 (a-1)).toNat<c.length))&&(true))&&(true))) <|
  (λ(j:_->Option _)=>
  fX ((yR d.2.1.2.2).bind λg=>
  hP ((Bd N g).bind λe=>
  j e)) ((yR d.2.1.2.2).bind λg=>
  (Bd N g).bind λe=>
  j e)) (λe=>
  ar (((decide ((IntKind.wrap .u8 (a-1)).toNat<b.length))&&(b.getD (IntKind.wrap .u8 (a-1)).toNat (false,[])).1)) <|
  ar ((a6 (IntKind.wrap .u8 (a-1)) b.length)&&(true)) <|
  hP (ar ((decide ((IntKind.wrap .u8 (a-1)).toNat=(IntKind.wrap .u8 (a-1)).toNat))&&((dk 56 ((b.getD (IntKind.wrap .u8 (a-1)).toNat (false,[])).2.length+[(h,(d.2.1.2.1,(i,e.1)))].length))&&((a6 (IntKind.wrap .u8 (a-1)) b.length)&&(((decide ((IntKind.wrap .u8 (a-1)).toNat=(IntKind.wrap .u8 (a-1)).toNat))&&(decide ((IntKind.wrap .u8 (a-1)).toNat<b.length)))&&(true))))) <|
  some ((a,d.2.1.1),0,(b.set (IntKind.wrap .u8 (a-1)).toNat (true,((b.getD (IntKind.wrap .u8 (a-1)).toNat (false,[])).2++[(h,(d.2.1.2.1,(i,e.1)))]))),(c.set (IntKind.wrap .u8 (a-1)).toNat d.1))))))
theorem aps:Jk=kH:=by
 unfold Jk kH
 first|(simp only[jO,lZ];done)|(funext;simp (disch:=(simp only[z8,k3,z7];first|done|first|rfl|(refine oy (λh=>?_) (λh=>?_);(focus (rw[h];first|done|(simp only[k3];first|done|first|rfl|(refine oy (λh=>?_) (λh=>?_);(focus (rw[h];first|done|(simp only[k3];first|done|first|rfl|(refine oy (λh=>?_) (λh=>?_);(focus (rw[h];first|done|(simp only[k3];first|done|rfl)));(focus (rw[h];first|done|simp only[ow,ox]))))));(focus (rw[h];first|done|simp only[ow,ox]))))));(focus (rw[h];first|done|simp only[ow,ox]))))) only[jO,Aa])
def P1(N:Nat):bA bD:=l4 N ba [.c (.raw (.ptr 1000000 0)),.c (.int .u8),.c (.bz c3),.c (.int .u8),.c (.bz aJ)] [x5,(2000001,.bS 90 93 bW),(2000000,.row 52 bU),(2000002,.row 42 (.ax aJ)),(2000003,.row 42 (.ax aJ))] ⟨.cE [.cK aJ,.c (.int .i64)],[x5,(2000001,.bS 90 93 bW),(2000000,.row 52 bU)],[2000002,2000003]⟩ [Nk N,Vr N,apo,apr N] [] (.s .d (.s .d (.s .d (.s .d (.s (.r [.n 10,.w (.bX 14 xg)]) (.s .d (.s (.o [4,5,6] [.t 0 0,.t 1 0,.t 2 0,.t 3 3,.t 4 0,.t 5 0,.t 6 3,.t 7 0,.s 8] []) (.s (.dm [] [] (.b [.t 0 0,.t 1 0,.t 2 1,.t 3 0,.t 4 0,.t 5 1] 6 9 [] [] none none (.b [] 7 9 [] [] none none (.f [.t 8 0,.s 9,.s 10]) (.f [.c 7 [],.t 8 0,.s 10])) (.f [.c 6 [],.c 7 [],.t 8 0,.s 10])) [(.bX 15 bW)] false) (.s (.dm [.t (.FW 2000001 1 76 .u8 1)] [4,5,6,7,8,9,10,11,12,13,14,15,16,1000018] (.b [.t 0 0,.t 1 0,.t 2 0,.t 3 3,.t 4 0,.t 5 0,.t 6 0,.t 7 0,.t 8 0,.t 9 3,.t 10 0,.t 11 0,.t 12 0,.t 14 1] 13 15 [] [] none none (.f [.k 15,.k 16,.t 17 0,.u 18 .st]) (.f [.f,.k 13,.k 16,.t 17 0,.u 18 .st])) [] false) (.s (.r [.n 6,.w (.t (.close 2000001 76))]) .d)))))))))) [.cell 10 58,.tmp 11] (aJ.zero,0,[],[]) (λd=>Jk N d.1 d.2.1 d.2.2.1 d.2.2.2.1 d.2.2.2.2.1 d.2.2.2.2.2.1 d.2.2.2.2.2.2.1 d.2.2.2.2.2.2.2.1) (λd=>kH N d.1 d.2.1 d.2.2.1 d.2.2.2.1 d.2.2.2.2.1 d.2.2.2.2.2.1 d.2.2.2.2.2.2.1 d.2.2.2.2.2.2.2.1) (λd=>(by rw[aps]:Jk N d.1 d.2.1 d.2.2.1 d.2.2.2.1 d.2.2.2.2.1 d.2.2.2.2.2.1 d.2.2.2.2.2.2.1 d.2.2.2.2.2.2.2.1=kH N d.1 d.2.1 d.2.2.1 d.2.2.2.1 d.2.2.2.2.1 d.2.2.2.2.2.1 d.2.2.2.2.2.2.1 d.2.2.2.2.2.2.2.1)) func72 ntmps72
def yS(N:Nat)(a:Int)(h:Int)(e:List (Bool×cq))(f:b2)(b:bF)(c:bF):Option (Int×(List (Bool×cq))×b2×bF×bF):=
  ar ((a6 a c.length)&&((decide (a.toNat<c.length))&&(true))) <|
  (uu N [(1,(c.getD a.toNat []))] 1).bind λg=>
  ar ((a6 a b.length)&&(true)) <|
  ar ((decide (a.toNat<b.length))&&(true)) <|
  (kH N h g 0 (b.getD a.toNat []) e f b c).bind λd=>
  ar ((a6 a b.length)&&(((decide (a.toNat<b.length))&&(true))&&(true))) <|
  some (d.2.1,d.2.2.1,d.2.2.2,(b.set a.toNat [d.1]),c)
def Jl(N:Nat)(a:Int)(h:Int)(e:List (Bool×cq))(f:b2)(b:bF)(d:bF):Option (Int×(List (Bool×cq))×b2×bF×bF):=
  ar ((a6 a d.length)&&((decide (a.toNat<d.length))&&(true))) <|
  (uu N [(1,(d.getD a.toNat []))] 1).bind λg=>
  ar ((a6 a b.length)&&(true)) <|
  (λ(i:_->Option _)=>
  fX (ar ((decide (a.toNat<b.length))&&(true)) <|
  hP ((kH N h g 0 (b.getD a.toNat []) e f b d).bind λc=>
  i c)) (ar ((decide (a.toNat<b.length))&&(true)) <|
  (kH N h g 0 (b.getD a.toNat []) e f b d).bind λc=>
  i c)) (λc=>
  ar ((a6 a b.length)&&(((decide (a.toNat<b.length))&&(true))&&(true))) <|
  some (c.2.1,c.2.2.1,c.2.2.2,(b.set a.toNat [c.1]),d))
theorem apt:Jl=yS:=by
 unfold Jl yS
 first|(simp only[jO,lZ];done)|(funext;simp (disch:=(simp only[z8,k3,z7];first|done|first|rfl|(refine oy (λh=>?_) (λh=>?_);(focus (rw[h];first|done|(simp only[k3];first|done|first|rfl|(refine oy (λh=>?_) (λh=>?_);(focus (rw[h];first|done|(simp only[k3];first|done|first|rfl|(refine oy (λh=>?_) (λh=>?_);(focus (rw[h];first|done|(simp only[k3];first|done|rfl)));(focus (rw[h];first|done|simp only[ow,ox]))))));(focus (rw[h];first|done|simp only[ow,ox]))))));(focus (rw[h];first|done|simp only[ow,ox]))))) only[jO,Aa])
def apu(N:Nat):bA bD:=l4 N ba [.c (.int .i64),.c (.raw (.ptr 1000000 0)),.c (.fu (.int .u8) 0)] [hF,gn,(2000001,.bS 90 93 bW),(2000000,.row 52 bU),(2000002,.row 42 (.ax aJ)),(2000003,.row 42 (.ax aJ))] ⟨.a (.c (.int .i64)),[hF,gn,(2000001,.bS 90 93 bW),(2000000,.row 52 bU),(2000002,.row 42 (.ax aJ)),(2000003,.row 42 (.ax aJ))],[]⟩ [Vi N,P1 N] [] (.s .d (.s (.r [.n 9,.w (.da 16)]) (.s (.dm [] [1,2,3,4,5,6,7,8,9,14,1000010,1000015] (.b [.t 0 3,.t 1 1,.t 2 0,.t 3 3,.t 4 0,.t 5 0,.t 6 3,.t 7 0,.t 8 0] 9 14 [] [] none none (.b [] 10 14 [(1000000,1000001),(2000001,2000001),(2000000,2000000),(2000002,2000002),(2000003,2000003)] [] none none (.f [.m 11,.t 12 0,.t 13 0,.s 14,.s 15,.t 16 0]) (.f [.c 10 [(1000000,1000001),(2000001,2000001),(2000000,2000000),(2000002,2000002),(2000003,2000003)],.m 11,.t 12 0,.t 13 0,.s 15,.t 16 0])) (.f [.f,.k 9,.c 10 [(1000000,1000001),(2000001,2000001),(2000000,2000000),(2000002,2000002),(2000003,2000003)],.m 11,.t 12 0,.t 13 0,.s 15,.t 16 0])) [(.bX 6 aJ)] false) (.s (.o [4,5,6,1000008] [.t 0 3,.t 1 0,.t 2 0,.t 3 3,.t 4 0,.t 5 1,.k 6,.t 7 0,.z 38,.s 8] []) .d)))) [.tmp 4] (0,[],[],[],[]) (λd=>Jl N d.1 d.2.1 d.2.2.1 d.2.2.2.1 d.2.2.2.2.1 d.2.2.2.2.2.1) (λd=>yS N d.1 d.2.1 d.2.2.1 d.2.2.2.1 d.2.2.2.2.1 d.2.2.2.2.2.1) (λd=>(by rw[apt]:Jl N d.1 d.2.1 d.2.2.1 d.2.2.2.1 d.2.2.2.2.1 d.2.2.2.2.2.1=yS N d.1 d.2.1 d.2.2.1 d.2.2.2.1 d.2.2.2.2.1 d.2.2.2.2.2.1)) func70 ntmps70
def yT(N:Nat)(a:Int)(h:Int)(e:List (Bool×cq))(f:b2)(c:bF)(b:bF):Option (Int×(List (Bool×cq))×b2×bF×bF):=
  ar ((a6 a c.length)&&((decide (a.toNat<c.length))&&(true))) <|
  (uu N [(0,(c.getD a.toNat []))] 0).bind λg=>
  ar ((a6 a b.length)&&(true)) <|
  ar ((decide (a.toNat<b.length))&&(true)) <|
  (kH N h g 1 (b.getD a.toNat []) e f c b).bind λd=>
  ar ((a6 a b.length)&&(((decide (a.toNat<b.length))&&(true))&&(true))) <|
  some (d.2.1,d.2.2.1,d.2.2.2,c,(b.set a.toNat [d.1]))
def Jm(N:Nat)(a:Int)(h:Int)(e:List (Bool×cq))(f:b2)(d:bF)(b:bF):Option (Int×(List (Bool×cq))×b2×bF×bF):=
  ar ((a6 a d.length)&&((decide (a.toNat<d.length))&&(true))) <|
  (uu N [(0,(d.getD a.toNat []))] 0).bind λg=>
  ar ((a6 a b.length)&&(true)) <|
  (λ(i:_->Option _)=>
  fX (ar ((decide (a.toNat<b.length))&&(true)) <|
  hP ((kH N h g 1 (b.getD a.toNat []) e f d b).bind λc=>
  i c)) (ar ((decide (a.toNat<b.length))&&(true)) <|
  (kH N h g 1 (b.getD a.toNat []) e f d b).bind λc=>
  i c)) (λc=>
  ar ((a6 a b.length)&&(((decide (a.toNat<b.length))&&(true))&&(true))) <|
  some (c.2.1,c.2.2.1,c.2.2.2,d,(b.set a.toNat [c.1])))
theorem apv:Jm=yT:=by
 unfold Jm yT
 first|(simp only[jO,lZ];done)|(funext;simp (disch:=(simp only[z8,k3,z7];first|done|first|rfl|(refine oy (λh=>?_) (λh=>?_);(focus (rw[h];first|done|(simp only[k3];first|done|first|rfl|(refine oy (λh=>?_) (λh=>?_);(focus (rw[h];first|done|(simp only[k3];first|done|first|rfl|(refine oy (λh=>?_) (λh=>?_);(focus (rw[h];first|done|(simp only[k3];first|done|rfl)));(focus (rw[h];first|done|simp only[ow,ox]))))));(focus (rw[h];first|done|simp only[ow,ox]))))));(focus (rw[h];first|done|simp only[ow,ox]))))) only[jO,Aa])
def apw(N:Nat):bA bD:=l4 N ba [.c (.int .i64),.c (.raw (.ptr 1000000 0)),.c (.fu (.int .u8) 0)] [hF,gn,(2000001,.bS 90 93 bW),(2000000,.row 52 bU),(2000002,.row 42 (.ax aJ)),(2000003,.row 42 (.ax aJ))] ⟨.a (.c (.int .i64)),[hF,gn,(2000001,.bS 90 93 bW),(2000000,.row 52 bU),(2000002,.row 42 (.ax aJ)),(2000003,.row 42 (.ax aJ))],[]⟩ [Vi N,P1 N] [] (.s .d (.s (.r [.n 9,.w (.da 16)]) (.s (.dm [] [1,2,3,4,5,6,7,8,9,14,1000010,1000015] (.b [.t 0 3,.t 1 1,.t 2 0,.t 3 3,.t 4 0,.t 5 0,.t 6 3,.t 7 0,.t 8 0] 9 14 [] [] none none (.b [] 10 14 [(1000000,1000001),(2000001,2000001),(2000000,2000000),(2000002,2000002),(2000003,2000003)] [] none none (.f [.m 11,.t 12 0,.t 13 0,.s 14,.s 15,.t 16 0]) (.f [.c 10 [(1000000,1000001),(2000001,2000001),(2000000,2000000),(2000002,2000002),(2000003,2000003)],.m 11,.t 12 0,.t 13 0,.s 15,.t 16 0])) (.f [.f,.k 9,.c 10 [(1000000,1000001),(2000001,2000001),(2000000,2000000),(2000002,2000002),(2000003,2000003)],.m 11,.t 12 0,.t 13 0,.s 15,.t 16 0])) [(.bX 6 aJ)] false) (.s (.o [4,5,6,1000008] [.t 0 3,.t 1 0,.t 2 0,.t 3 3,.t 4 0,.t 5 1,.k 6,.t 7 0,.z 38,.s 8] []) .d)))) [.tmp 4] (0,[],[],[],[]) (λd=>Jm N d.1 d.2.1 d.2.2.1 d.2.2.2.1 d.2.2.2.2.1 d.2.2.2.2.2.1) (λd=>yT N d.1 d.2.1 d.2.2.1 d.2.2.2.1 d.2.2.2.2.1 d.2.2.2.2.2.1) (λd=>(by rw[apv]:Jm N d.1 d.2.1 d.2.2.1 d.2.2.2.1 d.2.2.2.2.1 d.2.2.2.2.2.1=yT N d.1 d.2.1 d.2.2.1 d.2.2.2.1 d.2.2.2.2.1 d.2.2.2.2.2.1)) func73 ntmps73
def qv(N:Nat)(b:bF):Option (bJ×Nat):=
  (Jj N b).bind λc=>
  (Ny N c).bind λa=>
  some (a.1,a.2)
def apx(N:Nat):bA bD:=b0 N ba [.c (.bz (.ax aJ))] [] ⟨.a (.c (.iG aJ)),[],[]⟩ [apj N,aiD N] [] (.d) [.tmp 2] ([],0) (λd=>qv N d.1) func75 ntmps75
def yU(N:Nat)(a:Int)(h:Int)(e:List (Bool×cq))(f:b2)(b:bF)(c:bF)(i:dd)(j:bJ):Option (Int×(List (Bool×cq))×b2×bF×bF×dd×bJ):=
  ar ((a6 a c.length)&&((a6 a b.length)&&(true))) <|
  ar ((decide (a.toNat<c.length))&&(true)) <|
  ar ((decide (a.toNat<b.length))&&(true)) <|
  (qv N [j,(c.getD a.toNat []),(b.getD a.toNat [])]).bind λg=>
  (kH N h i 0 g.1 e f b c).bind λd=>
  some (d.2.1,d.2.2.1,d.2.2.2,b,c,[(d.1,(true,0))],[d.1])
def Jn(N:Nat)(b:Int)(h:Int)(f:List (Bool×cq))(g:b2)(c:bF)(d:bF)(i:dd)(j:bJ):Option (Int×(List (Bool×cq))×b2×bF×bF×dd×bJ):=
  ar ((a6 b d.length)&&((a6 b c.length)&&(true))) <|
  (λ(r:_->Option _)=>
  fX (ar ((decide (b.toNat<d.length))&&(true)) <|
  (λ(m:_->Option _)=>
  fX (ar ((decide (b.toNat<c.length))&&(true)) <|
  (λ(l:_->Option _)=>
  fX ((λ(k:_->Option _)=>
  fX ((qv N [j,(d.getD b.toNat []),(c.getD b.toNat [])]).bind λe=>
  hP ((kH N h i 0 e.1 f g c d).bind λa=>
  k a)) ((qv N [j,(d.getD b.toNat []),(c.getD b.toNat [])]).bind λe=>
  (kH N h i 0 e.1 f g c d).bind λa=>
  k a)) (λa=>
  l a)) ((qv N [j,(d.getD b.toNat []),(c.getD b.toNat [])]).bind λe=>
  (kH N h i 0 e.1 f g c d).bind λa=>
  l a)) (λa=>
  m a)) (ar ((decide (b.toNat<c.length))&&(true)) <|
  (qv N [j,(d.getD b.toNat []),(c.getD b.toNat [])]).bind λe=>
  (kH N h i 0 e.1 f g c d).bind λa=>
  m a)) (λa=>
  r a)) ((λ(q:_->Option _)=>
  fX (ar ((decide (b.toNat<c.length))&&(true)) <|
  (λ(p:_->Option _)=>
  fX (ar ((decide (b.toNat<d.length))&&(true)) <|
  (λ(o:_->Option _)=>
  fX ((λ(n:_->Option _)=>
  fX ((qv N [j,(d.getD b.toNat []),(c.getD b.toNat [])]).bind λe=>
  hP ((kH N h i 0 e.1 f g c d).bind λa=>
  n a)) ((qv N [j,(d.getD b.toNat []),(c.getD b.toNat [])]).bind λe=>
  (kH N h i 0 e.1 f g c d).bind λa=>
  n a)) (λa=>
  o a)) ((qv N [j,(d.getD b.toNat []),(c.getD b.toNat [])]).bind λe=>
  (kH N h i 0 e.1 f g c d).bind λa=>
  o a)) (λa=>
  p a)) (ar ((decide (b.toNat<d.length))&&(true)) <|
  (qv N [j,(d.getD b.toNat []),(c.getD b.toNat [])]).bind λe=>
  (kH N h i 0 e.1 f g c d).bind λa=>
  p a)) (λa=>
  q a)) ((λ(kk28:Option _)=>
  fX (ar ((decide (b.toNat<d.length))&&((decide (b.toNat<c.length))&&(true))) <|
  kk28) (ar ((decide (b.toNat<c.length))&&((decide (b.toNat<d.length))&&(true))) <|
  kk28)) ((qv N [j,(d.getD b.toNat []),(c.getD b.toNat [])]).bind λe=>
  (kH N h i 0 e.1 f g c d).bind λa=>
  q a))) (λa=>
  r a))) (λa=>
  some (a.2.1,a.2.2.1,a.2.2.2,c,d,[(a.1,(true,0))],[a.1]))
theorem apy:Jn=yU:=by
 unfold Jn yU
 first|(simp only[jO,lZ];done)|(funext;simp (disch:=(simp only[z8,k3,z7];first|done|first|rfl|(refine oy (λh=>?_) (λh=>?_);(focus (rw[h];first|done|(simp only[k3];first|done|first|rfl|(refine oy (λh=>?_) (λh=>?_);(focus (rw[h];first|done|(simp only[k3];first|done|first|rfl|(refine oy (λh=>?_) (λh=>?_);(focus (rw[h];first|done|(simp only[k3];first|done|rfl)));(focus (rw[h];first|done|simp only[ow,ox]))))));(focus (rw[h];first|done|simp only[ow,ox]))))));(focus (rw[h];first|done|simp only[ow,ox]))))) only[jO,Aa])
def apz(N:Nat):bA bD:=l4 N ba [.c (.int .i64),.c (.raw (.ptr 1000000 0)),.c (.fu (.int .u8) 0),.c (.raw (.ptr 1000002 0)),.c (.raw (.ptr 1000003 0))] [hF,gn,(2000001,.bS 90 93 bW),(2000000,.row 52 bU),(2000002,.row 42 (.ax aJ)),(2000003,.row 42 (.ax aJ)),As,Au] ⟨.a (.c (.int .i64)),[hF,gn,(2000001,.bS 90 93 bW),(2000000,.row 52 bU),(2000002,.row 42 (.ax aJ)),(2000003,.row 42 (.ax aJ)),As,Au],[]⟩ [apx N,P1 N] [] (.s .d (.s (.dm [] [1,2,3,4,5,6,7,8,9,10,11,12,13,14,15,16,17,18,19,24,1000020,1000025] (.t [.t 0 3,.t 1 1,.t 2 3,.t 3 3,.t 4 3,.t 5 0,.t 6 0,.t 7 3,.t 8 0,.t 9 0,.t 11 3,.t 12 0,.t 13 0,.t 14 3,.t 15 0,.t 16 0] 10 17 24 [] [] [] none none none (.b [.f] 17 24 [] [] none none (.b [] 18 24 [] [] none none (.b [.z 28] 19 24 [] [] none none (.b [] 20 24 [(1000000,1000001),(2000001,2000001),(2000000,2000000),(2000002,2000002),(2000003,2000003)] [] none none (.f [.m 21,.t 22 0,.t 23 0,.s 24,.s 25,.t 26 0]) (.f [.c 20 [(1000000,1000001),(2000001,2000001),(2000000,2000000),(2000002,2000002),(2000003,2000003)],.m 21,.t 22 0,.t 23 0,.s 25,.t 26 0])) (.f [.c 19 [],.c 20 [(1000000,1000001),(2000001,2000001),(2000000,2000000),(2000002,2000002),(2000003,2000003)],.m 21,.t 22 0,.t 23 0,.s 25,.t 26 0])) (.f [.k 18,.z 28,.c 19 [],.c 20 [(1000000,1000001),(2000001,2000001),(2000000,2000000),(2000002,2000002),(2000003,2000003)],.m 21,.t 22 0,.t 23 0,.s 25,.t 26 0])) (.f [.f,.k 17,.k 18,.z 28,.c 19 [],.c 20 [(1000000,1000001),(2000001,2000001),(2000000,2000000),(2000002,2000002),(2000003,2000003)],.m 21,.t 22 0,.t 23 0,.s 25,.t 26 0])) (.b [.f] 10 24 [] [] none none (.b [] 18 24 [] [] none none (.b [.z 28] 19 24 [] [] none none (.b [] 20 24 [(1000000,1000001),(2000001,2000001),(2000000,2000000),(2000002,2000002),(2000003,2000003)] [] none none (.f [.m 21,.t 22 0,.t 23 0,.s 24,.s 25,.t 26 0]) (.f [.c 20 [(1000000,1000001),(2000001,2000001),(2000000,2000000),(2000002,2000002),(2000003,2000003)],.m 21,.t 22 0,.t 23 0,.s 25,.t 26 0])) (.f [.c 19 [],.c 20 [(1000000,1000001),(2000001,2000001),(2000000,2000000),(2000002,2000002),(2000003,2000003)],.m 21,.t 22 0,.t 23 0,.s 25,.t 26 0])) (.f [.k 18,.z 28,.c 19 [],.c 20 [(1000000,1000001),(2000001,2000001),(2000000,2000000),(2000002,2000002),(2000003,2000003)],.m 21,.t 22 0,.t 23 0,.s 25,.t 26 0])) (.f [.f,.k 10,.k 18,.z 28,.c 19 [],.c 20 [(1000000,1000001),(2000001,2000001),(2000000,2000000),(2000002,2000002),(2000003,2000003)],.m 21,.t 22 0,.t 23 0,.s 25,.t 26 0])) (.b [.f] 10 17 [] [] none none (.f [.f,.k 17,.k 18,.z 28,.c 19 [],.c 20 [(1000000,1000001),(2000001,2000001),(2000000,2000000),(2000002,2000002),(2000003,2000003)],.m 21,.t 22 0,.t 23 0,.s 25,.t 26 0]) (.f [.f,.k 10,.k 18,.z 28,.c 19 [],.c 20 [(1000000,1000001),(2000001,2000001),(2000000,2000000),(2000002,2000002),(2000003,2000003)],.m 21,.t 22 0,.t 23 0,.s 25,.t 26 0]))) [(.bX 7 aJ)] false) (.s (.r [.n 3,.w (.da 34)]) (.s (.r [.n 4,.w (.da 37)]) .d)))) [.tmp 6] (0,[],[],[],[],[],[]) (λd=>Jn N d.1 d.2.1 d.2.2.1 d.2.2.2.1 d.2.2.2.2.1 d.2.2.2.2.2.1 d.2.2.2.2.2.2.1 d.2.2.2.2.2.2.2.1) (λd=>yU N d.1 d.2.1 d.2.2.1 d.2.2.2.1 d.2.2.2.2.1 d.2.2.2.2.2.1 d.2.2.2.2.2.2.1 d.2.2.2.2.2.2.2.1) (λd=>(by rw[apy]:Jn N d.1 d.2.1 d.2.2.1 d.2.2.2.1 d.2.2.2.2.1 d.2.2.2.2.2.1 d.2.2.2.2.2.2.1 d.2.2.2.2.2.2.2.1=yU N d.1 d.2.1 d.2.2.1 d.2.2.2.1 d.2.2.2.2.1 d.2.2.2.2.2.1 d.2.2.2.2.2.2.1 d.2.2.2.2.2.2.2.1)) func74 ntmps74
def P2(N:Nat)(b:Int)(d:Int):Nat->(Int×Int×b2×(List (Bool×cq))×bF×bF)->Option ((b2×(List (Bool×cq))×bF×bF)⊕(Int×(List (Bool×cq))×b2×bF×bF)):=b4 λd1 cU=>
  cond (decide (d1.2.1<b)) (Option.bind (cond (decide (d=0)) (ar ((bf (b-1))&&((bf ((b-1)-d1.2.1))&&(true))) <|
  some (d1.1,((b-1)-d1.2.1))) (some (d1.1,d1.2.1))) λc=>
  (yS N c.2 c.1 d1.2.2.2.1 d1.2.2.1 d1.2.2.2.2.1 d1.2.2.2.2.2).bind λa=>
  cond (!(decide (a.1=0))) (some (.inr (a.1,a.2.1,a.2.2.1,a.2.2.2.1,a.2.2.2.2))) (ar ((bf (d1.2.1+1))&&(true)) <|
  cU (c.1,(d1.2.1+1),a.2.2.1,a.2.1,a.2.2.2.1,a.2.2.2.2))) (some (.inl (d1.2.2.1,d1.2.2.2.1,d1.2.2.2.2.1,d1.2.2.2.2.2)))
def Eu(N:Nat)(b:Int)(g:Int)(c:Int)(d:List (Bool×cq))(e:b2)(f:bF)(h:bF):Option (Int×(List (Bool×cq))×b2×bF×bF):=
  (P2 N b g N (c,0,e,d,f,h)).bind λ(a:(b2×(List (Bool×cq))×bF×bF)⊕(Int×(List (Bool×cq))×b2×bF×bF))=>
  sm a (λa=>
  some (0,a.2.1,a.1,a.2.2.1,a.2.2.2)) (λq=>some q)
def apA(N:Nat):bA bD:=b0 N ba [.c (.int .i64),.c (.int .u8),.c (.fn 70 [.id 1000000,.eC (.int .u8)])] [hF,gn,(2000001,.bS 90 93 bW),(2000000,.row 52 bU),(2000002,.row 42 (.ax aJ)),(2000003,.row 42 (.ax aJ))] ⟨.a (.c (.int .i64)),[hF,gn,(2000001,.bS 90 93 bW),(2000000,.row 52 bU),(2000002,.row 42 (.ax aJ)),(2000003,.row 42 (.ax aJ))],[]⟩ [apu N] [] (.s .d (.s (.s .d (.b (.ff 0 ⟨[(2,.a (.c (.fn 70 [.id 1000000,.eC (.int .u8)]))),(10,.a (.c (.int .i64)))],[hF,gn,(2000000,.row 52 bU),(2000001,.bS 90 93 bW),(2000002,.row 42 (.ax aJ)),(2000003,.row 42 (.ax aJ))],[0,1,9],[]⟩ ⟨[],[hF,gn,(2000000,.row 52 bU),(2000001,.bS 90 93 bW),(2000002,.row 42 (.ax aJ)),(2000003,.row 42 (.ax aJ))],[],[]⟩ (.s .d (.s .d (.s (.b (.s .d (.j ⟨[(2,.a (.c (.fn 70 [.id 1000000,.eC (.int .u8)]))),(7,.a (.c (.int .i64)))],[hF,gn],[0,1,9,10],[2000000,2000001,2000002,2000003]⟩ .d (.s (.r [.n 2,.c Vc]) .d)))) .d)))))) .d)) [.tmp 6] (0,[],[],[],[]) (λd=>Eu N d.1 d.2.1 d.2.2.1 d.2.2.2.1 d.2.2.2.2.1 d.2.2.2.2.2.1 d.2.2.2.2.2.2.1) func69 ntmps69
def P3(N:Nat)(b:Int)(d:Int):Nat->(Int×Int×b2×(List (Bool×cq))×bF×bF)->Option ((b2×(List (Bool×cq))×bF×bF)⊕(Int×(List (Bool×cq))×b2×bF×bF)):=b4 λd1 cU=>
  cond (decide (d1.2.1<b)) (Option.bind (cond (decide (d=0)) (ar ((bf (b-1))&&((bf ((b-1)-d1.2.1))&&(true))) <|
  some (d1.1,((b-1)-d1.2.1))) (some (d1.1,d1.2.1))) λc=>
  (yT N c.2 c.1 d1.2.2.2.1 d1.2.2.1 d1.2.2.2.2.1 d1.2.2.2.2.2).bind λa=>
  cond (!(decide (a.1=0))) (some (.inr (a.1,a.2.1,a.2.2.1,a.2.2.2.1,a.2.2.2.2))) (ar ((bf (d1.2.1+1))&&(true)) <|
  cU (c.1,(d1.2.1+1),a.2.2.1,a.2.1,a.2.2.2.1,a.2.2.2.2))) (some (.inl (d1.2.2.1,d1.2.2.2.1,d1.2.2.2.2.1,d1.2.2.2.2.2)))
def Ev(N:Nat)(b:Int)(g:Int)(c:Int)(d:List (Bool×cq))(e:b2)(f:bF)(h:bF):Option (Int×(List (Bool×cq))×b2×bF×bF):=
  (P3 N b g N (c,0,e,d,f,h)).bind λ(a:(b2×(List (Bool×cq))×bF×bF)⊕(Int×(List (Bool×cq))×b2×bF×bF))=>
  sm a (λa=>
  some (0,a.2.1,a.1,a.2.2.1,a.2.2.2)) (λq=>some q)
def apB(N:Nat):bA bD:=b0 N ba [.c (.int .i64),.c (.int .u8),.c (.fn 73 [.id 1000000,.eC (.int .u8)])] [hF,gn,(2000001,.bS 90 93 bW),(2000000,.row 52 bU),(2000002,.row 42 (.ax aJ)),(2000003,.row 42 (.ax aJ))] ⟨.a (.c (.int .i64)),[hF,gn,(2000001,.bS 90 93 bW),(2000000,.row 52 bU),(2000002,.row 42 (.ax aJ)),(2000003,.row 42 (.ax aJ))],[]⟩ [apw N] [] (.s .d (.s (.s .d (.b (.ff 0 ⟨[(2,.a (.c (.fn 73 [.id 1000000,.eC (.int .u8)]))),(10,.a (.c (.int .i64)))],[hF,gn,(2000000,.row 52 bU),(2000001,.bS 90 93 bW),(2000002,.row 42 (.ax aJ)),(2000003,.row 42 (.ax aJ))],[0,1,9],[]⟩ ⟨[],[hF,gn,(2000000,.row 52 bU),(2000001,.bS 90 93 bW),(2000002,.row 42 (.ax aJ)),(2000003,.row 42 (.ax aJ))],[],[]⟩ (.s .d (.s .d (.s (.b (.s .d (.j ⟨[(2,.a (.c (.fn 73 [.id 1000000,.eC (.int .u8)]))),(7,.a (.c (.int .i64)))],[hF,gn],[0,1,9,10],[2000000,2000001,2000002,2000003]⟩ .d (.s (.r [.n 2,.c Vc]) .d)))) .d)))))) .d)) [.tmp 6] (0,[],[],[],[]) (λd=>Ev N d.1 d.2.1 d.2.2.1 d.2.2.2.1 d.2.2.2.2.1 d.2.2.2.2.2.1 d.2.2.2.2.2.2.1) func69 ntmps69
def P4(N:Nat)(b:Int)(d:Int):Nat->(Int×Int×dd×bJ×b2×(List (Bool×cq))×bF×bF)->Option ((dd×bJ×b2×(List (Bool×cq))×bF×bF)⊕(Int×(List (Bool×cq))×b2×bF×bF×dd×bJ)):=b4 λd1 cU=>
  cond (decide (d1.2.1<b)) (Option.bind (cond (decide (d=0)) (ar ((bf (b-1))&&((bf ((b-1)-d1.2.1))&&(true))) <|
  some (d1.1,((b-1)-d1.2.1))) (some (d1.1,d1.2.1))) λc=>
  (yU N c.2 c.1 d1.2.2.2.2.2.1 d1.2.2.2.2.1 d1.2.2.2.2.2.2.1 d1.2.2.2.2.2.2.2 d1.2.2.1 d1.2.2.2.1).bind λa=>
  cond (!(decide (a.1=0))) (some (.inr (a.1,a.2.1,a.2.2.1,a.2.2.2.1,a.2.2.2.2.1,a.2.2.2.2.2.1,a.2.2.2.2.2.2))) (ar ((bf (d1.2.1+1))&&(true)) <|
  cU (c.1,(d1.2.1+1),a.2.2.2.2.2.1,a.2.2.2.2.2.2,a.2.2.1,a.2.1,a.2.2.2.1,a.2.2.2.2.1))) (some (.inl (d1.2.2.1,d1.2.2.2.1,d1.2.2.2.2.1,d1.2.2.2.2.2.1,d1.2.2.2.2.2.2.1,d1.2.2.2.2.2.2.2)))
def Jo(N:Nat)(b:Int)(g:Int)(c:Int)(d:List (Bool×cq))(e:b2)(f:bF)(h:bF)(i:dd)(j:bJ):Option (Int×(List (Bool×cq))×b2×bF×bF×dd×bJ):=
  (P4 N b g N (c,0,i,j,e,d,f,h)).bind λ(a:(dd×bJ×b2×(List (Bool×cq))×bF×bF)⊕(Int×(List (Bool×cq))×b2×bF×bF×dd×bJ))=>
  sm a (λa=>
  some (0,a.2.2.2.1,a.2.2.1,a.2.2.2.2.1,a.2.2.2.2.2,a.1,a.2.1)) (λq=>some q)
def apC(N:Nat):bA bD:=b0 N ba [.c (.int .i64),.c (.int .u8),.c (.fn 74 [.id 1000000,.eC (.int .u8),.id 1000002,.id 1000003])] [hF,gn,(2000001,.bS 90 93 bW),(2000000,.row 52 bU),(2000002,.row 42 (.ax aJ)),(2000003,.row 42 (.ax aJ)),As,Au] ⟨.a (.c (.int .i64)),[hF,gn,(2000001,.bS 90 93 bW),(2000000,.row 52 bU),(2000002,.row 42 (.ax aJ)),(2000003,.row 42 (.ax aJ)),As,Au],[]⟩ [apz N] [] (.s .d (.s (.s .d (.b (.ff 0 ⟨[(2,.a (.c (.fn 74 [.id 1000000,.eC (.int .u8),.id 1000002,.id 1000003]))),(10,.a (.c (.int .i64)))],[hF,gn,As,Au,(2000000,.row 52 bU),(2000001,.bS 90 93 bW),(2000002,.row 42 (.ax aJ)),(2000003,.row 42 (.ax aJ))],[0,1,9],[]⟩ ⟨[],[hF,gn,As,Au,(2000000,.row 52 bU),(2000001,.bS 90 93 bW),(2000002,.row 42 (.ax aJ)),(2000003,.row 42 (.ax aJ))],[],[]⟩ (.s .d (.s .d (.s (.b (.s .d (.j ⟨[(2,.a (.c (.fn 74 [.id 1000000,.eC (.int .u8),.id 1000002,.id 1000003]))),(7,.a (.c (.int .i64)))],[hF,gn],[0,1,9,10],[1000002,1000003,2000000,2000001,2000002,2000003]⟩ .d (.s (.r [.n 2,.c [(1000000,1000000),(1000001,1000001),(2000001,2000001),(2000000,2000000),(2000002,2000002),(2000003,2000003),(1000002,1000002),(1000003,1000003)]]) .d)))) .d)))))) .d)) [.tmp 6] (0,[],[],[],[],[],[]) (λd=>Jo N d.1 d.2.1 d.2.2.1 d.2.2.2.1 d.2.2.2.2.1 d.2.2.2.2.2.1 d.2.2.2.2.2.2.1 d.2.2.2.2.2.2.2.1 d.2.2.2.2.2.2.2.2.1) func69 ntmps69
def Ew(N:Nat)(g:Int)(c:Int)(h:List (Bool×cq))(b:b2)(i:bF)(j:bF):Option (Int×(List (Bool×cq))×b2×bF×bF):=
  Option.bind (ar ((a6 (IntKind.wrap .u8 (c-1)) b.length)&&((decide ((IntKind.wrap .u8 (c-1)).toNat<b.length))&&(true))) <|
  cond (!(b.getD (IntKind.wrap .u8 (c-1)).toNat bU.zero).1) ((x9 N (b.getD (IntKind.wrap .u8 (c-1)).toNat bU.zero) 0).bind λe=>
  cond (!(decide (e.2=0))) (some (.inr (e.2,h,b,i,j))) (ar ((a6 (IntKind.wrap .u8 (c-1)) b.length)&&(((decide ((IntKind.wrap .u8 (c-1)).toNat<b.length))&&(true))&&(true))) <|
  some (.inl (b.set (IntKind.wrap .u8 (c-1)).toNat e.1)))) (some (.inl b))) λ(f:(b2)⊕(Int×(List (Bool×cq))×b2×bF×bF))=>
  sm f (λf=>
  (Eu N g 1 c h f i j).bind λa=>
  cond (!(decide (a.1=0))) (some (a.1,a.2.1,a.2.2.1,a.2.2.2.1,a.2.2.2.2)) ((Ev N g 0 c a.2.1 a.2.2.1 a.2.2.2.1 a.2.2.2.2).bind λd=>
  some (d.1,d.2.1,d.2.2.1,d.2.2.2.1,d.2.2.2.2))) (λq=>some q)
def apD(N:Nat):bA bD:=b0 N ba [.c (.raw (.ptr 1000000 0)),.c (.int .i64),.c (.int .u8)] [x5,(2000001,.bS 90 93 bW),(2000000,.row 52 bU),(2000002,.row 42 (.ax aJ)),(2000003,.row 42 (.ax aJ))] ⟨.a (.c (.int .i64)),[x5,(2000001,.bS 90 93 bW),(2000000,.row 52 bU),(2000002,.row 42 (.ax aJ)),(2000003,.row 42 (.ax aJ))],[]⟩ [Vq N,apA N,apB N] [] (.s (.r [.n 3,.w (.bX 5 (.int .u8))]) (.CS ⟨[(3,.a (.c (.raw (.ptr 3 0))))],[(3,.cells 84 [.raw (.ptr 1000000 0)]),x5,(2000000,.row 52 bU)],[1,5],[2000001,2000002,2000003]⟩ (.s (.l1 [4,5,8,1000009] [.t 0 3,.t 1 0,.t 2 0,.t 3 3,.t 4 1,.t 5 0,.t 6 0,.t 7 3,.k 8,.s 9] [(.bX 7 bU)]) (.s .d (.c (.s (.r [.n 8,.w (.bX 8 bU)]) (.s .d (.o [4,5,6] [.t 0 3,.t 1 0,.t 2 0,.t 3 3,.t 4 1,.t 5 0,.t 6 1,.t 7 0,.s 8] []))) .d))) (.s (.r [.n 2,.c [(1000000,3),(1000001,1000000),(2000001,2000001),(2000000,2000000),(2000002,2000002),(2000003,2000003)]]) (.s .d (.s (.r [.n 2,.c [(1000000,3),(1000001,1000000),(2000001,2000001),(2000000,2000000),(2000002,2000002),(2000003,2000003)]]) .d))))) [.tmp 6] (0,[],[],[],[]) (λd=>Ew N d.1 d.2.1 d.2.2.1 d.2.2.2.1 d.2.2.2.2.1 d.2.2.2.2.2.1) func27 ntmps27
def Ex(N:Nat)(b:Int)(g:Int)(c:List (Bool×cq))(d:b2)(e:bF)(f:bF):Option (ad×Int×(List (Bool×cq))×b2×bF×bF):=
  (Jo N b 1 g c d e f ([]:dd) ([]:bJ)).bind λa=>
  cond (!(decide (a.1=0))) (some ((0,0),a.1,a.2.1,a.2.2.1,a.2.2.2.1,a.2.2.2.2.1)) (ar ((a6 0 a.2.2.2.2.2.2.length)&&(true)) <|
  some ((a.2.2.2.2.2.2.getD (0:Int).toNat aJ.zero),0,a.2.1,a.2.2.1,a.2.2.2.1,a.2.2.2.2.1))
def apE(N:Nat):bA bD:=b0 N ba [.c (.raw (.ptr 1000000 0)),.c (.int .i64),.c (.int .u8)] [x5,(2000001,.bS 90 93 bW),(2000000,.row 52 bU),(2000002,.row 42 (.ax aJ)),(2000003,.row 42 (.ax aJ))] ⟨.cE [.cK aJ,.c (.int .i64)],[x5,(2000001,.bS 90 93 bW),(2000000,.row 52 bU),(2000002,.row 42 (.ax aJ)),(2000003,.row 42 (.ax aJ))],[]⟩ [apC N] [] (.s (.r [.n 4,.w (.bX 5 (.int .u8))]) (.s (.r [.n 1,.w (.rG 8 0 11 58 aJ)]) (.s (.r [.n 1,.w (.rG 9 0 14 97 c3)]) (.s (.r [.n 2,.w (.da 14),.w (.da 11),.c [(1000000,3),(1000001,1000000),(2000001,2000001),(2000000,2000000),(2000002,2000002),(2000003,2000003),(1000002,9),(1000003,8)]]) .d)))) [.cell 6 58,.tmp 7] (aJ.zero,0,[],[],[],[]) (λd=>Ex N d.1 d.2.1 d.2.2.1 d.2.2.2.1 d.2.2.2.2.1 d.2.2.2.2.2.1) func28 ntmps28
def Ey(N:Nat)(c:lk):Nat->(Int×dI×bJ×bJ×(List (Bool×cq))×b2×bF×bF)->Option ((dI×bJ×bJ×(List (Bool×cq))×b2×bF×bF)⊕(kV×Int)):=b4 λa gJ=>
  cond (decide (a.1<(c.2.length:Int))) (ar ((a6 a.1 c.2.length)&&(true)) <|
  (Ew N c.1 (c.2.getD a.1.toNat 0) a.2.2.2.2.1 a.2.2.2.2.2.1 a.2.2.2.2.2.2.1 a.2.2.2.2.2.2.2).bind λb=>
  cond (!(decide (b.1=0))) (some (.inr ((([]:bY),(([]:dI),(([]:bJ),([]:bJ)))),b.1))) (ar ((bf (a.1+1))&&(true)) <|
  gJ ((a.1+1),a.2.1,a.2.2.1,a.2.2.2.1,b.2.1,b.2.2.1,b.2.2.2.1,b.2.2.2.2))) (some (.inl (a.2.1,a.2.2.1,a.2.2.2.1,a.2.2.2.2.1,a.2.2.2.2.2.1,a.2.2.2.2.2.2.1,a.2.2.2.2.2.2.2)))
def P5(N:Nat)(b:ad×Int×(List (Bool×cq))×b2×bF×bF):Nat->(Int×dI×bJ×bJ×(List (Bool×cq)))->Option (dI×bJ×bJ×(List (Bool×cq))):=b4 λa AH=>
  cond (decide (a.1<(b.2.2.1.length:Int))) (ar ((a6 a.1 a.2.2.2.2.length)&&(((decide (a.1.toNat<a.2.2.2.2.length))&&(a.2.2.2.2.getD a.1.toNat (false,[])).1)&&(true))) <|
  (Hc N (a.2.2.2.2.getD a.1.toNat (false,[])).2).bind λc=>
  ar ((a6 a.1 a.2.2.2.2.length)&&(((decide (a.1.toNat=a.1.toNat))&&(decide (a.1.toNat<a.2.2.2.2.length)))&&(true))) <|
  ar ((bf (a.1+1))&&(true)) <|
  AH ((a.1+1),a.2.1,a.2.2.1,a.2.2.2.1,(a.2.2.2.2.set a.1.toNat (false,c.1)))) (some (a.2.1,a.2.2.1,a.2.2.2.1,a.2.2.2.2))
def yV(N:Nat)(a:lk):Option (kV×Int):=
  (yo a).bind λf=>
  cond (!(decide (f=0))) (some ((([]:bY),(([]:dI),(([]:bJ),([]:bJ)))),f)) ((Ax N).bind λd=>
  ar (((decide (0<=a.1))&&(decide (a.1<=a.1))&&(fh 24 a.1))&&(((decide (0<=a.1))&&(decide (a.1<=a.1))&&(fh 24 a.1))&&(true))) <|
  (Ey N a N (0,d.1,d.2.1,d.2.2.1,d.2.2.2,(replicate (6:Int).toNat (bU.zero:aU)),(replicate a.1.toNat ([]:bJ)),(replicate a.1.toNat ([]:bJ)))).bind λ(b:(dI×bJ×bJ×(List (Bool×cq))×b2×bF×bF)⊕(kV×Int))=>
  sm b (λb=>
  ar ((bf ((a.2.length:Int)-1))&&((a6 ((a.2.length:Int)-1) a.2.length)&&(true))) <|
  (Ex N a.1 (a.2.getD ((a.2.length:Int)-1).toNat 0) b.2.2.2.1 b.2.2.2.2.1 b.2.2.2.2.2.1 b.2.2.2.2.2.2).bind λc=>
  cond (!(decide (c.2.1=0))) (some ((([]:bY),(([]:dI),(([]:bJ),([]:bJ)))),c.2.1)) ((P5 N c N (0,b.1,b.2.1,b.2.2.1,c.2.2.1)).bind λe=>
  some (((e.2.2.2.map (·.2)),(e.1,(e.2.1,[c.1]))),0))) (λq=>some q))
def Jp(N:Nat)(a:lk):Option (kV×Int):=
  (yo a).bind λf=>
  cond (!(decide (f=0))) (some ((([]:bY),(([]:dI),(([]:bJ),([]:bJ)))),f)) ((Ax N).bind λd=>
  (λ(kk31:Option _)=>
  fX (hP (ar (((decide (0<=a.1))&&(decide (a.1<=a.1))&&(fh 24 a.1))&&(((decide (0<=a.1))&&(decide (a.1<=a.1))&&(fh 24 a.1))&&(true))) <|
  kk31)) (hP (ar (((decide (0<=a.1))&&(decide (a.1<=a.1))&&(fh 24 a.1))&&(true)) <|
  hP (ar (((decide (0<=a.1))&&(decide (a.1<=a.1))&&(fh 24 a.1))&&(true)) <|
  kk31)))) ((Ey N a N (0,d.1,d.2.1,d.2.2.1,d.2.2.2,(replicate (6:Int).toNat (bU.zero:aU)),(replicate a.1.toNat ([]:bJ)),(replicate a.1.toNat ([]:bJ)))).bind λ(b:(dI×bJ×bJ×(List (Bool×cq))×b2×bF×bF)⊕(kV×Int))=>
  sm b (λb=>
  ar ((bf ((a.2.length:Int)-1))&&((a6 ((a.2.length:Int)-1) a.2.length)&&(true))) <|
  hP ((Ex N a.1 (a.2.getD ((a.2.length:Int)-1).toNat 0) b.2.2.2.1 b.2.2.2.2.1 b.2.2.2.2.2.1 b.2.2.2.2.2.2).bind λc=>
  cond (!(decide (c.2.1=0))) (some ((([]:bY),(([]:dI),(([]:bJ),([]:bJ)))),c.2.1)) ((P5 N c N (0,b.1,b.2.1,b.2.2.1,c.2.2.1)).bind λe=>
  some (((e.2.2.2.map (·.2)),(e.1,(e.2.1,[c.1]))),0)))) (λq=>some q)))
theorem apF:Jp=yV:=by
 unfold Jp yV
 first|(simp only[jO];done)|(funext;simp (disch:=(simp only[z8,k3,z7];first|done|first|rfl|(refine oy (λh=>?_) (λh=>?_);(focus (rw[h];first|done|(simp only[k3];first|done|first|rfl|(refine oy (λh=>?_) (λh=>?_);(focus (rw[h];first|done|(simp only[k3];first|done|first|rfl|(refine oy (λh=>?_) (λh=>?_);(focus (rw[h];first|done|(simp only[k3];first|done|rfl)));(focus (rw[h];first|done|simp only[ow,ox]))))));(focus (rw[h];first|done|simp only[ow,ox]))))));(focus (rw[h];first|done|simp only[ow,ox]))))) only[jO,Aa])
def apG(N:Nat):bA bD:=l4 N ba [.cK lT] [] ⟨.cE [.cK o8,.c (.int .i64)],[],[]⟩ [apq,Vw N,apD N,apE N,ah4 N] [] (.s (.r [.n 3,.w (.bX 1 lT)]) (.s .d (.s (.r [.c [(1,20)]]) (.s (.dm [] [0,3,4,5,6,7,8,10] (.t [.t 1 0,.t 2 3,.t 3 0,.t 4 1,.t 6 0,.t 7 1] 0 5 8 [] [] [] none none none (.b [] 5 8 [] [] none none (.f [.k 8,.t 9 0,.k 10,.t 11 0]) (.f [.k 5,.t 9 0,.k 10,.t 11 0])) (.b [] 0 8 [] [] none none (.f [.k 8,.t 9 0,.k 10,.t 11 0]) (.f [.k 0,.t 9 0,.k 10,.t 11 0])) (.b [] 0 5 [] [] none none (.f [.k 5,.t 9 0,.k 10,.t 11 0]) (.f [.k 0,.t 9 0,.k 10,.t 11 0]))) [] false) (.s (.s .d (.b (.ff 0 ⟨[(2,.a (.c (.raw (.ptr 2 0)))),(5,.a (.c (.raw (.ptr 5 0)))),(6,.a (.c (.raw (.ptr 31 0)))),(35,.a (.c (.int .i64)))],[G6,(20,.bS 90 93 bW),(21,.row 52 bU),(26,.row 42 (.ax aJ)),(29,.row 42 (.ax aJ)),G7],[1,33,34],[2]⟩ ⟨[(2,.a (.c (.raw (.ptr 2 0)))),(5,.a (.c (.raw (.ptr 5 0)))),(6,.a (.c (.raw (.ptr 31 0))))],[G6,(20,.bS 90 93 bW),(21,.row 52 bU),(26,.row 42 (.ax aJ)),(29,.row 42 (.ax aJ)),G7],[1],[2]⟩ (.s .d (.s .d (.s (.b (.s .d (.s (.r [.n 4,.c [(1000000,31),(2000001,20),(2000000,21),(2000002,26),(2000003,29)]]) .d))) .d)))))) (.s (.dm [] [] (.b [.t 0 0,.t 1 0,.t 2 1,.t 3 0,.t 4 1,.t 5 0,.t 6 1,.t 7 0,.t 8 0,.t 9 0,.t 10 1] 11 15 [(1000000,31),(2000001,20),(2000000,21),(2000002,26),(2000003,29)] [] none none (.f [.m 12,.t 13 0,.t 14 0,.s 15,.s 16,.t 17 0]) (.f [.c 11 [(1000000,31),(2000001,20),(2000000,21),(2000002,26),(2000003,29)],.m 12,.t 13 0,.t 14 0,.s 16,.t 17 0])) [(.bX 10 aJ)] false) (.s .d (.s (.s .d (.b (.eB 2 ⟨[(2,.a (.c (.raw (.ptr 2 0)))),(5,.a (.c (.raw (.ptr 5 0)))),(6,.a (.c (.raw (.ptr 31 0)))),(71,.a (.c (.raw (.ax 20)))),(73,.a (.c (.int .i64)))],[G6,(20,.bS 90 93 bW),G7],[10,72],[2,21,26,29]⟩ ⟨[(2,.a (.c (.raw (.ptr 2 0)))),(5,.a (.c (.raw (.ptr 5 0)))),(6,.a (.c (.raw (.ptr 31 0))))],[G6,(20,.bS 90 93 bW),G7],[10],[2,21,26,29]⟩ (.s .d (.s .d (.s (.b (.s (.r [.n 2,.t .F7]) (.o [4,5,6,1000008] [.t 0 0,.t 1 0,.t 2 0,.t 3 3,.t 4 0,.t 5 0,.z 77,.c 6 [],.t 7 0,.u 8 .st] []))) .d)))))) (.s .d (.s .d (.s .d (.t [.t (.da 20),.da 93])))))))))))) [.cell 2 44,.tmp 3] (o8.zero,0) (λd=>Jp N d.1) (λd=>yV N d.1) (λd=>(by rw[apF]:Jp N d.1=yV N d.1)) func12 ntmps12
def ZM(N:Nat)(b:mu×Int×Int):Nat->Int->Option ((Unit)⊕(Bool)):=b4 λa Di=>
  cond (decide (a<(b.1.2.2.1.length:Int))) (ar ((a6 a b.1.2.2.1.length)&&(true)) <|
  cond (b.1.2.2.1.getD a.toNat bU.zero).1 (some (.inr false)) (ar ((bf (a+1))&&(true)) <|
  Di (a+1))) (some (.inl ()))
def Jq(N:Nat)(g:KX):Option (Bool):=
  (Ji N g).bind λd=>
  (Jh N d).bind λa=>
  (AL N).bind λh=>
  (v8 N h a.1).bind λb=>
  (yV N d).bind λc=>
  Option.bind (cond (!(cond (cond (cond (!(decide (a.2.2=0))) true (!(decide (b.2.2=0)))) true (!(decide (c.2=0)))) true (!(decide ((a.2.1:Int)=(a.1.length:Int)))))) (HM N b.1.2.2.2 c.1) (some false)) λe=>
  Option.bind (cond (!(cond (cond (cond (cond (!(decide (a.2.2=0))) true (!(decide (b.2.2=0)))) true (!(decide (c.2=0)))) true (!(decide ((a.2.1:Int)=(a.1.length:Int))))) true (!e))) (AG N b.1.2.1) (some 0)) λi=>
  cond (cond (cond (cond (cond (cond (cond (cond (!(decide (a.2.2=0))) true (!(decide (b.2.2=0)))) true (!(decide (c.2=0)))) true (!(decide ((a.2.1:Int)=(a.1.length:Int))))) true (!e)) true (!(decide (i=0)))) true (!(decide (b.1.1=0)))) true (!(decide ((c.1.2.1.length:Int)=0)))) (some false) ((ZM N b N 0).bind λ(f:(Unit)⊕(Bool))=>
  sm f (λf=>
  Option.bind (AU) λj=>
  some j) (λq=>some q))
def apH(N:Nat):bA bD:=b0 N ba [.cK FD] [] ⟨.a (.c .bool),[],[]⟩ [apg N,apf N,ajz N,ake N,apG N,ajd N,NC N,alo] [] (.s (.r [.n 2,.w (.bX 1 FD)]) (.s (.r [.n 4,.w (.bX 3 lT)]) (.s .d (.s (.r [.n 11,.w (.bX 6 pY)]) (.s (.r [.n 8,.w (.bX 9 o8)]) (.s .d (.s (.s .d (.b (.ff 0 ⟨[(11,.a (.c (.int .i64)))],[],[6],[]⟩ ⟨[],[],[],[]⟩ .d))) .d))))))) [.tmp 2] false (λd=>Jq N d.1) func4 ntmps4
theorem apI(l:dd)(h:l.length<=1000000):yR l=some l:=by
 unfold yR;rw[decide_eq_true h]
 rfl
theorem apJ(N:Nat)(l:dd):Bd N l=some (l,l.length):=by
 unfold Bd
 apply T.eq
 simp only[aO,List.take_length]
 and_intros<;>first|omega|(simp only[dU];omega)|exact this|trivial
theorem P6(aR:5000<N)(m:t.length=6)(bj:c1 t<2000)(aA:y<6)(bt:ys[y]?=some Y)(a:hn Y)(ca:Y.1=true)(h:Y.2.2.1=((t.getD y []).length:Int)){P:dd}(nT:∀p∈P,oH p)(e:P.length+Y.2.2.2.2.length<=4096)(b:Int)(thr:bJ)(f g:bF) :
  kH N ((y:Int)+1) P b thr (own t) ys f g=some (((y:Int)+1,Y.2.2.1),0,own (eS t y (b,(Y.2.2.2.1,(thr,ee Y.2.2.2.2 P)))),ys.set y (true,Y.2.1,Y.2.2.1+1,false,[])):=by
 have n:=(List.getElem?_eq_some_iff.1 bt).1;have i:=mH (t:=t) y;have d:=wi a (a.at' ca) nT e;have aF:=d.dy;obtain⟨x,ak⟩:∃x,t[y]?=some x:=⟨_,getElem?_eq_getElem (by omega)⟩
 have c:t.getD y []=x:=b1 ak;rw[c]at i h;have j:=AX a ca aR (a.at' ca) nT e;have l:=Xu d rfl aR (by show Y.2.2.1<2048;omega);have k:=apI (ee Y.2.2.2.2 P) (by have:(ee Y.2.2.2.2 P).length<=4096:=aF;omega);unfold kH
 apply T.eq
 simp only[r9 aA,aO,b1 bt,bd j,bd l,bd k,bd (apJ N (ee Y.2.2.2.2 P)),rb,A1 ak,IG,c,eS,length_singleton]
 and_intros<;>first|omega|(simp only[dU];omega)|exact this|trivial
structure kI(w:Nat)(s:iz)(ys:b2)(cg ef:bF):Prop where
 len:s.1.length=6
 all:c1 s.1<=200
 jy:ys.length=6
 gR:∀Y∈ys,hn Y
 gE:∀(i:Nat) (Y:aU),ys[i]?=some Y->Y.2.2.1=((s.1.getD i []).length:Int)
 nv:∀Y∈ys,Y.2.2.2.2=[]
 ih:∀Y∈ys,Y.1=true->Y.2.2.2.1=decide (Y.2.2.1=0)
 fl:cg.length=w
 qO:ef.length=w
 mJ:∀i,i<w->cg[i]?=some (s.2.1 i)
 jo:∀i,i<w->ef[i]?=some (s.2.2 i)
 one:∀i,i<w->(s.2.1 i).length<=1/\(s.2.2 i).length<=1
 ids:∀i,i<w->(∀a∈s.2.1 i,l6 a)/\∀a∈s.2.2 i,l6 a
theorem apK(aR:5000<N)(hw:w<=8){s:iz}{c d:bF}(h:kI w s ys c d)(aA:y<6)(bt:ys[y]?=some Y)(ca:Y.1=true)(hi:i<w)(L:c1 s.1<200) :
  ∃ys' r,yS N (i:Int) ((y:Int)+1) (own s.1) ys c d=some (0,own (Ej y i s).1,ys',r,d)/\kI w (Ej y i s) ys' r d/\(∃n,ys'[y]?=some n/\n.1=true)/\∀z,z≠y->ys'[z]?=ys[z]?:=by
 have g:=mem_of_getElem? bt;have j:=h.gR Y g;have jR:=h.nv Y g;have H:=h.ih Y g ca;have q:=h.gE y Y bt;have B:=h.fl;have I:=h.qO;have m:=h.len;have o:=h.one i hi;have D:=h.ids i hi;have E:=(List.getElem?_eq_some_iff.1 bt).1;have cN:=mH (t:=s.1) y;have C:=h.mJ i hi;have v:=h.jo i hi;have an:uu N [(1,s.2.2 i)] 1=some (yK (s.2.2 i)):=by
  rw[XO 1 _ (by show 1<N;omega) (by show([s.2.2 i]:bF).flatten.length<N;rw[flatten_cons,flatten_nil,append_nil];omega) (by show 1<=100000;decide) (by show([s.2.2 i]:bF).flatten.length<=100000;rw[flatten_cons,flatten_nil,append_nil];omega)]
  congr 1
  cases aq:s.2.2 i with
  |nil=>rfl
  |cons a l=>
   have ao:l=[]:=eq_nil_of_length_eq_zero (by have:=o.2;rw[aq,length_cons]at this;omega);subst ao
   rfl
 have G:∀p∈yK (s.2.2 i),oH p:=λp an=>by
  obtain⟨a,bl,rfl⟩:=List.mem_map.1 an;exact⟨D.2 a bl,inr rfl⟩
 have M:(yK (s.2.2 i)).length<=1:=by
  unfold yK;rw[length_map];exact o.2
 have u:=P6 aR m (by omega) aA bt j ca q G (by rw[jR];show _+0<=4096;omega) 0 (s.2.1 i) c d;rw[jR,H,show decide (Y.2.2.1=0)=decide ((s.1.getD y []).length=0)from decide_eq_decide.2 (by omega)]at u;have hid:((y:Int)+1,Y.2.2.1)=iP s.1 y:=by unfold iP;rw[q]
 refine⟨ys.set y (true,Y.2.1,Y.2.2.1+1,false,[]),c.set i [iP s.1 y],?_,⟨?_,?_,?_,λZ b=>?_,λz Z b=>?_,λZ b=>?_,λZ b F=>?_,?_,?_,λk ab=>?_,λk ab=>?_,λk ab=>?_,λk ab=>?_⟩,⟨_,by rw[getElem?_set,if_pos rfl,if_pos E],rfl⟩,λz bw=>by rw[getElem?_set,if_neg (λe=>bw e.symm)]⟩
 ·have K:(i:Int)<(c.length:Int):=by omega
  unfold yS
  apply T.eq
  simp only[aO,b1 C,b1 v,bd an,bd u,hid];refine⟨by omega,by omega,by omega,by omega,?_⟩
  rfl
 ·show(eS s.1 y _).length=6
  rw[yu,m]
 ·show c1 (eS s.1 y _)<=200
  rw[uJ (by omega)];omega
 ·rw[length_set]
  exact h.jy
 ·rcases ix b with b|rfl
  ·exact h.gR Z b
  ·exact Iz j ca (by omega)
 ·show Z.2.2.1=(((eS s.1 y _).getD z []).length:Int)
  rw[s8 (by omega)];rw[getElem?_set]at b
  split at b
  ·rename_i e
   subst e;cases b;rw[if_pos rfl,length_append];show Y.2.2.1+1=(((s.1.getD y []).length+1:Nat):Int)
   omega
  ·rename_i e
   rw[if_neg (λA=>e A.symm)];exact h.gE z Z b
 ·rcases ix b with b|rfl
  ·exact h.nv Z b
  ·rfl
 ·rcases ix b with b|rfl
  ·exact h.ih Z b F
  ·show false=decide (Y.2.2.1+1=0)
   rw[decide_eq_false (by omega)]
 ·rw[length_set]
  exact B
 ·exact I
 ·show(c.set i [iP s.1 y])[k]?=some (kE s.2.1 i [iP s.1 y] k)
  unfold kE;rw[getElem?_set]
  by_cases f:k=i
  ·rw[if_pos f.symm,if_pos (by omega),if_pos f]
  ·rw[if_neg (λe=>f e.symm),if_neg f]
   exact h.mJ k ab
 ·exact h.jo k ab
 ·have J:=h.one k ab
  refine⟨?_,J.2⟩;show(kE s.2.1 i [iP s.1 y] k).length<=1;unfold kE
  split
  ·exact Nat.le_refl 1
  ·exact J.1
 ·have J:=h.ids k ab
  refine⟨?_,J.2⟩;show ∀a∈kE s.2.1 i [iP s.1 y] k,l6 a;unfold kE;intro a bl
  split at bl
  ·rw[List.mem_singleton]at bl
   rw[bl];unfold iP;exact⟨by dsimp only;omega,by dsimp only;omega,by dsimp only;omega,by dsimp only;omega⟩
  ·exact J.1 a bl
theorem apL(aR:5000<N)(hw:w<=8){s:iz}{c d:bF}(h:kI w s ys c d)(aA:y<6)(bt:ys[y]?=some Y)(ca:Y.1=true)(hi:i<w)(K:c1 s.1<200) :
  ∃ys' jo,yT N (i:Int) ((y:Int)+1) (own s.1) ys c d=some (0,own (Ek y i s).1,ys',c,jo)/\kI w (Ek y i s) ys' c jo/\(∃n,ys'[y]?=some n/\n.1=true)/\∀z,z≠y->ys'[z]?=ys[z]?:=by
 have g:=mem_of_getElem? bt;have j:=h.gR Y g;have jR:=h.nv Y g;have G:=h.ih Y g ca;have q:=h.gE y Y bt;have A:=h.fl;have H:=h.qO;have m:=h.len;have o:=h.one i hi;have C:=h.ids i hi;have D:=(List.getElem?_eq_some_iff.1 bt).1;have cN:=mH (t:=s.1) y;have B:=h.mJ i hi;have u:=h.jo i hi;have an:uu N [(0,s.2.1 i)] 0=some (yL (s.2.1 i)):=by
  rw[XO 0 _ (by show 1<N;omega) (by show([s.2.1 i]:bF).flatten.length<N;rw[flatten_cons,flatten_nil,append_nil];omega) (by show 1<=100000;decide) (by show([s.2.1 i]:bF).flatten.length<=100000;rw[flatten_cons,flatten_nil,append_nil];omega)]
  congr 1
  cases aq:s.2.1 i with
  |nil=>rfl
  |cons a l=>
   have ao:l=[]:=eq_nil_of_length_eq_zero (by have:=o.1;rw[aq,length_cons]at this;omega);subst ao
   rfl
 have F:∀p∈yL (s.2.1 i),oH p:=λp an=>by
  obtain⟨a,bl,rfl⟩:=List.mem_map.1 an;exact⟨C.1 a bl,inl rfl⟩
 have L:(yL (s.2.1 i)).length<=1:=by
  unfold yL;rw[length_map];exact o.1
 have r:=P6 aR m (by omega) aA bt j ca q F (by rw[jR];show _+0<=4096;omega) 1 (s.2.2 i) c d;rw[jR,G,show decide (Y.2.2.1=0)=decide ((s.1.getD y []).length=0)from decide_eq_decide.2 (by omega)]at r;have hid:((y:Int)+1,Y.2.2.1)=iP s.1 y:=by unfold iP;rw[q]
 refine⟨ys.set y (true,Y.2.1,Y.2.2.1+1,false,[]),d.set i [iP s.1 y],?_,⟨?_,?_,?_,λZ b=>?_,λz Z b=>?_,λZ b=>?_,λZ b E=>?_,?_,?_,λk ab=>?_,λk ab=>?_,λk ab=>?_,λk ab=>?_⟩,⟨_,by rw[getElem?_set,if_pos rfl,if_pos D],rfl⟩,λz bw=>by rw[getElem?_set,if_neg (λe=>bw e.symm)]⟩
 ·have I:(i:Int)<(c.length:Int):=by omega
  unfold yT
  apply T.eq
  simp only[aO,b1 B,b1 u,bd an,bd r,hid];refine⟨by omega,by omega,by omega,by omega,?_⟩
  rfl
 ·show(eS s.1 y _).length=6
  rw[yu,m]
 ·show c1 (eS s.1 y _)<=200
  rw[uJ (by omega)];omega
 ·rw[length_set]
  exact h.jy
 ·rcases ix b with b|rfl
  ·exact h.gR Z b
  ·exact Iz j ca (by omega)
 ·show Z.2.2.1=(((eS s.1 y _).getD z []).length:Int)
  rw[s8 (by omega)];rw[getElem?_set]at b
  split at b
  ·rename_i e
   subst e;cases b;rw[if_pos rfl,length_append];show Y.2.2.1+1=(((s.1.getD y []).length+1:Nat):Int)
   omega
  ·rename_i e
   rw[if_neg (λv=>e v.symm)];exact h.gE z Z b
 ·rcases ix b with b|rfl
  ·exact h.nv Z b
  ·rfl
 ·rcases ix b with b|rfl
  ·exact h.ih Z b E
  ·show false=decide (Y.2.2.1+1=0)
   rw[decide_eq_false (by omega)]
 ·exact A
 ·rw[length_set]
  exact H
 ·exact h.mJ k ab
 ·show(d.set i [iP s.1 y])[k]?=some (kE s.2.2 i [iP s.1 y] k)
  unfold kE;rw[getElem?_set]
  by_cases f:k=i
  ·rw[if_pos f.symm,if_pos (by omega),if_pos f]
  ·rw[if_neg (λe=>f e.symm),if_neg f]
   exact h.jo k ab
 ·have J:=h.one k ab
  refine⟨J.1,?_⟩;show(kE s.2.2 i [iP s.1 y] k).length<=1;unfold kE
  split
  ·exact Nat.le_refl 1
  ·exact J.2
 ·have J:=h.ids k ab
  refine⟨J.1,?_⟩;show ∀a∈kE s.2.2 i [iP s.1 y] k,l6 a;unfold kE;intro a bl
  split at bl
  ·rw[List.mem_singleton]at bl
   rw[bl];unfold iP;exact⟨by dsimp only;omega,by dsimp only;omega,by dsimp only;omega,by dsimp only;omega⟩
  ·exact J.2 a bl
theorem apM(aR:5000<N)(hw:w<=8){s:iz}{a:bF}(h:kI w s ys g a)(aA:y<6)(bt:ys[y]?=some Y)(ca:Y.1=true)(G:c1 s.1+w<=200) :
  ∃ys' b,Eu N (w:Int) (1:Int) ((y:Int)+1) (own s.1) ys g a=some (0,own (h4 y w s).1,ys',b,a)/\kI w (h4 y w s) ys' b a/\(∃c,ys'[y]?=some c/\c.1=true)/\∀z,z≠y->ys'[z]?=ys[z]?:=by
 have cR:T (P2 N (w:Int) (1:Int) N ((y:Int)+1,(0:Int),ys,own s.1,g,a)) λo=>∃ys' b,o=.inl (ys',own (h4 y w s).1,b,a)/\kI w (h4 y w s) ys' b a/\(∃c,ys'[y]?=some c/\c.1=true)/\∀z,z≠y->ys'[z]?=ys[z]?:=by
  unfold P2;refine kB (λk d=>∃(i:Nat) (ys':b2) (b:bF),i+k=w/\d=((y:Int)+1,(i:Int),ys',own (h4 y i s).1,b,a)/\kI w (h4 y i s) ys' b a/\(∃c,ys'[y]?=some c/\c.1=true)/\∀z,z≠y->ys'[z]?=ys[z]?) _ ?_ N w _ (by omega) ⟨0,ys,g,by omega,rfl,h,⟨Y,bt,ca⟩,λ_ _=>rfl⟩;rintro k d rec ⟨i,A,u,hi,rfl,l,⟨C,m,p⟩,f⟩ v
  by_cases F:i<w
  ·have j:(i:Int)<(w:Int):=by omega
   have H:=(wE (y:=y) (s:=s) (by rw[h.len];exact aA) i).2;obtain⟨n,q,B,r,D,E⟩:=apK aR hw l aA m p (i:=i) (by omega) (by omega);have this:=v (k-1) ((y:Int)+1,(i:Int)+1,n,own (h4 y (i+1) s).1,q,a) (by omega) ⟨i+1,n,q,by omega,rfl,r,D,λz bw=>(E z bw).trans (f z bw)⟩;have t:¬((1:Int)=0):=by decide
   simp only[aO,reduceCtorEq,j,t,bd B]
   and_intros<;>first|omega|(simp only[dU];omega)|exact this|trivial
  ·have j:¬(i:Int)<(w:Int):=by omega
   simp only[aO,reduceEq,reduceCtorEq,j];have e:i=w:=by omega
   subst e;exact⟨A,u,rfl,l,⟨C,m,p⟩,f⟩
 obtain⟨o,f,ys',b,rfl,J,U,ah⟩:=cR;refine⟨ys',b,?_,J,U,ah⟩;unfold Eu;rw[f,bind_some]
theorem apO(aR:5000<N)(hw:w<=8){s:iz}{a:bF}(h:kI w s ys a f)(aA:y<6)(bt:ys[y]?=some Y)(ca:Y.1=true)(F:c1 s.1+w<=200) :
  ∃ys' jo,Ev N (w:Int) 0 ((y:Int)+1) (own s.1) ys a f=some (0,own (iA y w w s).1,ys',a,jo)/\kI w (iA y w w s) ys' a jo/\(∃b,ys'[y]?=some b/\b.1=true)/\∀z,z≠y->ys'[z]?=ys[z]?:=by
 have cR:T (P3 N (w:Int) 0 N ((y:Int)+1,0,ys,own s.1,a,f)) λo=>∃ys' jo,o=.inl (ys',own (iA y w w s).1,a,jo)/\kI w (iA y w w s) ys' a jo/\(∃b,ys'[y]?=some b/\b.1=true)/\∀z,z≠y->ys'[z]?=ys[z]?:=by
  unfold P3;refine kB (λk d=>∃(i:Nat) (ys':b2) (jo:bF),i+k=w/\d=((y:Int)+1,(i:Int),ys',own (iA y w i s).1,a,jo)/\kI w (iA y w i s) ys' a jo/\(∃b,ys'[y]?=some b/\b.1=true)/\∀z,z≠y->ys'[z]?=ys[z]?) _ ?_ N w _ (by omega) ⟨0,ys,f,by omega,rfl,h,⟨Y,bt,ca⟩,λ_ _=>rfl⟩;rintro k d rec ⟨i,v,t,hi,rfl,l,⟨B,m,p⟩,c⟩ u
  by_cases E:i<w
  ·have g:(i:Int)<(w:Int):=by omega
   have G:=(Em (y:=y) (w:=w) (s:=s) (by rw[h.len];exact aA) i).2;obtain⟨n,j,A,q,C,D⟩:=apL aR hw l aA m p (i:=w-1-i) (by omega) (by omega);have this:=u (k-1) ((y:Int)+1,(i:Int)+1,n,own (iA y w (i+1) s).1,a,j) (by omega) ⟨i+1,n,j,by omega,rfl,q,C,λz bw=>(D z bw).trans (c z bw)⟩;have r:(w:Int)-1-(i:Int)=((w-1-i:Nat):Int):=by omega
   simp only[aO,reduceCtorEq,g,r,bd A]
   and_intros<;>first|omega|(simp only[dU];omega)|exact this|trivial
  ·have g:¬(i:Int)<(w:Int):=by omega
   simp only[aO,reduceCtorEq,g];have e:i=w:=by omega
   subst e;exact⟨v,t,rfl,l,⟨B,m,p⟩,c⟩
 obtain⟨o,c,ys',jo,rfl,J,U,ah⟩:=cR;refine⟨ys',jo,?_,J,U,ah⟩;unfold Ev;rw[c,bind_some]
theorem apQ(aR:5000<N)(hw:w<=8){s:iz}{k:bF}(h:kI w s ys k f)(A:∀Z∈ys,Z.1=false->Z.2.2.1=0)(aA:y<6)(V:c1 s.1+2 * w<=200) :
  ∃ys' C jo,Ew N (w:Int) ((y:Int)+1) (own s.1) ys k f=some (0,own (iA y w w (h4 y w s)).1,ys',C,jo)/\kI w (iA y w w (h4 y w s)) ys' C jo/\∀Z∈ys',Z.1=false->Z.2.2.1=0:=by
 have t:=h.jy;obtain⟨Y,bt⟩:∃Y,ys[y]?=some Y:=⟨_,getElem?_eq_getElem (by omega)⟩
 have B:=mem_of_getElem? bt;have v:=h.gR Y B;have W:=(wE (y:=y) (s:=s) (by rw[h.len];exact aA) w).2;have key:∀(m:b2) (u:aU),kI w s m k f->m[y]?=some u->u.1=true->(∀z,z≠y->m[z]?=ys[z]?)->∃g b c d,Eu N (w:Int) (1:Int) ((y:Int)+1) (own s.1) m k f=some (0,own (h4 y w s).1,g,b,f)/\Ev N (w:Int) (0:Int) ((y:Int)+1) (own (h4 y w s).1) g b f=some (0,own (iA y w w (h4 y w s)).1,c,b,d)/\kI w (iA y w w (h4 y w s)) c b d/\∀Z∈c,Z.1=false->Z.2.2.1=0:=by
  intro m u J K M O;obtain⟨g,b,j,U,⟨R,I,Q⟩,L⟩:=apM aR hw J aA K M (by omega);obtain⟨c,d,l,ah,⟨S,D,E⟩,P⟩:=apO aR hw U aA I Q (by omega);refine⟨g,b,c,d,j,l,ah,λZ a o=>?_⟩;obtain⟨z,bw⟩:=List.mem_iff_getElem?.1 a
  by_cases n:z=y
  ·subst n
   rw[D]at bw;cases bw;rw[E]at o;cases o
  ·rw[P z n,L z n,O z n]at bw
   exact A Z (mem_of_getElem? bw) o
 cases ca:Y.1 with
 |true=>
  obtain⟨g,b,c,d,j,l,ah,r⟩:=key ys Y h bt ca (λ_ _=>rfl);refine⟨c,b,d,?_,ah,r⟩;unfold Ew
  apply T.eq
  simp only[r9 aA,aO,reduceCtorEq,b1 bt,ca,bd j,bd l,t]
  and_intros<;>first|omega|(simp only[dU];omega)|exact this|trivial
 |false=>
  have F:=A Y B ca;have he:=Xt v ca aR (side:=0) (inl rfl);rw[if_neg (by decide)]at he;have G:kI w s (ys.set y (true, -13,Y.2.2.1,true,[])) k f:=by
   refine⟨h.len,h.all,by rw[length_set];exact t,λZ a=>?_,λz Z a=>?_,λZ a=>?_,λZ a H=>?_,h.fl,h.qO,h.mJ,h.jo,h.one,h.ids⟩
   ·rcases ix a with a|rfl
    ·exact h.gR Z a
    ·exact⟨v.gE,(λe=>by cases e),(λ_=>by show tmod (-13) 2≠0/\(-13:Int)<=-13/\(-13:Int)<=179;decide),zero_le _,(λp an=>by cases an),(λi p q an=>by cases an)⟩
   ·rw[getElem?_set]at a
    split at a
    ·rename_i e
     subst e
     split at a
     ·cases a
      exact h.gE y Y bt
     ·cases a
    ·exact h.gE z Z a
   ·rcases ix a with a|rfl
    ·exact h.nv Z a
    ·rfl
   ·rcases ix a with a|rfl
    ·exact h.ih Z a H
    ·show true=decide (Y.2.2.1=0)
     rw[decide_eq_true F]
  obtain⟨g,b,c,d,j,l,ah,r⟩:=key (ys.set y (true, -13,Y.2.2.1,true,[])) (true, -13,Y.2.2.1,true,[]) G (by rw[getElem?_set,if_pos rfl,if_pos (by omega)]) rfl (λz bw=>by rw[getElem?_set,if_neg (λe=>bw e.symm)]);refine⟨c,b,d,?_,ah,r⟩;unfold Ew
  apply T.eq
  simp only[r9 aA,aO,reduceCtorEq,b1 bt,ca,bd he,bd j,bd l,t]
  and_intros<;>first|omega|(simp only[dU];omega)|exact this|trivial
theorem apR(aR:5000<N)(l:bF)(ao:l.length<=10)(aF:l.flatten.length<=1000):qv N l=some (l.flatten,l.flatten.length):=by
 have hle:∀i,(l.take i).flatten.length<=l.flatten.length:=λi=>by
  have h:=congrArg (λz=>(List.flatten z).length) (List.take_append_drop i l);rw[List.flatten_append,length_append]at h;omega
 have f:∀(i:Nat) (x:bJ),l[i]?=some x->(l.take (i+1)).flatten=(l.take i).flatten++x:=λi x ak=>by
  rw[qg ak,List.flatten_append,flatten_cons,flatten_nil,append_nil]
 have J:PY N l N ((0:Int),(0:Int))=some (l.flatten.length:Int):=by
  unfold PY;refine ek (λk d=>∃i:Nat,i+k=l.length/\d=(((l.take i).flatten.length:Int),(i:Int))) _ ?_ N l.length _ (by omega) ⟨0,by omega,rfl⟩;rintro k d rec ⟨i,hi,rfl⟩ b
  apply T.eq
  by_cases c:i<l.length
  ·obtain⟨x,ak⟩:∃x,l[i]?=some x:=⟨_,getElem?_eq_getElem c⟩
   have a:(i:Int)<(l.length:Int):=by omega
   have U:=f i x ak;have ah:=hle (i+1);have e:(((l.take i).flatten.length:Int)+(x.length:Int))=((l.take (i+1)).flatten.length:Int):=by rw[U,length_append];omega
   have this:T (rec (((l.take (i+1)).flatten.length:Int),(i:Int)+1)) (·=(l.flatten.length:Int)):=⟨_,b (k-1) _ (by omega) ⟨i+1,by omega,rfl⟩,rfl⟩
   have j:¬(((l.take (i+1)).flatten.length:Nat):Int)<0:=by omega
   simp only[aO,reduceCtorEq,a,b1 ak,e,j]
   and_intros<;>first|omega|(simp only[dU];omega)|exact this|trivial
  ·have a:¬(i:Int)<(l.length:Int):=by omega
   simp only[aO,reduceCtorEq,a];rw[take_of_length_le (by omega)]
 have ah:PZ N l N ((0:Int),[])=some l.flatten:=by
  unfold PZ;refine ek (λk d=>∃i:Nat,i+k=l.length/\d=((i:Int),(l.take i).flatten)) _ ?_ N l.length _ (by omega) ⟨0,by omega,rfl⟩;rintro k d rec ⟨i,hi,rfl⟩ b
  apply T.eq
  by_cases c:i<l.length
  ·obtain⟨x,ak⟩:∃x,l[i]?=some x:=⟨_,getElem?_eq_getElem c⟩
   have a:(i:Int)<(l.length:Int):=by omega
   have U:=f i x ak;have ah:=hle (i+1);have m:(l.take i).flatten.length+x.length<=1000:=by rw[U,length_append]at ah;omega
   have this:T (rec ((i:Int)+1,(l.take i).flatten++x)) (·=l.flatten):=⟨_,b (k-1) _ (by omega) ⟨i+1,by omega,by rw[U];rfl⟩,rfl⟩
   simp only[aO,reduceCtorEq,a,b1 ak]
   and_intros<;>first|omega|(simp only[dU];omega)|exact this|trivial
  ·have a:¬(i:Int)<(l.length:Int):=by omega
   simp only[aO,reduceCtorEq,a];rw[take_of_length_le (by omega)]
 have g:Et (l.flatten.length:Int)=some []:=by
  unfold Et;rw[show(decide ((0:Int)<=(l.flatten.length:Int))&&decide ((l.flatten.length:Int)<=1000000))=true by rw[decide_eq_true (by omega),decide_eq_true (by omega)];rfl]
  rfl
 have aa:Jj N l=some l.flatten:=by
  unfold Jj;rw[J,bind_some,g,bind_some,ah,bind_some]
 unfold qv Ny
 apply T.eq
 simp only[aO,bd aa,List.take_length]
 and_intros<;>first|omega|(simp only[dU];omega)|exact this|trivial
def wJ(Y:aU):Nat->aU
 |0=>Y
 |i+1=>(true,Y.2.1,Y.2.2.1+(i:Int)+1,false,[])
def rj(y:Nat)(c0:Int):Nat->bJ
 |0=>[]
 |i+1=>[iQ y c0 i]
theorem apT(b:hn Y)(ca:Y.1=true)(jR:Y.2.2.2.2=[])(hi:i<=8)(aa:Y.2.2.1<=1000):hn (wJ Y i)/\(wJ Y i).1=true/\(wJ Y i).2.1=Y.2.1/\(wJ Y i).2.2.1=Y.2.2.1+(i:Int)/\(wJ Y i).2.2.2.1=Bc Y i/\(wJ Y i).2.2.2.2=[]:=by
 cases i with
 |zero=>exact⟨b,ca,rfl,by show Y.2.2.1=Y.2.2.1+((0:Nat):Int);omega,rfl,jR⟩
 |succ i=>
  have c:=b.gE;exact⟨⟨by show 0<=Y.2.2.1+(i:Int)+1/\Y.2.2.1+(i:Int)+1<=2048;omega,λh=>(by cases h),λ_=>b.at' ca,by simp[wJ],λ_ h=>(by cases h),λa p q h=>(by cases h)⟩,rfl,rfl,by show Y.2.2.1+(i:Int)+1=Y.2.2.1+((i+1:Nat):Int);omega,rfl,rfl⟩
theorem apU(y:Nat)(jR:Y.2.2.2.2=[])(i:Nat):ee [] (mL y Y i)=mL y Y i/\(mL y Y i).length<=1:=by
 cases i with
 |zero=>
  show ee [] Y.2.2.2.2=Y.2.2.2.2/\Y.2.2.2.2.length<=1;rw[jR];exact⟨rfl,zero_le _⟩
 |succ i=>exact⟨rfl,Nat.le_refl _⟩
theorem apV(y:Nat)(c0:Int)(S:Nat->bJ)(i:Nat):tk y c0 S i=rj y c0 i++S i:=by cases i<;>rfl
theorem apW(aR:5000<N)(hw:w<=8){s:iz}{a b:bF}(h:kI w s ys a b)(aA:y<6)(bt:ys[y]?=some Y)(ca:Y.1=true) :
  ∃ys',Jo N (w:Int) (1:Int) ((y:Int)+1) (own s.1) ys a b [] []=some (0,own (hq s.1 y Y (λi=>s.2.2 i++s.2.1 i) w),ys',a,b,mL y Y w,rj y Y.2.2.1 w):=by
 have q:=mem_of_getElem? bt;have n:=h.gR Y q;have jR:=h.nv Y q;have ab:=h.gE y Y bt;have F:=h.len;have W:=h.all;have cN:=mH (t:=s.1) y;have X:=(List.getElem?_eq_some_iff.1 bt).1;have V:=h.fl;have ac:=h.qO;have cR:T (P4 N (w:Int) (1:Int) N ((y:Int)+1,(0:Int),[],[],ys,own s.1,a,b)) λo=>∃ys',o=.inl (mL y Y w,rj y Y.2.2.1 w,ys',own (hq s.1 y Y (λi=>s.2.2 i++s.2.1 i) w),a,b):=by
  unfold P4;refine kB (λk d=>∃(i:Nat) (ys':b2),i+k=w/\d=((y:Int)+1,(i:Int),mL y Y i,rj y Y.2.2.1 i,ys',own (hq s.1 y Y (λi=>s.2.2 i++s.2.1 i) i),a,b)/\ys'[y]?=some (wJ Y i)) _ ?_ N w _ (by omega) ⟨0,ys,by omega,by rw[show mL y Y 0=[] from jR];rfl,bt⟩;rintro k d rec ⟨i,f,hi,rfl,u⟩ E
  by_cases g:i<w
  ·have j:(i:Int)<(w:Int):=by omega
   obtain⟨fp,cC,M,l,P,m⟩:=apT n ca jR (i:=i) (by omega) (by omega);obtain⟨K,aa⟩:=apU y jR i;obtain⟨la,I⟩:=wH (t:=s.1) (ti:=y) (by omega) i (Y:=Y) (S:=λi=>s.2.2 i++s.2.1 i);have L:=ao3 (t:=s.1) (ti:=y) (by omega) i (Y:=Y) (S:=λi=>s.2.2 i++s.2.1 i);have H:=h.mJ i g;have G:=h.jo i g;have Z:=h.one i g;have R:(rj y Y.2.2.1 i).length<=1:=by cases i<;>simp[rj]
   have C:=apR aR [rj y Y.2.2.1 i,s.2.2 i,s.2.1 i] (by show 3<=10;decide) (by simp only[flatten_cons,flatten_nil,length_append,length_nil];omega);have z:([rj y Y.2.2.1 i,s.2.2 i,s.2.1 i]:bF).flatten=tk y Y.2.2.1 (λi=>s.2.2 i++s.2.1 i) i:=by
    rw[apV];simp only[flatten_cons,flatten_nil,append_nil]
   have O:∀p∈mL y Y i,oH p:=λp an=>by
    cases i with
    |zero=>
     have c:p∈Y.2.2.2.2:=an;rw[jR]at c;cases c
    |succ i=>
     have c:p∈[(iQ y Y.2.2.1 i,(true,(0:Int)))]:=an;rw[List.mem_singleton]at c;rw[c]
     have:=n.gE
     exact⟨⟨by show(1:Int)<=(y:Int)+1;omega,by show(y:Int)+1<=6;omega,by show 0<=Y.2.2.1+(i:Int);omega,by show Y.2.2.1+(i:Int)<2048;omega⟩,inl rfl⟩
   have v:=P6 aR (I.trans F) (by omega) aA u fp cC (by rw[l,L];omega) O (by rw[m];show _+0<=4096;omega) 0 (tk y Y.2.2.1 (λi=>s.2.2 i++s.2.1 i) i) a b;rw[M,l,P,m,K]at v;have D:=(List.getElem?_eq_some_iff.1 u).1;have this:=E (k-1) ((y:Int)+1,(i:Int)+1,mL y Y (i+1),rj y Y.2.2.1 (i+1),f.set y (true,Y.2.1,Y.2.2.1+(i:Int)+1,false,[]),own (hq s.1 y Y (λi=>s.2.2 i++s.2.1 i) (i+1)),a,b) (by omega) ⟨i+1,_,by omega,rfl,by rw[getElem?_set,if_pos rfl,if_pos D];rfl⟩;have B:¬((1:Int)=0):=by decide
   have Q:(i:Int)<(a.length:Int):=by omega
   have U:(i:Int)<(b.length:Int):=by omega
   have J:T (yU N (i:Int) ((y:Int)+1) (own (hq s.1 y Y (λi=>s.2.2 i++s.2.1 i) i)) f a b (mL y Y i) (rj y Y.2.2.1 i)) (·=(0,own (hq s.1 y Y (λi=>s.2.2 i++s.2.1 i) (i+1)),f.set y (true,Y.2.1,Y.2.2.1+(i:Int)+1,false,[]),a,b,mL y Y (i+1),rj y Y.2.2.1 (i+1))):=by
    unfold yU;simp only[aO,b1 H,b1 G,bd C,z,bd v];refine⟨by omega,by omega,by omega,?_⟩
    rfl
   simp only[aO,reduceCtorEq,j,B];refine J.mono ?_;rintro r rfl;simp only[aO]
   and_intros<;>first|omega|(simp only[dU];omega)|exact this|trivial
  ·have j:¬(i:Int)<(w:Int):=by omega
   simp only[aO,reduceEq,reduceCtorEq,j];have e:i=w:=by omega
   subst e;exact⟨f,rfl⟩
 obtain⟨o,A,ys',rfl⟩:=cR;refine⟨ys',?_⟩;unfold Jo;rw[A,bind_some]
theorem apY(aR:5000<N)(d:1<=w)(hw:w<=8){s:iz}{a b:bF}(h:kI w s ys a b)(aA:y<6)(bt:ys[y]?=some Y)(ca:Y.1=true) :
  ∃ys',Ex N (w:Int) ((y:Int)+1) (own s.1) ys a b=some (iQ y Y.2.2.1 (w-1),0,own (hq s.1 y Y (λi=>s.2.2 i++s.2.1 i) w),ys',a,b):=by
 obtain⟨ys',c⟩:=apW aR hw h aA bt ca;refine⟨ys',?_⟩;have ag:rj y Y.2.2.1 w=[iQ y Y.2.2.1 (w-1)]:=by
  obtain⟨v,rfl⟩:∃v,w=v+1:=⟨w-1,by omega⟩
  rfl
 rw[ag]at c;unfold Ex
 apply T.eq
 simp only[aO,reduceLE,bd c,length_singleton,show(0:Int).toNat=0 from rfl,List.getD_cons_zero]
 and_intros<;>first|omega|(simp only[dU];omega)|exact this|trivial
theorem apZ(w:Nat):kI w wD (replicate 6 (bU.zero:aU)) (replicate w []) (replicate w []):=by
 have a:∀i,i<w->(replicate w ([]:bJ))[i]?=some []:=λi hi=>by rw[List.getElem?_replicate,if_pos hi]
 exact⟨rfl,by decide,pB.jy,pB.gR,pB.gE,(PS w).nv,(PS w).ih,length_replicate,length_replicate,a,a,λ_ _=>⟨zero_le _,zero_le _⟩,λ_ _=>⟨λ_ h=>(by cases h),λ_ h=>(by cases h)⟩⟩
theorem ap0(aR:5000<N)(hw:w<=8){a:bR}(g:∀i,i<a.length->1<=a.getD i 0/\a.getD i 0<=6)(z:a.length<=8) :
  T (Ey N ((w:Int),a) N ((0:Int),[],[],[],own wD.1,replicate 6 (bU.zero:aU),replicate w [],replicate w [])) λo=>∃ys b c,o=.inl ([],[],[],own (ei w a a.length).1,ys,b,c)/\kI w (ei w a a.length) ys b c/\∀Z∈ys,Z.1=false->Z.2.2.1=0:=by
 unfold Ey;refine kB (λk d=>∃(i:Nat) (ys:b2) (b c:bF),i+k=a.length/\d=((i:Int),[],[],[],own (ei w a i).1,ys,b,c)/\kI w (ei w a i) ys b c/\∀Z∈ys,Z.1=false->Z.2.2.1=0) _ ?_ N a.length _ (by omega) ⟨0,_,_,_,by omega,rfl,apZ w,λZ q _=>by rw[tl Z q];first|done|rfl⟩;rintro k d rec ⟨i,ys,b,c,hi,rfl,h,j⟩ r
 by_cases s:i<a.length
 ·have f:(i:Int)<(a.length:Int):=by omega
  have t:=g i s;obtain⟨u,A⟩:=yQ g i (by omega) (w:=w);have v:2 * w * i<=2 * 8 * 7:=mul_le_mul (by omega) (by omega);obtain⟨ys',m,jo,l,n,p⟩:=apQ aR hw h j (y:=(a.getD i 0-1).toNat) (by omega) (by omega);rw[show(((a.getD i 0-1).toNat:Nat):Int)+1=a.getD i 0 by omega]at l;have this:=r (k-1) ((i:Int)+1,[],[],[],own (ei w a (i+1)).1,ys',m,jo) (by omega) ⟨i+1,ys',m,jo,by omega,rfl,n,p⟩;simp only[aO,reduceCtorEq,f,bd l];refine⟨by omega,by omega,?_⟩;exact this
 ·have f:¬(i:Int)<(a.length:Int):=by omega
  simp only[aO,reduceCtorEq,f];have e:i=a.length:=by omega
  subst e;exact⟨ys,b,c,rfl,h,j⟩
theorem hb.ZP(aR:5000<N){cw}(dM:hB N=some cw)(hw:w<=8){s:iz}(h:hb w s f g ys)(l:∀Y∈ys,Y.1=true->Y.2.1=51)(q:∀i,i<w->s.2.2 i≠[]):∀i,i<=w ->
  dz N cw (oM i) (fm s.1 ys 0 f g) λst=>∃f' g',st=fm s.1 ys 0 f' g'/\k4 f' g'/\(∀k:Int,cp f' k=if 13<=k/\k<13+(i:Int)then cp g k++cp f k else cp f k)/\∀k:Int,cp g' k=if 13<=k/\k<13+(i:Int)then [] else cp g k
 |0,_=>⟨f,g,rfl,⟨h.gy.cx,h.gy.jx,by have:=h.gy.dy;omega⟩,λk=>by rw[if_neg (by omega)],λk=>by rw[if_neg (by omega)]⟩
 |i+1,hi=>by
  have t:=hb.ZP aR dM hw h l q i (by omega);have e:oM (i+1)=oM i++[oL 1 (13+(i:Int))]:=by
   unfold oM;rw[range_succ,map_append]
   rfl
  rw[e];refine dz.append ?_ t;rintro st ⟨f',g',rfl,z,o,n⟩;have m:cp g (13+(i:Int))=s.2.2 i:=by
   rw[show(13:Int)+(i:Int)=((13+i:Nat):Int) by omega,hC (by omega) (by omega),show 13+i-1=12+i by omega,h.El (by omega)]
  have p:cp f (13+(i:Int))=s.2.1 i:=by
   rw[show(13:Int)+(i:Int)=((13+i:Nat):Int) by omega,hC (by omega) (by omega),show 13+i-1=12+i by omega,h.Ba (by omega)]
  have J:(s.2.1 i).length<=1:=by rw[<- h.Ba (show i<w by omega)];exact h.gy.one.1 _
  have U:(s.2.2 i).length<=1:=by rw[<- h.El (show i<w by omega)];exact h.gy.one.2 _
  have d:cp g' (13+(i:Int))=s.2.2 i:=by rw[n,if_neg (by omega),m]
  have j:cp f' (13+(i:Int))=s.2.1 i:=by rw[o,if_neg (by omega),p]
  refine Pp aR dM h.gy.jy (λY bt ca=>by rw[l Y bt ca];decide) z (b:=1) (inr rfl) (a:=13+(i:Int)) (c:=13+(i:Int)) (by omega) (by omega) ⟨by decide,by decide⟩ (by rw[if_pos rfl];omega) (by rw[if_pos rfl,d];exact q i (by omega)) (by rw[if_pos rfl,if_pos rfl,d,j];omega) ?_;intro v g2 r y u;refine⟨v,g2,rfl,r,λk=>?_,λk=>?_⟩
  ·rw[y,if_pos rfl]
   by_cases ab:k=13+(i:Int)
   ·rw[if_pos ab,if_pos (by omega),ab,d,j,m,p]
   ·rw[if_neg ab,o]
    by_cases aa:13<=k/\k<13+(i:Int)
    ·rw[if_pos aa,if_pos (by omega)]
    ·rw[if_neg aa,if_neg (by omega)]
  ·rw[u,if_pos rfl]
   by_cases ab:k=13+(i:Int)
   ·rw[if_pos ab,if_pos (by omega)]
   ·rw[if_neg ab,n]
    by_cases aa:13<=k/\k<13+(i:Int)
    ·rw[if_pos aa,if_pos (by omega)]
    ·rw[if_neg aa,if_neg (by omega)]
theorem sum_add(a b:Nat->Nat):∀n,((range n).map λk=>a k+b k).sum=((range n).map a).sum+((range n).map b).sum
 |0=>rfl
 |n+1=>by
  rw[range_succ,map_append,map_append,map_append,sum_append,sum_append,sum_append,sum_add a b n];simp only[map_cons,List.map_nil,sum_cons,List.sum_nil];omega
theorem ap3(aF:f.length<=40)(a:g.length<=40)(b:f'.length<=40)(h:∀k,k<40->f'.getD k []=g.getD k []++f.getD k []):f'.flatten.Perm (f.flatten++g.flatten):=by
 rw[perm_iff_count];intro x;rw[count_append,px x aF,px x a,px x b];unfold D0;rw[<- sum_add]
 congr 1
 refine List.map_congr_left λk ab=>?_
 rw[List.mem_range]at ab;rw[h k ab,count_append,Nat.add_comm]
theorem P8(hi:i<w):(gG w)[i]?=some (13+i):=by
 unfold gG;rw[List.getElem?_map,List.getElem?_range hi]
 rfl
theorem ZS:a∈gG w↔13<=a/\a<13+w:=by
 unfold gG;rw[List.mem_map];constructor
 ·rintro⟨i,hi,rfl⟩
  rw[List.mem_range]at hi;omega
 ·intro h
  exact⟨a-13,by rw[List.mem_range];omega,by omega⟩
theorem hb.ap4(o:1<=w)(hw:w<=8){s:iz}{g':bF}(h:hb w s f g ys)(m:∀Y∈ys,Y.1=true->Y.2.1=51)(C:∀i,i<w->(s.2.1 i).length=1/\(s.2.2 i).length=1)(aA:y<6)(bt:ys[y]?=some Y)(ca:Y.1=true)(d:k4 f' g')(A:∀k:Int,cp f' k=if 13<=k/\k<13+(w:Int)then cp g k++cp f k else cp f k)(z:∀k:Int,cp g' k=if 13<=k/\k<13+(w:Int)then [] else cp g k) :
  g'=[]/\ri f' ys s.1 (gG w) y Y/\∀i,i<w->cp f' (13+(i:Int))=s.2.2 i++s.2.1 i:=by
 have ae:=(PO hw).2;have b:∀k,k<40->f'.getD k []=g.getD k []++f.getD k []/\g'.getD k []=[]:=λk ab=>by
  have J:=A ((k+1:Nat):Int);have U:=z ((k+1:Nat):Int);rw[hC (by omega) (by omega),hC (by omega) (by omega),hC (by omega) (by omega),Nat.add_sub_cancel]at J;rw[hC (by omega) (by omega),hC (by omega) (by omega),Nat.add_sub_cancel]at U
  by_cases aa:12<=k/\k<12+w
  ·rw[if_pos (by omega)]at J U
   exact⟨J,U⟩
  ·rw[if_neg (by omega)]at J U
   have q:g.getD k []=[]:=by rw[h.gk,if_neg aa]
   rw[q]at U;rw[q];exact⟨J,U⟩
 have F:g'=[]:=yz d.cx.gs qh λk=>by
  by_cases ab:k<40
  ·rw[(b k ab).2]
   cases k<;>rfl
  ·have:=d.cx.gv.len
   rw[getD_eq_getElem?_getD,getElem?_eq_none (by omega)];cases k<;>rfl
 subst F;have j:=ap3 h.gy.cx.e6.len h.gy.cx.gv.len d.cx.e6.len (λk ab=>(b k ab).1);have E:=j.length_eq;rw[length_append]at E;have G:=h.gy.dy;have B:=h.gy.all;have n:=mem_of_getElem? bt;have r:=j.nodup_iff.2 h.gy.jx;have t:ha f' ys s.1:=⟨d.cx,r,λc=>by
  have J:=h.gy.once c;rw[count_append]at J ⊢;rw[j.count_eq];exact J,by omega,h.gy.jy,h.gy.gR,h.gy.tok,by omega,h.gy.tb,h.gy.gE,h.gy.pA,h.gy.ih⟩
 have p:∀i,i<w->cp f' (13+(i:Int))=s.2.2 i++s.2.1 i:=λi hi=>by
  rw[show 13+(i:Int)=((13+i:Nat):Int) by omega,hC (by omega) (by omega),show 13+i-1=12+i by omega,(b (12+i) (by omega)).1,h.Ba hi,h.El hi]
 have l:(gG w).getD 0 0=13:=b1 (P8 o);refine⟨rfl,⟨t,ae,?_,?_,aA,bt,ca,?_,?_,λi Z hi v D=>?_,λa bl=>?_,λk ab=>?_,B⟩,p⟩
 ·unfold gG
  rw[length_map,length_range];exact o
 ·unfold gG
  rw[length_map,length_range];exact hw
 ·rw[l,m Y n ca]
  decide
 ·rw[h.nv Y n]
  exact zero_le _
 ·rw[l,m Z (mem_of_getElem? v) D]
  decide
 ·rw[ZS]at bl
  have:=p (a-13) (by omega)
  rw[show 13+((a-13:Nat):Int)=(a:Int) by omega]at this;have J:=C (a-13) (by omega);rw[this];refine⟨λe=>?_,by rw[length_append];omega⟩
  have:=congrArg List.length e
  rw[length_append,length_nil]at this;omega
 ·by_cases u:1<=k/\k<=40
  ·refine⟨k.toNat,?_,by omega⟩
   rw[ZS];rw[show k=((k.toNat:Nat):Int) by omega,hC (by omega) (by omega),(b _ (by omega)).1,h.mJ,h.gk]at ab
   by_cases aa:12<=k.toNat-1/\k.toNat-1<12+w
   ·omega
   ·rw[if_neg aa,if_neg aa]at ab
    exact absurd rfl ab
  ·exact absurd (by unfold cp;rw[if_neg u]) ab
theorem ZT(aR:5000<N)(dM:hB N=some cw){tb:List (Bool×cq)}{fl:bJ}:∀(ks:bR) (ys:b2),ks.Nodup->(∀q∈ks,∃(z:Nat) (Y:aU),z<6/\q=(z:Int)+1/\ys[z]?=some Y/\Y.1=true/\hn Y) ->
  dz N cw (ks.map I6) (0,[],[],tb,[],ys,fl) λst=>∃ys',st=(0,[],[],tb,[],ys',fl)/\∀(z:Nat) (a:aU),ys'[z]?=some a->((z:Int)+1∈ks->a.1=false)/\((z:Int)+1 ∉ ks->ys[z]?=some a)
 |[],ys,_,_=>⟨ys,rfl,λz a h=>⟨λh=>(by cases h),λ_=>h⟩⟩
 |q::ks,ys,bc,c=>by
  obtain⟨z,Y,bw,rfl,bt,ca,i⟩:=c q mem_cons_self;obtain⟨oi,t⟩:=List.nodup_cons.1 bc;have g:=ane aR bw bt i ca 0 [] [] tb [] fl;have az:=anc (anb N (y:=(z:Int)+1) ⟨by omega,by omega⟩) rfl 0 [] [] tb [] ys fl dM;rw[g]at az;have n:=(List.getElem?_eq_some_iff.1 bt).1;refine dz.append ?_ (dz.one az rfl);rintro st rfl;have m:=ZT aR dM (tb:=tb) (fl:=fl) ks (ys.set z (false,(0,(Y.2.2.1,(false,[]))))) t (λp f=>by
   obtain⟨s,a,J,U,ah,l⟩:=c p (List.mem_cons_of_mem _ f);refine⟨s,a,J,U,?_,l⟩;rw[getElem?_set,if_neg (λe=>oi (by rw[e,<- U];exact f))];exact ah)
  refine m.mono ?_;rintro st ⟨ys',rfl,r⟩;refine⟨ys',rfl,λk a ab=>?_⟩;obtain⟨o,d⟩:=r k a ab;refine⟨λh=>?_,λh=>?_⟩
  ·by_cases b:(k:Int)+1∈ks
   ·exact o b
   ·have ah:=d b
    have j:k=z:=by
     rcases List.mem_cons.1 h with h|h
     ·omega
     ·exact absurd h b
    rw[j,getElem?_set,if_pos rfl,if_pos n]at ah;cases ah
    rfl
  ·have ah:=d λaa=>h (List.mem_cons_of_mem _ aa)
   rw[getElem?_set,if_neg (λe=>h (by rw[<- e];exact mem_cons_self))]at ah;exact ah
theorem dz.Qa:∀ {l:dc} {s:hY},dz N cw l s Q->∃c,Q c/\dz N cw l s λst=>st=c
 |[],s,h=>⟨s,h,rfl⟩
 |o::l,s,h=>by
  obtain⟨q,d,J,U⟩:=h;obtain⟨c,a,b⟩:=U.Qa;exact⟨c,a,q,d,J,b⟩
theorem ZU(a:bR):∀n k,k<n->a.getD k 0∈fZ a n
 |0,k,h=>absurd h (Nat.not_lt_zero k)
 |n+1,k,h=>by
  have e:fZ a (n+1)=(if (fZ a n).elem (a.getD n 0)=true then fZ a n else fZ a n++[a.getD n 0]):=rfl;rw[e]
  by_cases ab:k<n
  ·have:=ZU a n k ab
   split
   ·exact this
   ·exact List.mem_append.2 (inl this)
  ·have b:k=n:=by omega
   subst b
   split
   ·rename_i aa
    rw[elem_eq_mem,decide_eq_true_eq]at aa;exact aa
   ·exact List.mem_append.2 (inr (by simp))
theorem ap7(v:1<=w)(hw:w<=8){a:bR}(k:∀i,i<a.length->1<=a.getD i 0/\a.getD i 0<=6)(J:1<=a.length)(X:a.length<=8) :
  ∃(bops:dc) (ys':b2) (f:bF) (Y:aU),AO (a.getD (a.length-1) 0) (lD w)=some (bops,bops.length,0)/\bops.length<=1000 /\
   (∀i,i<w->jS f (gG w) i=(ei w a a.length).2.2 i++(ei w a a.length).2.1 i)/\Y.2.2.2.2=[]/\Y.2.2.2.1=false/\Y.2.2.1=(((ei w a a.length).1.getD (a.getD (a.length-1) 0-1).toNat []).length:Int) /\
   v8 6000 Yo (qt (w:Int) a bops)=some ((0,(([],[]),(ys',(hq (ei w a a.length).1 (a.getD (a.length-1) 0-1).toNat Y (jS f (gG w)) w,([],([],[iQ (a.getD (a.length-1) 0-1).toNat Y.2.2.1 (w-1)])))))),((qt (w:Int) a bops).length:Int),0)/\∀Z∈ys',Z.1=false/\ys'.length<=6:=by
 have aR:5000<6000:=by decide
 obtain⟨cw,dM⟩:∃cw,hB 6000=some cw:=⟨_,rfl⟩
 obtain⟨y,G⟩:∃y:Nat,y=(a.getD (a.length-1) 0-1).toNat:=⟨_,rfl⟩
 have am:=k (a.length-1) (by omega);have aA:y<6:=by omega
 have A:a.getD (a.length-1) 0=(y:Int)+1:=by omega
 obtain⟨bops,H,ak⟩:=ao9 aA v hw;obtain⟨M,s⟩:∃M,M=((ei w a a.length).1.getD y []).length:=⟨_,rfl⟩
 obtain⟨aq,o⟩:=PX k (by omega) G (M:=M) (by rw[show a.length-1+1=a.length by omega];exact s);rw[show a.length-1+1=a.length by omega]at o;obtain⟨an,ay⟩:=yQ k a.length (Nat.le_refl _) (w:=w);have ao:2 * w * a.length<=2 * 8 * 8:=mul_le_mul (by omega) (by omega);have O:(gG w).length=w:=by unfold gG;rw[length_map,length_range]
 have E:(y:Int)+1∈fZ a a.length:=by
  rw[<- A];exact ZU a a.length (a.length-1) (by omega)
 have al:dz 6000 cw (qt (w:Int) a bops) (fm wD.1 (replicate 6 (bU.zero:aU)) 0 [] []) λst=>∃(f:bF) (Y:aU) (ys':b2),st=(0,[],[],own (hq (ei w a a.length).1 y Y (jS f (gG w)) w),[],ys',[iQ y Y.2.2.1 (w-1)])/\(∀i,i<w->jS f (gG w) i=(ei w a a.length).2.2 i++(ei w a a.length).2.1 i)/\Y.2.2.2.2=[]/\Y.2.2.2.1=false/\Y.2.2.1=(M:Int)/\∀Z∈ys',Z.1=false/\ys'.length<=6:=by
  unfold qt;rw[append_assoc,append_assoc];refine dz.append ?_ (PT aR dM hw v k X a.length (Nat.le_refl _));rintro st ⟨f,g,ys,rfl,b,cA⟩;have C:∀i,i<w->((ei w a a.length).2.1 i).length=1/\((ei w a a.length).2.2 i).length=1:=λi hi=>by
   rw[(o i hi).1,(o i hi).2];exact⟨rfl,rfl⟩
  have ax:=b.gy.jy;obtain⟨Y,bt⟩:∃Y,ys[y]?=some Y:=⟨_,getElem?_eq_getElem (by omega)⟩
  have D:=mem_of_getElem? bt;have ca:=(cA.key y Y bt).2 E;have I:Y.2.2.1=(M:Int):=by rw[s];exact b.gy.gE y Y bt
  refine dz.append ?_ (hb.ZP aR dM hw b cA.pl (λi hi e=>by have:=(C i hi).2;rw[e]at this;cases this) w (Nat.le_refl _));rintro st ⟨f',g',rfl,ai,aa,W⟩;obtain⟨rfl,L,af⟩:=b.ap4 v hw cA.pl C aA bt ca ai aa W;obtain⟨⟨ops,room,e⟩,ag,he,ar,_,u⟩:=ZA aR dM L (PO hw).1;have P:Dv 6000 ((y:Int)+1) (nZ (gG w))=some (bops,bops.length,0):=by rw[<- ZD];exact H
  rw[P]at ag;cases ag;refine dz.append ?_ u;rintro st rfl;rw[O];have m:∀q,q∈(kF λq=>(fZ a a.length).elem q)↔q∈fZ a a.length/\1<=q/\q<=6:=λq=>by
   unfold kF;rw[List.mem_filter,elem_eq_mem,decide_eq_true_eq];simp only[List.mem_cons,not_mem_nil,or_false];constructor
   ·rintro⟨h,U⟩
    exact⟨U,by omega⟩
   ·rintro⟨h,U⟩
    exact⟨by omega,h⟩
  have Q:tmod (4 * (((gG w).getD (w-1) 0:Nat):Int)+2+1) 2≠0/\-13<=4 * (((gG w).getD (w-1) 0:Nat):Int)+2+1/\4 * (((gG w).getD (w-1) 0:Nat):Int)+2+1<=179:=by
   rw[b1 (P8 (show w-1<w by omega))];exact(Yu (by omega) (by omega)).1
  have R:(kG ys y Y (gG w) (w-1))[y]?=some (true,4 * (((gG w).getD (w-1) 0:Nat):Int)+2+1,Y.2.2.1+((w-1:Nat):Int)+1,false,[]):=by
   unfold kG;rw[getElem?_set,if_pos rfl,if_pos (by omega)]
  have n:∀z,z≠y->(kG ys y Y (gG w) (w-1))[z]?=ys[z]?:=λz bw=>by
   unfold kG;rw[getElem?_set,if_neg (λe=>bw e.symm)]
  have au:M<=200:=by
   have J:=mH (t:=(ei w a a.length).1) y;omega
  refine(ZT aR dM (kF λq=>(fZ a a.length).elem q) _ (List.Pairwise.sublist List.filter_sublist (by decide)) (λq c=>?_)).mono ?_
  ·obtain⟨U,ah,B⟩:=(m q).1 c
   refine⟨(q-1).toNat,?_⟩
   by_cases bw:(q-1).toNat=y
   ·rw[bw]
    exact⟨_,aA,by omega,R,rfl,⟨by show 0<=Y.2.2.1+((w-1:Nat):Int)+1/\Y.2.2.1+((w-1:Nat):Int)+1<=2048;omega,λh=>(by cases h),λ_=>Q,by simp,λ_ h=>(by cases h),λi p q h=>by cases h⟩⟩
   ·obtain⟨Z,d⟩:∃Z,ys[(q-1).toNat]?=some Z:=⟨_,getElem?_eq_getElem (by omega)⟩
    refine⟨Z,by omega,by omega,by rw[n _ bw];exact d,(cA.key _ Z d).2 (by rw[show(((q-1).toNat:Nat):Int)+1=q by omega];exact U),b.gy.gR Z (mem_of_getElem? d)⟩
  ·rintro st ⟨ys',rfl,F⟩
   refine⟨f',Y,ys',rfl,λi hi=>?_,b.nv Y D,?_,I,λZ d=>?_⟩
   ·unfold jS
    rw[b1 (P8 hi),show((13+i:Nat):Int)=13+(i:Int) by omega];exact af i hi
   ·rw[b.ih Y D ca]
    exact decide_eq_false (by omega)
   ·refine⟨?_,Nat.le_of_not_lt λc=>?_⟩
    rotate_left
    ·have l:=(F 6 _ (getElem?_eq_getElem c)).2 λh=>by have:=((m _).1 h).2;omega
     rw[n 6 (by omega),getElem?_eq_none (by omega)]at l;cases l
    obtain⟨z,bw⟩:=List.mem_iff_getElem?.1 d;obtain⟨ae,l⟩:=F z Z bw
    by_cases j:((z:Int)+1)∈(kF λq=>(fZ a a.length).elem q)
    ·exact ae j
    ·have ah:=l j
     have aj:z≠y:=λe=>j ((m _).2 ⟨by rw[e];exact E,by omega,by omega⟩)
     rw[n z aj]at ah;have av:=(List.getElem?_eq_some_iff.1 ah).1;cases c:Z.1 with
     |false=>rfl
     |true=>exact absurd ((m _).2 ⟨(cA.key z Z ah).1 c,by omega,by omega⟩) j
 obtain⟨aw,⟨f,Y,ys',rfl,U,ah,B,N,T⟩,u⟩:=al.Qa;have aB:=I5 (w:Int) a (by omega) a.length;have az:=Zp (λq=>(fZ a a.length).elem q);have K:ha [] (replicate 6 (bU.zero:aU)) (replicate 6 []):=⟨pB.cx,nodup_nil,pB.once,zero_le _,pB.jy,pB.gR,pB.tok,by have:=pB.all;omega,pB.tb,pB.gE,pB.pA,pB.ih⟩
 have ap:=wH (t:=(ei w a a.length).1) (ti:=y) (by omega) w (Y:=Y) (S:=jS f (gG w));have ac:(qt (w:Int) a bops).length<=4000:=by
  unfold qt oM;rw[length_append,length_append,length_append,length_map,length_map,length_range,toNat_natCast];omega
 have V:=ao2 aR dM K ac (t':=hq (ei w a a.length).1 y Y (jS f (gG w)) w) (ys':=ys') (by omega) (λr ab=>by
  obtain⟨z,bw⟩:=List.mem_iff_getElem?.1 ab;have J:=mH (t:=hq (ei w a a.length).1 y Y (jS f (gG w)) w) z;rw[b1 bw]at J;omega) u
 rw[<- G];refine⟨bops,ys',f,Y,by rw[A];exact H,ak,U,ah,B,by rw[N,s],?_,T⟩;exact V
theorem ZV{Z:aU}{S R:Nat->bJ}(J:Y.2.2.1=Z.2.2.1)(U:Y.2.2.2=Z.2.2.2):∀n,(∀i,i<n->S i=R i)->hq t y Y S n=hq t y Z R n
 |0,_=>rfl
 |n+1,h=>by
  have a:Bc Y n=Bc Z n:=by cases n<;>simp[Bc,U]
  have b:tk y Y.2.2.1 S n=tk y Z.2.2.1 R n:=by cases n<;>simp[tk,J,h _ (Nat.lt_succ_self _)]
  have c:mL y Y n=mL y Z n:=by cases n<;>simp[mL,J,U]
  show eS (hq t y Y S n) y _=eS (hq t y Z R n) y _;rw[ZV J U n λi hi=>h i (by omega),a,b,c]
theorem ZW(aA:y<t.length)(bj:∀r∈t,∀x∈r,x.2.2.1.length<=4096/\x.2.2.2.length<=4096){Y:aU}(an:Y.2.2.2.2=[]){S:Nat->bJ}:∀n,(∀i,i<n->(S i).length<=4)->∀r∈hq t y Y S n,∀x∈r,x.2.2.1.length<=4096/\x.2.2.2.length<=4096
 |0,_=>bj
 |n+1,b=>by
  intro r d x ak;have c:=ZW aA bj an n λi hi=>b i (by omega)
  have a:r∈eS (hq t y Y S n) y (0,(Bc Y n,(tk y Y.2.2.1 S n,mL y Y n))):=d
  rcases List.mem_or_eq_of_mem_set a with a|rfl
  ·exact c r a x ak
  ·rcases List.mem_append.1 ak with ak|ak
   ·refine c _ ?_ x ak
    have ag:=wH aA n (Y:=Y) (S:=S);rw[getD_eq_getElem?_getD,getElem?_eq_getElem (by omega)];exact getElem_mem _
   ·rw[List.mem_singleton]at ak
    subst ak
    have:=b n (Nat.lt_succ_self n)
    refine⟨?_,?_⟩
    ·show(tk y Y.2.2.1 S n).length<=4096
     cases n<;>simp only[tk,length_cons]<;>omega
    ·show(mL y Y n).length<=4096
     cases n<;>simp[mL,an]
theorem aqc(aR:5000<N)(I:1<=w)(hw:w<=8){a:bR}(c:∀i,i<a.length->1<=a.getD i 0/\a.getD i 0<=6)(J:1<=a.length)(E:a.length<=8)(H:uP (w:Int) a=0) :
  ∃(Y:aU),Y.2.2.1=(((ei w a a.length).1.getD (a.getD (a.length-1) 0-1).toNat []).length:Int)/\Y.2.2.2.1=false/\Y.2.2.2.2=[] /\
   yV N ((w:Int),a)=some ((hq (ei w a a.length).1 (a.getD (a.length-1) 0-1).toNat Y (λi=>(ei w a a.length).2.2 i++(ei w a a.length).2.1 i) w,([],([],[iQ (a.getD (a.length-1) 0-1).toNat Y.2.2.1 (w-1)]))),0):=by
 obtain⟨o,s,ys,D,G,rfl,b,F⟩:=ap0 aR hw c E;have P:=c (a.length-1) (by omega);obtain⟨y,h⟩:∃y:Nat,y=(a.getD (a.length-1) 0-1).toNat:=⟨_,rfl⟩
 have aA:y<6:=by omega
 have u:a.getD (a.length-1) 0=(y:Int)+1:=by omega
 obtain⟨M,e⟩:∃M,M=((ei w a a.length).1.getD y []).length:=⟨_,rfl⟩
 obtain⟨R,_⟩:=PX c (by omega) h (M:=M) (by rw[show a.length-1+1=a.length by omega];exact e);obtain⟨Q,W⟩:=yQ c a.length (Nat.le_refl _) (w:=w);have V:=b.jy;obtain⟨Y,bt⟩:∃Y,ys[y]?=some Y:=⟨_,getElem?_eq_getElem (by omega)⟩
 have g:=mem_of_getElem? bt;have n:Y.2.2.1=(M:Int):=by rw[e];exact b.gE y Y bt
 have ca:Y.1=true:=by
  cases aq:Y.1 with
  |true=>rfl
  |false=>have:=F Y g aq;omega
 obtain⟨ys',ag⟩:=apY aR I hw b aA bt ca;have p:=wH (t:=(ei w a a.length).1) (ti:=y) (by omega) w (Y:=Y) (S:=λi=>(ei w a a.length).2.2 i++(ei w a a.length).2.1 i);obtain⟨t,c6⟩:∃t,t=hq (ei w a a.length).1 y Y (λi=>(ei w a a.length).2.2 i++(ei w a a.length).2.1 i) w:=⟨_,rfl⟩
 rw[<- c6]at ag p;have cR:∀r:ad×Int×List (Bool×cq)×b2×bF×bF,r.2.2.1=own t->T (P5 N r N ((0:Int),[],[],[],own t)) λq=>q.1=[]/\q.2.1=[]/\q.2.2.2.map (·.2)=t:=by
  intro r l;refine kB (λk d=>∃(i:Nat) (z:List (Bool×cq)),i+k=t.length/\d=((i:Int),[],[],[],z)/\z.map (·.2)=t/\∀j,i<=j->z[j]?=(own t)[j]?) _ ?_ N t.length _ (by omega) ⟨0,_,by omega,rfl,OO t,λ_ _=>rfl⟩;rintro k d rec ⟨i,z,hi,rfl,bw,gn⟩ B;have L:z.length=t.length:=by rw[<- bw,length_map]
  by_cases C:i<t.length
  ·obtain⟨x,ak⟩:∃x,t[i]?=some x:=⟨_,getElem?_eq_getElem C⟩
   have v:=(gn i (Nat.le_refl _)).trans (XQ ak);have f:(i:Int)<(t.length:Int):=by omega
   have this:=B (k-1) ((i:Int)+1,[],[],[],z.set i (false,x)) (by omega) ⟨i+1,z.set i (false,x),by omega,rfl,by rw[List.map_set,bw,s6 ak],λj U=>by
    rw[getElem?_set,if_neg (by omega)];exact gn j (by omega)⟩
   simp only[aO,reduceCtorEq,l,rb,f,L,b1 v,bd (amu N x)]
   and_intros<;>first|omega|exact this
  ·have f:¬(i:Int)<(t.length:Int):=by omega
   simp only[aO,reduceCtorEq,l,rb,f];exact bw
 refine⟨Y,by rw[<- h,n,e],?_,b.nv Y g,?_⟩
 ·rw[b.ih Y g ca]
  exact decide_eq_false (by omega)
 rw[<- h,<- c6];have A:Ax N=some ([],[],[],own (replicate 6 [])):=rfl;have K:fh 24 (w:Int)=true:=(JM (by omega)).2 ⟨by omega,by omega⟩;have m:((a.length:Int)-1).toNat=a.length-1:=by omega
 have O:Ey N ((w:Int),a) N ((0:Int),[],[],[],own (replicate 6 []),replicate (6:Int).toNat (bU.zero:aU),replicate w [],replicate w [])=some (.inl ([],[],[],own (ei w a a.length).1,ys,D,G)):=s;unfold yV;rw[Zi H]
 apply T.eq
 simp only[aO,bd A,K,bd O,m,u,bd ag];refine⟨by omega,by omega,(cR _ rfl).mono ?_⟩;rintro⟨dA,e1,iI,jF⟩ ⟨rfl,rfl,ah⟩;rw[ah]
theorem aqf{t:Int}(h:0<=t/\t<3):IntKind.wrap .u8 (1+t)=1+t/\1<=1+t/\1+t<=3:=by
 have:t=0\/t=1\/t=2:=by omega
 rcases this with rfl|rfl|rfl<;>decide
theorem aqg(aR:5000<N)(x:Int×bR)(n:0<=x.1)(ak:∀z∈x.2,0<=z):T (Ji N x) λr=>∃w:Nat,r.1=(w:Int)/\1<=w/\w<=8/\1<=r.2.length/\r.2.length<=8/\∀y∈r.2,1<=y/\y<=3:=by
 have bj:=Xf x.1 8 n (by decide);obtain⟨W,ck⟩:∃W,W=(1:Int)+tmod x.1 8:=⟨_,rfl⟩
 have cR:T (PW N x N ((0:Int),W,([]:bR))) λr=>r.1=W/\r.2.length<=8/\∀y∈r.2,1<=y/\y<=3:=by
  unfold PW;refine kB (λk d=>∃(i:Nat) (l:bR),i+k=8/\d=((i:Int),W,l)/\l.length=i/\∀y∈l,1<=y/\y<=3) _ ?_ N 8 _ (by omega) ⟨0,[],rfl,rfl,rfl,λy aA=>by cases aA⟩;rintro k d rec ⟨i,l,hi,rfl,ao,aA⟩ j
  by_cases m:i<x.2.length/\i<8
  ·obtain⟨a,bl⟩:∃a,x.2[i]?=some a:=⟨_,getElem?_eq_getElem m.1⟩
   have c:=aqf (Xf a 3 (ak a (mem_of_getElem? bl)) (by decide));have g:(i:Int)<(x.2.length:Int):=by omega
   have h:(i:Int)<8:=by omega
   have this:=j (k-1) ((i:Int)+1,W,l++[1+tmod a 3]) (by omega) ⟨i+1,l++[1+tmod a 3],by omega,rfl,by rw[length_append,ao];rfl,λy h6=>by
    rcases List.mem_append.1 h6 with h6|h6
    ·exact aA y h6
    ·rw[List.mem_singleton]at h6
     rw[h6];exact c.2⟩
   simp only[aO,reduceCtorEq,g,h,b1 bl,c.1,length_singleton,ao]
   and_intros<;>first|omega|(simp only[dU];omega)|exact this|trivial
  ·have g:¬((i:Int)<(x.2.length:Int)/\(i:Int)<8):=by omega
   have f:cond (decide ((i:Int)<(x.2.length:Int))) (decide ((i:Int)<(8:Int))) false=false:=by
    rw[Xk,decide_eq_false_iff_not,decide_eq_false_iff_not];omega
   show T (cond (cond (decide ((i:Int)<(x.2.length:Int))) (decide ((i:Int)<(8:Int))) false) _ _) _;rw[f,cond_false];simp only[aO];exact⟨by omega,aA⟩
 unfold Ji;rw[<- ck];simp only[aO];refine⟨by omega,cR.mono ?_⟩;rintro⟨c9,l⟩ ⟨rfl,aqi,aA⟩;have e:c9=((c9.toNat:Nat):Int):=by omega
 by_cases f:l.length=0
 ·have b:(l.length:Int)=0:=by omega
  simp only[aO,b];exact⟨c9.toNat,e,by omega,by omega,Nat.le_refl _,by decide,λy aA=>by rw[List.mem_singleton]at aA;omega⟩
 ·have b:¬(l.length:Int)=0:=by omega
  simp only[aO,b];exact⟨c9.toNat,e,by omega,by omega,by omega,aqi,aA⟩
theorem aqj(aR:5000<N){r:mu×Int×Int}(b:r.1.2.2.1=ys)(h:∀Z∈ys,Z.1=false/\ys.length<=6):ZM N r N (0:Int)=some (.inl ()):=by
 have ao:ys.length<=6:=by
  cases ys with
  |nil=>exact zero_le _
  |cons Z _=>exact(h Z mem_cons_self).2
 refine ek (λk d=>∃i:Nat,i+k=ys.length/\d=(i:Int)) _ ?_ N ys.length _ (by omega) ⟨0,by omega,rfl⟩;rintro k d rec ⟨i,hi,rfl⟩ e
 apply T.eq
 by_cases f:i<ys.length
 ·obtain⟨Z,c⟩:∃Z,ys[i]?=some Z:=⟨_,getElem?_eq_getElem f⟩
  have a:(i:Int)<(ys.length:Int):=by omega
  have this:T (rec ((i:Int)+1)) (·=.inl ()):=⟨_,e (k-1) _ (by omega) ⟨i+1,by omega,rfl⟩,rfl⟩
  simp only[aO,reduceCtorEq,b,a,b1 c,(h Z (mem_of_getElem? c)).1]
  and_intros<;>first|omega|exact this
 ·have a:¬(i:Int)<(ys.length:Int):=by omega
  simp only[aO,reduceCtorEq,b,a]
theorem aqk(A:AU=some true)(x:Int×bR)(E:0<=x.1)(ak:∀z∈x.2,0<=z):Jq 6000 x=some true:=by
 have aR:5000<6000:=by decide
 unfold Jq
 apply T.eq
 simp only[AW];refine(aqg aR x E ak).mono ?_;rintro⟨W,rs⟩ ⟨w,ck,ic,Qd,hK,AT,ZZ⟩;dsimp only at ck hK AT ZZ;subst ck;have a:∀i,i<rs.length->1<=rs.getD i 0/\rs.getD i 0<=6:=λi hi=>by
  have:=ZZ (rs.getD i 0) (by rw[getD_eq_getElem?_getD,getElem?_eq_getElem hi];exact getElem_mem hi)
  omega
 have m:uP (w:Int) rs=0:=by
  unfold uP;rw[if_neg (by omega),if_neg (by omega),if_pos];unfold Zh;rw[List.all_eq_true];intro i hi;rw[List.mem_range]at hi
  have:=a i hi
  unfold En;rw[decide_eq_true this.1,decide_eq_true this.2]
  rfl
 have P:=a (rs.length-1) (by omega);obtain⟨y,H⟩:∃y:Nat,y=(rs.getD (rs.length-1) 0-1).toNat:=⟨_,rfl⟩
 obtain⟨bops,ys',f,Y,K,V,g,an,I,aa,l,L⟩:=ap7 ic Qd a hK AT;obtain⟨Z,e,G,F,c⟩:=aqc aR ic Qd a hK AT m;have B:=aoN (w:Int) rs m (bops:=bops) (by rw[toNat_natCast];exact K) (by omega);have cA:Jh 6000 ((w:Int),rs)=some (qt (w:Int) rs bops,(qt (w:Int) rs bops).length,0):=by
  unfold Jh;rw[B]
  rfl
 rw[<- H]at aa e l c;have D:Z.2.2.2=Y.2.2.2:=Prod.ext (G.trans I.symm) (F.trans an.symm);obtain⟨M,R⟩:=yQ a rs.length (Nat.le_refl _) (w:=w);have N:2 * w * rs.length<=2 * 8 * 8:=mul_le_mul (by omega) (by omega);have s:∀i,i<w->(jS f (gG w) i).length<=4:=λi hi=>by
  rw[g i hi];obtain⟨_,d⟩:=PX (w:=w) a (k:=rs.length-1) (by omega) rfl rfl;rw[show rs.length-1+1=rs.length by omega]at d;rw[(d i hi).1,(d i hi).2];show 2<=4
  decide
 rw[show hq (ei w rs rs.length).1 y Z (λi=>(ei w rs rs.length).2.2 i++(ei w rs rs.length).2.1 i) w=hq (ei w rs rs.length).1 y Y (jS f (gG w)) w from ZV (e.trans aa.symm) D w λi hi=>(g i hi).symm,e.trans aa.symm]at c;have O:=wH (t:=(ei w rs rs.length).1) (ti:=y) (by omega) w (Y:=Y) (S:=jS f (gG w));obtain⟨cw,dM⟩:∃cw,hB 6000=some cw:=⟨_,rfl⟩
 obtain⟨_,⟨f',g',Q,_,C,_⟩,_⟩:=(PT aR dM Qd ic a AT rs.length (Nat.le_refl _)).Qa;obtain⟨aT,o⟩:=C.gy.tok;have q:=ZW (t:=(ei w rs rs.length).1) (y:=y) (by omega) (λr b x ak=>by
  obtain⟨j,v⟩:=List.mem_iff_getElem?.1 b;obtain⟨n,bc⟩:=List.mem_iff_getElem?.1 ak;have p:ig (ei w rs rs.length).1 ((j:Int)+1,(n:Int))=some x:=by rw[s7,b1 v,bc]
  have J:=o.yw _ x p;have U:=o.Iw _ x p;exact⟨by omega,by omega⟩) an w s
 have u:=ang aR (t:=hq (ei w rs rs.length).1 y Y (jS f (gG w)) w) (by omega) (λr b=>by
  obtain⟨z,bw⟩:=List.mem_iff_getElem?.1 b;have J:=mH (t:=hq (ei w rs rs.length).1 y Y (jS f (gG w)) w) z;rw[b1 bw]at J;exact⟨by omega,q r b⟩) (ids:=[]) (fl:=[iQ y Y.2.2.1 (w-1)]) (zero_le _) (by show 1<=4000;decide)
 have cY:AG 6000 (([],[]):hI)=some 0:=by kernel_rfl
 have cR:=aqj aR (r:=((0,(([],[]),(ys',(hq (ei w rs rs.length).1 y Y (jS f (gG w)) w,([],([],[iQ y Y.2.2.1 (w-1)])))))),((qt (w:Int) rs bops).length:Int),0)) rfl L;simp only[aO,reduceCtorEq,bd cA,am5,bd l,bd c,bd u,bd cY,bd cR,bd A];exact λh=>h rfl
end
section
open Go.ChangeShapes Go.WideShapes Go.ChangeAt Go.WideElems Go.RowKit
theorem Z0{x:Int}(h:IntKind.u8.min<=x/\x<=IntKind.u8.max):0<=x:=h.1
theorem aqo(a:Int×bR)(c0:Option Nat)(r:Bool)(h:Jq 6000 a=some r):AC bD 4 [.agg [.val (.int .u8 a.1),.bz (.int .u8) a.2 none]] [] (λsv h=>sv=.c (.val (.bool r))/\h=[]):=
 (apH 6000).ok (a,()) r h
theorem aqp{W:World}(h:laidMetH prog Rows.roundsMeansRow.laid W):zc bD (λb=>b<W.heap.size) W:=by
 rw[MakeChecks.laidMetH_plain _ _ _ (by kernel_rfl)]at h;obtain⟨ps,⟨ab,ar,P,U,J,az,aq,Q,ap,ag,⟨ac,au,K,V,aj,R,S,H,an,nA,⟨g2,av,L,X,ah,T,d,D,A,lM,⟨ad,aw,M,Y,ao,ai,e,j,l,m,⟨ae,ax,N,Z,G,al,a,o,p,g,⟨af,ay,O,aa,I,am,c,q,r,s,_,_⟩,_⟩,_⟩,_⟩,_⟩,_⟩,_,_⟩:=h;have z:=Fy a (by kernel_rfl:_=some 0);subst z;have t:=Fz o (by kernel_rfl:_=some 185);subst t;have f:=Sa (zs:=o3) (n:=9) underlying185 underlying9 (by kernel_rfl) (by kernel_rfl) g;have y:=Fy c (by kernel_rfl:_=some 1);subst y;have u:=Fz q (by kernel_rfl:_=some 187);subst u;have F:=Sa (zs:=vg) (n:=2) underlying187 underlying9 (by kernel_rfl) (by kernel_rfl) s;have w:=Fy e (by kernel_rfl:_=some 2);subst w;have E:=Fz j (by kernel_rfl:_=some 283);subst E;have C:=Lib.cells_of_tab (zs:=lf) (k:=.i64) (n:=2) underlying283 underlying3 (by kernel_rfl) (by kernel_rfl) m;have v:=Fy d (by kernel_rfl:_=some 3);subst v;have B:=Fz D (by kernel_rfl:_=some 311);subst B;have cC:=Lib.cells_of_tab (zs:=Lib.pow10Tab) (k:=.u64) (n:=20) underlying311 underlying220 (by kernel_rfl) (by kernel_rfl) lM;intro i x ak;have hi:i=0\/i=1\/i=2\/i=3:=by
  match i,ak with
  |0,_=>exact .inl rfl
  |1,_=>exact .inr (.inl rfl)
  |2,_=>exact .inr (.inr (.inl rfl))
  |3,_=>exact .inr (.inr (.inr rfl))
  |_+4,h=>cases h
 rcases hi with rfl|rfl|rfl|rfl
 ·cases ak
  exact Fx a p (by rw[f];exact KM _)
 ·cases ak
  exact Fx c r (by rw[F];exact KM _)
 ·cases ak
  exact Fx e l (by rw[C];exact KL _)
 ·cases ak
  exact Fx d A (by rw[cC];exact KL _)
theorem aqA(os:Os)(args:Array Value):laidMetH prog Rows.roundsMeansRow.laid ((World.doorLaid prog 400 os).forCall (λ_ _=>0) ⟨#[],args,[]⟩).memory:=
 laidMetH_of_parts3 (fuel:=8) (laidMet_of_run' 8 (by kernel_rfl) (by kernel_rfl)) (by kernel_rfl) (by kernel_rfl)
theorem aqB:∀t∈f4.params.toList,prog.readableRec t=true/\t<prog.types.size:=by
 rw[params4];intro t bj;simp only[List.mem_cons,not_mem_nil,or_false]at bj
 rcases bj with rfl<;>exact⟨by kernel_rfl,of_decide_eq_true (by kernel_rfl)⟩
theorem aqC(os:Os)(started:os.Started)(H:Type)(enc:TypeId×Value->H) :
  ReturnsInHanded {} checked os 4 .any (λw args=>(Rows.roundsMeansSpec.pre enc prog f4 [] false w args/\laidMetH prog Rows.roundsMeansRow.laid w)/\sizedMet enc prog f4 (OpenSpec.ofChange Rows.roundsMeansSpec) false w args)
   (Rows.roundsMeansSpec.post enc prog f4 false true false false):=by
 refine returnsInHanded_of_change_and (C:=checked) (X:=λw _=>laidMetH prog Rows.roundsMeansRow.laid w) (λ_ _ _ m h=>h.of_heap m) Tryz.own started (by kernel_rfl) func4
  (ChangeSpec.witness_shaped (enc:=enc) (C:=checked) (os:=os) (X:=λw _=>laidMetH prog Rows.roundsMeansRow.laid w) false (World.doorLaid prog 400 os) #[.agg #[.int .u8 0,.slice none 0 0]] 8 rfl (World.shaped_of_RefB (by kernel_rfl) (by kernel_rfl)) (by kernel_rfl) (by kernel_rfl) (by kernel_rfl) (aqA os _)) ?_
 intro W base args aK gs before k ck _ _ cR _;have c:∀(j:Nat) t v,f4.params[j]?=some t->args[j]?=some v->Value.okWide prog W .any base t v:=k;have d:=ck;obtain⟨p,q,n,o,rfl,s,y⟩:=ck;have ae:DataW.TrodAll enc prog W 0 (λ_=>true) true f4.params.toList args.toList aK p:=n;rw[params4]at ae c;obtain⟨v0,d0,rfl,rfl,i⟩:=trodAll_one ae;obtain⟨rfl,rfl⟩:=trodVars_none o;obtain⟨a,b,r⟩:=aea (g:=(.pair (.int .u8) (.ax (.int .u8)))) ba rfl rfl (by kernel_rfl) (c 0 24 v0 rfl rfl) i;have l:=AC.law (W:=W) (aqo a none true (aqk aoF a (Z0 b.1) (λx ak=>Z0 (b.2 x ak)))) (aqp cR) (vs:=[v0]) ⟨v0,_,rfl,r _ _ rfl,rfl⟩;refine Calls.mono l λe u ⟨v,he,f,hw⟩=>?_
 subst f;exact⟨_,he,abb d rfl rfl (by kernel_rfl) underlying4 Tryz.laidOut aqB hw⟩
theorem aqF:Rows.RoundsMeansSaid:=
 OpenClaim.holds_of_wide 4 f4 rfl rfl rfl rfl rfl rfl rfl ⟨rfl,rfl,rfl,rfl,rfl⟩ rfl rfl rfl rfl rfl (by kernel_rfl) func4 (by kernel_rfl)
  (of_decide_eq_true (by kernel_rfl)) (by unfold Func.isWrapper;first|(rw[if_pos (by decide +kernel)];kernel_rfl)|(rw[if_neg (by decide +kernel)];exact⟨rfl,rfl⟩))
  (λos started H enc _=>aqC os started H enc)
theorem roundsMeans_holds:Rows.RoundsMeansCardSaid:=
 Claim7.holds_tied_plain_at .later [] [.data,.data,.data,.data,.data,.data] true Rows.roundsMeansCard.stood.harness false
  aqF (λ_ h=>by cases h) (by kernel_rfl) (λ_ h=>by cases h) roundsMeans_row_tie rfl ⟨rfl,rfl⟩ (by kernel_rfl) rfl
  (λf fn aF a=>by
   obtain rfl:f=4:=Option.some.inj (aF.symm.trans (by kernel_rfl));obtain rfl:fn=f4:=(Option.some.inj (func4.symm.trans a)).symm;exact⟨by kernel_rfl,λj t bj=>by
    rw[params4]at bj;have c:t∈[24]:=by simpa using Array.mem_of_getElem? bj
    have b:([24].all λu=>!prog.wantsStandIn u)=true:=by kernel_rfl
    exact(show prog.wantsStandIn t=false by simpa using List.all_eq_true.1 b t c)⟩)
  (by kernel_rfl)
end
end
end Go.Proofs.YtijeenjclhajhaaGreatDoor
