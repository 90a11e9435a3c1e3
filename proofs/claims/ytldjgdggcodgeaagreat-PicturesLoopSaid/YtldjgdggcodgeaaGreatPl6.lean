/- PicturesLoop: for every chart of the law, every row and every column, whatever the memory and the order that Go leaves open, the law returns true, and its arguments read as before. No condition. -/
import Derived.Test.YtldjgdggcodgeaaGreatPl5
import Derived.Test.YtldjgdggcodgeaaGreatRows
import Derived.ChangeMaps5
set_option linter.unusedSimpArgs false
set_option linter.unusedVariables false
set_option maxRecDepth 100000
namespace Go.Proofs.YtldjgdggcodgeaaGreat
open Go.RowKit
theorem pair_eta{α β:Type} (p:α×β):(p.1,p.2)=p:=rfl
def own{α:Type} (t:List (List α)):List (Bool×List α):=t.map fun x=>(true,x)
theorem qd{α:Type} (t:List (List α)):(own t).length=t.length:=by simp[own]
theorem own_at{α:Type} {t:List (List α)} {j:Nat} {x:List α} (h:t[j]?=some x):(own t)[j]?=some (true,x):=by simp[own,h]
theorem own_get{α:Type} {t:List (List α)} {j:Nat} {x:List α} (h:t[j]?=some x):(own t).getD j (false,[])=(true,x):=zv (own_at h)
theorem own_set{α:Type} (t:List (List α)) (j:Nat) (x:List α):(own t).set j (true,x)=own (t.set j x):=by simp[own,List.map_set]
theorem own_map{α:Type} (t:List (List α)):(own t).map (·.2)=t:=by simp[own,Function.comp_def]
theorem own_same{α:Type} {t:List (List α)} {j:Nat} {x:List α} (h:t[j]?=some x):(own t).set j (true,x)=own t:=by rw[own_set,set_same h]
theorem own_nil{α:Type} (n:Nat):List.replicate n ((true,[]):Bool×List α)=own (List.replicate n []):=by simp[own]
theorem tall_take{t:List (List zj)} {j:Nat} {x:List zj} (h:t[j]?=some x):zF (t.take (j+1))=zF (t.take j)+x.length:=by
 obtain⟨h1,h2⟩:=List.getElem?_eq_some_iff.1 h;unfold zF;rw[List.take_succ_eq_append_getElem h1,h2]
 simp
theorem tall_take_le(t:List (List zj)) (j:Nat):zF (t.take j)<=zF t:=by
 unfold zF;have h:((t.take j).map List.length++(t.drop j).map List.length).sum=_:=List.sum_append;rw[<- List.map_append,List.take_append_drop]at h;omega
theorem lcount_ok{N:Nat} (t:List (List zj)) (hN:t.length < N) (h:t.length<=100000) (h2:zF t<=100000):m_lcount N t=some (zF t:Int):=by
 have hL:m_lcount_L1 N t N ((0:Int),(0:Int))=some (zF t:Int):=by
  unfold m_lcount_L1;refine zg (fun k d=>∃ j:Nat,j+k=t.length/\d=((zF (t.take j):Int),(j:Int))) _ ?_ N t.length _ (by omega) ⟨0,by omega,by simp[zF]⟩;rintro k d rec ⟨j,hj,rfl⟩ hrec
  apply T.eq
  by_cases hlt:j < t.length
  ·obtain⟨x,hx⟩:∃ x,t[j]?=some x:=⟨_,List.getElem?_eq_getElem hlt⟩
   have hltI:(j:Int) < (t.length:Int):=by omega
   have hf:=tall_take hx;have hl:=tall_take_le t (j+1);have this:T (rec ((zF (t.take j):Int)+(x.length:Int),(j:Int)+1)) (·=(zF t:Int)):=⟨_,hrec (k - 1) _ (by omega) ⟨j+1,by omega,by rw[hf]; rfl⟩,rfl⟩
   simp only[tq,Int.reduceEq,Int.reduceLT,Int.reduceLE,reduceCtorEq,hltI,zv hx]
   (repeat' apply And.intro)<;>first | omega | (simp only[LL]; omega) | exact this | rfl | trivial
  ·have hltI:¬ (j:Int) < (t.length:Int):=by omega
   simp only[tq,Int.reduceEq,Int.reduceLT,Int.reduceLE,reduceCtorEq,hltI];rw[List.take_of_length_le (by omega)]
 unfold m_lcount;rw[hL,Option.bind_some]
theorem lcountT_ok{N:Nat} (t:List (List zj)) (hN:t.length < N) (h:t.length<=100000) (h2:zF t<=100000):m_lcountT N (own t)=some ((zF t:Int),own t):=by
 have hL:m_lcountT_L1 N (own t) N ((0:Int),(0:Int),own t)=some ((zF t:Int),own t):=by
  unfold m_lcountT_L1;refine zg (fun k d=>∃ j:Nat,j+k=t.length/\d=((zF (t.take j):Int),(j:Int),own t)) _ ?_ N t.length _ (by omega) ⟨0,by omega,by simp[zF]⟩;rintro k d rec ⟨j,hj,rfl⟩ hrec
  apply T.eq
  by_cases hlt:j < t.length
  ·obtain⟨x,hx⟩:∃ x,t[j]?=some x:=⟨_,List.getElem?_eq_getElem hlt⟩
   have hltI:(j:Int) < (t.length:Int):=by omega
   have hf:=tall_take hx;have hl:=tall_take_le t (j+1);have this:T (rec ((zF (t.take j):Int)+(x.length:Int),(j:Int)+1,own t)) (·=((zF t:Int),own t)):=⟨_,hrec (k - 1) _ (by omega) ⟨j+1,by omega,by rw[hf]; rfl⟩,rfl⟩
   simp only[tq,Int.reduceEq,Int.reduceLT,Int.reduceLE,reduceCtorEq,qd,hltI,own_get hx,own_same hx]
   (repeat' apply And.intro)<;>first | omega | (simp only[LL]; omega) | exact this | rfl | trivial
  ·have hltI:¬ (j:Int) < (t.length:Int):=by omega
   simp only[tq,Int.reduceEq,Int.reduceLT,Int.reduceLE,reduceCtorEq,qd,hltI];rw[List.take_of_length_le (by omega)]
 unfold m_lcountT;rw[hL,Option.bind_some]
theorem joinST_ok{N:Nat} (t:List (List zB)) (hN:t.length < N) (h:t.length<=100000) (h2:t.flatten.length<=100000):m_joinST N (own t)=some (t.flatten,own t):=by
 have h3:m_joinST_L1 N (own t) N ((0:Int),(0:Int),own t)=some ((t.flatten.length:Int),own t):=by
  unfold m_joinST_L1;refine zg (fun k d=>∃ j:Nat,j+k=t.length/\d=(((t.take j).flatten.length:Int),(j:Int),own t)) _ ?_ N t.length _ (by omega) ⟨0,by omega,by simp⟩;rintro k d rec ⟨j,hj,rfl⟩ hrec
  apply T.eq
  by_cases hlt:j < t.length
  ·obtain⟨x,hx⟩:∃ x,t[j]?=some x:=⟨_,List.getElem?_eq_getElem hlt⟩
   have hltI:(j:Int) < (t.length:Int):=by omega
   have hf:=flat_take hx;have hl:=flat_le t (j+1);rw[hf,List.length_append]at hl;have this:T (rec (((t.take j).flatten.length:Int)+(x.length:Int),(j:Int)+1,own t)) (·=((t.flatten.length:Int),own t)):=⟨_,hrec (k - 1) _ (by omega) ⟨j+1,by omega,by rw[hf,List.length_append]; rfl⟩,rfl⟩
   simp only[tq,Int.reduceEq,Int.reduceLT,Int.reduceLE,reduceCtorEq,qd,hltI,own_get hx,own_same hx]
   (repeat' apply And.intro)<;>first | omega | (simp only[LL]; omega) | exact this | rfl | trivial
  ·have hltI:¬ (j:Int) < (t.length:Int):=by omega
   simp only[tq,Int.reduceEq,Int.reduceLT,Int.reduceLE,reduceCtorEq,qd,hltI];rw[List.take_of_length_le (by omega)]
 have h4:m_joinST_L2 N ((t.flatten.length:Int),own t) N ((0:Int),(0:Int),List.replicate t.flatten.length zL.zero,own t)=some (t.flatten,own t):=by
  unfold m_joinST_L2;refine zg (fun k d=>∃ j:Nat,j+k=t.length/\d=(((t.take j).flatten.length:Int),(j:Int),(t.take j).flatten++List.replicate (t.flatten.length - (t.take j).flatten.length) zL.zero,own t)) _ ?_ N t.length _ (by omega) ⟨0,by omega,by simp⟩;rintro k d rec ⟨j,hj,rfl⟩ hrec
  apply T.eq
  by_cases hlt:j < t.length
  ·obtain⟨x,hx⟩:∃ x,t[j]?=some x:=⟨_,List.getElem?_eq_getElem hlt⟩
   have hltI:(j:Int) < (t.length:Int):=by omega
   have hf:=flat_take hx;have hl:=flat_le t (j+1);rw[hf,List.length_append]at hl;obtain⟨M,hM⟩:∃ M,M=(t.take j).flatten:=⟨_,rfl⟩
   rw[<- hM]at hl hf;have e1:(M++List.replicate (t.flatten.length - M.length) zL.zero).take M.length=M:=by simp
   have e2:(M++List.replicate (t.flatten.length - M.length) zL.zero).drop (M.length+x.length)=List.replicate (t.flatten.length - (M.length+x.length)) zL.zero:=by
    rw[List.drop_append,List.drop_of_length_le (by omega),List.nil_append,List.drop_replicate]
    congr 1
    omega
   have this:T (rec ((M.length:Int)+(x.length:Int),(j:Int)+1,M++x++List.replicate (t.flatten.length - (M.length+x.length)) zL.zero,own t)) (·=(t.flatten,own t)):=⟨_,hrec (k - 1) _ (by omega) ⟨j+1,by omega,by rw[hf,List.length_append]; rfl⟩,rfl⟩
   rw[<- hM];simp only[tq,Int.reduceEq,Int.reduceLT,Int.reduceLE,reduceCtorEq,qd,hltI,own_get hx,own_same hx,e1,e2,List.length_append,List.length_replicate]
   (repeat' apply And.intro)<;>first | omega | (simp only[LL]; omega) | exact this | rfl | trivial
  ·have hltI:¬ (j:Int) < (t.length:Int):=by omega
   simp only[tq,Int.reduceEq,Int.reduceLT,Int.reduceLE,reduceCtorEq,qd,hltI];rw[List.take_of_length_le (by omega)]
   simp
 unfold m_joinST
 apply T.eq
 simp only[tq,Int.reduceEq,Int.reduceLT,Int.reduceLE,reduceCtorEq,zw h3,zw h4]
 (repeat' apply And.intro)<;>first | omega | (simp only[LL]; omega) | exact this | rfl | trivial
structure TB(t:List (List zj)):Prop where
 few:t.length<=300
 row:∀ x∈t,x.length<=4096
 thr:∀ x∈t,∀ l∈x,l.2.2.1.length<=100000
 pst:∀ x∈t,∀ l∈x,l.2.2.2.length<=100000
theorem rcpL_ok(N:Nat) (l:List zj) (h:l.length<=100000):m_rcpL N l=some l:=by
 unfold m_rcpL
 apply T.eq
 simp only[tq,Int.reduceEq,Int.reduceLT,Int.reduceLE,reduceCtorEq,List.length_replicate]
 (repeat' apply And.intro)<;>first | omega | (simp only[LL]; omega) | exact this | rfl | trivial
theorem rep_set{α:Type} {t:List α} {j:Nat} {x:α} (h:t[j]?=some x) (z:α):(t.take j++List.replicate (t.length - j) z).set j x=t.take (j+1)++List.replicate (t.length - (j+1)) z:=by
 have h1:=(List.getElem?_eq_some_iff.1 h).1
 have:=fil_set (fun y:α=>y) z t j h1 x h
 simpa [fil] using this
theorem rep_get{α:Type} {t:List α} {j:Nat} {x:α} (h:t[j]?=some x) (z:α):(t.take (j+1)++List.replicate (t.length - (j+1)) z)[j]?=some x:=by
 have h1:=(List.getElem?_eq_some_iff.1 h).1;rw[List.getElem?_append_left (by rw[List.length_take]; omega),List.getElem?_take_of_lt (by omega),h]
theorem rep_len{α:Type} {t:List α} {j:Nat} (h:j<=t.length) (z:α):(t.take j++List.replicate (t.length - j) z).length=t.length:=by simp; omega
theorem rcpT_ok{N:Nat} (t:List (List zj)) (hN:5000 < N) (h:TB t):m_rcpT N t=some (own t):=by
 have hfew:=h.few;have h3:∀ (j:Nat) (x:List zj) (R:List (List zj)),t[j]?=some x->R[j]?=some x->m_rcpT_L3 N t (j:Int) N ((0:Int),own R)=some (own R):=by
  intro j x R hx hR;have hxt:=List.mem_of_getElem? hx;have hxl:=h.row x hxt;have hRl:=(List.getElem?_eq_some_iff.1 hR).1;unfold m_rcpT_L3;refine zg (fun k d=>∃ i:Nat,i+k=x.length/\d=((i:Int),own R)) _ ?_ N x.length _ (by omega) ⟨0,by omega,rfl⟩;rintro k d rec ⟨i,hi,rfl⟩ hrec
  apply T.eq
  by_cases hlt:i < x.length
  ·obtain⟨l,hl⟩:∃ l,x[i]?=some l:=⟨_,List.getElem?_eq_getElem hlt⟩
   have hlx:=List.mem_of_getElem? hl;have hltI:(i:Int) < (x.length:Int):=by omega
   have this:T (rec ((i:Int)+1,own R)) (·=own R):=⟨_,hrec (k - 1) _ (by omega) ⟨i+1,by omega,rfl⟩,rfl⟩
   simp only[tq,Int.reduceEq,Int.reduceLT,Int.reduceLE,reduceCtorEq,hltI,qd,own_get hR,zv hx,zv hl,zw (rcpI_ok (N:=N) _ (h.thr x hxt l hlx)),zw (rcpP_ok (N:=N) _ (h.pst x hxt l hlx)),pair_eta,set_same hl,own_same hR,List.length_set]
   (repeat' apply And.intro)<;>first | omega | (simp only[LL]; omega) | exact this | rfl | trivial
  ·have hltI:¬ (i:Int) < (x.length:Int):=by omega
   simp only[tq,Int.reduceEq,Int.reduceLT,Int.reduceLE,reduceCtorEq,hltI,zv hx]
 have h1:m_rcpT_L1 N t N ((0:Int),own (List.replicate t.length []))=some (own t):=by
  unfold m_rcpT_L1;refine zg (fun k d=>∃ j:Nat,j+k=t.length/\d=((j:Int),own (t.take j++List.replicate (t.length - j) []))) _ ?_ N t.length _ (by omega) ⟨0,by omega,by simp⟩;rintro k d rec ⟨j,hj,rfl⟩ hrec
  apply T.eq
  by_cases hlt:j < t.length
  ·obtain⟨x,hx⟩:∃ x,t[j]?=some x:=⟨_,List.getElem?_eq_getElem hlt⟩
   have hltI:(j:Int) < (t.length:Int):=by omega
   have hxl:=h.row x (List.mem_of_getElem? hx);have this:T (rec ((j:Int)+1,own (t.take (j+1)++List.replicate (t.length - (j+1)) []))) (·=own t):=⟨_,hrec (k - 1) _ (by omega) ⟨j+1,by omega,rfl⟩,rfl⟩
   simp only[tq,Int.reduceEq,Int.reduceLT,Int.reduceLE,reduceCtorEq,hltI,zv hx,zw (rcpL_ok N x (by omega)),qd,rep_len (Nat.le_of_lt hlt),own_set,rep_set hx,zw (h3 j x _ hx (rep_get hx []))]
   (repeat' apply And.intro)<;>first | omega | (simp only[LL]; omega) | exact this | rfl | trivial
  ·have hltI:¬ (j:Int) < (t.length:Int):=by omega
   simp only[tq,Int.reduceEq,Int.reduceLT,Int.reduceLE,reduceCtorEq,hltI];rw[List.take_of_length_le (by omega),show t.length - j=0 by omega]
   simp
 unfold m_rcpT
 apply T.eq
 simp only[tq,Int.reduceEq,Int.reduceLT,Int.reduceLE,reduceCtorEq,own_nil,zw h1]
 (repeat' apply And.intro)<;>first | omega | (simp only[LL]; omega) | exact this | rfl | trivial
theorem clipL_ok(N:Nat) (l:List zj):m_clipL N l=some (l,l.length):=by
 unfold m_clipL
 apply T.eq
 simp only[tq,Int.reduceEq,Int.reduceLT,Int.reduceLE,reduceCtorEq,List.take_length]
 (repeat' apply And.intro)<;>first | omega | (simp only[LL]; omega) | exact this | rfl | trivial
theorem rswork_ok{N:Nat} (a0:List zQ) (a1 a2:List zb) (a3:List zB) (a4:List zi) (a5:Int) (t:List (List zj)) (a7:List zd) (hN:5000 < N) (ht:t.length<=300) (h3:a3.length<=300) (h4:(zY a3).length<=100000) :
  m_rswork N a0 a1 a2 a3 a4 a5 (own t) a7=some (a3,(a7,((t,(a0,(zY a3,a2))),(if a5=0 then 1 else 0)))):=by
 have hL:m_rswork_L2 N (own t) N ((0:Int),a0,a1,a2,a4,a5,t)=some (a0,a1,a2,a4,a5,t):=by
  unfold m_rswork_L2;refine zg (fun k d=>∃ j:Nat,j+k=t.length/\d=((j:Int),a0,a1,a2,a4,a5,t)) _ ?_ N t.length _ (by omega) ⟨0,by omega,rfl⟩;rintro k d rec ⟨j,hj,rfl⟩ hrec
  apply T.eq
  by_cases hlt:j < t.length
  ·obtain⟨x,hx⟩:∃ x,t[j]?=some x:=⟨_,List.getElem?_eq_getElem hlt⟩
   have hltI:(j:Int) < (t.length:Int):=by omega
   have this:T (rec ((j:Int)+1,a0,a1,a2,a4,a5,t)) (·=(a0,a1,a2,a4,a5,t)):=⟨_,hrec (k - 1) _ (by omega) ⟨j+1,by omega,rfl⟩,rfl⟩
   simp only[tq,Int.reduceEq,Int.reduceLT,Int.reduceLE,reduceCtorEq,qd,hltI,zv hx,zw (clipL_ok N x),set_same hx]
   (repeat' apply And.intro)<;>first | omega | (simp only[LL]; omega) | exact this | rfl | trivial
  ·have hltI:¬ (j:Int) < (t.length:Int):=by omega
   simp only[tq,Int.reduceEq,Int.reduceLT,Int.reduceLE,reduceCtorEq,qd,hltI]
 have ht:m_rturned N a5=some (if a5=0 then 1 else 0):=by
  unfold m_rturned
  by_cases e:a5=0
  ·rw[decide_eq_true e,if_pos e]; rfl
  ·rw[decide_eq_false e,if_neg e]; rfl
 unfold m_rswork
 apply T.eq
 simp only[tq,Int.reduceEq,Int.reduceLT,Int.reduceLE,reduceCtorEq,own_map,zw hL,zw (rheld_ok (N:=N) a3 (by omega) (by omega) h4),zw ht]

theorem wrapY{y:Nat} (h:y < 6):IntKind.wrap .u8 ((y:Int)+1 - 1)=(y:Int):=by
 rw[wrap8 (by omega) (by omega)];omega
def endOf(d:Int):Int:=if d=0 then -13 else 179
def qM(d:Int):Int:=if d=0 then 1 else 0
theorem rend_ok(N:Nat) (d:Int):m_rend N d=some (endOf d):=by
 unfold m_rend endOf
 by_cases e:d=0
 ·rw[decide_eq_true e,if_pos e]; rfl
 ·rw[decide_eq_false e,if_neg e]; rfl
theorem rturned_ok(N:Nat) (d:Int):m_rturned N d=some (qM d):=by
 unfold m_rturned qM
 by_cases e:d=0
 ·rw[decide_eq_true e,if_pos e]; rfl
 ·rw[decide_eq_false e,if_neg e]; rfl
theorem endOf_ok(d:Int):Int.tmod (endOf d) 2≠0/\-13<=endOf d/\endOf d<=179:=by
 unfold endOf
 split<;>decide
theorem rsmove_ok{N:Nat} (hN:5000 < N) {ys:List zd} {y:Nat} (hy:y < 6) {Y:zd} (hY:ys[y]?=some Y) (hv:YV Y) (hin:Y.1=true) {place:Int} (hp:Int.tmod place 2≠0/\-13<=place/\place<=179)
  {l:List qa} (hl:∀ p∈l,PassV p) (hb:l.length+Y.2.2.2.2.length<=4096) (a3:List zi) (a4:Int) :
  xj N ((y:Int)+1) place l a3 a4 ys=some (0,a3,a4,ys.set y (true,place,Y.2.2.1,Y.2.2.2.1,pushs Y.2.2.2.2 l)):=by
 have hlt:=(List.getElem?_eq_some_iff.1 hY).1;unfold xj
 apply T.eq
 simp only[wrapY hy,tq,Int.reduceEq,Int.reduceLT,Int.reduceLE,reduceCtorEq,zv hY,zw (ygo_ok hv hin hN hp hl hb)]
 (repeat' apply And.intro)<;>first | omega | (simp only[LL]; omega) | exact this | rfl | trivial
structure CarOk(t:List (List zj)) (B:Nat) (y:Nat) (Y:zd):Prop where
 v:YV Y
 cnt:Y.2.2.1=((t.getD y []).length:Int)
 pend:∀ p∈Y.2.2.2.2,hasT t p.1
 few:Y.2.2.2.2.length<=B
 new:Y.1=true->(t.getD y []).length=0->Y.2.2.2.1=true
theorem PassV.of{t:List (List zj)} (h6:t.length=6) (h:zF t<=2048) {p:qa} (hp:hasT t p.1) (hd:p.2.2=0\/p.2.2=1):PassV p:=by
 have h1:=hasT_le hp;rw[qA]at hp
 have:=tall_le (t:=t) (p.1.1 - 1).toNat
 exact⟨⟨hp.1,by omega,hp.2.1,by omega⟩,hd⟩
theorem CarOk.go{t:List (List zj)} (h6:t.length=6) (ht:zF t<=2048) {B:Nat} {y:Nat} {Y:zd} (h:CarOk t B y Y) (hin:Y.1=true) {place:Int} (hp:Int.tmod place 2≠0/\-13<=place/\place<=179) {l:List qa}
  (hl:∀ p∈l,hasT t p.1/\(p.2.2=0\/p.2.2=1)) (hb:l.length+B<=4096):CarOk t (l.length+B) y (true,place,Y.2.2.1,Y.2.2.2.1,pushs Y.2.2.2.2 l):=by
 have hf:=h.few;refine⟨ygo_v h.v hp (fun p hp=>PassV.of h6 ht (hl p hp).1 (hl p hp).2) (by omega),h.cnt,fun p hp=>(pushs_mem hp).elim (h.pend p) fun h=>(hl p h).1,?_,fun _=>h.new hin⟩
 have:=pushs_len Y.2.2.2.2 l
 show(pushs Y.2.2.2.2 l).length<=_;omega
theorem CarOk.le{t:List (List zj)} {B C:Nat} {y:Nat} {Y:zd} (h:CarOk t B y Y) (hb:B<=C):CarOk t C y Y:=⟨h.v,h.cnt,h.pend,Nat.le_trans h.few hb,h.new⟩
theorem passS_len(d:Int) (l:List zB):(passS d l).length=(zY l).length:=by
 unfold passS
 split
 ·exact passR_len d l
 ·rw[List.length_reverse]; exact passR_len d l
theorem passS_mem{d:Int} {l:List zB} {p:qa} (h:p∈passS d l):p.1∈zY l/\p.2.2=d:=by
 have h2:p∈qH d l:=by
  unfold passS at h
  split at h
  ·exact h
  ·exact List.mem_reverse.1 h
 unfold qH at h2;rw[List.mem_flatMap]at h2;obtain⟨s,hs,hp⟩:=h2;rw[List.mem_map]at hp;obtain⟨a,ha,rfl⟩:=hp;exact⟨by unfold zY; rw[List.mem_flatten]; exact⟨s.2,List.mem_map_of_mem hs,ha⟩,rfl⟩
theorem rsbegin_ok{N:Nat} (hN:5000 < N) {t:List (List zj)} (h6:t.length=6) (ht:zF t<=2048) {ys:List zd} {y:Nat} (hy:y < 6) {Y:zd} (hY:ys[y]?=some Y) {B:Nat} (hv:CarOk t B y Y) (hpl:Y.1=true->Int.tmod Y.2.1 2≠0) (a1:List zi) {d:Int} (hd:d=0\/d=1)
  {S:List (List zB)} (hS:S.length<=300) (hS2:S.flatten.length<=300) (hS3:(zY S.flatten).length<=300) (hS4:∀ a∈zY S.flatten,hasT t a) (hB:(zY S.flatten).length+B<=4096) :
  T (m_rsbegin N ((y:Int)+1) a1 d (own S) ys) fun r=>∃ Y':zd,r=(0,a1,d,own S,ys.set y Y')/\Y'.1=true/\Y'.2.1=endOf (qM d)/\CarOk t ((zY S.flatten).length+B) y Y':=by
 have hlt:=(List.getElem?_eq_some_iff.1 hY).1;have hts:qM d=0\/qM d=1:=by
  unfold qM
  split
  ·exact Or.inr rfl
  ·exact Or.inl rfl
 unfold m_rsbegin;simp only[wrapY hy,tq,Int.reduceEq,Int.reduceLT,Int.reduceLE,reduceCtorEq,zv hY,zw (rturned_ok N d)];refine⟨by(repeat' apply And.intro)<;>first | omega | (simp only[LL]; omega) | exact this | rfl | trivial,fun hout=>?_,fun hin=>?_⟩
 ·have he:(if qM d=1 then(179:Int)else -13)=endOf (qM d):=by
   unfold endOf
   rcases hts with e | e<;>rw[e]<;>rfl
  simp only[zw (yenter_ok hv.v hout hN hts),tq,Int.reduceEq,Int.reduceLT,Int.reduceLE,reduceCtorEq];refine⟨by(repeat' apply And.intro)<;>first | omega | (simp only[LL]; omega) | exact this | rfl | trivial,⟨_,rfl,rfl,he,⟨?_,hv.cnt,fun p hp=>(by cases hp),by simp,fun _ _=>rfl⟩⟩⟩;refine⟨hv.v.cnt,fun h=>(by cases h),fun _=>?_,by simp,fun p hp=>(by cases hp),fun i p q h=>by cases h⟩;show Int.tmod (if qM d=1 then(179:Int)else -13) 2≠0/\_;rw[he];exact endOf_ok _
 ·simp only[zw (rend_ok N (qM d)),tq,Int.reduceEq,Int.reduceLT,Int.reduceLE,reduceCtorEq]
  refine⟨fun e=>?_,fun e=>?_⟩
  ·exact⟨Y,by rw[set_same hY],hin,e,hv.le (by omega)⟩
  ·have hpass:∀ p∈passS (qM d) S.flatten,hasT t p.1/\(p.2.2=0\/p.2.2=1):=fun p hp=>by
    obtain⟨h1,h2⟩:=passS_mem hp;exact⟨hS4 _ h1,by rw[h2]; exact hts⟩
   have hfew:=hv.few;have hmv:=rsmove_ok hN hy hY hv.v hin (endOf_ok (qM d)) (fun p hp=>PassV.of h6 ht (hpass p hp).1 (hpass p hp).2) (by rw[passS_len]; omega) a1 d;simp only[zw (joinST_ok (N:=N) S (by omega) (by omega) (by omega)),zw (rpast_ok (N:=N) (qM d) S.flatten (by omega) (by omega) (by omega) (by omega)),zw hmv,tq,Int.reduceEq,Int.reduceLT,Int.reduceLE,reduceCtorEq]
   have:=hv.go h6 ht hin (endOf_ok (qM d)) hpass (by rw[passS_len]; omega)
   rw[passS_len]at this;exact⟨_,rfl,rfl,rfl,this⟩
theorem rsloop_ok{N:Nat} (hN:5000 < N) {t:List (List zj)} (h6:t.length=6) (ht:zF t < 2048) {ys:List zd} {y:Nat} (hy:y < 6) {Y:zd} (hY:ys[y]?=some Y) {B:Nat} (hv:CarOk t B y Y) (hin:Y.1=true) (bed:Int) {thr:List zb} (hthr:thr.length<=4) (a3:List zi) (a4:Int) :
  qI N ((y:Int)+1) bed thr a3 a4 (own t) ys=some ((((y:Int)+1,((t.getD y []).length:Int)),0,a3,a4,own (xx t y (bed,(Y.2.2.2.1,(thr,Y.2.2.2.2)))),ys.set y (true,Y.2.1,Y.2.2.1+1,false,[]))):=by
 have hlt:=(List.getElem?_eq_some_iff.1 hY).1;have hal:=tall_le (t:=t) y;have hf:=hv.v.few;obtain⟨x,hx⟩:∃ x,t[y]?=some x:=⟨_,List.getElem?_eq_getElem (by omega)⟩
 have hxg:t.getD y []=x:=zv hx;have hc:=hv.cnt;rw[hxg]at hal hc;unfold qI
 apply T.eq
 simp only[wrapY hy,tq,Int.reduceEq,Int.reduceLT,Int.reduceLE,reduceCtorEq,zw (lcountT_ok (N:=N) t (by omega) (by omega) (by omega)),zv hY,zw (ymake_ok hv.v hin hN (by rw[hc]; omega)),zw (rcpI_ok (N:=N) thr (by omega)),zw (rcpP_ok (N:=N) Y.2.2.2.2 (by omega)),qd,own_get hx,own_set,show ¬ (2048:Int)<=(zF t:Int) by omega,hc,hxg,xx,List.length_singleton]
 (repeat' apply And.intro)<;>first | omega | (simp only[LL]; omega) | exact this | rfl | trivial
theorem CarOk.put{t:List (List zj)} (h6:t.length=6) {B:Nat} {y z:Nat} {Y:zd} (h:CarOk t B z Y) (hy:y < 6) (hne:z≠y) (l:zj):CarOk (xx t y l) B z Y:=by
 have e:(xx t y l).getD z []=t.getD z []:=by rw[qJ (by omega),if_neg hne]
 exact⟨h.v,by rw[e]; exact h.cnt,fun p hp=>(h.pend p hp).put (by omega) l,h.few,by rw[e]; exact h.new⟩
theorem CarOk.made{t:List (List zj)} (h6:t.length=6) (ht:zF t < 2048) {B:Nat} {y:Nat} {Y:zd} (h:CarOk t B y Y) (hin:Y.1=true) (hy:y < 6) (l:zj):CarOk (xx t y l) 0 y (true,Y.2.1,Y.2.2.1+1,false,[]):=by
 have e:(xx t y l).getD y []=t.getD y []++[l]:=by rw[qJ (by omega),if_pos rfl]
 have hal:=tall_le (t:=t) y;have hc:=h.cnt;refine⟨ymake_v h.v hin (by rw[hc]; omega),by rw[e,List.length_append]; show Y.2.2.1+1=_; rw[hc]; simp,fun p hp=>(by cases hp),Nat.zero_le _,fun _ h0=>?_⟩;rw[e]at h0
 simp at h0

def ql(x:zi):Int:=if x.1=2 then 1 else 0
theorem bedOf_ok(x:zi):ql x=0\/ql x=1:=by
 unfold ql
 split
 ·exact Or.inr rfl
 ·exact Or.inl rfl
theorem sbed_ok(N:Nat) {x:zi} (h:St6 x):m_sbed N x=some (ql x):=by
 unfold m_sbed;rw[stcheck_ok h,Option.bind_some];obtain⟨k,n,e⟩:=x;obtain⟨h1,_⟩:=h;dsimp only at h1
 rcases h1 with rfl | rfl<;>rfl
theorem rbrought_ok{N:Nat} (hN:5000 < N) {x:zi} (h:St6 x) {s:zB} (hs:s.2.length<=4):m_rbrought N [s] x=some [(ql x,s.2)]:=by
 have hc:m_copySl N [s]=some [s]:=copySl_ok (by omega) _ (by simp) fun y hy=>by
  rw[List.mem_singleton]at hy;rw[hy];omega
 have h6:m_rbrought_L6 N x [s] N ((0:Int),[s])=some [(ql x,s.2)]:=by
  obtain⟨n,hn⟩:∃ n,N=n+2:=⟨N - 2,by omega⟩
  have hb:=sbed_ok (n+2) h;subst hn;unfold m_rbrought_L6;show Option.bind (m_sbed (n+2) x) _=_;rw[hb,Option.bind_some]
  rfl
 have h1:=h.1;unfold m_rbrought
 apply T.eq
 simp only[tq,Int.reduceEq,Int.reduceLT,Int.reduceLE,reduceCtorEq,zw hc];refine⟨fun e=>by omega,fun _=>?_⟩;refine⟨fun e=>by omega,fun _=>⟨fun e=>by omega,fun _=>?_⟩⟩;exact⟨_,h6,rfl⟩
def xy(r:List zi) (ws:List zB):List (List zB):=List.zipWith (fun x s=>[(ql x,s.2)]) r ws
theorem prepS_at{r:List zi} {ws:List zB} {j:Nat} {x:zi} {s:zB} (hx:r[j]?=some x) (hs:ws[j]?=some s):(xy r ws)[j]?=some [(ql x,s.2)]:=by
 unfold xy;rw[List.getElem?_zipWith,hx,hs]
theorem prepS_len{r:List zi} {ws:List zB} (h:r.length=ws.length):(xy r ws).length=ws.length:=by
 unfold xy;rw[List.length_zipWith];omega
theorem sum_one{α:Type} (l:List α) (f:α->Nat) (h:∀ x∈l,f x=1):(l.map f).sum=l.length:=by
 induction l with
 | nil=>rfl
 | cons a l ih=>
  rw[List.map_cons,List.sum_cons,ih fun x hx=>h x (List.mem_cons_of_mem _ hx),h a List.mem_cons_self,List.length_cons];omega
theorem held_one{l:List zB} (h:∀ s∈l,s.2.length=1):(zY l).length=l.length:=by
 induction l with
 | nil=>rfl
 | cons a l ih=>
  show(a.2++zY l).length=_;rw[List.length_append,ih fun x hx=>h x (List.mem_cons_of_mem _ hx),h a List.mem_cons_self,List.length_cons];omega
theorem radded_nil{N:Nat} (hN:5000 < N):m_radded N [] []=some ([],0,0):=by
 have hj:m_joinXo N [[],[]]=some []:=joinXo_ok [[],[]] (by simp; omega) (by simp) (by simp);obtain⟨n,rfl⟩:∃ n,N=n+2:=⟨N - 2,by omega⟩
 unfold m_radded;rw[hj,Option.bind_some]
 rfl
theorem copyFabO_ok{N:Nat} (hN:5000 < N) {f:Kt13} (h:TB f.1) (h1:f.2.1.length<=100000) (h2:f.2.2.1.length<=100000) (h3:f.2.2.2.length<=100000):m_copyFabO N f=some (f.2.1,f.2.2.1,f.2.2.2,own f.1):=by
 unfold m_copyFabO;rw[rcpT_ok f.1 hN h,Option.bind_some,copiedX_ok _ h1,Option.bind_some,rcpI_ok _ h2,Option.bind_some,rcpI_ok _ h3,Option.bind_some]
theorem set_mid{α:Type} (A:List α) (b:α) (B:List α) (x:α) {i:Nat} (h:A.length=i):(A++b :: B).set i x=A++x :: B:=by
 subst h;rw[List.set_append_right _ _ (Nat.le_refl _),Nat.sub_self]
 rfl
theorem rprepare_ok{N:Nat} (hN:5000 < N) {wk:qx} {r:List zi} {w:Nat} (hw1:1<=w) (hw16:w<=16) (hr:r.length=w) (hst:∀ x∈r,St6 x) (hws:wk.1.length=w) (hw2:∀ s∈wk.1,s.2.length=1)
  (hT:TB wk.2.2.1.1) (hX:wk.2.2.1.2.1=[]) (hF:wk.2.2.1.2.2.2=[]) (hH:wk.2.2.1.2.2.1.length<=100000) :
  ∃ hd,m_rprepare N wk r=some ([],hd,[],0,own (xy r wk.1),own wk.2.2.1.1):=by
 have h3:m_rprepare_L3 N r N (wk.1,(0:Int),List.replicate r.length (true,[]))=some (.inl (wk.1.map fun s=>(false,[s]))):=by
  unfold m_rprepare_L3;refine zg (fun k d=>∃ i:Nat,i+k=wk.1.length/\d=(wk.1.drop i,(i:Int),fil (fun s:zB=>(false,[s])) (true,[]) wk.1 i)) _ ?_ N wk.1.length _ (by omega) ⟨0,by omega,by rw[fil_zero,hr,hws]; rfl⟩;rintro k d rec ⟨i,hi,rfl⟩ hrec
  apply T.eq
  by_cases hlt:i < w
  ·obtain⟨x,hx⟩:∃ x,r[i]?=some x:=⟨_,List.getElem?_eq_getElem (by omega)⟩
   obtain⟨s,hs⟩:∃ x,wk.1[i]?=some x:=⟨_,List.getElem?_eq_getElem (by omega)⟩
   have hx6:=hst x (List.mem_of_getElem? hx);have hs1:=hw2 s (List.mem_of_getElem? hs);have hltI:(i:Int) < (r.length:Int):=by omega
   have hd:wk.1.drop i=s :: wk.1.drop (i+1):=by
    rw[List.drop_eq_getElem_cons (by omega),(List.getElem?_eq_some_iff.1 hs).2]
   have h5:m_rprepare_L5 N (s :: wk.1.drop (i+1)) 1 N ((0:Int),List.replicate (1:Int).toNat (0:Int))=some [1]:=by
    obtain⟨n,hn⟩:∃ n,N=n+2:=⟨N - 2,by omega⟩
    subst hn;unfold m_rprepare_L5
    apply T.eq
    simp only[zc,tq,Int.reduceEq,Int.reduceLT,Int.reduceLE,reduceCtorEq,hs1,List.length_replicate,show(1:Int).toNat=1 from rfl,List.length_cons,List.length_set,List.getD_cons_zero,show(0:Int).toNat=0 from rfl,show(0:Int) < ((1:Nat):Int) by omega,show ¬ (0:Int)+1 < ((1:Nat):Int) by omega]
    (repeat' apply And.intro)<;>first | omega | (simp only[LL]; omega) | exact this | rfl | trivial
   have hfl:=fil_len (fun s:zB=>(false,[s])) (true,[]) wk.1 i (by omega);have hset:=fil_set (fun s:zB=>(false,[s])) (true,[]) wk.1 i (by omega) s hs;have this:T (rec (wk.1.drop (i+1),(i:Int)+1,fil (fun s:zB=>(false,[s])) (true,[]) wk.1 (i+1))) (·=.inl (wk.1.map fun s=>(false,[s]))):=⟨_,hrec (k - 1) _ (by omega) ⟨i+1,by omega,rfl⟩,rfl⟩
   have e1:(s :: wk.1.drop (i+1)).take (1:Int).toNat=[s]:=rfl;have e2:(s :: wk.1.drop (i+1)).drop (1:Int).toNat=wk.1.drop (i+1):=rfl;rw[hd];simp only[tq,Int.reduceEq,Int.reduceLT,Int.reduceLE,reduceCtorEq,hltI,zv hx,zw (stneeds_ok (N:=N) hx6),zw h5,zw (stloads_ok (N:=N) (by omega) hx6),e1,e2,hset,hfl,List.length_cons]
   (repeat' apply And.intro)<;>first | omega | (simp only[LL]; omega) | exact this | rfl | trivial
  ·have hltI:¬ (i:Int) < (r.length:Int):=by omega
   simp only[tq,Int.reduceEq,Int.reduceLT,Int.reduceLE,reduceCtorEq,hltI];rw[show i=wk.1.length by omega,fil_all]
 have hpl:=prepS_len (r:=r) (ws:=wk.1) (by omega);have h7:m_rprepare_L7 N r N ((0:Int),[],wk.1.map fun s=>(false,[s]))=some ([],own (xy r wk.1)):=by
  unfold m_rprepare_L7;refine zg (fun k d=>∃ i:Nat,i+k=wk.1.length/\d=((i:Int),[],own ((xy r wk.1).take i)++(wk.1.drop i).map fun s=>(false,[s]))) _ ?_ N wk.1.length _ (by omega) ⟨0,by omega,by simp[own]⟩;rintro k d rec ⟨i,hi,rfl⟩ hrec
  apply T.eq
  by_cases hlt:i < w
  ·obtain⟨x,hx⟩:∃ x,r[i]?=some x:=⟨_,List.getElem?_eq_getElem (by omega)⟩
   obtain⟨s,hs⟩:∃ x,wk.1[i]?=some x:=⟨_,List.getElem?_eq_getElem (by omega)⟩
   have hx6:=hst x (List.mem_of_getElem? hx);have hx1:=hx6.1;have hs1:=hw2 s (List.mem_of_getElem? hs);have hltI:(i:Int) < (r.length:Int):=by omega
   have hd:wk.1.drop i=s :: wk.1.drop (i+1):=by
    rw[List.drop_eq_getElem_cons (by omega),(List.getElem?_eq_some_iff.1 hs).2]
   have hAl:(own ((xy r wk.1).take i)).length=i:=by rw[qd,List.length_take]; omega
   have hA2:own ((xy r wk.1).take (i+1))=own ((xy r wk.1).take i)++[(true,[(ql x,s.2)])]:=by
    rw[List.take_succ_eq_append_getElem (by omega),(List.getElem?_eq_some_iff.1 (prepS_at hx hs)).2]
    simp[own]
   obtain⟨A,hA⟩:∃ A,A=own ((xy r wk.1).take i):=⟨_,rfl⟩
   rw[<- hA]at hAl hA2;have hget:(A++(false,[s]) :: (wk.1.drop (i+1)).map fun s=>(false,[s]))[i]?=some (false,[s]):=by
    rw[List.getElem?_append_right (by omega),hAl,Nat.sub_self]
    rfl
   have hset:=set_mid A (false,[s]) ((wk.1.drop (i+1)).map fun s=>(false,[s])) (true,[(ql x,s.2)]) hAl;have this:T (rec ((i:Int)+1,[],A++(true,[(ql x,s.2)]) :: (wk.1.drop (i+1)).map fun s=>(false,[s]))) (·=([],own (xy r wk.1))):=⟨_,hrec (k - 1) _ (by omega) ⟨i+1,by omega,by rw[hA2,List.append_assoc]; rfl⟩,rfl⟩
   rw[<- hA,hd,List.map_cons];simp only[tq,Int.reduceEq,Int.reduceLT,Int.reduceLE,reduceCtorEq,hltI,zv hx,show ¬ x.1=8 by omega,zv hget,zw (rbrought_ok hN hx6 (s:=s) (by omega)),hset,List.length_append,List.length_cons]
   (repeat' apply And.intro)<;>first | omega | (simp only[LL]; omega) | exact this | rfl | trivial
  ·have hltI:¬ (i:Int) < (r.length:Int):=by omega
   simp only[tq,Int.reduceEq,Int.reduceLT,Int.reduceLE,reduceCtorEq,hltI];rw[List.take_of_length_le (by omega),List.drop_of_length_le (by omega)]
   simp
 have hflat:∀ l∈xy r wk.1,l.length=1:=by
  intro l hl;obtain⟨j,hj⟩:=List.getElem?_of_mem hl;have hjl:=(List.getElem?_eq_some_iff.1 hj).1;rw[prepS_at (List.getElem?_eq_getElem (by omega)) (List.getElem?_eq_getElem (by omega))]at hj;cases hj
  rfl
 have hfl:(xy r wk.1).flatten.length=wk.1.length:=by
  rw[List.length_flatten,sum_one _ _ hflat,hpl]
 have hheld:(zY (xy r wk.1).flatten).length<=16:=by
  have:∀ s∈(xy r wk.1).flatten,s.2.length=1:=by
   intro s hs;rw[List.mem_flatten]at hs;obtain⟨l,hl,hs⟩:=hs;obtain⟨j,hj⟩:=List.getElem?_of_mem hl;have hjl:=(List.getElem?_eq_some_iff.1 hj).1;obtain⟨q,h2⟩:∃ q,wk.1[j]?=some q:=⟨_,List.getElem?_eq_getElem (by omega)⟩
   rw[prepS_at (List.getElem?_eq_getElem (by omega)) h2]at hj;cases hj;rw[List.mem_singleton]at hs;rw[hs];show q.2.length=1;exact hw2 q (List.mem_of_getElem? h2)
  rw[held_one this];omega
 have hch:=chrow_ok (N:=N) (by omega) r (by omega) (by omega) hst;have hne:=chneeds_ok (N:=N) (by omega) r (by omega) hst;refine⟨zY (xy r wk.1).flatten,?_⟩;unfold m_rprepare
 apply T.eq
 simp only[tq,Int.reduceEq,Int.reduceLT,Int.reduceLE,reduceCtorEq,zw hch,zw hne,hr,hws,zw (hr ▸ h3),zw h7,zw (copyFabO_ok hN hT (by rw[hX]; simp) hH (by rw[hF]; simp)),hX,hF,zw (radded_nil hN),zw (joinST_ok (N:=N) (xy r wk.1) (by omega) (by omega) (by omega)),zw (rheld_ok (N:=N) (xy r wk.1).flatten (by omega) (by omega) (by omega))]
 (repeat' apply And.intro)<;>first | omega | (simp only[LL]; omega) | exact this | rfl | trivial

theorem rknit_ok{N:Nat} (hN:5000 < N) {t:List (List zj)} (h6:t.length=6) (ht:zF t < 2048) {ys:List zd} {y:Nat} (hy:y < 6) {Y:zd} (hY:ys[y]?=some Y) {B:Nat} (hv:CarOk t B y Y) (hin:Y.1=true)
  {S:List (List zB)} {k:Nat} {bed:Int} {a:zb} (hS:S[k]?=some [(bed,[a])]) (a2:List zi) {d:Int} :
  m_rknit N (k:Int) ((y:Int)+1) a2 d (own S) (own t) ys=some (0,a2,d,own (S.set k [(bed,[((y:Int)+1,((t.getD y []).length:Int))])]),own (xx t y (bed,(Y.2.2.2.1,([a],Y.2.2.2.2)))),ys.set y (true,Y.2.1,Y.2.2.1+1,false,[])):=by
 have hk:=(List.getElem?_eq_some_iff.1 hS).1;have hl:=rsloop_ok hN h6 ht hy hY hv hin bed (thr:=[a]) (by simp) a2 d;have hL:m_rknit_L1 N (k:Int) ((y:Int)+1) (own S) N ((0:Int),[(bed,[a])],a2,d,own S,k,ys,own t) =
   some (.inl ([(bed,[((y:Int)+1,((t.getD y []).length:Int))])],a2,d,own S,k,ys.set y (true,Y.2.1,Y.2.2.1+1,false,[]),own (xx t y (bed,(Y.2.2.2.1,([a],Y.2.2.2.2)))))):=by
  obtain⟨n,hn⟩:∃ n,N=n+2:=⟨N - 2,by omega⟩
  subst hn;unfold m_rknit_L1
  apply T.eq
  simp only[zc,tq,Int.reduceEq,Int.reduceLT,Int.reduceLE,reduceCtorEq,own_get hS,List.length_singleton,show(0:Int) < ((1:Nat):Int) by omega]
  by_cases hd:d=0
  ·simp only[hd,tq,Int.reduceEq,Int.reduceLT,Int.reduceLE,reduceCtorEq]
   simp only[show(((1:Nat):Int) - 1 - 0)=0 by omega,show(0:Int).toNat=0 from rfl,List.getD_cons_zero,hd ▸ zw hl,tq,Int.reduceEq,Int.reduceLT,Int.reduceLE,reduceCtorEq,List.set_cons_zero,List.length_singleton,show ¬ (0:Int)+1 < ((1:Nat):Int) by omega]
   (repeat' apply And.intro)<;>first | omega | (simp only[LL]; omega) | exact this | rfl | trivial
  ·simp only[hd,tq,Int.reduceEq,Int.reduceLT,Int.reduceLE,reduceCtorEq]
   simp only[show(0:Int).toNat=0 from rfl,List.getD_cons_zero,zw hl,tq,Int.reduceEq,Int.reduceLT,Int.reduceLE,reduceCtorEq,List.set_cons_zero,List.length_singleton,show ¬ (0:Int)+1 < ((1:Nat):Int) by omega]
   (repeat' apply And.intro)<;>first | omega | (simp only[LL]; omega) | exact this | rfl | trivial
 unfold m_rknit
 apply T.eq
 simp only[tq,Int.reduceEq,Int.reduceLT,Int.reduceLE,reduceCtorEq,qd,own_get hS,zw hL,own_set]
 (repeat' apply And.intro)<;>first | omega | (simp only[LL]; omega) | exact this | rfl | trivial
theorem rslipm_ok{N:Nat} (hN:5000 < N) {t:List (List zj)} (h6:t.length=6) (ht:zF t<=2048) {ys:List zd} {y:Nat} (hy:y < 6) {Y:zd} (hY:ys[y]?=some Y) {B:Nat} (hv:CarOk t B y Y) (hin:Y.1=true)
  {S:List (List zB)} {k:Nat} {bed:Int} {a:zb} (hS:S[k]?=some [(bed,[a])]) (ha:hasT t a) (hB:B+1<=4096) (a2:List zi) {d:Int} (hd:d=0\/d=1) :
  ∃ Y',m_rslipm N (k:Int) ((y:Int)+1) a2 d (own S) (own t) ys=some (0,a2,d,own S,own t,ys.set y Y')/\CarOk t (B+1) y Y'/\Y'.1=true/\Y'.2.1=Y.2.1:=by
 have hk:=(List.getElem?_eq_some_iff.1 hS).1;have hy':=(List.getElem?_eq_some_iff.1 hY).1;have hheld:zY [(bed,[a])]=[a]:=rfl;have hpass:∀ p∈passS d [(bed,[a])],hasT t p.1/\(p.2.2=0\/p.2.2=1):=fun p hp=>by
  obtain⟨h1,h2⟩:=passS_mem hp;rw[hheld,List.mem_singleton]at h1;exact⟨h1 ▸ ha,h2 ▸ hd⟩
 have hpl:(passS d [(bed,[a])]).length=1:=by rw[passS_len,hheld]; rfl
 have hf:=hv.few;have hgo:=hv.go h6 ht hin (hv.v.at' hin) hpass (by omega);have hmv:=rsmove_ok hN hy hY hv.v hin (hv.v.at' hin) (fun p hp=>PassV.of h6 ht (hpass p hp).1 (hpass p hp).2) (by omega) a2 d;rw[hpl,Nat.add_comm]at hgo;refine⟨_,?_,hgo,rfl,rfl⟩;unfold m_rslipm
 apply T.eq
 simp only[wrapY hy,tq,Int.reduceEq,Int.reduceLT,Int.reduceLE,reduceCtorEq,qd,own_get hS,zw (pastR_ok (N:=N) d [(bed,[a])] (by simp; omega) (by rw[hheld]; simp; omega) (by simp) (by rw[hheld]; simp)),zv hY,zw hmv,own_same hS]
 (repeat' apply And.intro)<;>first | omega | (simp only[LL]; omega) | exact this | rfl | trivial

structure WSt(t:List (List zj)) (ys:List zd) (ids:List zb) (B:Nat):Prop where
 tok:∃ ρ,TOk t ρ
 once:Once t ids
 ysl:ys.length=6
 car:∀ (z:Nat) (Y:zd),ys[z]?=some Y->CarOk t B z Y
 plc:∀ (z:Nat) (Y:zd),ys[z]?=some Y->Y.1=true->Y.2.1=-13\/Y.2.1=179
theorem Once.has{t:List (List zj)} {l:List zb} (h:Once t l) {a:zb} (ha:a∈l):hasT t a:=by
 have:=h a
 rw[List.count_append]at this;have h1:0 < l.count a:=List.count_pos_iff.2 ha
 by_cases hh:hasT t a
 ·exact hh
 ·rw[if_neg hh]at this
  omega
theorem count_set'(l:List zb) (k:Nat) (a b c:zb) (h:l[k]?=some a):(l.set k b).count c+(if a=c then 1 else 0)=l.count c+(if b=c then 1 else 0):=by
 have hk:=(List.getElem?_eq_some_iff.1 h).1;obtain⟨p,q,h1,h2⟩:=set_split hk (0,0) b;rw[zv h]at h1;rw[h2]
 conv=>rhs; rw[h1]
 simp only[List.count_append,List.count_cons,beq_iff_eq];omega
theorem Once.knit{t:List (List zj)} {ids:List zb} (h:Once t ids) {y:Nat} (hy:y < t.length) {k:Nat} {a:zb} (ha:ids[k]?=some a) {l:zj} (hl:l.2.2.1=[a]):Once (xx t y l) (ids.set k ((y:Int)+1,((t.getD y []).length:Int))):=by
 intro c;have h1:=h c;have h2:=count_set' ids k a ((y:Int)+1,((t.getD y []).length:Int)) c ha;have h3:=thrs_put hy l c;have hn:=hasT_new hy l;rw[hl,List.count_singleton]at h3;rw[List.count_append]at h1 ⊢;have hac:(if (a == c)=true then 1 else 0)=if a=c then 1 else 0:=by simp
 rw[hac]at h3
 by_cases e:((y:Int)+1,((t.getD y []).length:Int))=c
 ·rw[if_pos e]at h2
  rw[e]at hn;rw[if_neg hn]at h1;rw[if_pos ((qj hy l).2 (Or.inl e.symm))];omega
 ·rw[if_neg e]at h2
  by_cases hc:hasT t c
  ·rw[if_pos hc]at h1
   rw[if_pos (hc.put hy l)];omega
  ·rw[if_neg hc]at h1
   rw[if_neg (fun hh=>((qj hy l).1 hh).elim (fun h=>e h.symm) hc)];omega
theorem WSt.set{t:List (List zj)} {ys:List zd} {ids:List zb} {B C:Nat} (h:WSt t ys ids B) {y:Nat} {Y:zd} (hv:CarOk t C y Y) (hB:B<=C) (hp:Y.1=true->Y.2.1=-13\/Y.2.1=179):WSt t (ys.set y Y) ids C:=by
 refine⟨h.tok,h.once,by rw[List.length_set,h.ysl],fun z Z hz=>?_,fun z Z hz hin=>?_⟩
 ·rw[List.getElem?_set]at hz
  split at hz
  ·split at hz
   ·cases hz
    rename_i e _;exact e ▸ hv
   ·cases hz
  ·exact(h.car z Z hz).le hB
 ·rw[List.getElem?_set]at hz
  split at hz
  ·split at hz
   ·cases hz
    exact hp hin
   ·cases hz
  ·exact h.plc z Z hz hin
theorem WSt.knit{t:List (List zj)} {ys:List zd} {ids:List zb} {B:Nat} (h:WSt t ys ids B) (ht:zF t < 2048) (hB:B<=4096) {y:Nat} (hy:y < 6) {Y:zd} (hY:ys[y]?=some Y) (hin:Y.1=true) {k:Nat} {a:zb} (ha:ids[k]?=some a) {bed:Int} (hb:bed=0\/bed=1) :
  WSt (xx t y (bed,(Y.2.2.2.1,([a],Y.2.2.2.2)))) (ys.set y (true,Y.2.1,Y.2.2.1+1,false,[])) (ids.set k ((y:Int)+1,((t.getD y []).length:Int))) B:=by
 obtain⟨ρ,hρ⟩:=h.tok;have h6:=hρ.len;have hv:=h.car y Y hY;have hal:=h.once.has (List.mem_of_getElem? ha);refine⟨⟨_,hρ.put hy hb (fun b hb=>?_) (fun p hp=>⟨hv.pend p hp,(hv.v.ok p hp).2⟩) (by show [a].length<=4; simp) hv.v.few hv.v.red (hv.new hin)⟩,h.once.knit (by omega) ha rfl,by rw[List.length_set,h.ysl],fun z Z hz=>?_,fun z Z hz hin'=>?_⟩
 ·have:b∈[a]:=hb
  rw[List.mem_singleton]at this;exact this ▸ hal
 ·rw[List.getElem?_set]at hz
  split at hz
  ·split at hz
   ·cases hz
    rename_i e _;subst e;exact(hv.made h6 ht hin hy _).le (Nat.zero_le _)
   ·cases hz
  ·rename_i hne
   exact(h.car z Z hz).put h6 hy (fun e=>hne e.symm) _
 ·rw[List.getElem?_set]at hz
  split at hz
  ·split at hz
   ·cases hz
    exact h.plc y Y hY hin
   ·cases hz
  ·exact h.plc z Z hz hin'
def zN(r:List zi) (ids:List zb):List (List zB):=List.zipWith (fun x a=>[(ql x,[a])]) r ids
theorem slotsOf_at{r:List zi} {ids:List zb} {j:Nat} {x:zi} {a:zb} (hx:r[j]?=some x) (ha:ids[j]?=some a):(zN r ids)[j]?=some [(ql x,[a])]:=by
 unfold zN;rw[List.getElem?_zipWith,hx,ha]
theorem slotsOf_set{r:List zi} {ids:List zb} {j:Nat} {x:zi} (hx:r[j]?=some x) (b:zb):(zN r ids).set j [(ql x,[b])]=zN r (ids.set j b):=by
 apply List.ext_getElem?
 intro i;unfold zN;rw[List.getElem?_set,List.getElem?_zipWith,List.getElem?_zipWith,List.getElem?_set,List.length_zipWith];have hj:=(List.getElem?_eq_some_iff.1 hx).1
 by_cases e:j=i
 ·subst e
  rw[if_pos rfl,if_pos rfl,hx]
  by_cases h:j < ids.length
  ·rw[if_pos (by omega),if_pos h]
  ·rw[if_neg (by omega),if_neg h]
 ·rw[if_neg e,if_neg e]
theorem slotsOf_len{r:List zi} {ids:List zb} (h:r.length=ids.length):(zN r ids).length=ids.length:=by
 unfold zN;rw[List.length_zipWith];omega
theorem slotsOf_flat{r:List zi} {ids:List zb} (h:r.length=ids.length):zY (zN r ids).flatten=ids/\(zN r ids).flatten.length=ids.length:=by
 induction r generalizing ids with
 | nil=>
  cases ids with
  | nil=>exact⟨rfl,rfl⟩
  | cons a l=>cases h
 | cons x r ih=>
  cases ids with
  | nil=>cases h
  | cons a l=>
   obtain⟨h1,h2⟩:=ih (ids:=l) (by simpa using h);have e:zN (x :: r) (a :: l)=[(ql x,[a])] :: zN r l:=rfl;rw[e];constructor
   ·show zY ([(ql x,[a])]++(zN r l).flatten)=_
    show a :: zY (zN r l).flatten=_;rw[h1]
   ·simp only[List.flatten_cons,List.length_append,List.length_cons,h2,List.length_nil]
    omega
theorem cnt_drop{y:Int} {l:List zi} {j:Nat} {x:zi} (h:l[j]?=some x):cnt y (l.drop j)=cnt y (l.drop (j+1))+if x.2.1=y then 1 else 0:=by
 obtain⟨h1,h2⟩:=List.getElem?_eq_some_iff.1 h;unfold cnt;rw[List.drop_eq_getElem_cons h1,List.countP_cons,h2]
 simp
def befN(d y:Int) (r:List zi) (k:Nat):Nat:=if d=0 then cnt y (r.drop (k+1))else cnt y (r.take k)
def kOf(d:Int) (w i:Nat):Nat:=if d=0 then w - 1 - i else i
def doneK(d:Int) (w i k:Nat):Prop:=if d=0 then w<=k+i else k < i
def cOf(d y:Int) (r:List zi) (i:Nat):Nat:=if d=0 then cnt y (r.drop (r.length - i))else cnt y (r.take i)
instance (d:Int) (w i k:Nat):Decidable (doneK d w i k):=by unfold doneK; exact inferInstance
theorem cOf_zero(d y:Int) (r:List zi):cOf d y r 0=0:=by
 unfold cOf
 split<;>simp[cnt]
theorem cOf_all(d y:Int) (r:List zi):cOf d y r r.length=cnt y r:=by
 unfold cOf
 split<;>simp
theorem kOf_lt{d:Int} {w i:Nat} (h:i < w):kOf d w i < w:=by
 unfold kOf
 split<;>omega
theorem cOf_bef{d y:Int} {r:List zi} {i:Nat} (h:i < r.length):befN d y r (kOf d r.length i)=cOf d y r i:=by
 unfold befN kOf cOf
 split
 ·rw[show r.length - 1 - i+1=r.length - i by omega]
 ·rfl
theorem cOf_succ{d y:Int} {r:List zi} {i:Nat} (h:i < r.length) {x:zi} (hx:r[kOf d r.length i]?=some x):cOf d y r (i+1)=cOf d y r i+if x.2.1=y then 1 else 0:=by
 unfold cOf;unfold kOf at hx
 split
 ·rename_i e
  rw[if_pos e]at hx
  have:=cnt_drop (y:=y) hx
  rw[show r.length - 1 - i+1=r.length - i by omega]at this;rw[show r.length - (i+1)=r.length - 1 - i by omega];exact this
 ·rename_i e
  rw[if_neg e]at hx;exact cnt_take hx
theorem cOf_le(d y:Int) (r:List zi) (i:Nat):cOf d y r i<=r.length:=by
 unfold cOf
 split
 ·have:=cnt_le y (r.drop (r.length - i))
  rw[List.length_drop]at this;omega
 ·have:=cnt_le y (r.take i)
  rw[List.length_take]at this;omega
theorem doneK_succ{d:Int} {w i k:Nat} (h:i < w) (hk:k < w):doneK d w (i+1) k ↔ doneK d w i k\/k=kOf d w i:=by
 unfold doneK kOf
 split<;>omega
theorem doneK_not{d:Int} {w i:Nat} (h:i < w):¬ doneK d w i (kOf d w i):=by
 unfold doneK kOf
 split<;>omega
theorem doneK_zero{d:Int} {w k:Nat} (hk:k < w):¬ doneK d w 0 k:=by
 unfold doneK
 split<;>omega
theorem doneK_all{d:Int} {w k:Nat} (hk:k < w):doneK d w w k:=by
 unfold doneK
 split<;>omega

structure FSt(r:List zi) (d:Int) (y:Nat) (t0:List (List zj)) (ys0:List zd) (ids0:List zb) (B:Nat) (i:Nat) (t:List (List zj)) (ys:List zd) (ids:List zb) (pl:Int):Prop where
 st:WSt t ys ids (B+i)
 len:ids.length=r.length
 own:∃ Y:zd,ys[y]?=some Y/\Y.1=true/\Y.2.1=pl
 oth:∀ z:Nat,z≠y->ys[z]?=ys0[z]?
 rest:∀ z:Nat,z≠y->t.getD z []=t0.getD z []
 num:(t.getD y []).length=(t0.getD y []).length+cOf d ((y:Int)+1) r i
 all:zF t=zF t0+cOf d ((y:Int)+1) r i
 ext:∀ (a:zb) (l:zj),qp t0 a=some l->qp t a=some l
 new:∀ (k:Nat) (x:zi) (a:zb),r[k]?=some x->ids0[k]?=some a->x.2.1=(y:Int)+1->doneK d r.length i k ->
  ids[k]?=some ((y:Int)+1,(((t0.getD y []).length+befN d ((y:Int)+1) r k:Nat):Int))/\∃ l:zj,qp t ((y:Int)+1,(((t0.getD y []).length+befN d ((y:Int)+1) r k:Nat):Int))=some l/\l.1=ql x/\l.2.2.1=[a]
 old:∀ (k:Nat) (x:zi) (a:zb),r[k]?=some x->ids0[k]?=some a->¬ (x.2.1=(y:Int)+1/\doneK d r.length i k)->ids[k]?=some a
theorem FSt.start{r:List zi} {d:Int} {y:Nat} {t0:List (List zj)} {ys0:List zd} {ids0:List zb} {B:Nat} (h:WSt t0 ys0 ids0 B) (hl:ids0.length=r.length) {Y:zd} (hY:ys0[y]?=some Y) (hin:Y.1=true):FSt r d y t0 ys0 ids0 B 0 t0 ys0 ids0 Y.2.1:=
 ⟨h,hl,⟨Y,hY,hin,rfl⟩,fun _ _=>rfl,fun _ _=>rfl,by rw[cOf_zero]; rfl,by rw[cOf_zero]; rfl,fun _ _ h=>h,
  fun k x a hx _ _ hd=>absurd hd (doneK_zero (List.getElem?_eq_some_iff.1 hx).1),fun k x a _ ha _=>ha⟩
theorem FSt.slip{r:List zi} {d:Int} {y:Nat} {t0:List (List zj)} {ys0:List zd} {ids0:List zb} {B i:Nat} {t:List (List zj)} {ys:List zd} {ids:List zb} {pl:Int} (h:FSt r d y t0 ys0 ids0 B i t ys ids pl) (hi:i < r.length) {x:zi}
  (hx:r[kOf d r.length i]?=some x) (hne:x.2.1≠(y:Int)+1) {Y':zd} (hv:CarOk t (B+i+1) y Y') (hin:Y'.1=true) (hpl:Y'.2.1=pl):FSt r d y t0 ys0 ids0 B (i+1) t (ys.set y Y') ids pl:=by
 obtain⟨Y,hY,hYin,hYp⟩:=h.own;have hlt:=(List.getElem?_eq_some_iff.1 hY).1;have hp:=h.st.plc y Y hY hYin;have hc:=cOf_succ (y:=(y:Int)+1) hi hx;rw[if_neg hne,Nat.add_zero]at hc;refine⟨h.st.set hv (by omega) (fun _=>by rw[hpl,<- hYp]; exact hp),h.len,⟨Y',by rw[List.getElem?_set,if_pos rfl,if_pos hlt],hin,hpl⟩,fun z hz=>by rw[List.getElem?_set,if_neg (fun e=>hz e.symm)]; exact h.oth z hz,
  h.rest,by rw[hc]; exact h.num,by rw[hc]; exact h.all,h.ext,fun k z a hz ha hy hd=>?_,fun k z a hz ha hn=>?_⟩
 ·have hkl:=(List.getElem?_eq_some_iff.1 hz).1
  rcases (doneK_succ hi hkl).1 hd with hd | rfl
  ·exact h.new k z a hz ha hy hd
  ·rw[hx]at hz
   cases hz;exact absurd hy hne
 ·have hkl:=(List.getElem?_eq_some_iff.1 hz).1
  exact h.old k z a hz ha fun hh=>hn ⟨hh.1,(doneK_succ hi hkl).2 (Or.inl hh.2)⟩
theorem FSt.knit{r:List zi} {d:Int} {y:Nat} (hy:y < 6) {t0:List (List zj)} {ys0:List zd} {ids0:List zb} {B i:Nat} {t:List (List zj)} {ys:List zd} {ids:List zb} {pl:Int} (h:FSt r d y t0 ys0 ids0 B i t ys ids pl) (hi:i < r.length) {x:zi}
  (hx:r[kOf d r.length i]?=some x) (he:x.2.1=(y:Int)+1) {Y:zd} (hY:ys[y]?=some Y) (hin:Y.1=true) (hpl:Y.2.1=pl) {a:zb} (ha:ids[kOf d r.length i]?=some a) (ht:zF t < 2048) (hB:B+i<=4096) (h0:ids0.length=r.length) :
  FSt r d y t0 ys0 ids0 B (i+1) (xx t y (ql x,(Y.2.2.2.1,([a],Y.2.2.2.2)))) (ys.set y (true,Y.2.1,Y.2.2.1+1,false,[])) (ids.set (kOf d r.length i) ((y:Int)+1,((t.getD y []).length:Int))) pl:=by
 obtain⟨ρ,hρ⟩:=h.st.tok;have h6:y < t.length:=by rw[hρ.len]; exact hy
 have hlt:=(List.getElem?_eq_some_iff.1 hY).1;have hk:=(List.getElem?_eq_some_iff.1 ha).1;have hc:=cOf_succ (y:=(y:Int)+1) hi hx;rw[if_pos he]at hc;have hb:=cOf_bef (d:=d) (y:=(y:Int)+1) hi;obtain⟨a0,ha0⟩:∃ a,ids0[kOf d r.length i]?=some a:=⟨_,List.getElem?_eq_getElem (by have:=kOf_lt (d:=d) hi; omega)⟩
 have hold:=h.old _ x a0 hx ha0 (fun hh=>doneK_not hi hh.2);rw[ha]at hold;cases hold;have hst:=h.st.knit ht hB hy hY hin ha (bedOf_ok x);have hnum:((t0.getD y []).length+befN d ((y:Int)+1) r (kOf d r.length i):Nat)=(t.getD y []).length:=by rw[hb,h.num]
 refine⟨⟨hst.tok,hst.once,hst.ysl,fun z Z hz=>(hst.car z Z hz).le (by omega),hst.plc⟩,by rw[List.length_set]; exact h.len,⟨(true,Y.2.1,Y.2.2.1+1,false,[]),by rw[List.getElem?_set,if_pos rfl,if_pos hlt],rfl,hpl⟩,fun z hz=>by rw[List.getElem?_set,if_neg (fun e=>hz e.symm)]; exact h.oth z hz,
  fun z hz=>by rw[qJ h6,if_neg hz]; exact h.rest z hz,by rw[qJ h6,if_pos rfl,List.length_append,hc,h.num]; simp; omega,by rw[tall_put h6,hc,h.all]; omega,fun b l hb=>tget_put h6 _ (h.ext b l hb),fun k z b hz hb hy' hd=>?_,fun k z b hz hb hn=>?_⟩
 ·have hkl:=(List.getElem?_eq_some_iff.1 hz).1
  by_cases e:k=kOf d r.length i
  ·subst e
   rw[hx]at hz;cases hz;rw[ha0]at hb;cases hb;rw[hnum];exact⟨by rw[List.getElem?_set,if_pos rfl,if_pos hk],_,tget_new h6 _,rfl,rfl⟩
  ·have hd':=((doneK_succ hi hkl).1 hd).resolve_right e
   obtain⟨h1,l,h2,h3⟩:=h.new k z b hz hb hy' hd';exact⟨by rw[List.getElem?_set,if_neg (fun h=>e h.symm)]; exact h1,l,tget_put h6 _ h2,h3⟩
 ·have hkl:=(List.getElem?_eq_some_iff.1 hz).1
  by_cases e:k=kOf d r.length i
  ·subst e
   rw[hx]at hz;cases hz;exact absurd ⟨he,(doneK_succ hi hkl).2 (Or.inr rfl)⟩ hn
  ·rw[List.getElem?_set,if_neg (fun h=>e h.symm)]
   exact h.old k z b hz hb fun hh=>hn ⟨hh.1,(doneK_succ hi hkl).2 (Or.inl hh.2)⟩
theorem rfollow_L3_ok{N:Nat} (hN:5000 < N) {r:List zi} (hr1:1<=r.length) (hr:r.length<=16) (hst:∀ x∈r,St6 x) {d:Int} (hd:d=0\/d=1) {y:Nat} (hy:y < 6) {t0:List (List zj)} {ys0:List zd} {ids0:List zb} {B:Nat} (h:WSt t0 ys0 ids0 B) (hl:ids0.length=r.length)
  {Y:zd} (hY:ys0[y]?=some Y) (hin:Y.1=true) (ht:zF t0+r.length<=2048) (hB:B+r.length<=4096) (q1:Int) (q4:List (Bool×List zB)) (q5:List zd) :
  T (m_rfollow_L3 N ((y:Int)+1) (q1,r,d,q4,q5) N ((0:Int),(y:Int)+1,(y:Int)+1,(y:Int)+1,(y:Int)+1,(y:Int)+1,(y:Int)+1,(y:Int)+1,(y:Int)+1,r,d,own (zN r ids0),ys0,own t0)) fun q=>
   ∃ t ys ids,q=.inl (r,d,own (zN r ids),ys,own t)/\FSt r d y t0 ys0 ids0 B r.length t ys ids Y.2.1:=by
 unfold m_rfollow_L3;refine T_loop (fun k D=>∃ (i:Nat) (t:List (List zj)) (ys:List zd) (ids:List zb),i+k=r.length/\D=((i:Int),(y:Int)+1,(y:Int)+1,(y:Int)+1,(y:Int)+1,(y:Int)+1,(y:Int)+1,(y:Int)+1,(y:Int)+1,r,d,own (zN r ids),ys,own t)/\FSt r d y t0 ys0 ids0 B i t ys ids Y.2.1) _ ?_ N r.length _ (by omega)
  ⟨0,t0,ys0,ids0,by omega,rfl,FSt.start h hl hY hin⟩
 rintro k D rec ⟨i,t,ys,ids,hi,rfl,hF⟩ hrec
 by_cases hlt:i < r.length
 ·obtain⟨x,hx⟩:∃ x,r[kOf d r.length i]?=some x:=⟨_,List.getElem?_eq_getElem (kOf_lt hlt)⟩
  have hkw:=kOf_lt (d:=d) hlt;have hx6:=hst x (List.mem_of_getElem? hx);obtain⟨a,ha⟩:∃ a,ids[kOf d r.length i]?=some a:=⟨_,List.getElem?_eq_getElem (by have:=hF.len; omega)⟩
  have hS:=slotsOf_at hx ha;have hal:=hF.st.once.has (List.mem_of_getElem? ha);obtain⟨Z,hZ,hZin,hZp⟩:=hF.own;obtain⟨ρ,hρ⟩:=hF.st.tok;have hcl:=cOf_le d ((y:Int)+1) r (i+1);have hcs:=cOf_succ (y:=(y:Int)+1) hlt hx;have htl:=hF.all;have hltI:(i:Int) < (r.length:Int):=by omega
  have hko:kOf d r.length i=if d=0 then r.length - 1 - i else i:=rfl
  by_cases he:x.2.1=(y:Int)+1
  ·rw[if_pos he]at hcs
   have hk:=rknit_ok hN hρ.len (show zF t < 2048 by omega) hy hZ (hF.st.car y Z hZ) hZin hS r (d:=d);rw[slotsOf_set hx]at hk;have hnext:=hF.knit hy hlt hx he hZ hZin hZp ha (by omega) (by omega) hl;have this:=hrec (k - 1) _ (by omega) ⟨i+1,_,_,_,by omega,rfl,hnext⟩
   rcases hd with rfl | rfl
   ·have hk0:((r.length:Int) - 1 - (i:Int))=((kOf 0 r.length i:Nat):Int):=by
     rw[hko,if_pos rfl];omega
    rcases hx6.1 with hx1 | hx1
    ·simp only[tq,Int.reduceEq,Int.reduceLT,Int.reduceLE,reduceCtorEq,hltI,hk0,zv hx,he,hx1,zw hk]
     (repeat' apply And.intro)<;>first | omega | (simp only[LL]; omega) | exact this | rfl | trivial
    ·simp only[tq,Int.reduceEq,Int.reduceLT,Int.reduceLE,reduceCtorEq,hltI,hk0,zv hx,he,hx1,zw hk]
     (repeat' apply And.intro)<;>first | omega | (simp only[LL]; omega) | exact this | rfl | trivial
   ·have hk1:kOf 1 r.length i=i:=by rw[hko,if_neg (by omega)]
    rw[hk1]at hk hx this
    rcases hx6.1 with hx1 | hx1
    ·simp only[tq,Int.reduceEq,Int.reduceLT,Int.reduceLE,reduceCtorEq,hltI,zv hx,he,hx1,zw hk]
     (repeat' apply And.intro)<;>first | omega | (simp only[LL]; omega) | exact this | rfl | trivial
    ·simp only[tq,Int.reduceEq,Int.reduceLT,Int.reduceLE,reduceCtorEq,hltI,zv hx,he,hx1,zw hk]
     (repeat' apply And.intro)<;>first | omega | (simp only[LL]; omega) | exact this | rfl | trivial
  ·obtain⟨Y',hs,hv,hin',hpl'⟩:=rslipm_ok hN hρ.len (show zF t<=2048 by omega) hy hZ (hF.st.car y Z hZ) hZin hS hal (by omega) r hd
   have hnext:=hF.slip hlt hx he hv hin' (by rw[hpl',hZp]);have this:=hrec (k - 1) _ (by omega) ⟨i+1,_,_,_,by omega,rfl,hnext⟩
   rcases hd with rfl | rfl
   ·have hk0:((r.length:Int) - 1 - (i:Int))=((kOf 0 r.length i:Nat):Int):=by
     rw[hko,if_pos rfl];omega
    simp only[tq,Int.reduceEq,Int.reduceLT,Int.reduceLE,reduceCtorEq,hltI,hk0,zv hx,he,zw hs]
    (repeat' apply And.intro)<;>first | omega | (simp only[LL]; omega) | exact this | rfl | trivial
   ·have hk1:kOf 1 r.length i=i:=by rw[hko,if_neg (by omega)]
    rw[hk1]at hs hx;simp only[tq,Int.reduceEq,Int.reduceLT,Int.reduceLE,reduceCtorEq,hltI,zv hx,he,zw hs]
    (repeat' apply And.intro)<;>first | omega | (simp only[LL]; omega) | exact this | rfl | trivial
 ·have hltI:¬ (i:Int) < (r.length:Int):=by omega
  simp only[tq,Int.reduceEq,Int.reduceLT,Int.reduceLE,reduceCtorEq,hltI];exact⟨t,ys,ids,rfl,(show i=r.length by omega) ▸ hF⟩

theorem endOf_pl(d:Int):endOf d=-13\/endOf d=179:=by
 unfold endOf
 split
 ·exact Or.inl rfl
 ·exact Or.inr rfl
theorem rfollow_ok{N:Nat} (hN:5000 < N) {r:List zi} (hr1:1<=r.length) (hr:r.length<=16) (hst:∀ x∈r,St6 x) {d:Int} (hd:d=0\/d=1) {y:Nat} (hy:y < 6) {t:List (List zj)} {ys:List zd} {ids:List zb} {B:Nat} (h:WSt t ys ids B) (hl:ids.length=r.length)
  (ht:zF t+r.length<=2048) (hB:B+r.length+r.length<=4096) :
  T (xo N ((y:Int)+1) r d (own (zN r ids)) (own t) ys) fun q=>
   ∃ t' ys' ids',q=(0,r,d,own (zN r ids'),own t',ys')/\FSt r d y t ys ids (B+r.length) r.length t' ys' ids' (endOf d):=by
 obtain⟨Y,hY⟩:∃ Y,ys[y]?=some Y:=⟨_,List.getElem?_eq_getElem (by have:=h.ysl; omega)⟩
 have hylt:=(List.getElem?_eq_some_iff.1 hY).1;obtain⟨ρ,hρ⟩:=h.tok;have hf:=slotsOf_flat (r:=r) (ids:=ids) hl.symm;have hbeg:=rsbegin_ok hN hρ.len (show zF t<=2048 by omega) hy hY (h.car y Y hY) (fun hin=>((h.car y Y hY).v.at' hin).1) r hd (S:=zN r ids) (by rw[slotsOf_len hl.symm]; omega) (by rw[hf.2]; omega) (by rw[hf.1]; omega)
  (fun a ha=>h.once.has (by rw[hf.1]at ha; exact ha)) (by rw[hf.1]; omega)
 rw[hf.1]at hbeg;unfold xo;simp only[tq,Int.reduceEq,Int.reduceLT,Int.reduceLE,reduceCtorEq];refine hbeg.mono ?_;rintro q ⟨Y',rfl,hin',hpl',hv'⟩;simp only[tq,Int.reduceEq,Int.reduceLT,Int.reduceLE,reduceCtorEq];have h1:WSt t (ys.set y Y') ids (B+r.length):=h.set (hv'.le (by omega)) (by omega) fun _=>by rw[hpl']; exact endOf_pl _
 have hY1:(ys.set y Y')[y]?=some Y':=by rw[List.getElem?_set,if_pos rfl,if_pos hylt]
 refine T.of (show m_racts N ((y:Int)+1)=_ from rfl) ?_;have h3:=rfollow_L3_ok hN hr1 hr hst hd hy h1 hl hY1 hin' ht (by omega) 0 (own (zN r ids)) (ys.set y Y');refine h3.mono ?_;rintro q ⟨t',ys',ids',rfl,hF⟩;obtain⟨Z,hZ,hZin,hZp⟩:=hF.own;obtain⟨ρ',hρ'⟩:=hF.st.tok;have hZlt:=(List.getElem?_eq_some_iff.1 hZ).1;have hcl:=cOf_le d ((y:Int)+1) r r.length;have hta:=hF.all;have hZv:=hF.st.car y Z hZ;have hZf:=hZv.few;have hmv:=rsmove_ok hN hy hZ hZv.v hZin (endOf_ok d) (l:=[]) (fun p hp=>by cases hp) (by simp; omega) r d;simp only[tq,Int.reduceEq,Int.reduceLT,Int.reduceLE,reduceCtorEq,zw (rend_ok N d),zw hmv];have hgo:=hZv.go hρ'.len (show zF t'<=2048 by omega) hZin (endOf_ok d) (l:=[]) (fun p hp=>by cases hp) (by simp; omega);rw[List.length_nil,Nat.zero_add]at hgo;refine⟨t',_,ids',rfl,⟨hF.st.set hgo (Nat.le_refl _) (fun _=>endOf_pl d),hF.len,⟨_,by rw[List.getElem?_set,if_pos rfl,if_pos hZlt],rfl,rfl⟩,fun z hz=>?_,hF.rest,hF.num,hF.all,hF.ext,hF.new,hF.old⟩⟩;rw[List.getElem?_set,if_neg (fun e=>hz e.symm),hF.oth z hz,List.getElem?_set,if_neg (fun e=>hz e.symm)]
def usersOf(r:List zi):List (Int×Unit):=([1,2,3,4,5,6]:List Int).filterMap fun y=>if r.any (fun x=>decide (x.2.1=y))then some (y,())else none
theorem containsS_ok{N:Nat} (hN:5000 < N) (r:List zi) (hr:r.length<=300) (y:Int):m_containsS N r y=some (r.any fun x=>decide (x.2.1=y)):=by
 have hL:∃ q,m_indexS_L1 N r y N (0:Int)=some q/\(r.any fun x=>decide (x.2.1=y))=match q with | .inl _=>false | .inr z=>decide (0<=z):=by
  unfold m_indexS_L1;refine T_loop (fun k d=>∃ j:Nat,j+k=r.length/\d=(j:Int)/\(r.take j).any (fun x=>decide (x.2.1=y))=false) _ ?_ N r.length _ (by omega) ⟨0,by omega,rfl,rfl⟩;rintro k d rec ⟨j,hj,rfl,hn⟩ hrec
  by_cases hlt:j < r.length
  ·obtain⟨x,hx⟩:∃ x,r[j]?=some x:=⟨_,List.getElem?_eq_getElem hlt⟩
   have hltI:(j:Int) < (r.length:Int):=by omega
   have h1:m_users11 N x y=some (decide (x.2.1=y)):=rfl;simp only[tq,Int.reduceEq,Int.reduceLT,Int.reduceLE,reduceCtorEq,hltI,zv hx,zw h1];refine⟨by(repeat' apply And.intro)<;>first | omega | (simp only[LL]; omega) | exact this | rfl | trivial,fun e=>?_,fun e=>?_⟩
   ·rw[decide_eq_true (show(0:Int)<=(j:Int) by omega),List.any_eq_true]
    exact⟨x,List.mem_of_getElem? hx,decide_eq_true e⟩
   ·have this:=hrec (k - 1) _ (by omega) ⟨j+1,by omega,rfl,by
     rw[List.take_succ_eq_append_getElem hlt,(List.getElem?_eq_some_iff.1 hx).2,List.any_append,hn,List.any_cons,decide_eq_false e]
     rfl⟩
    (repeat' apply And.intro)<;>first | omega | (simp only[LL]; omega) | exact this | rfl | trivial
  ·have hltI:¬ (j:Int) < (r.length:Int):=by omega
   simp only[tq,Int.reduceEq,Int.reduceLT,Int.reduceLE,reduceCtorEq,hltI];rw[List.take_of_length_le (by omega)]at hn;exact hn
 obtain⟨q,hq,he⟩:=hL;unfold m_containsS m_indexS;rw[hq,Option.bind_some];cases q with
 | inl _=>rw[he]; rfl
 | inr z=>rw[he]; rfl

theorem users_step{N:Nat} (hN:5000 < N) (r:List zi) (hr:r.length<=300) (n:Nat) (y:Int) (h1:1<=y) (h6:y<=6) (l:List Int)
  (h:qP N true r n (y+1)=some (l.filterMap fun y=>if r.any (fun x=>decide (x.2.1=y))then some (y,())else none)) :
  qP N true r (n+1) y=some ((y :: l).filterMap fun y=>if r.any (fun x=>decide (x.2.1=y))then some (y,())else none):=by
 have hw:IntKind.wrap .u8 (y+(1:Int))=y+1:=wrap8 (by omega) (by omega);unfold qP at h ⊢;show cond (decide (y<=6)) (Option.bind (m_containsS N r y) _) _=_;rw[decide_eq_true h6,cond_true,containsS_ok hN r hr y,Option.bind_some,hw,h,List.filterMap_cons];cases r.any fun x=>decide (x.2.1=y)with
 | true=>rfl
 | false=>rfl
theorem usersI_ok{N:Nat} (hN:5000 < N) (r:List zi) (hr:r.length<=300):m_usersI N true r=some (usersOf r):=by
 obtain⟨n,hn⟩:∃ n,N=n+7:=⟨N - 7,by omega⟩
 have h7:qP N true r (n+1) 7=some (([]:List Int).filterMap fun y=>if r.any (fun x=>decide (x.2.1=y))then some (y,())else none):=rfl;have h6:=users_step hN r hr _ 6 (by omega) (by omega) _ h7;have h5:=users_step hN r hr _ 5 (by omega) (by omega) _ h6;have h4:=users_step hN r hr _ 4 (by omega) (by omega) _ h5;have h3:=users_step hN r hr _ 3 (by omega) (by omega) _ h4;have h2:=users_step hN r hr _ 2 (by omega) (by omega) _ h3;have h1:=users_step hN r hr _ 1 (by omega) (by omega) _ h2;unfold m_usersI;rw[show qP N true r N 1=qP N true r (n+7) 1 by rw[<- hn]];exact h1
def cntL(m:Nat) (r:List zi):Nat:=r.countP fun x=>decide (x.2.1<=(m:Int))
theorem cntL_succ(m:Nat) (r:List zi):cntL (m+1) r=cntL m r+cnt ((m:Int)+1) r:=by
 unfold cntL cnt
 induction r with
 | nil=>rfl
 | cons x r ih=>
  rw[List.countP_cons,List.countP_cons,List.countP_cons,ih]
  by_cases h1:x.2.1<=(m:Int)
  ·rw[decide_eq_true h1,decide_eq_true (show x.2.1<=((m+1:Nat):Int) by omega),decide_eq_false (show ¬ x.2.1=(m:Int)+1 by omega)]
   simp; omega
  ·by_cases h2:x.2.1=(m:Int)+1
   ·rw[decide_eq_false h1,decide_eq_true (show x.2.1<=((m+1:Nat):Int) by omega),decide_eq_true h2]
    simp; omega
   ·rw[decide_eq_false h1,decide_eq_false (show ¬ x.2.1<=((m+1:Nat):Int) by omega),decide_eq_false h2]
    simp
theorem cntL_le(m:Nat) (r:List zi):cntL m r<=r.length:=List.countP_le_length
theorem cntL_zero{r:List zi} (h:∀ x∈r,St6 x):cntL 0 r=0:=by
 unfold cntL;rw[List.countP_eq_zero];intro x hx
 have:=(h x hx).2.1
 simp
 omega
theorem cntL_six{r:List zi} (h:∀ x∈r,St6 x):cntL 6 r=r.length:=by
 unfold cntL;rw[List.countP_eq_length];intro x hx
 have:=(h x hx).2.2.1
 simp
 omega
structure RSt(r:List zi) (d:Int) (t0:List (List zj)) (ys0:List zd) (ids0:List zb) (B:Nat) (m:Nat) (t:List (List zj)) (ys:List zd) (ids:List zb):Prop where
 st:WSt t ys ids (B+32 * m)
 len:ids.length=r.length
 num:∀ z:Nat,z < 6->(t.getD z []).length=(t0.getD z []).length+if z < m then cnt ((z:Int)+1) r else 0
 all:zF t=zF t0+cntL m r
 ext:∀ (a:zb) (l:zj),qp t0 a=some l->qp t a=some l
 new:∀ (k:Nat) (x:zi) (a:zb),r[k]?=some x->ids0[k]?=some a->x.2.1<=(m:Int) ->
  ids[k]?=some (x.2.1,(((t0.getD (x.2.1 - 1).toNat []).length+befN d x.2.1 r k:Nat):Int))/\∃ l:zj,qp t (x.2.1,(((t0.getD (x.2.1 - 1).toNat []).length+befN d x.2.1 r k:Nat):Int))=some l/\l.1=ql x/\l.2.2.1=[a]
 old:∀ (k:Nat) (x:zi) (a:zb),r[k]?=some x->ids0[k]?=some a->¬ x.2.1<=(m:Int)->ids[k]?=some a
 used:∀ x∈r,x.2.1<=(m:Int)->∃ Y:zd,ys[(x.2.1 - 1).toNat]?=some Y/\Y.1=true/\Y.2.1=endOf d
theorem RSt.skip{r:List zi} {d:Int} {t0:List (List zj)} {ys0:List zd} {ids0:List zb} {B m:Nat} {t:List (List zj)} {ys:List zd} {ids:List zb} (h:RSt r d t0 ys0 ids0 B m t ys ids) (hn:∀ x∈r,x.2.1≠(m:Int)+1):RSt r d t0 ys0 ids0 B (m+1) t ys ids:=by
 have hc:cnt ((m:Int)+1) r=0:=by
  unfold cnt;rw[List.countP_eq_zero];intro x hx
  have:=hn x hx
  simp only[decide_eq_true_eq];exact this
 have hle:∀ x∈r,x.2.1<=((m+1:Nat):Int)->x.2.1<=(m:Int):=fun x hx h=>by
  have:=hn x hx
  omega
 refine⟨⟨h.st.tok,h.st.once,h.st.ysl,fun z Z hz=>(h.st.car z Z hz).le (by omega),h.st.plc⟩,h.len,fun z hz=>?_,by rw[cntL_succ,hc]; exact h.all,h.ext,fun k x a hx ha hm=>h.new k x a hx ha (hle x (List.mem_of_getElem? hx) hm),fun k x a hx ha hm=>h.old k x a hx ha (fun hh=>hm (by omega)),fun x hx hm=>h.used x hx (hle x hx hm)⟩;rw[h.num z hz]
 by_cases e:z=m
 ·subst e
  rw[if_neg (by omega),if_pos (by omega),hc]
 ·by_cases e2:z < m
  ·rw[if_pos e2,if_pos (by omega)]
  ·rw[if_neg e2,if_neg (by omega)]
theorem RSt.follow{r:List zi} (hr:r.length<=16) {d:Int} {t0:List (List zj)} {ys0:List zd} {ids0:List zb} {B m:Nat} (hm:m < 6) {t:List (List zj)} {ys:List zd} {ids:List zb} (h:RSt r d t0 ys0 ids0 B m t ys ids) {t':List (List zj)} {ys':List zd} {ids':List zb}
  (hF:FSt r d m t ys ids (B+32 * m+r.length) r.length t' ys' ids' (endOf d)) (h0:ids0.length=r.length):RSt r d t0 ys0 ids0 B (m+1) t' ys' ids':=by
 have hnum:=h.num m hm;rw[if_neg (by omega),Nat.add_zero]at hnum;refine⟨⟨hF.st.tok,hF.st.once,hF.st.ysl,fun z Z hz=>(hF.st.car z Z hz).le (by omega),hF.st.plc⟩,hF.len,fun z hz=>?_,by rw[hF.all,h.all,cOf_all,cntL_succ]; omega,fun a l hl=>hF.ext a l (h.ext a l hl),fun k x a hx ha hxm=>?_,fun k x a hx ha hxm=>?_,fun x hx hxm=>?_⟩
 ·by_cases e:z=m
  ·subst e
   rw[hF.num,cOf_all,hnum,if_pos (by omega)]
  ·rw[hF.rest z e,h.num z hz]
   by_cases e2:z < m
   ·rw[if_pos e2,if_pos (by omega)]
   ·rw[if_neg e2,if_neg (by omega)]
 ·have hkl:=(List.getElem?_eq_some_iff.1 hx).1
  by_cases e:x.2.1=(m:Int)+1
  ·have hold:=h.old k x a hx ha (by omega)
   obtain⟨h1,l,h2,h3⟩:=hF.new k x a hx hold e (doneK_all hkl);rw[e,show((m:Int)+1 - 1).toNat=m by omega,<- hnum];exact⟨h1,l,h2,h3⟩
  ·obtain⟨h1,l,h2,h3⟩:=h.new k x a hx ha (by omega)
   exact⟨hF.old k x _ hx h1 (fun hh=>e hh.1),l,hF.ext _ l h2,h3⟩
 ·exact hF.old k x a hx (h.old k x a hx ha (by omega)) (fun hh=>by have:=hh.1; omega)
 ·by_cases e:x.2.1=(m:Int)+1
  ·obtain⟨Y,h1,h2,h3⟩:=hF.own
   exact⟨Y,by rw[e,show((m:Int)+1 - 1).toNat=m by omega]; exact h1,h2,h3⟩
  ·obtain⟨Y,h1,h2,h3⟩:=h.used x hx (by omega)
   by_cases e0:(x.2.1 - 1).toNat=m
   ·obtain⟨Y,h1,h2,h3⟩:=hF.own
    exact⟨Y,by rw[e0]; exact h1,h2,h3⟩
   ·exact⟨Y,by rw[hF.oth _ e0]; exact h1,h2,h3⟩
theorem RSt.start{r:List zi} (hst:∀ x∈r,St6 x) (d:Int) {t0:List (List zj)} {ys0:List zd} {ids0:List zb} {B:Nat} (h:WSt t0 ys0 ids0 B) (hl:ids0.length=r.length):RSt r d t0 ys0 ids0 B 0 t0 ys0 ids0:=by
 refine⟨h,hl,fun z _=>by rw[if_neg (by omega)]; rfl,by rw[cntL_zero hst]; rfl,fun _ _ h=>h,fun k x a hx _ hm=>?_,fun k x a _ ha _=>ha,fun x hx hm=>?_⟩
 ·have:=(hst x (List.mem_of_getElem? hx)).2.1
  omega
 ·have:=(hst x hx).2.1
  omega

def zR(bs:List Int) (ids:List zb):List zB:=List.zipWith (fun b a=>(b,[a])) bs ids
theorem singles_held{bs:List Int} {ids:List zb} (h:bs.length=ids.length):zY (zR bs ids)=ids:=by
 induction bs generalizing ids with
 | nil=>
  cases ids with
  | nil=>rfl
  | cons a l=>cases h
 | cons x r ih=>
  cases ids with
  | nil=>cases h
  | cons a l=>
   show a :: zY (zR r l)=_;rw[ih (by simpa using h)]
theorem xi{bs:List Int} {ids:List zb} (h:bs.length=ids.length):(zR bs ids).length=ids.length:=by
 unfold zR;rw[List.length_zipWith];omega
theorem singles_at{bs:List Int} {ids:List zb} {k:Nat} {s:zB} (h:(zR bs ids)[k]?=some s):∃ b a,bs[k]?=some b/\ids[k]?=some a/\s=(b,[a]):=by
 unfold zR at h;rw[List.getElem?_zipWith]at h;cases hb:bs[k]? with
 | none=>rw[hb]at h; cases h
 | some b=>
  cases ha:ids[k]? with
  | none=>rw[hb,ha]at h; cases h
  | some a=>
   rw[hb,ha]at h;cases h;exact⟨b,a,rfl,rfl,rfl⟩
theorem prepS_singles{r:List zi} {bs:List Int} {ids:List zb} (h:bs.length=ids.length):xy r (zR bs ids)=zN r ids:=by
 unfold xy zN zR
 induction r generalizing bs ids with
 | nil=>rfl
 | cons x r ih=>
  cases bs with
  | nil=>
   cases ids with
   | nil=>rfl
   | cons a l=>cases h
  | cons b bs=>
   cases ids with
   | nil=>cases h
   | cons a l=>
    simp only[List.zipWith_cons_cons];rw[ih (by simpa using h)]
theorem slotsOf_singles{r:List zi} {ids:List zb} (h:r.length=ids.length):(zN r ids).flatten=zR (r.map ql) ids:=by
 induction r generalizing ids with
 | nil=>
  cases ids with
  | nil=>rfl
  | cons a l=>cases h
 | cons x r ih=>
  cases ids with
  | nil=>cases h
  | cons a l=>
   show(ql x,[a]) :: (zN r l).flatten=(ql x,[a]) :: zR (r.map ql) l;rw[ih (by simpa using h)]
theorem TOk.tb{t:List (List zj)} {ρ:zb->Nat} (h:TOk t ρ) (ht:zF t<=4096):TB t:=by
 have hat:∀ x∈t,∀ l∈x,∃ a,qp t a=some l:=by
  intro x hx l hl;obtain⟨j,hj⟩:=List.getElem?_of_mem hx;obtain⟨n,hn⟩:=List.getElem?_of_mem hl;exact⟨((j:Int)+1,(n:Int)),by rw[tget_at,zv hj,hn]⟩
 refine⟨by rw[h.len]; omega,fun x hx=>?_,fun x hx l hl=>?_,fun x hx l hl=>?_⟩
 ·obtain⟨j,hj⟩:=List.getElem?_of_mem hx
  have:=tall_le (t:=t) j
  rw[zv hj]at this;omega
 ·obtain⟨a,ha⟩:=hat x hx l hl
  have:=h.thl a l ha
  omega
 ·obtain⟨a,ha⟩:=hat x hx l hl
  have:=h.psl a l ha
  omega
structure WJ(wk:qx) (w:Nat) (ids:List zb) (B:Nat):Prop where
 bs:∃ bs:List Int,bs.length=ids.length/\wk.1=zR bs ids/\∀ b∈bs,b=0\/b=1
 ln:ids.length=w
 st:WSt wk.2.2.1.1 wk.2.1 ids B
 X:wk.2.2.1.2.1=[]
 H:wk.2.2.1.2.2.1=ids
 F:wk.2.2.1.2.2.2=[]
 d:wk.2.2.2=0\/wk.2.2.2=1
abbrev WS:=(List (Bool×List zB))×(List zd)×(List zi)×Int×(List (Bool×List zj))×(List zQ)×(List zb)×(List zb)
def wstep(N:Nat) (x4:Int×Unit) (y4:WS) (k4:WS->Option (qx×Int)):Option (qx×Int):=
 Option.bind (xo N x4.1 y4.2.2.1 y4.2.2.2.1 y4.1 y4.2.2.2.2.1 y4.2.1) fun r5=>
  cond (!(decide (r5.1=(0:Int)))) (some ((([]:List zB),(([]:List zd),((([]:List (List zj)),(([]:List zQ),(([]:List zb),([]:List zb)))),(0:Int)))),r5.1)) (k4 (r5.2.2.2.1,r5.2.2.2.2.2,r5.2.1,r5.2.2.1,r5.2.2.2.2.1,y4.2.2.2.2.2.1,y4.2.2.2.2.2.2.1,y4.2.2.2.2.2.2.2))
theorem wrange_ok{N:Nat} (hN:5000 < N) {r:List zi} (hr1:1<=r.length) (hr:r.length<=16) (hst:∀ x∈r,St6 x) {d:Int} (hd:d=0\/d=1) {t0:List (List zj)} {ys0:List zd} {ids0:List zb} {B:Nat} (h0:ids0.length=r.length) (ht:zF t0+32<=2048) (hB:B+192<=4096)
  (c:List zQ) (hd' fl:List zb) (K:WS->Option (qx×Int)) (P:qx×Int->Prop) (hK:∀ t ys ids,RSt r d t0 ys0 ids0 B 6 t ys ids->T (K (own (zN r ids),ys,r,d,own t,c,hd',fl)) P) :
  ∀ (j m:Nat),m+j=6->∀ t ys ids,RSt r d t0 ys0 ids0 B m t ys ids ->
   T (rangeL (wstep N) ((([1,2,3,4,5,6]:List Int).drop m).filterMap fun y=>if r.any (fun x=>decide (x.2.1=y))then some (y,())else none) (own (zN r ids),ys,r,d,own t,c,hd',fl) K) P
 | 0,m,hm,t,ys,ids,h=>by
  obtain rfl:m=6:=by omega
  exact hK t ys ids h
 | j+1,m,hm,t,ys,ids,h=>by
  have hdr:([1,2,3,4,5,6]:List Int).drop m=((m:Int)+1) :: ([1,2,3,4,5,6]:List Int).drop (m+1):=by
   have:m=0\/m=1\/m=2\/m=3\/m=4\/m=5:=by omega
   rcases this with rfl | rfl | rfl | rfl | rfl | rfl<;>rfl
  rw[hdr,List.filterMap_cons];cases ha:r.any fun x=>decide (x.2.1=(m:Int)+1)with
  | false=>
   rw[if_neg (by decide)];refine wrange_ok hN hr1 hr hst hd h0 ht hB c hd' fl K P hK j (m+1) (by omega) t ys ids (h.skip fun x hx e=>?_);rw[List.any_eq_false]at ha;exact ha x hx (decide_eq_true e)
  | true=>
   rw[if_pos rfl];have hta:=h.all;have hcl:=cntL_le m r;have hf:=rfollow_ok hN hr1 hr hst hd (show m < 6 by omega) h.st h.len (by omega) (by omega);show T (wstep N ((m:Int)+1,()) _ _) P;unfold wstep;simp only[tq,Int.reduceEq,Int.reduceLT,Int.reduceLE,reduceCtorEq];refine hf.mono ?_;rintro q ⟨t',ys',ids',rfl,hF⟩;simp only[tq,Int.reduceEq,Int.reduceLT,Int.reduceLE,reduceCtorEq];exact wrange_ok hN hr1 hr hst hd h0 ht hB c hd' fl K P hK j (m+1) (by omega) t' ys' ids' (h.follow hr (by omega) hF h0)
theorem rworked_ok{N:Nat} (hN:5000 < N) {wk:qx} {w:Nat} {ids:List zb} {B:Nat} (h:WJ wk w ids B) {r:List zi} (hr:r.length=w) (hw1:1<=w) (hw16:w<=16) (hst:∀ x∈r,St6 x) (ht:zF wk.2.2.1.1+32<=2048) (hB:B+192<=4096) :
  T (qX N wk r) fun q=>∃ wk' ids',q=(wk',0)/\WJ wk' w ids' (B+192)/\wk'.2.2.2=qM wk.2.2.2/\RSt r wk.2.2.2 wk.2.2.1.1 wk.2.1 ids B 6 wk'.2.2.1.1 wk'.2.1 ids'/\wk'.1=zR (r.map ql) ids':=by
 obtain⟨bs,hb1,hb2,hb3⟩:=h.bs;have hln:=h.ln;obtain⟨ρ,hρ⟩:=h.st.tok;have hsl:wk.1.length=w:=by rw[hb2,xi hb1,hln]
 obtain⟨hd,hp⟩:=rprepare_ok hN hw1 hw16 hr hst hsl (fun s hs=>by
  obtain⟨k,hk⟩:=List.getElem?_of_mem hs;rw[hb2]at hk;obtain⟨b,a,_,_,rfl⟩:=singles_at hk
  rfl) (hρ.tb (by omega)) h.X h.F (by rw[h.H,hln]; omega)
 rw[hb2,prepS_singles hb1]at hp;have hcy:m_copyYa N wk.2.1=some wk.2.1:=copyYa_ok (by omega) _ (by rw[h.st.ysl]; omega) fun y hy=>by
  obtain⟨k,hk⟩:=List.getElem?_of_mem hy
  have:=(h.st.car k y hk).v.few
  omega
 have hus:m_rusers N r=some r:=rfl;unfold qX;simp only[tq,Int.reduceEq,Int.reduceLT,Int.reduceLE,reduceCtorEq,zw hp,zw hcy,zw hus,zw (usersI_ok hN r (by omega))];refine wrange_ok hN (show 1<=r.length by omega) (by omega) hst h.d (h0:=by omega) ht hB [] hd [] _ _ (fun t ys ids' hR=>?_) 6 0 rfl _ _ _ (RSt.start hst wk.2.2.2 h.st (by omega));have hlen:=hR.len;have hf:=slotsOf_flat (r:=r) (ids:=ids') hlen.symm;obtain⟨ρ',hρ'⟩:=hR.st.tok;simp only[tq,Int.reduceEq,Int.reduceLT,Int.reduceLE,reduceCtorEq,zw (joinST_ok (N:=N) (zN r ids') (by rw[slotsOf_len hlen.symm]; omega) (by rw[slotsOf_len hlen.symm]; omega) (by rw[hf.2]; omega)),
  zw (rswork_ok (N:=N) [] hd [] (zN r ids').flatten r wk.2.2.2 t ys hN (by rw[hρ'.len]; omega) (by rw[hf.2]; omega) (by rw[hf.1]; omega))]
 refine⟨_,ids',rfl,⟨⟨r.map ql,by rw[List.length_map]; omega,slotsOf_singles hlen.symm,fun b hb=>?_⟩,by omega,hR.st,rfl,hf.1,rfl,?_⟩,rfl,hR,slotsOf_singles hlen.symm⟩
 ·rw[List.mem_map]at hb
  obtain⟨x,_,rfl⟩:=hb;exact bedOf_ok x
 ·show(if wk.2.2.2=0 then(1:Int)else 0)=0\/(if wk.2.2.2=0 then(1:Int)else 0)=1
  split
  ·exact Or.inr rfl
  ·exact Or.inl rfl

theorem Once.cast{t:List (List zj)} {ids:List zb} (h:Once t ids) {y:Nat} (hy:y < t.length) {l:zj} (hl:l.2.2.1=[]):Once (xx t y l) (ids++[((y:Int)+1,((t.getD y []).length:Int))]):=by
 intro c;have h1:=h c;have h3:=thrs_put hy l c;have hn:=hasT_new hy l;rw[hl,List.count_nil,Nat.add_zero]at h3;rw[List.count_append]at h1;rw[List.count_append,List.count_append,List.count_singleton,h3];have hac:(if (((y:Int)+1,((t.getD y []).length:Int)) == c)=true then 1 else 0)=if ((y:Int)+1,((t.getD y []).length:Int))=c then 1 else 0:=by simp
 rw[hac]
 by_cases e:((y:Int)+1,((t.getD y []).length:Int))=c
 ·rw[if_pos e]
  rw[e]at hn;rw[if_neg hn]at h1;rw[if_pos ((qj hy l).2 (Or.inl e.symm))];omega
 ·rw[if_neg e]
  by_cases hc:hasT t c
  ·rw[if_pos hc]at h1
   rw[if_pos (hc.put hy l)];omega
  ·rw[if_neg hc]at h1
   rw[if_neg (fun hh=>((qj hy l).1 hh).elim (fun h=>e h.symm) hc)];omega
theorem WSt.cast{t:List (List zj)} {ys:List zd} {ids:List zb} {B:Nat} (h:WSt t ys ids B) (ht:zF t < 2048) {y:Nat} (hy:y < 6) {Y:zd} (hY:ys[y]?=some Y) (hin:Y.1=true) :
  WSt (xx t y (0,(Y.2.2.2.1,([],Y.2.2.2.2)))) (ys.set y (true,Y.2.1,Y.2.2.1+1,false,[])) (ids++[((y:Int)+1,((t.getD y []).length:Int))]) B:=by
 obtain⟨ρ,hρ⟩:=h.tok;have h6:=hρ.len;have hv:=h.car y Y hY;refine⟨⟨_,hρ.put hy (Or.inl rfl) (fun b hb=>(by cases hb)) (fun p hp=>⟨hv.pend p hp,(hv.v.ok p hp).2⟩) (by simp) hv.v.few hv.v.red (hv.new hin)⟩,h.once.cast (by omega) rfl,by rw[List.length_set,h.ysl],fun z Z hz=>?_,fun z Z hz hin'=>?_⟩
 ·rw[List.getElem?_set]at hz
  split at hz
  ·split at hz
   ·cases hz
    rename_i e _;subst e;exact(hv.made h6 ht hin hy _).le (Nat.zero_le _)
   ·cases hz
  ·rename_i hne
   exact(h.car z Z hz).put h6 hy (fun e=>hne e.symm) _
 ·rw[List.getElem?_set]at hz
  split at hz
  ·split at hz
   ·cases hz
    exact h.plc y Y hY hin
   ·cases hz
  ·exact h.plc z Z hz hin'
def castI(y i:Nat):List zb:=(List.range i).map fun(j:Nat)=>((y:Int)+1,(j:Int))
theorem castI_succ(y i:Nat):castI y (i+1)=castI y i++[((y:Int)+1,(i:Int))]:=by simp[castI,List.range_succ]
theorem xz(y i:Nat):(castI y i).length=i:=by simp[castI]
theorem singles_snoc(i:Nat) (ids:List zb) (a:zb) (h:ids.length=i):zR (List.replicate (i+1) 0) (ids++[a])=zR (List.replicate i 0) ids++[(0,[a])]:=by
 unfold zR;rw[List.replicate_succ',List.zipWith_append (by simp[h])]
 rfl
structure CSt(y i:Nat) (t:List (List zj)) (ys:List zd):Prop where
 st:WSt t ys (castI y i) 0
 own:∃ Y:zd,ys[y]?=some Y/\Y.1=true
 num:∀ z:Nat,(t.getD z []).length=if z=y then i else 0
 all:zF t=i
theorem rcast_ok{N:Nat} (hN:5000 < N) {y:Nat} (hy:y < 6) {w:Nat} (hw1:1<=w) (hw:w<=16) :
  T (m_rcast N ((y:Int)+1) (w:Int)) fun q=>∃ wk,q=(wk,0)/\WJ wk w (castI y w) 0/\wk.2.2.2=0/\(∀ z:Nat,(wk.2.2.1.1.getD z []).length=if z=y then w else 0)/\zF wk.2.2.1.1=w/\wk.1=zR (List.replicate w 0) (castI y w):=by
 have h0:∀ z:Nat,((List.replicate 6 ([]:List zj)).getD z []).length=0:=by
  intro z;rw[List.getD_eq_getElem?_getD,List.getElem?_replicate]
  split<;>rfl
 have htg:∀ a l,¬ qp (List.replicate 6 ([]:List zj)) a=some l:=by
  intro a l h
  have:hasT (List.replicate 6 ([]:List zj)) a:=⟨l,h⟩
  rw[qA,h0]at this;omega
 have ht0:zF (List.replicate 6 ([]:List zj))=0:=rfl;have hcar:∀ z Y,(List.replicate 6 (zr.zero:zd))[z]?=some Y->CarOk (List.replicate 6 ([]:List zj)) 0 z Y:=by
  intro z Y hz;rw[List.getElem?_replicate]at hz
  split at hz
  ·cases hz
   refine⟨⟨⟨Int.le_refl _,by decide⟩,fun _=>⟨rfl,rfl,rfl⟩,fun h=>(by cases h),by decide,fun p hp=>(by cases hp),fun i p q hp=>(by cases hp)⟩,by rw[h0]; rfl,fun p hp=>(by cases hp),Nat.le_refl _,fun h=>(by cases h)⟩
  ·cases hz
 have hplc:∀ (z:Nat) (Y:zd),(List.replicate 6 (zr.zero:zd))[z]?=some Y->Y.1=true->Y.2.1=-13\/Y.2.1=179:=by
  intro z Y hz hin;rw[List.getElem?_replicate]at hz
  split at hz
  ·cases hz
   cases hin
  ·cases hz
 have hW0:WSt (List.replicate 6 []) (List.replicate 6 (zr.zero:zd)) [] 0:=by
  refine⟨⟨fun _=>0,rfl,fun a ⟨l,h⟩=>absurd h (htg a l),fun a b ⟨l,h⟩=>absurd h (htg b l),fun a l h=>absurd h (htg a l),fun a l h=>absurd h (htg a l),fun a l h=>absurd h (htg a l),fun a l h=>absurd h (htg a l),fun a l h=>absurd h (htg a l),fun a l h=>absurd h (htg a l),fun a l h=>absurd h (htg a l)⟩,fun a=>?_,rfl,hcar,hplc⟩;rw[if_neg (fun⟨l,h⟩=>htg a l h)]
  rfl
 have hY0:(List.replicate 6 (zr.zero:zd))[y]?=some zr.zero:=by rw[List.getElem?_replicate,if_pos hy]
 have hbeg:=rsbegin_ok hN (t:=List.replicate 6 []) rfl (by rw[ht0]; omega) hy hY0 (hcar y _ hY0) (fun h=>by cases h) [] (d:=1) (Or.inr rfl) (S:=[]) (by simp) (by simp) (by show 0<=300; omega) (fun a ha=>by cases ha) (by show 0+0<=4096; omega);have hfe:m_fempty N=some ([],[],[],own (List.replicate 6 [])):=rfl;unfold m_rcast;simp only[tq,Int.reduceEq,Int.reduceLT,Int.reduceLE,reduceCtorEq,zw hfe,show ¬ ((y:Int)+1 < 1) by omega,show ¬ (6 < (y:Int)+1) by omega,show ¬ ((w:Int) < 1) by omega,show ¬ (16 < (w:Int)) by omega];refine hbeg.mono ?_;rintro q ⟨Y',rfl,hin',hpl',hv'⟩;simp only[tq,Int.reduceEq,Int.reduceLT,Int.reduceLE,reduceCtorEq];refine⟨by(repeat' apply And.intro)<;>first | omega | (simp only[LL]; omega) | exact this | rfl | trivial,?_⟩;have hC0:CSt y 0 (List.replicate 6 []) ((List.replicate 6 (zr.zero:zd)).set y Y'):=by
  refine⟨hW0.set hv' (Nat.zero_le _) (fun _=>by rw[hpl']; exact Or.inl rfl),⟨Y',by rw[List.getElem?_set,if_pos rfl,if_pos (by simpa using hy)],hin'⟩,fun z=>by rw[h0]; split<;>rfl,ht0⟩
 have h3:T (m_rcast_L3 N ((y:Int)+1) (w:Int) N ((0:Int),[],[],[],own [],own (List.replicate 6 []),(List.replicate 6 (zr.zero:zd)).set y Y',[],1,List.replicate w (zL.zero:zB))) fun q=>∃ t ys,q=.inl ([],[],[],own [],own t,ys,[],1,zR (List.replicate w 0) (castI y w))/\CSt y w t ys:=by
  unfold m_rcast_L3;refine T_loop (fun k D=>∃ (i:Nat) (t:List (List zj)) (ys:List zd),i+k=w/\D=((i:Int),[],[],[],own [],own t,ys,[],1,zR (List.replicate i 0) (castI y i)++List.replicate (w - i) (zL.zero:zB))/\CSt y i t ys) _ ?_ N w _ (by omega) ⟨0,_,_,by omega,by simp[zR],hC0⟩;rintro k D rec ⟨i,t,ys,hi,rfl,hC⟩ hrec
  by_cases hlt:i < w
  ·have hltI:(i:Int) < (w:Int):=by omega
   obtain⟨Y,hY,hYin⟩:=hC.own;obtain⟨ρ,hρ⟩:=hC.st.tok;have hall:=hC.all;have hylt:=(List.getElem?_eq_some_iff.1 hY).1;have hn:=hC.num y;rw[if_pos rfl]at hn;have hl:=rsloop_ok hN hρ.len (by omega) hy hY (hC.st.car y Y hY) hYin 0 (thr:=[]) (by simp) [] 1;have hst:=hC.st.cast (by omega) hy hY hYin;rw[hn,<- castI_succ]at hst;rw[hn]at hl;have hsl:(zR (List.replicate i 0) (castI y i)).length=i:=by rw[xi (by simp[xz]),xz]
   have hrep:List.replicate (w - i) (zL.zero:zB)=zL.zero :: List.replicate (w - (i+1)) zL.zero:=by
    rw[show w - i=(w - (i+1))+1 by omega,List.replicate_succ]
   have hset:=set_mid (zR (List.replicate i 0) (castI y i)) zL.zero (List.replicate (w - (i+1)) (zL.zero:zB)) (0,[((y:Int)+1,(i:Int))]) hsl;have hs2:=singles_snoc i (castI y i) ((y:Int)+1,(i:Int)) (xz y i);rw[<- castI_succ]at hs2;have this:=hrec (k - 1) _ (by omega) ⟨i+1,xx t y (0,(Y.2.2.2.1,([],Y.2.2.2.2))),ys.set y (true,Y.2.1,Y.2.2.1+1,false,[]),by omega,rfl,⟨hst,⟨_,by rw[List.getElem?_set,if_pos rfl,if_pos hylt],rfl⟩,fun z=>?_,by rw[tall_put (by rw[hρ.len]; exact hy),hall]⟩⟩
   ·rw[hs2,List.append_assoc]at this
    rw[hrep];simp only[tq,Int.reduceEq,Int.reduceLT,Int.reduceLE,reduceCtorEq,List.length_replicate,hltI,zw hl,hset,List.length_append,hsl,List.length_cons]
    (repeat' apply And.intro)<;>first | omega | (simp only[LL]; omega) | exact this | rfl | trivial
   ·rw[qJ (by rw[hρ.len]; exact hy)]
    split
    ·rename_i e
     subst e;rw[List.length_append,hn]
     rfl
    ·rename_i e
     rw[hC.num z,if_neg e]
  ·have hltI:¬ (i:Int) < (w:Int):=by omega
   obtain rfl:i=w:=by omega
   simp only[tq,Int.reduceEq,Int.reduceLT,Int.reduceLE,reduceCtorEq,List.length_replicate,hltI];exact⟨t,ys,by simp,hC⟩
 refine h3.mono ?_;rintro q ⟨t,ys,rfl,hC⟩;obtain⟨Y,hY,hYin⟩:=hC.own;obtain⟨ρ,hρ⟩:=hC.st.tok;have hall:=hC.all;have hv:=hC.st.car y Y hY;have hvf:=hv.few;have hmv:=rsmove_ok hN hy hY hv.v hYin (place:=179) (by decide) (l:=[]) (fun p hp=>by cases hp) (by simp; omega) [] 1;have hlen:(zR (List.replicate w 0) (castI y w)).length=w:=by rw[xi (by simp[xz]),xz]
 have hheld:zY (zR (List.replicate w 0) (castI y w))=castI y w:=singles_held (by simp[xz]);have hgo:=hv.go hρ.len (by omega) hYin (place:=179) (by decide) (l:=[]) (fun p hp=>by cases hp) (by simp);simp only[tq,Int.reduceEq,Int.reduceLT,Int.reduceLE,reduceCtorEq,zw hmv,zw (rswork_ok (N:=N) [] [] [] (zR (List.replicate w 0) (castI y w)) [] 1 t (ys.set y (true,179,Y.2.2.1,Y.2.2.2.1,pushs Y.2.2.2.2 [])) hN (by rw[hρ.len]; omega) (by omega) (by rw[hheld,xz]; omega))];exact⟨_,rfl,⟨⟨List.replicate w 0,by simp[xz],rfl,fun b hb=>Or.inl (List.eq_of_mem_replicate hb)⟩,xz y w,hC.st.set hgo (Nat.le_refl _) (fun _=>Or.inr rfl),rfl,hheld,rfl,Or.inl rfl⟩,rfl,hC.num,hall,rfl⟩

theorem wrapN{z:Int} (h1:1<=z) (h2:z<=6):IntKind.wrap .u8 (z - 1)=z - 1:=wrap8 (by omega) (by omega)
theorem lhas_ok(N:Nat) {t:List (List zj)} (h6:t.length=6) {a:zb} (h:hasT t a):m_lhas N t a=some true:=by
 have hle:=hasT_le h;rw[qA]at h;rw[h6]at hle;have h1:(1:Int)<=a.1:=h.1;have hw:=wrapN h1 (by omega:a.1<=6);unfold m_lhas
 apply T.eq
 simp only[tq,Int.reduceEq,Int.reduceLT,Int.reduceLE,reduceCtorEq,hw,h6,h1,show a.1<=((6:Nat):Int) by omega,h.2.1,h.2.2]
 (repeat' apply And.intro)<;>first | omega | (simp only[LL]; omega) | exact this | rfl | trivial
theorem fhas_ok(N:Nat) {t:List (List zj)} (h6:t.length=6) {a:zb} (h:hasT t a):m_fhas N t a=some true:=lhas_ok N h6 h
theorem lright_ok{N:Nat} (hN:5000 < N) {t:List (List zj)} {ρ:zb->Nat} (h:TOk t ρ) {a:zb} {l:zj} (hl:qp t a=some l):m_lright N t l=some true:=by
 have hthl:=h.thl a l hl;have hpsl:=h.psl a l hl;have hb:=h.bed a l hl;have h1:m_lright_L1 N t l N (0:Int)=some (.inl ()):=by
  unfold m_lright_L1;refine zg (fun k d=>∃ j:Nat,j+k=l.2.2.1.length/\d=(j:Int)) _ ?_ N l.2.2.1.length _ (by omega) ⟨0,by omega,rfl⟩;rintro k d rec ⟨j,hj,rfl⟩ hrec
  apply T.eq
  by_cases hlt:j < l.2.2.1.length
  ·obtain⟨x,hx⟩:∃ x,l.2.2.1[j]?=some x:=⟨_,List.getElem?_eq_getElem hlt⟩
   have hltI:(j:Int) < (l.2.2.1.length:Int):=by omega
   have this:T (rec ((j:Int)+1)) (·=.inl ()):=⟨_,hrec (k - 1) _ (by omega) ⟨j+1,by omega,rfl⟩,rfl⟩
   simp only[tq,Int.reduceEq,Int.reduceLT,Int.reduceLE,reduceCtorEq,hltI,zv hx,zw (lhas_ok N h.len (h.thr a l hl x (List.mem_of_getElem? hx)).1)]
   (repeat' apply And.intro)<;>first | omega | (simp only[LL]; omega) | exact this | rfl | trivial
  ·have hltI:¬ (j:Int) < (l.2.2.1.length:Int):=by omega
   simp only[tq,Int.reduceEq,Int.reduceLT,Int.reduceLE,reduceCtorEq,hltI]
 have h3:m_lright_L3 N t l N (0:Int)=some (.inl ()):=by
  unfold m_lright_L3;refine zg (fun k d=>∃ j:Nat,j+k=l.2.2.2.length/\d=(j:Int)) _ ?_ N l.2.2.2.length _ (by omega) ⟨0,by omega,rfl⟩;rintro k d rec ⟨j,hj,rfl⟩ hrec
  apply T.eq
  by_cases hlt:j < l.2.2.2.length
  ·obtain⟨x,hx⟩:∃ x,l.2.2.2[j]?=some x:=⟨_,List.getElem?_eq_getElem hlt⟩
   have hltI:(j:Int) < (l.2.2.2.length:Int):=by omega
   have hp:=h.pst a l hl x (List.mem_of_getElem? hx);have this:T (rec ((j:Int)+1)) (·=.inl ()):=⟨_,hrec (k - 1) _ (by omega) ⟨j+1,by omega,rfl⟩,rfl⟩
   simp only[tq,Int.reduceEq,Int.reduceLT,Int.reduceLE,reduceCtorEq,hltI,zv hx,zw (lhas_ok N h.len hp.1)];refine⟨by(repeat' apply And.intro)<;>first | omega | (simp only[LL]; omega) | exact this | rfl | trivial,fun e=>?_,fun _=>by(repeat' apply And.intro)<;>first | omega | (simp only[LL]; omega) | exact this | rfl | trivial⟩
   have:=hp.2.2
   omega
  ·have hltI:¬ (j:Int) < (l.2.2.2.length:Int):=by omega
   simp only[tq,Int.reduceEq,Int.reduceLT,Int.reduceLE,reduceCtorEq,hltI]
 have h5:=yreduce_ok (N:=N) (l:=l.2.2.2) (by omega) (fun p hp=>(h.pst a l hl p hp).2.2) (by omega) (h.red a l hl);unfold m_lright
 apply T.eq
 simp only[tq,Int.reduceEq,Int.reduceLT,Int.reduceLE,reduceCtorEq,zw h1,zw h3,zw h5];refine⟨fun e=>by omega,fun e=>by omega⟩
theorem lcheckLoops_ok{N:Nat} (hN:5000 < N) {t:List (List zj)} {ρ:zb->Nat} (h:TOk t ρ) (ht:zF t<=2048):m_lcheckLoops N t=some 0:=by
 have h6:=h.len;have h2:∀ (y:Nat) (row:List zj),t[y]?=some row->m_lcheckLoops_L2 N t (y:Int) N (0:Int)=some (.inl ()):=by
  intro y row hrow;have hal:=tall_le (t:=t) y;rw[zv hrow]at hal;unfold m_lcheckLoops_L2;refine zg (fun k d=>∃ j:Nat,j+k=row.length/\d=(j:Int)) _ ?_ N row.length _ (by omega) ⟨0,by omega,rfl⟩;rintro k d rec ⟨j,hj,rfl⟩ hrec
  apply T.eq
  by_cases hlt:j < row.length
  ·obtain⟨l,hl⟩:∃ x,row[j]?=some x:=⟨_,List.getElem?_eq_getElem hlt⟩
   have hltI:(j:Int) < (row.length:Int):=by omega
   have htg:qp t ((y:Int)+1,(j:Int))=some l:=by rw[tget_at,zv hrow,hl]
   have hnew:=h.new _ l htg;have this:T (rec ((j:Int)+1)) (·=.inl ()):=⟨_,hrec (k - 1) _ (by omega) ⟨j+1,by omega,rfl⟩,rfl⟩
   simp only[tq,Int.reduceEq,Int.reduceLT,Int.reduceLE,reduceCtorEq,zv hrow,hltI,zv hl,zw (lright_ok hN h htg)];refine⟨by(repeat' apply And.intro)<;>first | omega | (simp only[LL]; omega) | exact this | rfl | trivial,fun e=>?_,fun _=>by(repeat' apply And.intro)<;>first | omega | (simp only[LL]; omega) | exact this | rfl | trivial⟩
   have:=hnew (by show(j:Int)=0; exact e.1)
   rw[this]at e;exact absurd e.2 (by decide)
  ·have hltI:¬ (j:Int) < (row.length:Int):=by omega
   simp only[tq,Int.reduceEq,Int.reduceLT,Int.reduceLE,reduceCtorEq,zv hrow,hltI]
 have h1:m_lcheckLoops_L1 N t N (0:Int)=some (.inl ()):=by
  unfold m_lcheckLoops_L1;refine zg (fun k d=>∃ j:Nat,j+k=t.length/\d=(j:Int)) _ ?_ N t.length _ (by omega) ⟨0,by omega,rfl⟩;rintro k d rec ⟨j,hj,rfl⟩ hrec
  apply T.eq
  by_cases hlt:j < t.length
  ·obtain⟨x,hx⟩:∃ x,t[j]?=some x:=⟨_,List.getElem?_eq_getElem hlt⟩
   have hltI:(j:Int) < (t.length:Int):=by omega
   have this:T (rec ((j:Int)+1)) (·=.inl ()):=⟨_,hrec (k - 1) _ (by omega) ⟨j+1,by omega,rfl⟩,rfl⟩
   simp only[tq,Int.reduceEq,Int.reduceLT,Int.reduceLE,reduceCtorEq,hltI,zw (h2 j x hx)]
   (repeat' apply And.intro)<;>first | omega | (simp only[LL]; omega) | exact this | rfl | trivial
  ·have hltI:¬ (j:Int) < (t.length:Int):=by omega
   simp only[tq,Int.reduceEq,Int.reduceLT,Int.reduceLE,reduceCtorEq,hltI]
 unfold m_lcheckLoops
 apply T.eq
 simp only[tq,Int.reduceEq,Int.reduceLT,Int.reduceLE,reduceCtorEq,zw h1]
abbrev CMap:=List (zb×Int)
def CM(m:CMap) (L:List zb):Prop:=∀ a,(mget zo (.int .i64) m a).getD (0:Int)=(L.count a:Int)
theorem beq2(x y:zb):GTy.beq zo x y=decide (x=y):=by
 rw[Bool.eq_iff_iff,beq_iff (g:=zo) _ _ rfl,decide_eq_true_eq]
theorem mget_mset(m:CMap) (k:zb) (v:Int) (a:zb):mget zo (.int .i64) (mset zo (.int .i64) m k v) a=if k=a then some v else mget zo (.int .i64) m a:=by
 induction m with
 | nil=>
  show(match GTy.beq zo k a with | true=>some v | false=>none)=_;rw[beq2]
  by_cases e:k=a
  ·rw[decide_eq_true e,if_pos e]
  ·rw[decide_eq_false e,if_neg e]
   rfl
 | cons x l ih=>
  have hs:mset zo (.int .i64) (x :: l) k v=if x.1=k then(x.1,v) :: l else x :: mset zo (.int .i64) l k v:=by
   show(match GTy.beq zo x.1 k with | true=>(x.1,v) :: l | false=>x :: mset zo (.int .i64) l k v)=_;rw[beq2]
   by_cases e:x.1=k
   ·rw[decide_eq_true e,if_pos e]
   ·rw[decide_eq_false e,if_neg e]
  have hg:∀ (x:zb×Int) l,mget zo (.int .i64) (x :: l) a=if x.1=a then some x.2 else mget zo (.int .i64) l a:=by
   intro x l;show(match GTy.beq zo x.1 a with | true=>some x.2 | false=>mget zo (.int .i64) l a)=_;rw[beq2]
   by_cases e:x.1=a
   ·rw[decide_eq_true e,if_pos e]
   ·rw[decide_eq_false e,if_neg e]
  rw[hs]
  by_cases e:x.1=k
  ·rw[if_pos e,hg,hg,e]
   by_cases e2:k=a
   ·rw[if_pos e2,if_pos e2]
   ·rw[if_neg e2,if_neg e2,if_neg e2]
  ·rw[if_neg e,hg,hg,ih]
   by_cases e2:x.1=a
   ·rw[if_pos e2,if_pos e2,if_neg (fun h=>e (e2.trans h.symm))]
   ·rw[if_neg e2,if_neg e2]
theorem CM.nil:CM [] []:=fun a=>rfl
theorem CM.add{m:CMap} {L:List zb} (h:CM m L) (a:zb):CM (mset zo (.int .i64) m a ((mget zo (.int .i64) m a).getD (0:Int)+1)) (L++[a]):=by
 intro b;rw[mget_mset,List.count_append,List.count_singleton]
 by_cases e:a=b
 ·subst e
  rw[if_pos rfl,if_pos (by simp),Option.getD_some,h a];exact(Int.natCast_add _ _).symm
 ·rw[if_neg e,h b,if_neg (by simpa using e)]
  exact congrArg _ (Nat.add_zero _).symm
theorem inI_of{X:Int} {c:Nat} (h:X+1=(c:Int)) (hc:c<=100000):-9223372036854775808<=X+1/\X+1<=9223372036854775807:=by omega
theorem gt_of{X:Int} {c:Nat} (h:X+1=(c:Int)) (hc:c<=1) (e:1 < X+1):False:=by omega
theorem thrs_take{t:List (List zj)} {y:Nat} {row:List zj} (h:t[y]?=some row):qV (t.take (y+1))=qV (t.take y)++row.flatMap (·.2.2.1):=by
 unfold qV;rw[flat_take h,List.flatMap_append]
theorem rowt_take{row:List zj} {n:Nat} {l:zj} (h:row[n]?=some l):(row.take (n+1)).flatMap (·.2.2.1)=(row.take n).flatMap (·.2.2.1)++l.2.2.1:=by
 obtain⟨h1,h2⟩:=List.getElem?_eq_some_iff.1 h;rw[List.take_succ_eq_append_getElem h1,h2,List.flatMap_append]
 simp
theorem sub_take{row:List zj} (n:Nat):((row.take n).flatMap (fun l=>l.2.2.1)).Sublist (row.flatMap fun l=>l.2.2.1):=by
 conv=>rhs; rw[<- List.take_append_drop n row,List.flatMap_append]
 exact List.sublist_append_left _ _
theorem sub_thrs{t:List (List zj)} (y:Nat):(qV (t.take y)).Sublist (qV t):=by
 unfold qV
 conv=>rhs; rw[<- List.take_append_drop y t,List.flatten_append,List.flatMap_append]
 exact List.sublist_append_left _ _
theorem lcheckThrough_ok{N:Nat} (hN:5000 < N) {t:List (List zj)} {ρ:zb->Nat} (h:TOk t ρ) (ht:zF t<=2048) (ho:∀ a,(qV t).count a<=1):xk N t=some 0:=by
 have h6:=h.len;have h3:∀ (y n:Nat) (row:List zj) (l:zj) (m:CMap),t[y]?=some row->row[n]?=some l->CM m (qV (t.take y)++(row.take n).flatMap (·.2.2.1)) ->
   T (xc N t (y:Int) (n:Int) N ((0:Int),m)) fun q=>∃ m',q=.inl m'/\CM m' (qV (t.take y)++(row.take (n+1)).flatMap (·.2.2.1)):=by
  intro y n row l m hrow hl hm;have htg:qp t ((y:Int)+1,(n:Int))=some l:=by rw[tget_at,zv hrow,hl]
  have hthl:=h.thl _ l htg;rw[rowt_take hl];have hcount:∀ (j:Nat) a,(qV (t.take y)++(row.take n).flatMap (·.2.2.1)++l.2.2.1.take j).count a<=1:=by
   intro j a;refine Nat.le_trans (List.Sublist.count_le a ?_) (ho a);refine List.Sublist.trans ?_ (sub_thrs (y+1));rw[thrs_take hrow,List.append_assoc];refine List.Sublist.append (List.Sublist.refl _) (List.Sublist.trans ?_ (sub_take (n+1)));rw[rowt_take hl];exact List.Sublist.append (List.Sublist.refl _) (List.take_sublist _ _)
  unfold xc;refine T_loop (fun k d=>∃ (j:Nat) (m':CMap),j+k=l.2.2.1.length/\d=((j:Int),m')/\CM m' (qV (t.take y)++(row.take n).flatMap (·.2.2.1)++l.2.2.1.take j)) _ ?_ N l.2.2.1.length _ (by omega) ⟨0,m,by omega,rfl,by simpa using hm⟩;rintro k d rec ⟨j,m',hj,rfl,hm'⟩ hrec
  by_cases hlt:j < l.2.2.1.length
  ·obtain⟨x,hx⟩:∃ x,l.2.2.1[j]?=some x:=⟨_,List.getElem?_eq_getElem hlt⟩
   have hltI:(j:Int) < (l.2.2.1.length:Int):=by omega
   have hadd:=hm'.add x;have htk:l.2.2.1.take (j+1)=l.2.2.1.take j++[x]:=by rw[List.take_succ_eq_append_getElem hlt,(List.getElem?_eq_some_iff.1 hx).2]
   rw[List.append_assoc,<- htk]at hadd;have hx1:=hadd x;rw[mget_mset,if_pos rfl,Option.getD_some]at hx1;have hx2:(mget zo (.int .i64) m' x).getD (0:Int)+(1:Int)=(List.count x (qV (t.take y)++(row.take n).flatMap (·.2.2.1)++l.2.2.1.take (j+1)):Int):=hx1;have hc1:=hcount (j+1) x;have this:=hrec (k - 1) _ (by omega) ⟨j+1,_,by omega,rfl,hadd⟩;simp only[tq,Int.reduceEq,Int.reduceLT,Int.reduceLE,reduceCtorEq,zv hrow,zv hl,hltI,zv hx,mget_mset,if_true,Option.getD_some];exact⟨by(repeat' apply And.intro)<;>first | omega | (simp only[LL]; omega) | exact this | rfl | trivial,inI_of hx2 (by omega),fun e=>(gt_of hx2 hc1 e).elim,fun _=>by(repeat' apply And.intro)<;>first | omega | (simp only[LL]; omega) | exact this | rfl | trivial⟩
  ·have hltI:¬ (j:Int) < (l.2.2.1.length:Int):=by omega
   simp only[tq,Int.reduceEq,Int.reduceLT,Int.reduceLE,reduceCtorEq,zv hrow,zv hl,hltI];rw[show l.2.2.1.take j=l.2.2.1 from List.take_of_length_le (by omega)]at hm';exact⟨m',rfl,by rw[<- List.append_assoc]; exact hm'⟩
 have h2:∀ (y:Nat) (row:List zj) (m:CMap),t[y]?=some row->CM m (qV (t.take y))->T (xd N t (y:Int) N ((0:Int),m)) fun q=>∃ m',q=.inl m'/\CM m' (qV (t.take (y+1))):=by
  intro y row m hrow hm;have hal:=tall_le (t:=t) y;rw[zv hrow]at hal;unfold xd;refine T_loop (fun k d=>∃ (j:Nat) (m':CMap),j+k=row.length/\d=((j:Int),m')/\CM m' (qV (t.take y)++(row.take j).flatMap (·.2.2.1))) _ ?_ N row.length _ (by omega) ⟨0,m,by omega,rfl,by simpa using hm⟩;rintro k d rec ⟨j,m',hj,rfl,hm'⟩ hrec
  by_cases hlt:j < row.length
  ·obtain⟨l,hl⟩:∃ x,row[j]?=some x:=⟨_,List.getElem?_eq_getElem hlt⟩
   have hltI:(j:Int) < (row.length:Int):=by omega
   simp only[tq,Int.reduceEq,Int.reduceLT,Int.reduceLE,reduceCtorEq,zv hrow,hltI];refine⟨by(repeat' apply And.intro)<;>first | omega | (simp only[LL]; omega) | exact this | rfl | trivial,(h3 y j row l m' hrow hl hm').mono ?_⟩;rintro q ⟨m2,rfl,hm2⟩;simp only[tq,Int.reduceEq,Int.reduceLT,Int.reduceLE,reduceCtorEq];have this:=hrec (k - 1) _ (by omega) ⟨j+1,m2,by omega,rfl,hm2⟩
   (repeat' apply And.intro)<;>first | omega | (simp only[LL]; omega) | exact this | rfl | trivial
  ·have hltI:¬ (j:Int) < (row.length:Int):=by omega
   simp only[tq,Int.reduceEq,Int.reduceLT,Int.reduceLE,reduceCtorEq,zv hrow,hltI];rw[show row.take j=row from List.take_of_length_le (by omega)]at hm';exact⟨m',rfl,by rw[thrs_take hrow]; exact hm'⟩
 have h1:T (xe N t N ((0:Int),[])) fun q=>q=.inl ():=by
  unfold xe;refine T_loop (fun k d=>∃ (j:Nat) (m':CMap),j+k=t.length/\d=((j:Int),m')/\CM m' (qV (t.take j))) _ ?_ N t.length _ (by omega) ⟨0,[],by omega,rfl,CM.nil⟩;rintro k d rec ⟨j,m',hj,rfl,hm'⟩ hrec
  by_cases hlt:j < t.length
  ·obtain⟨row,hrow⟩:∃ x,t[j]?=some x:=⟨_,List.getElem?_eq_getElem hlt⟩
   have hltI:(j:Int) < (t.length:Int):=by omega
   simp only[tq,Int.reduceEq,Int.reduceLT,Int.reduceLE,reduceCtorEq,hltI];refine⟨by(repeat' apply And.intro)<;>first | omega | (simp only[LL]; omega) | exact this | rfl | trivial,(h2 j row m' hrow hm').mono ?_⟩;rintro q ⟨m2,rfl,hm2⟩;simp only[tq,Int.reduceEq,Int.reduceLT,Int.reduceLE,reduceCtorEq];have this:=hrec (k - 1) _ (by omega) ⟨j+1,m2,by omega,rfl,hm2⟩
   (repeat' apply And.intro)<;>first | omega | (simp only[LL]; omega) | exact this | rfl | trivial
  ·have hltI:¬ (j:Int) < (t.length:Int):=by omega
   simp only[tq,Int.reduceEq,Int.reduceLT,Int.reduceLE,reduceCtorEq,hltI]
 unfold xk
 apply T.eq
 simp only[tq,Int.reduceEq,Int.reduceLT,Int.reduceLE,reduceCtorEq,zw h1.eq]

theorem sum_ge:∀ (t:List (List zj)) (mk:List Nat),t.length=mk.length->(∀ i,(t.getD i []).length<=mk.getD i 0)->zF t<=mk.sum
 | [],_,_,_=>by simp[zF]
 | r :: t,[],h,_=>by cases h
 | r :: t,m :: mk,h,hle=>by
  have h1:=sum_ge t mk (by simpa using h) fun i=>by
   have:=hle (i+1)
   simpa using this
  have h2:=hle 0;have h3:r.length<=m:=by simpa using h2
  have e1:zF (r :: t)=r.length+zF t:=by simp[zF]
  rw[e1,List.sum_cons];omega
theorem sum_set:∀ (mk:List Nat) (y:Nat),y < mk.length->(mk.set y (mk.getD y 0+1)).sum=mk.sum+1
 | [],_,h=>by simp at h
 | m :: mk,0,_=>by simp; omega
 | m :: mk,y+1,h=>by
  have:=sum_set mk y (by simpa using h)
  rw[List.getD_eq_getElem?_getD]at this
  simp[this]
  omega
def nxt(mk:List Nat) (y:Nat):zb:=((y:Int)+1,((mk.getD y 0:Nat):Int))
def needs(l:zj):List zb:=l.2.2.1++l.2.2.2.map (·.1)
def Stuck(t:List (List zj)) (mk:List Nat) (y:Nat):Prop:=
 ∀ l,qp t (nxt mk y)=some l->∃ b∈needs l,((mk.getD (b.1 - 1).toNat 0:Nat):Int)<=b.2
theorem not_stuck{t:List (List zj)} {ρ:zb->Nat} (h:TOk t ρ) {mk:List Nat} (hml:mk.length=6) (hm:∀ y,mk.getD y 0<=(t.getD y []).length) (hs:∀ y,y < 6->Stuck t mk y):zF t<=mk.sum:=by
 have key:∀ (n y:Nat),y < 6->hasT t (nxt mk y)->ρ (nxt mk y)<=n->False:=by
  intro n
  induction n with
  | zero=>
   intro y hy ⟨l,hl⟩ hn;obtain⟨b,hb,_⟩:=hs y hy l hl
   have:hasT t b/\ρ b < ρ (nxt mk y):=by
    unfold needs at hb;rw[List.mem_append,List.mem_map]at hb
    rcases hb with hb | ⟨p,hp,rfl⟩
    ·exact h.thr _ l hl b hb
    ·exact⟨(h.pst _ l hl p hp).1,(h.pst _ l hl p hp).2.1⟩
   omega
  | succ n ih=>
   intro y hy ⟨l,hl⟩ hn;obtain⟨b,hb,hbn⟩:=hs y hy l hl;have hbr:hasT t b/\ρ b < ρ (nxt mk y):=by
    unfold needs at hb;rw[List.mem_append,List.mem_map]at hb
    rcases hb with hb | ⟨p,hp,rfl⟩
    ·exact h.thr _ l hl b hb
    ·exact⟨(h.pst _ l hl p hp).1,(h.pst _ l hl p hp).2.1⟩
   have hle:=hasT_le hbr.1;rw[h.len]at hle;have hbi:=qA.1 hbr.1;have hz:nxt mk (b.1 - 1).toNat=(b.1,((mk.getD (b.1 - 1).toNat 0:Nat):Int)):=by
    unfold nxt;rw[show(((b.1 - 1).toNat:Nat):Int)+1=b.1 by omega]
   refine ih (b.1 - 1).toNat (by omega) ?_ ?_
   ·rw[hz,qA]
    exact⟨hbi.1,by show(0:Int)<=((mk.getD (b.1 - 1).toNat 0:Nat):Int); omega,by show((mk.getD (b.1 - 1).toNat 0:Nat):Int) < ((t.getD (b.1 - 1).toNat []).length:Int); omega⟩
   ·rw[hz]
    by_cases e:((mk.getD (b.1 - 1).toNat 0:Nat):Int)=b.2
    ·rw[e]
     show ρ b<=n;omega
    ·have:=h.mono (b.1,((mk.getD (b.1 - 1).toNat 0:Nat):Int)) b hbr.1 rfl (by show(0:Int)<=((mk.getD (b.1 - 1).toNat 0:Nat):Int); omega) (by show((mk.getD (b.1 - 1).toNat 0:Nat):Int) < b.2; omega)
     omega
 refine sum_ge t mk (by rw[h.len,hml]) fun i=>?_
 by_cases hi:i < 6
 ·by_cases hlt:mk.getD i 0 < (t.getD i []).length
  ·refine(key _ i hi ?_ (Nat.le_refl _)).elim
   rw[qA];unfold nxt;refine⟨by show(1:Int)<=(i:Int)+1; omega,by show(0:Int)<=((mk.getD i 0:Nat):Int); omega,?_⟩;show((mk.getD i 0:Nat):Int) < _;rw[show((i:Int)+1 - 1).toNat=i by omega];omega
  ·omega
 ·rw[List.getD_eq_getElem?_getD (l:=t),List.getElem?_eq_none (by rw[h.len]; omega)]
  simp
theorem lneed_ok(N:Nat) (l:zj) {i:Nat} (h1:l.2.2.1.length<=100000) (h2:l.2.2.2.length<=100000) {b:zb} (hb:(needs l)[i]?=some b):m_lneed N l (i:Int)=some b:=by
 have hi:=(List.getElem?_eq_some_iff.1 hb).1;unfold needs at hb hi;rw[List.length_append,List.length_map]at hi;rw[List.getElem?_append]at hb;unfold m_lneed
 apply T.eq
 by_cases hlt:i < l.2.2.1.length
 ·rw[if_pos hlt]at hb
  have hltI:(i:Int) < (l.2.2.1.length:Int):=by omega
  simp only[tq,Int.reduceEq,Int.reduceLT,Int.reduceLE,reduceCtorEq,hltI,zv hb]
  (repeat' apply And.intro)<;>first | omega | (simp only[LL]; omega) | exact this | rfl | trivial
 ·rw[if_neg hlt,List.getElem?_map,Option.map_eq_some_iff]at hb
  obtain⟨p,hp,rfl⟩:=hb;have hltI:¬ (i:Int) < (l.2.2.1.length:Int):=by omega
  simp only[tq,Int.reduceEq,Int.reduceLT,Int.reduceLE,reduceCtorEq,hltI,show((i:Int) - (l.2.2.1.length:Int)).toNat=i - l.2.2.1.length by omega,zv hp]
  (repeat' apply And.intro)<;>first | omega | (simp only[LL]; omega) | exact this | rfl | trivial
def nats(l:List Nat):List Int:=l.map fun(n:Nat)=>(n:Int)
theorem nats_len(l:List Nat):(nats l).length=l.length:=by simp[nats]
theorem nats_get(l:List Nat) (i:Nat):(nats l).getD i 0=((l.getD i 0:Nat):Int):=by
 unfold nats;rw[List.getD_eq_getElem?_getD,List.getElem?_map,List.getD_eq_getElem?_getD];cases l[i]?<;>rfl
theorem nats_set(l:List Nat) (i n:Nat):(nats l).set i (n:Int)=nats (l.set i n):=by
 unfold nats;rw[List.map_set]
structure FO(t:List (List zj)) (r:List zb) (mk th:List Nat):Prop where
 ml:mk.length=6
 tl:th.length=6
 le:∀ y,mk.getD y 0<=(t.getD y []).length
 rl:r.length=mk.sum
 ok:∀ (y:Nat) l,qp t (nxt mk y)=some l->th.getD y 0<=(needs l).length
 z:∀ y:Nat,(t.getD y []).length<=mk.getD y 0->True
theorem getD_set(l:List Nat) (i n j:Nat) (hi:i < l.length):(l.set i n).getD j 0=if j=i then n else l.getD j 0:=by
 rw[List.getD_eq_getElem?_getD,List.getElem?_set]
 by_cases e:i=j
 ·subst e
  simp[hi]
 ·rw[if_neg e,if_neg (fun h=>e h.symm),List.getD_eq_getElem?_getD]
def FPost(t:List (List zj)) (r:List zb) (q:(List zb)×(List Int)×(List Int)):Prop:=∃ r' mk' th',q=(r',nats mk',nats th')/\r'.length=r.length+1/\FO t r' mk' th'
theorem lfirst_L4_ok{N:Nat} (hN:5000 < N) {t:List (List zj)} {ρ:zb->Nat} (h:TOk t ρ) (ht:zF t<=2048) {r:List zb} {mk th:List Nat} (hF:FO t r mk th) {y:Nat} (hy:y < 6) {l:zj} (hl:qp t (nxt mk y)=some l) (rec3:(Int×(List Int))->Option ((List zb)×(List Int)×(List Int)))
  (hrec3:∀ th',FO t r mk th'->Stuck t mk y->T (rec3 ((y:Int)+1,nats th')) (FPost t r)) :
  T (m_lfirst_L4 N t (nats mk) (y:Int) rec3 N (nats th)) fun o=>(∃ th',o=.inl (nats th')/\FO t r mk th')\/(∃ q,o=.inr q/\FPost t r q):=by
 have hrow:∃ row,t[y]?=some row:=⟨_,List.getElem?_eq_getElem (by rw[h.len]; exact hy)⟩
 obtain⟨row,hrow⟩:=hrow;have hl':=hl;unfold nxt at hl';rw[tget_at,zv hrow]at hl';have hthl:=h.thl _ l hl;have hpsl:=h.psl _ l hl;have hnl:(needs l).length=l.2.2.1.length+l.2.2.2.length:=by unfold needs; rw[List.length_append,List.length_map]
 unfold m_lfirst_L4;refine T_loop (fun k d=>∃ th',d=nats th'/\FO t r mk th'/\th'.getD y 0+k=(needs l).length) _ ?_ N ((needs l).length - th.getD y 0) _ (by omega) ⟨th,rfl,hF,by have:=hF.ok y l hl; omega⟩;rintro k d rec ⟨th',rfl,hF',hk⟩ hrec;have htl:=hF'.tl;have hml:=hF'.ml;have e1:((l.2.2.1.length:Int)+(l.2.2.2.length:Int))=((needs l).length:Int):=by omega
 by_cases hlt:th'.getD y 0 < (needs l).length
 ·obtain⟨b,hb⟩:∃ b,(needs l)[th'.getD y 0]?=some b:=⟨_,List.getElem?_eq_getElem hlt⟩
  have hbm:=List.mem_of_getElem? hb;have hbt:hasT t b:=by
   unfold needs at hbm;rw[List.mem_append,List.mem_map]at hbm
   rcases hbm with hbm | ⟨p,hp,rfl⟩
   ·exact(h.thr _ l hl b hbm).1
   ·exact(h.pst _ l hl p hp).1
  have hble:=hasT_le hbt;rw[h.len]at hble;have hbi:=qA.1 hbt;have hltI:((th'.getD y 0:Nat):Int) < ((needs l).length:Int):=by omega
  have hw:=wrapN hbi.1 (by omega:b.1<=6);simp only[tq,Int.reduceEq,Int.reduceLT,Int.reduceLE,reduceCtorEq,nats_len,nats_get,zv hrow,zv hl',e1,hltI,zw (lneed_ok N l (by omega) (by omega) hb),hw];refine⟨by(repeat' apply And.intro)<;>first | omega | (simp only[LL]; omega) | exact this | rfl | trivial,by(repeat' apply And.intro)<;>first | omega | (simp only[LL]; omega) | exact this | rfl | trivial,by(repeat' apply And.intro)<;>first | omega | (simp only[LL]; omega) | exact this | rfl | trivial,by(repeat' apply And.intro)<;>first | omega | (simp only[LL]; omega) | exact this | rfl | trivial,fun e=>?_,fun e=>?_⟩
  ·refine⟨by(repeat' apply And.intro)<;>first | omega | (simp only[LL]; omega) | exact this | rfl | trivial,(hrec3 th' hF' fun l' hl2=>?_).mono fun q hq=>?_⟩
   ·rw[hl]at hl2
    cases hl2;exact⟨b,hbm,e⟩
   ·exact Or.inr ⟨q,rfl,hq⟩
  ·have hset:(nats th').set y (((th'.getD y 0:Nat):Int)+1)=nats (th'.set y (th'.getD y 0+1)):=by
    rw[<- nats_set]
    rfl
   rw[hset];have this:=hrec (k - 1) (nats (th'.set y (th'.getD y 0+1))) (by omega) ⟨_,rfl,⟨hml,by rw[List.length_set]; exact htl,hF'.le,hF'.rl,fun z l' hl2=>?_,fun _ _=>trivial⟩,by rw[getD_set _ _ _ _ (by omega),if_pos rfl]; omega⟩
   ·(repeat' apply And.intro)<;>first | omega | (simp only[LL]; omega) | exact this | rfl | trivial
   ·rw[getD_set _ _ _ _ (by omega)]
    split
    ·rename_i e2
     subst e2;rw[hl]at hl2;cases hl2;exact hlt
    ·exact hF'.ok z l' hl2
 ·have hltI:¬ ((th'.getD y 0:Nat):Int) < ((needs l).length:Int):=by omega
  simp only[tq,Int.reduceEq,Int.reduceLT,Int.reduceLE,reduceCtorEq,nats_len,nats_get,zv hrow,zv hl',e1,hltI];refine⟨by(repeat' apply And.intro)<;>first | omega | (simp only[LL]; omega) | exact this | rfl | trivial,Or.inl ⟨th',rfl,hF'⟩⟩
theorem lfirst_L3_ok{N:Nat} (hN:5000 < N) {t:List (List zj)} {ρ:zb->Nat} (h:TOk t ρ) (ht:zF t<=2048) {r:List zb} {mk th:List Nat} (hF:FO t r mk th) (hlt:mk.sum < zF t) :
  T (m_lfirst_L3 N t r (nats mk) N ((0:Int),nats th)) (FPost t r):=by
 unfold m_lfirst_L3;refine T_loop (fun k d=>∃ (y:Nat) (th':List Nat),y+k=6/\d=((y:Int),nats th')/\FO t r mk th'/\∀ z,z < y->Stuck t mk z) _ ?_ N 6 _ (by omega) ⟨0,th,by omega,rfl,hF,fun z hz=>by omega⟩;rintro k d rec ⟨y,th',hy,rfl,hF',hst⟩ hrec;have htl:=hF'.tl;have hml:=hF'.ml;have h6:=h.len
 by_cases hlt6:y < 6
 ·obtain⟨row,hrow⟩:∃ x,t[y]?=some x:=⟨_,List.getElem?_eq_getElem (by omega)⟩
  have hltI:(y:Int) < (t.length:Int):=by omega
  have hle:=hF'.le y;have hal:=tall_le (t:=t) y;rw[zv hrow]at hle hal;simp only[tq,Int.reduceEq,Int.reduceLT,Int.reduceLE,reduceCtorEq,hltI,nats_len,nats_get,zv hrow];refine⟨by(repeat' apply And.intro)<;>first | omega | (simp only[LL]; omega) | exact this | rfl | trivial,by(repeat' apply And.intro)<;>first | omega | (simp only[LL]; omega) | exact this | rfl | trivial,fun e=>?_,fun e=>?_⟩
  ·have hs:Stuck t mk y:=by
    intro l hl;unfold nxt at hl;rw[tget_at,zv hrow,List.getElem?_eq_none (by omega)]at hl;cases hl
   have this:=hrec (k - 1) _ (by omega) ⟨y+1,th',by omega,rfl,hF',fun z hz=>by
    by_cases e:z=y
    ·rw[e]; exact hs
    ·exact hst z (by omega)⟩
   (repeat' apply And.intro)<;>first | omega | (simp only[LL]; omega) | exact this | rfl | trivial
  ·obtain⟨l,hl⟩:∃ l,row[mk.getD y 0]?=some l:=⟨_,List.getElem?_eq_getElem (by omega)⟩
   have hnl:qp t (nxt mk y)=some l:=by unfold nxt; rw[tget_at,zv hrow,hl]
   refine⟨by(repeat' apply And.intro)<;>first | omega | (simp only[LL]; omega) | exact this | rfl | trivial,(lfirst_L4_ok hN h ht hF' hlt6 hnl rec fun th2 hF2 hs=>hrec (k - 1) _ (by omega) ⟨y+1,th2,by omega,rfl,hF2,fun z hz=>by
    by_cases e:z=y
    ·rw[e]; exact hs
    ·exact hst z (by omega)⟩).mono ?_⟩
   rintro o (⟨th2,rfl,hF2⟩ | ⟨q,rfl,hq⟩)
   ·have hrl:=hF2.rl
    have htl2:=hF2.tl;have hset:(nats mk).set y (((mk.getD y 0:Nat):Int)+1)=nats (mk.set y (mk.getD y 0+1)):=by
     rw[<- nats_set]
     rfl
    have hset2:(nats th2).set y (0:Int)=nats (th2.set y 0):=by rw[<- nats_set]; rfl
    simp only[tq,Int.reduceEq,Int.reduceLT,Int.reduceLE,reduceCtorEq,nats_len,nats_get,hset,hset2,List.length_singleton];refine⟨by(repeat' apply And.intro)<;>first | omega | (simp only[LL]; omega) | exact this | rfl | trivial,by(repeat' apply And.intro)<;>first | omega | (simp only[LL]; omega) | exact this | rfl | trivial,by(repeat' apply And.intro)<;>first | omega | (simp only[LL]; omega) | exact this | rfl | trivial,_,_,_,rfl,by simp,⟨by rw[List.length_set]; exact hml,by rw[List.length_set]; exact htl2,fun z=>?_,by rw[List.length_append,sum_set _ _ (by omega),hrl]; rfl,fun z l' hl2=>?_,fun _ _=>trivial⟩⟩
    ·rw[getD_set _ _ _ _ (by omega)]
     split
     ·rename_i e2
      subst e2;rw[zv hrow];omega
     ·exact hF'.le z
    ·rw[getD_set _ _ _ _ (by omega)]
     split
     ·omega
     ·rename_i e2
      refine hF2.ok z l' ?_;unfold nxt at hl2 ⊢;rw[getD_set _ _ _ _ (by omega),if_neg e2]at hl2;exact hl2
   ·simp only[tq,Int.reduceEq,Int.reduceLT,Int.reduceLE,reduceCtorEq]
    exact hq
 ·exfalso
  have:=not_stuck h hml hF'.le fun z hz=>hst z (by omega)
  omega
theorem lfirst_ok{N:Nat} (hN:5000 < N) {t:List (List zj)} {ρ:zb->Nat} (h:TOk t ρ) (ht:zF t<=2048):T (m_lfirst N t) fun r=>r.length=zF t:=by
 have h6:=h.len;have h2:T (m_lfirst_L2 N t (zF t:Int) N ([],nats (List.replicate 6 0),nats (List.replicate 6 0))) fun r=>r.length=zF t:=by
  unfold m_lfirst_L2;refine T_loop (fun k d=>∃ r mk th,d=(r,nats mk,nats th)/\FO t r mk th/\r.length+k=zF t) _ ?_ N (zF t) _ (by omega) ⟨[],_,_,rfl,⟨rfl,rfl,fun y=>?_,rfl,fun y l _=>?_,fun _ _=>trivial⟩,by simp⟩
  ·rintro k d rec ⟨r,mk,th,rfl,hF,hk⟩ hrec
   have hrl:=hF.rl
   by_cases hlt:r.length < zF t
   ·have hltI:(r.length:Int) < (zF t:Int):=by omega
    simp only[tq,Int.reduceEq,Int.reduceLT,Int.reduceLE,reduceCtorEq,hltI];refine(lfirst_L3_ok hN h ht hF (by omega)).mono ?_;rintro q ⟨r',mk',th',rfl,hr',hF'⟩;simp only[show ¬ (r'.length:Int)=(r.length:Int) by omega,tq,Int.reduceEq,Int.reduceLT,Int.reduceLE,reduceCtorEq];exact hrec (k - 1) _ (by omega) ⟨r',mk',th',rfl,hF',by omega⟩
   ·have hltI:¬ (r.length:Int) < (zF t:Int):=by omega
    simp only[tq,Int.reduceEq,Int.reduceLT,Int.reduceLE,reduceCtorEq,hltI];omega
  ·rw[List.getD_eq_getElem?_getD,List.getElem?_replicate]
   split<;>simp
  ·rw[List.getD_eq_getElem?_getD,List.getElem?_replicate]
   split<;>simp
 have hr:List.replicate (t.length:Int).toNat (0:Int)=nats (List.replicate 6 0):=by rw[h6]; rfl
 unfold m_lfirst;simp only[T_bind,zw (lcount_ok (N:=N) t (by omega) (by omega) (by omega)),hr];simp only[tq,Int.reduceEq,Int.reduceLT,Int.reduceLE,reduceCtorEq,h6];refine⟨by(repeat' apply And.intro)<;>first | omega | (simp only[LL]; omega) | exact this | rfl | trivial,by(repeat' apply And.intro)<;>first | omega | (simp only[LL]; omega) | exact this | rfl | trivial,by(repeat' apply And.intro)<;>first | omega | (simp only[LL]; omega) | exact this | rfl | trivial,h2⟩
theorem lcheckC_ok{N:Nat} (hN:5000 < N) {t:List (List zj)} {ρ:zb->Nat} (h:TOk t ρ) (ht:zF t<=2048) (ho:∀ a,(qV t).count a<=1):m_lcheckC N t=some 0:=by
 have h6:=h.len;obtain⟨r,hr,hrl⟩:=lfirst_ok hN h ht;have hc:m_lcopiedI N r=some (r,r.length):=by
  unfold m_lcopiedI
  apply T.eq
  simp only[tq,Int.reduceEq,Int.reduceLT,Int.reduceLE,reduceCtorEq,List.length_replicate]
  (repeat' apply And.intro)<;>first | omega | (simp only[LL]; omega) | exact this | rfl | trivial
 unfold m_lcheckC m_lcheck
 apply T.eq
 simp only[tq,Int.reduceEq,Int.reduceLT,Int.reduceLE,reduceCtorEq,h6,zw (lcount_ok (N:=N) t (by omega) (by omega) (by omega)),zw (lcheckLoops_ok hN h ht),zw (lcheckThrough_ok hN h ht ho),zw hr,zw hc,show ¬ (2048:Int) < (zF t:Int) by omega,hrl,show ¬ (zF t:Int) < (zF t:Int) by omega,show((6:Nat):Int)=6 from rfl]

theorem fcount_ok{N:Nat} (hN:5000 < N) (l:List zb) (hl:l.length<=5000) {m:CMap} {L:List zb} (h:CM m L) (hb:L.length+l.length<=100000):T (m_fcount N l m) fun m'=>CM m' (L++l):=by
 have hL:T (m_fcount_L1 N l N ((0:Int),m)) fun m'=>CM m' (L++l):=by
  unfold m_fcount_L1;refine T_loop (fun k d=>∃ (j:Nat) (m':CMap),j+k=l.length/\d=((j:Int),m')/\CM m' (L++l.take j)) _ ?_ N l.length _ (by omega) ⟨0,m,by omega,rfl,by simpa using h⟩;rintro k d rec ⟨j,m',hj,rfl,hm'⟩ hrec
  by_cases hlt:j < l.length
  ·obtain⟨x,hx⟩:∃ x,l[j]?=some x:=⟨_,List.getElem?_eq_getElem hlt⟩
   have hltI:(j:Int) < (l.length:Int):=by omega
   have hadd:=hm'.add x;have htk:l.take (j+1)=l.take j++[x]:=by rw[List.take_succ_eq_append_getElem hlt,(List.getElem?_eq_some_iff.1 hx).2]
   rw[List.append_assoc,<- htk]at hadd;have hx1:=hadd x;rw[mget_mset,if_pos rfl,Option.getD_some]at hx1;have hx2:(mget zo (.int .i64) m' x).getD (0:Int)+(1:Int)=(List.count x (L++l.take (j+1)):Int):=hx1;have hc1:List.count x (L++l.take (j+1))<=100000:=by
    refine Nat.le_trans List.count_le_length ?_;rw[List.length_append,List.length_take];omega
   have this:=hrec (k - 1) _ (by omega) ⟨j+1,_,by omega,rfl,hadd⟩;simp only[tq,Int.reduceEq,Int.reduceLT,Int.reduceLE,reduceCtorEq,hltI,zv hx];exact⟨by(repeat' apply And.intro)<;>first | omega | (simp only[LL]; omega) | exact this | rfl | trivial,inI_of hx2 hc1,by(repeat' apply And.intro)<;>first | omega | (simp only[LL]; omega) | exact this | rfl | trivial⟩
  ·have hltI:¬ (j:Int) < (l.length:Int):=by omega
   simp only[tq,Int.reduceEq,Int.reduceLT,Int.reduceLE,reduceCtorEq,hltI];rw[show l.take j=l from List.take_of_length_le (by omega)]at hm';exact hm'
 unfold m_fcount;simp only[tq,Int.reduceEq,Int.reduceLT,Int.reduceLE,reduceCtorEq];exact hL
theorem thrs_len{t:List (List zj)} {ρ:zb->Nat} (h:TOk t ρ):(qV t).length<=4 * zF t:=by
 have key:∀ (l:List zj),(∀ x∈l,x.2.2.1.length<=4)->(l.flatMap fun x=>x.2.2.1).length<=4 * l.length:=by
  intro l
  induction l with
  | nil=>intro _; exact Nat.le_refl _
  | cons a l ih=>
   intro hh;have h1:=ih fun x hx=>hh x (List.mem_cons_of_mem _ hx)
   have h2:=hh a List.mem_cons_self;rw[List.flatMap_cons,List.length_append,List.length_cons];omega
 have hl:t.flatten.length=zF t:=by rw[List.length_flatten]; rfl
 unfold qV;rw[<- hl];refine key _ fun x hx=>?_
 rw[List.mem_flatten]at hx;obtain⟨row,hr,hx⟩:=hx;obtain⟨j,hj⟩:=List.getElem?_of_mem hr;obtain⟨n,hn⟩:=List.getElem?_of_mem hx;exact h.thl ((j:Int)+1,(n:Int)) x (by rw[tget_at,zv hj,hn])
theorem fplaces_ok{N:Nat} (hN:5000 < N) {f:Kt13} {ρ:zb->Nat} (h:TOk f.1 ρ) (ht:zF f.1<=2048) (ho:Once f.1 (f.2.2.1++f.2.2.2)) (hh:f.2.2.1.length<=1000) (hf:f.2.2.2.length<=1):m_fplaces N f=some 0:=by
 have h6:=h.len;have hhas:∀ a,a∈f.2.2.1\/a∈f.2.2.2->hasT f.1 a:=fun a ha=>ho.has (List.mem_append.2 ha)
 have h2:∀ (v:Nat) (l:List zb),([f.2.2.1,f.2.2.2]:List (List zb))[v]?=some l->(∀ a∈l,hasT f.1 a)->l.length<=1000->m_fplaces_L2 N f (v:Int) N (0:Int)=some (.inl ()):=by
  intro v l hv hl hlen;unfold m_fplaces_L2;refine zg (fun k d=>∃ j:Nat,j+k=l.length/\d=(j:Int)) _ ?_ N l.length _ (by omega) ⟨0,by omega,rfl⟩;rintro k d rec ⟨j,hj,rfl⟩ hrec
  apply T.eq
  by_cases hlt:j < l.length
  ·obtain⟨x,hx⟩:∃ x,l[j]?=some x:=⟨_,List.getElem?_eq_getElem hlt⟩
   have hltI:(j:Int) < (l.length:Int):=by omega
   have this:T (rec ((j:Int)+1)) (·=.inl ()):=⟨_,hrec (k - 1) _ (by omega) ⟨j+1,by omega,rfl⟩,rfl⟩
   simp only[tq,Int.reduceEq,Int.reduceLT,Int.reduceLE,reduceCtorEq,zv hv,hltI,zv hx,zw (fhas_ok N h6 (hl x (List.mem_of_getElem? hx)))]
   (repeat' apply And.intro)<;>first | omega | (simp only[LL]; omega) | exact this | rfl | trivial
  ·have hltI:¬ (j:Int) < (l.length:Int):=by omega
   simp only[tq,Int.reduceEq,Int.reduceLT,Int.reduceLE,reduceCtorEq,zv hv,hltI]
 have h1:m_fplaces_L1 N f N (0:Int)=some (.inl ()):=by
  unfold m_fplaces_L1;refine zg (fun k d=>∃ j:Nat,j+k=2/\d=(j:Int)) _ ?_ N 2 _ (by omega) ⟨0,by omega,rfl⟩;rintro k d rec ⟨j,hj,rfl⟩ hrec
  apply T.eq
  by_cases hlt:j < 2
  ·have hltI:(j:Int) < 2:=by omega
   have this:T (rec ((j:Int)+1)) (·=.inl ()):=⟨_,hrec (k - 1) _ (by omega) ⟨j+1,by omega,rfl⟩,rfl⟩
   have h2j:m_fplaces_L2 N f (j:Int) N (0:Int)=some (.inl ()):=by
    have:j=0\/j=1:=by omega
    rcases this with rfl | rfl
    ·exact h2 0 _ rfl (fun a ha=>hhas a (Or.inl ha)) hh
    ·exact h2 1 _ rfl (fun a ha=>hhas a (Or.inr ha)) (by omega)
   simp only[tq,Int.reduceEq,Int.reduceLT,Int.reduceLE,reduceCtorEq,hltI,zw h2j,List.length_cons,List.length_nil]
   (repeat' apply And.intro)<;>first | omega | (simp only[LL]; omega) | exact this | rfl | trivial
  ·have hltI:¬ (j:Int) < 2:=by omega
   simp only[tq,Int.reduceEq,Int.reduceLT,Int.reduceLE,reduceCtorEq,hltI]
 have h4:m_fplaces_L4 N f N (0:Int)=some (.inl ()):=by
  unfold m_fplaces_L4;refine zg (fun k d=>∃ j:Nat,j+k=f.2.2.2.length/\d=(j:Int)) _ ?_ N f.2.2.2.length _ (by omega) ⟨0,by omega,rfl⟩;rintro k d rec ⟨j,hj,rfl⟩ hrec
  apply T.eq
  by_cases hlt:j < f.2.2.2.length
  ·obtain rfl:j=0:=by omega
   have hltI:((0:Nat):Int) < (f.2.2.2.length:Int):=by omega
   have this:T (rec (((0:Nat):Int)+1)) (·=.inl ()):=⟨_,hrec (k - 1) _ (by omega) ⟨1,by omega,rfl⟩,rfl⟩
   simp only[tq,Int.reduceEq,Int.reduceLT,Int.reduceLE,reduceCtorEq,hltI,show ¬ (0:Int) < ((0:Nat):Int) by omega]
   (repeat' apply And.intro)<;>first | omega | (simp only[LL]; omega) | exact this | rfl | trivial
  ·have hltI:¬ (j:Int) < (f.2.2.2.length:Int):=by omega
   simp only[tq,Int.reduceEq,Int.reduceLT,Int.reduceLE,reduceCtorEq,hltI]
 have h9:∀ (y:Nat) (row:List zj) (m:CMap) (H:List zb),H.length<=2000->f.1[y]?=some row->CM m (H++qV (f.1.take y))->T (m_fplaces_L9 N f (y:Int) N ((0:Int),m)) fun m'=>CM m' (H++qV (f.1.take (y+1))):=by
  intro y row m H hHl hrow hm;have hal:=tall_le (t:=f.1) y;rw[zv hrow]at hal;have htl:=thrs_len h;unfold m_fplaces_L9;refine T_loop (fun k d=>∃ (j:Nat) (m':CMap),j+k=row.length/\d=((j:Int),m')/\CM m' (H++(qV (f.1.take y)++(row.take j).flatMap (·.2.2.1)))) _ ?_ N row.length _ (by omega) ⟨0,m,by omega,rfl,by simpa using hm⟩;rintro k d rec ⟨j,m',hj,rfl,hm'⟩ hrec
  by_cases hlt:j < row.length
  ·obtain⟨l,hl⟩:∃ x,row[j]?=some x:=⟨_,List.getElem?_eq_getElem hlt⟩
   have hltI:(j:Int) < (row.length:Int):=by omega
   have htg:qp f.1 ((y:Int)+1,(j:Int))=some l:=by rw[tget_at,zv hrow,hl]
   have hthl:=h.thl _ l htg;have hsub:(qV (f.1.take y)++(row.take j).flatMap (·.2.2.1)).length<=(qV f.1).length:=by
    refine List.Sublist.length_le ?_;refine List.Sublist.trans ?_ (sub_thrs (y+1));rw[thrs_take hrow];exact List.Sublist.append (List.Sublist.refl _) (sub_take j)
   simp only[tq,Int.reduceEq,Int.reduceLT,Int.reduceLE,reduceCtorEq,zv hrow,hltI,zv hl];refine⟨by(repeat' apply And.intro)<;>first | omega | (simp only[LL]; omega) | exact this | rfl | trivial,(fcount_ok hN l.2.2.1 (by omega) hm' (by rw[List.length_append]; omega)).mono fun m2 hm2=>?_⟩;rw[List.append_assoc,List.append_assoc,<- rowt_take hl]at hm2;have this:=hrec (k - 1) _ (by omega) ⟨j+1,m2,by omega,rfl,hm2⟩
   (repeat' apply And.intro)<;>first | omega | (simp only[LL]; omega) | exact this | rfl | trivial
  ·have hltI:¬ (j:Int) < (row.length:Int):=by omega
   simp only[tq,Int.reduceEq,Int.reduceLT,Int.reduceLE,reduceCtorEq,zv hrow,hltI];rw[show row.take j=row from List.take_of_length_le (by omega)]at hm';rw[thrs_take hrow];exact hm'
 have h8:∀ (m:CMap) (H:List zb),H.length<=2000->CM m H->T (m_fplaces_L8 N f N ((0:Int),m)) fun m'=>CM m' (H++qV f.1):=by
  intro m H hHl hm;unfold m_fplaces_L8;refine T_loop (fun k d=>∃ (j:Nat) (m':CMap),j+k=f.1.length/\d=((j:Int),m')/\CM m' (H++qV (f.1.take j))) _ ?_ N f.1.length _ (by omega) ⟨0,m,by omega,rfl,by simpa [qV] using hm⟩;rintro k d rec ⟨j,m',hj,rfl,hm'⟩ hrec
  by_cases hlt:j < f.1.length
  ·obtain⟨row,hrow⟩:∃ x,f.1[j]?=some x:=⟨_,List.getElem?_eq_getElem hlt⟩
   have hltI:(j:Int) < (f.1.length:Int):=by omega
   simp only[tq,Int.reduceEq,Int.reduceLT,Int.reduceLE,reduceCtorEq,hltI];refine⟨by(repeat' apply And.intro)<;>first | omega | (simp only[LL]; omega) | exact this | rfl | trivial,(h9 j row m' H hHl hrow hm').mono fun m2 hm2=>?_⟩;have this:=hrec (k - 1) _ (by omega) ⟨j+1,m2,by omega,rfl,hm2⟩
   (repeat' apply And.intro)<;>first | omega | (simp only[LL]; omega) | exact this | rfl | trivial
  ·have hltI:¬ (j:Int) < (f.1.length:Int):=by omega
   simp only[tq,Int.reduceEq,Int.reduceLT,Int.reduceLE,reduceCtorEq,hltI];rw[show f.1.take j=f.1 from List.take_of_length_le (by omega)]at hm';exact hm'
 have h12:∀ (y:Nat) (row:List zj) (m:CMap),y < 6->f.1[y]?=some row->CM m (f.2.2.1++f.2.2.2++qV f.1)->m_fplaces_L12 N f m (y:Int) N (0:Int)=some (.inl ()):=by
  intro y row m hy hrow hm;have hal:=tall_le (t:=f.1) y;rw[zv hrow]at hal;have hw:IntKind.wrap .u8 ((y:Int)+(1:Int))=(y:Int)+1:=wrap8 (by omega) (by omega);unfold m_fplaces_L12;refine zg (fun k d=>∃ j:Nat,j+k=row.length/\d=(j:Int)) _ ?_ N row.length _ (by omega) ⟨0,by omega,rfl⟩;rintro k d rec ⟨j,hj,rfl⟩ hrec
  apply T.eq
  by_cases hlt:j < row.length
  ·have hltI:(j:Int) < (row.length:Int):=by omega
   have hone:(mget zo (.int .i64) m ((y:Int)+1,(j:Int))).getD (0:Int)=(1:Int):=by
    rw[hm,ho,if_pos (by
     rw[qA];refine⟨by show(1:Int)<=(y:Int)+1; omega,by show(0:Int)<=(j:Int); omega,?_⟩;show(j:Int) < ((f.1.getD ((y:Int)+1 - 1).toNat []).length:Int);rw[show((y:Int)+1 - 1).toNat=y by omega,zv hrow];omega)]
    rfl
   have this:T (rec ((j:Int)+1)) (·=.inl ()):=⟨_,hrec (k - 1) _ (by omega) ⟨j+1,by omega,rfl⟩,rfl⟩
   simp only[tq,Int.reduceEq,Int.reduceLT,Int.reduceLE,reduceCtorEq,zv hrow,hltI,hw];refine⟨by(repeat' apply And.intro)<;>first | omega | (simp only[LL]; omega) | exact this | rfl | trivial,fun e=>absurd hone e,fun _=>by(repeat' apply And.intro)<;>first | omega | (simp only[LL]; omega) | exact this | rfl | trivial⟩
  ·have hltI:¬ (j:Int) < (row.length:Int):=by omega
   simp only[tq,Int.reduceEq,Int.reduceLT,Int.reduceLE,reduceCtorEq,zv hrow,hltI]
 have h11:∀ (m:CMap),CM m (f.2.2.1++f.2.2.2++qV f.1)->m_fplaces_L11 N f m N (0:Int)=some (.inl ()):=by
  intro m hm;unfold m_fplaces_L11;refine zg (fun k d=>∃ j:Nat,j+k=f.1.length/\d=(j:Int)) _ ?_ N f.1.length _ (by omega) ⟨0,by omega,rfl⟩;rintro k d rec ⟨j,hj,rfl⟩ hrec
  apply T.eq
  by_cases hlt:j < f.1.length
  ·obtain⟨row,hrow⟩:∃ x,f.1[j]?=some x:=⟨_,List.getElem?_eq_getElem hlt⟩
   have hltI:(j:Int) < (f.1.length:Int):=by omega
   have this:T (rec ((j:Int)+1)) (·=.inl ()):=⟨_,hrec (k - 1) _ (by omega) ⟨j+1,by omega,rfl⟩,rfl⟩
   simp only[tq,Int.reduceEq,Int.reduceLT,Int.reduceLE,reduceCtorEq,hltI,zw (h12 j row m (by omega) hrow hm)]
   (repeat' apply And.intro)<;>first | omega | (simp only[LL]; omega) | exact this | rfl | trivial
  ·have hltI:¬ (j:Int) < (f.1.length:Int):=by omega
   simp only[tq,Int.reduceEq,Int.reduceLT,Int.reduceLE,reduceCtorEq,hltI]
 unfold m_fplaces
 apply T.eq
 simp only[tq,Int.reduceEq,Int.reduceLT,Int.reduceLE,reduceCtorEq,zw h1,zw h4];refine(fcount_ok hN f.2.2.1 (by omega) CM.nil (by simp; omega)).mono fun m1 hm1=>?_
 refine(fcount_ok hN f.2.2.2 (by omega) hm1 (by simp; omega)).mono fun m2 hm2=>?_
 refine(h8 m2 _ (by simp; omega) hm2).mono fun m3 hm3=>?_
 rw[List.nil_append]at hm3;simp only[tq,Int.reduceEq,Int.reduceLT,Int.reduceLE,reduceCtorEq,zw (h11 m3 hm3)]
theorem fcheck_ok{N:Nat} (hN:5000 < N) {f:Kt13} {ρ:zb->Nat} (h:TOk f.1 ρ) (ht:zF f.1<=2048) (ho:Once f.1 (f.2.2.1++f.2.2.2)) (hh:f.2.2.1.length<=1000) (hf:f.2.2.2.length<=1) (hX:f.2.1=[]):m_fcheck N f=some 0:=by
 have hx:m_fcheckX N f=some 0:=by
  obtain⟨n,rfl⟩:∃ n,N=n+1:=⟨N - 1,by omega⟩
  unfold m_fcheckX m_fcheckX_L1;rw[hX]
  rfl
 have hc:∀ a,(qV f.1).count a<=1:=by
  intro a
  have:=ho a
  rw[List.count_append]at this
  split at this<;>omega
 unfold m_fcheck
 apply T.eq
 simp only[tq,Int.reduceEq,Int.reduceLT,Int.reduceLE,reduceCtorEq,zw (lcheckC_ok hN h ht hc),zw hx,zw (fplaces_ok hN h ht ho hh hf)]
theorem rfits_ok{N:Nat} (hN:5000 < N) {t:List (List zj)} (h6:t.length=6) (ht:zF t<=2048) {B y:Nat} {Y:zd} (h:CarOk t B y Y) (hp:Y.1=true->Y.2.1=-13\/Y.2.1=179):m_rfits N Y ((t.getD y []).length:Int) t=some true:=by
 have hf:=h.v.few;have hL:m_rfits_L2 N Y t N (0:Int)=some (.inl ()):=by
  unfold m_rfits_L2;refine zg (fun k d=>∃ j:Nat,j+k=Y.2.2.2.2.length/\d=(j:Int)) _ ?_ N Y.2.2.2.2.length _ (by omega) ⟨0,by omega,rfl⟩;rintro k d rec ⟨j,hj,rfl⟩ hrec
  apply T.eq
  by_cases hlt:j < Y.2.2.2.2.length
  ·obtain⟨x,hx⟩:∃ x,Y.2.2.2.2[j]?=some x:=⟨_,List.getElem?_eq_getElem hlt⟩
   have hltI:(j:Int) < (Y.2.2.2.2.length:Int):=by omega
   have hxm:=List.mem_of_getElem? hx;have hxv:=h.v.ok x hxm;have hxt:=h.pend x hxm;have hle:=hasT_le hxt;rw[h6]at hle;rw[qA]at hxt;have hw:=wrapN hxt.1 (by omega:x.1.1<=6);have this:T (rec ((j:Int)+1)) (·=.inl ()):=⟨_,hrec (k - 1) _ (by omega) ⟨j+1,by omega,rfl⟩,rfl⟩
   simp only[tq,Int.reduceEq,Int.reduceLT,Int.reduceLE,reduceCtorEq,hltI,zv hx,zw (ynamed_ok N hxv.1),hw,h6,show ¬ ((t.getD (x.1.1 - 1).toNat []).length:Int)<=x.1.2 by omega]
   (repeat' apply And.intro)<;>first | omega | (simp only[LL]; omega) | exact this | rfl | trivial
  ·have hltI:¬ (j:Int) < (Y.2.2.2.2.length:Int):=by omega
   simp only[tq,Int.reduceEq,Int.reduceLT,Int.reduceLE,reduceCtorEq,hltI]
 unfold m_rfits
 apply T.eq
 simp only[tq,Int.reduceEq,Int.reduceLT,Int.reduceLE,reduceCtorEq,zw (ycheck_ok (N:=N) h.v (by omega)),h.cnt,zw hL];intro e
 have:=hp e.1.1
 omega
theorem equalI_ok{N:Nat} (hN:5000 < N) (l:List zb) (hl:l.length<=5000):m_equalI N l l=some true:=by
 have hL:m_equalI_L1 N l l N (0:Int)=some (.inl ()):=by
  unfold m_equalI_L1;refine zg (fun k d=>∃ j:Nat,j+k=l.length/\d=(j:Int)) _ ?_ N l.length _ (by omega) ⟨0,by omega,rfl⟩;rintro k d rec ⟨j,hj,rfl⟩ hrec
  apply T.eq
  by_cases hlt:j < l.length
  ·have hltI:(j:Int) < (l.length:Int):=by omega
   have this:T (rec ((j:Int)+1)) (·=.inl ()):=⟨_,hrec (k - 1) _ (by omega) ⟨j+1,by omega,rfl⟩,rfl⟩
   simp only[tq,Int.reduceEq,Int.reduceLT,Int.reduceLE,reduceCtorEq,hltI,beq2]
   (repeat' apply And.intro)<;>first | omega | (simp only[LL]; omega) | exact this | rfl | trivial
  ·have hltI:¬ (j:Int) < (l.length:Int):=by omega
   simp only[tq,Int.reduceEq,Int.reduceLT,Int.reduceLE,reduceCtorEq,hltI]
 unfold m_equalI
 apply T.eq
 simp only[tq,Int.reduceEq,Int.reduceLT,Int.reduceLE,reduceCtorEq,zw hL]
theorem rcheck_ok{N:Nat} (hN:5000 < N) {wk:qx} {w:Nat} {ids:List zb} {B:Nat} (h:WJ wk w ids B) (hw1:1<=w) (hw16:w<=16) (ht:zF wk.2.2.1.1<=2048):m_rcheck N wk=some 0:=by
 obtain⟨bs,hb1,hb2,hb3⟩:=h.bs;have hln:=h.ln;obtain⟨ρ,hρ⟩:=h.st.tok;have h6:=hρ.len;have hysl:=h.st.ysl;have hsl:wk.1.length=w:=by rw[hb2,xi hb1,hln]
 have hheld:zY wk.1=ids:=by rw[hb2,singles_held hb1]
 have h1:m_rcheck_L1 N wk N (0:Int)=some (.inl ()):=by
  unfold m_rcheck_L1;refine zg (fun k d=>∃ j:Nat,j+k=6/\d=(j:Int)) _ ?_ N 6 _ (by omega) ⟨0,by omega,rfl⟩;rintro k d rec ⟨j,hj,rfl⟩ hrec
  apply T.eq
  by_cases hlt:j < 6
  ·obtain⟨Y,hY⟩:∃ x,wk.2.1[j]?=some x:=⟨_,List.getElem?_eq_getElem (by omega)⟩
   have hltI:(j:Int) < (wk.2.1.length:Int):=by omega
   have hfit:=rfits_ok hN h6 ht (h.st.car j Y hY) (h.st.plc j Y hY);have this:T (rec ((j:Int)+1)) (·=.inl ()):=⟨_,hrec (k - 1) _ (by omega) ⟨j+1,by omega,rfl⟩,rfl⟩
   simp only[tq,Int.reduceEq,Int.reduceLT,Int.reduceLE,reduceCtorEq,hltI,zv hY,zw hfit]
   (repeat' apply And.intro)<;>first | omega | (simp only[LL]; omega) | exact this | rfl | trivial
  ·have hltI:¬ (j:Int) < (wk.2.1.length:Int):=by omega
   simp only[tq,Int.reduceEq,Int.reduceLT,Int.reduceLE,reduceCtorEq,hltI]
 have h3:m_rcheck_L3 N wk N (0:Int)=some (.inl ()):=by
  unfold m_rcheck_L3;refine zg (fun k d=>∃ j:Nat,j+k=w/\d=(j:Int)) _ ?_ N w _ (by omega) ⟨0,by omega,rfl⟩;rintro k d rec ⟨j,hj,rfl⟩ hrec
  apply T.eq
  by_cases hlt:j < w
  ·obtain⟨s,hs⟩:∃ x,wk.1[j]?=some x:=⟨_,List.getElem?_eq_getElem (by omega)⟩
   have hltI:(j:Int) < (wk.1.length:Int):=by omega
   have hs':=hs;rw[hb2]at hs';obtain⟨b,a,hb,_,rfl⟩:=singles_at hs';have hb01:=hb3 b (List.mem_of_getElem? hb);have this:T (rec ((j:Int)+1)) (·=.inl ()):=⟨_,hrec (k - 1) _ (by omega) ⟨j+1,by omega,rfl⟩,rfl⟩
   simp only[tq,Int.reduceEq,Int.reduceLT,Int.reduceLE,reduceCtorEq,hltI,zv hs,List.length_singleton];refine⟨by(repeat' apply And.intro)<;>first | omega | (simp only[LL]; omega) | exact this | rfl | trivial,fun e=>by omega,fun _=>by(repeat' apply And.intro)<;>first | omega | (simp only[LL]; omega) | exact this | rfl | trivial⟩
  ·have hltI:¬ (j:Int) < (wk.1.length:Int):=by omega
   simp only[tq,Int.reduceEq,Int.reduceLT,Int.reduceLE,reduceCtorEq,hltI]
 have hfc:m_fcheck N wk.2.2.1=some 0:=fcheck_ok hN hρ ht (by rw[h.H,h.F,List.append_nil]; exact h.st.once) (by rw[h.H]; omega) (by rw[h.F]; simp) h.X;have hd:=h.d;unfold m_rcheck
 apply T.eq
 simp only[tq,Int.reduceEq,Int.reduceLT,Int.reduceLE,reduceCtorEq,hysl,h6,zw h1,zw h3,zw hfc,zw (rheld_ok (N:=N) wk.1 (by omega) (by omega) (by rw[hheld]; omega)),hheld,h.H,zw (equalI_ok hN ids (by omega)),hsl,show((6:Nat):Int)=6 from rfl,show ¬ ((w:Int) < 1) by omega,show ¬ ((16:Int) < (w:Int)) by omega];omega

theorem mcopiedI_ok(N:Nat) (l:List zb) (h:l.length<=100000):m_mcopiedI N l=some (l,l.length):=by
 unfold m_mcopiedI
 apply T.eq
 simp only[tq,Int.reduceEq,Int.reduceLT,Int.reduceLE,reduceCtorEq,List.length_replicate]
 (repeat' apply And.intro)<;>first | omega | (simp only[LL]; omega) | exact this | rfl | trivial
theorem mcopiedX_ok(N:Nat) (l:List zQ) (h:l.length<=100000):m_mcopiedX N l=some (l,l.length):=by
 unfold m_mcopiedX
 apply T.eq
 simp only[tq,Int.reduceEq,Int.reduceLT,Int.reduceLE,reduceCtorEq,List.length_replicate]
 (repeat' apply And.intro)<;>first | omega | (simp only[LL]; omega) | exact this | rfl | trivial
theorem mcopiedP_ok(N:Nat) (l:List qa) (h:l.length<=100000):qQ N l=some (l,l.length):=by
 unfold qQ
 apply T.eq
 simp only[tq,Int.reduceEq,Int.reduceLT,Int.reduceLE,reduceCtorEq,List.length_replicate]
 (repeat' apply And.intro)<;>first | omega | (simp only[LL]; omega) | exact this | rfl | trivial
theorem clipI_ok(N:Nat) (l:List zb):m_clipI N l=some (l,l.length):=by
 unfold m_clipI
 apply T.eq
 simp only[tq,Int.reduceEq,Int.reduceLT,Int.reduceLE,reduceCtorEq,List.take_length]
 (repeat' apply And.intro)<;>first | omega | (simp only[LL]; omega) | exact this | rfl | trivial
theorem mcopyT_ok{N:Nat} (t:List (List zj)) (hN:5000 < N) (h:TB t) (y w:Nat) (hy:y < 6) (hw:w<=300):m_mcopyT N t ((y:Int)+1) (w:Int)=some (own t):=by
 have hfew:=h.few;have h3:∀ (j:Nat) (x:List zj) (R:List (List zj)),t[j]?=some x->j < R.length->m_mcopyT_L3 N t (j:Int) N ((0:Int),own (R.set j (List.replicate x.length zh.zero)))=some (own (R.set j x)):=by
  intro j x R hx hR;have hxt:=List.mem_of_getElem? hx;have hxl:=h.row x hxt;unfold m_mcopyT_L3;refine zg (fun k d=>∃ i:Nat,i+k=x.length/\d=((i:Int),own (R.set j (x.take i++List.replicate (x.length - i) zh.zero)))) _ ?_ N x.length _ (by omega) ⟨0,by omega,by simp⟩;rintro k d rec ⟨i,hi,rfl⟩ hrec
  apply T.eq
  by_cases hlt:i < x.length
  ·obtain⟨l,hl⟩:∃ l,x[i]?=some l:=⟨_,List.getElem?_eq_getElem hlt⟩
   have hlx:=List.mem_of_getElem? hl;have hltI:(i:Int) < (x.length:Int):=by omega
   have hg:(R.set j (x.take i++List.replicate (x.length - i) zh.zero))[j]?=some (x.take i++List.replicate (x.length - i) zh.zero):=by rw[List.getElem?_set,if_pos rfl,if_pos hR]
   have this:T (rec ((i:Int)+1,own (R.set j (x.take (i+1)++List.replicate (x.length - (i+1)) zh.zero)))) (·=own (R.set j x)):=⟨_,hrec (k - 1) _ (by omega) ⟨i+1,by omega,rfl⟩,rfl⟩
   simp only[tq,Int.reduceEq,Int.reduceLT,Int.reduceLE,reduceCtorEq,qd,List.length_set,own_get hg,zv hx,hltI,zv hl,zw (mcopiedI_ok N _ (h.thr x hxt l hlx)),zw (mcopiedP_ok N _ (h.pst x hxt l hlx)),pair_eta,own_set,List.set_set,rep_set hl,rep_len (Nat.le_of_lt hlt)]
   (repeat' apply And.intro)<;>first | omega | (simp only[LL]; omega) | exact this | rfl | trivial
  ·have hltI:¬ (i:Int) < (x.length:Int):=by omega
   simp only[tq,Int.reduceEq,Int.reduceLT,Int.reduceLE,reduceCtorEq,hltI,zv hx];rw[show i=x.length by omega]
   simp
 have h1:m_mcopyT_L1 N t ((y:Int)+1) (w:Int) N ((0:Int),own (List.replicate t.length []))=some (own t):=by
  unfold m_mcopyT_L1;refine zg (fun k d=>∃ j:Nat,j+k=t.length/\d=((j:Int),own (t.take j++List.replicate (t.length - j) []))) _ ?_ N t.length _ (by omega) ⟨0,by omega,by simp⟩;rintro k d rec ⟨j,hj,rfl⟩ hrec
  apply T.eq
  by_cases hlt:j < t.length
  ·obtain⟨x,hx⟩:∃ x,t[j]?=some x:=⟨_,List.getElem?_eq_getElem hlt⟩
   have hltI:(j:Int) < (t.length:Int):=by omega
   have hxl:=h.row x (List.mem_of_getElem? hx);have hrl:=rep_len (t:=t) (Nat.le_of_lt hlt) [];have h3':=h3 j x (t.take j++List.replicate (t.length - j) []) hx (by omega);have this:T (rec ((j:Int)+1,own (t.take (j+1)++List.replicate (t.length - (j+1)) []))) (·=own t):=⟨_,hrec (k - 1) _ (by omega) ⟨j+1,by omega,rfl⟩,rfl⟩
   simp only[tq,Int.reduceEq,Int.reduceLT,Int.reduceLE,reduceCtorEq,hltI,zv hx,qd,hrl,own_set,zw h3',rep_set hx];refine⟨by(repeat' apply And.intro)<;>first | omega | (simp only[LL]; omega) | exact this | rfl | trivial,by(repeat' apply And.intro)<;>first | omega | (simp only[LL]; omega) | exact this | rfl | trivial,fun e=>?_,fun e=>?_⟩
   ·(repeat' apply And.intro)<;>first | omega | (simp only[LL]; omega) | exact this | rfl | trivial
   ·(repeat' apply And.intro)<;>first | omega | (simp only[LL]; omega) | exact this | rfl | trivial
  ·have hltI:¬ (j:Int) < (t.length:Int):=by omega
   simp only[tq,Int.reduceEq,Int.reduceLT,Int.reduceLE,reduceCtorEq,hltI];rw[List.take_of_length_le (by omega),show t.length - j=0 by omega]
   simp
 unfold m_mcopyT
 apply T.eq
 simp only[tq,Int.reduceEq,Int.reduceLT,Int.reduceLE,reduceCtorEq,own_nil,zw h1]
 (repeat' apply And.intro)<;>first | omega | (simp only[LL]; omega) | exact this | rfl | trivial
theorem mfallen_ok{N:Nat} (hN:5000 < N) (a:zb):m_mfallen N [] a=some [a]:=by
 obtain⟨n,rfl⟩:∃ n,N=n+3:=⟨N - 3,by omega⟩
 have hs:m_sortI (n+3) [a]=some [a]:=by kernel_rfl
 unfold m_mfallen
 apply T.eq
 simp only[tq,Int.reduceEq,Int.reduceLT,Int.reduceLE,reduceCtorEq,List.nil_append,zw hs,List.length_nil,List.length_singleton]
 (repeat' apply And.intro)<;>first | omega | (simp only[LL]; omega) | exact this | rfl | trivial
theorem Once.bind{t:List (List zj)} {P Q:List zb} (h:Once t (P++Q)) {y:Nat} (hy:y < t.length) {l:zj} (hl:l.2.2.1=P):Once (xx t y l) (((y:Int)+1,((t.getD y []).length:Int)) :: Q):=by
 intro c;have h1:=h c;have h3:=thrs_put hy l c;have hn:=hasT_new hy l;rw[hl]at h3;rw[List.count_append,List.count_append]at h1;rw[List.count_append,List.count_cons,h3];have hac:(if (((y:Int)+1,((t.getD y []).length:Int)) == c)=true then 1 else 0)=if ((y:Int)+1,((t.getD y []).length:Int))=c then 1 else 0:=by simp
 rw[hac]
 by_cases e:((y:Int)+1,((t.getD y []).length:Int))=c
 ·rw[if_pos e]
  rw[e]at hn;rw[if_neg hn]at h1;rw[if_pos ((qj hy l).2 (Or.inl e.symm))];omega
 ·rw[if_neg e]
  by_cases hc:hasT t c
  ·rw[if_pos hc]at h1
   rw[if_pos (hc.put hy l)];omega
  ·rw[if_neg hc]at h1
   rw[if_neg (fun hh=>((qj hy l).1 hh).elim (fun h=>e h.symm) hc)];omega
structure BSt(t0:List (List zj)) (ids:List zb) (y:Nat) (B i:Nat) (t:List (List zj)) (Y:zd) (la:zb):Prop where
 tok:∃ ρ,TOk t ρ
 once:Once t ((if i=0 then [] else [la])++ids.drop i)
 car:CarOk t B y Y
 inn:Y.1=true
 all:zF t=zF t0+i
 len:(t.getD y []).length=(t0.getD y []).length+i
 rest:∀ z:Nat,z≠y->t.getD z []=t0.getD z []
 last:0 < i->la=((y:Int)+1,(((t0.getD y []).length+(i - 1):Nat):Int))
 ext:∀ (a:zb) (l:zj),qp t0 a=some l->qp t a=some l
 made:∀ (k:Nat) (a:zb),k < i->ids[k]?=some a->∃ l:zj,qp t ((y:Int)+1,(((t0.getD y []).length+k:Nat):Int))=some l/\l.1=0/\l.2.2.1=(if k=0 then [a] else [((y:Int)+1,(((t0.getD y []).length+(k - 1):Nat):Int)),a])
theorem BSt.next{t0:List (List zj)} {ids:List zb} {y:Nat} (hy:y < 6) {B i:Nat} {t:List (List zj)} {Y:zd} {la:zb} (h:BSt t0 ids y B i t Y la) {a:zb} (ha:ids[i]?=some a) (ht:zF t < 2048) {Z:zd} {C:Nat} (hZ:CarOk t C y Z) (hin:Z.1=true) (hn:(t.getD y []).length=0->Z.2.2.2.1=true) :
  BSt t0 ids y B (i+1) (xx t y (0,(Z.2.2.2.1,((if i=0 then [] else [la])++[a],Z.2.2.2.2)))) (true,Z.2.1,Z.2.2.1+1,false,[]) ((y:Int)+1,((t.getD y []).length:Int)):=by
 obtain⟨ρ,hρ⟩:=h.tok;have h6:=hρ.len;have hd:ids.drop i=a :: ids.drop (i+1):=by
  rw[List.drop_eq_getElem_cons (List.getElem?_eq_some_iff.1 ha).1,(List.getElem?_eq_some_iff.1 ha).2]
 have ho:=h.once;rw[hd,show(if i=0 then [] else [la])++a :: ids.drop (i+1)=((if i=0 then [] else [la])++[a])++ids.drop (i+1) by simp]at ho;refine⟨⟨_,hρ.put hy (Or.inl rfl) (fun b hb=>ho.has (List.mem_append.2 (Or.inl hb))) (fun p hp=>⟨hZ.pend p hp,(hZ.v.ok p hp).2⟩) ?_ hZ.v.few hZ.v.red hn⟩,?_,(hZ.made h6 ht hin hy _).le (Nat.zero_le _),rfl,by rw[tall_put (by omega),h.all]; omega,by rw[qJ (by omega),if_pos rfl,List.length_append,h.len]; rfl,fun z hz=>by rw[qJ (by omega),if_neg hz]; exact h.rest z hz,
  fun _=>by rw[h.len]; rfl,fun b l hb=>tget_put (by omega) _ (h.ext b l hb),fun k b hk hb=>?_⟩
 ·show((if i=0 then [] else [la])++[a]).length<=4
  split<;>simp
 ·rw[if_neg (show ¬ i+1=0 by omega)]
  exact Once.bind ho (by omega) rfl
 ·by_cases e:k=i
  ·subst e
   rw[ha]at hb;cases hb;have hnew:=tget_new (t:=t) (y:=y) (by omega) (0,(Z.2.2.2.1,((if k=0 then [] else [la])++[a],Z.2.2.2.2)));rw[h.len]at hnew;refine⟨_,hnew,rfl,?_⟩;show(if k=0 then [] else [la])++[a]=_
   by_cases e0:k=0
   ·rw[if_pos e0,if_pos e0]; rfl
   ·rw[if_neg e0,if_neg e0,h.last (by omega)]; rfl
  ·obtain⟨l,h1,h2⟩:=h.made k b (by omega) hb
   exact⟨l,tget_put (by omega) _ h1,h2⟩
theorem mbind_ok{N:Nat} (hN:5000 < N) {wk:qx} {w:Nat} {ids:List zb} {B:Nat} (h:WJ wk w ids B) (hw1:1<=w) (hw16:w<=16) (ht:zF wk.2.2.1.1+32<=2048) (hB:B+2<=4096) {y:Nat} (hy:y < 6) {Y:zd} (hY:wk.2.1[y]?=some Y) (hin:Y.1=true) (hpl:Y.2.1=-13) :
  T (m_mbind N wk ((y:Int)+1)) fun q=>∃ t Z la,q=((t,([],([],[la]))),0)/\BSt wk.2.2.1.1 ids y (B+1) w t Z la:=by
 obtain⟨bs,hb1,hb2,hb3⟩:=h.bs;have hln:=h.ln;obtain⟨ρ,hρ⟩:=h.st.tok;have h6:=hρ.len;have hysl:=h.st.ysl;have hsl:wk.1.length=w:=by rw[hb2,xi hb1,hln]
 have hL:T (m_mbind_L6 N wk ((y:Int)+1) N (wk,(0:Int),Y.1,Y.2.1,Y.2.2.1,Y.2.2.2.1,Y.2.2.2.2,own wk.2.2.1.1,[],ids,(0:Int),(0:Int))) fun q=>∃ t Z la,q=.inl (wk,own t,[],ids,la)/\BSt wk.2.2.1.1 ids y (B+1) w t Z la:=by
  unfold m_mbind_L6;refine T_loop (fun k D=>∃ (i:Nat) (t:List (List zj)) (Z:zd) (la:zb),i+k=w/\D=(wk,(i:Int),Z.1,Z.2.1,Z.2.2.1,Z.2.2.2.1,Z.2.2.2.2,own t,[],ids,la.1,la.2)/\BSt wk.2.2.1.1 ids y (B+1) i t Z la) _ ?_ N w _ (by omega)
   ⟨0,wk.2.2.1.1,Y,(0,0),by omega,rfl,⟨⟨ρ,hρ⟩,by simpa using h.st.once,(h.st.car y Y hY).le (by omega),hin,rfl,rfl,fun _ _=>rfl,fun h=>by omega,fun _ _ h=>h,fun k a hk=>by omega⟩⟩
  rintro k D rec ⟨i,t,Z,la,hi,rfl,hS⟩ hrec
  by_cases hlt:i < w
  ·obtain⟨s,hs⟩:∃ x,wk.1[i]?=some x:=⟨_,List.getElem?_eq_getElem (by omega)⟩
   have hs':=hs;rw[hb2]at hs';obtain⟨b,a,hb,ha,rfl⟩:=singles_at hs';have hltI:(i:Int) < (wk.1.length:Int):=by omega
   obtain⟨ρ',hρ'⟩:=hS.tok;have h6':=hρ'.len;have hall:=hS.all;have hZin:=hS.inn;have hcar:=hS.car;have hZf:=hcar.few;have hZv:=hcar.v;have hal:=tall_le (t:=t) y;obtain⟨row,hrow⟩:∃ x,t[y]?=some x:=⟨_,List.getElem?_eq_getElem (by omega)⟩
   have hrg:t.getD y []=row:=zv hrow;obtain⟨P,hP⟩:∃ P:List qa,P=if i=0 then [] else [(la,(true,(0:Int)))]:=⟨_,rfl⟩
   obtain⟨R,hR⟩:∃ R:List zb,R=if i=0 then [] else [la]:=⟨_,rfl⟩
   have hPl:P.length<=1:=by rw[hP]; split<;>simp
   have hRl:R.length<=1:=by rw[hR]; split<;>simp
   have hPt:∀ p∈P,hasT t p.1/\(p.2.2=0\/p.2.2=1):=by
    intro p hp;rw[hP]at hp
    split at hp
    ·cases hp
    ·rename_i e
     rw[List.mem_singleton]at hp;rw[hp];have ho:=hS.once;rw[if_neg e]at ho;exact⟨ho.has (by simp),Or.inl rfl⟩
   have hpv:∀ p∈P,PassV p:=fun p hp=>PassV.of h6' (by omega) (hPt p hp).1 (hPt p hp).2
   have hb1:P.length+Z.2.2.2.2.length<=4096:=by
    by_cases e:i=0
    ·have:P.length=0:=by rw[hP,if_pos e]; rfl
     omega
    ·omega
   have hgo:=ygo_ok hZv hZin hN (hZv.at' hZin) hpv hb1;have hcgo:∃ C,CarOk t C y (true,Z.2.1,Z.2.2.1,Z.2.2.2.1,pushs Z.2.2.2.2 P):=by
    refine⟨P.length+Z.2.2.2.2.length,?_⟩;have hcar':CarOk t Z.2.2.2.2.length y Z:=⟨hcar.v,hcar.cnt,hcar.pend,Nat.le_refl _,hcar.new⟩
    exact hcar'.go h6' (by omega) hZin (hZv.at' hZin) hPt hb1
   obtain⟨C,hC⟩:=hcgo;have hcnt:=hC.cnt;have hplen:=hC.v.few;have hmk:=ymake_ok hC.v rfl hN (by rw[hcnt,hrg]; rw[hrg]at hal; omega);have hnext:=hS.next hy ha (by omega) hC rfl (fun h0=>hcar.new hZin h0);have this:=hrec (k - 1) _ (by omega) ⟨i+1,_,_,_,by omega,rfl,hnext⟩;rw[<- hR,hrg,show xx t y (0,(Z.2.2.2.1,(R++[a],pushs Z.2.2.2.2 P)))=t.set y (row++[(0,(Z.2.2.2.1,(R++[a],pushs Z.2.2.2.2 P)))]) by unfold xx; rw[hrg]]at this;have hcnt2:Z.2.2.1=(row.length:Int):=by rw[<- hrg]; exact hcnt
   have hZe:Z=(true,(Z.2.1,((row.length:Int),Z.2.2.2))):=by
    rw[<- hcnt2,<- hZin]
   have hgo':m_ygo N (true,(Z.2.1,((row.length:Int),Z.2.2.2))) Z.2.1 P=some ((true,Z.2.1,Z.2.2.1,Z.2.2.2.1,pushs Z.2.2.2.2 P),0):=by
    rw[<- hZe];exact hgo
   rw[hcnt2]at hgo' hmk this hplen;rw[hrg]at hal;simp only at hplen;simp only[tq,Int.reduceEq,Int.reduceLT,Int.reduceLE,reduceCtorEq,hltI,zv hs,List.length_singleton];refine⟨by(repeat' apply And.intro)<;>first | omega | (simp only[LL]; omega) | exact this | rfl | trivial,by(repeat' apply And.intro)<;>first | omega | (simp only[LL]; omega) | exact this | rfl | trivial,fun e=>?_,fun e=>?_⟩
   ·have e0:¬ i=0:=by omega
    rw[if_neg e0]at hP hR;subst hP hR;simp only[hcnt2,hZin,zw hgo',tq,Int.reduceEq,Int.reduceLT,Int.reduceLE,reduceCtorEq,pair_eta,zw hmk,zw (clipI_ok N _),wrapY hy,zw (mcopiedP_ok N (pushs Z.2.2.2.2 [(la,(true,(0:Int)))]) (by omega)),qd,own_get hrow,own_set,List.nil_append,List.length_nil,List.length_singleton]
    (repeat' apply And.intro)<;>first | omega | (simp only[LL]; omega) | exact this | rfl | trivial
   ·have e0:i=0:=by omega
    rw[if_pos e0]at hP hR;subst hP hR;simp only[hcnt2,hZin,zw hgo',tq,Int.reduceEq,Int.reduceLT,Int.reduceLE,reduceCtorEq,pair_eta,zw hmk,zw (clipI_ok N _),wrapY hy,zw (mcopiedP_ok N (pushs Z.2.2.2.2 []) (by omega)),qd,own_get hrow,own_set,List.nil_append,List.length_nil,List.length_singleton]
    (repeat' apply And.intro)<;>first | omega | (simp only[LL]; omega) | exact this | rfl | trivial
  ·have hltI:¬ (i:Int) < (wk.1.length:Int):=by omega
   simp only[tq,Int.reduceEq,Int.reduceLT,Int.reduceLE,reduceCtorEq,hltI];obtain rfl:i=w:=by omega
   exact⟨t,Z,la,rfl,hS⟩
 unfold m_mbind;simp only[tq,Int.reduceEq,Int.reduceLT,Int.reduceLE,reduceCtorEq,zw (rcheck_ok hN h hw1 hw16 (by omega)),wrapY hy,hysl,zv hY,hpl,zw (lcount_ok (N:=N) wk.2.2.1.1 (by omega) (by omega) (by omega)),show ¬ ((y:Int)+1 < 1) by omega,show ¬ (6 < (y:Int)+1) by omega];refine⟨by(repeat' apply And.intro)<;>first | omega | (simp only[LL]; omega) | exact this | rfl | trivial,fun e=>?_,fun _=>?_⟩
 ·rw[hin]at e
  cases e
 ·refine⟨by(repeat' apply And.intro)<;>first | omega | (simp only[LL]; omega) | exact this | rfl | trivial,fun e=>by omega,fun _=>?_⟩
  simp only[hsl,h.H,h.X,h.F,zw (mcopiedI_ok N ids (by omega)),zw (mcopiedX_ok N [] (by simp)),zw (mcopyT_ok wk.2.2.1.1 hN (hρ.tb (by omega)) y w hy (by omega))];rw[hpl]at hL;refine hL.mono ?_;rintro q ⟨t,Z,la,rfl,hS⟩;have hb:m_mbind1 N wk 0 t [] ids [] la.1 la.2=some (t,[],[],[la]):=by
   unfold m_mbind1;rw[h.F,show((la.1,la.2):zb)=la from rfl,mfallen_ok hN la]
   rfl
  simp only[tq,Int.reduceEq,Int.reduceLT,Int.reduceLE,reduceCtorEq,own_map,zw hb];exact⟨t,Z,la,rfl,hS⟩

def slotI(p:List (List zi)) (j k:Nat):zb:=
 if j=0 then(fstY (p.getD 0 []),(k:Int))else(((p.getD (j - 1) []).getD k zG.zero).2.1,(loopN p (j - 1) k:Int))
def dirR(j:Nat):Int:=if j % 2=0 then 0 else 1
structure JW(p:List (List zi)) (w:Nat) (j:Nat) (wk:qx) (ids:List zb):Prop where
 wj:WJ wk w ids (192 * j)
 dir:wk.2.2.2=dirR j
 all:zF wk.2.2.1.1=w * (j+1)
 num:∀ z:Nat,z < 6->(wk.2.2.1.1.getD z []).length=(if (z:Int)+1=fstY (p.getD 0 [])then w else 0)+cnts ((z:Int)+1) (p.take j)
 idk:∀ k:Nat,k < w->ids[k]?=some (slotI p j k)
 old:∀ i k:Nat,i < j->k < w->∃ l:zj,qp wk.2.2.1.1 (slotI p (i+1) k)=some l/\l.1=ql ((p.getD i []).getD k zG.zero)/\l.2.2.1=[slotI p i k]
 used:0 < j->∀ x∈p.getD (j - 1) [],∃ Y:zd,wk.2.1[(x.2.1 - 1).toNat]?=some Y/\Y.1=true/\Y.2.1=endOf (dirR (j - 1))
 sl:wk.1=zR (if j=0 then List.replicate w 0 else(p.getD (j - 1) []).map ql) ids
theorem fstY_mem(r:List zi) (h:1<=r.length):∃ x∈r,x.2.1=fstY r:=by
 have key:∀ (l:List zi) (b:Int),(∃ x∈r,x.2.1=b)->(∀ x∈l,x∈r)->∃ x∈r,x.2.1=l.foldl (fun b x=>if x.2.1 < b then x.2.1 else b) b:=by
  intro l
  induction l with
  | nil=>intro b hb _; exact hb
  | cons a l ih=>
   intro b hb hl;rw[List.foldl_cons];refine ih _ ?_ fun x hx=>hl x (List.mem_cons_of_mem _ hx)
   split
   ·exact⟨a,hl a List.mem_cons_self,rfl⟩
   ·exact hb
 cases r with
 | nil=>simp at h
 | cons a r=>exact key (a :: r) a.2.1 ⟨a,List.mem_cons_self,rfl⟩ fun _ h=>h
theorem Ch6.fst{p:List (List zi)} {w:Nat} (h:Ch6 p w) {j:Nat} {r:List zi} (hr:p[j]?=some r):1<=fstY r/\fstY r<=6:=by
 obtain⟨h1,h2⟩:=h.row hr;obtain⟨x,hx,he⟩:=fstY_mem r (by have:=h.w1; omega)
 have:=h2 x hx
 rw[<- he];exact⟨this.2.1,this.2.2.1⟩
theorem dirR_turn(j:Nat):qM (dirR j)=dirR (j+1):=by
 unfold qM dirR
 by_cases h:j % 2=0
 ·rw[if_pos h,if_pos rfl,if_neg (by omega)]
 ·rw[if_neg h,if_neg (by omega),if_pos (by omega)]
theorem JW.start{N:Nat} (hN:5000 < N) {p:List (List zi)} {w:Nat} (h:Ch6 p w) {r0:List zi} (hr0:p[0]?=some r0):∃ wk,m_rcast N (fstY r0) (w:Int)=some (wk,0)/\JW p w 0 wk (castI (fstY r0 - 1).toNat w):=by
 have hf:=h.fst hr0;obtain⟨y,hy⟩:∃ y:Nat,fstY r0=(y:Int)+1:=⟨(fstY r0 - 1).toNat,by omega⟩
 have hy2:(fstY r0 - 1).toNat=y:=by omega
 rw[hy2];have e0:p.getD 0 []=r0:=zv hr0;obtain⟨q,hq,wk,rfl,hw,hd,hn,ha,hs⟩:=rcast_ok hN (show y < 6 by omega) h.w1 h.w16;refine⟨wk,by rw[hy]; exact hq,⟨hw,hd,by rw[ha]; omega,fun z hz=>?_,fun k hk=>?_,fun i k hi=>(by omega),fun h=>(by omega),hs⟩⟩
 ·rw[hn,e0,hy]
  have hc:cnts ((z:Int)+1) (p.take 0)=0:=rfl;rw[hc]
  by_cases e:z=y
  ·rw[if_pos e,if_pos (by omega)]
   rfl
  ·rw[if_neg e,if_neg (by omega)]
 ·unfold slotI castI
  rw[if_pos rfl,e0,hy,List.getElem?_map,List.getElem?_range hk]
  rfl
theorem JW.next{N:Nat} (hN:5000 < N) {p:List (List zi)} {w:Nat} (h:Ch6 p w) (h20:p.length<=20) {j:Nat} {r:List zi} (hr:p[j]?=some r) {wk:qx} {ids:List zb} (hJ:JW p w j wk ids):∃ wk',qX N wk r=some (wk',0)/\∃ ids',JW p w (j+1) wk' ids':=by
 obtain⟨hrw,hst⟩:=h.row hr;have hj:=(List.getElem?_eq_some_iff.1 hr).1;have hw16:=h.w16;have hw1:=h.w1;have hall:=hJ.all;have hmul:w * (j+1)<=16 * 20:=Nat.mul_le_mul hw16 (by omega);have ej:p.getD j []=r:=zv hr;obtain⟨r0,hr0⟩:∃ r0,p[0]?=some r0:=⟨_,List.getElem?_eq_getElem (by omega)⟩
 have e0:p.getD 0 []=r0:=zv hr0;have hr0w:=(h.row hr0).1;obtain⟨q,hq,wk',ids',rfl,hW,hD,hR,hS⟩:=rworked_ok hN hJ.wj hrw hw1 hw16 hst (by omega) (by omega);have hkey:∀ k,k < w->ids'[k]?=some (slotI p (j+1) k)/\∃ l:zj,qp wk'.2.2.1.1 (slotI p (j+1) k)=some l/\l.1=ql (r.getD k zG.zero)/\l.2.2.1=[slotI p j k]:=by
  intro k hk;obtain⟨x,hx⟩:∃ x,r[k]?=some x:=⟨_,List.getElem?_eq_getElem (by omega)⟩
  have ek:r.getD k zG.zero=x:=zv hx;have hx6:=hst x (List.mem_of_getElem? hx);have h1:=hx6.2.1;have h6:=hx6.2.2.1;obtain⟨hn1,l,hn2,hn3⟩:=hR.new k x _ hx (hJ.idk k hk) (by omega);have hsl:slotI p (j+1) k=(x.2.1,(((wk.2.2.1.1.getD (x.2.1 - 1).toNat []).length+befN wk.2.2.2 x.2.1 r k:Nat):Int)):=by
   unfold slotI;rw[if_neg (by omega),Nat.add_sub_cancel,ej,ek]
   congr 2
   have hnum:=hJ.num (x.2.1 - 1).toNat (by omega);rw[show(((x.2.1 - 1).toNat:Nat):Int)+1=x.2.1 by omega]at hnum;rw[hnum];unfold loopN befN;rw[ej,ek,e0,hr0w,hJ.dir];unfold dirR
   by_cases hp:j % 2=0
   ·rw[if_pos hp,if_pos hp,if_pos rfl]
   ·rw[if_neg hp,if_neg hp,if_neg (show ¬ (1:Int)=0 by decide)]
  rw[hsl,ek];exact⟨hn1,l,hn2,hn3⟩
 refine⟨wk',hq,ids',⟨?_,by rw[hD,hJ.dir,dirR_turn],by rw[hR.all,hall,cntL_six hst,hrw]; exact(Nat.mul_succ w (j+1)).symm,fun z hz=>?_,fun k hk=>?_,fun i k hi hk=>?_,fun _ x hx=>?_,?_⟩⟩
 ·rw[show 192 * (j+1)=192 * j+192 by omega]
  exact hW
 ·rw[hR.num z hz,if_pos hz,hJ.num z hz,cnts_take hr]
  omega
 ·exact(hkey k hk).1
 ·by_cases e:i=j
  ·subst e
   rw[ej];exact(hkey k hk).2
  ·obtain⟨l,h1,h2⟩:=hJ.old i k (by omega) hk
   exact⟨l,hR.ext _ l h1,h2⟩
 ·rw[Nat.add_sub_cancel,ej]at hx
  have:=hst x hx
  rw[Nat.add_sub_cancel,<- hJ.dir];exact hR.used x hx (by have:=this.2.2.1; omega)
 ·rw[hS,if_neg (by omega),Nat.add_sub_cancel,ej]
theorem mof_plain{N:Nat} (hN:5000 < N) {p:List (List zi)} {w:Nat} (h:Ch6 p w) (h20:p.length<=20):∃ wk ids t Z la,m_mof N p=some ((t,([],([],[la]))),0)/\JW p w p.length wk ids/\BSt wk.2.2.1.1 ids (fstY (p.getD (p.length - 1) []) - 1).toNat (192 * p.length+1) w t Z la:=by
 have hodd:=h.odd;have hw1:=h.w1;have hw16:=h.w16;obtain⟨r0,hr0⟩:∃ r0,p[0]?=some r0:=⟨_,List.getElem?_eq_getElem (by omega)⟩
 obtain⟨rl,hrl⟩:∃ rl,p[p.length - 1]?=some rl:=⟨_,List.getElem?_eq_getElem (by omega)⟩
 have el:p.getD (p.length - 1) []=rl:=zv hrl;obtain⟨c,hc,hJ0⟩:=JW.start hN h hr0;have hall0:=hJ0.all;obtain⟨ρ,hρ⟩:=hJ0.wj.st.tok;have hsl0:c.1.length=w:=by
  obtain⟨bs,hb1,hb2,_⟩:=hJ0.wj.bs;rw[hb2,xi hb1,hJ0.wj.ln]
 have h1:=rcheck_ok hN hJ0.wj hw1 hw16 (by rw[hall0]; omega);have h2:m_copyWk N c=some c:=by
  refine copyWk_ok (by omega) c (by omega) (fun s hs=>?_) (by rw[hJ0.wj.st.ysl]; omega) (fun Y hY=>?_) (by rw[hJ0.wj.X]; simp) (by rw[hJ0.wj.H,hJ0.wj.ln]; omega) (by rw[hJ0.wj.F]; simp) (rcpT_ok c.2.2.1.1 hN (hρ.tb (by rw[hall0]; omega))) (own_map _)
  ·obtain⟨bs,hb1,hb2,_⟩:=hJ0.wj.bs
   obtain⟨k,hk⟩:=List.getElem?_of_mem hs;rw[hb2]at hk;obtain⟨b,a,_,_,rfl⟩:=singles_at hk
   simp
  ·obtain⟨k,hk⟩:=List.getElem?_of_mem hY
   have:=(hJ0.wj.st.car k Y hk).v.few
   omega
 obtain⟨wk,h3,ids,hJ⟩:=rrows_ok (N:=N) (by omega) (fun j wk=>∃ ids,JW p w j wk ids) (by omega) h1 h2 ⟨_,hJ0⟩ fun i r wk hr ⟨ids,hJ⟩=>JW.next hN h h20 hr hJ
 obtain⟨x,hx,hxe⟩:=fstY_mem rl (by have:=(h.row hrl).1; omega);have hfl:=h.fst hrl;obtain⟨Y,hY,hYin,hYp⟩:=hJ.used (by omega) x (by rw[el]; exact hx);rw[hxe]at hY;have hd:dirR (p.length - 1)=0:=by unfold dirR; rw[if_pos (by omega)]
 rw[hd]at hYp;have hall:=hJ.all;have hmul:w * (p.length+1)<=16 * 21:=Nat.mul_le_mul hw16 (by omega);obtain⟨y,hy⟩:∃ y:Nat,fstY rl=(y:Int)+1:=⟨(fstY rl - 1).toNat,by omega⟩
 have hy2:(fstY rl - 1).toNat=y:=by omega
 rw[hy2]at hY;obtain⟨q,hq,t,Z,la,rfl,hB⟩:=mbind_ok hN hJ.wj hw1 hw16 (by omega) (by omega) (show y < 6 by omega) hY hYin hYp;refine⟨wk,ids,t,Z,la,?_,hJ,by rw[el,hy2]; exact hB⟩;exact mof_ok (by omega) h hr0 hrl hc h3 (by rw[hy]; exact hq)
theorem lawPL_ok(x:Kt3) (hW:0<=x.1/\x.1<=255) (hH:0<=x.2.1/\x.2.1<=255) (hst:∀ c∈x.2.2,0<=c/\c<=255) {N:Nat} (hN:5000 < N) (hlv:qY N=some true) (a b:Int):m_lawPL N x a b=some true:=by
 refine law_out (by omega) hlv x hW hH hst a b fun p w h hp hc h1 h8 h4 ha0 ha hb0 hb=>?_
 have h6:=hc.six h1 h8 h4;have hrows:=hc.rows;obtain⟨j,rfl⟩:∃ j:Nat,a=(j:Int):=⟨a.toNat,by omega⟩
 obtain⟨k,rfl⟩:∃ k:Nat,b=(k:Int):=⟨b.toNat,by omega⟩
 have hj:j < p.length:=by omega
 have hk:k < w:=by omega
 obtain⟨wk,ids,t,Z,la,hm,hJ,hB⟩:=mof_plain hN h6 (by omega);obtain⟨ρ,hρ⟩:=hB.tok;obtain⟨l,hl1,hl2,hl3⟩:=hJ.old j k hj hk;have hl4:=hB.ext _ l hl1;obtain⟨r,hr⟩:∃ r,p[j]?=some r:=⟨_,List.getElem?_eq_getElem hj⟩
 obtain⟨hrw,hs6⟩:=h6.row hr;obtain⟨s,hs⟩:∃ s,r[k]?=some s:=⟨_,List.getElem?_eq_getElem (by omega)⟩
 have e1:p.getD j []=r:=zv hr;have e2:r.getD k zG.zero=s:=zv hs;have hsv:=hs6 s (List.mem_of_getElem? hs);have hy1:=hsv.2.1;have hy6:=hsv.2.2.1;have hslot:slotI p (j+1) k=(s.2.1,(loopN p j k:Int)):=by
  unfold slotI;rw[if_neg (by omega),Nat.add_sub_cancel,e1,e2]
 rw[hslot]at hl4;obtain⟨row,hrow⟩:∃ row,t[(s.2.1 - 1).toNat]?=some row:=⟨_,List.getElem?_eq_getElem (by rw[hρ.len]; omega)⟩
 have hl5:=hl4;unfold qp at hl5;rw[if_pos ⟨hy1,by show(0:Int)<=(loopN p j k:Int); omega⟩]at hl5;have hl6:(t.getD (s.2.1 - 1).toNat [])[((loopN p j k:Nat):Int).toNat]?=some l:=hl5;rw[zv hrow,Int.toNat_natCast]at hl6;refine law_in (by omega) hlv x hp h6 j k hj hk _ hm hρ.len l row (by rw[e1,e2]; exact hrow) hl6 ?_ (slotI p j k) hl3 rfl;rw[hl2,e1,e2];unfold ql
 rcases hsv.1 with e | e
 ·rw[e]; rfl
 ·rw[e]; rfl

section
set_option linter.unusedSimpArgs false
set_option linter.unusedVariables false
open Go.ChangeMaps Go.ChangeShapes Go.WideShapes Go.ChangeAt Go.WideElems Go.RowKit
theorem rng8{x:Int} (h:IntKind.u8.min<=x/\x<=IntKind.u8.max):0<=x/\x<=255:=h
theorem lives39_big:qY 6000=some true:=by kernel_rfl
theorem read_picturesLoop:∀ t∈Tryz.f3.params.toList,Tryz.prog.readableRec t=true/\t < Tryz.prog.types.size:=by
 rw[Tryz.params3];intro t ht;simp only[List.mem_cons,List.not_mem_nil,or_false]at ht
 rcases ht with rfl | rfl | rfl<;>exact⟨by kernel_rfl,of_decide_eq_true (by kernel_rfl)⟩
theorem globs_picturesLoop(W:World):GlobOk cx (fun b=>b < W.heap.size) W:=fun i x hx=>by cases hx
theorem picturesLoop_lifted(os:Os) (started:os.Started) (H:Type) (enc:TypeId×Value->H) :
  ReturnsInHanded {} Tryz.checked os 3 .any (Rows.picturesLoopSpec.pre6 enc Tryz.prog Tryz.f3 Rows.picturesLoopRow.domain false) (Rows.picturesLoopSpec.post enc Tryz.prog Tryz.f3 false true false false):=by
 refine returnsInHanded_of_change (C:=Tryz.checked) Tryz.own started (by kernel_rfl) Tryz.func3
  (ChangeSpec.witness6 (enc:=enc) (C:=Tryz.checked) false ⟨#[],#[.agg #[.int .u8 0,.int .u8 0,.slice none 0 0],.int .i64 0,.int .i64 0],[]⟩ 8 (by kernel_rfl) (by kernel_rfl) (by kernel_rfl) (by kernel_rfl)) ?_
 intro W base args ds gs before hval0 hW hcnd _;have hval:∀ (j:Nat) t v,Tryz.f3.params[j]?=some t->args[j]?=some v->Value.okWide Tryz.prog W .any base t v:=hval0;have hW':=hW;obtain⟨p,q,hA0,hV,rfl,hfz,hnd⟩:=hW;have hA:DataW.TrodAll enc Tryz.prog W 0 (fun _=>true) true Tryz.f3.params.toList args.toList ds p:=hA0;rw[Tryz.params3]at hA hval;obtain⟨v0,v1,v2,d0,d1,d2,p0,p1,p2,rfl,rfl,rfl,h0,h1,h2⟩:=trodAll_three hA;obtain⟨rfl,rfl⟩:=trodVars_none hV;obtain⟨x0,hx0,hv0⟩:=open_agg (g:=(.pair (.int .u8) (.pair (.int .u8) (.sl (.int .u8))))) za rfl rfl (by kernel_rfl) (hval 0 24 v0 rfl rfl) h0;obtain⟨x1,rfl,rfl,rfl,hw1⟩:=open_int Tryz.underlying3 (hval 1 3 v1 rfl rfl) h1;have hx1:=wf_range hw1;obtain⟨x2,rfl,rfl,rfl,hw2⟩:=open_int Tryz.underlying3 (hval 2 3 v2 rfl rfl) h2;have hx2:=wf_range hw2;have hlaw:=AC.law (W:=W) ((ct_lawPL 6000).ok (x0,x1,x2,()) true (lawPL_ok x0 (rng8 hx0.1) (rng8 hx0.2.1) (fun c hc=>rng8 (hx0.2.2 c hc)) (by decide) lives39_big x1 x2)) (globs_picturesLoop W) (vs:=[v0,.int .i64 x1,.int .i64 x2]) ⟨v0,_,rfl,hv0 _ _ rfl,.int .i64 x1,_,rfl,rfl,.int .i64 x2,_,rfl,rfl,rfl⟩;refine Calls.mono hlaw fun e W' ⟨v,he,hv,hw⟩=>?_
 subst hv;exact⟨_,he,post_law hW' rfl rfl (by kernel_rfl) Tryz.underlying4 Tryz.laidOut read_picturesLoop hw⟩
theorem picturesLoop_holds:Rows.PicturesLoopSaid:=
 OpenClaim.holds_of_wide 3 Tryz.f3 rfl rfl rfl rfl rfl rfl rfl ⟨rfl,rfl,rfl,rfl,rfl⟩ rfl rfl rfl rfl rfl (by kernel_rfl) Tryz.func3 (by kernel_rfl)
  (of_decide_eq_true (by kernel_rfl)) (by unfold Func.isWrapper; first | (rw[if_pos (by decide +kernel)]; kernel_rfl) | (rw[if_neg (by decide +kernel)]; exact⟨rfl,rfl⟩))
  (fun os started H enc _=>picturesLoop_lifted os started H enc)
end
end Go.Proofs.YtldjgdggcodgeaaGreat
