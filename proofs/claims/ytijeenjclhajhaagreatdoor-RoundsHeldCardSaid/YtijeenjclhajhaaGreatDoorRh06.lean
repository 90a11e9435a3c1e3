/- RoundsHeld: for every U of layer 21, and behind whichever round, whatever the memory and the order that Go leaves open, the law returns true, and its arguments read as before. The listed package-level variables start as the program's text lays them (the card ties them). -/
import Derived.Test.YtijeenjclhajhaaGreatDoorRh05
set_option linter.all false
set_option maxRecDepth 100000
namespace Go.Proofs.YtijeenjclhajhaaGreatDoor
open Go.Proofs.Tryz
open _root_.Or (inl inr)
open _root_.Option (bind_some getD_some isSome_some)
open _root_.Nat (le_trans lt_or_ge not_lt_zero sub_self zero_le)
open _root_.Int (add_zero le_of_lt le_refl reduceEq reduceLE reduceLT tmod toNat_natCast)
open _root_.List (append_assoc append_nil count count_append elem_eq_mem eq_of_mem_replicate filter_congr flatMap flatMap_append flatMap_cons flatMap_singleton getD_eq_getElem?_getD getElem?_append_left getElem?_append_right getElem?_eq_getElem getElem?_eq_none getElem?_set length_append length_cons length_filter_le length_map length_nil length_replicate length_set length_singleton length_take map map_append map_map mem_of_getElem? mem_range nil_append nodup_nil not_mem_nil perm_iff_count range range_succ replicate set_append_right set_set take_of_length_le)
open Go.RowKit
noncomputable section
section
theorem alX{l:bV}{a:Nat}(h:l.length<a)(s:b7)(k:Nat):(ps l a s).getD k []=if k=a-1 then s else l.getD k []:=by
 unfold ps;simp only[getD_eq_getElem?_getD]
 by_cases I:k<l.length
 ·rw[append_assoc,getElem?_append_left I,if_neg (by omega)]
 ·rw[append_assoc,getElem?_append_right (by omega),getElem?_eq_none (l:=l) (by omega)]
  by_cases J:k=a-1
  ·rw[if_pos J,getElem?_append_right (by rw[length_replicate];omega),length_replicate,show k-l.length-(a-1-l.length)=0 by omega]
   rfl
  ·rw[if_neg J]
   by_cases ag:k<a-1
   ·rw[getElem?_append_left (by rw[length_replicate];omega),List.getElem?_replicate,if_pos (by omega)]
    rfl
   ·rw[getElem?_append_right (by rw[length_replicate];omega),length_replicate,getElem?_eq_none (by simp;omega)]
theorem XX{nd:ae}(b:Int)(l:bV):∀i:Nat,((if nd.1=b/\(i:Int)+1<=nd.2 then l.getD (nd.2.toNat-1-i) [] else [])++qb nd (kN b i l)).Perm l.flatten:=by
 induction l with
 |nil=>
  intro i;show(_++[]).Perm []
  simp
 |cons s r f=>
  intro i;have h:=f (i+1);show(_++((if ((b,(i:Int)+1):ae)=nd then [] else s)++qb nd (kN b (i+1) r))).Perm (s++r.flatten);obtain⟨a,c⟩:=nd
  by_cases ab:a=b
  ·subst ab
   by_cases I:c=(i:Int)+1
   ·subst I
    have d:((a,(i:Int)+1):ae)=(a,(i:Int)+1):=rfl;rw[if_pos d,if_pos ⟨rfl,le_refl _⟩,show((i:Int)+1).toNat-1-i=0 by omega];rw[if_neg (by omega)]at h;exact List.Perm.append_left s h
   ·have d:¬((a,(i:Int)+1):ae)=(a,c):=λe=>I (Prod.mk.inj e).2.symm
    rw[if_neg d]
    by_cases J:(i:Int)+1<=c
    ·rw[if_pos ⟨rfl,J⟩]
     rw[if_pos ⟨rfl,by omega⟩]at h;rw[show c.toNat-1-i=(c.toNat-1-(i+1))+1 by omega,List.getD_cons_succ];rw[<- append_assoc];refine(List.Perm.append_right _ List.perm_append_comm).trans ?_;rw[append_assoc];exact List.Perm.append_left s h
    ·rw[if_neg (by omega)]
     rw[if_neg (by omega)]at h;exact List.Perm.append_left s h
  ·rw[if_neg (λe=>ab e.1)]
   rw[if_neg (λe=>ab e.1)]at h;have d:¬((b,(i:Int)+1):ae)=(a,c):=λe=>ab (Prod.mk.inj e).1.symm
   rw[if_neg d];exact List.Perm.append_left s h
theorem alY{f g:bV}{b:Int}(ab:b=0\/b=1){a:Nat}(I:1<=a):((if b=1 then g else f).getD (a-1) []++qb (b,(a:Int)) (kN 0 0 f++(kN 1 0 g++[]))).Perm (f.flatten++g.flatten):=by
 have aC:=XX (nd:=(b,(a:Int))) 0 f 0;have c:=XX (nd:=(b,(a:Int))) 1 g 0;rw[append_nil,akS]
 rcases ab with rfl|rfl
 ·rw[if_pos ⟨rfl,by omega⟩,show((a:Int)).toNat-1-0=a-1 by omega]at aC
  rw[if_neg (by decide),<- append_assoc];exact aC.append c
 ·rw[if_pos ⟨rfl,by omega⟩,show((a:Int)).toNat-1-0=a-1 by omega]at c
  refine(List.perm_append_comm_assoc _ _ _).trans ?_;exact aC.append c
theorem alZ{α:Type}{x y:Option α}{P:α->Prop}(e:x=y)(h:T y P):T x P:=e ▸ h
theorem IF{N:Nat}(a1:5000<N){f g:bV}(h:jM f g)(ba:(f.flatten++g.flatten).Nodup)(U:f.flatten.length+g.flatten.length<=100000){b:Int}(ab:b=0\/b=1){a:Nat}(I:1<=a)(J:a<=40){s:b7}(c:s.length<=4)(j:∀x∈s,oF x)(l:s.Nodup)(o:∀x∈s,x∈(if b=1 then g else f).getD (a-1) []\/x ∉ f.flatten++g.flatten) :
  T (uz N (f,g) (b,(a:Int)) s) λq=>q.2=0/\jM q.1.1 q.1.2/\(∀k,q.1.1.getD k []=if b=0/\k=a-1 then s else f.getD k [])/\(∀k,q.1.2.getD k []=if b=1/\k=a-1 then s else g.getD k []):=by
 have pY:=alY (f:=f) (g:=g) ab I;have d:=pY.nodup_iff.2 ba;have i:=(List.nodup_append.1 d).2.1;have m:(qb (b,(a:Int)) (kN 0 0 f++(kN 1 0 g++[]))++s).Nodup:=by
  refine List.nodup_append.2 ⟨i,l,λx an y aG e=>?_⟩;subst e
  rcases o x aG with ag|ag
  ·exact(List.nodup_append.1 d).2.2 x ag x an rfl
  ·exact ag (pY.subset (List.mem_append_right _ an))
 have n:=λ{aX:Type} (k:List (ae×Bool)->Option aX)=>Oj a1 (b,(a:Int)) k (kN 0 0 f++(kN 1 0 g++[])) [] (by
  intro x an
  rcases List.mem_append.1 an with an|an
  ·exact Xe h.ft.dW 0 x an
  ·rw[append_nil]at an
   exact Xe h.gv.dW 0 x an) (by exact i)
 have p:=Ov a1 h ab I J c j;unfold uz;rw[AJ a1 h.ft h.gv ba U,bind_some];rw[r3 N ⟨ab,by dsimp only;omega,by dsimp only;omega⟩,bind_some];show T (Option.bind (Nz N s N 0) _) _;rw[akV a1 c j,bind_some];show T (cond (decide (4<(s.length:Int))) _ (Option.bind (As N true (f,g)) _)) _;rw[decide_eq_false (by omega),cond_false,W3 a1 h.ft.len h.gv.len,bind_some];refine alZ (n _) ?_;show T (Option.bind (NA N s N (0,hT (qb (b,(a:Int)) (kN 0 0 f++(kN 1 0 g++[]))))) _) _;rw[akU a1 c _ m,bind_some];simp only[AG];refine p.mono ?_;rintro⟨c8,fc⟩ ⟨c2,ag,ar⟩;exact yo.2 ⟨rfl,c2,ag,ar⟩
structure IG(b:Int)(a c:Nat)(f g f' g':bV):Prop where
 ct:jM f' g'
 r7:∀k,f'.getD k []=if b=1 then(if k=c-1 then g.getD (a-1) []++f.getD k [] else f.getD k [])else(if k=a-1 then [] else f.getD k [])
 gk:∀k,g'.getD k []=if b=1 then(if k=a-1 then [] else g.getD k [])else(if k=c-1 then g.getD k []++f.getD (a-1) [] else g.getD k [])
theorem yA{f f':bV}{a:Nat}(bm:a<40)(x:ae)(h:∀k,k≠a->f'.getD k []=f.getD k []):It x f'+(f.getD a []).count x=It x f+(f'.getD a []).count x:=
 On (λk=>(f'.getD k []).count x) (λk=>(f.getD k []).count x) a 40 bm λk aa=>by show(f'.getD k []).count x=(f.getD k []).count x;rw[h k aa]
theorem IG.perm{b:Int}(ab:b=0\/b=1){a c:Nat}(bm:1<=a/\a<=40)(U:1<=c/\c<=40){f g f' g':bV}(h:IG b a c f g f' g')(j:jM f g):(f'.flatten++g'.flatten).Perm (f.flatten++g.flatten):=by
 rw[perm_iff_count];intro x;rw[count_append,count_append,r4 x j.ft.len,r4 x j.gv.len,r4 x h.ct.ft.len,r4 x h.ct.gv.len];have aC:=h.r7;have d:=h.gk
 rcases ab with rfl|rfl
 ·simp only[show((0:Int)=1)=False by simp,if_false]at aC d
  have e:=yA (f:=f) (f':=f') (a:=a-1) (by omega) x (λk aa=>by rw[aC,if_neg aa]);have i:=yA (f:=g) (f':=g') (a:=c-1) (by omega) x (λk aa=>by rw[d,if_neg aa]);rw[aC,if_pos rfl,List.count_nil]at e;rw[d,if_pos rfl,count_append]at i;omega
 ·simp only[if_true]at aC d
  have e:=yA (f:=f) (f':=f') (a:=c-1) (by omega) x (λk aa=>by rw[aC,if_neg aa]);have i:=yA (f:=g) (f':=g') (a:=a-1) (by omega) x (λk aa=>by rw[d,if_neg aa]);rw[aC,if_pos rfl,count_append]at e;rw[d,if_pos rfl,List.count_nil]at i;omega
theorem al2{N:Nat}(a1:5000<N){f g:bV}(h:jM f g)(ba:(f.flatten++g.flatten).Nodup)(U:f.flatten.length+g.flatten.length<20){b:Int}(ab:b=0\/b=1){a c:Nat}(bm:1<=a/\a<=40)(m:1<=c/\c<=40)(u:(if b=1 then g else f).getD (a-1) []≠[])(v:((if b=1 then g else f).getD (a-1) []).length+((if b=1 then f else g).getD (c-1) []).length<=4) :
  T (Dp N (f,g) (b,(a:Int)) (1-b,(c:Int))) λq=>q.2=0/\IG b a c f g q.1.1 q.1.2:=by
 obtain⟨I,J⟩:=bm;have F:=AJ a1 h.ft h.gv ba (by omega);have o:1-b=0\/1-b=1:=by omega
 have y:=r3 N (nd:=(b,(a:Int))) ⟨ab,by dsimp only;omega,by dsimp only;omega⟩;have z:=r3 N (nd:=(1-b,(c:Int))) ⟨o,by dsimp only;omega,by dsimp only;omega⟩;have w:=wk (N:=N) h ab I J;have n:=wk (N:=N) h o m.1 m.2;have s:(if 1-b=1 then g else f)=(if b=1 then f else g):=by
  rcases ab with rfl|rfl<;>rfl
 rw[s]at n;have p:=D1 (b:=b) (a:=a) h;have l:=D1 (b:=1-b) (a:=c) h;rw[s]at l;have j:(if b=1 then g else f).getD (a-1) []=(if b=1 then g.getD (a-1) [] else f.getD (a-1) []):=by split<;>rfl
 have d:(if b=1 then f else g).getD (c-1) []=(if b=1 then f.getD (c-1) [] else g.getD (c-1) []):=by split<;>rfl
 obtain⟨S,B⟩:∃S,S=(if b=1 then g else f).getD (a-1) []:=⟨_,rfl⟩
 obtain⟨i,G⟩:∃i,i=(if b=1 then f else g).getD (c-1) []:=⟨_,rfl⟩
 rw[<- B]at p u w v j;rw[<- G]at l n v d;have A:¬(S.length:Int)=0:=by
  have:=List.length_pos_iff.2 u
  omega
 have E:¬b=1-b:=by omega
 have t:∀W:b7,W=(if b=1 then S++i else i++S)->T (vO N (f,g) (b,(a:Int)) []) λr=>T (vO N r (1-b,(c:Int)) W) λr=>IG b a c f g r.fst r.snd:=by
  intro W ca;have C:W.length<=4:=by
   rw[ca]
   split<;>rw[length_append]<;>omega
  have D:∀x∈W,oF x:=by
   intro x an;rw[ca]at an
   split at an<;>rcases List.mem_append.1 an with an|an
   ·exact p.2 x an
   ·exact l.2 x an
   ·exact l.2 x an
   ·exact p.2 x an
  refine(Ov a1 h ab I J (by simp) (λx an=>by cases an)).mono ?_;rintro⟨f1,g1⟩ ⟨c2,pH,ee⟩;refine(Ov a1 c2 o m.1 m.2 C D).mono ?_;rintro⟨f2,g2⟩ ⟨Gp,gH,dM⟩;refine⟨Gp,λk=>?_,λk=>?_⟩
  ·dsimp only at gH pH ⊢
   rw[gH,pH]
   rcases ab with rfl|rfl
   ·simp
   ·simp only[if_true]at ca j d
    by_cases aa:k=c-1
    ·subst aa
     simp[ca,j,d]
    ·simp[aa]
  ·dsimp only at dM ee ⊢
   rw[dM,ee]
   rcases ab with rfl|rfl
   ·simp only[show((0:Int)=1)=False by simp,if_false]at ca j d
    by_cases aa:k=c-1
    ·subst aa
     simp[ca,j,d]
    ·simp[aa]
   ·simp
 unfold Dp;simp only[a8,reduceEq,reduceCtorEq,bn F,bn y,bn z,bn w,bn n,E,A,bn (Ir N i (by omega)),bn (Ir N S (by omega))];refine⟨by omega,λh=>by omega,λ_=>⟨by and_intros<;>first|omega|(simp only[dL];omega)|exact this|trivial,λe=>⟨by and_intros<;>first|omega|(simp only[dL];omega)|exact this|trivial,t _ (by rw[if_pos e])⟩,λe=>t _ (by rw[if_neg e])⟩⟩
theorem al5{N:Nat}(a1:5000<N){f g:bV}(aC:hD f)(c:hD g)(ba:(f.flatten++g.flatten).Nodup){r:Int}(h:-4<=r/\r<=4)(U:f.flatten.length+g.flatten.length<20)(d:mG (gF f g r)){ys:dd}{y:Nat}(aG:y<6){Y:bq}(bE:ys[y]?=some Y)(b:iR Y)(cQ:Y.1=true){place e:Int}(ak:tmod place 2≠0/\-13<=place/\place<=179){P:eg}{a:Nat}(ab:p8 N (gF f g r) Y.2.1 e=some (P,a))(pY:∀p∈P,r2 p)(j:P.length+Y.2.2.2.2.length<=4096)(dq:List (Bool×dv))(dX)(fl:b7) :
  pk N ((y:Int)+1) place e r f g dq dX ys fl=some (0,r,f,g,ys.set y (true,place,Y.2.2.1,Y.2.2.2.1,e0 Y.2.2.2.2 P)):=by
 have k:=(List.getElem?_eq_some_iff.1 bE).1;have ah:=Om a1 aC c ba h U d;have i:=DY b cQ a1 ak pY j;unfold pk
 apply T.eq
 simp only[s7 aG,a8,bn ah,ck bE,bn ab,bn i]
 and_intros<;>first|omega|(simp only[dL];omega)|exact this|trivial
theorem X0{N:Nat}{ys:dd}{y:Nat}(aG:y<6){Y:bq}(bE:ys[y]?=some Y)(cQ:Y.1=true){nd:ae}(d:(nd.1=0\/nd.1=1)/\1<=nd.2/\nd.2<=40){r:Int}(c:-4<=r/\r<=4)(e:e6 nd.1 nd.2 r<=Y.2.1)(k:Int)(f g:bV)(dq:List (Bool×dv))(dX)(fl:b7) :
  rZ N (k,(0,(nd,((y:Int)+1,0)))) r f g dq dX ys fl=some (e6 nd.1 nd.2 r-1,e6 nd.1 nd.2 r,0,r,f,g):=by
 have h:=(List.getElem?_eq_some_iff.1 bE).1;have a:=AL N d c;have ab:-1000<=e6 nd.1 nd.2 r/\e6 nd.1 nd.2 r<=1000:=by
  unfold e6
  split<;>omega
 obtain⟨S,b⟩:∃S,S=e6 nd.1 nd.2 r:=⟨_,rfl⟩
 rw[<- b]at a ab e ⊢;unfold rZ
 apply T.eq
 simp only[s7 aG,a8,reduceEq,reduceCtorEq,ck bE,bn a,cQ,show ¬Y.2.1<S by omega]
 and_intros<;>first|omega|(simp only[dL];omega)|exact this|trivial
theorem OO.qd(f:bV):mG (gF f [] 0):=by rw[XT];exact akZ _ _ _ _
theorem al6{a:Nat}(I:1<=a)(J:a<=40):(tmod (4 * (a:Int)+2+1) 2≠0/\-13<=4 * (a:Int)+2+1/\4 * (a:Int)+2+1<=179)/\(tmod (4 * (a:Int)+2-1) 2≠0/\-13<=4 * (a:Int)+2-1/\4 * (a:Int)+2-1<=179):=by
 refine⟨⟨?_,by omega,by omega⟩,?_,by omega,by omega⟩<;>rw[Int.tmod_eq_emod_of_nonneg (by omega)]<;>omega
abbrev iA:=Int×bV×bV×List (Bool×dv)×List (e9×Int)×dd×b7
def ey(N:Nat)(cR:List (Int×Option Nat)):c9->iA->(iA->Prop)->Prop
 |[],s,Q=>Q s
 |o::l,s,Q=>T (mE N o s.1 s.2.1 s.2.2.1 s.2.2.2.1 s.2.2.2.2.1 s.2.2.2.2.2.1 s.2.2.2.2.2.2 cR) λq=>q.1=0/\ey N cR l q.2 Q
theorem ey.mono{N:Nat}{cR:List (Int×Option Nat)}{Q rj:iA->Prop}(b:∀s,Q s->rj s):∀ {l:c9} {s:iA},ey N cR l s Q->ey N cR l s rj
 |[],s,h=>b s h
 |o::l,s,h=>T.mono h λq a=>⟨a.1,a.2.mono b⟩
theorem ey.append{N:Nat}{cR:List (Int×Option Nat)}{Q rj:iA->Prop}{b:c9}(c:∀s,Q s->ey N cR b s rj):∀ {l:c9} {s:iA},ey N cR l s Q->ey N cR (l++b) s rj
 |[],s,h=>c s h
 |o::l,s,h=>T.mono h λq a=>⟨a.1,a.2.append c⟩
theorem ey.one{N:Nat}{cR:List (Int×Option Nat)}{Q:iA->Prop}{o:bH}{s a:iA}(h:mE N o s.1 s.2.1 s.2.2.1 s.2.2.2.1 s.2.2.2.2.1 s.2.2.2.2.2.1 s.2.2.2.2.2.2 cR=some (0,a))(b:Q a):ey N cR [o] s Q:=
 T.of h ⟨rfl,b⟩
theorem X1{N:Nat}{cR:List (Int×Option Nat)}{Q:iA->Prop}{l:c9}(a1:l.length<N)(ah:l.length<=100000){s:iA}(h:ey N cR l s Q) :
  T (V0 N l N (0,s.1,s.2.1,s.2.2.1,cR,s.2.2.2.2.2.2,s.2.2.2.2.1,s.2.2.2.1,s.2.2.2.2.2.1)) λq=>∃a:iA,q=.inl (a.1,a.2.1,a.2.2.1,a.2.2.2.2.2.2,a.2.2.2.2.1,a.2.2.2.1,a.2.2.2.2.2.1)/\Q a:=by
 refine nk (λk d=>∃(j:Nat) (s:iA),j+k=l.length/\d=((j:Int),s.1,s.2.1,s.2.2.1,cR,s.2.2.2.2.2.2,s.2.2.2.2.1,s.2.2.2.1,s.2.2.2.2.2.1)/\ey N cR (l.drop j) s Q) _ ?_ N l.length _ a1 ⟨0,s,by omega,rfl,h⟩;rintro k d rec ⟨j,s,m,rfl,b⟩ g
 by_cases i:j<l.length
 ·obtain⟨o,f⟩:∃o,l[j]?=some o:=⟨_,getElem?_eq_getElem i⟩
  have c:(j:Int)<(l.length:Int):=by omega
  rw[wi f]at b;simp only[a8,reduceCtorEq,c,ck f];refine⟨by omega,T.mono b ?_⟩;rintro⟨e,q⟩ ⟨aO,gT⟩;subst aO;have this:=g (k-1) ((j:Int)+1,q.1,q.2.1,q.2.2.1,cR,q.2.2.2.2.2.2,q.2.2.2.2.1,q.2.2.2.1,q.2.2.2.2.2.1) (by omega) ⟨j+1,q,by omega,rfl,gT⟩;simp only[a8];exact⟨by omega,this⟩
 ·have c:¬(j:Int)<(l.length:Int):=by omega
  rw[List.drop_eq_nil_of_le (by omega)]at b;simp only[a8,reduceCtorEq,c];exact⟨s,rfl,b⟩
def cM(f:bV)(k:Int):b7:=if 1<=k/\k<=40 then f.getD (k-1).toNat [] else []
theorem al7(N:Nat)(l:b7)(h:l.length<=100000):HD N l=some l:=by
 unfold HD
 apply T.eq
 simp only[a8,length_replicate];omega
theorem al8{N:Nat}{f g:bV}(h:jM f g){k:Int}(aa:-100<=k/\k<=100):Dk N (f,g) ((0:Int),k)=some (cM f k):=by
 unfold Dk cM
 by_cases a:1<=k/\k<=40
 ·rw[if_pos a]
  have b:=r3 N (nd:=(0,k)) ⟨inl rfl,a.1,a.2⟩
  apply T.eq
  by_cases d:(f.length:Int)<k
  ·have e:f.getD (k-1).toNat []=[]:=by
    rw[getD_eq_getElem?_getD,getElem?_eq_none (by omega)]
    rfl
   rw[e];simp only[a8,reduceEq,reduceCtorEq,bn b,d]
  ·obtain⟨s,c⟩:∃s,f[(k-1).toNat]?=some s:=⟨_,getElem?_eq_getElem (by omega)⟩
   have i:=h.ft.dW s (mem_of_getElem? c);simp only[a8,reduceEq,reduceCtorEq,bn b,d,ck c,bn (al7 N s (by omega))];omega
 ·rw[if_neg a]
  have b:mD N (0,k)=some 1:=by
   unfold mD
   apply T.eq
   by_cases I:k<1
   ·simp only[a8,reduceEq,reduceCtorEq,I]
   ·have J:40<k:=by omega
    simp only[a8,reduceEq,reduceCtorEq,I,J]
  apply T.eq
  simp only[a8,reduceEq,reduceCtorEq,bn b]
theorem al9{N:Nat}(a1:0<N):Ap N []=some []:=by
 obtain⟨n,rfl⟩:∃n,N=n+1:=⟨N-1,by omega⟩
 rfl
theorem ama{N:Nat}(a1:5000<N)(l:b7)(h:l.length<=100):T (Ap N l) λ_=>True:=by
 have dH:Va N N (0,((l.length:Int)-1),l)=some l.reverse:=Xi aS.zero l (by omega) (by omega);unfold Ap;simp only[a8,bn dH];omega
theorem X2{N:Nat}(a1:5000<N){f g:bV}(h:jM f g)(ba:(f.flatten++g.flatten).Nodup)(U:f.flatten.length+g.flatten.length<20){r d:Int}(c:-4<=r/\r<=4)(az:(d=0/\-3<=r)\/(d=1/\r<=3)):Dj N (f,g) r d=some 0:=by
 have j:=AJ a1 h.ft h.gv ba (by omega);have aa:∀x:Int, -4<=x/\x<=4->uw N x=some true:=λx an=>by
  unfold uw;rw[decide_eq_true an.1,cond_true,decide_eq_true an.2]
 have i:=aa r c;have b:ux N (f,g) r=some 0:=by
  unfold ux
  apply T.eq
  simp only[a8,reduceEq,reduceCtorEq,bn j,bn i]
 unfold Dj
 apply T.eq
 rcases az with⟨rfl,ag⟩|⟨rfl,ag⟩
 ·have e:lr.getD (0:Int).toNat 0=-1:=rfl
  have a:=aa (r+-1) (by omega);simp only[a8,reduceEq,reduceLE,reduceCtorEq,bn b,e,bn a];refine⟨⟨by decide,by decide⟩,by omega,by omega⟩
 ·have e:lr.getD (1:Int).toNat 0=1:=rfl
  have a:=aa (r+1) (by omega);simp only[a8,reduceEq,reduceLE,reduceCtorEq,bn b,e,bn a];refine⟨⟨by decide,by decide⟩,by omega,by omega⟩
theorem amb{N:Nat}(a1:5000<N){f g:bV}(h:jM f g)(ba:(f.flatten++g.flatten).Nodup)(U:f.flatten.length+g.flatten.length<20){r d:Int}(H:-4<=r/\r<=4)(az:(d=0/\-3<=r)\/(d=1/\r<=3))(I:∀i:Nat,i<g.length->g.getD i []≠[]->cM f ((i:Int)+1+(if d=0 then r-1 else r))=[]):HE N (f,g) r d=some ([],0,0):=by
 have L:=h.gv.len;have v:VF N (f,g) r d N (0,[])=some []:=by
  refine fp (λk l=>∃i:Nat,i+k=g.length/\l=((i:Int),[])) _ ?_ N g.length _ (by omega) ⟨0,by omega,rfl⟩;rintro k l rec ⟨i,hi,rfl⟩ p
  apply T.eq
  by_cases c:i<g.length
  ·obtain⟨s,y⟩:∃s,g[i]?=some s:=⟨_,getElem?_eq_getElem c⟩
   have a:(i:Int)<(g.length:Int):=by omega
   have o:=ck (z:=[]) y;have M:=h.gv.dW s (mem_of_getElem? y);obtain⟨k',m⟩:∃k',k'=(i:Int)+1+(if d=0 then r-1 else r):=⟨_,rfl⟩
   have G:-100<=k'/\k'<=100:=by
    rw[m]
    split<;>omega
   have J:=al8 (N:=N) h G;have q:=I i c;rw[o,<- m]at q;have P:(cM f k').length<=4:=by
    unfold cM
    split
    ·rw[getD_eq_getElem?_getD]
     cases ao:f[(k'-1).toNat]? with
     |none=>exact zero_le _
     |some z=>exact h.ft.dW z (mem_of_getElem? ao)
    ·exact zero_le _
   have w:∀b,(s=[]\/b=[])->Ny N (f,g) d (i:Int) b N (0,[])=some []:=by
    intro b F;refine fp (λk l=>∃j:Nat,j+k=s.length/\l=((j:Int),[])) _ ?_ N s.length _ (by omega) ⟨0,by omega,rfl⟩;rintro k l rec ⟨j,O,rfl⟩ p
    apply T.eq
    by_cases c:j<s.length
    ·have K:b=[]:=F.resolve_left (λe=>by rw[e]at c;exact absurd c (not_lt_zero _))
     subst K;have D:VE N (f,g) d (i:Int) [] (j:Int) N (0,[])=some []:=by
      obtain⟨n,rfl⟩:∃n,N=n+1:=⟨N-1,by omega⟩
      rfl
     have a:(j:Int)<(s.length:Int):=by omega
     have this:T (rec ((j:Int)+1,[])) (·=[]):=⟨_,p (k-1) _ (by omega) ⟨j+1,by omega,rfl⟩,rfl⟩
     simp only[a8,reduceCtorEq,o,a,bn D]
     and_intros<;>first|omega|exact this
    ·have a:¬(j:Int)<(s.length:Int):=by omega
     simp only[a8,reduceCtorEq,o,a]
   have this:T (rec ((i:Int)+1,[])) (·=[]):=⟨_,p (k-1) _ (by omega) ⟨i+1,by omega,rfl⟩,rfl⟩
   have t:∀u,u=k'->T (Dk N (f,g) (0,u)) λr=>T (Ap N r) λr=>T (Ny N (f,g) d (i:Int) r N (0,[])) λr=>(-9223372036854775808<=(i:Int)+1/\(i:Int)+1<=9223372036854775807)/\T (rec ((i:Int)+1,r)) (·=[]):=by
    rintro _ rfl;rw[bn J]
    by_cases B:s=[]
    ·refine(ama a1 _ (by omega)).mono λb _=>?_
     rw[bn (w b (inl B))];exact⟨by omega,this⟩
    ·rw[q B,bn (al9 (by omega)),bn (w [] (inr rfl))]
     exact⟨by omega,this⟩
   rcases az with⟨rfl,ag⟩|⟨rfl,ag⟩
   ·rw[if_pos rfl]at m
    simp only[a8,reduceCtorEq,a];refine⟨by omega,by and_intros<;>first|omega|(simp only[dL];omega)|exact this|trivial,by and_intros<;>first|omega|(simp only[dL];omega)|exact this|trivial,?_⟩;exact t _ (by omega)
   ·rw[if_neg (by decide)]at m
    simp only[a8,reduceEq,reduceCtorEq,a];refine⟨by omega,by and_intros<;>first|omega|(simp only[dL];omega)|exact this|trivial,?_⟩;exact t _ (by omega)
  ·have a:¬(i:Int)<(g.length:Int):=by omega
   simp only[a8,reduceCtorEq,a]
 have A:=X2 a1 h ba U H az;have E:Nw N ([]:ed)=some []:=by
  obtain⟨n,rfl⟩:∃n,N=n+1:=⟨N-1,by omega⟩
  rfl
 have C:Nx N ([]:ed)=some ([],0):=rfl;unfold HE
 apply T.eq
 rcases az with⟨rfl,ag⟩|⟨rfl,ag⟩
 ·simp only[a8,reduceEq,reduceCtorEq,bn A,bn v,bn C]
 ·simp only[a8,reduceCtorEq,bn A,bn v,bn E,bn C]
def amd(f g:bV)(q r:Int):Prop:=∀i:Nat,i<g.length->g.getD i []≠[]->∀x:Int,(q<=x/\x<r)\/(r<=x/\x<q)->cM f ((i:Int)+1+x)=[]
theorem OR(N:Nat){r:Int}(d:-4<=r/\r<=4):l8 N (3,(0,((0,0),(0,r))))=some 0:=by
 obtain⟨a,c,b⟩:∃a,uv N=some a/\de (.int .u8) eV a 3=some (false,(false,(false,true))):=⟨_,rfl,rfl⟩
 have ab:aV.beq aS (0,0) (0,0)=true:=rfl;have ak:oD N (3,(0,((0,0),(0,r))))=some true:=by
  unfold oD
  apply T.eq
  simp only[a8,reduceEq,reduceLT,reduceCtorEq,bn c,b,ab,isSome_some,getD_some]
 unfold l8
 apply T.eq
 simp only[a8,reduceEq,reduceCtorEq,bn ak,show ¬r < -4 by omega,show ¬4<r by omega]
theorem OS{N:Nat}{op:bH}(h:l8 N op=some 0)(aa:op.1=3)(r:Int)(f g:bV)(dq:List (Bool×dv))(dX)(ys:dd)(fl:b7){A}(ad:il N=some A) :
  mE N op r f g dq dX ys fl A=vU N op r f g dq dX ys fl:=by
 obtain⟨k,op⟩:=op;subst aa;cases ad;unfold mE;rw[h];cases vU N (3,op) r f g dq dX ys fl<;>rfl
theorem ame(N:Nat){b:Int}(ab:b=0\/b=1){a c r:Int}(bm:1<=a/\a<=40)(U:1<=c/\c<=40)(f:-4<=r/\r<=4)(he:c=if b=1 then a+r else a-r):Df N (b,a) r=some ((1-b,c),0):=by
 have d:=r3 N (nd:=(b,a)) ⟨ab,bm.1,bm.2⟩;have aa:x4 N r=some true:=by
  unfold x4;rw[decide_eq_true f.1,cond_true,decide_eq_true f.2]
 have e:∀c':Int,c'=0\/c'=1->mD N (c',c)=some 0:=λc' g=>r3 N ⟨g,U.1,U.2⟩
 unfold Df
 apply T.eq
 rcases ab with rfl|rfl
 ·rw[if_neg (by decide)]at he
  simp only[a8,reduceEq,reduceCtorEq,bn d,bn aa,<- he,bn (e 1 (inr rfl))]
  and_intros<;>first|omega|(simp only[dL];omega)|exact this|trivial
 ·rw[if_pos rfl]at he
  simp only[a8,reduceCtorEq,bn d,bn aa,<- he,bn (e 0 (inl rfl))]
  and_intros<;>first|omega|(simp only[dL];omega)|exact this|trivial
theorem jF{f:bV}{a:Nat}(I:1<=a)(J:a<=40):cM f (a:Int)=f.getD (a-1) []:=by
 unfold cM;rw[if_pos (by omega),show((a:Int)-1).toNat=a-1 by omega]
theorem amf{f g:bV}(aC:f.length<=40)(a:g.length<=40)(h:∀k:Int,cM f k=cM g k)(k:Nat):f.getD k []=g.getD k []:=by
 by_cases aa:k<40
 ·have:=h ((k+1:Nat):Int)
  rw[jF (by omega) (by omega),jF (by omega) (by omega)]at this;exact this
 ·rw[getD_eq_getElem?_getD,getD_eq_getElem?_getD,getElem?_eq_none (by omega),getElem?_eq_none (by omega)]
theorem OT(k:Int):cM [] k=[]:=by
 unfold cM
 split<;>simp
structure mI(f g:bV):Prop where
 ct:jM f g
 j4:(f.flatten++g.flatten).Nodup
 dW:f.flatten.length+g.flatten.length<20
def fI(t:cj)(ys:dd)(r:Int)(f g:bV):iA:=(r,f,g,own t,[],ys,[])
def pw(b:Int)(a:Int):bH:=(7,(0,((b,a),(0,0))))
def tb(r:Int):bH:=(3,(0,((0,0),(0,r))))
def yD(A:bZ)(q r b:Int):c9:=(if q=r then [] else [tb r])++A.map (pw 0)++(if r=r+b then [] else [tb (r+b)])++(A.map λa=>a-r).map (pw 1)
theorem OU{N:Nat}(r q:Int){ops:c9}(h:ops.length<=100000):x2 N r q ops=some (r,ops++(if q=r then [] else [tb r])):=by
 have ak:x1 N [(3,(0,((0,0),(0,r))))] q ops=some (q,ops++[tb r]):=by
  unfold x1
  apply T.eq
  simp only[a8,length_singleton]
  and_intros<;>first|omega|exact this|trivial
 unfold x2
 apply T.eq
 by_cases e:q=r
 ·subst e
  simp only[a8,reduceCtorEq,if_true,append_nil]
 ·simp only[a8,reduceCtorEq,e,bn ak,if_false]
theorem X4{N:Nat}(a1:5000<N)(b c q:Int)(m:-100<=c/\c<=100){ops:c9}(h:ops.length<=50000){A:bZ}(ad:A.length<=100)(f:∀a∈A,0<=a/\a<=1000):C8 N b c q ops A=some (q,ops++(A.map λa=>a-c).map (pw b)):=by
 have dH:Vl N b c A N (0,q,ops)=some (q,ops++(A.map λa=>a-c).map (pw b)):=by
  refine fp (λk d=>∃i:Nat,i+k=A.length/\d=((i:Int),q,ops++((A.take i).map λa=>a-c).map (pw b))) _ ?_ N A.length _ (by omega) ⟨0,by omega,by simp⟩;rintro k d rec ⟨i,hi,rfl⟩ g
  apply T.eq
  by_cases j:i<A.length
  ·obtain⟨x,an⟩:∃x,A[i]?=some x:=⟨_,getElem?_eq_getElem j⟩
   have e:(i:Int)<(A.length:Int):=by omega
   have l:=f x (mem_of_getElem? an);have ak:x1 N [(7,(0,((b,x-c),(0,0))))] q (ops++((A.take i).map λa=>a-c).map (pw b))=some (q,ops++((A.take (i+1)).map λa=>a-c).map (pw b)):=by
    rw[q1 an,map_append,map_append,<- append_assoc];unfold x1
    apply T.eq
    simp only[a8,length_singleton,length_append,length_map,length_take]
    and_intros<;>first|omega|exact this|trivial
   have this:T (rec ((i:Int)+1,q,ops++((A.take (i+1)).map λa=>a-c).map (pw b))) (·=(q,ops++(A.map λa=>a-c).map (pw b))):=⟨_,g (k-1) _ (by omega) ⟨i+1,by omega,rfl⟩,rfl⟩
   simp only[a8,reduceCtorEq,e,ck an,bn ak]
   and_intros<;>first|omega|exact this
  ·have e:¬(i:Int)<(A.length:Int):=by omega
   rw[take_of_length_le (by omega)];simp only[a8,reduceCtorEq,e]
 unfold C8
 apply T.eq
 simp only[a8,bn dH]
def jf(d:Int):Int:=gn (-8) (if d<8 then d else 8)
theorem amg(d:Int):(0<d->0<jf d/\jf d<=d/\(jf d=d\/jf d=8)/\jf d<=8)/\(d<0->jf d<0/\d<=jf d/\(jf d=d\/jf d=-8)/\-8<=jf d):=by
 unfold jf gn
 split<;>split<;>omega
def wq(b first last q:Int):Int:=gn (gn (gn (-4) (-4-b)) (last-40)) (jr (jr (jr 4 (4-b)) (first-1)) q)
theorem amh{b first last q:Int}(ab:-8<=b/\b<=8)(aC:1<=first/\1<=first+b)(ah:last<=40/\last+b<=40)(e:first<=last):(-4<=wq b first last q/\wq b first last q<=4)/\(-4<=wq b first last q+b/\wq b first last q+b<=4)/\1<=first-wq b first last q/\last-wq b first last q<=40:=by
 have an:∀x y:Int,(gn x y=x/\y<=x)\/(gn x y=y/\x<=y):=λx y=>by
  unfold gn
  split<;>omega
 have ba:∀x y:Int,(jr x y=x/\x<=y)\/(jr x y=y/\y<=x):=λx y=>by
  unfold jr
  split<;>omega
 unfold wq;have I:=an (-4) (-4-b);have J:=an (gn (-4) (-4-b)) (last-40);have ag:=ba 4 (4-b);have d:=ba (jr 4 (4-b)) (first-1);have c:=ba (jr (jr 4 (4-b)) (first-1)) q;have a:=an (gn (gn (-4) (-4-b)) (last-40)) (jr (jr (jr 4 (4-b)) (first-1)) q);omega
theorem ami{N:Nat}(a1:5000<N){d q:Int}{A:bZ}(ad:A.length<=100)(g:∀a∈A,0<=a/\a<=1000):Vm N d A N ((0:Int),A,q)=some (A.map λa=>a+jf d,q):=by
 have ab:-8<=jf d/\jf d<=8:=by
  unfold jf gn
  split<;>split<;>omega
 refine fp (λk s=>∃i:Nat,i+k=A.length/\s=((i:Int),(A.take i).map (λa=>a+jf d)++A.drop i,q)) _ ?_ N A.length _ (by omega) ⟨0,by omega,by simp⟩;rintro k s rec ⟨i,hi,rfl⟩ h
 apply T.eq
 by_cases j:i<A.length
 ·obtain⟨x,an⟩:∃x,A[i]?=some x:=⟨_,getElem?_eq_getElem j⟩
  have c:(i:Int)<(A.length:Int):=by omega
  have n:=g x (mem_of_getElem? an);have b:((A.take i).map (λa=>a+jf d)).length=i:=by rw[length_map,length_take];omega
  have m:((A.take i).map (λa=>a+jf d)++A.drop i).length=A.length:=by rw[length_append,b,List.length_drop];omega
  have f:((A.take i).map (λa=>a+jf d)++A.drop i).getD i 0=x:=ck (by rw[getElem?_append_right (by omega),b,sub_self,wi an];rfl);have l:((A.take i).map (λa=>a+jf d)++A.drop i).set i (x+jf d)=(A.take (i+1)).map (λa=>a+jf d)++A.drop (i+1):=by
   rw[set_append_right _ _ (by omega),b,sub_self,wi an,q1 an,map_append,append_assoc]
   rfl
  have this:T (rec ((i:Int)+1,(A.take (i+1)).map (λa=>a+jf d)++A.drop (i+1),q)) (·=(A.map (λa=>a+jf d),q)):=⟨_,h (k-1) _ (by omega) ⟨i+1,by omega,rfl⟩,rfl⟩
  have e:gn (-8:Int) (if d<(8:Int)then d else(8:Int))=jf d:=rfl;simp only[a8,reduceCtorEq,e,c,m,f,l]
  and_intros<;>first|omega|exact this
 ·have c:¬(i:Int)<(A.length:Int):=by omega
  have he:(A.take i).map (λa=>a+jf d)++A.drop i=A.map (λa=>a+jf d):=by
   rw[take_of_length_le (by omega),List.drop_eq_nil_of_le (by omega),append_nil]
  simp only[a8,reduceCtorEq,c,he]
theorem ey.ex{N:Nat}{cR:List (Int×Option Nat)}{Q:iA->Prop}:∀ {l:c9} {s:iA},ey N cR l s Q->∃a,Q a
 |[],s,h=>⟨s,h⟩
 |o::l,s,h=>by
  obtain⟨q,_,_,J⟩:=h;exact J.ex
theorem apr{N:Nat}(a1:5000<N){a b:bZ}(n:a.length<=8)(ah:b.length=a.length){i:Nat}(hi:i<a.length):T (ur N (i:Int) a b) λr=>∃e:Nat,r=(e:Int)/\i<e/\e<=a.length/\∀m,i<=m->m<e->b.getD m 0=b.getD i 0:=by
 have dH:T (Hq N (i:Int) a b N ((i:Int)+1)) λr=>∃e:Nat,r=(e:Int)/\i<e/\e<=a.length/\∀m,i<=m->m<e->b.getD m 0=b.getD i 0:=by
  refine nk (λk d=>∃e:Nat,e+k=a.length/\d=(e:Int)/\i<e/\∀m,i<=m->m<e->b.getD m 0=b.getD i 0) _ ?_ N (a.length-(i+1)) _ (by omega) ⟨i+1,by omega,by omega,by omega,λm I J=>by rw[show m=i by omega]⟩;rintro k d rec ⟨e,he,rfl,g,f⟩ j
  by_cases l:e<a.length
  ·have c:(e:Int)<(a.length:Int):=by omega
   by_cases heq:b.getD e 0=b.getD i 0
   ·have this:=j (k-1) ((e:Int)+1) (by omega) ⟨e+1,by omega,by omega,by omega,λm I J=>by
     by_cases h:m=e
     ·rw[h,heq]
     ·exact f m I (by omega)⟩
    simp only[a8,reduceCtorEq,c,heq]
    and_intros<;>first|omega|exact this
   ·simp only[a8,reduceCtorEq,c,heq]
    refine⟨by omega,e,rfl,g,by omega,f⟩
  ·have c:¬(e:Int)<(a.length:Int):=by omega
   simp only[a8,reduceCtorEq,c];exact⟨e,rfl,g,by omega,f⟩
 unfold ur;simp only[a8];exact⟨by omega,dH⟩
def D7(l:bZ):Nat->List (Int×Int×Unit)
 |0=>[]
 |j+1=>((j:Int),l.getD j 0,())::D7 l j
theorem amj{N:Nat}(a1:5000<N)(l:bZ)(ah:l.length<=300):C9 N true l=some (D7 l l.length):=by
 have dH:Vo N true l N ((l.length:Int)-1)=some (D7 l l.length):=by
  refine Oe (λk d r=>k<=l.length/\d=(k:Int)-1/\r=D7 l k) ?_ N l.length _ _ (by omega) ⟨Nat.le_refl _,rfl,rfl⟩;rintro k d r rec ⟨aa,rfl,rfl⟩ e
  apply T.eq
  cases k with
  |zero=>
   have a:¬0<=((0:Nat):Int)-1:=by omega
   simp only[a8,reduceCtorEq,a]
   rfl
  |succ k=>
   have a:0<=((k+1:Nat):Int)-1:=by omega
   have f:((k+1:Nat):Int)-1=(k:Int):=by omega
   have c:=e k ((k:Int)-1) _ (by omega) ⟨by omega,rfl,rfl⟩;rw[f];have b:0<=(k:Int):=by omega
   simp only[a8,reduceCtorEq,b,W1,bn c];refine⟨by omega,by and_intros<;>first|omega|(simp only[dL];omega)|exact this|trivial,rfl⟩
 unfold C9
 apply T.eq
 simp only[a8,bn dH];omega
theorem OX(N:Nat)(l:c9):x0 N l=some (l,l.length):=by
 unfold x0
 apply T.eq
 simp only[a8,List.take_length]
 and_intros<;>first|omega|(simp only[dL];omega)|exact this|trivial
theorem X6{N:Nat}(a1:5000<N){f:bV}(h:mI f []):pj N (f,[]) 0=some f.flatten:=by
 have a:=ak7 a1 h.ct.ft wo h.j4 (r:=0) ⟨by decide,by decide⟩ h.dW (OO.qd f);rw[a];show some (f.flatten++[])=_;rw[append_nil]
theorem X7{t:cj}{H H':b7}(h:s5 t H){y:Nat}(aG:y<t.length){l:bA}(ak:(H'++l.2.2.1).Perm (H++[((y:Int)+1,((t.getD y []).length:Int))])):s5 (gz t y l) H':=by
 intro c;have I:=h c;have ag:=akz aG l c;have ba:=yr aG l;have U:=ak.count_eq c;rw[count_append,count_append,List.count_singleton]at U;rw[count_append]at I;rw[count_append,ag];have b:(if (((y:Int)+1,((t.getD y []).length:Int))==c)=true then 1 else 0)=if ((y:Int)+1,((t.getD y []).length:Int))=c then 1 else 0:=by simp
 rw[b]at U
 by_cases e:((y:Int)+1,((t.getD y []).length:Int))=c
 ·rw[if_pos e]at U
  rw[e]at ba;rw[if_neg ba]at I;rw[if_pos ((DX aG l).2 (inl e.symm))];omega
 ·rw[if_neg e]at U
  by_cases a:gy t c
  ·rw[if_pos a]at I
   rw[if_pos (a.put aG l)];omega
  ·rw[if_neg a]at I
   rw[if_neg (λd=>((DX aG l).1 d).elim (λh=>e h.symm) a)];omega
theorem wj.put{t:cj}(h:wj t){y:Nat}(aG:y<t.length){l:bA}(b:(t.getD y []).length<4096)(I:l.2.2.1.length<=100000)(J:l.2.2.2.length<=100000):wj (gz t y l):=by
 have a:t.getD y []∈t:=by rw[getD_eq_getElem?_getD,getElem?_eq_getElem aG];exact List.getElem_mem aG
 refine⟨by rw[DW];exact h.dW,λx an=>?_,λx an=>?_,λx an=>?_⟩<;>unfold gz at an<;>rcases List.mem_or_eq_of_mem_set an with an|rfl
 ·exact h.row x an
 ·rw[length_append];show(t.getD y []).length+1<=4096;omega
 ·exact h.thr x an
 ·intro k aa
  rcases List.mem_append.1 aa with aa|aa
  ·exact h.thr _ a k aa
  ·rw[List.mem_singleton]at aa
   rw[aa];exact I
 ·exact h.q0 x an
 ·intro k aa
  rcases List.mem_append.1 aa with aa|aa
  ·exact h.q0 _ a k aa
  ·rw[List.mem_singleton]at aa
   rw[aa];exact J
structure hV(f:bV)(ys:dd)(t:cj):Prop where
 ct:jM f []
 j4:f.flatten.Nodup
 once:s5 t f.flatten
 dW:f.flatten.length<=16
 ma:ys.length=6
 js:∀Y∈ys,iR Y
 tok:∃aX,nn t aX
 all:dz t<=100
 dq:wj t
 jD:∀(i:Nat) (Y:bq),ys[i]?=some Y->Y.2.2.1=((t.getD i []).length:Int)
 q4:∀Y∈ys,∀p∈Y.2.2.2.2,gy t p.1
 mb:∀Y∈ys,Y.1=true->Y.2.2.1=0->Y.2.2.2.1=true
theorem hV.sv{f:bV}{ys:dd}{t:cj}(h:hV f ys t):mI f []:=by
 have a:=h.dW;refine⟨h.ct,?_,?_⟩
 ·show(f.flatten++[]).Nodup
  rw[append_nil];exact h.j4
 ·show f.flatten.length+0<20
  omega
theorem hV.ms{N:Nat}(a1:5000<N){f:bV}{ys:dd}{t:cj}(h:hV f ys t):OG N f [] ys t f.flatten:=by
 have b:=h.dW;have a:=h.all;exact⟨h.ct,h.sv.j4,h.sv.dW,h.ma,h.js,h.tok,by omega,h.dq,h.once,X6 a1 h.sv,by omega,h.jD⟩
theorem hV.len{f:bV}{ys:dd}{t:cj}(h:hV f ys t):t.length=6:=by
 obtain⟨aX,a⟩:=h.tok;exact a.len
theorem hV.has{f:bV}{ys:dd}{t:cj}(h:hV f ys t){a:ae}(bm:a∈f.flatten):gy t a:=by
 have I:=h.once a;have J:=List.count_pos_iff.2 bm;rw[count_append]at I
 by_cases b:gy t a
 ·exact b
 ·rw[if_neg b]at I
  omega
theorem lH{ys:dd}{y:Nat}{Y Z:bq}(h:Z∈ys.set y Y):Z∈ys\/Z=Y:=List.mem_or_eq_of_mem_set h
theorem hV.go{f:bV}{ys:dd}{t:cj}(h:hV f ys t){y:Nat}{Y:bq}(bE:ys[y]?=some Y){Z:bq}(a:iR Z)(U:Z.2.2.1=Y.2.2.1)(ak:∀p∈Z.2.2.2.2,gy t p.1)(hw:Z.1=true->Z.2.2.1=0->Z.2.2.2.1=true):hV f (ys.set y Z) t:=by
 refine⟨h.ct,h.j4,h.once,h.dW,by rw[length_set];exact h.ma,λW ca=>?_,h.tok,h.all,h.dq,λi W ca=>?_,λW ca=>?_,λW ca=>?_⟩
 ·rcases lH ca with ca|rfl
  ·exact h.js W ca
  ·exact a
 ·rw[getElem?_set]at ca
  split at ca
  ·rename_i e
   subst e
   split at ca
   ·cases ca
    rw[U];exact h.jD y Y bE
   ·cases ca
  ·exact h.jD i W ca
 ·rcases lH ca with ca|rfl
  ·exact h.q4 W ca
  ·exact ak
 ·rcases lH ca with ca|rfl
  ·exact h.mb W ca
  ·exact hw
theorem hV.put{f f':bV}{ys:dd}{t:cj}(h:hV f ys t){y:Nat}(aG:y<6){Y:bq}(bE:ys[y]?=some Y)(cQ:Y.1=true)(v:dz t<100){thr:b7}(l:∀b∈thr,b∈f.flatten)(n:thr.length<=4)(ab:jM f' [])(s:f'.flatten.length<=16)(ak:(f'.flatten++thr).Perm (f.flatten++[((y:Int)+1,Y.2.2.1)])) :
  hV f' (ys.set y (true,Y.2.1,Y.2.2.1+1,false,[])) (gz t y (0,(Y.2.2.2.1,(thr,Y.2.2.2.2)))):=by
 have g:=mem_of_getElem? bE;have d:=h.js Y g;have ah:=h.len;have c:y<t.length:=by omega
 have r:=h.jD y Y bE;obtain⟨aX,u⟩:=h.tok;have cW:=qZ (t:=t) y;have m:=d.dW;rw[r]at ak;have q:((y:Int)+1,((t.getD y []).length:Int)) ∉ f.flatten:=λU=>yr c (0,(Y.2.2.2.1,(thr,Y.2.2.2.2))) (h.has U)
 have k:(f.flatten++[((y:Int)+1,((t.getD y []).length:Int))]).Nodup:=List.nodup_append.2 ⟨h.j4,by simp,λa bm b ab e=>by
  rw[List.mem_singleton]at ab;rw[e,ab]at bm;exact q bm⟩
 refine⟨ab,(List.nodup_append.1 (ak.nodup_iff.2 k)).1,X7 h.once c ak,s,by rw[length_set];exact h.ma,λW ca=>?_,⟨_,u.put aG (inl rfl) (λb ab=>h.has (l b ab)) (λp ak=>⟨h.q4 Y g p ak,(d.ok p ak).2⟩) n m d.red (λj=>h.mb Y g cQ (by omega))⟩,by rw[yt c];omega,h.dq.put c (by omega) (by show thr.length<=100000;omega) (by show Y.2.2.2.2.length<=100000;omega),λi W ca=>?_,λW ca p ak=>?_,λW ca=>?_⟩
 ·rcases lH ca with ca|rfl
  ·exact h.js W ca
  ·exact W0 d cQ (by omega)
 ·rw[getElem?_set]at ca
  rw[yq c]
  split at ca
  ·rename_i e
   subst e
   split at ca
   ·cases ca
    rw[if_pos rfl,length_append];show Y.2.2.1+1=(((t.getD y []).length+1:Nat):Int)
    omega
   ·cases ca
  ·rename_i e
   rw[if_neg (λo=>e o.symm)];exact h.jD i W ca
 ·rcases lH ca with ca|rfl
  ·exact(h.q4 W ca p ak).put c _
  ·cases ak
 ·rcases lH ca with ca|rfl
  ·exact h.mb W ca
  ·intro _ j
   have w:Y.2.2.1+1=0:=j;omega
theorem hV.move{f f':bV}{ys:dd}{t:cj}(h:hV f ys t)(ab:jM f' [])(ak:f'.flatten.Perm f.flatten):hV f' ys t:=
 ⟨ab,ak.nodup_iff.2 h.j4,λa=>by
  have:=h.once a
  rw[count_append]at this ⊢;rw[ak.count_eq];exact this,by rw[ak.length_eq];exact h.dW,h.ma,h.js,h.tok,h.all,h.dq,h.jD,h.q4,h.mb⟩
def stM(f:bV)(ys:dd)(t:cj):lY:=((0:Int),((f,[]),(ys,(t,([],(f.flatten,[]))))))
theorem aml{N:Nat}(a1:5000<N){cR}(eY:il N=some cR){f:bV}{ys:dd}{t:cj}(h:hV f ys t){l:c9}(ah:l.length<=4000){Q:bV->dd->cj->Prop}(i:ey N cR l (fI t ys 0 f []) λs=>∃f' b a,s=fI a b 0 f' []/\hV f' b a/\Q f' b a) :
  T (uA N (stM f ys t) l) λq=>∃f' b a,q=(stM f' b a,(l.length:Int),0)/\hV f' b a/\Q f' b a:=by
 have e:=h.ms a1;have o:=h.ma;have j:=XJ a1 e;have d:=Xy a1 (r:=0) h.ct (ys:=ys) (by omega) (λY bE=>by have:=(h.js Y bE).dW;omega) h.dq f.flatten (fl:=[]) (by decide);have dH:=X1 (by omega) (by omega) i;unfold stM uA;simp only[a8,reduceCtorEq,show ¬4096<(l.length:Int) by omega,bn j,bn d,bn eY];refine dH.mono ?_;rintro q ⟨n,rfl,f',b,a,rfl,c,g⟩;have k:=c.len;have m:=c.dW;have c7:=XV a1 (t:=a) b (by omega) (λx an=>by have:=c.dq.row x an;omega) (by omega) (X6 a1 c.sv);simp only[a8,fI,bn c7];exact⟨f',b,a,rfl,c,g⟩
theorem amn{f f':bV}(aC:jM f [])(b:jM f' []){a:Nat}(bm:1<=a/\a<=40)(h:∀k,k≠a-1->f'.getD k []=f.getD k [])(x:ae):f'.flatten.count x+(f.getD (a-1) []).count x=f.flatten.count x+(f'.getD (a-1) []).count x:=by
 have:=yA (f':=f') (by omega) x h
 rw[r4 x aC.ft.len,r4 x b.ft.len];exact this
def oJ(f:bV)(p e:Int):eg:=(((gF f [] 0).filter (gN p e)).map r6).reverse
theorem X8{f:bV}{p e:Int}{q:cU}(h:q∈oJ f p e):q.1∈f.flatten/\q.2.2=0:=by
 unfold oJ at h;rw[List.mem_reverse,List.mem_map]at h;obtain⟨x,an,rfl⟩:=h;have a:=(List.mem_filter.1 an).1
 have:x.1∈(gF f [] 0).map (·.1):=List.mem_map.2 ⟨x,a,rfl⟩
 rw[Ol]at this;exact⟨(List.mem_append.1 this).elim id (λh=>by cases h),rfl⟩
theorem O1(f:bV)(p e:Int):(oJ f p e).length<=f.flatten.length:=by
 unfold oJ;rw[List.length_reverse,length_map];have I:=length_filter_le (gN p e) (gF f [] 0);rw[yw]at I;exact I
theorem D8{f:bV}(h:hD f){x:ae}(an:x∈f.flatten):oF x:=by
 obtain⟨s,a,an⟩:=List.mem_flatten.1 an;exact h.ok s a x an
theorem X9{f:bV}(h:hD f)(p e:Int):∀q∈oJ f p e,r2 q:=λq a=>by
 obtain⟨I,J⟩:=X8 a;exact⟨D8 h I,inl J⟩
section
variable {N:Nat} (a1:5000<N) {cR:List (Int×Option Nat)} (eY:il N=some cR) {f:bV} {ys:dd} {t:cj} (h:hV f ys t) {y:Nat} (aG:y<6) {Y:bq} (bE:ys[y]?=some Y) (cQ:Y.1=true)
include a1 h aG bE cQ
theorem amo{place e:Int}(ak:tmod place 2≠0/\-13<=place/\place<=179)(he:e<Y.2.1)(b:Y.2.2.2.2.length<=4000) :
  pk N ((y:Int)+1) place e 0 f [] (own t) [] ys []=some (0,0,f,[],ys.set y (true,place,Y.2.2.1,Y.2.2.2.1,e0 Y.2.2.2.2 (oJ f Y.2.1 e))):=by
 have a:=h.sv;have c:=h.dW;have ah:=O1 f Y.2.1 e;have ab:=XW a1 (L:=gF f [] 0) (by rw[yw];have:=a.dW;omega) he;exact al5 a1 a.ct.ft wo a.j4 ⟨by decide,by decide⟩ a.dW (OO.qd f) aG bE (h.js Y (mem_of_getElem? bE)) cQ ak (P:=oJ f Y.2.1 e) ab (X9 a.ct.ft _ _) (by omega) (own t) [] []
theorem hV.amp{place e:Int}(ak:tmod place 2≠0/\-13<=place/\place<=179)(c:Y.2.2.2.2.length<=4000):hV f (ys.set y (true,place,Y.2.2.1,Y.2.2.2.1,e0 Y.2.2.2.2 (oJ f Y.2.1 e))) t:=by
 have a:=mem_of_getElem? bE;have ah:=O1 f Y.2.1 e;have d:=h.dW;refine h.go bE (yv (h.js Y a) ak (X9 h.ct.ft _ _) (by omega)) rfl (λp ak=>?_) (λ_ b=>h.mb Y a cQ b)
 rcases DV ak with ak|ak
 ·exact h.q4 Y a p ak
 ·exact h.has (X8 ak).1
theorem amq(eY:il N=some cR)(d:Y.2.2.2.2.length<=4000)(ak:4<=Y.2.1){Q:iA->Prop}(c:Q (fI t (ys.set y (true,3,Y.2.2.1,Y.2.2.2.1,e0 Y.2.2.2.2 (oJ f Y.2.1 3))) 0 f [])):ey N cR [(6,(0,((1,1),((y:Int)+1,0))))] (fI t ys 0 f []) Q:=by
 have b:e6 1 1 0=4:=rfl;have a:(((1:Int),(1:Int)).1=0\/((1:Int),(1:Int)).1=1)/\1<=((1:Int),(1:Int)).2/\((1:Int),(1:Int)).2<=40:=⟨inr rfl,by decide,by decide⟩
 have ab:=X0 (N:=N) aG bE cQ a (r:=0) ⟨by decide,by decide⟩ (by rw[b];exact ak) 6 f [] (own t) [] [];rw[b]at ab;have U:=amo a1 h aG bE cQ (place:=3) (e:=3) ⟨by decide,by decide,by decide⟩ (by omega) d;have az:=alm (Iv N (inr (inr rfl)) (inl rfl) a ⟨by omega,by omega⟩ (y:=(y:Int)+1)) rfl 0 f [] (own t) [] ys [] eY;refine ey.one (az.trans ?_) c;unfold Dv
 apply T.eq
 simp only[a8,bn ab,show(4:Int)-1=3 from rfl,bn U]
 rfl
end
theorem amr{N:Nat}(a1:5000<N){ys:dd}(aG:ys.length=6){b a:Int}(m:∀Y∈ys,Y.1=true->Y.2.1≠(if a<b then a else b)+1)(r:Int)(f g:bV)(ab:-1000<=b/\b<=1000/\-1000<=a/\a<=1000):NH N ys b a N ((0:Int),r,f,g)=some (.inl (r,f,g)):=by
 refine fp (λk d=>∃i:Nat,i+k=6/\d=((i:Int),r,f,g)) _ ?_ N 6 _ (by omega) ⟨0,by omega,rfl⟩;rintro k d rec ⟨i,hi,rfl⟩ j
 apply T.eq
 by_cases n:i<6
 ·obtain⟨Y,bE⟩:∃Y,ys[i]?=some Y:=⟨_,getElem?_eq_getElem (by omega)⟩
  have h:=m Y (mem_of_getElem? bE);have c:(i:Int)<(ys.length:Int):=by omega
  have this:T (rec ((i:Int)+1,r,f,g)) (·=.inl (r,f,g)):=⟨_,j (k-1) _ (by omega) ⟨i+1,by omega,rfl⟩,rfl⟩
  by_cases cQ:Y.1=true
  ·have l:=h cQ
   simp only[a8,reduceCtorEq,c,ck bE,cQ,l]
   and_intros<;>first|omega|(simp only[dL];omega)|exact this|trivial
  ·have e:Y.1=false:=by simpa using cQ
   simp only[a8,reduceCtorEq,c,ck bE,e,Bool.false_eq_true]
   and_intros<;>first|omega|(simp only[dL];omega)|exact this|trivial
 ·have c:¬(i:Int)<(ys.length:Int):=by omega
  simp only[a8,reduceCtorEq,c]
theorem amt{N:Nat}(a1:5000<N){f g:bV}(h:mI f g){b:Int}(ab:b=0\/b=1){a c r:Int}(bm:1<=a/\a<=40)(U:1<=c/\c<=40)(t:-4<=r/\r<=4)(he:c=if b=1 then a+r else a-r)(p:cM (if b=1 then g else f) a≠[])(s:(cM (if b=1 then g else f) a).length+(cM (if b=1 then f else g) c).length<=4){ys:dd}(aG:ys.length=6)(K:∀Y∈ys,Y.1=true->Y.2.1 % 4=3)(dq:List (Bool×dv))(dX)(fl:b7) :
  T (vW N (7,(0,((b,a),(0,0)))) r f g dq dX ys fl) λq=>q.1=0/\q.2.1=r/\mI q.2.2.1 q.2.2.2/\(∀k,cM q.2.2.1 k=if b=1 then(if k=c then cM g a++cM f k else cM f k)else(if k=a then [] else cM f k))/\(∀k,cM q.2.2.2 k=if b=1 then(if k=a then [] else cM g k)else(if k=c then cM g k++cM f a else cM g k)):=by
 obtain⟨aU,rfl⟩:∃aU:Nat,a=(aU:Int):=⟨a.toNat,by omega⟩
 obtain⟨c',rfl⟩:∃c':Nat,c=(c':Int):=⟨c.toNat,by omega⟩
 have d:1<=aU/\aU<=40:=by omega
 have o:1<=c'/\c'<=40:=by omega
 have J:1-b=0\/1-b=1:=by omega
 rw[jF d.1 d.2]at p s;rw[jF o.1 o.2]at s;have M:=wk (N:=N) h.ct ab d.1 d.2;have A:=ame N ab bm U t he;have F:=AL N (nd:=(b,(aU:Int))) ⟨ab,bm.1,bm.2⟩ t;have I:=AL N (nd:=(1-b,(c':Int))) ⟨J,U.1,U.2⟩ t;have y:∀x k:Int,1<=k/\k<=40->-1000<=e6 x k r/\e6 x k r<=1000:=λx k aa=>by
  unfold e6
  split<;>omega
 have v:=y b (aU:Int) bm;have w:=y (1-b) (c':Int) U;have O:(if e6 (1-b) (c':Int) r<e6 b (aU:Int) r then e6 (1-b) (c':Int) r else e6 b (aU:Int) r) % 4=0:=by
  rcases ab with rfl|rfl
  ·rw[if_neg (by decide)]at he
   have j:e6 (1-0) (c':Int) r=4 * ((c':Int)+r):=rfl;have n:e6 0 (aU:Int) r=4 * (aU:Int)+2:=rfl
   split<;>omega
  ·rw[if_pos rfl]at he
   have j:e6 (1-1) (c':Int) r=4 * (c':Int)+2:=rfl;have n:e6 1 (aU:Int) r=4 * ((aU:Int)+r):=rfl
   split<;>omega
 have dH:=amr a1 aG (λY bE hi e=>by have:=K Y bE hi;omega) r f g ⟨v.1,v.2,w.1,w.2⟩;have H:¬(((if b=1 then g else f).getD (aU-1) []).length:Int)=0:=by
  have:=List.length_pos_iff.2 p
  omega
 have z:bd ((if e6 (1-b) (c':Int) r<e6 b (aU:Int) r then e6 (1-b) (c':Int) r else e6 b (aU:Int) r)+1)=true:=by
  split<;>exact DT (by omega) (by omega)
 have B:=al2 a1 h.ct h.j4 h.dW ab d o p s;unfold vW;simp only[a8,reduceEq,bn M,H,bn A,bn F,bn I,bn dH];refine⟨EA.1 z,B.mono ?_⟩;rintro⟨⟨f',g'⟩,e⟩ ⟨lA,av⟩;dsimp only at lA av;have ak:=av.perm ab d o h.ct;have C:=ak.length_eq;rw[length_append,length_append]at C;have P:=h.dW;have L:mI f' g':=⟨av.ct,ak.nodup_iff.2 h.j4,by omega⟩
 have key:∀k:Int,(1<=k/\k<=40)\/¬(1<=k/\k<=40):=λk=>Decidable.em _
 have G:∀k,cM f' k=if b=1 then(if k=(c':Int)then cM g (aU:Int)++cM f k else cM f k)else(if k=(aU:Int)then [] else cM f k):=by
  intro k
  rcases key k with aa|aa
  ·obtain⟨k',rfl⟩:∃k':Nat,k=(k':Int):=⟨k.toNat,by omega⟩
   have i:1<=k'/\k'<=40:=by omega
   rw[jF i.1 i.2,jF i.1 i.2,jF d.1 d.2,av.r7]
   rcases ab with rfl|rfl
   ·simp only[show((0:Int)=1)=False by simp,if_false]
    by_cases u:k'=aU
    ·rw[if_pos (by omega),if_pos (by omega)]
    ·rw[if_neg (by omega),if_neg (by omega)]
   ·simp only[if_true]
    by_cases u:k'=c'
    ·rw[if_pos (by omega),if_pos (by omega)]
    ·rw[if_neg (by omega),if_neg (by omega)]
  ·have m:∀l:bV,cM l k=[]:=λl=>by unfold cM;rw[if_neg aa]
   have j:¬k=(c':Int):=by omega
   have n:¬k=(aU:Int):=by omega
   rw[m,m,if_neg j,if_neg n]
   split<;>rfl
 have D:∀k,cM g' k=if b=1 then(if k=(aU:Int)then [] else cM g k)else(if k=(c':Int)then cM g k++cM f (aU:Int)else cM g k):=by
  intro k
  rcases key k with aa|aa
  ·obtain⟨k',rfl⟩:∃k':Nat,k=(k':Int):=⟨k.toNat,by omega⟩
   have i:1<=k'/\k'<=40:=by omega
   rw[jF i.1 i.2,jF i.1 i.2,jF d.1 d.2,av.gk]
   rcases ab with rfl|rfl
   ·simp only[show((0:Int)=1)=False by simp,if_false]
    by_cases u:k'=c'
    ·rw[if_pos (by omega),if_pos (by omega)]
    ·rw[if_neg (by omega),if_neg (by omega)]
   ·simp only[if_true]
    by_cases u:k'=aU
    ·rw[if_pos (by omega),if_pos (by omega)]
    ·rw[if_neg (by omega),if_neg (by omega)]
  ·have m:∀l:bV,cM l k=[]:=λl=>by unfold cM;rw[if_neg aa]
   have j:¬k=(c':Int):=by omega
   have n:¬k=(aU:Int):=by omega
   rw[m,m,if_neg j,if_neg n]
   split<;>rfl
 exact⟨λ_=>⟨lA,L,G,D⟩,λE=>absurd lA E⟩
theorem Yc{N:Nat}(a1:5000<N){cR}(eY:il N=some cR){t:cj}{ys:dd}(aG:ys.length=6)(n:∀Y∈ys,Y.1=true->Y.2.1 % 4=3){f g:bV}(h:mI f g){b:Int}(ab:b=0\/b=1){a c r:Int}(bm:1<=a/\a<=40)(U:1<=c/\c<=40)(j:-4<=r/\r<=4)(he:c=if b=1 then a+r else a-r)(e:cM (if b=1 then g else f) a≠[])(i:(cM (if b=1 then g else f) a).length+(cM (if b=1 then f else g) c).length<=4){l:c9}{Q:iA->Prop}(m:∀f' g',mI f' g'->(∀k,cM f' k=if b=1 then(if k=c then cM g a++cM f k else cM f k)else(if k=a then [] else cM f k))->(∀k,cM g' k=if b=1 then(if k=a then [] else cM g k)else(if k=c then cM g k++cM f a else cM g k))->ey N cR l (fI t ys r f' g') Q) :
  ey N cR (pw b a::l) (fI t ys r f g) Q:=by
 have an:=amt a1 h ab bm U j he e i aG n (own t) [] [];have d:=alp (alo N (nd:=(b,a)) ⟨ab,bm.1,bm.2⟩) rfl r f g (own t) [] ys [] eY;show T (mE N (7,(0,((b,a),(0,0)))) r f g (own t) [] ys [] cR) _;rw[d];simp only[a8];refine an.mono ?_;rintro⟨c8,fc,f',g'⟩ ⟨I,J,ag,aF,a7⟩;subst I J;exact⟨rfl,m f' g' ag aF a7⟩
def iB(g:bV)(r d p b:Int):Nat->eg
 |0=>[]
 |i+1=>iB g r d p b i++(if p=4 * ((i:Int)+1+r)+(if d=0 then -1 else 1)\/p=4 * ((i:Int)+1+r)+3 * (if d=0 then -1 else 1)then(g.getD i []).map (λa=>(a,(true,b)))else [])
theorem O3{g:bV}(c:hD g)(r d p b:Int):∀i,(iB g r d p b i).length<=4 * i
 |0=>Nat.le_refl _
 |i+1=>by
  have:=O3 c r d p b i
  have f:(g.getD i []).length<=4:=by
   rw[getD_eq_getElem?_getD];cases ao:g[i]? with
   |none=>exact zero_le _
   |some z=>exact c.dW z (mem_of_getElem? ao)
  simp only[iB,length_append];have h:(if p=4 * ((i:Int)+1+r)+(if d=0 then -1 else 1)\/p=4 * ((i:Int)+1+r)+3 * (if d=0 then -1 else 1)then(g.getD i []).map (λa=>((a,(true,b)):cU))else []).length<=4:=by
   by_cases e:p=4 * ((i:Int)+1+r)+(if d=0 then -1 else 1)\/p=4 * ((i:Int)+1+r)+3 * (if d=0 then -1 else 1)
   ·rw[if_pos e,length_map]
    exact f
   ·rw[if_neg e]
    exact zero_le _
  omega
theorem amv{N:Nat}(a1:5000<N){f g:bV}(c:Int){i:Nat}(n:(g.getD i []).length<=4)(b:eg)(bm:b.length<=1000):VC N (f,g) c (i:Int) N ((0:Int),b)=some (b++(g.getD i []).map (λa=>(a,(true,c)))):=by
 refine fp (λk s=>∃j:Nat,j+k=(g.getD i []).length/\s=((j:Int),b++((g.getD i []).take j).map (λa=>(a,(true,c))))) _ ?_ N (g.getD i []).length _ (by omega) ⟨0,by omega,by simp⟩;rintro k s rec ⟨j,m,rfl⟩ h
 apply T.eq
 by_cases l:j<(g.getD i []).length
 ·obtain⟨x,an⟩:∃x,(g.getD i [])[j]?=some x:=⟨_,getElem?_eq_getElem l⟩
  have d:(j:Int)<((g.getD i []).length:Int):=by omega
  have e:=h (k-1) ((j:Int)+1,b++((g.getD i []).take (j+1)).map (λa=>(a,(true,c)))) (by omega) ⟨j+1,by omega,rfl⟩;rw[q1 an,map_append,<- append_assoc]at e;have this:T (rec ((j:Int)+1,b++((g.getD i []).take j).map (λa=>(a,(true,c)))++[(x,(true,c))])) (·=b++(g.getD i []).map (λa=>(a,(true,c)))):=⟨_,e,rfl⟩
  simp only[a8,reduceCtorEq,d,ck an,length_append,length_map,length_take,length_singleton]
  and_intros<;>first|omega|exact this
 ·have d:¬(j:Int)<((g.getD i []).length:Int):=by omega
  simp only[a8,reduceCtorEq,d];rw[take_of_length_le (by omega)]
theorem Yd(N:Nat)(l:eg)(h:l.length<=100000):sZ N l=some (l,l.length):=by
 unfold sZ
 apply T.eq
 simp only[a8,length_replicate];omega
theorem amw{N:Nat}(a1:5000<N){f g:bV}(h:mI f g){r d:Int}(u:-4<=r/\r<=4)(az:(d=0/\-3<=r)\/(d=1/\r<=3)){p:Int}(ak:p % 4=3)(I:-13<=p/\p<=179):HC N (f,g) r d p=some (if d=0 then iB g r d p 1 g.length else(iB g r d p 0 g.length).reverse,if d=0 then(iB g r d p 1 g.length).length else(iB g r d p 0 g.length).reverse.length,0):=by
 have H:=h.ct.gv.len;have v:=X2 a1 h.ct h.j4 h.dW u az;have o:¬tmod p 2=0:=by
  intro e
  have:=Int.dvd_of_tmod_eq_zero e
  omega
 have y:lr.length=2:=rfl;have c7:lr.getD d.toNat 0=if d=0 then -1 else 1:=by
  rcases az with⟨rfl,_⟩|⟨rfl,_⟩<;>rfl
 have q:∀b:Int,VD N (f,g) r d p b N ((0:Int),[])=some (iB g r d p b g.length):=by
  intro b;refine fp (λk s=>∃i:Nat,i+k=g.length/\s=((i:Int),iB g r d p b i)) _ ?_ N g.length _ (by omega) ⟨0,by omega,rfl⟩;rintro k s rec ⟨i,hi,rfl⟩ F
  apply T.eq
  by_cases K:i<g.length
  ·have l:(i:Int)<(g.length:Int):=by omega
   have w:=AL N (nd:=((1:Int),(i:Int)+1)) ⟨inr rfl,by dsimp only;omega,by dsimp only;omega⟩ u;have L:e6 1 ((i:Int)+1) r=4 * ((i:Int)+1+r):=rfl;have J:=O3 h.ct.gv r d p b i;have E:(g.getD i []).length<=4:=by
    rw[getD_eq_getElem?_getD];cases ao:g[i]? with
    |none=>exact zero_le _
    |some z=>exact h.ct.gv.dW z (mem_of_getElem? ao)
   have dH:=amv a1 (f:=f) b E (iB g r d p b i) (by omega);have j:=F (k-1) ((i:Int)+1,iB g r d p b (i+1)) (by omega) ⟨i+1,by omega,rfl⟩;obtain⟨c,t⟩:∃c:Int,c=if d=0 then -1 else 1:=⟨_,rfl⟩
   have C:iB g r d p b (i+1)=iB g r d p b i++(if p=4 * ((i:Int)+1+r)+c\/p=4 * ((i:Int)+1+r)+3 * c then(g.getD i []).map (λa=>(a,(true,b)))else []):=by
    rw[t]
    rfl
   rw[C]at j;have A:lr.getD d.toNat 0=c:=by rw[c7,t]
   by_cases n:p=4 * ((i:Int)+1+r)+c\/p=4 * ((i:Int)+1+r)+3 * c
   ·rw[if_pos n]at j
    have this:T (rec ((i:Int)+1,iB g r d p b i++(g.getD i []).map (λa=>(a,(true,b))))) (·=iB g r d p b g.length):=⟨_,j,rfl⟩
    have D:¬(¬p=4 * ((i:Int)+1+r)+c/\¬p=4 * ((i:Int)+1+r)+3 * c):=λe=>n.elim e.1 e.2
    simp only[a8,reduceCtorEq,l,bn w,A,y,bn dH];refine⟨by omega,by and_intros<;>first|omega|(simp only[dL];omega)|exact this|trivial,by and_intros<;>first|omega|(simp only[dL];omega)|exact this|trivial,λe=>absurd e D,λ_=>⟨by omega,this⟩⟩
   ·rw[if_neg n,append_nil]at j
    have this:T (rec ((i:Int)+1,iB g r d p b i)) (·=iB g r d p b g.length):=⟨_,j,rfl⟩
    simp only[a8,reduceCtorEq,l,bn w,A,y,bn dH];refine⟨by omega,by and_intros<;>first|omega|(simp only[dL];omega)|exact this|trivial,by and_intros<;>first|omega|(simp only[dL];omega)|exact this|trivial,λ_=>⟨by omega,this⟩,λe=>absurd e (λG=>n G)⟩
  ·have l:¬(i:Int)<(g.length:Int):=by omega
   obtain rfl:i=g.length:=by omega
   simp only[a8,reduceCtorEq,l]
 have m:=λb=>O3 h.ct.gv r d p b g.length
 unfold HC
 apply T.eq
 rcases az with⟨rfl,ag⟩|⟨rfl,ag⟩
 ·have U:=Yd N (iB g r 0 p 1 g.length) (by have:=m 1;omega)
  simp only[a8,reduceEq,reduceCtorEq,bn v,o,bn (q 1),bn U,if_true]
 ·have B:=Xj (N:=N) (iB g r 1 p 0 g.length) (by have:=m 0;omega) (by have:=m 0;omega)
  have U:=Yd N (iB g r 1 p 0 g.length).reverse (by rw[List.length_reverse];have:=m 0;omega);simp only[a8,reduceCtorEq,bn v,o,bn (q 0),bn B,bn U,show((1:Int)=0)=False by simp,if_false]
theorem Ea{r d p b:Int}{g:bV}:∀i:Nat,(∀j:Nat,j<i->(p=4 * ((j:Int)+1+r)+(if d=0 then -1 else 1)\/p=4 * ((j:Int)+1+r)+3 * (if d=0 then -1 else 1))->g.getD j []=[])->iB g r d p b i=[]
 |0,_=>rfl
 |i+1,h=>by
  show iB g r d p b i++_=[]
  rw[Ea i λj c=>h j (by omega)]
  by_cases a:p=4 * ((i:Int)+1+r)+(if d=0 then -1 else 1)\/p=4 * ((i:Int)+1+r)+3 * (if d=0 then -1 else 1)
  ·rw[if_pos a,h i (by omega) a]
   rfl
  ·rw[if_neg a]
   rfl
theorem Yh{r p b:Int}{g:bV}{c:Nat}{x:ae}(U:g.getD c []=[x])(e:∀j,j≠c->g.getD j []=[])(ak:p=4 * ((c:Int)+1+r)+3):∀i,iB g r 1 p b i=if c<i then [(x,(true,b))] else []
 |0=>by rw[if_neg (by omega)];rfl
 |i+1=>by
  show iB g r 1 p b i++_=_;rw[Yh U e ak i]
  by_cases hi:i=c
  ·subst hi
   have f:¬i<i:=by omega
   have h:i<i+1:=by omega
   have k:p=4 * ((i:Int)+1+r)+(if (1:Int)=0 then -1 else 1)\/p=4 * ((i:Int)+1+r)+3 * (if (1:Int)=0 then -1 else 1):=by
    right
    omega
   rw[if_neg f,if_pos h,if_pos k,U]
   rfl
  ·have he:(if p=4 * ((i:Int)+1+r)+(if (1:Int)=0 then -1 else 1)\/p=4 * ((i:Int)+1+r)+3 * (if (1:Int)=0 then -1 else 1)then(g.getD i []).map (λa=>(a,(true,b)))else [])=([]:eg):=by
    rw[e i hi]
    simp
   rw[he,append_nil]
   by_cases d:c<i
   ·rw[if_pos d,if_pos (by omega)]
   ·rw[if_neg d,if_neg (by omega)]
def yE(ys:dd):Prop:=∀(i:Nat) (Y:bq),ys[i]?=some Y->Y.1=true->Y.2.1 % 4=3
theorem IN{N:Nat}(a1:5000<N){f g:bV}(h:mI f g){r d:Int}(w:-4<=r/\r<=4)(az:(d=0/\-3<=r)\/(d=1/\r<=3))(P:∀i:Nat,i<g.length->g.getD i []≠[]->cM f ((i:Int)+1+(if d=0 then r-1 else r))=[]){ys:dd}(aG:ys.length=6)(k9:∀Y∈ys,iR Y)(cF:yE ys){aK:Nat}(hn:aK<6){Y:bq}(bE:ys[aK]?=some Y)(cQ:Y.1=true)(qg:∀(i:Nat) (Z:bq),i≠aK->ys[i]?=some Z->Z.1=true->∀O,iB g r d Z.2.1 O g.length=[]){M:eg}(K:(if d=0 then iB g r d Y.2.1 1 g.length else(iB g r d Y.2.1 0 g.length).reverse)=M)(H:∀p∈M,r2 p)(J:M.length+Y.2.2.2.2.length<=4096)(dq:List (Bool×dv))(q:List (e9×Int))(fl:b7) :
  vT N d r f g dq q ys fl=some (0,r,f,g,dq,q,ys.set aK (true,Y.2.1,Y.2.2.1,Y.2.2.2.1,e0 Y.2.2.2.2 M),fl):=by
 obtain⟨Z,y⟩:∃Z:bq,Z=(true,Y.2.1,Y.2.2.1,Y.2.2.2.1,e0 Y.2.2.2.2 M):=⟨_,rfl⟩
 rw[<- y];have B:∀W∈ys,W.1=true->-13<=W.2.1/\W.2.1<=179:=λW ca hi=>((k9 W ca).at' hi).2
 have R:VT N d dq q ys fl N (0,r,f,g,ys)=some (.inl (r,f,g,ys.set aK Z)):=by
  refine fp (λk z=>∃i:Nat,i+k=6/\z=((i:Int),r,f,g,if i<=aK then ys else ys.set aK Z)) _ ?_ N 6 _ (by omega) ⟨0,by omega,by rw[if_pos (zero_le _)];rfl⟩;rintro k z rec ⟨i,hi,rfl⟩ L
  apply T.eq
  by_cases U:i<6
  ·obtain⟨W,ca⟩:∃W,ys[i]?=some W:=⟨_,getElem?_eq_getElem (by omega)⟩
   have c:=mem_of_getElem? ca;have o:(i:Int)<(ys.length:Int):=by omega
   obtain⟨C,b⟩:∃C,C=if i<=aK then ys else ys.set aK Z:=⟨_,rfl⟩
   have S:C.length=6:=by
    rw[b]
    split
    ·exact aG
    ·rw[length_set];exact aG
   have m:C[i]?=some W:=by
    rw[b]
    split
    ·exact ca
    ·rw[getElem?_set,if_neg (by omega)]
     exact ca
   have j:=L (k-1) ((i:Int)+1,r,f,g,if i+1<=aK then ys else ys.set aK Z) (by omega) ⟨i+1,by omega,rfl⟩;rw[<- b]
   by_cases a:W.1=true
   ·have D:=B W c a
    have u:=amw a1 h w az (cF i W ca a) D
    by_cases t:i=aK
    ·subst t
     rw[bE]at ca;obtain rfl:=Option.some.inj ca;have s:=DY (k9 Y c) cQ a1 ((k9 Y c).at' cQ) H J;rw[K]at u;rw[if_neg (show ¬i+1<=i by omega)]at j;rw[if_pos (Nat.le_refl _)]at b;rw[b];rw[b]at m;rw[<- y]at s;have this:T (rec ((i:Int)+1,r,f,g,ys.set i Z)) (·=.inl (r,f,g,ys.set i Z)):=⟨_,j,rfl⟩
     simp only[a8,reduceCtorEq,o,ck m,cQ,bn u,bn s]
     and_intros<;>first|omega|(simp only[dL];omega)|exact this|trivial
    ·have A:(if d=0 then iB g r d W.2.1 1 g.length else(iB g r d W.2.1 0 g.length).reverse)=[]:=by
      rw[qg i W t ca a,qg i W t ca a]
      split<;>rfl
     rw[A]at u;have s:=DY (k9 W c) a a1 ((k9 W c).at' a) (l:=[]) (λp ak=>by cases ak) (by have:=(k9 W c).dW;show 0+_<=4096;omega);have E:((true,W.2.1,W.2.2.1,W.2.2.2.1,e0 W.2.2.2.2 []):bq)=W:=by
      show(true,W.2.1,W.2.2.1,W.2.2.2.1,W.2.2.2.2)=W;rw[<- a]
     rw[E]at s;have Q:=uD m;have v:(if i+1<=aK then ys else ys.set aK Z)=C:=by
      rw[b]
      by_cases I:i<=aK
      ·rw[if_pos I,if_pos (by omega)]
      ·rw[if_neg I,if_neg (by omega)]
     rw[v]at j;have this:T (rec ((i:Int)+1,r,f,g,C)) (·=.inl (r,f,g,ys.set aK Z)):=⟨_,j,rfl⟩
     simp only[a8,reduceCtorEq,o,ck m,a,bn u,bn s,Q]
     and_intros<;>first|omega|(simp only[dL];omega)|exact this|trivial
   ·have F:W.1=false:=by simpa using a
    have t:i≠aK:=λe=>by
     subst e;rw[bE]at ca;obtain rfl:=Option.some.inj ca;exact a cQ
    have v:(if i+1<=aK then ys else ys.set aK Z)=C:=by
     rw[b]
     by_cases I:i<=aK
     ·rw[if_pos I,if_pos (by omega)]
     ·rw[if_neg I,if_neg (by omega)]
    rw[v]at j;have this:T (rec ((i:Int)+1,r,f,g,C)) (·=.inl (r,f,g,ys.set aK Z)):=⟨_,j,rfl⟩
    simp only[a8,reduceCtorEq,o,ck m,F]
    and_intros<;>first|omega|exact this
  ·have o:¬(i:Int)<(ys.length:Int):=by omega
   rw[if_neg (show ¬i<=aK by omega)];simp only[a8,reduceCtorEq,o]
 have c7:=amb a1 h.ct h.j4 h.dW w az P;have G:VU N (([]:ed),0,0) N (0,r,f,g,q,fl,ys.set aK Z,dq)=some (.inl (r,f,g,q,fl,ys.set aK Z,dq)):=by
  obtain⟨n,rfl⟩:∃n,N=n+1:=⟨N-1,by omega⟩
  rfl
 unfold vT
 apply T.eq
 simp only[a8,bn R,bn c7,bn G]
theorem O4{Y:bq}(h:Y.1=true):((true,Y.2.1,Y.2.2.1,Y.2.2.2.1,e0 Y.2.2.2.2 []):bq)=Y:=by
 show(true,Y.2.1,Y.2.2.1,Y.2.2.2.1,Y.2.2.2.2)=Y;rw[<- h]
theorem Yk{N:Nat}(a1:5000<N){f:bV}(h:mI f []){q r:Int}(o:-4<=q/\q<=4)(s:-4<=r/\r<=4){ys:dd}(aG:ys.length=6)(k9:∀Y∈ys,iR Y)(cF:yE ys){aK:Nat}(hn:aK<6){Y:bq}(bE:ys[aK]?=some Y)(cQ:Y.1=true)(dq:List (Bool×dv))(a:List (e9×Int))(fl:b7) :
  vU N (3,(0,((0,0),(0,r)))) q f [] dq a ys fl=some (0,r,f,[],dq,a,ys,fl):=by
 have m:∀x d:Int, -4<=x/\x<=4->(d=0/\-3<=x)\/(d=1/\x<=3)->vT N d x f [] dq a ys fl=some (0,x,f,[],dq,a,ys,fl):=by
  intro x d an az;have b:=IN a1 h an az (λi hi=>absurd hi (not_lt_zero _)) aG k9 cF hn bE cQ (λi Z _ _ _ t=>rfl) (M:=[]) (by split<;>rfl) (λp ak=>by cases ak) (by have:=(k9 Y (mem_of_getElem? bE)).dW;show 0+_<=4096;omega) dq a fl;rw[O4 cQ,uD bE]at b;exact b
 have n:NG N (3,(0,((0,0),(0,r)))) N (q,f,[],a,fl,ys,dq)=some (.inl (r,f,[],a,fl,ys,dq)):=by
  refine fp (λk l=>∃x:Int,(x-r).natAbs=k/\((q<=x/\x<=r)\/(r<=x/\x<=q))/\l=(x,f,[],a,fl,ys,dq)) _ ?_ N (q-r).natAbs _ (by omega) ⟨q,rfl,by omega,rfl⟩;rintro k l rec ⟨x,an,u,rfl⟩ e
  apply T.eq
  by_cases c:x=r
  ·subst c
   simp only[a8,reduceCtorEq]
  ·have j:¬x=r:=c
   by_cases g:r<x
   ·have b:=m x 0 (by omega) (inl ⟨rfl,by omega⟩)
    have this:T (rec (x-1,f,[],a,fl,ys,dq)) (·=.inl (r,f,[],a,fl,ys,dq)):=⟨_,e (k-1) _ (by omega) ⟨x-1,by omega,by omega,rfl⟩,rfl⟩
    simp only[a8,reduceCtorEq,j,g,bn b]
    and_intros<;>first|omega|(simp only[dL];omega)|exact this|trivial
   ·have b:=m x 1 (by omega) (inr ⟨rfl,by omega⟩)
    have this:T (rec (x+1,f,[],a,fl,ys,dq)) (·=.inl (r,f,[],a,fl,ys,dq)):=⟨_,e (k-1) _ (by omega) ⟨x+1,by omega,by omega,rfl⟩,rfl⟩
    simp only[a8,reduceCtorEq,j,g,bn b]
    and_intros<;>first|omega|(simp only[dL];omega)|exact this|trivial
 unfold vU
 apply T.eq
 simp only[a8,bn n]
theorem amF{N:Nat}(a1:5000<N){f g:bV}(h:mI f g){q r:Int}(K:-4<=q/\q<=4)(am:-4<=r/\r<=4)(aj:q<r)(A:amd f g q r){c:Nat}{x:ae}(U:g.getD c []=[x])(s:∀j,j≠c->g.getD j []=[])(an:oF x){ys:dd}(aG:ys.length=6)(k9:∀Y∈ys,iR Y)(cF:yE ys){aK:Nat}(hn:aK<6){Y:bq}(bE:ys[aK]?=some Y)(cQ:Y.1=true)(uG:Y.2.2.2.2.length<=4000)(hle:Y.2.1<=4 * ((c:Int)+1+q)+3)(qg:∀(i:Nat) (Z:bq),i≠aK->ys[i]?=some Z->Z.1=true->Z.2.1<4 * ((c:Int)+1+q))(dq:List (Bool×dv))(a:List (e9×Int))(fl:b7) :
  vU N (3,(0,((0,0),(0,r)))) q f g dq a ys fl=some (0,r,f,g,dq,a,(if Y.2.1=4 * ((c:Int)+1+q)+3 then ys.set aK (true,Y.2.1,Y.2.2.1,Y.2.2.2.1,e0 Y.2.2.2.2 [(x,(true,0))])else ys),fl):=by
 have E:=mem_of_getElem? bE;have C:c<g.length:=by
  by_cases C:c<g.length
  ·exact C
  ·rw[getD_eq_getElem?_getD,getElem?_eq_none (by omega)]at U
   cases U
 obtain⟨b,I⟩:∃b,b=if Y.2.1=4 * ((c:Int)+1+q)+3 then ys.set aK (true,Y.2.1,Y.2.2.1,Y.2.2.2.1,e0 Y.2.2.2.2 [(x,(true,0))])else ys:=⟨_,rfl⟩
 rw[<- I];have V:vT N 1 q f g dq a ys fl=some (0,q,f,g,dq,a,b,fl):=by
  have F:∀(i:Nat) (Z:bq),i≠aK->ys[i]?=some Z->Z.1=true->∀y,iB g q 1 Z.2.1 y g.length=[]:=λi Z n d t y=>Ea g.length λj w B=>by
   have J:=qg i Z n d t;have ag:=cF i Z d t;exact s j (λe=>by subst e;omega)
  by_cases m:Y.2.1=4 * ((c:Int)+1+q)+3
  ·rw[if_pos m]at I
   rw[I];exact IN a1 h K (inr ⟨rfl,by omega⟩) (λi hi o=>by rw[if_neg (by decide)];exact A i hi o q (by omega)) aG k9 cF hn bE cQ F (by rw[if_neg (by decide),Yh U s m,if_pos C];rfl) (λp ak=>by rw[List.mem_singleton]at ak;rw[ak];exact⟨an,inl rfl⟩) (by show 1+_<=4096;omega) dq a fl
  ·rw[if_neg m]at I
   have l:=IN a1 h K (inr ⟨rfl,by omega⟩) (λi hi o=>by rw[if_neg (by decide)];exact A i hi o q (by omega)) aG k9 cF hn bE cQ F (M:=[]) (by
    rw[if_neg (by decide),Ea g.length λj w B=>by
     have ag:=cF aK Y bE cQ;exact s j (λe=>by subst e;omega)]
    rfl) (λp ak=>by cases ak) (by show 0+_<=4096;omega) dq a fl
   rw[O4 cQ,uD bE]at l;rw[I];exact l
 have R:iR (true,Y.2.1,Y.2.2.1,Y.2.2.2.1,e0 Y.2.2.2.2 [(x,(true,0))]):=yv (k9 Y E) ((k9 Y E).at' cQ) (λp ak=>by rw[List.mem_singleton]at ak;rw[ak];exact⟨an,inl rfl⟩) (by show 1+_<=4096;omega);obtain⟨u,D,P,al,af,Q,ac,S⟩:∃u,b[aK]?=some u/\u.1=true/\u.2.1=Y.2.1/\b.length=6/\(∀W∈b,iR W)/\yE b/\∀(i:Nat) (Z:bq),i≠aK->b[i]?=some Z->ys[i]?=some Z:=by
  by_cases m:Y.2.1=4 * ((c:Int)+1+q)+3
  ·rw[if_pos m]at I
   refine⟨(true,Y.2.1,Y.2.2.1,Y.2.2.2.1,e0 Y.2.2.2.2 [(x,(true,0))]),by rw[I,getElem?_set,if_pos rfl,if_pos (by omega)],rfl,rfl,by rw[I,length_set];exact aG,λW ca=>?_,λi W ca ad=>?_,λi Z n d=>?_⟩
   ·rw[I]at ca
    rcases lH ca with ca|rfl
    ·exact k9 W ca
    ·exact R
   ·rw[I,getElem?_set]at ca
    split at ca
    ·split at ca
     ·cases ca
      exact cF aK Y bE cQ
     ·cases ca
    ·exact cF i W ca ad
   ·rw[I,getElem?_set,if_neg (λe=>n e.symm)]at d
    exact d
  ·rw[if_neg m]at I
   rw[I];exact⟨Y,bE,cQ,rfl,aG,k9,cF,λi Z _ d=>d⟩
 have ai:∀z:Int,q<z->z<r->vT N 1 z f g dq a b fl=some (0,z,f,g,dq,a,b,fl):=by
  intro z jT jU;have l:=IN a1 h (r:=z) (by omega) (inr ⟨rfl,by omega⟩) (λi hi o=>by rw[if_neg (by decide)];exact A i hi o z (by omega)) af Q ac hn D P (λi Z n d t y=>Ea g.length λj w B=>by
   have G:=S i Z n d;have J:=qg i Z n G t;have ag:=cF i Z G t;exact s j (λe=>by subst e;omega)) (M:=[]) (by
   rw[if_neg (by decide),Ea g.length λj w B=>by
    exact s j (λe=>by subst e;omega)]
   rfl) (λp ak=>by cases ak) (by have:=(Q u (mem_of_getElem? D)).dW;show 0+_<=4096;omega) dq a fl
  rw[O4 P,uD D]at l;exact l
 have ah:NG N (3,(0,((0,0),(0,r)))) N (q,f,g,a,fl,ys,dq)=some (.inl (r,f,g,a,fl,b,dq)):=by
  refine fp (λk L=>∃z:Int,(z-r).natAbs=k/\q<=z/\z<=r/\L=(z,f,g,a,fl,(if z=q then ys else b),dq)) _ ?_ N (q-r).natAbs _ (by omega) ⟨q,rfl,by omega,by omega,by rw[if_pos rfl]⟩;rintro k L rec ⟨z,bF,jT,jU,rfl⟩ X
  apply T.eq
  by_cases H:z=r
  ·subst H
   rw[if_neg (by omega)];simp only[a8,reduceCtorEq]
  ·have ab:¬z=r:=H
   have aa:¬r<z:=by omega
   have O:=X (k-1) (z+1,f,g,a,fl,(if z+1=q then ys else b),dq) (by omega) ⟨z+1,by omega,by omega,by omega,rfl⟩;rw[if_neg (by omega)]at O;have this:T (rec (z+1,f,g,a,fl,b,dq)) (·=.inl (r,f,g,a,fl,b,dq)):=⟨_,O,rfl⟩
   have l:vT N 1 z f g dq a (if z=q then ys else b) fl=some (0,z,f,g,dq,a,b,fl):=by
    by_cases v:z=q
    ·rw[if_pos v,v]
     exact V
    ·rw[if_neg v]
     exact ai z (by omega) (by omega)
   simp only[a8,reduceCtorEq,ab,aa,bn l];exact⟨by omega,this⟩
 unfold vU
 apply T.eq
 simp only[a8,bn ah]
def te(c:Int->b7)(x:ae)(b a:Int):Int->b7:=λk=>(if k=a then [x] else [])++(if k=b then [] else c k)
structure AT(fB:dd)(aK:Nat)(Y:bq)(im:Int->b7)(x:ae)(a0 b:Int):Prop where
 aG:fB.length=6
 k9:∀W∈fB,iR W
 cF:yE fB
 hn:aK<6
 bE:fB[aK]?=some Y
 cQ:Y.1=true
 ak:Y.2.1=4 * a0+3
 uG:Y.2.2.2.2.length<=3000
 qg:∀(i:Nat) (Z:bq),i≠aK->fB[i]?=some Z->Z.1=true->Z.2.1<4 * a0
 ok:oF x
 q3:1<=a0/\a0<b/\b<=40
 apw:im a0=[x]
 free:∀k,a0<k->k<b->im k=[]
 dW:(im b).length<=3
def kp(a:dd)(aK:Nat)(Y:bq)(x:ae):dd:=a.set aK (true,Y.2.1,Y.2.2.1,Y.2.2.2.1,e0 Y.2.2.2.2 [(x,(true,0))])
def q5(t:cj)(c:dd)(aK:Nat)(Y:bq)(d:Int->b7)(x:ae)(b:Int)(q a:Int)(s:iA):Prop:=∃f,s=fI t (if a=b then c else kp c aK Y x) q f []/\mI f []/\∀k,cM f k=te d x b a k
theorem AT.O8{c:dd}{aK:Nat}{Y:bq}{n:Int->b7}{x:ae}{d b:Int}(h:AT c aK Y n x d b)(a:Int):∃f,(if a=d then c else kp c aK Y x)[aK]?=some f/\f.1=true/\f.2.1=4 * d+3/\(a=d->f=Y)/\f.2.2.2.2.length<=3001/\(if a=d then c else kp c aK Y x).length=6/\(∀W∈(if a=d then c else kp c aK Y x),iR W)/\yE (if a=d then c else kp c aK Y x)/\∀(i:Nat) (Z:bq),i≠aK->(if a=d then c else kp c aK Y x)[i]?=some Z->Z.1=true->Z.2.1<4 * d:=by
 have j:=mem_of_getElem? h.bE;have uG:=h.uG;have hn:=h.hn;have aG:=h.aG
 by_cases e:a=d
 ·rw[if_pos e]
  exact⟨Y,h.bE,h.cQ,h.ak,λ_=>rfl,by omega,h.aG,h.k9,h.cF,h.qg⟩
 ·rw[if_neg e]
  have ah:=DU Y.2.2.2.2 [(x,(true,0))];have l:iR (true,Y.2.1,Y.2.2.1,Y.2.2.2.1,e0 Y.2.2.2.2 [(x,(true,0))]):=yv (h.k9 Y j) ((h.k9 Y j).at' h.cQ) (λp ak=>by rw[List.mem_singleton]at ak;rw[ak];exact⟨h.ok,inl rfl⟩) (by show 1+_<=4096;omega);refine⟨(true,Y.2.1,Y.2.2.1,Y.2.2.2.1,e0 Y.2.2.2.2 [(x,(true,0))]),by unfold kp;rw[getElem?_set,if_pos rfl,if_pos (by omega)],rfl,h.ak,λm=>absurd m e,by show(e0 Y.2.2.2.2 [(x,(true,0))]).length<=3001;rw[length_singleton]at ah;omega,by unfold kp;rw[length_set];exact aG,λW ca=>?_,λi W ca o=>?_,λi Z k g=>?_⟩
  ·unfold kp at ca
   rcases lH ca with ca|rfl
   ·exact h.k9 W ca
   ·exact l
  ·unfold kp at ca
   rw[getElem?_set]at ca
   split at ca
   ·split at ca
    ·cases ca
     exact h.cF aK Y h.bE h.cQ
    ·cases ca
   ·exact h.cF i W ca o
  ·unfold kp at g
   rw[getElem?_set,if_neg (λe=>k e.symm)]at g;exact h.qg i Z k g
theorem amH{N:Nat}(a1:5000<N){cR}(eY:il N=some cR){t:cj}{g:dd}{aK:Nat}{Y:bq}{n:Int->b7}{x:ae}{d b:Int}(h:AT g aK Y n x d b){a B q r:Int}(bm:d<=a)(aC:0<B)(aD:a+B<=b)(aj:-4<=q/\q<=4)(w:-4<=r/\r<=4)(A:-4<=r+B/\r+B<=4)(H:1<=a-r/\a-r<=40){s:iA}(ad:q5 t g aK Y n x d q a s) :
  ey N cR (yD [a] q r B) s (q5 t g aK Y n x d (r+B) (a+B)):=by
 obtain⟨f,rfl,V,am⟩:=ad;obtain⟨P,S,T,aF,af,az,E,X,D,ac⟩:=h.O8 a;have av:=h.q3;obtain⟨c,U⟩:∃c:Nat,a-r=(c:Int)+1:=⟨(a-r-1).toNat,by omega⟩
 have v:∀k,cM f k=if k=a then [x] else if k=d then [] else n k:=λk=>by
  rw[am];unfold te
  by_cases aa:k=a
  ·rw[if_pos aa,if_pos aa]
   by_cases u:k=d
   ·rw[if_pos u,append_nil]
   ·rw[if_neg u,h.free k (by omega) (by omega),append_nil]
  ·rw[if_neg aa,if_neg aa,nil_append]
 have R:∀ys:dd,yE ys->∀W∈ys,W.1=true->W.2.1 % 4=3:=λys cF W ca hi=>by
  obtain⟨i,aq⟩:=List.mem_iff_getElem?.1 ca;exact cF i W aq hi
 have I:ey N cR (if q=r then [] else [tb r]) (fI t (if a=d then g else kp g aK Y x) q f []) (·=fI t (if a=d then g else kp g aK Y x) r f []):=by
  by_cases y:q=r
  ·rw[if_pos y,y]
   rfl
  ·rw[if_neg y]
   have C:=Yk a1 V aj w E X D h.hn S T (own t) [] [];exact ey.one ((OS (OR N w) rfl q f [] (own t) [] _ [] eY).trans C) rfl
 have J:ey N cR [pw 0 a] (fI t (if a=d then g else kp g aK Y x) r f []) λs=>∃f' g',s=fI t (if a=d then g else kp g aK Y x) r f' g'/\mI f' g'/\(∀k,cM f' k=if k=a then [] else if k=d then [] else n k)/\∀k,cM g' k=if k=a-r then [x] else []:=by
  refine Yc a1 eY E (R _ D) V (inl rfl) (by omega) H w (by rw[if_neg (by decide)]) (by rw[if_neg (by decide),v,if_pos rfl];simp) (by rw[if_neg (by decide),if_neg (by decide),v,if_pos rfl,OT];show 1+0<=4;decide) λf' g' o m l=>?_
  simp only[show((0:Int)=1)=False by simp,if_false]at m l;refine⟨f',g',rfl,o,λk=>?_,λk=>?_⟩
  ·rw[m,v]
   by_cases aa:k=a
   ·rw[if_pos aa,if_pos aa]
   ·rw[if_neg aa,if_neg aa,if_neg aa]
  ·rw[l,v,if_pos rfl,OT]
   by_cases aa:k=a-r
   ·rw[if_pos aa,if_pos aa,nil_append]
   ·rw[if_neg aa,if_neg aa]
 unfold yD;rw[if_neg (show ¬r=r+B by omega)];refine ey.append (Q:=λs=>∃f' g',s=fI t (kp g aK Y x) (r+B) f' g'/\mI f' g'/\(∀k,cM f' k=if k=a then [] else if k=d then [] else n k)/\∀k,cM g' k=if k=a-r then [x] else []) ?_ (ey.append (Q:=λs=>∃f' g',s=fI t (if a=d then g else kp g aK Y x) r f' g'/\mI f' g'/\(∀k,cM f' k=if k=a then [] else if k=d then [] else n k)/\∀k,cM g' k=if k=a-r then [x] else []) ?_ (ey.append ?_ I))
 ·rintro s ⟨f',g',rfl,o,m,l⟩
  obtain⟨au,ap,aG,aE,_,aA,M,ag,G,ah⟩:=h.O8 (d+1);rw[if_neg (show ¬d+1=d by omega)]at ap M ag G ah;have aw:(n (a+B)).length<=3:=by
   by_cases e:a+B=b
   ·rw[e];exact h.dW
   ·rw[h.free (a+B) (by omega) (by omega)];decide
  refine Yc a1 eY M (R _ G) o (inr rfl) H (c:=a+B) (by omega) A (by rw[if_pos rfl];omega) (by rw[if_pos rfl,l,if_pos rfl];simp) (by rw[if_pos rfl,if_pos rfl,l,if_pos rfl,m,if_neg (by omega),if_neg (by omega)];show 1+_<=4;omega) λal g2 F L K=>?_
  simp only[if_true]at L K;have ar:g2=[]:=AM F.ct.gs s6 (amf F.ct.gv.len (zero_le _) λk=>by
   rw[K,OT,l]
   by_cases aa:k=a-r
   ·rw[if_pos aa]
   ·rw[if_neg aa,if_neg aa])
  subst ar;refine⟨al,by rw[if_neg (show ¬a+B=d by omega)],F,λk=>?_⟩;rw[L,l,if_pos rfl,m];unfold te
  by_cases aa:k=a+B
  ·rw[if_pos aa,if_pos aa,if_neg (show ¬k=a by omega)]
  ·rw[if_neg aa,if_neg aa,nil_append]
   by_cases p:k=a
   ·rw[if_pos p]
    by_cases u:k=d
    ·rw[if_pos u]
    ·rw[if_neg u,h.free k (by omega) (by omega)]
   ·rw[if_neg p]
 ·rintro s ⟨f',g',rfl,o,m,l⟩
  have ab:g'.getD c []=[x]:=by
   have:=l ((c+1:Nat):Int)
   rw[jF (by omega) (by omega),if_pos (by omega)]at this;exact this
  have O:∀j,j≠c->g'.getD j []=[]:=λj ax=>by
   by_cases aB:j<40
   ·have:=l ((j+1:Nat):Int)
    rw[jF (by omega) (by omega),if_neg (by omega)]at this;exact this
   ·have:=o.ct.gv.len
    rw[getD_eq_getElem?_getD,getElem?_eq_none (by omega)]
    rfl
  have C:=amF a1 o w A (by omega) (λi hi ai z bF=>by
   have ay:i=c:=by
    by_cases e:i=c
    ·exact e
    ·exact absurd (O i e) ai
   rw[m]
   by_cases p:(i:Int)+1+z=a
   ·rw[if_pos p]
   ·rw[if_neg p,if_neg (by omega)]
    exact h.free _ (by omega) (by omega)) ab O h.ok E X D h.hn S T (by omega) (by omega) (λi Z an ak ao=>by have:=ac i Z an ak ao;omega) (own t) [] []
  refine ey.one ((OS (OR N A) rfl r f' g' (own t) [] _ [] eY).trans C) ⟨f',g',?_,o,m,l⟩
  by_cases e:a=d
  ·rw[if_pos (show P.2.1=4 * ((c:Int)+1+r)+3 by omega),af e]
   rw[if_pos e]
   rfl
  ·rw[if_neg (show ¬P.2.1=4 * ((c:Int)+1+r)+3 by omega),if_neg e]
   rfl
 ·rintro s rfl
  exact J
theorem amM{N:Nat}(a1:5000<N){cR}(eY:il N=some cR){t:cj}{g:dd}{aK:Nat}{Y:bq}{i:Int->b7}{x:ae}{c b:Int}(h:AT g aK Y i x c b){m:iA}{q:Int}(R:-4<=q/\q<=4){ops:c9}(ak:ops.length<=10000)(W:ey N cR ops m (q5 t g aK Y i x c q c)) :
  T (vK N [c] (b-c) q ops) λo=>(-4<=o.1/\o.1<=4)/\o.2.length<=ops.length+90/\ey N cR o.2 m (q5 t g aK Y i x c o.1 b):=by
 have ad:=h.q3;have ab:Hp N [c]=some [c]:=by
  unfold Hp
  apply T.eq
  simp only[a8,nil_append,length_nil,length_singleton];omega
 have dH:T (Vn N N (b-c,[c],q,ops)) λo=>(-4<=o.1/\o.1<=4)/\o.2.length<=ops.length+90/\ey N cR o.2 m (q5 t g aK Y i x c o.1 b):=by
  refine nk (λk s=>∃(a e:Int) (f:c9),(b-a).natAbs=k/\c<=a/\a<=b/\s=(b-a,[a],e,f)/\(-4<=e/\e<=4)/\f.length+18 * ((k+7) / 8)<=ops.length+90/\ey N cR f m (q5 t g aK Y i x c e a)) _ ?_ N (b-c).natAbs _ (by omega) ⟨c,q,ops,rfl,by omega,by omega,rfl,R,by omega,W⟩;rintro k s rec ⟨a,e,f,aa,P,ai,rfl,F,af,w⟩ S
  by_cases az:b-a=0
  ·have M:b=a:=by omega
   subst M;simp only[a8,reduceLT,reduceLE,reduceCtorEq,az];exact⟨F,by omega,w⟩
  ·have aj:=(amg (b-a)).1 (by omega)
   obtain⟨B,E⟩:∃B,B=jf (b-a):=⟨_,rfl⟩
   have n:=amh (b:=B) (last:=a) (q:=e) (by omega) (by omega) (by omega) (le_refl _);obtain⟨r,C⟩:∃r,r=wq B a a e:=⟨_,rfl⟩
   rw[<- C]at n;have D:=ami a1 (d:=b-a) (q:=r+B) (A:=[a]) (by simp) (λz bF=>by rw[List.mem_singleton]at bF;omega);rw[<- E]at D;have V:=λ(s:iA) (p:q5 t g aK Y i x c e a s)=>amH a1 eY h P (by omega) (by omega) F n.1 n.2.1 (by omega) p
   have Z:=w.append λs p=>V s p
   have L:gn (-8:Int) (if b-a<(8:Int)then b-a else(8:Int))=B:=E.symm;have K:gn (gn (gn (-4:Int) ((-4:Int)-B)) (a-(40:Int))) (jr (jr (jr (4:Int) ((4:Int)-B)) (a-(1:Int))) e)=r:=C.symm;have G:=OU (N:=N) r e (ops:=f) (by omega);obtain⟨j,u⟩:∃j,j=f++(if e=r then [] else [tb r]):=⟨_,rfl⟩
   have ag:j.length<=f.length+1:=by
    rw[u]
    split
    ·simp
    ·simp
   rw[<- u]at G;have H:=X4 a1 0 0 r (by decide) (ops:=j) (by omega) (A:=[a]) (by simp) (λz bF=>by rw[List.mem_singleton]at bF;omega);have ac:([a].map λz=>z-0)=[a]:=by simp
   rw[ac]at H;have I:=OU (N:=N) (r+B) r (ops:=j++[a].map (pw 0)) (by rw[length_append,length_map];show _+1<=_;omega);obtain⟨l,v⟩:∃l,l=j++[a].map (pw 0)++(if r=r+B then [] else [tb (r+B)]):=⟨_,rfl⟩
   have ah:l.length<=f.length+10:=by
    rw[v]
    split
    ·simp only[length_append,length_map,length_nil,length_singleton];omega
    ·simp only[length_append,length_map,length_singleton];omega
   rw[<- v]at I;have J:=X4 a1 1 r (r+B) (by omega) (ops:=l) (by omega) (A:=[a]) (by simp) (λz bF=>by rw[List.mem_singleton]at bF;omega);have y:l++([a].map λz=>z-r).map (pw 1)=f++yD [a] e r B:=by
    rw[v,u];unfold yD;simp only[append_assoc]
   rw[y]at J;have al:(f++yD [a] e r B).length<=f.length+18:=by
    rw[<- y,length_append,length_map,length_map];show l.length+1<=_;omega
   have Q:T (rec (b-a-B,[a].map (λz=>z+B),r+B,f++yD [a] e r B)) λo=>(-4<=o.1/\o.1<=4)/\o.2.length<=ops.length+90/\ey N cR o.2 m (q5 t g aK Y i x c o.1 b):=by
    refine S (b-(a+B)).natAbs _ (by omega) ⟨a+B,r+B,f++yD [a] e r B,rfl,by omega,by omega,?_,n.2.1,by omega,Z⟩;rw[show b-a-B=b-(a+B) by omega]
    rfl
   have O:(((1:Nat):Int)-1).toNat=0:=rfl;have X:[a].getD 0 0=a:=rfl;simp only[a8,reduceLE,reduceCtorEq,L,az,O,X,K,bn G,bn H,bn I,bn J,bn D,Int.toNat_zero,length_singleton]
   and_intros<;>first|omega|exact this
   all_goals first|exact Q|omega
 unfold vK;simp only[a8,bn ab];exact dH.mono λo U=>U
theorem amP{N:Nat}(a1:5000<N){cR}(eY:il N=some cR){t:cj}{d:dd}{aK:Nat}{Y:bq}{g:Int->b7}{x:ae}{a b:Int}(h:AT d aK Y g x a b){i:iA}(E:q5 t d aK Y g x a 0 a i) :
  T (vL N [a] [b]) λo=>o.2.2=0/\o.1.length<=100/\ey N cR o.1 i (q5 t d aK Y g x a 0 b):=by
 have Q:=h.q3;obtain⟨n,ba⟩:∃n,N=n+2:=⟨N-2,by omega⟩
 have fD:vJ N [a]=some 0:=by
  have dH:Ho N [a] N (0:Int)=some (.inl ()):=by
   subst ba;unfold Ho
   apply T.eq
   unfold cx;have I:¬a<1:=by omega
   have J:¬40<a:=by omega
   have c:[a].getD (0:Int).toNat 0=a:=rfl;unfold cx;simp only[a8,reduceCtorEq,show ¬(0:Int)+1<((1:Nat):Int) by decide]
   and_intros<;>first|omega|(simp only[dL];omega)|exact this|trivial
  unfold vJ
  apply T.eq
  simp only[a8,bn dH]
 have cK:Hs N [b] N (0:Int)=some (.inl ()):=by
  subst ba;unfold Hs
  apply T.eq
  unfold cx;have I:¬b<1:=by omega
  have J:¬40<b:=by omega
  have c:[b].getD (0:Int).toNat 0=b:=rfl;unfold cx;simp only[a8,reduceCtorEq,show ¬(0:Int)+1<((1:Nat):Int) by decide]
  and_intros<;>first|omega|(simp only[dL];omega)|exact this|trivial
 have p:Da N [a] [b] N ((0:Int),(0:Int),[],[],[])=some ((0:Int),[a],[b-a],[]):=by
  subst ba;unfold Da
  apply T.eq
  unfold cx;have c:[b].getD (0:Int).toNat 0=b:=rfl;have g2:[a].getD (0:Int).toNat 0=a:=rfl;simp only[a8,reduceLE,reduceCtorEq,length_singleton,c,g2,nil_append,length_nil,show(0:Int)<((1:Nat):Int) by decide,show ¬(0:Int)+1<((1:Nat):Int) by decide];unfold cx;simp only[a8,reduceCtorEq,length_singleton,show ¬(0:Int)+1<((1:Nat):Int) by decide]
  and_intros<;>first|omega|(simp only[dL];omega)|exact this|trivial
 have k:ur N (0:Int) [a] [b-a]=some 1:=by
  subst ba;have dH:Hq (n+2) (0:Int) [a] [b-a] (n+2) ((0:Int)+1)=some 1:=by
   unfold Hq
   apply T.eq
   unfold cx;simp only[a8,reduceLE,reduceCtorEq,length_singleton,show ¬(0:Int)+1<((1:Nat):Int) by decide]
   and_intros<;>first|omega|(simp only[dL];omega)|exact this|trivial
  unfold ur
  apply T.eq
  simp only[a8,bn dH]
  and_intros<;>first|omega|(simp only[dL];omega)|exact this|trivial
 have u:Ht N ((0:Int),[a],[b-a],([]:c9)) N ((0:Int),(0:Int),[])=some ((0:Int),[(0:Int)]):=by
  subst ba;unfold Ht
  apply T.eq
  unfold cx;simp only[a8,reduceCtorEq,length_singleton,length_nil,nil_append,bn k,show(0:Int)<((1:Nat):Int) by decide];unfold cx;simp only[a8,reduceCtorEq,length_singleton,show ¬(1:Int)<((1:Nat):Int) by decide]
  and_intros<;>first|omega|(simp only[dL];omega)|exact this|trivial
 have v:Hr N [(0:Int)]=some [(0:Int)]:=rfl;have l:=amj a1 [(0:Int)] (by decide);have P:=amM a1 eY h ⟨by decide,by decide⟩ (ops:=[]) (by decide) E;have F:(0:Int)<b-a:=by omega
 have c:[b-a].getD (0:Int).toNat 0=b-a:=rfl;have D:(([a].take (1:Int).toNat).drop (0:Int).toNat)=[a]:=rfl;have q:D7 [(0:Int)] [(0:Int)].length=[((0:Int),(0:Int),())]:=rfl;rw[q]at l;unfold vL;simp only[a8,reduceEq,reduceCtorEq,bn fD,bn cK,bn p,bn u,bn v,bn l,length_singleton];unfold kJ;unfold kJ;simp only[a8,reduceLE,reduceCtorEq,c,F,bn k,D];refine⟨by omega,by and_intros<;>first|omega|(simp only[dL];omega)|exact this|trivial,by and_intros<;>first|omega|(simp only[dL];omega)|exact this|trivial,P.mono ?_⟩;rintro⟨c8,wy⟩ ⟨GP,Pa,qp⟩;dsimp only at GP Pa qp;have w:Hu N ((0:Int),[a],[b-a],([]:c9)) ((0:Int),[(0:Int)]) N ((0:Int),wy,c8)=some (wy,c8):=by
  subst ba;unfold Hu
  apply T.eq
  unfold cx;have A:[(0:Int)].getD (0:Int).toNat 0=0:=rfl;simp only[a8,reduceLE,reduceCtorEq,length_singleton,A,c,show(0:Int)<((1:Nat):Int) by decide,show ¬b-a<0 by omega];unfold cx;simp only[a8,reduceCtorEq,show ¬(0:Int)+1<((1:Nat):Int) by decide]
  and_intros<;>first|omega|(simp only[dL];omega)|exact this|trivial
 have y:=OU (N:=N) 0 c8 (ops:=wy) (by rw[length_nil]at Pa;omega);have z:=OX N (wy++if c8=0 then [] else [tb 0]);have L:ey N cR (wy++if c8=0 then [] else [tb 0]) i (q5 t d aK Y g x a 0 b):=by
  refine qp.append ?_;rintro s ⟨f,rfl,j,m⟩
  by_cases e:c8=0
  ·rw[if_pos e,e]
   exact⟨f,rfl,j,m⟩
  ·rw[if_neg e]
   obtain⟨R,H,K,_,_,_,G,O,C,_⟩:=h.O8 b;have B:=Yk a1 j GP (r:=0) ⟨by decide,by decide⟩ G O C h.hn H K (own t) [] [];exact ey.one ((OS (OR N ⟨by decide,by decide⟩) rfl c8 f [] (own t) [] _ [] eY).trans B) ⟨f,rfl,j,m⟩
 have M:(wy++if c8=0 then [] else [tb 0]).length<=100:=by
  rw[length_nil]at Pa;rw[length_append]
  split
  ·show wy.length+0<=100
   omega
  ·show wy.length+1<=100
   omega
 simp only[bn w,bn y,bn z];exact⟨M,L⟩
theorem amV(b r:Int)(l:bV):∀i:Nat,∀p∈iS b r i l,p.2.1.1=b/\p.2.2=e6 b p.2.1.2 r/\(i:Int)<p.2.1.2/\p.2.1.2<=(i:Int)+l.length/\p.1∈l.getD (p.2.1.2-i-1).toNat []:=by
 induction l with
 |nil=>intro i p ak;cases ak
 |cons s l d=>
  intro i p ak
  rcases List.mem_append.1 ak with ak|ak
  ·obtain⟨a,bm,rfl⟩:=List.mem_map.1 ak
   refine⟨rfl,rfl,?_,?_,?_⟩
   ·show(i:Int)<(i:Int)+1
    omega
   ·show(i:Int)+1<=(i:Int)+((s::l).length:Nat)
    rw[length_cons];omega
   ·show a∈(s::l).getD ((i:Int)+1-i-1).toNat []
    rw[show((i:Int)+1-i-1).toNat=0 by omega];exact bm
  ·obtain⟨I,J,ag,e,c⟩:=d (i+1) p ak
   refine⟨I,J,by omega,?_,?_⟩
   ·rw[length_cons]
    omega
   ·rw[show(p.2.1.2-(i:Int)-1).toNat=(p.2.1.2-((i+1:Nat):Int)-1).toNat+1 by omega,List.getD_cons_succ]
    exact c
section
variable {N:Nat} (a1:5000<N) {cR:List (Int×Option Nat)} (eY:il N=some cR) {f:bV} {ys:dd} {t:cj} (h:hV f ys t) {y:Nat} (aG:y<6) {Y:bq} (bE:ys[y]?=some Y) (cQ:Y.1=true)
include a1 h aG bE cQ
theorem Yw(eY:il N=some cR)(P:dz t<100){a:Nat}(I:1<=a)(J:a<=40)(ak:Y.2.1<4 * (a:Int)+2)(O:∀k:Int,Y.2.1<4 * k+2->k<(a:Int)->cM f k=[])(L:f.getD (a-1) []≠[]){Q:iA->Prop}(M:∀f',jM f' []->(∀k,f'.getD k []=if k=a-1 then [((y:Int)+1,Y.2.2.1)] else f.getD k [])->hV f' (ys.set y (true,4 * (a:Int)+2+1,Y.2.2.1+1,false,[])) (gz t y (0,(Y.2.2.2.1,(f.getD (a-1) [],Y.2.2.2.2))))->Q (fI (gz t y (0,(Y.2.2.2.1,(f.getD (a-1) [],Y.2.2.2.2)))) (ys.set y (true,4 * (a:Int)+2+1,Y.2.2.1+1,false,[])) 0 f' [])) :
  ey N cR [(4,(1,((0,(a:Int)),((y:Int)+1,0))))] (fI t ys 0 f []) Q:=by
 have j:=mem_of_getElem? bE;have g:=h.js Y j;have o:(((0:Int),(a:Int)).1=0\/((0:Int),(a:Int)).1=1)/\1<=((0:Int),(a:Int)).2/\((0:Int),(a:Int)).2<=40:=⟨inl rfl,by dsimp only;omega,by dsimp only;omega⟩
 have w:e6 0 (a:Int) 0=4 * (a:Int)+2:=rfl;have E:=al6 I J;have ab:=Xq (N:=N) aG bE cQ o (r:=0) ⟨by decide,by decide⟩ (by rw[w];exact le_of_lt ak) 4 f [] (own t) [] [];rw[w]at ab;have H:∀q∈gF f [] 0,¬(Y.2.1<q.2.2/\q.2.2<4 * (a:Int)+2):=by
  intro q d U;rw[XT]at d;obtain⟨ae,K,ai,aj,u⟩:=amV 0 0 f 0 q d;have af:q.2.2=4 * q.2.1.2+2:=by rw[K];rfl
  have c:=O q.2.1.2 (by omega) (by omega);unfold cM at c;rw[if_pos ⟨by omega,by have:=h.ct.ft.len;omega⟩]at c;rw[show(q.2.1.2-((0:Nat):Int)-1).toNat=(q.2.1.2-1).toNat by omega,c]at u;cases u
 have U:=aln a1 h.ct.ft wo h.sv.j4 ⟨by decide,by decide⟩ h.sv.dW (OO.qd f) aG bE g cQ E.1 ak H (own t) [] [];have X:=(List.getElem?_eq_some_iff.1 bE).1;have v:hV f (ys.set y (true,4 * (a:Int)+2+1,Y.2.2.1,Y.2.2.2.1,Y.2.2.2.2)) t:=by
  have Z:iR (true,4 * (a:Int)+2+1,Y.2.2.1,Y.2.2.2.1,e0 Y.2.2.2.2 []):=yv g E.1 (λp ak=>by cases ak) (by have:=g.dW;show 0+_<=4096;omega);exact h.go bE Z rfl (λp ak=>h.q4 Y j p ak) (λ_ c=>h.mb Y j cQ c)
 have l:(ys.set y (true,4 * (a:Int)+2+1,Y.2.2.1,Y.2.2.2.1,Y.2.2.2.2))[y]?=some (true,4 * (a:Int)+2+1,Y.2.2.1,Y.2.2.2.1,Y.2.2.2.2):=by
  rw[getElem?_set,if_pos rfl,if_pos X]
 have c7:=wk (N:=N) h.ct (inl rfl) I J;rw[if_neg (by decide)]at c7;have A:=h.jD y Y bE;have cW:=qZ (t:=t) y;have W:((y:Int)+1,Y.2.2.1) ∉ f.flatten:=λeh=>by
  have c:=h.has eh;rw[A]at c;exact yr (by rw[h.len];exact aG) (0,(true,([],[]))) c
 have ac:=D1 (b:=0) (a:=a) h.ct;have F:oF ((y:Int)+1,Y.2.2.1):=⟨by dsimp only;omega,by dsimp only;omega,by dsimp only;omega,by dsimp only;omega⟩
 have G:=IF a1 h.ct h.sv.j4 (by have:=h.sv.dW;omega) (inl rfl) I J (s:=[((y:Int)+1,Y.2.2.1)]) (by simp) (λx an=>by rw[List.mem_singleton]at an;rw[an];exact F) (by simp) (λx an=>by
  rw[List.mem_singleton]at an;refine inr λeh=>?_
  rw[an]at eh
  rcases List.mem_append.1 eh with eh|eh
  ·exact W eh
  ·cases eh)
 obtain⟨⟨⟨f',g'⟩,ah⟩,R,B,e,n,m⟩:=G;dsimp only at B e n m;have ad:g'=[]:=AM e.gs s6 λk=>by
  rw[m,if_neg (λh=>absurd h.1 (by decide))]
 subst ad B;have C:=Ou a1 (f':=f') (g':=[]) h.len (by omega) aG l (v.js _ (mem_of_getElem? l)) rfl (by show Y.2.2.1=_;exact A) (stack:=[]) (thr:=f.getD (a-1) []) (by simp) R 4 1 0 [] [];rw[set_set]at C;have i:∀k,f'.getD k []=if k=a-1 then [((y:Int)+1,Y.2.2.1)] else f.getD k []:=λk=>by
  rw[n]
  by_cases aa:k=a-1
  ·rw[if_pos ⟨rfl,aa⟩,if_pos aa]
  ·rw[if_neg (λh=>aa h.2),if_neg aa]
 have z:(f'.flatten++f.getD (a-1) []).Perm (f.flatten++[((y:Int)+1,Y.2.2.1)]):=by
  rw[perm_iff_count];intro x;have c:=amn h.ct e ⟨I,J⟩ (λk aa=>by rw[i,if_neg aa]) x;rw[i,if_pos rfl]at c;rw[count_append,count_append];exact c
 have V:=z.length_eq;rw[length_append,length_append,length_singleton]at V;have al:=h.dW;have ag:=List.length_pos_iff.2 L;have S:∀x∈f.getD (a-1) [],x∈f.flatten:=λx an=>by
  rw[getD_eq_getElem?_getD]at an;cases d:f[a-1]? with
  |none=>rw[d]at an;cases an
  |some s=>
   rw[d]at an;exact List.mem_flatten.2 ⟨s,mem_of_getElem? d,an⟩
 have D:=v.put aG l rfl P S ac.1 e (by omega) z;rw[set_set]at D;have az:=Ot (Iv N (inl rfl) (inr rfl) o ⟨by omega,by omega⟩ (y:=(y:Int)+1)) rfl 0 f [] (own t) [] ys [] eY;refine ey.one (az.trans ?_) (M f' e i D);unfold ya
 apply T.eq
 simp only[a8,bn ab,bn U,bn c7,bn C]
 rfl
end
theorem Yx(N:Nat)(p q:b3):T (Aw N p q) λr=>(r<0↔p.2.2<q.2.2):=by
 unfold Aw C4 C3
 by_cases h:p.2.2<q.2.2
 ·simp only[a8,reduceLT,reduceCtorEq,h]<;>decide
 ·simp only[a8,reduceLT,reduceCtorEq,h]
theorem amX{N:Nat}(a1:5000<N){A B:ed}{p:b3}(ad:mG A)(ah:(A++p::B).length<=1000):T (Di N (0:Int) N ((A.length:Int),A++p::B)) λR=>∃C,R=C++B/\C.Perm (A++[p])/\mG C:=by
 rw[length_append,length_cons]at ah;refine nk (λk d=>∃e C:ed,e.length=k/\d=((e.length:Int),e++p::(C++B))/\e++C=A/\∀c∈C,p.2.2<c.2.2) _ ?_ N A.length _ (by omega) ⟨A,[],rfl,rfl,append_nil A,λc U=>by cases U⟩;rintro k d rec ⟨e,C,rfl,rfl,g,cF⟩ j;have w:e.length+C.length=A.length:=by rw[<- g,length_append]
 have o:e=[]\/(∃q,e.getLast?=some q/\q.2.2<=p.2.2)->∃iO,e++p::(C++B)=iO++B/\iO.Perm (A++[p])/\mG iO:=by
  intro f;refine⟨e++p::C,by rw[append_assoc];rfl,?_,?_⟩
  ·rw[<- g,append_assoc]
   refine List.Perm.append_left e ?_;exact(List.perm_append_singleton p C).symm
  ·have z:mG (e++C):=by rw[g];exact ad
   obtain⟨I,J,ag⟩:=List.pairwise_append.1 z;refine List.pairwise_append.2 ⟨I,List.pairwise_cons.2 ⟨λc U=>le_of_lt (cF c U),J⟩,λa bm c U=>?_⟩;have kR:a.2.2<=p.2.2:=by
    rcases f with rfl|⟨q,f,s⟩
    ·cases bm
    ·obtain⟨b,rfl⟩:∃b,e=b++[q]:=by
      obtain⟨l,ah⟩:=List.getLast?_eq_some_iff.1 f;exact⟨l,ah⟩
     rcases List.mem_append.1 bm with bm|bm
     ·exact Int.le_trans ((List.pairwise_append.1 I).2.2 a bm q (by simp)) s
     ·rw[List.mem_singleton]at bm
      rw[bm];exact s
   rcases List.mem_cons.1 U with rfl|U
   ·exact kR
   ·exact ag a bm c U
 rcases List.eq_nil_or_concat e with rfl|⟨b,q,rfl⟩
 ·have:=o (inl rfl)
  simp only[a8,reduceCtorEq,length_nil,show ¬(0<((0:Nat):Int)) by omega];exact this
 ·simp only[List.concat_eq_append]at w j g o ⊢
  rw[length_append,length_singleton]at w j ⊢;have y:0<((b.length+1:Nat):Int):=by omega
  have v:(((b.length+1:Nat):Int)).toNat=b.length+1:=by omega
  have u:(((b.length+1:Nat):Int)-1)=((b.length:Nat):Int):=by omega
  have ak:(b++[q]++p::(C++B))[b.length+1]?=some p:=by
   rw[getElem?_append_right (by simp),length_append,length_singleton,sub_self]
   rfl
  have f:(b++[q]++p::(C++B))[b.length]?=some q:=by
   rw[append_assoc,getElem?_append_right (Nat.le_refl _),sub_self]
   rfl
  have t:((b++[q]++p::(C++B)).set (b.length+1) q).set b.length p=b++p::(q::C++B):=by
   rw[set_append_right _ _ (by simp),length_append,length_singleton,sub_self,append_assoc,set_append_right _ _ (Nat.le_refl _),sub_self]
   rfl
  have dH:(b++[q]++p::(C++B)).length=b.length+1+(1+(C.length+B.length)):=by
   simp only[length_append,length_cons,length_nil];omega
  obtain⟨M,D⟩:∃M,M=b++[q]++p::(C++B):=⟨_,rfl⟩
  by_cases m:p.2.2<q.2.2
  ·have this:=j b.length ((b.length:Int),b++p::(q::C++B)) (by omega) ⟨b,q::C,rfl,rfl,by rw[<- g,append_assoc];rfl,λc U=>by
    rcases List.mem_cons.1 U with rfl|U
    ·exact m
    ·exact cF c U⟩
   simp only[a8,reduceLT,reduceCtorEq,y,u,v,ck ak,ck f,length_set,t];refine⟨by and_intros<;>first|omega|(simp only[dL];omega)|exact this|trivial,(Yx N p q).mono λr i=>?_⟩;have n:=i.2 m;simp only[n];refine⟨λ_=>?_,λh=>absurd trivial h⟩
   and_intros<;>first|omega|exact this
  ·have:=o (inr ⟨q,by rw[List.getLast?_concat],by omega⟩)
   simp only[a8,reduceLT,reduceCtorEq,y,u,v,ck ak,ck f,length_set,t];refine⟨by and_intros<;>first|omega|(simp only[dL];omega)|exact this|trivial,(Yx N p q).mono λr i=>?_⟩;have n:¬r<0:=λh=>m (i.1 h)
   simp only[n];exact⟨λh=>h.elim,λ_=>this⟩
theorem amY{N:Nat}(a1:5000<N){L:ed}(ah:L.length<=1000):T (x5 N (0:Int) (L.length:Int) L) λR=>R.Perm L/\mG R:=by
 have dH:T (Ns N 0 (L.length:Int) N (0+1,L)) λR=>R.Perm L/\mG R:=by
  refine nk (λk d=>∃(A B:ed),A.length+k=L.length+1/\(0<A.length\/L=[])/\d=((A.length:Int)+(if L=[] then 1 else 0),A++B)/\mG A/\(A++B).Perm L) _ ?_ N (L.length+(if L=[] then 1 else 0)) _ (by split<;>omega) ?_
  ·rintro k d rec ⟨A,B,hi,n,rfl,ad,a⟩ l
   have b:=a.length_eq;rw[length_append]at b
   by_cases ba:L=[]
   ·subst ba
    rw[length_nil]at b hi;have j:A=[]:=List.eq_nil_of_length_eq_zero (by omega);have c:B=[]:=List.eq_nil_of_length_eq_zero (by omega);subst j c;rw[if_pos rfl];simp only[a8,reduceCtorEq,length_nil,show ¬(((0:Nat):Int)+1<((0:Nat):Int)) by omega];exact⟨List.Perm.refl _,List.Pairwise.nil⟩
   ·rw[if_neg ba]
    by_cases o:A.length<L.length
    ·obtain⟨p,B',rfl⟩:∃p B',B=p::B':=by
      cases B with
      |nil=>rw[length_nil]at b;omega
      |cons p B'=>exact⟨p,B',rfl⟩
     have f:(A.length:Int)<(L.length:Int):=by omega
     rw[add_zero];simp only[a8,reduceCtorEq,f];refine(amX a1 ad (by rw[length_append];omega)).mono ?_;rintro R ⟨C,rfl,g,i⟩;have h:=g.length_eq;rw[length_append,length_singleton]at h;have this:=l (k-1) ((C.length:Int),C++B') (by omega) ⟨C,B',by omega,inl (by omega),by rw[if_neg ba,add_zero],i,(g.append_right B').trans (by rw[append_assoc];exact a)⟩;have e:(C.length:Int)=(A.length:Int)+1:=by omega
     rw[e]at this;exact⟨by omega,this⟩
    ·have f:¬(A.length:Int)<(L.length:Int):=by omega
     have c:B=[]:=List.eq_nil_of_length_eq_zero (by omega);subst c;rw[append_nil]at a;rw[add_zero];simp only[a8,reduceCtorEq,f,append_nil];exact⟨a,ad⟩
  ·cases L with
   |nil=>exact⟨[],[],rfl,inr rfl,rfl,List.Pairwise.nil,List.Perm.refl _⟩
   |cons x L=>
    refine⟨[x],L,?_,inl (by simp),?_,List.pairwise_singleton _ _,List.Perm.refl _⟩
    ·rw[if_neg (by simp),length_singleton]
     omega
    ·rw[if_neg (by simp)]
     rfl
 unfold x5;rw[qX (by rfl)];simp only[a8];exact dH.mono λR m=>m
theorem am1{N:Nat}(a1:5000<N){L:ed}(ah:L.length<20):T (x6 N L) λR=>R.Perm L/\mG R:=by
 obtain⟨n,ba⟩:∃n,N=n+1:=⟨N-1,by omega⟩
 have I:Nt N (L.length:Int) N (0,20,L)=some (0,L):=by
  rw[ba];show cond (decide (20<=(L.length:Int))) _ (some (0,L))=_;rw[decide_eq_false (by omega)]
  rfl
 have a:Nu N (L.length:Int) N 20=some ():=by
  rw[ba];show cond (decide (20<(L.length:Int))) _ (some ())=_;rw[decide_eq_false (by omega)]
  rfl
 unfold x6 HA;simp only[a8,bn I,bn a];exact(amY a1 (by omega)).mono λR b=>b
def IT(L:ed):Prop:=L.Pairwise λp q=>p.2.2<q.2.2
theorem YB:∀ {R a6:ed},R.Perm a6->mG R->IT a6->R=a6
 |[],a6,h,_,_=>(List.nil_perm.1 h).symm
 |a::R,[],h,_,_=>absurd h.length_eq (by simp)
 |a::R,b::a6,h,d,f=>by
  obtain⟨I,J⟩:=List.pairwise_cons.1 d;obtain⟨ag,c⟩:=List.pairwise_cons.1 f;have e:a=b:=by
   rcases List.mem_cons.1 (h.mem_iff.1 (List.mem_cons_self))with e|bm
   ·exact e
   ·rcases List.mem_cons.1 (h.mem_iff.2 (List.mem_cons_self))with e|ab
    ·exact e.symm
    ·have i:=ag a bm
     have g:=I b ab;omega
  subst e;rw[YB (List.perm_cons a |>.1 h) J c]
theorem am2{N:Nat}(a1:5000<N){f g:bV}(aC:hD f)(b:hD g)(ba:(f.flatten++g.flatten).Nodup){r:Int}(a:-4<=r/\r<=4)(U:f.flatten.length+g.flatten.length<20){a6:ed}(e:a6.Perm (gF f g r))(d:IT a6) :
  T (qN N (f,g) r) λq=>q.1=a6/\q.2.2=0:=by
 have aa:uw N r=some true:=by
  unfold uw;rw[decide_eq_true a.1,decide_eq_true a.2]
  rfl
 have h:ux N (f,g) r=some 0:=by
  unfold ux
  apply T.eq
  simp only[a8,reduceEq,reduceCtorEq,bn (AJ a1 aC b ba (by omega)),bn aa]
 have I:=Is a1 (inl rfl) a aC [] (by rw[length_nil];omega);rw[nil_append]at I;have J:=Is a1 (inr rfl) a b (iS 0 r 0 f) (by rw[DZ];omega);have j:=yw f g r;unfold qN;simp only[a8,bn h,bn (Og a1 aC.len b.len (by omega)),bn I,bn J];refine⟨by omega,?_⟩;refine(am1 a1 (L:=gF f g r) (by omega)).mono λR c=>?_
 have i:=c.1.length_eq;simp only[bn (Xf N R (by omega))];exact YB (c.1.trans e.symm) c.2 d
def kq(b:Int)(l:bV)(k:Nat):ed:=(l.getD k []).map λa=>(a,((b,(k:Int)+1),e6 b ((k:Int)+1) 0))
def mix(f g:bV):ed:=(range 40).flatMap λk=>kq 1 g k++kq 0 f k
theorem am3{α β:Type}(l:List α):l.flatMap (λ_=>([]:List β))=[]:=by
 induction l with
 |nil=>rfl
 |cons a l b=>rw[flatMap_cons,b];rfl
theorem am4(b:Int)(l:bV):∀(i n:Nat),l.length<=n->iS b 0 i l=(range n).flatMap λk=>(l.getD k []).map λa=>(a,((b,((i+k:Nat):Int)+1),e6 b (((i+k:Nat):Int)+1) 0)):=by
 induction l with
 |nil=>
  intro i n _
  have:(λk=>(([]:bV).getD k []).map λa:ae=>(a,((b,((i+k:Nat):Int)+1),e6 b (((i+k:Nat):Int)+1) 0)))=λ_:Nat=>([]:ed):=funext λk=>by cases k<;>rfl
  rw[this,am3]
  rfl
 |cons s l c=>
  intro i n ba;obtain⟨m,rfl⟩:∃m,n=m+1:=⟨n-1,by rw[length_cons]at ba;omega⟩
  rw[List.range_succ_eq_map,flatMap_cons,List.flatMap_map];show _++iS b 0 (i+1) l=_;rw[c (i+1) m (by rw[length_cons]at ba;omega)]
  congr 1
  refine congrArg (λF=>flatMap F (range m)) (funext λk=>?_);rw[show i+1+k=i+(k+1) by omega]
  rfl
theorem YC(b:Int){l:bV}(h:l.length<=40):iS b 0 0 l=(range 40).flatMap (kq b l):=by
 rw[am4 b l 0 40 h];refine congrArg (λF=>flatMap F (range 40)) (funext λk=>?_);rw[Nat.zero_add]
 rfl
theorem YD{α β:Type}(F G:α->List β):∀l:List α,(l.flatMap λa=>F a++G a).Perm (l.flatMap G++l.flatMap F)
 |[]=>List.Perm.refl _
 |a::l=>by
  rw[flatMap_cons,flatMap_cons,flatMap_cons];refine((YD F G l).append_left (F a++G a)).trans ?_;rw[append_assoc,append_assoc];refine(List.perm_append_comm).trans ?_;rw[append_assoc,append_assoc];refine List.Perm.append_left (G a) (List.Perm.append_left _ ?_);exact List.perm_append_comm
theorem Pd{f g:bV}(aC:f.length<=40)(a:g.length<=40):(mix f g).Perm (gF f g 0):=by
 unfold mix gF;rw[YC 0 aC,YC 1 a];exact YD _ _ _
theorem wz{b:Int}{l:bV}{k:Nat}{p:b3}(h:p∈kq b l k):p.2.1.1=b/\p.2.2=e6 b ((k:Int)+1) 0/\p.1∈l.getD k []:=by
 obtain⟨a,bm,rfl⟩:=List.mem_map.1 h;exact⟨rfl,rfl,bm⟩
theorem Eh(k:Int):e6 0 k 0=4 * k+2:=rfl
theorem Ei(k:Int):e6 1 k 0=4 * k:=by
 unfold e6;omega
theorem YE{α:Type}{R:α->α->Prop}{l:List α}(h:l.length<=1):l.Pairwise R:=by
 cases l with
 |nil=>exact List.Pairwise.nil
 |cons a l=>
  cases l with
  |nil=>exact List.pairwise_singleton _ _
  |cons b l=>simp at h
theorem am5{f g:bV}(I:∀k,(f.getD k []).length<=1)(J:∀k,(g.getD k []).length<=1):IT (mix f g):=by
 unfold IT mix;rw[List.pairwise_flatMap];refine⟨λk _=>?_,?_⟩
 ·rw[List.pairwise_append]
  refine⟨YE (by unfold kq;rw[length_map];exact J k),YE (by unfold kq;rw[length_map];exact I k),λp ak q ao=>?_⟩;have a:=(wz ak).2.1;have b:=(wz ao).2.1;rw[Ei]at a;rw[Eh]at b;omega
 ·refine List.Pairwise.imp ?_ List.pairwise_lt_range
  intro k m c p ak q ao;have a:p.2.2<=4 * ((k:Int)+1)+2:=by
   rcases List.mem_append.1 ak with ak|ak
   ·have:=(wz ak).2.1
    rw[Ei]at this;omega
   ·have:=(wz ak).2.1
    rw[Eh]at this;omega
  have b:4 * ((m:Int)+1)<=q.2.2:=by
   rcases List.mem_append.1 ao with ao|ao
   ·have:=(wz ao).2.1
    rw[Ei]at this;omega
   ·have:=(wz ao).2.1
    rw[Eh]at this;omega
  omega
theorem YF{f g:bV}(aC:f.length<=40)(a:g.length<=40):(mix f g).length=f.flatten.length+g.flatten.length:=by
 rw[(Pd aC a).length_eq,yw]
theorem YG{f g:bV}(aC:f.length<=40)(a:g.length<=40):((mix f g).map λp:b3=>p.1).Perm (f.flatten++g.flatten):=by
 have:=(Pd aC a).map λp:b3=>p.1
 rw[Ol]at this;exact this
def uJ(p:b3):cU:=(p.1,(decide (p.2.1.1=1),1))
theorem am6{N:Nat}(a1:5000<N){L:ed}(ah:L.length<=1000){a b:Int}(n:a<b):p8 N L a b=some (((L.filter (gN b a)).map uJ),(L.filter (gN b a)).length):=by
 have dH:x7 N L (a,b,1) N (0,[])=some ((L.filter (gN b a)).map uJ):=by
  refine fp (λk d=>∃i:Nat,i+k=L.length/\d=((i:Int),((L.take i).filter (gN b a)).map uJ)) _ ?_ N L.length _ (by omega) ⟨0,by omega,rfl⟩;rintro k d rec ⟨i,hi,rfl⟩ g
  apply T.eq
  by_cases j:i<L.length
  ·obtain⟨x,an⟩:∃x,L[i]?=some x:=⟨_,getElem?_eq_getElem j⟩
   have e:(i:Int)<(L.length:Int):=by omega
   have m:((L.take i).filter (gN b a)).length<=1000:=by
    have I:=length_filter_le (gN b a) (L.take i);rw[length_take]at I;omega
   have c:=g (k-1) _ (by omega) ⟨i+1,by omega,rfl⟩;rw[q1 an,List.filter_append,map_append]at c;rw[decide_eq_true e,cond_true];rw[toNat_natCast,ck an];cases ab:gN b a x with
   |true=>
    rw[show [x].filter (gN b a)=[x] by simp[ab]]at c;have this:T (rec ((i:Int)+1,((L.take i).filter (gN b a)).map uJ++[uJ x])) (·=(L.filter (gN b a)).map uJ):=⟨_,c,rfl⟩
    have f:cond (decide (a<x.2.2)) (decide (x.2.2<b)) false=true:=ab;rw[f,cond_true];simp only[a8,length_map,length_singleton]
    and_intros<;>first|omega|(simp only[dL];omega)|exact this|trivial
   |false=>
    rw[show [x].filter (gN b a)=[] by simp[ab],List.map_nil,append_nil]at c;have this:T (rec ((i:Int)+1,((L.take i).filter (gN b a)).map uJ)) (·=(L.filter (gN b a)).map uJ):=⟨_,c,rfl⟩
    have f:cond (decide (a<x.2.2)) (decide (x.2.2<b)) false=false:=ab;rw[f,cond_false];simp only[a8]
    and_intros<;>first|omega|(simp only[dL];omega)|exact this|trivial
  ·have e:¬(i:Int)<(L.length:Int):=by omega
   simp only[a8,reduceCtorEq,e];rw[take_of_length_le (by omega)]
 have m:=length_filter_le (gN b a) L;have o:∀l:eg,l.length<=100000->sZ N l=some (l,l.length):=by
  intro l h;unfold sZ
  apply T.eq
  simp only[a8,length_replicate];omega
 unfold p8;rw[decide_eq_true n];show Option.bind (x7 N L (a,b,1) N (0,[])) _=_;rw[dH,bind_some];show Option.bind (sZ N _) _=_;rw[o _ (by rw[length_map];omega),bind_some,length_map]
def nr(f g:bV)(p e:Int):eg:=if p<e then((mix f g).filter (gN e p)).map uJ else(((mix f g).filter (gN p e)).map r6).reverse
theorem Pe{f g:bV}(aC:f.length<=40)(a:g.length<=40){p e:Int}{q:cU}(h:q∈nr f g p e):q.1∈f.flatten++g.flatten/\(q.2.2=0\/q.2.2=1):=by
 have key:∀x∈mix f g,x.1∈f.flatten++g.flatten:=λx an=>(YG aC a).mem_iff.1 (List.mem_map.2 ⟨x,an,rfl⟩)
 unfold nr at h
 split at h
 ·obtain⟨x,an,rfl⟩:=List.mem_map.1 h
  exact⟨key x (List.mem_filter.1 an).1,inr rfl⟩
 ·rw[List.mem_reverse]at h
  obtain⟨x,an,rfl⟩:=List.mem_map.1 h;exact⟨key x (List.mem_filter.1 an).1,inl rfl⟩
theorem YH{f g:bV}(aC:f.length<=40)(a:g.length<=40)(p e:Int):(nr f g p e).length<=f.flatten.length+g.flatten.length:=by
 have ah:=YF aC a;unfold nr
 split
 ·rw[length_map]
  have:=length_filter_le (gN e p) (mix f g)
  omega
 ·rw[List.length_reverse,length_map]
  have:=length_filter_le (gN p e) (mix f g)
  omega
theorem YI{N:Nat}(a1:5000<N){f g:bV}(ah:(mix f g).length<=1000){p e:Int}(a:p≠e):∃n,p8 N (mix f g) p e=some (nr f g p e,n):=by
 unfold nr
 by_cases h:p<e
 ·rw[if_pos h,am6 a1 ah h]
  exact⟨_,rfl⟩
 ·rw[if_neg h,XW a1 ah (by omega)]
  exact⟨_,rfl⟩
theorem am7{N:Nat}(a1:5000<N){f g:bV}(h:jM f g)(ba:(f.flatten++g.flatten).Nodup)(U:f.flatten.length+g.flatten.length<20)(I:∀k,(f.getD k []).length<=1)(J:∀k,(g.getD k []).length<=1):∃c,qN N (f,g) 0=some (mix f g,c,0):=by
 obtain⟨⟨a6,c,e⟩,a,rfl,rfl⟩:=am2 a1 h.ft h.gv ba (by decide) U (Pd h.ft.len h.gv.len) (am5 I J);exact⟨c,a⟩
theorem am8{N:Nat}(a1:5000<N){f g:bV}{r:Int}{R:ed}{c:Nat}(e:qN N (f,g) r=some (R,c,0))(m:R.length<20):pj N (f,g) r=some (R.map λp:b3=>p.1):=by
 have dH:HI N (R,c,0) N (0,replicate R.length (aS.zero:ae))=some (R.map λp:b3=>p.1):=by
  rw[<- WQ (λp:b3=>p.1) (aS.zero:ae) R];refine fp (λk d=>∃i:Nat,i+k=R.length/\d=((i:Int),nX (λp:b3=>p.1) (aS.zero:ae) R i)) _ ?_ N R.length _ (by omega) ⟨0,by omega,by rw[WO];rfl⟩;rintro k d rec ⟨i,hi,rfl⟩ h
  apply T.eq
  by_cases b:i<R.length
  ·obtain⟨x,an⟩:∃x,R[i]?=some x:=⟨_,getElem?_eq_getElem b⟩
   have a:(i:Int)<(R.length:Int):=by omega
   have j:=WR (λp:b3=>p.1) (aS.zero:ae) R i (by omega);have this:T (rec ((i:Int)+1,nX (λp:b3=>p.1) (aS.zero:ae) R (i+1))) (·=nX (λp:b3=>p.1) (aS.zero:ae) R R.length):=⟨_,h (k-1) _ (by omega) ⟨i+1,by omega,rfl⟩,rfl⟩
   have l:=N5 (λp:b3=>p.1) (aS.zero:ae) R i b x an;simp only[a8,reduceCtorEq,a,ck an,j,l]
   and_intros<;>first|omega|exact this
  ·have a:¬(i:Int)<(R.length:Int):=by omega
   simp only[a8,reduceCtorEq,a];rw[show i=R.length by omega]
 unfold pj
 apply T.eq
 simp only[a8,bn e,bn dH];omega
theorem YJ{N:Nat}(a1:5000<N){f g:bV}{r:Int}{a6:ed}{c:Nat}(ah:qN N (f,g) r=some (a6,c,0)){ys:dd}{y:Nat}(aG:y<6){Y:bq}(bE:ys[y]?=some Y)(b:iR Y)(cQ:Y.1=true){place e:Int}(ak:tmod place 2≠0/\-13<=place/\place<=179){P:eg}{a:Nat}(ab:p8 N a6 Y.2.1 e=some (P,a))(pY:∀p∈P,r2 p)(h:P.length+Y.2.2.2.2.length<=4096)(dq:List (Bool×dv))(dX)(fl:b7) :
  pk N ((y:Int)+1) place e r f g dq dX ys fl=some (0,r,f,g,ys.set y (true,place,Y.2.2.1,Y.2.2.2.1,e0 Y.2.2.2.2 P)):=by
 have i:=(List.getElem?_eq_some_iff.1 bE).1;have d:=DY b cQ a1 ak pY h;unfold pk
 apply T.eq
 simp only[s7 aG,a8,bn ah,ck bE,bn ab,bn d];omega
structure h6(f g:bV)(ys:dd)(t:cj):Prop where
 ct:jM f g
 j4:(f.flatten++g.flatten).Nodup
 one:(∀k,(f.getD k []).length<=1)/\∀k,(g.getD k []).length<=1
 once:s5 t (f.flatten++g.flatten)
 dW:f.flatten.length+g.flatten.length<=16
 ma:ys.length=6
 js:∀Y∈ys,iR Y
 tok:∃aX,nn t aX
 all:dz t<=200
 dq:wj t
 jD:∀(i:Nat) (Y:bq),ys[i]?=some Y->Y.2.2.1=((t.getD i []).length:Int)
 q4:∀Y∈ys,∀p∈Y.2.2.2.2,gy t p.1
 mb:∀Y∈ys,Y.1=true->Y.2.2.1=0->Y.2.2.2.1=true
section
variable {f g:bV} {ys:dd} {t:cj}
theorem h6.list{N:Nat}(a1:5000<N)(h:h6 f g ys t):∃c,qN N (f,g) 0=some (mix f g,c,0):=am7 a1 h.ct h.j4 (by have:=h.dW;omega) h.one.1 h.one.2
theorem h6.Ej(h:h6 f g ys t):(mix f g).length<=16:=by
 rw[YF h.ct.ft.len h.ct.gv.len];exact h.dW
theorem h6.held{N:Nat}(a1:5000<N)(h:h6 f g ys t):pj N (f,g) 0=some ((mix f g).map λp:b3=>p.1):=by
 obtain⟨c,U⟩:=h.list a1
 have:=h.Ej
 exact am8 a1 U (by omega)
theorem h6.ms{N:Nat}(a1:5000<N)(h:h6 f g ys t):OG N f g ys t ((mix f g).map λp:b3=>p.1):=by
 have d:=h.dW;have a:=h.all;have b:=h.Ej;refine⟨h.ct,h.j4,by omega,h.ma,h.js,h.tok,by omega,h.dq,λc=>?_,h.held a1,by rw[length_map];omega,h.jD⟩;have I:=h.once c;rw[count_append]at I ⊢;rw[(YG h.ct.ft.len h.ct.gv.len).count_eq];exact I
theorem h6.len(h:h6 f g ys t):t.length=6:=by
 obtain⟨aX,a⟩:=h.tok;exact a.len
theorem h6.has(h:h6 f g ys t){a:ae}(bm:a∈f.flatten++g.flatten):gy t a:=by
 have I:=h.once a;have J:=List.count_pos_iff.2 bm;rw[count_append]at I
 by_cases b:gy t a
 ·exact b
 ·rw[if_neg b]at I
  omega
theorem h6.go(h:h6 f g ys t){y:Nat}{Y:bq}(bE:ys[y]?=some Y){Z:bq}(a:iR Z)(U:Z.2.2.1=Y.2.2.1)(ak:∀p∈Z.2.2.2.2,gy t p.1)(hw:Z.1=true->Z.2.2.1=0->Z.2.2.2.1=true):h6 f g (ys.set y Z) t:=by
 refine⟨h.ct,h.j4,h.one,h.once,h.dW,by rw[length_set];exact h.ma,λW ca=>?_,h.tok,h.all,h.dq,λi W ca=>?_,λW ca=>?_,λW ca=>?_⟩
 ·rcases lH ca with ca|rfl
  ·exact h.js W ca
  ·exact a
 ·rw[getElem?_set]at ca
  split at ca
  ·rename_i e
   subst e
   split at ca
   ·cases ca
    rw[U];exact h.jD y Y bE
   ·cases ca
  ·exact h.jD i W ca
 ·rcases lH ca with ca|rfl
  ·exact h.q4 W ca
  ·exact ak
 ·rcases lH ca with ca|rfl
  ·exact h.mb W ca
  ·exact hw
theorem h6.put{f' g':bV}(h:h6 f g ys t){y:Nat}(aG:y<6){Y:bq}(bE:ys[y]?=some Y)(cQ:Y.1=true)(B:dz t<200){b:Int}(ab:b=0\/b=1){thr:b7}(n:∀x∈thr,x∈f.flatten++g.flatten)(q:thr.length<=4)(r:jM f' g')(v:(∀k,(f'.getD k []).length<=1)/\∀k,(g'.getD k []).length<=1)(z:f'.flatten.length+g'.flatten.length<=16)(ak:((f'.flatten++g'.flatten)++thr).Perm ((f.flatten++g.flatten)++[((y:Int)+1,Y.2.2.1)])) :
  h6 f' g' (ys.set y (true,Y.2.1,Y.2.2.1+1,false,[])) (gz t y (b,(Y.2.2.2.1,(thr,Y.2.2.2.2)))):=by
 have j:=mem_of_getElem? bE;have d:=h.js Y j;have ah:=h.len;have c:y<t.length:=by omega
 have w:=h.jD y Y bE;obtain⟨aX,A⟩:=h.tok;have cW:=qZ (t:=t) y;have o:=d.dW;rw[w]at ak;have u:((y:Int)+1,((t.getD y []).length:Int)) ∉ f.flatten++g.flatten:=λU=>yr c (b,(Y.2.2.2.1,(thr,Y.2.2.2.2))) (h.has U)
 have m:((f.flatten++g.flatten)++[((y:Int)+1,((t.getD y []).length:Int))]).Nodup:=List.nodup_append.2 ⟨h.j4,by simp,λa bm b ab e=>by
  rw[List.mem_singleton]at ab;rw[e,ab]at bm;exact u bm⟩
 refine⟨r,(List.nodup_append.1 (ak.nodup_iff.2 m)).1,v,X7 h.once c ak,z,by rw[length_set];exact h.ma,λW ca=>?_,⟨_,A.put aG ab (λb ab=>h.has (n b ab)) (λp ak=>⟨h.q4 Y j p ak,(d.ok p ak).2⟩) q o d.red (λl=>h.mb Y j cQ (by omega))⟩,by rw[yt c];omega,h.dq.put c (by omega) (by show thr.length<=100000;omega) (by show Y.2.2.2.2.length<=100000;omega),λi W ca=>?_,λW ca p ak=>?_,λW ca=>?_⟩
 ·rcases lH ca with ca|rfl
  ·exact h.js W ca
  ·exact W0 d cQ (by omega)
 ·rw[getElem?_set]at ca
  rw[yq c]
  split at ca
  ·rename_i e
   subst e
   split at ca
   ·cases ca
    rw[if_pos rfl,length_append];show Y.2.2.1+1=(((t.getD y []).length+1:Nat):Int)
    omega
   ·cases ca
  ·rename_i e
   rw[if_neg (λs=>e s.symm)];exact h.jD i W ca
 ·rcases lH ca with ca|rfl
  ·exact(h.q4 W ca p ak).put c _
  ·cases ak
 ·rcases lH ca with ca|rfl
  ·exact h.mb W ca
  ·intro _ l
   have C:Y.2.2.1+1=0:=l;omega
theorem h6.enter(h:h6 f g ys t){y:Nat}{Y:bq}(bE:ys[y]?=some Y):h6 f g (ys.set y (true, -13,Y.2.2.1,true,[])) t:=
 h.go bE ⟨(h.js Y (mem_of_getElem? bE)).jD,(λe=>by cases e),(λ_=>by show tmod (-13) 2≠0/\-13<=-13/\-13<=179;decide),zero_le _,(λp ak=>by cases ak),(λi p q ak=>by cases ak)⟩ rfl (λp ak=>by cases ak) (λ_ _=>rfl)
theorem am9{N:Nat}(a1:5000<N){cR}(eY:il N=some cR)(h:h6 f g ys t){y:Nat}(aG:y<6){Y:bq}(bE:ys[y]?=some Y)(a:Y.1=false){Q:iA->Prop}(b:Q (fI t (ys.set y (true, -13,Y.2.2.1,true,[])) 0 f g)):ey N cR [(1,(0,((0,0),((y:Int)+1,0))))] (fI t ys 0 f g) Q:=by
 have he:=akG (h.js Y (mem_of_getElem? bE)) a a1 (inl rfl);rw[if_neg (by decide)]at he;have c:=h.ma;have hi:vS N (1,(0,((0,0),((y:Int)+1,0)))) 0 f g (own t) [] ys []=some (0,0,f,g,ys.set y (true, -13,Y.2.2.1,true,[])):=by
  unfold vS
  apply T.eq
  simp only[s7 aG,a8,ck bE,bn he,c];omega
 have az:=alk (alj N (inl rfl) ⟨by omega,by omega⟩ (y:=(y:Int)+1)) rfl 0 f g (own t) [] ys [] eY;rw[hi]at az;exact ey.one az b
end
theorem YK{f g:bV}(h:jM f g){p e:Int}:∀q∈nr f g p e,r2 q:=λq a=>by
 obtain⟨I,J⟩:=Pe h.ft.len h.gv.len a;exact⟨(List.mem_append.1 I).elim (D8 h.ft) (D8 h.gv),J⟩
theorem ana{N:Nat}(a1:5000<N){cR}(eY:il N=some cR){f g:bV}{ys:dd}{t:cj}(h:h6 f g ys t){y:Nat}(aG:y<6){Y:bq}(bE:ys[y]?=some Y)(cQ:Y.1=true)(ag:dz t<200){a:Nat}(I:1<=a)(J:a<=40)(ak:Y.2.1<4 * (a:Int)+2)(Z:f.flatten.length+g.flatten.length<16\/f.getD (a-1) []≠[])(au:Y.2.2.2.2.length<=4000){Q:iA->Prop}(B:∀f',(∀k,f'.getD k []=if k=a-1 then [((y:Int)+1,Y.2.2.1)] else f.getD k [])->h6 f' g (ys.set y (true,4 * (a:Int)+2+1,Y.2.2.1+1,false,[])) (gz t y (0,(Y.2.2.2.1,(f.getD (a-1) [],e0 Y.2.2.2.2 (nr f g Y.2.1 (4 * (a:Int)+2))))))->Q (fI (gz t y (0,(Y.2.2.2.1,(f.getD (a-1) [],e0 Y.2.2.2.2 (nr f g Y.2.1 (4 * (a:Int)+2)))))) (ys.set y (true,4 * (a:Int)+2+1,Y.2.2.1+1,false,[])) 0 f' g)) :
  ey N cR [(4,(1,((0,(a:Int)),((y:Int)+1,0))))] (fI t ys 0 f g) Q:=by
 have m:=mem_of_getElem? bE;have z:=h.js Y m;have E:(((0:Int),(a:Int)).1=0\/((0:Int),(a:Int)).1=1)/\1<=((0:Int),(a:Int)).2/\((0:Int),(a:Int)).2<=40:=⟨inl rfl,by dsimp only;omega,by dsimp only;omega⟩
 have G:e6 0 (a:Int) 0=4 * (a:Int)+2:=Eh _;have S:tmod (4 * (a:Int)+2+1) 2≠0/\-13<=4 * (a:Int)+2+1/\4 * (a:Int)+2+1<=179:=by
  refine⟨?_,by omega,by omega⟩;rw[Int.tmod_eq_emod_of_nonneg (by omega)];omega
 have ab:=Xq (N:=N) aG bE cQ (nd:=((0:Int),(a:Int))) E (r:=0) ⟨by decide,by decide⟩ (by rw[G];exact le_of_lt ak) 4 f g (own t) [] [];rw[G]at ab;obtain⟨c,ac⟩:=h.list a1;have aw:=h.Ej;have av:=h.dW;obtain⟨n,M⟩:=YI a1 (f:=f) (g:=g) (by omega) (p:=Y.2.1) (e:=4 * (a:Int)+2) (by omega);have ap:=YH h.ct.ft.len h.ct.gv.len Y.2.1 (4 * (a:Int)+2);obtain⟨P,v⟩:∃P,P=nr f g Y.2.1 (4 * (a:Int)+2):=⟨_,rfl⟩
 have w:∀q∈P,r2 q:=λq i=>YK h.ct q (v ▸ i)
 have ad:∀q∈P,q.1∈f.flatten++g.flatten:=λq i=>(Pe h.ct.ft.len h.ct.gv.len (v ▸ i)).1
 rw[<- v]at M ap B;have U:=YJ a1 ac aG bE z cQ (place:=4 * (a:Int)+2+1) S M w (by omega) (own t) [] [];have am:=(List.getElem?_eq_some_iff.1 bE).1;have F:h6 f g (ys.set y (true,4 * (a:Int)+2+1,Y.2.2.1,Y.2.2.2.1,e0 Y.2.2.2.2 P)) t:=by
  refine h.go bE (yv z S w (by omega)) rfl (λp ak=>?_) (λ_ d=>h.mb Y m cQ d)
  rcases DV ak with ak|ak
  ·exact h.q4 Y m p ak
  ·exact h.has (ad p ak)
 have o:(ys.set y (true,4 * (a:Int)+2+1,Y.2.2.1,Y.2.2.2.1,e0 Y.2.2.2.2 P))[y]?=some (true,4 * (a:Int)+2+1,Y.2.2.1,Y.2.2.2.1,e0 Y.2.2.2.2 P):=by
  rw[getElem?_set,if_pos rfl,if_pos am]
 have c7:=wk (N:=N) h.ct (b:=0) (inl rfl) I J;rw[if_neg (by decide)]at c7;have K:=h.jD y Y bE;have cW:=qZ (t:=t) y;have aj:((y:Int)+1,Y.2.2.1) ∉ f.flatten++g.flatten:=λaf=>by
  have d:=h.has af;rw[K]at d;exact yr (by rw[h.len];exact aG) (0,(true,([],[]))) d
 have R:=D1 (b:=0) (a:=a) h.ct;rw[if_neg (by decide)]at R;have W:oF ((y:Int)+1,Y.2.2.1):=⟨by dsimp only;omega,by dsimp only;omega,by dsimp only;omega,by dsimp only;omega⟩
 have X:=IF a1 h.ct h.j4 (by omega) (b:=0) (inl rfl) I J (s:=[((y:Int)+1,Y.2.2.1)]) (by simp) (λx an=>by rw[List.mem_singleton]at an;rw[an];exact W) (by simp) (λx an=>by
  rw[List.mem_singleton]at an;rw[an];exact inr aj)
 obtain⟨⟨⟨f',g'⟩,ar⟩,D,L,j,C,A⟩:=X;dsimp only at L j C A;have ao:g'=g:=AM j.gs h.ct.gs λk=>by
  rw[A,if_neg (λh=>absurd h.1 (by decide))]
 subst L;rw[ao]at D j;have u:=Ou a1 (f:=f) (g:=g) (f':=f') (g':=g) h.len (by omega) aG o (F.js _ (mem_of_getElem? o)) rfl (by show Y.2.2.1=_;exact K) (nd:=((0:Int),(a:Int))) (stack:=[]) (thr:=f.getD (a-1) []) (by simp) D 4 1 0 [] [];dsimp only at u;rw[set_set]at u;have l:∀k,f'.getD k []=if k=a-1 then [((y:Int)+1,Y.2.2.1)] else f.getD k []:=λk=>by
  rw[C]
  by_cases aa:k=a-1
  ·rw[if_pos ⟨rfl,aa⟩,if_pos aa]
  ·rw[if_neg (λh=>aa h.2),if_neg aa]
 have V:∀x,f'.flatten.count x+(f.getD (a-1) []).count x=f.flatten.count x+count x [((y:Int)+1,Y.2.2.1)]:=λx=>by
  have d:=yA (f:=f) (f':=f') (a:=a-1) (by omega) x (λk aa=>by rw[l,if_neg aa]);rw[l,if_pos rfl]at d;rw[r4 x j.ft.len,r4 x h.ct.ft.len];exact d
 have H:((f'.flatten++g.flatten)++f.getD (a-1) []).Perm ((f.flatten++g.flatten)++[((y:Int)+1,Y.2.2.1)]):=by
  rw[perm_iff_count];intro x;have d:=V x;simp only[count_append];omega
 have ai:=H.length_eq;rw[length_append,length_append,length_append,length_append,length_singleton]at ai;have aq:f.flatten.length+g.flatten.length<16\/0<(f.getD (a-1) []).length:=Z.imp id List.length_pos_iff.2;have ah:∀x∈f.getD (a-1) [],x∈f.flatten++g.flatten:=λx an=>by
  rw[getD_eq_getElem?_getD]at an;cases i:f[a-1]? with
  |none=>rw[i]at an;cases an
  |some s=>
   rw[i]at an;exact List.mem_append.2 (inl (List.mem_flatten.2 ⟨s,mem_of_getElem? i,an⟩))
 have al:∀k,(f'.getD k []).length<=1:=λk=>by
  rw[l]
  split
  ·simp
  ·exact h.one.1 k
 have O:=F.put aG o rfl ag (inl rfl) ah R.1 j ⟨al,h.one.2⟩ (by omega) H;rw[set_set]at O;have az:=Ot (Iv N (inl rfl) (inr rfl) E ⟨by omega,by omega⟩ (y:=(y:Int)+1)) rfl 0 f g (own t) [] ys [] eY;refine ey.one (az.trans ?_) (B f' l O);unfold ya
 apply T.eq
 simp only[a8,bn ab,bn U,bn c7,bn u]
 rfl
theorem anc{N:Nat}(a1:5000<N){cR}(eY:il N=some cR){f g:bV}{ys:dd}{t:cj}(h:h6 f g ys t){y:Nat}(aG:y<6){Y:bq}(bE:ys[y]?=some Y)(cQ:Y.1=true)(ag:dz t<200){a:Nat}(I:1<=a)(J:a<=40)(ak:4 * (a:Int)<Y.2.1)(Z:f.flatten.length+g.flatten.length<16\/g.getD (a-1) []≠[])(au:Y.2.2.2.2.length<=4000){Q:iA->Prop}(B:∀g',(∀k,g'.getD k []=if k=a-1 then [((y:Int)+1,Y.2.2.1)] else g.getD k [])->h6 f g' (ys.set y (true,4 * (a:Int)-1,Y.2.2.1+1,false,[])) (gz t y (1,(Y.2.2.2.1,(g.getD (a-1) [],e0 Y.2.2.2.2 (nr f g Y.2.1 (4 * (a:Int)))))))->Q (fI (gz t y (1,(Y.2.2.2.1,(g.getD (a-1) [],e0 Y.2.2.2.2 (nr f g Y.2.1 (4 * (a:Int))))))) (ys.set y (true,4 * (a:Int)-1,Y.2.2.1+1,false,[])) 0 f g')) :
  ey N cR [(4,(0,((1,(a:Int)),((y:Int)+1,0))))] (fI t ys 0 f g) Q:=by
 have m:=mem_of_getElem? bE;have z:=h.js Y m;have E:(((1:Int),(a:Int)).1=0\/((1:Int),(a:Int)).1=1)/\1<=((1:Int),(a:Int)).2/\((1:Int),(a:Int)).2<=40:=⟨inr rfl,by dsimp only;omega,by dsimp only;omega⟩
 have G:e6 1 (a:Int) 0=4 * (a:Int):=Ei _;have S:tmod (4 * (a:Int)-1) 2≠0/\-13<=4 * (a:Int)-1/\4 * (a:Int)-1<=179:=by
  refine⟨?_,by omega,by omega⟩;rw[Int.tmod_eq_emod_of_nonneg (by omega)];omega
 have ab:=X0 (N:=N) aG bE cQ (nd:=((1:Int),(a:Int))) E (r:=0) ⟨by decide,by decide⟩ (by rw[G];exact le_of_lt ak) 4 f g (own t) [] [];rw[G]at ab;obtain⟨c,ac⟩:=h.list a1;have aw:=h.Ej;have av:=h.dW;obtain⟨n,M⟩:=YI a1 (f:=f) (g:=g) (by omega) (p:=Y.2.1) (e:=4 * (a:Int)) (by omega);have ap:=YH h.ct.ft.len h.ct.gv.len Y.2.1 (4 * (a:Int));obtain⟨P,v⟩:∃P,P=nr f g Y.2.1 (4 * (a:Int)):=⟨_,rfl⟩
 have w:∀q∈P,r2 q:=λq i=>YK h.ct q (v ▸ i)
 have ad:∀q∈P,q.1∈f.flatten++g.flatten:=λq i=>(Pe h.ct.ft.len h.ct.gv.len (v ▸ i)).1
 rw[<- v]at M ap B;have U:=YJ a1 ac aG bE z cQ (place:=4 * (a:Int)-1) S M w (by omega) (own t) [] [];have am:=(List.getElem?_eq_some_iff.1 bE).1;have F:h6 f g (ys.set y (true,4 * (a:Int)-1,Y.2.2.1,Y.2.2.2.1,e0 Y.2.2.2.2 P)) t:=by
  refine h.go bE (yv z S w (by omega)) rfl (λp ak=>?_) (λ_ d=>h.mb Y m cQ d)
  rcases DV ak with ak|ak
  ·exact h.q4 Y m p ak
  ·exact h.has (ad p ak)
 have o:(ys.set y (true,4 * (a:Int)-1,Y.2.2.1,Y.2.2.2.1,e0 Y.2.2.2.2 P))[y]?=some (true,4 * (a:Int)-1,Y.2.2.1,Y.2.2.2.1,e0 Y.2.2.2.2 P):=by
  rw[getElem?_set,if_pos rfl,if_pos am]
 have c7:=wk (N:=N) h.ct (b:=1) (inr rfl) I J;rw[if_pos rfl]at c7;have K:=h.jD y Y bE;have cW:=qZ (t:=t) y;have aj:((y:Int)+1,Y.2.2.1) ∉ f.flatten++g.flatten:=λaf=>by
  have d:=h.has af;rw[K]at d;exact yr (by rw[h.len];exact aG) (1,(true,([],[]))) d
 have R:=D1 (b:=1) (a:=a) h.ct;rw[if_pos rfl]at R;have W:oF ((y:Int)+1,Y.2.2.1):=⟨by dsimp only;omega,by dsimp only;omega,by dsimp only;omega,by dsimp only;omega⟩
 have X:=IF a1 h.ct h.j4 (by omega) (b:=1) (inr rfl) I J (s:=[((y:Int)+1,Y.2.2.1)]) (by simp) (λx an=>by rw[List.mem_singleton]at an;rw[an];exact W) (by simp) (λx an=>by
  rw[List.mem_singleton]at an;rw[an];exact inr aj)
 obtain⟨⟨⟨f',g'⟩,ar⟩,D,L,j,C,A⟩:=X;dsimp only at L j C A;have ao:f'=f:=AM j.du h.ct.du λk=>by
  rw[C,if_neg (λh=>absurd h.1 (by decide))]
 subst L;rw[ao]at D j;have u:=Ou a1 (f:=f) (g:=g) (f':=f) (g':=g') h.len (by omega) aG o (F.js _ (mem_of_getElem? o)) rfl (by show Y.2.2.1=_;exact K) (nd:=((1:Int),(a:Int))) (stack:=[]) (thr:=g.getD (a-1) []) (by simp) D 4 0 0 [] [];dsimp only at u;rw[set_set]at u;have l:∀k,g'.getD k []=if k=a-1 then [((y:Int)+1,Y.2.2.1)] else g.getD k []:=λk=>by
  rw[A]
  by_cases aa:k=a-1
  ·rw[if_pos ⟨rfl,aa⟩,if_pos aa]
  ·rw[if_neg (λh=>aa h.2),if_neg aa]
 have V:∀x,g'.flatten.count x+(g.getD (a-1) []).count x=g.flatten.count x+count x [((y:Int)+1,Y.2.2.1)]:=λx=>by
  have d:=yA (f:=g) (f':=g') (a:=a-1) (by omega) x (λk aa=>by rw[l,if_neg aa]);rw[l,if_pos rfl]at d;rw[r4 x j.gv.len,r4 x h.ct.gv.len];exact d
 have H:((f.flatten++g'.flatten)++g.getD (a-1) []).Perm ((f.flatten++g.flatten)++[((y:Int)+1,Y.2.2.1)]):=by
  rw[perm_iff_count];intro x;have d:=V x;simp only[count_append];omega
 have ai:=H.length_eq;rw[length_append,length_append,length_append,length_append,length_singleton]at ai;have aq:f.flatten.length+g.flatten.length<16\/0<(g.getD (a-1) []).length:=Z.imp id List.length_pos_iff.2;have ah:∀x∈g.getD (a-1) [],x∈f.flatten++g.flatten:=λx an=>by
  rw[getD_eq_getElem?_getD]at an;cases i:g[a-1]? with
  |none=>rw[i]at an;cases an
  |some s=>
   rw[i]at an;exact List.mem_append.2 (inr (List.mem_flatten.2 ⟨s,mem_of_getElem? i,an⟩))
 have al:∀k,(g'.getD k []).length<=1:=λk=>by
  rw[l]
  split
  ·simp
  ·exact h.one.2 k
 have O:=F.put aG o rfl ag (inr rfl) ah R.1 j ⟨h.one.1,al⟩ (by omega) H;rw[set_set]at O;have az:=Ot (Iv N (inl rfl) (inl rfl) E ⟨by omega,by omega⟩ (y:=(y:Int)+1)) rfl 0 f g (own t) [] ys [] eY;refine ey.one (az.trans ?_) (B g' l O);unfold ya
 apply T.eq
 simp only[a8,bn ab,bn U,bn c7,bn u]
 rfl
theorem YL{β:Type}(x:List β)(k0:Nat):∀n,(range n).flatMap (λk=>if k=k0 then x else [])=if k0<n then x else []
 |0=>by rw[if_neg (by omega)];rfl
 |n+1=>by
  rw[range_succ,flatMap_append,YL x k0 n,flatMap_singleton]
  by_cases I:k0<n
  ·rw[if_pos I,if_neg (by omega),if_pos (by omega),append_nil]
  ·rw[if_neg I,nil_append]
   by_cases J:n=k0
   ·rw[if_pos J,if_pos (by omega)]
   ·rw[if_neg J,if_neg (by omega)]
theorem YM{f g:bV}{c:b3->Bool}{b:Int}(ab:b=0\/b=1){k0:Nat}(aa:k0<40)(U:∀p∈kq b (if b=1 then g else f) k0,c p=true)(I:∀k,∀p∈kq 1 g k,¬(b=1/\k=k0)->c p=false)(e:∀k,∀p∈kq 0 f k,¬(b=0/\k=k0)->c p=false):(mix f g).filter c=kq b (if b=1 then g else f) k0:=by
 unfold mix;rw[List.filter_flatMap]
 have:(λk=>(kq 1 g k++kq 0 f k).filter c)=λk=>if k=k0 then kq b (if b=1 then g else f) k0 else []:=funext λk=>by
  rw[List.filter_append];have a:∀(z:Int) (l:bV),(∀p∈kq z l k,c p=false)->(kq z l k).filter c=[]:=λz l h=>by
   rw[List.filter_eq_nil_iff];intro p ak;rw[h p ak]
   decide
  by_cases d:k=k0
  ·subst d
   rw[if_pos rfl]
   rcases ab with rfl|rfl
   ·rw[a 1 g (λp ak=>I k p ak (λh=>absurd h.1 (by decide))),nil_append,if_neg (by decide)]
    exact List.filter_eq_self.2 U
   ·rw[a 0 f (λp ak=>e k p ak (λh=>absurd h.1 (by decide))),append_nil,if_pos rfl]
    exact List.filter_eq_self.2 U
  ·rw[if_neg d,a 1 g (λp ak=>I k p ak (λh=>d h.2)),a 0 f (λp ak=>e k p ak (λh=>d h.2))]
   rfl
 rw[this,YL,if_pos aa]
theorem IU(P:Nat->Nat):∀(n:Nat) (f:bV),f.length<=n->(∀k,(f.getD k []).length<=P k)->f.flatten.length<=((range n).map P).sum:=by
 intro n f aC h;have key:∀(f:bV) (n:Nat) (P:Nat->Nat),f.length<=n->(∀k,(f.getD k []).length<=P k)->f.flatten.length<=((range n).map P).sum:=by
  intro f
  induction f with
  |nil=>intro n P _ _;exact zero_le _
  |cons s f a=>
   intro n P ba h;obtain⟨m,rfl⟩:∃m,n=m+1:=⟨n-1,by rw[length_cons]at ba;omega⟩
   rw[List.range_succ_eq_map,List.map_cons,map_map,List.sum_cons,List.flatten_cons,length_append];have b:s.length<=P 0:=h 0
   have:=a m (P∘Nat.succ) (by rw[length_cons]at ba;omega) (λk=>h (k+1))
   omega
 exact key f n P aC h
theorem YN:∀w,w<=8->∀i,i<w->((range 40).map λk=>if 12<=k/\k<12+w/\k≠12+i then 1 else 0).sum=w-1:=by decide
theorem YO:∀w,w<=8->((range 40).map λk=>if 12<=k/\k<12+w then 1 else 0).sum=w:=by decide
abbrev lI:=cj×(Nat->b7)×(Nat->b7)
def nextId(t:cj)(y:Nat):ae:=((y:Int)+1,((t.getD y []).length:Int))
def tf(f:Nat->b7)(i:Nat)(x:b7):Nat->b7:=λk=>if k=i then x else f k
def Ph(x:b7):eg:=x.map λa=>(a,(true,1))
def Pj(x:b7):eg:=x.map λa=>(a,(false,0))
def Pk(y i:Nat)(s:lI):lI:=(gz s.1 y (0,(decide ((s.1.getD y []).length=0),(s.2.1 i,e0 [] (Ph (s.2.2 i))))),tf s.2.1 i [nextId s.1 y],s.2.2)
def Pl(y i:Nat)(s:lI):lI:=(gz s.1 y (1,(decide ((s.1.getD y []).length=0),(s.2.2 i,e0 [] (Pj (s.2.1 i))))),s.2.1,tf s.2.2 i [nextId s.1 y])
def mJ(y:Nat):Nat->lI->lI
 |0,s=>s
 |i+1,s=>Pk y i (mJ y i s)
def mK(y w:Nat):Nat->lI->lI
 |0,s=>s
 |i+1,s=>Pl y (w-1-i) (mK y w i s)
def El:lI:=(replicate 6 [],λ_=>[],λ_=>[])
def h7(w:Nat)(a:bZ):Nat->lI
 |0=>El
 |k+1=>mK (a.getD k 0-1).toNat w w (mJ (a.getD k 0-1).toNat w (h7 w a k))
structure hW(w:Nat)(s:lI)(f g:bV)(ys:dd):Prop where
 me:h6 f g ys s.1
 r7:∀k,f.getD k []=if 12<=k/\k<12+w then s.2.1 (k-12)else []
 gk:∀k,g.getD k []=if 12<=k/\k<12+w then s.2.2 (k-12)else []
 AU:∀Y∈ys,Y.2.2.2.2=[]
 mb:∀Y∈ys,Y.1=true->Y.2.2.2.1=decide (Y.2.2.1=0)
section
variable {w:Nat} (hw:w<=8) {s:lI} {f g:bV} {ys:dd} (h:hW w s f g ys)
include h
theorem hW.IV{i:Nat}(hi:i<w):f.getD (12+i) []=s.2.1 i:=by
 rw[h.r7,if_pos ⟨by omega,by omega⟩,Nat.add_sub_cancel_left]
theorem hW.Pm{i:Nat}(hi:i<w):g.getD (12+i) []=s.2.2 i:=by
 rw[h.gk,if_pos ⟨by omega,by omega⟩,Nat.add_sub_cancel_left]
theorem hW.Pn{k:Nat}{p:b3}(ak:p∈kq 0 f k):p.2.2=4 * ((k:Int)+1)+2/\12<=k/\k<12+w:=by
 obtain⟨_,J,ag⟩:=wz ak;rw[h.r7]at ag
 split at ag
 ·rename_i U
  exact⟨by rw[J,Eh],U⟩
 ·cases ag
theorem hW.Po{k:Nat}{p:b3}(ak:p∈kq 1 g k):p.2.2=4 * ((k:Int)+1)/\12<=k/\k<12+w:=by
 obtain⟨_,J,ag⟩:=wz ak;rw[h.gk]at ag
 split at ag
 ·rename_i U
  exact⟨by rw[J,Ei],U⟩
 ·cases ag
theorem hW.ane{i:Nat}(hi:i<w)(hw:w<=8){p:Int}(ak:p=4 * (12+(i:Int))+3\/i=0/\p=-13):nr f g p (4 * ((13+i:Nat):Int)+2)=Ph (s.2.2 i):=by
 unfold nr;rw[if_pos (by omega)];rw[YM (inr rfl) (k0:=12+i) (by omega) (λq a=>?_) (λk q a b=>?_) (λk q a b=>?_),if_pos rfl]
 ·unfold kq Ph
  rw[h.Pm hi,map_map]
  rfl
 ·rw[if_pos rfl]at a
  have I:=(h.Po a).1;unfold gN;rw[decide_eq_true (by omega),cond_true];exact decide_eq_true (by omega)
 ·obtain⟨I,J,ag⟩:=h.Po a
  unfold gN
  rcases lt_or_ge k (12+i)with aa|aa
  ·rw[decide_eq_false (by omega)]
   rfl
  ·rw[decide_eq_false (show ¬q.2.2<4 * ((13+i:Nat):Int)+2 by omega)]
   cases decide (p<q.2.2)<;>rfl
 ·obtain⟨I,J,ag⟩:=h.Pn a
  unfold gN
  rcases lt_or_ge k (12+i)with aa|aa
  ·rw[decide_eq_false (by omega)]
   rfl
  ·rw[decide_eq_false (show ¬q.2.2<4 * ((13+i:Nat):Int)+2 by omega)]
   cases decide (p<q.2.2)<;>rfl
theorem hW.o9{i:Nat}(hi:i<w)(hw:w<=8):nr f g (4 * ((13+i:Nat):Int)+3) (4 * ((13+i:Nat):Int))=Pj (s.2.1 i):=by
 unfold nr;rw[if_neg (by omega)];rw[YM (inl rfl) (k0:=12+i) (by omega) (λq a=>?_) (λk q a b=>?_) (λk q a b=>?_),if_neg (by decide)]
 ·unfold kq Pj
  rw[h.IV hi,map_map,<- List.map_reverse];have I:(s.2.1 i).length<=1:=by
   rw[<- h.IV hi];exact h.me.one.1 _
  have J:(s.2.1 i).reverse=s.2.1 i:=by
   cases a:s.2.1 i with
   |nil=>rfl
   |cons x l=>
    rw[a,length_cons]at I;rw[List.eq_nil_of_length_eq_zero (show l.length=0 by omega)]
    rfl
  rw[J]
  rfl
 ·rw[if_neg (by decide)]at a
  have I:=(h.Pn a).1;unfold gN;rw[decide_eq_true (by omega),cond_true];exact decide_eq_true (by omega)
 ·obtain⟨I,J,ag⟩:=h.Po a
  unfold gN
  rcases lt_or_ge (12+i) k with aa|aa
  ·rw[decide_eq_false (show ¬q.2.2<4 * ((13+i:Nat):Int)+3 by omega)]
   cases decide (4 * ((13+i:Nat):Int)<q.2.2)<;>rfl
  ·rw[decide_eq_false (by omega)]
   rfl
 ·obtain⟨I,J,ag⟩:=h.Pn a
  unfold gN
  rcases lt_or_ge (12+i) k with aa|aa
  ·rw[decide_eq_false (show ¬q.2.2<4 * ((13+i:Nat):Int)+3 by omega)]
   cases decide (4 * ((13+i:Nat):Int)<q.2.2)<;>rfl
  ·rw[decide_eq_false (by omega)]
   rfl
theorem hW.anf{i:Nat}(hi:i<w)(hw:w<=8):f.flatten.length+g.flatten.length<16\/f.getD (12+i) []≠[]:=by
 by_cases he:f.getD (12+i) []=[]
 ·left
  have I:=IU (λk=>if 12<=k/\k<12+w/\k≠12+i then 1 else 0) 40 f h.me.ct.ft.len (λk=>by
   have I:=h.me.one.1 k
   by_cases aa:12<=k/\k<12+w/\k≠12+i
   ·rw[if_pos aa];exact I
   ·rw[if_neg aa]
    by_cases a:k=12+i
    ·rw[a,he];exact Nat.le_refl _
    ·rw[h.r7,if_neg (λU=>aa ⟨U.1,U.2,a⟩)];exact Nat.le_refl _)
  have J:=IU (λk=>if 12<=k/\k<12+w then 1 else 0) 40 g h.me.ct.gv.len (λk=>by
   have I:=h.me.one.2 k
   by_cases aa:12<=k/\k<12+w
   ·rw[if_pos aa];exact I
   ·rw[if_neg aa,h.gk,if_neg aa];exact Nat.le_refl _)
  rw[YN w hw i hi]at I;rw[YO w hw]at J;omega
 ·exact inr he
theorem hW.ang{i:Nat}(hi:i<w)(hw:w<=8):f.flatten.length+g.flatten.length<16\/g.getD (12+i) []≠[]:=by
 by_cases he:g.getD (12+i) []=[]
 ·left
  have I:=IU (λk=>if 12<=k/\k<12+w/\k≠12+i then 1 else 0) 40 g h.me.ct.gv.len (λk=>by
   have I:=h.me.one.2 k
   by_cases aa:12<=k/\k<12+w/\k≠12+i
   ·rw[if_pos aa];exact I
   ·rw[if_neg aa]
    by_cases a:k=12+i
    ·rw[a,he];exact Nat.le_refl _
    ·rw[h.gk,if_neg (λU=>aa ⟨U.1,U.2,a⟩)];exact Nat.le_refl _)
  have J:=IU (λk=>if 12<=k/\k<12+w then 1 else 0) 40 f h.me.ct.ft.len (λk=>by
   have I:=h.me.one.1 k
   by_cases aa:12<=k/\k<12+w
   ·rw[if_pos aa];exact I
   ·rw[if_neg aa,h.r7,if_neg aa];exact Nat.le_refl _)
  rw[YN w hw i hi]at I;rw[YO w hw]at J;omega
 ·exact inr he
end
def lb(y:Int)(k:Nat):c9:=(range k).map λ(i:Nat)=>((4:Int),(1:Int),((0:Int),13+(i:Int)),y,(0:Int))
def ns(w:Int)(y:Int)(k:Nat):c9:=(range k).map λ(i:Nat)=>((4:Int),(0:Int),((1:Int),13+(w-1-(i:Int))),y,(0:Int))
section
variable {N:Nat} (a1:5000<N) {cR:List (Int×Option Nat)} (eY:il N=some cR) {w:Nat} (hw:w<=8) {s:lI} {f g:bV} {ys:dd} {y:Nat} (aG:y<6)
include a1 eY hw aG
theorem hW.front(h:hW w s f g ys){Y:bq}(bE:ys[y]?=some Y)(cQ:Y.1=true)(r:dz s.1<200){i:Nat}(hi:i<w)(ak:Y.2.1=4 * (12+(i:Int))+3\/i=0/\Y.2.1=-13){Q:iA->Prop}(q:∀f' b d,hW w (Pk y i s) f' g b->b[y]?=some d->d.1=true->d.2.1=4 * (12+((i+1:Nat):Int))+3->(∀z,z≠y->b[z]?=ys[z]?)->Q (fI (Pk y i s).1 b 0 f' g)) :
  ey N cR [(4,1,(0,13+(i:Int)),(y:Int)+1,0)] (fI s.1 ys 0 f g) Q:=by
 have m:=mem_of_getElem? bE;have uG:=h.AU Y m;have n:=h.mb Y m cQ;have v:=h.me.jD y Y bE;have c:13+i-1=12+i:=by omega
 have o:13+(i:Int)=((13+i:Nat):Int):=by omega
 have p:decide (Y.2.2.1=0)=decide ((s.1.getD y []).length=0):=decide_eq_decide.2 (by omega);have hid:((y:Int)+1,Y.2.2.1)=nextId s.1 y:=by unfold nextId;rw[v]
 have t:=(List.getElem?_eq_some_iff.1 bE).1;rw[o];refine ana a1 eY h.me aG bE cQ r (by omega) (by omega) (by omega) (by rw[c];exact h.anf hi hw) (by rw[uG];exact zero_le _) ?_;intro f' j l;rw[c,uG,h.ane hi hw ak,h.IV hi,n,p]at l ⊢;rw[c,hid]at j;refine q f' _ (true,4 * ((13+i:Nat):Int)+2+1,Y.2.2.1+1,false,[]) ⟨l,λk=>?_,h.gk,λZ a=>?_,λZ a u=>?_⟩ (by rw[getElem?_set,if_pos rfl,if_pos t]) rfl (by show 4 * ((13+i:Nat):Int)+2+1=_;omega) (λz bF=>by rw[getElem?_set,if_neg (λe=>bF e.symm)])
 ·rw[j,h.r7]
  show _=if 12<=k/\k<12+w then tf s.2.1 i [nextId s.1 y] (k-12)else []
  unfold tf
  by_cases aa:k=12+i
  ·rw[if_pos aa,if_pos ⟨by omega,by omega⟩,if_pos (by omega)]
  ·rw[if_neg aa]
   by_cases U:12<=k/\k<12+w
   ·rw[if_pos U,if_pos U,if_neg (by omega)]
   ·rw[if_neg U,if_neg U]
 ·rcases lH a with a|rfl
  ·exact h.AU Z a
  ·rfl
 ·rcases lH a with a|rfl
  ·exact h.mb Z a u
  ·show false=decide (Y.2.2.1+1=0)
   rw[decide_eq_false (by omega)]
theorem hW.back(h:hW w s f g ys){Y:bq}(bE:ys[y]?=some Y)(cQ:Y.1=true)(r:dz s.1<200){i:Nat}(hi:i<w)(ak:Y.2.1=4 * ((13+i:Nat):Int)+3){Q:iA->Prop}(q:∀g' b d,hW w (Pl y i s) f g' b->b[y]?=some d->d.1=true->d.2.1=4 * (12+(i:Int))+3->(∀z,z≠y->b[z]?=ys[z]?)->Q (fI (Pl y i s).1 b 0 f g')) :
  ey N cR [(4,0,(1,13+(i:Int)),(y:Int)+1,0)] (fI s.1 ys 0 f g) Q:=by
 have m:=mem_of_getElem? bE;have uG:=h.AU Y m;have n:=h.mb Y m cQ;have v:=h.me.jD y Y bE;have c:13+i-1=12+i:=by omega
 have o:13+(i:Int)=((13+i:Nat):Int):=by omega
 have p:decide (Y.2.2.1=0)=decide ((s.1.getD y []).length=0):=decide_eq_decide.2 (by omega);have hid:((y:Int)+1,Y.2.2.1)=nextId s.1 y:=by unfold nextId;rw[v]
 have t:=(List.getElem?_eq_some_iff.1 bE).1;rw[o];refine anc a1 eY h.me aG bE cQ r (by omega) (by omega) (by omega) (by rw[c];exact h.ang hi hw) (by rw[uG];exact zero_le _) ?_;intro g' j l;rw[c,uG,ak,h.o9 hi hw,h.Pm hi,n,p]at l ⊢;rw[c,hid]at j;refine q g' _ (true,4 * ((13+i:Nat):Int)-1,Y.2.2.1+1,false,[]) ⟨l,h.r7,λk=>?_,λZ a=>?_,λZ a u=>?_⟩ (by rw[getElem?_set,if_pos rfl,if_pos t]) rfl (by show 4 * ((13+i:Nat):Int)-1=_;omega) (λz bF=>by rw[getElem?_set,if_neg (λe=>bF e.symm)])
 ·rw[j,h.gk]
  show _=if 12<=k/\k<12+w then tf s.2.2 i [nextId s.1 y] (k-12)else []
  unfold tf
  by_cases aa:k=12+i
  ·rw[if_pos aa,if_pos ⟨by omega,by omega⟩,if_pos (by omega)]
  ·rw[if_neg aa]
   by_cases U:12<=k/\k<12+w
   ·rw[if_pos U,if_pos U,if_neg (by omega)]
   ·rw[if_neg U,if_neg U]
 ·rcases lH a with a|rfl
  ·exact h.AU Z a
  ·rfl
 ·rcases lH a with a|rfl
  ·exact h.mb Z a u
  ·show false=decide (Y.2.2.1+1=0)
   rw[decide_eq_false (by omega)]
end
theorem AV{y:Nat}{s:lI}(aG:y<s.1.length):∀i,(mJ y i s).1.length=s.1.length/\dz (mJ y i s).1=dz s.1+i
 |0=>⟨rfl,rfl⟩
 |i+1=>by
  obtain⟨I,J⟩:=AV aG i;refine⟨?_,?_⟩
  ·show(gz _ _ _).length=_
   rw[DW,I]
  ·show dz (gz _ _ _)=_
   rw[yt (by omega),J];omega
theorem IW{y w:Nat}{s:lI}(aG:y<s.1.length):∀i,(mK y w i s).1.length=s.1.length/\dz (mK y w i s).1=dz s.1+i
 |0=>⟨rfl,rfl⟩
 |i+1=>by
  obtain⟨I,J⟩:=IW aG i;refine⟨?_,?_⟩
  ·show(gz _ _ _).length=_
   rw[DW,I]
  ·show dz (gz _ _ _)=_
   rw[yt (by omega),J];omega
section
variable {N:Nat} (a1:5000<N) {cR:List (Int×Option Nat)} (eY:il N=some cR) {w:Nat} (hw:w<=8) {y:Nat} (aG:y<6)
include a1 eY hw aG
theorem hW.YP{s:lI}{f g:bV}{ys:dd}(h:hW w s f g ys){Y:bq}(bE:ys[y]?=some Y)(cQ:Y.1=true)(o:dz s.1+w<=200)(ak:Y.2.1=51\/Y.2.1=-13):∀i,i<=w ->
  ey N cR (lb ((y:Int)+1) i) (fI s.1 ys 0 f g) λst=>∃f' a b,st=fI (mJ y i s).1 a 0 f' g/\hW w (mJ y i s) f' g a/\a[y]?=some b/\b.1=true/\(b.2.1=4 * (12+(i:Int))+3\/i=0/\b.2.1=-13)/\∀z,z≠y->a[z]?=ys[z]?
 |0,_=>⟨f,ys,Y,rfl,h,bE,cQ,ak.elim (λh=>inl (by rw[h];rfl)) (λh=>inr ⟨rfl,h⟩),λ_ _=>rfl⟩
 |i+1,hi=>by
  have m:=hW.YP h bE cQ o ak i (by omega);have e:lb ((y:Int)+1) (i+1)=lb ((y:Int)+1) i++[(4,1,(0,13+(i:Int)),(y:Int)+1,0)]:=by
   unfold lb;rw[range_succ,map_append]
   rfl
  rw[e];refine ey.append ?_ m;rintro st ⟨f',a,b,rfl,l,v,c,t,j⟩;have A:=AV (by rw[h.me.len];exact aG) i;refine hW.front a1 eY hw aG l v c (by omega) (by omega) t ?_;intro n k d J p u q r;exact⟨n,k,d,rfl,J,p,u,inl q,λz bF=>(r z bF).trans (j z bF)⟩
theorem hW.YQ{s:lI}{f g:bV}{ys:dd}(h:hW w s f g ys){Y:bq}(bE:ys[y]?=some Y)(cQ:Y.1=true)(n:dz s.1+w<=200)(ak:Y.2.1=4 * (12+(w:Int))+3):∀i,i<=w ->
  ey N cR (ns (w:Int) ((y:Int)+1) i) (fI s.1 ys 0 f g) λst=>∃g' a b,st=fI (mK y w i s).1 a 0 f g'/\hW w (mK y w i s) f g' a/\a[y]?=some b/\b.1=true/\b.2.1=4 * (12+((w-i:Nat):Int))+3/\∀z,z≠y->a[z]?=ys[z]?
 |0,_=>⟨g,ys,Y,rfl,h,bE,cQ,ak,λ_ _=>rfl⟩
 |i+1,hi=>by
  have m:=hW.YQ h bE cQ n ak i (by omega);have e:ns (w:Int) ((y:Int)+1) (i+1)=ns (w:Int) ((y:Int)+1) i++[(4,0,(1,13+((w-1-i:Nat):Int)),(y:Int)+1,0)]:=by
   unfold ns;rw[range_succ,map_append,show((w-1-i:Nat):Int)=(w:Int)-1-(i:Int) by omega]
   rfl
  rw[e];refine ey.append ?_ m;rintro st ⟨g',a,b,rfl,l,u,c,r,j⟩;have v:=IW (w:=w) (by rw[h.me.len];exact aG) i;refine hW.back a1 eY hw aG l u c (by omega) (by omega) (by rw[r];omega) ?_;intro g2 k d J o t p q;exact⟨g2,k,d,rfl,J,o,t,by rw[p];omega,λz bF=>(q z bF).trans (j z bF)⟩
end
theorem anh{α:Type}(A:List α)(z x:α)(m:Nat)(a:0<m):(A++replicate m z).set A.length x=(A++[x])++replicate (m-1) z:=by
 obtain⟨q,rfl⟩:∃q,m=q+1:=⟨m-1,by omega⟩
 rw[set_append_right (h:=Nat.le_refl _),sub_self,List.replicate_succ,List.set_cons_zero,Nat.add_sub_cancel,append_assoc]
 rfl
def lJ(p:Int->Bool):bZ:=[1,2,3,4,5,6].filter p
def Pq(m:Nat):Bool:=(perms (lJ λy=>m.testBit (y.toNat-1))).all λq=>DE q==some (lJ λy=>m.testBit (y.toNat-1))
theorem ani:(range 64).all Pq=true:=by kernel_rfl
def uK(cH a b c d e:Bool):Nat:=cH.toNat+2 * a.toNat+4 * b.toNat+8 * c.toNat+16 * d.toNat+32 * e.toNat
theorem YR:∀cH a b c d e:Bool,uK cH a b c d e<64/\(uK cH a b c d e).testBit 0=cH/\(uK cH a b c d e).testBit 1=a/\(uK cH a b c d e).testBit 2=b/\(uK cH a b c d e).testBit 3=c/\(uK cH a b c d e).testBit 4=d/\(uK cH a b c d e).testBit 5=e:=by decide
theorem anj(q:bZ)(ba:q.Nodup)(f:∀y∈q,1<=y/\y<=6):DE q=some (lJ λy=>q.elem y):=by
 obtain⟨d,I,J,ag,g,c,b⟩:=YR (q.elem 1) (q.elem 2) (q.elem 3) (q.elem 4) (q.elem 5) (q.elem 6)
 generalize uK (q.elem 1) (q.elem 2) (q.elem 3) (q.elem 4) (q.elem 5) (q.elem 6)=m at *
 have e:(lJ λy=>m.testBit (y.toNat-1))=lJ λy=>q.elem y:=by
  unfold lJ;refine filter_congr λy aG=>?_
  simp only[List.mem_cons,not_mem_nil,or_false]at aG
  rcases aG with rfl|rfl|rfl|rfl|rfl|rfl
  ·exact I
  ·exact J
  ·exact ag
  ·exact g
  ·exact c
  ·exact b
 have a:Pq m=true:=List.all_eq_true.1 ani m (by simpa using d);unfold Pq at a;rw[e]at a;have ak:q.Perm (lJ λy=>q.elem y):=by
  refine(List.perm_ext_iff_of_nodup ba (List.Pairwise.sublist List.filter_sublist (by decide))).2 λy=>?_
  simp only[List.mem_filter,elem_eq_mem,decide_eq_true_eq];constructor
  ·intro h
   have:=f y h
   refine⟨?_,h⟩;simp only[List.mem_cons,not_mem_nil,or_false];omega
  ·exact λh=>h.2
 have:=List.all_eq_true.1 a q (Kw ak)
 simpa using this
theorem ank:yj=some true:=by kernel_rfl
def wA(l:bZ)(i:Nat):Bool:=decide (1<=l.getD i 0)&&decide (l.getD i 0<=6)
def AW(l:bZ):Bool:=(range l.length).all (wA l)
def wB(w:Int)(l:bZ):Int:=if 16<w\/31<l.length then 3 else if w<1\/l.length<1 then 1 else if AW l then 0 else 1
theorem anl(w:Int)(l:bZ):DC (w,l)=some (wB w l):=by
 unfold DC wB
 by_cases I:16<w\/31<l.length
 ·rw[if_pos I]
  simp (disch:=((try simp[aW,bd,dA, -getD_eq_getElem?_getD]);try omega;done)) only[r1]
 ·rw[if_neg I]
  by_cases J:w<1\/l.length<1
  ·rw[if_pos J]
   simp (disch:=((try simp[aW,bd,dA, -getD_eq_getElem?_getD]);try omega;done)) only[r1,qW]
  ·rw[if_neg J]
   have ah:l.length<=31:=by omega
   have c:l.length<ia:=DR (le_trans ah (by decide))
   simp (disch:=((try simp[aW,bd,dA, -getD_eq_getElem?_getD]);try omega;done)) only[qW]
   have step:∀n k,k<l.length->wA l k=true->pn (w,l) (n+1) k=pn (w,l) n (k+1):=λn k aa h=>by
    simp[wA, -getD_eq_getElem?_getD]at h
    rw[pn]
    simp (disch:=((try simp[aW,bd,dA, -getD_eq_getElem?_getD]);try omega;done)) only[qV,r1,qW]
   by_cases h:∀k,k<l.length->wA l k=true
   ·have e:AW l=true:=by rw[AW,List.all_eq_true];intro i hi;exact h i (by simpa using hi)
    have:=N2 (λn i (s:Unit)=>pn (w,l) n i) l.length (λ_=>()) (.inl ()) c (λn k aa=>step n k aa (h k aa)) (λn=>by
     show pn (w,l) (n+1) l.length=some (.inl ());rw[pn,qW (by simp)])
    rw[this,e];rfl
   ·obtain⟨j,a,ab,b⟩:=aki (wA l) _ h
    have e:AW l=false:=by
     rw[AW,List.all_eq_false];exact⟨j,by simpa using a,by simpa using ab⟩
    have:=N2 (λn i (s:Unit)=>pn (w,l) n i) j (λ_=>()) (.inr 1) (by omega) (λn k aa=>step n k (by omega) (b k aa)) (λn=>by
     show pn (w,l) (n+1) j=some (.inr 1)
     simp[wA, -getD_eq_getElem?_getD]at ab
     rw[pn]
     simp (disch:=((try simp[aW,bd,dA, -getD_eq_getElem?_getD]);try omega;done)) only[qV,r1])
    rw[this,e];rfl
theorem YS(b i d:Int)(ops:c9)(y:Int)(I:-1000<=i/\i<=1000)(J:ops.length<=1000000):AB b i d ops y=some (ops++[(4,d,(b,13+i),y,0)]):=by
 unfold AB
 simp (disch:=((try simp[aW,bd,dA, -getD_eq_getElem?_getD]);try omega;done)) only[qV]
theorem YT(w:Int)(a:bZ)(v:Int)(ops:c9)(hw:1<=w/\w<=16)(ah:ops.length<=900000):qP (w,a) v ia 0 ops=some (ops++lb (a.getD v.toNat 0) w.toNat):=
 Ii (λn i s=>qP (w,a) v n i s) w.toNat (λk=>ops++lb (a.getD v.toNat 0) k) ops _ (by simp[lb]) (DR (le_trans (show w.toNat<=16 by omega) (by decide))) (λn k aa=>by
  show qP (w,a) v (n+1) k (ops++lb (a.getD v.toNat 0) k)=qP (w,a) v n (k+1) (ops++lb (a.getD v.toNat 0) (k+1));rw[qP,YS _ _ _ _ _ (by omega) (by simp[lb];omega)]
  simp (disch:=((try simp[aW,bd,dA, -getD_eq_getElem?_getD]);try omega;done)) only[qV,r1,bind_some]
  simp[lb,range_succ]) (λn=>by
  show qP (w,a) v (n+1) w.toNat (ops++lb (a.getD v.toNat 0) w.toNat)=_;rw[qP,qW (by simp;omega)])
theorem YU(w:Int)(a:bZ)(v:Int)(ops:c9)(hw:1<=w/\w<=16)(ah:ops.length<=900000):qQ (w,a) v ia 0 ops=some (ops++ns w (a.getD v.toNat 0) w.toNat):=
 Ii (λn i s=>qQ (w,a) v n i s) w.toNat (λk=>ops++ns w (a.getD v.toNat 0) k) ops _ (by simp[ns]) (DR (le_trans (show w.toNat<=16 by omega) (by decide))) (λn k aa=>by
  show qQ (w,a) v (n+1) k (ops++ns w (a.getD v.toNat 0) k)=qQ (w,a) v n (k+1) (ops++ns w (a.getD v.toNat 0) (k+1));rw[qQ,YS _ _ _ _ _ (by omega) (by simp[ns];omega)]
  simp (disch:=((try simp[aW,bd,dA, -getD_eq_getElem?_getD]);try omega;done)) only[qV,r1,bind_some]
  simp[ns,range_succ]) (λn=>by
  show qQ (w,a) v (n+1) w.toNat (ops++ns w (a.getD v.toNat 0) w.toNat)=_;rw[qQ,qW (by simp;omega)])
def hX(a:bZ):Nat->bZ
 |0=>[]
 |k+1=>if (hX a k).elem (a.getD k 0)then hX a k else hX a k++[a.getD k 0]
theorem Pr(c:bZ):∀k,(hX c k).Nodup
 |0=>List.Pairwise.nil
 |k+1=>by
  unfold hX
  split
  ·exact Pr c k
  ·rename_i h
   rw[List.nodup_append];refine⟨Pr c k,by simp,λa bm b ab e=>?_⟩;simp only[List.mem_singleton]at ab;subst ab;subst e;exact h (by simpa using bm)
theorem Ps(a:bZ)(p:Int->Prop)(ak:∀i,i<a.length->p (a.getD i 0)):∀k,k<=a.length->∀y∈hX a k,p y
 |0,_,y,aG=>by simp[hX]at aG
 |k+1,aa,y,aG=>by
  unfold hX at aG
  split at aG
  ·exact Ps a p ak k (by omega) y aG
  ·rcases List.mem_append.1 aG with aG|aG
   ·exact Ps a p ak k (by omega) y aG
   ·simp only[List.mem_singleton]at aG
    subst aG;exact ak k (by omega)
abbrev r9(l:bZ):List (Int×Bool):=l.map λy=>(y,true)
theorem YV(y:Int):∀l:bZ,de (.int .u8) .bool (r9 l) y=if l.elem y then some true else none
 |[]=>rfl
 |x::l=>by
  show de (.int .u8) .bool ((x,true)::r9 l) y=_;unfold de
  by_cases h:x=y
  ·subst h
   simp[aV.beq]
  ·have e:(aV.int .u8).beq x y=false:=by simp[aV.beq,h]
   rw[e];dsimp only;rw[YV y l]
   simp[Ne.symm h]
theorem YW(y:Int):∀l:bZ,l.elem y=false->eS (.int .u8) .bool (r9 l) y true=r9 (l++[y])
 |[],_=>rfl
 |x::l,h=>by
  show eS (.int .u8) .bool ((x,true)::r9 l) y true=_;unfold eS;have an:x≠y:=λe=>by subst e;simp at h
  have e:(aV.int .u8).beq x y=false:=by simp[aV.beq,an]
  rw[e];dsimp only;rw[YW y l (by simp at h ⊢;exact h.2)]
  rfl
def hY(w:Int)(a:bZ):Nat->c9
 |0=>[]
 |k+1=>((hY w a k++(if (hX a k).elem (a.getD k 0)then [] else [(1,0,(0,0),a.getD k 0,0)]))++lb (a.getD k 0) w.toNat)++ns w (a.getD k 0) w.toNat
def nt(w:Int)(a:bZ):Nat->bZ
 |0=>[]
 |k+1=>nt w a k++[((hY w a k).length:Int)]
theorem IY(w:Int)(a:bZ)(hw:1<=w/\w<=16):∀k,(hY w a k).length<=40 * k
 |0=>by simp[hY]
 |k+1=>by
  have b:=IY w a hw k;unfold hY
  split<;>simp[lb,ns]<;>omega
theorem tg(w:Int)(a:bZ):∀k,(nt w a k).length=k
 |0=>rfl
 |k+1=>by simp[nt,tg w a k]
theorem anm(w:Int)(a:bZ)(m:Nat)(f:a.length<=m)(hw:1<=w/\w<=16)(e:a.length<=31):qR (w,a) ia 0 [] [] (some m) []=some (hY w a a.length,nt w a a.length,some m,r9 (hX a a.length)):=
 Ii (λn i (s:c9×bZ×Option Nat×List (Int×Bool))=>qR (w,a) n i s.1 s.2.1 s.2.2.1 s.2.2.2) a.length (λk=>(hY w a k,nt w a k,some m,r9 (hX a k))) ([],[],some m,[]) _ rfl (DR (le_trans e (by decide))) (λn k aa=>by
  show qR (w,a) (n+1) k (hY w a k) (nt w a k) (some m) (r9 (hX a k))=qR (w,a) n (k+1) (hY w a (k+1)) (nt w a (k+1)) (some m) (r9 (hX a (k+1)));have I:=IY w a hw k;have J:=tg w a k;rw[qR,toNat_natCast,YV,hY,nt,hX,show o4 (some m) ((nt w a k).length+[((hY w a k).length:Int)].length)=some m by rw[J,o4,r1 (Nat.ble_eq_true_of_le (by simp;omega))]];cases he:(hX a k).elem (a.getD k 0)
  ·have b:=YT w a k (hY w a k++[((1:Int),((0:Int),(((0:Int),(0:Int)),(a.getD k 0,(0:Int)))))]) hw (by simp;omega)
   have c:=YU w a k ((hY w a k++[((1:Int),((0:Int),(((0:Int),(0:Int)),(a.getD k 0,(0:Int)))))])++lb (a.getD k 0) w.toNat) hw (by simp[lb];omega);rw[toNat_natCast]at b c;have d:=YW (a.getD k 0) (hX a k) he;simp only[Bool.false_eq_true,if_false,Option.getD_none]
   simp (disch:=((try simp[aW,bd,dA, -getD_eq_getElem?_getD]);try omega;done)) only[qV,r1,bind_some,d,b,c]
  ·have b:=YT w a k (hY w a k) hw (by omega)
   have c:=YU w a k (hY w a k++lb (a.getD k 0) w.toNat) hw (by simp[lb];omega);rw[toNat_natCast]at b c;simp only[if_true,getD_some,append_nil]
   simp (disch:=((try simp[aW,bd,dA, -getD_eq_getElem?_getD]);try omega;done)) only[qV,r1,qW,bind_some,b,c]) (λn=>by
  show qR (w,a) (n+1) a.length (hY w a a.length) (nt w a a.length) (some m) (r9 (hX a a.length))=_;rw[qR,qW (by simp)])
def kP(k:Nat):bZ:=(range k).map λ(i:Nat)=>13+(i:Int)
def sb(k:Nat):c9:=(range k).map λ(i:Nat)=>((7:Int),(0:Int),((1:Int),13+(i:Int)),(0:Int),(0:Int))
theorem ann(w:Int)(a:bZ)(ops:c9)(hw:1<=w/\w<=16)(ah:ops.length<=900000):qT (w,a) ia 0 ops (replicate w.toNat (0:Int))=some (ops++sb w.toNat,kP w.toNat):=
 Ii (λn i (s:c9×bZ)=>qT (w,a) n i s.1 s.2) w.toNat (λk=>(ops++sb k,kP k++replicate (w.toNat-k) 0)) (ops,replicate w.toNat (0:Int)) _ (by simp[sb,kP]) (DR (le_trans (show w.toNat<=16 by omega) (by decide))) (λn k aa=>by
  show qT (w,a) (n+1) k (ops++sb k) (kP k++replicate (w.toNat-k) 0)=qT (w,a) n (k+1) (ops++sb (k+1)) (kP (k+1)++replicate (w.toNat-(k+1)) 0);have c:(kP k).length=k:=by simp[kP]
  have b:=anh (kP k) (0:Int) (13+(k:Int)) (w.toNat-k) (by omega);rw[c]at b;have d:((kP k++[13+(k:Int)])++replicate (w.toNat-k-1) 0).getD k 0=13+(k:Int):=by
   rw[getD_eq_getElem?_getD,getElem?_append_left (by simp[kP]),getElem?_append_right (by simp[kP])]
   simp[kP]
  rw[qT,toNat_natCast,b,d,length_replicate]
  simp (disch:=((try simp[aW,bd,dA, -getD_eq_getElem?_getD,kP,sb]);try omega;done)) only[qV,r1]
  simp[kP,sb,range_succ,Nat.sub_sub]) (λn=>by
  show qT (w,a) (n+1) w.toNat (ops++sb w.toNat) (kP w.toNat++replicate (w.toNat-w.toNat) 0)=_;rw[qT,qW (by simp),sub_self]
  simp)
theorem YX:∀(q:List (Int×Bool)) (a:bZ),a.length+q.length<=1000->r0 q a=some (a++q.map (·.1))
 |[],a,_=>by simp[r0]
 |e::q,a,h=>by
  simp only[length_cons]at h;rw[r0,NR]
  simp (disch:=((try simp[aW,bd,dA, -getD_eq_getElem?_getD]);try omega;done)) only[qV,bind_some]
  rw[YX q (a++[e.1]) (by simp;omega)]
  simp
theorem ano{w:Int}{a:bZ}(h:wB w a=0):(1<=w/\w<=16)/\(1<=a.length/\a.length<=31)/\∀i,i<a.length->1<=a.getD i 0/\a.getD i 0<=6:=by
 unfold wB at h
 split at h
 ·cases h
 ·split at h
  ·cases h
  ·split at h
   ·rename_i I J ag
    refine⟨by omega,by omega,λi hi=>?_⟩
    have:=List.all_eq_true.1 ag i (by simpa using hi)
    simpa only[wA,Bool.and_eq_true,decide_eq_true_eq] using this
   ·cases h
theorem anp(p:Int->Bool):(lJ p).length<=6:=by
 unfold lJ;exact le_trans (length_filter_le _ _) (by decide)
def Pt(y:Int):bH:=(2,0,(0,0),y,0)
def Pu(m:Nat):Bool:=HX (lJ λy=>m.testBit (y.toNat-1))==some ((lJ λy=>m.testBit (y.toNat-1)).map Pt,0)
theorem anq:(range 64).all Pu=true:=by kernel_rfl
theorem anr(p:Int->Bool):HX (lJ p)=some ((lJ p).map Pt,0):=by
 obtain⟨d,I,J,ag,f,c,b⟩:=YR (p 1) (p 2) (p 3) (p 4) (p 5) (p 6)
 generalize uK (p 1) (p 2) (p 3) (p 4) (p 5) (p 6)=m at *
 have e:(lJ λy=>m.testBit (y.toNat-1))=lJ p:=by
  unfold lJ;refine filter_congr λy aG=>?_
  simp only[List.mem_cons,not_mem_nil,or_false]at aG
  rcases aG with rfl|rfl|rfl|rfl|rfl|rfl
  ·exact I
  ·exact J
  ·exact ag
  ·exact f
  ·exact c
  ·exact b
 have a:Pu m=true:=List.all_eq_true.1 anq m (by simpa using d);unfold Pu at a;rw[e]at a;exact eq_of_beq a
def th(w:Int)(a:bZ)(bops:c9):c9:=((hY w a a.length++sb w.toNat)++bops)++(lJ λy=>(hX a a.length).elem y).map Pt
theorem ans(w:Int)(a:bZ)(h:wB w a=0){bops:c9}(f:Dx (a.getD (a.length-1) 0) (kP w.toNat)=some (bops,bops.length,0))(o:bops.length<=4000):v8 (w,a)=some (th w a bops,(th w a bops).length,nt w a a.length++[((hY w a a.length).length:Int)],some (a.length+1),0):=by
 obtain⟨hw,j,aG⟩:=ano h;have z:=IY w a hw a.length;have p:=tg w a a.length;have r:(kP w.toNat).length=w.toNat:=by simp[kP]
 have g:((a.length:Int)-1).toNat=a.length-1:=by omega
 have t:=aG (a.length-1) (by omega);have u:(sb w.toNat).length<=16:=by simp[sb];omega
 have e:=Pr a a.length;have d:=Ps a (λy=>1<=y/\y<=6) aG a.length (Nat.le_refl _);have n:=anp (λy=>(hX a a.length).elem y);unfold v8;rw[anl,h,bind_some];dsimp only;rw[show((a.length:Int)+1).toNat=a.length+1 by omega,anm w a _ (by omega) hw j.2]
 simp (disch:=((try simp[aW,bd,dA, -getD_eq_getElem?_getD]);try omega;done)) only[qV,qW,bind_some]
 rw[ann w a _ hw (by omega)]
 simp (disch:=((try simp[aW,bd,dA, -getD_eq_getElem?_getD]);try omega;done)) only[bind_some]
 rw[g,f]
 simp (disch:=((try simp[aW,bd,dA, -getD_eq_getElem?_getD]);try omega;done)) only[qW,bind_some]
 rw[qV (by simp only[a8];omega),qV (by simp only[a8];omega)]
 apply adq
 intro q i;have c:(q.map (·.1)).Perm (hX a a.length):=by
  have:=i.map (·.1)
  simpa [r9,map_map,Function.comp_def] using this
 have v:(hX a a.length).length<=6:=by
  have ak:(hX a a.length).Perm (lJ λy=>(hX a a.length).elem y):=by
   refine(List.perm_ext_iff_of_nodup e (List.Pairwise.sublist List.filter_sublist (by decide))).2 λy=>?_
   simp only[List.mem_filter,elem_eq_mem,decide_eq_true_eq];refine⟨λb=>⟨?_,b⟩,λb=>b.2⟩
   have:=d y b
   simp only[List.mem_cons,not_mem_nil,or_false];omega
  rw[ak.length_eq];exact n
 have s:q.length<=6:=by
  have:=c.length_eq
  rw[length_map]at this;omega
 rw[YX q [] (by simp;omega),bind_some,nil_append,anj (q.map (·.1)) (c.nodup_iff.2 e) (λy b=>d y (c.mem_iff.1 b)),bind_some];have m:(lJ λy=>(q.map (·.1)).elem y)=lJ λy=>(hX a a.length).elem y:=by
  refine filter_congr λy _=>?_
  simp only[elem_eq_mem];exact decide_eq_decide.2 c.mem_iff
 have k:∀l,NM l=some (l,l.length):=λl=>OX 6000 l
 rw[m,anr,bind_some,qW (by simp),RB (by simp only[dA,length_append,length_map,Bool.and_eq_true,decide_eq_true_eq];omega),k,bind_some,o4,r1 (Nat.ble_eq_true_of_le (by simp;omega))]
 rfl
theorem ant(w:Int)(a:bZ)(h:wB w a=0){bops:c9}(b:Dx (a.getD (a.length-1) 0) (kP w.toNat)=some (bops,bops.length,0))(c:bops.length<=4000):yn (w,a)=some (th w a bops,(th w a bops).length,nt w a a.length++[((hY w a a.length).length:Int)],a.length+1,0):=by
 unfold yn;rw[ans w a h b c]
 rfl
structure sc(f:bV)(ys:dd)(t:cj)(A:bX)(aK:Nat)(Y:bq):Prop where
 Y0:hV f ys t
 qd:OL A 40
 ne:1<=A.length
 Y1:A.length<=8
 hn:aK<6
 bE:ys[aK]?=some Y
 cQ:Y.1=true
 pl:Y.2.1=3
 AU:Y.2.2.2.2.length<=3000
 Pv:∀(i:Nat) (Z:bq),i≠aK->ys[i]?=some Z->Z.1=true->Z.2.1=3
 full:∀a∈A,cM f (a:Int)≠[]/\(cM f (a:Int)).length<=2
 only:∀k,cM f k≠[]->∃a∈A,k=(a:Int)
 all:dz t<=40
def mf(aK:Nat)(c0:Int)(i:Nat):ae:=((aK:Int)+1,c0+(i:Int))
def anu(aK:Nat)(c0:Int)(S:Nat->b7):Nat->b7
 |0=>S 0
 |i+1=>mf aK c0 i::S (i+1)
def anv(aK:Nat)(Y:bq):Nat->eg
 |0=>Y.2.2.2.2
 |i+1=>[(mf aK Y.2.2.1 i,(true,0))]
def anw(Y:bq):Nat->Bool
 |0=>Y.2.2.2.1
 |_+1=>false
def sd(t:cj)(aK:Nat)(Y:bq)(S:Nat->b7):Nat->cj
 |0=>t
 |i+1=>gz (sd t aK Y S i) aK (0,(anw Y i,(anu aK Y.2.2.1 S i,anv aK Y i)))
def mM(ys:dd)(aK:Nat)(Y:bq)(A:bX)(i:Nat):dd:=ys.set aK (true,4 * ((A.getD i 0:Nat):Int)+2+1,Y.2.2.1+(i:Int)+1,false,[])
def ti(f:bV)(A:bX)(i:Nat):b7:=cM f ((A.getD i 0:Nat):Int)
def yI(f:bV)(ys:dd)(t:cj)(A:bX)(aK:Nat)(Y:bq):Nat->iA->Prop
 |0,s=>s=fI t ys 0 f []
 |i+1,s=>∃f',s=fI (sd t aK Y (ti f A) (i+1)) (mM ys aK Y A i) 0 f' []/\hV f' (mM ys aK Y A i) (sd t aK Y (ti f A) (i+1))/\∀k,cM f' k=if k=((A.getD i 0:Nat):Int)then [mf aK Y.2.2.1 i] else if ((A.getD i 0:Nat):Int)<k then cM f k else []
theorem Y2{t:cj}{aK:Nat}{Y:bq}{S:Nat->b7}(h:aK<t.length):∀i,dz (sd t aK Y S i)=dz t+i/\(sd t aK Y S i).length=t.length
 |0=>⟨rfl,rfl⟩
 |i+1=>by
  obtain⟨I,J⟩:=Y2 h i (Y:=Y) (S:=S);refine⟨?_,?_⟩
  ·show dz (gz _ aK _)=_
   rw[yt (by omega),I]
   first|omega|rfl
  ·show(gz _ aK _).length=_
   rw[DW,J]
theorem anx{f d:bV}(aC:mI f [])(m:mI d []){x:ae}{c b:Int}(bm:1<=c/\c<=40)(ab:1<=b/\b<=40)(h:c≠b)(j:cM f c=[x])(J:∀k,cM d k=te (cM f) x c b k):d.flatten.Perm f.flatten:=by
 rw[perm_iff_count];intro z;have U:∀l:bV,l.length<=40->l.flatten.count z=((range 40).map λk:Nat=>(cM l ((k:Int)+1)).count z).sum:=by
  intro l ah;rw[r4 z ah];unfold It;have n:(range 40).map (λk=>(l.getD k []).count z)=(range 40).map λk:Nat=>(cM l ((k:Int)+1)).count z:=by
   refine List.map_congr_left λk aa=>?_
   rw[mem_range]at aa
   have:=jF (f:=l) (a:=k+1) (by omega) (by omega)
   rw[show((k+1:Nat):Int)=(k:Int)+1 by omega]at this;rw[this]
   rfl
  rw[n]
 rw[U d m.ct.ft.len,U f aC.ct.ft.len];have i:=On (λk:Nat=>if (k:Int)+1=c then 0 else(cM f ((k:Int)+1)).count z) (λk:Nat=>(cM f ((k:Int)+1)).count z) (c-1).toNat 40 (by omega) (λk aa=>by rw[if_neg (by omega)]);have g:=On (λk:Nat=>(cM d ((k:Int)+1)).count z) (λk:Nat=>if (k:Int)+1=c then 0 else(cM f ((k:Int)+1)).count z) (b-1).toNat 40 (by omega) (λk aa=>by
  rw[J];unfold te;rw[if_neg (show ¬(k:Int)+1=b by omega),nil_append]
  split
  ·rfl
  ·rfl)
 rw[show(((c-1).toNat:Nat):Int)+1=c by omega,if_pos rfl,j]at i;rw[show(((b-1).toNat:Nat):Int)+1=b by omega,if_neg (λe=>h e.symm),J]at g;unfold te at g;rw[if_pos rfl,if_neg (λe=>h e.symm),count_append]at g;omega
section
variable {N:Nat} (a1:5000<N) {cR:List (Int×Option Nat)} {f:bV} {ys:dd} {t:cj} {A:bX} {aK:Nat} {Y:bq} (h:sc f ys t A aK Y)
theorem sc.get{i:Nat}(h:sc f ys t A aK Y)(hi:i<A.length):A[i]?=some (A.getD i 0)/\1<=A.getD i 0/\A.getD i 0<=40:=by
 have e:A[i]?=some (A.getD i 0):=by
  rw[getD_eq_getElem?_getD,getElem?_eq_getElem hi]
  rfl
 exact⟨e,h.qd.q3 _ (mem_of_getElem? e)⟩
theorem sc.lt(h:sc f ys t A aK Y){i j:Nat}(b:i<j)(a:j<A.length):A.getD i 0<A.getD j 0:=by
 have:=List.pairwise_iff_getElem.1 h.qd.qd i j (by omega) a b
 rw[ck (getElem?_eq_getElem (by omega:i<A.length)),ck (getElem?_eq_getElem a)];exact this
theorem sc.I0(h:sc f ys t A aK Y){k:Int}(aa:∀j,j<A.length->k≠((A.getD j 0:Nat):Int)):cM f k=[]:=by
 by_cases e:cM f k=[]
 ·exact e
 ·obtain⟨a,bm,d⟩:=h.only k e
  obtain⟨j,b⟩:=List.mem_iff_getElem?.1 bm;have c:=(List.getElem?_eq_some_iff.1 b).1;exact absurd (by rw[ck b];exact d) (aa j c)
theorem anz(a1:5000<N)(eY:il N=some cR)(h:sc f ys t A aK Y):ey N cR [(4,(1,((0,((A.getD 0 0:Nat):Int)),((aK:Int)+1,0))))] (fI t ys 0 f []) (yI f ys t A aK Y 1):=by
 have r:=h.ne;have s:=h.all;obtain⟨I,J,ag⟩:=h.get (i:=0) (by omega);have o:=mem_of_getElem? I;have d:=h.full _ o;have u:=h.pl;rw[jF J ag]at d;refine Yw a1 h.Y0 h.hn h.bE h.cQ eY (by omega) J ag (by omega) (λk _ aa=>h.I0 λj b e=>?_) d.1 λf' q m n=>?_
 ·by_cases a:j=0
  ·subst a;omega
  ·have:=h.lt (i:=0) (by omega) b
   omega
 ·have g:(sd t aK Y (ti f A) 1)=gz t aK (0,(Y.2.2.2.1,(f.getD (A.getD 0 0-1) [],Y.2.2.2.2))):=by
   show gz t aK (0,(Y.2.2.2.1,(cM f ((A.getD 0 0:Nat):Int),Y.2.2.2.2)))=_;rw[jF J ag]
  have c:mM ys aK Y A 0=ys.set aK (true,4 * ((A.getD 0 0:Nat):Int)+2+1,Y.2.2.1+1,false,[]):=by
   unfold mM;rw[show Y.2.2.1+((0:Nat):Int)+1=Y.2.2.1+1 by omega]
  refine⟨f',by rw[g,c],by rw[g,c];exact n,λk=>?_⟩;show cM f' k=if k=((A.getD 0 0:Nat):Int)then [mf aK Y.2.2.1 0] else if ((A.getD 0 0:Nat):Int)<k then cM f k else []
  by_cases aa:1<=k/\k<=40
  ·obtain⟨k',rfl⟩:∃k':Nat,k=(k':Int):=⟨k.toNat,by omega⟩
   rw[jF (by omega) (by omega),m]
   by_cases v:k'=A.getD 0 0
   ·rw[if_pos (by omega),if_pos (by omega)]
    unfold mf;rw[show Y.2.2.1+((0:Nat):Int)=Y.2.2.1 by omega]
   ·rw[if_neg (by omega),if_neg (by omega)]
    by_cases p:A.getD 0 0<k'
    ·rw[if_pos (by omega),jF (by omega) (by omega)]
    ·rw[if_neg (by omega)]
     have:=h.I0 (k:=(k':Int)) λj b e=>by
      by_cases a:j=0
      ·subst a;omega
      ·have:=h.lt (i:=0) (by omega) b
       omega
     rw[jF (by omega) (by omega)]at this;exact this
  ·have bF:∀l:bV,cM l k=[]:=λl=>by unfold cM;rw[if_neg aa]
   rw[bF,bF,if_neg (by omega)]
   split<;>rfl
theorem Y4(a1:5000<N)(eY:il N=some cR)(h:sc f ys t A aK Y){i:Nat}(hi:i+1<A.length){s:iA}(U:yI f ys t A aK Y (i+1) s) :
  T (vL N [((A.getD i 0:Nat):Int)] [((A.getD (i+1) 0:Nat):Int)]) λo=>o.2.2=0/\o.1.length<=100/\ey N cR (o.1++[(4,(1,((0,((A.getD (i+1) 0:Nat):Int)),((aK:Int)+1,0))))]) s (yI f ys t A aK Y (i+2)):=by
 obtain⟨f',rfl,a,m⟩:=U;have aq:=h.all;have I2:=h.Y1;obtain⟨ap,g2,ac⟩:=h.get (i:=i) (by omega);obtain⟨af,K,M⟩:=h.get hi;have an:=h.lt (i:=i) (by omega) hi;have ad:=(List.getElem?_eq_some_iff.1 h.bE).1;have ai:=h.full _ (mem_of_getElem? af);have g:(mM ys aK Y A i)[aK]?=some (true,4 * ((A.getD i 0:Nat):Int)+2+1,Y.2.2.1+(i:Int)+1,false,[]):=by
  unfold mM;rw[getElem?_set,if_pos rfl,if_pos ad]
 have H:∀(j:Nat) (Z:bq),j≠aK->(mM ys aK Y A i)[j]?=some Z->Z.1=true->Z.2.1=3:=λj Z b c q=>by
  unfold mM at c;rw[getElem?_set,if_neg (λe=>b e.symm)]at c;exact h.Pv j Z b c q
 have d:cM f' ((A.getD i 0:Nat):Int)=[mf aK Y.2.2.1 i]:=by rw[m,if_pos rfl]
 have y:mf aK Y.2.2.1 i∈f'.flatten:=by
  rw[jF g2 ac,getD_eq_getElem?_getD]at d;cases ao:f'[A.getD i 0-1]? with
  |none=>rw[ao]at d;cases d
  |some z=>
   rw[ao]at d;have bF:z=[mf aK Y.2.2.1 i]:=d;exact List.mem_flatten.2 ⟨z,mem_of_getElem? ao,by rw[bF];exact List.mem_singleton.2 rfl⟩
 have B:∀k:Int,((A.getD i 0:Nat):Int)<k->k<((A.getD (i+1) 0:Nat):Int)->cM f k=[]:=λk n r=>h.I0 λj b e=>by
  by_cases ar:j<=i
  ·by_cases C:j=i
   ·subst C;omega
   ·have:=h.lt (i:=j) (j:=i) (by omega) (by omega)
    omega
  ·by_cases C:j=i+1
   ·subst C;omega
   ·have:=h.lt (i:=i+1) (by omega) b
    omega
 have V:AT (mM ys aK Y A i) aK (true,4 * ((A.getD i 0:Nat):Int)+2+1,Y.2.2.1+(i:Int)+1,false,[]) (cM f') (mf aK Y.2.2.1 i) ((A.getD i 0:Nat):Int) ((A.getD (i+1) 0:Nat):Int):=by
  refine⟨a.ma,a.js,λj Z c q=>?_,h.hn,g,rfl,by show 4 * ((A.getD i 0:Nat):Int)+2+1=_;omega,zero_le _,λj Z b c q=>by have:=H j Z b c q;omega,D8 a.ct.ft y,by omega,d,λk n r=>?_,?_⟩
  ·by_cases b:j=aK
   ·subst b
    rw[g]at c;cases c;show(4 * ((A.getD i 0:Nat):Int)+2+1) % 4=3;omega
   ·have:=H j Z b c q
    omega
  ·rw[m,if_neg (by omega),if_pos n]
   exact B k n r
  ·rw[m,if_neg (by omega),if_pos (by omega)]
   omega
 have ah:q5 (sd t aK Y (ti f A) (i+1)) (mM ys aK Y A i) aK (true,4 * ((A.getD i 0:Nat):Int)+2+1,Y.2.2.1+(i:Int)+1,false,[]) (cM f') (mf aK Y.2.2.1 i) ((A.getD i 0:Nat):Int) 0 ((A.getD i 0:Nat):Int) (fI (sd t aK Y (ti f A) (i+1)) (mM ys aK Y A i) 0 f' []):=by
  refine⟨f',by rw[if_pos rfl],a.sv,λk=>?_⟩;unfold te
  by_cases aa:k=((A.getD i 0:Nat):Int)
  ·rw[if_pos aa,if_pos aa,aa,d]
   rfl
  ·rw[if_neg aa,if_neg aa]
   rfl
 refine(amP a1 eY V ah).mono ?_;rintro⟨ops,room,e⟩ ⟨he,yG,eo⟩;refine⟨he,yG,eo.append ?_⟩;rintro s ⟨L,rfl,I,u⟩;rw[if_neg (show ¬((A.getD (i+1) 0:Nat):Int)=((A.getD i 0:Nat):Int) by omega)];have ag:=anx a.sv I (by omega) (by omega) (by omega) d u;have W:hV L (kp (mM ys aK Y A i) aK (true,4 * ((A.getD i 0:Nat):Int)+2+1,Y.2.2.1+(i:Int)+1,false,[]) (mf aK Y.2.2.1 i)) (sd t aK Y (ti f A) (i+1)):=by
  have G:=a.move I.ct ag;unfold kp;refine G.go g (yv (a.js _ (mem_of_getElem? g)) ((a.js _ (mem_of_getElem? g)).at' rfl) (λp ak=>by rw[List.mem_singleton]at ak;rw[ak];exact⟨D8 a.ct.ft y,inl rfl⟩) (by show 1+0<=4096;decide)) rfl (λp ak=>?_) (λ_ R=>G.mb (true,4 * ((A.getD i 0:Nat):Int)+2+1,Y.2.2.1+(i:Int)+1,false,[]) (mem_of_getElem? g) rfl R);have O:p∈[(mf aK Y.2.2.1 i,(true,0))]:=ak;rw[List.mem_singleton]at O;rw[O];exact a.has y
 have Q:(kp (mM ys aK Y A i) aK (true,4 * ((A.getD i 0:Nat):Int)+2+1,Y.2.2.1+(i:Int)+1,false,[]) (mf aK Y.2.2.1 i))[aK]?=some (true,4 * ((A.getD i 0:Nat):Int)+2+1,Y.2.2.1+(i:Int)+1,false,[(mf aK Y.2.2.1 i,(true,0))]):=by
  unfold kp;rw[getElem?_set,if_pos rfl,if_pos (by rw[a.ma];exact h.hn)]
  rfl
 have J:L.getD (A.getD (i+1) 0-1) []=mf aK Y.2.2.1 i::ti f A (i+1):=by
  have:=u ((A.getD (i+1) 0:Nat):Int)
  unfold te at this;rw[jF K M,if_pos rfl,if_neg (by omega),m,if_neg (by omega),if_pos (by omega)]at this;exact this
 obtain⟨aj,_⟩:=Y2 (Y:=Y) (S:=ti f A) (by rw[h.Y0.len];exact h.hn) (i+1);refine Yw a1 W h.hn Q rfl eY (by omega) K M (by show 4 * ((A.getD i 0:Nat):Int)+2+1<_;omega) (λk n r=>?_) (by rw[J];simp) λab al X E=>?_
 ·have am:4 * ((A.getD i 0:Nat):Int)+2+1<4 * k+2:=n
  rw[u];unfold te;rw[if_neg (by omega),if_neg (by omega),m,if_neg (by omega),if_pos (by omega),nil_append];exact B k (by omega) r
 ·rw[J]at E ⊢
  have P:(kp (mM ys aK Y A i) aK (true,4 * ((A.getD i 0:Nat):Int)+2+1,Y.2.2.1+(i:Int)+1,false,[]) (mf aK Y.2.2.1 i)).set aK (true,4 * ((A.getD (i+1) 0:Nat):Int)+2+1,Y.2.2.1+(i:Int)+1+1,false,[])=mM ys aK Y A (i+1):=by
   unfold kp mM;rw[set_set,set_set,show Y.2.2.1+((i+1:Nat):Int)+1=Y.2.2.1+(i:Int)+1+1 by omega]
  rw[P]at E ⊢;refine⟨ab,rfl,E,λk=>?_⟩
  by_cases aa:1<=k/\k<=40
  ·obtain⟨k',rfl⟩:∃k':Nat,k=(k':Int):=⟨k.toNat,by omega⟩
   rw[jF (by omega) (by omega),X]
   by_cases au:k'=A.getD (i+1) 0
   ·rw[if_pos (by omega),if_pos (by omega)]
    unfold mf;rw[show Y.2.2.1+((i+1:Nat):Int)=Y.2.2.1+(i:Int)+1 by omega]
   ·rw[if_neg (by omega),if_neg (by omega)]
    have D:=u (k':Int);unfold te at D;rw[jF (by omega) (by omega),if_neg (by omega),nil_append]at D;rw[D]
    by_cases v:(k':Int)=((A.getD i 0:Nat):Int)
    ·rw[if_pos v,if_neg (by omega)]
    ·rw[if_neg v,m,if_neg v]
     by_cases F:((A.getD (i+1) 0:Nat):Int)<(k':Int)
     ·rw[if_pos F,if_pos (by omega)]
     ·rw[if_neg F]
      by_cases w:((A.getD i 0:Nat):Int)<(k':Int)
      ·rw[if_pos w]
       exact B _ w (by omega)
      ·rw[if_neg w]
  ·have bF:∀l:bV,cM l k=[]:=λl=>by unfold cM;rw[if_neg aa]
   rw[bF,bF,if_neg (by omega)]
   split<;>rfl
end
theorem anD(N:Nat){nd:ae}(b:(nd.1=0\/nd.1=1)/\1<=nd.2/\nd.2<=40):l8 N (8,(0,(nd,(0,0))))=some 0:=by
 obtain⟨a,d,c⟩:∃a,uv N=some a/\de (.int .u8) eV a 8=some (false,(true,(false,false))):=⟨_,rfl,rfl⟩
 have ak:oD N (8,(0,(nd,(0,0))))=some true:=by
  unfold oD
  apply T.eq
  simp only[a8,reduceEq,reduceLT,reduceCtorEq,bn d,c,isSome_some,getD_some,bn (r3 N b)]
 unfold l8
 apply T.eq
 simp only[a8,reduceEq,reduceLT,reduceCtorEq,bn ak]
theorem anE{N:Nat}{op:bH}(h:l8 N op=some 0)(aa:op.1=8)(r:Int)(f g:bV)(dq:List (Bool×dv))(dX)(ys:dd)(fl:b7){A}(ad:il N=some A) :
  mE N op r f g dq dX ys fl A=Option.bind (yb N op r f g dq dX ys fl) λa=>some (a.1,a.2.1,a.2.2.1,a.2.2.2.1,dq,dX,ys,a.2.2.2.2):=by
 obtain⟨k,op⟩:=op;subst aa;cases ad;unfold mE;rw[h]
 rfl
theorem anF{N:Nat}(a1:5000<N){cR:List (Int×Option Nat)}(eY:il N=some cR){f:bV}{ys:dd}{t:cj}(h:mI f []){a:Nat}(I:1<=a)(J:a<=40){x:ae}(an:cM f (a:Int)=[x])(i:∀k,k≠(a:Int)->cM f k=[]) :
  ey N cR [(8,(0,((0,(a:Int)),(0,0))))] (fI t ys 0 f []) λs=>s=((0:Int),[],[],own t,[],ys,[x]):=by
 have l:((0:Int)=0\/(0:Int)=1)/\(1:Int)<=(a:Int)/\(a:Int)<=40:=⟨inl rfl,by omega,by omega⟩
 have c:=anE (anD N (nd:=(0,(a:Int))) l) rfl (0:Int) f [] (own t) [] ys [] eY;rw[jF I J]at an;have b:=wk (N:=N) h.ct (inl rfl) I J;rw[if_neg (by decide),an]at b;have m:=h.dW;have j:=IF a1 h.ct h.j4 (by omega) (inl rfl) I J (zero_le _) (λx an=>by cases an) nodup_nil (λx an=>by cases an);show T (mE N (8,(0,((0,(a:Int)),(0,0)))) 0 f [] (own t) [] ys [] cR) _;rw[c];unfold yb;simp only[a8,reduceEq,bn b,length_singleton,show ¬(((1:Nat):Int)=0) by omega];refine j.mono ?_;rintro⟨⟨f',g'⟩,e⟩ ⟨he,c2,aC,aP⟩;subst he;have g:f'=[]:=AM c2.du s6 λk=>by
  rw[aC]
  by_cases aa:k=a-1
  ·rw[if_pos ⟨rfl,aa⟩]
   rfl
  ·rw[if_neg (λe=>aa e.2)]
   by_cases n:k<40
   ·have:=i ((k:Int)+1) (by omega)
    rw[show(k:Int)+1=((k+1:Nat):Int) by omega,jF (by omega) (by omega)]at this;exact this
   ·have:=h.ct.ft.len
    rw[getD_eq_getElem?_getD,getElem?_eq_none (by omega)]
    rfl
 have d:g'=[]:=AM c2.gs s6 λk=>by
  rw[aP,if_neg (λe=>absurd e.1 (by decide))]
 subst g d;simp only[a8,nil_append];refine⟨by and_intros<;>first|omega|(simp only[dL];omega)|exact this,rfl⟩
section
variable {N:Nat} {cR:List (Int×Option Nat)} {f:bV} {ys:dd} {t:cj} {A:bX} {aK:Nat} {Y:bq}
theorem Za{A:bX}{i:Nat}(hi:i<A.length)(N:Nat):Dg N (i:Int) (oI A)=some (0,((A.getD i 0:Nat):Int)):=by
 have ad:A[i]?=some (A.getD i 0):=by
  rw[getD_eq_getElem?_getD,getElem?_eq_getElem hi]
  rfl
 unfold Dg
 apply T.eq
 simp only[a8,ck (D4 ad),ta];omega
theorem Zb{A:bX}{i a:Nat}(h:A[i]?=some a):((oI A).take (i+1)).drop i=[(a:Int)]:=by
 rw[q1 (D4 h),List.drop_left' (by rw[length_take,ta];have:=(List.getElem?_eq_some_iff.1 h).1;omega)]
theorem anH(a1:5000<N)(eY:il N=some cR)(h:sc f ys t A aK Y)(B:uF A) :
  T (Hz N ((aK:Int)+1) (oI A)) λo=>o.2.2=0/\o.2.1=o.1.length/\o.1.length<=4000/\ey N cR o.1 (fI t ys 0 f []) λs=>s=(0,[],[],own (sd t aK Y (ti f A) A.length),[],mM ys aK Y A (A.length-1),[mf aK Y.2.2.1 (A.length-1)]):=by
 have X:=h.ne;have I2:=h.Y1;have hn:=h.hn;have S:Hy N ((aK:Int)+1) (oI A)=some 0:=by
  unfold Hy
  apply T.eq
  simp only[a8,reduceEq,reduceCtorEq,show ¬((aK:Int)+1<1) by omega,show ¬(6<(aK:Int)+1) by omega,bn (alW B a1),ta,show ¬((A.length:Int)=0) by omega]
 have dH:T (Vt N ((aK:Int)+1) (oI A) N (0,[])) λo=>∃ops,o=.inl ops/\ops.length<=101 * A.length/\ey N cR ops (fI t ys 0 f []) (yI f ys t A aK Y A.length):=by
  refine nk (λk d=>∃(i:Nat) (ops:c9),i+k=A.length/\d=((i:Int),ops)/\ops.length<=101 * i/\ey N cR ops (fI t ys 0 f []) (yI f ys t A aK Y i)) _ ?_ N A.length _ (by omega) ⟨0,[],by omega,rfl,Nat.le_refl 0,rfl⟩;rintro k d rec ⟨i,ops,hi,rfl,w,b⟩ q
  by_cases l:i<A.length
  ·have n:(i:Int)<(A.length:Int):=by omega
   have p:=Za l N
   by_cases C:i=0
   ·subst C
    have M:ey N cR (ops++[(4,(1,((0,((A.getD 0 0:Nat):Int)),((aK:Int)+1,0))))]) (fI t ys 0 f []) (yI f ys t A aK Y 1):=b.append λs a=>by
     have O:s=fI t ys 0 f []:=a;subst O;exact anz a1 eY h
    have this:=q (k-1) (((0:Nat):Int)+1,ops++[(4,(1,((0,((A.getD 0 0:Nat):Int)),((aK:Int)+1,0))))]) (by omega) ⟨1,_,by omega,rfl,by rw[length_append,length_singleton];omega,M⟩;simp only[a8,reduceCtorEq,ta,n,bn p,show ¬(0<((0:Nat):Int)) by omega]
    and_intros<;>first|omega|(simp only[dL];omega)|exact this|trivial
   ·obtain⟨j,rfl⟩:∃j,i=j+1:=⟨i-1,by omega⟩
    have Q:0<((j+1:Nat):Int):=by omega
    obtain⟨u,_⟩:=h.get (i:=j) (by omega);obtain⟨g2,_⟩:=h.get l;have z:((oI A).take (j+1)).drop (((j+1:Nat):Int)-1).toNat=[((A.getD j 0:Nat):Int)]:=by
     rw[show(((j+1:Nat):Int)-1).toNat=j by omega];exact Zb u
    have H:((oI A).take (((j+1:Nat):Int)+1).toNat).drop (j+1)=[((A.getD (j+1) 0:Nat):Int)]:=by
     exact Zb g2
    obtain⟨Z,J⟩:=b.ex;obtain⟨o,g,D,V,W⟩:=Y4 a1 eY h l J;have c:ey N cR (ops++(o.1++[(4,(1,((0,((A.getD (j+1) 0:Nat):Int)),((aK:Int)+1,0))))])) (fI t ys 0 f []) (yI f ys t A aK Y (j+1+1)):=b.append λs a=>by
     obtain⟨P,y,_,_,E⟩:=Y4 a1 eY h l a
     have:P=o:=Option.some.inj (y.symm.trans g)
     rw[<- this];exact E
    rw[<- append_assoc]at c;have this:=q (k-1) (((j+1:Nat):Int)+1,ops++o.1++[(4,(1,((0,((A.getD (j+1) 0:Nat):Int)),((aK:Int)+1,0))))]) (by omega) ⟨j+2,_,by omega,by rw[show((j+1:Nat):Int)+1=((j+2:Nat):Int) by omega],by rw[length_append,length_append,length_singleton];omega,c⟩;simp only[a8,reduceCtorEq,ta,n,Q,bn p,z,H,bn g,D,length_append,length_singleton]
    and_intros<;>first|omega|(simp only[dL];omega)|exact this|trivial
  ·have n:¬(i:Int)<(A.length:Int):=by omega
   have F:i=A.length:=by omega
   subst F;simp only[a8,reduceCtorEq,ta,n];exact⟨ops,rfl,w,b⟩
 obtain⟨o,g,ops,rfl,w,b⟩:=dH;obtain⟨m,v⟩:∃m,A.length=m+1:=⟨A.length-1,by omega⟩
 have p:=Za (A:=A) (i:=m) (by omega) N;have I:(A.length:Int)-1=(m:Int):=by omega
 have R:=OX N (ops++[(8,(0,((0,((A.getD m 0:Nat):Int)),(0,0))))]);obtain⟨u,g2,L⟩:=h.get (i:=m) (by omega);have c:ey N cR (ops++[(8,(0,((0,((A.getD m 0:Nat):Int)),(0,0))))]) (fI t ys 0 f []) λs=>s=(0,[],[],own (sd t aK Y (ti f A) A.length),[],mM ys aK Y A (A.length-1),[mf aK Y.2.2.1 (A.length-1)]):=b.append λs a=>by
  rw[v]at a;obtain⟨f',rfl,K,r⟩:=a;rw[v,show m+1-1=m by omega];refine anF a1 eY K.sv g2 L (by rw[r,if_pos rfl]) λk aa=>?_
  rw[r,if_neg aa]
  split
  ·exact h.I0 λj U e=>by
    by_cases G:j=m
    ·subst G;omega
    ·have:=h.lt (i:=j) (j:=m) (by omega) (by omega)
     omega
  ·rfl
 unfold Hz;simp only[a8,bn S,bn g,ta,I,bn p,bn R];simp only[length_append,length_singleton];refine⟨by omega,by and_intros<;>first|omega|(simp only[dL];omega)|exact this|trivial,by omega,c⟩
end
theorem anN{y:Nat}{A:bX}:∀j,pr (kO y A j)
 |0=>s6
 |j+1=>akO _ (by simp)
theorem anO{y:Nat}(aG:y<6):hV [] (pv y (-13) 0) (pt y 0):=by
 rw[XM aG];have bF:∀i,(replicate 6 ([]:dv)).getD i []=[]:=λi=>by
  rw[getD_eq_getElem?_getD,List.getElem?_replicate]
  split<;>rfl
 have e:∀a,¬gy (replicate 6 ([]:dv)) a:=λa h=>by
  rw[qY,bF]at h
  simp at *
  omega
 have d:∀ {a l},iQ (replicate 6 ([]:dv)) a=some l->False:=λ{a l} h=>e a ⟨l,h⟩
 have f:∀Z∈pv y (-13) 0,Z=b5.zero\/Z=q2 (-13) 0:=λZ c=>by
  rcases List.mem_or_eq_of_mem_set c with h|h
  ·exact inl (eq_of_mem_replicate h)
  ·exact inr h
 have g:iR (b5.zero:bq):=⟨⟨le_refl _,by decide⟩,λ_=>⟨rfl,rfl,rfl⟩,λh=>(by cases h),by decide,λp ak=>(by cases ak),λi p q ak=>(by cases ak)⟩
 refine⟨⟨wo,wo,s6,s6⟩,nodup_nil,λa=>by rw[if_neg (e a)];rfl,zero_le _,by simp[pv],λZ c=>?_,
  ⟨λ_=>0,⟨rfl,λa h=>(e a h).elim,λa b h=>(e b h).elim,λa l h=>(d h).elim,λa l h=>(d h).elim,λa l h=>(d h).elim,λa l h=>(d h).elim,λa l h=>(d h).elim,λa l h=>(d h).elim,λa l h=>(d h).elim⟩⟩,zero_le _,
  ⟨by decide,λx an=>(by rw[eq_of_mem_replicate an];decide),λx an=>(by rw[eq_of_mem_replicate an];intro l ah;cases ah),λx an=>(by rw[eq_of_mem_replicate an];intro l ah;cases ah)⟩,λi Z c=>?_,λZ c p ak=>?_,λZ c I J=>?_⟩
 ·rcases f Z c with rfl|rfl
  ·exact g
  ·exact XO (by decide) (by decide)
 ·rw[bF]
  rcases f Z (mem_of_getElem? c)with rfl|rfl<;>rfl
 ·rcases f Z c with rfl|rfl<;>cases ak
 ·rcases f Z c with rfl|rfl
  ·cases I
  ·rfl
theorem Zc{y:Nat}(aG:y<6){A:bX}(h:uF A):∀j,j<=A.length->hV (kO y A j) (pv y (-13) j) (pt y j)
 |0,_=>anO aG
 |j+1,d=>by
  have g:=Zc aG h j (by omega);have k:=h.dW;have f:=OK y A j;have a:=OK y A (j+1);have ak:=g.put (f':=kO y A (j+1)) aG (OJ aG (-13) j) rfl (by rw[OI aG];omega) (thr:=[]) (λb ab=>by cases ab) (zero_le _) ⟨XS h aG (j+1) d,wo,anN (j+1),s6⟩ (by rw[a,alR];omega) (by rw[a,f,append_nil,XK];exact List.Perm.refl _);have c:(pv y (-13) j).set y (true,(q2 (-13) j).2.1,(q2 (-13) j).2.2.1+1,false,[])=pv y (-13) (j+1):=by
   have i:((true,(q2 (-13) j).2.1,(q2 (-13) j).2.2.1+1,false,[]):bq)=q2 (-13) (j+1):=by
    rfl
   exact XN y _ _ j (j+1)
  have e:gz (pt y j) y (0,((q2 (-13) j).2.2.2.1,([],(q2 (-13) j).2.2.2.2)))=pt y (j+1):=XL aG j;rw[c,e]at ak;exact ak
theorem anP{y:Nat}(aG:y<6){A:bX}(h:uF A){p:Int}(ak:tmod p 2≠0/\-13<=p/\p<=179):hV (kO y A A.length) (pv y p A.length) (pt y A.length):=by
 have b:=h.dW
 have:=(Zc aG h A.length (Nat.le_refl _)).go (OJ aG (-13) A.length) (XO ak (by omega)) rfl (λp ak=>by cases ak) (λ_ a=>by
  have c:(A.length:Int)=0:=a;exact decide_eq_true (by omega))
 rw[XN]at this;exact this
theorem Zd{y:Nat}{A:bX}(h:uF A):∀j,j<=A.length->(∀i,i<j->cM (kO y A j) ((A.getD i 0:Nat):Int)=[((y:Int)+1,(i:Int))])/\∀k,cM (kO y A j) k≠[]->∃i,i<j/\k=((A.getD i 0:Nat):Int)
 |0,_=>⟨λi hi=>absurd hi (by omega),λk aa=>absurd (by unfold cM;split<;>simp[kO]) aa⟩
 |j+1,p=>by
  obtain⟨I,J⟩:=Zd h j (by omega);obtain⟨a,bm⟩:∃a,A[j]?=some a:=⟨_,getElem?_eq_getElem (by omega)⟩
  have d:=h.q3 a (mem_of_getElem? bm);have n:=XQ h y bm;have aa:∀k:Nat,1<=k->k<=40->cM (kO y A (j+1)) (k:Int)=if k=a then [((y:Int)+1,(j:Int))] else cM (kO y A j) (k:Int):=λk g f=>by
   rw[XR y bm,jF g f,jF g f,alX n]
   by_cases e:k=a
   ·rw[if_pos (by omega),if_pos e]
   ·rw[if_neg (by omega),if_neg e]
  refine⟨λi hi=>?_,λk c=>?_⟩
  ·obtain⟨b,ab⟩:∃b,A[i]?=some b:=⟨_,getElem?_eq_getElem (by omega)⟩
   have q:=h.q3 b (mem_of_getElem? ab);rw[ck ab,aa b (by omega) (by omega)]
   by_cases o:i=j
   ·subst o
    rw[bm]at ab;cases ab;rw[if_pos rfl]
   ·have l:=List.pairwise_iff_getElem.1 h.qd i j (by omega) (by omega) (by omega)
    rw[(List.getElem?_eq_some_iff.1 bm).2,(List.getElem?_eq_some_iff.1 ab).2]at l;rw[if_neg (by omega)]
    have:=I i (by omega)
    rw[ck ab]at this;exact this
  ·by_cases d:1<=k/\k<=40
   ·obtain⟨k',rfl⟩:∃k':Nat,k=(k':Int):=⟨k.toNat,by omega⟩
    rw[aa k' (by omega) (by omega)]at c
    by_cases e:k'=a
    ·exact⟨j,by omega,by rw[ck bm,e]⟩
    ·rw[if_neg e]at c
     obtain⟨i,hi,m⟩:=J _ c;exact⟨i,by omega,m⟩
   ·exact absurd (by unfold cM;rw[if_neg d]) c
section
variable {N:Nat} (a1:5000<N) {A:bX} (ad:OL A 40) (pM:1<=A.length) (I2:A.length<=8) {aK:Nat} (hn:aK<6) {f:bV} {ys:dd} {t:cj}
include a1 ad I2 hn
include pM
theorem anR{Y:bq}(c:hV f ys t)(bE:ys[aK]?=some Y)(cQ:Y.1=true)(m:4<=Y.2.1)(b:Y.2.2.2.2=[])(Pv:∀(j:Nat) (Z:bq),j≠aK->ys[j]?=some Z->Z.1=true->Z.2.1=3)(full:∀a∈A,cM f (a:Int)≠[]/\(cM f (a:Int)).length<=2)(only:∀k,cM f k≠[]->∃a∈A,k=(a:Int))(all:dz t<=40) :
  uA N (stM f ys t) [(6,(0,((1,1),((aK:Int)+1,0))))]=some (stM f (ys.set aK (true,3,Y.2.2.1,Y.2.2.2.1,e0 [] (oJ f Y.2.1 3))) t,1,0)/\sc f (ys.set aK (true,3,Y.2.2.1,Y.2.2.2.1,e0 [] (oJ f Y.2.1 3))) t A aK (true,3,Y.2.2.1,Y.2.2.2.1,e0 [] (oJ f Y.2.1 3)):=by
 obtain⟨cR,eY⟩:∃cR,il N=some cR:=⟨_,rfl⟩
 have n:=(List.getElem?_eq_some_iff.1 bE).1;have d:=hV.amp a1 c hn bE cQ (place:=3) (e:=3) ⟨by decide,by decide,by decide⟩ (by rw[b];exact zero_le _);have ah:=O1 f Y.2.1 3;have s:=DU [] (oJ f Y.2.1 3);have r:=c.dW;rw[b]at d;have p:([]:eg).length=0:=rfl;refine⟨T.eq ?_,⟨d,ad,pM,I2,hn,by rw[getElem?_set,if_pos rfl,if_pos n],rfl,rfl,?_,λj Z g i o=>?_,full,only,all⟩⟩
 ·refine(aml a1 eY c (Q:=λf' l h=>f'=f/\l=ys.set aK (true,3,Y.2.2.1,Y.2.2.2.1,e0 [] (oJ f Y.2.1 3))/\h=t) (by show 1<=4000;decide) ?_).mono ?_
  ·refine amq a1 c hn bE cQ eY (by rw[b];exact zero_le _) m ?_
   rw[b];exact⟨f,_,t,rfl,d,rfl,rfl,rfl⟩
  ·rintro q ⟨f',l,h,rfl,_,rfl,rfl,rfl⟩
   rfl
 ·show(e0 [] (oJ f Y.2.1 3)).length<=3000
  omega
 ·rw[getElem?_set,if_neg (λe=>g e.symm)]at i
  exact Pv j Z g i o
end
def tj(w:Nat):bX:=(range w).map λi=>13+i
theorem anS(w:Nat):kP w=oI (tj w):=by
 unfold kP tj oI;rw[map_map];refine List.map_congr_left λi _=>?_
 show 13+(i:Int)=((13+i:Nat):Int)
 omega
theorem anT{w:Nat}(hw:w<=8):uF (tj w)/\OL (tj w) 40:=by
 have ak:(tj w).Pairwise (· < ·):=by
  unfold tj;rw[List.pairwise_map];exact List.pairwise_lt_range.imp λh=>by omega
 have b:∀a∈tj w,13<=a/\a<13+w:=λa bm=>by
  obtain⟨i,hi,rfl⟩:=List.mem_map.1 bm;rw[mem_range]at hi;omega
 exact⟨⟨ak,λa bm=>by have:=b a bm;omega,by unfold tj;rw[length_map,List.length_range];omega⟩,⟨ak,λa bm=>by have:=b a bm;omega⟩⟩
theorem anU{y:Nat}(aG:y<6){w:Nat}(I:1<=w)(hw:w<=8):∃bops,Dx ((y:Int)+1) (kP w)=some (bops,bops.length,0)/\bops.length<=4000:=by
 obtain⟨ad,f⟩:=anT hw;obtain⟨A,d⟩:∃A,A=tj w:=⟨_,rfl⟩
 have t:A.length=w:=by rw[d];unfold tj;rw[length_map,List.length_range]
 rw[anS,<- d];rw[<- d]at ad f;have a1:5000<6000:=by decide
 have r:∀j,j<A.length->A[j]?=some (A.getD j 0):=λj b=>by
  rw[getD_eq_getElem?_getD,getElem?_eq_getElem b]
  rfl
 obtain⟨s,q⟩:=Zd ad A.length (Nat.le_refl _);have l:=anP aG ad (p:=163) ⟨by decide,by decide,by decide⟩;have h:∀a∈A,cM (kO y A A.length) (a:Int)=[((y:Int)+1,((A.idxOf a:Nat):Int))]:=λa bm=>by
  have hi:=List.idxOf_lt_length_of_mem bm;have I:=s _ hi;rw[ck (getElem?_eq_getElem hi),List.getElem_idxOf hi]at I;exact I
 have m:∀a∈A,cM (kO y A A.length) (a:Int)≠[]/\(cM (kO y A A.length) (a:Int)).length<=2:=λa bm=>by
  rw[h a bm];exact⟨by simp,by show 1<=2;decide⟩
 have n:∀k,cM (kO y A A.length) k≠[]->∃a∈A,k=(a:Int):=λk aa=>by
  obtain⟨i,hi,e⟩:=q k aa;exact⟨_,mem_of_getElem? (r i hi),e⟩
 have qg:∀(p:Int) (j:Nat) (Z:bq),j≠y->(pv y p A.length)[j]?=some Z->Z=b5.zero:=λp j Z b c=>by
  unfold pv at c;rw[getElem?_set,if_neg (λe=>b e.symm)]at c;exact eq_of_mem_replicate (mem_of_getElem? c)
 obtain⟨_,o⟩:=anR a1 f (by omega) (by omega) aG l (OJ aG 163 A.length) rfl (by show 4<=163;decide) rfl (λj Z b c cQ=>by rw[qg 163 j Z b c]at cQ;cases cQ) m n (by rw[OI aG];omega);obtain⟨cR,eY⟩:∃cR,il 6000=some cR:=⟨_,rfl⟩
 obtain⟨⟨ops,room,e⟩,ab,he,g,ah,_⟩:=anH a1 eY o ad;dsimp only at he g ah;subst he g;exact⟨ops,ab,ah⟩
def uL(f g:bV)(ys:dd)(t:cj):lY:=((0:Int),((f,g),(ys,(t,([],(((mix f g).map λp:b3=>p.1),[]))))))
theorem anY{N:Nat}(a1:5000<N){cR}(eY:il N=some cR){f g:bV}{ys:dd}{t:cj}(h:h6 f g ys t){l:c9}(ah:l.length<=4000){Q:bV->bV->dd->cj->Prop}(j:ey N cR l (fI t ys 0 f g) λs=>∃f' g' b a,s=fI a b 0 f' g'/\h6 f' g' b a/\Q f' g' b a) :
  T (uA N (uL f g ys t) l) λq=>∃f' g' b a,q=(uL f' g' b a,(l.length:Int),0)/\h6 f' g' b a/\Q f' g' b a:=by
 have e:=h.ms a1;have u:=h.ma;have k:=XJ a1 e;have d:=Xy a1 (r:=0) h.ct (ys:=ys) (by omega) (λY bE=>by have:=(h.js Y bE).dW;omega) h.dq ((mix f g).map λp:b3=>p.1) (fl:=[]) (by decide);have dH:=X1 (by omega) (by omega) j;unfold uL uA;simp only[a8,reduceCtorEq,show ¬4096<(l.length:Int) by omega,bn k,bn d,bn eY];refine dH.mono ?_;rintro q ⟨o,rfl,f',g',b,a,rfl,c,i⟩;have m:=c.len;have n:=c.Ej;have c7:=XV a1 (t:=a) b (by omega) (λx an=>by have:=c.dq.row x an;omega) (by rw[length_map];omega) (c.held a1);simp only[a8,fI,bn c7];exact⟨f',g',b,a,rfl,c,i⟩
theorem uM:∀Z∈replicate 6 (b5.zero:bq),Z=b5.zero:=λZ a=>eq_of_mem_replicate a
theorem Zf:h6 [] [] (replicate 6 (b5.zero:bq)) (replicate 6 []):=by
 have bF:∀i,(replicate 6 ([]:dv)).getD i []=[]:=λi=>by
  rw[getD_eq_getElem?_getD,List.getElem?_replicate]
  split<;>rfl
 have e:∀a,¬gy (replicate 6 ([]:dv)) a:=λa h=>by
  rw[qY,bF]at h
  simp at *
  omega
 have d:∀ {a l},iQ (replicate 6 ([]:dv)) a=some l->False:=λ{a l} h=>e a ⟨l,h⟩
 have f:iR (b5.zero:bq):=⟨⟨le_refl _,by decide⟩,λ_=>⟨rfl,rfl,rfl⟩,λh=>(by cases h),by decide,λp ak=>(by cases ak),λi p q ak=>(by cases ak)⟩
 refine⟨⟨wo,wo,s6,s6⟩,nodup_nil,⟨λk=>by cases k<;>exact zero_le _,λk=>by cases k<;>exact zero_le _⟩,λa=>by rw[if_neg (e a)];rfl,zero_le _,by simp,λZ c=>by rw[uM Z c];exact f,
  ⟨λ_=>0,⟨rfl,λa h=>(e a h).elim,λa b h=>(e b h).elim,λa l h=>(d h).elim,λa l h=>(d h).elim,λa l h=>(d h).elim,λa l h=>(d h).elim,λa l h=>(d h).elim,λa l h=>(d h).elim,λa l h=>(d h).elim⟩⟩,zero_le _,
  ⟨by decide,λx an=>(by rw[eq_of_mem_replicate an];decide),λx an=>(by rw[eq_of_mem_replicate an];intro l ah;cases ah),λx an=>(by rw[eq_of_mem_replicate an];intro l ah;cases ah)⟩,λi Z c=>?_,λZ c p ak=>?_,λZ c I J=>?_⟩
 ·rw[bF,uM Z (mem_of_getElem? c)]
  rfl
 ·rw[uM Z c]at ak
  cases ak
 ·rw[uM Z c]at I
  cases I
theorem anZ:uL [] [] (replicate 6 (b5.zero:bq)) (replicate 6 [])=XU:=rfl
theorem an0(w:Nat):hW w El [] [] (replicate 6 (b5.zero:bq)):=
 ⟨Zf,λk=>by rw[show(El.2.1 (k-12))=[] from rfl,ite_self];first|done|(cases k<;>rfl),λk=>by rw[show(El.2.2 (k-12))=[] from rfl,ite_self];first|done|(cases k<;>rfl),λZ a=>by rw[uM Z a],λZ a h=>by rw[uM Z a]at h;cases h⟩
theorem PD{w:Nat}{a:bZ}(b:∀i,i<a.length->1<=a.getD i 0/\a.getD i 0<=6):∀k,k<=a.length->(h7 w a k).1.length=6/\dz (h7 w a k).1=2 * w * k
 |0,_=>⟨rfl,rfl⟩
 |k+1,aa=>by
  obtain⟨I,J⟩:=PD b k (by omega) (w:=w);have aG:=b k (by omega);obtain⟨ag,e⟩:=AV (y:=(a.getD k 0-1).toNat) (s:=h7 w a k) (by omega) w;obtain⟨d,c⟩:=IW (y:=(a.getD k 0-1).toNat) (s:=mJ (a.getD k 0-1).toNat w (h7 w a k)) (by omega) w;refine⟨?_,?_⟩
  ·show(mK _ w w _).1.length=6
   rw[d,ag,I]
  ·show dz (mK _ w w _).1=_
   rw[c,e,J,Nat.mul_add];omega
structure Zg(rs:bZ)(k:Nat)(ys:dd):Prop where
 pl:∀Y∈ys,Y.1=true->Y.2.1=51
 no:∀Y∈ys,Y.1=false->Y.2.2.1=0
 key:∀(z:Nat) (Y:bq),ys[z]?=some Y->(Y.1=true↔((z:Int)+1)∈hX rs k)
theorem Zh{N:Nat}(a1:5000<N){cR:List (Int×Option Nat)}(eY:il N=some cR){w:Nat}(hw:w<=8)(S:1<=w){a:bZ}(p:∀i,i<a.length->1<=a.getD i 0/\a.getD i 0<=6)(P:a.length<=8):∀k,k<=a.length ->
  ey N cR (hY (w:Int) a k) (fI El.1 (replicate 6 (b5.zero:bq)) 0 [] []) λst=>∃f g ys,st=fI (h7 w a k).1 ys 0 f g/\hW w (h7 w a k) f g ys/\Zg a k ys
 |0,_=>⟨[],[],_,rfl,an0 w,λZ b h=>(by rw[uM Z b]at h;cases h),λZ b _=>(by rw[uM Z b];first|done|rfl),λz Z b=>⟨λh=>(by rw[uM Z (mem_of_getElem? b)]at h;cases h),λh=>(by cases h)⟩⟩
 |k+1,aa=>by
  have M:=Zh a1 eY hw S p P k (by omega);have aj:=p k (by omega);obtain⟨y,F⟩:∃y:Nat,y=(a.getD k 0-1).toNat:=⟨_,rfl⟩
  have aG:y<6:=by omega
  have v:a.getD k 0=(y:Int)+1:=by omega
  obtain⟨ak,ap⟩:=PD p k (by omega) (w:=w);have al:2 * w * k<=2 * 8 * 7:=Nat.mul_le_mul (by omega) (by omega);show ey N cR (((hY (w:Int) a k++(if (hX a k).elem (a.getD k 0)then [] else [(1,0,(0,0),a.getD k 0,0)]))++lb (a.getD k 0) (w:Int).toNat)++ns (w:Int) (a.getD k 0) (w:Int).toNat) _ _;have O:h7 w a (k+1)=mK y w w (mJ y w (h7 w a k)):=by
   rw[F]
   rfl
  rw[O,v,toNat_natCast,append_assoc,append_assoc];refine ey.append ?_ M;rintro st ⟨f,g,ys,rfl,c,cF⟩;have am:=c.me.ma;obtain⟨Y,bE⟩:∃Y,ys[y]?=some Y:=⟨_,getElem?_eq_getElem (by omega)⟩
  have A:=mem_of_getElem? bE;have C:=cF.key y Y bE
  -- the carrier is in
  have B:∀(l:dd) (m:bq),hW w (h7 w a k) f g l->l[y]?=some m->m.1=true->(m.2.1=51\/m.2.1=-13)->(∀z,z≠y->l[z]?=ys[z]?)->ey N cR (lb ((y:Int)+1) w++ns (w:Int) ((y:Int)+1) w) (fI (h7 w a k).1 l 0 f g) λst=>∃f g ys,st=fI (mK y w w (mJ y w (h7 w a k))).1 ys 0 f g/\hW w (mK y w w (mJ y w (h7 w a k))) f g ys/\Zg a (k+1) ys:=by
   intro l m G ac ae ad U;obtain⟨ah,an⟩:=AV (y:=y) (s:=h7 w a k) (by omega) w;refine ey.append ?_ (hW.YP a1 eY hw aG G ac ae (by omega) ad w (Nat.le_refl _));rintro st ⟨Q,ai,ag,rfl,H,V,af,W,ab⟩;have E:w≠0:=by omega
   refine ey.mono ?_ (hW.YQ a1 eY hw aG H V af (by omega) (W.elim id (λh=>absurd h.1 E)) w (Nat.le_refl _));rintro st ⟨R,n,I,rfl,J,o,t,D,X⟩;have qg:∀z,z≠y->n[z]?=ys[z]?:=λz bF=>(X z bF).trans ((ab z bF).trans (U z bF))
   have u:∀Z∈n,Z=I\/∃z,z≠y/\ys[z]?=some Z:=λZ b=>by
    obtain⟨z,bF,rfl⟩:=List.mem_iff_getElem.1 b
    by_cases j:z=y
    ·subst j
     rw[getElem?_eq_getElem bF]at o;cases o;exact inl rfl
    ·exact inr ⟨z,j,by rw[<- qg z j,getElem?_eq_getElem bF]⟩
   refine⟨Q,R,n,rfl,J,λZ b d=>?_,λZ b d=>?_,λz Z b=>?_⟩
   ·rcases u Z b with rfl|⟨z,_,bF⟩
    ·rw[D,sub_self]
     rfl
    ·exact cF.pl Z (mem_of_getElem? bF) d
   ·rcases u Z b with rfl|⟨z,_,bF⟩
    ·rw[t]at d
     cases d
    ·exact cF.no Z (mem_of_getElem? bF) d
   ·have T:∀q,q∈hX a (k+1)↔q∈hX a k\/q=(y:Int)+1:=λq=>by
     rw[show hX a (k+1)=(if (hX a k).elem (a.getD k 0)=true then hX a k else hX a k++[a.getD k 0])from rfl,v]
     split
     ·rename_i he
      rw[elem_eq_mem,decide_eq_true_eq]at he;exact⟨inl,λh=>h.elim id (λh=>h ▸ he)⟩
     ·rw[List.mem_append,List.mem_singleton]
    rw[T]
    by_cases j:z=y
    ·subst j
     rw[o]at b;cases b;exact⟨λ_=>inr rfl,λ_=>t⟩
    ·rw[qg z j]at b
     rw[cF.key z Z b];exact⟨inl,λh=>h.elim id (λh=>absurd h (by omega))⟩
  by_cases he:(hX a k).elem ((y:Int)+1)=true
  ·rw[if_pos he,nil_append]
   rw[elem_eq_mem,decide_eq_true_eq]at he;have cQ:=C.2 he;exact B ys Y c bE cQ (inl (cF.pl Y A cQ)) (λ_ _=>rfl)
  ·rw[if_neg he]
   rw[elem_eq_mem,decide_eq_true_eq]at he;have r:Y.1=false:=by
    cases ao:Y.1 with
    |false=>rfl
    |true=>exact absurd (C.1 ao) he
   have K:=cF.no Y A r;have L:=(List.getElem?_eq_some_iff.1 bE).1;refine ey.append ?_ (am9 a1 eY c.me aG bE r rfl);rintro st rfl;refine B _ (true, -13,Y.2.2.1,true,[]) ⟨c.me.enter bE,c.r7,c.gk,λZ b=>?_,λZ b d=>?_⟩ (by rw[getElem?_set,if_pos rfl,if_pos L]) rfl (inr rfl) (λz bF=>by rw[getElem?_set,if_neg (λe=>bF e.symm)])
   ·rcases lH b with b|rfl
    ·exact c.AU Z b
    ·rfl
   ·rcases lH b with b|rfl
    ·exact c.mb Z b d
    ·show true=decide (Y.2.2.1=0)
     rw[decide_eq_true K]
def En(N:Nat)(b:lX):Option (c9×Nat×Int):=
  (yn b).bind λa=>
  some (a.1,a.2.1,a.2.2.2.2)
def an8(N:Nat):bI bR:=cu N aZ [.dc mZ] [] ⟨.cY [.c (.jK df),.c (.int .i64)],[],[]⟩ [WN] [] (.s (.r [.n 3,.w (.cg 1 mZ)]) .d) [.tmp 2,.tmp 3] ([],0,0) (λd=>En N d.1) func6 ntmps6
def Eo(N:Nat)(b:lX):Option (bZ×Nat×Int):=
  (yn b).bind λa=>
  some (a.2.2.1,a.2.2.2.1,a.2.2.2.2)
def an9(N:Nat):bI bR:=cu N aZ [.dc mZ] [] ⟨.cY [.c (.jK (.int .i64)),.c (.int .i64)],[],[]⟩ [WN] [] (.s (.r [.n 3,.w (.cg 1 mZ)]) .d) [.tmp 2,.tmp 3] ([],0,0) (λd=>Eo N d.1) func7 ntmps7
def PF(N:Nat)(a:Fm):Nat->(Int×Int×bZ)->Option (Int×bZ):=cx λd2 fQ=>
  cond (cond (decide (d2.1<(a.2.length:Int))) (decide (d2.1<8)) false) (ay ((aW d2.1 a.2.length)&&((dA 1 (d2.2.2.length+[(IntKind.wrap .u8 (1+(tmod (a.2.getD d2.1.toNat 0) 3)))].length))&&(true))) <|
  ay ((bd (d2.1+1))&&(true)) <|
  fQ ((d2.1+1),d2.2.1,(d2.2.2++[(IntKind.wrap .u8 (1+(tmod (a.2.getD d2.1.toNat 0) 3)))]))) (some (d2.2.1,d2.2.2))
def Ep(N:Nat)(a:Fm):Option (lX):=
  ay ((bd (tmod a.1 8))&&((bd (1+(tmod a.1 8)))&&(true))) <|
  (PF N a N (0,(1+(tmod a.1 8)),([]:bZ))).bind λb=>
  Option.bind (cond (decide ((b.2.length:Int)=0)) (some (b.1,[1])) (some (b.1,b.2))) λc=>
  some c
def aoa(N:Nat):bI bR:=cu N aZ [.dc Fl] [] ⟨.a (.dc mZ),[],[]⟩ [] [] (.s (.r [.n 2,.w (.cg 1 Fl)]) (.s .d (.s (.s (.r [.n 1,.w (.tJ 3 1 6 5 (.int .u8))]) (.b (.fv 0 ⟨[(2,.a (.c (.raw (.ptr 2 0)))),(3,.a (.c (.raw (.ptr 3 0)))),(4,.a (.c (.int .i64)))],[(3,.cells 26 [.int .i64,.raw (.aI 6)]),(6,.row 5 (.int .u8))],[1],[2]⟩ ⟨[(2,.a (.c (.raw (.ptr 2 0)))),(3,.a (.c (.raw (.ptr 3 0))))],[(3,.cells 26 [.int .i64,.raw (.aI 6)]),(6,.row 5 (.int .u8))],[],[2]⟩ (.s .d (.s (.b (.o [2,3,4,5,6,7,8,9,1000010,1000012] [.t 0 0,.t 1 3,.t 2 0,.t 3 1,.t 4 0,.t 5 0,.t 6 1,.t 7 0,.t 8 0,.k 9,.s 10,.t 11 0,.s 12] [])) .d))))) (.j ⟨[(2,.a (.c (.raw (.ptr 2 0)))),(3,.a (.c (.raw (.ptr 3 0))))],[(3,.cells 26 [.int .i64,.raw (.aI 38)]),(38,.row 5 (.int .u8))],[],[2]⟩ (.s .d (.c .d (.t [.t (.di 6 38)]))) (.s .d (.t [.dV 38])))))) [.cell 2 26] mZ.zero (λd=>Ep N d.1) func5 ntmps5
def I4(N:Nat)(b:Int)(a:lX)(d:lY×Int×Int):Nat->Int->Option ((Unit)⊕(Bool)):=cx λc Au=>
  cond (decide (c<a.1)) (ay ((bd (13+c))&&(true)) <|
  (nV N d.1.2.1 (0,(13+c))).bind λf=>
  ay ((bd (13+c))&&(true)) <|
  (nV N d.1.2.1 (1,(13+c))).bind λe=>
  ay ((dK (!(cond (!(decide ((f.1.length:Int)=1))) true (!(decide ((e.1.length:Int)=1))))) (aW 0 f.1.length))&&((dK (!(cond (!(decide ((f.1.length:Int)=1))) true (!(decide ((e.1.length:Int)=1))))) (bd (2 * a.1)))&&((dK (!(cond (!(decide ((f.1.length:Int)=1))) true (!(decide ((e.1.length:Int)=1))))) (bd ((d.1.2.2.1.getD (IntKind.wrap .u8 ((a.2.getD (tmod b (a.2.length:Int)).toNat 0)-1)).toNat b5.zero).2.2.1-(2 * a.1))))&&((dK (!(cond (!(decide ((f.1.length:Int)=1))) true (!(decide ((e.1.length:Int)=1))))) (bd (((d.1.2.2.1.getD (IntKind.wrap .u8 ((a.2.getD (tmod b (a.2.length:Int)).toNat 0)-1)).toNat b5.zero).2.2.1-(2 * a.1))+c)))&&((dK (!(cond (cond (!(decide ((f.1.length:Int)=1))) true (!(decide ((e.1.length:Int)=1)))) true (!(aV.beq aS (f.1.getD (0:Int).toNat aS.zero) ((a.2.getD (tmod b (a.2.length:Int)).toNat 0),(((d.1.2.2.1.getD (IntKind.wrap .u8 ((a.2.getD (tmod b (a.2.length:Int)).toNat 0)-1)).toNat b5.zero).2.2.1-(2 * a.1))+c)))))) (aW 0 e.1.length))&&((dK (!(cond (cond (!(decide ((f.1.length:Int)=1))) true (!(decide ((e.1.length:Int)=1)))) true (!(aV.beq aS (f.1.getD (0:Int).toNat aS.zero) ((a.2.getD (tmod b (a.2.length:Int)).toNat 0),(((d.1.2.2.1.getD (IntKind.wrap .u8 ((a.2.getD (tmod b (a.2.length:Int)).toNat 0)-1)).toNat b5.zero).2.2.1-(2 * a.1))+c)))))) (bd ((d.1.2.2.1.getD (IntKind.wrap .u8 ((a.2.getD (tmod b (a.2.length:Int)).toNat 0)-1)).toNat b5.zero).2.2.1-1)))&&((dK (!(cond (cond (!(decide ((f.1.length:Int)=1))) true (!(decide ((e.1.length:Int)=1)))) true (!(aV.beq aS (f.1.getD (0:Int).toNat aS.zero) ((a.2.getD (tmod b (a.2.length:Int)).toNat 0),(((d.1.2.2.1.getD (IntKind.wrap .u8 ((a.2.getD (tmod b (a.2.length:Int)).toNat 0)-1)).toNat b5.zero).2.2.1-(2 * a.1))+c)))))) (bd (((d.1.2.2.1.getD (IntKind.wrap .u8 ((a.2.getD (tmod b (a.2.length:Int)).toNat 0)-1)).toNat b5.zero).2.2.1-1)-c)))&&((dK (!(cond (cond (cond (!(decide ((f.1.length:Int)=1))) true (!(decide ((e.1.length:Int)=1)))) true (!(aV.beq aS (f.1.getD (0:Int).toNat aS.zero) ((a.2.getD (tmod b (a.2.length:Int)).toNat 0),(((d.1.2.2.1.getD (IntKind.wrap .u8 ((a.2.getD (tmod b (a.2.length:Int)).toNat 0)-1)).toNat b5.zero).2.2.1-(2 * a.1))+c))))) true (!(aV.beq aS (e.1.getD (0:Int).toNat aS.zero) ((a.2.getD (tmod b (a.2.length:Int)).toNat 0),(((d.1.2.2.1.getD (IntKind.wrap .u8 ((a.2.getD (tmod b (a.2.length:Int)).toNat 0)-1)).toNat b5.zero).2.2.1-1)-c)))))) (bd (2 * c)))&&((dK (!(cond (cond (cond (!(decide ((f.1.length:Int)=1))) true (!(decide ((e.1.length:Int)=1)))) true (!(aV.beq aS (f.1.getD (0:Int).toNat aS.zero) ((a.2.getD (tmod b (a.2.length:Int)).toNat 0),(((d.1.2.2.1.getD (IntKind.wrap .u8 ((a.2.getD (tmod b (a.2.length:Int)).toNat 0)-1)).toNat b5.zero).2.2.1-(2 * a.1))+c))))) true (!(aV.beq aS (e.1.getD (0:Int).toNat aS.zero) ((a.2.getD (tmod b (a.2.length:Int)).toNat 0),(((d.1.2.2.1.getD (IntKind.wrap .u8 ((a.2.getD (tmod b (a.2.length:Int)).toNat 0)-1)).toNat b5.zero).2.2.1-1)-c)))))) (aW (2 * c) d.1.2.2.2.2.2.1.length))&&((dK (!(cond (cond (cond (!(decide ((f.1.length:Int)=1))) true (!(decide ((e.1.length:Int)=1)))) true (!(aV.beq aS (f.1.getD (0:Int).toNat aS.zero) ((a.2.getD (tmod b (a.2.length:Int)).toNat 0),(((d.1.2.2.1.getD (IntKind.wrap .u8 ((a.2.getD (tmod b (a.2.length:Int)).toNat 0)-1)).toNat b5.zero).2.2.1-(2 * a.1))+c))))) true (!(aV.beq aS (e.1.getD (0:Int).toNat aS.zero) ((a.2.getD (tmod b (a.2.length:Int)).toNat 0),(((d.1.2.2.1.getD (IntKind.wrap .u8 ((a.2.getD (tmod b (a.2.length:Int)).toNat 0)-1)).toNat b5.zero).2.2.1-1)-c)))))) (aW 0 e.1.length))&&((dK (!(cond (cond (cond (cond (!(decide ((f.1.length:Int)=1))) true (!(decide ((e.1.length:Int)=1)))) true (!(aV.beq aS (f.1.getD (0:Int).toNat aS.zero) ((a.2.getD (tmod b (a.2.length:Int)).toNat 0),(((d.1.2.2.1.getD (IntKind.wrap .u8 ((a.2.getD (tmod b (a.2.length:Int)).toNat 0)-1)).toNat b5.zero).2.2.1-(2 * a.1))+c))))) true (!(aV.beq aS (e.1.getD (0:Int).toNat aS.zero) ((a.2.getD (tmod b (a.2.length:Int)).toNat 0),(((d.1.2.2.1.getD (IntKind.wrap .u8 ((a.2.getD (tmod b (a.2.length:Int)).toNat 0)-1)).toNat b5.zero).2.2.1-1)-c))))) true (!(aV.beq aS (d.1.2.2.2.2.2.1.getD (2 * c).toNat aS.zero) (e.1.getD (0:Int).toNat aS.zero))))) (bd (2 * c)))&&((dK (!(cond (cond (cond (cond (!(decide ((f.1.length:Int)=1))) true (!(decide ((e.1.length:Int)=1)))) true (!(aV.beq aS (f.1.getD (0:Int).toNat aS.zero) ((a.2.getD (tmod b (a.2.length:Int)).toNat 0),(((d.1.2.2.1.getD (IntKind.wrap .u8 ((a.2.getD (tmod b (a.2.length:Int)).toNat 0)-1)).toNat b5.zero).2.2.1-(2 * a.1))+c))))) true (!(aV.beq aS (e.1.getD (0:Int).toNat aS.zero) ((a.2.getD (tmod b (a.2.length:Int)).toNat 0),(((d.1.2.2.1.getD (IntKind.wrap .u8 ((a.2.getD (tmod b (a.2.length:Int)).toNat 0)-1)).toNat b5.zero).2.2.1-1)-c))))) true (!(aV.beq aS (d.1.2.2.2.2.2.1.getD (2 * c).toNat aS.zero) (e.1.getD (0:Int).toNat aS.zero))))) (bd ((2 * c)+1)))&&((dK (!(cond (cond (cond (cond (!(decide ((f.1.length:Int)=1))) true (!(decide ((e.1.length:Int)=1)))) true (!(aV.beq aS (f.1.getD (0:Int).toNat aS.zero) ((a.2.getD (tmod b (a.2.length:Int)).toNat 0),(((d.1.2.2.1.getD (IntKind.wrap .u8 ((a.2.getD (tmod b (a.2.length:Int)).toNat 0)-1)).toNat b5.zero).2.2.1-(2 * a.1))+c))))) true (!(aV.beq aS (e.1.getD (0:Int).toNat aS.zero) ((a.2.getD (tmod b (a.2.length:Int)).toNat 0),(((d.1.2.2.1.getD (IntKind.wrap .u8 ((a.2.getD (tmod b (a.2.length:Int)).toNat 0)-1)).toNat b5.zero).2.2.1-1)-c))))) true (!(aV.beq aS (d.1.2.2.2.2.2.1.getD (2 * c).toNat aS.zero) (e.1.getD (0:Int).toNat aS.zero))))) (aW ((2 * c)+1) d.1.2.2.2.2.2.1.length))&&((dK (!(cond (cond (cond (cond (!(decide ((f.1.length:Int)=1))) true (!(decide ((e.1.length:Int)=1)))) true (!(aV.beq aS (f.1.getD (0:Int).toNat aS.zero) ((a.2.getD (tmod b (a.2.length:Int)).toNat 0),(((d.1.2.2.1.getD (IntKind.wrap .u8 ((a.2.getD (tmod b (a.2.length:Int)).toNat 0)-1)).toNat b5.zero).2.2.1-(2 * a.1))+c))))) true (!(aV.beq aS (e.1.getD (0:Int).toNat aS.zero) ((a.2.getD (tmod b (a.2.length:Int)).toNat 0),(((d.1.2.2.1.getD (IntKind.wrap .u8 ((a.2.getD (tmod b (a.2.length:Int)).toNat 0)-1)).toNat b5.zero).2.2.1-1)-c))))) true (!(aV.beq aS (d.1.2.2.2.2.2.1.getD (2 * c).toNat aS.zero) (e.1.getD (0:Int).toNat aS.zero))))) (aW 0 f.1.length))&&(true))))))))))))))) <|
  cond (cond (cond (cond (cond (cond (!(decide ((f.1.length:Int)=1))) true (!(decide ((e.1.length:Int)=1)))) true (!(aV.beq aS (f.1.getD (0:Int).toNat aS.zero) ((a.2.getD (tmod b (a.2.length:Int)).toNat 0),(((d.1.2.2.1.getD (IntKind.wrap .u8 ((a.2.getD (tmod b (a.2.length:Int)).toNat 0)-1)).toNat b5.zero).2.2.1-(2 * a.1))+c))))) true (!(aV.beq aS (e.1.getD (0:Int).toNat aS.zero) ((a.2.getD (tmod b (a.2.length:Int)).toNat 0),(((d.1.2.2.1.getD (IntKind.wrap .u8 ((a.2.getD (tmod b (a.2.length:Int)).toNat 0)-1)).toNat b5.zero).2.2.1-1)-c))))) true (!(aV.beq aS (d.1.2.2.2.2.2.1.getD (2 * c).toNat aS.zero) (e.1.getD (0:Int).toNat aS.zero)))) true (!(aV.beq aS (d.1.2.2.2.2.2.1.getD ((2 * c)+1).toNat aS.zero) (f.1.getD (0:Int).toNat aS.zero)))) (some (.inr false)) (ay ((bd (c+1))&&(true)) <|
  Au (c+1))) (some (.inl ()))
def yJ(N:Nat)(g:Fm)(c:Int):Option (Bool):=
  (Ep N g).bind λa=>
  ay ((bd c)&&((decide ((a.2.length:Int)≠0))&&(true))) <|
  (En N a).bind λe=>
  (Eo N a).bind λb=>
  ay ((dK (!(cond (!(decide (e.2.2=0))) true (!(decide (b.2.2=0))))) (bd ((a.2.length:Int)+1)))&&((dK (!(cond (cond (!(decide (e.2.2=0))) true (!(decide (b.2.2=0)))) true (!(decide ((b.1.length:Int)=((a.2.length:Int)+1)))))) (bd ((tmod c (a.2.length:Int))+1)))&&((dK (!(cond (cond (!(decide (e.2.2=0))) true (!(decide (b.2.2=0)))) true (!(decide ((b.1.length:Int)=((a.2.length:Int)+1)))))) (aW ((tmod c (a.2.length:Int))+1) b.1.length))&&(true)))) <|
  cond (cond (cond (cond (!(decide (e.2.2=0))) true (!(decide (b.2.2=0)))) true (!(decide ((b.1.length:Int)=((a.2.length:Int)+1))))) true (decide ((e.1.length:Int)<(b.1.getD ((tmod c (a.2.length:Int))+1).toNat 0)))) (some false) (ay ((bd ((tmod c (a.2.length:Int))+1))&&((aW ((tmod c (a.2.length:Int))+1) b.1.length)&&(((decide (0<=(b.1.getD ((tmod c (a.2.length:Int))+1).toNat 0)))&&(decide ((b.1.getD ((tmod c (a.2.length:Int))+1).toNat 0)<=(e.1.length:Int))))&&(true)))) <|
  (vP N).bind λh=>
  (uA N h (e.1.take (b.1.getD ((tmod c (a.2.length:Int))+1).toNat 0).toNat)).bind λd=>
  ay ((dK (!(cond (cond (!(decide (d.2.2=0))) true (!(decide (d.1.1=0)))) true (!(decide ((d.1.2.2.2.2.1.length:Int)=0))))) (bd (2 * a.1)))&&(true)) <|
  cond (cond (cond (cond (cond (!(decide (d.2.2=0))) true (!(decide (d.1.1=0)))) true (!(decide ((d.1.2.2.2.2.1.length:Int)=0)))) true (!(decide ((d.1.2.2.2.2.2.1.length:Int)=(2 * a.1))))) true (!(decide ((d.1.2.2.1.length:Int)=6)))) (some false) (ay ((aW (tmod c (a.2.length:Int)) a.2.length)&&(true)) <|
  ay ((aW (IntKind.wrap .u8 ((a.2.getD (tmod c (a.2.length:Int)).toNat 0)-1)) d.1.2.2.1.length)&&(true)) <|
  (I4 N c a d N 0).bind λ(f:(Unit)⊕(Bool))=>
  sm f (λf=>
  Option.bind (yj) λi=>
  some i) (λq=>some q)))
def I5(N:Nat)(i:Fm)(d:Int):Option (Bool):=
  (Ep N i).bind λa=>
  ay ((bd d)&&((decide ((a.2.length:Int)≠0))&&(true))) <|
  (En N a).bind λe=>
  (Eo N a).bind λb=>
  ay ((dK (!(cond (!(decide (e.2.2=0))) true (!(decide (b.2.2=0))))) (bd ((a.2.length:Int)+1)))&&((dK (!(cond (cond (!(decide (e.2.2=0))) true (!(decide (b.2.2=0)))) true (!(decide ((b.1.length:Int)=((a.2.length:Int)+1)))))) (bd ((tmod d (a.2.length:Int))+1)))&&((dK (!(cond (cond (!(decide (e.2.2=0))) true (!(decide (b.2.2=0)))) true (!(decide ((b.1.length:Int)=((a.2.length:Int)+1)))))) (aW ((tmod d (a.2.length:Int))+1) b.1.length))&&(true)))) <|
  cond (cond (cond (cond (!(decide (e.2.2=0))) true (!(decide (b.2.2=0)))) true (!(decide ((b.1.length:Int)=((a.2.length:Int)+1))))) true (decide ((e.1.length:Int)<(b.1.getD ((tmod d (a.2.length:Int))+1).toNat 0)))) (some false) (ay ((bd ((tmod d (a.2.length:Int))+1))&&((aW ((tmod d (a.2.length:Int))+1) b.1.length)&&(((decide (0<=(b.1.getD ((tmod d (a.2.length:Int))+1).toNat 0)))&&(decide ((b.1.getD ((tmod d (a.2.length:Int))+1).toNat 0)<=(e.1.length:Int))))&&(true)))) <|
  (λ(h:_->Option _)=>
  iy ((vP N).bind λf=>
  gY ((uA N f (e.1.take (b.1.getD ((tmod d (a.2.length:Int))+1).toNat 0).toNat)).bind λc=>
  h c)) ((vP N).bind λf=>
  (uA N f (e.1.take (b.1.getD ((tmod d (a.2.length:Int))+1).toNat 0).toNat)).bind λc=>
  h c)) (λc=>
  ay ((dK (!(cond (cond (!(decide (c.2.2=0))) true (!(decide (c.1.1=0)))) true (!(decide ((c.1.2.2.2.2.1.length:Int)=0))))) (bd (2 * a.1)))&&(true)) <|
  cond (cond (cond (cond (cond (!(decide (c.2.2=0))) true (!(decide (c.1.1=0)))) true (!(decide ((c.1.2.2.2.2.1.length:Int)=0)))) true (!(decide ((c.1.2.2.2.2.2.1.length:Int)=(2 * a.1))))) true (!(decide ((c.1.2.2.1.length:Int)=6)))) (some false) (ay ((aW (tmod d (a.2.length:Int)) a.2.length)&&(true)) <|
  ay ((aW (IntKind.wrap .u8 ((a.2.getD (tmod d (a.2.length:Int)).toNat 0)-1)) c.1.2.2.1.length)&&(true)) <|
  (I4 N d a c N 0).bind λ(g:(Unit)⊕(Bool))=>
  sm g (λg=>
  Option.bind (yj) λj=>
  some j) (λq=>some q))))
theorem aob:I5=yJ:=by
 unfold I5 yJ
 first|(simp only[gY,ox];done)|(funext;simp (disch:=(simp only[TO,Cx,TN];first|done|first|rfl|(refine LY (λh=>?_) (λh=>?_);(focus (rw[h];first|done|(simp only[Cx];first|done|first|rfl|(refine LY (λh=>?_) (λh=>?_);(focus (rw[h];first|done|(simp only[Cx];first|done|first|rfl|(refine LY (λh=>?_) (λh=>?_);(focus (rw[h];first|done|(simp only[Cx];first|done|rfl)));(focus (rw[h];first|done|simp only[LW,LX]))))));(focus (rw[h];first|done|simp only[LW,LX]))))));(focus (rw[h];first|done|simp only[LW,LX]))))) only[gY,TP])
def aoc(N:Nat):bI bR:=oC N aZ [.dc Fl,.c (.int .u8)] [] ⟨.a (.c .bool),[],[]⟩ [aoa N,an8 N,an9 N,ai0 N,ajD N,Ax N,akg] [] (.s (.r [.n 2,.w (.cg 2 Fl)]) (.s (.r [.n 4,.w (.cg 5 mZ)]) (.s .d (.s .d (.s .d (.s .d (.s (.c3 [] [] (.b [.t 1 0,.t 2 0,.t 3 0,.t 4 0,.t 5 0,.t 6 1,.t 7 0] 0 13 [] [] none none (.b [] 8 13 [] [] none none (.f [.m 9,.t 10 0,.t 11 0,.t 12 0,.s 13,.s 14,.t 15 0,.t 16 0]) (.f [.c 8 [],.m 9,.t 10 0,.t 11 0,.t 12 0,.s 14,.t 15 0,.t 16 0])) (.f [.c 0 [],.c 8 [],.m 9,.t 10 0,.t 11 0,.t 12 0,.s 14,.t 15 0,.t 16 0])) [(.cg 11 pT)] false) (.s .d (.s .d (.s .d (.s (.s .d (.b (.gL 0 ⟨[(16,.a (.c (.int .i64)))],[],[5,11,14,15],[]⟩ ⟨[],[],[],[]⟩ (.s .d (.s (.b (.s .d (.s .d (.s (.o [] [.t 0 0,.t 1 0,.t 2 0,.t 3 0,.t 4 0,.t 5 0,.t 6 0,.t 7 0,.t 8 0,.t 9 0,.t 10 0,.t 11 1,.t 12 0,.t 13 0,.t 14 0,.t 15 1,.t 16 0,.t 17 0,.t 18 0,.t 19 0,.t 20 0,.t 21 0,.t 22 0,.t 23 0,.t 24 0,.t 25 0,.t 26 1,.t 27 0,.t 28 0,.t 29 0,.t 30 0,.t 31 0,.t 32 0,.t 33 0,.t 34 0,.t 35 0,.t 36 0,.t 37 0,.t 38 1,.t 39 0,.t 40 0,.t 41 0,.t 42 1,.t 43 0,.t 44 0,.t 45 1,.t 46 0,.t 47 0,.t 48 0,.t 49 0,.t 50 0,.t 51 1,.t 52 0,.t 53 0,.t 54 0,.t 55 0,.t 56 1,.t 57 0,.t 58 0,.t 59 1,.t 60 0,.t 61 0] []) .d)))) .d))))) .d))))))))))) [.tmp 4] false (λd=>I5 N d.1 d.2.1) (λd=>yJ N d.1 d.2.1) (λd=>(by rw[aob]:I5 N d.1 d.2.1=yJ N d.1 d.2.1)) func3 ntmps3
theorem Zl{y:Nat}{s:lI}(aG:y<s.1.length):∀i,(∀j,(mJ y i s).2.1 j=if j<i then [((y:Int)+1,((s.1.getD y []).length:Int)+(j:Int))] else s.2.1 j)/\(mJ y i s).2.2=s.2.2/\((mJ y i s).1.getD y []).length=(s.1.getD y []).length+i
 |0=>⟨λj=>by rw[if_neg (not_lt_zero j)];rfl,rfl,rfl⟩
 |i+1=>by
  obtain⟨I,J,ag⟩:=Zl aG i;obtain⟨c,_⟩:=AV aG i;refine⟨λj=>?_,J,?_⟩
  ·show tf (mJ y i s).2.1 i [nextId (mJ y i s).1 y] j=_
   unfold tf nextId;rw[ag,I]
   by_cases a:j=i
   ·rw[if_pos a,if_pos (by omega),a,Int.natCast_add]
   ·rw[if_neg a]
    by_cases b:j<i
    ·rw[if_pos b,if_pos (by omega)]
    ·rw[if_neg b,if_neg (by omega)]
  ·show((gz (mJ y i s).1 y _).getD y []).length=_
   rw[yq (by omega),if_pos rfl,length_append,ag]
   rfl
theorem Zm{y w:Nat}{s:lI}(aG:y<s.1.length):∀i,i<=w->(mK y w i s).2.1=s.2.1/\(∀j,(mK y w i s).2.2 j=if w-i<=j/\j<w then [((y:Int)+1,((s.1.getD y []).length:Int)+((w-1-j:Nat):Int))] else s.2.2 j)/\((mK y w i s).1.getD y []).length=(s.1.getD y []).length+i
 |0,_=>⟨rfl,λj=>by rw[if_neg (by omega)];rfl,rfl⟩
 |i+1,hi=>by
  obtain⟨I,J,ag⟩:=Zm aG (w:=w) i (by omega);obtain⟨c,_⟩:=IW aG (w:=w) i;refine⟨I,λj=>?_,?_⟩
  ·show tf (mK y w i s).2.2 (w-1-i) [nextId (mK y w i s).1 y] j=_
   unfold tf nextId;rw[ag,J]
   by_cases a:j=w-1-i
   ·rw[if_pos a,if_pos (by omega),a,Int.natCast_add,show w-1-(w-1-i)=i by omega]
   ·rw[if_neg a]
    by_cases b:w-i<=j/\j<w
    ·rw[if_pos b,if_pos (by omega)]
    ·rw[if_neg b,if_neg (by omega)]
  ·show((gz (mK y w i s).1 y _).getD y []).length=_
   rw[yq (by omega),if_pos rfl,length_append,ag]
   rfl
theorem aod{w:Nat}{a:bZ}(b:∀i,i<a.length->1<=a.getD i 0/\a.getD i 0<=6){k:Nat}(aa:k<a.length){y:Nat}(aG:y=(a.getD k 0-1).toNat){M:Nat}(e:M=((h7 w a (k+1)).1.getD y []).length):2 * w<=M/\∀i,i<w->(h7 w a (k+1)).2.1 i=[((y:Int)+1,(M:Int)-2 * (w:Int)+(i:Int))]/\(h7 w a (k+1)).2.2 i=[((y:Int)+1,(M:Int)-1-(i:Int))]:=by
 have g:=b k aa;obtain⟨bg,_⟩:=PD b k (by omega) (w:=w);have f:h7 w a (k+1)=mK y w w (mJ y w (h7 w a k)):=by
  rw[aG]
  rfl
 obtain⟨I,J,ag⟩:=Zl (y:=y) (s:=h7 w a k) (by omega) w;obtain⟨h,_⟩:=AV (y:=y) (s:=h7 w a k) (by omega) w;obtain⟨d,c,j⟩:=Zm (y:=y) (s:=mJ y w (h7 w a k)) (by omega) w (Nat.le_refl _);rw[f]at e ⊢;refine⟨by omega,λi hi=>⟨?_,?_⟩⟩
 ·rw[d,I,if_pos hi,show((M:Int)-2 * (w:Int)+(i:Int))=(((h7 w a k).1.getD y []).length:Int)+(i:Int) by omega]
 ·rw[c,if_pos ⟨by omega,hi⟩,ag,show((M:Int)-1-(i:Int))=((((h7 w a k).1.getD y []).length+w:Nat):Int)+((w-1-i:Nat):Int) by omega]
theorem Zn{β:Type}(F:Nat->List β)(w:Nat):∀n,(range n).flatMap (λk=>if 12<=k/\k<12+w then F (k-12)else [])=(range (min (n-12) w)).flatMap F
 |0=>rfl
 |n+1=>by
  rw[range_succ,flatMap_append,Zn F w n,flatMap_singleton]
  by_cases h:12<=n/\n<12+w
  ·rw[if_pos h,show min (n+1-12) w=(n-12)+1 by omega,show min (n-12) w=n-12 by omega,range_succ,flatMap_append,flatMap_singleton]
  ·rw[if_neg h,append_nil,show min (n+1-12) w=min (n-12) w by omega]
theorem Zo{β:Type}(a b:Nat->β):∀w,((range w).flatMap λi=>[a i,b i]).length=2 * w/\∀i,i<w->((range w).flatMap λi=>[a i,b i])[2 * i]?=some (a i)/\((range w).flatMap λi=>[a i,b i])[2 * i+1]?=some (b i)
 |0=>⟨rfl,λi hi=>absurd hi (not_lt_zero i)⟩
 |w+1=>by
  obtain⟨I,J⟩:=Zo a b w;rw[range_succ,flatMap_append,flatMap_singleton];refine⟨by rw[length_append,I];show 2 * w+2=_;omega,λi hi=>?_⟩
  by_cases c:i<w
  ·rw[getElem?_append_left (by omega),getElem?_append_left (by omega)]
   exact J i c
  ·have e:i=w:=by omega
   subst e;rw[getElem?_append_right (by omega),getElem?_append_right (by omega),I,sub_self,show 2 * i+1-2 * i=1 by omega];exact⟨rfl,rfl⟩
theorem hW.ids{w:Nat}(hw:w<=8){s:lI}{f g:bV}{ys:dd}(h:hW w s f g ys){a b:Nat->ae}(bm:∀i,i<w->s.2.1 i=[a i])(ab:∀i,i<w->s.2.2 i=[b i]):((mix f g).map λp:b3=>p.1)=(range w).flatMap λi=>[b i,a i]:=by
 have c:∀(z:Int) (l:bV) (k:Nat),(kq z l k).map (λp:b3=>p.1)=l.getD k []:=λz l k=>by
  unfold kq;rw[map_map];exact List.map_id' _
 unfold mix;rw[List.map_flatMap];have e:(λk=>map (λp:b3=>p.1) (kq 1 g k++kq 0 f k))=λk=>if 12<=k/\k<12+w then(λi=>[b i,a i]) (k-12)else []:=funext λk=>by
  rw[map_append,c,c,h.r7,h.gk]
  by_cases aa:12<=k/\k<12+w
  ·rw[if_pos aa,if_pos aa,if_pos aa,bm _ (by omega),ab _ (by omega)]
   rfl
  ·rw[if_neg aa,if_neg aa,if_neg aa]
   rfl
 rw[e];exact(Zn (λi=>[b i,a i]) w 40).trans (by rw[show min (40-12) w=w by omega])
theorem aof{N:Nat}(a1:5000<N){c:Int}{a:lX}{b:lY×Int×Int}{w:Nat}(hw:a.1=(w:Int))(r:w<=8){y M:Int}(aG:a.2.getD (tmod c (a.2.length:Int)).toNat 0=y){Y:bq}(bE:b.1.2.2.1.getD (IntKind.wrap .u8 (y-1)).toNat b5.zero=Y)(j:Y.2.2.1=M)(q:2 * (w:Int)<=M/\M<=4096)(bm:∀i:Nat,i<w->nV N b.1.2.1 ((0:Int),(13:Int)+(i:Int))=some ([(y,M-2 * (w:Int)+(i:Int))],1))(ab:∀i:Nat,i<w->nV N b.1.2.1 ((1:Int),(13:Int)+(i:Int))=some ([(y,M-1-(i:Int))],1))(n:∀i:Nat,i<w->b.1.2.2.2.2.2.1.getD (2 * i) aS.zero=(y,M-1-(i:Int))/\b.1.2.2.2.2.2.1.getD (2 * i+1) aS.zero=(y,M-2 * (w:Int)+(i:Int)))(ah:b.1.2.2.2.2.2.1.length=2 * w)(p:0<=IntKind.wrap .u8 (y-1)/\IntKind.wrap .u8 (y-1)<(b.1.2.2.1.length:Int))(aa:0<=tmod c (a.2.length:Int)/\tmod c (a.2.length:Int)<(a.2.length:Int)):I4 N c a b N (0:Int)=some (.inl ()):=by
 refine fp (λk d=>∃i:Nat,i+k=w/\d=(i:Int)) _ ?_ N w _ (by omega) ⟨0,by omega,rfl⟩;rintro k d rec ⟨i,hi,rfl⟩ l
 apply T.eq
 by_cases e:i<w
 ·have f:(i:Int)<(w:Int):=by omega
  have this:T (rec ((i:Int)+1)) (·=.inl ()):=⟨_,l (k-1) _ (by omega) ⟨i+1,by omega,rfl⟩,rfl⟩
  have g:((2:Int) * (i:Int)).toNat=2 * i:=by omega
  have m:((2:Int) * (i:Int)+1).toNat=2 * i+1:=by omega
  obtain⟨h,o⟩:=n i e;simp only[a8,reduceLT,reduceLE,reduceCtorEq,f,bn (bm i e),bn (ab i e),aG,bE,j,hw,g,m,h,o,Ip,ah,length_singleton,List.getD_cons_zero,show(0:Int).toNat=0 from rfl,show((1:Nat):Int)=1 from rfl]
  and_intros<;>first|omega|exact this
 ·have f:¬(i:Int)<a.1:=by omega
  simp only[a8,reduceLE,reduceCtorEq,f]
theorem aoh{t:Int}(h:0<=t/\t<3):IntKind.wrap .u8 (1+t)=1+t/\1<=1+t/\1+t<=3:=by
 have:t=0\/t=1\/t=2:=by omega
 rcases this with rfl|rfl|rfl<;>decide
theorem aoi{N:Nat}(a1:5000<N)(x:Int×bZ)(n:0<=x.1)(an:∀z∈x.2,0<=z):T (Ep N x) λr=>∃w:Nat,r.1=(w:Int)/\1<=w/\w<=8/\1<=r.2.length/\r.2.length<=8/\∀y∈r.2,1<=y/\y<=3:=by
 have bg:=N3 x.1 8 n (by decide);obtain⟨W,ca⟩:∃W,W=1+tmod x.1 8:=⟨_,rfl⟩
 have dH:T (PF N x N (0,W,([]:bZ))) λr=>r.1=W/\r.2.length<=8/\∀y∈r.2,1<=y/\y<=3:=by
  unfold PF;refine nk (λk d=>∃(i:Nat) (l:bZ),i+k=8/\d=((i:Int),W,l)/\l.length=i/\∀y∈l,1<=y/\y<=3) _ ?_ N 8 _ (by omega) ⟨0,[],rfl,rfl,rfl,λy aG=>by cases aG⟩;rintro k d rec ⟨i,l,hi,rfl,ah,aG⟩ j
  by_cases m:i<x.2.length/\i<8
  ·obtain⟨a,bm⟩:∃a,x.2[i]?=some a:=⟨_,getElem?_eq_getElem m.1⟩
   have c:=aoh (N3 a 3 (an a (mem_of_getElem? bm)) (by decide));have g:(i:Int)<(x.2.length:Int):=by omega
   have h:(i:Int)<8:=by omega
   have this:=j (k-1) ((i:Int)+1,W,l++[1+tmod a 3]) (by omega) ⟨i+1,l++[1+tmod a 3],by omega,rfl,by rw[length_append,ah];rfl,λy iu=>by
    rcases List.mem_append.1 iu with iu|iu
    ·exact aG y iu
    ·rw[List.mem_singleton]at iu
     rw[iu];exact c.2⟩
   simp only[a8,reduceCtorEq,g,h,ck bm,c.1,length_singleton,ah]
   and_intros<;>first|omega|exact this
  ·have g:¬((i:Int)<(x.2.length:Int)/\(i:Int)<8):=by omega
   have f:cond (decide ((i:Int)<(x.2.length:Int))) (decide ((i:Int)<8)) false=false:=by
    rw[N7,decide_eq_false_iff_not,decide_eq_false_iff_not];omega
   show T (cond (cond (decide ((i:Int)<(x.2.length:Int))) (decide ((i:Int)<8)) false) _ _) _;rw[f,cond_false];simp only[a8];exact⟨by omega,aG⟩
 unfold Ep;rw[<- ca];simp only[a8];refine⟨by omega,dH.mono ?_⟩;rintro⟨dk,l⟩ ⟨rfl,aok,aG⟩;have e:dk=((dk.toNat:Nat):Int):=by omega
 by_cases f:l.length=0
 ·have b:(l.length:Int)=0:=by omega
  simp only[a8,b];exact⟨dk.toNat,e,by omega,by omega,Nat.le_refl _,by decide,λy aG=>by rw[List.mem_singleton]at aG;omega⟩
 ·have b:¬(l.length:Int)=0:=by omega
  simp only[a8,b];exact⟨dk.toNat,e,by omega,by omega,by omega,aok,aG⟩
theorem Zs(w:Int)(a:bZ){j:Nat}:∀n,j<=n->∃q,hY w a n=hY w a j++q
 |0,h=>⟨[],by rw[show j=0 by omega,append_nil]⟩
 |n+1,h=>by
  by_cases b:j<=n
  ·obtain⟨q,c⟩:=Zs w a n b
   refine⟨(q++(if (hX a n).elem (a.getD n 0)then [] else [(1,0,(0,0),a.getD n 0,0)]))++lb (a.getD n 0) w.toNat++ns w (a.getD n 0) w.toNat,?_⟩;show((hY w a n++_)++_)++_=_;rw[c];simp only[append_assoc]
  ·exact⟨[],by rw[show j=n+1 by omega,append_nil]⟩
theorem Zt(w:Int)(a:bZ):∀n j,j<n->(nt w a n)[j]?=some ((hY w a j).length:Int)
 |0,j,h=>absurd h (not_lt_zero j)
 |n+1,j,h=>by
  show(nt w a n++[_])[j]?=_
  by_cases b:j<n
  ·rw[getElem?_append_left (by rw[tg];exact b)]
   exact Zt w a n j b
  ·rw[getElem?_append_right (by rw[tg];omega),tg,show j=n by omega,sub_self]
   rfl
theorem aol(w:Int)(a:bZ)(n:Nat){j:Nat}(h:j<=n):(nt w a n++[((hY w a n).length:Int)]).getD j 0=((hY w a j).length:Int):=by
 rw[getD_eq_getElem?_getD]
 by_cases b:j<n
 ·rw[getElem?_append_left (by rw[tg];exact b),Zt w a n j b]
  rfl
 ·rw[getElem?_append_right (by rw[tg];omega),tg,show j=n by omega,sub_self]
  rfl
theorem aom{N:Nat}(a1:5000<N)(U:yj=some true)(x:Int×bZ)(ag:0<=x.1)(an:∀z∈x.2,0<=z)(z:Int)(bF:0<=z/\z<=255):yJ N x z=some true:=by
 unfold yJ
 apply T.eq
 simp only[AG];refine(aoi a1 x ag an).mono ?_;rintro⟨W,rs⟩ ⟨w,ca,k2,I7,hF,H5,Zu⟩;dsimp only at ca hF H5 Zu;subst ca;have e:∀i,i<rs.length->1<=rs.getD i 0/\rs.getD i 0<=6:=λi hi=>by
  have:=Zu (rs.getD i 0) (by rw[getD_eq_getElem?_getD,getElem?_eq_getElem hi];exact List.getElem_mem hi)
  omega
 have af:wB (w:Int) rs=0:=by
  unfold wB;rw[if_neg (by omega),if_neg (by omega),if_pos];unfold AW;rw[List.all_eq_true];intro i hi;rw[mem_range]at hi
  have:=e i hi
  unfold wA;rw[decide_eq_true this.1,decide_eq_true this.2]
  rfl
 have aq:=e (rs.length-1) (by omega);obtain⟨bops,u,R⟩:=anU (y:=(rs.getD (rs.length-1) 0-1).toNat) (by omega) k2 I7;rw[show(((rs.getD (rs.length-1) 0-1).toNat:Nat):Int)+1=rs.getD (rs.length-1) 0 by omega]at u;have v:=ant (w:Int) rs af (bops:=bops) (by rw[toNat_natCast];exact u) R;have cF:En N ((w:Int),rs)=some (th (w:Int) rs bops,(th (w:Int) rs bops).length,0):=by
  unfold En;rw[v]
  rfl
 have ad:Eo N ((w:Int),rs)=some (nt (w:Int) rs rs.length++[((hY (w:Int) rs rs.length).length:Int)],rs.length+1,0):=by
  unfold Eo;rw[v]
  rfl
 have au:=N3 z (rs.length:Int) bF.1 (by omega);obtain⟨k,aa⟩:∃k:Nat,tmod z (rs.length:Int)=(k:Int):=⟨(tmod z (rs.length:Int)).toNat,by omega⟩
 have A:k<rs.length:=by omega
 obtain⟨q,D⟩:=Zs (w:Int) rs (j:=k+1) rs.length (by omega);have aw:=IY (w:Int) rs (by omega) (k+1);have ai:=aol (w:Int) rs rs.length (j:=k+1) (by omega);have V:(nt (w:Int) rs rs.length++[((hY (w:Int) rs rs.length).length:Int)]).length=rs.length+1:=by rw[length_append,tg];rfl
 have ah:(th (w:Int) rs bops).take (hY (w:Int) rs (k+1)).length=hY (w:Int) rs (k+1):=by
  unfold th;rw[D,append_assoc,append_assoc,append_assoc,List.take_left]
 have av:(hY (w:Int) rs (k+1)).length<=(th (w:Int) rs bops).length:=by
  unfold th;rw[D];simp only[length_append];omega
 obtain⟨cR,eY⟩:∃cR,il N=some cR:=⟨_,rfl⟩
 have F:=anY a1 eY Zf (l:=hY (w:Int) rs (k+1)) (by omega) (Q:=λf g ys t=>t=(h7 w rs (k+1)).1/\hW w (h7 w rs (k+1)) f g ys) ((Zh a1 eY I7 k2 e H5 (k+1) (by omega)).mono (by
  rintro s ⟨f,g,ys,rfl,c,_⟩;exact⟨f,g,ys,_,rfl,c.me,rfl,c⟩))
 rw[anZ]at F;obtain⟨ar,X,f,g,ys,t,rfl,d,rfl,c⟩:=F;obtain⟨y,aG⟩:∃y:Nat,y=(rs.getD k 0-1).toNat:=⟨_,rfl⟩
 have am:=e k A;have n:y<6:=by omega
 have B:rs.getD k 0=(y:Int)+1:=by omega
 obtain⟨M,E⟩:∃M,M=((h7 w rs (k+1)).1.getD y []).length:=⟨_,rfl⟩
 obtain⟨ao,m⟩:=aod e A aG E;obtain⟨Y,bE⟩:∃Y,ys[y]?=some Y:=⟨_,getElem?_eq_getElem (by have:=d.ma;omega)⟩
 have P:Y.2.2.1=(M:Int):=by rw[E];exact d.jD y Y bE
 have ap:M<=200:=by
  have I:=qZ (t:=(h7 w rs (k+1)).1) y;have J:=d.all;omega
 have K:=c.ids I7 (a:=λi=>((y:Int)+1,(M:Int)-2 * (w:Int)+(i:Int))) (b:=λi=>((y:Int)+1,(M:Int)-1-(i:Int))) (λi hi=>(m i hi).1) (λi hi=>(m i hi).2);obtain⟨r,o⟩:=Zo (λi:Nat=>((((y:Int)+1,(M:Int)-1-(i:Int))):ae)) (λi:Nat=>((y:Int)+1,(M:Int)-2 * (w:Int)+(i:Int))) w;obtain⟨H,h⟩:∃H,H=(mix f g).map λp:b3=>p.1:=⟨_,rfl⟩
 rw[<- K,<- h]at r o;have c7:∀(b:Int),b=0\/b=1->∀i:Nat,i<w->nV N (f,g) (b,13+(i:Int))=some ((if b=1 then [((y:Int)+1,(M:Int)-1-(i:Int))] else [((y:Int)+1,(M:Int)-2 * (w:Int)+(i:Int))]),1):=λb ab i hi=>by
  have C:=wk (N:=N) d.ct ab (a:=13+i) (by omega) (by omega);rw[show 13+i-1=12+i by omega,show(((13+i:Nat):Int))=13+(i:Int) by omega]at C;rw[C]
  rcases ab with rfl|rfl
  ·rw[if_neg (by decide),if_neg (by decide),c.IV hi,(m i hi).1]
   rfl
  ·rw[if_pos rfl,if_pos rfl,c.Pm hi,(m i hi).2]
   rfl
 have O:I4 N z ((w:Int),rs) (uL f g ys (h7 w rs (k+1)).1,((hY (w:Int) rs (k+1)).length:Int),0) N 0=some (.inl ()):=by
  have Z:=d.ma;refine aof a1 rfl I7 (by rw[aa,toNat_natCast];exact B) (by rw[s7 n,toNat_natCast];exact ck bE) P (by omega) (λi hi=>c7 0 (inl rfl) i hi) (λi hi=>c7 1 (inr rfl) i hi) (λi hi=>?_) ?_ ?_ ?_
  ·show((mix f g).map λp:b3=>p.1).getD (2 * i) _=_/\((mix f g).map λp:b3=>p.1).getD (2 * i+1) _=_
   rw[<- h];exact⟨ck (o i hi).1,ck (o i hi).2⟩
  ·show((mix f g).map λp:b3=>p.1).length=_
   rw[<- h];exact r
  ·rw[s7 n]
   show 0<=(y:Int)/\(y:Int)<(ys.length:Int);omega
  ·rw[aa]
   show 0<=(k:Int)/\(k:Int)<(rs.length:Int);omega
 have Z:=d.ma;have ac:((k:Int)+1).toNat=k+1:=by omega
 have L:(((mix f g).map λp:b3=>p.1).length:Int)=2 * (w:Int):=by rw[<- h,r];omega
 have S:IntKind.wrap .u8 (rs.getD k 0-1)=(y:Int):=by rw[B,s7 n]
 have aj:(uL f g ys (h7 w rs (k+1)).1).1=0:=rfl;have ak:((uL f g ys (h7 w rs (k+1)).1).2.2.2.2.1.length:Int)=0:=rfl;have G:((uL f g ys (h7 w rs (k+1)).1).2.2.2.2.2.1.length:Int)=2 * (w:Int):=L;have al:((uL f g ys (h7 w rs (k+1)).1).2.2.1.length:Int)=6:=by
  show(ys.length:Int)=6;omega
 simp only[a8,reduceCtorEq,bn cF,bn ad,aa,ac,ai,V,ah,alV,bn X,bn O,bn U,S,aj,ak,G,al];refine⟨by omega,by omega,by omega,λ_=>⟨by omega,by omega⟩⟩
end
section
open Go.ChangeShapes Go.WideShapes Go.ChangeAt Go.WideElems Go.RowKit
theorem PH{x:Int}(h:IntKind.u8.min<=x/\x<=IntKind.u8.max):0<=x/\x<=255:=by
 have a:IntKind.u8.min=0:=rfl;have b:IntKind.u8.max=255:=rfl;rw[a,b]at h;exact h
theorem aos(a:Int×bZ)(b:Int)(c0:Option Nat)(r:Bool)(h:yJ 6000 a b=some r):AC bR 3 [.agg [.val (.int .u8 a.1),.bJ (.int .u8) a.2 none],.c (.val (.int .u8 b))] [] (λsv h=>sv=.c (.val (.bool r))/\h=[]):=
 (aoc 6000).ok (a,b,()) r h
theorem aot{W:World}(h:laidMetH prog Rows.roundsHeldRow.laid W):y2 bR (λb=>b<W.heap.size) W:=by
 rw[MakeChecks.laidMetH_plain _ _ _ (by kernel_rfl)]at h;obtain⟨aB,⟨ac,au,K,U,G,ao,J,L,aq,ah,⟨ad,av,M,V,ak,S,T,I,ap,nw,⟨g2,aw,N,X,ai,ab,c,F,B,lR,⟨ae,ax,O,Y,ar,al,e,q,r,s,⟨af,ay,P,Z,H,aj,d,t,u,g,⟨ag,az,Q,aa,R,am,a,v,l,m,_,_⟩,_⟩,_⟩,_⟩,_⟩,_⟩,_,_⟩:=h;have A:=Fe d (by kernel_rfl:_=some 0);subst A;have o:=Ff t (by kernel_rfl:_=some 185);subst o;have j:=RA (zs:=o1) (n:=9) underlying185 underlying9 (by kernel_rfl) (by kernel_rfl) g;have z:=Fe a (by kernel_rfl:_=some 1);subst z;have p:=Ff v (by kernel_rfl:_=some 187);subst p;have f:=RA (zs:=vd) (n:=2) underlying187 underlying9 (by kernel_rfl) (by kernel_rfl) m;have y:=Fe e (by kernel_rfl:_=some 2);subst y;have E:=Ff q (by kernel_rfl:_=some 283);subst E;have D:=Lib.cells_of_tab (zs:=lr) (k:=.i64) (n:=2) underlying283 underlying3 (by kernel_rfl) (by kernel_rfl) s;have w:=Fe c (by kernel_rfl:_=some 3);subst w;have C:=Ff F (by kernel_rfl:_=some 311);subst C;have cK:=Lib.cells_of_tab (zs:=Lib.pow10Tab) (k:=.u64) (n:=20) underlying311 underlying220 (by kernel_rfl) (by kernel_rfl) lR;intro i x an;have hi:i=0\/i=1\/i=2\/i=3:=by
  match i,an with
  |0,_=>exact .inl rfl
  |1,_=>exact .inr (.inl rfl)
  |2,_=>exact .inr (.inr (.inl rfl))
  |3,_=>exact .inr (.inr (.inr rfl))
  |_+4,h=>cases h
 rcases hi with rfl|rfl|rfl|rfl
 ·cases an
  exact Fc d u (by rw[j];exact Ks _)
 ·cases an
  exact Fc a l (by rw[f];exact Ks _)
 ·cases an
  exact Fc e r (by rw[D];exact Kr _)
 ·cases an
  exact Fc c B (by rw[cK];exact Kr _)
theorem aoE(os:Os)(args:Array Value):laidMetH prog Rows.roundsHeldRow.laid ((World.doorLaid prog 400 os).forCall (λ_ _=>0) ⟨#[],args,[]⟩).memory:=
 laidMetH_of_parts3 (fuel:=8) (laidMet_of_run' 8 (by kernel_rfl) (by kernel_rfl)) (by kernel_rfl) (by kernel_rfl)
theorem aoF:∀t∈f3.params.toList,prog.readableRec t=true/\t<prog.types.size:=by
 rw[params3];intro t bg;simp only[List.mem_cons,not_mem_nil,or_false]at bg
 rcases bg with rfl|rfl<;>exact⟨by kernel_rfl,of_decide_eq_true (by kernel_rfl)⟩
theorem aoG(os:Os)(started:os.Started)(H:Type)(enc:TypeId×Value->H) :
  ReturnsInHanded {} checked os 3 .any (λw args=>(Rows.roundsHeldSpec.pre enc prog f3 [] false w args/\laidMetH prog Rows.roundsHeldRow.laid w)/\sizedMet enc prog f3 (OpenSpec.ofChange Rows.roundsHeldSpec) false w args)
   (Rows.roundsHeldSpec.post enc prog f3 false true false false):=by
 refine returnsInHanded_of_change_and (C:=checked) (X:=λw _=>laidMetH prog Rows.roundsHeldRow.laid w) (λ_ _ _ n h=>h.of_heap n) Tryz.own started (by kernel_rfl) func3
  (ChangeSpec.witness_shaped (enc:=enc) (C:=checked) (os:=os) (X:=λw _=>laidMetH prog Rows.roundsHeldRow.laid w) false (World.doorLaid prog 400 os) #[.agg #[.int .u8 0,.slice none 0 0],.int .u8 0] 8 rfl (World.shaped_of_RefB (by kernel_rfl) (by kernel_rfl)) (by kernel_rfl) (by kernel_rfl) (by kernel_rfl) (aoE os _)) ?_
 intro W base args aL gs before l ca _ _ dH _;have b:∀(j:Nat) t v,f3.params[j]?=some t->args[j]?=some v->Value.okWide prog W .any base t v:=l;have f:=ca;obtain⟨p,q,o,s,rfl,B,E⟩:=ca;have ad:DataW.TrodAll enc prog W 0 (λ_=>true) true f3.params.toList args.toList aL p:=o;rw[params3]at ad b;obtain⟨v0,y,d0,d1,A,F,rfl,rfl,rfl,k,I⟩:=trodAll_two ad;obtain⟨rfl,rfl⟩:=trodVars_none s;obtain⟨c,d,u⟩:=adH (g:=(.pair (.int .u8) (.aI (.int .u8)))) aZ rfl rfl (by kernel_rfl) (b 0 24 v0 rfl rfl) k;obtain⟨a,rfl,rfl,rfl,r⟩:=open_int underlying5 (b 1 5 y rfl rfl) I;have z:=ac8 r;have m:=AC.law (W:=W) (aos c a none true (aom (N:=6000) (by decide) ank c (PH d.1).1 (λx an=>(PH (d.2 x an)).1) a (PH z))) (aot dH) (vs:=[v0,.int .u8 a]) ⟨v0,_,rfl,u _ _ rfl,.int .u8 a,_,rfl,rfl,rfl⟩;refine Calls.mono m λe D ⟨v,he,i,hw⟩=>?_
 subst i;exact⟨_,he,aaC f rfl rfl (by kernel_rfl) underlying4 Tryz.laidOut aoF hw⟩
theorem aoJ:Rows.RoundsHeldSaid:=
 OpenClaim.holds_of_wide 3 f3 rfl rfl rfl rfl rfl rfl rfl ⟨rfl,rfl,rfl,rfl,rfl⟩ rfl rfl rfl rfl rfl (by kernel_rfl) func3 (by kernel_rfl)
  (of_decide_eq_true (by kernel_rfl)) (by unfold Func.isWrapper;first|(rw[if_pos (by decide +kernel)];kernel_rfl)|(rw[if_neg (by decide +kernel)];exact⟨rfl,rfl⟩))
  (λos started H enc _=>aoG os started H enc)
theorem roundsHeld_holds:Rows.RoundsHeldCardSaid:=
 Claim7.holds_tied_plain_at .later [] [.data,.data,.data,.data,.data,.data] true Rows.roundsHeldCard.stood.harness false
  aoJ (λ_ h=>by cases h) (by kernel_rfl) (λ_ h=>by cases h) roundsHeld_row_tie rfl ⟨rfl,rfl⟩ (by kernel_rfl) rfl
  (λf fn aC a=>by
   obtain rfl:f=3:=Option.some.inj (aC.symm.trans (by kernel_rfl));obtain rfl:fn=f3:=(Option.some.inj (func3.symm.trans a)).symm;exact⟨by kernel_rfl,λj t bg=>by
    rw[params3]at bg;have c:t∈[24,5]:=by simpa using Array.mem_of_getElem? bg
    have b:([24,5].all λu=>!prog.wantsStandIn u)=true:=by kernel_rfl
    exact(show prog.wantsStandIn t=false by simpa using List.all_eq_true.1 b t c)⟩)
  (by kernel_rfl)
end
end
end Go.Proofs.YtijeenjclhajhaaGreatDoor
