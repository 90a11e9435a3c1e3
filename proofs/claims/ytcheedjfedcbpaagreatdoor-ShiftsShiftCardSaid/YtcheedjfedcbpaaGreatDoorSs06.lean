/- ShiftsShift: a shift runs, and no loops cross; behind it each needle to which slots go holds their loops, from left to right, and the rack is 0. -/
import Derived.Test.YtcheedjfedcbpaaGreatDoorSs05
set_option linter.unusedSimpArgs false
set_option linter.unusedVariables false
set_option maxRecDepth 100000
namespace Go.Proofs.YtcheedjfedcbpaaGreatDoor
open Go.RowKit
section
open Go.RowKit
theorem ahR{N:Nat} {ys:List bJ} {y:Nat} (aL:y < 6) {Y:bJ} (cw:ys[y]?=some Y) (gg:Y.1=true) {nd:ad} (jA:(nd.1=0\/nd.1=1)/\1<=nd.2/\nd.2<=40) {r:Int} (aw:-4<=r/\r<=4) (gT:fu nd.1 nd.2 r<=Y.2.1) (k:Int) (f g:List (List ad)) (dx:List (Bool×List bu)) (dR) (fl:List ad) :
  nA N (k,(0,(nd,((y:Int)+1,0)))) r f g dx dR ys fl=some (fu nd.1 nd.2 r - 1,fu nd.1 nd.2 r,0,r,f,g):=by
 have aW:=(List.getElem?_eq_some_iff.1 cw).1;have an:=AN N jA aw;have ae:-1000<=fu nd.1 nd.2 r/\fu nd.1 nd.2 r<=1000:=by
  unfold fu
  split<;>omega
 obtain⟨S,aI⟩:∃ S,S=fu nd.1 nd.2 r:=⟨_,rfl⟩
 rw[<- aI]at an ae gT ⊢;unfold nA
 apply T.eq
 simp only[vt aL,aZ,Int.reduceEq,Int.reduceLT,Int.reduceLE,reduceCtorEq,cb cw,bn an,gg,show ¬ Y.2.1 < S by omega]
 and_intros<;>first | omega | (simp only[bB]; omega) | exact this | trivial
theorem ahS{t:List (List bu)} {ids:List ad} (h:r2 t ids) {y:Nat} (aL:y < t.length) {l:bu} (ah:l.2.2.1=[]):r2 (hD t y l) (ids++[((y:Int)+1,((t.getD y []).length:Int))]):=by
 intro c;have J:=h c;have ag:=aeo aL l c;have aV:=QM aL l;rw[ah,List.count_nil,Nat.add_zero]at ag;rw[List.count_append]at J;rw[List.count_append,List.count_append,List.count_singleton,ag];have ahT:(if (((y:Int)+1,((t.getD y []).length:Int)) == c)=true then 1 else 0)=if ((y:Int)+1,((t.getD y []).length:Int))=c then 1 else 0:=by simp
 rw[ahT]
 by_cases e:((y:Int)+1,((t.getD y []).length:Int))=c
 ·rw[if_pos e]
  rw[e]at aV;rw[if_neg aV]at J;rw[if_pos ((Ao aL l).2 (Or.inl e.symm))];omega
 ·rw[if_neg e]
  by_cases aa:gu t c
  ·rw[if_pos aa]at J
   rw[if_pos (aa.put aL l)];omega
  ·rw[if_neg aa]at J
   rw[if_neg (fun cg=>((Ao aL l).1 cg).elim (fun h=>e h.symm) aa)];omega
structure tB(n:Nat) (t:List (List bu)):Prop where
 Lr:n<=16
 tok:∃ aR,mg t aR
 all:eh t=n
 row:(t.getD 0 []).length=n
 dx:Ek t
 once:r2 t (jY 0 n)
 SC:∀ i,i≠0->t.getD i []=[]
theorem tB.put{n:Nat} {t:List (List bu)} (h:tB n t) (aV:n < 16) {q:List c9} (ar:∀ p∈q,gu t p.1/\(p.2.2=0\/p.2.2=1)) (ah:q.length<=1):tB (n+1) (hD t 0 (0,(decide (n=0),([],q)))):=by
 obtain⟨aR,mQ⟩:=h.tok;have bb:=mQ.len;have aw:=h.row;have aN:0 < t.length:=by omega
 have ahU:xy q:=by
  intro i p Bs J U
  have:=(List.getElem?_eq_some_iff.1 U).1
  omega
 refine⟨by omega,⟨_,mQ.put (y:=0) (by omega) (l:=(0,(decide (n=0),([],q)))) (Or.inl rfl) (fun b ae=>by cases ae) ar (Nat.zero_le _) (by show q.length<=4096; omega) ahU (fun bG=>by show decide (n=0)=true; exact decide_eq_true (by omega))⟩,?_,?_,?_,?_,?_⟩
 ·rw[JZ aN,h.all]
 ·rw[An aN,if_pos rfl,List.length_append,aw]
  rfl
 ·refine⟨by rw[QK]; omega,fun x ak=>?_,fun x ak=>?_,fun x ak=>?_⟩<;>unfold hD at ak<;>rcases List.mem_or_eq_of_mem_set ak with ak | rfl
  ·exact h.dx.row x ak
  ·rw[List.length_append,aw]; show n+1<=4096; omega
  ·exact h.dx.thr x ak
  ·intro l hU
   rcases List.mem_append.1 hU with hU | hU
   ·by_cases q8:(t.getD 0 [])∈t
    ·exact h.dx.thr _ q8 l hU
    ·exact absurd (by rw[List.getD_eq_getElem?_getD,List.getElem?_eq_getElem aN]; exact List.getElem_mem aN) q8
   ·rw[List.mem_singleton]at hU
    rw[hU];exact Nat.zero_le _
  ·exact h.dx.oS x ak
  ·intro l hU
   rcases List.mem_append.1 hU with hU | hU
   ·by_cases q8:(t.getD 0 [])∈t
    ·exact h.dx.oS _ q8 l hU
    ·exact absurd (by rw[List.getD_eq_getElem?_getD,List.getElem?_eq_getElem aN]; exact List.getElem_mem aN) q8
   ·rw[List.mem_singleton]at hU
    rw[hU];show q.length<=100000;omega
 ·have:=ahS h.once aN (l:=(0,(decide (n=0),([],q)))) rfl
  rw[aw]at this;rw[tu];exact this
 ·intro i hi
  rw[An aN,if_neg hi];exact h.SC i hi
def kh(p:Int) (n:Nat) (q:List c9):bJ:=(true,p,(n:Int),decide (n=0),q)
def gI(p:Int) (n:Nat) (q:List c9):List bJ:=(List.replicate 6 (bT.zero:bJ)).set 0 (kh p n q)
theorem sb(p:Int) (n:Nat) (q:List c9):(gI p n q)[0]?=some (kh p n q):=rfl
theorem xT{p:Int} (ao:Int.tmod p 2≠0/\-13<=p/\p<=179) {n:Nat} (aV:n<=2048) {q:List c9} (ar:∀ x∈q,th x) (ah:q.length<=1):n1 (kh p n q):=
 ⟨⟨by show(0:Int)<=(n:Int); omega,by show(n:Int)<=2048; omega⟩,fun h=>(by cases h),fun _=>ao,by show q.length<=4096; omega,ar,fun i a b _ U=>by
  have:=(List.getElem?_eq_some_iff.1 U).1
  have e:(kh p n q).2.2.2.2=q:=rfl;rw[e]at this;omega⟩
structure ki(n:Nat) (f:List (List ad)):Prop where
 fX:gw f
 c1:mN f
 flat:f.flatten=jY 0 n
theorem ki.lP{n:Nat} {f:List (List ad)} (h:ki n f):(f.flatten++([]:List (List ad)).flatten).Nodup:=Sd h.flat
theorem ki.ew{n:Nat} {f:List (List ad)} (h:ki n f) (aV:n<=16):f.flatten.length+([]:List (List ad)).flatten.length < 20:=by
 rw[h.flat,EF];show n+0 < 20;omega
theorem ki.gx(f:List (List ad)):qL (fM f [] 0):=by rw[AV]; exact Rt _ _ _ _
theorem tC{n:Nat} (aV:n < 16):ny (((0:Nat):Int)+1,(n:Int)):=⟨by dsimp only; omega,by dsimp only; omega,by dsimp only; omega,by dsimp only; omega⟩
theorem ki.put{n:Nat} {f:List (List ad)} (h:ki n f) (aV:n < 16) {a:Nat} (J:f.length < a) (U:a<=40):ki (n+1) (eP f a [(((0:Nat):Int)+1,(n:Int))]):=by
 refine⟨h.fX.put J U (by simp) fun x ak=>?_,D6 _ (by simp),?_⟩
 ·rw[List.mem_singleton]at ak
  rw[ak];exact tC aV
 ·rw[Km,h.flat,tu]
def EZ(p:Int) (f:List (List ad)):Prop:=(Int.tmod p 2≠0/\-13<=p/\p<=179)/\p<=4 * (f.length:Int)+3/\∀ k:Int,1<=k->k<=(f.length:Int)->4 * k+2 < p
theorem E0{a:Nat} (J:1<=a) (U:a<=40):(Int.tmod (4 * (a:Int)+2+1) 2≠0/\-13<=4 * (a:Int)+2+1/\4 * (a:Int)+2+1<=179)/\(Int.tmod (4 * (a:Int)+2 - 1) 2≠0/\-13<=4 * (a:Int)+2 - 1/\4 * (a:Int)+2 - 1<=179):=by
 refine⟨⟨?_,by omega,by omega⟩,?_,by omega,by omega⟩<;>rw[Int.tmod_eq_emod_of_nonneg (by omega)]<;>omega
theorem ahV{p:Int} {f:List (List ad)} (h:EZ p f) {e:Int}:∀ q∈fM f [] 0,¬ (p < q.2.2/\q.2.2 < e):=by
 intro q ar;rw[AV]at ar;obtain⟨J,U,ag,aq⟩:=Ef 0 0 f 0 q ar;have an:q.2.2=4 * q.2.1.2+2:=by rw[U]; rfl
 have:=h.2.2 q.2.1.2 (by omega) (by omega)
 omega
theorem ahW{N:Nat} (a6:5000 < N) {n:Nat} {f:List (List ad)} {t:List (List bu)} (cm:ki n f) (bI:tB n t) (aV:n < 16) {p:Int} (ao:EZ p f) {a:Nat} (J:f.length < a) (U:a<=40) :
  r7 N (4,(1,((0,(a:Int)),(1,0)))) 0 f [] (own t) [] (gI p n []) []=some (0,0,eP f a [(((0:Nat):Int)+1,(n:Int))],[],own (hD t 0 (0,(decide (n=0),([],[])))),[],gI (4 * (a:Int)+2+1) (n+1) [],[]):=by
 obtain⟨aR,mQ⟩:=bI.tok;have iZ:=bI.all;have vD:((0:Int)=0\/(0:Int)=1)/\(1:Int)<=(a:Int)/\(a:Int)<=40:=⟨Or.inl rfl,by omega,by omega⟩
 have jn:fu 0 (a:Int) 0=4 * (a:Int)+2:=rfl;have gT:p < 4 * (a:Int)+2:=by have:=ao.2.1; omega
 have ae:=KJ (N:=N) (y:=0) (by decide) (sb p n []) rfl (nd:=((0:Int),(a:Int))) vD (r:=0) ⟨by decide,by decide⟩ (by rw[jn]; exact Int.le_of_lt gT) 4 f [] (own t) [] [];rw[jn]at ae;have AX:=(E0 (a:=a) (by omega) U).1;have aa:=KL a6 cm.fX pQ cm.lP (r:=0) ⟨by decide,by decide⟩ (cm.ew (by omega)) (ki.gx f) (y:=0) (by decide) (sb p n []) (xT ao.1 (by omega) (fun x ak=>by cases ak) (by decide)) rfl AX (e:=4 * (a:Int)+2) gT (ahV ao) (own t) [] [];have vE:(gI p n []).set 0 (true,4 * (a:Int)+2+1,(kh p n []).2.2.1,(kh p n []).2.2.2.1,(kh p n []).2.2.2.2)=gI (4 * (a:Int)+2+1) n []:=rfl;rw[vE]at aa;have cU:=RL (N:=N) (g:=[]) J U;have ha:=Ro a6 cm.fX pQ vp J U (s:=[(((0:Nat):Int)+1,(n:Int))]) (by simp) (by simp) (by
  intro x ak;rw[List.mem_singleton]at ak;rw[ak];exact tC aV) (by
  rw[cm.flat];show((jY 0 n++[])++_).Nodup;rw[List.append_nil,<- tu];exact AU 0 (n+1)) (by have:=cm.ew (by omega); omega)
 have hm:=KM a6 (f:=f) (g:=[]) (f':=eP f a [(((0:Nat):Int)+1,(n:Int))]) (g':=[]) mQ.len (by omega) (y:=0) (by decide) (sb (4 * (a:Int)+2+1) n []) (xT AX (by omega) (fun x ak=>by cases ak) (by decide)) rfl (by
  rw[bI.row]; rfl) (nd:=((0:Int),(a:Int))) (stack:=[]) (thr:=[]) (by simp) ha 4 1 0 [] []
 have lE:(gI (4 * (a:Int)+2+1) n []).set 0 (true,(kh (4 * (a:Int)+2+1) n []).2.1,(kh (4 * (a:Int)+2+1) n []).2.2.1+1,false,[])=gI (4 * (a:Int)+2+1) (n+1) []:=by
  unfold gI kh;rw[show decide (n+1=0)=false from decide_eq_false (by omega)]
  rfl
 dsimp only at hm;rw[lE]at hm;have e9:qM N (4,(1,((0,(a:Int)),(1,0)))) [] [] 0 f [] (own t) [] (gI (4 * (a:Int)+2+1) n []) []=_:=hm;have dM:nA N (4,(1,((0,(a:Int)),(1,0)))) 0 f [] (own t) [] (gI p n []) []=_:=ae;have dE:nB N 1 (4 * (a:Int)+2+1) (4 * (a:Int)+2) 0 f [] (own t) [] (gI p n []) []=_:=aa;unfold r7
 apply T.eq
 simp only[aZ,Int.reduceEq,Int.reduceLT,Int.reduceLE,reduceCtorEq,bn dM,bn dE,bn cU,bn e9]
 rfl
theorem ahX{N:Nat} (a6:5000 < N) {n:Nat} {f:List (List ad)} {t:List (List bu)} (cm:ki n f) (aV:n < 16) {a:Nat} (J:f.length < a) (U:a<=40) :
  vz N (6,(0,((0,(a:Int)),(1,0)))) 0 (eP f a [(((0:Nat):Int)+1,(n:Int))]) [] (own t) [] (gI (4 * (a:Int)+2+1) (n+1) []) []=some (0,0,eP f a [(((0:Nat):Int)+1,(n:Int))],[],own t,[],gI (4 * (a:Int)+2 - 1) (n+1) [((((0:Nat):Int)+1,(n:Int)),(false,0))],[]):=by
 have n7:=cm.put aV J U;have vD:((0:Int)=0\/(0:Int)=1)/\(1:Int)<=(a:Int)/\(a:Int)<=40:=⟨Or.inl rfl,by omega,by omega⟩
 have jn:fu 0 (a:Int) 0=4 * (a:Int)+2:=rfl;have xU:=E0 (a:=a) (by omega) U;have ae:=ahR (N:=N) (y:=0) (by decide) (sb (4 * (a:Int)+2+1) (n+1) []) rfl (nd:=((0:Int),(a:Int))) vD (r:=0) ⟨by decide,by decide⟩ (by rw[jn]; show 4 * (a:Int)+2<=4 * (a:Int)+2+1; omega) 6 (eP f a [(((0:Nat):Int)+1,(n:Int))]) [] (own t) [] [];rw[jn]at ae;have di:=ahQ J (((0:Nat):Int)+1,(n:Int));have AT:=ahE a6 (L:=fM (eP f a [(((0:Nat):Int)+1,(n:Int))]) [] 0) (by rw[Eg]; have:=n7.ew (by omega); omega) (a:=4 * (a:Int)+3) (b:=4 * (a:Int)+1) (by omega);rw[di]at AT;have Ls:th ((((0:Nat):Int)+1,(n:Int)),(false,(0:Int))):=⟨tC aV,Or.inl rfl⟩
 have aa:=ahN a6 n7.fX pQ n7.lP (r:=0) ⟨by decide,by decide⟩ (n7.ew (by omega)) (ki.gx _) (y:=0) (by decide) (sb (4 * (a:Int)+2+1) (n+1) []) (xT xU.1 (by omega) (fun x ak=>by cases ak) (by decide)) rfl xU.2 (e:=4 * (a:Int)+2 - 1) (P:=[((((0:Nat):Int)+1,(n:Int)),(false,0))]) (pn:=1) (by
  show qH N _ (4 * (a:Int)+2+1) _=_;rw[show 4 * (a:Int)+2+1=4 * (a:Int)+3 by omega,show 4 * (a:Int)+2 - 1=4 * (a:Int)+1 by omega,AT]
  rfl) (fun x ak=>by rw[List.mem_singleton]at ak; rw[ak]; exact Ls) (by show 1+0<=4096; decide) (own t) [] []
 have vE:(gI (4 * (a:Int)+2+1) (n+1) []).set 0 (true,4 * (a:Int)+2 - 1,(kh (4 * (a:Int)+2+1) (n+1) []).2.2.1,(kh (4 * (a:Int)+2+1) (n+1) []).2.2.2.1,jW (kh (4 * (a:Int)+2+1) (n+1) []).2.2.2.2 [((((0:Nat):Int)+1,(n:Int)),(false,0))])=gI (4 * (a:Int)+2 - 1) (n+1) [((((0:Nat):Int)+1,(n:Int)),(false,0))]:=rfl;rw[vE]at aa;have dM:nA N (6,(0,((0,(a:Int)),(1,0)))) 0 (eP f a [(((0:Nat):Int)+1,(n:Int))]) [] (own t) [] (gI (4 * (a:Int)+2+1) (n+1) []) []=_:=ae;have dE:nB N 1 (4 * (a:Int)+2 - 1) (4 * (a:Int)+2 - 1) 0 (eP f a [(((0:Nat):Int)+1,(n:Int))]) [] (own t) [] (gI (4 * (a:Int)+2+1) (n+1) []) []=_:=aa;unfold vz
 apply T.eq
 simp only[aZ,Int.reduceEq,Int.reduceLT,Int.reduceLE,reduceCtorEq,bn dM,bn dE]
theorem SD(n:Nat):jY 0 (n+2)=jY 0 n++[(((0:Nat):Int)+1,(n:Int)),(((0:Nat):Int)+1,((n+1:Nat):Int))]:=by
 rw[tu,tu,List.append_assoc]
 rfl
theorem ahY{N:Nat} (a6:5000 < N) {n:Nat} {f:List (List ad)} {t:List (List bu)} (cm:ki n f) (bI:tB (n+1) t) (aV:n+1 < 16) {a:Nat} (J:f.length < a) (U:a<=40) :
  vw N (5,(1,((0,(a:Int)),(1,0)))) 0 (eP f a [(((0:Nat):Int)+1,(n:Int))]) [] (own t) [] (gI (4 * (a:Int)+2 - 1) (n+1) [((((0:Nat):Int)+1,(n:Int)),(false,0))]) []=some (0,0,eP f a [(((0:Nat):Int)+1,(n:Int)),(((0:Nat):Int)+1,((n+1:Nat):Int))],[],own (hD t 0 (0,(decide (n+1=0),([],[((((0:Nat):Int)+1,(n:Int)),(false,0))])))),[],gI (4 * (a:Int)+2+1) (n+2) [],[]):=by
 obtain⟨aR,mQ⟩:=bI.tok;have iZ:=bI.all;have n7:=cm.put (by omega) J U;have vD:((0:Int)=0\/(0:Int)=1)/\(1:Int)<=(a:Int)/\(a:Int)<=40:=⟨Or.inl rfl,by omega,by omega⟩
 have jn:fu 0 (a:Int) 0=4 * (a:Int)+2:=rfl;have xU:=E0 (a:=a) (by omega) U;have Ls:th ((((0:Nat):Int)+1,(n:Int)),(false,(0:Int))):=⟨tC (by omega),Or.inl rfl⟩
 have Lt:∀ x∈[((((0:Nat):Int)+1,(n:Int)),(false,(0:Int)))],th x:=fun x ak=>by rw[List.mem_singleton]at ak; rw[ak]; exact Ls
 obtain⟨q,ar⟩:∃ q:List c9,q=[((((0:Nat):Int)+1,(n:Int)),(false,(0:Int)))]:=⟨_,rfl⟩
 rw[<- ar]at Lt ⊢;have akE:q.length=1:=by rw[ar]; rfl
 have ae:=KJ (N:=N) (y:=0) (by decide) (sb (4 * (a:Int)+2 - 1) (n+1) q) rfl (nd:=((0:Int),(a:Int))) vD (r:=0) ⟨by decide,by decide⟩ (by rw[jn]; show 4 * (a:Int)+2 - 1<=4 * (a:Int)+2; omega) 5 (eP f a [(((0:Nat):Int)+1,(n:Int))]) [] (own t) [] [];rw[jn]at ae;have aa:=KL a6 n7.fX pQ n7.lP (r:=0) ⟨by decide,by decide⟩ (n7.ew (by omega)) (ki.gx _) (y:=0) (by decide) (sb (4 * (a:Int)+2 - 1) (n+1) q) (xT xU.2 (by omega) Lt (by omega)) rfl xU.1 (e:=4 * (a:Int)+2) (by show 4 * (a:Int)+2 - 1 < 4 * (a:Int)+2; omega) (by
  intro x ak e;obtain⟨ay,aS⟩:=e;have Hq:4 * (a:Int)+2 - 1 < x.2.2:=ay;omega) (own t) [] []
 have vE:(gI (4 * (a:Int)+2 - 1) (n+1) q).set 0 (true,4 * (a:Int)+2+1,(kh (4 * (a:Int)+2 - 1) (n+1) q).2.2.1,(kh (4 * (a:Int)+2 - 1) (n+1) q).2.2.2.1,(kh (4 * (a:Int)+2 - 1) (n+1) q).2.2.2.2)=gI (4 * (a:Int)+2+1) (n+1) q:=rfl;rw[vE]at aa;have A8:k5 (eP f a [(((0:Nat):Int)+1,(n:Int))]) []:=⟨n7.fX,pQ,n7.c1,vp⟩
 have cU:=xN (N:=N) A8 (b:=0) (Or.inl rfl) (a:=a) (by omega) U;have Lu:(if (0:Int)=1 then([]:List (List ad))else eP f a [(((0:Nat):Int)+1,(n:Int))]).getD (a - 1) []=[(((0:Nat):Int)+1,(n:Int))]:=by
  rw[if_neg (by decide),xS J,if_pos rfl]
 rw[Lu]at cU;have fU:∀ x∈[(((0:Nat):Int)+1,(n:Int)),(((0:Nat):Int)+1,((n+1:Nat):Int))],ny x:=by
  intro x ak
  rcases List.mem_cons.1 ak with rfl | ak
  ·exact tC (by omega)
  ·rw[List.mem_singleton]at ak
   rw[ak];exact tC (by omega)
 have ahZ:=ahH a6 A8 n7.lP (by have:=n7.ew (by omega); omega) (b:=0) (Or.inl rfl) (a:=a) (by omega) U (s:=[(((0:Nat):Int)+1,(n:Int)),(((0:Nat):Int)+1,((n+1:Nat):Int))]) (by simp) fU (by
  have:=AU 0 (n+2)
  rw[SD]at this;exact(List.nodup_append.1 this).2.1) (by
  intro x ak;rw[Lu]
  rcases List.mem_cons.1 ak with rfl | ak
  ·exact Or.inl (List.mem_singleton.2 rfl)
  ·rw[List.mem_singleton]at ak
   refine Or.inr fun hm=>?_
   rw[n7.flat]at hm;have e9:x∈jY 0 (n+1):=by
    rcases List.mem_append.1 hm with hm | hm
    ·exact hm
    ·cases hm
   have:=(R2 e9).2.2
   rw[ak]at this;dsimp only at this;omega)
 obtain⟨⟨⟨f',g'⟩,cj⟩,ha,np,Lv,gR,ea⟩:=ahZ;dsimp only at np Lv gR ea;have Lw:f'=eP f a [(((0:Nat):Int)+1,(n:Int)),(((0:Nat):Int)+1,((n+1:Nat):Int))]:=Ky Lv.c1 (D6 _ (by simp)) fun k=>by
  rw[gR,xS J,xS J]
  by_cases ab:k=a - 1
  ·rw[if_pos ⟨rfl,ab⟩,if_pos ab]
  ·rw[if_neg (fun h=>ab h.2),if_neg ab,if_neg ab]
 have uT:g'=[]:=Ky Lv.gs vp fun k=>by
  rw[ea,if_neg (fun h=>absurd h.1 (by decide))]
 rw[Lw,uT,np]at ha;have hm:=KM a6 (f:=eP f a [(((0:Nat):Int)+1,(n:Int))]) (g:=[]) (f':=eP f a [(((0:Nat):Int)+1,(n:Int)),(((0:Nat):Int)+1,((n+1:Nat):Int))]) (g':=[]) mQ.len (by omega) (y:=0) (by decide) (sb (4 * (a:Int)+2+1) (n+1) q) (xT xU.1 (by omega) Lt (by omega)) rfl (by
  rw[bI.row]; rfl) (nd:=((0:Int),(a:Int))) (stack:=[(((0:Nat):Int)+1,(n:Int))]) (thr:=[]) (by simp) ha 5 1 0 [] []
 have lE:(gI (4 * (a:Int)+2+1) (n+1) q).set 0 (true,(kh (4 * (a:Int)+2+1) (n+1) q).2.1,(kh (4 * (a:Int)+2+1) (n+1) q).2.2.1+1,false,[])=gI (4 * (a:Int)+2+1) (n+2) []:=by
  unfold gI kh;rw[show decide (n+2=0)=false from decide_eq_false (by omega)]
  rfl
 dsimp only at hm;rw[lE]at hm;have e9:qM N (5,(1,((0,(a:Int)),(1,0)))) [] [(((0:Nat):Int)+1,(n:Int))] 0 (eP f a [(((0:Nat):Int)+1,(n:Int))]) [] (own t) [] (gI (4 * (a:Int)+2+1) (n+1) q) []=_:=hm;have dM:nA N (5,(1,((0,(a:Int)),(1,0)))) 0 (eP f a [(((0:Nat):Int)+1,(n:Int))]) [] (own t) [] (gI (4 * (a:Int)+2 - 1) (n+1) q) []=_:=ae;have dE:nB N 1 (4 * (a:Int)+2+1) (4 * (a:Int)+2) 0 (eP f a [(((0:Nat):Int)+1,(n:Int))]) [] (own t) [] (gI (4 * (a:Int)+2 - 1) (n+1) q) []=_:=aa;unfold vw
 apply T.eq
 simp only[aZ,Int.reduceEq,Int.reduceLT,Int.reduceLE,reduceCtorEq,bn dM,bn dE,bn cU,bn e9,List.length_singleton];exact⟨fun h=>by omega,fun _=>by simp[kh]⟩
end
section
open Go.RowKit
abbrev gP:=Int×List (List ad)×List (List ad)×List (Bool×List bu)×List (ev×Int)×List bJ×List ad
def eY(N:Nat) (cG:List (Int×Option Nat)):List cl->gP->(gP->Prop)->Prop
 | [],s,Q=>Q s
 | o :: l,s,Q=>T (iQ N o s.1 s.2.1 s.2.2.1 s.2.2.2.1 s.2.2.2.2.1 s.2.2.2.2.2.1 s.2.2.2.2.2.2 cG) fun q=>q.1=0/\eY N cG l q.2 Q
theorem eY.mono{N:Nat} {cG:List (Int×Option Nat)} {Q pf:gP->Prop} (nK:∀ s,Q s->pf s):∀ {l:List cl} {s:gP},eY N cG l s Q->eY N cG l s pf
 | [],s,h=>nK s h
 | o :: l,s,h=>T.mono h fun q ar=>⟨ar.1,ar.2.mono nK⟩
theorem eY.append{N:Nat} {cG:List (Int×Option Nat)} {Q pf:gP->Prop} {l2:List cl} (nK:∀ s,Q s->eY N cG l2 s pf):∀ {l:List cl} {s:gP},eY N cG l s Q->eY N cG (l++l2) s pf
 | [],s,h=>nK s h
 | o :: l,s,h=>T.mono h fun q ar=>⟨ar.1,ar.2.append nK⟩
theorem eY.one{N:Nat} {cG:List (Int×Option Nat)} {Q:gP->Prop} {o:cl} {s ej:gP} (h:iQ N o s.1 s.2.1 s.2.2.1 s.2.2.2.1 s.2.2.2.2.1 s.2.2.2.2.2.1 s.2.2.2.2.2.2 cG=some (0,ej)) (nK:Q ej):eY N cG [o] s Q:=
 T.of h ⟨rfl,nK⟩
theorem SE{N:Nat} {cG:List (Int×Option Nat)} {Q:gP->Prop} {l:List cl} (a6:l.length < N) (ah:l.length<=100000) {s:gP} (h:eY N cG l s Q) :
  T (KH N l N ((0:Int),s.1,s.2.1,s.2.2.1,cG,s.2.2.2.2.2.2,s.2.2.2.2.1,s.2.2.2.1,s.2.2.2.2.2.1)) fun q=>∃ ej:gP,q=.inl (ej.1,ej.2.1,ej.2.2.1,ej.2.2.2.2.2.2,ej.2.2.2.2.1,ej.2.2.2.1,ej.2.2.2.2.2.1)/\Q ej:=by
 unfold KH;refine kH (fun k d=>∃ (j:Nat) (s:gP),j+k=l.length/\d=((j:Int),s.1,s.2.1,s.2.2.1,cG,s.2.2.2.2.2.2,s.2.2.2.2.1,s.2.2.2.1,s.2.2.2.2.2.1)/\eY N cG (l.drop j) s Q) _ ?_ N l.length _ a6 ⟨0,s,by omega,rfl,h⟩;rintro k d rec ⟨j,s,aH,rfl,dT⟩ bO
 by_cases aW:j < l.length
 ·obtain⟨o,bg⟩:∃ o,l[j]?=some o:=⟨_,List.getElem?_eq_getElem aW⟩
  have ba:(j:Int) < (l.length:Int):=by omega
  rw[ti bg]at dT;simp only[aZ,Int.reduceEq,Int.reduceLT,Int.reduceLE,reduceCtorEq,ba,cb bg];refine⟨by and_intros<;>first | omega | (simp only[bB]; omega) | exact this | trivial,T.mono dT ?_⟩;rintro⟨e,q⟩ ⟨aN,fS⟩;dsimp only at aN fS;subst aN;have this:=bO (k - 1) ((j:Int)+1,q.1,q.2.1,q.2.2.1,cG,q.2.2.2.2.2.2,q.2.2.2.2.1,q.2.2.2.1,q.2.2.2.2.2.1) (by omega) ⟨j+1,q,by omega,rfl,fS⟩;simp only[aZ,Int.reduceEq,Int.reduceLT,Int.reduceLE,reduceCtorEq]
  and_intros<;>first | omega | (simp only[bB]; omega) | exact this | trivial
 ·have ba:¬ (j:Int) < (l.length:Int):=by omega
  rw[List.drop_eq_nil_of_le (by omega)]at dT;simp only[aZ,Int.reduceEq,Int.reduceLT,Int.reduceLE,reduceCtorEq,ba];exact⟨s,rfl,dT⟩
def Lx(f:List (List ad)) (t:List (List bu)) (p:Int) (n:Nat):gP:=((0:Int),f,[],own t,[],gI p n [],[])
def qQ(A:List Nat) (l2:List Int) (j:Nat) (s:gP):Prop:=∃ (n:Nat) (f:List (List ad)) (t:List (List bu)) (p:Int),s=Lx f t p n/\ki n f/\tB n t/\EZ p f/\n<=2 * j/\(∀ i,i < j->((f.getD (A.getD i 0 - 1) []).length:Int)=l2.getD i 0)/\(∀ k,f.getD k []≠[]->∃ i,i < j/\k+1=A.getD i 0)/\((j=0/\f.length=0)\/∃ i,j=i+1/\f.length=A.getD i 0)
theorem SF{f:List (List ad)} {a:Nat} (J:1<=a) (U:a<=40) (az:f.length=a):EZ (4 * (a:Int)+2+1) f:=
 ⟨(E0 J U).1,by omega,fun k _ ab=>by omega⟩
theorem ah0{N:Nat} (a6:5000 < N) {cG} (fB:iP N=some cG) {A:List Nat} (aj:qP A 40) (xV:A.length<=8) {l2:List Int} {j a:Nat} (aX:A[j]?=some a) {s:gP} (h:qQ A l2 j s) :
  (l2.getD j 0=1->eY N cG [(4,(1,((0,(a:Int)),(1,0))))] s (qQ A l2 (j+1)))/\(l2.getD j 0=2->eY N cG [(4,(1,((0,(a:Int)),(1,0)))),(6,(0,((0,(a:Int)),(1,0)))),(5,(1,((0,(a:Int)),(1,0))))] s (qQ A l2 (j+1))):=by
 obtain⟨n,f,t,p,rfl,cm,bI,ao,aV,cr,vF,hlen⟩:=h;have GW:=(List.getElem?_eq_some_iff.1 aX).1;obtain⟨n8,rE⟩:=aj.fv a (List.mem_of_getElem? aX);have aW:f.length < a:=by
  rcases hlen with⟨_,aN⟩ | ⟨i,hi,ah⟩
  ·omega
  ·obtain⟨b,ae⟩:∃ b,A[i]?=some b:=⟨_,List.getElem?_eq_getElem (by omega)⟩
   rw[ah,cb ae]
   have:=List.pairwise_iff_getElem.1 aj.gx i j (by omega) (by omega) (by omega)
   rw[<- (List.getElem?_eq_some_iff.1 aX).2,<- (List.getElem?_eq_some_iff.1 ae).2];exact this
 have jA:((0:Int)=0\/(0:Int)=1)/\(1:Int)<=(a:Int)/\(a:Int)<=40:=⟨Or.inl rfl,by omega,by omega⟩
 have hold:∀ (st:List ad) i,i < j->((eP f a st).getD (A.getD i 0 - 1) []).length=(f.getD (A.getD i 0 - 1) []).length:=by
  intro st i hi;obtain⟨b,ae⟩:∃ b,A[i]?=some b:=⟨_,List.getElem?_eq_getElem (by omega)⟩
  have hs:=(aj.fv b (List.mem_of_getElem? ae)).1;have Ly:=List.pairwise_iff_getElem.1 aj.gx i j (by omega) (by omega) (by omega);rw[(List.getElem?_eq_some_iff.1 aX).2,(List.getElem?_eq_some_iff.1 ae).2]at Ly;rw[cb ae,xS aW,if_neg (by omega)]
 have hH:∀ st:List ad,(st.length:Int)=l2.getD j 0->∀ i,i < j+1->(((eP f a st).getD (A.getD i 0 - 1) []).length:Int)=l2.getD i 0:=by
  intro st cU i hi
  by_cases kQ:i=j
  ·subst kQ
   rw[cb aX,xS aW,if_pos rfl];exact cU
  ·rw[hold st i (by omega)]
   exact cr i (by omega)
 have rY:∀ (st:List ad) k,(eP f a st).getD k []≠[]->∃ i,i < j+1/\k+1=A.getD i 0:=by
  intro st k ab;rw[xS aW]at ab
  by_cases iR:k=a - 1
  ·exact⟨j,by omega,by rw[cb aX]; omega⟩
  ·rw[if_neg iR]at ab
   obtain⟨i,hi,he⟩:=vF k ab;exact⟨i,by omega,he⟩
 have SG:iQ N (4,(1,((0,(a:Int)),(1,0)))) 0 f [] (own t) [] (gI p n []) [] cG=_:=
  (agf (KI N (Or.inl rfl) (Or.inr rfl) jA ⟨by decide,by decide⟩) rfl 0 f [] (own t) [] (gI p n []) [] fB).trans (ahW a6 cm bI (by omega) ao aW rE)
 have Is:=cm.put (by omega) aW rE;have Lz:=bI.put (by omega) (q:=[]) (fun x ak=>by cases ak) (by decide);have tj:=xJ aW [(((0:Nat):Int)+1,(n:Int))];have Ig:l2.getD j 0=1->qQ A l2 (j+1) (Lx (eP f a [(((0:Nat):Int)+1,(n:Int))]) (hD t 0 (0,(decide (n=0),([],[])))) (4 * (a:Int)+2+1) (n+1)):=fun aC=>
  ⟨n+1,_,_,_,rfl,Is,Lz,SF n8 rE tj,by omega,hH _ (by rw[aC]; rfl),rY _,Or.inr ⟨j,rfl,by rw[cb aX,tj]⟩⟩
 refine⟨fun aC=>eY.one SG (Ig aC),fun aC=>?_⟩;have ah1:iQ N (6,(0,((0,(a:Int)),(1,0)))) 0 (eP f a [(((0:Nat):Int)+1,(n:Int))]) [] (own (hD t 0 (0,(decide (n=0),([],[]))))) [] (gI (4 * (a:Int)+2+1) (n+1) []) [] cG=_:=
  (agh (KI N (Or.inr (Or.inr rfl)) (Or.inl rfl) jA ⟨by decide,by decide⟩) rfl 0 _ _ _ _ _ _ fB).trans (ahX a6 cm (by omega) aW rE)
 have ah2:iQ N (5,(1,((0,(a:Int)),(1,0)))) 0 (eP f a [(((0:Nat):Int)+1,(n:Int))]) [] (own (hD t 0 (0,(decide (n=0),([],[]))))) [] (gI (4 * (a:Int)+2 - 1) (n+1) [((((0:Nat):Int)+1,(n:Int)),(false,0))]) [] cG=_:=
  (ahC (KI N (Or.inr (Or.inl rfl)) (Or.inr rfl) jA ⟨by decide,by decide⟩) rfl 0 _ _ _ _ _ _ fB).trans (ahY a6 cm Lz (by omega) aW rE)
 have ED:gu (hD t 0 (0,(decide (n=0),([],[])))) (((0:Nat):Int)+1,(n:Int)):=by
  obtain⟨aR,mQ⟩:=bI.tok
  have:=QL (y:=0) (by rw[mQ.len]; decide) (t:=t) (0,(decide (n=0),([],[])))
  rw[bI.row]at this;exact⟨_,this⟩
 have ah3:=Lz.put (by omega) (q:=[((((0:Nat):Int)+1,(n:Int)),(false,0))]) (fun x ak=>by rw[List.mem_singleton]at ak; rw[ak]; exact⟨ED,Or.inl rfl⟩) (Nat.le_refl _);have fU:∀ x∈[(((0:Nat):Int)+1,(n:Int)),(((0:Nat):Int)+1,((n+1:Nat):Int))],ny x:=by
  intro x ak
  rcases List.mem_cons.1 ak with rfl | ak
  ·exact tC (by omega)
  ·rw[List.mem_singleton]at ak
   rw[ak];exact tC (by omega)
 have xg:ki (n+2) (eP f a [(((0:Nat):Int)+1,(n:Int)),(((0:Nat):Int)+1,((n+1:Nat):Int))]):=
  ⟨cm.fX.put aW rE (by simp) fU,D6 _ (by simp),by rw[Km,cm.flat,SD]⟩
 have SH:=xJ aW [(((0:Nat):Int)+1,(n:Int)),(((0:Nat):Int)+1,((n+1:Nat):Int))];have ah4:qQ A l2 (j+1) (Lx (eP f a [(((0:Nat):Int)+1,(n:Int)),(((0:Nat):Int)+1,((n+1:Nat):Int))]) (hD (hD t 0 (0,(decide (n=0),([],[])))) 0 (0,(decide (n+1=0),([],[((((0:Nat):Int)+1,(n:Int)),(false,0))])))) (4 * (a:Int)+2+1) (n+2)):=
  ⟨n+2,_,_,_,rfl,xg,ah3,SF n8 rE SH,by omega,hH _ (by rw[aC]; rfl),rY _,Or.inr ⟨j,rfl,by rw[cb aX,SH]⟩⟩
 exact T.of SG ⟨rfl,T.of ah1 ⟨rfl,eY.one ah2 ah4⟩⟩
end
section
open Go.RowKit
def cO(f:List (List ad)) (k:Int):List ad:=if 1<=k/\k<=40 then f.getD (k - 1).toNat [] else []
theorem ah5(N:Nat) (l:List ad) (h:l.length<=100000):D2 N l=some l:=by
 unfold D2
 apply T.eq
 simp only[aZ,Int.reduceEq,Int.reduceLT,Int.reduceLE,reduceCtorEq,List.length_replicate]
 and_intros<;>first | omega | (simp only[bB]; omega) | exact this | trivial
theorem ah6{N:Nat} {f g:List (List ad)} (h:k5 f g) {k:Int} (ab:-100<=k/\k<=100):Az N (f,g) ((0:Int),k)=some (cO f k):=by
 have ah:=h.fX.len;unfold Az cO
 by_cases aw:1<=k/\k<=40
 ·rw[if_pos aw]
  have jA:=oX N (nd:=((0:Int),k)) ⟨Or.inl rfl,aw.1,aw.2⟩
  apply T.eq
  by_cases aW:(f.length:Int) < k
  ·have e:f.getD (k - 1).toNat []=[]:=by
    rw[List.getD_eq_getElem?_getD,List.getElem?_eq_none (by omega)]
    rfl
   rw[e];simp only[aZ,Int.reduceEq,Int.reduceLT,Int.reduceLE,reduceCtorEq,bn jA,aW]
  ·obtain⟨s,an⟩:∃ s,f[(k - 1).toNat]?=some s:=⟨_,List.getElem?_eq_getElem (by omega)⟩
   have aq:=h.fX.ew s (List.mem_of_getElem? an);rw[cb an];simp only[aZ,Int.reduceEq,Int.reduceLT,Int.reduceLE,reduceCtorEq,bn jA,aW,cb an,bn (ah5 N s (by omega))]
   and_intros<;>first | omega | (simp only[bB]; omega) | exact this | trivial
 ·rw[if_neg aw]
  have jA:jX N ((0:Int),k)=some 1:=by
   unfold jX
   apply T.eq
   by_cases J:k < 1
   ·simp only[aZ,Int.reduceEq,Int.reduceLT,Int.reduceLE,reduceCtorEq,J]
   ·have U:40 < k:=by omega
    simp only[aZ,Int.reduceEq,Int.reduceLT,Int.reduceLE,reduceCtorEq,J,U]
  apply T.eq
  simp only[aZ,Int.reduceEq,Int.reduceLT,Int.reduceLE,reduceCtorEq,bn jA]
theorem ah7{N:Nat} (a6:0 < N):xx N []=some []:=by
 obtain⟨n,rfl⟩:∃ n,N=n+1:=⟨N - 1,by omega⟩
 rfl
theorem ah8{N:Nat} (a6:5000 < N) (l:List ad) (h:l.length<=100):T (xx N l) fun _=>True:=by
 have dV:QH N N ((0:Int),((l.length:Int) - (1:Int)),l)=some l.reverse:=Rx aB.zero l (by omega) (by omega);unfold xx;simp only[aZ,Int.reduceEq,Int.reduceLT,Int.reduceLE,reduceCtorEq,bn dV]
 and_intros<;>first | omega | (simp only[bB]; omega) | exact this | trivial
theorem ah9{N:Nat} (a6:5000 < N) {f g:List (List ad)} (h:k5 f g) (aV:(f.flatten++g.flatten).Nodup) (aa:f.flatten.length+g.flatten.length < 20) {r d:Int} (aw:-4<=r/\r<=4) (ax:(d=0/\-3<=r)\/(d=1/\r<=3)):D0 N (f,g) r d=some 0:=by
 have vq:=xE a6 h.fX h.aY aV (by omega);have ab:∀ x:Int, -4<=x/\x<=4->vl N x=some true:=fun x ak=>by
  unfold vl;rw[decide_eq_true ak.1,cond_true,decide_eq_true ak.2]
 have jF:=ab r aw;have ik:vm N (f,g) r=some 0:=by
  unfold vm
  apply T.eq
  simp only[aZ,Int.reduceEq,Int.reduceLT,Int.reduceLE,reduceCtorEq,bn vq,bn jF]
 unfold D0
 apply T.eq
 rcases ax with⟨rfl,ag⟩ | ⟨rfl,ag⟩
 ·have e:ue.getD (0:Int).toNat 0=-1:=rfl
  have oL:=ab (r+-1) (by omega);simp only[aZ,Int.reduceEq,Int.reduceLT,Int.reduceLE,reduceCtorEq,bn ik,e,bn oL];refine⟨⟨by decide,by decide⟩,by omega,by omega⟩
 ·have e:ue.getD (1:Int).toNat 0=1:=rfl
  have oL:=ab (r+1) (by omega);simp only[aZ,Int.reduceEq,Int.reduceLT,Int.reduceLE,reduceCtorEq,bn ik,e,bn oL];refine⟨⟨by decide,by decide⟩,by omega,by omega⟩
theorem aia{N:Nat} (a6:5000 < N) {f g:List (List ad)} (h:k5 f g) (aV:(f.flatten++g.flatten).Nodup) (aa:f.flatten.length+g.flatten.length < 20) {r d:Int} (aw:-4<=r/\r<=4) (ax:(d=0/\-3<=r)\/(d=1/\r<=3))
  (ff:∀ i:Nat,i < g.length->g.getD i []≠[]->cO f ((i:Int)+1+(if d=0 then r - 1 else r))=[]):D4 N (f,g) r d=some ([],0,0):=by
 have tj:=h.aY.len;have xP:Ki N (f,g) r d N ((0:Int),[])=some []:=by
  unfold Ki;refine e3 (fun k c5=>∃ i:Nat,i+k=g.length/\c5=((i:Int),[])) _ ?_ N g.length _ (by omega) ⟨0,by omega,rfl⟩;rintro k c5 rec ⟨i,hi,rfl⟩ bO
  apply T.eq
  by_cases aW:i < g.length
  ·obtain⟨s,an⟩:∃ s,g[i]?=some s:=⟨_,List.getElem?_eq_getElem aW⟩
   have ba:(i:Int) < (g.length:Int):=by omega
   have AI:=cb (z:=[]) an;have Hd:=h.aY.ew s (List.mem_of_getElem? an);obtain⟨k',hS⟩:∃ k',k'=(i:Int)+1+(if d=0 then r - 1 else r):=⟨_,rfl⟩
   have aib:-100<=k'/\k'<=100:=by
    rw[hS]
    split<;>omega
   have iv:=ah6 (N:=N) h aib;have Aa:=ff i aW;rw[AI,<- hS]at Aa;have akF:(cO f k').length<=4:=by
    unfold cO
    split
    ·rw[List.getD_eq_getElem?_getD]
     cases ar:f[(k' - 1).toNat]? with
     | none=>exact Nat.zero_le _
     | some z=>exact h.fX.ew z (List.mem_of_getElem? ar)
    ·exact Nat.zero_le _
   have SI:∀ bU,(s=[]\/bU=[])->D3 N (f,g) d (i:Int) bU N ((0:Int),[])=some []:=by
    intro bU aE;unfold D3;refine e3 (fun k c5=>∃ j:Nat,j+k=s.length/\c5=((j:Int),[])) _ ?_ N s.length _ (by omega) ⟨0,by omega,rfl⟩;rintro k c5 rec ⟨j,aH,rfl⟩ bO
    apply T.eq
    by_cases aW:j < s.length
    ·have uz:bU=[]:=aE.resolve_left (fun e=>by rw[e]at aW; exact absurd aW (Nat.not_lt_zero _))
     subst uz;have K2:Rg N (f,g) d (i:Int) [] (j:Int) N ((0:Int),[])=some []:=by
      obtain⟨n,rfl⟩:∃ n,N=n+1:=⟨N - 1,by omega⟩
      rfl
     have ba:(j:Int) < (s.length:Int):=by omega
     have this:T (rec ((j:Int)+1,[])) (·=[]):=⟨_,bO (k - 1) _ (by omega) ⟨j+1,by omega,rfl⟩,rfl⟩
     simp only[aZ,Int.reduceEq,Int.reduceLT,Int.reduceLE,reduceCtorEq,AI,ba,bn K2]
     and_intros<;>first | omega | (simp only[bB]; omega) | exact this | trivial
    ·have ba:¬ (j:Int) < (s.length:Int):=by omega
     simp only[aZ,Int.reduceEq,Int.reduceLT,Int.reduceLE,reduceCtorEq,AI,ba]
   have this:T (rec ((i:Int)+1,[])) (·=[]):=⟨_,bO (k - 1) _ (by omega) ⟨i+1,by omega,rfl⟩,rfl⟩
   have A7:∀ Br,Br=k'->T (Az N (f,g) ((0:Int),Br)) fun r=>T (xx N r) fun r=>T (D3 N (f,g) d (i:Int) r N ((0:Int),[])) fun r=>(-9223372036854775808<=(i:Int)+1/\(i:Int)+1<=9223372036854775807)/\T (rec ((i:Int)+1,r)) (·=[]):=by
    rintro _ rfl;rw[bn iv]
    by_cases km:s=[]
    ·refine(ah8 a6 _ (by omega)).mono fun bU _=>?_
     rw[bn (SI bU (Or.inl km))];exact⟨by omega,this⟩
    ·rw[Aa km,bn (ah7 (by omega)),bn (SI [] (Or.inr rfl))]
     exact⟨by omega,this⟩
   rcases ax with⟨rfl,ag⟩ | ⟨rfl,ag⟩
   ·rw[if_pos rfl]at hS
    simp only[aZ,Int.reduceEq,Int.reduceLT,Int.reduceLE,reduceCtorEq,ba];refine⟨by and_intros<;>first | omega | (simp only[bB]; omega) | exact this | trivial,by and_intros<;>first | omega | (simp only[bB]; omega) | exact this | trivial,by and_intros<;>first | omega | (simp only[bB]; omega) | exact this | trivial,?_⟩;exact A7 _ (by omega)
   ·rw[if_neg (by decide)]at hS
    simp only[aZ,Int.reduceEq,Int.reduceLT,Int.reduceLE,reduceCtorEq,ba];refine⟨by and_intros<;>first | omega | (simp only[bB]; omega) | exact this | trivial,by and_intros<;>first | omega | (simp only[bB]; omega) | exact this | trivial,?_⟩;exact A7 _ (by omega)
  ·have ba:¬ (i:Int) < (g.length:Int):=by omega
   simp only[aZ,Int.reduceEq,Int.reduceLT,Int.reduceLE,reduceCtorEq,ba]
 have ik:=ah9 a6 h aV aa aw ax;have aic:Kg N ([]:List cB)=some []:=by
  obtain⟨n,rfl⟩:∃ n,N=n+1:=⟨N - 1,by omega⟩
  rfl
 have wc:Kh N ([]:List cB)=some ([],0):=rfl;unfold D4
 apply T.eq
 rcases ax with⟨rfl,ag⟩ | ⟨rfl,ag⟩
 ·simp only[aZ,Int.reduceEq,Int.reduceLT,Int.reduceLE,reduceCtorEq,bn ik,bn xP,bn wc]
 ·simp only[aZ,Int.reduceEq,Int.reduceLT,Int.reduceLE,reduceCtorEq,bn ik,bn xP,bn aic,bn wc]
theorem SJ{N:Nat} (a6:5000 < N) {f g:List (List ad)} (h:k5 f g) (aV:(f.flatten++g.flatten).Nodup) (aa:f.flatten.length+g.flatten.length < 20) {r d:Int} (aw:-4<=r/\r<=4) (ax:(d=0/\-3<=r)\/(d=1/\r<=3))
  (ff:∀ i:Nat,i < g.length->g.getD i []≠[]->cO f ((i:Int)+1+(if d=0 then r - 1 else r))=[]) {ys:List bJ} (aL:ys.length=6) (fI:∀ Y∈ys,Y.1=false) (dx:List (Bool×List bu)) (dR:List (ev×Int)) (fl:List ad) :
  Ep N d r f g dx dR ys fl=some (0,r,f,g,dx,dR,ys,fl):=by
 have zF:KE N d dx dR ys fl N ((0:Int),r,f,g,ys)=some (.inl (r,f,g,ys)):=by
  unfold KE;refine e3 (fun k c5=>∃ i:Nat,i+k=6/\c5=((i:Int),r,f,g,ys)) _ ?_ N 6 _ (by omega) ⟨0,by omega,rfl⟩;rintro k c5 rec ⟨i,hi,rfl⟩ bO
  apply T.eq
  by_cases aW:i < 6
  ·obtain⟨Y,cw⟩:∃ Y,ys[i]?=some Y:=⟨_,List.getElem?_eq_getElem (by omega)⟩
   have KO:=fI Y (List.mem_of_getElem? cw);have ba:(i:Int) < (ys.length:Int):=by omega
   have this:T (rec ((i:Int)+1,r,f,g,ys)) (·=.inl (r,f,g,ys)):=⟨_,bO (k - 1) _ (by omega) ⟨i+1,by omega,rfl⟩,rfl⟩
   simp only[aZ,Int.reduceEq,Int.reduceLT,Int.reduceLE,reduceCtorEq,ba,cb cw,KO]
   and_intros<;>first | omega | (simp only[bB]; omega) | exact this | trivial
  ·have ba:¬ (i:Int) < (ys.length:Int):=by omega
   simp only[aZ,Int.reduceEq,Int.reduceLT,Int.reduceLE,reduceCtorEq,ba]
 have cU:=aia a6 h aV aa aw ax ff;have aid:RF N (([]:List cB),0,(0:Int)) N ((0:Int),r,f,g,dR,fl,ys,dx)=some (.inl (r,f,g,dR,fl,ys,dx)):=by
  obtain⟨n,rfl⟩:∃ n,N=n+1:=⟨N - 1,by omega⟩
  rfl
 unfold Ep
 apply T.eq
 simp only[aZ,Int.reduceEq,Int.reduceLT,Int.reduceLE,reduceCtorEq,bn zF,bn cU,bn aid]
def SK(f g:List (List ad)) (q r:Int):Prop:=∀ i:Nat,i < g.length->g.getD i []≠[]->∀ x:Int,(q<=x/\x < r)\/(r<=x/\x < q)->cO f ((i:Int)+1+x)=[]
theorem aie{N:Nat} (a6:5000 < N) {f g:List (List ad)} (h:k5 f g) (aV:(f.flatten++g.flatten).Nodup) (aa:f.flatten.length+g.flatten.length < 20) {q r:Int} (ar:-4<=q/\q<=4) (aw:-4<=r/\r<=4) (ff:SK f g q r) {ys:List bJ} (aL:ys.length=6) (fI:∀ Y∈ys,Y.1=false) (dx:List (Bool×List bu)) (dR:List (ev×Int)) (fl:List ad) :
  vu N (3,(0,((0,0),(0,r)))) q f g dx dR ys fl=some (0,r,f,g,dx,dR,ys,fl):=by
 have zF:KF N (3,(0,((0,0),(0,r)))) N (q,f,g,dR,fl,ys,dx)=some (.inl (r,f,g,dR,fl,ys,dx)):=by
  unfold KF;refine e3 (fun k c5=>∃ x:Int,(x - r).natAbs=k/\((q<=x/\x<=r)\/(r<=x/\x<=q))/\c5=(x,f,g,dR,fl,ys,dx)) _ ?_ N (q - r).natAbs _ (by omega) ⟨q,rfl,by omega,rfl⟩;rintro k c5 rec ⟨x,ak,nq,rfl⟩ bO
  apply T.eq
  by_cases E1:x=r
  ·subst E1
   simp only[aZ,Int.reduceEq,Int.reduceLT,Int.reduceLE,reduceCtorEq]
  ·have cr:¬ x=r:=E1
   by_cases aW:r < x
   ·have an:=SJ a6 h aV aa (r:=x) (d:=0) (by omega) (Or.inl ⟨rfl,by omega⟩) (fun i hi aQ=>by
     rw[if_pos rfl];exact ff i hi aQ (x - 1) (by omega)) aL fI dx dR fl
    have this:T (rec (x - 1,f,g,dR,fl,ys,dx)) (·=.inl (r,f,g,dR,fl,ys,dx)):=⟨_,bO (k - 1) _ (by omega) ⟨x - 1,by omega,by omega,rfl⟩,rfl⟩
    simp only[aZ,Int.reduceEq,Int.reduceLT,Int.reduceLE,reduceCtorEq,cr,aW,bn an]
    and_intros<;>first | omega | (simp only[bB]; omega) | exact this | trivial
   ·have an:=SJ a6 h aV aa (r:=x) (d:=1) (by omega) (Or.inr ⟨rfl,by omega⟩) (fun i hi aQ=>by
     rw[if_neg (by decide)];exact ff i hi aQ x (by omega)) aL fI dx dR fl
    have this:T (rec (x+1,f,g,dR,fl,ys,dx)) (·=.inl (r,f,g,dR,fl,ys,dx)):=⟨_,bO (k - 1) _ (by omega) ⟨x+1,by omega,by omega,rfl⟩,rfl⟩
    simp only[aZ,Int.reduceEq,Int.reduceLT,Int.reduceLE,reduceCtorEq,cr,aW,bn an]
    and_intros<;>first | omega | (simp only[bB]; omega) | exact this | trivial
 unfold vu
 apply T.eq
 simp only[aZ,Int.reduceEq,Int.reduceLT,Int.reduceLE,reduceCtorEq,bn zF]
theorem aif(N:Nat) {r:Int} (aw:-4<=r/\r<=4):ke N (3,(0,((0,0),(0,r))))=some 0:=by
 obtain⟨h0,pP,hm⟩:∃ h0,r3 N=some h0/\cF (.int .u8) cS h0 3=some (false,(false,(false,true))):=⟨_,rfl,rfl⟩
 have ae:aU.beq aB ((0:Int),(0:Int)) ((0:Int),(0:Int))=true:=rfl;have ao:mM N (3,(0,((0,0),(0,r))))=some true:=by
  unfold mM
  apply T.eq
  simp only[aZ,Int.reduceEq,Int.reduceLT,Int.reduceLE,reduceCtorEq,bn pP,hm,ae,Option.isSome_some,Option.getD_some]
 unfold ke
 apply T.eq
 simp only[aZ,Int.reduceEq,Int.reduceLT,Int.reduceLE,reduceCtorEq,bn ao,show ¬ r < -4 by omega,show ¬ 4 < r by omega]
theorem aih{N:Nat} {op:cl} (h:ke N op=some 0) (ab:op.1=3) (r:Int) (f g:List (List ad)) (dx:List (Bool×List bu)) (dR) (ys:List bJ) (fl:List ad) {A} (aj:iP N=some A) :
  iQ N op r f g dx dR ys fl A=vu N op r f g dx dR ys fl:=by
 obtain⟨k,op⟩:=op;dsimp only at ab;subst ab;cases aj;unfold iQ;rw[h];show Option.bind (vu N _ r f g dx dR ys fl) _=_;cases vu N ((3:Int),op) r f g dx dR ys fl<;>rfl
end
section
open Go.RowKit
theorem aii(N:Nat) {b:Int} (ae:b=0\/b=1) {a c r:Int} (aX:1<=a/\a<=40) (aa:1<=c/\c<=40) (aw:-4<=r/\r<=4) (he:c=if b=1 then a+r else a - r):xF N (b,a) r=some ((1 - b,c),0):=by
 have EV:=oX N (nd:=(b,a)) ⟨ae,aX.1,aX.2⟩;have ab:vk N r=some true:=by
  unfold vk;rw[decide_eq_true aw.1,cond_true,decide_eq_true aw.2]
 have EW:∀ c':Int,c'=0\/c'=1->jX N (c',c)=some 0:=fun c' dE=>oX N (nd:=(c',c)) ⟨dE,aa.1,aa.2⟩
 unfold xF
 apply T.eq
 rcases ae with rfl | rfl
 ·rw[if_neg (by decide)]at he
  simp only[aZ,Int.reduceEq,Int.reduceLT,Int.reduceLE,reduceCtorEq,bn EV,bn ab,<- he,bn (EW 1 (Or.inr rfl))]
  and_intros<;>first | omega | (simp only[bB]; omega) | exact this | trivial
 ·rw[if_pos rfl]at he
  simp only[aZ,Int.reduceEq,Int.reduceLT,Int.reduceLE,reduceCtorEq,bn EV,bn ab,<- he,bn (EW 0 (Or.inl rfl))]
  and_intros<;>first | omega | (simp only[bB]; omega) | exact this | trivial
theorem mT{f:List (List ad)} {a:Nat} (J:1<=a) (U:a<=40):cO f (a:Int)=f.getD (a - 1) []:=by
 unfold cO;rw[if_pos (by omega),show((a:Int) - 1).toNat=a - 1 by omega]
theorem aij{f g:List (List ad)} (az:f.length<=40) (aQ:g.length<=40) (h:∀ k:Int,cO f k=cO g k) (k:Nat):f.getD k []=g.getD k []:=by
 by_cases ab:k < 40
 ·have:=h ((k+1:Nat):Int)
  rw[mT (by omega) (by omega),mT (by omega) (by omega)]at this;exact this
 ·rw[List.getD_eq_getElem?_getD,List.getD_eq_getElem?_getD,List.getElem?_eq_none (by omega),List.getElem?_eq_none (by omega)]
theorem LA(k:Int):cO [] k=[]:=by
 unfold cO
 split<;>simp
structure jZ(f g:List (List ad)):Prop where
 hl:k5 f g
 lP:(f.flatten++g.flatten).Nodup
 ew:f.flatten.length+g.flatten.length < 20
theorem jZ.four{f g:List (List ad)} (h:jZ f g) (k:Int):(cO f k).length<=4/\(cO g k).length<=4:=by
 have key:∀ l:List (List ad),gw l->(cO l k).length<=4:=by
  intro l ah;unfold cO
  split
  ·rw[List.getD_eq_getElem?_getD]
   cases ar:l[(k - 1).toNat]? with
   | none=>exact Nat.zero_le _
   | some z=>exact ah.ew z (List.mem_of_getElem? ar)
  ·exact Nat.zero_le _
 exact⟨key f h.hl.fX,key g h.hl.aY⟩
theorem aik{N:Nat} (a6:5000 < N) {f g:List (List ad)} (h:jZ f g) {b:Int} (ae:b=0\/b=1) {a c r:Int} (aX:1<=a/\a<=40) (aa:1<=c/\c<=40) (aw:-4<=r/\r<=4) (he:c=if b=1 then a+r else a - r)
  (an:cO (if b=1 then g else f) a≠[]) (aq:(cO (if b=1 then g else f) a).length+(cO (if b=1 then f else g) c).length<=4) {ys:List bJ} (aL:ys.length=6) (fI:∀ Y∈ys,Y.1=false) (dx:List (Bool×List bu)) (dR) (fl:List ad) :
  T (tr N (7,(0,((b,a),(0,0)))) r f g dx dR ys fl) fun q=>q.1=0/\q.2.1=r/\jZ q.2.2.1 q.2.2.2/\(∀ k,cO q.2.2.1 k=if b=1 then(if k=c then cO g a++cO f k else cO f k)else(if k=a then [] else cO f k))/\(∀ k,cO q.2.2.2 k=if b=1 then(if k=a then [] else cO g k)else(if k=c then cO g k++cO f a else cO g k)):=by
 obtain⟨aP,rfl⟩:∃ aP:Nat,a=(aP:Int):=⟨a.toNat,by omega⟩
 obtain⟨c',rfl⟩:∃ c':Nat,c=(c':Int):=⟨c.toNat,by omega⟩
 have n8:1<=aP/\aP<=40:=by omega
 have iG:1<=c'/\c'<=40:=by omega
 have ij:1 - b=0\/1 - b=1:=by omega
 rw[mT n8.1 n8.2]at an aq;rw[mT iG.1 iG.2]at aq;have EX:=xN (N:=N) h.hl ae n8.1 n8.2;have aA:=aii N ae aX aa aw he;have fb:=AN N (nd:=(b,(aP:Int))) ⟨ae,aX.1,aX.2⟩ (r:=r) aw;have ih:=AN N (nd:=(1 - b,(c':Int))) ⟨ij,aa.1,aa.2⟩ (r:=r) aw;have jU:∀ x k:Int,1<=k/\k<=40->-1000<=fu x k r/\fu x k r<=1000:=fun x k ab=>by
  unfold fu
  split<;>omega
 have z7:=jU b (aP:Int) aX;have SL:=jU (1 - b) (c':Int) aa;have dV:=agk a6 aL fI (fu b (aP:Int) r) (fu (1 - b) (c':Int) r) r f g ⟨z7.1,z7.2,SL.1,SL.2⟩;have hlen:¬ (((if b=1 then g else f).getD (aP - 1) []).length:Int)=0:=by
  have:=List.length_pos_iff.2 an
  omega
 have yd:bj ((if fu (1 - b) (c':Int) r < fu b (aP:Int) r then fu (1 - b) (c':Int) r else fu b (aP:Int) r)+1)=true:=by
  split<;>exact z1 (by omega) (by omega)
 have aH:=ahK a6 h.hl h.lP h.ew ae n8 iG an aq;unfold tr;simp only[aZ,Int.reduceEq,Int.reduceLT,Int.reduceLE,reduceCtorEq,bn EX,hlen,bn aA,bn fb,bn ih,bn dV];refine⟨Bw.1 yd,aH.mono ?_⟩;rintro⟨⟨f',g'⟩,e⟩ ⟨np,av⟩;dsimp only at np av;have ao:=av.perm ae n8 iG h.hl;have ail:=ao.length_eq;rw[List.length_append,List.length_append]at ail;have KQ:=h.ew;have kj:jZ f' g':=⟨av.hl,ao.nodup_iff.2 h.lP,by omega⟩
 have key:∀ k:Int,(1<=k/\k<=40)\/¬ (1<=k/\k<=40):=fun k=>Decidable.em _
 have hy:∀ k,cO f' k=if b=1 then(if k=(c':Int)then cO g (aP:Int)++cO f k else cO f k)else(if k=(aP:Int)then [] else cO f k):=by
  intro k
  rcases key k with ab | ab
  ·obtain⟨k',rfl⟩:∃ k':Nat,k=(k':Int):=⟨k.toNat,by omega⟩
   have hS:1<=k'/\k'<=40:=by omega
   rw[mT hS.1 hS.2,mT hS.1 hS.2,mT n8.1 n8.2,av.SB]
   rcases ae with rfl | rfl
   ·simp only[show((0:Int)=1)=False by simp,if_false]
    by_cases iR:k'=aP
    ·rw[if_pos (by omega),if_pos (by omega)]
    ·rw[if_neg (by omega),if_neg (by omega)]
   ·simp only[if_true]
    by_cases iR:k'=c'
    ·rw[if_pos (by omega),if_pos (by omega)]
    ·rw[if_neg (by omega),if_neg (by omega)]
  ·have aN:∀ l:List (List ad),cO l k=[]:=fun l=>by unfold cO; rw[if_neg ab]
   have ay:¬ k=(c':Int):=by omega
   have aS:¬ k=(aP:Int):=by omega
   rw[aN,aN,if_neg ay,if_neg aS]
   split<;>rfl
 have bR:∀ k,cO g' k=if b=1 then(if k=(aP:Int)then [] else cO g k)else(if k=(c':Int)then cO g k++cO f (aP:Int)else cO g k):=by
  intro k
  rcases key k with ab | ab
  ·obtain⟨k',rfl⟩:∃ k':Nat,k=(k':Int):=⟨k.toNat,by omega⟩
   have hS:1<=k'/\k'<=40:=by omega
   rw[mT hS.1 hS.2,mT hS.1 hS.2,mT n8.1 n8.2,av.gk]
   rcases ae with rfl | rfl
   ·simp only[show((0:Int)=1)=False by simp,if_false]
    by_cases iR:k'=c'
    ·rw[if_pos (by omega),if_pos (by omega)]
    ·rw[if_neg (by omega),if_neg (by omega)]
   ·simp only[if_true]
    by_cases iR:k'=aP
    ·rw[if_pos (by omega),if_pos (by omega)]
    ·rw[if_neg (by omega),if_neg (by omega)]
  ·have aN:∀ l:List (List ad),cO l k=[]:=fun l=>by unfold cO; rw[if_neg ab]
   have ay:¬ k=(c':Int):=by omega
   have aS:¬ k=(aP:Int):=by omega
   rw[aN,aN,if_neg ay,if_neg aS]
   split<;>rfl
 exact⟨fun _=>⟨np,kj,hy,bR⟩,fun cr=>absurd np cr⟩
def mU(t:List (List bu)) (ys:List bJ) (r:Int) (f g:List (List ad)):gP:=(r,f,g,own t,[],ys,[])
def mV(b:Int) (a:Int):cl:=(7,(0,((b,a),(0,0))))
def pT(r:Int):cl:=(3,(0,((0,0),(0,r))))
theorem SM{N:Nat} (a6:5000 < N) {cG} (fB:iP N=some cG) {t:List (List bu)} {ys:List bJ} (aL:ys.length=6) (fI:∀ Y∈ys,Y.1=false) {f g:List (List ad)} (h:jZ f g) {b:Int} (ae:b=0\/b=1) {a c r:Int} (aX:1<=a/\a<=40) (aa:1<=c/\c<=40) (aw:-4<=r/\r<=4) (he:c=if b=1 then a+r else a - r)
  (an:cO (if b=1 then g else f) a≠[]) (aq:(cO (if b=1 then g else f) a).length+(cO (if b=1 then f else g) c).length<=4) {l:List cl} {Q:gP->Prop}
  (nK:∀ f' g',jZ f' g'->(∀ k,cO f' k=if b=1 then(if k=c then cO g a++cO f k else cO f k)else(if k=a then [] else cO f k))->(∀ k,cO g' k=if b=1 then(if k=a then [] else cO g k)else(if k=c then cO g k++cO f a else cO g k))->eY N cG l (mU t ys r f' g') Q) :
  eY N cG (mV b a :: l) (mU t ys r f g) Q:=by
 have ak:=aik a6 h ae aX aa aw he an aq aL fI (own t) [] [];have aim:=agj (agi N (nd:=(b,a)) ⟨ae,aX.1,aX.2⟩) rfl r f g (own t) [] ys [] fB;show T (iQ N (7,(0,((b,a),(0,0)))) r f g (own t) [] ys [] cG) _;rw[aim];simp only[aZ,Int.reduceEq,Int.reduceLT,Int.reduceLE,reduceCtorEq];refine ak.mono ?_;rintro⟨db,eB,f',g'⟩ ⟨J,U,ag,aE,bb⟩;dsimp only at J U ag aE bb;subst J U;exact⟨rfl,nK f' g' ag aE bb⟩
theorem SN{N:Nat} (a6:5000 < N) {cG} (fB:iP N=some cG) {t:List (List bu)} {ys:List bJ} (aL:ys.length=6) (fI:∀ Y∈ys,Y.1=false) {r:Int} (aw:-4<=r/\r<=4):∀ (A:List Int) {f g:List (List ad)},jZ f g->A.Nodup->(∀ a∈A,(1<=a/\a<=40)/\(1<=a - r/\a - r<=40)/\cO f a≠[]/\cO g (a - r)=[]) ->
  eY N cG (A.map (mV 0)) (mU t ys r f g) fun s=>∃ f' g',s=mU t ys r f' g'/\jZ f' g'/\(∀ k,cO f' k=if k∈A then [] else cO f k)/\∀ k,cO g' k=if k+r∈A then cO f (k+r)else cO g k
 | [],f,g,h,_,_=>⟨f,g,rfl,h,fun k=>by simp,fun k=>by simp⟩
 | a :: A,f,g,h,aj,aa=>by
  obtain⟨aX,dE,cr,rY⟩:=aa a List.mem_cons_self;rw[List.nodup_cons]at aj;have akG:=(h.four a).1;refine SM a6 fB aL fI h (b:=0) (Or.inl rfl) aX dE aw (by rw[if_neg (by decide)]) (by rw[if_neg (by decide)]; exact cr) (by rw[if_neg (by decide),if_neg (by decide),rY]; show _+0<=4; omega) fun f' g' aK gR ea=>?_
  simp only[show((0:Int)=1)=False by simp,if_false]at gR ea;refine(SN a6 fB aL fI aw A aK aj.2 fun x ak=>?_).mono ?_
  ·obtain⟨r8,nq,LB,AH⟩:=aa x (List.mem_cons_of_mem _ ak)
   have xi:x≠a:=fun e=>aj.1 (e ▸ ak)
   refine⟨r8,nq,?_,?_⟩
   ·rw[gR,if_neg xi]
    exact LB
   ·rw[ea,if_neg (by omega)]
    exact AH
  ·rintro s ⟨f2,g2,rfl,U,iM,dm⟩
   refine⟨f2,g2,rfl,U,fun k=>?_,fun k=>?_⟩
   ·rw[iM,gR]
    by_cases ab:k∈A
    ·rw[if_pos ab,if_pos (List.mem_cons_of_mem _ ab)]
    ·rw[if_neg ab]
     by_cases iR:k=a
     ·rw[if_pos iR,if_pos (by rw[iR]; exact List.mem_cons_self)]
     ·rw[if_neg iR,if_neg (by rw[List.mem_cons]; exact fun e=>e.elim iR ab)]
   ·rw[dm,ea,gR]
    by_cases ab:k+r∈A
    ·rw[if_pos ab,if_pos (List.mem_cons_of_mem _ ab),if_neg (fun e:k+r=a=>aj.1 (e ▸ ab))]
    ·rw[if_neg ab]
     by_cases iR:k+r=a
     ·rw[if_pos (by omega),if_pos (by rw[iR]; exact List.mem_cons_self),show k=a - r by omega,rY,List.nil_append,show a - r+r=a by omega]
     ·rw[if_neg (by omega),if_neg (by rw[List.mem_cons]; exact fun e=>e.elim iR ab)]
theorem SO{N:Nat} (a6:5000 < N) {cG} (fB:iP N=some cG) {t:List (List bu)} {ys:List bJ} (aL:ys.length=6) (fI:∀ Y∈ys,Y.1=false) {r:Int} (aw:-4<=r/\r<=4):∀ (C:List Int) {f g:List (List ad)},jZ f g->C.Nodup->(∀ c∈C,(1<=c/\c<=40)/\(1<=c+r/\c+r<=40)/\cO g c≠[]/\(cO g c).length+(cO f (c+r)).length<=4) ->
  eY N cG (C.map (mV 1)) (mU t ys r f g) fun s=>∃ f' g',s=mU t ys r f' g'/\jZ f' g'/\(∀ k,cO f' k=if k - r∈C then cO g (k - r)++cO f k else cO f k)/\∀ k,cO g' k=if k∈C then [] else cO g k
 | [],f,g,h,_,_=>⟨f,g,rfl,h,fun k=>by simp,fun k=>by simp⟩
 | a :: A,f,g,h,aj,aa=>by
  obtain⟨aX,dE,cr,aq⟩:=aa a List.mem_cons_self;rw[List.nodup_cons]at aj;refine SM a6 fB aL fI h (b:=1) (Or.inr rfl) aX dE aw (by rw[if_pos rfl]) (by rw[if_pos rfl]; exact cr) (by rw[if_pos rfl,if_pos rfl]; exact aq) fun f' g' aK gR ea=>?_
  simp only[if_true]at gR ea;refine(SO a6 fB aL fI aw A aK aj.2 fun x ak=>?_).mono ?_
  ·obtain⟨r8,nq,LB,AH⟩:=aa x (List.mem_cons_of_mem _ ak)
   have xi:x≠a:=fun e=>aj.1 (e ▸ ak)
   refine⟨r8,nq,?_,?_⟩
   ·rw[ea,if_neg xi]
    exact LB
   ·rw[ea,if_neg xi,gR,if_neg (by omega)]
    exact AH
  ·rintro s ⟨f2,g2,rfl,U,iM,dm⟩
   refine⟨f2,g2,rfl,U,fun k=>?_,fun k=>?_⟩
   ·rw[iM,gR,ea]
    by_cases ab:k - r∈A
    ·have iR:k - r≠a:=fun e=>aj.1 (e ▸ ab)
     rw[if_pos ab,if_pos (List.mem_cons_of_mem _ ab),if_neg iR,if_neg (by omega)]
    ·rw[if_neg ab]
     by_cases iR:k - r=a
     ·rw[if_pos (by omega),if_pos (by rw[iR]; exact List.mem_cons_self),iR]
     ·rw[if_neg (by omega),if_neg (by rw[List.mem_cons]; exact fun e=>e.elim iR ab)]
   ·rw[dm,ea]
    by_cases ab:k∈A
    ·rw[if_pos ab,if_pos (List.mem_cons_of_mem _ ab)]
    ·rw[if_neg ab]
     by_cases iR:k=a
     ·rw[if_pos iR,if_pos (by rw[iR]; exact List.mem_cons_self)]
     ·rw[if_neg iR,if_neg (by rw[List.mem_cons]; exact fun e=>e.elim iR ab)]
end
section
open Go.RowKit
def jC(A:List Int) (d:Int) (F:Int->List ad):Int->List ad:=fun k=>(if k - d∈A then F (k - d)else [])++(if k∈A then [] else F k)
def FS(t:List (List bu)) (ys:List bJ) (q:Int) (F:Int->List ad) (s:gP):Prop:=∃ f,s=mU t ys q f []/\jZ f []/\∀ k,cO f k=F k
theorem LC{N:Nat} (a6:5000 < N) {cG} (fB:iP N=some cG) {t:List (List bu)} {ys:List bJ} (aL:ys.length=6) (fI:∀ Y∈ys,Y.1=false) {f g:List (List ad)} (h:jZ f g) {q r:Int} (ar:-4<=q/\q<=4) (aw:-4<=r/\r<=4) (ff:SK f g q r):eY N cG [pT r] (mU t ys q f g) (·=mU t ys r f g):=by
 have hm:=aie a6 h.hl h.lP h.ew ar aw ff aL fI (own t) [] [];exact eY.one ((aih (aif N aw) rfl q f g (own t) [] ys [] fB).trans hm) rfl
def vG(A:List Int) (q r cu:Int):List cl:=(if q=r then [] else [pT r])++A.map (mV 0)++(if r=r+cu then [] else [pT (r+cu)])++(A.map fun a=>a - r).map (mV 1)
structure pU(A:List Int) (d:Int) (F:Int->List ad):Prop where
 gx:A.Pairwise (· < ·)
 ne:A≠[]
 four:∀ a∈A,(F a).length<=4
 fv:∀ a∈A,(1<=a/\a<=40)/\(1<=a+d/\a+d<=40)/\F a≠[]
 free:∀ a∈A,∀ k,(a<=k/\k < a+d)\/(a+d<=k/\k < a)->k∈A\/F k=[]
 ew:∀ a∈A,a+d∈A\/(F a).length+(F (a+d)).length<=4
theorem pU.lP{A:List Int} {d:Int} {F:Int->List ad} (h:pU A d F):A.Nodup:=h.gx.imp fun h=>Int.ne_of_lt h
theorem xW{A:List Int} {d:Int} {x:Int}:x∈A.map (fun a=>a+d) ↔ x - d∈A:=by
 rw[List.mem_map];constructor
 ·rintro⟨a,aX,rfl⟩
  rw[show a+d - d=a by omega];exact aX
 ·intro h
  exact⟨x - d,h,by omega⟩
theorem A9{A:List Int} {d:Int} {x:Int}:x∈A.map (fun a=>a - d) ↔ x+d∈A:=by
 rw[List.mem_map];constructor
 ·rintro⟨a,aX,rfl⟩
  rw[show a - d+d=a by omega];exact aX
 ·intro h
  exact⟨x+d,h,by omega⟩
theorem ain{A:List Int} (h:A.Nodup) (f:Int->Int) (az:∀ x y,f x=f y->x=y):(A.map f).Nodup:=by
 rw[List.nodup_iff_pairwise_ne]at h ⊢;rw[List.pairwise_map];exact h.imp fun jx e=>jx (az _ _ e)
theorem aio{N:Nat} (a6:5000 < N) {cG} (fB:iP N=some cG) {t:List (List bu)} {ys:List bJ} (aL:ys.length=6) (fI:∀ Y∈ys,Y.1=false) {A:List Int} {d:Int} {F:Int->List ad} (bL:pU A d F) (ax:d≠0) {q r:Int} (ar:-4<=q/\q<=4) (aw:-4<=r/\r<=4) (xQ:-4<=r+d/\r+d<=4) (vH:∀ a∈A,1<=a - r/\a - r<=40) {s:gP} (an:FS t ys q F s) :
  eY N cG (vG A q r d) s (FS t ys (r+d) (jC A d F)):=by
 obtain⟨f,rfl,kj,hy⟩:=an;have J:eY N cG (if q=r then [] else [pT r]) (mU t ys q f []) (·=mU t ys r f []):=by
  by_cases LD:q=r
  ·rw[if_pos LD,LD]
   rfl
  ·rw[if_neg LD]
   exact LC a6 fB aL fI kj ar aw fun i hi=>absurd hi (by simp)
 have U:=SN a6 fB aL fI (t:=t) aw A kj bL.lP fun a aX=>⟨(bL.fv a aX).1,vH a aX,by rw[hy]; exact(bL.fv a aX).2.2,LA _⟩
 unfold vG;rw[if_neg (show ¬ r=r+d by omega)];refine eY.append (Q:=fun s=>∃ f' g',s=mU t ys (r+d) f' g'/\jZ f' g'/\(∀ k,cO f' k=if k∈A then [] else F k)/\∀ k,cO g' k=if k+r∈A then F (k+r)else []) ?_ (eY.append (Q:=fun s=>∃ f' g',s=mU t ys r f' g'/\jZ f' g'/\(∀ k,cO f' k=if k∈A then [] else F k)/\∀ k,cO g' k=if k+r∈A then F (k+r)else []) ?_ (eY.append ?_ J))
 ·rintro s ⟨f',g',rfl,aK,gR,ea⟩
  refine(SO a6 fB aL fI xQ (A.map fun a=>a - r) aK (ain bL.lP _ fun x y e=>by omega) fun c aa=>?_).mono ?_
  ·have Ba:=A9.1 aa
   obtain⟨aF,a7,bt⟩:=bL.fv _ Ba;have b6:=vH _ Ba;refine⟨by omega,by omega,?_,?_⟩
   ·rw[ea,if_pos Ba]
    exact bt
   ·rw[ea,if_pos Ba,gR,show c+(r+d)=c+r+d by omega]
    rcases bL.ew _ Ba with aE | aE
    ·rw[if_pos aE]
     have:=(kj.four (c+r)).1
     rw[hy]at this;show _+0<=4;omega
    ·split
     ·show _+0<=4
      omega
     ·exact aE
  ·rintro s ⟨f2,g2,rfl,qV,iM,dm⟩
   have uT:g2=[]:=Ky qV.hl.gs vp (aij qV.hl.aY.len (Nat.zero_le _) fun k=>by
    rw[dm,LA]
    by_cases ab:k+r∈A
    ·rw[if_pos (A9.2 ab)]
    ·rw[if_neg (fun e=>ab (A9.1 e)),ea,if_neg ab])
   subst uT;refine⟨f2,rfl,qV,fun k=>?_⟩;rw[iM,ea,gR];unfold jC
   by_cases ab:k - d∈A
   ·rw[if_pos (A9.2 (by rw[show k - (r+d)+r=k - d by omega]; exact ab)),if_pos ab,if_pos (by rw[show k - (r+d)+r=k - d by omega]; exact ab),show k - (r+d)+r=k - d by omega]
   ·rw[if_neg (fun e=>ab (by have:=A9.1 e; rw[show k - (r+d)+r=k - d by omega]at this; exact this)),if_neg ab,List.nil_append]
 ·rintro s ⟨f',g',rfl,aK,gR,ea⟩
  refine(LC a6 fB aL fI aK aw xQ fun i hi LF x ak=>?_).mono ?_
  ·have tj:=aK.hl.aY.len
   have LG:cO g' ((i+1:Nat):Int)≠[]:=by
    rw[mT (by omega) (by omega)];exact LF
   rw[ea]at LG
   by_cases aj:((i+1:Nat):Int)+r∈A
   ·rw[gR]
    by_cases ab:(i:Int)+1+x∈A
    ·rw[if_pos ab]
    ·rw[if_neg ab]
     exact(bL.free _ aj _ (by omega)).resolve_left ab
   ·rw[if_neg aj]at LG
    exact absurd rfl LG
  ·rintro s rfl
   exact⟨f',g',rfl,aK,gR,ea⟩
 ·rintro s rfl
  refine U.mono ?_;rintro s ⟨f',g',rfl,aK,gR,ea⟩;exact⟨f',g',rfl,aK,fun k=>by rw[gR,hy],fun k=>by rw[ea,LA,hy]⟩
theorem pU.parts{A:List Int} {d e:Int} {F:Int->List ad} (bL:pU A d F) (he:(0 < e/\e<=d)\/(e < 0/\d<=e)) :
  pU A e F/\(e≠d->pU (A.map fun a=>a+e) (d - e) (jC A e F)/\jC (A.map fun a=>a+e) (d - e) (jC A e F)=jC A d F):=by
 have qB:∀ a∈A,e≠d->a+e ∉ A->F (a+e)=[]:=fun a aX cr aV=>by
  rcases bL.free a aX (a+e) (by omega)with h | h
  ·exact absurd h aV
  ·exact h
 refine⟨⟨bL.gx,bL.ne,bL.four,fun a aX=>⟨(bL.fv a aX).1,by have:=bL.fv a aX; omega,(bL.fv a aX).2.2⟩,fun a aX k ab=>bL.free a aX k (by omega),fun a aX=>?_⟩,fun cr=>?_⟩
 ·by_cases SP:e=d
  ·rw[SP]
   exact bL.ew a aX
  ·by_cases aV:a+e∈A
   ·exact Or.inl aV
   ·refine Or.inr ?_
    rw[qB a aX SP aV];exact bL.four a aX
 ·have E2:∀ a∈A,jC A e F (a+e)=F a:=fun a aX=>by
   unfold jC;rw[show a+e - e=a by omega,if_pos aX]
   by_cases aV:a+e∈A
   ·rw[if_pos aV,List.append_nil]
   ·rw[if_neg aV,qB a aX cr aV,List.append_nil]
  have r9:∀ k,k - e ∉ A->jC A e F k=if k∈A then [] else F k:=fun k ab=>by
   unfold jC;rw[if_neg ab,List.nil_append]
  refine⟨⟨?_,?_,?_,?_,?_,?_⟩,?_⟩
  ·rw[List.pairwise_map]
   exact bL.gx.imp fun h=>by omega
  ·simpa using bL.ne
  ·intro a1 J
   obtain⟨a,aX,rfl⟩:=List.mem_map.1 J;rw[E2 a aX];exact bL.four a aX
  ·intro a1 J
   obtain⟨a,aX,rfl⟩:=List.mem_map.1 J;rw[E2 a aX]
   have:=bL.fv a aX
   exact⟨by omega,by omega,this.2.2⟩
  ·intro a1 J k ab
   obtain⟨a,aX,rfl⟩:=List.mem_map.1 J
   by_cases dJ:k - e∈A
   ·exact Or.inl (xW.2 dJ)
   ·refine Or.inr ?_
    rw[r9 k dJ]
    by_cases hz:k∈A
    ·rw[if_pos hz]
    ·rw[if_neg hz]
     exact(bL.free a aX k (by omega)).resolve_left hz
  ·intro a1 J
   obtain⟨a,aX,rfl⟩:=List.mem_map.1 J
   by_cases dJ:a+d - e∈A
   ·exact Or.inl (xW.2 (by rw[show a+e+(d - e) - e=a+d - e by omega]; exact dJ))
   ·refine Or.inr ?_
    rw[E2 a aX,show a+e+(d - e)=a+d by omega,r9 _ dJ]
    by_cases hz:a+d∈A
    ·rw[if_pos hz]
     exact bL.four a aX
    ·rw[if_neg hz]
     exact(bL.ew a aX).resolve_left hz
  ·funext k
   show(if k - (d - e)∈A.map (fun a=>a+e)then jC A e F (k - (d - e))else [])++(if k∈A.map (fun a=>a+e)then [] else jC A e F k)=(if k - d∈A then F (k - d)else [])++(if k∈A then [] else F k)
   congr 1
   ·by_cases ab:k - d∈A
    ·rw[if_pos (xW.2 (by rw[show k - (d - e) - e=k - d by omega]; exact ab)),if_pos ab,show k - (d - e)=k - d+e by omega,E2 _ ab]
    ·rw[if_neg (fun h=>ab (by have:=xW.1 h; rw[show k - (d - e) - e=k - d by omega]at this; exact this)),if_neg ab]
   ·by_cases ab:k - e∈A
    ·rw[if_pos (xW.2 ab)]
     by_cases hz:k∈A
     ·rw[if_pos hz]
     ·rw[if_neg hz]
      have:=qB _ ab cr (by rw[show k - e+e=k by omega]; exact hz)
      rw[show k - e+e=k by omega]at this;exact this.symm
    ·rw[if_neg (fun h=>ab (xW.1 h)),r9 k ab]
theorem LH{N:Nat} (r q:Int) {ops:List cl} (h:ops.length<=100000):tw N r q ops=some (r,ops++(if q=r then [] else [pT r])):=by
 have ao:tv N [((3:Int),((0:Int),(((0:Int),(0:Int)),((0:Int),r))))] q ops=some (q,ops++[pT r]):=by
  unfold tv
  apply T.eq
  simp only[aZ,Int.reduceEq,Int.reduceLT,Int.reduceLE,reduceCtorEq,List.length_singleton]
  and_intros<;>first | omega | (simp only[bB]; omega) | exact this | trivial
 unfold tw
 apply T.eq
 by_cases e:q=r
 ·subst e
  simp only[aZ,Int.reduceEq,Int.reduceLT,Int.reduceLE,reduceCtorEq,if_true,List.append_nil]
 ·simp only[aZ,Int.reduceEq,Int.reduceLT,Int.reduceLE,reduceCtorEq,e,bn ao,if_false]
theorem SQ{N:Nat} (a6:5000 < N) (b eI q:Int) (akH:-100<=eI/\eI<=100) {ops:List cl} (h:ops.length<=50000) {A:List Int} (aj:A.length<=100) (aw:∀ a∈A,0<=a/\a<=1000):AZ N b eI q ops A=some (q,ops++(A.map fun a=>a - eI).map (mV b)):=by
 have dV:K8 N b eI A N ((0:Int),q,ops)=some (q,ops++(A.map fun a=>a - eI).map (mV b)):=by
  unfold K8;refine e3 (fun k d=>∃ i:Nat,i+k=A.length/\d=((i:Int),q,ops++((A.take i).map fun a=>a - eI).map (mV b))) _ ?_ N A.length _ (by omega) ⟨0,by omega,by simp⟩;rintro k d rec ⟨i,hi,rfl⟩ bO
  apply T.eq
  by_cases aW:i < A.length
  ·obtain⟨x,ak⟩:∃ x,A[i]?=some x:=⟨_,List.getElem?_eq_getElem aW⟩
   have ba:(i:Int) < (A.length:Int):=by omega
   have E1:=aw x (List.mem_of_getElem? ak);have ao:tv N [((7:Int),((0:Int),((b,x - eI),((0:Int),(0:Int)))))] q (ops++((A.take i).map fun a=>a - eI).map (mV b))=some (q,ops++((A.take (i+1)).map fun a=>a - eI).map (mV b)):=by
    rw[qG ak,List.map_append,List.map_append,<- List.append_assoc];unfold tv
    apply T.eq
    simp only[aZ,Int.reduceEq,Int.reduceLT,Int.reduceLE,reduceCtorEq,List.length_singleton,List.length_append,List.length_map,List.length_take]
    and_intros<;>first | omega | (simp only[bB]; omega) | exact this | trivial
   have this:T (rec ((i:Int)+1,q,ops++((A.take (i+1)).map fun a=>a - eI).map (mV b))) (·=(q,ops++(A.map fun a=>a - eI).map (mV b))):=⟨_,bO (k - 1) _ (by omega) ⟨i+1,by omega,rfl⟩,rfl⟩
   simp only[aZ,Int.reduceEq,Int.reduceLT,Int.reduceLE,reduceCtorEq,ba,cb ak,bn ao]
   and_intros<;>first | omega | (simp only[bB]; omega) | exact this | trivial
  ·have ba:¬ (i:Int) < (A.length:Int):=by omega
   rw[List.take_of_length_le (by omega)];simp only[aZ,Int.reduceEq,Int.reduceLT,Int.reduceLE,reduceCtorEq,ba]
 unfold AZ
 apply T.eq
 simp only[aZ,Int.reduceEq,Int.reduceLT,Int.reduceLE,reduceCtorEq,bn dV]
def fZ(d:Int):Int:=fo (-8) (if d < 8 then d else 8)
theorem aip(d:Int):(0 < d->0 < fZ d/\fZ d<=d/\(fZ d=d\/fZ d=8)/\fZ d<=8)/\(d < 0->fZ d < 0/\d<=fZ d/\(fZ d=d\/fZ d=-8)/\-8<=fZ d):=by
 unfold fZ fo
 split<;>split<;>omega
def tD(b first last q:Int):Int:=fo (fo (fo (-4) (-4 - b)) (last - 40)) (ic (ic (ic 4 (4 - b)) (first - 1)) q)
theorem aiq{b first last q:Int} (ae:-8<=b/\b<=8) (az:1<=first/\1<=first+b) (ah:last<=40/\last+b<=40) (di:first<=last):(-4<=tD b first last q/\tD b first last q<=4)/\(-4<=tD b first last q+b/\tD b first last q+b<=4)/\1<=first - tD b first last q/\last - tD b first last q<=40:=by
 have ak:∀ x y:Int,(fo x y=x/\y<=x)\/(fo x y=y/\x<=y):=fun x y=>by
  unfold fo
  split<;>omega
 have aV:∀ x y:Int,(ic x y=x/\x<=y)\/(ic x y=y/\y<=x):=fun x y=>by
  unfold ic
  split<;>omega
 unfold tD;have J:=ak (-4) (-4 - b);have U:=ak (fo (-4) (-4 - b)) (last - 40);have ag:=aV 4 (4 - b);have aq:=aV (ic 4 (4 - b)) (first - 1);have aE:=aV (ic (ic 4 (4 - b)) (first - 1)) q;have bb:=ak (fo (fo (-4) (-4 - b)) (last - 40)) (ic (ic (ic 4 (4 - b)) (first - 1)) q);omega
theorem air{N:Nat} (a6:5000 < N) {d q:Int} {A:List Int} (aj:A.length<=100) (aw:∀ a∈A,0<=a/\a<=1000):K9 N d A N ((0:Int),A,q)=some (A.map fun a=>a+fZ d,q):=by
 have ae:-8<=fZ d/\fZ d<=8:=by
  unfold fZ fo
  split<;>split<;>omega
 unfold K9;refine e3 (fun k s=>∃ i:Nat,i+k=A.length/\s=((i:Int),(A.take i).map (fun a=>a+fZ d)++A.drop i,q)) _ ?_ N A.length _ (by omega) ⟨0,by omega,by simp⟩;rintro k s rec ⟨i,hi,rfl⟩ bO
 apply T.eq
 by_cases aW:i < A.length
 ·obtain⟨x,ak⟩:∃ x,A[i]?=some x:=⟨_,List.getElem?_eq_getElem aW⟩
  have ba:(i:Int) < (A.length:Int):=by omega
  have E1:=aw x (List.mem_of_getElem? ak);have xX:((A.take i).map (fun a=>a+fZ d)).length=i:=by rw[List.length_map,List.length_take]; omega
  have hlen:((A.take i).map (fun a=>a+fZ d)++A.drop i).length=A.length:=by rw[List.length_append,xX,List.length_drop]; omega
  have aQ:((A.take i).map (fun a=>a+fZ d)++A.drop i).getD i 0=x:=cb (by rw[List.getElem?_append_right (by omega),xX,Nat.sub_self,ti ak]; rfl);have ha:((A.take i).map (fun a=>a+fZ d)++A.drop i).set i (x+fZ d)=(A.take (i+1)).map (fun a=>a+fZ d)++A.drop (i+1):=by
   rw[List.set_append_right _ _ (by omega),xX,Nat.sub_self,ti ak,qG ak,List.map_append,List.append_assoc]
   rfl
  have this:T (rec ((i:Int)+1,(A.take (i+1)).map (fun a=>a+fZ d)++A.drop (i+1),q)) (·=(A.map (fun a=>a+fZ d),q)):=⟨_,bO (k - 1) _ (by omega) ⟨i+1,by omega,rfl⟩,rfl⟩
  have LI:fo (-8:Int) (if d < (8:Int)then d else(8:Int))=fZ d:=rfl;simp only[aZ,Int.reduceEq,Int.reduceLT,Int.reduceLE,reduceCtorEq,LI,ba,hlen,aQ,ha]
  and_intros<;>first | omega | (simp only[bB]; omega) | exact this | trivial
 ·have ba:¬ (i:Int) < (A.length:Int):=by omega
  have he:(A.take i).map (fun a=>a+fZ d)++A.drop i=A.map (fun a=>a+fZ d):=by
   rw[List.take_of_length_le (by omega),List.drop_eq_nil_of_le (by omega),List.append_nil]
  simp only[aZ,Int.reduceEq,Int.reduceLT,Int.reduceLE,reduceCtorEq,ba,he]
theorem SR{N:Nat} (a6:5000 < N) {cG} (fB:iP N=some cG) {t:List (List bu)} {ys:List bJ} (aL:ys.length=6) (fI:∀ Y∈ys,Y.1=false) {fz:gP} {A:List Int} (xV:A.length<=8) {d:Int} (ax:d≠0) {F:Int->List ad} (bL:pU A d F) {q:Int} (ar:-4<=q/\q<=4) {ops:List cl} (qR:ops.length<=10000) (dT:eY N cG ops fz (FS t ys q F)) :
  T (nC N A d q ops) fun o=>(-4<=o.1/\o.1<=4)/\o.2.length<=ops.length+90/\eY N cG o.2 fz (FS t ys o.1 (jC A d F)):=by
 have cr:=bL.ne;have kU:EH N A=some A:=by
  have:=List.length_pos_iff.2 cr
  unfold EH
  apply T.eq
  simp only[aZ,Int.reduceEq,Int.reduceLT,Int.reduceLE,reduceCtorEq,List.nil_append,List.length_nil]
  and_intros<;>first | omega | (simp only[bB]; omega) | exact this | trivial
 have ais:d.natAbs<=39:=by
  obtain⟨a,aX⟩:=List.exists_mem_of_ne_nil A cr
  have:=bL.fv a aX
  omega
 have dV:T (La N N (d,A,q,ops)) fun o=>(-4<=o.1/\o.1<=4)/\o.2.length<=ops.length+90/\eY N cG o.2 fz (FS t ys o.1 (jC A d F)):=by
  unfold La;refine kH (fun k s=>∃ (c5:Int) (bP:List Int) (hv:Int) (h2:List cl) (vI:Int->List ad),c5.natAbs=k/\k<=39/\s=(c5,bP,hv,h2)/\(-4<=hv/\hv<=4)/\bP.length<=8/\h2.length+18 * ((k+7) / 8)<=ops.length+90/\eY N cG h2 fz (FS t ys hv vI)/\((c5≠0/\pU bP c5 vI/\jC bP c5 vI=jC A d F)\/(c5=0/\vI=jC A d F))) _ ?_ N d.natAbs _ (by omega) ⟨d,A,q,ops,F,rfl,ais,rfl,ar,xV,by omega,dT,Or.inl ⟨ax,bL,rfl⟩⟩;rintro k s rec ⟨c5,bP,hv,h2,vI,ab,akI,rfl,jf,ait,E3,vJ,rq⟩ bO
  rcases rq with⟨oB,tE,bR⟩ | ⟨rfl,rfl⟩
  ·have jH:=List.length_pos_iff.2 tE.ne
   obtain⟨x,ak⟩:∃ x,bP[0]?=some x:=⟨_,List.getElem?_eq_getElem jH⟩
   obtain⟨z,bG⟩:∃ z,bP[bP.length - 1]?=some z:=⟨_,List.getElem?_eq_getElem (by omega)⟩
   have SS:=List.mem_of_getElem? ak;have aiu:=List.mem_of_getElem? bG;have SU:∀ a∈bP,x<=a/\a<=z:=by
    intro a aX;obtain⟨i,hi⟩:=List.mem_iff_getElem?.1 aX;have SV:=(List.getElem?_eq_some_iff.1 hi).1;have ao:=List.pairwise_iff_getElem.1 tE.gx;rw[<- (List.getElem?_eq_some_iff.1 hi).2,<- (List.getElem?_eq_some_iff.1 ak).2,<- (List.getElem?_eq_some_iff.1 bG).2];constructor
    ·by_cases aN:i=0
     ·subst aN; exact Int.le_refl _
     ·exact Int.le_of_lt (ao 0 i jH SV (by omega))
    ·by_cases aN:i=bP.length - 1
     ·subst aN; exact Int.le_refl _
     ·exact Int.le_of_lt (ao i (bP.length - 1) SV (by omega) (by omega))
   have kt:=tE.fv x SS;have akJ:=tE.fv z aiu;have jU:=aip c5;have SW:(0 < fZ c5/\fZ c5<=c5)\/(fZ c5 < 0/\c5<=fZ c5):=by
    rcases Int.lt_or_gt_of_ne oB with h | h
    ·exact Or.inr ⟨(jU.2 h).1,(jU.2 h).2.1⟩
    ·exact Or.inl ⟨(jU.1 h).1,(jU.1 h).2.1⟩
   have SX:-8<=fZ c5/\fZ c5<=8:=by
    rcases Int.lt_or_gt_of_ne oB with h | h
    ·have:=jU.2 h; omega
    ·have:=jU.1 h; omega
   have kM:fZ c5=c5\/fZ c5=8\/fZ c5=-8:=by
    rcases Int.lt_or_gt_of_ne oB with h | h
    ·have:=jU.2 h; omega
    ·have:=jU.1 h; omega
   have Bb:=aiq (b:=fZ c5) (first:=x) (last:=z) (q:=hv) SX (by omega) (by omega) ((SU x SS).2);obtain⟨B,cm⟩:∃ B,B=fZ c5:=⟨_,rfl⟩
   obtain⟨r,aw⟩:∃ r,r=tD B x z hv:=⟨_,rfl⟩
   have Bc:=tE.parts SW;have bX:=air a6 (d:=c5) (q:=r+B) (A:=bP) (by omega) (fun a aX=>by have:=tE.fv a aX; omega);rw[<- cm]at SW SX kM Bb Bc bX;rw[<- aw]at Bb;have dy:=fun(s:gP) (an:FS t ys hv vI s)=>aio a6 fB aL fI (t:=t) Bc.1 (by omega) jf Bb.1 Bb.2.1 (fun a aX=>by have:=SU a aX; omega) an
   have fS:=vJ.append fun s an=>dy s an
   have LI:fo (-8:Int) (if c5 < (8:Int)then c5 else(8:Int))=B:=cm.symm;have zW:fo (fo (fo (-4:Int) ((-4:Int) - B)) (z - (40:Int))) (ic (ic (ic (4:Int) ((4:Int) - B)) (x - (1:Int))) hv)=r:=aw.symm;have ay:((bP.length:Int) - 1).toNat=bP.length - 1:=by omega
   have t1:=LH (N:=N) r hv (ops:=h2) (by omega);obtain⟨aT,sh⟩:∃ aT,aT=h2++(if hv=r then [] else [pT r]):=⟨_,rfl⟩
   have akK:aT.length<=h2.length+1:=by
    rw[sh]
    split
    ·simp
    ·simp
   rw[<- sh]at t1;have t2:=SQ a6 0 0 r (by decide) (ops:=aT) (by omega) (A:=bP) (by omega) (fun a aX=>by have:=tE.fv a aX; omega);have o7:(bP.map fun a=>a - 0)=bP:=by simp
   rw[o7]at t2;have t3:=LH (N:=N) (r+B) r (ops:=aT++bP.map (mV 0)) (by rw[List.length_append,List.length_map]; omega);obtain⟨b7,p4⟩:∃ b7,b7=aT++bP.map (mV 0)++(if r=r+B then [] else [pT (r+B)]):=⟨_,rfl⟩
   have akL:b7.length<=h2.length+10:=by
    rw[p4]
    split
    ·simp only[List.length_append,List.length_map,List.length_nil]; omega
    ·simp only[List.length_append,List.length_map,List.length_singleton]; omega
   rw[<- p4]at t3;have t4:=SQ a6 1 r (r+B) (by omega) (ops:=b7) (by omega) (A:=bP) (by omega) (fun a aX=>by have:=tE.fv a aX; omega);have SY:b7++(bP.map fun a=>a - r).map (mV 1)=h2++vG bP hv r B:=by
    rw[p4,sh];unfold vG;simp only[List.append_assoc]
   rw[SY]at t4;have xf:(h2++vG bP hv r B).length<=h2.length+18:=by
    rw[<- SY,List.length_append,List.length_map,List.length_map];omega
   have gN:¬ c5=0:=oB;have pV:T (rec (c5 - B,bP.map (fun a=>a+B),r+B,h2++vG bP hv r B)) fun o=>(-4<=o.1/\o.1<=4)/\o.2.length<=ops.length+90/\eY N cG o.2 fz (FS t ys o.1 (jC A d F)):=by
    refine bO (c5 - B).natAbs _ (by omega) ⟨c5 - B,bP.map (fun a=>a+B),r+B,h2++vG bP hv r B,jC bP B vI,rfl,by omega,rfl,Bb.2.1,by rw[List.length_map]; exact ait,by omega,fS,?_⟩
    by_cases A8:B=c5
    ·refine Or.inr ⟨by omega,?_⟩
     rw[A8];exact bR
    ·have U:=Bc.2 A8
     exact Or.inl ⟨by omega,U.1,U.2.trans bR⟩
   simp only[aZ,Int.reduceEq,Int.reduceLT,Int.reduceLE,reduceCtorEq,LI,gN,ay,cb ak,cb bG,zW,bn t1,bn t2,bn t3,bn t4,bn bX,Int.toNat_zero]
   and_intros<;>first | omega | (simp only[bB]; omega) | exact this | trivial
   all_goals first | exact pV | omega
  ·simp only[aZ,Int.reduceEq,Int.reduceLT,Int.reduceLE,reduceCtorEq]
   exact⟨jf,by omega,vJ⟩
 unfold nC;simp only[aZ,Int.reduceEq,Int.reduceLT,Int.reduceLE,reduceCtorEq,bn kU];exact dV.mono fun o bg=>bg
end
section
open Go.RowKit
def ds:Nat->(Nat->Int)->(Nat->List ad)->Int->List ad
 | 0,_,_,_=>[]
 | n+1,pos,S,k=>ds n pos S k++(if pos n=k then S n else [])
theorem aiv{n:Nat} {pos pos':Nat->Int} (S:Nat->List ad) (h:∀ j,j < n->pos j=pos' j):ds n pos S=ds n pos' S:=by
 induction n with
 | zero=>rfl
 | succ n br=>
  funext k
  show ds n pos S k++_=ds n pos' S k++_;rw[br fun j aH=>h j (by omega),h n (by omega)]
theorem vK{n:Nat} {pos:Nat->Int} {S:Nat->List ad} {k:Int} (h:∀ j,j < n->pos j≠k):ds n pos S k=[]:=by
 induction n with
 | zero=>rfl
 | succ n br=>
  show ds n pos S k++_=[]
  rw[br fun j aH=>h j (by omega),if_neg (h n (by omega))]
  rfl
theorem E4{n:Nat} {pos:Nat->Int} {S:Nat->List ad} {j:Nat} (aH:j < n) (aI:S j≠[]):ds n pos S (pos j)≠[]:=by
 induction n with
 | zero=>omega
 | succ n br=>
  show ds n pos S (pos j)++_≠[]
  by_cases e:j=n
  ·subst e
   rw[if_pos rfl];intro h;exact aI (List.append_eq_nil_iff.1 h).2
  ·intro h
   exact br (by omega) (List.append_eq_nil_iff.1 h).1
theorem SZ{n:Nat} {pos:Nat->Int} (S:Nat->List ad) {A:List Int} {d:Int} (ax:d≠0) (hm:∀ i j,i<=j->j < n->pos i<=pos j) (aa:d < 0->∀ i j,i < n->j < n->pos i∈A->pos j=pos i+d->pos j∈A) :
  jC A d (ds n pos S)=ds n (fun j=>if pos j∈A then pos j+d else pos j) S:=by
 induction n with
 | zero=>
  funext k
  show(if k - d∈A then [] else [])++(if k∈A then [] else [])=[]
  split<;>split<;>rfl
 | succ n br=>
  have br:=br (fun i j J U=>hm i j J (by omega)) (fun h i j J U=>aa h i j (by omega) (by omega))
  funext k
  have aiw:=congrFun br k;show(if k - d∈A then ds n pos S (k - d)++(if pos n=k - d then S n else [])else [])++(if k∈A then [] else ds n pos S k++(if pos n=k then S n else []))=ds n (fun j=>if pos j∈A then pos j+d else pos j) S k++(if (if pos n∈A then pos n+d else pos n)=k then S n else [])
  rw[<- aiw];show _=((if k - d∈A then ds n pos S (k - d)else [])++(if k∈A then [] else ds n pos S k))++_
  by_cases aj:pos n∈A
  ·rw[if_pos aj]
   by_cases ab:pos n+d=k
   ·have ay:pos n=k - d:=by omega
    have aS:¬ pos n=k:=by omega
    have dJ:k - d∈A:=by rw[<- ay]; exact aj
    rw[if_pos ab,if_pos dJ,if_pos ay,if_neg aS,if_pos dJ,List.append_nil];have aN:(if k∈A then [] else ds n pos S k)=[]:=by
     by_cases lH:k∈A
     ·rw[if_pos lH]
     ·rw[if_neg lH]
      refine vK fun j aH e=>?_
      rcases Int.lt_or_gt_of_ne ax with h | h
      ·exact lH (by have:=aa h n j (by omega) (by omega) aj (by omega); rw[e]at this; exact this)
      ·have:=hm j n (by omega) (by omega)
       omega
    rw[aN,List.append_nil,List.append_nil]
   ·have ay:¬ pos n=k - d:=by omega
    rw[if_neg ab,if_neg ay,List.append_nil,List.append_nil]
    by_cases dJ:k∈A
    ·rw[if_pos dJ,if_pos dJ]
    ·have aS:¬ pos n=k:=fun e=>dJ (e ▸ aj)
     rw[if_neg dJ,if_neg dJ,if_neg aS,List.append_nil]
  ·rw[if_neg aj]
   by_cases ab:pos n=k
   ·have dJ:k ∉ A:=by rw[<- ab]; exact aj
    have ay:¬ pos n=k - d:=by omega
    rw[if_pos ab,if_neg dJ,if_neg dJ,if_neg ay,List.append_nil,List.append_assoc]
   ·rw[if_neg ab,List.append_nil,List.append_nil]
    by_cases Bd:k - d∈A
    ·have ay:¬ pos n=k - d:=fun e=>aj (e ▸ Bd)
     rw[if_pos Bd,if_pos Bd,if_neg ay,List.append_nil]
    ·rw[if_neg Bd,if_neg Bd]
theorem aix{n:Nat} {pos to:Nat->Int} {S:Nat->List ad} {a b K:Int} (jx:a≠b) (aX:∀ j,j < n->pos j=a->to j=K) (ae:∀ j,j < n->pos j=b->to j=K):(ds n pos S a).length+(ds n pos S b).length<=(ds n to S K).length:=by
 induction n with
 | zero=>exact Nat.le_refl _
 | succ n br=>
  have br:=br (fun j h=>aX j (by omega)) (fun j h=>ae j (by omega));show(ds n pos S a++_).length+(ds n pos S b++_).length<=(ds n to S K++_).length;simp only[List.length_append]
  by_cases J:pos n=a
  ·have U:¬ pos n=b:=fun e=>jx (J.symm.trans e)
   rw[if_pos J,if_neg U,if_pos (aX n (by omega) J),List.length_nil];omega
  ·rw[if_neg J,List.length_nil]
   by_cases U:pos n=b
   ·rw[if_pos U,if_pos (ae n (by omega) U)]
    omega
   ·rw[if_neg U,List.length_nil]
    omega
def LJ:Nat->(Nat->List ad)->List ad
 | 0,_=>[]
 | n+1,S=>LJ n S++S n
theorem aiy{f:Nat->List ad} {p:Nat} (s:List ad) (az:∀ k,p < k->f k=[]):∀ m,p < m->(List.range m).flatMap (fun k=>f k++if k=p then s else [])=(List.range m).flatMap f++s:=by
 intro m
 induction m with
 | zero=>intro h; omega
 | succ m br=>
  intro h;rw[List.range_succ,List.flatMap_append,List.flatMap_append,List.flatMap_singleton,List.flatMap_singleton]
  by_cases e:m=p
  ·subst e
   rw[if_pos rfl]
   have:(List.range m).flatMap (fun k=>f k++if k=m then s else [])=(List.range m).flatMap f:=by
    have aa:∀ k∈List.range m,(f k++if k=m then s else [])=f k:=fun k ab=>by
     rw[List.mem_range]at ab;rw[if_neg (by omega),List.append_nil]
    rw[List.flatMap_def,List.flatMap_def,List.map_congr_left aa]
   rw[this,List.append_assoc]
  ·rw[br (by omega),az m (by omega),if_neg e]
   simp
theorem S0{n:Nat} {pos:Nat->Int} (S:Nat->List ad) (hm:∀ i j,i<=j->j < n->pos i<=pos j) (aw:∀ j,j < n->1<=pos j/\pos j<=40):(List.range 40).flatMap (fun k:Nat=>ds n pos S ((k:Int)+1))=LJ n S:=by
 induction n with
 | zero=>
  show(List.range 40).flatMap (fun _=>[])=[]
  simp
 | succ n br=>
  have br:=br (fun i j J U=>hm i j J (by omega)) (fun j h=>aw j (by omega));have akM:=aw n (by omega);show(List.range 40).flatMap (fun k:Nat=>ds n pos S ((k:Int)+1)++(if pos n=(k:Int)+1 then S n else []))=LJ n S++S n;have e:(fun k:Nat=>ds n pos S ((k:Int)+1)++(if pos n=(k:Int)+1 then S n else []))=fun k:Nat=>ds n pos S ((k:Int)+1)++(if k=(pos n - 1).toNat then S n else []):=by
   funext k
   by_cases ab:k=(pos n - 1).toNat
   ·rw[if_pos ab,if_pos (by omega)]
   ·rw[if_neg ab,if_neg (by omega)]
  rw[e,aiy (f:=fun k:Nat=>ds n pos S ((k:Int)+1)) (S n) (fun k ab=>vK fun j aH he=>by have:=hm j n (by omega) (by omega); omega) 40 (by omega),br]
theorem S1{f:List (List ad)} (az:f.length<=40):f.flatten=(List.range 40).flatMap (fun k:Nat=>cO f ((k:Int)+1)):=by
 have J:∀ m,m<=40->(List.range m).flatMap (fun k:Nat=>cO f ((k:Int)+1))=(f.take m).flatten:=by
  intro m
  induction m with
  | zero=>intro _; simp
  | succ m br=>
   intro hm;rw[List.range_succ,List.flatMap_append,List.flatMap_singleton,br (by omega)];have e:cO f ((m:Int)+1)=f.getD m []:=by
    have:=mT (f:=f) (a:=m+1) (by omega) hm
    exact this
   rw[e]
   by_cases ah:m < f.length
   ·obtain⟨x,ak⟩:∃ x,f[m]?=some x:=⟨_,List.getElem?_eq_getElem ah⟩
    rw[Ry ak,cb ak]
   ·rw[List.take_of_length_le (by omega),List.take_of_length_le (by omega),List.getD_eq_getElem?_getD,List.getElem?_eq_none (by omega)]
    simp
 rw[J 40 (Nat.le_refl _),List.take_of_length_le az]
theorem eY.ex{N:Nat} {cG:List (Int×Option Nat)} {Q:gP->Prop}:∀ {l:List cl} {s:gP},eY N cG l s Q->∃ ej,Q ej
 | [],s,h=>⟨s,h⟩
 | o :: l,s,h=>by
  obtain⟨q,_,_,U⟩:=h;exact U.ex
theorem FS.four{t:List (List bu)} {ys:List bJ} {q:Int} {F:Int->List ad} {s:gP} (h:FS t ys q F s) (k:Int):(F k).length<=4:=by
 obtain⟨f,rfl,aI,hy⟩:=h;rw[<- hy];exact(aI.four k).1
end
section
open Go.RowKit
structure xY(n M:Nat) (to goal cur pos:Nat->Int):Prop where
 vL:∀ a,a < n->∃ m,m < M/\pos a=cur m/\to a=goal m
 src:∀ m,m < M->∃ a,a < n/\pos a=cur m/\to a=goal m
def ig(M:Nat) (c:Nat->Int):Prop:=∀ m ca,m < ca->ca < M->c m < c ca
theorem ig.le{M:Nat} {c:Nat->Int} (h:ig M c) {m ca:Nat} (J:m<=ca) (U:ca < M):c m<=c ca:=by
 by_cases e:m=ca
 ·rw[e]; exact Int.le_refl _
 ·exact Int.le_of_lt (h m ca (by omega) U)
theorem ig.inj{M:Nat} {c:Nat->Int} (h:ig M c) {m ca:Nat} (J:m < M) (U:ca < M) (e:c m=c ca):m=ca:=by
 rcases Nat.lt_trichotomy m ca with ag | ag | ag
 ·have:=h m ca ag U; omega
 ·exact ag
 ·have:=h ca m ag J; omega
theorem ig.back{M:Nat} {c:Nat->Int} (h:ig M c) {m ca:Nat} (J:m < M) (U:ca < M) (e:c m<=c ca):m<=ca:=by
 by_cases ag:m<=ca
 ·exact ag
 ·have:=h ca m (by omega) J; omega
theorem xY.mono{n M:Nat} {to goal cur pos:Nat->Int} (h:xY n M to goal cur pos) (oQ:∀ i j,i<=j->j < n->to i<=to j) (aQ:ig M goal) (aa:ig M cur):∀ i j,i<=j->j < n->pos i<=pos j:=by
 intro i j kQ aH;obtain⟨m,hm,ay,aS⟩:=h.vL i (by omega);obtain⟨ca,e9,cz,hh⟩:=h.vL j aH
 have:=oQ i j kQ aH
 rw[aS,hh]at this;rw[ay,cz];exact aa.le (aQ.back hm e9 this) e9
theorem aiz{n M:Nat} {to goal cur cur' pos:Nat->Int} {S:Nat->List ad} (iC:xY n M to goal cur pos) (oQ:∀ i j,i<=j->j < n->to i<=to j) (aQ:ig M goal) (aa:ig M cur) (dE:ig M cur') {i e:Nat} (xZ:i < e) (S2:e<=M) {d:Int} (ax:d≠0) (om:∀ m,m < M->cur' m=if i<=m/\m < e then cur m+d else cur m) (aw:∀ m,m < M->1<=cur m/\cur m<=40) (iy:∀ m,m < M->1<=cur' m/\cur' m<=40)
  (aI:∀ j,j < n->S j≠[]) (aq:∀ k,(ds n pos S k).length<=4) {A:List Int} (aj:A.Pairwise (· < ·)) (vM:∀ x,x∈A ↔∃m,i<=m/\m < e/\x=cur m) :
  pU A d (ds n pos S)/\∃ pos',jC A d (ds n pos S)=ds n pos' S/\xY n M to goal cur' pos':=by
 have gg:∀ m,i<=m->m < e->cur m∈A:=fun m J U=>(vM _).2 ⟨m,J,U,rfl⟩
 have lq:∀ m,i<=m->m < e->∀ k,(cur m<=k/\k<=cur m+d)\/(cur m+d<=k/\k<=cur m)->k∈A\/ds n pos S k=[]:=by
  intro m J U k ab
  by_cases dJ:k∈A
  ·exact Or.inl dJ
  ·refine Or.inr (vK fun j aH o0=>?_)
   obtain⟨ca,e9,ay,_⟩:=iC.vL j aH;have hS:k=cur ca:=by rw[<- o0,ay]
   have fI:¬ (i<=ca/\ca < e):=fun h=>dJ (by rw[hS]; exact gg ca h.1 h.2)
   have db:=om m (by omega);have eB:=om ca e9;rw[if_pos ⟨J,U⟩]at db;rw[if_neg fI]at eB
   by_cases aW:ca < m
   ·have a1:=aa ca m aW (by omega)
    have a2:=dE ca m aW (by omega);omega
   ·have cr:m≠ca:=fun gA=>fI (by omega)
    have a1:=aa m ca (by omega) e9;have a2:=dE m ca (by omega) e9;omega
 have xQ:∀ m,i<=m->m < e->1<=cur m+d/\cur m+d<=40:=fun m J U=>by
  have:=om m (by omega)
  rw[if_pos ⟨J,U⟩]at this;rw[<- this];exact iy m (by omega)
 refine⟨⟨aj,?_,fun a _=>aq a,?_,?_,?_⟩,_,SZ S ax (iC.mono oQ aQ aa) ?_,?_,?_⟩
 ·intro gA
  have:=gg i (Nat.le_refl _) xZ
  rw[gA]at this;cases this
 ·intro a aX
  obtain⟨m,J,U,rfl⟩:=(vM a).1 aX;obtain⟨j,aH,o0,_⟩:=iC.src m (by omega);refine⟨aw m (by omega),xQ m J U,?_⟩;rw[<- o0];exact E4 aH (aI j aH)
 ·intro a aX k ab
  obtain⟨m,J,U,rfl⟩:=(vM a).1 aX;exact lq m J U k (by omega)
 ·intro a aX
  obtain⟨m,J,U,rfl⟩:=(vM a).1 aX
  rcases lq m J U (cur m+d) (by omega)with h | h
  ·exact Or.inl h
  ·refine Or.inr ?_
   rw[h];exact aq _
 ·intro _ j iV aH kN aiA o0
  obtain⟨m,J,U,ay⟩:=(vM _).1 aiA
  rcases lq m J U (cur m+d) (by omega)with h | h
  ·rw[o0,ay]
   exact h
  ·have:=E4 (pos:=pos) kN (aI iV kN)
   rw[o0,ay]at this;exact absurd h this
 ·intro a aX
  obtain⟨m,hm,ay,aS⟩:=iC.vL a aX;refine⟨m,hm,?_,aS⟩;rw[om m hm,ay]
  by_cases hg:i<=m/\m < e
  ·rw[if_pos (gg m hg.1 hg.2),if_pos hg]
  ·rw[if_neg (fun h=>by obtain⟨ca,J,U,ag⟩:=(vM _).1 h; have:=aa.inj hm (by omega) ag; exact hg (by omega)),if_neg hg]
 ·intro m hm
  obtain⟨a,aX,ay,aS⟩:=iC.src m hm;refine⟨a,aX,?_,aS⟩;rw[om m hm,ay]
  by_cases hg:i<=m/\m < e
  ·rw[if_pos (gg m hg.1 hg.2),if_pos hg]
  ·rw[if_neg (fun h=>by obtain⟨ca,J,U,ag⟩:=(vM _).1 h; have:=aa.inj hm (by omega) ag; exact hg (by omega)),if_neg hg]
structure pW(n:Nat) (a0 a1:List Int) (S:Nat->List ad):Prop where
 vN:n<=8
 uq:a0.length=n
 Be:a1.length=n
 gx:ig n (fun j=>a0.getD j 0)
 fv:∀ j,j < n->1<=a0.getD j 0/\a0.getD j 0<=40
 mono:∀ i j,i<=j->j < n->a1.getD i 0<=a1.getD j 0
 Bf:∀ j,j < n->1<=a1.getD j 0/\a1.getD j 0<=40
 ne:∀ j,j < n->S j≠[]
 x0:∀ k,(ds n (fun j=>a1.getD j 0) S k).length<=4
theorem E5{l:List Int} {i:Nat} (h:i < l.length):l[i]?=some (l.getD i 0):=by
 rw[List.getD_eq_getElem?_getD,List.getElem?_eq_getElem h]
 rfl
theorem aiB{N:Nat} (a6:5000 < N) {n:Nat} {a0 a1:List Int} {S:Nat->List ad} (h:pW n a0 a1 S):AY N a0=some 0:=by
 have tF:=h.vN;have nn:=h.uq;have dV:K6 N a0 N (0:Int)=some (.inl ()):=by
  unfold K6;refine e3 (fun k d=>∃ i:Nat,i+k=n/\d=(i:Int)) _ ?_ N n _ (by omega) ⟨0,by omega,rfl⟩;rintro k d rec ⟨i,hi,rfl⟩ bO
  apply T.eq
  by_cases aW:i < n
  ·have ba:(i:Int) < (a0.length:Int):=by omega
   have aw:=h.fv i aW;have this:T (rec ((i:Int)+1)) (·=.inl ()):=⟨_,bO (k - 1) _ (by omega) ⟨i+1,by omega,rfl⟩,rfl⟩
   have J:¬ a0.getD i 0 < 1:=by omega
   have U:¬ 40 < a0.getD i 0:=by omega
   by_cases aN:i=0
   ·subst aN
    have LK:¬ (0:Int) < 0:=by omega
    rw[Int.natCast_zero]at ba;simp only[aZ,Int.reduceEq,Int.reduceLT,Int.reduceLE,reduceCtorEq,ba,J,U,Int.toNat_zero,Int.natCast_zero,LK]
    and_intros<;>first | omega | (simp only[bB]; omega) | exact this | trivial
   ·have jH:(0:Int) < (i:Int):=by omega
    have ay:((i:Int) - 1).toNat=i - 1:=by omega
    have ag:¬ a0.getD i 0<=a0.getD (i - 1) 0:=by
     have:=h.gx (i - 1) i (by omega) aW
     dsimp only at this;omega
    simp only[aZ,Int.reduceEq,Int.reduceLT,Int.reduceLE,reduceCtorEq,ba,J,U,jH,ay,ag]
    and_intros<;>first | omega | (simp only[bB]; omega) | exact this | trivial
  ·have ba:¬ (i:Int) < (a0.length:Int):=by omega
   simp only[aZ,Int.reduceEq,Int.reduceLT,Int.reduceLE,reduceCtorEq,ba]
 unfold AY
 apply T.eq
 simp only[aZ,Int.reduceEq,Int.reduceLT,Int.reduceLE,reduceCtorEq,bn dV]
theorem aiC{N:Nat} (a6:5000 < N) {n:Nat} {a0 a1:List Int} {S:Nat->List ad} (h:pW n a0 a1 S):EJ N a1 N (0:Int)=some (.inl ()):=by
 have tF:=h.vN;have xX:=h.Be;unfold EJ;refine e3 (fun k d=>∃ i:Nat,i+k=n/\d=(i:Int)) _ ?_ N n _ (by omega) ⟨0,by omega,rfl⟩;rintro k d rec ⟨i,hi,rfl⟩ bO
 apply T.eq
 by_cases aW:i < n
 ·have ba:(i:Int) < (a1.length:Int):=by omega
  have aw:=h.Bf i aW;have this:T (rec ((i:Int)+1)) (·=.inl ()):=⟨_,bO (k - 1) _ (by omega) ⟨i+1,by omega,rfl⟩,rfl⟩
  have J:¬ a1.getD i 0 < 1:=by omega
  have U:¬ 40 < a1.getD i 0:=by omega
  by_cases aN:i=0
  ·subst aN
   have LK:¬ (0:Int) < 0:=by omega
   rw[Int.natCast_zero]at ba;simp only[aZ,Int.reduceEq,Int.reduceLT,Int.reduceLE,reduceCtorEq,ba,J,U,Int.toNat_zero,Int.natCast_zero,LK]
   and_intros<;>first | omega | (simp only[bB]; omega) | exact this | trivial
  ·have jH:(0:Int) < (i:Int):=by omega
   have ay:((i:Int) - 1).toNat=i - 1:=by omega
   have ag:¬ a1.getD i 0 < a1.getD (i - 1) 0:=by
    have:=h.mono (i - 1) i (by omega) aW
    omega
   simp only[aZ,Int.reduceEq,Int.reduceLT,Int.reduceLE,reduceCtorEq,ba,J,U,jH,ay,ag]
   and_intros<;>first | omega | (simp only[bB]; omega) | exact this | trivial
 ·have ba:¬ (i:Int) < (a1.length:Int):=by omega
  simp only[aZ,Int.reduceEq,Int.reduceLT,Int.reduceLE,reduceCtorEq,ba]
end
section
open Go.RowKit
structure pX(n:Nat) (a0 a1:List Int) (i:Nat) (at' cu:List Int) (pos:Nat->Int):Prop where
 qS:at'.length<=i
 lb:cu.length=at'.length
 mono:∀ a b,a<=b->b < n->pos a<=pos b
 x1:∀ j,i<=j->j < n->pos j=a0.getD j 0
 cur:∀ j,j < i->i < n->a1.getD j 0=a1.getD i 0->pos j=a0.getD i 0
 done:∀ j,j < i->(i < n->a1.getD j 0≠a1.getD i 0)->∃ m,m < at'.length/\pos j=at'.getD m 0/\a1.getD j 0=at'.getD m 0+cu.getD m 0
 gx:ig at'.length (fun m=>at'.getD m 0)
 sc:ig at'.length (fun m=>at'.getD m 0+cu.getD m 0)
 src:∀ m,m < at'.length->∃ j,j < i/\pos j=at'.getD m 0/\a1.getD j 0=at'.getD m 0+cu.getD m 0/\(i < n->a1.getD j 0≠a1.getD i 0)
 lo:i < n->∀ m,m < at'.length->at'.getD m 0 < a0.getD i 0
theorem sd{l:List Int} {x:Int} {m:Nat}:(m < l.length->(l++[x]).getD m 0=l.getD m 0)/\(m=l.length->(l++[x]).getD m 0=x):=by
 constructor
 ·intro h
  rw[List.getD_eq_getElem?_getD,List.getElem?_append_left h,<- List.getD_eq_getElem?_getD]
 ·rintro rfl
  rw[List.getD_eq_getElem?_getD,List.getElem?_append_right (Nat.le_refl _),Nat.sub_self]
  rfl
theorem pX.join{n:Nat} {a0 a1:List Int} {S:Nat->List ad} (h:pW n a0 a1 S) {i:Nat} (hi:i+1 < n) (he:a1.getD i 0=a1.getD (i+1) 0) {at' cu:List Int} {pos:Nat->Int} (du:pX n a0 a1 i at' cu pos) (aq:∀ k,(ds n pos S k).length<=4) :
  pU [a0.getD i 0] (a0.getD (i+1) 0 - a0.getD i 0) (ds n pos S)/\∃ pos',jC [a0.getD i 0] (a0.getD (i+1) 0 - a0.getD i 0) (ds n pos S)=ds n pos' S/\pX n a0 a1 (i+1) at' cu pos':=by
 have LL:=h.gx i (i+1) (by omega) hi;dsimp only at LL;have x2:=du.x1 i (Nat.le_refl _) (by omega);have aiD:=du.x1 (i+1) (by omega) hi;have vO:∀ j,i < j->j < n->a0.getD (i+1) 0<=pos j:=fun j aH ht=>by
  rw[<- aiD];exact du.mono (i+1) j (by omega) ht
 have hle:∀ j,j<=i->pos j<=a0.getD i 0:=fun j aH=>by
  rw[<- x2];exact du.mono j i aH (by omega)
 have LF:∀ j,j < n->pos j=a0.getD i 0->a1.getD j 0=a1.getD i 0:=by
  intro j aH o0
  by_cases e5:j < i
  ·by_cases a8:a1.getD j 0=a1.getD i 0
   ·exact a8
   ·obtain⟨m,hm,ay,_⟩:=du.done j e5 (fun _=>a8)
    have:=du.lo (by omega) m hm
    omega
  ·by_cases e:j=i
   ·rw[e]
   ·have:=vO j (by omega) aH
    omega
 have aiE:∀ j,j < n->pos j=a0.getD (i+1) 0->a1.getD j 0=a1.getD i 0:=by
  intro j aH o0
  by_cases e5:j<=i
  ·have:=hle j e5
   omega
  ·by_cases e:j=i+1
   ·rw[e,he]
   ·have J:=h.gx (i+1) j (by omega) aH
    have U:=du.x1 j (by omega) aH;dsimp only at J;omega
 have ax:a0.getD (i+1) 0 - a0.getD i 0≠0:=by omega
 have an:∀ x,x∈[a0.getD i 0] ↔ x=a0.getD i 0:=fun x=>List.mem_singleton
 have S3:=h.fv i (by omega);have aiF:=h.fv (i+1) hi;refine⟨⟨List.pairwise_singleton _ _,by simp,fun a _=>aq a,?_,?_,?_⟩,_,SZ S ax du.mono (fun LM=>by omega),?_⟩
 ·intro a aX
  rw[an]at aX;subst aX;refine⟨S3,by omega,?_⟩;rw[<- x2];exact E4 (by omega) (h.ne i (by omega))
 ·intro a aX k ab
  rw[an]at aX;subst aX
  by_cases e:k=a0.getD i 0
  ·exact Or.inl (by rw[an]; exact e)
  ·refine Or.inr (vK fun j aH o0=>?_)
   by_cases e5:j<=i
   ·have:=hle j e5
    omega
   ·have:=vO j (by omega) aH
    omega
 ·intro a aX
  rw[an]at aX;subst aX;refine Or.inr ?_;rw[show a0.getD i 0+(a0.getD (i+1) 0 - a0.getD i 0)=a0.getD (i+1) 0 by omega];have J:=aix (n:=n) (pos:=pos) (to:=fun j=>a1.getD j 0) (S:=S) (a:=a0.getD i 0) (b:=a0.getD (i+1) 0) (K:=a1.getD i 0) (by omega) LF aiE;have U:=h.x0 (a1.getD i 0);omega
 ·have B4:∀ j,(if pos j∈[a0.getD i 0] then pos j+(a0.getD (i+1) 0 - a0.getD i 0)else pos j)=if pos j=a0.getD i 0 then a0.getD (i+1) 0 else pos j:=fun j=>by
   by_cases e:pos j=a0.getD i 0
   ·rw[if_pos ((an _).2 e),if_pos e]
    omega
   ·rw[if_neg (fun cj=>e ((an _).1 cj)),if_neg e]
  have aiG:(fun j=>if pos j∈[a0.getD i 0] then pos j+(a0.getD (i+1) 0 - a0.getD i 0)else pos j)=fun j=>if pos j=a0.getD i 0 then a0.getD (i+1) 0 else pos j:=funext B4
  rw[aiG];refine⟨by have:=du.qS; omega,du.lb,?_,?_,?_,?_,du.gx,du.sc,?_,?_⟩
  ·intro a b jx ae
   have hm:=du.mono a b jx ae
   by_cases ay:pos a=a0.getD i 0
   ·rw[if_pos ay]
    by_cases aS:pos b=a0.getD i 0
    ·rw[if_pos aS]; exact Int.le_refl _
    ·rw[if_neg aS]
     by_cases rQ:b<=i
     ·have:=hle b rQ
      omega
     ·exact vO b (by omega) ae
   ·rw[if_neg ay]
    by_cases aS:pos b=a0.getD i 0
    ·rw[if_pos aS]
     omega
    ·rw[if_neg aS]
     exact hm
  ·intro j aH ht
   have:=vO j (by omega) ht
   rw[if_neg (by omega)];exact du.x1 j (by omega) ht
  ·intro j aH _ o0
   by_cases e:j=i
   ·rw[e,if_pos x2]
   ·rw[if_pos (du.cur j (by omega) (by omega) (by rw[o0,he]))]
  ·intro j aH cr
   have S4:a1.getD j 0≠a1.getD i 0:=by rw[he]; exact cr hi
   have e5:j≠i:=fun e=>S4 (by rw[e])
   obtain⟨m,hm,ay,aS⟩:=du.done j (by omega) (fun _=>S4);have ah:=du.lo (by omega) m hm;refine⟨m,hm,?_,aS⟩;rw[if_neg (by omega)];exact ay
  ·intro m hm
   obtain⟨j,aH,ay,aS,cz⟩:=du.src m hm;have ah:=du.lo (by omega) m hm;refine⟨j,by omega,?_,aS,fun _=>by rw[<- he]; exact cz (by omega)⟩;rw[if_neg (by omega)];exact ay
  ·intro _ m hm
   have:=du.lo (by omega) m hm
   omega
theorem pX.next{n:Nat} {a0 a1:List Int} {S:Nat->List ad} (h:pW n a0 a1 S) {i:Nat} (hi:i < n) (he:i+1 < n->a1.getD i 0≠a1.getD (i+1) 0) {at' cu:List Int} {pos:Nat->Int} (du:pX n a0 a1 i at' cu pos) :
  pX n a0 a1 (i+1) (at'++[a0.getD i 0]) (cu++[a1.getD i 0 - a0.getD i 0]) pos:=by
 have u7:=du.lb;have x2:=du.x1 i (Nat.le_refl _) hi;have iD:(at'++[a0.getD i 0]).length=at'.length+1:=by simp
 have qT:∀ m,m < at'.length->(at'++[a0.getD i 0]).getD m 0=at'.getD m 0:=fun m hm=>sd.1 hm
 have Bg:∀ m,m < at'.length->(cu++[a1.getD i 0 - a0.getD i 0]).getD m 0=cu.getD m 0:=fun m hm=>sd.1 (by omega)
 have x3:(at'++[a0.getD i 0]).getD at'.length 0=a0.getD i 0:=sd.2 rfl;have LN:(cu++[a1.getD i 0 - a0.getD i 0]).getD at'.length 0=a1.getD i 0 - a0.getD i 0:=sd.2 u7.symm;have tj:∀ m,m < at'.length->at'.getD m 0+cu.getD m 0 < a1.getD i 0:=by
  intro m hm;obtain⟨j,aH,ay,aS,cz⟩:=du.src m hm;have J:=h.mono j i (by omega) hi;have U:=cz hi;omega
 have AS:∀ j,j<=i->i+1 < n->a1.getD j 0 < a1.getD (i+1) 0:=by
  intro j aH aV;have J:=h.mono j i aH hi;have U:=h.mono i (i+1) (by omega) aV;have ag:=he aV;omega
 refine⟨by rw[iD]; have:=du.qS; omega,by rw[iD,List.length_append,u7]; rfl,du.mono,fun j aH ht=>du.x1 j (by omega) ht,?_,?_,?_,?_,?_,?_⟩
 ·intro j aH aV o0
  have:=AS j (by omega) aV
  omega
 ·intro j aH _
  rw[iD]
  by_cases e:j < i/\a1.getD j 0≠a1.getD i 0
  ·obtain⟨m,hm,ay,aS⟩:=du.done j e.1 (fun _=>e.2)
   exact⟨m,by omega,by rw[qT m hm]; exact ay,by rw[qT m hm,Bg m hm]; exact aS⟩
  ·have S5:pos j=a0.getD i 0/\a1.getD j 0=a1.getD i 0:=by
    by_cases e5:j < i
    ·by_cases fr:a1.getD j 0=a1.getD i 0
     ·exact⟨du.cur j e5 hi fr,fr⟩
     ·exact absurd ⟨e5,fr⟩ e
    ·have:j=i:=by omega
     subst this;exact⟨x2,rfl⟩
   exact⟨at'.length,by omega,by rw[x3]; exact S5.1,by rw[x3,LN,S5.2]; omega⟩
 ·intro m ca lK e9
  rw[iD]at e9;dsimp only
  by_cases e:ca < at'.length
  ·rw[qT m (by omega),qT ca e]
   exact du.gx m ca lK e
  ·rw[show ca=at'.length by omega,x3,qT m (by omega)]
   exact du.lo hi m (by omega)
 ·intro m ca lK e9
  rw[iD]at e9;dsimp only
  by_cases e:ca < at'.length
  ·rw[qT m (by omega),qT ca e,Bg m (by omega),Bg ca e]
   exact du.sc m ca lK e
  ·rw[show ca=at'.length by omega,x3,LN,qT m (by omega),Bg m (by omega)]
   have:=tj m (by omega)
   omega
 ·intro m hm
  rw[iD]at hm
  by_cases e:m < at'.length
  ·obtain⟨j,aH,ay,aS,cz⟩:=du.src m e
   rw[qT m e,Bg m e];exact⟨j,by omega,ay,aS,fun aV=>by have:=AS j (by omega) aV; omega⟩
  ·rw[show m=at'.length by omega,x3,LN]
   exact⟨i,by omega,x2,by omega,fun aV=>he aV⟩
 ·intro aV m hm
  have J:=h.gx i (i+1) (by omega) aV;dsimp only at J;rw[iD]at hm
  by_cases e:m < at'.length
  ·rw[qT m e]
   have:=du.lo hi m e
   omega
  ·rw[show m=at'.length by omega,x3]
   exact J
theorem aiH{N:Nat} (a6:5000 < N) {cG} (fB:iP N=some cG) {t:List (List bu)} {ys:List bJ} (aL:ys.length=6) (fI:∀ Y∈ys,Y.1=false) {n:Nat} {a0 a1:List Int} {S:Nat->List ad} (h:pW n a0 a1 S) {fz:gP} (km:FS t ys 0 (ds n (fun j=>a0.getD j 0) S) fz) :
  T (A1 N a0 a1 N ((0:Int),(0:Int),[],[],[])) fun o=>∃ pos,(-4<=o.1/\o.1<=4)/\o.2.2.2.length<=720/\eY N cG o.2.2.2 fz (FS t ys o.1 (ds n pos S))/\pX n a0 a1 n o.2.1 o.2.2.1 pos:=by
 have tF:=h.vN;have nn:=h.uq;have xX:=h.Be;unfold A1;refine kH (fun k d=>∃ (i:Nat) (q:Int) (at' cu:List Int) (ops:List cl) (pos:Nat->Int),i+k=n/\d=((i:Int),q,at',cu,ops)/\(-4<=q/\q<=4)/\ops.length<=90 * i/\eY N cG ops fz (FS t ys q (ds n pos S))/\pX n a0 a1 i at' cu pos) _ ?_ N n _ (by omega) ⟨0,0,[],[],[],fun j=>a0.getD j 0,by omega,rfl,by decide,by decide,km,⟨Nat.le_refl _,rfl,?_,fun j _ _=>rfl,fun j aH=>absurd aH (by omega),fun j aH=>absurd aH (by omega),fun m ca _ hm=>absurd hm (by simp),fun m ca _ hm=>absurd hm (by simp),fun m hm=>absurd hm (by simp),fun _ m hm=>absurd hm (by simp)⟩⟩
 rotate_left
 ·intro a b jx ae
  exact h.gx.le jx ae
 rintro k d rec ⟨i,q,at',cu,ops,pos,hi,rfl,ar,qR,dT,du⟩ bO
 by_cases aW:i < n
 ·have ba:(i:Int) < (a0.length:Int):=by omega
  have iD:=du.qS;have u7:=du.lb;have ay:((i:Int)+1).toNat=i+1:=by omega
  have S3:=h.fv i aW;have akN:=h.Bf i aW;obtain⟨s,an⟩:=dT.ex;have aq:∀ k,(ds n pos S k).length<=4:=fun k=>an.four k
  by_cases aH:i+1 < n/\a1.getD i 0=a1.getD (i+1) 0
  ·obtain⟨bL,pos',qB,jV⟩:=du.join h aH.1 aH.2 aq
   have LL:=h.gx i (i+1) (by omega) aH.1;dsimp only at LL;have aiF:=h.fv (i+1) aH.1;have pI:(a0.take (i+1)).drop i=[a0.getD i 0]:=by
    rw[qG (E5 (by omega)),List.drop_append_of_le_length (by rw[List.length_take]; omega),List.drop_eq_nil_of_le (by rw[List.length_take]; omega)]
    rfl
   have qp:=SR a6 fB aL fI (A:=[a0.getD i 0]) (by simp) (d:=a0.getD (i+1) 0 - a0.getD i 0) (by omega) bL ar (ops:=ops) (by omega) dT;rw[qB]at qp;have J:(i:Int)+1 < (a0.length:Int):=by omega
   simp only[aZ,Int.reduceEq,Int.reduceLT,Int.reduceLE,reduceCtorEq,ba,ay,J,aH.2,pI];have pV:T (nC N [a0.getD i 0] (a0.getD (i+1) 0 - a0.getD i 0) q ops) fun r=>(-9223372036854775808<=(i:Int)+1/\(i:Int)+1<=9223372036854775807)/\T (rec ((i:Int)+1,r.1,at',cu,r.2)) fun o=>∃ pos,(-4<=o.1/\o.1<=4)/\o.2.2.2.length<=720/\eY N cG o.2.2.2 fz (FS t ys o.1 (ds n pos S))/\pX n a0 a1 n o.2.1 o.2.2.1 pos:=by
    refine qp.mono ?_;rintro⟨hv,h2⟩ ⟨jf,E3,vJ⟩;exact⟨by omega,bO (k - 1) _ (by omega) ⟨i+1,hv,at',cu,h2,pos',by omega,rfl,jf,by dsimp only at E3 ⊢; omega,vJ,jV⟩⟩
   rw[aH.2]at *
   and_intros<;>first | omega | (simp only[bB]; omega) | exact this | trivial
   all_goals first | exact pV | omega
  ·have jV:=du.next h aW (fun aV e=>aH ⟨aV,e⟩)
   have pV:=bO (k - 1) ((i:Int)+1,q,at'++[a0.getD i 0],cu++[a1.getD i 0 - a0.getD i 0],ops) (by omega) ⟨i+1,q,_,_,ops,pos,by omega,rfl,ar,by omega,dT,jV⟩;have J:¬ ((i:Int)+1 < (a0.length:Int)/\a1.getD i 0=a1.getD (i+1) 0):=fun e=>aH ⟨by omega,e.2⟩
   simp only[aZ,Int.reduceEq,Int.reduceLT,Int.reduceLE,reduceCtorEq,ba,ay];refine⟨by omega,⟨by omega,fun _=>by omega,fun _=>by omega,fun _=>by omega⟩,fun e=>absurd e J,fun _=>⟨⟨by omega,by omega⟩,?_,by omega,pV⟩⟩;simp only[bB];omega
 ·obtain rfl:i=n:=by omega
  have ba:¬ (i:Int) < (a0.length:Int):=by omega
  simp only[aZ,Int.reduceEq,Int.reduceLT,Int.reduceLE,reduceCtorEq,ba];exact⟨pos,ar,by omega,dT,du⟩
end
section
open Go.RowKit
theorem aiI{N:Nat} (a6:5000 < N) {a1 a2:List Int} (dj:a1.length<=8) (ah:a2.length=a1.length) {i:Nat} (hi:i < a1.length):T (pR N (i:Int) a1 a2) fun r=>∃ e:Nat,r=(e:Int)/\i < e/\e<=a1.length/\∀ m,i<=m->m < e->a2.getD m 0=a2.getD i 0:=by
 have dV:T (Lb N (i:Int) a1 a2 N ((i:Int)+1)) fun r=>∃ e:Nat,r=(e:Int)/\i < e/\e<=a1.length/\∀ m,i<=m->m < e->a2.getD m 0=a2.getD i 0:=by
  unfold Lb;refine kH (fun k d=>∃ e:Nat,e+k=a1.length/\d=(e:Int)/\i < e/\∀ m,i<=m->m < e->a2.getD m 0=a2.getD i 0) _ ?_ N (a1.length - (i+1)) _ (by omega) ⟨i+1,by omega,by omega,by omega,fun m J U=>by rw[show m=i by omega]⟩;rintro k d rec ⟨e,he,rfl,xZ,hm⟩ bO
  by_cases aW:e < a1.length
  ·have ba:(e:Int) < (a1.length:Int):=by omega
   by_cases heq:a2.getD e 0=a2.getD i 0
   ·have this:=bO (k - 1) ((e:Int)+1) (by omega) ⟨e+1,by omega,by omega,by omega,fun m J U=>by
     by_cases hg:m=e
     ·rw[hg,heq]
     ·exact hm m J (by omega)⟩
    simp only[aZ,Int.reduceEq,Int.reduceLT,Int.reduceLE,reduceCtorEq,ba,heq]
    and_intros<;>first | omega | (simp only[bB]; omega) | exact this | trivial
   ·simp only[aZ,Int.reduceEq,Int.reduceLT,Int.reduceLE,reduceCtorEq,ba,heq]
    refine⟨by and_intros<;>first | omega | (simp only[bB]; omega) | exact this | trivial,e,rfl,xZ,by omega,hm⟩
  ·have ba:¬ (e:Int) < (a1.length:Int):=by omega
   simp only[aZ,Int.reduceEq,Int.reduceLT,Int.reduceLE,reduceCtorEq,ba];exact⟨e,rfl,xZ,by omega,hm⟩
 unfold pR;simp only[aZ,Int.reduceEq,Int.reduceLT,Int.reduceLE,reduceCtorEq];exact⟨by omega,dV⟩
def k7(eF:Nat->Nat):List Int->Nat->Nat->Prop
 | [],a,b=>a=b
 | x :: l,a,b=>x=(a:Int)/\k7 eF l (eF a) b
theorem k7.snoc{eF:Nat->Nat}:∀ {l:List Int} {a b:Nat},k7 eF l a b->k7 eF (l++[(b:Int)]) a (eF b)
 | [],a,b,h=>⟨by rw[show a=b from h],by rw[show a=b from h]; rfl⟩
 | x :: l,a,b,h=>⟨h.1,h.2.snoc⟩
theorem k7.split{eF:Nat->Nat}:∀ {l:List Int} {a b:Nat} {i:Nat},k7 eF l a b->i < l.length->∃ c:Nat,l.getD i 0=(c:Int)/\k7 eF (l.take i) a c/\k7 eF (l.take (i+1)) a (eF c)/\k7 eF (l.drop (i+1)) (eF c) b
 | [],_,_,_,_,hi=>absurd hi (Nat.not_lt_zero _)
 | x :: l,a,b,0,h,_=>⟨a,h.1,rfl,⟨h.1,rfl⟩,h.2⟩
 | x :: l,a,b,i+1,h,hi=>by
  obtain⟨c,J,U,ag,aq⟩:=h.2.split (i:=i) (Nat.lt_of_succ_lt_succ hi);exact⟨c,J,⟨h.1,U⟩,⟨h.1,ag⟩,aq⟩
theorem k7.E6{eF:Nat->Nat}:∀ {l:List Int} {a b b':Nat},k7 eF l a b->k7 eF l a b'->b=b'
 | [],_,_,_,h,aK=>h.symm.trans aK
 | _ :: _,_,_,_,h,aK=>h.2.E6 aK.2
def vP(l:List Int):Nat->List (Int×Int×Unit)
 | 0=>[]
 | j+1=>((j:Int),l.getD j 0,()) :: vP l j
theorem aiJ{N:Nat} (a6:5000 < N) (l:List Int) (ah:l.length<=300):A0 N true l=some (vP l l.length):=by
 have dV:Lc N true l N ((l.length:Int) - 1)=some (vP l l.length):=by
  unfold Lc;refine J6 (fun k d r=>k<=l.length/\d=(k:Int) - 1/\r=vP l k) ?_ N l.length _ _ (by omega) ⟨Nat.le_refl _,rfl,rfl⟩;rintro k d r rec ⟨ab,rfl,rfl⟩ bO
  apply T.eq
  cases k with
  | zero=>
   have aW:¬ (0:Int)<=((0:Nat):Int) - 1:=by omega
   simp only[aZ,Int.reduceEq,Int.reduceLT,Int.reduceLE,reduceCtorEq,aW]
   rfl
  | succ k=>
   have aW:(0:Int)<=((k+1:Nat):Int) - 1:=by omega
   have ay:(((k+1:Nat):Int) - 1).toNat=k:=by omega
   have aS:((k+1:Nat):Int) - 1=(k:Int):=by omega
   have aw:=bO k ((k:Int) - 1) _ (by omega) ⟨by omega,rfl,rfl⟩;rw[aS];have Ly:(0:Int)<=(k:Int):=by omega
   simp only[aZ,Int.reduceEq,Int.reduceLT,Int.reduceLE,reduceCtorEq,Ly,QZ,bn aw];refine⟨by and_intros<;>first | omega | (simp only[bB]; omega) | exact this | trivial,by and_intros<;>first | omega | (simp only[bB]; omega) | exact this | trivial,rfl⟩
 unfold A0
 apply T.eq
 simp only[aZ,Int.reduceEq,Int.reduceLT,Int.reduceLE,reduceCtorEq,bn dV]
 and_intros<;>first | omega | (simp only[bB]; omega) | exact this | trivial
def n9(at' cu:List Int) (j:Nat):Nat->Int:=fun m=>if j<=m/\0 < cu.getD m 0 then at'.getD m 0+cu.getD m 0 else at'.getD m 0
def lQ(at' cu:List Int) (j:Nat):Nat->Int:=fun m=>if 0 < cu.getD m 0\/m < j then at'.getD m 0+cu.getD m 0 else at'.getD m 0
theorem S6{M:Nat} {at' cu:List Int} (J:ig M (fun m=>at'.getD m 0)) (U:ig M (fun m=>at'.getD m 0+cu.getD m 0)) (j:Nat):ig M (n9 at' cu j):=by
 intro m ca hm e9;have a1:=J m ca hm e9;have a2:=U m ca hm e9;dsimp only at a1 a2;unfold n9
 split<;>split<;>omega
theorem S7{M:Nat} {at' cu:List Int} (J:ig M (fun m=>at'.getD m 0)) (U:ig M (fun m=>at'.getD m 0+cu.getD m 0)) (j:Nat):ig M (lQ at' cu j):=by
 intro m ca hm e9;have a1:=J m ca hm e9;have a2:=U m ca hm e9;dsimp only at a1 a2;unfold lQ
 split<;>split<;>omega
def o1(N:Nat) (cG:List (Int×Option Nat)) (t:List (List bu)) (ys:List bJ) (fz:gP) (n:Nat) (a1:List Int) (S:Nat->List ad) (at' cu:List Int) (cur:Nat->Int) (L:Nat) (q:Int) (ops:List cl):Prop:=
 ∃ pos,(-4<=q/\q<=4)/\ops.length<=L/\eY N cG ops fz (FS t ys q (ds n pos S))/\xY n at'.length (fun j=>a1.getD j 0) (fun m=>at'.getD m 0+cu.getD m 0) cur pos
structure E7(M:Nat) (at' cu:List Int):Prop where
 m8:M<=8
 qS:at'.length=M
 lb:cu.length=M
 gx:ig M (fun m=>at'.getD m 0)
 sc:ig M (fun m=>at'.getD m 0+cu.getD m 0)
 fv:∀ m,m < M->1<=at'.getD m 0/\at'.getD m 0<=40
 S8:∀ m,m < M->1<=at'.getD m 0+cu.getD m 0/\at'.getD m 0+cu.getD m 0<=40
theorem aiK{l:List Int} {i e:Nat} (he:e<=l.length) (x:Int):x∈(l.take e).drop i ↔∃m,i<=m/\m < e/\x=l.getD m 0:=by
 rw[List.mem_iff_getElem?];constructor
 ·rintro⟨k,ab⟩
  rw[List.getElem?_drop,List.getElem?_take]at ab
  split at ab
  ·rename_i h
   exact⟨i+k,by omega,h,(cb ab).symm⟩
  ·cases ab
 ·rintro⟨m,J,U,rfl⟩
  refine⟨m - i,?_⟩;rw[List.getElem?_drop,List.getElem?_take,show i+(m - i)=m by omega,if_pos U];exact E5 (by omega)
theorem aiL{l:List Int} {M:Nat} (bL:l.length=M) (h:ig M (fun m=>l.getD m 0)) (i e:Nat):((l.take e).drop i).Pairwise (· < ·):=by
 refine List.Pairwise.sublist ((List.drop_sublist i _).trans (List.take_sublist e l)) ?_;rw[List.pairwise_iff_getElem];intro a b aX ae jx
 have:=h a b jx (by omega)
 dsimp only at this;rw[cb (List.getElem?_eq_getElem aX),cb (List.getElem?_eq_getElem ae)]at this;exact this
theorem aiM{l:List Int} {i e:Nat} (dj:l.length<=8):((l.take e).drop i).length<=8:=by
 rw[List.length_drop,List.length_take];omega
theorem S9{N:Nat} (a6:5000 < N) {cG} (fB:iP N=some cG) {t:List (List bu)} {ys:List bJ} (aL:ys.length=6) (fI:∀ Y∈ys,Y.1=false) {fz:gP} {n:Nat} {a0 a1:List Int} {S:Nat->List ad} (h:pW n a0 a1 S) {M:Nat} {at' cu:List Int} (bR:E7 M at' cu) {cur cur':Nat->Int} (aa:ig M cur) (dE:ig M cur') (aw:∀ m,m < M->1<=cur m/\cur m<=40) (iy:∀ m,m < M->1<=cur' m/\cur' m<=40)
  {i e:Nat} (xZ:i < e) (S2:e<=M) {d:Int} (ax:d≠0) (om:∀ m,m < M->cur' m=if i<=m/\m < e then cur m+d else cur m) (Ta:∀ m,i<=m->m < e->cur m=at'.getD m 0) {L:Nat} (dV:L<=9000) {q:Int} {ops:List cl} (du:o1 N cG t ys fz n a1 S at' cu cur L q ops) :
  T (nC N ((at'.take e).drop i) d q ops) fun o=>o1 N cG t ys fz n a1 S at' cu cur' (L+90) o.1 o.2:=by
 obtain⟨pos,ar,qR,dT,iC⟩:=du;have iD:=bR.qS;have Tb:=bR.m8;rw[iD]at iC;obtain⟨s,an⟩:=dT.ex;have aj:∀ x,x∈(at'.take e).drop i ↔∃m,i<=m/\m < e/\x=cur m:=fun x=>by
  rw[aiK (by omega)];constructor
  ·rintro⟨m,J,U,gA⟩
   exact⟨m,J,U,by rw[Ta m J U]; exact gA⟩
  ·rintro⟨m,J,U,gA⟩
   exact⟨m,J,U,by rw[<- Ta m J U]; exact gA⟩
 obtain⟨bL,pos',qB,aiN⟩:=aiz iC h.mono bR.sc aa dE xZ S2 ax om aw iy h.ne (fun k=>an.four k) (aiL iD bR.gx i e) aj;have qp:=SR a6 fB aL fI (A:=(at'.take e).drop i) (aiM (by omega)) ax bL ar (ops:=ops) (by omega) dT;rw[qB]at qp;refine qp.mono ?_;rintro⟨hv,h2⟩ ⟨jf,E3,vJ⟩;dsimp only at jf E3 vJ;refine⟨pos',jf,?_,vJ,by rw[iD]; exact aiN⟩;dsimp only;omega
theorem o1.same{N:Nat} {cG:List (Int×Option Nat)} {t:List (List bu)} {ys:List bJ} {fz:gP} {n:Nat} {a1:List Int} {S:Nat->List ad} {at' cu:List Int} {cur cur':Nat->Int} {L L':Nat} {q:Int} {ops:List cl} (h:o1 N cG t ys fz n a1 S at' cu cur L q ops) (aa:∀ m,m < at'.length->cur m=cur' m) (dV:L<=L'):o1 N cG t ys fz n a1 S at' cu cur' L' q ops:=by
 obtain⟨pos,ar,qR,dT,iC⟩:=h;refine⟨pos,ar,by omega,dT,fun a aX=>?_,fun m hm=>?_⟩
 ·obtain⟨m,hm,ay,aS⟩:=iC.vL a aX
  exact⟨m,hm,by rw[<- aa m hm]; exact ay,aS⟩
 ·obtain⟨a,aX,ay,aS⟩:=iC.src m hm
  exact⟨a,aX,by rw[<- aa m hm]; exact ay,aS⟩
end
section
open Go.RowKit
theorem FS.fv{t:List (List bu)} {ys:List bJ} {q:Int} {F:Int->List ad} {s:gP} (h:FS t ys q F s) {k:Int} (ab:F k≠[]):1<=k/\k<=40:=by
 obtain⟨f,rfl,aI,hy⟩:=h;rw[<- hy]at ab;unfold cO at ab
 split at ab
 ·assumption
 ·exact absurd rfl ab
theorem pX.aiO{n:Nat} {a0 a1:List Int} {S:Nat->List ad} (h:pW n a0 a1 S) {at' cu:List Int} {pos:Nat->Int} (du:pX n a0 a1 n at' cu pos) {t:List (List bu)} {ys:List bJ} {q:Int} {s:gP} (an:FS t ys q (ds n pos S) s):E7 at'.length at' cu/\xY n at'.length (fun j=>a1.getD j 0) (fun m=>at'.getD m 0+cu.getD m 0) (fun m=>at'.getD m 0) pos:=by
 have iD:=du.qS;have tF:=h.vN;refine⟨⟨by omega,rfl,du.lb,du.gx,du.sc,fun m hm=>?_,fun m hm=>?_⟩,⟨fun a aX=>du.done a aX (fun aV=>absurd aV (Nat.lt_irrefl _)),fun m hm=>?_⟩⟩
 ·obtain⟨j,aH,ay,_⟩:=du.src m hm
  have:=E4 (pos:=pos) aH (h.ne j aH)
  rw[ay]at this;exact an.fv this
 ·obtain⟨j,aH,_,aS,_⟩:=du.src m hm
  rw[<- aS];exact h.Bf j aH
 ·obtain⟨j,aH,ay,aS,_⟩:=du.src m hm
  exact⟨j,aH,ay,aS⟩
theorem Tc{M:Nat} {at' cu:List Int} (h:E7 M at' cu) (j:Nat):∀ m,m < M->1<=n9 at' cu j m/\n9 at' cu j m<=40:=by
 intro m hm;have a1:=h.fv m hm;have a2:=h.S8 m hm;unfold n9
 split
 ·exact a2
 ·exact a1
theorem Td{M:Nat} {at' cu:List Int} (h:E7 M at' cu) (j:Nat):∀ m,m < M->1<=lQ at' cu j m/\lQ at' cu j m<=40:=by
 intro m hm;have a1:=h.fv m hm;have a2:=h.S8 m hm;unfold lQ
 split
 ·exact a2
 ·exact a1
theorem aiP(N:Nat) (l:List cl):vj N l=some (l,l.length):=by
 unfold vj
 apply T.eq
 simp only[aZ,Int.reduceEq,Int.reduceLT,Int.reduceLE,reduceCtorEq,List.take_length]
 and_intros<;>first | omega | (simp only[bB]; omega) | exact this | trivial
theorem aiQ{N:Nat} (a6:5000 < N) {cG} (fB:iP N=some cG) {t:List (List bu)} {ys:List bJ} (aL:ys.length=6) (fI:∀ Y∈ys,Y.1=false) {n:Nat} {a0 a1:List Int} {S:Nat->List ad} (h:pW n a0 a1 S) {fz:gP} (km:FS t ys 0 (ds n (fun j=>a0.getD j 0) S) fz) :
  T (tx N a0 a1) fun o=>o.2.2=0/\o.2.1=o.1.length/\o.1.length<=4000/\eY N cG o.1 fz (FS t ys 0 (ds n (fun j=>a1.getD j 0) S)):=by
 have nn:=h.uq;have xX:=h.Be;have tF:=h.vN;have hlen:(a1.length:Int)=(a0.length:Int):=by omega
 unfold tx;simp only[aZ,Int.reduceEq,Int.reduceLT,Int.reduceLE,reduceCtorEq,bn (aiB a6 h),hlen,bn (aiC a6 h)];refine(aiH a6 fB aL fI h km).mono ?_;rintro⟨j1,at',cu,E8⟩ ⟨aiR,Te,aiS,LO,Tf⟩;dsimp only at Te aiS LO Tf;obtain⟨acv,aiT⟩:=LO.ex;obtain⟨bR,LP⟩:=Tf.aiO h aiT;obtain⟨M,bL⟩:∃ M,M=at'.length:=⟨_,rfl⟩
 have Tb:=bR.m8;have u7:=bR.lb;rw[<- bL]at bR LP Tb u7;have hex:∀ i:Nat,∃ e:Nat,i < M->(pR N (i:Int) at' cu=some (e:Int)/\i < e/\e<=M/\∀ m,i<=m->m < e->cu.getD m 0=cu.getD i 0):=by
  intro i
  by_cases hi:i < M
  ·obtain⟨r,aw,e,rfl,J,U,ag⟩:=aiI a6 (a1:=at') (a2:=cu) (by omega) (by omega) (i:=i) (by omega)
   exact⟨e,fun _=>⟨aw,J,by omega,ag⟩⟩
  ·exact⟨0,fun lT=>absurd lT hi⟩
 obtain⟨eF,qN⟩:∃ eF:Nat->Nat,∀ i,i < M->(pR N (i:Int) at' cu=some (eF i:Int)/\i < eF i/\eF i<=M/\∀ m,i<=m->m < eF i->cu.getD m 0=cu.getD i 0):=⟨fun i=>Classical.choose (hex i),fun i hi=>Classical.choose_spec (hex i) hi⟩
 have aiU:T (EK N (j1,at',cu,E8) N ((0:Int),j1,[])) fun o=>o.1=j1/\k7 eF o.2 0 M/\(∀ x∈o.2,0<=x/\x < (M:Int))/\o.2.length<=M:=by
  unfold EK;refine kH (fun k d=>∃ (i:Nat) (st:List Int),i+k=M/\d=((i:Int),j1,st)/\k7 eF st 0 i/\(∀ x∈st,0<=x/\x < (M:Int))/\st.length<=i) _ ?_ N M _ (by omega) ⟨0,[],by omega,rfl,rfl,fun x ak=>(by cases ak),Nat.le_refl _⟩;rintro k d rec ⟨i,st,hi,rfl,vQ,cU,p3⟩ bO
  by_cases aW:i < M
  ·have ba:(i:Int) < (at'.length:Int):=by omega
   obtain⟨J,U,ag,_⟩:=qN i aW;have this:=bO (M - eF i) ((eF i:Int),j1,st++[(i:Int)]) (by omega) ⟨eF i,st++[(i:Int)],by omega,rfl,vQ.snoc,fun x ak=>by
    rcases List.mem_append.1 ak with ak | ak
    ·exact cU x ak
    ·rw[List.mem_singleton]at ak
     rw[ak];omega,by rw[List.length_append]; show st.length+1<=eF i; omega⟩
   simp only[aZ,Int.reduceEq,Int.reduceLT,Int.reduceLE,reduceCtorEq,ba,bn J]
   and_intros<;>first | omega | (simp only[bB]; omega) | exact this | trivial
  ·have ba:¬ (i:Int) < (at'.length:Int):=by omega
   obtain rfl:i=M:=by omega
   simp only[aZ,Int.reduceEq,Int.reduceLT,Int.reduceLE,reduceCtorEq,ba];exact⟨vQ,cU,p3⟩
 refine aiU.mono ?_;rintro⟨Bh,st⟩ ⟨Tg,vQ,cU,p3⟩;dsimp only at Tg vQ cU p3;subst Tg;have s3:∀ k,k < st.length->∃ c:Nat,st.getD k 0=(c:Int)/\c < M/\k7 eF (st.take k) 0 c/\k7 eF (st.take (k+1)) 0 (eF c):=by
  intro k ab;obtain⟨c,J,U,ag,_⟩:=vQ.split ab
  have:=cU (st.getD k 0) (List.mem_of_getElem? (E5 ab))
  exact⟨c,J,by omega,U,ag⟩
 have aiV:EI N st=some st:=rfl;simp only[bn aiV,bn (aiJ a6 st (by omega))];have aiW:∀ (ops:List cl) (q:Int),o1 N cG t ys fz n a1 S at' cu (lQ at' cu 0) 1500 q ops->T (A2 N (Bh,at',cu,E8) (Bh,st) N ((0:Int),ops,q)) fun o=>o1 N cG t ys fz n a1 S at' cu (lQ at' cu M) 3000 o.2 o.1:=by
  intro ops q du;unfold A2;refine kH (fun k d=>∃ (i c:Nat) (ops:List cl) (q:Int),i+k=st.length/\d=((i:Int),ops,q)/\k7 eF (st.take i) 0 c/\o1 N cG t ys fz n a1 S at' cu (lQ at' cu c) (1500+90 * i) q ops) _ ?_ N st.length _ (by omega) ⟨0,0,ops,q,by omega,rfl,rfl,du⟩;rintro k d rec ⟨i,c,ops,q,hi,rfl,dA,du⟩ bO
  by_cases aW:i < st.length
  ·have ba:(i:Int) < (st.length:Int):=by omega
   obtain⟨c',J,U,ag,aq⟩:=s3 i aW;obtain rfl:=dA.E6 ag;obtain⟨g1,g2,g3,g4⟩:=qN c U
   by_cases LM:cu.getD c 0 < 0
   ·have hm:=S9 a6 fB aL fI h bR (S7 bR.gx bR.sc c) (S7 bR.gx bR.sc (eF c)) (Td bR c) (Td bR (eF c)) g2 g3 (d:=cu.getD c 0) (by omega) (fun m hm=>by
     unfold lQ
     by_cases hg:c<=m/\m < eF c
     ·have:=g4 m hg.1 hg.2
      rw[if_pos hg,if_pos (Or.inr hg.2),if_neg (by omega)];omega
     ·rw[if_neg hg]
      by_cases ae:0 < cu.getD m 0
      ·rw[if_pos (Or.inl ae),if_pos (Or.inl ae)]
      ·by_cases yv:m < c
       ·rw[if_pos (Or.inr (by omega)),if_pos (Or.inr yv)]
       ·rw[if_neg (by omega),if_neg (by omega)]) (fun m m1 m2=>by
     have:=g4 m m1 m2
     unfold lQ;rw[if_neg (by omega)]) (L:=1500+90 * i) (by omega) du
    have pV:T (nC N ((at'.take (eF c)).drop c) (cu.getD c 0) q ops) fun r=>(-9223372036854775808<=(i:Int)+1/\(i:Int)+1<=9223372036854775807)/\T (rec ((i:Int)+1,r.2,r.1)) fun o=>o1 N cG t ys fz n a1 S at' cu (lQ at' cu M) 3000 o.2 o.1:=by
     refine hm.mono ?_;rintro⟨hv,h2⟩ jV;exact⟨by omega,bO (k - 1) _ (by omega) ⟨i+1,eF c,h2,hv,by omega,rfl,aq,jV.same (fun _ _=>rfl) (by omega)⟩⟩
    simp only[aZ,Int.reduceEq,Int.reduceLT,Int.reduceLE,reduceCtorEq,ba,J,LM,bn g1]
    and_intros<;>first | omega | (simp only[bB]; omega) | exact this | trivial
    all_goals first | exact pV | omega
   ·have jM:=du.same (cur':=lQ at' cu (eF c)) (L':=1500+90 * (i+1)) (fun m hm=>by
     unfold lQ
     by_cases hg:c<=m/\m < eF c
     ·have:=g4 m hg.1 hg.2
      by_cases ae:0 < cu.getD m 0
      ·rw[if_pos (Or.inl ae),if_pos (Or.inl ae)]
      ·rw[if_neg (by omega),if_pos (Or.inr hg.2)]
       omega
     ·by_cases ae:0 < cu.getD m 0
      ·rw[if_pos (Or.inl ae),if_pos (Or.inl ae)]
      ·by_cases yv:m < c
       ·rw[if_pos (Or.inr yv),if_pos (Or.inr (by omega))]
       ·rw[if_neg (by omega),if_neg (by omega)]) (by omega)
    have pV:=bO (k - 1) ((i:Int)+1,ops,q) (by omega) ⟨i+1,eF c,ops,q,by omega,rfl,aq,jM⟩;simp only[aZ,Int.reduceEq,Int.reduceLT,Int.reduceLE,reduceCtorEq,ba,J,LM]
    and_intros<;>first | omega | (simp only[bB]; omega) | exact this | trivial
    all_goals first | exact pV | omega
  ·have ba:¬ (i:Int) < (st.length:Int):=by omega
   rw[List.take_of_length_le (by omega)]at dA;obtain rfl:=dA.E6 vQ;simp only[aZ,Int.reduceEq,Int.reduceLT,Int.reduceLE,reduceCtorEq,ba];exact du.same (fun _ _=>rfl) (by omega)
 have aiX:∀ (ops:List cl) (q:Int),o1 N cG t ys fz n a1 S at' cu (lQ at' cu M) 3000 q ops->ops.length<=3000/\((-4<=q/\q<=4)/\eY N cG ops fz (FS t ys q (ds n (fun j=>a1.getD j 0) S))):=by
  rintro ops q ⟨pos,ar,qR,dT,iC⟩;refine⟨qR,ar,?_⟩;have e:ds n pos S=ds n (fun j=>a1.getD j 0) S:=aiv S fun j aH=>by
   obtain⟨m,hm,ay,aS⟩:=iC.vL j aH;rw[ay,aS];unfold lQ;rw[if_pos (Or.inr (by omega))]
  rw[<- e];exact dT
 obtain⟨cont,Bk⟩:∃ cont:List cl×Int->Option (List cl×Nat×Int),cont=fun oU=>Option.bind (A2 N (Bh,at',cu,E8) (Bh,st) N ((0:Int),oU.1,oU.2)) fun tz=>Option.bind (tw N (0:Int) tz.2 tz.1) fun A3=>Option.bind (vj N A3.2) fun tA=>some (tA.1,tA.2,(0:Int)):=⟨_,rfl⟩
 have pV:∀ (ops:List cl) (q:Int),o1 N cG t ys fz n a1 S at' cu (lQ at' cu 0) 1500 q ops->T (cont (ops,q)) fun o=>o.2.2=0/\o.2.1=o.1.length/\o.1.length<=4000/\eY N cG o.1 fz (FS t ys 0 (ds n (fun j=>a1.getD j 0) S)):=by
  intro ops q du;rw[Bk];simp only[s9];refine(aiW ops q du).mono ?_;rintro⟨h2,hv⟩ jV;obtain⟨J,U,ag⟩:=aiX h2 hv jV;have Bc:=LH (N:=N) 0 hv (ops:=h2) (by omega);have rO:eY N cG (h2++if hv=0 then [] else [pT 0]) fz (FS t ys 0 (ds n (fun j=>a1.getD j 0) S)):=by
   refine ag.append ?_;rintro s ⟨f,rfl,kj,hy⟩
   by_cases e:hv=0
   ·rw[if_pos e,e]
    exact⟨f,rfl,kj,hy⟩
   ·rw[if_neg e]
    refine(LC a6 fB aL fI kj U ⟨by decide,by decide⟩ fun i hi=>absurd hi (by simp)).mono ?_;rintro s rfl;exact⟨f,rfl,kj,hy⟩
  have p6:(h2++if hv=0 then [] else [pT 0]).length<=3001:=by
   rw[List.length_append]
   split
   ·show h2.length+0<=3001
    omega
   ·show h2.length+1<=3001
    omega
  have kU:=aiP N (h2++if hv=0 then [] else [pT 0]);simp only[aZ,Int.reduceEq,Int.reduceLT,Int.reduceLE,reduceCtorEq,bn Bc,bn kU];exact⟨by omega,rO⟩
 obtain⟨step,sW⟩:∃ step:Int×Int×Unit->List cl×Int->(List cl×Int->Option (List cl×Nat×Int))->Option (List cl×Nat×Int),∀ gy kf oZ,step gy kf oZ=(au ((bc gy.2.1 cu.length)&&(true)) <|
  cond (decide ((0:Int) < (cu.getD gy.2.1.toNat 0))) (au ((bc gy.2.1 cu.length)&&(true)) <|
  Option.bind (pR N gy.2.1 at' cu) fun mS=>
  au (((decide (0<=gy.2.1))&&(decide (gy.2.1<=mS))&&(decide (mS<=(at'.length:Int))))&&(true)) <|
  Option.bind (nC N ((at'.take mS.toNat).drop gy.2.1.toNat) (cu.getD gy.2.1.toNat 0) kf.2 kf.1) fun pS=>
  oZ (pS.2,pS.1)) (oZ (kf.1,kf.2))):=⟨_,fun _ _ _=>rfl⟩
 have key:∀ k,k<=st.length->∀ (ops:List cl) (q:Int) (c:Nat),k7 eF (st.take k) 0 c->o1 N cG t ys fz n a1 S at' cu (n9 at' cu c) (720+90 * (st.length - k)) q ops->T (ji step (vP st k) (ops,q) cont) fun o=>o.2.2=0/\o.2.1=o.1.length/\o.1.length<=4000/\eY N cG o.1 fz (FS t ys 0 (ds n (fun j=>a1.getD j 0) S)):=by
  intro k
  induction k with
  | zero=>
   intro _ ops q c dA du;have aiY:0=c:=dA;subst aiY;refine pV ops q (du.same (fun m hm=>?_) (by omega));unfold n9 lQ
   by_cases ae:0 < cu.getD m 0
   ·rw[if_pos ⟨Nat.zero_le _,ae⟩,if_pos (Or.inl ae)]
   ·rw[if_neg (fun e=>ae e.2),if_neg (by omega)]
  | succ k br=>
   intro ab ops q c dA du;obtain⟨c',J,U,ag,aq⟩:=s3 k (by omega);obtain rfl:=dA.E6 aq;obtain⟨g1,g2,g3,g4⟩:=qN c' U;have gg:bc (c':Int) cu.length=true:=by rw[P8]; omega
   show T (step ((k:Int),st.getD k 0,()) (ops,q) fun c5=>ji step (vP st k) c5 cont) _;rw[sW];dsimp only;rw[J]
   by_cases jH:0 < cu.getD c' 0
   ·have hm:=S9 a6 fB aL fI h bR (S6 bR.gx bR.sc (eF c')) (S6 bR.gx bR.sc c') (Tc bR (eF c')) (Tc bR c') g2 g3 (d:=cu.getD c' 0) (by omega) (fun m hm=>by
     unfold n9
     by_cases hg:c'<=m/\m < eF c'
     ·have:=g4 m hg.1 hg.2
      rw[if_pos hg,if_pos ⟨hg.1,by omega⟩,if_neg (by omega)];omega
     ·rw[if_neg hg]
      by_cases ae:c'<=m/\0 < cu.getD m 0
      ·rw[if_pos ae,if_pos ⟨by omega,ae.2⟩]
      ·rw[if_neg ae,if_neg (by omega)]) (fun m m1 m2=>by
     unfold n9;rw[if_neg (by omega)]) (L:=720+90 * (st.length - (k+1))) (by omega) du
    have h4:T (nC N ((at'.take (eF c')).drop c') (cu.getD c' 0) q ops) fun r=>T (ji step (vP st k) (r.2,r.1) cont) fun o=>o.2.2=0/\o.2.1=o.1.length/\o.1.length<=4000/\eY N cG o.1 fz (FS t ys 0 (ds n (fun j=>a1.getD j 0) S)):=by
     refine hm.mono ?_;rintro⟨hv,h2⟩ jV;exact br (by omega) h2 hv c' ag (jV.same (fun _ _=>rfl) (by omega))
    simp only[aZ,Int.reduceEq,Int.reduceLT,Int.reduceLE,reduceCtorEq,jH,bn g1]
    and_intros<;>first | omega | (simp only[bB]; omega) | exact this | trivial
    all_goals first | exact h4 | omega
   ·have jM:=du.same (cur':=n9 at' cu c') (L':=720+90 * (st.length - k)) (fun m hm=>by
     unfold n9
     by_cases hg:c'<=m/\m < eF c'
     ·have:=g4 m hg.1 hg.2
      rw[if_neg (by omega),if_neg (by omega)]
     ·by_cases ae:c'<=m/\0 < cu.getD m 0
      ·rw[if_pos ae,if_pos ⟨by omega,ae.2⟩]
      ·rw[if_neg ae,if_neg (by omega)]) (by omega)
    have h4:=br (by omega) ops q c' ag jM;simp only[aZ,Int.reduceEq,Int.reduceLT,Int.reduceLE,reduceCtorEq,jH]
    and_intros<;>first | omega | (simp only[bB]; omega) | exact this | trivial
    all_goals first | exact h4 | omega
 have lz:=key st.length (Nat.le_refl _) E8 Bh M (by rw[List.take_length]; exact vQ) ⟨aiR,Te,by omega,LO,by
  rw[<- bL];refine⟨fun a aX=>?_,fun m hm=>?_⟩
  ·obtain⟨m,hm,ay,aS⟩:=LP.vL a aX
   refine⟨m,hm,?_,aS⟩;unfold n9;rw[if_neg (by omega)];exact ay
  ·obtain⟨a,aX,ay,aS⟩:=LP.src m hm
   refine⟨a,aX,?_,aS⟩;unfold n9;rw[if_neg (by omega)];exact ay⟩
 have aiZ:step=fun(gy:Int×Int×Unit) (kf:List cl×Int) (oZ:List cl×Int->Option (List cl×Nat×Int))=>(au ((bc gy.2.1 cu.length)&&(true)) <|
  cond (decide ((0:Int) < (cu.getD gy.2.1.toNat 0))) (au ((bc gy.2.1 cu.length)&&(true)) <|
  Option.bind (pR N gy.2.1 at' cu) fun mS=>
  au (((decide (0<=gy.2.1))&&(decide (gy.2.1<=mS))&&(decide (mS<=(at'.length:Int))))&&(true)) <|
  Option.bind (nC N ((at'.take mS.toNat).drop gy.2.1.toNat) (cu.getD gy.2.1.toNat 0) kf.2 kf.1) fun pS=>
  oZ (pS.2,pS.1)) (oZ (kf.1,kf.2))):=by
  funext x y k
  exact sW x y k
 rw[aiZ,Bk]at lz;simp only[Bool.and_true]at lz;exact lz
end
section
open Go.RowKit
theorem ai0{N:Nat} (a6:5000 < N) {cG} (fB:iP N=some cG) (A:List Nat) (l2:List Int) :
  eY N cG [(1,(0,((0,0),(1,0))))] ((0:Int),[],[],own (List.replicate 6 []),[],List.replicate 6 (bT.zero:bJ),[]) (qQ A l2 0):=by
 have hi:=agV a6 (y:=0) (by decide) (own (List.replicate 6 [])) [] [];have ax:iQ N (1,(0,((0,0),(1,0)))) 0 [] [] (own (List.replicate 6 [])) [] (List.replicate 6 (bT.zero:bJ)) [] cG=some (0,((0:Int),[],[],own (List.replicate 6 []),[],gI (-13) 0 [],[])):=by
  rw[age (agd N (Or.inl rfl) ⟨by decide,by decide⟩) rfl 0 [] [] _ _ _ _ fB];have lT:r5 N (1,(0,((0,0),(1,0)))) 0 [] [] (own (List.replicate 6 [])) [] (List.replicate 6 (bT.zero:bJ)) []=_:=hi;rw[lT]
  rfl
 refine eY.one ax ⟨0,[],List.replicate 6 [], -13,rfl,⟨pQ,vp,rfl⟩,?_,⟨by decide,by decide,fun k J U=>?_⟩,by omega,fun i hi=>absurd hi (by omega),fun k ab=>absurd (by simp) ab,Or.inl ⟨rfl,rfl⟩⟩
 ·have bG:∀ i,(List.replicate 6 ([]:List bu)).getD i []=[]:=fun i=>by
   rw[List.getD_eq_getElem?_getD,List.getElem?_replicate]
   split<;>rfl
  have ff:∀ a,¬ gu (List.replicate 6 ([]:List bu)) a:=fun a h=>by
   rw[pM,bG]at h
   have:=h.2.2
   have:=h.2.1
   simp at *
   omega
  have vR:∀ {a l},hZ (List.replicate 6 ([]:List bu)) a=some l->False:=fun {a l} h=>ff a ⟨l,h⟩
  exact⟨by decide,⟨fun _=>0,⟨rfl,fun a h=>(ff a h).elim,fun a b h=>(ff b h).elim,fun a l h=>(vR h).elim,fun a l h=>(vR h).elim,fun a l h=>(vR h).elim,fun a l h=>(vR h).elim,fun a l h=>(vR h).elim,fun a l h=>(vR h).elim,fun a l h=>(vR h).elim⟩⟩,rfl,rfl,
   ⟨by decide,fun x ak=>(by rw[List.eq_of_mem_replicate ak]; decide),fun x ak=>(by rw[List.eq_of_mem_replicate ak]; intro l ah; cases ah),fun x ak=>(by rw[List.eq_of_mem_replicate ak]; intro l ah; cases ah)⟩,fun a=>by rw[if_neg (ff a)]; rfl,fun i _=>bG i⟩
 ·have:k<=0:=U
  omega
def ai1(A:List Nat) (l2:List Int) (s:gP):Prop:=∃ (n:Nat) (f:List (List ad)) (t:List (List bu)),s=((0:Int),f,[],own t,[],(List.replicate 6 (bT.zero:bJ)).set 0 (false,(0,((n:Int),(false,[])))),[])/\ki n f/\tB n t/\(∀ i,i < A.length->((f.getD (A.getD i 0 - 1) []).length:Int)=l2.getD i 0)/\∀ k,f.getD k []≠[]->∃ i,i < A.length/\k+1=A.getD i 0
theorem ai2{N:Nat} (a6:5000 < N) {cG} (fB:iP N=some cG) {A:List Nat} {l2:List Int} {s:gP} (h:qQ A l2 A.length s) :
  eY N cG [(2,(0,((0,0),(1,0))))] s (ai1 A l2):=by
 obtain⟨n,f,t,p,rfl,cm,bI,ao,aV,cr,vF,hlen⟩:=h;have E9:=bI.Lr;have aC:=xT (q:=[]) ao.1 (n:=n) (by omega) (fun x ak=>by cases ak) (by decide);have bg:=ahD a6 (y:=0) (by decide) (sb p n []) aC rfl 0 f [] (own t) [] [];have ax:iQ N (2,(0,((0,0),(1,0)))) 0 f [] (own t) [] (gI p n []) [] cG=some (0,((0:Int),f,[],own t,[],(List.replicate 6 (bT.zero:bJ)).set 0 (false,(0,((n:Int),(false,[])))),[])):=by
  rw[ahB (ahA N ⟨by decide,by decide⟩) rfl 0 f [] _ _ _ _ fB];have ai3:r6 N (2,(0,((0,0),(1,0)))) 0 f [] (own t) [] (gI p n []) []=_:=bg;rw[ai3]
  rfl
 exact eY.one ax ⟨n,f,t,rfl,cm,bI,cr,vF⟩
theorem ai4{N:Nat} (a6:5000 < N) {n:Nat} {f:List (List ad)} {t:List (List bu)} (cm:ki n f) (bI:tB n t) :
  K0 N f [] ((List.replicate 6 (bT.zero:bJ)).set 0 (false,(0,((n:Int),(false,[]))))) t (jY 0 n):=by
 have E9:=bI.Lr;have cg:=Rv a6 cm.fX pQ cm.lP (r:=0) ⟨by decide,by decide⟩ (cm.ew E9) (ki.gx f);rw[cm.flat]at cg;have ai5:n5 N (f,[]) 0=some (jY 0 n):=by
  rw[cg];show some (jY 0 n++[])=_;rw[List.append_nil]
 refine⟨⟨cm.fX,pQ,cm.c1,vp⟩,cm.lP,cm.ew E9,rfl,fun Y cw=>?_,bI.tok,by rw[bI.all]; omega,bI.dx,bI.once,ai5,by rw[EF]; omega,fun i Y cw=>?_⟩
 ·rcases List.mem_or_eq_of_mem_set cw with cw | rfl
  ·rw[List.eq_of_mem_replicate cw]
   exact⟨⟨Int.le_refl _,by decide⟩,fun _=>⟨rfl,rfl,rfl⟩,fun h=>(by cases h),by decide,fun p ao=>(by cases ao),fun i p q ao=>(by cases ao)⟩
  ·exact⟨⟨by show(0:Int)<=(n:Int); omega,by show(n:Int)<=2048; omega⟩,fun _=>⟨rfl,rfl,rfl⟩,fun h=>(by cases h),Nat.zero_le _,fun p ao=>(by cases ao),fun i p q ao=>(by cases ao)⟩
 ·rw[List.getElem?_set]at cw
  by_cases hi:0=i
  ·subst hi
   rw[if_pos rfl,if_pos (by decide)]at cw;cases cw;rw[bI.row]
  ·rw[if_neg hi,List.getElem?_replicate]at cw
   split at cw
   ·cases cw
    rw[bI.SC i (fun e=>hi e.symm)]
    rfl
   ·cases cw
theorem ai6{N:Nat} (a6:5000 < N) {cG} (fB:iP N=some cG) {A:List Nat} {l2:List Int} (aj:qP A 40) (xV:A.length<=8) (ja:l2.length=A.length) (aC:∀ v∈l2,v=1\/v=2) :
  T (Ll N (gH A) l2 N ((0:Int),(0:Int),[((1:Int),((0:Int),(((0:Int),(0:Int)),((1:Int),(0:Int)))))])) fun q=>q.2.length<=100/\eY N cG q.2 ((0:Int),[],[],own (List.replicate 6 []),[],List.replicate 6 (bT.zero:bJ),[]) (qQ A l2 A.length):=by
 unfold Ll;refine kH (fun k d=>∃ (j:Nat) (ops:List cl),j+k=A.length/\d=((j:Int),(0:Int),ops)/\ops.length<=1+3 * j/\eY N cG ops ((0:Int),[],[],own (List.replicate 6 []),[],List.replicate 6 (bT.zero:bJ),[]) (qQ A l2 j)) _ ?_ N A.length _ (by omega) ⟨0,_,by omega,rfl,by decide,ai0 a6 fB A l2⟩;rintro k d rec ⟨j,ops,aH,rfl,qR,dT⟩ bO
 by_cases aW:j < A.length
 ·obtain⟨a,aX⟩:∃ a,A[j]?=some a:=⟨_,List.getElem?_eq_getElem aW⟩
  obtain⟨v,Th⟩:∃ v,l2[j]?=some v:=⟨_,List.getElem?_eq_getElem (by omega)⟩
  have wg:=aC v (List.mem_of_getElem? Th);have ba:(j:Int) < ((gH A).length:Int):=by rw[xR]; omega
  have o2:(gH A).getD j 0=(a:Int):=cb (by unfold gH; rw[List.getElem?_map,aX]; rfl);have Fa:l2.getD j 0=v:=cb Th;have xP:EP N (gH A) l2 (j:Int) N ((1:Int),ops++[((4:Int),((1:Int),(((0:Int),(a:Int)),((1:Int),(0:Int)))))])=some (if v=2 then(ops++[((4:Int),((1:Int),(((0:Int),(a:Int)),((1:Int),(0:Int)))))])++[((6:Int),((0:Int),(((0:Int),(a:Int)),((1:Int),(0:Int))))),((5:Int),((1:Int),(((0:Int),(a:Int)),((1:Int),(0:Int)))))] else ops++[((4:Int),((1:Int),(((0:Int),(a:Int)),((1:Int),(0:Int)))))]):=by
   obtain⟨M,rfl⟩:∃ M,N=M+2:=⟨N - 2,by omega⟩
   rcases wg with rfl | rfl
   ·unfold EP
    apply T.eq
    show T (cn _ (M+1+1) _) _;unfold cn;simp only[aZ,Int.reduceEq,Int.reduceLT,Int.reduceLE,reduceCtorEq,Fa,if_false]
    and_intros<;>first | omega | (simp only[bB]; omega) | exact this | trivial
   ·unfold EP
    apply T.eq
    show T (cn _ (M+1+1) _) _;unfold cn;unfold cn;simp only[aZ,Int.reduceEq,Int.reduceLT,Int.reduceLE,reduceCtorEq,Fa,o2,if_true]
    and_intros<;>first | omega | (simp only[bB]; omega) | exact this | trivial
  have Ti:=fun s (an:qQ A l2 j s)=>ah0 a6 fB aj xV aX an
  have ai7:(j:Int) < (A.length:Int):=by omega
  simp only[aZ,Int.reduceEq,Int.reduceLT,Int.reduceLE,reduceCtorEq,ba,ai7,o2,bn xP,xR];refine⟨by and_intros<;>first | omega | (simp only[bB]; omega) | exact this | trivial,by and_intros<;>first | omega | (simp only[bB]; omega) | exact this | trivial,by and_intros<;>first | omega | (simp only[bB]; omega) | exact this | trivial,?_⟩;refine bO (k - 1) _ (by omega) ⟨j+1,_,by omega,rfl,?_,?_⟩
  ·split
   ·simp only[List.length_append,List.length_cons,List.length_nil]; omega
   ·simp only[List.length_append,List.length_cons,List.length_nil]; omega
  ·split
   ·rw[List.append_assoc]
    exact dT.append fun s an=>(Ti s an).2 (by rw[Fa]; assumption)
   ·exact dT.append fun s an=>(Ti s an).1 (by rw[Fa]; rcases wg with h | h; exact h; contradiction)
 ·have ba:¬ (j:Int) < ((gH A).length:Int):=by rw[xR]; omega
  obtain rfl:j=A.length:=by omega
  simp only[aZ,Int.reduceEq,Int.reduceLT,Int.reduceLE,reduceCtorEq,ba];exact⟨by omega,dT⟩
def ai8(N:Nat) (A:List Nat) (l2:List Int) (s:jk):Prop:=∃ f ys t H,s=((0:Int),((f,[]),(ys,(t,([],(H,[]))))))/\K0 N f [] ys t H/\(∀ Y∈ys,Y.1=false)/\(∀ i,i < A.length->((f.getD (A.getD i 0 - 1) []).length:Int)=l2.getD i 0)/\∀ k,f.getD k []≠[]->∃ i,i < A.length/\k+1=A.getD i 0
theorem ai9{N:Nat} (a6:5000 < N) (A:List Nat) (l2:List Int) (aj:qP A 40) (xV:A.length<=8) (ja:l2.length=A.length) (aC:∀ v∈l2,v=1\/v=2):T (ER N (gH A) l2) (ai8 N A l2):=by
 obtain⟨cG,fB⟩:∃ cG,iP N=some cG:=⟨_,rfl⟩
 unfold ER;simp only[s9];refine(ai6 a6 fB aj xV ja aC).mono ?_;rintro⟨db,ops⟩ ⟨qR,dT⟩;dsimp only at qR dT;have fS:=dT.append fun s an=>ai2 a6 fB an
 have hlen:(ops++[((2:Int),((0:Int),(((0:Int),(0:Int)),((1:Int),(0:Int)))))]).length=ops.length+1:=by rw[List.length_append]; rfl
 have aja:=SE (N:=N) (by rw[hlen]; omega) (by rw[hlen]; omega) fS;unfold xM;simp only[aZ,Int.reduceEq,Int.reduceLT,Int.reduceLE,reduceCtorEq,bn (agX N),hlen,show ¬ (4096:Int) < ((ops.length+1:Nat):Int) by omega,bn (agY a6),bn (agZ a6),bn fB];refine⟨by and_intros<;>first | omega | (simp only[bB]; omega) | exact this | trivial,aja.mono ?_⟩;rintro q ⟨s,rfl,n,f,t,rfl,cm,bI,cr,vF⟩;have bL:=ai4 a6 cm bI;have E9:=bI.Lr;obtain⟨aR,mQ⟩:=bI.tok;have cU:=Se a6 (t:=t) ((List.replicate 6 (bT.zero:bJ)).set 0 (false,(0,((n:Int),(false,[]))))) (by rw[mQ.len]; decide) (fun x ak=>by have:=bI.dx.row x ak; omega) (by rw[EF]; omega) bL.held;simp only[aZ,Int.reduceEq,Int.reduceLT,Int.reduceLE,reduceCtorEq,bn cU];refine⟨f,_,t,_,rfl,bL,fun Y cw=>?_,cr,vF⟩
 ·rcases List.mem_or_eq_of_mem_set cw with cw | rfl
  ·rw[List.eq_of_mem_replicate cw]
  ·rfl
end
section
open Go.RowKit
def mW:Nat->List Int->List Int->Int->Int
 | 0,_,_,_=>0
 | n+1,l3,l2,K=>mW n l3 l2 K+if l3.getD n 0=K then l2.getD n 0 else 0
theorem Tj{l3 l2:List Int} (x y:Int) (K:Int):∀ n,n<=l3.length->n<=l2.length->mW n (l3++[x]) (l2++[y]) K=mW n l3 l2 K
 | 0,_,_=>rfl
 | n+1,J,U=>by
  show mW n _ _ K+_=mW n _ _ K+_;rw[Tj x y K n (by omega) (by omega),sd.1 (by omega),sd.1 (by omega)]
theorem Tk{l3 l2:List Int} {K:Int}:∀ n,(∀ j,j < n->l3.getD j 0≠K)->mW n l3 l2 K=0
 | 0,_=>rfl
 | n+1,h=>by
  show mW n _ _ K+_=0;rw[Tk n (fun j aH=>h j (by omega)),if_neg (h n (by omega))]
  rfl
theorem ajb{n:Nat} {l3 l2:List Int} {S:Nat->List ad} (h:∀ j,j < n->((S j).length:Int)=l2.getD j 0) (K:Int):((ds n (fun j=>l3.getD j 0) S K).length:Int)=mW n l3 l2 K:=by
 induction n with
 | zero=>rfl
 | succ n br=>
  have br:=br (fun j aH=>h j (by omega));have aV:=h n (by omega);show((ds n (fun j=>l3.getD j 0) S K++_).length:Int)=mW n l3 l2 K+_;rw[List.length_append,<- br]
  by_cases e:l3.getD n 0=K
  ·rw[if_pos e,if_pos e,<- aV]
   omega
  ·rw[if_neg e,if_neg e]
   rfl
structure tG(i:Nat) (a b st:Int) (A:List Nat) (l2 l3:List Int):Prop where
 aP:∃ aP:Nat,a=(aP:Int)/\qP A aP/\aP<=40
 qS:A.length=i
 LQ:0<=b/\b<=40
 Tl:0<=st/\st<=4
 x4:l2.length=i
 x5:l3.length=i
 v:∀ v∈l2,v=1\/v=2
 mono:∀ j m,j<=m->m < i->l3.getD j 0<=l3.getD m 0
 fv:∀ j,j < i->1<=l3.getD j 0/\l3.getD j 0<=b
 x0:∀ K,mW i l3 l2 K<=4
 cur:mW i l3 l2 b=st
theorem tG.next{i:Nat} {a b st:Int} {A:List Nat} {l2 l3:List Int} (h:tG i a b st A l2 l3) {u:Nat} {v bM b7:Int} (aC:v=0\/v=1) (hu:a+1+(u:Int)<=40) (ae:b+bM<=40) (bg:0<=bM) (hi:i=0->0 < bM) (ag:b7=if 0 < bM then 0 else st) (aq:bM=0->st+(1+v)<=4):∃ c:Nat,a+1+(u:Int)=(c:Int)/\tG (i+1) (a+1+(u:Int)) (b+bM) (b7+(1+v)) (A++[c]) (l2++[1+v]) (l3++[b+bM]):=by
 obtain⟨aP,rfl,aj,Ei⟩:=h.aP;have ja:=h.x4;have rU:=h.x5;have iD:=h.qS;have Tm:=h.LQ;have cU:=h.Tl;have g1:∀ j,j < i->(l3++[b+bM]).getD j 0=l3.getD j 0:=fun j aH=>sd.1 (by omega)
 have g2:(l3++[b+bM]).getD i 0=b+bM:=sd.2 (by omega);have g3:(l2++[1+v]).getD i 0=1+v:=sd.2 (by omega);have an:∀ K,mW (i+1) (l3++[b+bM]) (l2++[1+v]) K=mW i l3 l2 K+if b+bM=K then 1+v else 0:=fun K=>by
  show mW i _ _ K+(if (l3++[b+bM]).getD i 0=K then(l2++[1+v]).getD i 0 else 0)=_;rw[Tj _ _ K i (by omega) (by omega),g2,g3]
 have Tn:mW i l3 l2 (b+bM)=b7:=by
  rw[ag]
  by_cases ao:0 < bM
  ·rw[if_pos ao]
   exact Tk i fun j aH e=>by have:=(h.fv j aH).2; omega
  ·rw[if_neg ao,show b+bM=b by omega]
   exact h.cur
 have p4:0<=b7/\b7+(1+v)<=4:=by
  rw[ag]
  split
  ·omega
  ·have:=aq (by omega)
   omega
 refine⟨aP+1+u,by omega,⟨aP+1+u,by omega,aj.snoc (by omega),by omega⟩,by rw[List.length_append,iD]; rfl,by omega,by omega,by rw[List.length_append,ja]; rfl,by rw[List.length_append,rU]; rfl,?_,?_,?_,?_,?_⟩
 ·intro w hw
  rcases List.mem_append.1 hw with hw | hw
  ·exact h.v w hw
  ·rw[List.mem_singleton]at hw
   omega
 ·intro j m ajc hm
  by_cases To:m < i
  ·rw[g1 j (by omega),g1 m To]
   exact h.mono j m ajc To
  ·rw[show m=i by omega,g2]
   by_cases e5:j < i
   ·rw[g1 j e5]
    have:=(h.fv j e5).2
    omega
   ·rw[show j=i by omega,g2]
    exact Int.le_refl _
 ·intro j aH
  by_cases e5:j < i
  ·rw[g1 j e5]
   have:=h.fv j e5
   omega
  ·rw[show j=i by omega,g2]
   refine⟨?_,Int.le_refl _⟩
   by_cases aN:i=0
   ·have:=hi aN
    omega
   ·have:=h.fv 0 (by omega)
    omega
 ·intro K
  rw[an]
  by_cases e:b+bM=K
  ·rw[if_pos e,<- e,Tn]
   exact p4.2
  ·rw[if_neg e]
   have:=h.x0 K
   omega
 ·rw[an,if_pos rfl,Tn]
theorem ajd{N:Nat} (a6:5000 < N) (x:List (Int×Int×Int)) (ak:∀ z∈x,0<=z.1/\0<=z.2.1/\0<=z.2.2) (Bi:Bool):T (EN N x Bi) fun r=>∃ (n:Nat) (a b st:Int) (A:List Nat) (l2 l3:List Int),n<=8/\r=(gH A,l2,l3)/\tG n a b st A l2 l3:=by
 have dV:T (Li N x Bi N ((0:Int),(0:Int),(0:Int),(0:Int),[],[],[])) fun r=>∃ (n:Nat) (a b st:Int) (A:List Nat) (l2 l3:List Int),n<=8/\r=(gH A,l2,l3)/\tG n a b st A l2 l3:=by
  unfold Li;refine kH (fun k d=>∃ (i:Nat) (a b st:Int) (A:List Nat) (l2 l3:List Int),i+k=8/\d=(a,b,st,(i:Int),gH A,l2,l3)/\tG i a b st A l2 l3) _ ?_ N 8 _ (by omega) ⟨0,0,0,0,[],[],[],rfl,rfl,⟨0,rfl,⟨List.Pairwise.nil,fun x ak=>(by cases ak)⟩,by omega⟩,rfl,by omega,by omega,rfl,rfl,fun v aC=>(by cases aC),fun j m _ hm=>absurd hm (by omega),fun j aH=>absurd aH (by omega),fun K=>by show(0:Int)<=4; decide,rfl⟩;rintro k d rec ⟨i,a,b,st,A,l2,l3,hi,rfl,gM⟩ bO;have kY:∃ (n:Nat) (a b st:Int) (bP:List Nat) (x4 x5:List Int),n<=8/\(gH A,l2,l3)=(gH bP,x4,x5)/\tG n a b st bP x4 x5:=⟨i,a,b,st,A,l2,l3,by omega,rfl,gM⟩
  obtain⟨aP,Ei,aj,aje⟩:=gM.aP;have ja:=gM.x4;have rU:=gM.x5;have iD:=gM.qS;have Tm:=gM.LQ;have cU:=gM.Tl
  by_cases aW:i < x.length/\i < 8
  ·obtain⟨aW,akO⟩:=aW
   obtain⟨z,bG⟩:∃ z,x[i]?=some z:=⟨_,List.getElem?_eq_getElem aW⟩
   obtain⟨q4,nG,F0⟩:=ak z (List.mem_of_getElem? bG);have t1:=Lj q4 (show(0:Int) < 6 by decide);have t2:=Lj nG (show(0:Int) < 2 by decide);have t3:=Lj F0 (show(0:Int) < 6 by decide);obtain⟨u,hu⟩:∃ u:Nat,Int.tmod z.1 6=(u:Int):=⟨_,(Int.toNat_of_nonneg t1.1).symm⟩
   obtain⟨v,aC⟩:∃ v,v=Int.tmod z.2.1 2:=⟨_,rfl⟩
   obtain⟨s,hq⟩:∃ s,s=Int.tmod z.2.2 6:=⟨_,rfl⟩
   rw[<- aC]at t2;rw[<- hq]at t3;rw[hu]at t1;have ba:(i:Int) < (x.length:Int):=by omega
   have ajf:(i:Int) < 8:=by omega
   have kz:∀ bM b7:Int,a+1+(u:Int)<=40->b+bM<=40->0<=bM->(i=0->0 < bM)->(b7=if 0 < bM then 0 else st)->(bM=0->st+(1+v)<=4)->T (rec (a+1+(u:Int),b+bM,b7+(1+v),(i:Int)+1,gH A++[a+1+(u:Int)],l2++[1+v],l3++[b+bM])) fun r=>∃ (n:Nat) (a b st:Int) (A:List Nat) (l2 l3:List Int),n<=8/\r=(gH A,l2,l3)/\tG n a b st A l2 l3:=by
    intro bM b7 db eB hM iJ j1 uy;obtain⟨c,aa,ajg⟩:=gM.next (v:=v) (by omega) db eB hM iJ j1 uy;refine bO (k - 1) _ (by omega) ⟨i+1,_,_,_,A++[c],_,_,by omega,?_,ajg⟩;rw[ahq,aa]
    rfl
   simp only[aZ,Int.reduceEq,Int.reduceLT,Int.reduceLE,reduceCtorEq,ba,ajf,cb bG,hu,<- aC,<- hq,xR];refine⟨by omega,by omega,by omega,fun _=>by omega,fun aa=>⟨by omega,fun _=>⟨by omega,by omega,fun _=>kY,fun DV=>?_⟩,fun aV=>absurd (by omega) aV⟩,fun aa=>⟨fun ao=>⟨by omega,by omega,fun _=>kY,fun DV=>?_⟩,fun ao=>⟨by omega,by omega,fun _=>kY,fun DV=>?_⟩⟩⟩
   ·have this:=kz (s+1) 0 (by omega) (by omega) (by omega) (fun _=>by omega) (by rw[if_pos (by omega)]) (fun h=>by omega)
    and_intros<;>first | omega | (simp only[bB]; omega) | exact this | trivial
   ·have this:=kz s 0 (by omega) (by omega) (by omega) (fun _=>ao) (by rw[if_pos ao]) (fun h=>by omega)
    and_intros<;>first | omega | (simp only[bB]; omega) | exact this | trivial
   ·have this:=kz s st (by omega) (by omega) (by omega) (fun h=>absurd (by omega) aa.1.1) (by rw[if_neg ao]) (fun h=>by omega)
    and_intros<;>first | omega | (simp only[bB]; omega) | exact this | trivial
  ·have dM:cond (decide ((i:Int) < (x.length:Int))) (decide ((i:Int) < 8)) false=false:=by
    rw[I3,decide_eq_false_iff_not,decide_eq_false_iff_not];omega
   exact ta.2 ⟨fun e=>absurd (dM.symm.trans e) (by decide),fun _=>s8.2 kY⟩
 unfold EN;simp only[aZ,Int.reduceEq,Int.reduceLT,Int.reduceLE,reduceCtorEq];exact dV.mono fun r aw=>aw
end
section
open Go.RowKit
theorem Tp{N:Nat} (a6:5000 < N) {l:List ad} (h:l.length<=1000):A5 N l l=some true:=by
 have dV:Lm N l l N (0:Int)=some (.inl ()):=by
  unfold Lm;refine e3 (fun k d=>∃ i:Nat,i+k=l.length/\d=(i:Int)) _ ?_ N l.length _ (by omega) ⟨0,by omega,rfl⟩;rintro k d rec ⟨i,hi,rfl⟩ bO
  apply T.eq
  by_cases aW:i < l.length
  ·obtain⟨x,ak⟩:∃ x,l[i]?=some x:=⟨_,List.getElem?_eq_getElem aW⟩
   have ba:(i:Int) < (l.length:Int):=by omega
   have ae:aU.beq aB x x=true:=by rw[DT]; simp
   have this:T (rec ((i:Int)+1)) (·=.inl ()):=⟨_,bO (k - 1) _ (by omega) ⟨i+1,by omega,rfl⟩,rfl⟩
   simp only[aZ,Int.reduceEq,Int.reduceLT,Int.reduceLE,reduceCtorEq,ba,cb ak,ae]
   and_intros<;>first | omega | (simp only[bB]; omega) | exact this | trivial
  ·have ba:¬ (i:Int) < (l.length:Int):=by omega
   simp only[aZ,Int.reduceEq,Int.reduceLT,Int.reduceLE,reduceCtorEq,ba]
 unfold A5
 apply T.eq
 simp only[aZ,Int.reduceEq,Int.reduceLT,Int.reduceLE,reduceCtorEq,bn dV]
theorem ajh{n:Nat} {pos:Nat->Int} (S:Nat->List ad) (h:ig n pos) {j:Nat} (aH:j < n):ds n pos S (pos j)=S j:=by
 induction n with
 | zero=>omega
 | succ n br=>
  show ds n pos S (pos j)++_=S j
  by_cases e:j=n
  ·subst e
   rw[if_pos rfl,vK fun i hi H9=>by have:=h i j hi (by omega); omega]
   rfl
  ·have:=h j n (by omega) (by omega)
   rw[br (fun m ca J U=>h m ca J (by omega)) (by omega),if_neg (by omega),List.append_nil]
theorem aji{n k:Nat} {pos:Nat->Int} (S:Nat->List ad) {K:Int} (ab:k<=n) (h:∀ j,k<=j->j < n->pos j≠K):ds n pos S K=ds k pos S K:=by
 induction n with
 | zero=>rw[show k=0 by omega]
 | succ n br=>
  by_cases e:k=n+1
  ·rw[e]
  ·show ds n pos S K++_=_
   rw[br (by omega) (fun j J U=>h j J (by omega)),if_neg (h n (by omega) (by omega)),List.append_nil]
theorem Tq{N:Nat} (a6:5000 < N) {f:List (List ad)} (h:jZ f []):n5 N (f,[]) 0=some f.flatten:=by
 have cg:=Rv a6 h.hl.fX pQ h.lP (r:=0) ⟨by decide,by decide⟩ h.ew (ki.gx f);rw[cg];show some (f.flatten++[])=_;rw[List.append_nil]
theorem ajj{N:Nat} (a6:5000 < N) {n:Nat} {A:List Nat} {l2 l3:List Int} {S:Nat->List ad} (aj:qP A 40) (iD:A.length=n) (k8:pW n (gH A) l3 S) {f:List (List ad)} (kj:jZ f []) (aI:∀ j,S j=cO f ((gH A).getD j 0)) (st:jk) (cU:st.2.1=(f,[])) {i:Nat} (hi:i < n) (LR:∀ j,j < i->l3.getD j 0≠l3.getD i 0) :
  T (Ln N (gH A,l2,l3) st (i:Int) N ((i:Int),[])) fun o=>∃ k:Nat,o=((k:Int),ds n (fun j=>l3.getD j 0) S (l3.getD i 0))/\i < k/\k<=n/\(k < n->∀ j,j < k->l3.getD j 0≠l3.getD k 0):=by
 have tF:=k8.vN;have rU:=k8.Be;have GX:=xR A;unfold Ln;refine kH (fun c d=>∃ k:Nat,k+c=n/\d=((k:Int),ds k (fun j=>l3.getD j 0) S (l3.getD i 0))/\i<=k/\∀ m,i<=m->m < k->l3.getD m 0=l3.getD i 0) _ ?_ N (n - i) _ (by omega) ⟨i,by omega,by rw[vK fun j aH=>LR j aH],Nat.le_refl _,fun m J U=>absurd U (by omega)⟩;rintro c d rec ⟨k,ab,rfl,ajk,hm⟩ bO
 by_cases aW:k < n/\l3.getD k 0=l3.getD i 0
 ·obtain⟨LS,rv⟩:=aW
  have ba:(k:Int) < (l3.length:Int):=by omega
  obtain⟨a,aX⟩:∃ a,A[k]?=some a:=⟨_,List.getElem?_eq_getElem (by omega)⟩
  have aw:=aj.fv a (List.mem_of_getElem? aX);have o2:(gH A).getD k 0=(a:Int):=cb (Sr aX);have iv:=xN (N:=N) kj.hl (b:=0) (Or.inl rfl) aw.1 aw.2;rw[if_neg (by decide),<- mT aw.1 aw.2,<- o2,<- aI]at iv;have Hd:(S k).length<=4:=by rw[aI]; exact(kj.four _).1
  have akP:(ds k (fun j=>l3.getD j 0) S (l3.getD i 0)).length<=100:=by
   have J:=k8.x0 (l3.getD i 0);have U:∀ q,q<=n->(ds q (fun j=>l3.getD j 0) S (l3.getD i 0)).length<=4 * q:=by
    intro q
    induction q with
    | zero=>intro _; exact Nat.le_refl _
    | succ q br=>
     intro ar
     have:=br (by omega)
     show(ds q _ S _++_).length<=_;rw[List.length_append];have akQ:(S q).length<=4:=by rw[aI]; exact(kj.four _).1
     split
     ·omega
     ·rw[List.length_nil]
      omega
   have:=U k (by omega)
   omega
  have GS:ds k (fun j=>l3.getD j 0) S (l3.getD i 0)++S k=ds (k+1) (fun j=>l3.getD j 0) S (l3.getD i 0):=by
   show _=ds k _ S _++_;rw[if_pos rv]
  have this:=bO (c - 1) ((k:Int)+1,ds (k+1) (fun j=>l3.getD j 0) S (l3.getD i 0)) (by omega) ⟨k+1,by omega,rfl,by omega,fun m J U=>by
   by_cases vX:m=k
   ·rw[vX,rv]
   ·exact hm m J (by omega)⟩
  rw[<- GS]at this;rw[<- o2]at o2;simp only[aZ,Int.reduceEq,Int.reduceLT,Int.reduceLE,reduceCtorEq,ba,rv,cU,bn iv]
  and_intros<;>first | omega | (simp only[bB]; omega) | exact this | trivial
 ·have ajl:¬ ((k:Int) < (l3.length:Int)/\l3.getD k 0=l3.getD i 0):=fun e=>aW ⟨by omega,e.2⟩
  have ajm:i < k:=by
   by_cases e:i < k
   ·exact e
   ·exact absurd ⟨by omega,by rw[show k=i by omega]⟩ aW
  have vO:∀ j,k<=j->j < n->l3.getD i 0 < l3.getD j 0:=by
   intro j aH ht;have J:=k8.mono i k (by omega) (by omega);have U:=k8.mono k j aH ht;have ag:l3.getD k 0≠l3.getD i 0:=fun e=>aW ⟨by omega,e⟩
   omega
  have Fq:=aji (n:=n) (k:=k) (pos:=fun j=>l3.getD j 0) S (K:=l3.getD i 0) (by omega) fun j J U e=>by have:=vO j J U; omega
  simp only[aZ,Int.reduceEq,Int.reduceLT,Int.reduceLE,reduceCtorEq];refine⟨by and_intros<;>first | omega | (simp only[bB]; omega) | exact this | trivial,fun e=>absurd e ajl,fun _=>⟨k,by rw[Fq],ajm,by omega,fun LS j aH=>?_⟩⟩;have J:=vO k (Nat.le_refl _) LS;have U:=k8.mono j (k - 1) (by omega) (by omega);have ag:=hm (k - 1) (by omega) (by omega);omega
end
section
open Go.RowKit
theorem ajn{N:Nat} (a6:5000 < N) {n:Nat} {A:List Nat} {l2 l3:List Int} {S:Nat->List ad} (aj:qP A 40) (iD:A.length=n) (k8:pW n (gH A) l3 S) {f f':List (List ad)} (kj:jZ f []) (vS:jZ f' []) (aI:∀ j,S j=cO f ((gH A).getD j 0)) (hy:∀ k,cO f' k=ds n (fun j=>l3.getD j 0) S k) (st:jk) (cU:st.2.1=(f,[])) (b6:jk×Int×Int) (ajo:b6.1.2.1=(f',[])) :
  Lo N (gH A,l2,l3) st b6 N (0:Int)=some (.inl ()):=by
 have tF:=k8.vN;have rU:=k8.Be;unfold Lo;refine e3 (fun c d=>∃ i:Nat,i+c=n/\d=(i:Int)/\(i < n->∀ j,j < i->l3.getD j 0≠l3.getD i 0)) _ ?_ N n _ (by omega) ⟨0,by omega,rfl,fun _ j aH=>absurd aH (by omega)⟩;rintro c d rec ⟨i,hi,rfl,LR⟩ bO
 apply T.eq
 by_cases aW:i < n
 ·have ba:(i:Int) < (l3.length:Int):=by omega
  have bX:=ajj a6 aj iD k8 (l2:=l2) kj aI st cU aW (LR aW);have aw:=k8.Bf i aW;obtain⟨a,aX⟩:∃ a:Nat,l3.getD i 0=(a:Int):=⟨(l3.getD i 0).toNat,by omega⟩
  have vH:1<=a/\a<=40:=by omega
  have iv:=xN (N:=N) vS.hl (b:=0) (Or.inl rfl) vH.1 vH.2;rw[if_neg (by decide),<- mT vH.1 vH.2,hy]at iv;have aq:=k8.x0 (a:Int);have ajp:=Tp a6 (l:=ds n (fun j=>l3.getD j 0) S (a:Int)) (by omega);simp only[aZ,Int.reduceEq,Int.reduceLT,Int.reduceLE,reduceCtorEq,ba];refine bX.mono ?_;rintro o ⟨k,rfl,ajk,LS,ajq⟩;have this:T (rec (k:Int)) (·=.inl ()):=⟨_,bO (n - k) _ (by omega) ⟨k,by omega,rfl,ajq⟩,rfl⟩
  simp only[aZ,Int.reduceEq,Int.reduceLT,Int.reduceLE,reduceCtorEq,ajo,aX,bn iv,bn ajp]
  and_intros<;>first | omega | (simp only[bB]; omega) | exact this | trivial
 ·have ba:¬ (i:Int) < (l3.length:Int):=by omega
  simp only[aZ,Int.reduceEq,Int.reduceLT,Int.reduceLE,reduceCtorEq,ba]
theorem ajr{N:Nat} (a6:5000 < N) (ajs:EO N=some true) (x:List (Int×Int×Int)) (ak:∀ z∈x,0<=z.1/\0<=z.2.1/\0<=z.2.2) (Bi:Bool):ES N x Bi=some true:=by
 obtain⟨cG,fB⟩:∃ cG,iP N=some cG:=⟨_,rfl⟩
 unfold ES
 apply T.eq
 simp only[s9];refine(ajd a6 x ak Bi).mono ?_;rintro r ⟨n,a,b,w,A,l2,l3,tF,rfl,gM⟩;obtain⟨aP,Ei,hA,aje⟩:=gM.aP;have aj:qP A 40:=⟨hA.gx,fun y aL=>by have:=hA.fv y aL; omega⟩
 have iD:=gM.qS;have ja:=gM.x4;have rU:=gM.x5;have Tm:=gM.LQ;dsimp only;refine(ai9 a6 A l2 aj (by omega) (by omega) gM.v).mono ?_;rintro s ⟨f,ys,t,H,rfl,bL,fI,hlen,vF⟩;have kj:jZ f []:=⟨bL.hl,bL.lP,bL.ew⟩
 have o2:∀ j,j < n->∃ y:Nat,A.getD j 0=y/\(gH A).getD j 0=(y:Int)/\1<=y/\y<=40:=fun j aH=>by
  obtain⟨y,aL⟩:∃ y,A[j]?=some y:=⟨_,List.getElem?_eq_getElem (by omega)⟩
  have:=aj.fv y (List.mem_of_getElem? aL)
  exact⟨y,cb aL,cb (Sr aL),this.1,this.2⟩
 obtain⟨S,aI⟩:∃ S:Nat->List ad,∀ j,S j=cO f ((gH A).getD j 0):=⟨_,fun _=>rfl⟩
 have Aq:∀ j,j < n->((S j).length:Int)=l2.getD j 0:=fun j aH=>by
  obtain⟨y,J,U,ag,aq⟩:=o2 j aH
  have:=hlen j (by omega)
  rw[aI,U,mT ag aq,<- this,J]
 have AW:ig n (fun j=>(gH A).getD j 0):=fun i j kQ aH=>by
  obtain⟨y,J,U,ag,aq⟩:=o2 i (by omega);obtain⟨mc,rG,qV,BE,Z4⟩:=o2 j aH
  have:=List.pairwise_iff_getElem.1 aj.gx i j (by omega) (by omega) kQ
  dsimp only;rw[U,qV,<- J,<- rG,cb (List.getElem?_eq_getElem (by omega:i < A.length)),cb (List.getElem?_eq_getElem (by omega:j < A.length))];omega
 have k8:pW n (gH A) l3 S:=by
  refine⟨tF,by rw[xR]; exact iD,rU,AW,fun j aH=>?_,gM.mono,fun j aH=>?_,fun j aH e=>?_,fun k=>?_⟩
  ·obtain⟨y,J,U,ag,aq⟩:=o2 j aH
   omega
  ·have:=gM.fv j aH
   omega
  ·have J:=Aq j aH
   rw[e]at J;have aN:((([]:List ad).length:Nat):Int)=0:=rfl
   rcases gM.v _ (List.mem_of_getElem? (E5 (by omega:j < l2.length)))with h | h<;>omega
  ·have J:=ajb (l3:=l3) Aq k
   have U:=gM.x0 k;omega
 have Tr:FS t ys 0 (ds n (fun j=>(gH A).getD j 0) S) (mU t ys 0 f []):=by
  refine⟨f,rfl,kj,fun k=>?_⟩
  by_cases ab:∃ j,j < n/\(gH A).getD j 0=k
  ·obtain⟨j,aH,rfl⟩:=ab
   rw[ajh S AW aH,aI]
  ·rw[vK fun j aH e=>ab ⟨j,aH,e⟩]
   by_cases he:cO f k=[]
   ·exact he
   ·exfalso
    have cV:=he;unfold cO at he
    split at he
    ·rename_i akR
     obtain⟨i,hi,iN⟩:=vF _ he;obtain⟨y,J,U,ag,aq⟩:=o2 i (by omega);exact ab ⟨i,by omega,by omega⟩
    ·exact he rfl
 refine(aiQ a6 fB bL.K1 fI k8 Tr).mono ?_;rintro⟨ops,room,e⟩ ⟨he,qY,qR,dT⟩;dsimp only at he qY qR dT;subst he qY;have rJ:=bL.K1;obtain⟨aR,mQ⟩:=bL.tok;have bb:=mQ.len;have vq:=agM a6 bL;have aA:=ago a6 (r:=0) bL.hl (ys:=ys) (by omega) (fun Y cw=>by have:=(bL.R1 Y cw).ew; omega) bL.dx H (fl:=[]) (by decide);have dV:=SE (by omega) (by omega) dT;have dy:T (xM N ((0:Int),((f,[]),(ys,(t,([],(H,[])))))) ops) fun q=>∃ f',q=(((0:Int),((f',[]),(ys,(t,([],(H,[])))))),(ops.length:Int),0)/\jZ f' []/\∀ k,cO f' k=ds n (fun j=>l3.getD j 0) S k:=by
  unfold xM;simp only[aZ,Int.reduceEq,Int.reduceLT,Int.reduceLE,reduceCtorEq,show ¬ (4096:Int) < (ops.length:Int) by omega,bn vq,bn aA,bn fB];refine dV.mono ?_;rintro q ⟨ej,rfl,f',rfl,vS,jB⟩;have dt:f'.flatten=H:=by
   have ay:=Tq a6 kj;rw[bL.held]at ay;have aS:=Option.some.inj ay;rw[aS,S1 vS.hl.fX.len,S1 kj.hl.fX.len];obtain⟨f0,ajt,_,aju⟩:=Tr;have Lw:f0=f:=by
    have:=congrArg (fun s:gP=>s.2.1) ajt
    exact this.symm
   subst Lw;have fw:(fun k:Nat=>cO f' ((k:Int)+1))=fun k:Nat=>ds n (fun j=>l3.getD j 0) S ((k:Int)+1):=funext fun k=>jB _
   have cL:(fun k:Nat=>cO f0 ((k:Int)+1))=fun k:Nat=>ds n (fun j=>(gH A).getD j 0) S ((k:Int)+1):=funext fun k=>aju _
   rw[fw,cL,S0 S k8.mono k8.Bf,S0 S (fun i j J U=>AW.le J U) k8.fv]
  have cg:=Tq a6 vS;rw[dt]at cg;have EE:=bL.ah;have cU:=Se a6 (t:=t) ys (by omega) (fun x ak=>by have:=bL.dx.row x ak; omega) (by omega) cg;simp only[aZ,Int.reduceEq,Int.reduceLT,Int.reduceLE,reduceCtorEq,mU,bn cU];exact⟨f',rfl,vS,jB⟩
 have ajv:¬ (ys.length:Int)=0:=by omega
 have EE:=bL.ah;have qc:=Tp a6 (l:=H) (by omega);simp only[aZ,Int.reduceEq,Int.reduceLT,Int.reduceLE,reduceCtorEq,ajv];refine dy.mono ?_;rintro q ⟨f',rfl,vS,jB⟩;have ajw:=ajn a6 (l2:=l2) aj iD k8 kj vS aI jB ((0:Int),((f,[]),(ys,(t,([],(H,[])))))) rfl (((0:Int),((f',[]),(ys,(t,([],(H,[])))))),(ops.length:Int),0) rfl;simp only[aZ,Int.reduceEq,Int.reduceLT,Int.reduceLE,reduceCtorEq,List.length_nil,bn qc,bn ajw,bn ajs];exact⟨fun J U=>U J,fun h=>h rfl⟩
end
theorem ajx(x:Nat):EO (x+6000)=some true:=by kernel_rfl
section
open Go.ChangeShapes Go.WideShapes Go.ChangeAt Go.WideElems Go.RowKit
theorem LU{x:Int} (h:IntKind.u8.min<=x/\x<=IntKind.u8.max):0<=x:=by
 have ay:IntKind.u8.min=0:=rfl;rw[ay]at h;exact h.1
abbrev g8:aU:=.int .u8
abbrev g3:aU:=.pair (.int .u8) (.pair (.int .u8) (.int .u8))
theorem ajy{z:Int×(Int×Int)} (h:rn (.pair g8 (.pair g8 g8)) z):0<=z.1/\0<=z.2.1/\0<=z.2.2:=by
 obtain⟨aN,J,U⟩:=h;exact⟨LU aN,LU J,LU U⟩
theorem ajz(qz:List (Int×Int×Int)) (oh:Bool) (c0:Option Nat) (r:Bool) (h:ES 6000 qz oh=some r):AC bS 3 [.c (.bk (.pair g8 (.pair g8 g8)) qz none),.c (.val (.bool oh))] [] (fun sv h=>sv=.c (.val (.bool r))/\h=[]):=
 (ahy 6000).ok (qz,oh,()) r h
theorem ajA{W:World} (h:laidMetH Tryz.prog Rows.shiftsShiftRow.laid W):wo bS (fun b=>b < W.heap.size) W:=by
 rw[MakeChecks.laidMetH_plain _ _ _ (by kernel_rfl)]at h;obtain⟨ps,⟨g0,t0,akS,f0,My,nL,Lu,akT,w9,gN,⟨g1,t1,akU,f1,h8,db,dN,O4,oj,lU,⟨g2,t2,akV,f2,hF,eB,dm,uI,lh,kv,⟨g3,t3,akW,f3,qi,hM,jo,ajB,ajC,ajD,⟨g4,t4,akX,f4,Nh,iJ,Ts,ajE,ajF,IJ,⟨g5,t5,akY,f5,akZ,j1,Tt,ajG,ajH,ajI,_,_⟩,_⟩,_⟩,_⟩,_⟩,_⟩,_,_⟩:=h;have hh:=B9 Ts (by kernel_rfl:_=some 0);subst hh;have ajJ:=Ca ajE (by kernel_rfl:_=some 221);subst ajJ;have N0:=Nv (zs:=nh) (n:=9) Tryz.underlying221 Tryz.underlying9 (by kernel_rfl) (by kernel_rfl) IJ;have hL:=B9 Tt (by kernel_rfl:_=some 1);subst hL;have ajK:=Ca ajG (by kernel_rfl:_=some 222);subst ajK;have ajL:=Nv (zs:=sG) (n:=2) Tryz.underlying222 Tryz.underlying9 (by kernel_rfl) (by kernel_rfl) ajI;have cz:=B9 jo (by kernel_rfl:_=some 2);subst cz;have uN:=Ca ajB (by kernel_rfl:_=some 285);subst uN;have sQ:=Lib.cells_of_tab (zs:=ue) (k:=.i64) (n:=2) Tryz.underlying285 Tryz.underlying3 (by kernel_rfl) (by kernel_rfl) ajD;have aS:=B9 dm (by kernel_rfl:_=some 3);subst aS;have nO:=Ca uI (by kernel_rfl:_=some 315);subst nO;have cL:=Lib.cells_of_tab (zs:=Lib.pow10Tab) (k:=.u64) (n:=20) Tryz.underlying315 Tryz.underlying266 (by kernel_rfl) (by kernel_rfl) kv;intro i x ak;have hi:i=0\/i=1\/i=2\/i=3:=by
  match i,ak with
  | 0,_=>exact .inl rfl
  | 1,_=>exact .inr (.inl rfl)
  | 2,_=>exact .inr (.inr (.inl rfl))
  | 3,_=>exact .inr (.inr (.inr rfl))
  | _+4,h=>cases h
 rcases hi with rfl | rfl | rfl | rfl
 ·cases ak
  exact B8 Ts ajF (by rw[N0]; exact Gx _)
 ·cases ak
  exact B8 Tt ajH (by rw[ajL]; exact Gx _)
 ·cases ak
  exact B8 jo ajC (by rw[sQ]; exact Gw _)
 ·cases ak
  exact B8 dm lh (by rw[cL]; exact Gw _)
theorem ajM(os:Os) (args:Array Value):laidMetH Tryz.prog Rows.shiftsShiftRow.laid ((World.doorLaid Tryz.prog 400 os).forCall (fun _ _=>0) ⟨#[],args,[]⟩).memory:=
 laidMetH_of_parts3 (fuel:=8) (laidMet_of_run' 8 (by kernel_rfl) (by kernel_rfl)) (by kernel_rfl) (by kernel_rfl)
theorem ajN:∀ t∈Tryz.f3.params.toList,Tryz.prog.readableRec t=true/\t < Tryz.prog.types.size:=by
 rw[Tryz.params3];intro t a8;simp only[List.mem_cons,List.not_mem_nil,or_false]at a8
 rcases a8 with rfl | rfl<;>exact⟨by kernel_rfl,of_decide_eq_true (by kernel_rfl)⟩
theorem ajO(os:Os) (started:os.Started) (H:Type) (enc:TypeId×Value->H) :
  ReturnsInHanded {} Tryz.checked os 3 .any (fun w args=>(Rows.shiftsShiftSpec.pre enc Tryz.prog Tryz.f3 [] false w args/\laidMetH Tryz.prog Rows.shiftsShiftRow.laid w)/\sizedMet enc Tryz.prog Tryz.f3 (OpenSpec.ofChange Rows.shiftsShiftSpec) false w args)
   (Rows.shiftsShiftSpec.post enc Tryz.prog Tryz.f3 false true false false):=by
 refine returnsInHanded_of_change_and (C:=Tryz.checked) (X:=fun w _=>laidMetH Tryz.prog Rows.shiftsShiftRow.laid w) (fun _ _ _ cg h=>h.of_heap cg) Tryz.own started (by kernel_rfl) Tryz.func3
  (ChangeSpec.witness_shaped (enc:=enc) (C:=Tryz.checked) (os:=os) (X:=fun w _=>laidMetH Tryz.prog Rows.shiftsShiftRow.laid w) false (World.doorLaid Tryz.prog 400 os) #[.slice none 0 0,.bool false] 8 rfl (World.shaped_of_RefB (by kernel_rfl) (by kernel_rfl)) (by kernel_rfl) (by kernel_rfl) (by kernel_rfl) (ajM os _)) ?_
 intro W base args aG gs before ajP mo _ _ dV _;have tJ:∀ (j:Nat) t v,Tryz.f3.params[j]?=some t->args[j]?=some v->Value.okWide Tryz.prog W .any base t v:=ajP;have Bq:=mo;obtain⟨p,q,hA,gM,rfl,NB,jA⟩:=mo;have aj:DataW.TrodAll enc Tryz.prog W 0 (fun _=>true) true Tryz.f3.params.toList args.toList aG p:=hA;rw[Tryz.params3]at aj tJ;obtain⟨v0,v1,d0,d1,My,h8,rfl,rfl,rfl,aN,J⟩:=trodAll_two aj;obtain⟨rfl,rfl⟩:=trodVars_none gM;obtain⟨qz,q8,w9⟩:=Y7 (g:=g3) (by decide) Tryz.underlying23 (by kernel_rfl) (Zk b0 12 84 g3 (by kernel_rfl)) (tJ 0 23 v0 rfl rfl) aN;obtain⟨oh,rfl,rfl,rfl⟩:=open_bool Tryz.underlying4 (tJ 1 4 v1 rfl rfl) J;have ajQ:=AC.law (W:=W) (ajz qz oh none true (ajr (N:=6000) (by decide) (ajx 0) qz (fun z bG=>ajy (q8 z bG)) oh)) (ajA dV) (vs:=[v0,.bool oh]) ⟨v0,_,rfl,w9 _,.bool oh,_,rfl,rfl,rfl⟩;refine Calls.mono ajQ fun e da ⟨v,he,aC,hw⟩=>?_
 subst aC;exact⟨_,he,UA Bq rfl rfl (by kernel_rfl) Tryz.underlying4 Tryz.laidOut ajN hw⟩
theorem ajR:Rows.ShiftsShiftSaid:=
 OpenClaim.holds_of_wide 3 Tryz.f3 rfl rfl rfl rfl rfl rfl rfl ⟨rfl,rfl,rfl,rfl,rfl⟩ rfl rfl rfl rfl rfl (by kernel_rfl) Tryz.func3 (by kernel_rfl)
  (of_decide_eq_true (by kernel_rfl)) (by unfold Func.isWrapper; first | (rw[if_pos (by decide +kernel)]; kernel_rfl) | (rw[if_neg (by decide +kernel)]; exact⟨rfl,rfl⟩))
  (fun os started H enc _=>ajO os started H enc)
theorem shiftsShift_holds:Rows.ShiftsShiftCardSaid:=
 Claim7.holds_tied_plain_at .later [] [.data,.data,.data,.data,.data,.data] true Rows.shiftsShiftCard.stood.harness false
  ajR (fun _ h=>by cases h) (by kernel_rfl) (fun _ h=>by cases h) shiftsShift_row_tie rfl ⟨rfl,rfl⟩ (by kernel_rfl) rfl
  (fun f fn az gX=>by
   obtain rfl:f=3:=Option.some.inj (az.symm.trans (by kernel_rfl));obtain rfl:fn=Tryz.f3:=(Option.some.inj (Tryz.func3.symm.trans gX)).symm;exact⟨by kernel_rfl,fun j t a8=>by
    rw[Tryz.params3]at a8;have hm:t∈[23,4]:=by simpa using Array.mem_of_getElem? a8
    have lW:([23,4].all fun u=>!Tryz.prog.wantsStandIn u)=true:=by kernel_rfl
    exact(show Tryz.prog.wantsStandIn t=false by simpa using List.all_eq_true.1 lW t hm)⟩)
  (by kernel_rfl)
end
end Go.Proofs.YtcheedjfedcbpaaGreatDoor
