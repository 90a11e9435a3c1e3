/- EdgesCast: the program of casting on makes the loops of rows.Cast. -/
import Derived.Test.YtcheedjfedcbpaaGreatDoorEc5
import Derived.Shelf.Strconv.Itoa3
import Derived.Room.Shelf.Join48
set_option linter.unusedSimpArgs false
set_option linter.unusedVariables false
set_option maxRecDepth 100000
namespace Go.Proofs.YtcheedjfedcbpaaGreatDoor
open Go.RowKit
section
open Go.RowKit
theorem QW(N:Nat) {k d:Int} {nd:aq} {y:Int} (ab:k=4\/k=5\/k=6) (ax:d=0\/d=1) (sh:(nd.1=0\/nd.1=1)/\1<=nd.2/\nd.2<=40) (aV:1<=y/\y<=6):pN N (k,(d,(nd,(y,0))))=some 0:=by
 obtain⟨pQ,I8,aw,aF,aW⟩:∃ pQ,wq N=some pQ/\df (.int .u8) dm pQ 4=some (true,(true,(true,false)))/\df (.int .u8) dm pQ 5=some (true,(true,(true,false)))/\df (.int .u8) dm pQ 6=some (true,(true,(true,false))):=⟨_,rfl,rfl,rfl,rfl⟩
 have hm:df (.int .u8) dm pQ k=some (true,(true,(true,false))):=by
  rcases ab with rfl | rfl | rfl
  ·exact aw
  ·exact aF
  ·exact aW
 have ar:qQ N (k,(d,(nd,(y,0))))=some true:=by
  unfold qQ
  apply T.eq
  rcases ax with rfl | rfl<;>simp only[bQ,Int.reduceEq,Int.reduceLT,Int.reduceLE,reduceCtorEq,ck I8,hm,Option.isSome_some,Option.getD_some,ck (CM N sh),show ¬ y < 1 by omega,show ¬ 6 < y by omega]
 unfold pN
 apply T.eq
 simp only[bQ,Int.reduceEq,Int.reduceLT,Int.reduceLE,reduceCtorEq,ck ar]
theorem agd(N:Nat) {d:Int} {y:Int} (ax:d=0\/d=1) (aV:1<=y/\y<=6):pN N (1,(d,((0,0),(y,0))))=some 0:=by
 obtain⟨pQ,I8,hm⟩:∃ pQ,wq N=some pQ/\df (.int .u8) dm pQ 1=some (true,(false,(true,false))):=⟨_,rfl,rfl⟩
 have ai:aR.beq aL ((0:Int),(0:Int)) ((0:Int),(0:Int))=true:=rfl;have ar:qQ N (1,(d,((0,0),(y,0))))=some true:=by
  unfold qQ
  apply T.eq
  rcases ax with rfl | rfl<;>simp only[bQ,Int.reduceEq,Int.reduceLT,Int.reduceLE,reduceCtorEq,ck I8,hm,ai,Option.isSome_some,Option.getD_some,show ¬ y < 1 by omega,show ¬ 6 < y by omega]
 unfold pN
 apply T.eq
 simp only[bQ,Int.reduceEq,Int.reduceLT,Int.reduceLE,reduceCtorEq,ck ar]
theorem age{N:Nat} {op:bL} (h:pN N op=some 0) (ab:op.1=1) (r:Int) (f g:List (List aq)) (ku:List (Bool×List bX)) (jH) (bJ:List cd) (hL:List aq) {A} (ad:ux N=some A) :
  oT N op r f g ku jH bJ hL A=Option.bind (sf N op r f g ku jH bJ hL) fun aO=>some (aO.1,aO.2.1,aO.2.2.1,aO.2.2.2.1,ku,jH,aO.2.2.2.2,hL):=by
 obtain⟨k,op⟩:=op;dsimp only at ab;subst ab;cases ad;unfold oT;rw[h]
 rfl
theorem agf{N:Nat} {op:bL} (h:pN N op=some 0) (ab:op.1=4) (r:Int) (f g:List (List aq)) (ku:List (Bool×List bX)) (jH) (bJ:List cd) (hL:List aq) {A} (ad:ux N=some A) :
  oT N op r f g ku jH bJ hL A=uv N op r f g ku jH bJ hL:=by
 obtain⟨k,op⟩:=op;dsimp only at ab;subst ab;cases ad;unfold oT;rw[h];show Option.bind (uv N _ r f g ku jH bJ hL) _=_;cases uv N ((4:Int),op) r f g ku jH bJ hL<;>rfl
theorem agh{N:Nat} {op:bL} (h:pN N op=some 0) (ab:op.1=6) (r:Int) (f g:List (List aq)) (ku:List (Bool×List bX)) (jH) (bJ:List cd) (hL:List aq) {A} (ad:ux N=some A) :
  oT N op r f g ku jH bJ hL A=uw N op r f g ku jH bJ hL:=by
 obtain⟨k,op⟩:=op;dsimp only at ab;subst ab;cases ad;unfold oT;rw[h];show Option.bind (uw N _ r f g ku jH bJ hL) _=_;cases uw N ((6:Int),op) r f g ku jH bJ hL<;>rfl
theorem QX{N:Nat} {bJ:List cd} {y:Nat} (aV:y < 6) {Y:cd} (cS:bJ[y]?=some Y) (hp:Y.1=true) {nd:aq} (sh:(nd.1=0\/nd.1=1)/\1<=nd.2/\nd.2<=40) {r:Int} (aH:-4<=r/\r<=4) (gX:Y.2.1<=ij nd.1 nd.2 r) (k:Int) (f g:List (List aq)) (ku:List (Bool×List bX)) (jH) (hL:List aq) :
  qV N (k,(1,(nd,((y:Int)+1,0)))) r f g ku jH bJ hL=some (ij nd.1 nd.2 r+1,ij nd.1 nd.2 r,0,r,f,g):=by
 have br:=(List.getElem?_eq_some_iff.1 cS).1;have al:=IT N sh aH;have ai:-1000<=ij nd.1 nd.2 r/\ij nd.1 nd.2 r<=1000:=by
  unfold ij
  split<;>omega
 obtain⟨S,aI⟩:∃ S,S=ij nd.1 nd.2 r:=⟨_,rfl⟩
 rw[<- aI]at al ai gX ⊢;unfold qV
 apply T.eq
 simp only[se aV,bQ,Int.reduceEq,Int.reduceLT,Int.reduceLE,reduceCtorEq,dV cS,ck al,hp,show ¬ S < Y.2.1 by omega]
 (repeat' apply And.intro)<;>first | omega | (simp only[di]; omega) | exact this | rfl | trivial
theorem QY{N:Nat} (bF:5000 < N) {f g:List (List aq)} (aA:iL f) (aM:iL g) (bk:(f.flatten++g.flatten).Nodup) {r:Int} (aH:-4<=r/\r<=4) (aa:f.flatten.length+g.flatten.length < 20) (al:qS (gD f g r))
  {bJ:List cd} {y:Nat} (aV:y < 6) {Y:cd} (cS:bJ[y]?=some Y) (aE:oc Y) (hp:Y.1=true) {place e:Int} (ar:Int.tmod place 2≠0/\-13<=place/\place<=179) (br:Y.2.1 < e) (ib:∀ p∈gD f g r,¬ (Y.2.1 < p.2.2/\p.2.2 < e)) (ku:List (Bool×List bX)) (jH) (hL:List aq) :
  qW N ((y:Int)+1) place e r f g ku jH bJ hL=some (0,r,f,g,bJ.set y (true,place,Y.2.2.1,Y.2.2.2.1,Y.2.2.2.2)):=by
 have th:=(List.getElem?_eq_some_iff.1 cS).1;have ag:=QB bF aA aM bk aH aa al;have ai:=afq bF (L:=gD f g r) (by rw[IW]; omega) br ib;have ai1:=aE.hc;have nk:=PT aE hp bF ar (l:=[]) (fun p ar=>by cases ar) (by rw[List.length_nil]; omega);unfold qW
 apply T.eq
 simp only[se aV,bQ,Int.reduceEq,Int.reduceLT,Int.reduceLE,reduceCtorEq,ck ag,dV cS,ck ai,ck nk];refine⟨⟨⟨by omega,by omega⟩,by omega⟩,⟨⟨by omega,by omega⟩,by omega⟩,rfl⟩
theorem agi{N:Nat} {f g:List (List aq)} {a:Nat} (J:f.length < a) (U:a<=40):oP N (f,g) ((0:Int),(a:Int))=some ([],0):=by
 unfold oP
 apply T.eq
 simp only[bQ,Int.reduceEq,Int.reduceLT,Int.reduceLE,reduceCtorEq,ck (CM N (nd:=((0:Int),(a:Int))) ⟨Or.inl rfl,by dsimp only; omega,by dsimp only; omega⟩),show(f.length:Int) < (a:Int) by omega]
theorem agj(N:Nat) (l:List aq) (h:l.length<=100000):lQ N l=some l:=by
 unfold lQ
 apply T.eq
 simp only[bQ,Int.reduceEq,Int.reduceLT,Int.reduceLE,reduceCtorEq,List.length_replicate]
 (repeat' apply And.intro)<;>first | omega | (simp only[di]; omega) | exact this | rfl | trivial
theorem agk{N:Nat} (bF:5000 < N) {f g f' g':List (List aq)} {t:List (List bX)} (aW:t.length=6) (aZ:gL t < 2048) {bJ:List cd} {y:Nat} (aV:y < 6) {Y:cd} (cS:bJ[y]?=some Y) (aE:oc Y) (hp:Y.1=true) (QZ:Y.2.2.1=((t.getD y []).length:Int))
  {nd:aq} {stack thr:List aq} (aw:stack.length<=4) (gW:kT N (f,g) nd (stack++[((y:Int)+1,Y.2.2.1)])=some ((f',g'),0)) (k d r:Int) (jH) (hL:List aq) :
  sg N (k,(d,(nd,((y:Int)+1,0)))) thr stack r f g (own t) jH bJ hL=some (0,r,f',g',own (pK t y (nd.1,(Y.2.2.2.1,(thr,Y.2.2.2.2)))),bJ.set y (true,Y.2.1,Y.2.2.1+1,false,[])):=by
 have th:=(List.getElem?_eq_some_iff.1 cS).1;have nm:=Ct (t:=t) y;have aA:=aE.hc;obtain⟨x,ao⟩:∃ x,t[y]?=some x:=⟨_,List.getElem?_eq_getElem (by omega)⟩
 have zu:t.getD y []=x:=dV ao;rw[zu]at nm QZ;unfold sg
 apply T.eq
 simp only[se aV,bQ,Int.reduceEq,Int.reduceLT,Int.reduceLE,reduceCtorEq,ck (QL (N:=N) t (by omega) (by omega) (by omega)),dV cS,ck (PV aE hp bF (by rw[QZ]; omega)),ck (agj N stack (by omega)),ck gW,oe,wF ao,IY,show ¬ (2048:Int)<=(gL t:Int) by omega,zu,pK,List.length_singleton,List.length_append]
 (repeat' apply And.intro)<;>first | omega | (simp only[di]; omega) | exact this | rfl | trivial
end
section
open Go.RowKit
def kv(y i:Nat):List aq:=(List.range i).map fun(j:Nat)=>((y:Int)+1,(j:Int))
theorem C7(y i:Nat):kv y (i+1)=kv y i++[((y:Int)+1,(i:Int))]:=by simp[kv,List.range_succ]
theorem wG(y i:Nat):(kv y i).length=i:=by simp[kv]
theorem agl{y i:Nat} {a:aq} (h:a∈kv y i):a.1=(y:Int)+1/\0<=a.2/\a.2 < (i:Int):=by
 unfold kv at h;obtain⟨j,aX,rfl⟩:=List.mem_map.1 h;rw[List.mem_range]at aX;exact⟨rfl,by dsimp only; omega,by dsimp only; omega⟩
theorem I9(y:Nat):∀ i,(kv y i).Nodup
 | 0=>List.Pairwise.nil
 | i+1=>by
  rw[C7];refine List.nodup_append.2 ⟨I9 y i,by simp,fun a bq b ai e=>?_⟩;rw[List.mem_singleton]at ai
  have:=(agl bq).2.2
  rw[e,ai]at this;dsimp only at this;omega
def si(i:Nat):List bX:=(List.range i).map fun(j:Nat)=>((0:Int),(decide (j=0),(([]:List aq),([]:List qr))))
theorem agm(i:Nat):si (i+1)=si i++[((0:Int),(decide (i=0),([],[])))]:=by simp[si,List.range_succ]
theorem C8(i:Nat):(si i).length=i:=by simp[si]
def eL(y i:Nat):List (List bX):=(List.replicate 6 []).set y (si i)
def gb(p:Int) (i:Nat):cd:=(true,p,(i:Int),decide (i=0),[])
def e2(y:Nat) (p:Int) (i:Nat):List cd:=(List.replicate 6 (bM.zero:cd)).set y (gb p i)
theorem wH(y i:Nat):(eL y i).length=6:=by simp[eL]
theorem C9{y:Nat} (aV:y < 6) (i:Nat):(eL y i)[y]?=some (si i):=by
 unfold eL;rw[List.getElem?_set,if_pos rfl,if_pos (by simpa using aV)]
theorem Ja{y:Nat} (aV:y < 6) (i:Nat):pK (eL y i) y ((0:Int),(decide (i=0),([],[])))=eL y (i+1):=by
 unfold pK;rw[dV (C9 aV i),<- agm];unfold eL;rw[List.set_set]
theorem Jb{y:Nat} (aV:y < 6):eL y 0=List.replicate 6 []:=by
 unfold eL;exact yZ (by rw[List.getElem?_replicate,if_pos aV]; rfl)
theorem Da{y:Nat} (aV:y < 6):∀ i,gL (eL y i)=i
 | 0=>by rw[Jb aV]; rfl
 | i+1=>by rw[<- Ja aV i,ad1 (by rw[wH]; exact aV),Da aV i]
theorem qX{y:Nat} (aV:y < 6) (p:Int) (i:Nat):(e2 y p i)[y]?=some (gb p i):=by
 unfold e2;rw[List.getElem?_set,if_pos rfl,if_pos (by simpa using aV)]
theorem zz(y:Nat) (p q:Int) (i j:Nat):(e2 y p i).set y (gb q j)=e2 y q j:=by
 unfold e2;rw[List.set_set]
theorem zA{p:Int} (ar:Int.tmod p 2≠0/\-13<=p/\p<=179) {i:Nat} (hi:i<=2048):oc (gb p i):=
 ⟨⟨by show(0:Int)<=(i:Int); omega,by show(i:Int)<=2048; omega⟩,fun h=>(by cases h),fun _=>ar,Nat.zero_le _,fun p ar=>(by cases ar),fun i p q ar=>(by cases ar)⟩
structure pR(A:List Nat):Prop where
 pS:A.Pairwise (· < ·)
 mw:∀ a∈A,1<=a/\a<=39
 hc:A.length<=16
def ej(y:Nat) (A:List Nat):Nat->List (List aq)
 | 0=>[]
 | j+1=>jG (ej y A j) (A.getD j 0) [((y:Int)+1,(j:Int))]
theorem Jc{A:List Nat} (h:pR A) (y:Nat):∀ j,j<=A.length->(j=0/\(ej y A j).length=0)\/∃ i a,j=i+1/\A[i]?=some a/\(ej y A j).length=a
 | 0,_=>Or.inl ⟨rfl,rfl⟩
 | j+1,aX=>by
  obtain⟨a,bq⟩:∃ a,A[j]?=some a:=⟨_,List.getElem?_eq_getElem (by omega)⟩
  refine Or.inr ⟨j,a,rfl,bq,?_⟩;show(jG (ej y A j) (A.getD j 0) _).length=a;rw[dV bq];refine CL ?_ _;have aH:=h.mw a (List.mem_of_getElem? bq)
  rcases Jc h y j (by omega)with⟨_,aP⟩ | ⟨i,b,hi,ai,ag⟩
  ·omega
  ·rw[ag]
   have:=List.pairwise_iff_getElem.1 h.pS i j (by omega) (by omega) (by omega)
   rw[<- (List.getElem?_eq_some_iff.1 bq).2,<- (List.getElem?_eq_some_iff.1 ai).2];exact this
theorem Q0{A:List Nat} (h:pR A) (y:Nat) {j a:Nat} (bq:A[j]?=some a):(ej y A j).length < a:=by
 have br:=(List.getElem?_eq_some_iff.1 bq).1;have aH:=h.mw a (List.mem_of_getElem? bq)
 rcases Jc h y j (by omega)with⟨_,aP⟩ | ⟨i,b,hi,ai,ag⟩
 ·omega
 ·rw[ag]
  have:=List.pairwise_iff_getElem.1 h.pS i j (by omega) (by omega) (by omega)
  rw[<- (List.getElem?_eq_some_iff.1 bq).2,<- (List.getElem?_eq_some_iff.1 ai).2];exact this
theorem Jd{A:List Nat} (y:Nat) {j a:Nat} (bq:A[j]?=some a):ej y A (j+1)=jG (ej y A j) a [((y:Int)+1,(j:Int))]:=by
 show jG _ (A.getD j 0) _=_;rw[dV bq]
theorem Db(y:Nat) (A:List Nat):∀ j,(ej y A j).flatten=kv y j
 | 0=>rfl
 | j+1=>by
  show(jG _ _ _).flatten=_;rw[aeN,Db y A j,C7]
theorem Dc{A:List Nat} (h:pR A) {y:Nat} (aV:y < 6):∀ j,j<=A.length->iL (ej y A j)
 | 0,_=>⟨Nat.zero_le _,fun s al=>(by cases al),fun s al=>(by cases al)⟩
 | j+1,aX=>by
  have uu:=h.hc;obtain⟨a,bq⟩:∃ a,A[j]?=some a:=⟨_,List.getElem?_eq_getElem (by omega)⟩
  have aH:=h.mw a (List.mem_of_getElem? bq);rw[Jd y bq];refine(Dc h aV j (by omega)).put (Q0 h y bq) (by omega) (by simp) fun x ao=>?_
  rw[List.mem_singleton]at ao;rw[ao];exact⟨by dsimp only; omega,by dsimp only; omega,by dsimp only; omega,by dsimp only; omega⟩
def gM(f:List (List aq)):Int:=if f.length=0 then -13 else 4 * (f.length:Int)+3
theorem Dd:iL ([]:List (List aq)):=⟨Nat.zero_le _,fun s al=>(by cases al),fun s al=>(by cases al)⟩
theorem Q1{f:List (List aq)} (h:f.length<=39):Int.tmod (gM f) 2≠0/\-13<=gM f/\gM f<=179:=by
 unfold gM
 split
 ·decide
 ·refine⟨?_,by omega,by omega⟩
  rw[Int.tmod_eq_emod_of_nonneg (by omega)];omega
theorem De(f:List (List aq)) (r:Int):gD f [] r=iM 0 r 0 f:=by
 unfold gD;exact List.append_nil _
theorem Q2{f:List (List aq)} {e:Int}:∀ p∈gD f [] 0,¬ (gM f < p.2.2/\p.2.2 < e):=by
 intro p ar;rw[De]at ar;obtain⟨J,U,ae,aw⟩:=Qz 0 0 f 0 p ar;have al:p.2.2=4 * p.2.1.2+2:=by rw[U]; rfl
 unfold gM
 split
 ·omega
 ·omega
theorem Je{f:List (List aq)} {y j:Nat} (h:f.flatten=kv y j):(f.flatten++([]:List (List aq)).flatten).Nodup:=by
 rw[h];show(kv y j++[]).Nodup;rw[List.append_nil];exact I9 y j
theorem agn{N:Nat} (bF:5000 < N) {y:Nat} (aV:y < 6) {A:List Nat} (h:pR A) {j a:Nat} (bq:A[j]?=some a) :
  uv N (4,(1,((0,(a:Int)),((y:Int)+1,0)))) 0 (ej y A j) [] (own (eL y j)) [] (e2 y (gM (ej y A j)) j) []=some (0,0,ej y A (j+1),[],own (eL y (j+1)),[],e2 y (gM (ej y A (j+1))) (j+1),[]):=by
 have uu:=h.hc;have A9:=(List.getElem?_eq_some_iff.1 bq).1;have aH:=h.mw a (List.mem_of_getElem? bq);have br:=Q0 h y bq;have aE:=Dc h aV j (by omega);have cu:=Db y A j;have sh:=Je cu;have kJ:(ej y A j).flatten.length+([]:List (List aq)).flatten.length < 20:=by
  rw[cu,wG];show j+0 < 20;omega
 have Jf:qS (gD (ej y A j) [] 0):=by rw[De]; exact IV _ _ _ _
 have ago:((0:Int)=0\/(0:Int)=1)/\(1:Int)<=(a:Int)/\(a:Int)<=40:=⟨Or.inl rfl,by omega,by omega⟩
 have kb:ij 0 (a:Int) 0=4 * (a:Int)+2:=rfl;have Jg:=Q1 (f:=ej y A j) (by omega);have gX:gM (ej y A j) < 4 * (a:Int)+2:=by
  unfold gM
  split<;>omega
 have ai:=QX (N:=N) aV (qX aV (gM (ej y A j)) j) rfl (nd:=((0:Int),(a:Int))) ago (r:=0) ⟨by decide,by decide⟩ (by rw[kb]; exact Int.le_of_lt gX) 4 (ej y A j) [] (own (eL y j)) [] [];rw[kb]at ai;have Q3:Int.tmod (4 * (a:Int)+2+1) 2≠0/\-13<=4 * (a:Int)+2+1/\4 * (a:Int)+2+1<=179:=by
  refine⟨?_,by omega,by omega⟩;rw[Int.tmod_eq_emod_of_nonneg (by omega)];omega
 have aa:=QY bF aE Dd sh (r:=0) ⟨by decide,by decide⟩ kJ Jf aV (qX aV (gM (ej y A j)) j) (zA Jg (by omega)) rfl Q3 (e:=4 * (a:Int)+2) gX Q2 (own (eL y j)) [] [];have Jh:(e2 y (gM (ej y A j)) j).set y (true,4 * (a:Int)+2+1,(gb (gM (ej y A j)) j).2.2.1,(gb (gM (ej y A j)) j).2.2.2.1,(gb (gM (ej y A j)) j).2.2.2.2)=e2 y (4 * (a:Int)+2+1) j:=zz y _ _ j j;rw[Jh]at aa;have dZ:=agi (N:=N) (g:=[]) br (by omega:a<=40);have gW:=aeV bF aE Dd aeK br (by omega:a<=40) (s:=[((y:Int)+1,(j:Int))]) (by simp) (by simp) (by
  intro x ao;rw[List.mem_singleton]at ao;rw[ao];exact⟨by dsimp only; omega,by dsimp only; omega,by dsimp only; omega,by dsimp only; omega⟩) (by
  rw[cu];show((kv y j++[])++_).Nodup;rw[List.append_nil,<- C7];exact I9 y (j+1)) (by omega)
 have hm:=agk bF (f:=ej y A j) (g:=[]) (f':=jG (ej y A j) a [((y:Int)+1,(j:Int))]) (g':=[]) (wH y j) (by rw[Da aV]; omega) aV (qX aV (4 * (a:Int)+2+1) j) (zA Q3 (by omega)) rfl (by
  rw[dV (C9 aV j),C8]; rfl) (nd:=((0:Int),(a:Int))) (stack:=[]) (thr:=[]) (by simp) gW 4 1 0 [] []
 have Ji:pK (eL y j) y ((0:Int),((gb (4 * (a:Int)+2+1) j).2.2.2.1,([],(gb (4 * (a:Int)+2+1) j).2.2.2.2)))=eL y (j+1):=Ja aV j;have ko:(e2 y (4 * (a:Int)+2+1) j).set y (true,(gb (4 * (a:Int)+2+1) j).2.1,(gb (4 * (a:Int)+2+1) j).2.2.1+1,false,[])=e2 y (gM (ej y A (j+1))) (j+1):=by
  have aC:gM (ej y A (j+1))=4 * (a:Int)+2+1:=by
   rw[Jd y bq];unfold gM;rw[CL br,if_neg (by omega)];omega
  rw[aC];have a7:((true,(gb (4 * (a:Int)+2+1) j).2.1,(gb (4 * (a:Int)+2+1) j).2.2.1+1,false,[]):cd)=gb (4 * (a:Int)+2+1) (j+1):=by
   unfold gb;rw[show decide (j+1=0)=false from decide_eq_false (by omega)]
   rfl
  rw[a7];exact zz y _ _ j (j+1)
 dsimp only at hm;rw[Ji,ko]at hm;unfold uv
 apply T.eq
 simp only[bQ,Int.reduceEq,Int.reduceLT,Int.reduceLE,reduceCtorEq,ck ai,ck aa,ck dZ,ck hm];rw[Jd y bq]
theorem agp{N:Nat} (bF:5000 < N) {y:Nat} (aV:y < 6) {A:List Nat} (h:pR A) :
  uw N (6,(1,((0,40),((y:Int)+1,0)))) 0 (ej y A A.length) [] (own (eL y A.length)) [] (e2 y (gM (ej y A A.length)) A.length) []=some (0,0,ej y A A.length,[],own (eL y A.length),[],e2 y 163 A.length,[]):=by
 have uu:=h.hc;have aE:=Dc h aV A.length (Nat.le_refl _);have cu:=Db y A A.length;have sh:=Je cu;have hlen:(ej y A A.length).length<=39:=by
  rcases Jc h y A.length (Nat.le_refl _)with⟨_,aP⟩ | ⟨i,b,hi,ai,ag⟩
  ·omega
  ·have:=h.mw b (List.mem_of_getElem? ai)
   omega
 have kJ:(ej y A A.length).flatten.length+([]:List (List aq)).flatten.length < 20:=by
  rw[cu,wG];show A.length+0 < 20;omega
 have Jf:qS (gD (ej y A A.length) [] 0):=by rw[De]; exact IV _ _ _ _
 have kb:ij 0 (40:Int) 0=162:=rfl;have Jg:=Q1 (f:=ej y A A.length) hlen;have gX:gM (ej y A A.length) < 162:=by
  unfold gM
  split<;>omega
 have ai:=QX (N:=N) aV (qX aV (gM (ej y A A.length)) A.length) rfl (nd:=((0:Int),(40:Int))) ⟨Or.inl rfl,by decide,by decide⟩ (r:=0) ⟨by decide,by decide⟩ (by rw[kb]; exact Int.le_of_lt gX) 6 (ej y A A.length) [] (own (eL y A.length)) [] [];rw[kb]at ai;have aa:=QY bF aE Dd sh (r:=0) ⟨by decide,by decide⟩ kJ Jf aV (qX aV (gM (ej y A A.length)) A.length) (zA Jg (by omega)) rfl (place:=162+1) (by decide) (e:=162+1) (by show gM (ej y A A.length) < 162+1; omega) Q2 (own (eL y A.length)) [] [];have Jh:(e2 y (gM (ej y A A.length)) A.length).set y (true,(162:Int)+1,(gb (gM (ej y A A.length)) A.length).2.2.1,(gb (gM (ej y A A.length)) A.length).2.2.2.1,(gb (gM (ej y A A.length)) A.length).2.2.2.2)=e2 y 163 A.length:=zz y _ _ A.length A.length;rw[Jh]at aa;unfold uw
 apply T.eq
 simp only[bQ,Int.reduceEq,Int.reduceLT,Int.reduceLE,reduceCtorEq,ck ai,ck aa]
theorem agq{N:Nat} (bF:5000 < N) {y:Nat} (aV:y < 6) (ku:List (Bool×List bX)) (jH) (hL:List aq) :
  sf N (1,(0,((0,0),((y:Int)+1,0)))) 0 [] [] ku jH (List.replicate 6 (bM.zero:cd)) hL=some (0,0,[],[],e2 y (-13) 0):=by
 have Jj:(List.replicate 6 (bM.zero:cd))[y]?=some bM.zero:=by rw[List.getElem?_replicate,if_pos aV]
 have aE:oc (bM.zero:cd):=⟨⟨Int.le_refl _,by decide⟩,fun _=>⟨rfl,rfl,rfl⟩,fun h=>(by cases h),by decide,fun p ar=>(by cases ar),fun i p q ar=>(by cases ar)⟩
 have he:=PU aE rfl bF (side:=0) (Or.inl rfl);unfold sf
 apply T.eq
 simp only[se aV,bQ,Int.reduceEq,Int.reduceLT,Int.reduceLE,reduceCtorEq,dV Jj,ck he,List.length_replicate];refine⟨by(repeat' apply And.intro)<;>first | omega | (simp only[di]; omega) | exact this | rfl | trivial,by(repeat' apply And.intro)<;>first | omega | (simp only[di]; omega) | exact this | rfl | trivial,by(repeat' apply And.intro)<;>first | omega | (simp only[di]; omega) | exact this | rfl | trivial,rfl⟩
end
section
open Go.RowKit
def lB(y:Nat) (A:List Nat):List bL:=
 (1,(0,((0,0),((y:Int)+1,0)))) :: (A.map (fun(a:Nat)=>((4,(1,((0,(a:Int)),((y:Int)+1,0)))):bL))++[(6,(1,((0,40),((y:Int)+1,0))))])
theorem wI(y:Nat) (A:List Nat):(lB y A).length=A.length+2:=by simp[lB]
theorem Q4{y:Nat} {A:List Nat} {j a:Nat} (h:A[j]?=some a):(lB y A)[j+1]?=some (4,(1,((0,(a:Int)),((y:Int)+1,0)))):=by
 have ag:=(List.getElem?_eq_some_iff.1 h).1;unfold lB;rw[List.getElem?_cons_succ,List.getElem?_append_left (by rw[List.length_map]; exact ag),List.getElem?_map,h]
 rfl
theorem agr(y:Nat) (A:List Nat):(lB y A)[A.length+1]?=some (6,(1,((0,40),((y:Int)+1,0)))):=by
 unfold lB;rw[List.getElem?_cons_succ,List.getElem?_append_right (by rw[List.length_map]; exact Nat.le_refl _),List.length_map,Nat.sub_self]
 rfl
theorem ags{N:Nat} (bF:5000 < N) {y:Nat} (aV:y < 6) {A:List Nat} (h:pR A) {mY} (wJ:ux N=some mY) :
  I7 N (lB y A) N ((0:Int),(0:Int),[],[],mY,[],[],own (eL y 0),List.replicate 6 (bM.zero:cd))=some (.inl ((0:Int),ej y A A.length,[],[],[],own (eL y A.length),e2 y 163 A.length)):=by
 have uu:=h.hc;unfold I7;refine fZ (fun k d=>(k=A.length+2/\d=((0:Int),(0:Int),[],[],mY,[],[],own (eL y 0),List.replicate 6 (bM.zero:cd))) \/
  (∃ j:Nat,j+k=A.length+1/\0 < k/\d=(((j+1:Nat):Int),(0:Int),ej y A j,[],mY,[],[],own (eL y j),e2 y (gM (ej y A j)) j)) \/
  (k=0/\d=(((A.length+2:Nat):Int),(0:Int),ej y A A.length,[],mY,[],[],own (eL y A.length),e2 y 163 A.length))) _ ?_ N (A.length+2) _ (by omega) (Or.inl ⟨rfl,rfl⟩)
 rintro k d rec (⟨ab,rfl⟩ | ⟨j,aX,aP,rfl⟩ | ⟨ab,rfl⟩) c1
 ·have zB:oT N (1,(0,((0,0),((y:Int)+1,0)))) 0 [] [] (own (eL y 0)) [] (List.replicate 6 (bM.zero:cd)) [] mY=some (0,0,[],[],own (eL y 0),[],e2 y (-13) 0,[]):=by
   rw[age (agd N (Or.inl rfl) ⟨by omega,by omega⟩) rfl 0 [] [] _ _ _ _ wJ,agq bF aV]
   rfl
  have az:(lB y A)[0]?=some (1,(0,((0,0),((y:Int)+1,0)))):=rfl;have this:T (rec ((0:Int)+1,(0:Int),[],[],mY,[],[],own (eL y 0),e2 y (-13) 0)) (·=.inl ((0:Int),ej y A A.length,[],[],[],own (eL y A.length),e2 y 163 A.length)):=
   ⟨_,c1 (A.length+1) _ (by omega) (Or.inr (Or.inl ⟨0,by omega,by omega,rfl⟩)),rfl⟩
  have br:(0:Int) < ((A.length+2:Nat):Int):=by omega
  have aM:(lB y A).getD (0:Int).toNat cY.zero=(1,(0,((0,0),((y:Int)+1,0)))):=dV az
  apply T.eq
  simp only[bQ,Int.reduceEq,Int.reduceLT,Int.reduceLE,reduceCtorEq,wI,br,aM,ck zB]
  (repeat' apply And.intro)<;>first | omega | (simp only[di]; omega) | exact this | rfl | trivial
 ·have br:((j+1:Nat):Int) < ((A.length+2:Nat):Int):=by omega
  by_cases A9:j < A.length
  ·obtain⟨a,bq⟩:∃ a,A[j]?=some a:=⟨_,List.getElem?_eq_getElem A9⟩
   have aH:=h.mw a (List.mem_of_getElem? bq);have zB:oT N (4,(1,((0,(a:Int)),((y:Int)+1,0)))) 0 (ej y A j) [] (own (eL y j)) [] (e2 y (gM (ej y A j)) j) [] mY=some (0,0,ej y A (j+1),[],own (eL y (j+1)),[],e2 y (gM (ej y A (j+1))) (j+1),[]):=by
    rw[agf (QW N (Or.inl rfl) (Or.inr rfl) ⟨Or.inl rfl,by dsimp only; omega,by dsimp only; omega⟩ ⟨by omega,by omega⟩) rfl 0 _ _ _ _ _ _ wJ,agn bF aV h bq]
   have aM:(lB y A).getD ((j+1:Nat):Int).toNat cY.zero=(4,(1,((0,(a:Int)),((y:Int)+1,0)))):=dV (Q4 bq);have this:T (rec (((j+1:Nat):Int)+1,(0:Int),ej y A (j+1),[],mY,[],[],own (eL y (j+1)),e2 y (gM (ej y A (j+1))) (j+1))) (·=.inl ((0:Int),ej y A A.length,[],[],[],own (eL y A.length),e2 y 163 A.length)):=
    ⟨_,c1 (k - 1) _ (by omega) (Or.inr (Or.inl ⟨j+1,by omega,by omega,rfl⟩)),rfl⟩
   apply T.eq
   simp only[bQ,Int.reduceEq,Int.reduceLT,Int.reduceLE,reduceCtorEq,wI,br];rw[show(lB y A).getD (j+1) cY.zero=(4,(1,((0,(a:Int)),((y:Int)+1,0))))from dV (Q4 bq)];simp only[bQ,Int.reduceEq,Int.reduceLT,Int.reduceLE,reduceCtorEq,ck zB]
   (repeat' apply And.intro)<;>first | omega | (simp only[di]; omega) | exact this | rfl | trivial
  ·obtain rfl:j=A.length:=by omega
   have zB:oT N (6,(1,((0,40),((y:Int)+1,0)))) 0 (ej y A A.length) [] (own (eL y A.length)) [] (e2 y (gM (ej y A A.length)) A.length) [] mY=some (0,0,ej y A A.length,[],own (eL y A.length),[],e2 y 163 A.length,[]):=by
    rw[agh (QW N (Or.inr (Or.inr rfl)) (Or.inr rfl) ⟨Or.inl rfl,by decide,by decide⟩ ⟨by omega,by omega⟩) rfl 0 _ _ _ _ _ _ wJ,agp bF aV h]
   have this:T (rec (((A.length+1:Nat):Int)+1,(0:Int),ej y A A.length,[],mY,[],[],own (eL y A.length),e2 y 163 A.length)) (·=.inl ((0:Int),ej y A A.length,[],[],[],own (eL y A.length),e2 y 163 A.length)):=
    ⟨_,c1 (k - 1) _ (by omega) (Or.inr (Or.inr ⟨by omega,rfl⟩)),rfl⟩
   apply T.eq
   simp only[bQ,Int.reduceEq,Int.reduceLT,Int.reduceLE,reduceCtorEq,wI,br];rw[show(lB y A).getD (A.length+1) cY.zero=(6,(1,((0,40),((y:Int)+1,0))))from dV (agr y A)];simp only[bQ,Int.reduceEq,Int.reduceLT,Int.reduceLE,reduceCtorEq,ck zB]
   (repeat' apply And.intro)<;>first | omega | (simp only[di]; omega) | exact this | rfl | trivial
 ·apply T.eq
  simp only[bQ,Int.reduceEq,Int.reduceLT,Int.reduceLE,reduceCtorEq,wI,show ¬ ((A.length+2:Nat):Int) < ((A.length+2:Nat):Int) by omega]
def Df:kP:=((0:Int),(([],[]),(List.replicate 6 (bM.zero:cd),(List.replicate 6 [],([],([],[]))))))
theorem agt(N:Nat):wz N=some Df:=rfl
theorem agu{N:Nat} (bF:5000 < N):IN N Df=some 0:=by
 obtain⟨n,rfl⟩:∃ n,N=n+50:=⟨N - 50,by omega⟩
 rfl
theorem agv{N:Nat} (bF:5000 < N):wC N Df=some (0,[],[],List.replicate 6 (bM.zero:cd),own (List.replicate 6 []),[],[]):=by
 obtain⟨n,rfl⟩:∃ n,N=n+50:=⟨N - 50,by omega⟩
 rfl
theorem agw{N:Nat} (bF:5000 < N) {f:List (List aq)} {t:List (List bX)} (bJ:List cd) (aZ:t.length<=300) (tq:∀ x∈t,x.length<=100000) {ids:List aq} (hi:ids.length<=100000) (cB:pP N (f,[]) 0=some ids) :
  uy N 0 f [] (own t) [] bJ []=some (0,((f,[]),(bJ,(t,([],(ids,[])))))):=by
 have U:C2 N ([]:List cR)=some []:=by
  obtain⟨n,rfl⟩:∃ n,N=n+50:=⟨N - 50,by omega⟩
  kernel_rfl
 have aF:Cq N ([]:List aq)=some []:=by
  obtain⟨n,rfl⟩:∃ n,N=n+50:=⟨N - 50,by omega⟩
  kernel_rfl
 have J:C3 N N ((0:Int),f,[])=some ((0:Int),f,[]):=by
  obtain⟨n,rfl⟩:∃ n,N=n+50:=⟨N - 50,by omega⟩
  rfl
 have ae:zy N (own t) N ((0:Int),(0:Int),f,[],own t)=some ((0:Int),f,[],own t):=by
  unfold zy;refine fZ (fun k d=>∃ i:Nat,i+k=t.length/\d=((i:Int),(0:Int),f,[],own t)) _ ?_ N t.length _ (by omega) ⟨0,by omega,rfl⟩;rintro k d rec ⟨i,hi,rfl⟩ c1
  apply T.eq
  by_cases br:i < t.length
  ·obtain⟨x,ao⟩:∃ x,t[i]?=some x:=⟨_,List.getElem?_eq_getElem br⟩
   have bU:(i:Int) < (t.length:Int):=by omega
   have ka:=tq x (List.mem_of_getElem? ao);have Ek:wB N x=some x:=by
    unfold wB
    apply T.eq
    simp only[bQ,Int.reduceEq,Int.reduceLT,Int.reduceLE,reduceCtorEq,List.length_replicate]
    (repeat' apply And.intro)<;>first | omega | (simp only[di]; omega) | exact this | rfl | trivial
   have this:T (rec ((i:Int)+1,(0:Int),f,[],own t)) (·=((0:Int),f,[],own t)):=⟨_,c1 (k - 1) _ (by omega) ⟨i+1,by omega,rfl⟩,rfl⟩
   simp only[bQ,Int.reduceEq,Int.reduceLT,Int.reduceLE,reduceCtorEq,oe,bU,wF ao,ck Ek,CS ao]
   (repeat' apply And.intro)<;>first | omega | (simp only[di]; omega) | exact this | rfl | trivial
  ·have bU:¬ (i:Int) < (t.length:Int):=by omega
   simp only[bQ,Int.reduceEq,Int.reduceLT,Int.reduceLE,reduceCtorEq,oe,bU]
 have gK:zt N ([]:List cR)=some ([],0):=rfl;have n4:qR N ([]:List aq)=some ([],0):=rfl;have aP:((([]:List (cR×Int)).length:Int))=0:=rfl;unfold uy;rw[lu (by rfl),lu (by rfl),J,Option.bind_some,U,Option.bind_some,ae,Option.bind_some,aF,Option.bind_some,lu rfl,lu rfl,gK,Option.bind_some];show Option.bind (pP N (f,[]) 0) _=_;rw[cB,Option.bind_some,n4,Option.bind_some,QI]
def Jk(y:Nat) (A:List Nat):kP:=((0:Int),((ej y A A.length,[]),(e2 y 163 A.length,(eL y A.length,([],(kv y A.length,[]))))))
theorem agx{N:Nat} (bF:5000 < N) {y:Nat} (aV:y < 6) {A:List Nat} (h:pR A):C6 N Df (lB y A)=some (Jk y A,(((lB y A).length:Nat):Int),0):=by
 have uu:=h.hc;obtain⟨mY,wJ⟩:∃ mY,ux N=some mY:=⟨_,rfl⟩
 have aw:=ags bF aV h wJ;rw[Jb aV]at aw;have cu:=Db y A A.length;have kJ:(ej y A A.length).flatten.length+([]:List (List aq)).flatten.length < 20:=by
  rw[cu,wG];show A.length+0 < 20;omega
 have cB:=afp bF (Dc h aV A.length (Nat.le_refl _)) Dd (Je cu) (r:=0) ⟨by decide,by decide⟩ kJ (by rw[De]; exact IV _ _ _ _);rw[cu]at cB;have al:=agw bF (t:=eL y A.length) (e2 y 163 A.length) (by rw[wH]; omega) (fun x ao=>by
  obtain⟨i,hi⟩:=List.mem_iff_getElem?.1 ao
  have:=Ct (t:=eL y A.length) i
  rw[Da aV,dV hi]at this;omega) (by
  show(kv y A.length++[]).length<=_;rw[List.append_nil,wG];omega) cB
 have hlen:=wI y A;unfold C6
 apply T.eq
 simp only[bQ,Int.reduceEq,Int.reduceLT,Int.reduceLE,reduceCtorEq,hlen,show ¬ (4096:Int) < ((A.length+2:Nat):Int) by omega,ck (agu bF),ck (agv bF),ck wJ,ck aw,ck al];unfold Jk;show _=_;simp only[List.flatten_nil,List.append_nil]
end
section
open Go.RowKit
def mx(y i:Nat):List dI:=(List.range i).map fun(j:Nat)=>((0:Int),[((y:Int)+1,(j:Int))])
theorem Q5(y i:Nat):mx y (i+1)=mx y i++[((0:Int),[((y:Int)+1,(i:Int))])]:=by simp[mx,List.range_succ]
theorem Dg(y i:Nat):(mx y i).length=i:=by simp[mx]
theorem Jl(y:Nat):∀ i,iy (mx y i)=kv y i
 | 0=>rfl
 | i+1=>by
  have bx:=Jl y i;unfold iy at bx ⊢;rw[Q5,List.map_append,List.flatten_append,bx,C7]
  rfl
theorem agy{y:Nat} (aV:y < 6) {p:Int} (ar:Int.tmod p 2≠0/\-13<=p/\p<=179) {i:Nat} (hi:i<=2048):oS (eL y i) 0 y (gb p i):=by
 have aM:((eL y i).getD y []).length=i:=by rw[dV (C9 aV i),C8]
 refine⟨zA ar hi,by rw[aM]; rfl,fun p ar=>(by cases ar),Nat.le_refl _,fun _ h=>?_⟩;rw[aM]at h;show decide (i=0)=true;rw[h]
 rfl
theorem agz{N:Nat} (bF:5000 < N) {y:Nat} (aV:y < 6) {w:Nat} (mg:1<=w) (hw:w<=16) :
  Cj N ((y:Int)+1) (w:Int)=some ((mx y w,(e2 y 179 w,((eL y w,([],(kv y w,[]))),0))),0):=by
 have aP:∀ z:Nat,((List.replicate 6 ([]:List bX)).getD z []).length=0:=by
  intro z;rw[List.getD_eq_getElem?_getD,List.getElem?_replicate]
  split<;>rfl
 have Q6:gL (List.replicate 6 ([]:List bX))=0:=rfl;have Jj:(List.replicate 6 (bM.zero:cd))[y]?=some bM.zero:=by rw[List.getElem?_replicate,if_pos aV]
 have agA:oS (List.replicate 6 []) 0 y (bM.zero:cd):=⟨⟨⟨Int.le_refl _,by decide⟩,fun _=>⟨rfl,rfl,rfl⟩,fun h=>(by cases h),by decide,fun p ar=>(by cases ar),fun i p q ar=>(by cases ar)⟩,by rw[aP]; rfl,fun p ar=>(by cases ar),Nat.le_refl _,fun h=>(by cases h)⟩
 have agB:=afH bF (t:=List.replicate 6 []) rfl (by rw[Q6]; omega) aV Jj agA (fun h=>by cases h) [] (d:=1) (Or.inr rfl) (S:=[]) (by simp) (by simp) (by show 0<=300; omega) (fun a bq=>by cases bq) (by show 0+0<=4096; omega);have agC:wg N=some ([],[],[],own (List.replicate 6 [])):=rfl;unfold Cj
 apply T.eq
 simp only[bQ,Int.reduceEq,Int.reduceLT,Int.reduceLE,reduceCtorEq,ck agC,show ¬ ((y:Int)+1 < 1) by omega,show ¬ (6 < (y:Int)+1) by omega,show ¬ ((w:Int) < 1) by omega,show ¬ (16 < (w:Int)) by omega];refine agB.mono ?_;rintro q ⟨ur,rfl,Q7,agD,gj⟩;have agE:ur=gb (-13) 0:=by
  obtain⟨k2,ke,agF,agG,P1⟩:=ur;have J:k2=true:=Q7;have U:ke=-13:=agD;have ae:agF=0:=gj.pL.trans (by rw[aP]; rfl);have aw:agG=true:=gj.new Q7 (aP y);have aF:P1=[]:=List.length_eq_zero_iff.1 (Nat.le_zero.1 gj.hc);rw[J,U,ae,aw,aF]
  rfl
 subst agE;simp only[bQ,Int.reduceEq,Int.reduceLT,Int.reduceLE,reduceCtorEq];refine⟨by(repeat' apply And.intro)<;>first | omega | (simp only[di]; omega) | exact this | rfl | trivial,?_⟩;have ae:HY N ((y:Int)+1) (w:Int) N ((0:Int),[],[],[],own [],own (List.replicate 6 []),(List.replicate 6 (bM.zero:cd)).set y (gb (-13) 0),[],1,List.replicate w (eC.zero:dI))=some (.inl ([],[],[],own [],own (eL y w),e2 y (-13) w,[],1,mx y w)):=by
  unfold HY;refine fZ (fun k D=>∃ i:Nat,i+k=w/\D=((i:Int),[],[],[],own [],own (eL y i),e2 y (-13) i,[],1,mx y i++List.replicate (w - i) (eC.zero:dI))) _ ?_ N w _ (by omega) ⟨0,by omega,by rw[Jb aV]; rfl⟩;rintro k D rec ⟨i,hi,rfl⟩ c1
  apply T.eq
  by_cases br:i < w
  ·have bU:(i:Int) < (w:Int):=by omega
   have ag:=afJ bF (wH y i) (by rw[Da aV]; omega) aV (qX aV (-13) i) (agy aV (by decide) (by omega)) rfl 0 (thr:=[]) (by simp) [] 1;have Ji:pK (eL y i) y ((0:Int),((gb (-13) i).2.2.2.1,([],(gb (-13) i).2.2.2.2)))=eL y (i+1):=Ja aV i;have ko:(e2 y (-13) i).set y (true,(gb (-13) i).2.1,(gb (-13) i).2.2.1+1,false,[])=e2 y (-13) (i+1):=by
    have a7:((true,(gb (-13) i).2.1,(gb (-13) i).2.2.1+1,false,[]):cd)=gb (-13) (i+1):=by
     unfold gb;rw[show decide (i+1=0)=false from decide_eq_false (by omega)]
     rfl
    rw[a7];exact zz y _ _ i (i+1)
   rw[Ji,ko,dV (C9 aV i),C8]at ag;have agH:List.replicate (w - i) (eC.zero:dI)=eC.zero :: List.replicate (w - (i+1)) eC.zero:=by
    rw[show w - i=(w - (i+1))+1 by omega,List.replicate_succ]
   have gW:(mx y i++eC.zero :: List.replicate (w - (i+1)) (eC.zero:dI)).set i ((0:Int),[((y:Int)+1,(i:Int))])=mx y i++((0:Int),[((y:Int)+1,(i:Int))]) :: List.replicate (w - (i+1)) (eC.zero:dI):=by
    rw[List.set_append_right _ _ (by rw[Dg]; exact Nat.le_refl _),Dg,Nat.sub_self]
    rfl
   have this:=c1 (k - 1) _ (by omega) ⟨i+1,by omega,rfl⟩;rw[Q5,List.append_assoc]at this;have this:T (rec ((i:Int)+1,[],[],[],own [],own (eL y (i+1)),e2 y (-13) (i+1),[],1,mx y i++([((0:Int),[((y:Int)+1,(i:Int))])]++List.replicate (w - (i+1)) (eC.zero:dI)))) (·=.inl ([],[],[],own [],own (eL y w),e2 y (-13) w,[],1,mx y w)):=⟨_,this,rfl⟩
   rw[agH];simp only[bQ,Int.reduceEq,Int.reduceLT,Int.reduceLE,reduceCtorEq,List.length_replicate,bU,ck ag,gW,List.length_append,Dg,List.length_cons]
   (repeat' apply And.intro)<;>first | omega | (simp only[di]; omega) | exact this | rfl | trivial
  ·have bU:¬ (i:Int) < (w:Int):=by omega
   obtain rfl:i=w:=by omega
   simp only[bQ,Int.reduceEq,Int.reduceLT,Int.reduceLE,reduceCtorEq,List.length_replicate,bU]
   simp
 have tR:=QM bF aV (qX aV (-13) w) (zA (by decide) (by omega)) rfl (place:=179) (by decide) (l:=[]) (fun p ar=>by cases ar) (by show 0+0<=4096; omega) [] 1;have ko:(e2 y (-13) w).set y (true,(179:Int),(gb (-13) w).2.2.1,(gb (-13) w).2.2.2.1,ih (gb (-13) w).2.2.2.2 [])=e2 y 179 w:=zz y _ _ w w;rw[ko]at tR;have Q8:=afD (N:=N) [] [] [] (mx y w) [] 1 (eL y w) (e2 y 179 w) bF (by rw[wH]; omega) (by rw[Dg]; omega) (by rw[Jl,wG]; omega);rw[Jl]at Q8;simp only[bQ,Int.reduceEq,Int.reduceLT,Int.reduceLE,reduceCtorEq,ck ae,ck tR,ck Q8]
 rfl
end
section
open Go.RowKit
def Jm(N:Nat) (a0:(List Int)):Nat->Int->Option ((Unit)⊕(Int)):=b5 fun d1 dh=>
  cond (decide (d1 < (a0.length:Int))) (an ((aT d1 a0.length)&&(true)) <|
  an ((dC ((!(cond (decide ((a0.getD d1.toNat 0) < (1:Int))) true (decide ((40:Int) < (a0.getD d1.toNat 0)))))&&(decide ((0:Int) < d1))) (aY (d1 - (1:Int))))&&((dC ((!(cond (decide ((a0.getD d1.toNat 0) < (1:Int))) true (decide ((40:Int) < (a0.getD d1.toNat 0)))))&&(decide ((0:Int) < d1))) (aT (d1 - (1:Int)) a0.length))&&(true))) <|
  cond (cond (cond (decide ((a0.getD d1.toNat 0) < (1:Int))) true (decide ((40:Int) < (a0.getD d1.toNat 0)))) true (cond (decide ((0:Int) < d1)) (decide ((a0.getD d1.toNat 0)<=(a0.getD (d1 - (1:Int)).toNat 0))) false)) (some (.inr (1:Int))) (an ((aY (d1+(1:Int)))&&(true)) <|
  dh (d1+(1:Int)))) (some (.inl ()))
def sj(N:Nat) (a0:(List Int)):Option (Int):=
  Option.bind (Jm N a0 N (0:Int)) fun(aU:(Unit)⊕(Int))=>
  sm aU (fun aU=>
  some (0:Int)) (fun q=>some q)
noncomputable def Jn (N:Nat):bu bE:=b6 N bw (by kernel_rfl) [.c (.a1 (.int .i64))] [] ⟨.a (.c (.int .i64)),[],[]⟩ [] [] (.s .d (.s (.s .d (.b (.fq 0 ⟨[(7,.a (.c (.int .i64)))],[],[0,5,6],[]⟩ ⟨[],[],[],[]⟩ .d))) .d)) [.tmp 2] 30 0 (fun d=>sj N d.1) Tryz.func30 rfl rfl Tryz.ntmps30 rfl rfl rfl (fun d=>by kernel_rfl)
def Dh(N:Nat) (a0:(List bL)) (aj:Int) (a2:List bL):Option (Int×(List bL)):=
  an ((cM 40 (a2.length+a0.length))&&(true)) <|
  some (aj,(a2++a0))
noncomputable def Jo (N:Nat):bu bE:=b6 N bw (by kernel_rfl) [.c (.raw (.ptr 1000000 0)),.c (.a1 cY)] [(1000000,.cells 87 [.raw (.ah 1000001),.int .i64]),(1000001,.row 57 cY)] ⟨.cW [],[(1000000,.cells 87 [.raw (.ah 1000001),.int .i64]),(1000001,.row 57 cY)],[]⟩ [] [] (.d) [] 44 (0,[]) (fun d=>Dh N d.1 d.2.1 d.2.2.1) Tryz.func44 rfl rfl Tryz.ntmps44 rfl rfl rfl (fun d=>by kernel_rfl)
def Q9(N:Nat) (a0:(List Int)):Option ((List Int)):=
  an ((decide (0 < a0.length))&&(true)) <|
  an ((cM 8 (([]:List Int).length+a0.length))&&(true)) <|
  some (([]:List Int)++a0)
noncomputable def agI (N:Nat):bu bE:=b6 N bw (by kernel_rfl) [.c (.a1 (.int .i64))] [] ⟨.a (.c (.raw (.ah 5))),[(5,.row 3 (.int .i64))],[]⟩ [] [] (.s (.r [.n 1,.w (.nil 2 5 3 (.int .i64))]) .d) [.tmp 2] 84 [] (fun d=>Q9 N d.1) Tryz.func84 rfl rfl Tryz.ntmps84 rfl rfl rfl (fun d=>by kernel_rfl)
def uz(N:Nat) (a0:Int) (aj:Int) (a2:List bL):Option (Int×(List bL)):=
  cond (!(decide (aj=a0))) (Option.bind (Dh N [((3:Int),((0:Int),(((0:Int),(0:Int)),((0:Int),a0))))] aj a2) fun ay=>
  some (a0,ay.2)) (some (aj,a2))
noncomputable def Jp (N:Nat):bu bE:=b6 N bw (by kernel_rfl) [.c (.raw (.ptr 1000000 0)),.c (.int .i64)] [(1000000,.cells 87 [.raw (.ah 1000001),.int .i64]),(1000001,.row 57 cY)] ⟨.cW [],[(1000000,.cells 87 [.raw (.ah 1000001),.int .i64]),(1000001,.row 57 cY)],[]⟩ [Jo N] [] (.s .d (.c (.s (.r [.n 4,.w (.c8 13),.c [(1000000,1000000),(1000001,1000001)]]) .d) .d)) [] 34 (0,[]) (fun d=>uz N d.1 d.2.1 d.2.2.1) Tryz.func34 rfl rfl Tryz.ntmps34 rfl rfl rfl (fun d=>by kernel_rfl)
def agJ(N:Nat) (a0:Int) (aj:(List Int)) (a2:Int):Nat->(Int×Int×(List bL))->Option (Int×(List bL)):=b5 fun d1 dh=>
  cond (decide (d1.1 < (aj.length:Int))) (an ((aT d1.1 aj.length)&&(true)) <|
  an ((aY ((aj.getD d1.1.toNat 0) - a2))&&(true)) <|
  Option.bind (Dh N [((7:Int),((0:Int),((a0,((aj.getD d1.1.toNat 0) - a2)),((0:Int),(0:Int)))))] d1.2.1 d1.2.2) fun aO=>
  an ((aY (d1.1+(1:Int)))&&(true)) <|
  dh ((d1.1+(1:Int)),aO.1,aO.2)) (some (d1.2.1,d1.2.2))
def agK(N:Nat) (a0:Int) (aj:(List Int)) (a2:Int) (a3:Int) (a4:List bL):Option (Int×(List bL)):=
  Option.bind (agJ N a0 aj a2 N ((0:Int),a3,a4)) fun aU=>
  some (aU.1,aU.2)
noncomputable def ai2 (N:Nat):bu bE:=b6 N bw (by kernel_rfl) [.c (.raw (.ptr 1000000 0)),.c (.int .u8),.c (.a1 (.int .i64)),.c (.int .i64)] [(1000000,.cells 87 [.raw (.ah 1000001),.int .i64]),(1000001,.row 57 cY)] ⟨.cW [],[(1000000,.cells 87 [.raw (.ah 1000001),.int .i64]),(1000001,.row 57 cY)],[]⟩ [Jo N] [] (.s .d (.b (.eo 0 ⟨[(0,.a (.c (.raw (.ptr 1000000 0)))),(12,.a (.c (.int .i64)))],[(1000000,.cells 87 [.raw (.ah 1000001),.int .i64]),(1000001,.row 57 cY)],[1,3,10,11],[]⟩ ⟨[],[(1000000,.cells 87 [.raw (.ah 1000001),.int .i64]),(1000001,.row 57 cY)],[],[]⟩ (.s .d (.s .d (.s (.b (.s .d (.r [.n 8,.w (.c8 23),.c [(1000000,1000000),(1000001,1000001)]]))) .d)))))) [] 85 (0,[]) (fun d=>agK N d.1 d.2.1 d.2.2.1 d.2.2.2.1 d.2.2.2.2.1) Tryz.func85 rfl rfl Tryz.ntmps85 rfl rfl rfl (fun d=>by kernel_rfl)
def agL(N:Nat) (a0:Int) (aj:Int) (a4:List Int):Nat->(Int×Int×(List bL))->Option (Int×(List bL)):=b5 fun d1 dh=>
  cond (decide (d1.1 < (a4.length:Int))) (an ((aT d1.1 a4.length)&&((decide (d1.1.toNat < a4.length))&&(true))) <|
  an ((aY ((a4.getD d1.1.toNat 0) - aj))&&(true)) <|
  Option.bind (Dh N [((7:Int),((0:Int),((a0,((a4.getD d1.1.toNat 0) - aj)),((0:Int),(0:Int)))))] d1.2.1 d1.2.2) fun aO=>
  an ((aY (d1.1+(1:Int)))&&(true)) <|
  dh ((d1.1+(1:Int)),aO.1,aO.2)) (some (d1.2.1,d1.2.2))
def Jq(N:Nat) (a0:Int) (aj:Int) (a2:Int) (a3:List bL) (a4:List Int):Option (Int×(List bL)):=
  Option.bind (agL N a0 aj a4 N ((0:Int),a2,a3)) fun aU=>
  some (aU.1,aU.2)
noncomputable def agM (N:Nat):bu bE:=b6 N bw (by kernel_rfl) [.c (.raw (.ptr 1000000 0)),.c (.int .u8),.c (.raw (.ah 2000000)),.c (.int .i64)] [(1000000,.cells 87 [.raw (.ah 1000001),.int .i64]),(1000001,.row 57 cY),(2000000,.row 3 (.int .i64))] ⟨.cW [],[(1000000,.cells 87 [.raw (.ah 1000001),.int .i64]),(1000001,.row 57 cY)],[2000000]⟩ [Jo N] [] (.s .d (.b (.eo 0 ⟨[(0,.a (.c (.raw (.ptr 1000000 0)))),(10,.a (.c (.raw (.ah 2000000)))),(12,.a (.c (.int .i64)))],[(1000000,.cells 87 [.raw (.ah 1000001),.int .i64]),(1000001,.row 57 cY)],[1,3,11],[2000000]⟩ ⟨[],[(1000000,.cells 87 [.raw (.ah 1000001),.int .i64]),(1000001,.row 57 cY)],[],[2000000]⟩ (.s .d (.s .d (.s (.b (.s .d (.r [.n 8,.w (.c8 23),.c [(1000000,1000000),(1000001,1000001)]]))) .d)))))) [] 85 (0,[]) (fun d=>Jq N d.1 d.2.1 d.2.2.1 d.2.2.2.1 d.2.2.2.2.1) Tryz.func85 rfl rfl Tryz.ntmps85 rfl rfl rfl (fun d=>by kernel_rfl)
def agN(N:Nat) (gA:Int) (eb:List Int):Nat->(Int×(List Int)×Int)->Option ((List Int)×Int):=b5 fun d7 uh=>
  cond (decide (d7.1 < (eb.length:Int))) (an ((aT d7.1 d7.2.1.length)&&((decide (d7.1.toNat < d7.2.1.length))&&((aY ((d7.2.1.getD d7.1.toNat 0)+(hS (-8:Int) (if gA < (8:Int)then gA else(8:Int)))))&&((aT d7.1 d7.2.1.length)&&(((decide (d7.1.toNat < d7.2.1.length))&&(true))&&(true)))))) <|
  an ((aY (d7.1+(1:Int)))&&(true)) <|
  uh ((d7.1+(1:Int)),(d7.2.1.set d7.1.toNat ((d7.2.1.getD d7.1.toNat 0)+(hS (-8:Int) (if gA < (8:Int)then gA else(8:Int))))),d7.2.2)) (some (d7.2.1,d7.2.2))
def agO(N:Nat) :Nat->(Int×(List Int)×Int×(List bL))->Option (Int×(List bL)):=b5 fun d2 dX=>
  cond (!(decide (d2.1=(0:Int)))) (an ((aY ((-4:Int) - (hS (-8:Int) (if d2.1 < (8:Int)then d2.1 else(8:Int)))))&&((aY ((d2.2.1.length:Int) - (1:Int)))&&((aT ((d2.2.1.length:Int) - (1:Int)) d2.2.1.length)&&((decide (((d2.2.1.length:Int) - (1:Int)).toNat < d2.2.1.length))&&((aY ((d2.2.1.getD ((d2.2.1.length:Int) - (1:Int)).toNat 0) - (40:Int)))&&(true)))))) <|
  an ((aY ((4:Int) - (hS (-8:Int) (if d2.1 < (8:Int)then d2.1 else(8:Int)))))&&((aT (0:Int) d2.2.1.length)&&((decide ((0:Int).toNat < d2.2.1.length))&&((aY ((d2.2.1.getD (0:Int).toNat 0) - (1:Int)))&&(true))))) <|
  Option.bind (uz N (hS (hS (hS (-4:Int) ((-4:Int) - (hS (-8:Int) (if d2.1 < (8:Int)then d2.1 else(8:Int))))) ((d2.2.1.getD ((d2.2.1.length:Int) - (1:Int)).toNat 0) - (40:Int))) (od (od (od (4:Int) ((4:Int) - (hS (-8:Int) (if d2.1 < (8:Int)then d2.1 else(8:Int))))) ((d2.2.1.getD (0:Int).toNat 0) - (1:Int))) d2.2.2.1)) d2.2.2.1 d2.2.2.2) fun bs=>
  Option.bind (Jq N (0:Int) (0:Int) bs.1 bs.2 d2.2.1) fun bH=>
  an ((aY ((hS (hS (hS (-4:Int) ((-4:Int) - (hS (-8:Int) (if d2.1 < (8:Int)then d2.1 else(8:Int))))) ((d2.2.1.getD ((d2.2.1.length:Int) - (1:Int)).toNat 0) - (40:Int))) (od (od (od (4:Int) ((4:Int) - (hS (-8:Int) (if d2.1 < (8:Int)then d2.1 else(8:Int))))) ((d2.2.1.getD (0:Int).toNat 0) - (1:Int))) d2.2.2.1))+(hS (-8:Int) (if d2.1 < (8:Int)then d2.1 else(8:Int)))))&&(true)) <|
  Option.bind (uz N ((hS (hS (hS (-4:Int) ((-4:Int) - (hS (-8:Int) (if d2.1 < (8:Int)then d2.1 else(8:Int))))) ((d2.2.1.getD ((d2.2.1.length:Int) - (1:Int)).toNat 0) - (40:Int))) (od (od (od (4:Int) ((4:Int) - (hS (-8:Int) (if d2.1 < (8:Int)then d2.1 else(8:Int))))) ((d2.2.1.getD (0:Int).toNat 0) - (1:Int))) d2.2.2.1))+(hS (-8:Int) (if d2.1 < (8:Int)then d2.1 else(8:Int)))) bH.1 bH.2) fun b1=>
  Option.bind (Jq N (1:Int) (hS (hS (hS (-4:Int) ((-4:Int) - (hS (-8:Int) (if d2.1 < (8:Int)then d2.1 else(8:Int))))) ((d2.2.1.getD ((d2.2.1.length:Int) - (1:Int)).toNat 0) - (40:Int))) (od (od (od (4:Int) ((4:Int) - (hS (-8:Int) (if d2.1 < (8:Int)then d2.1 else(8:Int))))) ((d2.2.1.getD (0:Int).toNat 0) - (1:Int))) d2.2.2.1)) b1.1 b1.2 d2.2.1) fun cp=>
  Option.bind (agN N d2.1 d2.2.1 N ((0:Int),d2.2.1,cp.1)) fun kR=>
  an ((aY (d2.1 - (hS (-8:Int) (if d2.1 < (8:Int)then d2.1 else(8:Int)))))&&(true)) <|
  dX ((d2.1 - (hS (-8:Int) (if d2.1 < (8:Int)then d2.1 else(8:Int)))),kR.1,kR.2,cp.2)) (some (d2.2.2.1,d2.2.2.2))
def nG(N:Nat) (a0:(List Int)) (aj:Int) (a2:Int) (a3:List bL):Option (Int×(List bL)):=
  Option.bind (Q9 N a0) fun ay=>
  Option.bind (agO N N (aj,ay,a2,a3)) fun bD=>
  some (bD.1,bD.2)
noncomputable def Ra (N:Nat):bu bE:=b6 N bw (by kernel_rfl) [.c (.raw (.ptr 1000000 0)),.c (.a1 (.int .i64)),.c (.int .i64)] [(1000000,.cells 87 [.raw (.ah 1000001),.int .i64]),(1000001,.row 57 cY)] ⟨.cW [],[(1000000,.cells 87 [.raw (.ah 1000001),.int .i64]),(1000001,.row 57 cY)],[]⟩ [agI N,Jp N,agM N] [] (.s (.r [.n 1,.c [(5,12)]]) (.b (.eo 0 ⟨[(0,.a (.c (.raw (.ptr 1000000 0)))),(1,.a (.c (.raw (.ah 12)))),(2,.a (.c (.int .i64)))],[(12,.row 3 (.int .i64)),(1000000,.cells 87 [.raw (.ah 1000001),.int .i64]),(1000001,.row 57 cY)],[],[]⟩ ⟨[],[(1000000,.cells 87 [.raw (.ah 1000001),.int .i64]),(1000001,.row 57 cY)],[],[]⟩ (.s .d (.b (.s .d (.s .d (.s .d (.s .d (.s (.r [.n 2,.c [(1000000,1000000),(1000001,1000001)]]) (.s (.r [.n 2,.c [(1000000,1000000),(1000001,1000001),(2000000,12)]]) (.s (.r [.n 4,.c [(1000000,1000000),(1000001,1000001)]]) (.s (.r [.n 3,.c [(1000000,1000000),(1000001,1000001),(2000000,12)]]) (.s (.s .d (.b (.eo 2 ⟨[(0,.a (.c (.raw (.ptr 1000000 0)))),(1,.a (.c (.raw (.ah 12)))),(60,.a (.c (.int .i64)))],[(12,.row 3 (.int .i64)),(1000000,.cells 87 [.raw (.ah 1000001),.int .i64])],[2,6,59],[1000001]⟩ ⟨[(0,.a (.c (.raw (.ptr 1000000 0)))),(1,.a (.c (.raw (.ah 12))))],[(12,.row 3 (.int .i64)),(1000000,.cells 87 [.raw (.ah 1000001),.int .i64])],[2,6],[1000001]⟩ .d))) .d)))))))))))))) [] 31 (0,[]) (fun d=>nG N d.1 d.2.1 d.2.2.1 d.2.2.2.1) Tryz.func31 rfl rfl Tryz.ntmps31 rfl rfl rfl (fun d=>by kernel_rfl)
def agP(N:Nat) (a0:Int) (aj:(List Int)) (a2:(List Int)):Nat->Int->Option (Int):=b5 fun d1 dh=>
  an ((dC (decide (d1 < (aj.length:Int))) (aT d1 a2.length))&&((dC (decide (d1 < (aj.length:Int))) (aT a0 a2.length))&&(true))) <|
  cond (cond (decide (d1 < (aj.length:Int))) (decide ((a2.getD d1.toNat 0)=(a2.getD a0.toNat 0))) false) (an ((aY (d1+(1:Int)))&&(true)) <|
  dh (d1+(1:Int))) (some d1)
def nH(N:Nat) (a0:Int) (aj:(List Int)) (a2:(List Int)):Option (Int):=
  an ((aY (a0+(1:Int)))&&(true)) <|
  Option.bind (agP N a0 aj a2 N (a0+(1:Int))) fun aU=>
  some aU
noncomputable def Rb (N:Nat):bu bE:=b6 N bw (by kernel_rfl) [.c (.int .i64),.c (.fx (.ah (.int .i64)) 0),.c (.fx (.ah (.int .i64)) 0)] [] ⟨.a (.c (.int .i64)),[],[]⟩ [] [] (.s .d (.s .d (.s (.b (.eo 0 ⟨[(5,.a (.c (.int .i64)))],[],[0,1,2],[]⟩ ⟨[(5,.a (.c (.int .i64)))],[],[],[]⟩ (.s (.s (.o [] [.t 0 0,.t 1 1,.t 2 0,.t 3 0,.t 4 0,.t 5 1,.t 6 0,.t 7 0,.t 8 1,.t 9 1,.t 10 0,.t 11 0,.t 12 1,.t 13 0,.t 14 0] []) .d) .d))) .d))) [.tmp 4] 32 0 (fun d=>nH N d.1 d.2.1 d.2.2.1) Tryz.func32 rfl rfl Tryz.ntmps32 rfl rfl rfl (fun d=>by kernel_rfl)
def agQ(N:Nat) (b:Bool) (a0:(List Int)):Nat->Int->Option ((List (Int×Int×Unit))):=b5 fun d1 dh=>
  cond (decide ((0:Int)<=d1)) (an ((aT d1 a0.length)&&(true)) <|
  r3 b (d1,(a0.getD d1.toNat 0),()) (some [])
  (an ((aY (d1 - (1:Int)))&&(true)) <|
  dh (d1 - (1:Int)))) (some [])
def zC(N:Nat) (b:Bool) (a0:(List Int)):Option (List (Int×Int×Unit)):=
  an ((aY ((a0.length:Int) - (1:Int)))&&(true)) <|
  agQ N b a0 N ((a0.length:Int) - (1:Int))
noncomputable def Rc (N:Nat):lq bE:=HK N bw (by kernel_rfl) [.eS (.ah (.int .i64))] [] [.c (.int .i64),.c (.int .i64)] [] [] (.s .d (.b (.l ⟨[(3,.a (.c (.int .i64)))],[],[0,1],[]⟩ (.s .d (.s (.b (.s (.r [.n 6,.y]) .d)) .d))))) 86 (fun b d=>zC N b d.1) Tryz.func86 rfl rfl Tryz.ntmps86 (fun _=>rfl) rfl rfl (fun id d=>by kernel_rfl)
def zD(N:Nat) (a0:(List Int)):Option ((List Int)):=
  some a0
noncomputable def Rd (N:Nat):bu bE:=b6 N bw (by kernel_rfl) [.c (.a1 (.int .i64))] [] ⟨.a (.c (.fn 86 [.eS (.ah (.int .i64))])),[],[]⟩ [] [] (.s (.r [.n 2,.w (.b8 1 (.ah (.int .i64)))]) .d) [.tmp 2] 33 [] (fun d=>zD N d.1) Tryz.func33 rfl rfl Tryz.ntmps33 rfl rfl rfl (fun d=>by kernel_rfl)
def Jr(N:Nat) (aj:List Int):Nat->Int->Option ((Unit)⊕((List bL)×Nat×Int)):=b5 fun d2 dX=>
  cond (decide (d2 < (aj.length:Int))) (an ((aT d2 aj.length)&&((decide (d2.toNat < aj.length))&&(true))) <|
  an ((dC ((!(cond (decide ((aj.getD d2.toNat 0) < (1:Int))) true (decide ((40:Int) < (aj.getD d2.toNat 0)))))&&(decide ((0:Int) < d2))) (aY (d2 - (1:Int))))&&((dC ((!(cond (decide ((aj.getD d2.toNat 0) < (1:Int))) true (decide ((40:Int) < (aj.getD d2.toNat 0)))))&&(decide ((0:Int) < d2))) (aT (d2 - (1:Int)) aj.length))&&((dC ((!(cond (decide ((aj.getD d2.toNat 0) < (1:Int))) true (decide ((40:Int) < (aj.getD d2.toNat 0)))))&&(decide ((0:Int) < d2))) (decide ((d2 - (1:Int)).toNat < aj.length)))&&(true)))) <|
  cond (cond (cond (decide ((aj.getD d2.toNat 0) < (1:Int))) true (decide ((40:Int) < (aj.getD d2.toNat 0)))) true (cond (decide ((0:Int) < d2)) (decide ((aj.getD d2.toNat 0) < (aj.getD (d2 - (1:Int)).toNat 0))) false)) (some (.inr (([]:List bL),0,(1:Int)))) (an ((aY (d2+(1:Int)))&&(true)) <|
  dX (d2+(1:Int)))) (some (.inl ()))
def Js(N:Nat) (a0:(List Int)) (aj:List Int):Nat->(Int×Int×(List Int)×(List Int)×(List bL))->Option (Int×(List Int)×(List Int)×(List bL)):=b5 fun d5 jc=>
  cond (decide (d5.1 < (a0.length:Int))) (an ((aT d5.1 a0.length)&&(true)) <|
  an ((aY (d5.1+(1:Int)))&&((dC (decide ((d5.1+(1:Int)) < (a0.length:Int))) (aT d5.1 aj.length))&&((dC (decide ((d5.1+(1:Int)) < (a0.length:Int))) (decide (d5.1.toNat < aj.length)))&&((dC (decide ((d5.1+(1:Int)) < (a0.length:Int))) (aY (d5.1+(1:Int))))&&((dC (decide ((d5.1+(1:Int)) < (a0.length:Int))) (aT (d5.1+(1:Int)) aj.length))&&((dC (decide ((d5.1+(1:Int)) < (a0.length:Int))) (decide ((d5.1+(1:Int)).toNat < aj.length)))&&(true))))))) <|
  cond (cond (decide ((d5.1+(1:Int)) < (a0.length:Int))) (decide ((aj.getD d5.1.toNat 0)=(aj.getD (d5.1+(1:Int)).toNat 0))) false) (an ((aY (d5.1+(1:Int)))&&(((decide (0<=d5.1))&&(decide (d5.1<=(d5.1+(1:Int))))&&(decide ((d5.1+(1:Int))<=(a0.length:Int))))&&((aY (d5.1+(1:Int)))&&((aT (d5.1+(1:Int)) a0.length)&&((aY ((a0.getD (d5.1+(1:Int)).toNat 0) - (a0.getD d5.1.toNat 0)))&&(true)))))) <|
  Option.bind (nG N ((a0.take (d5.1+(1:Int)).toNat).drop d5.1.toNat) ((a0.getD (d5.1+(1:Int)).toNat 0) - (a0.getD d5.1.toNat 0)) d5.2.1 d5.2.2.2.2) fun cp=>
  an ((aY (d5.1+(1:Int)))&&(true)) <|
  jc ((d5.1+(1:Int)),cp.1,d5.2.2.1,d5.2.2.2.1,cp.2)) (an ((aT d5.1 aj.length)&&(true)) <|
  an ((cM 8 (d5.2.2.1.length+[(a0.getD d5.1.toNat 0)].length))&&((decide (d5.1.toNat < aj.length))&&((aY ((aj.getD d5.1.toNat 0) - (a0.getD d5.1.toNat 0)))&&((cM 8 (d5.2.2.2.1.length+[((aj.getD d5.1.toNat 0) - (a0.getD d5.1.toNat 0))].length))&&(true))))) <|
  an ((aY (d5.1+(1:Int)))&&(true)) <|
  jc ((d5.1+(1:Int)),d5.2.1,(d5.2.2.1++[(a0.getD d5.1.toNat 0)]),(d5.2.2.2.1++[((aj.getD d5.1.toNat 0) - (a0.getD d5.1.toNat 0))]),d5.2.2.2.2))) (some (d5.2.1,d5.2.2.1,d5.2.2.2.1,d5.2.2.2.2))
def Jt(N:Nat) (b4:Int×(List Int)×(List Int)×(List bL)):Nat->(Int×Int×(List Int))->Option (Int×(List Int)):=b5 fun d10 uA=>
  cond (decide (d10.1 < (b4.2.1.length:Int))) (an ((cM 8 (d10.2.2.length+[d10.1].length))&&(true)) <|
  Option.bind (nH N d10.1 b4.2.1 b4.2.2.1) fun kU=>
  uA (kU,d10.2.1,(d10.2.2++[d10.1]))) (some (d10.2.1,d10.2.2))
def Ju(N:Nat) (b4:Int×(List Int)×(List Int)×(List bL)) (eD:Int×(List Int)):Nat->(Int×(List bL)×Int)->Option ((List bL)×Int):=b5 fun d16 oU=>
  cond (decide (d16.1 < (eD.2.length:Int))) (an ((aT d16.1 eD.2.length)&&(true)) <|
  an ((aT (eD.2.getD d16.1.toNat 0) b4.2.2.1.length)&&(true)) <|
  cond (decide ((b4.2.2.1.getD (eD.2.getD d16.1.toNat 0).toNat 0) < (0:Int))) (an ((aT (eD.2.getD d16.1.toNat 0) b4.2.2.1.length)&&(true)) <|
  Option.bind (nH N (eD.2.getD d16.1.toNat 0) b4.2.1 b4.2.2.1) fun my=>
  an (((decide (0<=(eD.2.getD d16.1.toNat 0)))&&(decide ((eD.2.getD d16.1.toNat 0)<=my))&&(decide (my<=(b4.2.1.length:Int))))&&(true)) <|
  Option.bind (nG N ((b4.2.1.take my.toNat).drop (eD.2.getD d16.1.toNat 0).toNat) (b4.2.2.1.getD (eD.2.getD d16.1.toNat 0).toNat 0) d16.2.2 d16.2.1) fun oV=>
  an ((aY (d16.1+(1:Int)))&&(true)) <|
  oU ((d16.1+(1:Int)),oV.2,oV.1)) (an ((aY (d16.1+(1:Int)))&&(true)) <|
  oU ((d16.1+(1:Int)),d16.2.1,d16.2.2))) (some (d16.2.1,d16.2.2))
def Di(N:Nat) (a0:(List Int)) (aj:List Int):Option ((List bL)×Nat×Int):=
  Option.bind (sj N a0) fun ay=>
  cond (!(decide (ay=(0:Int)))) (some (([]:List bL),0,ay)) (cond (!(decide ((aj.length:Int)=(a0.length:Int)))) (some (([]:List bL),0,(5:Int))) (Option.bind (Jr N aj N (0:Int)) fun(bD:(Unit)⊕((List bL)×Nat×Int))=>
  sm bD (fun bD=>
  Option.bind (Js N a0 aj N ((0:Int),(0:Int),([]:List Int),([]:List Int),([]:List bL))) fun b4=>
  Option.bind (Jt N b4 N ((0:Int),b4.1,([]:List Int))) fun eD=>
  Option.bind (zD N eD.2) fun lA=>
  Option.bind (zC N true lA) fun uB=>jo (fun(gE:Int×Int×Unit) (kx:(List bL)×Int) (oW:(List bL)×Int->Option ((List bL)×Nat×Int))=>
  an ((aT gE.2.1 b4.2.2.1.length)&&(true)) <|
  cond (decide ((0:Int) < (b4.2.2.1.getD gE.2.1.toNat 0))) (an ((aT gE.2.1 b4.2.2.1.length)&&(true)) <|
  Option.bind (nH N gE.2.1 b4.2.1 b4.2.2.1) fun mz=>
  an (((decide (0<=gE.2.1))&&(decide (gE.2.1<=mz))&&(decide (mz<=(b4.2.1.length:Int))))&&(true)) <|
  Option.bind (nG N ((b4.2.1.take mz.toNat).drop gE.2.1.toNat) (b4.2.2.1.getD gE.2.1.toNat 0) kx.2 kx.1) fun oX=>
  oW (oX.2,oX.1)) (oW (kx.1,kx.2))) uB (b4.2.2.2,eD.1) fun mu=>
  Option.bind (Ju N b4 eD N ((0:Int),mu.1,mu.2)) fun oY=>
  Option.bind (uz N (0:Int) oY.2 oY.1) fun uC=>
  Option.bind (wo N uC.2) fun oZ=>
  some (oZ.1,oZ.2,(0:Int))) (fun q=>some q)))
noncomputable def Jv (N:Nat) (aj:List Int):Nat->Int->Option ((Unit)⊕((List bL)×Nat×Int)):=b5 fun d2 dX=>
  cond (decide (d2 < (aj.length:Int))) (an ((aT d2 aj.length)&&((decide (d2.toNat < aj.length))&&(true))) <|
  an ((dC ((!(cond (decide ((aj.getD d2.toNat 0) < (1:Int))) true (decide ((40:Int) < (aj.getD d2.toNat 0)))))&&(decide ((0:Int) < d2))) (aY (d2 - (1:Int))))&&((dC ((!(cond (decide ((aj.getD d2.toNat 0) < (1:Int))) true (decide ((40:Int) < (aj.getD d2.toNat 0)))))&&(decide ((0:Int) < d2))) (aT (d2 - (1:Int)) aj.length))&&((dC ((!(cond (decide ((aj.getD d2.toNat 0) < (1:Int))) true (decide ((40:Int) < (aj.getD d2.toNat 0)))))&&(decide ((0:Int) < d2))) (decide ((d2 - (1:Int)).toNat < aj.length)))&&(true)))) <|
  cond (cond (cond (decide ((aj.getD d2.toNat 0) < (1:Int))) true (decide ((40:Int) < (aj.getD d2.toNat 0)))) true (cond (decide ((0:Int) < d2)) (decide ((aj.getD d2.toNat 0) < (aj.getD (d2 - (1:Int)).toNat 0))) false)) (some (.inr (([]:List bL),0,(1:Int)))) (an ((aY (d2+(1:Int)))&&(true)) <|
  dX (d2+(1:Int)))) (some (.inl ()))
noncomputable def Jw (N:Nat) (a0:(List Int)) (aj:List Int):Nat->(Int×Int×(List Int)×(List Int)×(List bL))->Option (Int×(List Int)×(List Int)×(List bL)):=b5 fun d5 jc=>
  cond (decide (d5.1 < (a0.length:Int))) (an ((aT d5.1 a0.length)&&(true)) <|
  an ((aY (d5.1+(1:Int)))&&((dC (decide ((d5.1+(1:Int)) < (a0.length:Int))) (aT d5.1 aj.length))&&((dC (decide ((d5.1+(1:Int)) < (a0.length:Int))) (decide (d5.1.toNat < aj.length)))&&((dC (decide ((d5.1+(1:Int)) < (a0.length:Int))) (aY (d5.1+(1:Int))))&&((dC (decide ((d5.1+(1:Int)) < (a0.length:Int))) (aT (d5.1+(1:Int)) aj.length))&&((dC (decide ((d5.1+(1:Int)) < (a0.length:Int))) (decide ((d5.1+(1:Int)).toNat < aj.length)))&&(true))))))) <|
  cond (cond (decide ((d5.1+(1:Int)) < (a0.length:Int))) (decide ((aj.getD d5.1.toNat 0)=(aj.getD (d5.1+(1:Int)).toNat 0))) false) (an ((aY (d5.1+(1:Int)))&&(((decide (0<=d5.1))&&(decide (d5.1<=(d5.1+(1:Int))))&&(decide ((d5.1+(1:Int))<=(a0.length:Int))))&&((aY (d5.1+(1:Int)))&&((aT (d5.1+(1:Int)) a0.length)&&((aY ((a0.getD (d5.1+(1:Int)).toNat 0) - (a0.getD d5.1.toNat 0)))&&(true)))))) <|
  Option.bind (nG N ((a0.take (d5.1+(1:Int)).toNat).drop d5.1.toNat) ((a0.getD (d5.1+(1:Int)).toNat 0) - (a0.getD d5.1.toNat 0)) d5.2.1 d5.2.2.2.2) fun cp=>
  an ((aY (d5.1+(1:Int)))&&(true)) <|
  jc ((d5.1+(1:Int)),cp.1,d5.2.2.1,d5.2.2.2.1,cp.2)) (an ((aT d5.1 aj.length)&&(true)) <|
  eu (eu (an ((cM 8 (d5.2.2.1.length+[(a0.getD d5.1.toNat 0)].length))&&((decide (d5.1.toNat < aj.length))&&((aY ((aj.getD d5.1.toNat 0) - (a0.getD d5.1.toNat 0)))&&((cM 8 (d5.2.2.2.1.length+[((aj.getD d5.1.toNat 0) - (a0.getD d5.1.toNat 0))].length))&&(true))))) <|
  an ((aY (d5.1+(1:Int)))&&(true)) <|
  jc ((d5.1+(1:Int)),d5.2.1,(d5.2.2.1++[(a0.getD d5.1.toNat 0)]),(d5.2.2.2.1++[((aj.getD d5.1.toNat 0) - (a0.getD d5.1.toNat 0))]),d5.2.2.2.2)) (an ((decide (d5.1.toNat < aj.length))&&((aY ((aj.getD d5.1.toNat 0) - (a0.getD d5.1.toNat 0)))&&(true))) <|
  eu (an ((cM 8 (d5.2.2.1.length+[(a0.getD d5.1.toNat 0)].length))&&((cM 8 (d5.2.2.2.1.length+[((aj.getD d5.1.toNat 0) - (a0.getD d5.1.toNat 0))].length))&&(true))) <|
  an ((aY (d5.1+(1:Int)))&&(true)) <|
  jc ((d5.1+(1:Int)),d5.2.1,(d5.2.2.1++[(a0.getD d5.1.toNat 0)]),(d5.2.2.2.1++[((aj.getD d5.1.toNat 0) - (a0.getD d5.1.toNat 0))]),d5.2.2.2.2)) (an ((cM 8 (d5.2.2.1.length+[(a0.getD d5.1.toNat 0)].length))&&((cM 8 (d5.2.2.2.1.length+[((aj.getD d5.1.toNat 0) - (a0.getD d5.1.toNat 0))].length))&&(true))) <|
  an ((aY (d5.1+(1:Int)))&&(true)) <|
  jc ((d5.1+(1:Int)),d5.2.1,(d5.2.2.1++[(a0.getD d5.1.toNat 0)]),(d5.2.2.2.1++[((aj.getD d5.1.toNat 0) - (a0.getD d5.1.toNat 0))]),d5.2.2.2.2)))) (an ((decide (d5.1.toNat < aj.length))&&((aY ((aj.getD d5.1.toNat 0) - (a0.getD d5.1.toNat 0)))&&(true))) <|
  eu (eu (an ((cM 8 (d5.2.2.1.length+[(a0.getD d5.1.toNat 0)].length))&&((cM 8 (d5.2.2.2.1.length+[((aj.getD d5.1.toNat 0) - (a0.getD d5.1.toNat 0))].length))&&(true))) <|
  an ((aY (d5.1+(1:Int)))&&(true)) <|
  jc ((d5.1+(1:Int)),d5.2.1,(d5.2.2.1++[(a0.getD d5.1.toNat 0)]),(d5.2.2.2.1++[((aj.getD d5.1.toNat 0) - (a0.getD d5.1.toNat 0))]),d5.2.2.2.2)) (an ((cM 8 (d5.2.2.1.length+[(a0.getD d5.1.toNat 0)].length))&&((cM 8 (d5.2.2.2.1.length+[((aj.getD d5.1.toNat 0) - (a0.getD d5.1.toNat 0))].length))&&(true))) <|
  an ((aY (d5.1+(1:Int)))&&(true)) <|
  jc ((d5.1+(1:Int)),d5.2.1,(d5.2.2.1++[(a0.getD d5.1.toNat 0)]),(d5.2.2.2.1++[((aj.getD d5.1.toNat 0) - (a0.getD d5.1.toNat 0))]),d5.2.2.2.2))) (an ((cM 8 (d5.2.2.1.length+[(a0.getD d5.1.toNat 0)].length))&&((cM 8 (d5.2.2.2.1.length+[((aj.getD d5.1.toNat 0) - (a0.getD d5.1.toNat 0))].length))&&(true))) <|
  an ((aY (d5.1+(1:Int)))&&(true)) <|
  jc ((d5.1+(1:Int)),d5.2.1,(d5.2.2.1++[(a0.getD d5.1.toNat 0)]),(d5.2.2.2.1++[((aj.getD d5.1.toNat 0) - (a0.getD d5.1.toNat 0))]),d5.2.2.2.2))))) (some (d5.2.1,d5.2.2.1,d5.2.2.2.1,d5.2.2.2.2))
noncomputable def Jx (N:Nat) (b4:Int×(List Int)×(List Int)×(List bL)):Nat->(Int×Int×(List Int))->Option (Int×(List Int)):=b5 fun d10 uA=>
  cond (decide (d10.1 < (b4.2.1.length:Int))) (an ((cM 8 (d10.2.2.length+[d10.1].length))&&(true)) <|
  Option.bind (nH N d10.1 b4.2.1 b4.2.2.1) fun kU=>
  uA (kU,d10.2.1,(d10.2.2++[d10.1]))) (some (d10.2.1,d10.2.2))
noncomputable def Jy (N:Nat) (b4:Int×(List Int)×(List Int)×(List bL)) (eD:Int×(List Int)):Nat->(Int×(List bL)×Int)->Option ((List bL)×Int):=b5 fun d16 oU=>
  cond (decide (d16.1 < (eD.2.length:Int))) (an ((aT d16.1 eD.2.length)&&(true)) <|
  an ((aT (eD.2.getD d16.1.toNat 0) b4.2.2.1.length)&&(true)) <|
  cond (decide ((b4.2.2.1.getD (eD.2.getD d16.1.toNat 0).toNat 0) < (0:Int))) (an ((aT (eD.2.getD d16.1.toNat 0) b4.2.2.1.length)&&(true)) <|
  Option.bind (nH N (eD.2.getD d16.1.toNat 0) b4.2.1 b4.2.2.1) fun my=>
  an (((decide (0<=(eD.2.getD d16.1.toNat 0)))&&(decide ((eD.2.getD d16.1.toNat 0)<=my))&&(decide (my<=(b4.2.1.length:Int))))&&(true)) <|
  Option.bind (nG N ((b4.2.1.take my.toNat).drop (eD.2.getD d16.1.toNat 0).toNat) (b4.2.2.1.getD (eD.2.getD d16.1.toNat 0).toNat 0) d16.2.2 d16.2.1) fun oV=>
  an ((aY (d16.1+(1:Int)))&&(true)) <|
  oU ((d16.1+(1:Int)),oV.2,oV.1)) (an ((aY (d16.1+(1:Int)))&&(true)) <|
  oU ((d16.1+(1:Int)),d16.2.1,d16.2.2))) (some (d16.2.1,d16.2.2))
noncomputable def Dj (N:Nat) (a0:(List Int)) (aj:List Int):Option ((List bL)×Nat×Int):=
  Option.bind (sj N a0) fun ay=>
  cond (!(decide (ay=(0:Int)))) (some (([]:List bL),0,ay)) (cond (!(decide ((aj.length:Int)=(a0.length:Int)))) (some (([]:List bL),0,(5:Int))) (Option.bind (Jv N aj N (0:Int)) fun(bD:(Unit)⊕((List bL)×Nat×Int))=>
  sm bD (fun bD=>
  Option.bind (Jw N a0 aj N ((0:Int),(0:Int),([]:List Int),([]:List Int),([]:List bL))) fun b4=>
  Option.bind (Jx N b4 N ((0:Int),b4.1,([]:List Int))) fun eD=>
  Option.bind (zD N eD.2) fun lA=>
  Option.bind (zC N true lA) fun uB=>jo (fun(gE:Int×Int×Unit) (kx:(List bL)×Int) (oW:(List bL)×Int->Option ((List bL)×Nat×Int))=>
  an ((aT gE.2.1 b4.2.2.1.length)&&(true)) <|
  cond (decide ((0:Int) < (b4.2.2.1.getD gE.2.1.toNat 0))) (an ((aT gE.2.1 b4.2.2.1.length)&&(true)) <|
  Option.bind (nH N gE.2.1 b4.2.1 b4.2.2.1) fun mz=>
  an (((decide (0<=gE.2.1))&&(decide (gE.2.1<=mz))&&(decide (mz<=(b4.2.1.length:Int))))&&(true)) <|
  Option.bind (nG N ((b4.2.1.take mz.toNat).drop gE.2.1.toNat) (b4.2.2.1.getD gE.2.1.toNat 0) kx.2 kx.1) fun oX=>
  oW (oX.2,oX.1)) (oW (kx.1,kx.2))) uB (b4.2.2.2,eD.1) fun mu=>
  Option.bind (Jy N b4 eD N ((0:Int),mu.1,mu.2)) fun oY=>
  Option.bind (uz N (0:Int) oY.2 oY.1) fun uC=>
  Option.bind (wo N uC.2) fun oZ=>
  some (oZ.1,oZ.2,(0:Int))) (fun q=>some q)))
theorem sk:Jv=Jr:=by
 unfold Jv Jr
 first | rfl | (simp only[ha]; done) | (funext; simp (disch:=(simp only[hg,cn,hf]; first | done | first | rfl | (refine cV (fun h=>?_) (fun h=>?_); (focus (rw[h]; first | done | (simp only[cn]; first | done | first | rfl | (refine cV (fun h=>?_) (fun h=>?_); (focus (rw[h]; first | done | (simp only[cn]; first | done | first | rfl | (refine cV (fun h=>?_) (fun h=>?_); (focus (rw[h]; first | done | (simp only[cn]; first | done | rfl))); (focus (rw[h]; first | done | simp only[cT,cU])))))); (focus (rw[h]; first | done | simp only[cT,cU])))))); (focus (rw[h]; first | done | simp only[cT,cU]))))) only[hh])
theorem wK:Jw=Js:=by
 unfold Jw Js
 first | (simp only[ha,sk]; done) | (funext; simp (disch:=(simp only[hg,cn,hf]; first | done | first | rfl | (refine cV (fun h=>?_) (fun h=>?_); (focus (rw[h]; first | done | (simp only[cn]; first | done | first | rfl | (refine cV (fun h=>?_) (fun h=>?_); (focus (rw[h]; first | done | (simp only[cn]; first | done | first | rfl | (refine cV (fun h=>?_) (fun h=>?_); (focus (rw[h]; first | done | (simp only[cn]; first | done | rfl))); (focus (rw[h]; first | done | simp only[cT,cU])))))); (focus (rw[h]; first | done | simp only[cT,cU])))))); (focus (rw[h]; first | done | simp only[cT,cU]))))) only[hh,sk]) | rfl
theorem Dk:Jx=Jt:=by
 unfold Jx Jt
 first | (simp only[ha,sk,wK]; done) | (funext; simp (disch:=(simp only[hg,cn,hf]; first | done | first | rfl | (refine cV (fun h=>?_) (fun h=>?_); (focus (rw[h]; first | done | (simp only[cn]; first | done | first | rfl | (refine cV (fun h=>?_) (fun h=>?_); (focus (rw[h]; first | done | (simp only[cn]; first | done | first | rfl | (refine cV (fun h=>?_) (fun h=>?_); (focus (rw[h]; first | done | (simp only[cn]; first | done | rfl))); (focus (rw[h]; first | done | simp only[cT,cU])))))); (focus (rw[h]; first | done | simp only[cT,cU])))))); (focus (rw[h]; first | done | simp only[cT,cU]))))) only[hh,sk,wK]) | rfl
theorem Re:Jy=Ju:=by
 unfold Jy Ju
 first | (simp only[ha,sk,wK,Dk]; done) | (funext; simp (disch:=(simp only[hg,cn,hf]; first | done | first | rfl | (refine cV (fun h=>?_) (fun h=>?_); (focus (rw[h]; first | done | (simp only[cn]; first | done | first | rfl | (refine cV (fun h=>?_) (fun h=>?_); (focus (rw[h]; first | done | (simp only[cn]; first | done | first | rfl | (refine cV (fun h=>?_) (fun h=>?_); (focus (rw[h]; first | done | (simp only[cn]; first | done | rfl))); (focus (rw[h]; first | done | simp only[cT,cU])))))); (focus (rw[h]; first | done | simp only[cT,cU])))))); (focus (rw[h]; first | done | simp only[cT,cU]))))) only[hh,sk,wK,Dk]) | rfl
theorem agR:Dj=Di:=by
 unfold Dj Di
 first | (simp only[ha,sk,wK,Dk,Re]; done) | (funext; simp (disch:=(simp only[hg,cn,hf]; first | done | first | rfl | (refine cV (fun h=>?_) (fun h=>?_); (focus (rw[h]; first | done | (simp only[cn]; first | done | first | rfl | (refine cV (fun h=>?_) (fun h=>?_); (focus (rw[h]; first | done | (simp only[cn]; first | done | first | rfl | (refine cV (fun h=>?_) (fun h=>?_); (focus (rw[h]; first | done | (simp only[cn]; first | done | rfl))); (focus (rw[h]; first | done | simp only[cT,cU])))))); (focus (rw[h]; first | done | simp only[cT,cU])))))); (focus (rw[h]; first | done | simp only[cT,cU]))))) only[hh,sk,wK,Dk,Re]) | rfl
noncomputable def ai3 (N:Nat):bu bE:=lP N bw (by kernel_rfl) [.c (.a1 (.int .i64)),.c (.raw (.ah 2000000))] [(2000000,.row 3 (.int .i64))] ⟨.cW [.c (.iJ cY),.c (.int .i64)],[],[2000000]⟩ [Jn N,Ra N,Rb N,Rd N,Jp N,ID N] [Rc N] (.s .d (.s .d (.s .d (.s (.s .d (.b (.fq 0 ⟨[(1,.a (.c (.raw (.ah 2000000)))),(31,.a (.c (.raw (.ah 2000000)))),(33,.a (.c (.int .i64)))],[],[0,32],[2000000]⟩ ⟨[(1,.a (.c (.raw (.ah 2000000))))],[],[0],[2000000]⟩ .d))) (.s .d (.s (.r [.n 2,.w (.nV 10 0 21 3 (.int .i64)),.w (.nV 11 0 23 3 (.int .i64))]) (.s (.s (.r [.n 3,.w (.nV 9 0 24 57 cY)]) (.b (.eo 2 ⟨[(1,.a (.c (.raw (.ah 2000000)))),(9,.a (.c (.raw (.ptr 9 0)))),(10,.a (.c (.raw (.ptr 10 0)))),(11,.a (.c (.raw (.ptr 11 0)))),(60,.a (.c (.int .i64)))],[(9,.cells 87 [.raw (.ah 24),.int .i64]),(10,.cells 24 [.raw (.ah 21)]),(11,.cells 24 [.raw (.ah 23)]),(21,.row 3 (.int .i64)),(23,.row 3 (.int .i64)),(24,.row 57 cY)],[0,58,59],[2000000]⟩ ⟨[(9,.a (.c (.raw (.ptr 9 0)))),(10,.a (.c (.raw (.ptr 10 0)))),(11,.a (.c (.raw (.ptr 11 0))))],[(9,.cells 87 [.raw (.ah 24),.int .i64]),(10,.cells 24 [.raw (.ah 21)]),(11,.cells 24 [.raw (.ah 23)]),(21,.row 3 (.int .i64)),(23,.row 3 (.int .i64)),(24,.row 57 cY)],[],[2000000]⟩ (.s .d (.s .d (.s (.b (.s .d (.s (.s (.mm [10,11,12,13,14] [.t 0 0,.t 1 0,.t 2 0,.t 3 0,.t 4 0,.t 5 0,.t 6 0,.t 7 0,.t 8 0,.t 9 3,.t 10 0,.t 11 0,.t 12 0,.t 13 0,.t 14 3,.t 15 0,.t 16 0] []) (.c (.s (.o [] [.t 0 0,.t 1 0,.t 2 0,.t 3 0,.t 4 0,.t 5 0,.t 6 0,.t 7 0,.t 8 0,.t 9 1,.t 10 0,.t 11 0,.c 12 [(1000000,9),(1000001,24)]] []) .d) .d)) (.gy [] [0,1,2,3,4,5,6,7,8,9,10,11,1000012,1000013,1000014] (.b [.t 0 3,.t 1 0,.t 4 3,.t 5 0,.t 6 0,.t 7 0,.t 9 0] 2 8 [] [] none none (.b [.f] 3 8 [] [] none none (.f [.f,.k 8,.t 10 0,.k 11,.s 12,.s 13,.s 14]) (.b [.t 10 0] 3 11 [] [] none none (.f [.k 11,.s 12,.s 13,.s 14]) (.f [.k 3,.s 12,.s 13,.s 14]))) (.b [.t 10 0] 2 11 [] [] none none (.b [] 3 11 [] [] none none (.f [.k 11,.s 12,.s 13,.s 14]) (.f [.k 3,.s 12,.s 13,.s 14])) (.f [.k 2,.k 3,.s 12,.s 13,.s 14]))) [] false)))) .d)))))) (.s .d (.s (.r [.n 1,.w (.nil 15 15 3 (.int .i64))]) (.s (.s (.r [.n 1,.w (.c8 21),.w (.b8 10 (.ah (.int .i64))),.w (.c8 23),.w (.b8 11 (.ah (.int .i64)))]) (.b (.eo 4 ⟨[(9,.a (.c (.raw (.ptr 9 0)))),(14,.a (.c (.raw (.ptr 14 0)))),(15,.a (.c (.raw (.ah 15)))),(16,.a (.c (.int .i64)))],[(9,.cells 87 [.raw (.ah 24),.int .i64]),(15,.row 3 (.int .i64))],[10,11],[14,24,2000000]⟩ ⟨[(9,.a (.c (.raw (.ptr 9 0)))),(14,.a (.c (.raw (.ptr 14 0)))),(15,.a (.c (.raw (.ah 15))))],[(9,.cells 87 [.raw (.ah 24),.int .i64]),(15,.row 3 (.int .i64))],[10,11],[14,24,2000000]⟩ .d))) (.s (.s (.r [.n 1,.w (.c8 15)]) (.b (.me [(9,177),(14,182)] ⟨[],[(24,.row 57 cY),(177,.cells 87 [.raw (.ah 24),.int .i64])],[],[182,2000000]⟩ (.b (.s .d (.c (.o [3,4,5,6,7,8,9,1000010] [.t 0 1,.t 1 0,.t 2 3,.t 3 0,.t 6 1,.t 7 0,.t 8 0,.t 9 1,.c 4 [],.t 5 0,.c 10 [(1000000,177),(1000001,24)]] []) .d)))))) (.s (.s .d (.b (.eo 8 ⟨[(9,.a (.c (.raw (.ptr 177 0)))),(14,.a (.c (.raw (.ptr 182 0)))),(143,.a (.c (.int .i64)))],[(24,.row 57 cY),(177,.cells 87 [.raw (.ah 24),.int .i64])],[10,11,141,142],[182,2000000]⟩ ⟨[(9,.a (.c (.raw (.ptr 177 0))))],[(24,.row 57 cY),(177,.cells 87 [.raw (.ah 24),.int .i64])],[],[2000000]⟩ (.s .d (.s .d (.s (.b (.s .d (.s .d (.c (.o [3,4,5,6,7,8,9,1000010] [.t 0 1,.t 1 0,.t 2 3,.t 3 0,.t 6 1,.t 7 0,.t 8 0,.t 9 1,.c 4 [],.t 5 0,.c 10 [(1000000,177),(1000001,24)]] []) .d)))) .d)))))) (.s (.r [.c [(1000000,177),(1000001,24)]]) (.s (.r [.n 2,.w (.c8 24)]) .d)))))))))))))) [.tmp 4,.tmp 5] 9 ([],0,0) (fun d=>Dj N d.1 d.2.1) (fun d=>Di N d.1 d.2.1) (fun d=>(by rw[agR]:Dj N d.1 d.2.1=Di N d.1 d.2.1)) Tryz.func9 rfl rfl Tryz.ntmps9 rfl rfl rfl (fun d=>by kernel_rfl)
def Jz(N:Nat) (aj:(List Int)):Nat->Int->Option ((Unit)⊕((List bL)×Nat×Int)):=b5 fun d2 dX=>
  cond (decide (d2 < (aj.length:Int))) (an ((aT d2 aj.length)&&(true)) <|
  an ((dC ((!(cond (decide ((aj.getD d2.toNat 0) < (1:Int))) true (decide ((40:Int) < (aj.getD d2.toNat 0)))))&&(decide ((0:Int) < d2))) (aY (d2 - (1:Int))))&&((dC ((!(cond (decide ((aj.getD d2.toNat 0) < (1:Int))) true (decide ((40:Int) < (aj.getD d2.toNat 0)))))&&(decide ((0:Int) < d2))) (aT (d2 - (1:Int)) aj.length))&&(true))) <|
  cond (cond (cond (decide ((aj.getD d2.toNat 0) < (1:Int))) true (decide ((40:Int) < (aj.getD d2.toNat 0)))) true (cond (decide ((0:Int) < d2)) (decide ((aj.getD d2.toNat 0) < (aj.getD (d2 - (1:Int)).toNat 0))) false)) (some (.inr (([]:List bL),0,(1:Int)))) (an ((aY (d2+(1:Int)))&&(true)) <|
  dX (d2+(1:Int)))) (some (.inl ()))
def JA(N:Nat) (a0:(List Int)) (aj:(List Int)):Nat->(Int×Int×(List Int)×(List Int)×(List bL))->Option (Int×(List Int)×(List Int)×(List bL)):=b5 fun d5 jc=>
  cond (decide (d5.1 < (a0.length:Int))) (an ((aT d5.1 a0.length)&&(true)) <|
  an ((aY (d5.1+(1:Int)))&&((dC (decide ((d5.1+(1:Int)) < (a0.length:Int))) (aT d5.1 aj.length))&&((dC (decide ((d5.1+(1:Int)) < (a0.length:Int))) (aY (d5.1+(1:Int))))&&((dC (decide ((d5.1+(1:Int)) < (a0.length:Int))) (aT (d5.1+(1:Int)) aj.length))&&(true))))) <|
  cond (cond (decide ((d5.1+(1:Int)) < (a0.length:Int))) (decide ((aj.getD d5.1.toNat 0)=(aj.getD (d5.1+(1:Int)).toNat 0))) false) (an ((aY (d5.1+(1:Int)))&&(((decide (0<=d5.1))&&(decide (d5.1<=(d5.1+(1:Int))))&&(decide ((d5.1+(1:Int))<=(a0.length:Int))))&&((aY (d5.1+(1:Int)))&&((aT (d5.1+(1:Int)) a0.length)&&((aY ((a0.getD (d5.1+(1:Int)).toNat 0) - (a0.getD d5.1.toNat 0)))&&(true)))))) <|
  Option.bind (nG N ((a0.take (d5.1+(1:Int)).toNat).drop d5.1.toNat) ((a0.getD (d5.1+(1:Int)).toNat 0) - (a0.getD d5.1.toNat 0)) d5.2.1 d5.2.2.2.2) fun cp=>
  an ((aY (d5.1+(1:Int)))&&(true)) <|
  jc ((d5.1+(1:Int)),cp.1,d5.2.2.1,d5.2.2.2.1,cp.2)) (an ((aT d5.1 aj.length)&&((aY ((aj.getD d5.1.toNat 0) - (a0.getD d5.1.toNat 0)))&&(true))) <|
  an ((cM 8 (d5.2.2.1.length+[(a0.getD d5.1.toNat 0)].length))&&((cM 8 (d5.2.2.2.1.length+[((aj.getD d5.1.toNat 0) - (a0.getD d5.1.toNat 0))].length))&&(true))) <|
  an ((aY (d5.1+(1:Int)))&&(true)) <|
  jc ((d5.1+(1:Int)),d5.2.1,(d5.2.2.1++[(a0.getD d5.1.toNat 0)]),(d5.2.2.2.1++[((aj.getD d5.1.toNat 0) - (a0.getD d5.1.toNat 0))]),d5.2.2.2.2))) (some (d5.2.1,d5.2.2.1,d5.2.2.2.1,d5.2.2.2.2))
def JB(N:Nat) (b4:Int×(List Int)×(List Int)×(List bL)):Nat->(Int×Int×(List Int))->Option (Int×(List Int)):=b5 fun d10 uA=>
  cond (decide (d10.1 < (b4.2.1.length:Int))) (an ((cM 8 (d10.2.2.length+[d10.1].length))&&(true)) <|
  Option.bind (nH N d10.1 b4.2.1 b4.2.2.1) fun kU=>
  uA (kU,d10.2.1,(d10.2.2++[d10.1]))) (some (d10.2.1,d10.2.2))
def JC(N:Nat) (b4:Int×(List Int)×(List Int)×(List bL)) (eD:Int×(List Int)):Nat->(Int×(List bL)×Int)->Option ((List bL)×Int):=b5 fun d16 oU=>
  cond (decide (d16.1 < (eD.2.length:Int))) (an ((aT d16.1 eD.2.length)&&(true)) <|
  an ((aT (eD.2.getD d16.1.toNat 0) b4.2.2.1.length)&&(true)) <|
  cond (decide ((b4.2.2.1.getD (eD.2.getD d16.1.toNat 0).toNat 0) < (0:Int))) (an ((aT (eD.2.getD d16.1.toNat 0) b4.2.2.1.length)&&(true)) <|
  Option.bind (nH N (eD.2.getD d16.1.toNat 0) b4.2.1 b4.2.2.1) fun my=>
  an (((decide (0<=(eD.2.getD d16.1.toNat 0)))&&(decide ((eD.2.getD d16.1.toNat 0)<=my))&&(decide (my<=(b4.2.1.length:Int))))&&(true)) <|
  Option.bind (nG N ((b4.2.1.take my.toNat).drop (eD.2.getD d16.1.toNat 0).toNat) (b4.2.2.1.getD (eD.2.getD d16.1.toNat 0).toNat 0) d16.2.2 d16.2.1) fun oV=>
  an ((aY (d16.1+(1:Int)))&&(true)) <|
  oU ((d16.1+(1:Int)),oV.2,oV.1)) (an ((aY (d16.1+(1:Int)))&&(true)) <|
  oU ((d16.1+(1:Int)),d16.2.1,d16.2.2))) (some (d16.2.1,d16.2.2))
def zE(N:Nat) (a0:(List Int)) (aj:(List Int)):Option ((List bL)×Nat×Int):=
  Option.bind (sj N a0) fun ay=>
  cond (!(decide (ay=(0:Int)))) (some (([]:List bL),0,ay)) (cond (!(decide ((aj.length:Int)=(a0.length:Int)))) (some (([]:List bL),0,(5:Int))) (Option.bind (Jz N aj N (0:Int)) fun(bD:(Unit)⊕((List bL)×Nat×Int))=>
  sm bD (fun bD=>
  Option.bind (JA N a0 aj N ((0:Int),(0:Int),([]:List Int),([]:List Int),([]:List bL))) fun b4=>
  Option.bind (JB N b4 N ((0:Int),b4.1,([]:List Int))) fun eD=>
  Option.bind (zD N eD.2) fun lA=>
  Option.bind (zC N true lA) fun uB=>jo (fun(gE:Int×Int×Unit) (kx:(List bL)×Int) (oW:(List bL)×Int->Option ((List bL)×Nat×Int))=>
  an ((aT gE.2.1 b4.2.2.1.length)&&(true)) <|
  cond (decide ((0:Int) < (b4.2.2.1.getD gE.2.1.toNat 0))) (an ((aT gE.2.1 b4.2.2.1.length)&&(true)) <|
  Option.bind (nH N gE.2.1 b4.2.1 b4.2.2.1) fun mz=>
  an (((decide (0<=gE.2.1))&&(decide (gE.2.1<=mz))&&(decide (mz<=(b4.2.1.length:Int))))&&(true)) <|
  Option.bind (nG N ((b4.2.1.take mz.toNat).drop gE.2.1.toNat) (b4.2.2.1.getD gE.2.1.toNat 0) kx.2 kx.1) fun oX=>
  oW (oX.2,oX.1)) (oW (kx.1,kx.2))) uB (b4.2.2.2,eD.1) fun mu=>
  Option.bind (JC N b4 eD N ((0:Int),mu.1,mu.2)) fun oY=>
  Option.bind (uz N (0:Int) oY.2 oY.1) fun uC=>
  Option.bind (wo N uC.2) fun oZ=>
  some (oZ.1,oZ.2,(0:Int))) (fun q=>some q)))
noncomputable def JD (N:Nat) (aj:(List Int)):Nat->Int->Option ((Unit)⊕((List bL)×Nat×Int)):=b5 fun d2 dX=>
  cond (decide (d2 < (aj.length:Int))) (an ((aT d2 aj.length)&&(true)) <|
  an ((dC ((!(cond (decide ((aj.getD d2.toNat 0) < (1:Int))) true (decide ((40:Int) < (aj.getD d2.toNat 0)))))&&(decide ((0:Int) < d2))) (aY (d2 - (1:Int))))&&((dC ((!(cond (decide ((aj.getD d2.toNat 0) < (1:Int))) true (decide ((40:Int) < (aj.getD d2.toNat 0)))))&&(decide ((0:Int) < d2))) (aT (d2 - (1:Int)) aj.length))&&(true))) <|
  cond (cond (cond (decide ((aj.getD d2.toNat 0) < (1:Int))) true (decide ((40:Int) < (aj.getD d2.toNat 0)))) true (cond (decide ((0:Int) < d2)) (decide ((aj.getD d2.toNat 0) < (aj.getD (d2 - (1:Int)).toNat 0))) false)) (some (.inr (([]:List bL),0,(1:Int)))) (an ((aY (d2+(1:Int)))&&(true)) <|
  dX (d2+(1:Int)))) (some (.inl ()))
noncomputable def JE (N:Nat) (a0:(List Int)) (aj:(List Int)):Nat->(Int×Int×(List Int)×(List Int)×(List bL))->Option (Int×(List Int)×(List Int)×(List bL)):=b5 fun d5 jc=>
  cond (decide (d5.1 < (a0.length:Int))) (an ((aT d5.1 a0.length)&&(true)) <|
  an ((aY (d5.1+(1:Int)))&&((dC (decide ((d5.1+(1:Int)) < (a0.length:Int))) (aT d5.1 aj.length))&&((dC (decide ((d5.1+(1:Int)) < (a0.length:Int))) (aY (d5.1+(1:Int))))&&((dC (decide ((d5.1+(1:Int)) < (a0.length:Int))) (aT (d5.1+(1:Int)) aj.length))&&(true))))) <|
  cond (cond (decide ((d5.1+(1:Int)) < (a0.length:Int))) (decide ((aj.getD d5.1.toNat 0)=(aj.getD (d5.1+(1:Int)).toNat 0))) false) (an ((aY (d5.1+(1:Int)))&&(((decide (0<=d5.1))&&(decide (d5.1<=(d5.1+(1:Int))))&&(decide ((d5.1+(1:Int))<=(a0.length:Int))))&&((aY (d5.1+(1:Int)))&&((aT (d5.1+(1:Int)) a0.length)&&((aY ((a0.getD (d5.1+(1:Int)).toNat 0) - (a0.getD d5.1.toNat 0)))&&(true)))))) <|
  Option.bind (nG N ((a0.take (d5.1+(1:Int)).toNat).drop d5.1.toNat) ((a0.getD (d5.1+(1:Int)).toNat 0) - (a0.getD d5.1.toNat 0)) d5.2.1 d5.2.2.2.2) fun cp=>
  an ((aY (d5.1+(1:Int)))&&(true)) <|
  jc ((d5.1+(1:Int)),cp.1,d5.2.2.1,d5.2.2.2.1,cp.2)) (an ((aT d5.1 aj.length)&&((aY ((aj.getD d5.1.toNat 0) - (a0.getD d5.1.toNat 0)))&&(true))) <|
  eu (eu (an ((cM 8 (d5.2.2.1.length+[(a0.getD d5.1.toNat 0)].length))&&((cM 8 (d5.2.2.2.1.length+[((aj.getD d5.1.toNat 0) - (a0.getD d5.1.toNat 0))].length))&&(true))) <|
  an ((aY (d5.1+(1:Int)))&&(true)) <|
  jc ((d5.1+(1:Int)),d5.2.1,(d5.2.2.1++[(a0.getD d5.1.toNat 0)]),(d5.2.2.2.1++[((aj.getD d5.1.toNat 0) - (a0.getD d5.1.toNat 0))]),d5.2.2.2.2)) (an ((cM 8 (d5.2.2.1.length+[(a0.getD d5.1.toNat 0)].length))&&((cM 8 (d5.2.2.2.1.length+[((aj.getD d5.1.toNat 0) - (a0.getD d5.1.toNat 0))].length))&&(true))) <|
  an ((aY (d5.1+(1:Int)))&&(true)) <|
  jc ((d5.1+(1:Int)),d5.2.1,(d5.2.2.1++[(a0.getD d5.1.toNat 0)]),(d5.2.2.2.1++[((aj.getD d5.1.toNat 0) - (a0.getD d5.1.toNat 0))]),d5.2.2.2.2))) (an ((cM 8 (d5.2.2.1.length+[(a0.getD d5.1.toNat 0)].length))&&((cM 8 (d5.2.2.2.1.length+[((aj.getD d5.1.toNat 0) - (a0.getD d5.1.toNat 0))].length))&&(true))) <|
  an ((aY (d5.1+(1:Int)))&&(true)) <|
  jc ((d5.1+(1:Int)),d5.2.1,(d5.2.2.1++[(a0.getD d5.1.toNat 0)]),(d5.2.2.2.1++[((aj.getD d5.1.toNat 0) - (a0.getD d5.1.toNat 0))]),d5.2.2.2.2)))) (some (d5.2.1,d5.2.2.1,d5.2.2.2.1,d5.2.2.2.2))
noncomputable def JF (N:Nat) (b4:Int×(List Int)×(List Int)×(List bL)):Nat->(Int×Int×(List Int))->Option (Int×(List Int)):=b5 fun d10 uA=>
  cond (decide (d10.1 < (b4.2.1.length:Int))) (an ((cM 8 (d10.2.2.length+[d10.1].length))&&(true)) <|
  Option.bind (nH N d10.1 b4.2.1 b4.2.2.1) fun kU=>
  uA (kU,d10.2.1,(d10.2.2++[d10.1]))) (some (d10.2.1,d10.2.2))
noncomputable def JG (N:Nat) (b4:Int×(List Int)×(List Int)×(List bL)) (eD:Int×(List Int)):Nat->(Int×(List bL)×Int)->Option ((List bL)×Int):=b5 fun d16 oU=>
  cond (decide (d16.1 < (eD.2.length:Int))) (an ((aT d16.1 eD.2.length)&&(true)) <|
  an ((aT (eD.2.getD d16.1.toNat 0) b4.2.2.1.length)&&(true)) <|
  cond (decide ((b4.2.2.1.getD (eD.2.getD d16.1.toNat 0).toNat 0) < (0:Int))) (an ((aT (eD.2.getD d16.1.toNat 0) b4.2.2.1.length)&&(true)) <|
  Option.bind (nH N (eD.2.getD d16.1.toNat 0) b4.2.1 b4.2.2.1) fun my=>
  an (((decide (0<=(eD.2.getD d16.1.toNat 0)))&&(decide ((eD.2.getD d16.1.toNat 0)<=my))&&(decide (my<=(b4.2.1.length:Int))))&&(true)) <|
  Option.bind (nG N ((b4.2.1.take my.toNat).drop (eD.2.getD d16.1.toNat 0).toNat) (b4.2.2.1.getD (eD.2.getD d16.1.toNat 0).toNat 0) d16.2.2 d16.2.1) fun oV=>
  an ((aY (d16.1+(1:Int)))&&(true)) <|
  oU ((d16.1+(1:Int)),oV.2,oV.1)) (an ((aY (d16.1+(1:Int)))&&(true)) <|
  oU ((d16.1+(1:Int)),d16.2.1,d16.2.2))) (some (d16.2.1,d16.2.2))
noncomputable def Dl (N:Nat) (a0:(List Int)) (aj:(List Int)):Option ((List bL)×Nat×Int):=
  Option.bind (sj N a0) fun ay=>
  cond (!(decide (ay=(0:Int)))) (some (([]:List bL),0,ay)) (cond (!(decide ((aj.length:Int)=(a0.length:Int)))) (some (([]:List bL),0,(5:Int))) (Option.bind (JD N aj N (0:Int)) fun(bD:(Unit)⊕((List bL)×Nat×Int))=>
  sm bD (fun bD=>
  Option.bind (JE N a0 aj N ((0:Int),(0:Int),([]:List Int),([]:List Int),([]:List bL))) fun b4=>
  Option.bind (JF N b4 N ((0:Int),b4.1,([]:List Int))) fun eD=>
  Option.bind (zD N eD.2) fun lA=>
  Option.bind (zC N true lA) fun uB=>jo (fun(gE:Int×Int×Unit) (kx:(List bL)×Int) (oW:(List bL)×Int->Option ((List bL)×Nat×Int))=>
  an ((aT gE.2.1 b4.2.2.1.length)&&(true)) <|
  cond (decide ((0:Int) < (b4.2.2.1.getD gE.2.1.toNat 0))) (an ((aT gE.2.1 b4.2.2.1.length)&&(true)) <|
  Option.bind (nH N gE.2.1 b4.2.1 b4.2.2.1) fun mz=>
  an (((decide (0<=gE.2.1))&&(decide (gE.2.1<=mz))&&(decide (mz<=(b4.2.1.length:Int))))&&(true)) <|
  Option.bind (nG N ((b4.2.1.take mz.toNat).drop gE.2.1.toNat) (b4.2.2.1.getD gE.2.1.toNat 0) kx.2 kx.1) fun oX=>
  oW (oX.2,oX.1)) (oW (kx.1,kx.2))) uB (b4.2.2.2,eD.1) fun mu=>
  Option.bind (JG N b4 eD N ((0:Int),mu.1,mu.2)) fun oY=>
  Option.bind (uz N (0:Int) oY.2 oY.1) fun uC=>
  Option.bind (wo N uC.2) fun oZ=>
  some (oZ.1,oZ.2,(0:Int))) (fun q=>some q)))
theorem sl:JD=Jz:=by
 unfold JD Jz
 first | rfl | (simp only[ha]; done) | (funext; simp (disch:=(simp only[hg,cn,hf]; first | done | first | rfl | (refine cV (fun h=>?_) (fun h=>?_); (focus (rw[h]; first | done | (simp only[cn]; first | done | first | rfl | (refine cV (fun h=>?_) (fun h=>?_); (focus (rw[h]; first | done | (simp only[cn]; first | done | first | rfl | (refine cV (fun h=>?_) (fun h=>?_); (focus (rw[h]; first | done | (simp only[cn]; first | done | rfl))); (focus (rw[h]; first | done | simp only[cT,cU])))))); (focus (rw[h]; first | done | simp only[cT,cU])))))); (focus (rw[h]; first | done | simp only[cT,cU]))))) only[hh])
theorem wL:JE=JA:=by
 unfold JE JA
 first | (simp only[ha,sl]; done) | (funext; simp (disch:=(simp only[hg,cn,hf]; first | done | first | rfl | (refine cV (fun h=>?_) (fun h=>?_); (focus (rw[h]; first | done | (simp only[cn]; first | done | first | rfl | (refine cV (fun h=>?_) (fun h=>?_); (focus (rw[h]; first | done | (simp only[cn]; first | done | first | rfl | (refine cV (fun h=>?_) (fun h=>?_); (focus (rw[h]; first | done | (simp only[cn]; first | done | rfl))); (focus (rw[h]; first | done | simp only[cT,cU])))))); (focus (rw[h]; first | done | simp only[cT,cU])))))); (focus (rw[h]; first | done | simp only[cT,cU]))))) only[hh,sl]) | rfl
theorem Dm:JF=JB:=by
 unfold JF JB
 first | (simp only[ha,sl,wL]; done) | (funext; simp (disch:=(simp only[hg,cn,hf]; first | done | first | rfl | (refine cV (fun h=>?_) (fun h=>?_); (focus (rw[h]; first | done | (simp only[cn]; first | done | first | rfl | (refine cV (fun h=>?_) (fun h=>?_); (focus (rw[h]; first | done | (simp only[cn]; first | done | first | rfl | (refine cV (fun h=>?_) (fun h=>?_); (focus (rw[h]; first | done | (simp only[cn]; first | done | rfl))); (focus (rw[h]; first | done | simp only[cT,cU])))))); (focus (rw[h]; first | done | simp only[cT,cU])))))); (focus (rw[h]; first | done | simp only[cT,cU]))))) only[hh,sl,wL]) | rfl
theorem Rf:JG=JC:=by
 unfold JG JC
 first | (simp only[ha,sl,wL,Dm]; done) | (funext; simp (disch:=(simp only[hg,cn,hf]; first | done | first | rfl | (refine cV (fun h=>?_) (fun h=>?_); (focus (rw[h]; first | done | (simp only[cn]; first | done | first | rfl | (refine cV (fun h=>?_) (fun h=>?_); (focus (rw[h]; first | done | (simp only[cn]; first | done | first | rfl | (refine cV (fun h=>?_) (fun h=>?_); (focus (rw[h]; first | done | (simp only[cn]; first | done | rfl))); (focus (rw[h]; first | done | simp only[cT,cU])))))); (focus (rw[h]; first | done | simp only[cT,cU])))))); (focus (rw[h]; first | done | simp only[cT,cU]))))) only[hh,sl,wL,Dm]) | rfl
theorem agS:Dl=zE:=by
 unfold Dl zE
 first | (simp only[ha,sl,wL,Dm,Rf]; done) | (funext; simp (disch:=(simp only[hg,cn,hf]; first | done | first | rfl | (refine cV (fun h=>?_) (fun h=>?_); (focus (rw[h]; first | done | (simp only[cn]; first | done | first | rfl | (refine cV (fun h=>?_) (fun h=>?_); (focus (rw[h]; first | done | (simp only[cn]; first | done | first | rfl | (refine cV (fun h=>?_) (fun h=>?_); (focus (rw[h]; first | done | (simp only[cn]; first | done | rfl))); (focus (rw[h]; first | done | simp only[cT,cU])))))); (focus (rw[h]; first | done | simp only[cT,cU])))))); (focus (rw[h]; first | done | simp only[cT,cU]))))) only[hh,sl,wL,Dm,Rf]) | rfl
noncomputable def agT (N:Nat):bu bE:=lP N bw (by kernel_rfl) [.c (.a1 (.int .i64)),.c (.a1 (.int .i64))] [] ⟨.cW [.c (.iJ cY),.c (.int .i64)],[],[]⟩ [Jn N,Ra N,Rb N,Rd N,Jp N,ID N] [Rc N] (.s .d (.s .d (.s .d (.s (.s .d (.b (.fq 0 ⟨[(33,.a (.c (.int .i64)))],[],[0,1,31,32],[]⟩ ⟨[],[],[0,1],[]⟩ .d))) (.s .d (.s (.r [.n 2,.w (.nV 10 0 21 3 (.int .i64)),.w (.nV 11 0 23 3 (.int .i64))]) (.s (.s (.r [.n 3,.w (.nV 9 0 24 57 cY)]) (.b (.eo 2 ⟨[(9,.a (.c (.raw (.ptr 9 0)))),(10,.a (.c (.raw (.ptr 10 0)))),(11,.a (.c (.raw (.ptr 11 0)))),(60,.a (.c (.int .i64)))],[(9,.cells 87 [.raw (.ah 24),.int .i64]),(10,.cells 24 [.raw (.ah 21)]),(11,.cells 24 [.raw (.ah 23)]),(21,.row 3 (.int .i64)),(23,.row 3 (.int .i64)),(24,.row 57 cY)],[0,1,58,59],[]⟩ ⟨[(9,.a (.c (.raw (.ptr 9 0)))),(10,.a (.c (.raw (.ptr 10 0)))),(11,.a (.c (.raw (.ptr 11 0))))],[(9,.cells 87 [.raw (.ah 24),.int .i64]),(10,.cells 24 [.raw (.ah 21)]),(11,.cells 24 [.raw (.ah 23)]),(21,.row 3 (.int .i64)),(23,.row 3 (.int .i64)),(24,.row 57 cY)],[],[]⟩ (.s .d (.s .d (.s (.b (.s .d (.s (.s (.o [] [.t 0 0,.t 1 0,.t 2 0,.t 3 0,.t 4 0,.t 5 0,.t 6 0,.t 7 0,.t 8 0,.t 9 1,.t 10 0,.t 11 0,.t 12 0,.t 13 0,.t 14 1,.t 15 0,.t 16 0] []) (.c (.s (.o [] [.t 0 0,.t 1 0,.t 2 0,.t 3 0,.t 4 0,.t 5 0,.t 6 0,.t 7 0,.t 8 0,.t 9 1,.t 10 0,.t 11 0,.c 12 [(1000000,9),(1000001,24)]] []) .d) .d)) (.gy [] [1,2,3,4,5,6,7,8,9,10,11,1000012,1000013,1000014] (.b [.t 0 3,.t 1 0,.t 4 3,.t 5 0,.t 6 0,.t 7 0,.t 8 1,.t 9 0,.t 10 0] 2 11 [] [] none none (.b [] 3 11 [] [] none none (.f [.k 11,.s 12,.s 13,.s 14]) (.f [.k 3,.s 12,.s 13,.s 14])) (.f [.k 2,.k 3,.s 12,.s 13,.s 14])) [] false)))) .d)))))) (.s .d (.s (.r [.n 1,.w (.nil 15 15 3 (.int .i64))]) (.s (.s (.r [.n 1,.w (.c8 21),.w (.b8 10 (.ah (.int .i64))),.w (.c8 23),.w (.b8 11 (.ah (.int .i64)))]) (.b (.eo 4 ⟨[(9,.a (.c (.raw (.ptr 9 0)))),(14,.a (.c (.raw (.ptr 14 0)))),(15,.a (.c (.raw (.ah 15)))),(16,.a (.c (.int .i64)))],[(9,.cells 87 [.raw (.ah 24),.int .i64]),(15,.row 3 (.int .i64))],[10,11],[14,24]⟩ ⟨[(9,.a (.c (.raw (.ptr 9 0)))),(14,.a (.c (.raw (.ptr 14 0)))),(15,.a (.c (.raw (.ah 15))))],[(9,.cells 87 [.raw (.ah 24),.int .i64]),(15,.row 3 (.int .i64))],[10,11],[14,24]⟩ .d))) (.s (.s (.r [.n 1,.w (.c8 15)]) (.b (.me [(9,177),(14,182)] ⟨[],[(24,.row 57 cY),(177,.cells 87 [.raw (.ah 24),.int .i64])],[],[182]⟩ (.b (.s .d (.c (.o [3,4,5,6,7,8,9,1000010] [.t 0 1,.t 1 0,.t 2 3,.t 3 0,.t 6 1,.t 7 0,.t 8 0,.t 9 1,.c 4 [],.t 5 0,.c 10 [(1000000,177),(1000001,24)]] []) .d)))))) (.s (.s .d (.b (.eo 8 ⟨[(9,.a (.c (.raw (.ptr 177 0)))),(14,.a (.c (.raw (.ptr 182 0)))),(143,.a (.c (.int .i64)))],[(24,.row 57 cY),(177,.cells 87 [.raw (.ah 24),.int .i64])],[10,11,141,142],[182]⟩ ⟨[(9,.a (.c (.raw (.ptr 177 0))))],[(24,.row 57 cY),(177,.cells 87 [.raw (.ah 24),.int .i64])],[],[]⟩ (.s .d (.s .d (.s (.b (.s .d (.s .d (.c (.o [3,4,5,6,7,8,9,1000010] [.t 0 1,.t 1 0,.t 2 3,.t 3 0,.t 6 1,.t 7 0,.t 8 0,.t 9 1,.c 4 [],.t 5 0,.c 10 [(1000000,177),(1000001,24)]] []) .d)))) .d)))))) (.s (.r [.c [(1000000,177),(1000001,24)]]) (.s (.r [.n 2,.w (.c8 24)]) .d)))))))))))))) [.tmp 4,.tmp 5] 9 ([],0,0) (fun d=>Dl N d.1 d.2.1) (fun d=>zE N d.1 d.2.1) (fun d=>(by rw[agS]:Dl N d.1 d.2.1=zE N d.1 d.2.1)) Tryz.func9 rfl rfl Tryz.ntmps9 rfl rfl rfl (fun d=>by kernel_rfl)
end
section
open Go.RowKit
def zF(N:Nat) (a0:Int) (aj:(List Int)):Option (Int):=
  Option.bind (cond (!(cond (decide (a0 < (1:Int))) true (decide ((6:Int) < a0)))) (sj N aj) (some 0)) fun ay=>
  cond (cond (cond (cond (decide (a0 < (1:Int))) true (decide ((6:Int) < a0))) true (!(decide (ay=(0:Int))))) true (decide ((aj.length:Int)=(0:Int)))) (some (1:Int)) (some (0:Int))
noncomputable def JH (N:Nat):bu bE:=b6 N bw (by kernel_rfl) [.c (.int .u8),.c (.a1 (.int .i64))] [] ⟨.a (.c (.int .i64)),[],[]⟩ [Jn N] [] (.d) [.tmp 4] 55 0 (fun d=>zF N d.1 d.2.1) Tryz.func55 rfl rfl Tryz.ntmps55 rfl rfl rfl (fun d=>by kernel_rfl)
def JI(N:Nat) (a0:Int) (aj:Int) (a2:Int):Option (bL):=
  some (a0,((1:Int),(((0:Int),aj),(a2,(0:Int)))))
noncomputable def agU (N:Nat):bu bE:=b6 N bw (by kernel_rfl) [.c (.int .u8),.c (.int .i64),.c (.fx (.int .u8) 0)] [] ⟨.a (.cZ cY),[],[]⟩ [] [] (.d) [.cell 5 57] 56 cY.zero (fun d=>JI N d.1 d.2.1 d.2.2.1) Tryz.func56 rfl rfl Tryz.ntmps56 rfl rfl rfl (fun d=>by kernel_rfl)
def agV(N:Nat) (a0:Int) (aj:(List Int)):Nat->(Int×(List bL))->Option ((List bL)):=b5 fun d2 dX=>
  cond (decide (d2.1 < (aj.length:Int))) (an ((aT d2.1 aj.length)&&(true)) <|
  Option.bind (JI N (4:Int) (aj.getD d2.1.toNat 0) a0) fun bs=>
  an ((cM 40 (d2.2.length+[bs].length))&&(true)) <|
  an ((aY (d2.1+(1:Int)))&&(true)) <|
  dX ((d2.1+(1:Int)),(d2.2++[bs]))) (some d2.2)
def agW(N:Nat) (a0:Int) (aj:(List Int)):Option ((List bL)×Int):=
  Option.bind (zF N a0 aj) fun ay=>
  cond (!(decide (ay=(0:Int)))) (some (([]:List bL),ay)) (an ((aY ((aj.length:Int) - (1:Int)))&&((aT ((aj.length:Int) - (1:Int)) aj.length)&&(true))) <|
  cond (decide ((aj.getD ((aj.length:Int) - (1:Int)).toNat 0)=(40:Int))) (some (([]:List bL),(15:Int))) (an ((aY ((aj.length:Int)+(2:Int)))&&(((decide ((0:Int)<=((aj.length:Int)+(2:Int))))&&(e1 40 ((aj.length:Int)+(2:Int))))&&(true))) <|
  an ((cM 40 (([]:List bL).length+[((1:Int),((0:Int),(((0:Int),(0:Int)),(a0,(0:Int)))))].length))&&(true)) <|
  Option.bind (agV N a0 aj N ((0:Int),(([]:List bL)++[((1:Int),((0:Int),(((0:Int),(0:Int)),(a0,(0:Int)))))]))) fun bD=>
  Option.bind (JI N (6:Int) (40:Int) a0) fun bH=>
  an ((cM 40 (bD.length+[bH].length))&&(true)) <|
  some ((bD++[bH]),(0:Int))))
noncomputable def ai4 (N:Nat):bu bE:=b6 N bw (by kernel_rfl) [.c (.int .u8),.c (.a1 (.int .i64))] [] ⟨.cW [.c (.a1 cY),.c (.int .i64)],[],[]⟩ [JH N,agU N] [] (.s (.r [.n 3,.w (.b8 2 (.int .u8)),.w (.nil 4 4 57 cY)]) (.s (.s .d (.s .d (.c (.s (.r [.n 3,.w (.nil 4 4 57 cY)]) (.t [.c8 4])) .d))) (.s (.s .d (.c (.s (.r [.n 2,.w (.nil 4 4 57 cY)]) (.t [.c8 4])) .d)) (.s .d (.s .d (.s .d (.s (.s .d (.b (.eo 0 ⟨[(8,.a (.c (.raw (.ah 27)))),(35,.a (.c (.int .i64)))],[(27,.row 57 cY)],[1,7,34],[]⟩ ⟨[(8,.a (.c (.raw (.ah 27))))],[(27,.row 57 cY)],[7],[]⟩ .d))) (.s .d (.t [.c8 27]))))))))) [.tmp 4,.tmp 5] 18 ([],0) (fun d=>agW N d.1 d.2.1) Tryz.func18 rfl rfl Tryz.ntmps18 rfl rfl rfl (fun d=>by kernel_rfl)
def JJ(N:Nat) (a0:Int) (aj:(List Int)):Option (aq):=
  an ((aT a0 aj.length)&&(true)) <|
  some ((0:Int),(aj.getD a0.toNat 0))
noncomputable def agX (N:Nat):bu bE:=b6 N bw (by kernel_rfl) [.c (.int .i64),.c (.fx (.ah (.int .i64)) 0)] [] ⟨.a (.cZ aL),[],[]⟩ [] [] (.d) [.cell 3 50] 73 aL.zero (fun d=>JJ N d.1 d.2.1) Tryz.func73 rfl rfl Tryz.ntmps73 rfl rfl rfl (fun d=>by kernel_rfl)
def agY(N:Nat) (a0:Int) (aj:(List Int)):Nat->(Int×(List bL))->Option (((List bL))⊕((List bL)×Nat×Int)):=b5 fun d2 dX=>
  cond (decide (d2.1 < (aj.length:Int))) (Option.bind (cond (decide ((0:Int) < d2.1)) (an ((aY (d2.1 - (1:Int)))&&(((decide (0<=(d2.1 - (1:Int))))&&(decide ((d2.1 - (1:Int))<=d2.1))&&(decide (d2.1<=(aj.length:Int))))&&((aY (d2.1+(1:Int)))&&(((decide (0<=d2.1))&&(decide (d2.1<=(d2.1+(1:Int))))&&(decide ((d2.1+(1:Int))<=(aj.length:Int))))&&(true))))) <|
  Option.bind (zE N ((aj.take d2.1.toNat).drop (d2.1 - (1:Int)).toNat) ((aj.take (d2.1+(1:Int)).toNat).drop d2.1.toNat)) fun bH=>
  cond (!(decide (bH.2.2=(0:Int)))) (some (.inr (.inr (([]:List bL),0,bH.2.2)))) (an ((cM 40 (d2.2.length+bH.1.length))&&(true)) <|
  some (.inl (d2.2++bH.1)))) (some (.inl d2.2))) fun(b9:((List bL))⊕(((List bL))⊕((List bL)×Nat×Int)))=>
  sm b9 (fun b9=>
  Option.bind (JJ N d2.1 aj) fun b1=>
  an ((cM 40 (b9.length+[((4:Int),((1:Int),(b1,(a0,(0:Int)))))].length))&&(true)) <|
  an ((aY (d2.1+(1:Int)))&&(true)) <|
  dX ((d2.1+(1:Int)),(b9++[((4:Int),((1:Int),(b1,(a0,(0:Int)))))]))) (fun q=>some q)) (some (.inl d2.2))
def Rg(N:Nat) (a0:Int) (aj:(List Int)):Option ((List bL)×Nat×Int):=
  Option.bind (zF N a0 aj) fun ay=>
  cond (!(decide (ay=(0:Int)))) (some (([]:List bL),0,ay)) (Option.bind (agY N a0 aj N ((0:Int),([]:List bL))) fun(bD:((List bL))⊕((List bL)×Nat×Int))=>
  sm bD (fun bD=>
  an ((aY ((aj.length:Int) - (1:Int)))&&(true)) <|
  Option.bind (JJ N ((aj.length:Int) - (1:Int)) aj) fun cp=>
  an ((cM 40 (bD.length+[((8:Int),((0:Int),(cp,((0:Int),(0:Int)))))].length))&&(true)) <|
  Option.bind (wo N (bD++[((8:Int),((0:Int),(cp,((0:Int),(0:Int)))))])) fun jF=>
  some (jF.1,jF.2,(0:Int))) (fun q=>some q))
noncomputable def agZ (N:Nat):bu bE:=b6 N bw (by kernel_rfl) [.c (.int .u8),.c (.a1 (.int .i64))] [] ⟨.cW [.c (.iJ cY),.c (.int .i64)],[],[]⟩ [JH N,agT N,agX N,ID N] [] (.s (.r [.n 3,.w (.b8 3 (.ah (.int .i64)))]) (.s .d (.s .d (.s (.r [.n 1,.w (.nil 8 8 57 cY)]) (.s (.s .d (.b (.fq 0 ⟨[(8,.a (.c (.raw (.ah 8)))),(21,.a (.c (.int .i64)))],[(8,.row 57 cY)],[0,3,7,20],[]⟩ ⟨[(8,.a (.c (.raw (.ah 8))))],[(8,.row 57 cY)],[3,7],[]⟩ (.s .d (.s .d (.s (.b (.s .d (.BP ⟨[(8,.a (.c (.raw (.ah 8))))],[(8,.row 57 cY)],[0,3,7,9,20,21],[]⟩ (.s .d (.c (.s (.o [] [.t 0 1,.t 1 0,.t 2 0,.t 3 0,.t 4 0,.t 5 1,.t 6 0,.t 7 0,.t 8 0,.t 9 0,.c 10 [],.m 11,.t 12 0,.t 13 0,.t 14 0,.t 15 0] []) .d) .d)) .d))) .d)))))) (.s .d (.s (.r [.n 1,.w (.c8 8)]) .d))))))) [.tmp 4,.tmp 5] 28 ([],0,0) (fun d=>Rg N d.1 d.2.1) Tryz.func28 rfl rfl Tryz.ntmps28 rfl rfl rfl (fun d=>by kernel_rfl)
def ag0(N:Nat) (a0:(List Int)):Nat->Int->Option ((Unit)⊕((List bL)×Int)):=b5 fun d1 dh=>
  cond (decide (d1 < (a0.length:Int))) (an ((aT d1 a0.length)&&(true)) <|
  an ((dC ((!(cond (decide ((a0.getD d1.toNat 0) < (1:Int))) true (decide ((6:Int) < (a0.getD d1.toNat 0)))))&&(decide ((0:Int) < d1))) (aY (d1 - (1:Int))))&&((dC ((!(cond (decide ((a0.getD d1.toNat 0) < (1:Int))) true (decide ((6:Int) < (a0.getD d1.toNat 0)))))&&(decide ((0:Int) < d1))) (aT (d1 - (1:Int)) a0.length))&&(true))) <|
  cond (cond (cond (decide ((a0.getD d1.toNat 0) < (1:Int))) true (decide ((6:Int) < (a0.getD d1.toNat 0)))) true (cond (decide ((0:Int) < d1)) (decide ((a0.getD d1.toNat 0)<=(a0.getD (d1 - (1:Int)).toNat 0))) false)) (some (.inr (([]:List bL),(1:Int)))) (an ((aY (d1+(1:Int)))&&(true)) <|
  dh (d1+(1:Int)))) (some (.inl ()))
def ag1(N:Nat) (a0:(List Int)):Nat->(Int×(List bL))->Option ((List bL)):=b5 fun d2 dX=>
  cond (decide (d2.1 < (a0.length:Int))) (an ((aT d2.1 a0.length)&&((aT d2.1 d2.2.length)&&(((decide (d2.1.toNat < d2.2.length))&&(true))&&(true)))) <|
  an ((aY (d2.1+(1:Int)))&&(true)) <|
  dX ((d2.1+(1:Int)),(d2.2.set d2.1.toNat ((2:Int),((0:Int),(((0:Int),(0:Int)),((a0.getD d2.1.toNat 0),(0:Int)))))))) (some d2.2)
def JK(N:Nat) (a0:(List Int)):Option ((List bL)×Int):=
  Option.bind (ag0 N a0 N (0:Int)) fun(aU:(Unit)⊕((List bL)×Int))=>
  sm aU (fun aU=>
  an (((decide (0<=(a0.length:Int)))&&(decide ((a0.length:Int)<=(a0.length:Int)))&&(e1 40 (a0.length:Int)))&&(true)) <|
  Option.bind (ag1 N a0 N ((0:Int),(List.replicate (a0.length:Int).toNat (cY.zero:bL)))) fun bD=>
  some (bD,(0:Int))) (fun q=>some q)
noncomputable def ag2 (N:Nat):bu bE:=b6 N bw (by kernel_rfl) [.c (.a1 (.int .u8))] [] ⟨.cW [.c (.a1 cY),.c (.int .i64)],[],[]⟩ [] [] (.s .d (.s (.s .d (.b (.fq 0 ⟨[(10,.a (.c (.int .i64)))],[],[0,8,9],[]⟩ ⟨[],[],[0],[]⟩ .d))) (.s .d (.s (.s .d (.b (.eo 2 ⟨[(6,.a (.c (.raw (.ah 37)))),(40,.a (.c (.int .i64)))],[(37,.row 57 cY)],[0,39],[]⟩ ⟨[(6,.a (.c (.raw (.ah 37))))],[(37,.row 57 cY)],[],[]⟩ .d))) (.s .d (.t [.c8 37])))))) [.tmp 2,.tmp 3] 63 ([],0) (fun d=>JK N d.1) Tryz.func63 rfl rfl Tryz.ntmps63 rfl rfl rfl (fun d=>by kernel_rfl)
end
section
open Go.RowKit
end
section
open Go.RowKit
def JL(N:Nat) (a0:(List bX)) (aj:(List bX)):Nat->Int->Option ((Unit)⊕(Bool)):=b5 fun d1 dh=>
  cond (decide (d1 < (a0.length:Int))) (an ((aT d1 a0.length)&&(true)) <|
  an ((aT d1 aj.length)&&(true)) <|
  Option.bind (Cr N (a0.getD d1.toNat cl.zero) (aj.getD d1.toNat cl.zero)) fun aO=>
  cond (!aO) (some (.inr false)) (an ((aY (d1+(1:Int)))&&(true)) <|
  dh (d1+(1:Int)))) (some (.inl ()))
def Dn(N:Nat) (a0:(List bX)) (aj:(List bX)):Option (Bool):=
  cond (!(decide ((a0.length:Int)=(aj.length:Int)))) (some false) (Option.bind (JL N a0 aj N (0:Int)) fun(aU:(Unit)⊕(Bool))=>
  sm aU (fun aU=>
  some true) (fun q=>some q))
noncomputable def ag3 (N:Nat):bu bE:=b6 N bw (by kernel_rfl) [.c (.a1 cl),.c (.a1 cl),.c (.fn 49 [])] [] ⟨.a (.c .bool),[],[]⟩ [adV N] [] (.s .d (.s .d (.s (.s .d (.b (.fq 0 ⟨[(17,.a (.c (.int .i64)))],[],[1,2,15,16],[]⟩ ⟨[],[],[],[]⟩ (.s .d (.s .d (.s (.b (.s (.r [.n 6,.w (.b8 8 cl)]) (.s (.r [.n 6,.w (.b8 9 cl)]) .d))) .d)))))) .d))) [.tmp 6] 52 false (fun d=>Dn N d.1 d.2.1) Tryz.func52 rfl rfl Tryz.ntmps52 rfl rfl rfl (fun d=>by kernel_rfl)
def Dp(N:Nat) (a0:(List bX)) (aj:(List bX)):Option (Bool):=
  Option.bind (Dn N a0 aj) fun ay=>
  some ay
noncomputable def ag4 (N:Nat):bu bE:=b6 N bw (by kernel_rfl) [.c (.a1 cl),.c (.a1 cl),.c (.raw (.ptr 1000000 0))] [(1000000,.cells 117 [.fn 49 []])] ⟨.a (.c .bool),[],[1000000]⟩ [ag3 N] [] (.d) [.tmp 5] 51 false (fun d=>Dp N d.1 d.2.1) Tryz.func51 rfl rfl Tryz.ntmps51 rfl rfl rfl (fun d=>by kernel_rfl)
def JM(N:Nat) (a0:(List (List bX))) (aj:(List (List bX))):Nat->Int->Option ((Unit)⊕(Bool)):=b5 fun d1 dh=>
  cond (decide (d1 < (a0.length:Int))) (an ((aT d1 a0.length)&&(true)) <|
  an ((aT d1 aj.length)&&(true)) <|
  Option.bind (Dp N (a0.getD d1.toNat []) (aj.getD d1.toNat [])) fun aO=>
  cond (!aO) (some (.inr false)) (an ((aY (d1+(1:Int)))&&(true)) <|
  dh (d1+(1:Int)))) (some (.inl ()))
def Dq(N:Nat) (a0:(List (List bX))) (aj:(List (List bX))):Option (Bool):=
  cond (!(decide ((a0.length:Int)=(aj.length:Int)))) (some false) (Option.bind (JM N a0 aj N (0:Int)) fun(aU:(Unit)⊕(Bool))=>
  sm aU (fun aU=>
  some true) (fun q=>some q))
noncomputable def ag5 (N:Nat):bu bE:=b6 N bw (by kernel_rfl) [.c (.a1 (.ah cl)),.c (.a1 (.ah cl)),.c (.fn 51 [.id 1000000])] [(1000000,.cells 117 [.fn 49 []])] ⟨.a (.c .bool),[(1000000,.cells 117 [.fn 49 []])],[]⟩ [ag4 N] [] (.s .d (.s .d (.s (.s .d (.b (.fq 0 ⟨[(2,.a (.c (.fn 51 [.id 1000000]))),(17,.a (.c (.int .i64)))],[(1000000,.cells 117 [.fn 49 []])],[1,15,16],[]⟩ ⟨[],[(1000000,.cells 117 [.fn 49 []])],[],[]⟩ (.s .d (.s .d (.s (.b (.s .d (.s .d (.s (.r [.n 3,.c [(1000000,1000000)]]) .d)))) .d)))))) .d))) [.tmp 6] 53 false (fun d=>Dq N d.1 d.2.1) Tryz.func53 rfl rfl Tryz.ntmps53 rfl rfl rfl (fun d=>by kernel_rfl)
def Dr(N:Nat) (a0:lv) (aj:lv):Option (Bool):=
  Option.bind (Dq N a0.1 aj.1) fun ay=>
  Option.bind (cond ay (Ip N a0.2.1 aj.2.1) (some false)) fun aO=>
  Option.bind (cond (cond ay aO false) (uf N a0.2.2.1 aj.2.2.1) (some false)) fun bs=>
  Option.bind (cond (cond (cond ay aO false) bs false) (uf N a0.2.2.2 aj.2.2.2) (some false)) fun bH=>
  some (cond (cond (cond ay aO false) bs false) bH false)
noncomputable def ag6 (N:Nat):bu bE:=b6 N bw (by kernel_rfl) [.cZ ob,.cZ ob] [] ⟨.a (.c .bool),[],[]⟩ [ag5 N,adU N,Il N] [] (.s (.r [.n 3,.w (.b8 2 ob),.w (.b8 3 ob)]) (.s .d (.s .d (.s (.r [.n 5,.c [(1000000,5)]]) .d)))) [.tmp 4] 16 false (fun d=>Dr N d.1 d.2.1) Tryz.func16 rfl rfl Tryz.ntmps16 rfl rfl rfl (fun d=>by kernel_rfl)
end
end Go.Proofs.YtcheedjfedcbpaaGreatDoor
namespace Go.Proofs
open Go.Shelf
def Tryz.ag7:Go.Shelf.Ren:=⟨fun | 171=>144 | 243=>184 | 246=>209 | 283=>219 | 284=>220 | 285=>221 | 286=>222 | 129=>173 | 317=>228 | 318=>229 | 319=>230 | 320=>231 | 337=>233 | 338=>234 | n=>n,fun | 3=>3 | 9=>9 | 2=>2 | 4=>4 | 171=>307 | 0=>0 | 53=>266 | 37=>142 | 5=>5 | 173=>309 | 212=>315 | 51=>264 | 20=>20 | 213=>316 | 46=>215 | 232=>317 | 233=>318 | n=>n,fun | 17=>3 | 18=>5 | 19=>6 | n=>n⟩
theorem Tryz.ag8:Go.Proofs.LaysM.n171 Tryz.prog Tryz.ag7:={
 mixed:=by kernel_rfl
 f129:=Tryz.func173.trans (congrArg some (by kernel_rfl))
 f171:=Tryz.func144.trans (congrArg some (by kernel_rfl))
 f243:=Tryz.func184.trans (congrArg some (by kernel_rfl))
 f246:=Tryz.func209.trans (congrArg some (by kernel_rfl))
 f283:=Tryz.func219.trans (congrArg some (by kernel_rfl))
 f284:=Tryz.func220.trans (congrArg some (by kernel_rfl))
 f285:=Tryz.func221.trans (congrArg some (by kernel_rfl))
 f286:=Tryz.func222.trans (congrArg some (by kernel_rfl))
 f317:=Tryz.func228.trans (congrArg some (by kernel_rfl))
 f318:=Tryz.func229.trans (congrArg some (by kernel_rfl))
 f319:=Tryz.func230.trans (congrArg some (by kernel_rfl))
 f320:=Tryz.func231.trans (congrArg some (by kernel_rfl))
 f337:=Tryz.func233.trans (congrArg some (by kernel_rfl))
 f338:=Tryz.func234.trans (congrArg some (by kernel_rfl))
 t0:=Tryz.underlying0
 a0:=Tryz.isAgg0
 z0:=Tryz.sizeOf0
 v0:=Tryz.zeroValue0
 t2:=Tryz.underlying2
 a2:=Tryz.isAgg2
 z2:=Tryz.sizeOf2
 v2:=Tryz.zeroValue2
 t3:=Tryz.underlying3
 a3:=Tryz.isAgg3
 z3:=Tryz.sizeOf3
 v3:=Tryz.zeroValue3
 t4:=Tryz.underlying4
 a4:=Tryz.isAgg4
 z4:=Tryz.sizeOf4
 v4:=Tryz.zeroValue4
 t5:=Tryz.underlying5
 a5:=Tryz.isAgg5
 z5:=Tryz.sizeOf5
 v5:=Tryz.zeroValue5
 t9:=Tryz.underlying9
 a9:=Tryz.isAgg9
 z9:=Tryz.sizeOf9
 v9:=Tryz.zeroValue9
 t20:=Tryz.underlying20
 a20:=Tryz.isAgg20
 z20:=Tryz.sizeOf20
 v20:=Tryz.zeroValue20
 t37:=Tryz.underlying142
 a37:=Tryz.isAgg142
 z37:=Tryz.sizeOf142
 v37:=Tryz.zeroValue142
 t46:=Tryz.underlying215
 a46:=Tryz.isAgg215
 z46:=Tryz.sizeOf215
 v46:=Tryz.zeroValue215
 t51:=Tryz.underlying264
 a51:=Tryz.isAgg264
 z51:=Tryz.sizeOf264
 v51:=Tryz.zeroValue264
 t53:=Tryz.underlying266
 a53:=Tryz.isAgg266
 z53:=Tryz.sizeOf266
 v53:=Tryz.zeroValue266
 t171:=Tryz.underlying307
 a171:=Tryz.isAgg307
 z171:=Tryz.sizeOf307
 v171:=Tryz.zeroValue307
 t173:=Tryz.underlying309
 a173:=Tryz.isAgg309
 z173:=Tryz.sizeOf309
 v173:=Tryz.zeroValue309
 t212:=Tryz.underlying315
 a212:=Tryz.isAgg315
 z212:=Tryz.sizeOf315
 v212:=Tryz.zeroValue315
 t213:=Tryz.underlying316
 a213:=Tryz.isAgg316
 z213:=Tryz.sizeOf316
 t232:=Tryz.underlying317
 a232:=Tryz.isAgg317
 z232:=Tryz.sizeOf317
 v232:=Tryz.zeroValue317
 t233:=Tryz.underlying318
 a233:=Tryz.isAgg318
 z233:=Tryz.sizeOf318
 v233:=Tryz.zeroValue318
 g17:=by kernel_rfl
 g18:=by kernel_rfl
 g19:=by kernel_rfl
 i0:=by kernel_rfl
 i2:=by kernel_rfl
 i3:=by kernel_rfl
 i4:=by kernel_rfl
 i5:=by kernel_rfl
 i9:=by kernel_rfl
 i20:=by kernel_rfl
 i37:=by kernel_rfl
 i46:=by kernel_rfl
 i51:=by kernel_rfl
 i53:=by kernel_rfl
 i171:=by kernel_rfl
 i173:=by kernel_rfl
 i212:=by kernel_rfl
 i232:=by kernel_rfl
 i233:=by kernel_rfl
 m17:=by kernel_rfl
 m18:=by kernel_rfl
 m19:=by kernel_rfl }
def Tryz.Rh:Go.Shelf.Ren:=⟨fun | 156=>146 | 165=>185 | 166=>186 | 169=>187 | 240=>210 | 241=>211 | 276=>223 | 277=>224 | n=>n,fun | 31=>106 | 9=>9 | 3=>3 | 4=>4 | 0=>0 | 20=>20 | 72=>275 | 76=>278 | 70=>273 | 37=>142 | 75=>277 | 127=>298 | 164=>311 | 5=>5 | 80=>280 | n=>n,fun | n=>n⟩
theorem Tryz.ag9:Go.Proofs.Lays.n156 Tryz.prog Tryz.Rh:={
 mixed:=by kernel_rfl
 f156:=Tryz.func146.trans (congrArg some (by kernel_rfl))
 f165:=Tryz.func185.trans (congrArg some (by kernel_rfl))
 f166:=Tryz.func186.trans (congrArg some (by kernel_rfl))
 f169:=Tryz.func187.trans (congrArg some (by kernel_rfl))
 f240:=Tryz.func210.trans (congrArg some (by kernel_rfl))
 f241:=Tryz.func211.trans (congrArg some (by kernel_rfl))
 f276:=Tryz.func223.trans (congrArg some (by kernel_rfl))
 f277:=Tryz.func224.trans (congrArg some (by kernel_rfl))
 t0:=Tryz.underlying0
 a0:=Tryz.isAgg0
 z0:=Tryz.sizeOf0
 v0:=Tryz.zeroValue0
 t3:=Tryz.underlying3
 a3:=Tryz.isAgg3
 z3:=Tryz.sizeOf3
 v3:=Tryz.zeroValue3
 t4:=Tryz.underlying4
 a4:=Tryz.isAgg4
 z4:=Tryz.sizeOf4
 v4:=Tryz.zeroValue4
 t9:=Tryz.underlying9
 a9:=Tryz.isAgg9
 z9:=Tryz.sizeOf9
 v9:=Tryz.zeroValue9
 t20:=Tryz.underlying20
 a20:=Tryz.isAgg20
 z20:=Tryz.sizeOf20
 v20:=Tryz.zeroValue20
 t31:=Tryz.underlying106
 a31:=Tryz.isAgg106
 z31:=Tryz.sizeOf106
 v31:=Tryz.zeroValue106
 t37:=Tryz.underlying142
 a37:=Tryz.isAgg142
 z37:=Tryz.sizeOf142
 v37:=Tryz.zeroValue142
 t70:=Tryz.underlying273
 a70:=Tryz.isAgg273
 z70:=Tryz.sizeOf273
 v70:=Tryz.zeroValue273
 t72:=Tryz.underlying275
 a72:=Tryz.isAgg275
 z72:=Tryz.sizeOf275
 v72:=Tryz.zeroValue275
 t75:=Tryz.underlying277
 a75:=Tryz.isAgg277
 z75:=Tryz.sizeOf277
 v75:=Tryz.zeroValue277
 t76:=Tryz.underlying278
 a76:=Tryz.isAgg278
 z76:=Tryz.sizeOf278
 v76:=Tryz.zeroValue278
 t127:=Tryz.underlying298
 a127:=Tryz.isAgg298
 z127:=Tryz.sizeOf298
 v127:=Tryz.zeroValue298
 t164:=Tryz.underlying311
 a164:=Tryz.isAgg311
 z164:=Tryz.sizeOf311
 v164:=Tryz.zeroValue311 }
theorem Tryz.aha:Builder.Extra Tryz.prog Tryz.Rh:={
 sizeBuilder:=by kernel_rfl
 liesBuilder:=by kernel_rfl
 t5:=Tryz.underlying5
 a5:=Tryz.isAgg5
 z5:=Tryz.sizeOf5
 v5:=Tryz.zeroValue5
 infoByte:=by kernel_rfl
 cellsByte:=by kernel_rfl
 sizeByte:=by kernel_rfl
 neB5:=by decide }
end Go.Proofs
namespace Go.Proofs.YtcheedjfedcbpaaGreatDoor
open Go.RowKit
section
open Go.RowKit
def Ds(a0:Int) (aj:List Int):Option Int:=zF 6000 a0 aj
theorem ahb(a0:Int) (aj:List Int) (c0:Option Nat) (r:Int) (h:Ds a0 aj=some r):AC bE 55 [.c (.val (.int .u8 a0)),.c (.a1 (.int .i64) aj none)] [] (fun sv h=>sv=.c (.val (.int .i64 r))/\h=[]):=
  (JH 6000).ok (a0,aj,()) r h
def wM(a0:Int) (aj:Int) (a2:Int):Option (bL):=
    some (a0,((1:Int),(((0:Int),aj),(a2,(0:Int)))))
set_option maxHeartbeats 4000000 in
theorem Ri(a0:Int) (aj:Int) (a2:Int) (r:(bL)) (h:wM a0 aj a2=some r):AC bE 56 [.c (.val (.int .u8 a0)),.c (.val (.int .i64 aj)),.c (.fx (.int .u8) a2 0)] [] (fun sv h=>sv=.a (.agg [.val (.int .u8 r.1),.val (.int .u8 r.2.1),.val (.int .u8 r.2.2.1.1),.val (.int .i64 r.2.2.1.2),.val (.int .u8 r.2.2.2.1),.val (.int .i64 r.2.2.2.2)])/\h=[]):=by
  apply AC.XO
  unfold wM at h;refine Le bw Tryz.func56 rfl Tryz.ntmps56 rfl rfl (res:=[.cell 5 57]) rfl ?_;refine pf ?_;refine k6 bw rfl rfl ?_;refine pf ?_;refine k6 bw rfl rfl ?_;refine xj ?_;obtain rfl:=Option.some.inj h;refine⟨_,(cA.pick [5] [5] rfl rfl),_,_,rfl,rfl,?_⟩;exact rfl
def qY(a0:Int) (aj:(List Int)):Nat->Int->(List bL)->(Option Nat)->Option ((List bL)×(Option Nat))
  | 0,_,_,_=>none
  | n+1,dn,wN,Dt=>
    cond (decide (dn < (aj.length:Int))) (an ((aT dn aj.length)) <|
    Option.bind (wM (4:Int) (aj.getD dn.toNat 0) a0) fun bH=>
    an ((cM 40 (wN.length+[bH].length))) <|
    an ((aY (dn+(1:Int)))) <|
    qY a0 aj n (dn+(1:Int)) (wN++[bH]) (qk Dt (wN.length+[bH].length))) (some (wN,Dt))
def wO(a0:Int) (aj:(List Int)):Option ((List bL)×(Option Nat)×Int):=
    Option.bind (Ds a0 aj) fun ay=>
    cond (!(decide (ay=(0:Int)))) (some (([]:List bL),(some 0),ay)) (an ((aY ((aj.length:Int) - (1:Int)))&&(aT ((aj.length:Int) - (1:Int)) aj.length)) <|
    cond (decide ((aj.getD ((aj.length:Int) - (1:Int)).toNat 0)=(40:Int))) (some (([]:List bL),(some 0),(15:Int))) (an ((aY ((aj.length:Int)+(2:Int)))&&(decide ((0:Int)<=((aj.length:Int)+(2:Int))))&&(e1 40 ((aj.length:Int)+(2:Int)))) <|
    an ((cM 40 (([]:List bL).length+[((1:Int),((0:Int),(((0:Int),(0:Int)),(a0,(0:Int)))))].length))) <|
    Option.bind (qY a0 aj xA (0:Int) (([]:List bL)++[((1:Int),((0:Int),(((0:Int),(0:Int)),(a0,(0:Int)))))]) (qk (some ((aj.length:Int)+(2:Int)).toNat) (([]:List bL).length+[((1:Int),((0:Int),(((0:Int),(0:Int)),(a0,(0:Int)))))].length))) fun bD=>
    Option.bind (wM (6:Int) (40:Int) a0) fun gS=>
    an ((cM 40 (bD.1.length+[gS].length))) <|
    some ((bD.1++[gS]),(qk bD.2 (bD.1.length+[gS].length)),(0:Int))))
set_option maxHeartbeats 4000000 in
theorem ahc(a0:Int) (aj:(List Int)) (c0:Option Nat) (r:((List bL)×(Option Nat)×Int)) (h:wO a0 aj=some r):AC bE 18 [.c (.val (.int .u8 a0)),.c (.a1 (.int .i64) aj c0)] [] (fun sv h=>sv=.cW [.c (.a1 cY r.1 r.2.1),.c (.val (.int .i64 r.2.2))]/\h=[]):=by
  unfold wO at h;refine Le bw Tryz.func18 rfl Tryz.ntmps18 rfl rfl (res:=[.tmp 4,.tmp 5]) rfl ?_;refine EC (cA.mL 1 rfl) ?_;refine pf ?_;refine k6 bw rfl rfl ?_;refine EC (cA.b8 2 (.int .u8) rfl rfl rfl) ?_;refine ot ?_;refine ot ?_;obtain⟨ay,kY,h⟩:=oB h;refine rl ?_;refine Ey bw rfl rfl ?_;refine TO (ahb _ _ none ay kY) rfl ⟨rfl,rfl⟩ rfl Tryz.func55 rfl rfl rfl rfl rfl rfl ?_;refine k6 bw rfl rfl ?_;refine pf ?_;refine k6 bw rfl rfl ?_;refine EA rfl rfl (fun aa=>?_) (fun aa=>?_)
  ·
   replace h:=AO aa h;refine pf ?_;refine k6 bw rfl rfl ?_;refine xj ?_;obtain rfl:=Option.some.inj h;refine⟨_,(cA.trans (cA.LS 4 cY rfl) (cA.pick [4,5] [] rfl rfl)),_,_,rfl,rfl,?_⟩;exact⟨rfl,rfl⟩
  ·
   replace h:=AP aa h;refine Am ?_;refine ot ?_;refine ot ?_;obtain⟨Rj,h⟩:=fH h;simp only[Bool.and_eq_true]at Rj;obtain⟨ahd,ahe⟩:=Rj;refine rl ?_;refine k6 bw rfl (by simp only[ahd,ahe,jA]) ?_;refine EA rfl rfl (fun aa=>?_) (fun aa=>?_)
   ·
    replace h:=AO aa h;refine pf ?_;refine k6 bw rfl rfl ?_;refine xj ?_;obtain rfl:=Option.some.inj h;refine⟨_,(cA.trans (cA.LS 4 cY rfl) (cA.pick [4,5] [] rfl rfl)),_,_,rfl,rfl,?_⟩;exact⟨rfl,rfl⟩
   ·
    replace h:=AP aa h;refine Am ?_;refine pf ?_;refine k6 bw rfl rfl ?_;refine ot ?_;obtain⟨Rk,h⟩:=fH h;simp only[Bool.and_eq_true]at Rk;obtain⟨⟨ai5,ai6⟩,ai7⟩:=Rk;refine rl ?_;refine k6 bw rfl (by simp_all) ?_;refine ot ?_;obtain⟨zG,h⟩:=fH h;refine rl ?_;refine E4 4 bw rfl (by simp only[zG,jA]) ?_;refine E5 bw rfl ⟨rfl,rfl⟩ rfl rfl rfl rfl rfl (by simp only[zG,jA]) rfl (by simp only[zG,jA]) rfl rfl rfl (by simp only[zG,jA]; rfl) ?_;refine k6 bw rfl (by simp only[zG,jA]) ?_;refine ot ?_;refine pf ?_;refine k6 bw rfl rfl ?_;obtain⟨bD,uJ,j5⟩:=oB h;refine XN (fun bD:(List bL)×(Option Nat)=>⟨[(7,.a (.c (.fn 56 [.eS (.int .u8) a0]))),(8,.a (.c (.ah 27)))],[(27,.row 57 cY bD.1 bD.2)]⟩) (fun ys=>bD=ys) ?_ ?_
    ·
     have h:=uJ;refine La ?_;refine EC (cA.pick [35,1,7,8,34] [27] rfl rfl) ?_;refine TB (fun y:Nat×Int×(List bL)×(Option Nat)=>[(35,.a (.c (.val (.int .i64 y.2.1))))]) (fun y:Nat×Int×(List bL)×(Option Nat)=>[(27,.row 57 cY y.2.2.1 y.2.2.2)]) (fun y:Nat×Int×(List bL)×(Option Nat)=>qY a0 aj y.1 y.2.1 y.2.2.1 y.2.2.2=some bD) (fun y:Nat×Int×(List bL)×(Option Nat)=>y.1) (xA,(0:Int),(([]:List bL)++[((1:Int),((0:Int),(((0:Int),(0:Int)),(a0,(0:Int)))))]),(qk (some ((aj.length:Int)+(2:Int)).toNat) (([]:List bL).length+[((1:Int),((0:Int),(((0:Int),(0:Int)),(a0,(0:Int)))))].length))) h ?_;rintro⟨n,dn,wN,Dt⟩ h;replace h:qY a0 aj n dn wN Dt=some bD:=h
     rcases n with _ | n
     · cases (show(none:Option _)=some _ from h)
     rw[qY]at h
     try dsimp only
     refine pf ?_;refine k6 bw rfl rfl ?_;refine ot ?_;refine EA rfl rfl (fun aa=>?_) (fun aa=>?_)
     ·
      replace h:=AO aa h;refine Am ?_;refine ot ?_;refine La ?_;refine pf ?_;refine k6 bw rfl rfl ?_;obtain⟨uD,h⟩:=fH h;obtain⟨bH,ahf,h⟩:=oB h;obtain⟨uE,h⟩:=fH h;refine rl ?_;refine Ey bw rfl (by simp only[uD,uE,jA]) ?_;refine Lk [] (Ri _ _ _  bH ahf) rfl ⟨rfl,rfl⟩ rfl rfl Tryz.func56 rfl rfl rfl (by simp only[uD,uE,jA]) rfl rfl nQ.nil ?_;rintro _ _ ⟨rfl,rfl⟩;refine⟨_,_,rfl,rfl,?_⟩;refine E4 1 bw rfl (by simp only[uD,uE,jA]) ?_;refine E5 bw rfl ⟨rfl,rfl⟩ rfl rfl rfl rfl rfl (by simp only[uD,uE,jA]) rfl (by simp only[uD,uE,jA]) rfl rfl rfl (by simp only[uD,uE,jA]) ?_;refine k6 bw rfl (by simp only[uD,uE,jA]) ?_;obtain⟨ahg,h⟩:=fH h;refine rl ?_;refine k6 bw rfl (by simp only[ahg,jA]) ?_;refine⟨(n,_,_,_),h,Nat.lt_succ_self _,(cA.pick [35,1,7,8,34] [27] rfl rfl)⟩
     ·
      replace h:=AP aa h;refine K8 ?_;exact⟨_,(Option.some.inj h).symm,(cA.pick [7,8] [27] rfl rfl)⟩
    ·
     rintro _ rfl;have h:=j5;refine ot ?_;obtain⟨gS,ahh,h⟩:=oB h;obtain⟨uF,h⟩:=fH h;refine rl ?_;refine Ey bw rfl (by simp only[uF,jA]) ?_;refine Lk [] (Ri _ _ _  gS ahh) rfl ⟨rfl,rfl⟩ rfl rfl Tryz.func56 rfl rfl rfl (by simp only[uF,jA]) rfl rfl nQ.nil ?_;rintro _ _ ⟨rfl,rfl⟩;refine⟨_,_,rfl,rfl,?_⟩;refine E4 1 bw rfl (by simp only[uF,jA]) ?_;refine E5 bw rfl ⟨rfl,rfl⟩ rfl rfl rfl rfl rfl (by simp only[uF,jA]) rfl (by simp only[uF,jA]) rfl rfl rfl (by simp only[uF,jA]) ?_;refine k6 bw rfl (by simp only[uF,jA]) ?_;refine xj ?_;obtain rfl:=Option.some.inj h;refine⟨_,(cA.trans (cA.c8 (id:=27) rfl) (cA.pick [4,5] [] rfl rfl)),_,_,rfl,rfl,?_⟩;exact⟨rfl,rfl⟩
def qZ(y:Int) (l:List Int):Option (List bL×Nat×Int):=Option.bind (wO y l) fun r=>match r.2.1 with
  | some c=>some (r.1,c,r.2.2)
  | none=>none
noncomputable def Rl:bu bE where
  f:=18
  fn:=Tryz.f18
  A:=[.c (.int .u8),.c (.a1 (.int .i64))]
  eP:=[]
  ba:=List bL×Nat×Int
  nq:=([],0,0)
  m:=fun d=>qZ d.1 d.2.1
  out:=fun _ r=>(.cW [.c (.a1 cY r.1 (some r.2.1)),.c (.val (.int .i64 r.2.2))],[])
  aA:=Tryz.func18
  bk:=rfl
  ai:=rfl
  ok:=fun d r he=>by
    have cG:qZ d.1 d.2.1=some r:=he;unfold qZ at cG;cases hm:wO d.1 d.2.1 with
    | none=>rw[hm]at cG; cases cG
    | some q=>
      rw[hm,Option.bind_some]at cG;obtain⟨dF,et,gp⟩:=q;cases et with
      | none=>cases cG
      | some c=>cases cG; exact ahc d.1 d.2.1 none _ hm
theorem ahi(w:World):∀ k,(w.drewN k).heap=w.heap/\(w.drewN k).os=w.os/\(w.drewN k).tape=w.tape/\(w.drewN k).output=w.output:=fun k=>⟨rfl,rfl,rfl,rfl⟩
theorem ahj(w:World) (k:Nat) (os:Array Obj):Below w.heap.size w (Sort.grow (w.drewN k) os):=by
  obtain⟨J,U,ae,aw⟩:=ahi w k;refine⟨U,ae,aw,?_,fun j aX=>?_⟩
  · show w.heap.size<=((w.drewN k).heap++os).size
    rw[J,Array.size_append]; omega
  · show((w.drewN k).heap++os)[j]?=_
    rw[J,Array.getElem?_append_left aX]
theorem ahk(n:Int) (aP:-9223372036854775808<=n) (J:n<=9223372036854775807):AC bE 144 [.c (.val (.int .i64 n))] [] (fun sv h=>sv=.c (.str (Lib.itoa n))/\h=[]):=by
  refine AC.LM (v0:=eW (Lib.itoa n)) (fun _ _ _=>rfl) ?_;rintro env B ak _ W aM ⟨v,r,rfl,aE,aH⟩ cI;have aC:v=_:=aE;have a7:r=[]:=aH;subst aC a7;refine Calls.mono (Any.strconv_Itoa Tryz.ag8 n aP J W ((aM 3 _ rfl).T9 (by kernel_rfl))) ?_;rintro e w' ⟨rfl,k,os,rfl⟩;exact⟨_,rfl,rfl,ahj _ _ _⟩
theorem ahl(l:List (List UInt8)) (cap:Option Nat) (sep:List UInt8) (aP:0 < l.length) (J:l.length<=1000000) (U:(Lib.join l sep).length<=1000000000):AC bE 146 [.c (.a1 .str l cap),.c (.str sep)] [] (fun sv h=>sv=.c (.str (Lib.join l sep))/\h=[]):=by
  refine AC.LM (v0:=eW (Lib.join l sep)) (fun _ _ _=>rfl) ?_;rintro env B ak _ W aM ⟨v,r,rfl,⟨A,c,xs,rfl,lS,il,_,aA,ahm,gV⟩,v2,aO,rfl,hM,BA⟩ cI;have aC:v2=eW sep:=hM;have a7:aO=[]:=BA;subst aC a7;obtain⟨b,p,e,ik⟩:=ahm.2 aP;subst e;have pr:=LO aA;have Rm:(l.map fun x=>(⟨x.toArray⟩:ByteArray)).map (·.data.toList)=l:=by
    rw[List.map_map];exact(List.map_congr_left (fun x _=>rfl)).trans (List.map_id' l)
  have pI:=Any.strings_Join_48 Tryz.ag9 Tryz.aha b p c (l.map fun x=>⟨x.toArray⟩) ⟨sep.toArray⟩ W (fun j x ao=>by
    refine ik j _ ?_;rw[pr];rw[List.getElem?_map]at ao ⊢;cases ag:l[j]? with
    | none=>rw[ag]at ao; cases ao
    | some y=>rw[ag]at ao; cases ao; rfl) (cI b (gV b p aP rfl)) (by rw[List.length_map]; omega) (by rw[List.length_map]; exact lS) (by rw[Rm]; show(Lib.join l sep).length<=_; omega)
  rw[Rm,List.length_map]at pI;refine Calls.mono pI ?_;rintro e w' ⟨rfl,ai⟩;exact⟨_,rfl,rfl,ai⟩
def Du(u:Nat):List UInt8:=if u < 10 then [UInt8.ofNat (48+u)] else [UInt8.ofNat (48+u / 10),UInt8.ofNat (48+u % 10)]
def JN(n:Int):List UInt8:=if n < 0 then 45 :: Du n.natAbs else Du n.toNat
theorem Rn(u:Nat) (h:u < 100):Lib.decDigits u=Du u:=by
  unfold Du
  split
  · rename_i J
    rw[Lib.decDigits]
    simp[J]
  · rename_i J
    rw[Lib.decDigits]
    simp[J]
    rw[Lib.decDigits]
    have:u / 10 < 10:=by omega
    simp[this]
theorem ahn(n:Int) (aP:-100 < n) (J:n < 100):Lib.itoa n=JN n:=by
  unfold Lib.itoa JN;rw[Rn _ (by omega),Rn _ (by omega)]
def zH(n:Int):Option (List UInt8):=an (decide (-100 < n)&&decide (n < 100)) (some (JN n))
def Ro(l:List (List UInt8)) (sep:List UInt8):Option (List UInt8):=an (decide (0 < l.length)&&(decide (l.length<=1000000)&&decide ((Lib.join l sep).length<=1000000000))) (some (Lib.join l sep))
theorem Rp{α:Type} {c:Bool} {x:Option α} {r:α} (h:an c x=some r):c=true/\x=some r:=by
  cases c
  · cases h
  · exact⟨rfl,h⟩
noncomputable def Rq:bu bE where
  f:=144
  fn:=Tryz.f144
  A:=[.c (.int .i64)]
  eP:=[]
  ba:=List UInt8
  nq:=[]
  m:=fun d=>zH d.1
  out:=fun _ r=>(.c (.str r),[])
  aA:=Tryz.func144
  bk:=rfl
  ai:=rfl
  ok:=fun d r he=>by
    obtain⟨J,U⟩:=Rp (show an _ _=some r from he);rw[Bool.and_eq_true,decide_eq_true_eq,decide_eq_true_eq]at J;cases U
    have:=ahk d.1 (by omega) (by omega)
    rw[ahn _ J.1 J.2]at this;exact this
noncomputable def aho:bu bE where
  f:=146
  fn:=Tryz.f146
  A:=[.c (.a1 .str),.c .str]
  eP:=[]
  ba:=List UInt8
  nq:=[]
  m:=fun d=>Ro d.1 d.2.1
  out:=fun _ r=>(.c (.str r),[])
  aA:=Tryz.func146
  bk:=rfl
  ai:=rfl
  ok:=fun d r he=>by
    obtain⟨J,U⟩:=Rp (show an _ _=some r from he);rw[Bool.and_eq_true,Bool.and_eq_true,decide_eq_true_eq,decide_eq_true_eq,decide_eq_true_eq]at J;cases U;exact ahl d.1 none d.2.1 J.1 J.2.1 J.2.2
def JO(N:Nat) (a0:aq):Option ((List UInt8)):=
    Option.bind (ly N a0) fun ay=>
    cond (!(decide (ay=(0:Int)))) (some ([]:List UInt8)) (cond (decide (a0.1=(0:Int))) (Option.bind (zH a0.2) fun aO=>
    an ((decide (([102]:List UInt8).length+aO.length<=140737488355328))&&(true)) <|
    some (([102]:List UInt8)++aO)) (Option.bind (zH a0.2) fun bs=>
    an ((decide (([98]:List UInt8).length+bs.length<=140737488355328))&&(true)) <|
    some (([98]:List UInt8)++bs)))
noncomputable def ahp (N:Nat):bu bE:=b6 N bw (by kernel_rfl) [.cZ aL] [] ⟨.a (.c .str),[],[]⟩ [sb N,Rq] [] (.s (.r [.n 2,.w (.b8 1 aL)]) .d) [.tmp 2] 145 [] (fun d=>JO N d.1) Tryz.func145 rfl rfl Tryz.ntmps145 rfl rfl rfl (fun d=>by kernel_rfl)
def Rr(N:Nat) (a0:bL):Option ((List UInt8)):=
    Option.bind (pN N a0) fun ay=>
    cond (!(decide (ay=(0:Int)))) (some ([]:List UInt8)) (an ((aY a0.2.2.2.1)&&(true)) <|
    Option.bind (zH a0.2.2.2.1) fun aO=>
    an (((aT a0.1 9)&&(aT a0.1 mK.length))&&(true)) <|
    Option.bind (cond (decide (a0.1=(1:Int))) (an (((aT a0.2.1 2)&&(aT a0.2.1 rG.length))&&((cM 16 ([(mK.getD a0.1.toNat [])].length+[aO,(rG.getD a0.2.1.toNat [])].length))&&(true))) <|
    some ([(mK.getD a0.1.toNat [])]++[aO,(rG.getD a0.2.1.toNat [])])) (cond (decide (a0.1=(2:Int))) (an ((cM 16 ([(mK.getD a0.1.toNat [])].length+[aO].length))&&(true)) <|
    some ([(mK.getD a0.1.toNat [])]++[aO])) (cond (decide (a0.1=(3:Int))) (Option.bind (zH a0.2.2.2.2) fun bH=>
    an ((cM 16 ([(mK.getD a0.1.toNat [])].length+[bH].length))&&(true)) <|
    some ([(mK.getD a0.1.toNat [])]++[bH])) (Option.bind (cond (decide (a0.1=(4:Int))) (some (decide (a0.1=(4:Int)))) (cond (decide (a0.1=(5:Int))) (some (decide (a0.1=(5:Int)))) (some (decide (a0.1=(6:Int)))))) fun b4=>
    cond b4 (an (((aT a0.2.1 2)&&(aT a0.2.1 rG.length))&&(true)) <|
    Option.bind (JO N a0.2.2.1) fun cp=>
    an ((cM 16 ([(mK.getD a0.1.toNat [])].length+[(rG.getD a0.2.1.toNat []),cp,aO].length))&&(true)) <|
    some ([(mK.getD a0.1.toNat [])]++[(rG.getD a0.2.1.toNat []),cp,aO])) (Option.bind (cond (decide (a0.1=(7:Int))) (some (decide (a0.1=(7:Int)))) (some (decide (a0.1=(8:Int))))) fun kR=>
    cond kR (Option.bind (JO N a0.2.2.1) fun gS=>
    an ((cM 16 ([(mK.getD a0.1.toNat [])].length+[gS].length))&&(true)) <|
    some ([(mK.getD a0.1.toNat [])]++[gS])) (some [(mK.getD a0.1.toNat [])])))))) fun b9=>
    Option.bind (Ro b9 ([32]:List UInt8)) fun mv=>
    some mv)
noncomputable def ahq (N:Nat):bu bE:=b6 N bw (by kernel_rfl) [.cZ cY] [] ⟨.a (.c .str),[],[]⟩ [Qe N,Rq,ahp N,aho] [] (.s (.r [.n 2,.w (.b8 1 cY)]) (.s .d (.s .d (.s .d (.j ⟨[(4,.a (.c (.raw (.ah 16))))],[(16,.row 9 .str)],[],[]⟩ (.s .d (.b (.s .d (.c .d (.s .d (.c .d (.s .d (.c .d (.j ⟨[(4,.a (.c (.raw (.ah 16)))),(43,.a (.c .bool))],[],[1,2,3,18],[16]⟩ .d (.c (.o [] [.t 0 0,.t 1 0,.t 2 1,.t 3 0,.t 4 1,.t 5 0,.t 6 1,.t 8 0,.c 7 [],.s 9,.s 10,.t 11 0] []) (.j ⟨[(4,.a (.c (.raw (.ah 16)))),(58,.a (.c .bool))],[],[1,2],[16]⟩ .d .d))))))))))) (.s (.r [.n 1,.w (.c8 16)]) .d)))))) [.tmp 2] 109 [] (fun d=>Rr N d.1) Tryz.func109 rfl rfl Tryz.ntmps109 rfl rfl rfl (fun d=>by kernel_rfl)
def ahr(N:Nat) (a0:(List bL)):Nat->((List UInt8)×Int)->Option ((List UInt8)):=b5 fun d1 dh=>
    cond (decide (d1.2 < (a0.length:Int))) (Option.bind (cond (decide ((0:Int) < d1.2)) (an ((decide (d1.1.length+([59,32]:List UInt8).length<=140737488355328))&&(true)) <|
    some (d1.1++([59,32]:List UInt8))) (some d1.1)) fun bD=>
    an ((aT d1.2 a0.length)&&(true)) <|
    Option.bind (Rr N (a0.getD d1.2.toNat cY.zero)) fun bs=>
    an ((decide (bD.length+bs.length<=140737488355328))&&(true)) <|
    an ((aY (d1.2+(1:Int)))&&(true)) <|
    dh ((bD++bs),(d1.2+(1:Int)))) (some d1.1)
def Dv(N:Nat) (a0:(List bL)):Option ((List UInt8)):=
    Option.bind (ahr N a0 N (([]:List UInt8),(0:Int))) fun aU=>
    some aU
noncomputable def ahs (N:Nat):bu bE:=b6 N bw (by kernel_rfl) [.c (.a1 cY)] [] ⟨.a (.c .str),[],[]⟩ [ahq N] [] (.s .d (.s .d (.s (.s .d (.b (.eo 0 ⟨[(3,.a (.c .str)),(4,.a (.c (.int .i64)))],[],[0],[]⟩ ⟨[(3,.a (.c .str))],[],[],[]⟩ (.s .d (.s (.b (.j ⟨[(3,.a (.c .str))],[],[0,4],[]⟩ .d .d)) .d))))) .d))) [.tmp 2] 64 [] (fun d=>Dv N d.1) Tryz.func64 rfl rfl Tryz.ntmps64 rfl rfl rfl (fun d=>by kernel_rfl)
def JP:List UInt8:=[105,110,32,50,32,108,101,102,116,59,32,107,110,105,116,32,114,105,103,104,116,32,102,49,51,32,50,59,32,107,110,105,116,32,114,105,103,104,116,32,102,49,52,32,50,59,32,109,105,115,115,32,114,105,103,104,116,32,102,52,48,32,50]
def Rs:List UInt8:=(List.append [107,110,105,116,32,114,105,103,104,116,32,102,49,51,32,49,59,32,120,102,101,114,32,102,49,51,59,32,114,97,99,107,32,49,59,32,120,102,101,114] [32,98,49,51,59,32,114,97,99,107,32,48,59,32,107,110,105,116,32,114,105,103,104,116,32,102,49,52,32,49,59,32,100,114,111,112,32,102,49,52])
def aht:List UInt8:=[111,117,116,32,49,59,32,111,117,116,32,51]
def Dw(N:Nat) :Option (Bool):=
    Option.bind (qZ (2:Int) [(13:Int),(14:Int)]) fun ay=>
    Option.bind (Rg N (1:Int) [(13:Int),(14:Int)]) fun aO=>
    Option.bind (JK N [(1:Int),(3:Int)]) fun bs=>
    Option.bind (qZ (1:Int) [(40:Int)]) fun bH=>
    Option.bind (qZ (1:Int) ([]:List Int)) fun b1=>
    Option.bind (JK N [(3:Int),(1:Int)]) fun cp=>
    Option.bind (cond (cond (cond (cond (cond (cond (decide (ay.2.2=(0:Int))) (decide (aO.2.2=(0:Int))) false) (decide (bs.2=(0:Int))) false) (decide (bH.2.2=(15:Int))) false) (decide (b1.2.2=(1:Int))) false) (decide (cp.2=(1:Int))) false) (Dv N ay.1) (some [])) fun jF=>
    Option.bind (cond (cond (cond (cond (cond (cond (cond (decide (ay.2.2=(0:Int))) (decide (aO.2.2=(0:Int))) false) (decide (bs.2=(0:Int))) false) (decide (bH.2.2=(15:Int))) false) (decide (b1.2.2=(1:Int))) false) (decide (cp.2=(1:Int))) false) (jF == JP) false) (Dv N aO.1) (some [])) fun gS=>
    Option.bind (cond (cond (cond (cond (cond (cond (cond (cond (decide (ay.2.2=(0:Int))) (decide (aO.2.2=(0:Int))) false) (decide (bs.2=(0:Int))) false) (decide (bH.2.2=(15:Int))) false) (decide (b1.2.2=(1:Int))) false) (decide (cp.2=(1:Int))) false) (jF == JP) false) (gS == Rs) false) (Dv N bs.1) (some [])) fun mv=>
    some (cond (cond (cond (cond (cond (cond (cond (cond (decide (ay.2.2=(0:Int))) (decide (aO.2.2=(0:Int))) false) (decide (bs.2=(0:Int))) false) (decide (bH.2.2=(15:Int))) false) (decide (b1.2.2=(1:Int))) false) (decide (cp.2=(1:Int))) false) (jF == JP) false) (gS == Rs) false) (mv == aht) false)
noncomputable def ahu (N:Nat):bu bE:=b6 N bw (by kernel_rfl) [] [] ⟨.a (.c .bool),[],[]⟩ [Rl,agZ N,ag2 N,ahs N] [] (.s .d (.s (.r [.n 1,.w (.c8 14)]) (.s (.r [.n 1,.w (.c8 19)]) (.s (.r [.n 1,.w (.c8 24)]) (.s (.r [.n 1,.w (.c8 29)]) (.s .d (.s (.r [.n 1,.w (.c8 38)]) .d))))))) [.tmp 0] 23 false (fun d=>Dw N ) Tryz.func23 rfl rfl Tryz.ntmps23 rfl rfl rfl (fun d=>by kernel_rfl)
def JQ(N:Nat) (a0:(List B4)) (aj:Bool):Nat->(Int×Int×Int×Int×(List Int)×(List Int)×(List Int))->Option ((List Int)×(List Int)×(List Int)):=b5 fun d1 dh=>
    cond (cond (decide (d1.2.2.2.1 < (a0.length:Int))) (decide (d1.2.2.2.1 < (8:Int))) false) (an ((aY (d1.1+(1:Int)))&&((aT d1.2.2.2.1 a0.length)&&((aY (Int.tmod (a0.getD d1.2.2.2.1.toNat jb.zero).1 (6:Int)))&&((aY ((d1.1+(1:Int))+(Int.tmod (a0.getD d1.2.2.2.1.toNat jb.zero).1 (6:Int))))&&(true))))) <|
    an ((aT d1.2.2.2.1 a0.length)&&((aY (Int.tmod (a0.getD d1.2.2.2.1.toNat jb.zero).2.1 (2:Int)))&&((aY ((1:Int)+(Int.tmod (a0.getD d1.2.2.2.1.toNat jb.zero).2.1 (2:Int))))&&(true)))) <|
    an ((aT d1.2.2.2.1 a0.length)&&((aY (Int.tmod (a0.getD d1.2.2.2.1.toNat jb.zero).2.2 (6:Int)))&&(true))) <|
    Option.bind (an ((dC ((!(cond (decide (d1.2.2.2.1=(0:Int))) true (!aj)))&&(decide ((Int.tmod (a0.getD d1.2.2.2.1.toNat jb.zero).2.2 (6:Int))=(0:Int)))) (aY (d1.2.2.1+((1:Int)+(Int.tmod (a0.getD d1.2.2.2.1.toNat jb.zero).2.1 (2:Int))))))&&(true)) <|
    cond (cond (cond (decide (d1.2.2.2.1=(0:Int))) true (!aj)) true (cond (decide ((Int.tmod (a0.getD d1.2.2.2.1.toNat jb.zero).2.2 (6:Int))=(0:Int))) (decide ((4:Int) < (d1.2.2.1+((1:Int)+(Int.tmod (a0.getD d1.2.2.2.1.toNat jb.zero).2.1 (2:Int)))))) false)) (an ((aY ((Int.tmod (a0.getD d1.2.2.2.1.toNat jb.zero).2.2 (6:Int))+(1:Int)))&&(true)) <|
    some ((Int.tmod (a0.getD d1.2.2.2.1.toNat jb.zero).2.2 (6:Int))+(1:Int))) (some (Int.tmod (a0.getD d1.2.2.2.1.toNat jb.zero).2.2 (6:Int)))) fun bD=>
    Option.bind (cond (decide ((0:Int) < bD)) (some (0:Int)) (some d1.2.2.1)) fun b9=>
    an ((aY (b9+((1:Int)+(Int.tmod (a0.getD d1.2.2.2.1.toNat jb.zero).2.1 (2:Int)))))&&(true)) <|
    an ((aY (d1.2.1+bD))&&(true)) <|
    cond (cond (decide ((40:Int) < ((d1.1+(1:Int))+(Int.tmod (a0.getD d1.2.2.2.1.toNat jb.zero).1 (6:Int))))) true (decide ((40:Int) < (d1.2.1+bD)))) (some (d1.2.2.2.2.1,d1.2.2.2.2.2.1,d1.2.2.2.2.2.2)) (an ((cM 8 (d1.2.2.2.2.1.length+[((d1.1+(1:Int))+(Int.tmod (a0.getD d1.2.2.2.1.toNat jb.zero).1 (6:Int)))].length))&&(true)) <|
    an ((cM 8 (d1.2.2.2.2.2.1.length+[((1:Int)+(Int.tmod (a0.getD d1.2.2.2.1.toNat jb.zero).2.1 (2:Int)))].length))&&(true)) <|
    an ((cM 8 (d1.2.2.2.2.2.2.length+[(d1.2.1+bD)].length))&&(true)) <|
    an ((aY (d1.2.2.2.1+(1:Int)))&&(true)) <|
    dh (((d1.1+(1:Int))+(Int.tmod (a0.getD d1.2.2.2.1.toNat jb.zero).1 (6:Int))),(d1.2.1+bD),(b9+((1:Int)+(Int.tmod (a0.getD d1.2.2.2.1.toNat jb.zero).2.1 (2:Int)))),(d1.2.2.2.1+(1:Int)),(d1.2.2.2.2.1++[((d1.1+(1:Int))+(Int.tmod (a0.getD d1.2.2.2.1.toNat jb.zero).1 (6:Int)))]),(d1.2.2.2.2.2.1++[((1:Int)+(Int.tmod (a0.getD d1.2.2.2.1.toNat jb.zero).2.1 (2:Int)))]),(d1.2.2.2.2.2.2++[(d1.2.1+bD)])))) (some (d1.2.2.2.2.1,d1.2.2.2.2.2.1,d1.2.2.2.2.2.2))
def Dx(N:Nat) (a0:(List B4)) (aj:Bool):Option ((List Int)×(List Int)×(List Int)):=
    Option.bind (JQ N a0 aj N ((0:Int),(0:Int),(0:Int),(0:Int),([]:List Int),([]:List Int),([]:List Int))) fun aU=>
    some (aU.1,aU.2.1,aU.2.2)
noncomputable def ahv (N:Nat):bu bE:=b6 N bw (by kernel_rfl) [.c (.a1 jb),.c .bool] [] ⟨.cW [.c (.a1 (.int .i64)),.c (.a1 (.int .i64)),.c (.a1 (.int .i64))],[],[]⟩ [] [] (.s .d (.s (.r [.n 3,.w (.nil 7 7 3 (.int .i64)),.w (.nil 8 8 3 (.int .i64)),.w (.nil 9 9 3 (.int .i64))]) (.s .d (.s (.s .d (.b (.eo 0 ⟨[(7,.a (.c (.raw (.ah 7)))),(8,.a (.c (.raw (.ah 8)))),(9,.a (.c (.raw (.ah 9)))),(10,.a (.c (.int .i64))),(11,.a (.c (.int .i64))),(12,.a (.c (.int .i64))),(13,.a (.c (.int .i64)))],[(7,.row 3 (.int .i64)),(8,.row 3 (.int .i64)),(9,.row 3 (.int .i64))],[0,1],[]⟩ ⟨[(7,.a (.c (.raw (.ah 7)))),(8,.a (.c (.raw (.ah 8)))),(9,.a (.c (.raw (.ah 9))))],[(7,.row 3 (.int .i64)),(8,.row 3 (.int .i64)),(9,.row 3 (.int .i64))],[],[]⟩ (.s .d (.s (.b (.s .d (.s .d (.s .d (.j ⟨[(7,.a (.c (.raw (.ah 7)))),(8,.a (.c (.raw (.ah 8)))),(9,.a (.c (.raw (.ah 9)))),(15,.a (.c (.int .i64)))],[],[0,1,10,11,12,13,14],[7,8,9]⟩ .d (.j ⟨[(7,.a (.c (.raw (.ah 7)))),(8,.a (.c (.raw (.ah 8)))),(9,.a (.c (.raw (.ah 9)))),(12,.a (.c (.int .i64)))],[],[0,1,10,11,13,14,15],[7,8,9]⟩ .d .d)))))) .d))))) (.s .d (.t [.c8 7,.c8 8,.c8 9])))))) [.tmp 4,.tmp 5,.tmp 6] 7 ([],[],[]) (fun d=>Dx N d.1 d.2.1) Tryz.func7 rfl rfl Tryz.ntmps7 rfl rfl rfl (fun d=>by kernel_rfl)
def JR(N:Nat) :Nat->(List Int)->Option ((List Int)):=b5 fun d2 dX=>
    an ((dC (decide ((0:Int) < (d2.length:Int))) (aY ((d2.length:Int) - (1:Int))))&&((dC (decide ((0:Int) < (d2.length:Int))) (aT ((d2.length:Int) - (1:Int)) d2.length))&&(true))) <|
    cond (cond (decide ((0:Int) < (d2.length:Int))) (decide ((39:Int) < (d2.getD ((d2.length:Int) - (1:Int)).toNat 0))) false) (an ((aY ((d2.length:Int) - (1:Int)))&&(((decide (0<=((d2.length:Int) - (1:Int))))&&(decide (((d2.length:Int) - (1:Int))<=(d2.length:Int))))&&(true))) <|
    dX (d2.take ((d2.length:Int) - (1:Int)).toNat)) (some d2)
def Dy(N:Nat) (a0:(List B4)):Option ((List Int)):=
    Option.bind (Dx N a0 false) fun ay=>
    Option.bind (JR N N ay.1) fun bD=>
    cond (decide ((bD.length:Int)=(0:Int))) (some [(7:Int)]) (some bD)
noncomputable def ahw (N:Nat):bu bE:=b6 N bw (by kernel_rfl) [.c (.a1 jb)] [] ⟨.a (.c (.a1 (.int .i64))),[],[]⟩ [ahv N] [] (.s .d (.s .d (.s (.b (.eo 0 ⟨[(3,.a (.c (.a1 (.int .i64))))],[],[],[]⟩ ⟨[(3,.a (.c (.a1 (.int .i64))))],[],[],[]⟩ .d)) (.s (.s .d (.c (.r [.n 2,.w (.c8 32)]) .d)) .d)))) [.tmp 2] 17 [] (fun d=>Dy N d.1) Tryz.func17 rfl rfl Tryz.ntmps17 rfl rfl rfl (fun d=>by kernel_rfl)
def Rt(N:Nat) (a0:cd) (aj:cd):Nat->Int->Option ((Unit)⊕(Bool)):=b5 fun d1 dh=>
    cond (decide (d1 < (a0.2.2.2.2.length:Int))) (an ((aT d1 a0.2.2.2.2.length)&&((aT d1 aj.2.2.2.2.length)&&(true))) <|
    cond (!(aR.beq dK (a0.2.2.2.2.getD d1.toNat dK.zero) (aj.2.2.2.2.getD d1.toNat dK.zero))) (some (.inr false)) (an ((aY (d1+(1:Int)))&&(true)) <|
    dh (d1+(1:Int)))) (some (.inl ()))
def zI(N:Nat) (a0:cd) (aj:cd):Option (Bool):=
    cond (cond (cond (cond (a0.1 != aj.1) true (!(decide (a0.2.2.1=aj.2.2.1)))) true (a0.2.2.2.1 != aj.2.2.2.1)) true (!(decide ((a0.2.2.2.2.length:Int)=(aj.2.2.2.2.length:Int))))) (some false) (Option.bind (Rt N a0 aj N (0:Int)) fun(aU:(Unit)⊕(Bool))=>
    sm aU (fun aU=>
    some true) (fun q=>some q))
noncomputable def ahx (N:Nat):bu bE:=b6 N bw (by kernel_rfl) [.cZ bM,.cZ bM] [] ⟨.a (.c .bool),[],[]⟩ [] [] (.s (.r [.n 3,.w (.b8 2 bM),.w (.b8 3 bM)]) (.s .d (.s (.s .d (.b (.fq 0 ⟨[(5,.a (.c (.int .i64)))],[],[2,3],[]⟩ ⟨[],[],[],[]⟩ (.s .d (.s (.b (.s (.o [] [.t 0 0,.t 1 1,.t 2 0,.t 3 0,.t 4 1,.t 5 0,.t 6 1,.t 7 0,.t 8 0,.t 9 1,.t 10 0] []) .d)) .d))))) .d))) [.tmp 4] 21 false (fun d=>zI N d.1 d.2.1) Tryz.func21 rfl rfl Tryz.ntmps21 rfl rfl rfl (fun d=>by kernel_rfl)
def JS(N:Nat) (bH:kP×Int×Int) (b1:y1×Int):Nat->Int->Option ((Unit)⊕(Bool)):=b5 fun d6 zh=>
    cond (decide (d6 < (6:Int))) (an ((aT d6 bH.1.2.2.1.length)&&((aT d6 b1.1.2.1.length)&&(true))) <|
    Option.bind (zI N (bH.1.2.2.1.getD d6.toNat bM.zero) (b1.1.2.1.getD d6.toNat bM.zero)) fun jF=>
    cond (!jF) (some (.inr false)) (an ((aY (d6+(1:Int)))&&(true)) <|
    zh (d6+(1:Int)))) (some (.inl ()))
def Dz(N:Nat) (a0:(List B4)) (aj:Int):Option (Bool):=
    Option.bind (Dy N a0) fun ay=>
    Option.bind (qZ (IntKind.wrap .u8 ((1:Int)+(Int.tmod aj (6:Int)))) ay) fun aO=>
    Option.bind (wz N) fun bs=>
    Option.bind (C6 N bs aO.1) fun bH=>
    Option.bind (Cj N (IntKind.wrap .u8 ((1:Int)+(Int.tmod aj (6:Int)))) (ay.length:Int)) fun b1=>
    an ((dC (!(cond (cond (cond (!(decide (aO.2.2=(0:Int)))) true (!(decide (bH.2.2=(0:Int))))) true (!(decide (b1.2=(0:Int))))) true (!(decide ((aO.2.1:Int)=(aO.1.length:Int)))))) (aY ((ay.length:Int)+(2:Int))))&&(true)) <|
    cond (cond (cond (cond (cond (cond (cond (cond (!(decide (aO.2.2=(0:Int)))) true (!(decide (bH.2.2=(0:Int))))) true (!(decide (b1.2=(0:Int))))) true (!(decide ((aO.2.1:Int)=(aO.1.length:Int))))) true (!(decide ((aO.1.length:Int)=((ay.length:Int)+(2:Int)))))) true (!(decide (bH.1.1=(0:Int))))) true (!(decide ((bH.1.2.2.1.length:Int)=(6:Int))))) true (!(decide ((b1.1.2.1.length:Int)=(6:Int))))) (some false) (Option.bind (JS N bH b1 N (0:Int)) fun(gB:(Unit)⊕(Bool))=>
    sm gB (fun gB=>
    Option.bind (Dr N bH.1.2.2.2 b1.1.2.2.1) fun gS=>
    an ((dC gS (aT (IntKind.wrap .u8 ((IntKind.wrap .u8 ((1:Int)+(Int.tmod aj (6:Int)))) - (1:Int))) bH.1.2.2.1.length))&&(true)) <|
    Option.bind (cond gS (lz N ((0:Int),(40:Int)) (0:Int)) (some 0)) fun mv=>
    Option.bind (cond (cond gS (decide (mv < (bH.1.2.2.1.getD (IntKind.wrap .u8 ((IntKind.wrap .u8 ((1:Int)+(Int.tmod aj (6:Int)))) - (1:Int))).toNat bM.zero).2.1)) false) (Dw N) (some false)) fun mr=>
    some (cond (cond gS (decide (mv < (bH.1.2.2.1.getD (IntKind.wrap .u8 ((IntKind.wrap .u8 ((1:Int)+(Int.tmod aj (6:Int)))) - (1:Int))).toNat bM.zero).2.1)) false) mr false)) (fun q=>some q))
noncomputable def ahy (N:Nat):bu bE:=b6 N bw (by kernel_rfl) [.c (.a1 jb),.c (.int .u8)] [] ⟨.a (.c .bool),[],[]⟩ [ahw N,Rl,aeY N,agc N,ac5 N,ahx N,ag6 N,Cy N,ahu N] [] (.s .d (.s .d (.s .d (.s .d (.s (.r [.n 11,.w (.b8 9 nC)]) (.s (.r [.n 10,.w (.b8 12 y0)]) (.s .d (.s (.s .d (.b (.fq 0 ⟨[(14,.a (.c (.int .i64)))],[],[6,9,12],[]⟩ ⟨[],[],[6,9,12],[]⟩ (.s .d (.s (.b (.s (.o [] [.t 0 0,.t 1 1,.t 2 0,.t 3 0,.t 4 1,.t 5 0,.t 6 1,.t 7 0,.t 8 0,.t 9 1,.c 10 [],.t 11 0] []) .d)) .d))))) (.s (.o [] [.t 0 0,.t 1 1,.t 2 0,.t 3 1,.c 4 [],.f,.t 5 0,.t 6 0,.t 7 1,.t 8 0,.t 9 0,.t 10 0,.t 11 0,.t 12 1,.t 13 0,.g 14,.t 15 0,.t 16 0,.t 17 0,.g 18,.t 19 0,.t 20 0] []) .d))))))))) [.tmp 4] 5 false (fun d=>Dz N d.1 d.2.1) Tryz.func5 rfl rfl Tryz.ntmps5 rfl rfl rfl (fun d=>by kernel_rfl)
end
section
open Go.RowKit
structure pT(A:List Nat) (a:Nat):Prop where
 pS:A.Pairwise (· < ·)
 mw:∀ x∈A,1<=x/\x<=a
theorem pT.snoc{A:List Nat} {a:Nat} (h:pT A a) {b:Nat} (ai:a < b):pT (A++[b]) b:=by
 refine⟨List.pairwise_append.2 ⟨h.pS,List.pairwise_singleton _ _,fun x ao y aV=>?_⟩,fun x ao=>?_⟩
 ·rw[List.mem_singleton]at aV
  have:=(h.mw x ao).2
  omega
 ·rcases List.mem_append.1 ao with ao | ao
  ·have:=h.mw x ao
   omega
  ·rw[List.mem_singleton]at ao
   omega
def hr(A:List Nat):List Int:=A.map fun(a:Nat)=>(a:Int)
theorem og(A:List Nat):(hr A).length=A.length:=by simp[hr]
theorem wP{A:List Nat} {j a:Nat} (h:A[j]?=some a):(hr A)[j]?=some (a:Int):=by simp[hr,h]
theorem Ru(A:List Nat) (a:Nat):hr (A++[a])=hr A++[(a:Int)]:=by simp[hr]
theorem DA{z m:Int} (h:0<=z) (hm:0 < m):0<=Int.tmod z m/\Int.tmod z m < m:=⟨Int.tmod_nonneg _ h,Int.tmod_lt_of_pos _ hm⟩
theorem ahz{N:Nat} (bF:5000 < N) (x:List (Int×Int×Int)) (ao:∀ z∈x,0<=z.1/\0<=z.2.1/\0<=z.2.2):T (Dx N x false) fun r=>∃ A:List Nat,r.1=hr A/\pT A 40/\A.length<=8:=by
 have eF:T (JQ N x false N ((0:Int),(0:Int),(0:Int),(0:Int),[],[],[])) fun r=>∃ A:List Nat,r.1=hr A/\pT A 40/\A.length<=8:=by
  unfold JQ;refine OP (fun k d=>∃ (i a:Nat) (A:List Nat) (b st:Int) (bV zJ:List Int),i+k=8/\d=((a:Int),b,st,(i:Int),hr A,bV,zJ)/\pT A a/\A.length=i/\a<=40/\0<=b/\b<=40/\0<=st/\st<=2/\bV.length=i/\zJ.length=i) _ ?_ N 8 _ (by omega) ⟨0,0,[],0,0,[],[],rfl,rfl,⟨List.Pairwise.nil,fun x ao=>(by cases ao)⟩,rfl,by omega,by omega,by omega,by omega,by omega,rfl,rfl⟩;rintro k d rec ⟨i,a,A,b,st,bV,zJ,hi,rfl,ad,n0,bq,k1,ai,na,al,sY,BI⟩ c1;have lM:∃ cj:List Nat,hr A=hr cj/\pT cj 40/\cj.length<=8:=⟨A,rfl,⟨ad.pS,fun x ao=>by have:=ad.mw x ao; omega⟩,by omega⟩
  by_cases br:i < x.length/\i < 8
  ·obtain⟨br,ai8⟩:=br
   obtain⟨z,bP⟩:∃ z,x[i]?=some z:=⟨_,List.getElem?_eq_getElem br⟩
   obtain⟨p6,lW,Eu⟩:=ao z (List.mem_of_getElem? bP);have t1:=DA p6 (show(0:Int) < 6 by decide);have t2:=DA lW (show(0:Int) < 2 by decide);have t3:=DA Eu (show(0:Int) < 6 by decide);obtain⟨u,hu⟩:∃ u:Nat,Int.tmod z.1 6=(u:Int):=⟨_,(Int.toNat_of_nonneg t1.1).symm⟩
   obtain⟨v,aE⟩:∃ v,v=Int.tmod z.2.1 2:=⟨_,rfl⟩
   obtain⟨s,hs⟩:∃ s,s=Int.tmod z.2.2 6:=⟨_,rfl⟩
   rw[<- aE]at t2;rw[<- hs]at t3;rw[hu]at t1;have bU:(i:Int) < (x.length:Int):=by omega
   have ahA:(i:Int) < 8:=by omega
   have kE:(0:Int) < s+1:=by omega
   simp only[bQ,Int.reduceEq,Int.reduceLT,Int.reduceLE,reduceCtorEq,bU,ahA,dV bP,hu,<- aE,<- hs,kE,Bool.not_false,og];refine⟨by(repeat' apply And.intro)<;>first | omega | (simp only[di]; omega) | exact this | rfl | trivial,by(repeat' apply And.intro)<;>first | omega | (simp only[di]; omega) | exact this | rfl | trivial,by(repeat' apply And.intro)<;>first | omega | (simp only[di]; omega) | exact this | rfl | trivial,by(repeat' apply And.intro)<;>first | omega | (simp only[di]; omega) | exact this | rfl | trivial,by(repeat' apply And.intro)<;>first | omega | (simp only[di]; omega) | exact this | rfl | trivial,by(repeat' apply And.intro)<;>first | omega | (simp only[di]; omega) | exact this | rfl | trivial,fun _=>lM,fun P4=>?_⟩;have this:=c1 (k - 1) ((a:Int)+1+(u:Int),b+(s+1),0+(1+v),(i:Int)+1,hr A++[(a:Int)+1+(u:Int)],bV++[1+v],zJ++[b+(s+1)]) (by omega) ⟨i+1,a+1+u,A++[a+1+u],b+(s+1),0+(1+v),bV++[1+v],zJ++[b+(s+1)],by omega,by rw[Ru]; rfl,ad.snoc (by omega),by simp[n0],by omega,by omega,by omega,by omega,by omega,by simp[sY],by simp[BI]⟩
   (repeat' apply And.intro)<;>first | omega | (simp only[di]; omega) | exact this | rfl | trivial
  ·have dN:cond (decide ((i:Int) < (x.length:Int))) (decide ((i:Int) < 8)) false=false:=by
    rw[Hs,decide_eq_false_iff_not,decide_eq_false_iff_not];omega
   exact OO.2 ⟨fun e=>absurd (dN.symm.trans e) (by decide),fun _=>B3.2 lM⟩
 unfold Dx;simp only[bQ,Int.reduceEq,Int.reduceLT,Int.reduceLE,reduceCtorEq];exact eF.mono fun r aH=>aH
theorem ahB{N:Nat} (bF:5000 < N) (x:List (Int×Int×Int)) (ao:∀ z∈x,0<=z.1/\0<=z.2.1/\0<=z.2.2):T (Dy N x) fun r=>∃ A:List Nat,r=hr A/\pR A/\A.length<=8/\0 < A.length:=by
 have eF:∀ A:List Nat,pT A 40->A.length<=8->T (JR N N (hr A)) fun r=>∃ B:List Nat,r=hr B/\pT B 39/\B.length<=8:=by
  intro A ad n0;unfold JR;refine OP (fun k d=>∃ A:List Nat,A.length=k/\d=hr A/\pT A 40/\A.length<=8) _ ?_ N A.length _ (by omega) ⟨A,rfl,rfl,ad,n0⟩;rintro k d rec ⟨A,ab,rfl,ad,n0⟩ c1
  rcases List.eq_nil_or_concat A with rfl | ⟨B,a,rfl⟩
  ·refine ON.2 ⟨rfl,B3.2 ⟨[],rfl,⟨List.Pairwise.nil,fun x ao=>(by cases ao)⟩,Nat.zero_le _⟩⟩
  ·rw[List.concat_eq_append]at ab ad n0 ⊢
   rw[List.length_append,List.length_singleton]at ab n0;have jd:(B++[a])[B.length]?=some a:=by rw[List.getElem?_append_right (Nat.le_refl _),Nat.sub_self]; rfl
   have aM:(hr (B++[a])).getD B.length 0=(a:Int):=dV (wP jd);have aC:((B.length:Int)+1 - 1).toNat=B.length:=by omega
   have hlen:((hr (B++[a])).length:Int)=(B.length:Int)+1:=by rw[og,List.length_append]; rfl
   have tS:(hr (B++[a])).take B.length=hr B:=by
    rw[Ru];exact List.take_left' (og B)
   have kE:(0:Int) < (B.length:Int)+1:=by omega
   simp only[bQ,Int.reduceEq,Int.reduceLT,Int.reduceLE,reduceCtorEq,hlen,kE,aC,aM,tS];refine⟨by(repeat' apply And.intro)<;>first | omega | (simp only[di]; omega) | exact this | rfl | trivial,fun ahC=>?_,fun ahC=>?_⟩
   ·have this:=c1 (k - 1) (hr B) (by omega) ⟨B,by omega,rfl,⟨(List.pairwise_append.1 ad.pS).1,fun x ao=>ad.mw x (List.mem_append_left _ ao)⟩,by omega⟩
    (repeat' apply And.intro)<;>first | omega | (simp only[di]; omega) | exact this | rfl | trivial
   ·refine⟨B++[a],rfl,⟨ad.pS,fun x ao=>?_⟩,by rw[List.length_append]; exact n0⟩
    have J:=ad.mw x ao
    rcases List.mem_append.1 ao with ao | ao
    ·have:=(List.pairwise_append.1 ad.pS).2.2 x ao a (List.mem_singleton.2 rfl)
     omega
    ·rw[List.mem_singleton]at ao
     omega
 unfold Dy;simp only[bQ,Int.reduceEq,Int.reduceLT,Int.reduceLE,reduceCtorEq];refine(ahz bF x ao).mono ?_;rintro r ⟨A,aH,ad,n0⟩;rw[aH];refine(eF A ad n0).mono ?_;rintro r ⟨B,rfl,cI,ahD⟩;simp only[bQ,Int.reduceEq,Int.reduceLT,Int.reduceLE,reduceCtorEq,og];refine⟨fun _=>⟨[7],rfl,⟨List.pairwise_singleton _ _,fun x ao=>(by rw[List.mem_singleton]at ao; omega),by decide⟩,by decide,by decide⟩,fun aP=>⟨B,rfl,⟨cI.pS,cI.mw,by omega⟩,ahD,by omega⟩⟩
theorem ahE{A:List Nat} (h:pR A) {N:Nat} (bF:5000 < N):sj N (hr A)=some 0:=by
 have uu:=h.hc;have eF:Jm N (hr A) N (0:Int)=some (.inl ()):=by
  unfold Jm;refine fZ (fun k d=>∃ j:Nat,j+k=A.length/\d=(j:Int)) _ ?_ N A.length _ (by omega) ⟨0,by omega,rfl⟩;rintro k d rec ⟨j,aX,rfl⟩ c1
  apply T.eq
  by_cases br:j < A.length
  ·obtain⟨a,bq⟩:∃ a,A[j]?=some a:=⟨_,List.getElem?_eq_getElem br⟩
   have aH:=h.mw a (List.mem_of_getElem? bq);have bU:(j:Int) < (A.length:Int):=by omega
   have this:T (rec ((j:Int)+1)) (·=.inl ()):=⟨_,c1 (k - 1) _ (by omega) ⟨j+1,by omega,rfl⟩,rfl⟩
   by_cases aP:j=0
   ·subst aP
    simp only[bQ,Int.reduceEq,Int.reduceLT,Int.reduceLE,reduceCtorEq,og,bU,dV (wP bq),show ¬ ((a:Int) < 1) by omega,show ¬ (40 < (a:Int)) by omega,show ¬ ((0:Int) < ((0:Nat):Int)) by omega]
    (repeat' apply And.intro)<;>first | omega | (simp only[di]; omega) | exact this | rfl | trivial
   ·obtain⟨q,au⟩:∃ q,A[j - 1]?=some q:=⟨_,List.getElem?_eq_getElem (by omega)⟩
    have ai9:q < a:=by
     have:=List.pairwise_iff_getElem.1 h.pS (j - 1) j (by omega) br (by omega)
     rw[<- (List.getElem?_eq_some_iff.1 bq).2,<- (List.getElem?_eq_some_iff.1 au).2];exact this
    have qP:(0:Int) < (j:Int):=by omega
    simp only[bQ,Int.reduceEq,Int.reduceLT,Int.reduceLE,reduceCtorEq,og,bU,dV (wP bq),show((j:Int) - 1).toNat=j - 1 by omega,dV (wP au),show ¬ ((a:Int) < 1) by omega,show ¬ (40 < (a:Int)) by omega,qP,show ¬ ((a:Int)<=(q:Int)) by omega]
    (repeat' apply And.intro)<;>first | omega | (simp only[di]; omega) | exact this | rfl | trivial
  ·have bU:¬ (j:Int) < (A.length:Int):=by omega
   simp only[bQ,Int.reduceEq,Int.reduceLT,Int.reduceLE,reduceCtorEq,og,bU]
 unfold sj;rw[eF,Option.bind_some]
theorem JT{m k:Nat} (h:k<=m):qk (some m) k=some m:=by
 show cond (Nat.ble k m) (some m) none=some m;rw[Nat.ble_eq_true_of_le h]
 rfl
def sn(y:Nat) (a:Nat):bL:=(4,(1,((0,(a:Int)),((y:Int)+1,0))))
def wQ(y:Nat):bL:=(1,(0,((0,0),((y:Int)+1,0))))
theorem ahF{y:Nat} (aV:y < 6) {A:List Nat} (h:pR A) (aP:0 < A.length):qZ ((y:Int)+1) (hr A)=some (lB y A,A.length+2,0):=by
 have uu:=h.hc;have eF:∀ n j:Nat,A.length < n+j->j<=A.length->qY ((y:Int)+1) (hr A) n (j:Int) (wQ y :: (A.take j).map (sn y)) (some (A.length+2))=some (wQ y :: A.map (sn y),some (A.length+2)):=by
  intro n
  induction n with
  | zero=>intro j J U; omega
  | succ n bx=>
   intro j J U;rw[qY]
   apply T.eq
   by_cases br:j < A.length
   ·obtain⟨a,bq⟩:∃ a,A[j]?=some a:=⟨_,List.getElem?_eq_getElem br⟩
    have bU:(j:Int) < (A.length:Int):=by omega
    have ar:wM (4:Int) (a:Int) ((y:Int)+1)=some (sn y a):=rfl;have ag:(wQ y :: (A.take j).map (sn y)).length=j+1:=by simp; omega
    have Rv:=bx (j+1) (by omega) (by omega);rw[uj bq,List.map_append]at Rv;have this:T (qY ((y:Int)+1) (hr A) n ((j:Int)+1) (wQ y :: (A.take j).map (sn y)++[sn y a]) (some (A.length+2))) (·=(wQ y :: A.map (sn y),some (A.length+2))):=⟨_,Rv,rfl⟩
    simp only[bQ,Int.reduceEq,Int.reduceLT,Int.reduceLE,reduceCtorEq,og,bU,dV (wP bq),ck ar,ag,List.length_singleton,JT (show j+1+1<=A.length+2 by omega)]
    (repeat' apply And.intro)<;>first | omega | (simp only[di]; omega) | exact this | rfl | trivial
   ·have bU:¬ (j:Int) < (A.length:Int):=by omega
    simp only[bQ,Int.reduceEq,Int.reduceLT,Int.reduceLE,reduceCtorEq,og,bU];rw[List.take_of_length_le (by omega)]
 have IX:Ds ((y:Int)+1) (hr A)=some 0:=by
  unfold Ds zF
  apply T.eq
  simp only[bQ,Int.reduceEq,Int.reduceLT,Int.reduceLE,reduceCtorEq,show ¬ ((y:Int)+1 < 1) by omega,show ¬ (6 < (y:Int)+1) by omega,ck (ahE h (show 5000 < 6000 by decide)),og,show ¬ ((A.length:Int)=0) by omega]
 obtain⟨a,bq⟩:∃ a,A[A.length - 1]?=some a:=⟨_,List.getElem?_eq_getElem (by omega)⟩
 have aH:=h.mw a (List.mem_of_getElem? bq);have rB:=eF xA 0 (by unfold xA; omega) (Nat.zero_le _);have ar:wM (6:Int) (40:Int) ((y:Int)+1)=some (6,(1,((0,40),((y:Int)+1,0)))):=rfl;have ag:(wQ y :: A.map (sn y)).length=A.length+1:=by simp
 have hm:wO ((y:Int)+1) (hr A)=some (lB y A,some (A.length+2),0):=by
  have a7:((A.length:Int)+2).toNat=A.length+2:=by omega
  unfold wO
  apply T.eq
  simp only[bQ,Int.reduceEq,Int.reduceLT,Int.reduceLE,reduceCtorEq,ck IX,og,show((A.length:Int) - 1).toNat=A.length - 1 by omega,dV (wP bq),show ¬ ((a:Int)=40) by omega,a7,List.nil_append,List.length_nil,List.length_singleton,Nat.zero_add,JT (show 1<=A.length+2 by omega)];rw[show qY ((y:Int)+1) (hr A) xA (0:Int) [((1:Int),((0:Int),(((0:Int),(0:Int)),((y:Int)+1,(0:Int)))))] (some (A.length+2))=_ from rB];simp only[bQ,Int.reduceEq,Int.reduceLT,Int.reduceLE,reduceCtorEq,ck ar,ag,List.length_singleton,JT (show A.length+1+1<=A.length+2 by omega)]
  (repeat' apply And.intro)<;>first | omega | (simp only[di]; omega) | exact this | rfl | trivial
 unfold qZ;rw[hm,Option.bind_some]
end
section
open Go.RowKit
theorem JU{N:Nat} {l:List aq} (bF:l.length < N) (h:l.length<=100000):uf N l l=some true:=by
 have eF:Ik N l l N (0:Int)=some (.inl ()):=by
  unfold Ik;refine fZ (fun k d=>∃ i:Nat,i+k=l.length/\d=(i:Int)) _ ?_ N l.length _ (by omega) ⟨0,by omega,rfl⟩;rintro k d rec ⟨i,hi,rfl⟩ c1
  apply T.eq
  by_cases br:i < l.length
  ·obtain⟨x,ao⟩:∃ x,l[i]?=some x:=⟨_,List.getElem?_eq_getElem br⟩
   have bU:(i:Int) < (l.length:Int):=by omega
   have ai:aR.beq aL x x=true:=(beq_iff (g:=aL) _ _ rfl).2 rfl;have this:T (rec ((i:Int)+1)) (·=.inl ()):=⟨_,c1 (k - 1) _ (by omega) ⟨i+1,by omega,rfl⟩,rfl⟩
   simp only[bQ,Int.reduceEq,Int.reduceLT,Int.reduceLE,reduceCtorEq,bU,dV ao,ai]
   (repeat' apply And.intro)<;>first | omega | (simp only[di]; omega) | exact this | rfl | trivial
  ·have bU:¬ (i:Int) < (l.length:Int):=by omega
   simp only[bQ,Int.reduceEq,Int.reduceLT,Int.reduceLE,reduceCtorEq,bU]
 unfold uf
 apply T.eq
 simp only[bQ,Int.reduceEq,Int.reduceLT,Int.reduceLE,reduceCtorEq,ck eF]
theorem ahG{N:Nat} (bF:5000 < N) {l:bX} (J:l.2.2.1=[]) (U:l.2.2.2=[]):Cr N l l=some true:=by
 obtain⟨a,b,c,d⟩:=l;dsimp only at J U;subst J U;have he:=JU (N:=N) (l:=([]:List aq)) (by show 0 < N; omega) (by show 0<=100000; omega);have ar:Io N ([]:List qr) []=some true:=by
  obtain⟨n,rfl⟩:∃ n,N=n+1:=⟨N - 1,by omega⟩
  rfl
 have ai:(b == b)=true:=by simp
 unfold Cr
 apply T.eq
 simp only[bQ,Int.reduceEq,Int.reduceLT,Int.reduceLE,reduceCtorEq,ai,ck he,ck ar]
theorem ahH{N:Nat} (bF:5000 < N) {l:List bX} (ag:l.length<=4000) (h:∀ x∈l,x.2.2.1=[]/\x.2.2.2=[]):Dn N l l=some true:=by
 have eF:JL N l l N (0:Int)=some (.inl ()):=by
  unfold JL;refine fZ (fun k d=>∃ i:Nat,i+k=l.length/\d=(i:Int)) _ ?_ N l.length _ (by omega) ⟨0,by omega,rfl⟩;rintro k d rec ⟨i,hi,rfl⟩ c1
  apply T.eq
  by_cases br:i < l.length
  ·obtain⟨x,ao⟩:∃ x,l[i]?=some x:=⟨_,List.getElem?_eq_getElem br⟩
   have bU:(i:Int) < (l.length:Int):=by omega
   have jV:=h x (List.mem_of_getElem? ao);have this:T (rec ((i:Int)+1)) (·=.inl ()):=⟨_,c1 (k - 1) _ (by omega) ⟨i+1,by omega,rfl⟩,rfl⟩
   simp only[bQ,Int.reduceEq,Int.reduceLT,Int.reduceLE,reduceCtorEq,bU,dV ao,ck (ahG bF jV.1 jV.2)]
   (repeat' apply And.intro)<;>first | omega | (simp only[di]; omega) | exact this | rfl | trivial
  ·have bU:¬ (i:Int) < (l.length:Int):=by omega
   simp only[bQ,Int.reduceEq,Int.reduceLT,Int.reduceLE,reduceCtorEq,bU]
 unfold Dn
 apply T.eq
 simp only[bQ,Int.reduceEq,Int.reduceLT,Int.reduceLE,reduceCtorEq,ck eF]
theorem ahI{N:Nat} (bF:5000 < N) {t:List (List bX)} (aZ:t.length<=4000) (h:∀ l∈t,l.length<=4000/\∀ x∈l,x.2.2.1=[]/\x.2.2.2=[]):Dq N t t=some true:=by
 have eF:JM N t t N (0:Int)=some (.inl ()):=by
  unfold JM;refine fZ (fun k d=>∃ i:Nat,i+k=t.length/\d=(i:Int)) _ ?_ N t.length _ (by omega) ⟨0,by omega,rfl⟩;rintro k d rec ⟨i,hi,rfl⟩ c1
  apply T.eq
  by_cases br:i < t.length
  ·obtain⟨x,ao⟩:∃ x,t[i]?=some x:=⟨_,List.getElem?_eq_getElem br⟩
   have bU:(i:Int) < (t.length:Int):=by omega
   have jV:=h x (List.mem_of_getElem? ao);have U:Dp N x x=some true:=by
    unfold Dp;rw[ahH bF jV.1 jV.2,Option.bind_some]
   have this:T (rec ((i:Int)+1)) (·=.inl ()):=⟨_,c1 (k - 1) _ (by omega) ⟨i+1,by omega,rfl⟩,rfl⟩
   simp only[bQ,Int.reduceEq,Int.reduceLT,Int.reduceLE,reduceCtorEq,bU,dV ao,ck U]
   (repeat' apply And.intro)<;>first | omega | (simp only[di]; omega) | exact this | rfl | trivial
  ·have bU:¬ (i:Int) < (t.length:Int):=by omega
   simp only[bQ,Int.reduceEq,Int.reduceLT,Int.reduceLE,reduceCtorEq,bU]
 unfold Dq
 apply T.eq
 simp only[bQ,Int.reduceEq,Int.reduceLT,Int.reduceLE,reduceCtorEq,ck eF]
theorem ahJ{N:Nat} (bF:5000 < N) {t:List (List bX)} (aZ:t.length<=4000) (h:∀ l∈t,l.length<=4000/\∀ x∈l,x.2.2.1=[]/\x.2.2.2=[]) {ids:List aq} (hi:ids.length<=4000):Dr N (t,([],(ids,[]))) (t,([],(ids,[])))=some true:=by
 have J:=ahI bF aZ h;have U:Ip N ([]:List cR) []=some true:=by
  obtain⟨n,rfl⟩:∃ n,N=n+1:=⟨N - 1,by omega⟩
  rfl
 have ae:=JU (N:=N) (l:=ids) (by omega) (by omega);have aw:=JU (N:=N) (l:=([]:List aq)) (by show 0 < N; omega) (by show 0<=100000; omega);unfold Dr
 apply T.eq
 simp only[bQ,Int.reduceEq,Int.reduceLT,Int.reduceLE,reduceCtorEq,ck J,ck U,ck ae,ck aw]
theorem Rw{N:Nat} (bF:5000 < N) {a b:cd} (J:a.1=b.1) (U:a.2.2=b.2.2) (ae:b.2.2.2.2=[]):zI N a b=some true:=by
 obtain⟨aj,a2,a3⟩:=a;obtain⟨sG,iP,yt,tC,aja⟩:=b;dsimp only at J U ae;subst J ae;subst U;have eF:Rt N (aj,a2,yt,tC,[]) (aj,iP,yt,tC,[]) N (0:Int)=some (.inl ()):=by
  obtain⟨n,rfl⟩:∃ n,N=n+1:=⟨N - 1,by omega⟩
  rfl
 have aC:(aj != aj)=false:=by simp
 have a7:(tC != tC)=false:=by simp
 unfold zI
 apply T.eq
 simp only[bQ,Int.reduceEq,Int.reduceLT,Int.reduceLE,reduceCtorEq,aC,a7,ck eF]
theorem ahK{N:Nat} (bF:5000 < N) {y:Nat} (aV:y < 6) (n:Nat) (fe:Int) (B:ig) (F:lv) (k e:Int) (S:List dI) (G:lv) (d:Int) (g:Int) :
  JS N ((fe,(B,(e2 y 163 n,F))),k,e) ((S,(e2 y 179 n,(G,d))),g) N (0:Int)=some (.inl ()):=by
 have ag:∀ p:Int,(e2 y p n).length=6:=fun p=>by simp[e2]
 unfold JS;refine fZ (fun k d=>∃ i:Nat,i+k=6/\d=(i:Int)) _ ?_ N 6 _ (by omega) ⟨0,by omega,rfl⟩;rintro k d rec ⟨i,hi,rfl⟩ c1
 apply T.eq
 by_cases br:i < 6
 ·have bU:(i:Int) < 6:=by omega
  have jd:∀ p:Int,(e2 y p n)[i]?=some (if i=y then gb p n else bM.zero):=by
   intro p
   by_cases e:i=y
   ·rw[if_pos e,e]
    exact qX aV p n
   ·rw[if_neg e]
    unfold e2;rw[List.getElem?_set_ne (fun h=>e h.symm),List.getElem?_replicate,if_pos br]
  have al:zI N (if i=y then gb 163 n else bM.zero) (if i=y then gb 179 n else bM.zero)=some true:=by
   by_cases e:i=y
   ·rw[if_pos e,if_pos e]
    exact Rw bF rfl rfl rfl
   ·rw[if_neg e,if_neg e]
    exact Rw bF rfl rfl rfl
  have this:T (rec ((i:Int)+1)) (·=.inl ()):=⟨_,c1 (k - 1) _ (by omega) ⟨i+1,by omega,rfl⟩,rfl⟩
  simp only[bQ,Int.reduceEq,Int.reduceLT,Int.reduceLE,reduceCtorEq,bU,ag,dV (jd 163),dV (jd 179),ck al]
  (repeat' apply And.intro)<;>first | omega | (simp only[di]; omega) | exact this | rfl | trivial
 ·have bU:¬ (i:Int) < 6:=by omega
  simp only[bQ,Int.reduceEq,Int.reduceLT,Int.reduceLE,reduceCtorEq,bU]
theorem ahL{n:Nat}:∀ x∈si n,x.2.2.1=[]/\x.2.2.2=[]:=by
 intro x ao;obtain⟨j,_,rfl⟩:=List.mem_map.1 ao;exact⟨rfl,rfl⟩
theorem ahM{y n:Nat} (bk:n<=4000):∀ l∈eL y n,l.length<=4000/\∀ x∈l,x.2.2.1=[]/\x.2.2.2=[]:=by
 intro l ag;unfold eL at ag
 rcases List.mem_or_eq_of_mem_set ag with h | h
 ·rw[List.eq_of_mem_replicate h]
  exact⟨Nat.zero_le _,fun x ao=>by cases ao⟩
 ·rw[h]
  exact⟨by rw[C8]; exact bk,ahL⟩
theorem ahN{z:Int} (aP:0<=z):∃ y:Nat,y < 6/\IntKind.wrap .u8 ((1:Int)+Int.tmod z 6)=(y:Int)+1:=by
 obtain⟨J,U⟩:=DA aP (show(0:Int) < 6 by decide);refine⟨(Int.tmod z 6).toNat,by omega,?_⟩;rw[OM (by omega) (by omega)];omega
theorem ahO{N:Nat} (bF:5000 < N) (Rx:Dw N=some true) (x:List (Int×Int×Int)) (ao:∀ z∈x,0<=z.1/\0<=z.2.1/\0<=z.2.2) {z:Int} (bP:0<=z):Dz N x z=some true:=by
 obtain⟨y,aV,hw⟩:=ahN bP;unfold Dz
 apply T.eq
 simp only[hw,bQ,Int.reduceEq,Int.reduceLT,Int.reduceLE,reduceCtorEq];refine(ahB bF x ao).mono ?_;rintro r ⟨A,rfl,ad,ajb,hH⟩;have aa:=ahF aV ad hH;have dw:=agx bF aV ad;have ahP:=agz bF aV (w:=A.length) (by omega) (by omega);have hlen:=wI y A;have ag:∀ p:Int,(e2 y p A.length).length=6:=fun p=>by simp[e2]
 have aW:=ahK bF aV A.length 0 (ej y A A.length,[]) (eL y A.length,([],(kv y A.length,[]))) (((lB y A).length:Nat):Int) 0 (mx y A.length) (eL y A.length,([],(kv y A.length,[]))) 0 0;have al:=ahJ bF (t:=eL y A.length) (by rw[wH]; omega) (ahM (by omega)) (ids:=kv y A.length) (by rw[wG]; omega);have kb:=IT N (nd:=((0:Int),(40:Int))) ⟨Or.inl rfl,by decide,by decide⟩ (r:=0) ⟨by decide,by decide⟩;have aM:(e2 y 163 A.length).getD y bM.zero=gb 163 A.length:=dV (qX aV 163 A.length);have gX:ij 0 40 0 < (gb 163 A.length).2.1:=by
  show(162:Int) < 163
  decide
 have aA:A.length<=16:=ad.hc;unfold Jk at dw;simp only[bQ,Int.reduceEq,Int.reduceLT,Int.reduceLE,reduceCtorEq,ck aa,ck (agt N),ck dw,og,ck ahP,hlen,ck aW,ag,se aV,ck al,ck kb,aM,gX,ck Rx];rw[hlen]at aW;refine⟨by(repeat' apply And.intro)<;>first | omega | (simp only[di]; omega) | exact this | rfl | trivial,fun h=>by omega,fun _=>?_⟩;simp only[bQ,Int.reduceEq,Int.reduceLT,Int.reduceLE,reduceCtorEq,ck aW,ck al,ck kb,gX,ck Rx]
 (repeat' apply And.intro)<;>first | omega | (simp only[di]; omega) | exact this | rfl | trivial
end
theorem ahQ(x:Nat):Dw (x+6000)=some true:=by kernel_rfl
section
open Go.ChangeShapes Go.WideShapes Go.ChangeAt Go.WideElems Go.RowKit
theorem DB{x:Int} (h:IntKind.u8.min<=x/\x<=IntKind.u8.max):0<=x:=by
 have aC:IntKind.u8.min=0:=rfl;rw[aC]at h;exact h.1
abbrev g8:aR:=.int .u8
abbrev g3:aR:=.pair (.int .u8) (.pair (.int .u8) (.int .u8))
theorem ahR{z:Int×(Int×Int)} (h:ql (.pair g8 (.pair g8 g8)) z):0<=z.1/\0<=z.2.1/\0<=z.2.2:=by
 obtain⟨aP,J,U⟩:=h;exact⟨DB aP,DB J,DB U⟩
theorem ahS(kj:List (Int×Int×Int)) (nN:Int) (c0:Option Nat) (r:Bool) (h:Dz 6000 kj nN=some r):AC bE 5 [.c (.a1 (.pair g8 (.pair g8 g8)) kj none),.c (.val (.int .u8 nN))] [] (fun sv h=>sv=.c (.val (.bool r))/\h=[]):=
 (ahy 6000).ok (kj,nN,()) r h
theorem ahT{W:World} (h:laidMetH Tryz.prog Rows.edgesCastRow.laid W):uT bE (fun b=>b < W.heap.size) W:=by
 rw[MakeChecks.laidMetH_plain _ _ _ (by kernel_rfl)]at h;obtain⟨ps,⟨g0,t0,ajc,f0,KB,ph,ajd,Q6,vJ,gY,⟨g1,t1,aje,f1,hY,dF,c3,NH,kG,lC,⟨g2,t2,ajf,f2,hv,et,dy,tq,hM,kg,⟨g3,t3,ajg,f3,pn,gp,hO,ahU,ahV,ahW,⟨g4,t4,ajh,f4,LB,hT,Ry,ahX,ahY,Hb,⟨g5,t5,aji,f5,ajj,mD,Rz,ahZ,ah0,ah1,_,_⟩,_⟩,_⟩,_⟩,_⟩,_⟩,_,_⟩:=h;have gN:=AM Ry (by kernel_rfl:_=some 0);subst gN;have ah2:=AN ahX (by kernel_rfl:_=some 221);subst ah2;have Mu:=LR (zs:=mK) (n:=9) Tryz.underlying221 Tryz.underlying9 (by kernel_rfl) (by kernel_rfl) Hb;have gh:=AM Rz (by kernel_rfl:_=some 1);subst gh;have ah3:=AN ahZ (by kernel_rfl:_=some 222);subst ah3;have ah4:=LR (zs:=rG) (n:=2) Tryz.underlying222 Tryz.underlying9 (by kernel_rfl) (by kernel_rfl) ah1;have cC:=AM hO (by kernel_rfl:_=some 2);subst cC;have tx:=AN ahU (by kernel_rfl:_=some 285);subst tx;have rR:=Lib.cells_of_tab (zs:=LP) (k:=.i64) (n:=2) Tryz.underlying285 Tryz.underlying3 (by kernel_rfl) (by kernel_rfl) ahW;have a7:=AM dy (by kernel_rfl:_=some 3);subst a7;have l8:=AN tq (by kernel_rfl:_=some 315);subst l8;have cz:=Lib.cells_of_tab (zs:=Lib.pow10Tab) (k:=.u64) (n:=20) Tryz.underlying315 Tryz.underlying266 (by kernel_rfl) (by kernel_rfl) kg;intro i x ao;have hi:i=0\/i=1\/i=2\/i=3:=by
  match i,ao with
  | 0,_=>exact .inl rfl
  | 1,_=>exact .inr (.inl rfl)
  | 2,_=>exact .inr (.inr (.inl rfl))
  | 3,_=>exact .inr (.inr (.inr rfl))
  | _+4,h=>cases h
 rcases hi with rfl | rfl | rfl | rfl
 ·cases ao
  exact AL Ry ahY (by rw[Mu]; exact E2 _)
 ·cases ao
  exact AL Rz ah0 (by rw[ah4]; exact E2 _)
 ·cases ao
  exact AL hO ahV (by rw[rR]; exact E1 _)
 ·cases ao
  exact AL dy hM (by rw[cz]; exact E1 _)
theorem ah5(os:Os) (args:Array Value):laidMetH Tryz.prog Rows.edgesCastRow.laid ((World.doorLaid Tryz.prog 400 os).forCall (fun _ _=>0) ⟨#[],args,[]⟩).memory:=
 laidMetH_of_parts3 (fuel:=8) (laidMet_of_run' 8 (by kernel_rfl) (by kernel_rfl)) (by kernel_rfl) (by kernel_rfl)
theorem ah6:∀ t∈Tryz.f5.params.toList,Tryz.prog.readableRec t=true/\t < Tryz.prog.types.size:=by
 rw[Tryz.params5];intro t aZ;simp only[List.mem_cons,List.not_mem_nil,or_false]at aZ
 rcases aZ with rfl | rfl<;>exact⟨by kernel_rfl,of_decide_eq_true (by kernel_rfl)⟩
theorem ah7(os:Os) (started:os.Started) (H:Type) (enc:TypeId×Value->H) :
  ReturnsInHanded {} Tryz.checked os 5 .any (fun w args=>(Rows.edgesCastSpec.pre enc Tryz.prog Tryz.f5 [] false w args/\laidMetH Tryz.prog Rows.edgesCastRow.laid w)/\sizedMet enc Tryz.prog Tryz.f5 (OpenSpec.ofChange Rows.edgesCastSpec) false w args)
   (Rows.edgesCastSpec.post enc Tryz.prog Tryz.f5 false true false false):=by
 refine returnsInHanded_of_change_and (C:=Tryz.checked) (X:=fun w _=>laidMetH Tryz.prog Rows.edgesCastRow.laid w) (fun _ _ _ cB h=>h.of_heap cB) Tryz.own started (by kernel_rfl) Tryz.func5
  (ChangeSpec.witness_shaped (enc:=enc) (C:=Tryz.checked) (os:=os) (X:=fun w _=>laidMetH Tryz.prog Rows.edgesCastRow.laid w) false (World.doorLaid Tryz.prog 400 os) #[.slice none 0 0,.int .u8 0] 8 rfl (World.shaped_of_RefB (by kernel_rfl) (by kernel_rfl)) (by kernel_rfl) (by kernel_rfl) (by kernel_rfl) (ah5 os _)) ?_
 intro W base args aG gs before ah8 q6 _ _ eF _;have ss:∀ (j:Nat) t v,Tryz.f5.params[j]?=some t->args[j]?=some v->Value.okWide Tryz.prog W .any base t v:=ah8;have zV:=q6;obtain⟨p,q,hH,ir,rfl,L3,sh⟩:=q6;have ad:DataW.TrodAll enc Tryz.prog W 0 (fun _=>true) true Tryz.f5.params.toList args.toList aG p:=hH;rw[Tryz.params5]at ad ss;obtain⟨v0,v1,d0,d1,KB,hY,rfl,rfl,rfl,aP,J⟩:=trodAll_two ad;obtain⟨rfl,rfl⟩:=trodVars_none ir;obtain⟨kj,En,vJ⟩:=XK (g:=g3) (by decide) Tryz.underlying23 (by kernel_rfl) (X0 bw 12 84 g3 (by kernel_rfl)) (ss 0 23 v0 rfl rfl) aP;obtain⟨nN,rfl,rfl,rfl,mg⟩:=open_int Tryz.underlying5 (ss 1 5 v1 rfl rfl) J;have ah9:=XP mg;have aia:=AC.law (W:=W) (ahS kj nN none true (ahO (N:=6000) (by decide) (ahQ 0) kj (fun z bP=>ahR (En z bP)) (DB ah9))) (ahT eF) (vs:=[v0,.int .u8 nN]) ⟨v0,_,rfl,vJ _,.int .u8 nN,_,rfl,rfl,rfl⟩;refine Calls.mono aia fun e dq ⟨v,he,aE,hw⟩=>?_
 subst aE;exact⟨_,he,SD zV rfl rfl (by kernel_rfl) Tryz.underlying4 Tryz.laidOut ah6 hw⟩
theorem aib:Rows.EdgesCastSaid:=
 OpenClaim.holds_of_wide 5 Tryz.f5 rfl rfl rfl rfl rfl rfl rfl ⟨rfl,rfl,rfl,rfl,rfl⟩ rfl rfl rfl rfl rfl (by kernel_rfl) Tryz.func5 (by kernel_rfl)
  (of_decide_eq_true (by kernel_rfl)) (by unfold Func.isWrapper; first | (rw[if_pos (by decide +kernel)]; kernel_rfl) | (rw[if_neg (by decide +kernel)]; exact⟨rfl,rfl⟩))
  (fun os started H enc _=>ah7 os started H enc)
theorem edgesCast_holds:Rows.EdgesCastCardSaid:=
 Claim7.holds_tied_plain_at .later [] [.data,.data,.data,.data,.data,.data] true Rows.edgesCastCard.stood.harness false
  aib (fun _ h=>by cases h) (by kernel_rfl) (fun _ h=>by cases h) edgesCast_row_tie rfl ⟨rfl,rfl⟩ (by kernel_rfl) rfl
  (fun f fn aA fP=>by
   obtain rfl:f=5:=Option.some.inj (aA.symm.trans (by kernel_rfl));obtain rfl:fn=Tryz.f5:=(Option.some.inj (Tryz.func5.symm.trans fP)).symm;exact⟨by kernel_rfl,fun j t aZ=>by
    rw[Tryz.params5]at aZ;have hm:t∈[23,5]:=by simpa using Array.mem_of_getElem? aZ
    have nf:([23,5].all fun u=>!Tryz.prog.wantsStandIn u)=true:=by kernel_rfl
    exact(show Tryz.prog.wantsStandIn t=false by simpa using List.all_eq_true.1 nf t hm)⟩)
  (by kernel_rfl)
end
end Go.Proofs.YtcheedjfedcbpaaGreatDoor
