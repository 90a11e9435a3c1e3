/- ShiftsFront: Front brings all slots to the front bed, and nothing crosses. -/
import Derived.Test.YtcheedjfedcbpaaGreatDoorSh05
import Derived.Shelf.Strconv.Itoa3
import Derived.Room.Shelf.Join48
import Derived.Test.YtcheedjfedcbpaaGreatDoorProg
set_option linter.unusedSimpArgs false
set_option linter.unusedVariables false
set_option maxRecDepth 100000
namespace Go.Proofs.YtcheedjfedcbpaaGreatDoor
open Go.RowKit
section
open Go.RowKit
structure uX(N:Nat) (f g:List (List al)) (ys:List cb) (t:List (List bB)) (H:List al):Prop where
 hQ:lv f g
 pv:(f.flatten++g.flatten).Nodup
 e9:f.flatten.length+g.flatten.length < 20
 J2:ys.length=6
 J3:∀ Y∈ys,nR Y
 tok:∃ aP,lU t aP
 all:eo t<=2048
 eO:Dt t
 once:ri t H
 held:qr N (f,g) 0=some H
 ad:H.length<=1000
 zN:∀ (i:Nat) (Y:cb),ys[i]?=some Y->Y.2.2.1=((t.getD i []).length:Int)
theorem af4{N:Nat} (bd:5000 < N) {f g:List (List al)} {ys:List cb} {t:List (List bB)} {H:List al} (h:uX N f g ys t H):zZ N ((0:Int),((f,g),(ys,(t,([],(H,[]))))))=some 0:=by
 obtain⟨aP,kq⟩:=h.tok;have aY:=kq.len;have pa:=h.J2;have J4:Jy N ((0:Int),((f,g),(ys,(t,([],(H,[])))))) N (0:Int)=some (.inl ()):=by
  unfold Jy;refine e8 (fun k d=>∃ i:Nat,i+k=6/\d=(i:Int)) _ ?_ N 6 _ (by omega) ⟨0,by omega,rfl⟩;rintro k d rec ⟨i,hi,rfl⟩ bY
  apply T.eq
  by_cases a8:i < 6
  ·obtain⟨Y,cr⟩:∃ Y,ys[i]?=some Y:=⟨_,List.getElem?_eq_getElem (by omega)⟩
   have aB:=h.J3 Y (List.mem_of_getElem? cr);have aA:=aB.e9;have bg:(i:Int) < (ys.length:Int):=by omega
   have this:T (rec ((i:Int)+1)) (·=.inl ()):=⟨_,bY (k - 1) _ (by omega) ⟨i+1,by omega,rfl⟩,rfl⟩
   simp only[bc,Int.reduceEq,Int.reduceLT,Int.reduceLE,reduceCtorEq,bg,b8 cr,bt (zO aB (N:=N) (by omega))]
   and_intros<;>first | omega | (simp only[bN]; omega) | exact this | trivial
  ·have bg:¬ (i:Int) < (ys.length:Int):=by omega
   simp only[bc,Int.reduceEq,Int.reduceLT,Int.reduceLE,reduceCtorEq,bg]
 have af5:Jz N ((0:Int),((f,g),(ys,(t,([],(H,[])))))) N (0:Int)=some (.inl ()):=by
  unfold Jz;refine e8 (fun k d=>∃ i:Nat,i+k=6/\d=(i:Int)) _ ?_ N 6 _ (by omega) ⟨0,by omega,rfl⟩;rintro k d rec ⟨i,hi,rfl⟩ bY
  apply T.eq
  by_cases a8:i < 6
  ·obtain⟨Y,cr⟩:∃ Y,ys[i]?=some Y:=⟨_,List.getElem?_eq_getElem (by omega)⟩
   have bg:(i:Int) < (ys.length:Int):=by omega
   have aa:=h.zN i Y cr;have this:T (rec ((i:Int)+1)) (·=.inl ()):=⟨_,bY (k - 1) _ (by omega) ⟨i+1,by omega,rfl⟩,rfl⟩
   simp only[bc,Int.reduceEq,Int.reduceLT,Int.reduceLE,reduceCtorEq,bg,b8 cr,aa]
   and_intros<;>first | omega | (simp only[bN]; omega) | exact this | trivial
  ·have bg:¬ (i:Int) < (ys.length:Int):=by omega
   simp only[bc,Int.reduceEq,Int.reduceLT,Int.reduceLE,reduceCtorEq,bg]
 have ak:=wV bd h.hQ.gL h.hQ.aZ h.pv (by have:=h.e9; omega);have oN:=af2 bd (f:=(t,([],(H,[])))) kq h.all (by show ri t (H++[]); rw[List.append_nil]; exact h.once) h.ad (by show 0<=1; omega) rfl;have hlen:=h.ad;have heq:=af3 bd H (by omega);have af6:(ys.length:Int)=6:=by omega
 unfold zZ
 apply T.eq
 simp only[bc,Int.reduceEq,Int.reduceLT,Int.reduceLE,reduceCtorEq,bt ak,af6,bt J4,bt oN,bt h.held,bt heq,bt af5]
end
section
open Go.RowKit
def jH(y i:Nat):List al:=(List.range i).map fun(j:Nat)=>((y:Int)+1,(j:Int))
theorem sP(y i:Nat):jH y (i+1)=jH y i++[((y:Int)+1,(i:Int))]:=by simp[jH,List.range_succ]
theorem DR(y i:Nat):(jH y i).length=i:=by simp[jH]
theorem Rc{y i:Nat} {a:al} (h:a∈jH y i):a.1=(y:Int)+1/\0<=a.2/\a.2 < (i:Int):=by
 unfold jH at h;obtain⟨j,aR,rfl⟩:=List.mem_map.1 h;rw[List.mem_range]at aR;exact⟨rfl,by dsimp only; omega,by dsimp only; omega⟩
theorem Ah(y:Nat):∀ i,(jH y i).Nodup
 | 0=>List.Pairwise.nil
 | i+1=>by
  rw[sP];refine List.nodup_append.2 ⟨Ah y i,by simp,fun a bo b ae e=>?_⟩;rw[List.mem_singleton]at ae
  have:=(Rc bo).2.2
  rw[e,ae]at this;dsimp only at this;omega
def uY(i:Nat):List bB:=(List.range i).map fun(j:Nat)=>((0:Int),(decide (j=0),(([]:List al),([]:List c1))))
theorem af7(i:Nat):uY (i+1)=uY i++[((0:Int),(decide (i=0),([],[])))]:=by simp[uY,List.range_succ]
theorem af8(i:Nat):(uY i).length=i:=by simp[uY]
def l0(y i:Nat):List (List bB):=(List.replicate 6 []).set y (uY i)
def mB(p:Int) (i:Nat):cb:=(true,p,(i:Int),decide (i=0),[])
def oH(y:Nat) (p:Int) (i:Nat):List cb:=(List.replicate 6 (b7.zero:cb)).set y (mB p i)
theorem Rd(y i:Nat):(l0 y i).length=6:=by simp[l0]
theorem Re{y:Nat} (aT:y < 6) (i:Nat):(l0 y i)[y]?=some (uY i):=by
 unfold l0;rw[List.getElem?_set,if_pos rfl,if_pos (by simpa using aT)]
theorem Rf{y:Nat} (aT:y < 6) (i:Nat):hx (l0 y i) y ((0:Int),(decide (i=0),([],[])))=l0 y (i+1):=by
 unfold hx;rw[b8 (Re aT i),<- af7];unfold l0;rw[List.set_set]
theorem af9{y:Nat} (aT:y < 6):l0 y 0=List.replicate 6 []:=by
 unfold l0;exact zu (by rw[List.getElem?_replicate,if_pos aT]; rfl)
theorem Rg{y:Nat} (aT:y < 6):∀ i,eo (l0 y i)=i
 | 0=>by rw[af9 aT]; rfl
 | i+1=>by rw[<- Rf aT i,Jb (by rw[Rd]; exact aT),Rg aT i]
theorem J5{y:Nat} (aT:y < 6) (p:Int) (i:Nat):(oH y p i)[y]?=some (mB p i):=by
 unfold oH;rw[List.getElem?_set,if_pos rfl,if_pos (by simpa using aT)]
theorem Rh(y:Nat) (p q:Int) (i j:Nat):(oH y p i).set y (mB q j)=oH y q j:=by
 unfold oH;rw[List.set_set]
theorem Ri{p:Int} (aq:Int.tmod p 2≠0/\-13<=p/\p<=179) {i:Nat} (hi:i<=2048):nR (mB p i):=
 ⟨⟨by show(0:Int)<=(i:Int); omega,by show(i:Int)<=2048; omega⟩,fun h=>(by cases h),fun _=>aq,Nat.zero_le _,fun p aq=>(by cases aq),fun i p q aq=>(by cases aq)⟩
structure DS(A:List Nat):Prop where
 nm:A.Pairwise (· < ·)
 oI:∀ a∈A,1<=a/\a<=39
 e9:A.length<=16
def hY(y:Nat) (A:List Nat):Nat->List (List al)
 | 0=>[]
 | j+1=>eN (hY y A j) (A.getD j 0) [((y:Int)+1,(j:Int))]
theorem Rj{A:List Nat} (h:DS A) (y:Nat):∀ j,j<=A.length->(j=0/\(hY y A j).length=0)\/∃ i a,j=i+1/\A[i]?=some a/\(hY y A j).length=a
 | 0,_=>Or.inl ⟨rfl,rfl⟩
 | j+1,aR=>by
  obtain⟨a,bo⟩:∃ a,A[j]?=some a:=⟨_,List.getElem?_eq_getElem (by omega)⟩
  refine Or.inr ⟨j,a,rfl,bo,?_⟩;show(eN (hY y A j) (A.getD j 0) _).length=a;rw[b8 bo];refine w5 ?_ _;have az:=h.oI a (List.mem_of_getElem? bo)
  rcases Rj h y j (by omega)with⟨_,aN⟩ | ⟨i,b,hi,ae,ad⟩
  ·omega
  ·rw[ad]
   have:=List.pairwise_iff_getElem.1 h.nm i j (by omega) (by omega) (by omega)
   rw[<- (List.getElem?_eq_some_iff.1 bo).2,<- (List.getElem?_eq_some_iff.1 ae).2];exact this
theorem Rk{A:List Nat} (h:DS A) (y:Nat) {j a:Nat} (bo:A[j]?=some a):(hY y A j).length < a:=by
 have a8:=(List.getElem?_eq_some_iff.1 bo).1;have az:=h.oI a (List.mem_of_getElem? bo)
 rcases Rj h y j (by omega)with⟨_,aN⟩ | ⟨i,b,hi,ae,ad⟩
 ·omega
 ·rw[ad]
  have:=List.pairwise_iff_getElem.1 h.nm i j (by omega) (by omega) (by omega)
  rw[<- (List.getElem?_eq_some_iff.1 bo).2,<- (List.getElem?_eq_some_iff.1 ae).2];exact this
theorem J6{A:List Nat} (y:Nat) {j a:Nat} (bo:A[j]?=some a):hY y A (j+1)=eN (hY y A j) a [((y:Int)+1,(j:Int))]:=by
 show eN _ (A.getD j 0) _=_;rw[b8 bo]
theorem Rl(y:Nat) (A:List Nat):∀ j,(hY y A j).flatten=jH y j
 | 0=>rfl
 | j+1=>by
  show(eN _ _ _).flatten=_;rw[Jw,Rl y A j,sP]
theorem Rm{A:List Nat} (h:DS A) {y:Nat} (aT:y < 6):∀ j,j<=A.length->fD (hY y A j)
 | 0,_=>⟨Nat.zero_le _,fun s ak=>(by cases ak),fun s ak=>(by cases ak)⟩
 | j+1,aR=>by
  have uV:=h.e9;obtain⟨a,bo⟩:∃ a,A[j]?=some a:=⟨_,List.getElem?_eq_getElem (by omega)⟩
  have az:=h.oI a (List.mem_of_getElem? bo);rw[J6 y bo];refine(Rm h aT j (by omega)).put (Rk h y bo) (by omega) (by simp) fun x aj=>?_
  rw[List.mem_singleton]at aj;rw[aj];exact⟨by dsimp only; omega,by dsimp only; omega,by dsimp only; omega,by dsimp only; omega⟩
def kr(f:List (List al)):Int:=if f.length=0 then -13 else 4 * (f.length:Int)+3
theorem qh:fD ([]:List (List al)):=⟨Nat.zero_le _,fun s ak=>(by cases ak),fun s ak=>(by cases ak)⟩
theorem aga{f:List (List al)} (h:f.length<=39):Int.tmod (kr f) 2≠0/\-13<=kr f/\kr f<=179:=by
 unfold kr
 split
 ·decide
 ·refine⟨?_,by omega,by omega⟩
  rw[Int.tmod_eq_emod_of_nonneg (by omega)];omega
theorem Ai(f:List (List al)) (r:Int):fA f [] r=hX 0 r 0 f:=by
 unfold fA;exact List.append_nil _
theorem agb{f:List (List al)} {e:Int}:∀ p∈fA f [] 0,¬ (kr f < p.2.2/\p.2.2 < e):=by
 intro p aq;rw[Ai]at aq;obtain⟨J,U,ah,au⟩:=Dn 0 0 f 0 p aq;have ak:p.2.2=4 * p.2.1.2+2:=by rw[U]; rfl
 unfold kr
 split
 ·omega
 ·omega
theorem Rn{f:List (List al)} {y j:Nat} (h:f.flatten=jH y j):(f.flatten++([]:List (List al)).flatten).Nodup:=by
 rw[h];show(jH y j++[]).Nodup;rw[List.append_nil];exact Ah y j
theorem aji{N:Nat} (bd:5000 < N) {y:Nat} (aT:y < 6) {A:List Nat} (h:DS A) {j a:Nat} (bo:A[j]?=some a) :
  rp N (4,(1,((0,(a:Int)),((y:Int)+1,0)))) 0 (hY y A j) [] (own (l0 y j)) [] (oH y (kr (hY y A j)) j) []=some (0,0,hY y A (j+1),[],own (l0 y (j+1)),[],oH y (kr (hY y A (j+1))) (j+1),[]):=by
 have uV:=h.e9;have F4:=(List.getElem?_eq_some_iff.1 bo).1;have az:=h.oI a (List.mem_of_getElem? bo);have a8:=Rk h y bo;have aB:=Rm h aT j (by omega);have cv:=Rl y A j;have lu:=Rn cv;have lH:(hY y A j).flatten.length+([]:List (List al)).flatten.length < 20:=by
  rw[cv,DR];show j+0 < 20;omega
 have agc:qe (fA (hY y A j) [] 0):=by rw[Ai]; exact QB _ _ _ _
 have uZ:((0:Int)=0\/(0:Int)=1)/\(1:Int)<=(a:Int)/\(a:Int)<=40:=⟨Or.inl rfl,by omega,by omega⟩
 have ja:fo 0 (a:Int) 0=4 * (a:Int)+2:=rfl;have agd:=aga (f:=hY y A j) (by omega);have gx:kr (hY y A j) < 4 * (a:Int)+2:=by
  unfold kr
  split<;>omega
 have ae:=JO (N:=N) aT (J5 aT (kr (hY y A j)) j) rfl (nd:=((0:Int),(a:Int))) uZ (r:=0) ⟨by decide,by decide⟩ (by rw[ja]; exact Int.le_of_lt gx) 4 (hY y A j) [] (own (l0 y j)) [] [];rw[ja]at ae;have Aj:Int.tmod (4 * (a:Int)+2+1) 2≠0/\-13<=4 * (a:Int)+2+1/\4 * (a:Int)+2+1<=179:=by
  refine⟨?_,by omega,by omega⟩;rw[Int.tmod_eq_emod_of_nonneg (by omega)];omega
 have aa:=JP bd aB qh lu (r:=0) ⟨by decide,by decide⟩ lH agc aT (J5 aT (kr (hY y A j)) j) (Ri agd (by omega)) rfl Aj (e:=4 * (a:Int)+2) gx agb (own (l0 y j)) [] [];have u0:(oH y (kr (hY y A j)) j).set y (true,4 * (a:Int)+2+1,(mB (kr (hY y A j)) j).2.2.1,(mB (kr (hY y A j)) j).2.2.2.1,(mB (kr (hY y A j)) j).2.2.2.2)=oH y (4 * (a:Int)+2+1) j:=Rh y _ _ j j;rw[u0]at aa;have dn:=QU (N:=N) (g:=[]) a8 (by omega:a<=40);have fX:=Qw bd aB qh w4 a8 (by omega:a<=40) (s:=[((y:Int)+1,(j:Int))]) (by simp) (by simp) (by
  intro x aj;rw[List.mem_singleton]at aj;rw[aj];exact⟨by dsimp only; omega,by dsimp only; omega,by dsimp only; omega,by dsimp only; omega⟩) (by
  rw[cv];show((jH y j++[])++_).Nodup;rw[List.append_nil,<- sP];exact Ah y (j+1)) (by omega)
 have hm:=JQ bd (f:=hY y A j) (g:=[]) (f':=eN (hY y A j) a [((y:Int)+1,(j:Int))]) (g':=[]) (Rd y j) (by rw[Rg aT]; omega) aT (J5 aT (4 * (a:Int)+2+1) j) (Ri Aj (by omega)) rfl (by
  rw[b8 (Re aT j),af8]; rfl) (nd:=((0:Int),(a:Int))) (stack:=[]) (thr:=[]) (by simp) fX 4 1 0 [] []
 have age:hx (l0 y j) y ((0:Int),((mB (4 * (a:Int)+2+1) j).2.2.2.1,([],(mB (4 * (a:Int)+2+1) j).2.2.2.2)))=l0 y (j+1):=Rf aT j;have kl:(oH y (4 * (a:Int)+2+1) j).set y (true,(mB (4 * (a:Int)+2+1) j).2.1,(mB (4 * (a:Int)+2+1) j).2.2.1+1,false,[])=oH y (kr (hY y A (j+1))) (j+1):=by
  have aC:kr (hY y A (j+1))=4 * (a:Int)+2+1:=by
   rw[J6 y bo];unfold kr;rw[w5 a8,if_neg (by omega)];omega
  rw[aC];have aW:((true,(mB (4 * (a:Int)+2+1) j).2.1,(mB (4 * (a:Int)+2+1) j).2.2.1+1,false,[]):cb)=mB (4 * (a:Int)+2+1) (j+1):=by
   unfold mB;rw[show decide (j+1=0)=false from decide_eq_false (by omega)]
   rfl
  rw[aW];exact Rh y _ _ j (j+1)
 dsimp only at hm;rw[age,kl]at hm;unfold rp
 apply T.eq
 simp only[bc,Int.reduceEq,Int.reduceLT,Int.reduceLE,reduceCtorEq,bt ae,bt aa,bt dn,bt hm];rw[J6 y bo]
theorem agf{N:Nat} (bd:5000 < N) {y:Nat} (aT:y < 6) (eO:List (Bool×List bB)) (fB) (fl:List al) :
  rm N (1,(0,((0,0),((y:Int)+1,0)))) 0 [] [] eO fB (List.replicate 6 (b7.zero:cb)) fl=some (0,0,[],[],oH y (-13) 0):=by
 have agh:(List.replicate 6 (b7.zero:cb))[y]?=some b7.zero:=by rw[List.getElem?_replicate,if_pos aT]
 have aB:nR (b7.zero:cb):=⟨⟨Int.le_refl _,by decide⟩,fun _=>⟨rfl,rfl,rfl⟩,fun h=>(by cases h),by decide,fun p aq=>(by cases aq),fun i p q aq=>(by cases aq)⟩
 have he:=adJ aB rfl bd (side:=0) (Or.inl rfl);unfold rm
 apply T.eq
 simp only[uQ aT,bc,Int.reduceEq,Int.reduceLT,Int.reduceLE,reduceCtorEq,b8 agh,bt he,List.length_replicate];refine⟨by and_intros<;>first | omega | (simp only[bN]; omega) | exact this | trivial,by and_intros<;>first | omega | (simp only[bN]; omega) | exact this | trivial,by and_intros<;>first | omega | (simp only[bN]; omega) | exact this | trivial,rfl⟩
end
section
open Go.RowKit
def J7:ko:=((0:Int),(([],[]),(List.replicate 6 (b7.zero:cb),(List.replicate 6 [],([],([],[]))))))
theorem agi(N:Nat):w6 N=some J7:=rfl
theorem agj{N:Nat} (bd:5000 < N):zZ N J7=some 0:=by
 obtain⟨n,rfl⟩:∃ n,N=n+50:=⟨N - 50,by omega⟩
 rfl
theorem agk{N:Nat} (bd:5000 < N):sM N J7=some (0,[],[],List.replicate 6 (b7.zero:cb),own (List.replicate 6 []),[],[]):=by
 obtain⟨n,rfl⟩:∃ n,N=n+50:=⟨N - 50,by omega⟩
 rfl
end
section
open Go.RowKit
def jl(b:Int) (a:Nat):cS:=(7,(0,((b,(a:Int)),(0,0))))
theorem agl{f g f' g':List (List al)} (aA:f.length<=40) (aL:g.length<=40) (kA:f'.length<=40) (fm:g'.length<=40)
  (h:∀ k x,(f'.getD k []).count x+(g'.getD k []).count x=(f.getD k []).count x+(g.getD k []).count x):(f'.flatten++g'.flatten).Perm (f.flatten++g.flatten):=by
 rw[List.perm_iff_count];intro x;rw[List.count_append,List.count_append,Dr x aA,Dr x aL,Dr x kA,Dr x fm];have key:∀ n:Nat,((List.range n).map fun k=>(f'.getD k []).count x).sum+((List.range n).map fun k=>(g'.getD k []).count x).sum=((List.range n).map fun k=>(f.getD k []).count x).sum+((List.range n).map fun k=>(g.getD k []).count x).sum:=by
  intro n
  induction n with
  | zero=>rfl
  | succ n bA=>
   have:=h n x
   simp only[List.range_succ,List.map_append,List.sum_append,List.map_cons,List.map_nil,List.sum_cons,List.sum_nil,Nat.add_zero];omega
 exact key 40
structure xf(b:Int) (A:List Nat) (f g f' g':List (List al)):Prop where
 hQ:lv f' g'
 Ak:∀ k,f'.getD k []=if k+1∈A then(if b=1 then g.getD k [] else [])else f.getD k []
 gk:∀ k,g'.getD k []=if k+1∈A then(if b=1 then [] else f.getD k [])else g.getD k []
theorem xf.perm{b:Int} {A:List Nat} {f g f' g':List (List al)} (h:xf b A f g f' g') (bT:lv f g) (he:∀ a∈A,(if b=1 then f else g).getD (a - 1) []=[]):(f'.flatten++g'.flatten).Perm (f.flatten++g.flatten):=by
 refine agl bT.gL.len bT.aZ.len h.hQ.gL.len h.hQ.aZ.len fun k x=>?_
 rw[h.Ak,h.gk]
 by_cases ab:k+1∈A
 ·have:=he (k+1) ab
  rw[Nat.add_sub_cancel]at this;rw[if_pos ab,if_pos ab]
  by_cases ae:b=1
  ·rw[if_pos ae]at this
   rw[if_pos ae,if_pos ae,this];simp only[List.count_nil];omega
  ·rw[if_neg ae]at this
   rw[if_neg ae,if_neg ae,this];simp only[List.count_nil];omega
 ·rw[if_neg ab,if_neg ab]
theorem agm{N:Nat} (bd:5000 < N) {f g:List (List al)} {ys:List cb} {t:List (List bB)} {H:List al} (h:uX N f g ys t H) (nS:∀ Y∈ys,Y.1=false) {b:Int} (ae:b=0\/b=1) {A:List Nat} (ag:A.Nodup) (nX:A.length<=40) (az:∀ a∈A,1<=a/\a<=40)
  (ak:∀ a∈A,(if b=1 then g else f).getD (a - 1) []≠[]) (he:∀ a∈A,(if b=1 then f else g).getD (a - 1) []=[]) {fj} (kt:my N=some fj) :
  T (Ac N (A.map (jl b)) N ((0:Int),(0:Int),f,g,fj,[],[],own t,ys)) fun q=>∃ f' g',q=.inl ((0:Int),f',g',[],[],own t,ys)/\xf b A f g f' g':=by
 unfold Ac;refine lR (fun k d=>∃ (j:Nat) (f' g':List (List al)),j+k=A.length/\d=((j:Int),(0:Int),f',g',fj,[],[],own t,ys)/\xf b (A.take j) f g f' g') _ ?_ N A.length _ (by omega) ⟨0,f,g,by omega,rfl,⟨h.hQ,fun k=>by simp,fun k=>by simp⟩⟩;rintro k d rec ⟨j,f',g',aR,rfl,bJ⟩ bY
 by_cases a8:j < A.length
 ·obtain⟨a,bo⟩:∃ a,A[j]?=some a:=⟨_,List.getElem?_eq_getElem a8⟩
  have J8:=List.mem_of_getElem? bo;obtain⟨Al,o6⟩:=az a J8;have fN:a ∉ A.take j:=by
   have e:A=A.take j++a :: A.drop (j+1):=by rw[<- rk bo,List.take_append_drop]
   rw[e]at ag;exact C7 ag
  have agn:a - 1+1 ∉ A.take j:=by rw[Nat.sub_add_cancel Al]; exact fN
  have aq:=bJ.perm h.hQ fun x aj=>he x (List.mem_of_mem_take aj)
  have DT:(f'.flatten++g'.flatten).Nodup:=aq.nodup_iff.2 h.pv;have uV:f'.flatten.length+g'.flatten.length < 20:=by
   have:=aq.length_eq
   rw[List.length_append,List.length_append]at this
   have:=h.e9
   omega
  have DU:=bJ.Ak (a - 1);have sQ:=bJ.gk (a - 1);rw[if_neg agn]at DU sQ;have gQ:(if b=1 then g' else f').getD (a - 1) []≠[]:=by
   have:=ak a J8
   rcases ae with rfl | rfl
   ·exact fun e=>this (DU.symm.trans e)
   ·exact fun e=>this (sQ.symm.trans e)
  have cI:(if b=1 then f' else g').getD (a - 1) []=[]:=by
   have:=he a J8
   rcases ae with rfl | rfl
   ·exact sQ.trans this
   ·exact DU.trans this
  have aj:=afC bd bJ.hQ DT uV ae Al o6 gQ cI h.J2 nS (own t) [] [];have ago:=afy (afx N (nd:=(b,(a:Int))) ⟨ae,by dsimp only; omega,by dsimp only; omega⟩) rfl 0 f' g' (own t) [] ys [] kt;have aL:(A.map (jl b)).getD ((j:Nat):Int).toNat dW.zero=(7,(0,((b,(a:Int)),(0,0)))):=b8 (by rw[Int.toNat_natCast,List.getElem?_map,bo]; rfl);have bg:(j:Int) < (A.length:Int):=by omega
  rw[Int.toNat_natCast]at aL;simp only[bc,Int.reduceEq,Int.reduceLT,Int.reduceLE,reduceCtorEq,List.length_map,bg,aL,ago];refine⟨by and_intros<;>first | omega | (simp only[bN]; omega) | exact this | trivial,aj.mono ?_⟩;rintro⟨cV,dU,f2,g2⟩ ⟨J,U,q7,iC,dp⟩;dsimp only at J U q7 iC dp;subst J U;have hs:∀ k:Nat,k+1∈A.take (j+1) ↔ k+1∈A.take j\/k=a - 1:=by
   intro k;rw[p8 bo,List.mem_append,List.mem_singleton];constructor
   ·rintro(h | h)
    ·exact Or.inl h
    ·exact Or.inr (by omega)
   ·rintro(h | h)
    ·exact Or.inl h
    ·exact Or.inr (by omega)
  have xa:xf b (A.take (j+1)) f g f2 g2:=by
   refine⟨q7,fun k=>?_,fun k=>?_⟩
   ·rw[iC]
    by_cases ab:k=a - 1
    ·rw[if_pos ab,if_pos ((hs k).2 (Or.inr ab)),ab,sQ]
    ·rw[if_neg ab,bJ.Ak]
     by_cases hT:k+1∈A.take j
     ·rw[if_pos hT,if_pos ((hs k).2 (Or.inl hT))]
     ·rw[if_neg hT,if_neg fun e=>((hs k).1 e).elim hT ab]
   ·rw[dp]
    by_cases ab:k=a - 1
    ·rw[if_pos ab,if_pos ((hs k).2 (Or.inr ab)),ab,DU]
    ·rw[if_neg ab,bJ.gk]
     by_cases hT:k+1∈A.take j
     ·rw[if_pos hT,if_pos ((hs k).2 (Or.inl hT))]
     ·rw[if_neg hT,if_neg fun e=>((hs k).1 e).elim hT ab]
  have this:=bY (k - 1) ((j:Int)+1,(0:Int),f2,g2,fj,[],[],own t,ys) (by omega) ⟨j+1,f2,g2,by omega,rfl,xa⟩;simp only[bc,Int.reduceEq,Int.reduceLT,Int.reduceLE,reduceCtorEq]
  and_intros<;>first | omega | (simp only[bN]; omega) | exact this | trivial
 ·have bg:¬ (j:Int) < (A.length:Int):=by omega
  simp only[bc,Int.reduceEq,Int.reduceLT,Int.reduceLE,reduceCtorEq,List.length_map,bg];exact⟨f',g',rfl,by rw[List.take_of_length_le (by omega)]at bJ; exact bJ⟩
end
section
open Go.RowKit
theorem Ro{N:Nat} (bd:5000 < N) {f g:List (List al)} {t:List (List bB)} (ys:List cb) (aV:t.length<=300) (tP:∀ x∈t,x.length<=100000) {ids:List al} (hi:ids.length<=100000) (cn:qr N (f,g) 0=some ids) :
  uT N 0 f g (own t) [] ys []=some (0,((f,g),(ys,(t,([],(ids,[])))))):=by
 have U:DA N ([]:List cH)=some []:=by
  obtain⟨n,rfl⟩:∃ n,N=n+50:=⟨N - 50,by omega⟩
  kernel_rfl
 have aF:CX N ([]:List al)=some []:=by
  obtain⟨n,rfl⟩:∃ n,N=n+50:=⟨N - 50,by omega⟩
  kernel_rfl
 have J:JM N N ((0:Int),f,g)=some ((0:Int),f,g):=by
  obtain⟨n,rfl⟩:∃ n,N=n+50:=⟨N - 50,by omega⟩
  rfl
 have ah:DB N (own t) N ((0:Int),(0:Int),f,g,own t)=some ((0:Int),f,g,own t):=by
  unfold DB;refine e8 (fun k d=>∃ i:Nat,i+k=t.length/\d=((i:Int),(0:Int),f,g,own t)) _ ?_ N t.length _ (by omega) ⟨0,by omega,rfl⟩;rintro k d rec ⟨i,hi,rfl⟩ bY
  apply T.eq
  by_cases a8:i < t.length
  ·obtain⟨x,aj⟩:∃ x,t[i]?=some x:=⟨_,List.getElem?_eq_getElem a8⟩
   have bg:(i:Int) < (t.length:Int):=by omega
   have iZ:=tP x (List.mem_of_getElem? aj);have this:T (rec ((i:Int)+1,(0:Int),f,g,own t)) (·=((0:Int),f,g,own t)):=⟨_,bY (k - 1) _ (by omega) ⟨i+1,by omega,rfl⟩,rfl⟩
   simp only[bc,Int.reduceEq,Int.reduceLT,Int.reduceLE,reduceCtorEq,uP,bg,Ds aj,bt (Q1 N x iZ),JJ aj]
   and_intros<;>first | omega | (simp only[bN]; omega) | exact this | trivial
  ·have bg:¬ (i:Int) < (t.length:Int):=by omega
   simp only[bc,Int.reduceEq,Int.reduceLT,Int.reduceLE,reduceCtorEq,uP,bg]
 have gZ:z7 N ([]:List cH)=some ([],0):=rfl;unfold uT;rw[oA (by rfl),oA (by rfl),J,Option.bind_some,U,Option.bind_some,ah,Option.bind_some,aF,Option.bind_some,oA rfl,oA rfl,gZ,Option.bind_some];show Option.bind (qr N (f,g) 0) _=_;rw[cn,Option.bind_some,JS N [] (by decide),Option.bind_some,aeV]
theorem Rp{N:Nat} (bd:5000 < N) {f g:List (List al)} {ys:List cb} {t:List (List bB)} {H:List al} (h:uX N f g ys t H) (nS:∀ Y∈ys,Y.1=false) {b:Int} (ae:b=0\/b=1) {A:List Nat} (ag:A.Nodup) (nX:A.length<=40) (az:∀ a∈A,1<=a/\a<=40)
  (ak:∀ a∈A,(if b=1 then g else f).getD (a - 1) []≠[]) (he:∀ a∈A,(if b=1 then f else g).getD (a - 1) []=[]) :
  T (rq N ((0:Int),((f,g),(ys,(t,([],(H,[])))))) (A.map (jl b))) fun q=>∃ f' g' H',q=(((0:Int),((f',g'),(ys,(t,([],(H',[])))))),(A.length:Int),0)/\xf b A f g f' g'/\uX N f' g' ys t H':=by
 obtain⟨fj,kt⟩:∃ fj,my N=some fj:=⟨_,rfl⟩
 obtain⟨aP,kq⟩:=h.tok;have aY:=kq.len;have pa:=h.J2;have uO:=af4 bd h;have ax:=afG bd (r:=0) h.hQ (ys:=ys) (by omega) (fun Y cr=>by have:=(h.J3 Y cr).e9; omega) h.eO H (fl:=[]) (by decide);have dY:=agm bd h nS ae ag nX az ak he kt;unfold rq;simp only[bc,Int.reduceEq,Int.reduceLT,Int.reduceLE,reduceCtorEq,List.length_map,show ¬ (4096:Int) < (A.length:Int) by omega,bt uO,bt ax,bt kt];refine dY.mono ?_;rintro q ⟨f',g',rfl,bJ⟩;have aq:=bJ.perm h.hQ he;have DT:(f'.flatten++g'.flatten).Nodup:=aq.nodup_iff.2 h.pv;have uV:f'.flatten.length+g'.flatten.length < 20:=by
  have:=aq.length_eq
  rw[List.length_append,List.length_append]at this
  have:=h.e9
  omega
 obtain⟨H',Rq,agp⟩:=QI bd bJ.hQ.gL bJ.hQ.aZ DT (r:=0) ⟨by decide,by decide⟩ uV;obtain⟨ox,agq,Rr⟩:=QI bd h.hQ.gL h.hQ.aZ h.pv (r:=0) ⟨by decide,by decide⟩ h.e9;have gE:ox=H:=Option.some.inj (agq.symm.trans h.held);rw[gE]at Rr;have Rs:H'.Perm H:=agp.trans (aq.trans Rr.symm);have ad:=Rs.length_eq;have DQ:=h.ad;have dn:=Ro bd (t:=t) ys (by omega) (fun x aj=>by have:=h.eO.row x aj; omega) (by omega) Rq;simp only[bc,Int.reduceEq,Int.reduceLT,Int.reduceLE,reduceCtorEq,bt dn];refine⟨f',g',H',rfl,bJ,⟨bJ.hQ,DT,uV,pa,h.J3,⟨aP,kq⟩,h.all,h.eO,fun a=>?_,Rq,by omega,h.zN⟩⟩;rw[(Rs.append_right (gB t)).count_eq];exact h.once a
end
section
open Go.RowKit
end
section
open Go.RowKit
def agr(N:Nat) (a0:(List Int)):Nat->Int->Option ((Unit)⊕(Int)):=cx fun d1 dG=>
  cond (decide (d1 < (a0.length:Int))) (aw ((bl d1 a0.length)&&(true)) <|
  aw ((ez ((!(cond (decide ((a0.getD d1.toNat 0) < (1:Int))) true (decide ((40:Int) < (a0.getD d1.toNat 0)))))&&(decide ((0:Int) < d1))) (bp (d1 - (1:Int))))&&((ez ((!(cond (decide ((a0.getD d1.toNat 0) < (1:Int))) true (decide ((40:Int) < (a0.getD d1.toNat 0)))))&&(decide ((0:Int) < d1))) (bl (d1 - (1:Int)) a0.length))&&(true))) <|
  cond (cond (cond (decide ((a0.getD d1.toNat 0) < (1:Int))) true (decide ((40:Int) < (a0.getD d1.toNat 0)))) true (cond (decide ((0:Int) < d1)) (decide ((a0.getD d1.toNat 0)<=(a0.getD (d1 - (1:Int)).toNat 0))) false)) (some (.inr (1:Int))) (aw ((bp (d1+(1:Int)))&&(true)) <|
  dG (d1+(1:Int)))) (some (.inl ()))
def J9(N:Nat) (a0:(List Int)):Option (Int):=
  Option.bind (agr N a0 N (0:Int)) fun(aX:(Unit)⊕(Int))=>
  sm aX (fun aX=>
  some (0:Int)) (fun q=>some q)
noncomputable def ags (N:Nat):bI bU:=cj N b2 (by kernel_rfl) [.c (.bn (.int .i64))] [] ⟨.a (.c (.int .i64)),[],[]⟩ [] [] (.s .d (.s (.s .d (.b (.fw 0 ⟨[(7,.a (.c (.int .i64)))],[],[0,5,6],[]⟩ ⟨[],[],[],[]⟩ .d))) .d)) [.tmp 2] 30 0 (fun d=>J9 N d.1) Tryz.func30 rfl rfl Tryz.ntmps30 rfl rfl rfl (fun d=>by kernel_rfl)
def xg(N:Nat) (a0:(List cS)) (ay:Int) (a2:List cS):Option (Int×(List cS)):=
  aw ((en 40 (a2.length+a0.length))&&(true)) <|
  some (ay,(a2++a0))
noncomputable def Ka (N:Nat):bI bU:=cj N b2 (by kernel_rfl) [.c (.raw (.ptr 1000000 0)),.c (.bn dW)] [(1000000,.cells 87 [.raw (.an 1000001),.int .i64]),(1000001,.row 57 dW)] ⟨.da [],[(1000000,.cells 87 [.raw (.an 1000001),.int .i64]),(1000001,.row 57 dW)],[]⟩ [] [] (.d) [] 44 (0,[]) (fun d=>xg N d.1 d.2.1 d.2.2.1) Tryz.func44 rfl rfl Tryz.ntmps44 rfl rfl rfl (fun d=>by kernel_rfl)
def Kb(N:Nat) (a0:(List al)):Nat->Int->Option ((Unit)⊕((List cS)×Nat×Int)):=cx fun d1 dG=>
  cond (decide (d1 < (a0.length:Int))) (aw ((bl d1 a0.length)&&(true)) <|
  aw ((ez ((!(cond (cond (decide ((1:Int) < (a0.getD d1.toNat aK.zero).1)) true (decide ((a0.getD d1.toNat aK.zero).2 < (1:Int)))) true (decide ((40:Int) < (a0.getD d1.toNat aK.zero).2))))&&(decide ((0:Int) < d1))) (bp (d1 - (1:Int))))&&((ez ((!(cond (cond (decide ((1:Int) < (a0.getD d1.toNat aK.zero).1)) true (decide ((a0.getD d1.toNat aK.zero).2 < (1:Int)))) true (decide ((40:Int) < (a0.getD d1.toNat aK.zero).2))))&&(decide ((0:Int) < d1))) (bl (d1 - (1:Int)) a0.length))&&(true))) <|
  cond (cond (cond (cond (decide ((1:Int) < (a0.getD d1.toNat aK.zero).1)) true (decide ((a0.getD d1.toNat aK.zero).2 < (1:Int)))) true (decide ((40:Int) < (a0.getD d1.toNat aK.zero).2))) true (cond (decide ((0:Int) < d1)) (decide ((a0.getD d1.toNat aK.zero).2<=(a0.getD (d1 - (1:Int)).toNat aK.zero).2)) false)) (some (.inr (([]:List cS),0,(1:Int)))) (aw ((bp (d1+(1:Int)))&&(true)) <|
  dG (d1+(1:Int)))) (some (.inl ()))
def Kc(N:Nat) (a0:(List al)):Nat->(Int×Int×(List cS))->Option (Int×(List cS)):=cx fun d4 lT=>
  cond (decide (d4.1 < (a0.length:Int))) (aw ((bl d4.1 a0.length)&&(true)) <|
  cond (decide ((a0.getD d4.1.toNat aK.zero).1=(1:Int))) (Option.bind (xg N [((7:Int),((0:Int),((a0.getD d4.1.toNat aK.zero),((0:Int),(0:Int)))))] d4.2.1 d4.2.2) fun bX=>
  aw ((bp (d4.1+(1:Int)))&&(true)) <|
  lT ((d4.1+(1:Int)),bX.1,bX.2)) (aw ((bp (d4.1+(1:Int)))&&(true)) <|
  lT ((d4.1+(1:Int)),d4.2.1,d4.2.2))) (some (d4.2.1,d4.2.2))
def Am(N:Nat) (a0:(List al)):Option ((List cS)×Nat×Int):=
  Option.bind (Kb N a0 N (0:Int)) fun(aX:(Unit)⊕((List cS)×Nat×Int))=>
  sm aX (fun aX=>
  Option.bind (Kc N a0 N ((0:Int),(0:Int),([]:List cS))) fun e0=>
  Option.bind (wW N e0.2) fun cy=>
  some (cy.1,cy.2,(0:Int))) (fun q=>some q)
noncomputable def Rt (N:Nat):bI bU:=cj N b2 (by kernel_rfl) [.c (.bn aK)] [] ⟨.da [.c (.jT dW),.c (.int .i64)],[],[]⟩ [Ka N,Qj N] [] (.s .d (.s (.s .d (.b (.fw 0 ⟨[(11,.a (.c (.int .i64)))],[],[0,9,10],[]⟩ ⟨[],[],[0],[]⟩ (.s .d (.s .d (.s (.b (.s (.r [.n 6,.w (.ca 5 aK)]) (.s (.o [] [.t 0 0,.t 1 1,.t 2 0,.t 3 0,.t 4 0,.t 5 1,.t 6 0,.t 7 0,.t 8 0,.t 9 0,.t 10 1,.t 11 0,.t 12 0,.t 13 0,.t 14 0,.t 15 0,.t 16 0,.t 17 0,.t 18 0,.t 19 0,.t 20 0,.t 21 0,.t 22 1,.t 23 0,.t 24 1,.t 25 0,.t 26 0,.t 27 0] []) .d))) .d)))))) (.s .d (.s (.s (.r [.n 3,.w (.r2 6 0 9 57 dW)]) (.b (.eY 2 ⟨[(6,.a (.c (.raw (.ptr 6 0)))),(47,.a (.c (.int .i64)))],[(6,.cells 87 [.raw (.an 9),.int .i64]),(9,.row 57 dW)],[45,46],[]⟩ ⟨[(6,.a (.c (.raw (.ptr 6 0))))],[(6,.cells 87 [.raw (.an 9),.int .i64]),(9,.row 57 dW)],[],[]⟩ (.s .d (.s .d (.s (.b (.s (.r [.n 4,.w (.ca 8 aK)]) (.s .d (.c (.r [.n 3,.w (.di 56),.c [(1000000,6),(1000001,9)]]) .d)))) .d)))))) (.s (.r [.n 2,.w (.di 9)]) .d))))) [.tmp 2,.tmp 3] 14 ([],0,0) (fun d=>Am N d.1) Tryz.func14 rfl rfl Tryz.ntmps14 rfl rfl rfl (fun d=>by kernel_rfl)
def Ru(N:Nat) (a0:(List Int)):Option ((List Int)):=
  aw ((decide (0 < a0.length))&&(true)) <|
  aw ((en 8 (([]:List Int).length+a0.length))&&(true)) <|
  some (([]:List Int)++a0)
noncomputable def agt (N:Nat):bI bU:=cj N b2 (by kernel_rfl) [.c (.bn (.int .i64))] [] ⟨.a (.c (.raw (.an 5))),[(5,.row 3 (.int .i64))],[]⟩ [] [] (.s (.r [.n 1,.w (.nil 2 5 3 (.int .i64))]) .d) [.tmp 2] 84 [] (fun d=>Ru N d.1) Tryz.func84 rfl rfl Tryz.ntmps84 rfl rfl rfl (fun d=>by kernel_rfl)
def An(N:Nat) (a0:Int) (ay:Int) (a2:List cS):Option (Int×(List cS)):=
  cond (!(decide (ay=a0))) (Option.bind (xg N [((3:Int),((0:Int),(((0:Int),(0:Int)),((0:Int),a0))))] ay a2) fun aH=>
  some (a0,aH.2)) (some (ay,a2))
noncomputable def Rv (N:Nat):bI bU:=cj N b2 (by kernel_rfl) [.c (.raw (.ptr 1000000 0)),.c (.int .i64)] [(1000000,.cells 87 [.raw (.an 1000001),.int .i64]),(1000001,.row 57 dW)] ⟨.da [],[(1000000,.cells 87 [.raw (.an 1000001),.int .i64]),(1000001,.row 57 dW)],[]⟩ [Ka N] [] (.s .d (.c (.s (.r [.n 4,.w (.di 13),.c [(1000000,1000000),(1000001,1000001)]]) .d) .d)) [] 34 (0,[]) (fun d=>An N d.1 d.2.1 d.2.2.1) Tryz.func34 rfl rfl Tryz.ntmps34 rfl rfl rfl (fun d=>by kernel_rfl)
def agu(N:Nat) (a0:Int) (ay:Int) (a4:List Int):Nat->(Int×Int×(List cS))->Option (Int×(List cS)):=cx fun d1 dG=>
  cond (decide (d1.1 < (a4.length:Int))) (aw ((bl d1.1 a4.length)&&((decide (d1.1.toNat < a4.length))&&(true))) <|
  aw ((bp ((a4.getD d1.1.toNat 0) - ay))&&(true)) <|
  Option.bind (xg N [((7:Int),((0:Int),((a0,((a4.getD d1.1.toNat 0) - ay)),((0:Int),(0:Int)))))] d1.2.1 d1.2.2) fun a1=>
  aw ((bp (d1.1+(1:Int)))&&(true)) <|
  dG ((d1.1+(1:Int)),a1.1,a1.2)) (some (d1.2.1,d1.2.2))
def Kd(N:Nat) (a0:Int) (ay:Int) (a2:Int) (a3:List cS) (a4:List Int):Option (Int×(List cS)):=
  Option.bind (agu N a0 ay a4 N ((0:Int),a2,a3)) fun aX=>
  some (aX.1,aX.2)
noncomputable def agv (N:Nat):bI bU:=cj N b2 (by kernel_rfl) [.c (.raw (.ptr 1000000 0)),.c (.int .u8),.c (.raw (.an 2000000)),.c (.int .i64)] [(1000000,.cells 87 [.raw (.an 1000001),.int .i64]),(1000001,.row 57 dW),(2000000,.row 3 (.int .i64))] ⟨.da [],[(1000000,.cells 87 [.raw (.an 1000001),.int .i64]),(1000001,.row 57 dW)],[2000000]⟩ [Ka N] [] (.s .d (.b (.eY 0 ⟨[(0,.a (.c (.raw (.ptr 1000000 0)))),(10,.a (.c (.raw (.an 2000000)))),(12,.a (.c (.int .i64)))],[(1000000,.cells 87 [.raw (.an 1000001),.int .i64]),(1000001,.row 57 dW)],[1,3,11],[2000000]⟩ ⟨[],[(1000000,.cells 87 [.raw (.an 1000001),.int .i64]),(1000001,.row 57 dW)],[],[2000000]⟩ (.s .d (.s .d (.s (.b (.s .d (.r [.n 8,.w (.di 23),.c [(1000000,1000000),(1000001,1000001)]]))) .d)))))) [] 85 (0,[]) (fun d=>Kd N d.1 d.2.1 d.2.2.1 d.2.2.2.1 d.2.2.2.2.1) Tryz.func85 rfl rfl Tryz.ntmps85 rfl rfl rfl (fun d=>by kernel_rfl)
def agw(N:Nat) (jE:Int) (dR:List Int):Nat->(Int×(List Int)×Int)->Option ((List Int)×Int):=cx fun d7 uG=>
  cond (decide (d7.1 < (dR.length:Int))) (aw ((bl d7.1 d7.2.1.length)&&((decide (d7.1.toNat < d7.2.1.length))&&((bp ((d7.2.1.getD d7.1.toNat 0)+(hW (-8:Int) (if jE < (8:Int)then jE else(8:Int)))))&&((bl d7.1 d7.2.1.length)&&(((decide (d7.1.toNat < d7.2.1.length))&&(true))&&(true)))))) <|
  aw ((bp (d7.1+(1:Int)))&&(true)) <|
  uG ((d7.1+(1:Int)),(d7.2.1.set d7.1.toNat ((d7.2.1.getD d7.1.toNat 0)+(hW (-8:Int) (if jE < (8:Int)then jE else(8:Int))))),d7.2.2)) (some (d7.2.1,d7.2.2))
def agx(N:Nat) :Nat->(Int×(List Int)×Int×(List cS))->Option (Int×(List cS)):=cx fun d2 fz=>
  cond (!(decide (d2.1=(0:Int)))) (aw ((bp ((-4:Int) - (hW (-8:Int) (if d2.1 < (8:Int)then d2.1 else(8:Int)))))&&((bp ((d2.2.1.length:Int) - (1:Int)))&&((bl ((d2.2.1.length:Int) - (1:Int)) d2.2.1.length)&&((decide (((d2.2.1.length:Int) - (1:Int)).toNat < d2.2.1.length))&&((bp ((d2.2.1.getD ((d2.2.1.length:Int) - (1:Int)).toNat 0) - (40:Int)))&&(true)))))) <|
  aw ((bp ((4:Int) - (hW (-8:Int) (if d2.1 < (8:Int)then d2.1 else(8:Int)))))&&((bl (0:Int) d2.2.1.length)&&((decide ((0:Int).toNat < d2.2.1.length))&&((bp ((d2.2.1.getD (0:Int).toNat 0) - (1:Int)))&&(true))))) <|
  Option.bind (An N (hW (hW (hW (-4:Int) ((-4:Int) - (hW (-8:Int) (if d2.1 < (8:Int)then d2.1 else(8:Int))))) ((d2.2.1.getD ((d2.2.1.length:Int) - (1:Int)).toNat 0) - (40:Int))) (oE (oE (oE (4:Int) ((4:Int) - (hW (-8:Int) (if d2.1 < (8:Int)then d2.1 else(8:Int))))) ((d2.2.1.getD (0:Int).toNat 0) - (1:Int))) d2.2.2.1)) d2.2.2.1 d2.2.2.2) fun bD=>
  Option.bind (Kd N (0:Int) (0:Int) bD.1 bD.2 d2.2.1) fun cq=>
  aw ((bp ((hW (hW (hW (-4:Int) ((-4:Int) - (hW (-8:Int) (if d2.1 < (8:Int)then d2.1 else(8:Int))))) ((d2.2.1.getD ((d2.2.1.length:Int) - (1:Int)).toNat 0) - (40:Int))) (oE (oE (oE (4:Int) ((4:Int) - (hW (-8:Int) (if d2.1 < (8:Int)then d2.1 else(8:Int))))) ((d2.2.1.getD (0:Int).toNat 0) - (1:Int))) d2.2.2.1))+(hW (-8:Int) (if d2.1 < (8:Int)then d2.1 else(8:Int)))))&&(true)) <|
  Option.bind (An N ((hW (hW (hW (-4:Int) ((-4:Int) - (hW (-8:Int) (if d2.1 < (8:Int)then d2.1 else(8:Int))))) ((d2.2.1.getD ((d2.2.1.length:Int) - (1:Int)).toNat 0) - (40:Int))) (oE (oE (oE (4:Int) ((4:Int) - (hW (-8:Int) (if d2.1 < (8:Int)then d2.1 else(8:Int))))) ((d2.2.1.getD (0:Int).toNat 0) - (1:Int))) d2.2.2.1))+(hW (-8:Int) (if d2.1 < (8:Int)then d2.1 else(8:Int)))) cq.1 cq.2) fun bX=>
  Option.bind (Kd N (1:Int) (hW (hW (hW (-4:Int) ((-4:Int) - (hW (-8:Int) (if d2.1 < (8:Int)then d2.1 else(8:Int))))) ((d2.2.1.getD ((d2.2.1.length:Int) - (1:Int)).toNat 0) - (40:Int))) (oE (oE (oE (4:Int) ((4:Int) - (hW (-8:Int) (if d2.1 < (8:Int)then d2.1 else(8:Int))))) ((d2.2.1.getD (0:Int).toNat 0) - (1:Int))) d2.2.2.1)) bX.1 bX.2 d2.2.1) fun cy=>
  Option.bind (agw N d2.1 d2.2.1 N ((0:Int),d2.2.1,cy.1)) fun kO=>
  aw ((bp (d2.1 - (hW (-8:Int) (if d2.1 < (8:Int)then d2.1 else(8:Int)))))&&(true)) <|
  fz ((d2.1 - (hW (-8:Int) (if d2.1 < (8:Int)then d2.1 else(8:Int)))),kO.1,kO.2,cy.2)) (some (d2.2.2.1,d2.2.2.2))
def xh(N:Nat) (a0:(List Int)) (ay:Int) (a2:Int) (a3:List cS):Option (Int×(List cS)):=
  Option.bind (Ru N a0) fun aH=>
  Option.bind (agx N N (ay,aH,a2,a3)) fun ch=>
  some (ch.1,ch.2)
noncomputable def agy (N:Nat):bI bU:=cj N b2 (by kernel_rfl) [.c (.raw (.ptr 1000000 0)),.c (.bn (.int .i64)),.c (.int .i64)] [(1000000,.cells 87 [.raw (.an 1000001),.int .i64]),(1000001,.row 57 dW)] ⟨.da [],[(1000000,.cells 87 [.raw (.an 1000001),.int .i64]),(1000001,.row 57 dW)],[]⟩ [agt N,Rv N,agv N] [] (.s (.r [.n 1,.c [(5,12)]]) (.b (.eY 0 ⟨[(0,.a (.c (.raw (.ptr 1000000 0)))),(1,.a (.c (.raw (.an 12)))),(2,.a (.c (.int .i64)))],[(12,.row 3 (.int .i64)),(1000000,.cells 87 [.raw (.an 1000001),.int .i64]),(1000001,.row 57 dW)],[],[]⟩ ⟨[],[(1000000,.cells 87 [.raw (.an 1000001),.int .i64]),(1000001,.row 57 dW)],[],[]⟩ (.s .d (.b (.s .d (.s .d (.s .d (.s .d (.s (.r [.n 2,.c [(1000000,1000000),(1000001,1000001)]]) (.s (.r [.n 2,.c [(1000000,1000000),(1000001,1000001),(2000000,12)]]) (.s (.r [.n 4,.c [(1000000,1000000),(1000001,1000001)]]) (.s (.r [.n 3,.c [(1000000,1000000),(1000001,1000001),(2000000,12)]]) (.s (.s .d (.b (.eY 2 ⟨[(0,.a (.c (.raw (.ptr 1000000 0)))),(1,.a (.c (.raw (.an 12)))),(60,.a (.c (.int .i64)))],[(12,.row 3 (.int .i64)),(1000000,.cells 87 [.raw (.an 1000001),.int .i64])],[2,6,59],[1000001]⟩ ⟨[(0,.a (.c (.raw (.ptr 1000000 0)))),(1,.a (.c (.raw (.an 12))))],[(12,.row 3 (.int .i64)),(1000000,.cells 87 [.raw (.an 1000001),.int .i64])],[2,6],[1000001]⟩ .d))) .d)))))))))))))) [] 31 (0,[]) (fun d=>xh N d.1 d.2.1 d.2.2.1 d.2.2.2.1) Tryz.func31 rfl rfl Tryz.ntmps31 rfl rfl rfl (fun d=>by kernel_rfl)
def agz(N:Nat) (a0:Int) (ay:(List Int)) (a2:(List Int)):Nat->Int->Option (Int):=cx fun d1 dG=>
  aw ((ez (decide (d1 < (ay.length:Int))) (bl d1 a2.length))&&((ez (decide (d1 < (ay.length:Int))) (bl a0 a2.length))&&(true))) <|
  cond (cond (decide (d1 < (ay.length:Int))) (decide ((a2.getD d1.toNat 0)=(a2.getD a0.toNat 0))) false) (aw ((bp (d1+(1:Int)))&&(true)) <|
  dG (d1+(1:Int))) (some d1)
def Ao(N:Nat) (a0:Int) (ay:(List Int)) (a2:(List Int)):Option (Int):=
  aw ((bp (a0+(1:Int)))&&(true)) <|
  Option.bind (agz N a0 ay a2 N (a0+(1:Int))) fun aX=>
  some aX
noncomputable def agA (N:Nat):bI bU:=cj N b2 (by kernel_rfl) [.c (.int .i64),.c (.fF (.an (.int .i64)) 0),.c (.fF (.an (.int .i64)) 0)] [] ⟨.a (.c (.int .i64)),[],[]⟩ [] [] (.s .d (.s .d (.s (.b (.eY 0 ⟨[(5,.a (.c (.int .i64)))],[],[0,1,2],[]⟩ ⟨[(5,.a (.c (.int .i64)))],[],[],[]⟩ (.s (.s (.o [] [.t 0 0,.t 1 1,.t 2 0,.t 3 0,.t 4 0,.t 5 1,.t 6 0,.t 7 0,.t 8 1,.t 9 1,.t 10 0,.t 11 0,.t 12 1,.t 13 0,.t 14 0] []) .d) .d))) .d))) [.tmp 4] 32 0 (fun d=>Ao N d.1 d.2.1 d.2.2.1) Tryz.func32 rfl rfl Tryz.ntmps32 rfl rfl rfl (fun d=>by kernel_rfl)
def agB(N:Nat) (b:Bool) (a0:(List Int)):Nat->Int->Option ((List (Int×Int×Unit))):=cx fun d1 dG=>
  cond (decide ((0:Int)<=d1)) (aw ((bl d1 a0.length)&&(true)) <|
  sx b (d1,(a0.getD d1.toNat 0),()) (some [])
  (aw ((bp (d1 - (1:Int)))&&(true)) <|
  dG (d1 - (1:Int)))) (some [])
def Ke(N:Nat) (b:Bool) (a0:(List Int)):Option (List (Int×Int×Unit)):=
  aw ((bp ((a0.length:Int) - (1:Int)))&&(true)) <|
  agB N b a0 N ((a0.length:Int) - (1:Int))
noncomputable def agC (N:Nat):lk bU:=Ix N b2 (by kernel_rfl) [.eS (.an (.int .i64))] [] [.c (.int .i64),.c (.int .i64)] [] [] (.s .d (.b (.l ⟨[(3,.a (.c (.int .i64)))],[],[0,1],[]⟩ (.s .d (.s (.b (.s (.r [.n 6,.y]) .d)) .d))))) 86 (fun b d=>Ke N b d.1) Tryz.func86 rfl rfl Tryz.ntmps86 (fun _=>rfl) rfl rfl (fun id d=>by kernel_rfl)
def Kf(N:Nat) (a0:(List Int)):Option ((List Int)):=
  some a0
noncomputable def agD (N:Nat):bI bU:=cj N b2 (by kernel_rfl) [.c (.bn (.int .i64))] [] ⟨.a (.c (.fn 86 [.eS (.an (.int .i64))])),[],[]⟩ [] [] (.s (.r [.n 2,.w (.ca 1 (.an (.int .i64)))]) .d) [.tmp 2] 33 [] (fun d=>Kf N d.1) Tryz.func33 rfl rfl Tryz.ntmps33 rfl rfl rfl (fun d=>by kernel_rfl)
def Rw(N:Nat) (ay:(List Int)):Nat->Int->Option ((Unit)⊕((List cS)×Nat×Int)):=cx fun d2 fz=>
  cond (decide (d2 < (ay.length:Int))) (aw ((bl d2 ay.length)&&(true)) <|
  aw ((ez ((!(cond (decide ((ay.getD d2.toNat 0) < (1:Int))) true (decide ((40:Int) < (ay.getD d2.toNat 0)))))&&(decide ((0:Int) < d2))) (bp (d2 - (1:Int))))&&((ez ((!(cond (decide ((ay.getD d2.toNat 0) < (1:Int))) true (decide ((40:Int) < (ay.getD d2.toNat 0)))))&&(decide ((0:Int) < d2))) (bl (d2 - (1:Int)) ay.length))&&(true))) <|
  cond (cond (cond (decide ((ay.getD d2.toNat 0) < (1:Int))) true (decide ((40:Int) < (ay.getD d2.toNat 0)))) true (cond (decide ((0:Int) < d2)) (decide ((ay.getD d2.toNat 0) < (ay.getD (d2 - (1:Int)).toNat 0))) false)) (some (.inr (([]:List cS),0,(1:Int)))) (aw ((bp (d2+(1:Int)))&&(true)) <|
  fz (d2+(1:Int)))) (some (.inl ()))
def Kg(N:Nat) (a0:(List Int)) (ay:(List Int)):Nat->(Int×Int×(List Int)×(List Int)×(List cS))->Option (Int×(List Int)×(List Int)×(List cS)):=cx fun d5 p9=>
  cond (decide (d5.1 < (a0.length:Int))) (aw ((bl d5.1 a0.length)&&(true)) <|
  aw ((bp (d5.1+(1:Int)))&&((ez (decide ((d5.1+(1:Int)) < (a0.length:Int))) (bl d5.1 ay.length))&&((ez (decide ((d5.1+(1:Int)) < (a0.length:Int))) (bp (d5.1+(1:Int))))&&((ez (decide ((d5.1+(1:Int)) < (a0.length:Int))) (bl (d5.1+(1:Int)) ay.length))&&(true))))) <|
  cond (cond (decide ((d5.1+(1:Int)) < (a0.length:Int))) (decide ((ay.getD d5.1.toNat 0)=(ay.getD (d5.1+(1:Int)).toNat 0))) false) (aw ((bp (d5.1+(1:Int)))&&(((decide (0<=d5.1))&&(decide (d5.1<=(d5.1+(1:Int))))&&(decide ((d5.1+(1:Int))<=(a0.length:Int))))&&((bp (d5.1+(1:Int)))&&((bl (d5.1+(1:Int)) a0.length)&&((bp ((a0.getD (d5.1+(1:Int)).toNat 0) - (a0.getD d5.1.toNat 0)))&&(true)))))) <|
  Option.bind (xh N ((a0.take (d5.1+(1:Int)).toNat).drop d5.1.toNat) ((a0.getD (d5.1+(1:Int)).toNat 0) - (a0.getD d5.1.toNat 0)) d5.2.1 d5.2.2.2.2) fun cy=>
  aw ((bp (d5.1+(1:Int)))&&(true)) <|
  p9 ((d5.1+(1:Int)),cy.1,d5.2.2.1,d5.2.2.2.1,cy.2)) (aw ((bl d5.1 ay.length)&&((bp ((ay.getD d5.1.toNat 0) - (a0.getD d5.1.toNat 0)))&&(true))) <|
  aw ((en 8 (d5.2.2.1.length+[(a0.getD d5.1.toNat 0)].length))&&((en 8 (d5.2.2.2.1.length+[((ay.getD d5.1.toNat 0) - (a0.getD d5.1.toNat 0))].length))&&(true))) <|
  aw ((bp (d5.1+(1:Int)))&&(true)) <|
  p9 ((d5.1+(1:Int)),d5.2.1,(d5.2.2.1++[(a0.getD d5.1.toNat 0)]),(d5.2.2.2.1++[((ay.getD d5.1.toNat 0) - (a0.getD d5.1.toNat 0))]),d5.2.2.2.2))) (some (d5.2.1,d5.2.2.1,d5.2.2.2.1,d5.2.2.2.2))
def Rx(N:Nat) (dz:Int×(List Int)×(List Int)×(List cS)):Nat->(Int×Int×(List Int))->Option (Int×(List Int)):=cx fun d10 agE=>
  cond (decide (d10.1 < (dz.2.1.length:Int))) (aw ((en 8 (d10.2.2.length+[d10.1].length))&&(true)) <|
  Option.bind (Ao N d10.1 dz.2.1 dz.2.2.1) fun oG=>
  agE (oG,d10.2.1,(d10.2.2++[d10.1]))) (some (d10.2.1,d10.2.2))
def Ry(N:Nat) (dz:Int×(List Int)×(List Int)×(List cS)) (kR:Int×(List Int)):Nat->(Int×(List cS)×Int)->Option ((List cS)×Int):=cx fun d16 Rz=>
  cond (decide (d16.1 < (kR.2.length:Int))) (aw ((bl d16.1 kR.2.length)&&(true)) <|
  aw ((bl (kR.2.getD d16.1.toNat 0) dz.2.2.1.length)&&(true)) <|
  cond (decide ((dz.2.2.1.getD (kR.2.getD d16.1.toNat 0).toNat 0) < (0:Int))) (aw ((bl (kR.2.getD d16.1.toNat 0) dz.2.2.1.length)&&(true)) <|
  Option.bind (Ao N (kR.2.getD d16.1.toNat 0) dz.2.1 dz.2.2.1) fun Kh=>
  aw (((decide (0<=(kR.2.getD d16.1.toNat 0)))&&(decide ((kR.2.getD d16.1.toNat 0)<=Kh))&&(decide (Kh<=(dz.2.1.length:Int))))&&(true)) <|
  Option.bind (xh N ((dz.2.1.take Kh.toNat).drop (kR.2.getD d16.1.toNat 0).toNat) (dz.2.2.1.getD (kR.2.getD d16.1.toNat 0).toNat 0) d16.2.2 d16.2.1) fun RA=>
  aw ((bp (d16.1+(1:Int)))&&(true)) <|
  Rz ((d16.1+(1:Int)),RA.2,RA.1)) (aw ((bp (d16.1+(1:Int)))&&(true)) <|
  Rz ((d16.1+(1:Int)),d16.2.1,d16.2.2))) (some (d16.2.1,d16.2.2))
def Ap(N:Nat) (a0:(List Int)) (ay:(List Int)):Option ((List cS)×Nat×Int):=
  Option.bind (J9 N a0) fun aH=>
  cond (!(decide (aH=(0:Int)))) (some (([]:List cS),0,aH)) (cond (!(decide ((ay.length:Int)=(a0.length:Int)))) (some (([]:List cS),0,(5:Int))) (Option.bind (Rw N ay N (0:Int)) fun(ch:(Unit)⊕((List cS)×Nat×Int))=>
  sm ch (fun ch=>
  Option.bind (Kg N a0 ay N ((0:Int),(0:Int),([]:List Int),([]:List Int),([]:List cS))) fun dz=>
  Option.bind (Rx N dz N ((0:Int),dz.1,([]:List Int))) fun kR=>
  Option.bind (Kf N kR.2) fun nW=>
  Option.bind (Ke N true nW) fun Ki=>j4 (fun(ly:Int×Int×Unit) (ru:(List cS)×Int) (Aq:(List cS)×Int->Option ((List cS)×Nat×Int))=>
  aw ((bl ly.2.1 dz.2.2.1.length)&&(true)) <|
  cond (decide ((0:Int) < (dz.2.2.1.getD ly.2.1.toNat 0))) (aw ((bl ly.2.1 dz.2.2.1.length)&&(true)) <|
  Option.bind (Ao N ly.2.1 dz.2.1 dz.2.2.1) fun u1=>
  aw (((decide (0<=ly.2.1))&&(decide (ly.2.1<=u1))&&(decide (u1<=(dz.2.1.length:Int))))&&(true)) <|
  Option.bind (xh N ((dz.2.1.take u1.toNat).drop ly.2.1.toNat) (dz.2.2.1.getD ly.2.1.toNat 0) ru.2 ru.1) fun Ar=>
  Aq (Ar.2,Ar.1)) (Aq (ru.1,ru.2))) Ki (dz.2.2.2,kR.1) fun rj=>
  Option.bind (Ry N dz kR N ((0:Int),rj.1,rj.2)) fun As=>
  Option.bind (An N (0:Int) As.2 As.1) fun Kj=>
  Option.bind (wW N Kj.2) fun Au=>
  some (Au.1,Au.2,(0:Int))) (fun q=>some q)))
noncomputable def Kk (N:Nat) (a0:(List Int)) (ay:(List Int)):Nat->(Int×Int×(List Int)×(List Int)×(List cS))->Option (Int×(List Int)×(List Int)×(List cS)):=cx fun d5 p9=>
  cond (decide (d5.1 < (a0.length:Int))) (aw ((bl d5.1 a0.length)&&(true)) <|
  aw ((bp (d5.1+(1:Int)))&&((ez (decide ((d5.1+(1:Int)) < (a0.length:Int))) (bl d5.1 ay.length))&&((ez (decide ((d5.1+(1:Int)) < (a0.length:Int))) (bp (d5.1+(1:Int))))&&((ez (decide ((d5.1+(1:Int)) < (a0.length:Int))) (bl (d5.1+(1:Int)) ay.length))&&(true))))) <|
  cond (cond (decide ((d5.1+(1:Int)) < (a0.length:Int))) (decide ((ay.getD d5.1.toNat 0)=(ay.getD (d5.1+(1:Int)).toNat 0))) false) (aw ((bp (d5.1+(1:Int)))&&(((decide (0<=d5.1))&&(decide (d5.1<=(d5.1+(1:Int))))&&(decide ((d5.1+(1:Int))<=(a0.length:Int))))&&((bp (d5.1+(1:Int)))&&((bl (d5.1+(1:Int)) a0.length)&&((bp ((a0.getD (d5.1+(1:Int)).toNat 0) - (a0.getD d5.1.toNat 0)))&&(true)))))) <|
  Option.bind (xh N ((a0.take (d5.1+(1:Int)).toNat).drop d5.1.toNat) ((a0.getD (d5.1+(1:Int)).toNat 0) - (a0.getD d5.1.toNat 0)) d5.2.1 d5.2.2.2.2) fun cy=>
  aw ((bp (d5.1+(1:Int)))&&(true)) <|
  p9 ((d5.1+(1:Int)),cy.1,d5.2.2.1,d5.2.2.2.1,cy.2)) (aw ((bl d5.1 ay.length)&&((bp ((ay.getD d5.1.toNat 0) - (a0.getD d5.1.toNat 0)))&&(true))) <|
  eV (eV (aw ((en 8 (d5.2.2.1.length+[(a0.getD d5.1.toNat 0)].length))&&((en 8 (d5.2.2.2.1.length+[((ay.getD d5.1.toNat 0) - (a0.getD d5.1.toNat 0))].length))&&(true))) <|
  aw ((bp (d5.1+(1:Int)))&&(true)) <|
  p9 ((d5.1+(1:Int)),d5.2.1,(d5.2.2.1++[(a0.getD d5.1.toNat 0)]),(d5.2.2.2.1++[((ay.getD d5.1.toNat 0) - (a0.getD d5.1.toNat 0))]),d5.2.2.2.2)) (aw ((en 8 (d5.2.2.1.length+[(a0.getD d5.1.toNat 0)].length))&&((en 8 (d5.2.2.2.1.length+[((ay.getD d5.1.toNat 0) - (a0.getD d5.1.toNat 0))].length))&&(true))) <|
  aw ((bp (d5.1+(1:Int)))&&(true)) <|
  p9 ((d5.1+(1:Int)),d5.2.1,(d5.2.2.1++[(a0.getD d5.1.toNat 0)]),(d5.2.2.2.1++[((ay.getD d5.1.toNat 0) - (a0.getD d5.1.toNat 0))]),d5.2.2.2.2))) (aw ((en 8 (d5.2.2.1.length+[(a0.getD d5.1.toNat 0)].length))&&((en 8 (d5.2.2.2.1.length+[((ay.getD d5.1.toNat 0) - (a0.getD d5.1.toNat 0))].length))&&(true))) <|
  aw ((bp (d5.1+(1:Int)))&&(true)) <|
  p9 ((d5.1+(1:Int)),d5.2.1,(d5.2.2.1++[(a0.getD d5.1.toNat 0)]),(d5.2.2.2.1++[((ay.getD d5.1.toNat 0) - (a0.getD d5.1.toNat 0))]),d5.2.2.2.2)))) (some (d5.2.1,d5.2.2.1,d5.2.2.2.1,d5.2.2.2.2))
noncomputable def DV (N:Nat) (a0:(List Int)) (ay:(List Int)):Option ((List cS)×Nat×Int):=
  Option.bind (J9 N a0) fun aH=>
  cond (!(decide (aH=(0:Int)))) (some (([]:List cS),0,aH)) (cond (!(decide ((ay.length:Int)=(a0.length:Int)))) (some (([]:List cS),0,(5:Int))) (Option.bind (Rw N ay N (0:Int)) fun(ch:(Unit)⊕((List cS)×Nat×Int))=>
  sm ch (fun ch=>
  Option.bind (Kk N a0 ay N ((0:Int),(0:Int),([]:List Int),([]:List Int),([]:List cS))) fun dz=>
  Option.bind (Rx N dz N ((0:Int),dz.1,([]:List Int))) fun kR=>
  Option.bind (Kf N kR.2) fun nW=>
  Option.bind (Ke N true nW) fun Ki=>j4 (fun(ly:Int×Int×Unit) (ru:(List cS)×Int) (Aq:(List cS)×Int->Option ((List cS)×Nat×Int))=>
  aw ((bl ly.2.1 dz.2.2.1.length)&&(true)) <|
  cond (decide ((0:Int) < (dz.2.2.1.getD ly.2.1.toNat 0))) (aw ((bl ly.2.1 dz.2.2.1.length)&&(true)) <|
  Option.bind (Ao N ly.2.1 dz.2.1 dz.2.2.1) fun u1=>
  aw (((decide (0<=ly.2.1))&&(decide (ly.2.1<=u1))&&(decide (u1<=(dz.2.1.length:Int))))&&(true)) <|
  Option.bind (xh N ((dz.2.1.take u1.toNat).drop ly.2.1.toNat) (dz.2.2.1.getD ly.2.1.toNat 0) ru.2 ru.1) fun Ar=>
  Aq (Ar.2,Ar.1)) (Aq (ru.1,ru.2))) Ki (dz.2.2.2,kR.1) fun rj=>
  Option.bind (Ry N dz kR N ((0:Int),rj.1,rj.2)) fun As=>
  Option.bind (An N (0:Int) As.2 As.1) fun Kj=>
  Option.bind (wW N Kj.2) fun Au=>
  some (Au.1,Au.2,(0:Int))) (fun q=>some q)))
theorem agF:Kk=Kg:=by
 unfold Kk Kg;simp only[nI]
theorem agG:DV=Ap:=by
 unfold DV Ap;rw[agF]
noncomputable def agH (N:Nat):bI bU:=nO N b2 (by kernel_rfl) [.c (.bn (.int .i64)),.c (.bn (.int .i64))] [] ⟨.da [.c (.jT dW),.c (.int .i64)],[],[]⟩ [ags N,agy N,agA N,agD N,Rv N,Qj N] [agC N] (.s .d (.s .d (.s .d (.s (.s .d (.b (.fw 0 ⟨[(33,.a (.c (.int .i64)))],[],[0,1,31,32],[]⟩ ⟨[],[],[0,1],[]⟩ .d))) (.s .d (.s (.r [.n 2,.w (.r2 10 0 21 3 (.int .i64)),.w (.r2 11 0 23 3 (.int .i64))]) (.s (.s (.r [.n 3,.w (.r2 9 0 24 57 dW)]) (.b (.eY 2 ⟨[(9,.a (.c (.raw (.ptr 9 0)))),(10,.a (.c (.raw (.ptr 10 0)))),(11,.a (.c (.raw (.ptr 11 0)))),(60,.a (.c (.int .i64)))],[(9,.cells 87 [.raw (.an 24),.int .i64]),(10,.cells 24 [.raw (.an 21)]),(11,.cells 24 [.raw (.an 23)]),(21,.row 3 (.int .i64)),(23,.row 3 (.int .i64)),(24,.row 57 dW)],[0,1,58,59],[]⟩ ⟨[(9,.a (.c (.raw (.ptr 9 0)))),(10,.a (.c (.raw (.ptr 10 0)))),(11,.a (.c (.raw (.ptr 11 0))))],[(9,.cells 87 [.raw (.an 24),.int .i64]),(10,.cells 24 [.raw (.an 21)]),(11,.cells 24 [.raw (.an 23)]),(21,.row 3 (.int .i64)),(23,.row 3 (.int .i64)),(24,.row 57 dW)],[],[]⟩ (.s .d (.s .d (.s (.b (.s .d (.s (.s (.o [] [.t 0 0,.t 1 0,.t 2 0,.t 3 0,.t 4 0,.t 5 0,.t 6 0,.t 7 0,.t 8 0,.t 9 1,.t 10 0,.t 11 0,.t 12 0,.t 13 0,.t 14 1,.t 15 0,.t 16 0] []) (.c (.s (.o [] [.t 0 0,.t 1 0,.t 2 0,.t 3 0,.t 4 0,.t 5 0,.t 6 0,.t 7 0,.t 8 0,.t 9 1,.t 10 0,.t 11 0,.c 12 [(1000000,9),(1000001,24)]] []) .d) .d)) (.hk [] [1,2,3,4,5,6,7,8,9,10,11,1000012,1000013,1000014] (.b [.t 0 3,.t 1 0,.t 4 3,.t 5 0,.t 6 0,.t 7 0,.t 8 1,.t 9 0,.t 10 0] 2 11 [] [] none none (.b [] 3 11 [] [] none none (.f [.k 11,.s 12,.s 13,.s 14]) (.f [.k 3,.s 12,.s 13,.s 14])) (.f [.k 2,.k 3,.s 12,.s 13,.s 14])) [] false)))) .d)))))) (.s .d (.s (.r [.n 1,.w (.nil 15 15 3 (.int .i64))]) (.s (.s (.r [.n 1,.w (.di 21),.w (.ca 10 (.an (.int .i64))),.w (.di 23),.w (.ca 11 (.an (.int .i64)))]) (.b (.eY 4 ⟨[(9,.a (.c (.raw (.ptr 9 0)))),(14,.a (.c (.raw (.ptr 14 0)))),(15,.a (.c (.raw (.an 15)))),(16,.a (.c (.int .i64)))],[(9,.cells 87 [.raw (.an 24),.int .i64]),(15,.row 3 (.int .i64))],[10,11],[14,24]⟩ ⟨[(9,.a (.c (.raw (.ptr 9 0)))),(14,.a (.c (.raw (.ptr 14 0)))),(15,.a (.c (.raw (.an 15))))],[(9,.cells 87 [.raw (.an 24),.int .i64]),(15,.row 3 (.int .i64))],[10,11],[14,24]⟩ .d))) (.s (.s (.r [.n 1,.w (.di 15)]) (.b (.mX [(9,177),(14,182)] ⟨[],[(24,.row 57 dW),(177,.cells 87 [.raw (.an 24),.int .i64])],[],[182]⟩ (.b (.s .d (.c (.o [3,4,5,6,7,8,9,1000010] [.t 0 1,.t 1 0,.t 2 3,.t 3 0,.t 6 1,.t 7 0,.t 8 0,.t 9 1,.c 4 [],.t 5 0,.c 10 [(1000000,177),(1000001,24)]] []) .d)))))) (.s (.s .d (.b (.eY 8 ⟨[(9,.a (.c (.raw (.ptr 177 0)))),(14,.a (.c (.raw (.ptr 182 0)))),(143,.a (.c (.int .i64)))],[(24,.row 57 dW),(177,.cells 87 [.raw (.an 24),.int .i64])],[10,11,141,142],[182]⟩ ⟨[(9,.a (.c (.raw (.ptr 177 0))))],[(24,.row 57 dW),(177,.cells 87 [.raw (.an 24),.int .i64])],[],[]⟩ (.s .d (.s .d (.s (.b (.s .d (.s .d (.c (.o [3,4,5,6,7,8,9,1000010] [.t 0 1,.t 1 0,.t 2 3,.t 3 0,.t 6 1,.t 7 0,.t 8 0,.t 9 1,.c 4 [],.t 5 0,.c 10 [(1000000,177),(1000001,24)]] []) .d)))) .d)))))) (.s (.r [.c [(1000000,177),(1000001,24)]]) (.s (.r [.n 2,.w (.di 24)]) .d)))))))))))))) [.tmp 4,.tmp 5] 9 ([],0,0) (fun d=>DV N d.1 d.2.1) (fun d=>Ap N d.1 d.2.1) (fun d=>(by rw[agG]:DV N d.1 d.2.1=Ap N d.1 d.2.1)) Tryz.func9 rfl rfl Tryz.ntmps9 rfl rfl rfl (fun d=>by kernel_rfl)
end
section
open Go.RowKit
end
section
open Go.RowKit
end
section
open Go.RowKit
def Kl(N:Nat) (a0:(List bB)) (ay:(List bB)):Nat->Int->Option ((Unit)⊕(Bool)):=cx fun d1 dG=>
  cond (decide (d1 < (a0.length:Int))) (aw ((bl d1 a0.length)&&(true)) <|
  aw ((bl d1 ay.length)&&(true)) <|
  Option.bind (CZ N (a0.getD d1.toNat ck.zero) (ay.getD d1.toNat ck.zero)) fun a1=>
  cond (!a1) (some (.inr false)) (aw ((bp (d1+(1:Int)))&&(true)) <|
  dG (d1+(1:Int)))) (some (.inl ()))
def DW(N:Nat) (a0:(List bB)) (ay:(List bB)):Option (Bool):=
  cond (!(decide ((a0.length:Int)=(ay.length:Int)))) (some false) (Option.bind (Kl N a0 ay N (0:Int)) fun(aX:(Unit)⊕(Bool))=>
  sm aX (fun aX=>
  some true) (fun q=>some q))
noncomputable def agI (N:Nat):bI bU:=cj N b2 (by kernel_rfl) [.c (.bn ck),.c (.bn ck),.c (.fn 49 [])] [] ⟨.a (.c .bool),[],[]⟩ [adv N] [] (.s .d (.s .d (.s (.s .d (.b (.fw 0 ⟨[(17,.a (.c (.int .i64)))],[],[1,2,15,16],[]⟩ ⟨[],[],[],[]⟩ (.s .d (.s .d (.s (.b (.s (.r [.n 6,.w (.ca 8 ck)]) (.s (.r [.n 6,.w (.ca 9 ck)]) .d))) .d)))))) .d))) [.tmp 6] 52 false (fun d=>DW N d.1 d.2.1) Tryz.func52 rfl rfl Tryz.ntmps52 rfl rfl rfl (fun d=>by kernel_rfl)
def DX(N:Nat) (a0:(List bB)) (ay:(List bB)):Option (Bool):=
  Option.bind (DW N a0 ay) fun aH=>
  some aH
noncomputable def agJ (N:Nat):bI bU:=cj N b2 (by kernel_rfl) [.c (.bn ck),.c (.bn ck),.c (.raw (.ptr 1000000 0))] [(1000000,.cells 117 [.fn 49 []])] ⟨.a (.c .bool),[],[1000000]⟩ [agI N] [] (.d) [.tmp 5] 51 false (fun d=>DX N d.1 d.2.1) Tryz.func51 rfl rfl Tryz.ntmps51 rfl rfl rfl (fun d=>by kernel_rfl)
def Km(N:Nat) (a0:(List (List bB))) (ay:(List (List bB))):Nat->Int->Option ((Unit)⊕(Bool)):=cx fun d1 dG=>
  cond (decide (d1 < (a0.length:Int))) (aw ((bl d1 a0.length)&&(true)) <|
  aw ((bl d1 ay.length)&&(true)) <|
  Option.bind (DX N (a0.getD d1.toNat []) (ay.getD d1.toNat [])) fun a1=>
  cond (!a1) (some (.inr false)) (aw ((bp (d1+(1:Int)))&&(true)) <|
  dG (d1+(1:Int)))) (some (.inl ()))
def DY(N:Nat) (a0:(List (List bB))) (ay:(List (List bB))):Option (Bool):=
  cond (!(decide ((a0.length:Int)=(ay.length:Int)))) (some false) (Option.bind (Km N a0 ay N (0:Int)) fun(aX:(Unit)⊕(Bool))=>
  sm aX (fun aX=>
  some true) (fun q=>some q))
noncomputable def agK (N:Nat):bI bU:=cj N b2 (by kernel_rfl) [.c (.bn (.an ck)),.c (.bn (.an ck)),.c (.fn 51 [.id 1000000])] [(1000000,.cells 117 [.fn 49 []])] ⟨.a (.c .bool),[(1000000,.cells 117 [.fn 49 []])],[]⟩ [agJ N] [] (.s .d (.s .d (.s (.s .d (.b (.fw 0 ⟨[(2,.a (.c (.fn 51 [.id 1000000]))),(17,.a (.c (.int .i64)))],[(1000000,.cells 117 [.fn 49 []])],[1,15,16],[]⟩ ⟨[],[(1000000,.cells 117 [.fn 49 []])],[],[]⟩ (.s .d (.s .d (.s (.b (.s .d (.s .d (.s (.r [.n 3,.c [(1000000,1000000)]]) .d)))) .d)))))) .d))) [.tmp 6] 53 false (fun d=>DY N d.1 d.2.1) Tryz.func53 rfl rfl Tryz.ntmps53 rfl rfl rfl (fun d=>by kernel_rfl)
def DZ(N:Nat) (a0:lS) (ay:lS):Option (Bool):=
  Option.bind (DY N a0.1 ay.1) fun aH=>
  Option.bind (cond aH (I9 N a0.2.1 ay.2.1) (some false)) fun a1=>
  Option.bind (cond (cond aH a1 false) (p5 N a0.2.2.1 ay.2.2.1) (some false)) fun bD=>
  Option.bind (cond (cond (cond aH a1 false) bD false) (p5 N a0.2.2.2 ay.2.2.2) (some false)) fun cq=>
  some (cond (cond (cond aH a1 false) bD false) cq false)
noncomputable def agL (N:Nat):bI bU:=cj N b2 (by kernel_rfl) [.c9 pg,.c9 pg] [] ⟨.a (.c .bool),[],[]⟩ [agK N,adu N,CW N] [] (.s (.r [.n 3,.w (.ca 2 pg),.w (.ca 3 pg)]) (.s .d (.s .d (.s (.r [.n 5,.c [(1000000,5)]]) .d)))) [.tmp 4] 16 false (fun d=>DZ N d.1 d.2.1) Tryz.func16 rfl rfl Tryz.ntmps16 rfl rfl rfl (fun d=>by kernel_rfl)
end
end Go.Proofs.YtcheedjfedcbpaaGreatDoor
namespace Go.Proofs
open Go.Shelf
def Tryz.agM:Go.Shelf.Ren:=⟨fun | 171=>144 | 243=>184 | 246=>209 | 283=>219 | 284=>220 | 285=>221 | 286=>222 | 129=>173 | 317=>228 | 318=>229 | 319=>230 | 320=>231 | 337=>233 | 338=>234 | n=>n,fun | 3=>3 | 9=>9 | 2=>2 | 4=>4 | 171=>307 | 0=>0 | 53=>266 | 37=>142 | 5=>5 | 173=>309 | 212=>315 | 51=>264 | 20=>20 | 213=>316 | 46=>215 | 232=>317 | 233=>318 | n=>n,fun | 17=>3 | 18=>5 | 19=>6 | n=>n⟩
theorem Tryz.agN:Go.Proofs.LaysM.n171 Tryz.prog Tryz.agM:={
 mixed:=by kernel_rfl
 f129:=Tryz.func173.trans (congrArg some (by kernel_rfl))
 f171:=Tryz.func144.trans (congrArg some (by kernel_rfl))
 f243:=Tryz.func184.trans (congrArg some (by kernel_rfl))
 f246:=Tryz.func209.trans (congrArg some (by kernel_rfl))
 f283:=Tryz.func219.trans (congrArg some (by kernel_rfl))
 f284:=Tryz.func220.trans (congrArg some (by kernel_rfl))
 f285:=Tryz.func221.trans (congrArg some (by kernel_rfl))
 f286:=Tryz.func222.trans (congrArg some (by kernel_rfl))
 f317:=Tryz.func228.trans (congrArg some (by kernel_rfl))
 f318:=Tryz.func229.trans (congrArg some (by kernel_rfl))
 f319:=Tryz.func230.trans (congrArg some (by kernel_rfl))
 f320:=Tryz.func231.trans (congrArg some (by kernel_rfl))
 f337:=Tryz.func233.trans (congrArg some (by kernel_rfl))
 f338:=Tryz.func234.trans (congrArg some (by kernel_rfl))
 t0:=Tryz.underlying0
 a0:=Tryz.isAgg0
 z0:=Tryz.sizeOf0
 v0:=Tryz.zeroValue0
 t2:=Tryz.underlying2
 a2:=Tryz.isAgg2
 z2:=Tryz.sizeOf2
 v2:=Tryz.zeroValue2
 t3:=Tryz.underlying3
 a3:=Tryz.isAgg3
 z3:=Tryz.sizeOf3
 v3:=Tryz.zeroValue3
 t4:=Tryz.underlying4
 a4:=Tryz.isAgg4
 z4:=Tryz.sizeOf4
 v4:=Tryz.zeroValue4
 t5:=Tryz.underlying5
 a5:=Tryz.isAgg5
 z5:=Tryz.sizeOf5
 v5:=Tryz.zeroValue5
 t9:=Tryz.underlying9
 a9:=Tryz.isAgg9
 z9:=Tryz.sizeOf9
 v9:=Tryz.zeroValue9
 t20:=Tryz.underlying20
 a20:=Tryz.isAgg20
 z20:=Tryz.sizeOf20
 v20:=Tryz.zeroValue20
 t37:=Tryz.underlying142
 a37:=Tryz.isAgg142
 z37:=Tryz.sizeOf142
 v37:=Tryz.zeroValue142
 t46:=Tryz.underlying215
 a46:=Tryz.isAgg215
 z46:=Tryz.sizeOf215
 v46:=Tryz.zeroValue215
 t51:=Tryz.underlying264
 a51:=Tryz.isAgg264
 z51:=Tryz.sizeOf264
 v51:=Tryz.zeroValue264
 t53:=Tryz.underlying266
 a53:=Tryz.isAgg266
 z53:=Tryz.sizeOf266
 v53:=Tryz.zeroValue266
 t171:=Tryz.underlying307
 a171:=Tryz.isAgg307
 z171:=Tryz.sizeOf307
 v171:=Tryz.zeroValue307
 t173:=Tryz.underlying309
 a173:=Tryz.isAgg309
 z173:=Tryz.sizeOf309
 v173:=Tryz.zeroValue309
 t212:=Tryz.underlying315
 a212:=Tryz.isAgg315
 z212:=Tryz.sizeOf315
 v212:=Tryz.zeroValue315
 t213:=Tryz.underlying316
 a213:=Tryz.isAgg316
 z213:=Tryz.sizeOf316
 t232:=Tryz.underlying317
 a232:=Tryz.isAgg317
 z232:=Tryz.sizeOf317
 v232:=Tryz.zeroValue317
 t233:=Tryz.underlying318
 a233:=Tryz.isAgg318
 z233:=Tryz.sizeOf318
 v233:=Tryz.zeroValue318
 g17:=by kernel_rfl
 g18:=by kernel_rfl
 g19:=by kernel_rfl
 i0:=by kernel_rfl
 i2:=by kernel_rfl
 i3:=by kernel_rfl
 i4:=by kernel_rfl
 i5:=by kernel_rfl
 i9:=by kernel_rfl
 i20:=by kernel_rfl
 i37:=by kernel_rfl
 i46:=by kernel_rfl
 i51:=by kernel_rfl
 i53:=by kernel_rfl
 i171:=by kernel_rfl
 i173:=by kernel_rfl
 i212:=by kernel_rfl
 i232:=by kernel_rfl
 i233:=by kernel_rfl
 m17:=by kernel_rfl
 m18:=by kernel_rfl
 m19:=by kernel_rfl }
def Tryz.RB:Go.Shelf.Ren:=⟨fun | 156=>146 | 165=>185 | 166=>186 | 169=>187 | 240=>210 | 241=>211 | 276=>223 | 277=>224 | n=>n,fun | 31=>106 | 9=>9 | 3=>3 | 4=>4 | 0=>0 | 20=>20 | 72=>275 | 76=>278 | 70=>273 | 37=>142 | 75=>277 | 127=>298 | 164=>311 | 5=>5 | 80=>280 | n=>n,fun | n=>n⟩
theorem Tryz.agO:Go.Proofs.Lays.n156 Tryz.prog Tryz.RB:={
 mixed:=by kernel_rfl
 f156:=Tryz.func146.trans (congrArg some (by kernel_rfl))
 f165:=Tryz.func185.trans (congrArg some (by kernel_rfl))
 f166:=Tryz.func186.trans (congrArg some (by kernel_rfl))
 f169:=Tryz.func187.trans (congrArg some (by kernel_rfl))
 f240:=Tryz.func210.trans (congrArg some (by kernel_rfl))
 f241:=Tryz.func211.trans (congrArg some (by kernel_rfl))
 f276:=Tryz.func223.trans (congrArg some (by kernel_rfl))
 f277:=Tryz.func224.trans (congrArg some (by kernel_rfl))
 t0:=Tryz.underlying0
 a0:=Tryz.isAgg0
 z0:=Tryz.sizeOf0
 v0:=Tryz.zeroValue0
 t3:=Tryz.underlying3
 a3:=Tryz.isAgg3
 z3:=Tryz.sizeOf3
 v3:=Tryz.zeroValue3
 t4:=Tryz.underlying4
 a4:=Tryz.isAgg4
 z4:=Tryz.sizeOf4
 v4:=Tryz.zeroValue4
 t9:=Tryz.underlying9
 a9:=Tryz.isAgg9
 z9:=Tryz.sizeOf9
 v9:=Tryz.zeroValue9
 t20:=Tryz.underlying20
 a20:=Tryz.isAgg20
 z20:=Tryz.sizeOf20
 v20:=Tryz.zeroValue20
 t31:=Tryz.underlying106
 a31:=Tryz.isAgg106
 z31:=Tryz.sizeOf106
 v31:=Tryz.zeroValue106
 t37:=Tryz.underlying142
 a37:=Tryz.isAgg142
 z37:=Tryz.sizeOf142
 v37:=Tryz.zeroValue142
 t70:=Tryz.underlying273
 a70:=Tryz.isAgg273
 z70:=Tryz.sizeOf273
 v70:=Tryz.zeroValue273
 t72:=Tryz.underlying275
 a72:=Tryz.isAgg275
 z72:=Tryz.sizeOf275
 v72:=Tryz.zeroValue275
 t75:=Tryz.underlying277
 a75:=Tryz.isAgg277
 z75:=Tryz.sizeOf277
 v75:=Tryz.zeroValue277
 t76:=Tryz.underlying278
 a76:=Tryz.isAgg278
 z76:=Tryz.sizeOf278
 v76:=Tryz.zeroValue278
 t127:=Tryz.underlying298
 a127:=Tryz.isAgg298
 z127:=Tryz.sizeOf298
 v127:=Tryz.zeroValue298
 t164:=Tryz.underlying311
 a164:=Tryz.isAgg311
 z164:=Tryz.sizeOf311
 v164:=Tryz.zeroValue311 }
theorem Tryz.agP:Builder.Extra Tryz.prog Tryz.RB:={
 sizeBuilder:=by kernel_rfl
 liesBuilder:=by kernel_rfl
 t5:=Tryz.underlying5
 a5:=Tryz.isAgg5
 z5:=Tryz.sizeOf5
 v5:=Tryz.zeroValue5
 infoByte:=by kernel_rfl
 cellsByte:=by kernel_rfl
 sizeByte:=by kernel_rfl
 neB5:=by decide }
end Go.Proofs
namespace Go.Proofs.YtcheedjfedcbpaaGreatDoor
open Go.RowKit
section
open Go.RowKit
theorem agQ(w:World):∀ k,(w.drewN k).heap=w.heap/\(w.drewN k).os=w.os/\(w.drewN k).tape=w.tape/\(w.drewN k).output=w.output:=fun k=>⟨rfl,rfl,rfl,rfl⟩
theorem agR(w:World) (k:Nat) (os:Array Obj):Below w.heap.size w (Sort.grow (w.drewN k) os):=by
 obtain⟨J,U,ah,au⟩:=agQ w k;refine⟨U,ah,au,?_,fun j aR=>?_⟩
 ·show w.heap.size<=((w.drewN k).heap++os).size
  rw[J,Array.size_append]; omega
 ·show((w.drewN k).heap++os)[j]?=_
  rw[J,Array.getElem?_append_left aR]
theorem agS(n:Int) (aN:-9223372036854775808<=n) (J:n<=9223372036854775807):AC bU 144 [.c (.val (.int .i64 n))] [] (fun sv h=>sv=.c (.str (Lib.itoa n))/\h=[]):=by
 refine AC.Mg (v0:=eP (Lib.itoa n)) (fun _ _ _=>rfl) ?_;rintro env B ai _ W aL ⟨v,r,rfl,aB,az⟩ bT;have aC:v=_:=aB;have aW:r=[]:=az;subst aC aW;refine Calls.mono (Any.strconv_Itoa Tryz.agN n aN J W ((aL 3 _ rfl).UG (by kernel_rfl))) ?_;rintro e w' ⟨rfl,k,os,rfl⟩;exact⟨_,rfl,rfl,agR _ _ _⟩
theorem agT(l:List (List UInt8)) (cap:Option Nat) (sep:List UInt8) (aN:0 < l.length) (J:l.length<=1000000) (U:(Lib.join l sep).length<=1000000000):AC bU 146 [.c (.bn .str l cap),.c (.str sep)] [] (fun sv h=>sv=.c (.str (Lib.join l sep))/\h=[]):=by
 refine AC.Mg (v0:=eP (Lib.join l sep)) (fun _ _ _=>rfl) ?_;rintro env B ai _ W aL ⟨v,r,rfl,⟨A,c,xs,rfl,ka,iu,_,aA,agU,gU⟩,v2,a1,rfl,fY,sn⟩ bT;have aC:v2=eP sep:=fY;have aW:a1=[]:=sn;subst aC aW;obtain⟨b,p,e,ir⟩:=agU.2 aN;subst e;have pO:=Mh aA;have RC:(l.map fun x=>(⟨x.toArray⟩:ByteArray)).map (·.data.toList)=l:=by
  rw[List.map_map];exact(List.map_congr_left (fun x _=>rfl)).trans (List.map_id' l)
 have p4:=Any.strings_Join_48 Tryz.agO Tryz.agP b p c (l.map fun x=>⟨x.toArray⟩) ⟨sep.toArray⟩ W (fun j x aj=>by
  refine ir j _ ?_;rw[pO];rw[List.getElem?_map]at aj ⊢;cases ad:l[j]? with
  | none=>rw[ad]at aj; cases aj
  | some y=>rw[ad]at aj; cases aj; rfl) (bT b (gU b p aN rfl)) (by rw[List.length_map]; omega) (by rw[List.length_map]; exact ka) (by rw[RC]; show(Lib.join l sep).length<=_; omega)
 rw[RC,List.length_map]at p4;refine Calls.mono p4 ?_;rintro e w' ⟨rfl,ae⟩;exact⟨_,rfl,rfl,ae⟩
def D0(u:Nat):List UInt8:=if u < 10 then [UInt8.ofNat (48+u)] else [UInt8.ofNat (48+u / 10),UInt8.ofNat (48+u % 10)]
def Kn(n:Int):List UInt8:=if n < 0 then 45 :: D0 n.natAbs else D0 n.toNat
theorem RD(u:Nat) (h:u < 100):Lib.decDigits u=D0 u:=by
 unfold D0
 split
 ·rename_i J
  rw[Lib.decDigits]
  simp[J]
 ·rename_i J
  rw[Lib.decDigits]
  simp[J]
  rw[Lib.decDigits]
  have:u / 10 < 10:=by omega
  simp[this]
theorem agV(n:Int) (aN:-100 < n) (J:n < 100):Lib.itoa n=Kn n:=by
 unfold Lib.itoa Kn;rw[RD _ (by omega),RD _ (by omega)]
def Av(n:Int):Option (List UInt8):=aw (decide (-100 < n)&&decide (n < 100)) (some (Kn n))
def RE(l:List (List UInt8)) (sep:List UInt8):Option (List UInt8):=aw (decide (0 < l.length)&&(decide (l.length<=1000000)&&decide ((Lib.join l sep).length<=1000000000))) (some (Lib.join l sep))
theorem RF{α:Type} {c:Bool} {x:Option α} {r:α} (h:aw c x=some r):c=true/\x=some r:=by
 cases c
 ·cases h
 ·exact⟨rfl,h⟩
noncomputable def RG:bI bU where
 f:=144
 fn:=Tryz.f144
 A:=[.c (.int .i64)]
 eL:=[]
 aP:=List UInt8
 od:=[]
 m:=fun d=>Av d.1
 out:=fun _ r=>(.c (.str r),[])
 aA:=Tryz.func144
 a7:=rfl
 ae:=rfl
 ok:=fun d r he=>by
  obtain⟨J,U⟩:=RF (show aw _ _=some r from he);rw[Bool.and_eq_true,decide_eq_true_eq,decide_eq_true_eq]at J;cases U
  have:=agS d.1 (by omega) (by omega)
  rw[agV _ J.1 J.2]at this;exact this
noncomputable def agW:bI bU where
 f:=146
 fn:=Tryz.f146
 A:=[.c (.bn .str),.c .str]
 eL:=[]
 aP:=List UInt8
 od:=[]
 m:=fun d=>RE d.1 d.2.1
 out:=fun _ r=>(.c (.str r),[])
 aA:=Tryz.func146
 a7:=rfl
 ae:=rfl
 ok:=fun d r he=>by
  obtain⟨J,U⟩:=RF (show aw _ _=some r from he);rw[Bool.and_eq_true,Bool.and_eq_true,decide_eq_true_eq,decide_eq_true_eq,decide_eq_true_eq]at J;cases U;exact agT d.1 none d.2.1 J.1 J.2.1 J.2.2
def Ko(N:Nat) (a0:al):Option ((List UInt8)):=
  Option.bind (kP N a0) fun aH=>
  cond (!(decide (aH=(0:Int)))) (some ([]:List UInt8)) (cond (decide (a0.1=(0:Int))) (Option.bind (Av a0.2) fun a1=>
  aw ((decide (([102]:List UInt8).length+a1.length<=140737488355328))&&(true)) <|
  some (([102]:List UInt8)++a1)) (Option.bind (Av a0.2) fun bD=>
  aw ((decide (([98]:List UInt8).length+bD.length<=140737488355328))&&(true)) <|
  some (([98]:List UInt8)++bD)))
noncomputable def agX (N:Nat):bI bU:=cj N b2 (by kernel_rfl) [.c9 aK] [] ⟨.a (.c .str),[],[]⟩ [uI N,RG] [] (.s (.r [.n 2,.w (.ca 1 aK)]) .d) [.tmp 2] 145 [] (fun d=>Ko N d.1) Tryz.func145 rfl rfl Tryz.ntmps145 rfl rfl rfl (fun d=>by kernel_rfl)
def RH(N:Nat) (a0:cS):Option ((List UInt8)):=
  Option.bind (lp N a0) fun aH=>
  cond (!(decide (aH=(0:Int)))) (some ([]:List UInt8)) (aw ((bp a0.2.2.2.1)&&(true)) <|
  Option.bind (Av a0.2.2.2.1) fun a1=>
  aw (((bl a0.1 9)&&(bl a0.1 mS.length))&&(true)) <|
  Option.bind (cond (decide (a0.1=(1:Int))) (aw (((bl a0.2.1 2)&&(bl a0.2.1 r3.length))&&((en 16 ([(mS.getD a0.1.toNat [])].length+[a1,(r3.getD a0.2.1.toNat [])].length))&&(true))) <|
  some ([(mS.getD a0.1.toNat [])]++[a1,(r3.getD a0.2.1.toNat [])])) (cond (decide (a0.1=(2:Int))) (aw ((en 16 ([(mS.getD a0.1.toNat [])].length+[a1].length))&&(true)) <|
  some ([(mS.getD a0.1.toNat [])]++[a1])) (cond (decide (a0.1=(3:Int))) (Option.bind (Av a0.2.2.2.2) fun cq=>
  aw ((en 16 ([(mS.getD a0.1.toNat [])].length+[cq].length))&&(true)) <|
  some ([(mS.getD a0.1.toNat [])]++[cq])) (Option.bind (cond (decide (a0.1=(4:Int))) (some (decide (a0.1=(4:Int)))) (cond (decide (a0.1=(5:Int))) (some (decide (a0.1=(5:Int)))) (some (decide (a0.1=(6:Int)))))) fun dz=>
  cond dz (aw (((bl a0.2.1 2)&&(bl a0.2.1 r3.length))&&(true)) <|
  Option.bind (Ko N a0.2.2.1) fun cy=>
  aw ((en 16 ([(mS.getD a0.1.toNat [])].length+[(r3.getD a0.2.1.toNat []),cy,a1].length))&&(true)) <|
  some ([(mS.getD a0.1.toNat [])]++[(r3.getD a0.2.1.toNat []),cy,a1])) (Option.bind (cond (decide (a0.1=(7:Int))) (some (decide (a0.1=(7:Int)))) (some (decide (a0.1=(8:Int))))) fun kO=>
  cond kO (Option.bind (Ko N a0.2.2.1) fun jk=>
  aw ((en 16 ([(mS.getD a0.1.toNat [])].length+[jk].length))&&(true)) <|
  some ([(mS.getD a0.1.toNat [])]++[jk])) (some [(mS.getD a0.1.toNat [])])))))) fun cg=>
  Option.bind (RE cg ([32]:List UInt8)) fun oD=>
  some oD)
noncomputable def agY (N:Nat):bI bU:=cj N b2 (by kernel_rfl) [.c9 dW] [] ⟨.a (.c .str),[],[]⟩ [Ql N,RG,agX N,agW] [] (.s (.r [.n 2,.w (.ca 1 dW)]) (.s .d (.s .d (.s .d (.j ⟨[(4,.a (.c (.raw (.an 16))))],[(16,.row 9 .str)],[],[]⟩ (.s .d (.b (.s .d (.c .d (.s .d (.c .d (.s .d (.c .d (.j ⟨[(4,.a (.c (.raw (.an 16)))),(43,.a (.c .bool))],[],[1,2,3,18],[16]⟩ .d (.c (.o [] [.t 0 0,.t 1 0,.t 2 1,.t 3 0,.t 4 1,.t 5 0,.t 6 1,.t 8 0,.c 7 [],.s 9,.s 10,.t 11 0] []) (.j ⟨[(4,.a (.c (.raw (.an 16)))),(58,.a (.c .bool))],[],[1,2],[16]⟩ .d .d))))))))))) (.s (.r [.n 1,.w (.di 16)]) .d)))))) [.tmp 2] 109 [] (fun d=>RH N d.1) Tryz.func109 rfl rfl Tryz.ntmps109 rfl rfl rfl (fun d=>by kernel_rfl)
def Kp(N:Nat) (a0:(List Ic)) (ay:Bool):Nat->(Int×Int×Int×Int×(List Int)×(List Int)×(List Int))->Option ((List Int)×(List Int)×(List Int)):=cx fun d1 dG=>
  cond (cond (decide (d1.2.2.2.1 < (a0.length:Int))) (decide (d1.2.2.2.1 < (8:Int))) false) (aw ((bp (d1.1+(1:Int)))&&((bl d1.2.2.2.1 a0.length)&&((bp (Int.tmod (a0.getD d1.2.2.2.1.toNat jj.zero).1 (6:Int)))&&((bp ((d1.1+(1:Int))+(Int.tmod (a0.getD d1.2.2.2.1.toNat jj.zero).1 (6:Int))))&&(true))))) <|
  aw ((bl d1.2.2.2.1 a0.length)&&((bp (Int.tmod (a0.getD d1.2.2.2.1.toNat jj.zero).2.1 (2:Int)))&&((bp ((1:Int)+(Int.tmod (a0.getD d1.2.2.2.1.toNat jj.zero).2.1 (2:Int))))&&(true)))) <|
  aw ((bl d1.2.2.2.1 a0.length)&&((bp (Int.tmod (a0.getD d1.2.2.2.1.toNat jj.zero).2.2 (6:Int)))&&(true))) <|
  Option.bind (aw ((ez ((!(cond (decide (d1.2.2.2.1=(0:Int))) true (!ay)))&&(decide ((Int.tmod (a0.getD d1.2.2.2.1.toNat jj.zero).2.2 (6:Int))=(0:Int)))) (bp (d1.2.2.1+((1:Int)+(Int.tmod (a0.getD d1.2.2.2.1.toNat jj.zero).2.1 (2:Int))))))&&(true)) <|
  cond (cond (cond (decide (d1.2.2.2.1=(0:Int))) true (!ay)) true (cond (decide ((Int.tmod (a0.getD d1.2.2.2.1.toNat jj.zero).2.2 (6:Int))=(0:Int))) (decide ((4:Int) < (d1.2.2.1+((1:Int)+(Int.tmod (a0.getD d1.2.2.2.1.toNat jj.zero).2.1 (2:Int)))))) false)) (aw ((bp ((Int.tmod (a0.getD d1.2.2.2.1.toNat jj.zero).2.2 (6:Int))+(1:Int)))&&(true)) <|
  some ((Int.tmod (a0.getD d1.2.2.2.1.toNat jj.zero).2.2 (6:Int))+(1:Int))) (some (Int.tmod (a0.getD d1.2.2.2.1.toNat jj.zero).2.2 (6:Int)))) fun ch=>
  Option.bind (cond (decide ((0:Int) < ch)) (some (0:Int)) (some d1.2.2.1)) fun cg=>
  aw ((bp (cg+((1:Int)+(Int.tmod (a0.getD d1.2.2.2.1.toNat jj.zero).2.1 (2:Int)))))&&(true)) <|
  aw ((bp (d1.2.1+ch))&&(true)) <|
  cond (cond (decide ((40:Int) < ((d1.1+(1:Int))+(Int.tmod (a0.getD d1.2.2.2.1.toNat jj.zero).1 (6:Int))))) true (decide ((40:Int) < (d1.2.1+ch)))) (some (d1.2.2.2.2.1,d1.2.2.2.2.2.1,d1.2.2.2.2.2.2)) (aw ((en 8 (d1.2.2.2.2.1.length+[((d1.1+(1:Int))+(Int.tmod (a0.getD d1.2.2.2.1.toNat jj.zero).1 (6:Int)))].length))&&(true)) <|
  aw ((en 8 (d1.2.2.2.2.2.1.length+[((1:Int)+(Int.tmod (a0.getD d1.2.2.2.1.toNat jj.zero).2.1 (2:Int)))].length))&&(true)) <|
  aw ((en 8 (d1.2.2.2.2.2.2.length+[(d1.2.1+ch)].length))&&(true)) <|
  aw ((bp (d1.2.2.2.1+(1:Int)))&&(true)) <|
  dG (((d1.1+(1:Int))+(Int.tmod (a0.getD d1.2.2.2.1.toNat jj.zero).1 (6:Int))),(d1.2.1+ch),(cg+((1:Int)+(Int.tmod (a0.getD d1.2.2.2.1.toNat jj.zero).2.1 (2:Int)))),(d1.2.2.2.1+(1:Int)),(d1.2.2.2.2.1++[((d1.1+(1:Int))+(Int.tmod (a0.getD d1.2.2.2.1.toNat jj.zero).1 (6:Int)))]),(d1.2.2.2.2.2.1++[((1:Int)+(Int.tmod (a0.getD d1.2.2.2.1.toNat jj.zero).2.1 (2:Int)))]),(d1.2.2.2.2.2.2++[(d1.2.1+ch)])))) (some (d1.2.2.2.2.1,d1.2.2.2.2.2.1,d1.2.2.2.2.2.2))
def D1(N:Nat) (a0:(List Ic)) (ay:Bool):Option ((List Int)×(List Int)×(List Int)):=
  Option.bind (Kp N a0 ay N ((0:Int),(0:Int),(0:Int),(0:Int),([]:List Int),([]:List Int),([]:List Int))) fun aX=>
  some (aX.1,aX.2.1,aX.2.2)
noncomputable def agZ (N:Nat):bI bU:=cj N b2 (by kernel_rfl) [.c (.bn jj),.c .bool] [] ⟨.da [.c (.bn (.int .i64)),.c (.bn (.int .i64)),.c (.bn (.int .i64))],[],[]⟩ [] [] (.s .d (.s (.r [.n 3,.w (.nil 7 7 3 (.int .i64)),.w (.nil 8 8 3 (.int .i64)),.w (.nil 9 9 3 (.int .i64))]) (.s .d (.s (.s .d (.b (.eY 0 ⟨[(7,.a (.c (.raw (.an 7)))),(8,.a (.c (.raw (.an 8)))),(9,.a (.c (.raw (.an 9)))),(10,.a (.c (.int .i64))),(11,.a (.c (.int .i64))),(12,.a (.c (.int .i64))),(13,.a (.c (.int .i64)))],[(7,.row 3 (.int .i64)),(8,.row 3 (.int .i64)),(9,.row 3 (.int .i64))],[0,1],[]⟩ ⟨[(7,.a (.c (.raw (.an 7)))),(8,.a (.c (.raw (.an 8)))),(9,.a (.c (.raw (.an 9))))],[(7,.row 3 (.int .i64)),(8,.row 3 (.int .i64)),(9,.row 3 (.int .i64))],[],[]⟩ (.s .d (.s (.b (.s .d (.s .d (.s .d (.j ⟨[(7,.a (.c (.raw (.an 7)))),(8,.a (.c (.raw (.an 8)))),(9,.a (.c (.raw (.an 9)))),(15,.a (.c (.int .i64)))],[],[0,1,10,11,12,13,14],[7,8,9]⟩ .d (.j ⟨[(7,.a (.c (.raw (.an 7)))),(8,.a (.c (.raw (.an 8)))),(9,.a (.c (.raw (.an 9)))),(12,.a (.c (.int .i64)))],[],[0,1,10,11,13,14,15],[7,8,9]⟩ .d .d)))))) .d))))) (.s .d (.t [.di 7,.di 8,.di 9])))))) [.tmp 4,.tmp 5,.tmp 6] 7 ([],[],[]) (fun d=>D1 N d.1 d.2.1) Tryz.func7 rfl rfl Tryz.ntmps7 rfl rfl rfl (fun d=>by kernel_rfl)
end
section
open Go.RowKit
structure nn(A:List Nat) (a:Nat):Prop where
 nm:A.Pairwise (· < ·)
 oI:∀ x∈A,1<=x/\x<=a
theorem nn.snoc{A:List Nat} {a:Nat} (h:nn A a) {b:Nat} (ae:a < b):nn (A++[b]) b:=by
 refine⟨List.pairwise_append.2 ⟨h.nm,List.pairwise_singleton _ _,fun x aj y aT=>?_⟩,fun x aj=>?_⟩
 ·rw[List.mem_singleton]at aT
  have:=(h.oI x aj).2
  omega
 ·rcases List.mem_append.1 aj with aj | aj
  ·have:=h.oI x aj
   omega
  ·rw[List.mem_singleton]at aj
   omega
def iX(A:List Nat):List Int:=A.map fun(a:Nat)=>(a:Int)
theorem u2(A:List Nat):(iX A).length=A.length:=by simp[iX]
theorem RI{A:List Nat} {j a:Nat} (h:A[j]?=some a):(iX A)[j]?=some (a:Int):=by simp[iX,h]
theorem ag0(A:List Nat) (a:Nat):iX (A++[a])=iX A++[(a:Int)]:=by simp[iX]
theorem Kq{z m:Int} (h:0<=z) (hm:0 < m):0<=Int.tmod z m/\Int.tmod z m < m:=⟨Int.tmod_nonneg _ h,Int.tmod_lt_of_pos _ hm⟩
end
section
open Go.RowKit
def ag1(N:Nat) (a0:(List cS)):Nat->((List UInt8)×Int)->Option ((List UInt8)):=cx fun d1 dG=>
  cond (decide (d1.2 < (a0.length:Int))) (Option.bind (cond (decide ((0:Int) < d1.2)) (aw ((decide (d1.1.length+([59,32]:List UInt8).length<=140737488355328))&&(true)) <|
  some (d1.1++([59,32]:List UInt8))) (some d1.1)) fun ch=>
  aw ((bl d1.2 a0.length)&&(true)) <|
  Option.bind (RH N (a0.getD d1.2.toNat dW.zero)) fun bD=>
  aw ((decide (ch.length+bD.length<=140737488355328))&&(true)) <|
  aw ((bp (d1.2+(1:Int)))&&(true)) <|
  dG ((ch++bD),(d1.2+(1:Int)))) (some d1.1)
def Kr(N:Nat) (a0:(List cS)):Option ((List UInt8)):=
  Option.bind (ag1 N a0 N (([]:List UInt8),(0:Int))) fun aX=>
  some aX
noncomputable def ag2 (N:Nat):bI bU:=cj N b2 (by kernel_rfl) [.c (.bn dW)] [] ⟨.a (.c .str),[],[]⟩ [agY N] [] (.s .d (.s .d (.s (.s .d (.b (.eY 0 ⟨[(3,.a (.c .str)),(4,.a (.c (.int .i64)))],[],[0],[]⟩ ⟨[(3,.a (.c .str))],[],[],[]⟩ (.s .d (.s (.b (.j ⟨[(3,.a (.c .str))],[],[0,4],[]⟩ .d .d)) .d))))) .d))) [.tmp 2] 43 [] (fun d=>Kr N d.1) Tryz.func43 rfl rfl Tryz.ntmps43 rfl rfl rfl (fun d=>by kernel_rfl)
def RJ:List UInt8:=[120,102,101,114,32,102,49,51,59,32,114,97,99,107,32,50,59,32,120,102,101,114,32,98,49,51,59,32,114,97,99,107,32,48]
def RK:List UInt8:=[114,97,99,107,32,45,51,59,32,120,102,101,114,32,102,49,51,59,32,114,97,99,107,32,52,59,32,120,102,101,114,32,98,49,54,59,32,114,97,99,107,32,48]
def RL:List UInt8:=[120,102,101,114,32,102,49,52,59,32,114,97,99,107,32,50,59,32,120,102,101,114,32,98,49,52,59,32,114,97,99,107,32,48]
def RM:List UInt8:=[120,102,101,114,32,102,49,51,59,32,120,102,101,114,32,102,49,52,59,32,114,97,99,107,32,49,59,32,120,102,101,114,32,98,49,51,59,32,120,102,101,114,32,98,49,52,59,32,114,97,99,107,32,48]
def RN:List UInt8:=[120,102,101,114,32,102,49,51,59,32,114,97,99,107,32,49,59,32,120,102,101,114,32,98,49,51,59,32,114,97,99,107,32,48]
def RO:List UInt8:=[120,102,101,114,32,102,49,52,59,32,114,97,99,107,32,50,59,32,120,102,101,114,32,98,49,52,59,32,120,102,101,114,32,102,49,51,59,32,114,97,99,107,32,49,59,32,120,102,101,114,32,98,49,49,59,32,114,97,99,107,32,48]
def ag3:List UInt8:=[120,102,101,114,32,98,49,52,59,32,120,102,101,114,32,98,49,53]
def ag4(N:Nat) :Nat->Int->Option ((Unit)⊕(Bool)):=cx fun d1 dG=>
  cond (decide (d1 < ([[(13:Int)],[(13:Int)],[(13:Int),(14:Int)],[(13:Int),(14:Int)],[(13:Int),(14:Int)],[(13:Int),(14:Int)]].length:Int))) (aw ((bl d1 [[(13:Int)],[(13:Int)],[(13:Int),(14:Int)],[(13:Int),(14:Int)],[(13:Int),(14:Int)],[(13:Int),(14:Int)]].length)&&((bl d1 [[(15:Int)],[(20:Int)],[(13:Int),(16:Int)],[(14:Int),(15:Int)],[(14:Int),(14:Int)],[(12:Int),(16:Int)]].length)&&(true))) <|
  Option.bind (Ap N ([[(13:Int)],[(13:Int)],[(13:Int),(14:Int)],[(13:Int),(14:Int)],[(13:Int),(14:Int)],[(13:Int),(14:Int)]].getD d1.toNat []) ([[(15:Int)],[(20:Int)],[(13:Int),(16:Int)],[(14:Int),(15:Int)],[(14:Int),(14:Int)],[(12:Int),(16:Int)]].getD d1.toNat [])) fun a1=>
  aw ((ez (!(!(decide (a1.2.2=(0:Int))))) (bl d1 [RJ,RK,RL,RM,RN,RO].length))&&(true)) <|
  Option.bind (cond (!(!(decide (a1.2.2=(0:Int))))) (Kr N a1.1) (some [])) fun bD=>
  cond (cond (!(decide (a1.2.2=(0:Int)))) true (!(bD == ([RJ,RK,RL,RM,RN,RO].getD d1.toNat [])))) (some (.inr false)) (aw ((bp (d1+(1:Int)))&&(true)) <|
  dG (d1+(1:Int)))) (some (.inl ()))
def Aw(N:Nat) :Option (Bool):=
  Option.bind (ag4 N N (0:Int)) fun(aX:(Unit)⊕(Bool))=>
  sm aX (fun aX=>
  Option.bind (Am N [((0:Int),(13:Int)),((1:Int),(14:Int)),((1:Int),(15:Int))]) fun cq=>
  Option.bind (cond (decide (cq.2.2=(0:Int))) (Kr N cq.1) (some [])) fun bX=>
  some (cond (decide (cq.2.2=(0:Int))) (bX == ag3) false)) (fun q=>some q)
noncomputable def ag5 (N:Nat):bI bU:=cj N b2 (by kernel_rfl) [] [] ⟨.a (.c .bool),[],[]⟩ [agH N,ag2 N,Rt N] [] (.s .d (.s (.r [.n 6,.w (.di 9),.w (.di 10),.w (.di 11),.w (.di 12),.w (.di 13),.w (.di 14),.n 2,.w (.di 15)]) (.s (.r [.n 6,.w (.di 16),.w (.di 17),.w (.di 18),.w (.di 19),.w (.di 20),.w (.di 21),.n 2,.w (.di 22)]) (.s (.r [.n 2,.w (.di 23)]) (.s (.s .d (.b (.fw 0 ⟨[(4,.a (.c (.int .i64)))],[],[1,2,3],[]⟩ ⟨[],[],[],[]⟩ (.s .d (.s (.b (.s (.o [] [.t 0 0,.t 1 0,.t 2 0,.t 3 1,.t 4 0,.t 5 0,.t 6 0,.t 7 1,.c 8 [],.m 9,.t 10 0,.t 11 0,.t 12 0,.t 13 0] []) (.s (.o [] [.t 0 0,.t 1 0,.t 2 0,.t 3 0,.t 5 0,.t 6 0,.t 7 0,.t 8 1,.g 4,.t 9 0,.t 10 0] []) .d))) .d))))) (.s (.r [.n 4,.w (.di 57)]) .d)))))) [.tmp 0] 13 false (fun d=>Aw N ) Tryz.func13 rfl rfl Tryz.ntmps13 rfl rfl rfl (fun d=>by kernel_rfl)
def D2(N:Nat) (a0:(List Int)) (ay:(List Int)) (dx:Int):Nat->(Int×(List cS))->Option ((List cS)):=cx fun d2 fz=>
  aw ((bl dx ay.length)&&(true)) <|
  cond (decide (d2.1 < (ay.getD dx.toNat 0))) (aw ((en 40 (d2.2.length+[((6:Int),((0:Int),(((0:Int),(a0.getD dx.toNat 0)),((1:Int),(0:Int))))),((5:Int),((1:Int),(((0:Int),(a0.getD dx.toNat 0)),((1:Int),(0:Int)))))].length))&&(true)) <|
  aw ((bp (d2.1+(1:Int)))&&(true)) <|
  fz ((d2.1+(1:Int)),(d2.2++[((6:Int),((0:Int),(((0:Int),(a0.getD dx.toNat 0)),((1:Int),(0:Int))))),((5:Int),((1:Int),(((0:Int),(a0.getD dx.toNat 0)),((1:Int),(0:Int)))))]))) (some d2.2)
def Ks(N:Nat) (a0:(List Int)) (ay:(List Int)):Nat->(Int×Int×(List cS))->Option (Int×(List cS)):=cx fun d1 dG=>
  cond (decide (d1.1 < (a0.length:Int))) (aw ((bl d1.1 a0.length)&&(true)) <|
  aw ((en 40 (d1.2.2.length+[((4:Int),((1:Int),(((0:Int),(a0.getD d1.1.toNat 0)),((1:Int),(0:Int)))))].length))&&(true)) <|
  Option.bind (D2 N a0 ay d1.1 N ((1:Int),(d1.2.2++[((4:Int),((1:Int),(((0:Int),(a0.getD d1.1.toNat 0)),((1:Int),(0:Int)))))]))) fun ch=>
  aw ((bp (d1.1+(1:Int)))&&(true)) <|
  dG ((d1.1+(1:Int)),d1.2.1,ch)) (some (d1.2.1,d1.2.2))
def xi(N:Nat) (a0:(List Int)) (ay:(List Int)):Option (ko):=
  Option.bind (Ks N a0 ay N ((0:Int),(0:Int),[((1:Int),((0:Int),(((0:Int),(0:Int)),((1:Int),(0:Int)))))])) fun aX=>
  Option.bind (w6 N) fun bD=>
  aw ((en 40 (aX.2.length+[((2:Int),((0:Int),(((0:Int),(0:Int)),((1:Int),(0:Int)))))].length))&&(true)) <|
  Option.bind (rq N bD (aX.2++[((2:Int),((0:Int),(((0:Int),(0:Int)),((1:Int),(0:Int)))))])) fun cq=>
  some cq.1
noncomputable def ag6 (N:Nat):bI bU:=cj N b2 (by kernel_rfl) [.c (.bn (.int .i64)),.c (.bn (.int .i64))] [] ⟨.a (.c9 kM),[],[]⟩ [aen N,QT N] [] (.s .d (.s .d (.s (.s .d (.b (.eY 0 ⟨[(4,.a (.c (.raw (.ptr 4 0)))),(5,.a (.c (.raw (.an 13)))),(6,.a (.c (.int .i64)))],[(4,.cells 38 [.int .i64,.raw (.val (.slice none 0 0)),.raw (.val (.slice none 0 0)),.raw (.val (.slice none 0 0)),.raw (.val (.slice none 0 0)),.raw (.val (.slice none 0 0)),.raw (.val (.slice none 0 0)),.raw (.val (.slice none 0 0))]),(13,.row 57 dW)],[0,1],[]⟩ ⟨[(4,.a (.c (.raw (.ptr 4 0)))),(5,.a (.c (.raw (.an 13))))],[(4,.cells 38 [.int .i64,.raw (.val (.slice none 0 0)),.raw (.val (.slice none 0 0)),.raw (.val (.slice none 0 0)),.raw (.val (.slice none 0 0)),.raw (.val (.slice none 0 0)),.raw (.val (.slice none 0 0)),.raw (.val (.slice none 0 0))]),(13,.row 57 dW)],[],[]⟩ (.s .d (.s (.b (.s (.r [.n 7,.w (.ca 7 aK)]) (.s .d (.s .d (.b (.eY 2 ⟨[(4,.a (.c (.raw (.ptr 4 0)))),(5,.a (.c (.raw (.an 13)))),(8,.a (.c (.int .i64)))],[(13,.row 57 dW)],[0,1,6,7],[4]⟩ ⟨[(4,.a (.c (.raw (.ptr 4 0)))),(5,.a (.c (.raw (.an 13))))],[(13,.row 57 dW)],[0,1,6],[4]⟩ .d)))))) .d))))) (.s (.r [.n 5,.w (.di 13),.n 9,.w (.ca 9 kM)]) .d)))) [.cell 4 38] 8 kM.zero (fun d=>xi N d.1 d.2.1) Tryz.func8 rfl rfl Tryz.ntmps8 rfl rfl rfl (fun d=>by kernel_rfl)
def Kt(N:Nat) (a0:(List (List al))) (ay:(List (List al))):Nat->Int->Option ((Unit)⊕(Bool)):=cx fun d1 dG=>
  cond (decide (d1 < (a0.length:Int))) (aw ((bl d1 a0.length)&&(true)) <|
  aw ((bl d1 ay.length)&&(true)) <|
  Option.bind (p5 N (a0.getD d1.toNat []) (ay.getD d1.toNat [])) fun a1=>
  cond (!a1) (some (.inr false)) (aw ((bp (d1+(1:Int)))&&(true)) <|
  dG (d1+(1:Int)))) (some (.inl ()))
def D3(N:Nat) (a0:(List (List al))) (ay:(List (List al))):Option (Bool):=
  cond (!(decide ((a0.length:Int)=(ay.length:Int)))) (some false) (Option.bind (Kt N a0 ay N (0:Int)) fun(aX:(Unit)⊕(Bool))=>
  sm aX (fun aX=>
  some true) (fun q=>some q))
noncomputable def ag7 (N:Nat):bI bU:=cj N b2 (by kernel_rfl) [.c (.bn (.an aK)),.c (.bn (.an aK)),.c (.fn 48 [])] [] ⟨.a (.c .bool),[],[]⟩ [CW N] [] (.s .d (.s .d (.s (.s .d (.b (.fw 0 ⟨[(17,.a (.c (.int .i64)))],[],[1,2,15,16],[]⟩ ⟨[],[],[],[]⟩ .d))) .d))) [.tmp 6] 46 false (fun d=>D3 N d.1 d.2.1) Tryz.func46 rfl rfl Tryz.ntmps46 rfl rfl rfl (fun d=>by kernel_rfl)
def Ax(N:Nat) (a0:(List (List al))) (ay:(List (List al))):Option (Bool):=
  Option.bind (sI N a0) fun aH=>
  aw (((decide (0<=aH))&&(decide (aH<=(a0.length:Int))))&&(true)) <|
  Option.bind (sI N ay) fun a1=>
  aw (((decide (0<=a1))&&(decide (a1<=(ay.length:Int))))&&(true)) <|
  Option.bind (D3 N (a0.take aH.toNat) (ay.take a1.toNat)) fun bD=>
  some bD
noncomputable def ag8 (N:Nat):bI bU:=cj N b2 (by kernel_rfl) [.c (.bn (.an aK)),.c (.bn (.an aK))] [] ⟨.a (.c .bool),[],[]⟩ [Qo N,ag7 N] [] (.s .d (.s (.o [] [.t 0 0,.t 1 0,.t 4 0,.t 5 0,.c 2 [],.t 3 0,.c 6 [],.t 7 0,.c 8 [],.t 9 0] []) .d)) [.tmp 4] 45 false (fun d=>Ax N d.1 d.2.1) Tryz.func45 rfl rfl Tryz.ntmps45 rfl rfl rfl (fun d=>by kernel_rfl)
def D4(N:Nat) (a0:il) (ay:il):Option (Bool):=
  Option.bind (Ax N a0.1 ay.1) fun aH=>
  Option.bind (cond aH (Ax N a0.2 ay.2) (some false)) fun a1=>
  some (cond aH a1 false)
noncomputable def ag9 (N:Nat):bI bU:=cj N b2 (by kernel_rfl) [.c9 fy,.c9 fy] [] ⟨.a (.c .bool),[],[]⟩ [ag8 N] [] (.s (.r [.n 3,.w (.ca 2 fy),.w (.ca 3 fy)]) .d) [.tmp 4] 15 false (fun d=>D4 N d.1 d.2.1) Tryz.func15 rfl rfl Tryz.ntmps15 rfl rfl rfl (fun d=>by kernel_rfl)
def Ku(N:Nat) (ay:Int) (aH:(List Int)×(List Int)×(List Int)):Nat->(Int×(List cS)×(List al))->Option ((List cS)×(List al)):=cx fun d3 gO=>
  cond (decide (d3.1 < (aH.1.length:Int))) (aw ((bl d3.1 aH.1.length)&&(true)) <|
  aw ((decide (0<=d3.1))&&(true)) <|
  cond (decide ((Int.tmod (Int.fdiv ay (2 ^ (min d3.1.toNat (IntKind.bits .u8)))) (2:Int))=(1:Int))) (aw ((en 40 (d3.2.1.length+[((7:Int),((0:Int),(((0:Int),(aH.1.getD d3.1.toNat 0)),((0:Int),(0:Int)))))].length))&&(true)) <|
  aw ((en 16 (d3.2.2.length+[((1:Int),(aH.1.getD d3.1.toNat 0))].length))&&(true)) <|
  aw ((bp (d3.1+(1:Int)))&&(true)) <|
  gO ((d3.1+(1:Int)),(d3.2.1++[((7:Int),((0:Int),(((0:Int),(aH.1.getD d3.1.toNat 0)),((0:Int),(0:Int)))))]),(d3.2.2++[((1:Int),(aH.1.getD d3.1.toNat 0))]))) (aw ((en 16 (d3.2.2.length+[((0:Int),(aH.1.getD d3.1.toNat 0))].length))&&(true)) <|
  aw ((bp (d3.1+(1:Int)))&&(true)) <|
  gO ((d3.1+(1:Int)),d3.2.1,(d3.2.2++[((0:Int),(aH.1.getD d3.1.toNat 0))])))) (some (d3.2.1,d3.2.2))
def Ay(N:Nat) (a0:(List Ic)) (ay:Int):Option (Bool):=
  Option.bind (D1 N a0 false) fun aH=>
  Option.bind (xi N aH.1 aH.2.1) fun a1=>
  Option.bind (Ku N ay aH N ((0:Int),([]:List cS),([]:List al))) fun cg=>
  Option.bind (rq N a1 cg.1) fun cq=>
  Option.bind (Am N cg.2) fun bX=>
  Option.bind (rq N cq.1 bX.1) fun cy=>
  Option.bind (cond (cond (cond (cond (cond (decide (cq.2.2=(0:Int))) (decide (bX.2.2=(0:Int))) false) (decide (cy.2.2=(0:Int))) false) (decide ((bX.1.length:Int)=(cg.1.length:Int))) false) (decide ((bX.2.1:Int)=(bX.1.length:Int))) false) (D4 N cy.1.2.1 a1.2.1) (some false)) fun nh=>
  Option.bind (cond (cond (cond (cond (cond (cond (decide (cq.2.2=(0:Int))) (decide (bX.2.2=(0:Int))) false) (decide (cy.2.2=(0:Int))) false) (decide ((bX.1.length:Int)=(cg.1.length:Int))) false) (decide ((bX.2.1:Int)=(bX.1.length:Int))) false) nh false) (DZ N cy.1.2.2.2 a1.2.2.2) (some false)) fun jk=>
  Option.bind (cond (cond (cond (cond (cond (cond (cond (decide (cq.2.2=(0:Int))) (decide (bX.2.2=(0:Int))) false) (decide (cy.2.2=(0:Int))) false) (decide ((bX.1.length:Int)=(cg.1.length:Int))) false) (decide ((bX.2.1:Int)=(bX.1.length:Int))) false) nh false) jk false) (Aw N) (some false)) fun oD=>
  some (cond (cond (cond (cond (cond (cond (cond (decide (cq.2.2=(0:Int))) (decide (bX.2.2=(0:Int))) false) (decide (cy.2.2=(0:Int))) false) (decide ((bX.1.length:Int)=(cg.1.length:Int))) false) (decide ((bX.2.1:Int)=(bX.1.length:Int))) false) nh false) jk false) oD false)
noncomputable def aha (N:Nat):bI bU:=cj N b2 (by kernel_rfl) [.c (.bn jj),.c (.int .u8)] [] ⟨.a (.c .bool),[],[]⟩ [agZ N,ag6 N,QT N,Rt N,ag9 N,agL N,ag5 N] [] (.s .d (.s .d (.s (.r [.n 5,.w (.ca 8 kM)]) (.s (.r [.n 1,.w (.nil 9 9 57 dW)]) (.s (.r [.n 1,.w (.nil 10 10 50 aK)]) (.s (.s .d (.b (.eY 0 ⟨[(9,.a (.c (.raw (.an 9)))),(10,.a (.c (.raw (.an 10)))),(11,.a (.c (.int .i64)))],[(9,.row 57 dW),(10,.row 50 aK)],[1,5,8],[]⟩ ⟨[(9,.a (.c (.raw (.an 9)))),(10,.a (.c (.raw (.an 10))))],[(9,.row 57 dW),(10,.row 50 aK)],[8],[]⟩ .d))) (.s (.r [.n 2,.w (.di 9),.n 9,.w (.ca 13 kM)]) (.s (.r [.n 1,.w (.di 10)]) (.s (.r [.n 11,.w (.ca 18 kM)]) .d))))))))) [.tmp 4] 4 false (fun d=>Ay N d.1 d.2.1) Tryz.func4 rfl rfl Tryz.ntmps4 rfl rfl rfl (fun d=>by kernel_rfl)
end
section
open Go.RowKit
def ku(z:Int) (i:Nat):Bool:=decide (Int.tmod (Int.fdiv z (2 ^ (min i (IntKind.bits .u8)))) (2:Int)=(1:Int))
def gP(z:Int):Nat->List Nat->List Nat
 | _,[]=>[]
 | i,a :: r=>cond (ku z i) (a :: gP z (i+1) r) (gP z (i+1) r)
def jm(z:Int):Nat->List Nat->List al
 | _,[]=>[]
 | i,a :: r=>(cond (ku z i) 1 0,(a:Int)) :: jm z (i+1) r
theorem Kv(z:Int) (a:Nat):∀ (A:List Nat) (i:Nat),gP z i (A++[a])=gP z i A++cond (ku z (i+A.length)) [a] []
 | [],i=>by
  show cond (ku z i) [a] []=[]++_;rw[List.nil_append]
  rfl
 | b :: A,i=>by
  show cond (ku z i) (b :: gP z (i+1) (A++[a])) (gP z (i+1) (A++[a]))=cond (ku z i) (b :: gP z (i+1) A) (gP z (i+1) A)++_;rw[Kv z a A (i+1),List.length_cons,show i+1+A.length=i+(A.length+1) by omega];cases ku z i<;>rfl
theorem RP(z:Int) (a:Nat):∀ (A:List Nat) (i:Nat),jm z i (A++[a])=jm z i A++[(cond (ku z (i+A.length)) 1 0,(a:Int))]
 | [],i=>rfl
 | b :: A,i=>by
  show _ :: jm z (i+1) (A++[a])=_ :: (jm z (i+1) A++_);rw[RP z a A (i+1),List.length_cons,show i+1+A.length=i+(A.length+1) by omega]
theorem Kw(z:Int):∀ (A:List Nat) (i:Nat),(jm z i A).length=A.length
 | [],_=>rfl
 | _ :: A,i=>congrArg (·+1) (Kw z A (i+1))
theorem D5(z:Int):∀ (A:List Nat) (i:Nat),(gP z i A).length<=A.length
 | [],_=>Nat.le_refl _
 | a :: A,i=>by
  show(cond (ku z i) (a :: gP z (i+1) A) (gP z (i+1) A)).length<=A.length+1
  have:=D5 z A (i+1)
  cases ku z i
  ·exact Nat.le_succ_of_le this
  ·exact Nat.succ_le_succ this
theorem ahb{N:Nat} (bd:5000 < N) (z:Int) {A:List Nat} (ag:A.length<=40) (bw rv:List Int):Ku N z (iX A,bw,rv) N ((0:Int),[],[])=some ((gP z 0 A).map (jl 0),jm z 0 A):=by
 unfold Ku;refine e8 (fun k d=>∃ j:Nat,j+k=A.length/\d=((j:Int),(gP z 0 (A.take j)).map (jl 0),jm z 0 (A.take j))) _ ?_ N A.length _ (by omega) ⟨0,by omega,rfl⟩;rintro k d rec ⟨j,aR,rfl⟩ bY
 apply T.eq
 by_cases a8:j < A.length
 ·obtain⟨a,bo⟩:∃ a,A[j]?=some a:=⟨_,List.getElem?_eq_getElem a8⟩
  have bg:(j:Int) < (A.length:Int):=by omega
  have rh:(A.take j).length=j:=by rw[List.length_take]; omega
  have ae:=Kv z a (A.take j) 0;have iq:=RP z a (A.take j) 0;rw[<- p8 bo,rh,Nat.zero_add]at ae iq;have RQ:=D5 z (A.take j) 0;have ie:=Kw z (A.take j) 0;have az:=bY (k - 1) _ (by omega) ⟨j+1,by omega,rfl⟩;rw[ae,iq]at az
  by_cases D6:Int.tmod (Int.fdiv z (2 ^ (min j (IntKind.bits .u8)))) (2:Int)=(1:Int)
  ·have bT:ku z j=true:=decide_eq_true D6
   rw[bT,cond_true,cond_true,List.map_append]at az;have this:T (rec ((j:Int)+1,(gP z 0 (A.take j)).map (jl 0)++[(7,(0,((0,(a:Int)),(0,0))))],jm z 0 (A.take j)++[(1,(a:Int))])) (·=((gP z 0 A).map (jl 0),jm z 0 A)):=⟨_,az,rfl⟩
   simp only[bc,Int.reduceEq,Int.reduceLT,Int.reduceLE,reduceCtorEq,u2,bg,b8 (RI bo),D6,List.length_append,List.length_map,List.length_singleton]
   and_intros<;>first | omega | (simp only[bN]; omega) | exact this | trivial
  ·have bT:ku z j=false:=decide_eq_false D6
   rw[bT,cond_false,cond_false,List.append_nil]at az;have this:T (rec ((j:Int)+1,(gP z 0 (A.take j)).map (jl 0),jm z 0 (A.take j)++[(0,(a:Int))])) (·=((gP z 0 A).map (jl 0),jm z 0 A)):=⟨_,az,rfl⟩
   simp only[bc,Int.reduceEq,Int.reduceLT,Int.reduceLE,reduceCtorEq,u2,bg,b8 (RI bo),D6,List.length_append,List.length_singleton]
   and_intros<;>first | omega | (simp only[bN]; omega) | exact this | trivial
 ·have bg:¬ (j:Int) < (A.length:Int):=by omega
  simp only[bc,Int.reduceEq,Int.reduceLT,Int.reduceLE,reduceCtorEq,u2,bg];rw[List.take_of_length_le (by omega)]
theorem RR(z:Int):∀ (A:List Nat) (i j:Nat) {a:Nat},A[j]?=some a->(jm z i A)[j]?=some (cond (ku z (i+j)) 1 0,(a:Int))
 | b :: A,i,0,a,h=>by
  cases h
  rfl
 | b :: A,i,j+1,a,h=>by
  show(jm z (i+1) A)[j]?=_;rw[RR z A (i+1) j h,show i+1+j=i+(j+1) by omega]
theorem ahc{N:Nat} (bd:5000 < N) (z:Int) {A:List Nat} (h:nn A 40) (ag:A.length<=40):Am N (jm z 0 A)=some ((gP z 0 A).map (jl 1),(gP z 0 A).length,0):=by
 have ie:=Kw z A 0;have iq:∀ {j a:Nat},A[j]?=some a->(jm z 0 A)[j]?=some (cond (ku z j) 1 0,(a:Int)):=fun aR=>by
  have:=RR z A 0 _ aR
  rw[Nat.zero_add]at this;exact this
 have J:Kb N (jm z 0 A) N (0:Int)=some (.inl ()):=by
  unfold Kb;refine e8 (fun k d=>∃ j:Nat,j+k=A.length/\d=(j:Int)) _ ?_ N A.length _ (by omega) ⟨0,by omega,rfl⟩;rintro k d rec ⟨j,aR,rfl⟩ bY
  apply T.eq
  by_cases a8:j < A.length
  ·obtain⟨a,bo⟩:∃ a,A[j]?=some a:=⟨_,List.getElem?_eq_getElem a8⟩
   have az:=h.oI a (List.mem_of_getElem? bo);have bg:(j:Int) < ((jm z 0 A).length:Int):=by omega
   have ae:¬ (1:Int) < cond (ku z j) 1 0:=by cases ku z j<;>decide
   have this:T (rec ((j:Int)+1)) (·=.inl ()):=⟨_,bY (k - 1) _ (by omega) ⟨j+1,by omega,rfl⟩,rfl⟩
   by_cases aN:j=0
   ·subst aN
    simp only[bc,Int.reduceEq,Int.reduceLT,Int.reduceLE,reduceCtorEq,bg,b8 (iq bo),ae,show ¬ ((a:Int) < 1) by omega,show ¬ (40 < (a:Int)) by omega,show ¬ ((0:Int) < ((0:Nat):Int)) by omega]
    and_intros<;>first | omega | (simp only[bN]; omega) | exact this | trivial
   ·obtain⟨q,ao⟩:∃ q,A[j - 1]?=some q:=⟨_,List.getElem?_eq_getElem (by omega)⟩
    have ajj:q < a:=by
     have:=List.pairwise_iff_getElem.1 h.nm (j - 1) j (by omega) a8 (by omega)
     rw[<- (List.getElem?_eq_some_iff.1 bo).2,<- (List.getElem?_eq_some_iff.1 ao).2];exact this
    have ln:(0:Int) < (j:Int):=by omega
    simp only[bc,Int.reduceEq,Int.reduceLT,Int.reduceLE,reduceCtorEq,bg,b8 (iq bo),ae,show((j:Int) - 1).toNat=j - 1 by omega,b8 (iq ao),show ¬ ((a:Int) < 1) by omega,show ¬ (40 < (a:Int)) by omega,ln,show ¬ ((a:Int)<=(q:Int)) by omega]
    and_intros<;>first | omega | (simp only[bN]; omega) | exact this | trivial
  ·have bg:¬ (j:Int) < ((jm z 0 A).length:Int):=by omega
   simp only[bc,Int.reduceEq,Int.reduceLT,Int.reduceLE,reduceCtorEq,bg]
 have au:Kc N (jm z 0 A) N ((0:Int),(0:Int),[])=some ((0:Int),(gP z 0 A).map (jl 1)):=by
  unfold Kc;refine e8 (fun k d=>∃ j:Nat,j+k=A.length/\d=((j:Int),(0:Int),(gP z 0 (A.take j)).map (jl 1))) _ ?_ N A.length _ (by omega) ⟨0,by omega,rfl⟩;rintro k d rec ⟨j,aR,rfl⟩ bY
  apply T.eq
  by_cases a8:j < A.length
  ·obtain⟨a,bo⟩:∃ a,A[j]?=some a:=⟨_,List.getElem?_eq_getElem a8⟩
   have bg:(j:Int) < ((jm z 0 A).length:Int):=by omega
   have rh:(A.take j).length=j:=by rw[List.length_take]; omega
   have ae:=Kv z a (A.take j) 0;rw[<- p8 bo,rh,Nat.zero_add]at ae;have RQ:=D5 z (A.take j) 0;have az:=bY (k - 1) _ (by omega) ⟨j+1,by omega,rfl⟩;rw[ae]at az;have u3:=iq bo;cases bT:ku z j with
   | true=>
    rw[bT,cond_true,List.map_append]at az;rw[bT,cond_true]at u3;have kh:xg N [(7,(0,((1,(a:Int)),(0,0))))] 0 ((gP z 0 (A.take j)).map (jl 1))=some (0,(gP z 0 (A.take j)).map (jl 1)++[(7,(0,((1,(a:Int)),(0,0))))]):=by
     unfold xg
     apply T.eq
     simp only[bc,Int.reduceEq,Int.reduceLT,Int.reduceLE,reduceCtorEq,List.length_map,List.length_singleton]
     and_intros<;>first | omega | (simp only[bN]; omega) | exact this | trivial
    have this:T (rec ((j:Int)+1,(0:Int),(gP z 0 (A.take j)).map (jl 1)++[(7,(0,((1,(a:Int)),(0,0))))])) (·=((0:Int),(gP z 0 A).map (jl 1))):=⟨_,az,rfl⟩
    simp only[bc,Int.reduceEq,Int.reduceLT,Int.reduceLE,reduceCtorEq,bg,b8 u3,bt kh]
    and_intros<;>first | omega | (simp only[bN]; omega) | exact this | trivial
   | false=>
    rw[bT,cond_false,List.append_nil]at az;rw[bT,cond_false]at u3;have this:T (rec ((j:Int)+1,(0:Int),(gP z 0 (A.take j)).map (jl 1))) (·=((0:Int),(gP z 0 A).map (jl 1))):=⟨_,az,rfl⟩
    simp only[bc,Int.reduceEq,Int.reduceLT,Int.reduceLE,reduceCtorEq,bg,b8 u3]
    and_intros<;>first | omega | (simp only[bN]; omega) | exact this | trivial
  ·have bg:¬ (j:Int) < ((jm z 0 A).length:Int):=by omega
   simp only[bc,Int.reduceEq,Int.reduceLT,Int.reduceLE,reduceCtorEq,bg];rw[List.take_of_length_le (by omega)]
 have lH:wW N ((gP z 0 A).map (jl 1))=some ((gP z 0 A).map (jl 1),(gP z 0 A).length):=by
  have RQ:=D5 z A 0;unfold wW
  apply T.eq
  simp only[bc,Int.reduceEq,Int.reduceLT,Int.reduceLE,reduceCtorEq,List.length_map];refine⟨by and_intros<;>first | omega | (simp only[bN]; omega) | exact this | trivial,?_⟩;rw[List.take_of_length_le (by rw[List.length_map]; exact Nat.le_refl _)]
 unfold Am
 apply T.eq
 simp only[bc,Int.reduceEq,Int.reduceLT,Int.reduceLE,reduceCtorEq,bt J,bt au,bt lH]
theorem Kx(z:Int):∀ (A:List Nat) (i:Nat),(gP z i A).Sublist A
 | [],_=>List.Sublist.refl _
 | a :: A,i=>by
  show(cond (ku z i) (a :: gP z (i+1) A) (gP z (i+1) A)).Sublist (a :: A);cases ku z i
  ·exact(Kx z A (i+1)).cons a
  ·exact(Kx z A (i+1)).cons_cons a
end
section
open Go.RowKit
theorem D7{N:Nat} {l:List al} (bd:l.length < N) (h:l.length<=100000):p5 N l l=some true:=by
 have dY:zK N l l N (0:Int)=some (.inl ()):=by
  unfold zK;refine e8 (fun k d=>∃ i:Nat,i+k=l.length/\d=(i:Int)) _ ?_ N l.length _ (by omega) ⟨0,by omega,rfl⟩;rintro k d rec ⟨i,hi,rfl⟩ bY
  apply T.eq
  by_cases a8:i < l.length
  ·obtain⟨x,aj⟩:∃ x,l[i]?=some x:=⟨_,List.getElem?_eq_getElem a8⟩
   have bg:(i:Int) < (l.length:Int):=by omega
   have ae:aQ.beq aK x x=true:=(beq_iff (g:=aK) _ _ rfl).2 rfl;have this:T (rec ((i:Int)+1)) (·=.inl ()):=⟨_,bY (k - 1) _ (by omega) ⟨i+1,by omega,rfl⟩,rfl⟩
   simp only[bc,Int.reduceEq,Int.reduceLT,Int.reduceLE,reduceCtorEq,bg,b8 aj,ae]
   and_intros<;>first | omega | (simp only[bN]; omega) | exact this | trivial
  ·have bg:¬ (i:Int) < (l.length:Int):=by omega
   simp only[bc,Int.reduceEq,Int.reduceLT,Int.reduceLE,reduceCtorEq,bg]
 unfold p5
 apply T.eq
 simp only[bc,Int.reduceEq,Int.reduceLT,Int.reduceLE,reduceCtorEq,bt dY]
end
section
open Go.RowKit
def Ky(N:Nat) (A:List Nat) (s:ko):Prop:=∃ f ys t H,s=((0:Int),((f,[]),(ys,(t,([],(H,[]))))))/\uX N f [] ys t H/\(∀ Y∈ys,Y.1=false)/\∀ a∈A,f.getD (a - 1) []≠[]
theorem ahd{N:Nat} (bd:5000 < N) {A B:List Nat} (bT:B.Sublist A) (ag:nn A 40) (nX:A.length<=8) {s:ko} (h:Ky N A s) :
  T (rq N s (B.map (jl 0))) fun q=>q.2.2=0/\T (rq N q.1 (B.map (jl 1))) fun p=>p.2.2=0/\p.1=s:=by
 obtain⟨f,ys,t,H,rfl,bJ,nS,cu⟩:=h;have Kz:∀ a∈B,a∈A:=fun a bo=>bT.subset bo
 have RS:B.Nodup:=(ag.nm.sublist bT).imp fun h=>Nat.ne_of_lt h
 have ajk:=bT.length_le;have KA:∀ a∈B,1<=a/\a<=40:=fun a bo=>ag.oI a (Kz a bo)
 have RT:∀ k,([]:List (List al)).getD k []=[]:=fun k=>by simp
 refine(Rp bd bJ nS (b:=0) (Or.inl rfl) RS (by omega) KA (fun a bo=>cu a (Kz a bo)) (fun a _=>RT _)).mono ?_;rintro q ⟨f1,g1,H1,rfl,jx,QG⟩;refine⟨rfl,?_⟩;have ab:∀ a∈B,a - 1+1∈B:=fun a bo=>by rw[Nat.sub_add_cancel (KA a bo).1]; exact bo
 have og:=jx.Ak;have cR:=jx.gk;refine(Rp bd QG nS (b:=1) (Or.inr rfl) RS (by omega) KA (fun a bo=>?_) (fun a bo=>?_)).mono ?_
 ·show g1.getD (a - 1) []≠[]
  rw[cR,if_pos (ab a bo)];exact cu a (Kz a bo)
 ·show f1.getD (a - 1) []=[]
  rw[og,if_pos (ab a bo)]
  rfl
 rintro p ⟨f2,g2,H2,rfl,fY,xa⟩;have aC:f2=f:=Dq xa.hQ.cX bJ.hQ.cX fun k=>by
  rw[fY.Ak]
  by_cases sR:k+1∈B
  ·rw[if_pos sR,if_pos rfl,cR,if_pos sR]
   rfl
  ·rw[if_neg sR,og,if_neg sR]
 have aW:g2=[]:=Dq xa.hQ.gs bJ.hQ.gs fun k=>by
  rw[fY.gk]
  by_cases sR:k+1∈B
  ·rw[if_pos sR,if_pos rfl,RT]
  ·rw[if_neg sR,cR,if_neg sR]
 subst aC aW;have cB:H2=H:=Option.some.inj (xa.held.symm.trans bJ.held);rw[cB];exact⟨rfl,rfl⟩
end
section
open Go.RowKit
theorem ahe{N:Nat} {l:List c1} (bd:l.length < N) (h:l.length<=100000):CY N l l=some true:=by
 have dY:I8 N l l N (0:Int)=some (.inl ()):=by
  unfold I8;refine e8 (fun k d=>∃ i:Nat,i+k=l.length/\d=(i:Int)) _ ?_ N l.length _ (by omega) ⟨0,by omega,rfl⟩;rintro k d rec ⟨i,hi,rfl⟩ bY
  apply T.eq
  by_cases a8:i < l.length
  ·obtain⟨x,aj⟩:∃ x,l[i]?=some x:=⟨_,List.getElem?_eq_getElem a8⟩
   have bg:(i:Int) < (l.length:Int):=by omega
   have ae:aQ.beq eb x x=true:=(beq_iff (g:=eb) _ _ rfl).2 rfl;have this:T (rec ((i:Int)+1)) (·=.inl ()):=⟨_,bY (k - 1) _ (by omega) ⟨i+1,by omega,rfl⟩,rfl⟩
   simp only[bc,Int.reduceEq,Int.reduceLT,Int.reduceLE,reduceCtorEq,bg,b8 aj,ae]
   and_intros<;>first | omega | (simp only[bN]; omega) | exact this | trivial
  ·have bg:¬ (i:Int) < (l.length:Int):=by omega
   simp only[bc,Int.reduceEq,Int.reduceLT,Int.reduceLE,reduceCtorEq,bg]
 unfold CY
 apply T.eq
 simp only[bc,Int.reduceEq,Int.reduceLT,Int.reduceLE,reduceCtorEq,bt dY]
theorem ahf{N:Nat} (bd:5000 < N) {l:bB} (J:l.2.2.1.length<=4096) (U:l.2.2.2.length<=4096):CZ N l l=some true:=by
 have he:=D7 (N:=N) (l:=l.2.2.1) (by omega) (by omega);have aq:=ahe (N:=N) (l:=l.2.2.2) (by omega) (by omega);have ae:(l.2.1 == l.2.1)=true:=by simp
 unfold CZ
 apply T.eq
 simp only[bc,Int.reduceEq,Int.reduceLT,Int.reduceLE,reduceCtorEq,ae,bt he,bt aq]
theorem ahg{N:Nat} (bd:5000 < N) {l:List (List al)} (h:fD l):D3 N l l=some true:=by
 have ad:=h.len;have dY:Kt N l l N (0:Int)=some (.inl ()):=by
  unfold Kt;refine e8 (fun k d=>∃ i:Nat,i+k=l.length/\d=(i:Int)) _ ?_ N l.length _ (by omega) ⟨0,by omega,rfl⟩;rintro k d rec ⟨i,hi,rfl⟩ bY
  apply T.eq
  by_cases a8:i < l.length
  ·obtain⟨x,aj⟩:∃ x,l[i]?=some x:=⟨_,List.getElem?_eq_getElem a8⟩
   have bg:(i:Int) < (l.length:Int):=by omega
   have Qq:=h.e9 x (List.mem_of_getElem? aj);have this:T (rec ((i:Int)+1)) (·=.inl ()):=⟨_,bY (k - 1) _ (by omega) ⟨i+1,by omega,rfl⟩,rfl⟩
   simp only[bc,Int.reduceEq,Int.reduceLT,Int.reduceLE,reduceCtorEq,bg,b8 aj,bt (D7 (N:=N) (l:=x) (by omega) (by omega))]
   and_intros<;>first | omega | (simp only[bN]; omega) | exact this | trivial
  ·have bg:¬ (i:Int) < (l.length:Int):=by omega
   simp only[bc,Int.reduceEq,Int.reduceLT,Int.reduceLE,reduceCtorEq,bg]
 unfold D3
 apply T.eq
 simp only[bc,Int.reduceEq,Int.reduceLT,Int.reduceLE,reduceCtorEq,bt dY]
theorem ahh{N:Nat} (bd:5000 < N) {f g:List (List al)} (h:lv f g):D4 N (f,g) (f,g)=some true:=by
 have key:∀ l:List (List al),fD l->lW l->Ax N l l=some true:=by
  intro l aB ak;have ad:=aB.len;unfold Ax
  apply T.eq
  simp only[bc,Int.reduceEq,Int.reduceLT,Int.reduceLE,reduceCtorEq,bt (Jt (N:=N) (by omega) ak ad),List.take_length,bt (ahg bd aB)]
  and_intros<;>first | omega | (simp only[bN]; omega) | exact this | trivial
 unfold D4
 apply T.eq
 simp only[bc,Int.reduceEq,Int.reduceLT,Int.reduceLE,reduceCtorEq,bt (key f h.gL h.cX),bt (key g h.aZ h.gs)]
end
section
open Go.RowKit
theorem ahi{N:Nat} (bd:5000 < N) {Y:cb} (h:nR Y) (hl:Y.1=true):xb N Y=some ((false,(0,(Y.2.2.1,(false,[])))),0):=by
 have aA:=h.e9;unfold xb
 apply T.eq
 simp only[bc,Int.reduceEq,Int.reduceLT,Int.reduceLE,reduceCtorEq,bt (zO (N:=N) h (by omega)),hl]
theorem ahj(N:Nat) {y:Int} (aT:1<=y/\y<=6):lp N (2,(0,((0,0),(y,0))))=some 0:=by
 obtain⟨kQ,uU,hm⟩:∃ kQ,sF N=some kQ/\cJ (.int .u8) c5 kQ 2=some (false,(false,(true,false))):=⟨_,rfl,rfl⟩
 have ae:aQ.beq aK ((0:Int),(0:Int)) ((0:Int),(0:Int))=true:=rfl;have aq:nU N (2,(0,((0,0),(y,0))))=some true:=by
  unfold nU
  apply T.eq
  simp only[bc,Int.reduceEq,Int.reduceLT,Int.reduceLE,reduceCtorEq,bt uU,hm,ae,Option.isSome_some,Option.getD_some,show ¬ y < 1 by omega,show ¬ 6 < y by omega]
 unfold lp
 apply T.eq
 simp only[bc,Int.reduceEq,Int.reduceLT,Int.reduceLE,reduceCtorEq,bt aq]
theorem ahk{N:Nat} {op:cS} (h:lp N op=some 0) (ab:op.1=2) (r:Int) (f g:List (List al)) (eO:List (Bool×List bB)) (fB) (ys:List cb) (fl:List al) {A} (ag:my N=some A) :
  jG N op r f g eO fB ys fl A=Option.bind (rn N op r f g eO fB ys fl) fun a1=>some (a1.1,a1.2.1,a1.2.2.1,a1.2.2.2.1,eO,fB,a1.2.2.2.2,fl):=by
 obtain⟨k,op⟩:=op;dsimp only at ab;subst ab;cases ag;unfold jG;rw[h]
 rfl
theorem ahl{N:Nat} {op:cS} (h:lp N op=some 0) (ab:op.1=5) (r:Int) (f g:List (List al)) (eO:List (Bool×List bB)) (fB) (ys:List cb) (fl:List al) {A} (ag:my N=some A) :
  jG N op r f g eO fB ys fl A=uR N op r f g eO fB ys fl:=by
 obtain⟨k,op⟩:=op;dsimp only at ab;subst ab;cases ag;unfold jG;rw[h];show Option.bind (uR N _ r f g eO fB ys fl) _=_;cases uR N ((5:Int),op) r f g eO fB ys fl<;>rfl
theorem ahm{N:Nat} (bd:5000 < N) {ys:List cb} {y:Nat} (aT:y < 6) {Y:cb} (cr:ys[y]?=some Y) (aB:nR Y) (hl:Y.1=true) (r:Int) (f g:List (List al)) (eO:List (Bool×List bB)) (fB) (fl:List al) :
  rn N (2,(0,((0,0),((y:Int)+1,0)))) r f g eO fB ys fl=some (0,r,f,g,ys.set y (false,(0,(Y.2.2.1,(false,[]))))):=by
 have a8:=(List.getElem?_eq_some_iff.1 cr).1;unfold rn
 apply T.eq
 simp only[uQ aT,bc,Int.reduceEq,Int.reduceLT,Int.reduceLE,reduceCtorEq,b8 cr,bt (ahi bd aB hl)]
 and_intros<;>first | omega | (simp only[bN]; omega) | exact this | trivial
theorem ahn{N:Nat} (bd:5000 < N) {l:List bB} (ad:l.length<=4096) (h:∀ x∈l,x.2.2.1.length<=4096/\x.2.2.2.length<=4096):DW N l l=some true:=by
 have dY:Kl N l l N (0:Int)=some (.inl ()):=by
  unfold Kl;refine e8 (fun k d=>∃ i:Nat,i+k=l.length/\d=(i:Int)) _ ?_ N l.length _ (by omega) ⟨0,by omega,rfl⟩;rintro k d rec ⟨i,hi,rfl⟩ bY
  apply T.eq
  by_cases a8:i < l.length
  ·obtain⟨x,aj⟩:∃ x,l[i]?=some x:=⟨_,List.getElem?_eq_getElem a8⟩
   have bg:(i:Int) < (l.length:Int):=by omega
   have jS:=h x (List.mem_of_getElem? aj);have this:T (rec ((i:Int)+1)) (·=.inl ()):=⟨_,bY (k - 1) _ (by omega) ⟨i+1,by omega,rfl⟩,rfl⟩
   simp only[bc,Int.reduceEq,Int.reduceLT,Int.reduceLE,reduceCtorEq,bg,b8 aj,bt (ahf bd jS.1 jS.2)]
   and_intros<;>first | omega | (simp only[bN]; omega) | exact this | trivial
  ·have bg:¬ (i:Int) < (l.length:Int):=by omega
   simp only[bc,Int.reduceEq,Int.reduceLT,Int.reduceLE,reduceCtorEq,bg]
 unfold DW
 apply T.eq
 simp only[bc,Int.reduceEq,Int.reduceLT,Int.reduceLE,reduceCtorEq,bt dY]
theorem aho{N:Nat} (bd:5000 < N) {t:List (List bB)} (aV:t.length<=300) (h:∀ l∈t,l.length<=4096/\∀ x∈l,x.2.2.1.length<=4096/\x.2.2.2.length<=4096) {ids:List al} (hi:ids.length<=4000):DZ N (t,([],(ids,[]))) (t,([],(ids,[])))=some true:=by
 have dY:Km N t t N (0:Int)=some (.inl ()):=by
  unfold Km;refine e8 (fun k d=>∃ i:Nat,i+k=t.length/\d=(i:Int)) _ ?_ N t.length _ (by omega) ⟨0,by omega,rfl⟩;rintro k d rec ⟨i,hi,rfl⟩ bY
  apply T.eq
  by_cases a8:i < t.length
  ·obtain⟨x,aj⟩:∃ x,t[i]?=some x:=⟨_,List.getElem?_eq_getElem a8⟩
   have bg:(i:Int) < (t.length:Int):=by omega
   have jS:=h x (List.mem_of_getElem? aj);have U:DX N x x=some true:=by
    unfold DX;rw[ahn bd jS.1 jS.2,Option.bind_some]
   have this:T (rec ((i:Int)+1)) (·=.inl ()):=⟨_,bY (k - 1) _ (by omega) ⟨i+1,by omega,rfl⟩,rfl⟩
   simp only[bc,Int.reduceEq,Int.reduceLT,Int.reduceLE,reduceCtorEq,bg,b8 aj,bt U]
   and_intros<;>first | omega | (simp only[bN]; omega) | exact this | trivial
  ·have bg:¬ (i:Int) < (t.length:Int):=by omega
   simp only[bc,Int.reduceEq,Int.reduceLT,Int.reduceLE,reduceCtorEq,bg]
 have J:DY N t t=some true:=by
  unfold DY
  apply T.eq
  simp only[bc,Int.reduceEq,Int.reduceLT,Int.reduceLE,reduceCtorEq,bt dY]
 have U:I9 N ([]:List cH) []=some true:=by
  obtain⟨n,rfl⟩:∃ n,N=n+1:=⟨N - 1,by omega⟩
  rfl
 have ah:=D7 (N:=N) (l:=ids) (by omega) (by omega);have au:=D7 (N:=N) (l:=([]:List al)) (by show 0 < N; omega) (by show 0<=100000; omega);unfold DZ
 apply T.eq
 simp only[bc,Int.reduceEq,Int.reduceLT,Int.reduceLE,reduceCtorEq,bt J,bt U,bt ah,bt au]
end
theorem ahp{N:Nat} (bd:5000 < N) (x:List (Int×Int×Int)) (aj:∀ z∈x,0<=z.1/\0<=z.2.1/\0<=z.2.2):T (D1 N x false) fun r=>∃ A:List Nat,r.1=iX A/\nn A 40/\A.length<=8/\r.2.1.length=A.length/\∀ v∈r.2.1,v=1\/v=2:=by
 have dY:T (Kp N x false N ((0:Int),(0:Int),(0:Int),(0:Int),[],[],[])) fun r=>∃ A:List Nat,r.1=iX A/\nn A 40/\A.length<=8/\r.2.1.length=A.length/\∀ v∈r.2.1,v=1\/v=2:=by
  unfold Kp;refine lR (fun k d=>∃ (i a:Nat) (A:List Nat) (b st:Int) (bw rv:List Int),i+k=8/\d=((a:Int),b,st,(i:Int),iX A,bw,rv)/\nn A a/\A.length=i/\a<=40/\0<=b/\b<=40/\0<=st/\st<=2/\bw.length=i/\rv.length=i/\∀ v∈bw,v=1\/v=2) _ ?_ N 8 _ (by omega) ⟨0,0,[],0,0,[],[],rfl,rfl,⟨List.Pairwise.nil,fun x aj=>(by cases aj)⟩,rfl,by omega,by omega,by omega,by omega,by omega,rfl,rfl,fun v aB=>(by cases aB)⟩;rintro k d rec ⟨i,a,A,b,st,bw,rv,hi,rfl,ag,BK,bo,kW,ae,np,ak,ih,Ci,fY⟩ bY;have lM:∃ b9:List Nat,iX A=iX b9/\nn b9 40/\b9.length<=8/\bw.length=b9.length/\∀ v∈bw,v=1\/v=2:=⟨A,rfl,⟨ag.nm,fun x aj=>by have:=ag.oI x aj; omega⟩,by omega,by omega,fY⟩
  by_cases a8:i < x.length/\i < 8
  ·obtain⟨a8,ajl⟩:=a8
   obtain⟨z,bG⟩:∃ z,x[i]?=some z:=⟨_,List.getElem?_eq_getElem a8⟩
   obtain⟨qu,l4,E0⟩:=aj z (List.mem_of_getElem? bG);have t1:=Kq qu (show(0:Int) < 6 by decide);have t2:=Kq l4 (show(0:Int) < 2 by decide);have t3:=Kq E0 (show(0:Int) < 6 by decide);obtain⟨u,hu⟩:∃ u:Nat,Int.tmod z.1 6=(u:Int):=⟨_,(Int.toNat_of_nonneg t1.1).symm⟩
   obtain⟨v,aB⟩:∃ v,v=Int.tmod z.2.1 2:=⟨_,rfl⟩
   obtain⟨s,gQ⟩:∃ s,s=Int.tmod z.2.2 6:=⟨_,rfl⟩
   rw[<- aB]at t2;rw[<- gQ]at t3;rw[hu]at t1;have bg:(i:Int) < (x.length:Int):=by omega
   have ahq:(i:Int) < 8:=by omega
   have kV:(0:Int) < s+1:=by omega
   simp only[bc,Int.reduceEq,Int.reduceLT,Int.reduceLE,reduceCtorEq,bg,ahq,b8 bG,hu,<- aB,<- gQ,kV,Bool.not_false,u2];refine⟨by and_intros<;>first | omega | (simp only[bN]; omega) | exact this | trivial,by and_intros<;>first | omega | (simp only[bN]; omega) | exact this | trivial,by and_intros<;>first | omega | (simp only[bN]; omega) | exact this | trivial,by and_intros<;>first | omega | (simp only[bN]; omega) | exact this | trivial,by and_intros<;>first | omega | (simp only[bN]; omega) | exact this | trivial,by and_intros<;>first | omega | (simp only[bN]; omega) | exact this | trivial,fun _=>lM,fun Qd=>?_⟩;have this:=bY (k - 1) ((a:Int)+1+(u:Int),b+(s+1),0+(1+v),(i:Int)+1,iX A++[(a:Int)+1+(u:Int)],bw++[1+v],rv++[b+(s+1)]) (by omega) ⟨i+1,a+1+u,A++[a+1+u],b+(s+1),0+(1+v),bw++[1+v],rv++[b+(s+1)],by omega,by rw[ag0]; rfl,ag.snoc (by omega),by simp[BK],by omega,by omega,by omega,by omega,by omega,by simp[ih],by simp[Ci],fun w hw=>by
     rcases List.mem_append.1 hw with hw | hw
     ·exact fY w hw
     ·rw[List.mem_singleton]at hw
      omega⟩
   and_intros<;>first | omega | (simp only[bN]; omega) | exact this | trivial
  ·have dm:cond (decide ((i:Int) < (x.length:Int))) (decide ((i:Int) < 8)) false=false:=by
    rw[H9,decide_eq_false_iff_not,decide_eq_false_iff_not];omega
   exact sw.2 ⟨fun e=>absurd (dm.symm.trans e) (by decide),fun _=>su.2 lM⟩
 unfold D1;simp only[bc,Int.reduceEq,Int.reduceLT,Int.reduceLE,reduceCtorEq];exact dY.mono fun r az=>az
theorem ahr{N:Nat} (bd:5000 < N) (KB:Aw N=some true) (ds:∀ (A:List Nat) (bw:List Int),nn A 40->A.length<=8->bw.length=A.length->(∀ v∈bw,v=1\/v=2)->T (xi N (iX A) bw) (Ky N A))
  (x:List (Int×Int×Int)) (aj:∀ z∈x,0<=z.1/\0<=z.2.1/\0<=z.2.2) (z:Int):Ay N x z=some true:=by
 unfold Ay
 apply T.eq
 simp only[ur];refine(ahp bd x aj).mono ?_;rintro⟨aH,bw,rv⟩ ⟨A,az,ag,nX,ih,fY⟩;dsimp only at az ih fY;subst az;refine(ds A bw ag nX ih fY).mono fun s ak=>?_
 have ah:=ahb bd z (A:=A) (by omega) bw rv;simp only[bt ah];refine(ahd bd (Kx z A 0) ag nX ak).mono ?_;rintro⟨cV,dU,gb⟩ ⟨ao,bE⟩;dsimp only at ao bE;have aF:=ahc bd z ag (by omega);simp only[bt aF];refine bE.mono ?_;rintro⟨hO,hp,oY⟩ ⟨aq,jL⟩;dsimp only at aq jL;subst ao aq jL;obtain⟨f,ys,t,H,rfl,bJ,nS,cu⟩:=ak;have dn:=ahh bd bJ.hQ;have RU:=bJ.eO;have ie:=bJ.all;obtain⟨aP,kq⟩:=bJ.tok;have DQ:=bJ.ad;have FE:=aho bd (t:=t) RU.e9 (fun l ad=>⟨RU.row l ad,fun k ab=>by
  obtain⟨i,hi⟩:=List.mem_iff_getElem?.1 ad;obtain⟨n,a7⟩:=List.mem_iff_getElem?.1 ab;have aL:hG t ((i:Int)+1,(n:Int))=some k:=by rw[p6,b8 hi]; exact a7
  have J:=kq.uD _ _ aL;exact⟨by omega,kq.C2 _ _ aL⟩⟩) (ids:=H) (by omega)
 simp only[bc,Int.reduceEq,Int.reduceLT,Int.reduceLE,reduceCtorEq,List.length_map,bt dn,bt FE,bt KB]
section
open Go.RowKit
def j5(a b:Int) (p:cH):Bool:=cond (decide (b < p.2.2)) (decide (p.2.2 < a)) false
def ry(p:cH):c1:=(p.1,(decide (p.2.1.1=1),0))
theorem ahs{N:Nat} (bd:5000 < N) {L:List cH} (ad:L.length<=1000) {a b:Int} (oi:b < a):qa N L a b=some ((((L.filter (j5 a b)).map ry).reverse),(L.filter (j5 a b)).length):=by
 have dY:uM N L (b,a,(0:Int)) N ((0:Int),[])=some ((L.filter (j5 a b)).map ry):=by
  unfold uM;refine e8 (fun k d=>∃ i:Nat,i+k=L.length/\d=((i:Int),((L.take i).filter (j5 a b)).map ry)) _ ?_ N L.length _ (by omega) ⟨0,by omega,rfl⟩;rintro k d rec ⟨i,hi,rfl⟩ bY
  apply T.eq
  by_cases a8:i < L.length
  ·obtain⟨x,aj⟩:∃ x,L[i]?=some x:=⟨_,List.getElem?_eq_getElem a8⟩
   have bg:(i:Int) < (L.length:Int):=by omega
   have cv:((L.take i).filter (j5 a b)).length<=1000:=by
    have J:=List.length_filter_le (j5 a b) (L.take i);rw[List.length_take]at J;omega
   have az:=bY (k - 1) _ (by omega) ⟨i+1,by omega,rfl⟩;rw[p8 aj,List.filter_append,List.map_append]at az;show T (cond (decide ((i:Int) < (L.length:Int))) _ _) _;rw[decide_eq_true bg,cond_true];show T (aw _ (cond (cond (decide (b < (L.getD ((i:Nat):Int).toNat _).2.2)) (decide ((L.getD ((i:Nat):Int).toNat _).2.2 < a)) false) _ _)) _;rw[Int.toNat_natCast,b8 aj];cases ae:j5 a b x with
   | true=>
    rw[show [x].filter (j5 a b)=[x] by simp[ae]]at az;have this:T (rec ((i:Int)+1,((L.take i).filter (j5 a b)).map ry++[ry x])) (·=(L.filter (j5 a b)).map ry):=⟨_,az,rfl⟩
    have dm:cond (decide (b < x.2.2)) (decide (x.2.2 < a)) false=true:=ae;rw[dm,cond_true];simp only[bc,Int.reduceEq,Int.reduceLT,Int.reduceLE,reduceCtorEq,List.length_map,List.length_append,List.length_singleton]
    and_intros<;>first | omega | (simp only[bN]; omega) | exact this | trivial
   | false=>
    rw[show [x].filter (j5 a b)=[] by simp[ae],List.map_nil,List.append_nil]at az;have this:T (rec ((i:Int)+1,((L.take i).filter (j5 a b)).map ry)) (·=(L.filter (j5 a b)).map ry):=⟨_,az,rfl⟩
    have dm:cond (decide (b < x.2.2)) (decide (x.2.2 < a)) false=false:=ae;rw[dm,cond_false];simp only[bc,Int.reduceEq,Int.reduceLT,Int.reduceLE,reduceCtorEq]
    and_intros<;>first | omega | (simp only[bN]; omega) | exact this | trivial
  ·have bg:¬ (i:Int) < (L.length:Int):=by omega
   simp only[bc,Int.reduceEq,Int.reduceLT,Int.reduceLE,reduceCtorEq,bg];rw[List.take_of_length_le (by omega)]
 have cv:=List.length_filter_le (j5 a b) L;have ER:∀ l:List c1,l.length<=100000->Dc N l=some (l,l.length):=by
  intro l h;unfold Dc
  apply T.eq
  simp only[bc,Int.reduceEq,Int.reduceLT,Int.reduceLE,reduceCtorEq,List.length_replicate]
  and_intros<;>first | omega | (simp only[bN]; omega) | exact this | trivial
 unfold qa;rw[decide_eq_false (by omega:¬ a < b)];show Option.bind (uM N L (b,a,(0:Int)) N ((0:Int),[])) _=_;rw[dY,Option.bind_some];show Option.bind (Option.bind (zw N _) _) _=_;rw[aeS (N:=N) ((L.filter (j5 a b)).map ry) (by rw[List.length_map]; omega) (by rw[List.length_map]; omega),Option.bind_some,Option.bind_some,ER _ (by rw[List.length_reverse,List.length_map]; omega),Option.bind_some,List.length_reverse,List.length_map]
end
section
open Go.RowKit
theorem xj{l:List (List al)} {a:Nat} (h:l.length < a) (s:List al) (k:Nat):(eN l a s).getD k []=if k=a - 1 then s else l.getD k []:=by
 unfold eN;simp only[List.getD_eq_getElem?_getD]
 by_cases J:k < l.length
 ·rw[List.append_assoc,List.getElem?_append_left J,if_neg (by omega)]
 ·rw[List.append_assoc,List.getElem?_append_right (by omega),List.getElem?_eq_none (l:=l) (by omega)]
  by_cases U:k=a - 1
  ·rw[if_pos U,List.getElem?_append_right (by rw[List.length_replicate]; omega),List.length_replicate,show k - l.length - (a - 1 - l.length)=0 by omega]
   rfl
  ·rw[if_neg U]
   by_cases ah:k < a - 1
   ·rw[List.getElem?_append_left (by rw[List.length_replicate]; omega),List.getElem?_replicate,if_pos (by omega)]
    rfl
   ·rw[List.getElem?_append_right (by rw[List.length_replicate]; omega),List.length_replicate,List.getElem?_eq_none (by simp; omega)]
theorem RV{nd:al} (b:Int) (l:List (List al)):∀ i:Nat,((if nd.1=b/\(i:Int)+1<=nd.2 then l.getD (nd.2.toNat - 1 - i) [] else [])++lr nd (hy b i l)).Perm l.flatten:=by
 induction l with
 | nil=>
  intro i;show(_++[]).Perm []
  simp
 | cons s r bA=>
  intro i;have h:=bA (i+1);show(_++((if ((b,(i:Int)+1):al)=nd then [] else s)++lr nd (hy b (i+1) r))).Perm (s++r.flatten);obtain⟨o4,o5⟩:=nd;dsimp only at h ⊢
  by_cases ae:o4=b
  ·subst ae
   by_cases J:o5=(i:Int)+1
   ·subst J
    have ao:((o4,(i:Int)+1):al)=(o4,(i:Int)+1):=rfl;rw[if_pos ao,if_pos ⟨rfl,Int.le_refl _⟩,show((i:Int)+1).toNat - 1 - i=0 by omega];rw[if_neg (by omega)]at h;exact List.Perm.append_left s h
   ·have ao:¬ ((o4,(i:Int)+1):al)=(o4,o5):=fun e=>J (Prod.mk.inj e).2.symm
    rw[if_neg ao]
    by_cases U:(i:Int)+1<=o5
    ·rw[if_pos ⟨rfl,U⟩]
     rw[if_pos ⟨rfl,by omega⟩]at h;rw[show o5.toNat - 1 - i=(o5.toNat - 1 - (i+1))+1 by omega,List.getD_cons_succ];rw[<- List.append_assoc];refine(List.Perm.append_right _ List.perm_append_comm).trans ?_;rw[List.append_assoc];exact List.Perm.append_left s h
    ·rw[if_neg (by omega)]
     rw[if_neg (by omega)]at h;exact List.Perm.append_left s h
  ·rw[if_neg (fun e=>ae e.1)]
   rw[if_neg (fun e=>ae e.1)]at h;have ao:¬ ((b,(i:Int)+1):al)=(o4,o5):=fun e=>ae (Prod.mk.inj e).1.symm
   rw[if_neg ao];exact List.Perm.append_left s h
theorem aht{f g:List (List al)} {b:Int} (ae:b=0\/b=1) {a:Nat} (J:1<=a):((if b=1 then g else f).getD (a - 1) []++lr (b,(a:Int)) (hy 0 0 f++(hy 1 0 g++[]))).Perm (f.flatten++g.flatten):=by
 have aA:=RV (nd:=(b,(a:Int))) 0 f 0;have aL:=RV (nd:=(b,(a:Int))) 1 g 0;rw[List.append_nil,Qt];dsimp only at aA aL
 rcases ae with rfl | rfl
 ·rw[if_pos ⟨rfl,by omega⟩,show((a:Int)).toNat - 1 - 0=a - 1 by omega]at aA
  rw[if_neg (by intro h; exact absurd h.1 (by decide)),List.nil_append]at aL;rw[if_neg (by decide),<- List.append_assoc];exact aA.append aL
 ·rw[if_pos ⟨rfl,by omega⟩,show((a:Int)).toNat - 1 - 0=a - 1 by omega]at aL
  rw[if_neg (by intro h; exact absurd h.1 (by decide)),List.nil_append]at aA;rw[if_pos rfl];refine(List.perm_append_comm_assoc _ _ _).trans ?_;exact aA.append aL
theorem ahu{α:Type} {x y:Option α} {P:α->Prop} (e:x=y) (h:T y P):T x P:=e ▸ h
theorem ahv{N:Nat} (bd:5000 < N) {f g:List (List al)} (h:lv f g) (a7:(f.flatten++g.flatten).Nodup) (aa:f.flatten.length+g.flatten.length<=100000) {b:Int} (ae:b=0\/b=1) {a:Nat} (J:1<=a) (U:a<=40)
  {s:List al} (ak:s.length<=4) (a6:∀ x∈s,nT x) (ahw:s.Nodup) (fN:∀ x∈s,x∈(if b=1 then g else f).getD (a - 1) []\/x ∉ f.flatten++g.flatten) :
  T (lq N (f,g) (b,(a:Int)) s) fun q=>q.2=0/\lv q.1.1 q.1.2/\(∀ k,q.1.1.getD k []=if b=0/\k=a - 1 then s else f.getD k [])/\(∀ k,q.1.2.getD k []=if b=1/\k=a - 1 then s else g.getD k []):=by
 have pd:=aht (f:=f) (g:=g) ae J;have RW:((if b=1 then g else f).getD (a - 1) []++lr (b,(a:Int)) (hy 0 0 f++(hy 1 0 g++[]))).Nodup:=pd.nodup_iff.2 a7;have RX:=(List.nodup_append.1 RW).2.1;have ahx:(lr (b,(a:Int)) (hy 0 0 f++(hy 1 0 g++[]))++s).Nodup:=by
  refine List.nodup_append.2 ⟨RX,ahw,fun x aj y aT e=>?_⟩;subst e
  rcases fN x aT with ah | ah
  ·exact(List.nodup_append.1 RW).2.2 x ah x aj rfl
  ·exact ah (pd.subset (List.mem_append_right _ aj))
 have az:=fun {aP:Type} (k:List (al×Bool)->Option aP)=>Dh bd (b,(a:Int)) k (hy 0 0 f++(hy 1 0 g++[])) [] (by
  intro x aj
  rcases List.mem_append.1 aj with aj | aj
  ·exact Di h.gL.e9 0 x aj
  ·rw[List.append_nil]at aj
   exact Di h.aZ.e9 0 x aj) (by exact RX)
 have gx:=JR bd h ae J U ak a6;unfold lq;rw[wV bd h.gL h.aZ a7 aa,Option.bind_some];show T (Option.bind (kP N (b,(a:Int))) _) _;rw[pt N ⟨ae,by dsimp only; omega,by dsimp only; omega⟩,Option.bind_some];show T (Option.bind (zV N s N (0:Int)) _) _;rw[Qv bd ak a6,Option.bind_some];show T (cond (decide ((4:Int) < (s.length:Int))) _ (Option.bind (uE N true (f,g)) _)) _;rw[decide_eq_false (by omega),cond_false,Jk bd h.gL.len h.aZ.len,Option.bind_some];refine ahu (az _) ?_;rw[List.nil_append];show T (Option.bind (zW N s N ((0:Int),gu (lr (b,(a:Int)) (hy 0 0 f++(hy 1 0 g++[]))))) _) _;rw[Qu bd ak _ ahx,Option.bind_some];show T (Option.bind (oF N (f,g) (b,(a:Int)) s) _) _;simp only[ur];refine gx.mono ?_;rintro⟨cV,dU⟩ ⟨bT,ah,au⟩;exact su.2 ⟨rfl,bT,ah,au⟩
end
section
open Go.RowKit
theorem ahy{N:Nat} (bd:5000 < N) {f g:List (List al)} (aA:fD f) (aL:fD g) (a7:(f.flatten++g.flatten).Nodup) {r:Int} (az:-4<=r/\r<=4) (aa:f.flatten.length+g.flatten.length < 20) (ak:qe (fA f g r))
  {ys:List cb} {y:Nat} (aT:y < 6) {Y:cb} (cr:ys[y]?=some Y) (aB:nR Y) (hl:Y.1=true) {place e:Int} (aq:Int.tmod place 2≠0/\-13<=place/\place<=179) {P:List c1} {pn:Nat} (ae:qa N (fA f g r) Y.2.1 e=some (P,pn)) (pd:∀ p∈P,sE p) (ahz:P.length+Y.2.2.2.2.length<=4096) (eO:List (Bool×List bB)) (fB) (fl:List al) :
  nk N ((y:Int)+1) place e r f g eO fB ys fl=some (0,r,f,g,ys.set y (true,place,Y.2.2.1,Y.2.2.2.1,jF Y.2.2.2.2 P)):=by
 have pa:=(List.getElem?_eq_some_iff.1 cr).1;have ad:=JH bd aA aL a7 az aa ak;have ma:=P4 aB hl bd aq pd ahz;unfold nk
 apply T.eq
 simp only[uQ aT,bc,Int.reduceEq,Int.reduceLT,Int.reduceLE,reduceCtorEq,bt ad,b8 cr,bt ae,bt ma]
 and_intros<;>first | omega | (simp only[bN]; omega) | exact this | trivial
theorem ahA(b r:Int) (n:Nat):∀ i,hX b r i (List.replicate n ([]:List al))=[]:=fun i=>by
 apply List.eq_nil_of_length_eq_zero
 rw[w8]
 induction n with
 | zero=>rfl
 | succ n bA=>rw[List.replicate_succ,List.flatten_cons]; exact bA
theorem ahB{l:List (List al)} {a:Nat} (h:l.length < a) (x:al):(fA (eN l a [x]) [] 0).filter (j5 (4 * (a:Int)+3) (4 * (a:Int)+1))=[(x,((0,(a:Int)),4 * (a:Int)+2))]:=by
 have J:(hX 0 0 0 l).filter (j5 (4 * (a:Int)+3) (4 * (a:Int)+1))=[]:=by
  rw[List.filter_eq_nil_iff];intro p aq;obtain⟨cV,dU,gb,hL⟩:=Dn 0 0 l 0 p aq;have ak:p.2.2=4 * p.2.1.2+2:=by rw[dU]; rfl
  unfold j5;rw[decide_eq_false (by omega),cond_false]
  decide
 rw[Ai];unfold eN;rw[JF,JF,List.filter_append,List.filter_append,J,ahA,List.filter_nil,List.nil_append,List.nil_append];have e:(0:Nat)+(l++List.replicate (a - 1 - l.length) ([]:List al)).length=a - 1:=by
  rw[List.length_append,List.length_replicate];omega
 rw[e];have aW:((a - 1:Nat):Int)+1=(a:Int):=by omega
 have cB:hX 0 0 (a - 1) [[x]]=[(x,((0,(a:Int)),4 * (a:Int)+2))]:=by
  show [((x,((0,((a - 1:Nat):Int)+1),fo 0 (((a - 1:Nat):Int)+1) 0)):cH)]=_;rw[aW]
  rfl
 rw[cB];have ae:j5 (4 * (a:Int)+3) (4 * (a:Int)+1) (x,((0,(a:Int)),4 * (a:Int)+2))=true:=by
  unfold j5;dsimp only;rw[decide_eq_true (by omega),cond_true,decide_eq_true (by omega)]
 rw[List.filter_cons_of_pos ae,List.filter_nil]
end
section
open Go.RowKit
theorem ahC{N:Nat} {ys:List cb} {y:Nat} (aT:y < 6) {Y:cb} (cr:ys[y]?=some Y) (hl:Y.1=true) {nd:al} (lu:(nd.1=0\/nd.1=1)/\1<=nd.2/\nd.2<=40) {r:Int} (az:-4<=r/\r<=4) (gx:fo nd.1 nd.2 r<=Y.2.1) (k:Int) (f g:List (List al)) (eO:List (Bool×List bB)) (fB) (fl:List al) :
  nj N (k,(0,(nd,((y:Int)+1,0)))) r f g eO fB ys fl=some (fo nd.1 nd.2 r - 1,fo nd.1 nd.2 r,0,r,f,g):=by
 have a8:=(List.getElem?_eq_some_iff.1 cr).1;have ak:=z8 N lu az;have ae:-1000<=fo nd.1 nd.2 r/\fo nd.1 nd.2 r<=1000:=by
  unfold fo
  split<;>omega
 obtain⟨S,aI⟩:∃ S,S=fo nd.1 nd.2 r:=⟨_,rfl⟩
 rw[<- aI]at ak ae gx ⊢;unfold nj
 apply T.eq
 simp only[uQ aT,bc,Int.reduceEq,Int.reduceLT,Int.reduceLE,reduceCtorEq,b8 cr,bt ak,hl,show ¬ Y.2.1 < S by omega]
 and_intros<;>first | omega | (simp only[bN]; omega) | exact this | trivial
theorem ahD{t:List (List bB)} {ids:List al} (h:ri t ids) {y:Nat} (aT:y < t.length) {l:bB} (ad:l.2.2.1=[]):ri (hx t y l) (ids++[((y:Int)+1,((t.getD y []).length:Int))]):=by
 intro c;have J:=h c;have ah:=adB aT l c;have a7:=PW aT l;rw[ad,List.count_nil,Nat.add_zero]at ah;rw[List.count_append]at J;rw[List.count_append,List.count_append,List.count_singleton,ah];have ahE:(if (((y:Int)+1,((t.getD y []).length:Int)) == c)=true then 1 else 0)=if ((y:Int)+1,((t.getD y []).length:Int))=c then 1 else 0:=by simp
 rw[ahE]
 by_cases e:((y:Int)+1,((t.getD y []).length:Int))=c
 ·rw[if_pos e]
  rw[e]at a7;rw[if_neg a7]at J;rw[if_pos ((zM aT l).2 (Or.inl e.symm))];omega
 ·rw[if_neg e]
  by_cases aa:gr t c
  ·rw[if_pos aa]at J
   rw[if_pos (aa.put aT l)];omega
  ·rw[if_neg aa]at J
   rw[if_neg (fun cn=>((zM aT l).1 cn).elim (fun h=>e h.symm) aa)];omega
structure sS(n:Nat) (t:List (List bB)):Prop where
 KC:n<=16
 tok:∃ aP,lU t aP
 all:eo t=n
 row:(t.getD 0 []).length=n
 eO:Dt t
 once:ri t (jH 0 n)
 RY:∀ i,i≠0->t.getD i []=[]
theorem sS.put{n:Nat} {t:List (List bB)} (h:sS n t) (a7:n < 16) {q:List c1} (ao:∀ p∈q,gr t p.1/\(p.2.2=0\/p.2.2=1)) (ad:q.length<=1):sS (n+1) (hx t 0 (0,(decide (n=0),([],q)))):=by
 obtain⟨aP,kq⟩:=h.tok;have aY:=kq.len;have az:=h.row;have aN:0 < t.length:=by omega
 have ahF:wR q:=by
  intro i p AO J U
  have:=(List.getElem?_eq_some_iff.1 U).1
  omega
 refine⟨by omega,⟨_,kq.put (y:=0) (by omega) (l:=(0,(decide (n=0),([],q)))) (Or.inl rfl) (fun b ae=>by cases ae) ao (Nat.zero_le _) (by show q.length<=4096; omega) ahF (fun bG=>by show decide (n=0)=true; exact decide_eq_true (by omega))⟩,?_,?_,?_,?_,?_⟩
 ·rw[Jb aN,h.all]
 ·rw[zL aN,if_pos rfl,List.length_append,az]
  rfl
 ·refine⟨by rw[PU]; omega,fun x aj=>?_,fun x aj=>?_,fun x aj=>?_⟩<;>unfold hx at aj<;>rcases List.mem_or_eq_of_mem_set aj with aj | rfl
  ·exact h.eO.row x aj
  ·rw[List.length_append,az]; show n+1<=4096; omega
  ·exact h.eO.thr x aj
  ·intro l gG
   rcases List.mem_append.1 gG with gG | gG
   ·by_cases qx:(t.getD 0 [])∈t
    ·exact h.eO.thr _ qx l gG
    ·exact absurd (by rw[List.getD_eq_getElem?_getD,List.getElem?_eq_getElem aN]; exact List.getElem_mem aN) qx
   ·rw[List.mem_singleton]at gG
    rw[gG];exact Nat.zero_le _
  ·exact h.eO.oC x aj
  ·intro l gG
   rcases List.mem_append.1 gG with gG | gG
   ·by_cases qx:(t.getD 0 [])∈t
    ·exact h.eO.oC _ qx l gG
    ·exact absurd (by rw[List.getD_eq_getElem?_getD,List.getElem?_eq_getElem aN]; exact List.getElem_mem aN) qx
   ·rw[List.mem_singleton]at gG
    rw[gG];show q.length<=100000;omega
 ·have:=ahD h.once aN (l:=(0,(decide (n=0),([],q)))) rfl
  rw[az]at this;rw[sP];exact this
 ·intro i hi
  rw[zL aN,if_neg hi];exact h.RY i hi
def j6(p:Int) (n:Nat) (q:List c1):cb:=(true,p,(n:Int),decide (n=0),q)
def gC(p:Int) (n:Nat) (q:List c1):List cb:=(List.replicate 6 (b7.zero:cb)).set 0 (j6 p n q)
theorem rz(p:Int) (n:Nat) (q:List c1):(gC p n q)[0]?=some (j6 p n q):=rfl
theorem xk{p:Int} (aq:Int.tmod p 2≠0/\-13<=p/\p<=179) {n:Nat} (a7:n<=2048) {q:List c1} (ao:∀ x∈q,sE x) (ad:q.length<=1):nR (j6 p n q):=
 ⟨⟨by show(0:Int)<=(n:Int); omega,by show(n:Int)<=2048; omega⟩,fun h=>(by cases h),fun _=>aq,by show q.length<=4096; omega,ao,fun i a b _ U=>by
  have:=(List.getElem?_eq_some_iff.1 U).1
  have e:(j6 p n q).2.2.2.2=q:=rfl;rw[e]at this;omega⟩
structure kv(n:Nat) (f:List (List al)):Prop where
 gL:fD f
 cX:lW f
 flat:f.flatten=jH 0 n
theorem kv.pv{n:Nat} {f:List (List al)} (h:kv n f):(f.flatten++([]:List (List al)).flatten).Nodup:=Rn h.flat
theorem kv.e9{n:Nat} {f:List (List al)} (h:kv n f) (a7:n<=16):f.flatten.length+([]:List (List al)).flatten.length < 20:=by
 rw[h.flat,DR];show n+0 < 20;omega
theorem kv.nm(f:List (List al)):qe (fA f [] 0):=by rw[Ai]; exact QB _ _ _ _
theorem sT{n:Nat} (a7:n < 16):nT (((0:Nat):Int)+1,(n:Int)):=⟨by dsimp only; omega,by dsimp only; omega,by dsimp only; omega,by dsimp only; omega⟩
theorem kv.put{n:Nat} {f:List (List al)} (h:kv n f) (a7:n < 16) {a:Nat} (J:f.length < a) (U:a<=40):kv (n+1) (eN f a [(((0:Nat):Int)+1,(n:Int))]):=by
 refine⟨h.gL.put J U (by simp) fun x aj=>?_,Df _ (by simp),?_⟩
 ·rw[List.mem_singleton]at aj
  rw[aj];exact sT a7
 ·rw[Jw,h.flat,sP]
def D8(p:Int) (f:List (List al)):Prop:=(Int.tmod p 2≠0/\-13<=p/\p<=179)/\p<=4 * (f.length:Int)+3/\∀ k:Int,1<=k->k<=(f.length:Int)->4 * k+2 < p
theorem D9{a:Nat} (J:1<=a) (U:a<=40):(Int.tmod (4 * (a:Int)+2+1) 2≠0/\-13<=4 * (a:Int)+2+1/\4 * (a:Int)+2+1<=179)/\(Int.tmod (4 * (a:Int)+2 - 1) 2≠0/\-13<=4 * (a:Int)+2 - 1/\4 * (a:Int)+2 - 1<=179):=by
 refine⟨⟨?_,by omega,by omega⟩,?_,by omega,by omega⟩<;>rw[Int.tmod_eq_emod_of_nonneg (by omega)]<;>omega
theorem ahG{p:Int} {f:List (List al)} (h:D8 p f) {e:Int}:∀ q∈fA f [] 0,¬ (p < q.2.2/\q.2.2 < e):=by
 intro q ao;rw[Ai]at ao;obtain⟨J,U,ah,au⟩:=Dn 0 0 f 0 q ao;have ak:q.2.2=4 * q.2.1.2+2:=by rw[U]; rfl
 have:=h.2.2 q.2.1.2 (by omega) (by omega)
 omega
theorem ahH{N:Nat} (bd:5000 < N) {n:Nat} {f:List (List al)} {t:List (List bB)} (bT:kv n f) (bE:sS n t) (a7:n < 16) {p:Int} (aq:D8 p f) {a:Nat} (J:f.length < a) (U:a<=40) :
  rp N (4,(1,((0,(a:Int)),(1,0)))) 0 f [] (own t) [] (gC p n []) []=some (0,0,eN f a [(((0:Nat):Int)+1,(n:Int))],[],own (hx t 0 (0,(decide (n=0),([],[])))),[],gC (4 * (a:Int)+2+1) (n+1) [],[]):=by
 obtain⟨aP,kq⟩:=bE.tok;have ie:=bE.all;have uZ:((0:Int)=0\/(0:Int)=1)/\(1:Int)<=(a:Int)/\(a:Int)<=40:=⟨Or.inl rfl,by omega,by omega⟩
 have ja:fo 0 (a:Int) 0=4 * (a:Int)+2:=rfl;have gx:p < 4 * (a:Int)+2:=by have:=aq.2.1; omega
 have ae:=JO (N:=N) (y:=0) (by decide) (rz p n []) rfl (nd:=((0:Int),(a:Int))) uZ (r:=0) ⟨by decide,by decide⟩ (by rw[ja]; exact Int.le_of_lt gx) 4 f [] (own t) [] [];rw[ja]at ae;have Aj:=(D9 (a:=a) (by omega) U).1;have aa:=JP bd bT.gL qh bT.pv (r:=0) ⟨by decide,by decide⟩ (bT.e9 (by omega)) (kv.nm f) (y:=0) (by decide) (rz p n []) (xk aq.1 (by omega) (fun x aj=>by cases aj) (by decide)) rfl Aj (e:=4 * (a:Int)+2) gx (ahG aq) (own t) [] [];have u0:(gC p n []).set 0 (true,4 * (a:Int)+2+1,(j6 p n []).2.2.1,(j6 p n []).2.2.2.1,(j6 p n []).2.2.2.2)=gC (4 * (a:Int)+2+1) n []:=rfl;rw[u0]at aa;have dn:=QU (N:=N) (g:=[]) J U;have fX:=Qw bd bT.gL qh w4 J U (s:=[(((0:Nat):Int)+1,(n:Int))]) (by simp) (by simp) (by
  intro x aj;rw[List.mem_singleton]at aj;rw[aj];exact sT a7) (by
  rw[bT.flat];show((jH 0 n++[])++_).Nodup;rw[List.append_nil,<- sP];exact Ah 0 (n+1)) (by have:=bT.e9 (by omega); omega)
 have hm:=JQ bd (f:=f) (g:=[]) (f':=eN f a [(((0:Nat):Int)+1,(n:Int))]) (g':=[]) kq.len (by omega) (y:=0) (by decide) (rz (4 * (a:Int)+2+1) n []) (xk Aj (by omega) (fun x aj=>by cases aj) (by decide)) rfl (by
  rw[bE.row]; rfl) (nd:=((0:Int),(a:Int))) (stack:=[]) (thr:=[]) (by simp) fX 4 1 0 [] []
 have kl:(gC (4 * (a:Int)+2+1) n []).set 0 (true,(j6 (4 * (a:Int)+2+1) n []).2.1,(j6 (4 * (a:Int)+2+1) n []).2.2.1+1,false,[])=gC (4 * (a:Int)+2+1) (n+1) []:=by
  unfold gC j6;rw[show decide (n+1=0)=false from decide_eq_false (by omega)]
  rfl
 dsimp only at hm;rw[kl]at hm;have ht:qf N (4,(1,((0,(a:Int)),(1,0)))) [] [] 0 f [] (own t) [] (gC (4 * (a:Int)+2+1) n []) []=_:=hm;have dm:nj N (4,(1,((0,(a:Int)),(1,0)))) 0 f [] (own t) [] (gC p n []) []=_:=ae;have er:nk N 1 (4 * (a:Int)+2+1) (4 * (a:Int)+2) 0 f [] (own t) [] (gC p n []) []=_:=aa;unfold rp
 apply T.eq
 simp only[bc,Int.reduceEq,Int.reduceLT,Int.reduceLE,reduceCtorEq,bt dm,bt er,bt dn,bt ht]
 rfl
theorem ahI{N:Nat} (bd:5000 < N) {n:Nat} {f:List (List al)} {t:List (List bB)} (bT:kv n f) (a7:n < 16) {a:Nat} (J:f.length < a) (U:a<=40) :
  uS N (6,(0,((0,(a:Int)),(1,0)))) 0 (eN f a [(((0:Nat):Int)+1,(n:Int))]) [] (own t) [] (gC (4 * (a:Int)+2+1) (n+1) []) []=some (0,0,eN f a [(((0:Nat):Int)+1,(n:Int))],[],own t,[],gC (4 * (a:Int)+2 - 1) (n+1) [((((0:Nat):Int)+1,(n:Int)),(false,0))],[]):=by
 have mx:=bT.put a7 J U;have uZ:((0:Int)=0\/(0:Int)=1)/\(1:Int)<=(a:Int)/\(a:Int)<=40:=⟨Or.inl rfl,by omega,by omega⟩
 have ja:fo 0 (a:Int) 0=4 * (a:Int)+2:=rfl;have xl:=D9 (a:=a) (by omega) U;have ae:=ahC (N:=N) (y:=0) (by decide) (rz (4 * (a:Int)+2+1) (n+1) []) rfl (nd:=((0:Int),(a:Int))) uZ (r:=0) ⟨by decide,by decide⟩ (by rw[ja]; show 4 * (a:Int)+2<=4 * (a:Int)+2+1; omega) 6 (eN f a [(((0:Nat):Int)+1,(n:Int))]) [] (own t) [] [];rw[ja]at ae;have cv:=ahB J (((0:Nat):Int)+1,(n:Int));have Af:=ahs bd (L:=fA (eN f a [(((0:Nat):Int)+1,(n:Int))]) [] 0) (by rw[w9]; have:=mx.e9 (by omega); omega) (a:=4 * (a:Int)+3) (b:=4 * (a:Int)+1) (by omega);rw[cv]at Af;have KD:sE ((((0:Nat):Int)+1,(n:Int)),(false,(0:Int))):=⟨sT a7,Or.inl rfl⟩
 have aa:=ahy bd mx.gL qh mx.pv (r:=0) ⟨by decide,by decide⟩ (mx.e9 (by omega)) (kv.nm _) (y:=0) (by decide) (rz (4 * (a:Int)+2+1) (n+1) []) (xk xl.1 (by omega) (fun x aj=>by cases aj) (by decide)) rfl xl.2 (e:=4 * (a:Int)+2 - 1) (P:=[((((0:Nat):Int)+1,(n:Int)),(false,0))]) (pn:=1) (by
  show qa N _ (4 * (a:Int)+2+1) _=_;rw[show 4 * (a:Int)+2+1=4 * (a:Int)+3 by omega,show 4 * (a:Int)+2 - 1=4 * (a:Int)+1 by omega,Af]
  rfl) (fun x aj=>by rw[List.mem_singleton]at aj; rw[aj]; exact KD) (by show 1+0<=4096; decide) (own t) [] []
 have u0:(gC (4 * (a:Int)+2+1) (n+1) []).set 0 (true,4 * (a:Int)+2 - 1,(j6 (4 * (a:Int)+2+1) (n+1) []).2.2.1,(j6 (4 * (a:Int)+2+1) (n+1) []).2.2.2.1,jF (j6 (4 * (a:Int)+2+1) (n+1) []).2.2.2.2 [((((0:Nat):Int)+1,(n:Int)),(false,0))])=gC (4 * (a:Int)+2 - 1) (n+1) [((((0:Nat):Int)+1,(n:Int)),(false,0))]:=rfl;rw[u0]at aa;have dm:nj N (6,(0,((0,(a:Int)),(1,0)))) 0 (eN f a [(((0:Nat):Int)+1,(n:Int))]) [] (own t) [] (gC (4 * (a:Int)+2+1) (n+1) []) []=_:=ae;have er:nk N 1 (4 * (a:Int)+2 - 1) (4 * (a:Int)+2 - 1) 0 (eN f a [(((0:Nat):Int)+1,(n:Int))]) [] (own t) [] (gC (4 * (a:Int)+2+1) (n+1) []) []=_:=aa;unfold uS
 apply T.eq
 simp only[bc,Int.reduceEq,Int.reduceLT,Int.reduceLE,reduceCtorEq,bt dm,bt er]
theorem RZ(n:Nat):jH 0 (n+2)=jH 0 n++[(((0:Nat):Int)+1,(n:Int)),(((0:Nat):Int)+1,((n+1:Nat):Int))]:=by
 rw[sP,sP,List.append_assoc]
 rfl
theorem ahJ{N:Nat} (bd:5000 < N) {n:Nat} {f:List (List al)} {t:List (List bB)} (bT:kv n f) (bE:sS (n+1) t) (a7:n+1 < 16) {a:Nat} (J:f.length < a) (U:a<=40) :
  uR N (5,(1,((0,(a:Int)),(1,0)))) 0 (eN f a [(((0:Nat):Int)+1,(n:Int))]) [] (own t) [] (gC (4 * (a:Int)+2 - 1) (n+1) [((((0:Nat):Int)+1,(n:Int)),(false,0))]) []=some (0,0,eN f a [(((0:Nat):Int)+1,(n:Int)),(((0:Nat):Int)+1,((n+1:Nat):Int))],[],own (hx t 0 (0,(decide (n+1=0),([],[((((0:Nat):Int)+1,(n:Int)),(false,0))])))),[],gC (4 * (a:Int)+2+1) (n+2) [],[]):=by
 obtain⟨aP,kq⟩:=bE.tok;have ie:=bE.all;have mx:=bT.put (by omega) J U;have uZ:((0:Int)=0\/(0:Int)=1)/\(1:Int)<=(a:Int)/\(a:Int)<=40:=⟨Or.inl rfl,by omega,by omega⟩
 have ja:fo 0 (a:Int) 0=4 * (a:Int)+2:=rfl;have xl:=D9 (a:=a) (by omega) U;have KD:sE ((((0:Nat):Int)+1,(n:Int)),(false,(0:Int))):=⟨sT (by omega),Or.inl rfl⟩
 have KE:∀ x∈[((((0:Nat):Int)+1,(n:Int)),(false,(0:Int)))],sE x:=fun x aj=>by rw[List.mem_singleton]at aj; rw[aj]; exact KD
 obtain⟨q,ao⟩:∃ q:List c1,q=[((((0:Nat):Int)+1,(n:Int)),(false,(0:Int)))]:=⟨_,rfl⟩
 rw[<- ao]at KE ⊢;have ajm:q.length=1:=by rw[ao]; rfl
 have ae:=JO (N:=N) (y:=0) (by decide) (rz (4 * (a:Int)+2 - 1) (n+1) q) rfl (nd:=((0:Int),(a:Int))) uZ (r:=0) ⟨by decide,by decide⟩ (by rw[ja]; show 4 * (a:Int)+2 - 1<=4 * (a:Int)+2; omega) 5 (eN f a [(((0:Nat):Int)+1,(n:Int))]) [] (own t) [] [];rw[ja]at ae;have aa:=JP bd mx.gL qh mx.pv (r:=0) ⟨by decide,by decide⟩ (mx.e9 (by omega)) (kv.nm _) (y:=0) (by decide) (rz (4 * (a:Int)+2 - 1) (n+1) q) (xk xl.2 (by omega) KE (by omega)) rfl xl.1 (e:=4 * (a:Int)+2) (by show 4 * (a:Int)+2 - 1 < 4 * (a:Int)+2; omega) (by
  intro x aj e;obtain⟨aC,aW⟩:=e;have Gw:4 * (a:Int)+2 - 1 < x.2.2:=aC;omega) (own t) [] []
 have u0:(gC (4 * (a:Int)+2 - 1) (n+1) q).set 0 (true,4 * (a:Int)+2+1,(j6 (4 * (a:Int)+2 - 1) (n+1) q).2.2.1,(j6 (4 * (a:Int)+2 - 1) (n+1) q).2.2.2.1,(j6 (4 * (a:Int)+2 - 1) (n+1) q).2.2.2.2)=gC (4 * (a:Int)+2+1) (n+1) q:=rfl;rw[u0]at aa;have R0:lv (eN f a [(((0:Nat):Int)+1,(n:Int))]) []:=⟨mx.gL,qh,mx.cX,w4⟩
 have dn:=DD (N:=N) R0 (b:=0) (Or.inl rfl) (a:=a) (by omega) U;have sQ:(if (0:Int)=1 then([]:List (List al))else eN f a [(((0:Nat):Int)+1,(n:Int))]).getD (a - 1) []=[(((0:Nat):Int)+1,(n:Int))]:=by
  rw[if_neg (by decide),xj J,if_pos rfl]
 rw[sQ]at dn;have fP:∀ x∈[(((0:Nat):Int)+1,(n:Int)),(((0:Nat):Int)+1,((n+1:Nat):Int))],nT x:=by
  intro x aj
  rcases List.mem_cons.1 aj with rfl | aj
  ·exact sT (by omega)
  ·rw[List.mem_singleton]at aj
   rw[aj];exact sT (by omega)
 have ahK:=ahv bd R0 mx.pv (by have:=mx.e9 (by omega); omega) (b:=0) (Or.inl rfl) (a:=a) (by omega) U (s:=[(((0:Nat):Int)+1,(n:Int)),(((0:Nat):Int)+1,((n+1:Nat):Int))]) (by simp) fP (by
  have:=Ah 0 (n+2)
  rw[RZ]at this;exact(List.nodup_append.1 this).2.1) (by
  intro x aj;rw[sQ]
  rcases List.mem_cons.1 aj with rfl | aj
  ·exact Or.inl (List.mem_singleton.2 rfl)
  ·rw[List.mem_singleton]at aj
   refine Or.inr fun hm=>?_
   rw[mx.flat]at hm;have ht:x∈jH 0 (n+1):=by
    rcases List.mem_append.1 hm with hm | hm
    ·exact hm
    ·cases hm
   have:=(Rc ht).2.2
   rw[aj]at this;dsimp only at this;omega)
 obtain⟨⟨⟨f',g'⟩,cm⟩,fX,pW,KF,kA,fm⟩:=ahK;dsimp only at pW KF kA fm;have ahL:f'=eN f a [(((0:Nat):Int)+1,(n:Int)),(((0:Nat):Int)+1,((n+1:Nat):Int))]:=Dq KF.cX (Df _ (by simp)) fun k=>by
  rw[kA,xj J,xj J]
  by_cases ab:k=a - 1
  ·rw[if_pos ⟨rfl,ab⟩,if_pos ab]
  ·rw[if_neg (fun h=>ab h.2),if_neg ab,if_neg ab]
 have y5:g'=[]:=Dq KF.gs w4 fun k=>by
  rw[fm,if_neg (fun h=>absurd h.1 (by decide))]
 rw[ahL,y5,pW]at fX;have hm:=JQ bd (f:=eN f a [(((0:Nat):Int)+1,(n:Int))]) (g:=[]) (f':=eN f a [(((0:Nat):Int)+1,(n:Int)),(((0:Nat):Int)+1,((n+1:Nat):Int))]) (g':=[]) kq.len (by omega) (y:=0) (by decide) (rz (4 * (a:Int)+2+1) (n+1) q) (xk xl.1 (by omega) KE (by omega)) rfl (by
  rw[bE.row]; rfl) (nd:=((0:Int),(a:Int))) (stack:=[(((0:Nat):Int)+1,(n:Int))]) (thr:=[]) (by simp) fX 5 1 0 [] []
 have kl:(gC (4 * (a:Int)+2+1) (n+1) q).set 0 (true,(j6 (4 * (a:Int)+2+1) (n+1) q).2.1,(j6 (4 * (a:Int)+2+1) (n+1) q).2.2.1+1,false,[])=gC (4 * (a:Int)+2+1) (n+2) []:=by
  unfold gC j6;rw[show decide (n+2=0)=false from decide_eq_false (by omega)]
  rfl
 dsimp only at hm;rw[kl]at hm;have ht:qf N (5,(1,((0,(a:Int)),(1,0)))) [] [(((0:Nat):Int)+1,(n:Int))] 0 (eN f a [(((0:Nat):Int)+1,(n:Int))]) [] (own t) [] (gC (4 * (a:Int)+2+1) (n+1) q) []=_:=hm;have dm:nj N (5,(1,((0,(a:Int)),(1,0)))) 0 (eN f a [(((0:Nat):Int)+1,(n:Int))]) [] (own t) [] (gC (4 * (a:Int)+2 - 1) (n+1) q) []=_:=ae;have er:nk N 1 (4 * (a:Int)+2+1) (4 * (a:Int)+2) 0 (eN f a [(((0:Nat):Int)+1,(n:Int))]) [] (own t) [] (gC (4 * (a:Int)+2 - 1) (n+1) q) []=_:=aa;unfold uR
 apply T.eq
 simp only[bc,Int.reduceEq,Int.reduceLT,Int.reduceLE,reduceCtorEq,bt dm,bt er,bt dn,bt ht,List.length_singleton];exact⟨fun h=>by omega,fun _=>by simp[j6]⟩
end
section
open Go.RowKit
abbrev mC:=Int×List (List al)×List (List al)×List (Bool×List bB)×List (fK×Int)×List cb×List al
def kx(N:Nat) (fj:List (Int×Option Nat)):List cS->mC->(mC->Prop)->Prop
 | [],s,Q=>Q s
 | o :: l,s,Q=>T (jG N o s.1 s.2.1 s.2.2.1 s.2.2.2.1 s.2.2.2.2.1 s.2.2.2.2.2.1 s.2.2.2.2.2.2 fj) fun q=>q.1=0/\kx N fj l q.2 Q
theorem kx.append{N:Nat} {fj:List (Int×Option Nat)} {Q rS:mC->Prop} {bw:List cS} (rV:∀ s,Q s->kx N fj bw s rS):∀ {l:List cS} {s:mC},kx N fj l s Q->kx N fj (l++bw) s rS
 | [],s,h=>rV s h
 | o :: l,s,h=>T.mono h fun q ao=>⟨ao.1,ao.2.append rV⟩
theorem kx.one{N:Nat} {fj:List (Int×Option Nat)} {Q:mC->Prop} {o:cS} {s eA:mC} (h:jG N o s.1 s.2.1 s.2.2.1 s.2.2.2.1 s.2.2.2.2.1 s.2.2.2.2.2.1 s.2.2.2.2.2.2 fj=some (0,eA)) (rV:Q eA):kx N fj [o] s Q:=
 T.of h ⟨rfl,rV⟩
theorem ahM{N:Nat} {fj:List (Int×Option Nat)} {Q:mC->Prop} {l:List cS} (bd:l.length < N) (ad:l.length<=100000) {s:mC} (h:kx N fj l s Q) :
  T (Ac N l N ((0:Int),s.1,s.2.1,s.2.2.1,fj,s.2.2.2.2.2.2,s.2.2.2.2.1,s.2.2.2.1,s.2.2.2.2.2.1)) fun q=>∃ eA:mC,q=.inl (eA.1,eA.2.1,eA.2.2.1,eA.2.2.2.2.2.2,eA.2.2.2.2.1,eA.2.2.2.1,eA.2.2.2.2.2.1)/\Q eA:=by
 unfold Ac;refine lR (fun k d=>∃ (j:Nat) (s:mC),j+k=l.length/\d=((j:Int),s.1,s.2.1,s.2.2.1,fj,s.2.2.2.2.2.2,s.2.2.2.2.1,s.2.2.2.1,s.2.2.2.2.2.1)/\kx N fj (l.drop j) s Q) _ ?_ N l.length _ bd ⟨0,s,by omega,rfl,h⟩;rintro k d rec ⟨j,s,aR,rfl,dT⟩ bY
 by_cases a8:j < l.length
 ·obtain⟨o,a6⟩:∃ o,l[j]?=some o:=⟨_,List.getElem?_eq_getElem a8⟩
  have bg:(j:Int) < (l.length:Int):=by omega
  rw[rk a6]at dT;simp only[bc,Int.reduceEq,Int.reduceLT,Int.reduceLE,reduceCtorEq,bg,b8 a6];refine⟨by and_intros<;>first | omega | (simp only[bN]; omega) | exact this | trivial,T.mono dT ?_⟩;rintro⟨e,q⟩ ⟨aN,gm⟩;dsimp only at aN gm;subst aN;have this:=bY (k - 1) ((j:Int)+1,q.1,q.2.1,q.2.2.1,fj,q.2.2.2.2.2.2,q.2.2.2.2.1,q.2.2.2.1,q.2.2.2.2.2.1) (by omega) ⟨j+1,q,by omega,rfl,gm⟩;simp only[bc,Int.reduceEq,Int.reduceLT,Int.reduceLE,reduceCtorEq]
  and_intros<;>first | omega | (simp only[bN]; omega) | exact this | trivial
 ·have bg:¬ (j:Int) < (l.length:Int):=by omega
  rw[List.drop_eq_nil_of_le (by omega)]at dT;simp only[bc,Int.reduceEq,Int.reduceLT,Int.reduceLE,reduceCtorEq,bg];exact⟨s,rfl,dT⟩
def KG(f:List (List al)) (t:List (List bB)) (p:Int) (n:Nat):mC:=((0:Int),f,[],own t,[],gC p n [],[])
def qi(A:List Nat) (bw:List Int) (j:Nat) (s:mC):Prop:=∃ (n:Nat) (f:List (List al)) (t:List (List bB)) (p:Int),s=KG f t p n/\kv n f/\sS n t/\D8 p f/\n<=2 * j/\(∀ i,i < j->((f.getD (A.getD i 0 - 1) []).length:Int)=bw.getD i 0)/\(∀ k,f.getD k []≠[]->∃ i,i < j/\k+1=A.getD i 0)/\((j=0/\f.length=0)\/∃ i,j=i+1/\f.length=A.getD i 0)
theorem R1{f:List (List al)} {a:Nat} (J:1<=a) (U:a<=40) (aA:f.length=a):D8 (4 * (a:Int)+2+1) f:=
 ⟨(D9 J U).1,by omega,fun k _ ab=>by omega⟩
theorem ahN{N:Nat} (bd:5000 < N) {fj} (kt:my N=some fj) {A:List Nat} (ag:nn A 40) (nX:A.length<=8) {bw:List Int} {j a:Nat} (bo:A[j]?=some a) {s:mC} (h:qi A bw j s) :
  (bw.getD j 0=1->kx N fj [(4,(1,((0,(a:Int)),(1,0))))] s (qi A bw (j+1)))/\(bw.getD j 0=2->kx N fj [(4,(1,((0,(a:Int)),(1,0)))),(6,(0,((0,(a:Int)),(1,0)))),(5,(1,((0,(a:Int)),(1,0))))] s (qi A bw (j+1))):=by
 obtain⟨n,f,t,p,rfl,bT,bE,aq,a7,cu,Az,hlen⟩:=h;have F4:=(List.getElem?_eq_some_iff.1 bo).1;obtain⟨Al,o6⟩:=ag.oI a (List.mem_of_getElem? bo);have a8:f.length < a:=by
  rcases hlen with⟨_,aN⟩ | ⟨i,hi,ad⟩
  ·omega
  ·obtain⟨b,ae⟩:∃ b,A[i]?=some b:=⟨_,List.getElem?_eq_getElem (by omega)⟩
   rw[ad,b8 ae]
   have:=List.pairwise_iff_getElem.1 ag.nm i j (by omega) (by omega) (by omega)
   rw[<- (List.getElem?_eq_some_iff.1 bo).2,<- (List.getElem?_eq_some_iff.1 ae).2];exact this
 have lu:((0:Int)=0\/(0:Int)=1)/\(1:Int)<=(a:Int)/\(a:Int)<=40:=⟨Or.inl rfl,by omega,by omega⟩
 have hold:∀ (st:List al) i,i < j->((eN f a st).getD (A.getD i 0 - 1) []).length=(f.getD (A.getD i 0 - 1) []).length:=by
  intro st i hi;obtain⟨b,ae⟩:∃ b,A[i]?=some b:=⟨_,List.getElem?_eq_getElem (by omega)⟩
  have ho:=(ag.oI b (List.mem_of_getElem? ae)).1;have ahO:=List.pairwise_iff_getElem.1 ag.nm i j (by omega) (by omega) (by omega);rw[(List.getElem?_eq_some_iff.1 bo).2,(List.getElem?_eq_some_iff.1 ae).2]at ahO;rw[b8 ae,xj a8,if_neg (by omega)]
 have fN:∀ st:List al,(st.length:Int)=bw.getD j 0->∀ i,i < j+1->(((eN f a st).getD (A.getD i 0 - 1) []).length:Int)=bw.getD i 0:=by
  intro st dn i hi
  by_cases mO:i=j
  ·subst mO
   rw[b8 bo,xj a8,if_pos rfl];exact dn
  ·rw[hold st i (by omega)]
   exact cu i (by omega)
 have wM:∀ (st:List al) k,(eN f a st).getD k []≠[]->∃ i,i < j+1/\k+1=A.getD i 0:=by
  intro st k ab;rw[xj a8]at ab
  by_cases ahP:k=a - 1
  ·exact⟨j,by omega,by rw[b8 bo]; omega⟩
  ·rw[if_neg ahP]at ab
   obtain⟨i,hi,he⟩:=Az k ab;exact⟨i,by omega,he⟩
 have R2:jG N (4,(1,((0,(a:Int)),(1,0)))) 0 f [] (own t) [] (gC p n []) [] fj=_:=
  (aft (JN N (Or.inl rfl) (Or.inr rfl) lu ⟨by decide,by decide⟩) rfl 0 f [] (own t) [] (gC p n []) [] kt).trans (ahH bd bT bE (by omega) aq a8 o6)
 have Hx:=bT.put (by omega) a8 o6;have KH:=bE.put (by omega) (q:=[]) (fun x aj=>by cases aj) (by decide);have C8:=w5 a8 [(((0:Nat):Int)+1,(n:Int))];have Hm:bw.getD j 0=1->qi A bw (j+1) (KG (eN f a [(((0:Nat):Int)+1,(n:Int))]) (hx t 0 (0,(decide (n=0),([],[])))) (4 * (a:Int)+2+1) (n+1)):=fun aB=>
  ⟨n+1,_,_,_,rfl,Hx,KH,R1 Al o6 C8,by omega,fN _ (by rw[aB]; rfl),wM _,Or.inr ⟨j,rfl,by rw[b8 bo,C8]⟩⟩
 refine⟨fun aB=>kx.one R2 (Hm aB),fun aB=>?_⟩;have ahQ:jG N (6,(0,((0,(a:Int)),(1,0)))) 0 (eN f a [(((0:Nat):Int)+1,(n:Int))]) [] (own (hx t 0 (0,(decide (n=0),([],[]))))) [] (gC (4 * (a:Int)+2+1) (n+1) []) [] fj=_:=
  (afu (JN N (Or.inr (Or.inr rfl)) (Or.inl rfl) lu ⟨by decide,by decide⟩) rfl 0 _ _ _ _ _ _ kt).trans (ahI bd bT (by omega) a8 o6)
 have ahR:jG N (5,(1,((0,(a:Int)),(1,0)))) 0 (eN f a [(((0:Nat):Int)+1,(n:Int))]) [] (own (hx t 0 (0,(decide (n=0),([],[]))))) [] (gC (4 * (a:Int)+2 - 1) (n+1) [((((0:Nat):Int)+1,(n:Int)),(false,0))]) [] fj=_:=
  (ahl (JN N (Or.inr (Or.inl rfl)) (Or.inr rfl) lu ⟨by decide,by decide⟩) rfl 0 _ _ _ _ _ _ kt).trans (ahJ bd bT KH (by omega) a8 o6)
 have DP:gr (hx t 0 (0,(decide (n=0),([],[])))) (((0:Nat):Int)+1,(n:Int)):=by
  obtain⟨aP,kq⟩:=bE.tok
  have:=PV (y:=0) (by rw[kq.len]; decide) (t:=t) (0,(decide (n=0),([],[])))
  rw[bE.row]at this;exact⟨_,this⟩
 have ahS:=KH.put (by omega) (q:=[((((0:Nat):Int)+1,(n:Int)),(false,0))]) (fun x aj=>by rw[List.mem_singleton]at aj; rw[aj]; exact⟨DP,Or.inl rfl⟩) (Nat.le_refl _);have fP:∀ x∈[(((0:Nat):Int)+1,(n:Int)),(((0:Nat):Int)+1,((n+1:Nat):Int))],nT x:=by
  intro x aj
  rcases List.mem_cons.1 aj with rfl | aj
  ·exact sT (by omega)
  ·rw[List.mem_singleton]at aj
   rw[aj];exact sT (by omega)
 have q7:kv (n+2) (eN f a [(((0:Nat):Int)+1,(n:Int)),(((0:Nat):Int)+1,((n+1:Nat):Int))]):=
  ⟨bT.gL.put a8 o6 (by simp) fP,Df _ (by simp),by rw[Jw,bT.flat,RZ]⟩
 have R3:=w5 a8 [(((0:Nat):Int)+1,(n:Int)),(((0:Nat):Int)+1,((n+1:Nat):Int))];have ahT:qi A bw (j+1) (KG (eN f a [(((0:Nat):Int)+1,(n:Int)),(((0:Nat):Int)+1,((n+1:Nat):Int))]) (hx (hx t 0 (0,(decide (n=0),([],[])))) 0 (0,(decide (n+1=0),([],[((((0:Nat):Int)+1,(n:Int)),(false,0))])))) (4 * (a:Int)+2+1) (n+2)):=
  ⟨n+2,_,_,_,rfl,q7,ahS,R1 Al o6 R3,by omega,fN _ (by rw[aB]; rfl),wM _,Or.inr ⟨j,rfl,by rw[b8 bo,R3]⟩⟩
 exact T.of R2 ⟨rfl,T.of ahQ ⟨rfl,kx.one ahR ahT⟩⟩
end
section
open Go.RowKit
theorem ahU{N:Nat} (bd:5000 < N) {fj} (kt:my N=some fj) (A:List Nat) (bw:List Int) :
  kx N fj [(1,(0,((0,0),(1,0))))] ((0:Int),[],[],own (List.replicate 6 []),[],List.replicate 6 (b7.zero:cb),[]) (qi A bw 0):=by
 have hi:=agf bd (y:=0) (by decide) (own (List.replicate 6 [])) [] [];have av:jG N (1,(0,((0,0),(1,0)))) 0 [] [] (own (List.replicate 6 [])) [] (List.replicate 6 (b7.zero:cb)) [] fj=some (0,((0:Int),[],[],own (List.replicate 6 []),[],gC (-13) 0 [],[])):=by
  rw[afs (afr N (Or.inl rfl) ⟨by decide,by decide⟩) rfl 0 [] [] _ _ _ _ kt];have mD:rm N (1,(0,((0,0),(1,0)))) 0 [] [] (own (List.replicate 6 [])) [] (List.replicate 6 (b7.zero:cb)) []=_:=hi;rw[mD]
  rfl
 refine kx.one av ⟨0,[],List.replicate 6 [], -13,rfl,⟨qh,w4,rfl⟩,?_,⟨by decide,by decide,fun k J U=>?_⟩,by omega,fun i hi=>absurd hi (by omega),fun k ab=>absurd (by simp) ab,Or.inl ⟨rfl,rfl⟩⟩
 ·have bG:∀ i,(List.replicate 6 ([]:List bB)).getD i []=[]:=fun i=>by
   rw[List.getD_eq_getElem?_getD,List.getElem?_replicate]
   split<;>rfl
  have gn:∀ a,¬ gr (List.replicate 6 ([]:List bB)) a:=fun a h=>by
   rw[pk,bG]at h
   have:=h.2.2
   have:=h.2.1
   simp at *
   omega
  have u4:∀ {a l},hG (List.replicate 6 ([]:List bB)) a=some l->False:=fun {a l} h=>gn a ⟨l,h⟩
  exact⟨by decide,⟨fun _=>0,⟨rfl,fun a h=>(gn a h).elim,fun a b h=>(gn b h).elim,fun a l h=>(u4 h).elim,fun a l h=>(u4 h).elim,fun a l h=>(u4 h).elim,fun a l h=>(u4 h).elim,fun a l h=>(u4 h).elim,fun a l h=>(u4 h).elim,fun a l h=>(u4 h).elim⟩⟩,rfl,rfl,
   ⟨by decide,fun x aj=>(by rw[List.eq_of_mem_replicate aj]; decide),fun x aj=>(by rw[List.eq_of_mem_replicate aj]; intro l ad; cases ad),fun x aj=>(by rw[List.eq_of_mem_replicate aj]; intro l ad; cases ad)⟩,fun a=>by rw[if_neg (gn a)]; rfl,fun i _=>bG i⟩
 ·have:k<=0:=U
  omega
def ahV(A:List Nat) (bw:List Int) (s:mC):Prop:=∃ (n:Nat) (f:List (List al)) (t:List (List bB)),s=((0:Int),f,[],own t,[],(List.replicate 6 (b7.zero:cb)).set 0 (false,(0,((n:Int),(false,[])))),[])/\kv n f/\sS n t/\(∀ i,i < A.length->((f.getD (A.getD i 0 - 1) []).length:Int)=bw.getD i 0)/\∀ k,f.getD k []≠[]->∃ i,i < A.length/\k+1=A.getD i 0
theorem ahW{N:Nat} (bd:5000 < N) {fj} (kt:my N=some fj) {A:List Nat} {bw:List Int} {s:mC} (h:qi A bw A.length s) :
  kx N fj [(2,(0,((0,0),(1,0))))] s (ahV A bw):=by
 obtain⟨n,f,t,p,rfl,bT,bE,aq,a7,cu,Az,hlen⟩:=h;have Ea:=bE.KC;have aB:=xk (q:=[]) aq.1 (n:=n) (by omega) (fun x aj=>by cases aj) (by decide);have a6:=ahm bd (y:=0) (by decide) (rz p n []) aB rfl 0 f [] (own t) [] [];have av:jG N (2,(0,((0,0),(1,0)))) 0 f [] (own t) [] (gC p n []) [] fj=some (0,((0:Int),f,[],own t,[],(List.replicate 6 (b7.zero:cb)).set 0 (false,(0,((n:Int),(false,[])))),[])):=by
  rw[ahk (ahj N ⟨by decide,by decide⟩) rfl 0 f [] _ _ _ _ kt];have ahX:rn N (2,(0,((0,0),(1,0)))) 0 f [] (own t) [] (gC p n []) []=_:=a6;rw[ahX]
  rfl
 exact kx.one av ⟨n,f,t,rfl,bT,bE,cu,Az⟩
theorem ahY{N:Nat} (bd:5000 < N) {n:Nat} {f:List (List al)} {t:List (List bB)} (bT:kv n f) (bE:sS n t) :
  uX N f [] ((List.replicate 6 (b7.zero:cb)).set 0 (false,(0,((n:Int),(false,[]))))) t (jH 0 n):=by
 have Ea:=bE.KC;have cn:=aeE bd bT.gL qh bT.pv (r:=0) ⟨by decide,by decide⟩ (bT.e9 Ea) (kv.nm f);rw[bT.flat]at cn;have ahZ:qr N (f,[]) 0=some (jH 0 n):=by
  rw[cn];show some (jH 0 n++[])=_;rw[List.append_nil]
 refine⟨⟨bT.gL,qh,bT.cX,w4⟩,bT.pv,bT.e9 Ea,rfl,fun Y cr=>?_,bE.tok,by rw[bE.all]; omega,bE.eO,bE.once,ahZ,by rw[DR]; omega,fun i Y cr=>?_⟩
 ·rcases List.mem_or_eq_of_mem_set cr with cr | rfl
  ·rw[List.eq_of_mem_replicate cr]
   exact⟨⟨Int.le_refl _,by decide⟩,fun _=>⟨rfl,rfl,rfl⟩,fun h=>(by cases h),by decide,fun p aq=>(by cases aq),fun i p q aq=>(by cases aq)⟩
  ·exact⟨⟨by show(0:Int)<=(n:Int); omega,by show(n:Int)<=2048; omega⟩,fun _=>⟨rfl,rfl,rfl⟩,fun h=>(by cases h),Nat.zero_le _,fun p aq=>(by cases aq),fun i p q aq=>(by cases aq)⟩
 ·rw[List.getElem?_set]at cr
  by_cases hi:0=i
  ·subst hi
   rw[if_pos rfl,if_pos (by decide)]at cr;cases cr;rw[bE.row]
  ·rw[if_neg hi,List.getElem?_replicate]at cr
   split at cr
   ·cases cr
    rw[bE.RY i (fun e=>hi e.symm)]
    rfl
   ·cases cr
theorem ah0{N:Nat} (bd:5000 < N) {fj} (kt:my N=some fj) {A:List Nat} {bw:List Int} (ag:nn A 40) (nX:A.length<=8) (ih:bw.length=A.length) (aB:∀ v∈bw,v=1\/v=2) :
  T (Ks N (iX A) bw N ((0:Int),(0:Int),[((1:Int),((0:Int),(((0:Int),(0:Int)),((1:Int),(0:Int)))))])) fun q=>q.2.length<=100/\kx N fj q.2 ((0:Int),[],[],own (List.replicate 6 []),[],List.replicate 6 (b7.zero:cb),[]) (qi A bw A.length):=by
 unfold Ks;refine lR (fun k d=>∃ (j:Nat) (ops:List cS),j+k=A.length/\d=((j:Int),(0:Int),ops)/\ops.length<=1+3 * j/\kx N fj ops ((0:Int),[],[],own (List.replicate 6 []),[],List.replicate 6 (b7.zero:cb),[]) (qi A bw j)) _ ?_ N A.length _ (by omega) ⟨0,_,by omega,rfl,by decide,ahU bd kt A bw⟩;rintro k d rec ⟨j,ops,aR,rfl,R4,dT⟩ bY
 by_cases a8:j < A.length
 ·obtain⟨a,bo⟩:∃ a,A[j]?=some a:=⟨_,List.getElem?_eq_getElem a8⟩
  obtain⟨v,R5⟩:∃ v,bw[j]?=some v:=⟨_,List.getElem?_eq_getElem (by omega)⟩
  have vi:=aB v (List.mem_of_getElem? R5);have bg:(j:Int) < ((iX A).length:Int):=by rw[u2]; omega
  have u3:(iX A).getD j 0=(a:Int):=b8 (by unfold iX; rw[List.getElem?_map,bo]; rfl);have Eb:bw.getD j 0=v:=b8 R5;have J4:D2 N (iX A) bw (j:Int) N ((1:Int),ops++[((4:Int),((1:Int),(((0:Int),(a:Int)),((1:Int),(0:Int)))))])=some (if v=2 then(ops++[((4:Int),((1:Int),(((0:Int),(a:Int)),((1:Int),(0:Int)))))])++[((6:Int),((0:Int),(((0:Int),(a:Int)),((1:Int),(0:Int))))),((5:Int),((1:Int),(((0:Int),(a:Int)),((1:Int),(0:Int)))))] else ops++[((4:Int),((1:Int),(((0:Int),(a:Int)),((1:Int),(0:Int)))))]):=by
   obtain⟨M,rfl⟩:∃ M,N=M+2:=⟨N - 2,by omega⟩
   rcases vi with rfl | rfl
   ·unfold D2
    apply T.eq
    show T (cx _ (M+1+1) _) _;unfold cx;simp only[bc,Int.reduceEq,Int.reduceLT,Int.reduceLE,reduceCtorEq,Eb,if_false]
    and_intros<;>first | omega | (simp only[bN]; omega) | exact this | trivial
   ·unfold D2
    apply T.eq
    show T (cx _ (M+1+1) _) _;unfold cx;unfold cx;simp only[bc,Int.reduceEq,Int.reduceLT,Int.reduceLE,reduceCtorEq,Eb,u3,if_true]
    and_intros<;>first | omega | (simp only[bN]; omega) | exact this | trivial
  have R6:=fun s (ak:qi A bw j s)=>ahN bd kt ag nX bo ak
  have ah1:(j:Int) < (A.length:Int):=by omega
  simp only[bc,Int.reduceEq,Int.reduceLT,Int.reduceLE,reduceCtorEq,bg,ah1,u3,bt J4,u2];refine⟨by and_intros<;>first | omega | (simp only[bN]; omega) | exact this | trivial,by and_intros<;>first | omega | (simp only[bN]; omega) | exact this | trivial,by and_intros<;>first | omega | (simp only[bN]; omega) | exact this | trivial,?_⟩;refine bY (k - 1) _ (by omega) ⟨j+1,_,by omega,rfl,?_,?_⟩
  ·split
   ·simp only[List.length_append,List.length_cons,List.length_nil]; omega
   ·simp only[List.length_append,List.length_cons,List.length_nil]; omega
  ·split
   ·rw[List.append_assoc]
    exact dT.append fun s ak=>(R6 s ak).2 (by rw[Eb]; assumption)
   ·exact dT.append fun s ak=>(R6 s ak).1 (by rw[Eb]; rcases vi with h | h; exact h; contradiction)
 ·have bg:¬ (j:Int) < ((iX A).length:Int):=by rw[u2]; omega
  obtain rfl:j=A.length:=by omega
  simp only[bc,Int.reduceEq,Int.reduceLT,Int.reduceLE,reduceCtorEq,bg];exact⟨by omega,dT⟩
def ah2(N:Nat) (A:List Nat) (bw:List Int) (s:ko):Prop:=∃ f ys t H,s=((0:Int),((f,[]),(ys,(t,([],(H,[]))))))/\uX N f [] ys t H/\(∀ Y∈ys,Y.1=false)/\(∀ i,i < A.length->((f.getD (A.getD i 0 - 1) []).length:Int)=bw.getD i 0)/\∀ k,f.getD k []≠[]->∃ i,i < A.length/\k+1=A.getD i 0
theorem ah3{N:Nat} (bd:5000 < N) (A:List Nat) (bw:List Int) (ag:nn A 40) (nX:A.length<=8) (ih:bw.length=A.length) (aB:∀ v∈bw,v=1\/v=2):T (xi N (iX A) bw) (ah2 N A bw):=by
 obtain⟨fj,kt⟩:∃ fj,my N=some fj:=⟨_,rfl⟩
 unfold xi;simp only[ur];refine(ah0 bd kt ag nX ih aB).mono ?_;rintro⟨cV,ops⟩ ⟨R4,dT⟩;dsimp only at R4 dT;have gm:=dT.append fun s ak=>ahW bd kt ak
 have hlen:(ops++[((2:Int),((0:Int),(((0:Int),(0:Int)),((1:Int),(0:Int)))))]).length=ops.length+1:=by rw[List.length_append]; rfl
 have ah4:=ahM (N:=N) (by rw[hlen]; omega) (by rw[hlen]; omega) gm;unfold rq;simp only[bc,Int.reduceEq,Int.reduceLT,Int.reduceLE,reduceCtorEq,bt (agi N),hlen,show ¬ (4096:Int) < ((ops.length+1:Nat):Int) by omega,bt (agj bd),bt (agk bd),bt kt];refine⟨by and_intros<;>first | omega | (simp only[bN]; omega) | exact this | trivial,ah4.mono ?_⟩;rintro q ⟨s,rfl,n,f,t,rfl,bT,bE,cu,Az⟩;have bJ:=ahY bd bT bE;have Ea:=bE.KC;obtain⟨aP,kq⟩:=bE.tok;have dn:=Ro bd (t:=t) ((List.replicate 6 (b7.zero:cb)).set 0 (false,(0,((n:Int),(false,[]))))) (by rw[kq.len]; decide) (fun x aj=>by have:=bE.eO.row x aj; omega) (by rw[DR]; omega) bJ.held;simp only[bc,Int.reduceEq,Int.reduceLT,Int.reduceLE,reduceCtorEq,bt dn];refine⟨f,_,t,_,rfl,bJ,fun Y cr=>?_,cu,Az⟩
 ·rcases List.mem_or_eq_of_mem_set cr with cr | rfl
  ·rw[List.eq_of_mem_replicate cr]
  ·rfl
theorem ah5{N:Nat} (bd:5000 < N) (A:List Nat) (bw:List Int) (ag:nn A 40) (nX:A.length<=8) (ih:bw.length=A.length) (aB:∀ v∈bw,v=1\/v=2):T (xi N (iX A) bw) (Ky N A):=by
 refine(ah3 bd A bw ag nX ih aB).mono ?_;rintro s ⟨f,ys,t,H,rfl,bJ,a6,ad,_⟩;refine⟨f,ys,t,H,rfl,bJ,a6,fun a bo e=>?_⟩;obtain⟨i,hi⟩:=List.mem_iff_getElem?.1 bo;have ah6:=(List.getElem?_eq_some_iff.1 hi).1;have J:=ad i ah6;rw[b8 hi,e]at J;obtain⟨v,R7⟩:∃ v,bw[i]?=some v:=⟨_,List.getElem?_eq_getElem (by omega)⟩
 rw[b8 R7]at J;have aN:((([]:List al).length:Nat):Int)=0:=rfl
 rcases aB v (List.mem_of_getElem? R7)with h | h<;>omega
theorem ah7{N:Nat} (bd:5000 < N) (KB:Aw N=some true) (x:List (Int×Int×Int)) (aj:∀ z∈x,0<=z.1/\0<=z.2.1/\0<=z.2.2) (z:Int):Ay N x z=some true:=
 ahr bd KB (ah5 bd) x aj z
end
theorem ah8(x:Nat):Aw (x+6000)=some true:=by kernel_rfl
section
open Go.ChangeShapes Go.WideShapes Go.ChangeAt Go.WideElems Go.RowKit
theorem KI{x:Int} (h:IntKind.u8.min<=x/\x<=IntKind.u8.max):0<=x:=by
 have aC:IntKind.u8.min=0:=rfl;rw[aC]at h;exact h.1
abbrev g8:aQ:=.int .u8
abbrev g3:aQ:=.pair (.int .u8) (.pair (.int .u8) (.int .u8))
theorem ah9{z:Int×(Int×Int)} (h:qK (.pair g8 (.pair g8 g8)) z):0<=z.1/\0<=z.2.1/\0<=z.2.2:=by
 obtain⟨aN,J,U⟩:=h;exact⟨KI aN,KI J,KI U⟩
theorem aia(p1:List (Int×Int×Int)) (nu:Int) (c0:Option Nat) (r:Bool) (h:Ay 6000 p1 nu=some r):AC bU 4 [.c (.bn (.pair g8 (.pair g8 g8)) p1 none),.c (.val (.int .u8 nu))] [] (fun sv h=>sv=.c (.val (.bool r))/\h=[]):=
 (aha 6000).ok (p1,nu,()) r h
theorem aib{W:World} (h:laidMetH Tryz.prog Rows.shiftsFrontRow.laid W):vn bU (fun b=>b < W.heap.size) W:=by
 rw[MakeChecks.laidMetH_plain _ _ _ (by kernel_rfl)]at h;obtain⟨ps,⟨g0,t0,ajn,f0,Lo,ny,sQ,ajo,wq,gY,⟨g1,t1,ajp,f1,hO,cV,cR,N8,jx,lA,⟨g2,t2,ajq,f2,hp,dU,dp,tP,fY,ke,⟨g3,t3,ajr,f3,oY,gb,ib,aic,aid,aie,⟨g4,t4,ajs,f4,L6,hL,R8,aif,aih,HP,⟨g5,t5,ajt,f5,aju,mH,R9,aii,aij,aik,_,_⟩,_⟩,_⟩,_⟩,_⟩,_⟩,_,_⟩:=h;have gH:=Br R8 (by kernel_rfl:_=some 0);subst gH;have ail:=Bs aif (by kernel_rfl:_=some 221);subst ail;have MW:=Mk (zs:=mS) (n:=9) Tryz.underlying221 Tryz.underlying9 (by kernel_rfl) (by kernel_rfl) HP;have gj:=Br R9 (by kernel_rfl:_=some 1);subst gj;have aim:=Bs aii (by kernel_rfl:_=some 222);subst aim;have ain:=Mk (zs:=r3) (n:=2) Tryz.underlying222 Tryz.underlying9 (by kernel_rfl) (by kernel_rfl) aik;have cB:=Br ib (by kernel_rfl:_=some 2);subst cB;have tV:=Bs aic (by kernel_rfl:_=some 285);subst tV;have se:=Lib.cells_of_tab (zs:=Mi) (k:=.i64) (n:=2) Tryz.underlying285 Tryz.underlying3 (by kernel_rfl) (by kernel_rfl) aie;have aW:=Br dp (by kernel_rfl:_=some 3);subst aW;have mf:=Bs tP (by kernel_rfl:_=some 315);subst mf;have cF:=Lib.cells_of_tab (zs:=Lib.pow10Tab) (k:=.u64) (n:=20) Tryz.underlying315 Tryz.underlying266 (by kernel_rfl) (by kernel_rfl) ke;intro i x aj;have hi:i=0\/i=1\/i=2\/i=3:=by
  match i,aj with
  | 0,_=>exact .inl rfl
  | 1,_=>exact .inr (.inl rfl)
  | 2,_=>exact .inr (.inr (.inl rfl))
  | 3,_=>exact .inr (.inr (.inr rfl))
  | _+4,h=>cases h
 rcases hi with rfl | rfl | rfl | rfl
 ·cases aj
  exact Bq R8 aih (by rw[MW]; exact FC _)
 ·cases aj
  exact Bq R9 aij (by rw[ain]; exact FC _)
 ·cases aj
  exact Bq ib aid (by rw[se]; exact FB _)
 ·cases aj
  exact Bq dp fY (by rw[cF]; exact FB _)
theorem aio(os:Os) (args:Array Value):laidMetH Tryz.prog Rows.shiftsFrontRow.laid ((World.doorLaid Tryz.prog 400 os).forCall (fun _ _=>0) ⟨#[],args,[]⟩).memory:=
 laidMetH_of_parts3 (fuel:=8) (laidMet_of_run' 8 (by kernel_rfl) (by kernel_rfl)) (by kernel_rfl) (by kernel_rfl)
theorem aip:∀ t∈Tryz.f4.params.toList,Tryz.prog.readableRec t=true/\t < Tryz.prog.types.size:=by
 rw[Tryz.params4];intro t aV;simp only[List.mem_cons,List.not_mem_nil,or_false]at aV
 rcases aV with rfl | rfl<;>exact⟨by kernel_rfl,of_decide_eq_true (by kernel_rfl)⟩
theorem aiq(os:Os) (started:os.Started) (H:Type) (enc:TypeId×Value->H) :
  ReturnsInHanded {} Tryz.checked os 4 .any (fun w args=>(Rows.shiftsFrontSpec.pre enc Tryz.prog Tryz.f4 [] false w args/\laidMetH Tryz.prog Rows.shiftsFrontRow.laid w)/\sizedMet enc Tryz.prog Tryz.f4 (OpenSpec.ofChange Rows.shiftsFrontSpec) false w args)
   (Rows.shiftsFrontSpec.post enc Tryz.prog Tryz.f4 false true false false):=by
 refine returnsInHanded_of_change_and (C:=Tryz.checked) (X:=fun w _=>laidMetH Tryz.prog Rows.shiftsFrontRow.laid w) (fun _ _ _ cn h=>h.of_heap cn) Tryz.own started (by kernel_rfl) Tryz.func4
  (ChangeSpec.witness_shaped (enc:=enc) (C:=Tryz.checked) (os:=os) (X:=fun w _=>laidMetH Tryz.prog Rows.shiftsFrontRow.laid w) false (World.doorLaid Tryz.prog 400 os) #[.slice none 0 0,.int .u8 0] 8 rfl (World.shaped_of_RefB (by kernel_rfl) (by kernel_rfl)) (by kernel_rfl) (by kernel_rfl) (by kernel_rfl) (aio os _)) ?_
 intro W base args aE gs before air rF _ _ dY _;have sW:∀ (j:Nat) t v,Tryz.f4.params[j]?=some t->args[j]?=some v->Value.okWide Tryz.prog W .any base t v:=air;have AM:=rF;obtain⟨p,q,h6,iQ,rfl,Mu,lu⟩:=rF;have ag:DataW.TrodAll enc Tryz.prog W 0 (fun _=>true) true Tryz.f4.params.toList args.toList aE p:=h6;rw[Tryz.params4]at ag sW;obtain⟨v0,v1,d0,d1,Lo,hO,rfl,rfl,rfl,aN,J⟩:=trodAll_two ag;obtain⟨rfl,rfl⟩:=trodVars_none iQ;obtain⟨p1,qx,wq⟩:=XK (g:=g3) (by decide) Tryz.underlying23 (by kernel_rfl) (XX b2 12 84 g3 (by kernel_rfl)) (sW 0 23 v0 rfl rfl) aN;obtain⟨nu,rfl,rfl,rfl,mZ⟩:=open_int Tryz.underlying5 (sW 1 5 v1 rfl rfl) J;have xd:=XO mZ;have ais:=AC.law (W:=W) (aia p1 nu none true (ah7 (N:=6000) (by decide) (ah8 0) p1 (fun z bG=>ah9 (qx z bG)) nu)) (aib dY) (vs:=[v0,.int .u8 nu]) ⟨v0,_,rfl,wq _,.int .u8 nu,_,rfl,rfl,rfl⟩;refine Calls.mono ais fun e de ⟨v,he,aB,hw⟩=>?_
 subst aB;exact⟨_,he,Th AM rfl rfl (by kernel_rfl) Tryz.underlying4 Tryz.laidOut aip hw⟩
theorem ait:Rows.ShiftsFrontSaid:=
 OpenClaim.holds_of_wide 4 Tryz.f4 rfl rfl rfl rfl rfl rfl rfl ⟨rfl,rfl,rfl,rfl,rfl⟩ rfl rfl rfl rfl rfl (by kernel_rfl) Tryz.func4 (by kernel_rfl)
  (of_decide_eq_true (by kernel_rfl)) (by unfold Func.isWrapper; first | (rw[if_pos (by decide +kernel)]; kernel_rfl) | (rw[if_neg (by decide +kernel)]; exact⟨rfl,rfl⟩))
  (fun os started H enc _=>aiq os started H enc)
theorem shiftsFront_holds:Rows.ShiftsFrontCardSaid:=
 Claim7.holds_tied_plain_at .later [] [.data,.data,.data,.data,.data,.data] true Rows.shiftsFrontCard.stood.harness false
  ait (fun _ h=>by cases h) (by kernel_rfl) (fun _ h=>by cases h) shiftsFront_row_tie rfl ⟨rfl,rfl⟩ (by kernel_rfl) rfl
  (fun f fn aA gR=>by
   obtain rfl:f=4:=Option.some.inj (aA.symm.trans (by kernel_rfl));obtain rfl:fn=Tryz.f4:=(Option.some.inj (Tryz.func4.symm.trans gR)).symm;exact⟨by kernel_rfl,fun j t aV=>by
    rw[Tryz.params4]at aV;have hm:t∈[23,5]:=by simpa using Array.mem_of_getElem? aV
    have lC:([23,5].all fun u=>!Tryz.prog.wantsStandIn u)=true:=by kernel_rfl
    exact(show Tryz.prog.wantsStandIn t=false by simpa using List.all_eq_true.1 lC t hm)⟩)
  (by kernel_rfl)
end
end Go.Proofs.YtcheedjfedcbpaaGreatDoor
