/- PicturesDraw: for every chart of the law and every text, whatever the memory and the order that Go leaves open, the law returns true, and its arguments read as before. No condition. -/
import Derived.Test.YteglgnkcpaagjaaPd3
import Derived.Test.YteglgnkcpaagjaaRows
import Derived.ChangeMaps5
set_option linter.unusedSimpArgs false
set_option linter.unusedVariables false
/- PicturesDraw, the plain part: checks of charts of knit and purl stitches. -/
namespace Go.Proofs.Yteglgnkcpaagjaa
open Go.RowKit
def St6 (x:Kt4):Prop:=(x.1=1∨x.1=2)∧1≤x.2.1∧x.2.1≤6∧x.2.2=(0,0,false)
theorem St12.six {x:Kt4} (h:St12 x):St6 x:=⟨h.1,h.2.1,(by have:=h.2.2.1; omega),h.2.2.2⟩
theorem stcheck_ok {N:Nat} {x:Kt4} (h:St6 x):m_stcheck N x=some 0:=by
  obtain ⟨k,n,e⟩:=x;obtain ⟨h1,h2,h3,h4⟩:=h;dsimp only at h1 h2 h3 h4;subst h4;unfold m_stcheck;dsimp only;rw [show decide (n < 1)=false from decide_eq_false (by omega),show decide (6 < n)=false from decide_eq_false (by omega)]
  rcases h1 with rfl | rfl <;> rfl
theorem stneeds_ok {N:Nat} {x:Kt4} (h:St6 x):m_stneeds N x=some 1:=by
  unfold m_stneeds;rw [stcheck_ok h,Option.bind_some];obtain ⟨k,n,e⟩:=x;obtain ⟨h1,h2,h3,h4⟩:=h;dsimp only at h1
  rcases h1 with rfl | rfl <;> rfl
theorem stmakes_ok {N:Nat} {x:Kt4} (h:St6 x):m_stmakes N x=some 1:=by
  unfold m_stmakes;rw [stcheck_ok h,Option.bind_some];obtain ⟨k,n,e⟩:=x;obtain ⟨h1,h2,h3,h4⟩:=h;dsimp only at h1
  rcases h1 with rfl | rfl <;> rfl
theorem chneeds_ok {N:Nat} (hN:300 < N) (l:List Kt4) (h1:l.length≤300) (h:∀ x∈l,St6 x):m_chneeds N l=some (l.length:Int):=by
  have hL:m_chtotN_L1 N l N ((0:Int),(0:Int))=some (l.length:Int):=by
    refine loopF_eq (fun k (d:Int×Int)=>∃ j:Nat,j+k=l.length∧d=((j:Int),(j:Int))) _ ?_ N l.length _ (by omega) ⟨0,by omega,rfl⟩;rintro k d rec ⟨j,hj,rfl⟩ hrec;dsimp only
    by_cases hlt:j < l.length
    · obtain ⟨x,hx⟩:∃ x,l[j]?=some x:=⟨_,List.getElem?_eq_getElem hlt⟩
      rw [show decide ((j:Int) < (l.length:Int))=true from decide_eq_true (by omega),cond_true,gdT (by rw [inB_T hlt]; rfl),Int.toNat_natCast,getD_of hx,stneeds_ok (h x (List.mem_of_getElem? hx)),Option.bind_some,gdT (by rw [inI64_T (by omega) (by omega)]; rfl),gdT (by rw [inI64_T (by omega) (by omega)]; rfl)];exact hrec (k - 1) _ (by omega) ⟨j+1,by omega,rfl⟩
    · rw [show decide ((j:Int) < (l.length:Int))=false from decide_eq_false (by omega),cond_false]
      congr 1
      omega
  unfold m_chneeds m_chtotN;rw [hL]
  rfl
theorem chmakes_ok {N:Nat} (hN:300 < N) (l:List Kt4) (h1:l.length≤300) (h:∀ x∈l,St6 x):m_chmakes N l=some (l.length:Int):=by
  have hL:m_chtotM_L1 N l N ((0:Int),(0:Int))=some (l.length:Int):=by
    refine loopF_eq (fun k (d:Int×Int)=>∃ j:Nat,j+k=l.length∧d=((j:Int),(j:Int))) _ ?_ N l.length _ (by omega) ⟨0,by omega,rfl⟩;rintro k d rec ⟨j,hj,rfl⟩ hrec;dsimp only
    by_cases hlt:j < l.length
    · obtain ⟨x,hx⟩:∃ x,l[j]?=some x:=⟨_,List.getElem?_eq_getElem hlt⟩
      rw [show decide ((j:Int) < (l.length:Int))=true from decide_eq_true (by omega),cond_true,gdT (by rw [inB_T hlt]; rfl),Int.toNat_natCast,getD_of hx,stmakes_ok (h x (List.mem_of_getElem? hx)),Option.bind_some,gdT (by rw [inI64_T (by omega) (by omega)]; rfl),gdT (by rw [inI64_T (by omega) (by omega)]; rfl)];exact hrec (k - 1) _ (by omega) ⟨j+1,by omega,rfl⟩
    · rw [show decide ((j:Int) < (l.length:Int))=false from decide_eq_false (by omega),cond_false]
      congr 1
      omega
  unfold m_chmakes m_chtotM;rw [hL]
  rfl
theorem chrow_ok {N:Nat} (hN:300 < N) (l:List Kt4) (h1:l.length≤16) (h0:1≤l.length) (h:∀ x∈l,St6 x):m_chrow N l=some 0:=by
  have hL:m_chrow_L1 N l N (0:Int)=some (.inl ()):=by
    refine loopF_eq (fun k (d:Int)=>∃ j:Nat,j+k=l.length∧d=(j:Int)) _ ?_ N l.length _ (by omega) ⟨0,by omega,rfl⟩;rintro k d rec ⟨j,hj,rfl⟩ hrec
    by_cases hlt:j < l.length
    · obtain ⟨x,hx⟩:∃ x,l[j]?=some x:=⟨_,List.getElem?_eq_getElem hlt⟩
      rw [show decide ((j:Int) < (l.length:Int))=true from decide_eq_true (by omega),cond_true,gdT (by rw [inB_T hlt]; rfl),Int.toNat_natCast,getD_of hx,stcheck_ok (h x (List.mem_of_getElem? hx)),Option.bind_some];rw [show (!(decide ((0:Int)=0)))=false from rfl,cond_false,gdT (by rw [inI64_T (by omega) (by omega)]; rfl)];exact hrec (k - 1) _ (by omega) ⟨j+1,by omega,rfl⟩
    · rw [show decide ((j:Int) < (l.length:Int))=false from decide_eq_false (by omega),cond_false]
  unfold m_chrow;rw [show decide ((16:Int) < (l.length:Int))=false from decide_eq_false (by omega),cond_false,show decide ((l.length:Int)=0)=false from decide_eq_false (by omega),cond_false,hL,Option.bind_some];show Option.bind (m_chneeds N l) (fun r3=>Option.bind (m_chmakes N l) fun r4=>cond (cond (cond (cond (decide (r3 < (1:Int))) true (decide ((16:Int) < r3))) true (decide (r4 < (1:Int)))) true (decide ((16:Int) < r4))) (some (5:Int)) (some (0:Int)))=_;rw [chneeds_ok hN l (by omega) h,Option.bind_some,chmakes_ok hN l (by omega) h,Option.bind_some,show decide ((l.length:Int) < 1)=false from decide_eq_false (by omega),show decide ((16:Int) < (l.length:Int))=false from decide_eq_false (by omega)]
  rfl
structure Ch6 (p:List (List Kt4)) (w:Nat):Prop where
  few:p.length≤31
  odd:p.length % 2=1
  w1:1≤w
  w16:w≤16
  wide:∀ r∈p,r.length=w
  st:∀ r∈p,∀ x∈r,St6 x
theorem Ch6.row {p:List (List Kt4)} {w:Nat} (h:Ch6 p w) {j:Nat} {r:List Kt4} (hr:p[j]?=some r):r.length=w∧∀ x∈r,St6 x:=⟨h.wide r (List.mem_of_getElem? hr),h.st r (List.mem_of_getElem? hr)⟩
theorem chrows_ok {N:Nat} (hN:300 < N) {p:List (List Kt4)} {w:Nat} (h:Ch6 p w):m_chrows N p=some 0:=by
  have hf:=h.few;have ho:=h.odd;have h1:=h.w1;have h16:=h.w16;have hL1:m_chrows_L1 N p N (0:Int)=some (.inl ()):=by
    refine loopF_eq (fun k (d:Int)=>∃ j:Nat,j+k=p.length∧d=(j:Int)) _ ?_ N p.length _ (by omega) ⟨0,by omega,rfl⟩;rintro k d rec ⟨j,hj,rfl⟩ hrec
    by_cases hlt:j < p.length
    · obtain ⟨r,hr⟩:∃ r,p[j]?=some r:=⟨_,List.getElem?_eq_getElem hlt⟩
      obtain ⟨hw,hs⟩:=h.row hr;rw [show decide ((j:Int) < (p.length:Int))=true from decide_eq_true (by omega),cond_true,gdT (by rw [inB_T hlt]; rfl),Int.toNat_natCast,getD_of hr,chrow_ok hN r (by omega) (by omega) hs,Option.bind_some];rw [show (!(decide ((0:Int)=0)))=false from rfl,cond_false,gdT (by rw [inI64_T (by omega) (by omega)]; rfl)];exact hrec (k - 1) _ (by omega) ⟨j+1,by omega,rfl⟩
    · rw [show decide ((j:Int) < (p.length:Int))=false from decide_eq_false (by omega),cond_false]
  have hL3:m_chrows_L3 N p N (1:Int)=some (.inl ()):=by
    refine loopF_eq (fun k (d:Int)=>∃ j:Nat,1≤j∧j+k=p.length∧d=(j:Int)) _ ?_ N (p.length - 1) _ (by omega) ⟨1,by omega,by omega,rfl⟩;rintro k d rec ⟨j,hj1,hj,rfl⟩ hrec
    by_cases hlt:j < p.length
    · obtain ⟨r,hr⟩:∃ r,p[j]?=some r:=⟨_,List.getElem?_eq_getElem hlt⟩
      obtain ⟨hw,hs⟩:=h.row hr;obtain ⟨r2,hr2⟩:∃ r,p[j - 1]?=some r:=⟨_,List.getElem?_eq_getElem (by omega)⟩
      obtain ⟨hw2,hs2⟩:=h.row hr2;have e1:(j:Int) - 1=((j - 1:Nat):Int):=by omega
      rw [show decide ((j:Int) < (p.length:Int))=true from decide_eq_true (by omega),cond_true,gdT (by rw [inB_T hlt,inI64_T (by omega) (by omega),e1,inB_T (by omega)]; rfl),e1,Int.toNat_natCast,Int.toNat_natCast,getD_of hr,getD_of hr2,chneeds_ok hN r (by omega) hs,Option.bind_some,chmakes_ok hN r2 (by omega) hs2,Option.bind_some];rw [show (!(decide ((r.length:Int)=(r2.length:Int))))=false by rw [hw,hw2]; simp,cond_false,gdT (by rw [inI64_T (by omega) (by omega)]; rfl)];exact hrec (k - 1) _ (by omega) ⟨j+1,by omega,by omega,rfl⟩
    · rw [show decide ((j:Int) < (p.length:Int))=false from decide_eq_false (by omega),cond_false]
  unfold m_chrows;have e2:Int.tmod (p.length:Int) 2=(p.length:Int) % 2:=Int.tmod_eq_emod_of_nonneg (by omega);rw [show decide ((31:Int) < (p.length:Int))=false from decide_eq_false (by omega),cond_false,e2,show decide ((p.length:Int) % 2=0)=false from decide_eq_false (by omega),cond_false,hL1,Option.bind_some];show Option.bind (m_chrows_L3 N p N (1:Int)) (fun (o3:(Unit)⊕(Int))=>sm o3 (fun o3=>some (0:Int)) (fun q=>some q))=_;rw [hL3]
  rfl
theorem stloads_ok {N:Nat} (hN:300 < N) {x:Kt4} (h:St6 x):m_stloads N x [1]=some ([1],0):=by
  obtain ⟨n,rfl⟩:∃ n,N=n+2:=⟨N - 2,by omega⟩
  have h3:m_stloads_L3 (n+2) [1] (n+2) (0:Int)=some (.inl ()):=rfl;have h5:m_stloads_L5 (n+2) 1 (n+2) ((0:Int),(List.replicate (1:Int).toNat (0:Int)))=some [1]:=rfl;unfold m_stloads;rw [stcheck_ok h,Option.bind_some,show (!(decide ((0:Int)=0)))=false from rfl,cond_false,stneeds_ok h,Option.bind_some,show (!(decide ((([1]:List Int).length:Int)=1)))=false from rfl,cond_false,h3,Option.bind_some];show Option.bind (m_stmakes (n+2) x) _=_;rw [stmakes_ok h,Option.bind_some,gdT (by rfl),h5,Option.bind_some];obtain ⟨k,m,e⟩:=x;obtain ⟨h1,h2,h4,h6⟩:=h;dsimp only at h1
  rcases h1 with rfl | rfl <;> rfl
end Go.Proofs.Yteglgnkcpaagjaa

/- PicturesDraw, the plain part: the loads of a chart. -/
namespace Go.Proofs.Yteglgnkcpaagjaa
open Go.RowKit
theorem chloads_L3_ok {N:Nat} (hN:300 < N) (w:Nat) (hw:w≤16):m_chloads_L3 N (w:Int) N ((0:Int),List.replicate w (0:Int))=some (List.replicate w 1):=by
  refine loopF_eq (fun k (d:Int×List Int)=>∃ j:Nat,j+k=w∧d=((j:Int),fil (fun _:Int=>(1:Int)) 0 (List.replicate w (0:Int)) j)) _ ?_ N w _ (by omega) ⟨0,by omega,by rw [fil_zero]; simp⟩;rintro k d rec ⟨j,hj,rfl⟩ hrec;dsimp only;rw [Int.toNat_natCast,List.length_replicate,Int.toNat_natCast];have hl:(fil (fun _:Int=>(1:Int)) 0 (List.replicate w (0:Int)) j).length=w:=by rw [fil_len _ _ _ _ (by simp; omega)]; simp
  by_cases hlt:j < w
  · rw [show decide ((j:Int) < (w:Int))=true from decide_eq_true (by omega),cond_true,hl,gdT (by rw [inB_T hlt,show decide (j < w)=true from decide_eq_true hlt]; rfl),gdT (by rw [inI64_T (by omega) (by omega)]; rfl)]
    rw [fil_set (fun _:Int=>(1:Int)) 0 (List.replicate w (0:Int)) j (by simp; omega) 0 (by simp [hlt])];exact hrec (k - 1) _ (by omega) ⟨j+1,by omega,rfl⟩
  · rw [show decide ((j:Int) < (w:Int))=false from decide_eq_false (by omega),cond_false]
    have:j=(List.replicate w (0:Int)).length:=by simp; omega
    rw [this,fil_all]
    simp
theorem chloads_L6_ok {N:Nat} (hN:300 < N) (p:List (List Kt4)) (y:Nat) (r:List Kt4) (hr:p[y]?=some r) (hw:r.length≤16) (hs:∀ x∈r,St6 x) (v:List (List Int)) :
    m_chloads_L6 N p (y:Int) v N (List.replicate r.length (1:Int),(0:Int),([]:List Int))=some (.inl (List.replicate r.length 1)):=by
  refine loopF_eq (fun k (d:List Int×Int×List Int)=>∃ j:Nat,j+k=r.length∧d=(List.replicate (r.length - j) 1,(j:Int),List.replicate j 1)) _ ?_ N r.length _ (by omega) ⟨0,by omega,by simp⟩;rintro k d rec ⟨j,hj,rfl⟩ hrec;dsimp only;rw [Int.toNat_natCast,getD_of hr]
  by_cases hlt:j < r.length
  · obtain ⟨x,hx⟩:∃ x,r[j]?=some x:=⟨_,List.getElem?_eq_getElem hlt⟩
    have hsx:=hs x (List.mem_of_getElem? hx);rw [show decide ((j:Int) < (r.length:Int))=true from decide_eq_true (by omega),cond_true,gdT (by rw [inB_T hlt]; rfl),Int.toNat_natCast,getD_of hx,stneeds_ok hsx,Option.bind_some];have hg:((decide ((0:Int)≤1))&&(decide ((1:Int)≤((List.replicate (r.length - j) (1:Int)).length:Int))))=true:=by
      rw [List.length_replicate]
      simp
      omega
    have ht:(List.replicate (r.length - j) (1:Int)).take (1:Int).toNat=[1]:=by
      rw [show r.length - j=(r.length - j - 1)+1 by omega]
      rfl
    have hd:(List.replicate (r.length - j) (1:Int)).drop (1:Int).toNat=List.replicate (r.length - (j+1)) 1:=by
      show (List.replicate (r.length - j) (1:Int)).drop 1=_;rw [List.drop_replicate]
      congr 1
    rw [hg,ht,stloads_ok hN hsx,gdT (by rfl),Option.bind_some];rw [show (!(decide ((0:Int)=0)))=false from rfl,cond_false,gdT (by rfl),gdT (by simp [fitB]; omega),gdT (by rw [inI64_T (by omega) (by omega)]; rfl),hd];exact hrec (k - 1) _ (by omega) ⟨j+1,by omega,by rw [List.replicate_succ']; rfl⟩
  · rw [show decide ((j:Int) < (r.length:Int))=false from decide_eq_false (by omega),cond_false,show j=r.length by omega]
theorem chcheck_ok {N:Nat} (hN:300 < N) {p:List (List Kt4)} {w:Nat} (h:Ch6 p w):m_chcheck N p=some 0:=by
  have hf:=h.few;have ho:=h.odd;have h1:=h.w1;have h16:=h.w16;have hL4:∃ q,m_chloads_L4 N p N ((0:Int),[List.replicate w (1:Int)])=some q∧q.1=0:=by
    refine loopF_inv (fun k (d:Int×List (List Int))=>∃ j:Nat,j+k=p.length∧d=((j:Int),List.replicate (j+1) (List.replicate w (1:Int)))) (fun (q:Int×List (List Int))=>q.1=0) ?_ N p.length _ (by omega) ⟨0,by omega,rfl⟩;rintro k d rec ⟨j,hj,rfl⟩ hrec;dsimp only
    by_cases hlt:j < p.length
    · obtain ⟨r,hr⟩:∃ r,p[j]?=some r:=⟨_,List.getElem?_eq_getElem hlt⟩
      obtain ⟨hw,hs⟩:=h.row hr;have hz:=chloads_L6_ok hN p j r hr (by omega) hs (List.replicate (j+1) (List.replicate w (1:Int)));rw [hw] at hz;have hg:(List.replicate (j+1) (List.replicate w (1:Int))).getD j []=List.replicate w 1:=getD_of (by simp);rw [show decide ((j:Int) < (p.length:Int))=true from decide_eq_true (by omega),cond_true,gdT (by rw [inB_T hlt]; rfl),gdT (by rw [inB_T (by simp),Int.toNat_natCast]; simp),Int.toNat_natCast,getD_of hr,chmakes_ok hN r (by omega) hs,Option.bind_some,gdT (by simp; omega),hg,hz,Option.bind_some];have hc:fitB 24 ((List.replicate (j+1) (List.replicate w (1:Int))).length+[List.replicate w (1:Int)].length)=true:=by simp [fitB]; omega
      refine Eq.mp (by rfl) (?_:∃ q,(gd (fitB 24 ((List.replicate (j+1) (List.replicate w (1:Int))).length+[List.replicate w (1:Int)].length)&&true) (gd (inI64 ((j:Int)+1)&&true) (rec ((j:Int)+1,List.replicate (j+1) (List.replicate w (1:Int))++[List.replicate w (1:Int)]))))=some q∧q.1=0);rw [hc,gdT (by rfl),gdT (by rw [inI64_T (by omega) (by omega)]; rfl)];exact hrec (k - 1) _ (by omega) ⟨j+1,by omega,by rw [List.replicate_succ' (n:=j+1)]; rfl⟩
    · rw [show decide ((j:Int) < (p.length:Int))=false from decide_eq_false (by omega),cond_false]
      exact ⟨_,rfl,rfl⟩
  obtain ⟨q,hq,hq0⟩:=hL4;obtain ⟨r,hr⟩:∃ r,p[0]?=some r:=⟨_,List.getElem?_eq_getElem (by omega)⟩
  obtain ⟨hw,hs⟩:=h.row hr;have hl:∃ z,m_chloads N p=some (z,0):=by
    unfold m_chloads;rw [chrows_ok hN h,Option.bind_some,show (!(decide ((0:Int)=0)))=false from rfl,cond_false,gdT (by simp [inB]; omega),show (0:Int).toNat=0 from rfl,getD_of hr,chneeds_ok hN r (by omega) hs,Option.bind_some,hw];rw [gdT (by simp; omega),Int.toNat_natCast,chloads_L3_ok hN w h16,Option.bind_some,gdT (by rw [inI64_T (by omega) (by omega)]; simp; omega),gdT (by rfl)];rw [show (List.replicate (1:Int).toNat ([]:List Int)).set 0 (List.replicate w 1)=[List.replicate w (1:Int)] from rfl,hq,Option.bind_some,hq0];exact ⟨_,rfl⟩
  obtain ⟨z,hz⟩:=hl;unfold m_chcheck;rw [hz]
  rfl
theorem pplain_ok {N:Nat} (hN:300 < N) {p:List (List Kt4)} {w:Nat} (h:Ch6 p w):m_pplain N p=some true:=by
  have hf:=h.few;have h16:=h.w16;have hL3:∀ (y:Nat) (r:List Kt4),p[y]?=some r→m_pplain_L3 N p (y:Int) N (0:Int)=some (.inl ()):=fun y r hr=>by
    obtain ⟨hw,hs⟩:=h.row hr;refine loopF_eq (fun k (d:Int)=>∃ j:Nat,j+k=r.length∧d=(j:Int)) _ ?_ N r.length _ (by omega) ⟨0,by omega,rfl⟩;rintro k d rec ⟨j,hj,rfl⟩ hrec;rw [Int.toNat_natCast,getD_of hr]
    by_cases hlt:j < r.length
    · obtain ⟨x,hx⟩:∃ x,r[j]?=some x:=⟨_,List.getElem?_eq_getElem hlt⟩
      obtain ⟨hk,_⟩:=hs x (List.mem_of_getElem? hx);rw [show decide ((j:Int) < (r.length:Int))=true from decide_eq_true (by omega),cond_true,gdT (by rw [inB_T hlt]; rfl),Int.toNat_natCast,getD_of hx];rw [show cond (!(decide (x.1=(1:Int)))) (!(decide (x.1=(2:Int)))) false=false by rcases hk with e | e <;> rw [e] <;> rfl,cond_false,gdT (by rw [inI64_T (by omega) (by omega)]; rfl)];exact hrec (k - 1) _ (by omega) ⟨j+1,by omega,rfl⟩
    · rw [show decide ((j:Int) < (r.length:Int))=false from decide_eq_false (by omega),cond_false]
  have hL2:m_pplain_L2 N p N (0:Int)=some (.inl ()):=by
    refine loopF_eq (fun k (d:Int)=>∃ j:Nat,j+k=p.length∧d=(j:Int)) _ ?_ N p.length _ (by omega) ⟨0,by omega,rfl⟩;rintro k d rec ⟨j,hj,rfl⟩ hrec
    by_cases hlt:j < p.length
    · obtain ⟨r,hr⟩:∃ r,p[j]?=some r:=⟨_,List.getElem?_eq_getElem hlt⟩
      have hg:inI64 ((j:Int)+1)=true:=inI64_T (by omega) (by omega);rw [show decide ((j:Int) < (p.length:Int))=true from decide_eq_true (by omega),cond_true,gdT (by rw [inB_T hlt]; rfl),hL3 j r hr,Option.bind_some]
      have:=hrec (k - 1) ((j+1:Nat):Int) (by omega) ⟨j+1,by omega,rfl⟩
      refine Eq.trans ?_ this;refine Eq.trans (b:=gd (inI64 ((j:Int)+1)&&true) (rec ((j:Int)+1))) rfl ?_;rw [hg]
      rfl
    · rw [show decide ((j:Int) < (p.length:Int))=false from decide_eq_false (by omega),cond_false]
  unfold m_pplain;rw [chcheck_ok hN h,Option.bind_some,show (!(decide ((0:Int)=0)))=false from rfl,cond_false,hL2,Option.bind_some]
end Go.Proofs.Yteglgnkcpaagjaa

/- PicturesDraw, the plain part: the text of a chart. -/
namespace Go.Proofs.Yteglgnkcpaagjaa
open Go.RowKit
def bwk (l:List (List Kt4)):Nat→List (Int×List Kt4×Unit)
  | 0=>[]
  | j+1=>((j:Int),l.getD j [],()) :: bwk l j
theorem bwd_L1_ok {N:Nat} (l:List (List Kt4)) (hl:l.length≤300):∀ (j n:Nat),j < n→j≤l.length→m_bwdI_L1 N true l n ((j:Int) - 1)=some (bwk l j)
  | 0,n+1,_,_=>rfl
  | j+1,n+1,hn,hj=>by
    have ih:=bwd_L1_ok (N:=N) l hl j n (by omega) (by omega);have e1:((j+1:Nat):Int) - 1=(j:Int):=by omega
    rw [e1];refine Eq.trans (b:=cond (decide ((0:Int)≤(j:Int))) (gd ((inB (j:Int) l.length)&&(true))<|handM true ((j:Int),(l.getD (j:Int).toNat []),()) (some []) (gd ((inI64 ((j:Int) - (1:Int)))&&(true))<|m_bwdI_L1 N true l n ((j:Int) - (1:Int)))) (some [])) rfl ?_;rw [show decide ((0:Int)≤(j:Int))=true from decide_eq_true (by omega),cond_true,gdT (by rw [inB_T (by omega)]; rfl),gdT (by rw [inI64_T (by omega) (by omega)]; rfl),ih,Int.toNat_natCast]
    rfl
theorem bwd_ok {N:Nat} (hN:300 < N) (l:List (List Kt4)) (hl:l.length≤300):m_bwdI N true l=some (bwk l l.length):=by
  unfold m_bwdI;rw [gdT (by rw [inI64_T (by omega) (by omega)]; rfl)];exact bwd_L1_ok l hl _ _ (by omega) (Nat.le_refl _)
theorem bwrite_ok {N:Nat} (c:Int) (b:Bool) (l:List Int) (h:l.length≤1000):m_bwrite N c b l=some (true,l++[c]):=by
  unfold m_bwrite m_copyCheck;rw [Option.bind_some,gdT (by simp [fitB]; omega)]
def ltI (x:Kt4):Int:=if x.1=2 then 96+x.2.1 else 48+x.2.1
theorem ltI2 {x:Kt4} (h:St6 x) (e:x.1=2):IntKind.wrap .u8 ((IntKind.wrap .u8 ((97:Int)+x.2.1)) - (1:Int))=ltI x:=by
  obtain ⟨h1,h2,h3,h4⟩:=h;have e1:IntKind.wrap .u8 ((97:Int)+x.2.1)=97+x.2.1:=wrap8 (by omega) (by omega);rw [e1,wrap8 (by omega) (by omega),ltI,if_pos e];omega
theorem ltI1 {x:Kt4} (h:St6 x) (e:¬ x.1=2):IntKind.wrap .u8 ((48:Int)+x.2.1)=ltI x:=by
  obtain ⟨h1,h2,h3,h4⟩:=h;rw [wrap8 (by omega) (by omega),ltI,if_neg e]
theorem pdraw_L_ok {N:Nat} (hN:300 < N) (i:Int) (r:List Kt4) (hw:r.length≤16) (hs:∀ x∈r,St6 x) (buf:List Int) (hb:buf.length≤800) (b:Bool) :
    ∃ b',m_pdraw_L11 N (i,r,()) N ((0:Int),buf,b)=some (buf++r.map ltI,b'):=by
  obtain ⟨q,hq,hq2⟩:∃ q,m_pdraw_L11 N (i,r,()) N ((0:Int),buf,b)=some q∧q.1=buf++r.map ltI:=by
    refine loopF_inv (fun k (d:Int×List Int×Bool)=>∃ j:Nat,j+k=r.length∧d.1=(j:Int)∧d.2.1=buf++(r.take j).map ltI) (fun (q:List Int×Bool)=>q.1=buf++r.map ltI) ?_ N r.length _ (by omega) ⟨0,by omega,rfl,by simp⟩;rintro k ⟨d1,d2,d3⟩ rec ⟨j,hj,e1,e2⟩ hrec;dsimp only at e1 e2;subst e1;subst e2;dsimp only
    by_cases hlt:j < r.length
    · obtain ⟨x,hx⟩:∃ x,r[j]?=some x:=⟨_,List.getElem?_eq_getElem hlt⟩
      have hsx:=hs x (List.mem_of_getElem? hx);have hlen:(buf++(r.take j).map ltI).length≤1000:=by simp; omega
      have htk:(buf++(r.take j).map ltI)++[ltI x]=buf++(r.take (j+1)).map ltI:=by
        rw [List.append_assoc,List.take_add_one,hx]
        simp
      rw [show decide ((j:Int) < (r.length:Int))=true from decide_eq_true (by omega),cond_true,gdT (by rw [inB_T hlt]; rfl),Int.toNat_natCast,getD_of hx]
      by_cases e:x.1=2
      · rw [show decide (x.1=(2:Int))=true from decide_eq_true e,cond_true,ltI2 hsx e,bwrite_ok _ _ _ hlen,Option.bind_some,gdT (by rw [inI64_T (by omega) (by omega)]; rfl)]
        exact hrec (k - 1) _ (by omega) ⟨j+1,by omega,rfl,htk⟩
      · rw [show decide (x.1=(2:Int))=false from decide_eq_false e,cond_false,ltI1 hsx e,bwrite_ok _ _ _ hlen,Option.bind_some,gdT (by rw [inI64_T (by omega) (by omega)]; rfl)]
        exact hrec (k - 1) _ (by omega) ⟨j+1,by omega,rfl,htk⟩
    · rw [show decide ((j:Int) < (r.length:Int))=false from decide_eq_false (by omega),cond_false]
      refine ⟨_,rfl,?_⟩;show buf++(r.take j).map ltI=_;rw [List.take_of_length_le (by omega)]
  obtain ⟨q1,q2⟩:=q;exact ⟨q2,hq.trans (by rw [show q1=_ from hq2])⟩
theorem pdraw_range {N:Nat} (hN:300 < N) (K:(List Int)×Bool→Option (List UInt8)):∀ (L:List (Int×List Kt4×Unit)),(∀ e∈L,e.2.1.length≤16∧∀ x∈e.2.1,St6 x)→∀ (buf:List Int) (b:Bool),buf.length+17 * L.length≤800 →
    ∃ b',rangeL (fun (x10:Int×(List Kt4)×Unit) (y10:(List Int)×Bool) (k10:(List Int)×Bool→Option (List UInt8))=>Option.bind (m_pdraw_L11 N x10 N ((0:Int),y10.1,y10.2)) fun o11=>Option.bind (m_bwrite N (10:Int) o11.2 o11.1) fun r14=>k10 (r14.2,r14.1)) L (buf,b) K=K (buf++L.flatMap (fun e=>e.2.1.map ltI++[10]),b')
  | [],_,buf,b,_=>⟨b,by simp [rangeL]⟩
  | (i,r,u) :: L,h,buf,b,hb=>by
    obtain ⟨h1,h2⟩:=h _ List.mem_cons_self;simp only [List.length_cons] at hb;obtain ⟨b1,e1⟩:=pdraw_L_ok hN i r h1 h2 buf (by omega) b;have hlen:(buf++r.map ltI).length≤1000:=by simp; dsimp only at h1; omega
    obtain ⟨b2,e2⟩:=pdraw_range hN K L (fun e he=>h e (List.mem_cons_of_mem _ he)) ((buf++r.map ltI)++[10]) true (by simp; dsimp only at h1; omega);refine ⟨b2,?_⟩;have e3:buf++((i,r,u) :: L).flatMap (fun e=>e.2.1.map ltI++[10])=((buf++r.map ltI)++[10])++L.flatMap (fun e=>e.2.1.map ltI++[10]):=by simp
    rw [e3,← e2];show Option.bind (m_pdraw_L11 N (i,r,()) N ((0:Int),buf,b)) _=_;rw [e1,Option.bind_some,bwrite_ok _ _ _ hlen,Option.bind_some]
end Go.Proofs.Yteglgnkcpaagjaa

/- PicturesDraw, the plain part: Draw. -/
namespace Go.Proofs.Yteglgnkcpaagjaa
open Go.RowKit
theorem bwk_len (l:List (List Kt4)):∀ j,(bwk l j).length=j
  | 0=>rfl
  | j+1=>by simp [bwk,bwk_len l j]
theorem bwk_mem {l:List (List Kt4)}:∀ {j:Nat},j≤l.length→∀ e∈bwk l j,e.2.1∈l
  | 0,_,_,h=>by cases h
  | j+1,hj,e,h=>by
    rcases List.mem_cons.1 h with rfl | h
    · show l.getD j []∈l
      rw [List.getD_eq_getElem?_getD,List.getElem?_eq_getElem (by omega)];exact List.getElem_mem _
    · exact bwk_mem (by omega) e h
def txtI (p:List (List Kt4)):List Int:=(bwk p p.length).flatMap (fun e=>e.2.1.map ltI++[10])
theorem txtI_rng {p:List (List Kt4)} {w:Nat} (h:Ch6 p w):∀ z∈txtI p,0≤z∧z < 128:=fun z hz=>by
  obtain ⟨e,he,hz⟩:=List.mem_flatMap.1 hz
  rcases List.mem_append.1 hz with hz | hz
  · obtain ⟨x,hx,rfl⟩:=List.mem_map.1 hz
    obtain ⟨h1,h2,h3,_⟩:=h.st _ (bwk_mem (Nat.le_refl _) e he) x hx;unfold ltI
    split <;> omega
  · rw [List.mem_singleton.1 hz]; omega
theorem pdraw_ok {N:Nat} (hN:300 < N) {p:List (List Kt4)} {w:Nat} (h:Ch6 p w):m_pdraw N p=some (bsOf (txtI p)):=by
  have hf:=h.few;have ho:=h.odd;have h16:=h.w16;unfold m_pdraw;rw [pplain_ok hN h,Option.bind_some,show (!true)=false from rfl,cond_false];show Option.bind (some p) _=_;rw [Option.bind_some,bwd_ok hN p (by omega),Option.bind_some];obtain ⟨b',e⟩:=pdraw_range hN (fun o10=>Option.bind (m_bString o10.2 o10.1) fun r15=>some r15) (bwk p p.length) (fun e he=>by
    have:=bwk_mem (Nat.le_refl _) e he
    exact ⟨by rw [h.wide _ this]; exact h16,h.st _ this⟩) [] false (by rw [bwk_len]; simp; omega)
  refine Eq.trans e ?_;rw [List.nil_append];have hb:isBs (txtI p)=true:=by
    unfold isBs;rw [List.all_eq_true];intro z hz
    have:=txtI_rng h z hz
    simp
    omega
  have hne:(txtI p).isEmpty=false:=by
    obtain ⟨n,hn⟩:∃ n,p.length=n+1:=⟨p.length - 1,by omega⟩
    unfold txtI;rw [hn]
    simp [bwk]
  show Option.bind (m_bString b' (txtI p)) _=_;unfold m_bString;rw [hb,hne]
  rfl
end Go.Proofs.Yteglgnkcpaagjaa

/- PicturesDraw, the plain part: the law's own loops. -/
namespace Go.Proofs.Yteglgnkcpaagjaa
open Go.RowKit
theorem Ch12.six {p:List (List Kt4)} {w h:Nat} (c:Ch12 p w (2 * h+1)) (h1:1≤w) (h8:w≤8) (h4:h≤4):Ch6 p w:=
  ⟨by have:=c.rows; omega,by have:=c.rows; omega,h1,by omega,c.wide,fun r hr x hx=>(c.st r hr x hx).six⟩
theorem bsOf_app (a b:List Int):bsOf (a++b)=bsOf a++bsOf b:=by simp [bsOf]
theorem law_L6_ok {N:Nat} (hN:300 < N) {p:List (List Kt4)} {w:Nat} (h:Ch6 p w) (y:Nat) (r:List Kt4) (hr:p[y]?=some r) (c1 c2:Nat) (buf:List UInt8) (hb:buf.length≤800) :
    m_lawPD_L6 N (p.map (·.map (·.2.1)),c1) (p.map (·.map (fun x:Kt4=>cond (decide (x.1=(2:Int))) true (decide (x.1=(5:Int))))),c2) (y:Int) N (buf,(0:Int),p)=some (.inl (buf++bsOf (r.map ltI),p)):=by
  obtain ⟨hw,hs⟩:=h.row hr;have h16:=h.w16;have hy:y < p.length:=(List.getElem?_eq_some_iff.1 hr).1;refine loopF_eq (fun k (d:List UInt8×Int×List (List Kt4))=>∃ j:Nat,j+k=r.length∧d=(buf++bsOf ((r.take j).map ltI),(j:Int),p)) _ ?_ N r.length _ (by omega) ⟨0,by omega,by simp [bsOf]⟩;rintro k d rec ⟨j,hj,rfl⟩ hrec;dsimp only;have g1:(p.map (·.map (·.2.1)):List (List Int)).getD y []=r.map (·.2.1):=getD_of (by simp [hr]);have g2:(p.map (·.map (fun x:Kt4=>cond (decide (x.1=(2:Int))) true (decide (x.1=(5:Int))))):List (List Bool)).getD y []=r.map (fun x:Kt4=>cond (decide (x.1=(2:Int))) true (decide (x.1=(5:Int)))):=getD_of (by simp [hr]);rw [Int.toNat_natCast,Int.toNat_natCast,getD_of hr,g1,g2,gdT (by rw [inB_T hy]; rfl)]
  by_cases hlt:j < r.length
  · obtain ⟨x,hx⟩:∃ x,r[j]?=some x:=⟨_,List.getElem?_eq_getElem hlt⟩
    have hsx:=hs x (List.mem_of_getElem? hx);have g3:(r.map (·.2.1):List Int).getD j 0=x.2.1:=getD_of (by simp [hx]);have g4:(r.map (fun x:Kt4=>cond (decide (x.1=(2:Int))) true (decide (x.1=(5:Int)))):List Bool).getD j false=cond (decide (x.1=(2:Int))) true (decide (x.1=(5:Int))):=getD_of (by simp [hx]);have e0:(!(decide (x.2.1=x.2.1)))=false:=by simp
    rw [show decide ((j:Int) < (r.length:Int))=true from decide_eq_true (by omega),cond_true,getD_of hx,g3,g4,e0];have hk:(cond (decide (x.1=(2:Int))) true (decide (x.1=(5:Int))))=decide (x.1=2):=by rcases hsx.1 with e | e <;> rw [e] <;> rfl
    have hv:(cond (decide (x.1=(2:Int))) (some (IntKind.wrap .u8 ((IntKind.wrap .u8 ((97:Int)+x.2.1)) - (1:Int)))) (some (IntKind.wrap .u8 ((48:Int)+x.2.1))))=some (ltI x):=by
      by_cases e:x.1=2
      · rw [show decide (x.1=(2:Int))=true from decide_eq_true e,cond_true,ltI2 hsx e]
      · rw [show decide (x.1=(2:Int))=false from decide_eq_false e,cond_false,ltI1 hsx e]
    have hl:0≤ltI x∧ltI x < 256:=by
      obtain ⟨h1,h2,h3,_⟩:=hsx;unfold ltI
      split <;> omega
    rw [hk,hv,gdT (by rw [inB_T hy,inB_T hlt]; rfl),gdT (by simp [inB_T,hy,hlt,impB]),show (decide (x.1=2) != decide (x.1=2))=false by simp,cond_false,cond_false,Option.bind_some,gdT (by simp [isBs,bsOf,hl.1,hl.2]; omega),gdT (by rw [inI64_T (by omega) (by omega)]; rfl)];refine hrec (k - 1) _ (by omega) ⟨j+1,by omega,?_⟩;rw [List.append_assoc,← bsOf_app,List.take_add_one,hx]
    simp
  · rw [show decide ((j:Int) < (r.length:Int))=false from decide_eq_false (by omega),cond_false,List.take_of_length_le (by omega)]
end Go.Proofs.Yteglgnkcpaagjaa

/- PicturesDraw, the plain part: the law's outer loop. -/
namespace Go.Proofs.Yteglgnkcpaagjaa
open Go.RowKit
theorem law_L5_ok {N:Nat} (hN:300 < N) {p:List (List Kt4)} {w:Nat} (h:Ch6 p w) (c1 c2:Nat) :
    m_lawPD_L5 N (p.map (·.map (·.2.1)),c1) (p.map (·.map (fun x:Kt4=>cond (decide (x.1=(2:Int))) true (decide (x.1=(5:Int))))),c2) N (([]:List UInt8),(p.length:Int) - 1,p)=some (.inl (bsOf (txtI p),p)):=by
  have hf:=h.few;have h16:=h.w16;refine loopF_eq (fun k (d:List UInt8×Int×List (List Kt4))=>k≤p.length∧∃ buf,d=(buf,(k:Int) - 1,p)∧buf++bsOf ((bwk p k).flatMap (fun e=>e.2.1.map ltI++[10]))=bsOf (txtI p)∧buf.length+17 * k≤800) _ ?_ N p.length _ (by omega) ⟨Nat.le_refl _,[],rfl,rfl,by simp; omega⟩;rintro k d rec ⟨hk,buf,rfl,hbuf,hlen⟩ hrec;dsimp only;cases k with
  | zero=>
    simp only [bwk,List.flatMap_nil,bsOf,List.map_nil,List.append_nil] at hbuf;rw [hbuf]
    rfl
  | succ j=>
    have e1:((j+1:Nat):Int) - 1=(j:Int):=by omega
    have hj:j < p.length:=by omega
    obtain ⟨r,hr⟩:∃ r,p[j]?=some r:=⟨_,List.getElem?_eq_getElem hj⟩
    obtain ⟨hw,hs⟩:=h.row hr;have g1:(p.map (·.map (·.2.1)):List (List Int)).getD j []=r.map (·.2.1):=getD_of (by simp [hr]);have g2:(p.map (·.map (fun x:Kt4=>cond (decide (x.1=(2:Int))) true (decide (x.1=(5:Int))))):List (List Bool)).getD j []=r.map (fun x:Kt4=>cond (decide (x.1=(2:Int))) true (decide (x.1=(5:Int)))):=getD_of (by simp [hr]);rw [e1,Int.toNat_natCast,getD_of hr,g1,g2,show decide ((0:Int)≤(j:Int))=true from decide_eq_true (by omega),cond_true,List.length_map,List.length_map,List.length_map,List.length_map,inB_T hj,show (!(decide ((r.length:Int)=(r.length:Int))))=false by simp];rw [gdT (by rfl),cond_false,cond_false,cond_false,cond_false,law_L6_ok hN h j r hr c1 c2 buf (by omega),Option.bind_some];have hb:=hrec j (buf++bsOf (r.map ltI)++[10],(j:Int) - 1,p) (by omega) ⟨by omega,_,rfl,by
      rw [← hbuf];simp only [bwk,List.flatMap_cons,getD_of hr,bsOf_app,List.append_assoc]
      rfl,by simp [bsOf]; omega⟩
    refine Eq.trans ?_ hb;have hg:decide ((buf++bsOf (r.map ltI)).length+([10]:List UInt8).length≤140737488355328)=true:=by simp [bsOf]; omega
    have hg2:inI64 ((j:Int) - 1)=true:=inI64_T (by omega) (by omega);refine Eq.trans (b:=gd (decide ((buf++bsOf (r.map ltI)).length+([10]:List UInt8).length≤140737488355328)&&true) (gd (inI64 ((j:Int) - 1)&&true) (rec (buf++bsOf (r.map ltI)++[10],(j:Int) - 1,p)))) rfl ?_;rw [hg,hg2]
    rfl
end Go.Proofs.Yteglgnkcpaagjaa

/- PicturesDraw, the plain part: a chart is the same as itself. -/
namespace Go.Proofs.Yteglgnkcpaagjaa
open Go.RowKit
theorem same11_ok {N:Nat} {x:Kt4} (h:St6 x):m_same11 N x x=some true:=by
  obtain ⟨k,n,e⟩:=x;obtain ⟨h1,h2,h3,h4⟩:=h;dsimp only at h4;subst h4;unfold m_same11
  simp [GTy.beq]
theorem sameS_ok {N:Nat} (hN:300 < N) (r:List Kt4) (hw:r.length≤16) (hs:∀ x∈r,St6 x):m_sameS N r r=some true:=by
  have hL:m_sameS_L1 N r r N (0:Int)=some (.inl ()):=by
    refine loopF_eq (fun k (d:Int)=>∃ j:Nat,j+k=r.length∧d=(j:Int)) _ ?_ N r.length _ (by omega) ⟨0,by omega,rfl⟩;rintro k d rec ⟨j,hj,rfl⟩ hrec
    by_cases hlt:j < r.length
    · obtain ⟨x,hx⟩:∃ x,r[j]?=some x:=⟨_,List.getElem?_eq_getElem hlt⟩
      rw [show decide ((j:Int) < (r.length:Int))=true from decide_eq_true (by omega),cond_true,gdT (by rw [inB_T hlt]; rfl),gdT (by rw [inB_T hlt]; rfl),Int.toNat_natCast,getD_of hx,same11_ok (hs x (List.mem_of_getElem? hx)),Option.bind_some,show (!true)=false from rfl,cond_false,gdT (by rw [inI64_T (by omega) (by omega)]; rfl)];exact hrec (k - 1) _ (by omega) ⟨j+1,by omega,rfl⟩
    · rw [show decide ((j:Int) < (r.length:Int))=false from decide_eq_false (by omega),cond_false]
  unfold m_sameS;rw [show (!(decide ((r.length:Int)=(r.length:Int))))=false by simp,cond_false,hL]
  rfl
theorem chsame_ok {N:Nat} (hN:300 < N) {p:List (List Kt4)} {w:Nat} (h:Ch6 p w):m_chsame N p p=some true:=by
  have hf:=h.few;have h16:=h.w16;have hL:m_sameR_L1 N p p N (0:Int)=some (.inl ()):=by
    refine loopF_eq (fun k (d:Int)=>∃ j:Nat,j+k=p.length∧d=(j:Int)) _ ?_ N p.length _ (by omega) ⟨0,by omega,rfl⟩;rintro k d rec ⟨j,hj,rfl⟩ hrec
    by_cases hlt:j < p.length
    · obtain ⟨r,hr⟩:∃ r,p[j]?=some r:=⟨_,List.getElem?_eq_getElem hlt⟩
      obtain ⟨hw,hs⟩:=h.row hr;have hm:m_same1 N r r=some true:=by unfold m_same1; rw [sameS_ok hN r (by omega) hs,Option.bind_some]
      rw [show decide ((j:Int) < (p.length:Int))=true from decide_eq_true (by omega),cond_true,gdT (by rw [inB_T hlt]; rfl),gdT (by rw [inB_T hlt]; rfl),Int.toNat_natCast,getD_of hr,hm,Option.bind_some,show (!true)=false from rfl,cond_false,gdT (by rw [inI64_T (by omega) (by omega)]; rfl)];exact hrec (k - 1) _ (by omega) ⟨j+1,by omega,rfl⟩
    · rw [show decide ((j:Int) < (p.length:Int))=false from decide_eq_false (by omega),cond_false]
  unfold m_chsame m_sameR;rw [show (!(decide ((p.length:Int)=(p.length:Int))))=false by simp,cond_false,hL]
  rfl
end Go.Proofs.Yteglgnkcpaagjaa

/- PicturesDraw, the plain part: bytes of plain text. -/
namespace Go.Proofs.Yteglgnkcpaagjaa
open Go.RowKit
theorem ba_size (l:List UInt8):(ByteArray.mk l.toArray).size=l.length:=by simp [ByteArray.size]
theorem dec_plain {l:List UInt8} {i:Nat} {c:UInt8} (h:l[i]?=some c) (hc:c.toNat < 128):Utf8.decode (ByteArray.mk l.toArray) i=(c.toNat,1):=by
  have hlt:=(List.getElem?_eq_some_iff.1 h).1;have e:(ByteArray.mk l.toArray).get! i=c:=by
    simp [ByteArray.get!,hlt,(List.getElem?_eq_some_iff.1 h).2]
  unfold Utf8.decode
  simp [e,hc]
end Go.Proofs.Yteglgnkcpaagjaa

/- PicturesDraw, the plain part: charts of knit and purl stitches that are not plain; rows turned round. -/
namespace Go.Proofs.Yteglgnkcpaagjaa
open Go.RowKit
theorem chrow_any {N:Nat} (hN:300 < N) (l:List Kt4) (h1:l.length≤290) (h:∀ x∈l,St6 x):(1≤l.length∧l.length≤16)∨∃ e,e≠0∧m_chrow N l=some e:=by
  by_cases h16:16 < l.length
  · refine .inr ⟨3,by decide,?_⟩
    unfold m_chrow;rw [show decide ((16:Int) < (l.length:Int))=true from decide_eq_true (by omega),cond_true]
  by_cases h0:l.length=0
  · refine .inr ⟨1,by decide,?_⟩
    unfold m_chrow;rw [show decide ((16:Int) < (l.length:Int))=false from decide_eq_false (by omega),cond_false,show decide ((l.length:Int)=0)=true from decide_eq_true (by omega),cond_true]
  · exact .inl ⟨by omega,by omega⟩
theorem chrows_any {N:Nat} (hN:300 < N) (p:List (List Kt4)) (h1:p.length≤290) (h2:∀ r∈p,r.length≤290) (h:∀ r∈p,∀ x∈r,St6 x):(∃ w,Ch6 p w)∨∃ e,e≠0∧m_chrows N p=some e:=by
  have hL1:∃ o,m_chrows_L1 N p N (0:Int)=some o∧((o=.inl ()∧∀ r∈p,1≤r.length∧r.length≤16)∨∃ e,e≠0∧o=.inr e):=by
    refine loopF_inv (fun k (d:Int)=>∃ j:Nat,j+k=p.length∧d=(j:Int)∧∀ i r,i < j→p[i]?=some r→1≤r.length∧r.length≤16) (fun (o:Unit⊕Int)=>(o=.inl ()∧∀ r∈p,1≤r.length∧r.length≤16)∨∃ e,e≠0∧o=.inr e) ?_ N p.length _ (by omega) ⟨0,by omega,rfl,fun i r hi=>by omega⟩;rintro k d rec ⟨j,hj,rfl,hb⟩ hrec
    by_cases hlt:j < p.length
    · obtain ⟨r,hr⟩:∃ r,p[j]?=some r:=⟨_,List.getElem?_eq_getElem hlt⟩
      have hm:=List.mem_of_getElem? hr;rw [show decide ((j:Int) < (p.length:Int))=true from decide_eq_true (by omega),cond_true,gdT (by rw [inB_T hlt]; rfl),Int.toNat_natCast,getD_of hr]
      by_cases hg:1≤r.length∧r.length≤16
      · rw [chrow_ok hN r (by omega) (by omega) (h r hm),Option.bind_some,show (!(decide ((0:Int)=0)))=false from rfl,cond_false,gdT (by rw [inI64_T (by omega) (by omega)]; rfl)]
        refine hrec (k - 1) _ (by omega) ⟨j+1,by omega,rfl,fun i r' hi hr'=>?_⟩
        by_cases e:i=j
        · subst e
          rw [hr] at hr';cases hr';exact hg
        · exact hb i r' (by omega) hr'
      · rcases chrow_any hN r (h2 r hm) (h r hm) with hg' | ⟨e,he,hc⟩
        · exact absurd hg' hg
        · rw [hc,Option.bind_some,show (!(decide (e=0)))=true by simp [he],cond_true]
          exact ⟨_,rfl,.inr ⟨e,he,rfl⟩⟩
    · rw [show decide ((j:Int) < (p.length:Int))=false from decide_eq_false (by omega),cond_false]
      refine ⟨_,rfl,.inl ⟨rfl,fun r hr=>?_⟩⟩;obtain ⟨i,hi⟩:=List.getElem?_of_mem hr;exact hb i r (by have:=(List.getElem?_eq_some_iff.1 hi).1; omega) hi
  have hL3:∃ o,m_chrows_L3 N p N (1:Int)=some o∧((o=.inl ()∧∀ i r r',p[i]?=some r→p[i+1]?=some r'→r'.length=r.length)∨o=.inr 14):=by
    by_cases h0:p.length=0
    · obtain ⟨n,rfl⟩:∃ n,N=n+1:=⟨N - 1,by omega⟩
      refine ⟨.inl (),?_,.inl ⟨rfl,fun i r r' hi=>by have:=(List.getElem?_eq_some_iff.1 hi).1; omega⟩⟩
      have:p=[]:=List.length_eq_zero_iff.1 h0
      subst this
      rfl
    refine loopF_inv (fun k (d:Int)=>∃ j:Nat,1≤j∧j+k=p.length∧d=(j:Int)∧∀ i r r',i+1 < j→p[i]?=some r→p[i+1]?=some r'→r'.length=r.length) (fun (o:Unit⊕Int)=>(o=.inl ()∧∀ i r r',p[i]?=some r→p[i+1]?=some r'→r'.length=r.length)∨o=.inr 14) ?_ N (p.length - 1) _ (by omega) ⟨1,by omega,by omega,rfl,fun i r r' hi=>by omega⟩;rintro k d rec ⟨j,hj1,hj,rfl,hb⟩ hrec
    by_cases hlt:j < p.length
    · obtain ⟨r,hr⟩:∃ r,p[j]?=some r:=⟨_,List.getElem?_eq_getElem hlt⟩
      obtain ⟨r2,hr2⟩:∃ r,p[j - 1]?=some r:=⟨_,List.getElem?_eq_getElem (by omega)⟩
      have hm:=List.mem_of_getElem? hr;have hm2:=List.mem_of_getElem? hr2;have e1:(j:Int) - 1=((j - 1:Nat):Int):=by omega
      rw [show decide ((j:Int) < (p.length:Int))=true from decide_eq_true (by omega),cond_true,gdT (by rw [inB_T hlt,inI64_T (by omega) (by omega),e1,inB_T (by omega)]; rfl),e1,Int.toNat_natCast,Int.toNat_natCast,getD_of hr,getD_of hr2,chneeds_ok hN r (by have:=h2 r hm; omega) (h r hm),Option.bind_some,chmakes_ok hN r2 (by have:=h2 r2 hm2; omega) (h r2 hm2),Option.bind_some]
      by_cases e:r.length=r2.length
      · rw [show (!(decide ((r.length:Int)=(r2.length:Int))))=false by rw [e]; simp,cond_false,gdT (by rw [inI64_T (by omega) (by omega)]; rfl)]
        refine hrec (k - 1) _ (by omega) ⟨j+1,by omega,by omega,rfl,fun i r3 r4 hi h3 h4=>?_⟩
        by_cases ei:i+1=j
        · have:i=j - 1:=by omega
          subst this;rw [hr2] at h3;rw [ei,hr] at h4;cases h3;cases h4;exact e
        · exact hb i r3 r4 (by omega) h3 h4
      · rw [show (!(decide ((r.length:Int)=(r2.length:Int))))=true by simp; omega,cond_true]
        exact ⟨_,rfl,.inr rfl⟩
    · rw [show decide ((j:Int) < (p.length:Int))=false from decide_eq_false (by omega),cond_false]
      refine ⟨_,rfl,.inl ⟨rfl,fun i r r' hi hi'=>hb i r r' ?_ hi hi'⟩⟩
      have:=(List.getElem?_eq_some_iff.1 hi').1
      omega
  by_cases h31:31 < p.length
  · refine .inr ⟨3,by decide,?_⟩
    unfold m_chrows;rw [show decide ((31:Int) < (p.length:Int))=true from decide_eq_true (by omega),cond_true]
  have e2:Int.tmod (p.length:Int) 2=(p.length:Int) % 2:=Int.tmod_eq_emod_of_nonneg (by omega)
  by_cases hodd:p.length % 2=0
  · refine .inr ⟨1,by decide,?_⟩
    unfold m_chrows;rw [show decide ((31:Int) < (p.length:Int))=false from decide_eq_false (by omega),cond_false,e2,show decide ((p.length:Int) % 2=0)=true from decide_eq_true (by omega),cond_true]
  obtain ⟨o1,hL1,ho1⟩:=hL1;obtain ⟨o3,hL3,ho3⟩:=hL3
  rcases ho1 with ⟨rfl,hw⟩ | ⟨e,he,rfl⟩
  · rcases ho3 with ⟨rfl,hs⟩ | rfl
    · obtain ⟨r,hr⟩:∃ r,p[0]?=some r:=⟨_,List.getElem?_eq_getElem (by omega)⟩
      have hr0:=hw r (List.mem_of_getElem? hr);refine .inl ⟨r.length,by omega,by omega,hr0.1,hr0.2,?_,h⟩
      have:∀ (i:Nat) (r':List Kt4),p[i]?=some r'→r'.length=r.length:=by
        intro i
        induction i with
        | zero=>intro r' h'; rw [hr] at h'; cases h'; rfl
        | succ i ih=>
          intro r' h';obtain ⟨r2,hr2⟩:∃ r,p[i]?=some r:=⟨_,List.getElem?_eq_getElem (by have:=(List.getElem?_eq_some_iff.1 h').1; omega)⟩
          rw [hs i r2 r' hr2 h',ih r2 hr2]
      intro r' hr';obtain ⟨i,hi⟩:=List.getElem?_of_mem hr';exact this i r' hi
    · refine .inr ⟨14,by decide,?_⟩
      unfold m_chrows;rw [show decide ((31:Int) < (p.length:Int))=false from decide_eq_false (by omega),cond_false,e2,show decide ((p.length:Int) % 2=0)=false from decide_eq_false (by omega),cond_false,hL1,Option.bind_some];show Option.bind (m_chrows_L3 N p N (1:Int)) (fun (o3:(Unit)⊕(Int))=>sm o3 (fun o3=>some (0:Int)) (fun q=>some q))=_;rw [hL3]
      rfl
  · refine .inr ⟨e,he,?_⟩
    unfold m_chrows;rw [show decide ((31:Int) < (p.length:Int))=false from decide_eq_false (by omega),cond_false,e2,show decide ((p.length:Int) % 2=0)=false from decide_eq_false (by omega),cond_false,hL1,Option.bind_some]
theorem pplain_any {N:Nat} (hN:300 < N) (p:List (List Kt4)) (h1:p.length≤290) (h2:∀ r∈p,r.length≤290) (h:∀ r∈p,∀ x∈r,St6 x):(∃ w,Ch6 p w)∨m_pplain N p=some false:=by
  rcases chrows_any hN p h1 h2 h with hc | ⟨e,he,hc⟩
  · exact .inl hc
  · refine .inr ?_
    have hz:(!(decide (e=(0:Int))))=true:=by simp [he]
    have:m_chcheck N p=some e:=by
      unfold m_chcheck m_chloads;rw [hc,Option.bind_some,hz,cond_true,Option.bind_some]
    unfold m_pplain;rw [this,Option.bind_some,hz,cond_true]
theorem revR_ok {N:Nat} (hN:300 < N) (l:List (List Kt4)) (h:l.length≤290):m_revR N l=some l.reverse:=by
  have hL:m_revR_L1 N N ((0:Int),((l.length:Int) - (1:Int)),l)=some l.reverse:=by
    refine loopF_eq (fun k (d:Int×Int×List (List Kt4))=>∃ i:Nat,i+k=l.length∧d.1=i∧d.2.1=(l.length:Int) - 1 - i∧d.2.2.length=l.length∧∀ x,x < l.length→d.2.2[x]?=if x < i∨l.length≤x+i then l[l.length - 1 - x]? else l[x]?) _ ?_ N l.length _ (by omega) ⟨0,by omega,rfl,by simp,rfl,fun x hx=>by rw [if_neg (by omega)]⟩;rintro k ⟨d1,d2,l'⟩ rec ⟨i,hi,e1,e2,hlen,hx⟩ hrec;dsimp only at e1 e2 hlen hx;subst e1;subst e2;dsimp only
    by_cases hlt:2 * i+1 < l.length
    · have e3:(l.length:Int) - 1 - (i:Int)=((l.length - 1 - i:Nat):Int):=by omega
      obtain ⟨a,ha⟩:∃ a,l'[i]?=some a:=⟨_,List.getElem?_eq_getElem (by omega)⟩
      obtain ⟨b,hb⟩:∃ b,l'[l.length - 1 - i]?=some b:=⟨_,List.getElem?_eq_getElem (by omega)⟩
      have ha':l[i]?=some a:=by rw [← ha,hx i (by omega),if_neg (by omega)]
      have hb':l[l.length - 1 - i]?=some b:=by rw [← hb,hx _ (by omega),if_neg (by omega)]
      rw [e3,show decide ((i:Int) < ((l.length - 1 - i:Nat):Int))=true from decide_eq_true (by omega),cond_true,Int.toNat_natCast,Int.toNat_natCast,getD_of ha,getD_of hb];rw [gdT (by simp [inB]; omega),gdT (by rw [inI64_T (by omega) (by omega),inI64_T (by omega) (by omega)]; rfl)];refine hrec (k - 1) _ (by omega) ⟨i+1,by omega,by simp,by dsimp only; omega,by simp [hlen],fun x hxl=>?_⟩;dsimp only;rw [List.getElem?_set,List.getElem?_set]
      by_cases c1:l.length - 1 - i=x
      · subst c1
        rw [if_pos rfl,if_pos (by simp; omega),if_pos (by omega),show l.length - 1 - (l.length - 1 - i)=i by omega,ha']
      · rw [if_neg c1]
        by_cases c2:i=x
        · subst c2
          rw [if_pos rfl,if_pos (by omega),if_pos (by omega),hb']
        · rw [if_neg c2,hx x hxl]
          by_cases c3:x < i∨l.length≤x+i
          · rw [if_pos c3,if_pos (by omega)]
          · rw [if_neg c3,if_neg (by omega)]
    · rw [show decide ((i:Int) < (l.length:Int) - 1 - (i:Int))=false from decide_eq_false (by omega),cond_false]
      congr 1
      apply List.ext_getElem?
      intro x
      by_cases hxl:x < l.length
      · rw [hx x hxl,List.getElem?_reverse hxl]
        by_cases c3:x < i∨l.length≤x+i
        · rw [if_pos c3]
        · rw [if_neg c3]
          have:l.length - 1 - x=x:=by omega
          rw [this]
      · rw [List.getElem?_eq_none (by omega),List.getElem?_eq_none (by simp; omega)]
  unfold m_revR;rw [gdT (by rw [inI64_T (by omega) (by omega)]; rfl),hL,Option.bind_some]
end Go.Proofs.Yteglgnkcpaagjaa

/- PicturesDraw, the plain part: reading. -/
namespace Go.Proofs.Yteglgnkcpaagjaa
open Go.RowKit
theorem dec_high {l:List UInt8} {i:Nat} {c:UInt8} (h:l[i]?=some c) (hc:¬ c.toNat < 128):128≤(Utf8.decode (ByteArray.mk l.toArray) i).1:=by
  have hlt:=(List.getElem?_eq_some_iff.1 h).1;have e:(ByteArray.mk l.toArray).get! i=c:=by
    simp [ByteArray.get!,hlt,(List.getElem?_eq_some_iff.1 h).2]
  unfold Utf8.decode;simp only [Nat.add_zero,e,hc,if_false];have hR:128≤Utf8.runeError:=by decide
  repeat' split
  all_goals (dsimp only; first | exact hR | omega | simp_all; omega)
def rd:List UInt8→List Kt4→List (List Kt4)→Option (List Kt4×List (List Kt4))
  | [],row,rows=>some (row,rows)
  | c :: l,row,rows=>
    if c.toNat=10 then rd l [] (rows++[row])
    else if 49≤c.toNat∧c.toNat≤54 then rd l (row++[(1,(c.toNat:Int) - 48,0,0,false)]) rows
    else if 97≤c.toNat∧c.toNat < 103 then rd l (row++[(2,(c.toNat:Int) - 96,0,0,false)]) rows
    else none
def rdR:Option (List Kt4×List (List Kt4))→(List Kt4×List (List Kt4))⊕(List (List Kt4)×Nat×Int)
  | none=>.inr ([],0,4)
  | some q=>.inl q
theorem clipS_ok {N:Nat} (l:List Kt4):m_clipS N l=some (l,l.length):=by
  unfold m_clipS;rw [gdT (by simp),Int.toNat_natCast,List.take_length]
theorem clipR_ok {N:Nat} (l:List (List Kt4)):m_clipR N l=some (l,l.length):=by
  unfold m_clipR;rw [gdT (by simp),Int.toNat_natCast,List.take_length]
theorem wrap32 {x:Int} (h1:0≤x) (h2:x≤255):IntKind.wrap .i32 x=x:=by
  simp [IntKind.wrap,IntKind.bits,IntKind.signed]
  omega
theorem pread_L_ok {N:Nat} (hN:300 < N) (a:List UInt8) (ha:a.length≤290) :
    m_pread_L3 N N ([],[],ByteArray.mk a.toArray,0)=some (rdR (rd a [] [])):=by
  refine loopF_eq (fun k (d:List Kt4×List (List Kt4)×ByteArray×Nat)=>∃ row rows i,d=(row,rows,ByteArray.mk a.toArray,i)∧i+k=a.length∧rd (a.drop i) row rows=rd a [] []∧row.length≤i∧rows.length≤i) _ ?_ N a.length _ (by omega) ⟨_,_,_,rfl,by simp,rfl,by simp,by simp⟩;rintro k d rec ⟨row,rows,i,rfl,hi,hr,h1,h2⟩ hrec;dsimp only
  by_cases hlt:i < a.length
  · obtain ⟨c,hc⟩:∃ c,a[i]?=some c:=⟨_,List.getElem?_eq_getElem hlt⟩
    have hd:a.drop i=c :: a.drop (i+1):=by
      rw [List.drop_eq_getElem_cons hlt,(List.getElem?_eq_some_iff.1 hc).2]
    rw [hd,rd] at hr;rw [ba_size,show decide (i < a.length)=true from decide_eq_true hlt,cond_true]
    by_cases hp:c.toNat < 128
    · rw [dec_plain hc hp]
      dsimp only
      by_cases c1:c.toNat=10
      · rw [if_pos c1] at hr
        rw [show decide ((c.toNat:Int)=10)=true from decide_eq_true (by omega),cond_true,clipS_ok,Option.bind_some,gdT (by simp [fitB]; omega)];exact hrec (k - 1) _ (by omega) ⟨_,_,_,rfl,by omega,hr,by simp,by simp; omega⟩
      · rw [if_neg c1] at hr
        rw [show decide ((c.toNat:Int)=10)=false from decide_eq_false (by omega),cond_false]
        by_cases c2:49≤c.toNat∧c.toNat≤54
        · rw [if_pos c2] at hr
          rw [show decide ((49:Int)≤(c.toNat:Int))=true from decide_eq_true (by omega),show decide ((c.toNat:Int)≤54)=true from decide_eq_true (by omega),wrap32 (by omega) (by omega),wrap8 (by omega) (by omega)];refine Eq.trans (gdT (by simp [fitB]; omega)) ?_;exact hrec (k - 1) _ (by omega) ⟨_,_,_,rfl,by omega,hr,by simp; omega,by omega⟩
        · rw [if_neg c2] at hr
          have e1:(cond (decide ((49:Int)≤(c.toNat:Int))) (decide ((c.toNat:Int)≤(54:Int))) false)=false:=by
            by_cases q:(49:Int)≤(c.toNat:Int)
            · rw [show decide ((49:Int)≤(c.toNat:Int))=true from decide_eq_true q]
              exact decide_eq_false (by omega)
            · rw [show decide ((49:Int)≤(c.toNat:Int))=false from decide_eq_false q]
              rfl
          rw [e1,cond_false]
          by_cases c3:97≤c.toNat∧c.toNat < 103
          · rw [if_pos c3] at hr
            rw [show decide ((97:Int)≤(c.toNat:Int))=true from decide_eq_true (by omega),show decide ((c.toNat:Int) < 103)=true from decide_eq_true (by omega),wrap32 (x:=(c.toNat:Int) - 97) (by omega) (by omega),wrap32 (by omega) (by omega),wrap8 (by omega) (by omega)];refine Eq.trans (gdT (by simp [fitB]; omega)) ?_;refine hrec (k - 1) _ (by omega) ⟨_,_,_,rfl,by omega,?_,by simp; omega,by omega⟩;rw [← hr]
            congr 5
            omega
          · rw [if_neg c3] at hr
            have e2:(cond (decide ((97:Int)≤(c.toNat:Int))) (decide ((c.toNat:Int) < (103:Int))) false)=false:=by
              by_cases q:(97:Int)≤(c.toNat:Int)
              · rw [show decide ((97:Int)≤(c.toNat:Int))=true from decide_eq_true q]
                exact decide_eq_false (by omega)
              · rw [show decide ((97:Int)≤(c.toNat:Int))=false from decide_eq_false q]
                rfl
            rw [e2,cond_false,← hr]
            rfl
    · have hh:=dec_high hc hp
      obtain ⟨q,hq⟩:∃ q,q=Utf8.decode (ByteArray.mk a.toArray) i:=⟨_,rfl⟩
      rw [← hq] at hh ⊢;rw [if_neg (by omega),if_neg (by omega),if_neg (by omega)] at hr;rw [show decide ((q.1:Int)=10)=false from decide_eq_false (by omega),cond_false,show decide ((q.1:Int)≤54)=false from decide_eq_false (by omega),show decide ((q.1:Int) < 103)=false from decide_eq_false (by omega)];rw [show cond (decide ((49:Int)≤(q.1:Int))) false false=false by cases decide ((49:Int)≤(q.1:Int)) <;> rfl,show cond (decide ((97:Int)≤(q.1:Int))) false false=false by cases decide ((97:Int)≤(q.1:Int)) <;> rfl,cond_false,cond_false,← hr]
      rfl
  · rw [ba_size,show decide (i < a.length)=false from decide_eq_false hlt,cond_false,← hr,List.drop_eq_nil_of_le (by omega)]
    rfl
def rowsB (rows:List (List Kt4)):List UInt8:=rows.flatMap fun r=>bsOf (r.map ltI)++[10]
theorem rd_back:∀ (a:List UInt8) (row:List Kt4) (rows:List (List Kt4)) (row' rows'),rd a row rows=some (row',rows')→(∀ x∈row,St6 x)→(∀ r∈rows,∀ x∈r,St6 x) →
    (∀ x∈row',St6 x)∧(∀ r∈rows',∀ x∈r,St6 x)∧rowsB rows'++bsOf (row'.map ltI)=rowsB rows++bsOf (row.map ltI)++a
  | [],row,rows,row',rows',h,h1,h2=>by
    cases h;exact ⟨h1,h2,by simp⟩
  | c :: l,row,rows,row',rows',h,h1,h2=>by
    have add:∀ x:Kt4,St6 x→UInt8.ofNat (ltI x).toNat=c→rd l (row++[x]) rows=some (row',rows')→(∀ x∈row',St6 x)∧(∀ r∈rows',∀ x∈r,St6 x)∧rowsB rows'++bsOf (row'.map ltI)=rowsB rows++bsOf (row.map ltI)++c :: l:=fun x hx hc hr=>by
      obtain ⟨r1,r2,r3⟩:=rd_back l _ _ _ _ hr (fun y hy=>by
        rcases List.mem_append.1 hy with hy | hy
        · exact h1 y hy
        · rw [List.mem_singleton.1 hy]; exact hx) h2
      refine ⟨r1,r2,r3.trans ?_⟩
      simp [bsOf,hc]
    unfold rd at h
    by_cases c1:c.toNat=10
    · rw [if_pos c1] at h
      obtain ⟨r1,r2,r3⟩:=rd_back l _ _ _ _ h (fun x hx=>by cases hx) (fun r hr=>by
        rcases List.mem_append.1 hr with hr | hr
        · exact h2 r hr
        · rw [List.mem_singleton.1 hr]; exact h1)
      have hc:c=10:=UInt8.toNat_inj.1 c1;refine ⟨r1,r2,r3.trans ?_⟩;subst hc
      simp [rowsB,bsOf]
    · rw [if_neg c1] at h
      by_cases c2:49≤c.toNat∧c.toNat≤54
      · rw [if_pos c2] at h
        refine add _ ⟨.inl rfl,by dsimp only; omega,by dsimp only; omega,rfl⟩ ?_ h;rw [ltI,if_neg (show ¬ (1:Int)=2 by decide)];dsimp only;rw [show ((48:Int)+((c.toNat:Int) - 48)).toNat=c.toNat by omega]
        simp
      · rw [if_neg c2] at h
        by_cases c3:97≤c.toNat∧c.toNat < 103
        · rw [if_pos c3] at h
          refine add _ ⟨.inr rfl,by dsimp only; omega,by dsimp only; omega,rfl⟩ ?_ h;rw [ltI,if_pos rfl];dsimp only;rw [show ((96:Int)+((c.toNat:Int) - 96)).toNat=c.toNat by omega]
          simp
        · rw [if_neg c3] at h
          cases h
theorem rd_row:∀ (r row:List Kt4) (rows:List (List Kt4)) (a:List UInt8),(∀ x∈r,St6 x)→rd (bsOf (r.map ltI)++a) row rows=rd a (row++r) rows
  | [],row,rows,a,_=>by simp [bsOf]
  | x :: r,row,rows,a,h=>by
    have ih:=rd_row r (row++[x]) rows a fun y hy=>h y (List.mem_cons_of_mem _ hy)
    rw [List.append_assoc] at ih;refine Eq.trans ?_ ih;obtain ⟨k,n,e⟩:=x;obtain ⟨h1,h2,h3,h4⟩:=h _ List.mem_cons_self;dsimp only at h1 h2 h3 h4;subst h4;show rd (UInt8.ofNat (ltI (k,n,0,0,false)).toNat :: (bsOf (r.map ltI)++a)) row rows=_;rw [rd]
    rcases h1 with rfl | rfl
    · have e1:(UInt8.ofNat (ltI (1,n,0,0,false)).toNat).toNat=(48+n).toNat:=by
        rw [ltI,if_neg (show ¬ (1:Int)=2 by decide)]
        simp
        omega
      rw [e1,if_neg (by omega),if_pos (by omega)]
      congr 4
      simp
      omega
    · have e1:(UInt8.ofNat (ltI (2,n,0,0,false)).toNat).toNat=(96+n).toNat:=by
        rw [ltI,if_pos rfl]
        simp
        omega
      rw [e1,if_neg (by omega),if_neg (by omega),if_pos (by omega)]
      congr 4
      simp
      omega
theorem rd_rows:∀ (rs rows:List (List Kt4)),(∀ r∈rs,∀ x∈r,St6 x)→rd (rowsB rs) [] rows=some ([],rows++rs)
  | [],rows,_=>by simp [rowsB,rd]
  | r :: rs,rows,h=>by
    have ih:=rd_rows rs (rows++[r]) fun y hy=>h y (List.mem_cons_of_mem _ hy)
    rw [List.append_assoc] at ih;refine Eq.trans ?_ ih;show rd ((bsOf (r.map ltI)++[10])++rowsB rs) [] rows=_;rw [List.append_assoc,rd_row r [] rows _ (h r List.mem_cons_self)];show rd (10 :: rowsB rs) _ _=_;rw [rd,if_pos (by decide)]
    rfl
theorem bwk_rev (p:List (List Kt4)):∀ j,j≤p.length→(bwk p j).map (·.2.1)=(p.take j).reverse
  | 0,_=>by simp [bwk]
  | j+1,h=>by
    rw [List.take_add_one,List.reverse_append,← bwk_rev p j (by omega),List.getElem?_eq_getElem (by omega)]
    simp [bwk,List.getD_eq_getElem?_getD,List.getElem?_eq_getElem (show j < p.length by omega)]
theorem txt_rows (p:List (List Kt4)):bsOf (txtI p)=rowsB p.reverse:=by
  have h:p.reverse=(bwk p p.length).map (·.2.1):=by rw [bwk_rev p _ (Nat.le_refl _),List.take_length]
  rw [h];unfold txtI rowsB bsOf;rw [List.map_flatMap,List.flatMap_map]
  simp
theorem rowsB_len (rs:List (List Kt4)):rs.length≤(rowsB rs).length∧∀ r∈rs,r.length≤(rowsB rs).length:=by
  induction rs with
  | nil=>exact ⟨Nat.le_refl _,fun r hr=>by cases hr⟩
  | cons r rs ih=>
    have e:(rowsB (r :: rs)).length=r.length+1+(rowsB rs).length:=by simp [rowsB,bsOf]; omega
    refine ⟨by simp; omega,fun x hx=>?_⟩
    rcases List.mem_cons.1 hx with rfl | hx
    · omega
    · have:=ih.2 x hx; omega
theorem pread_txt {N:Nat} (hN:300 < N) {p:List (List Kt4)} {w:Nat} (h:Ch6 p w) (hs:(bsOf (txtI p)).length≤290):m_pread N (bsOf (txtI p))=some (p,p.length,0):=by
  have hf:=h.few;have h1:rd (bsOf (txtI p)) [] []=some ([],p.reverse):=by
    rw [txt_rows];exact rd_rows _ [] fun r hr=>h.st r (List.mem_reverse.1 hr)
  unfold m_pread;rw [pread_L_ok hN _ hs,h1,Option.bind_some];show Option.bind (m_revR N p.reverse) _=_;rw [revR_ok hN _ (by simp; omega),Option.bind_some,List.reverse_reverse,clipR_ok,Option.bind_some,show (!decide ((0:Int) < ((([]:List Kt4),p.reverse).1.length:Int)))=true from rfl,cond_true,pplain_ok hN h,Option.bind_some]
  rfl
theorem pread_any {N:Nat} (hN:300 < N) (a:List UInt8) (ha:a.length≤290):m_pread N a=some ([],0,4)∨∃ p w,Ch6 p w∧m_pread N a=some (p,p.length,0)∧bsOf (txtI p)=a:=by
  have hL:=pread_L_ok hN a ha;cases hr:rd a [] [] with
  | none=>
    rw [hr] at hL;refine .inl ?_;unfold m_pread;rw [hL]
    rfl
  | some q=>
    obtain ⟨row,rows⟩:=q;rw [hr] at hL;obtain ⟨h1,h2,h3⟩:=rd_back a [] [] row rows hr (fun x hx=>by cases hx) (fun x hx=>by cases hx);rw [show rowsB []++bsOf (([]:List Kt4).map ltI)++a=a from rfl] at h3;have hl:(rowsB rows).length≤290:=by rw [← h3] at ha; simp at ha; omega
    obtain ⟨l1,l2⟩:=rowsB_len rows;have start:m_pread N a=Option.bind (cond (!(decide ((0:Int) < (row.length:Int)))) (m_pplain N rows.reverse) (some false)) fun r7=>cond (cond (decide ((0:Int) < (row.length:Int))) true (!r7)) (some (([]:List (List Kt4)),0,(4:Int))) (some (rows.reverse,rows.reverse.length,(0:Int))):=by
      unfold m_pread;rw [hL,Option.bind_some];show Option.bind (m_revR N rows) _=_;rw [revR_ok hN _ (by omega),Option.bind_some,clipR_ok,Option.bind_some]
    rw [start]
    by_cases h0:row.length=0
    · rw [show decide ((0:Int) < (row.length:Int))=false from decide_eq_false (by omega),show (!false)=true from rfl,cond_true]
      rcases pplain_any hN rows.reverse (by simp; omega) (fun r hr=>by have:=l2 r (List.mem_reverse.1 hr); omega) (fun r hr=>h2 r (List.mem_reverse.1 hr)) with ⟨w,hw⟩ | hw
      · refine .inr ⟨rows.reverse,w,hw,?_,?_⟩
        · rw [pplain_ok hN hw,Option.bind_some]
          rfl
        · rw [txt_rows,List.reverse_reverse,← h3,List.length_eq_zero_iff.1 h0]
          simp [bsOf]
      · rw [hw]
        exact .inl rfl
    · rw [show decide ((0:Int) < (row.length:Int))=true from decide_eq_true (by omega)]
      exact .inl rfl
end Go.Proofs.Yteglgnkcpaagjaa

/- PicturesDraw, the plain part: the law. -/
namespace Go.Proofs.Yteglgnkcpaagjaa
open Go.RowKit
theorem txt_len {p:List (List Kt4)} {w:Nat} (h:Ch6 p w):(bsOf (txtI p)).length=(w+1) * p.length:=by
  have e:∀ rs:List (List Kt4),(∀ r∈rs,r.length=w)→(rowsB rs).length=(w+1) * rs.length:=by
    intro rs
    induction rs with
    | nil=>intro _; rfl
    | cons r rs ih=>
      intro hw;have e:(rowsB (r :: rs)).length=r.length+1+(rowsB rs).length:=by simp [rowsB,bsOf]; omega
      rw [e,ih fun x hx=>hw x (List.mem_cons_of_mem _ hx),hw r List.mem_cons_self,List.length_cons,Nat.mul_add,Nat.mul_one,Nat.add_comm]
  rw [txt_rows,e _ fun r hr=>h.wide r (List.mem_reverse.1 hr),List.length_reverse]
theorem lawPD_ok (a0:Kt2) (a1:List UInt8) (hW:0≤a0.1∧a0.1≤255) (hH:0≤a0.2.1∧a0.2.1≤255) (hst:∀ c∈a0.2.2,0≤c∧c≤255):m_lawPD 400 a0 a1=some true:=by
  obtain ⟨N,hN⟩:∃ N,N=400:=⟨_,rfl⟩
  rw [← hN];have hl:m_lives39 N=some true:=by rw [hN]; exact lives39_ok
  have h3:300 < N:=by omega
  clear hN
  unfold m_lawPD
  by_cases h100:100 < a1.length
  · rw [show decide ((100:Int) < (a1.length:Int))=true from decide_eq_true (by omega),cond_true,hl,Option.bind_some]
  rw [show decide ((100:Int) < (a1.length:Int))=false from decide_eq_false (by omega),cond_false];obtain ⟨p,w,h,hp,h12,hw1,hw8,hh4⟩:=cof39_ok h3 a0 hW hH hst;have h6:=h12.six hw1 hw8 hh4;have hf:=h12.rows;have hlen:(bsOf (txtI p)).length≤290:=by
    rw [txt_len h6,hf]
    have:(w+1) * (2 * h+1)≤9 * 9:=Nat.mul_le_mul (by omega) (by omega)
    omega
  have hpl:p.length≤300:=by omega
  have hpr:∀ r∈p,r.length≤300:=fun r hr=>by rw [h12.wide r hr]; omega
  rw [hp,Option.bind_some,pcolours_ok h3 p hpl hpr,Option.bind_some,prelief_ok h3 p hpl hpr,Option.bind_some];dsimp only;rw [List.length_map,List.length_map,show (!(decide ((p.length:Int)=(p.length:Int))))=false by simp,cond_false,cond_false,cond_false,cond_false,gdT (by rw [inI64_T (by omega) (by omega)]; rfl),law_L5_ok h3 h6,Option.bind_some];show Option.bind (m_pread N (bsOf (txtI p))) _=_;rw [pread_txt h3 h6 hlen,Option.bind_some];dsimp only;rw [pdraw_ok h3 h6,Option.bind_some,show (bsOf (txtI p) == bsOf (txtI p))=true by simp,show (!(cond (!true) true (!(decide ((0:Int)=0)))))=true from rfl,cond_true,chsame_ok h3 h6,Option.bind_some,show (!(decide ((p.length:Int)=(p.length:Int))))=false by simp];rw [show (cond (cond (cond (!true) true (!(decide ((0:Int)=(0:Int))))) true (!true)) true false)=false from rfl,cond_false]
  rcases pread_any h3 a1 (by omega) with e | ⟨p',w',h',e,e2⟩
  · rw [e,Option.bind_some]
    dsimp only;rw [show (!(decide ((4:Int)=0)))=true from rfl,cond_true,show (cond (decide ((4:Int)=(4:Int))) (decide (((([]:List (List Kt4)).length:Nat):Int)=(0:Int))) false)=true from rfl,cond_true,hl,Option.bind_some,cond_true]
  · rw [e,Option.bind_some]
    dsimp only;rw [show (!(decide ((0:Int)=0)))=false from rfl,cond_false,pdraw_ok h3 h',Option.bind_some,e2,show (a1 == a1)=true by simp,cond_true,hl,Option.bind_some,cond_true]
end Go.Proofs.Yteglgnkcpaagjaa

/- PicturesDraw: for every chart of the law and every text, whatever the memory and the order that Go leaves open, the law returns true, and its arguments read as before. No condition. -/
namespace Go.Proofs.Yteglgnkcpaagjaa
set_option linter.unusedSimpArgs false
set_option linter.unusedVariables false
open Go.ChangeMaps Go.ChangeShapes Go.WideShapes Go.ChangeAt Go.WideElems Go.RowKit
theorem rng8 {x:Int} (h:IntKind.u8.min≤x∧x≤IntKind.u8.max):0≤x∧x≤255:=h
theorem read_picturesDraw:∀ t∈Try.f3.params.toList,Try.prog.readableRec t=true∧t < Try.prog.types.size:=by
  rw [Try.params3];intro t ht;simp only [List.mem_cons,List.not_mem_nil,or_false] at ht
  rcases ht with rfl | rfl <;> exact ⟨by kernel_rfl,of_decide_eq_true (by kernel_rfl)⟩
theorem globs_picturesDraw (W:World):GlobOk cx (fun b=>b < W.heap.size) W:=fun i x hx=>by cases hx
set_option maxRecDepth 100000 in
theorem picturesDraw_lifted (os:Os) (started:os.Started) (H:Type) (enc:TypeId×Value→H) :
    ReturnsInHanded {} Try.checked os 3 .any (Rows.picturesDrawSpec.pre6 enc Try.prog Try.f3 Rows.picturesDrawRow.domain false) (Rows.picturesDrawSpec.post enc Try.prog Try.f3 false true false false):=by
  refine returnsInHanded_of_change (C:=Try.checked) Try.own started (by kernel_rfl) Try.func3
    (ChangeSpec.witness6 (enc:=enc) (C:=Try.checked) false ⟨#[],#[.agg #[.int .u8 0,.int .u8 0,.slice none 0 0],.string default],[]⟩ 8 (by kernel_rfl) (by kernel_rfl) (by kernel_rfl) (by kernel_rfl)) ?_
  intro W base args ds gs before hval0 hW hcnd _;have hval:∀ (j:Nat) t v,Try.f3.params[j]?=some t→args[j]?=some v→Value.okWide Try.prog W .any base t v:=hval0;have hW':=hW;obtain ⟨p,q,hA0,hV,rfl,hfz,hnd⟩:=hW;have hA:DataW.TrodAll enc Try.prog W 0 (fun _=>true) true Try.f3.params.toList args.toList ds p:=hA0;rw [Try.params3] at hA hval;obtain ⟨v0,v1,d0,d1,p0,p1,rfl,rfl,rfl,h0,h1⟩:=trodAll_two hA;obtain ⟨rfl,rfl⟩:=trodVars_none hV;obtain ⟨x0,hx0,hv0⟩:=open_agg (g:=(.pair (.int .u8) (.pair (.int .u8) (.sl (.int .u8))))) tt_ok rfl rfl (by kernel_rfl) (hval 0 24 v0 rfl rfl) h0;obtain ⟨s1,rfl,rfl,rfl,hs1⟩:=open_string Try.underlying9 (hval 1 9 v1 rfl rfl) h1;obtain ⟨x1,ex1⟩:∃ x,x=s1.data.toList:=⟨_,rfl⟩
  have hlaw:=AC.law (W:=W) ((ct_lawPD 400).ok (x0,x1,()) true (lawPD_ok x0 x1 (rng8 hx0.1) (rng8 hx0.2.1) (fun c hc=>rng8 (hx0.2.2 c hc)))) (globs_picturesDraw W) (vs:=[v0,.string s1]) ⟨v0,_,rfl,hv0 _ _ rfl,.string s1,_,rfl,(by rw [ex1]; rfl),rfl⟩;refine Calls.mono hlaw fun e W' ⟨v,he,hv,hw⟩=>?_
  subst hv;exact ⟨_,he,post_law hW' rfl rfl (by kernel_rfl) Try.underlying4 Try.laidOut read_picturesDraw hw⟩
theorem picturesDraw_holds:Rows.PicturesDrawSaid:=
  OpenClaim.holds_of_wide 3 Try.f3 rfl rfl rfl rfl rfl rfl rfl ⟨rfl,rfl,rfl,rfl,rfl⟩ rfl rfl rfl rfl rfl (by kernel_rfl) Try.func3 (by kernel_rfl)
    (of_decide_eq_true (by kernel_rfl)) (by unfold Func.isWrapper; first | (rw [if_pos (by decide +kernel)]; kernel_rfl) | (rw [if_neg (by decide +kernel)]; exact ⟨rfl,rfl⟩))
    (fun os started H enc _=>picturesDraw_lifted os started H enc)
end Go.Proofs.Yteglgnkcpaagjaa
