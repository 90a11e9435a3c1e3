/- Part 3 of 6 of the proof. -/
import Derived.Test.YtcheedjfedcbpaaGreatDoorEb02
import Derived.Maps.RangeRun
import Derived.RangeFuncNested
set_option linter.all false
set_option maxRecDepth 100000
namespace Go.Proofs.YtcheedjfedcbpaaGreatDoor
open _root_.Bool (and_eq_true not_eq_true' or_eq_true)
open _root_.Nat (add_assoc add_comm beq beq_refl ble blt eq_of_beq_eq_true le_refl le_trans lt_of_lt_of_le lt_of_succ_lt_succ lt_or_ge ne_of_beq_eq_false zero_add)
open _root_.List (append_assoc append_nil cons_append length_map length_set map_append map_nil mem_append_left mem_append_right mem_cons_of_mem mem_cons_self pairwise_append range replicate set_set toArray)
open Go.RowKit
section
set_option linter.unusedSectionVars false
section
variable {B:Nat->Prop} {w:World} {T':TypeId} {g:a7}
theorem bR.Rj:bR B w (.ax g) ([]:List g.D) [.slice none 0 0]:=⟨none,0,[],rfl,le_refl _,Nat.zero_le _,rfl,Reads.nil _ _ _,λ_ _ h=>absurd h (Nat.lt_irrefl 0)⟩
theorem dW.hole:∀ {l:List (Bool×List g.D)} {ys:cl} {bb:List gO} {i:Nat},dW B w T' g l ys bb->i<l.length ->
    ∃v ft,ys[i]?=some v/\dW B w T' g (l.set i (false,[])) (ys.set i (.slice none 0 0)) ft /\
      (((l.getD i (false,[])).1=true/\∃A k xs,v=.slice A (l.getD i (false,[])).2.length k/\Flat (bR B w g) (l.getD i (false,[])).2 xs/\bb.Perm (⟨A,k,T',g.size,(l.getD i (false,[])).2.length,xs⟩::ft)) \/
       ((l.getD i (false,[])).1=false/\bb=ft/\bR B w (.ax g) (l.getD i (false,[])).2 [v]))
  |[],_,_,_,_,h=>by simp at h
  |(true,d)::l,_,_,0,⟨v,a,e,A,k,xs,ft,c,b,az,bk⟩,_=>by
    subst e;exact⟨v,ft,rfl,⟨_,a,rfl,bR.Rj,bk⟩,.inl ⟨rfl,A,k,xs,c,az,by rw[b];exact List.Perm.refl _⟩⟩
  |(false,d)::l,_,bb,0,⟨v,a,e,az,bk⟩,_=>by
    subst e;exact⟨v,bb,rfl,⟨_,a,rfl,bR.Rj,bk⟩,.inr ⟨rfl,rfl,az⟩⟩
  |(true,d)::l,_,_,i+1,⟨v,a,e,A,k,xs,j,c,b,az,bk⟩,h=>by
    subst e;obtain⟨u,ft,I,J,ag⟩:=dW.hole bk (lt_of_succ_lt_succ h);refine⟨u,_::ft,I,⟨v,_,rfl,A,k,xs,ft,c,rfl,az,J⟩,ag.imp (λ⟨f,du,ey,gY,aC,ba,cE⟩=>⟨f,du,ey,gY,aC,ba,?_⟩) λ⟨f,aC,ba⟩=>⟨f,?_,ba⟩⟩
    · rw[b]
      exact(List.Perm.cons _ cE).trans (List.Perm.swap _ _ _)
    · rw[b,aC]
  |(false,d)::l,_,_,i+1,⟨v,a,e,az,bk⟩,h=>by
    subst e;obtain⟨u,ft,I,J,ag⟩:=dW.hole bk (lt_of_succ_lt_succ h);exact⟨u,ft,I,⟨v,_,rfl,az,J⟩,ag⟩
theorem dW.fill{a:List g.D}{A:Option Addr}{k:Nat}{xs:cl}(c:Flat (bR B w g) a xs):∀ {l:List (Bool×List g.D)} {ys:cl} {bb:List gO} {i:Nat},dW B w T' g (l.set i (false,[])) ys bb->i<l.length ->
    ∃ft,ft.Perm (⟨A,k,T',g.size,a.length,xs⟩::bb)/\dW B w T' g (l.set i (true,a)) (ys.set i (.slice A a.length k)) ft
  |[],_,_,_,_,h=>by simp at h
  |_::l,_,bb,0,⟨v,b,e,_,bk⟩,_=>by
    subst e;exact⟨_,List.Perm.refl _,_,b,rfl,A,k,xs,bb,rfl,rfl,c,bk⟩
  |(true,o)::l,_,_,i+1,⟨v,b,e,f,j,d,p,m,n,az,bk⟩,h=>by
    subst e;obtain⟨ft,I,J⟩:=dW.fill c (A:=A) (k:=k) bk (lt_of_succ_lt_succ h);refine⟨_::ft,?_,v,_,rfl,f,j,d,ft,m,rfl,az,J⟩;rw[n];exact(List.Perm.cons _ I).trans (List.Perm.swap _ _ _)
  |(false,o)::l,_,_,i+1,⟨v,b,e,az,bk⟩,h=>by
    subst e;obtain⟨ft,I,J⟩:=dW.fill c (A:=A) (k:=k) bk (lt_of_succ_lt_succ h);exact⟨ft,I,v,_,rfl,az,J⟩
theorem dW.Kt{c:List g.D}{u:Value}(b:bR B w (.ax g) c [u]):∀ {l:List (Bool×List g.D)} {ys:cl} {bb:List gO} {i:Nat},dW B w T' g (l.set i (false,[])) ys bb->i<l.length ->
    dW B w T' g (l.set i (false,c)) (ys.set i u) bb
  |[],_,_,_,_,h=>by simp at h
  |_::l,_,bb,0,⟨v,a,e,_,bk⟩,_=>by
    subst e;exact⟨_,a,rfl,b,bk⟩
  |(true,o)::l,_,_,i+1,⟨v,a,e,j,k,d,f,m,n,az,bk⟩,h=>by
    subst e;exact⟨v,_,rfl,j,k,d,f,m,n,az,dW.Kt b bk (lt_of_succ_lt_succ h)⟩
  |(false,o)::l,_,_,i+1,⟨v,a,e,az,bk⟩,h=>by
    subst e;exact⟨v,_,rfl,az,dW.Kt b bk (lt_of_succ_lt_succ h)⟩
theorem dW.map{l:List (List g.D)}:∀ {l:List (List g.D)} {ys:cl},Flat (bR B w (.ax g)) l ys->dW B w T' g (l.map λx=>(false,x)) ys []
  |[],_,h=>⟨h,rfl⟩
  |x::l,_,⟨a,b,e,I,J⟩=>by
    have ae:=bR.length I
    match a,ae with
    |[v],_=>exact⟨v,b,e,I,dW.map (l:=l) J⟩
theorem dW.Rk:∀k:Nat,∃bb,dW B w T' g (replicate k (true,[])) (replicate k (.slice none 0 0)) bb/\∀r∈bb,r=⟨none,0,T',g.size,0,[]⟩
  |0=>⟨[],⟨rfl,rfl⟩,λ_ h=>by cases h⟩
  |k+1=>by
    obtain⟨bb,I,J⟩:=dW.Rk k;refine⟨_::bb,⟨_,_,rfl,none,0,[],bb,rfl,rfl,rfl,I⟩,λr aw=>?_⟩
    rcases List.mem_cons.1 aw with rfl|aw
    · rfl
    · exact J r aw
end
theorem A3{id d:Nat}{z:bs}{b:cD}(a:id≠d):∀ {l:bC},bm l id=some b->bm (ew d z l) id=some (b.sub d z)
  |[],h=>by cases h
  |(k,b')::l,h=>by
    rw[cI]at h;unfold ew
    split at h
    · rename_i e
      subst e;cases h
      have:beq id d=false:=by
        cases ad:beq id d with
        |false=>rfl
        |true=>exact absurd (eq_of_beq_eq_true ad) a
      rw[this,cI,if_pos rfl]
    · rename_i e
      split
      · exact A3 a h
      · rw[cI,if_neg e]
        exact A3 a h
section
variable {X:bu} {R:Nat->Prop} {W:World} {aE:fj} {n:Nat} {aq:b6} {env:Nat->Loc} {B:Nat->Prop} {ak:World} {H:c2} {st:aO} {a aX:Act} {w:World} {d:Nat} {o:Oper}
theorem List.Rl{α:Type}{l:List α}{i:Nat}{v:α}(h:l[i]?=some v):l.set i v=l:=by
  obtain⟨a,rfl⟩:=List.getElem?_eq_some_iff.1 h;exact List.set_getElem_self a
theorem bK.Rm(h:bK X R W aE n aq env B ak H st a w)(ay:blt d n=true)(l:Loc):∃H2,H2.Sublist H/\bK X R W aE n aq (kX env d l) B ak H2 ⟨gu d .dead st.L,ew d .dead st.H⟩ a w:=by
  obtain⟨H2,I,J⟩:=h.heap.del (z:=.dead) (kz) (λ_ _=>trivial);refine⟨H2,I,h.size,h.defs,λs u b=>?_,J,h.aU.e2 (I.append_right _),h.sub,h.new,tJ h.dr (λq al=>by have I:=(h.dr _ _ al).1;have J:=ef ay;omega),h.base,h.eg⟩;obtain⟨f,g,rfl⟩:=qj b;obtain⟨e,ag,c⟩:=h.has s f g;exact⟨e,ag,eK.sub (z:=.dead) (kz) (λ_ _=>trivial) c⟩
theorem bZ.same{B:Nat->Prop}{ak w:World}{H:c2}(h:bZ B ak H w){c c':bp}(U:c∈H)(i:c'∈H){b:Nat}(ad:c.has b)(e:c'.has b):c=c':=by
  have key:∀ {H:c2},H.Pairwise bp.off->c∈H->c'∈H->c=c':=by
    intro H
    induction H with
    |nil=>intro _ h;cases h
    |cons x r g=>
      intro al I J;obtain⟨ag,f⟩:=List.pairwise_cons.1 al
      rcases List.mem_cons.1 I with d|aD
      · rcases List.mem_cons.1 J with a|a1
        · rw[d,a]
        · subst d;exact absurd e (ag _ a1 b ad)
      · rcases List.mem_cons.1 J with a|a1
        · subst a;exact absurd ad (ag _ aD b e)
        · exact g f aD a1
  exact key h.apart U i
theorem ne_of_beq_false{a b:Nat}(h:beq a b=false):a≠b:=λe=>by subst e;rw[beq_refl]at h;cases h
def wj:Option (Nat×Option Nat)->Nat->Bool
  |none,_=>true
  |some (j,_),i=>decide (j=i)
theorem dW.acT{T':TypeId}{g:a7}{l:List (Bool×List g.D)}{ys a:cl}{bb:List gO}{h:Option (Nat×Option Nat)}{i:Nat}(bk:dW B w T' g (Pr l h) ys bb)(b:Ad env l.length ys a h)(c:wj h i=true)(hi:i<l.length) :
    ∃zs ft,dW B w T' g (l.set i (false,[])) zs ft/\(∀u,a.set i u=zs.set i u)/\a.length=l.length/\∃d,bb.Perm d/\ft.Sublist d:=by
  match h,bk,b,c with
  |none,bk,b,_=>
    subst b;obtain⟨v,ft,I,J,ag⟩:=dW.hole (show dW B w T' g l a bb from bk) hi;refine⟨_,ft,J,λu=>by rw[set_set],dW.length (show dW B w T' g l a bb from bk),?_⟩
    rcases ag with⟨_,A,k,xs,_,_,al⟩|⟨_,e,_⟩
    · exact⟨_,al,List.sublist_cons_self _ _⟩
    · exact⟨ft,by rw[e],List.Sublist.refl _⟩
  |some (j,f),bk,⟨_,v,I,_⟩,c=>
    have e:=of_decide_eq_true c;subst e;have ae:=dW.length (show dW B w T' g (l.set j (false,[])) ys bb from bk);rw[length_set]at ae;exact⟨ys,bb,bk,λu=>by rw[I,set_set],by rw[I,length_set,ae],bb,List.Perm.refl _,List.Sublist.refl _⟩
theorem bK.Rn(h:bK X R W aE n aq env B ak H st a w){id:Nat}{b b':cD}(m:bm st.H id=some b):∃c d e,eM env B ak id b c/\H=d++c::e/\∀c' aX w',eM env B ak id b' c'->bZ (λk=>R k\/B k) ak (d++c'::(e++aq.map dE)) w'->df n (kW aq aE) (full a) aX->bK X R W aE n aq env B ak (d++c'::e) ⟨st.L,fc id b' st.H⟩ aX w':=by
  obtain⟨c,K,I,⟨d,e,g,rfl⟩,ag⟩:=h.heap.put m;refine⟨c,d,e,I,g,λc' aX w' ad j f=>⟨f.size,f.defs,λs u hu=>?_,ag b' c' ad,by rw[append_assoc,cons_append];exact j,h.sub,h.new,h.dr,h.base,h.eg⟩⟩;obtain⟨o,l,i⟩:=h.has s u hu;exact⟨o,f.same l,i⟩
theorem bZ.acU{B:Nat->Prop}{ak w:World}{H:c2}(h:bZ B ak H w):bZ B ak (.tree []::H) w:=
  ⟨h.below,h.base,λc U=>by
    rcases List.mem_cons.1 U with rfl|U
    · exact⟨(λ_ h=>by cases h),List.Pairwise.nil⟩
    · exact h.ok c U,List.Pairwise.cons (λc U b ad=>by obtain⟨_,h,_⟩:=ad;cases h) h.apart⟩
theorem bZ.Ro{B:Nat->Prop}{ak w:World}{X Y:c2}{r:gO}(h:bZ B ak (X++r.eA::Y) w):bZ B ak (X++.tree [r]::Y) w:=
  ((((h.perm q5).acU).perm (List.Perm.swap _ _ _)).ID).perm q5.symm
theorem bZ.Rp{B:Nat->Prop}{ak w:World}{H:c2}{r:gO}:∀ {bb:List gO},bZ B ak (.tree [r]::H) w->(∀s∈bb,∃e a,s=⟨none,0,e,a,0,[]⟩)->bZ B ak (.tree (r::bb)::H) w
  |[],h,_=>h
  |s::bb,h,b=>by
    obtain⟨e,a,rfl⟩:=b _ mem_cons_self;have d:=bZ.Rp h λs c=>b s (mem_cons_of_mem _ c)
    have J:bZ B ak (.tree (⟨none,0,e,a,0,[]⟩::r::bb)::H) w:=(d.tx e a).ID;exact bZ.z1 (X:=[]) J ⟨_,List.Perm.swap _ _ _,List.Sublist.refl _⟩
theorem Rq(s:X.a6.ok X.P){t T T':TypeId}{bE:cr}{x:Operand}{id d2 i j:Nat}{g:a7}{l:List (Bool×List g.D)}{cap:Option Nat}{q:Bool}(h:o.op=.load t x)(bk:X.a6.find t=some bE)(M:l7 bE.ti.desc=false)(ai:bz X st.L x=some (q,.c (.e4 id 1 i 0)))(z:q=true)(u:bm st.H id=some (.b0 T T' g l cap (some (j,some d2))))(F:decide (i=j)=true):jn X st o (.c (.ax d2)):=by
  intro R W aE n aq env B ak H a b5 ah;have e:=of_decide_eq_true F;subst e;obtain⟨vx,I,b,c,m,he,rfl⟩:=ah.aI ai z;obtain⟨eA,K,⟨A,k,ys,y,bb,p,rfl,L,⟨hi,v,r,ay⟩,_⟩,az⟩:=ah.heap.gU u;rw[he]at p;cases p;obtain⟨d,c',f,J,rfl⟩:=ay d2 rfl;have E:=dW.length (show dW B ak T' g (l.set i (false,[])) ys bb from L);refine⟨.slice d f c',⟨d,c',f,J,rfl⟩,λw C=>?_⟩;have D:fX w (λk=>R k\/B k) T 1 (some ⟨b,0,none⟩) c l.length y:=((C (by rw[h];rfl)).ok _ az.more.mem).1 _ mem_cons_self;have G:w.cell? ⟨b,i * 1+0,none⟩=some (.slice d f c'):=by
    rw[D.cells rfl _ (by omega),r]
    simp[E,hi]
  exact xX ah.cf h (cm.get s bk).ti M I G
theorem bK.storeT(L:X.a6.ok X.P)(ah:bK X R W aE n aq env B ak H st a w){t T T':TypeId}{bE:cr}{x y:Operand}{id i b d k':Nat}{g:a7}{l:List (Bool×List g.D)}{cap:Option Nat}{h:Option (Nat×Option Nat)}{f:Option Addr}(G:o.op=.store t x y)(N:o.guard=none/\o.dst=none)(bk:X.a6.find t=some bE)(Q:beq bE.ti.size 1=true)(ai:Go.Proofs.YtcheedjfedcbpaaGreatDoor.aI (full a) x=some (.pointer (some ⟨b,i * 1+0,none⟩))){c m:Nat}(he:env id=.row (some ⟨b,0,none⟩) c m)(aG:Go.Proofs.YtcheedjfedcbpaaGreatDoor.aI (full a) y=some (.slice f d k'))(O:bm st.H id=some (.b0 T T' g l cap h))(M:wj h i=true)(hi:i<l.length){b':cD}{ab:List Oper}{KK:Act->World->Prop}(ad:(∀q,cap=some q->c=q)->∀zs bb,dW B ak T' g (l.set i (false,[])) zs bb->eM env B ak id b' (.tree (⟨some ⟨b,0,none⟩,c,T,1,l.length,zs.set i (.slice f d k')⟩::bb)))(U:∀aX w' H',bK X R W aE n aq env B ak H' ⟨st.L,fc id b' st.H⟩ aX w'->KK aX w'):fh X.P ab.toArray o KK a w:=by
  obtain⟨eA,C,D,⟨A,k,ys,j,bb,v,rfl,ae,af,Y⟩,P,ac⟩:=ah.Rn (b':=b') O;rw[he]at v;cases v;obtain⟨zs,ft,I,aa,aj,Z⟩:=dW.acT ae af M hi
  let p:gO:=⟨some ⟨b,0,none⟩,c,T,1,l.length,j⟩
  have z:=ah.aU;rw[P,append_assoc,cons_append]at z;have J:bZ (λk=>R k\/B k) ak (C++.tree (p::ft)::(D++aq.map dE)) w:=by
    obtain⟨S,al,K⟩:=Z;exact z.z1 ⟨p::S,List.Perm.cons _ al,K.cons_cons _⟩
  have bP:Sym n (kW aq aE) (full a) (λk=>R k\/B k) ak (p.eA::(C++.tree ft::(D++aq.map dE))) a w:=⟨ah.cf,J.DA⟩
  have ag:=(cm.get L bk).ti;have V:=eq_of_beq_eq_true Q;refine DU bP G N ag ai aG (by rw[V];rfl) (by intro u hu;simp[Value.cells]at hu;subst hu;rfl) (xP) (by show i * 1+0+1<=l.length * 1;omega) λaX w' s=>?_
  have e:j.take (i * 1+0)++(Value.slice f d k').cells.toList++j.drop (i * 1+0+(Value.slice f d k').cells.toList.length)=zs.set i (.slice f d k'):=by
    rw[<- aa,List.set_eq_take_append_cons_drop,if_pos (by omega)]
    simp[Value.cells]
  have E:=s.aU;rw[e]at E;have F:=bZ.OW (r:=⟨some ⟨b,0,none⟩,c,T,1,l.length,zs.set i (.slice f d k')⟩) E;exact U aX w' _ (ac _ aX w' (ad Y zs ft I) F s.st)
theorem Rs(r:X.a6.ok X.P){t T T':TypeId}{bE:cr}{x y:Operand}{id d i:Nat}{g:a7}{l:List (Bool×List g.D)}{cap:Option Nat}{h:Option (Nat×Option Nat)}{p g2:Bool}(q:o.op=.store t x y)(v:o.guard=none/\o.dst=none)(bk:X.a6.find t=some bE)(C:beq bE.ti.size 1=true)(ai:bz X st.L x=some (p,.c (.e4 id 1 i 0)))(D:p=true)(aG:bz X st.L y=some (g2,.c (.ax d)))(z:g2=true)(j:bm st.H id=some (.b0 T T' g l cap h))(s:wj h i=true)(hi:decide (i<l.length)=true):hg X n o st ⟨st.L,fc id (.b0 T T' g l cap (some (i,some d))) st.H⟩:=by
  intro R W aE aq env B ak H a w ah KK S F;have e:=of_decide_eq_true hi;obtain⟨vx,I,b,c,m,he,rfl⟩:=ah.aI ai D;obtain⟨vy,J,E,cG,M,N,rfl⟩:=ah.aI aG z;have L:m=l.length:=by
    obtain⟨eA,K,⟨A,k,ys,P,bb,f,_⟩,_⟩:=ah.heap.gU j;rw[he]at f;cases f
    rfl
  subst L;exact ah.storeT (b':=.b0 T T' g l cap (some (i,some d))) r q v bk C I he J j s e (λG zs bb bO=>⟨_,c,zs,_,bb,he,rfl,bO,⟨e,_,rfl,λQ O=>by cases O;exact⟨E,cG,M,N,rfl⟩⟩,G⟩) λaX w' H' u=>F aX w' env H' u
theorem acX(s:X.a6.ok X.P){t T T':TypeId}{bE:cr}{x y:Operand}{id i:Nat}{g:a7}{l:List (Bool×List g.D)}{d:List g.D}{cap q:Option Nat}{h:Option (Nat×Option Nat)}{p g2:Bool}(r:o.op=.store t x y)(z:o.guard=none/\o.dst=none)(bk:X.a6.find t=some bE)(E:beq bE.ti.size 1=true)(ai:bz X st.L x=some (p,.c (.e4 id 1 i 0)))(F:p=true)(aG:bz X st.L y=some (g2,.c (.bo g d q)))(D:g2=true)(j:bm st.H id=some (.b0 T T' g l cap h))(u:wj h i=true)(hi:decide (i<l.length)=true):hg X n o st ⟨st.L,fc id (.b0 T T' g (l.set i (false,d)) cap none) st.H⟩:=by
  intro R W aE aq env B ak H a w ah KK Y J;have e:=of_decide_eq_true hi;obtain⟨vx,I,b,c,m,he,rfl⟩:=ah.aI ai F;obtain⟨vy,N,G,cG,O,rfl,C,L,V,Q,S⟩:=ah.aI aG D;have P:m=l.length:=by
    obtain⟨eA,K,⟨A,k,ys,U,bb,f,_⟩,_⟩:=ah.heap.gU j;rw[he]at f;cases f
    rfl
  subst P;exact ah.storeT (b':=.b0 T T' g (l.set i (false,d)) cap none) s r z bk E I he N j u e (λM zs bb bO=>⟨_,c,_,_,bb,by rw[length_set];exact he,by rw[length_set],dW.Kt ⟨G,cG,O,rfl,C,L,Q,S⟩ bO e,rfl,M⟩) λaX w' H' v=>J aX w' env H' v
theorem acY{T T':TypeId}{id i:Nat}{g:a7}{l:List (Bool×List g.D)}{cap:Option Nat}(ay:blt d n=true)(r:bm st.H id=some (.b0 T T' g l cap none))(E:beq d id=false)(hi:decide (i<l.length)=true)(q:(l.getD i (false,[])).1=true)
    : ds X n st ⟨gu d .dead st.L,(d,.row T' g (l.getD i (false,[])).2 none)::fc id (.b0 T T' g l cap (some (i,some d))) (ew d .dead st.H)⟩:=λR W aE M a w ⟨aq,env,B,ak,H,F,ah⟩=>by
  have o:=of_decide_eq_true hi;have m:id≠d:=λe=>ne_of_beq_false E e.symm
  obtain⟨c0,ac,⟨A,k,ys,G,bb,he,rfl,Q,S,I⟩,z⟩:=ah.heap.gU r;have V:=S;subst V;obtain⟨b,rfl⟩:=fX.at ((ah.aU.ok _ z.more.mem).1 _ mem_cons_self) (by show 0<l.length;omega);obtain⟨v,ft,D,C,Z⟩:=dW.hole (show dW B ak T' g l G bb from Q) o
  rcases Z with⟨_,du,ey,gY,rfl,hb,lr⟩|⟨Kv,_⟩
  · obtain⟨H2,J,f⟩:=ah.Rm ay (.row du ey (l.getD i (false,[])).2.length)
    obtain⟨fu,ae,K,⟨N,O,Y,rfl⟩,P⟩:=f.heap.put (A3 m r);subst Y;obtain⟨ad,ai,ag,j,ab,u,rfl,_⟩:=K;rw[kz id m,he]at u;cases u;have y:=ah.aU.same (c:=.tree (⟨some ⟨b,0,none⟩,k,T,1,l.length,j⟩::ab)) (mem_append_left _ (J.subset (by simp))) z.more.mem ⟨_,mem_cons_self,rfl⟩ ⟨_,mem_cons_self,rfl⟩;simp only[bp.tree.injEq,List.cons.injEq,gO.mk.injEq,true_and]at y;obtain⟨rfl,rfl⟩:=y
    let p:gO:=⟨du,ey,T',g.size,(l.getD i (false,[])).2.length,gY⟩
    let t:gO:=⟨some ⟨b,0,none⟩,k,T,1,l.length,j⟩
    have s:=f.aU;rw[append_assoc,cons_append]at s;have L:=s.z1 ⟨p::t::ft,(List.Perm.cons _ lr).trans (List.Perm.swap _ _ _),List.Sublist.refl _⟩;have U:=L.DA;refine⟨aq,_,B,ak,p.eA::(N++.tree (t::ft)::O),F,f.size,f.defs,f.has,⟨_,_,rfl,⟨du,ey,gY,fK,rfl,hb,λ_ h=>by cases h⟩,P _ _ ⟨_,k,j.set i (.slice none 0 0),j,ft,by rw[kz id m];exact he,rfl,C,⟨o,.slice du (l.getD i (false,[])).2.length ey,?_,λaf aa=>by cases aa;exact⟨du,ey,_,fK,rfl⟩⟩,I⟩⟩,by rw[cons_append,append_assoc,cons_append];exact U,f.sub,f.new,f.dr,f.base,f.eg⟩;rw[set_set];exact(List.Rl D).symm
  · rw[Kv]at q;cases q
theorem ac0{T T':TypeId}{id i d:Nat}{g:a7}{l:List (Bool×List g.D)}{f:List g.D}{cap N:Option Nat}(r:bm st.H id=some (.b0 T T' g l cap (some (i,some d))))(O:bm st.H d=some (.row T' g f N))(V:beq d id=false) :
    ds X n st ⟨gu d .dead st.L,fc id (.b0 T T' g (l.set i (true,f)) cap none) (ew d .dead st.H)⟩:=λR W aE M a w ⟨aq,env,B,ak,H,aa,h⟩=>by
  have aw:id≠d:=λe=>ne_of_beq_false V e.symm
  obtain⟨c0,az,⟨A,k,ys,aG,bb,he,rfl,au,⟨Q,v,P,ar⟩,ac⟩,K⟩:=h.heap.gU r;obtain⟨fu,Y,Z,⟨y,D,ad,ap,rfl,af,_⟩,t,av⟩:=h.heap.take O;obtain⟨aF,c',aH,j,rfl⟩:=ar d rfl;rw[ap]at j;cases j;obtain⟨b,rfl⟩:=fX.at ((h.aU.ok _ K.more.mem).1 _ mem_cons_self) (by show 0<l.length;omega);obtain⟨H2,F,S,_⟩:=av env .dead (λ_ _=>rfl) (λ_ _=>trivial);have m:=A3 (z:=.dead) aw r;rw[show(cD.b0 T T' g l cap (some (i,some d))).sub d .dead=.b0 T T' g l cap (some (i,none)) by simp only[cD.sub,beq_refl]]at m;obtain⟨aJ,aC,ay,⟨G,I,ax,rfl⟩,ao⟩:=S.put m;subst ax;obtain⟨aB,aI,aA,o,c,q,rfl,aD,_⟩:=ay;rw[he]at q;cases q;have ai:bp.tree (⟨some ⟨b,0,none⟩,k,T,1,l.length,o⟩::c)∈H:=by
    rw[t]
    have:=F.subset (a:=bp.tree (⟨some ⟨b,0,none⟩,k,T,1,l.length,o⟩::c)) (by simp)
    simp only[List.mem_append,List.mem_cons]at this ⊢;exact this.imp (λh=>h) .inr
  have J:=h.aU.same (mem_append_left _ ai) K.more.mem ⟨_,mem_cons_self,rfl⟩ ⟨_,mem_cons_self,rfl⟩;simp only[bp.tree.injEq,List.cons.injEq,gO.mk.injEq,true_and]at J;obtain⟨rfl,rfl⟩:=J;obtain⟨ft,an,L⟩:=dW.fill af (show dW B ak T' g (l.set i (false,[])) ys c from au) Q
  let p:gO:=⟨y,D,T',g.size,f.length,ad⟩
  let E:gO:=⟨some ⟨b,0,none⟩,k,T,1,l.length,ys.set i (.slice y f.length D)⟩
  have C:=h.aU;rw[t]at C;have ab:bZ (λk=>R k\/B k) ak (p.eA::(G++.tree (E::c)::(I++aq.map dE))) w:=by
    have al:(Y++p.eA::Z++aq.map dE).Perm (p.eA::(Y++Z++aq.map dE)):=by
      simp only[append_assoc,cons_append];exact List.perm_middle
    have:=(C.perm al).e2 (((F.append_right (aq.map dE))).cons_cons _)
    rw[append_assoc,cons_append,P]at this;exact this
  have ah:=ab.OW.z1 ⟨_,(List.Perm.swap _ _ _).trans (List.Perm.cons _ an.symm),List.Sublist.refl _⟩;refine⟨aq,env,B,ak,G++.tree (E::ft)::I,aa,h.size,h.defs,λs u hu=>?_,ao _ _ ⟨_,k,_,_,ft,by rw[length_set];exact he,by rw[length_set],L,rfl,ac⟩,by rw[append_assoc,cons_append];exact ah,h.sub,h.new,h.dr,h.base,h.eg⟩;obtain⟨aj,am,rfl⟩:=qj hu;obtain⟨ae,ag,U⟩:=h.has s aj am;exact⟨ae,ag,eK.sub (z:=.dead) (λ_ _=>rfl) (λ_ _=>trivial) U⟩
theorem ac3{T:TypeId}(T':TypeId){id:Nat}{g:a7}{l:List (List g.D)}{cap:Option Nat}(e:bm st.H id=some (.row T (.ax g) l cap)) :
    ds X n st ⟨st.L,fc id (.b0 T T' g (l.map λx=>(false,x)) cap none) st.H⟩:=λR W aE M a w ⟨aq,env,B,ak,H,d,h⟩=>by
  obtain⟨c0,m,o,⟨A,k,xs,he,rfl,az,i⟩,f,j⟩:=h.Rn (b':=.b0 T T' g (l.map λx=>(false,x)) cap none) e;have b:=h.aU;rw[f,append_assoc,cons_append]at b;have c:=bZ.Ro (r:=⟨A,k,T,1,l.length,xs⟩) b;exact⟨aq,env,B,ak,_,d,j (.tree [⟨A,k,T,1,l.length,xs⟩]) a w ⟨A,k,xs,xs,[],by rw[length_map];exact he,by rw[length_map],dW.map (l:=l) az,rfl,i⟩ c h.cf⟩
theorem fX.reads{w:World}{B:Nat->Prop}{e:TypeId}{size c n:Nat}{A:Option Addr}{xs:cl}(a:fX w B e size A c n xs):Reads w A n size xs:=by
  refine⟨a.1,λbc=>?_⟩;obtain⟨g,I⟩:=a.at bc;refine⟨g,0,I,λj u hu=>?_⟩;rw[zero_add,a.cells I j (by have:=(List.getElem?_eq_some_iff.1 hu).1;rw[a.1]at this;exact this)];exact hu
theorem dW.flat{B B':Nat->Prop}{w:World}{T':TypeId}{g:a7}:∀ {l:List (Bool×List g.D)} {ys:cl} {bb:List gO},dW B' w T' g l ys bb->(∀r∈bb,r.ok B w/\∀b,r.has b->B' b)->Flat (bR B' w (.ax g)) (l.map (·.2)) ys
  |[],_,_,⟨e,_⟩,_=>e
  |(true,j)::l,_,_,⟨v,d,e,A,k,xs,ft,f,i,az,bk⟩,a=>by
    subst i;obtain⟨I,J⟩:=a _ mem_cons_self;have c:=I;exact⟨[v],d,e,⟨A,k,xs,by rw[f],c.le.1,c.le.2,az,c.reads,λb p _ e=>J b (by show A.map _=_;rw[e];rfl)⟩,dW.flat bk λr h=>a r (mem_cons_of_mem _ h)⟩
  |(false,j)::l,_,_,⟨v,d,e,az,bk⟩,a=>⟨[v],d,e,az,dW.flat bk a⟩
theorem ac4{T T':TypeId}{id:Nat}{g:a7}{l:List (Bool×List g.D)}{cap:Option Nat}(N:bm st.H id=some (.b0 T T' g l cap none)) :
    ds X n st ⟨gu id (.bo (.ax g) (l.map (·.2)) cap) st.L,ew id (.bo (.ax g) (l.map (·.2)) cap) st.H⟩:=λR W aE M a w ⟨aq,env,B,ak,H,au,h⟩=>by
  obtain⟨c0,aM,aG,aH⟩:=h.heap.gU N;have S:=(aH.more (H2:=aq.map dE)).mem;have z:gm B ak (λq=>B q\/c0.has q) w:=⟨λq ar=>.inl ar,λq ar=>h.aU.below.block q (.inr ar)⟩
  obtain⟨c,Y,Z,ad,J,ag⟩:=(h.heap.up z).take N;have P:c∈H++aq.map dE:=by rw[J];simp
  have aa:c=c0:=by
    obtain⟨A,k,ys,d,bb,he,y,D,E,_⟩:=aG;obtain⟨aN,aP,aB,aQ,aL,Q,K,ab,aK,_⟩:=ad;rw[he]at Q;cases Q
    match ah:A with
    |some p=>
      subst y;subst K;exact h.aU.same P S ⟨_,mem_cons_self,rfl⟩ ⟨_,mem_cons_self,rfl⟩
    |none=>
      have f:fX w (λk=>R k\/B k) T 1 none k l.length d:=by
        subst y;exact(h.aU.ok _ S).1 _ mem_cons_self
      have ae:l.length=0:=by
        by_cases ae:l.length=0
        · exact ae
        · obtain⟨b,ad⟩:=f.at (by omega)
          cases ad
      have aI:l=[]:=List.length_eq_zero_iff.1 ae;subst aI;have ao:=E;have ac:=aK;obtain⟨af,aj⟩:=(show dW B ak T' g [] ys bb from D)
      obtain⟨am,av⟩:=(show dW _ w T' g [] aB aL from ab)
      subst ao ac af aj am av;rw[y,K]
  subst aa;obtain⟨A,k,ys,d,bb,he,rfl,D,E,ay⟩:=ad;have aJ:=E;subst aJ;have t:=h.aU.ok _ P;have f:=t.1 _ mem_cons_self;have O:∀q,bp.has (.tree (⟨A,k,T,1,l.length,d⟩::bb)) q->¬(R q\/B q)/\q<w.heap.size:=λq ar=>t.lt ar
  have ap:=dW.flat (show dW _ w T' g l d bb from D) λr I=>⟨t.1 r (mem_cons_of_mem _ I),λb ad=>.inr ⟨r,mem_cons_of_mem _ I,ad⟩⟩
  have V:∀v,dR env (λq=>B q\/bp.has (.tree (⟨A,k,T,1,l.length,d⟩::bb)) q) w (.ax id) v->dR env (λq=>B q\/bp.has (.tree (⟨A,k,T,1,l.length,d⟩::bb)) q) w (.bo (.ax g) (l.map (·.2)) cap) v:=by
    rintro v ⟨aO,c',m,L,rfl⟩;rw[he]at L;cases L;exact⟨A,k,d,by rw[length_map],by rw[length_map];exact f.le.1,f.le.2,ay,ap,by rw[length_map];exact⟨f.reads,λb p _ e=>.inr ⟨_,mem_cons_self,by show A.map _=_;rw[e];rfl⟩⟩⟩
  obtain⟨H2,G,an,_⟩:=ag env (.bo (.ax g) (l.map (·.2)) cap) (λ_ _=>rfl) V;have C:=h.aU.apart;rw[J,append_assoc,cons_append]at C;refine⟨aq,env,_,w,H2,au,h.size,h.defs,λs u hu=>?_,an,?_,λq ar=>.inl (h.sub q ar),λq ar=>?_,h.dr,h.base.trans ⟨h.aU.below.os,h.aU.below.tape,h.aU.below.output,h.aU.below.size,λq ar=>h.aU.below.block q (.inl ar)⟩,λi x ai=>(h.eg i x ai).up z⟩
  · obtain⟨aD,aF,rfl⟩:=qj hu
    obtain⟨az,j,ca⟩:=h.has s aD aF;exact⟨az,j,eK.sub (λ_ _=>rfl) V (ca.up z)⟩
  · have o:bZ (λk=>R k\/B k) ak (H2++aq.map dE) w:=by
      have j:=h.aU;rw[J]at j;have al:(Y++bp.tree (⟨A,k,T,1,l.length,d⟩::bb)::Z++aq.map dE).Perm (bp.tree (⟨A,k,T,1,l.length,d⟩::bb)::(Y++Z++aq.map dE)):=by
        simp only[append_assoc,cons_append];exact List.perm_middle
      exact(j.perm al).e2 (((G.append_right _)).cons _)
    refine⟨c9.refl _ _,λq ar=>?_,λc U=>(o.ok c U).base λb ad cB=>?_,o.apart⟩
    · rcases ar with ar|ar|ar
      · exact h.aU.base q (.inl ar)
      · exact h.aU.base q (.inr ar)
      · exact(O q ar).2
    · rcases cB with cB|cB|cB
      · exact((o.ok c U).lt ad).1 (.inl cB)
      · exact((o.ok c U).lt ad).1 (.inr cB)
      · have aC:c∈Y++(Z++aq.map dE):=by
          rcases List.mem_append.1 U with U|U
          · have:=G.subset U
            rcases List.mem_append.1 this with ca|ca
            · exact mem_append_left _ ca
            · exact mem_append_right _ (mem_append_left _ ca)
          · exact mem_append_right _ (mem_append_right _ U)
        rw[pairwise_append,List.pairwise_cons]at C;obtain⟨_,⟨aw,_⟩,aA⟩:=C
        rcases List.mem_append.1 aC with ca|ca
        · exact aA c ca _ mem_cons_self b ad cB
        · exact aw c ca b cB ad
  · rcases ar with ar|ar
    · exact(h.new q ar).imp_right λF=>⟨F.1,F.2.ee (h.aU.below.block q (.inr ar))⟩
    · exact .inr ⟨λax=>(O q ar).1 (.inl ax),t.cells rfl ar⟩
theorem ac5{T T':TypeId}{id:Nat}{g:a7}{l:List (Bool×List g.D)}{cap:Option Nat}(y:bm st.H id=some (.b0 T T' g l cap none)) :
    ds X n st ⟨st.L,fc id (.row T (.ax g) (l.map (·.2)) cap) st.H⟩:=λR W aE M a w ⟨aq,env,B,ak,H,ac,h⟩=>by
  obtain⟨c0,aA,ap,av⟩:=h.heap.gU y;have L:=(av.more (H2:=aq.map dE)).mem;obtain⟨A,k,ys,e,bb,he,rfl,J,au,aj⟩:=ap;have ax:=au;subst ax
  let m:gO:=⟨A,k,T,1,l.length,e⟩
  have j:gm B ak (λq=>B q\/bp.has (.tree bb) q) w:=⟨λq ar=>.inl ar,λq ar=>h.aU.below.block q (.inr ar)⟩
  obtain⟨c,K,ad,⟨F,G,z,rfl⟩,ao⟩:=(h.heap.up j).put y;have E:c∈H++aq.map dE:=by rw[z];simp
  have N:c=.tree (⟨A,k,T,1,l.length,e⟩::bb):=by
    obtain⟨aB,aC,an,aD,az,I,v,O,ay,_⟩:=ad;rw[he]at I;cases I
    match ah:A with
    |some p=>
      subst v;exact h.aU.same E L ⟨_,mem_cons_self,rfl⟩ ⟨_,mem_cons_self,rfl⟩
    |none=>
      have al:fX w (λk=>R k\/B k) T 1 none k l.length e:=(h.aU.ok _ L).1 _ mem_cons_self;have ae:l.length=0:=by
        by_cases ae:l.length=0
        · exact ae
        · obtain⟨b,ad⟩:=al.at (by omega)
          cases ad
      have aw:l=[]:=List.length_eq_zero_iff.1 ae;subst aw;have Q:=ay;obtain⟨S,V⟩:=(show dW B ak T' g [] e bb from J)
      obtain⟨Y,af⟩:=(show dW _ w T' g [] an az from O)
      subst Q S V Y af;rw[v]
  subst N;have o:=h.aU.ok _ E;have D:∀q,bp.has (.tree bb) q->¬(R q\/B q)/\q<w.heap.size:=λq ⟨r,d,ar⟩=>o.lt ⟨r,mem_cons_of_mem _ d,ar⟩
  have aa:=dW.flat (B':=λq=>B q\/bp.has (.tree bb) q) ((dW.up j (show dW B ak T' g l e bb from J))) λr d=>⟨o.1 r (mem_cons_of_mem _ d),λb ad=>.inr ⟨r,d,ad⟩⟩
  have C:=h.aU;rw[z,append_assoc,cons_append]at C;have f:bZ (λk=>R k\/B k) ak (.tree bb::(F++m.eA::(G++aq.map dE))) w:=by
    refine(C.DA).perm ?_;refine(List.Perm.cons _ q5).trans ((List.Perm.swap _ _ _).trans (List.Perm.cons _ q5.symm))
  have Z:=ao (.row T (.ax g) (l.map (·.2)) cap) m.eA ⟨A,k,e,by rw[length_map];exact he,by rw[length_map];rfl,aa,aj⟩;refine⟨aq,env,_,w,F++m.eA::G,ac,h.size,h.defs,λs u hu=>?_,Z,?_,λq ar=>.inl (h.sub q ar),λq ar=>?_,h.dr,h.base.trans ⟨h.aU.below.os,h.aU.below.tape,h.aU.below.output,h.aU.below.size,λq ar=>h.aU.below.block q (.inl ar)⟩,λi x ai=>(h.eg i x ai).up j⟩
  · obtain⟨am,P,ab⟩:=h.has s u hu
    exact⟨am,P,ab.up j⟩
  · rw[append_assoc,cons_append]
    refine⟨c9.refl _ _,λq ar=>?_,λc U=>(f.ok c (mem_cons_of_mem _ U)).base λb ad cB=>?_,(List.pairwise_cons.1 f.apart).2⟩
    · rcases ar with ar|ar|ar
      · exact h.aU.base q (.inl ar)
      · exact h.aU.base q (.inr ar)
      · exact(D q ar).2
    · rcases cB with cB|cB|cB
      · exact((f.ok c (mem_cons_of_mem _ U)).lt ad).1 (.inl cB)
      · exact((f.ok c (mem_cons_of_mem _ U)).lt ad).1 (.inr cB)
      · exact(List.pairwise_cons.1 f.apart).1 c U b cB ad
  · rcases ar with ar|ar
    · exact(h.new q ar).imp_right λt=>⟨t.1,t.2.ee (h.aU.below.block q (.inr ar))⟩
    · exact .inr ⟨λag=>(D q ar).1 (.inl ag),by
        obtain⟨r,d,ad⟩:=ar;exact o.cells rfl ⟨r,mem_cons_of_mem _ d,ad⟩⟩
end
inductive yE where
  |close (id d:Nat)
  |Ky (id:Nat) (T':TypeId)
  |cT (id:Nat)
  |eF (id:Nat)
  |op (id s d:Nat)
  |A5 (id s d:Nat) (k:IntKind) (c:Int)
  |dc (i j:Nat)
def yE.yF:yE->b6
  |.close id d=>[id,d]
  |.Ky id _=>[id]
  |.cT _=>[]
  |.eF id=>[id]
  |.op id _ d=>[id,d]
  |.A5 id _ d _ _=>[id,d]
  |.dc i j=>[i,j]
def yG(n:Nat)(st:aO)(id d i:Nat):Option (Bool×aO):=match blt d n,bm st.H id,beq d id with
  |true,some (.b0 T T' g l cap none),false=>some (decide (i<l.length)&&(l.getD i (false,[])).1,⟨gu d .dead st.L,(d,.row T' g (l.getD i (false,[])).2 none)::fc id (.b0 T T' g l cap (some (i,some d))) (ew d .dead st.H)⟩)
  |_,_,_=>none
def A6(n:Nat)(st:aO):yE->Option (Bool×aO)
  |.close id d=>match bm st.H id,bm st.H d,beq d id with
    |some (.b0 T T' g l cap (some (i,some e))),some (.row a g2 b _),false=>match beq e d,beq a T',decEq g2 g with
      |true,true,isTrue h=>some (true,⟨gu d .dead st.L,fc id (.b0 T T' g (l.set i (true,pQ h b)) cap none) (ew d .dead st.H)⟩)
      |_,_,_=>none
    |_,_,_=>none
  |.Ky id T'=>match bm st.H id with
    |some (.row T (.ax g) l cap)=>some (true,⟨st.L,fc id (.b0 T T' g (l.map λx=>(false,x)) cap none) st.H⟩)
    |_=>none
  |.cT id=>match bm st.H id with
    |some (.b0 _ _ g l cap none)=>some (true,⟨gu id (.bo (.ax g) (l.map (·.2)) cap) st.L,ew id (.bo (.ax g) (l.map (·.2)) cap) st.H⟩)
    |_=>none
  |.eF id=>match bm st.H id with
    |some (.b0 T _ g l cap none)=>some (true,⟨st.L,fc id (.row T (.ax g) (l.map (·.2)) cap) st.H⟩)
    |_=>none
  |.op id s d=>match bm st.L s with
    |some (.a (.c (.val (.int _ z))))=>yG n st id d z.toNat
    |_=>none
  |.A5 id s d k c=>match bm st.L s with
    |some (.a (.c (.val (.int _ z))))=>yG n st id d (k.wrap (z-c)).toNat
    |_=>none
  |.dc i j=>match blt j n with
    |true=>some (true,⟨gd (jF i j) st.L,oi (jF i j) st.H⟩)
    |false=>none
section
variable {X:bu} {n:Nat} {st st':aO} {d:Nat} {o:Oper}
theorem Rw{id i:Nat}{c:Bool}(h:yG n st id d i=some (c,st'))(U:c=true):ds X n st st':=by
  unfold yG at h
  split at h
  · rename_i I J ag
    cases h;simp only[and_eq_true]at U;exact acY I J ag U.1 U.2
  · cases h
theorem ac6{i j:Nat}(b:blt j n=true):ds X n st ⟨gd (jF i j) st.L,oi (jF i j) st.H⟩:=λ_ _ _ _ _ _ ⟨aq,env,B,ak,H,e,ah⟩=>by
  obtain⟨H',I,J⟩:=bJ.c8 (yj) ah.heap;refine⟨aq,kX env j (env i),B,ak,H',e,ah.size,ah.defs,λs sv c=>?_,J,ah.aU.e2 (I.append_right _),ah.sub,ah.new,tJ ah.dr (λq al=>by have I:=(ah.dr _ _ al).1;have J:=ef b;omega),ah.base,ah.eg⟩;obtain⟨u,ag,rfl⟩:=ua c;obtain⟨v,d,a⟩:=ah.has s u ag;exact⟨v,d,eK.c8 yj a⟩
theorem ac7{x:yE}{c:Bool}(h:A6 n st x=some (c,st'))(U:c=true):ds X n st st':=by
  unfold A6 at h
  split at h
  · split at h
    · rename_i I J ag
      split at h
      · rename_i d a e _
        cases h;subst d;have f:=eq_of_beq_eq_true a;have g:=eq_of_beq_eq_true e;subst f;subst g;exact ac0 I J ag
      · cases h
    · cases h
  · split at h
    · rename_i I
      cases h;exact ac3 _ I
    · cases h
  · split at h
    · rename_i I
      cases h;exact ac4 I
    · cases h
  · split at h
    · rename_i I
      cases h;exact ac5 I
    · cases h
  · split at h
    · exact Rw h U
    · cases h
  · split at h
    · exact Rw h U
    · cases h
  · split at h
    · rename_i b
      cases h;exact ac6 b
    · cases h
end
end
inductive mz where
 |cT (id:Nat)
 |bX (id:Nat) (g:a7)
 |nil (s id:Nat) (t:TypeId) (g:a7)
 |qt (k p id:Nat) (t:TypeId) (g:a7)
 |sK (id:Nat)
 |t (x:yE)
def yH(n:Nat):mz->aO->Option (Bool×aO)
 |.cT id,st=>match Go.Proofs.YtcheedjfedcbpaaGreatDoor.cT id st with
  |some st'=>some (true,st')
  |none=>none
 |.bX id g,st=>match bm st.H id with
  |some (.cells _ cs)=>match dec g cs with
   |some (c,x,[])=>some (c,⟨vO id g x st.L,oh id g x st.H⟩)
   |_=>none
  |_=>none
 |.nil s id t g,st=>match blt id n,bm st.L s with
  |true,some (.a (.c (.val v)))=>match isNil v with
   |true=>some (true,⟨(s,.c (.ax id))::gu id .dead st.L,(id,.row t g [] none)::ew id .dead st.H⟩)
   |false=>none
  |_,_=>none
 |.qt k p id t g,st=>match blt id n with
  |true=>some (true,⟨gu id .dead st.L,(id,.row t g [] none)::kl k p id (ew id .dead st.H)⟩)
  |false=>none
 |.sK id,st=>match Go.Proofs.YtcheedjfedcbpaaGreatDoor.sK id st with
  |some st'=>some (true,st')
  |none=>none
 |.t x,st=>A6 n st x
theorem Rx{X:bu}{n:Nat}{x:mz}{st st':aO}{c:Bool}(h:yH n x st=some (c,st'))(U:c=true):ds X n st st':=by
 unfold yH at h
 split at h
 ·split at h
  ·rename_i e;cases h;exact ds.cT e
  ·cases h
 ·split at h
  ·rename_i e
   split at h
   ·rename_i a;cases h;exact ds.bX _ _ e a U
   ·cases h
  ·cases h
 ·split at h
  ·rename_i e a
   split at h
   ·rename_i b
    cases h;rw[QS b]at a;exact ds.nil _ _ _ _ e a
   ·cases h
  ·cases h
 ·split at h
  ·rename_i e;cases h;exact ds.qt _ _ _ _ _ e
  ·cases h
 ·split at h
  ·rename_i e;cases h;exact ds.sK e
  ·cases h
 ·exact ac7 h U
def mz.yF:mz->b6
 |.nil s id _ _=>[s,id]
 |.qt k _ id _ _=>[k,id]
 |.t x=>x.yF
 |_=>[]
theorem ac8{a b:Nat}(h:a≠b):beq b a=false:=by
 cases e:beq b a with
 |false=>rfl
 |true=>exact absurd (eq_of_beq_eq_true e).symm h
theorem k4(a:Nat)(r:b6):fC a (a::r)=true:=by
 unfold fC;rw[beq_refl]
theorem Kz{id:Nat}{g:a7}{x:g.D}{V:b6}:∀H:bC,nf V H (oh id g x H)
 |[]=>cz.refl []
 |(k,b)::r=>λq v a ae=>by
  unfold oh at ae
  split at ae
  ·rename_i e
   have aa:=eq_of_beq_eq_true e;obtain⟨u,I,J⟩:=Kz r q v a ae
   by_cases c:q=k
   ·subst c
    subst aa;exact(KA ae).elim
   ·exact⟨u,by rw[cI,if_neg c];exact I,J⟩
  ·rw[cI]at ae ⊢
   split at ae
   ·rename_i e
    cases ae;rw[if_pos e];exact⟨b,rfl,λaz=>acQ az⟩
   ·rename_i e
    rw[if_neg e];exact Kz r q v a ae
where KA {id:Nat} {g:a7} {x:g.D} {v:cD}:∀ {H:bC},bm (oh id g x H) id=some v->False
 |[],h=>by cases h
 |(k,b)::r,h=>by
  unfold oh at h
  split at h
  ·exact KA h
  ·rename_i e
   rw[cI,if_neg (λd=>by rw[d,beq_refl]at e;cases e)]at h;exact KA h
theorem KB{k p id:Nat}{V:b6}(d:fC k V=true):∀H:bC,nf V H (kl k p id H)
 |[]=>cz.refl []
 |(j,b)::r=>λq v a ae=>by
  have f:q≠k:=λe=>by rw[e,d]at a;cases a
  unfold kl at ae
  split at ae
  ·cases ae
  ·rename_i c
   cases c
   split at ae
   ·rename_i e
    have aa:=eq_of_beq_eq_true e;subst aa;rw[cI,if_neg f]at ae;exact⟨v,by rw[cI,if_neg f];exact ae,λ_=>rfl⟩
   ·rw[cI]at ae ⊢
    split at ae
    ·rename_i e
     rw[if_pos e];exact⟨_,rfl,λ_=>by cases ae;rfl⟩
    ·rename_i e
     rw[if_neg e];exact KB d r q v a ae
  ·rename_i c
   cases c;rw[cI]at ae ⊢
   split at ae
   ·rename_i e
    rw[if_pos e];exact⟨_,rfl,λ_=>by cases ae;rfl⟩
   ·rename_i e
    rw[if_neg e];exact KB d r q v a ae
theorem rI{q k:Nat}{r:b6}:fC q (k::r)=false↔q≠k/\fC q r=false:=⟨gN,λ⟨I,J⟩=>by
 unfold fC;rw[ac8 I];exact J⟩
theorem ac9{q a b:Nat}(h:fC q [a,b]=false):fC q (b::([a]++[]))=false:=by
 obtain⟨I,J⟩:=rI.1 h;obtain⟨ag,c⟩:=rI.1 J;exact rI.2 ⟨ag,rI.2 ⟨I,rfl⟩⟩
theorem ada{k p id:Nat}{z:bs}{b:cD}(H:bC):nf [k,id] H ((id,b)::kl k p id (ew id z H)):=
 (((kI id z H).trans (KB (k:=k) (p:=p) (id:=id) (k4 k []) _)).cons (d:=id) (v:=b)).more λ_ h=>ac9 h
def db(V:b6)(st st':aO):Prop:=yD V st.L st'.L/\nf V st.H st'.H
theorem db.refl{V:b6}(st:aO):db V st st:=⟨cz.refl _,cz.refl _⟩
theorem db.trans{V V2:b6}{a b c:aO}(h:db V a b)(k:db V2 b c):db (V2++V) a c:=⟨h.1.trans k.1,h.2.trans k.2⟩
theorem db.more{V V2:b6}{a b:aO}(h:db V a b)(c:∀q,fC q V2=false->fC q V=false):db V2 a b:=⟨h.1.more c,h.2.more c⟩
theorem Ry{n:Nat}{st st':aO}{id d i:Nat}{c:Bool}(h:yG n st id d i=some (c,st')):db [id,d] st st':=by
 unfold yG at h
 split at h
 ·cases h
  refine⟨lA _ _ _,?_⟩;refine cz.more (cz.cons (cz.trans (V:=[]) (V2:=[id]) (kI _ _ _) (k3 (k4 _ _)))) λq a=>?_
  obtain⟨I,J⟩:=gN a;obtain⟨ag,_⟩:=gN J;show(match beq d q with|true=>true|false=>match beq id q with|true=>true|false=>false)=false
  split
  ·rename_i e;exact absurd (eq_of_beq_eq_true e).symm ag
  ·split
   ·rename_i e;exact absurd (eq_of_beq_eq_true e).symm I
   ·rfl
 ·cases h
theorem Rz{bU:iw}:∀ {cs:ep},sE cs=true->rz bU cs=some cs
 |[],_=>rfl
 |.id _::_,h=>by cases h
 |.eF _ _::cs,h=>by
  unfold rz;rw[Rz (cs:=cs) h]
theorem KC(bU:iw):Fix λc=>c.c8 bU:=⟨λc h=>by
 cases c with
 |fn f cs=>simp only[bs.c8];rw[Rz h]
 |_=>first|rfl|cases h⟩
theorem KD(bU:iw):∀cs:dI,tZ bU cs=wi (λc=>c.c8 bU) cs
 |[]=>rfl
 |c::r=>by
  show c.c8 bU::tZ bU r=_;rw[KD bU r];rfl
theorem KE{bU:iw}{x:bq}(h:x.free=true):x.c8 bU=x:=by
 cases x with
 |c x=>simp only[bq.c8];rw[(KC bU).fix x h]
 |agg cs=>simp only[bq.c8];rw[KD,sR (KC bU) h]
 |arr g l=>rfl
theorem RA{bU:iw}:∀ {xs:dO},mw xs=true->vQ bU xs=xs
 |[],_=>rfl
 |c::r,h=>by
  unfold mw at h
  split at h
  ·rename_i e
   show c.c8 bU::vQ bU r=_;rw[KE e,RA h]
  ·cases h
theorem adb{bU:iw}{v:cd}(h:v.free=true):v.c8 bU=v:=by
 cases v with
 |a x=>simp only[cd.c8];rw[KE h]
 |may g x=>simp only[cd.c8];rw[KE h]
 |da xs=>simp only[cd.c8];rw[RA h]
theorem ade{bU:iw}{b:cD}(h:b.free=true):b.c8 bU=b:=by
 cases b with
 |cells t cs=>simp only[cD.c8];rw[KD,sR (KC bU) h]
 |b0 T T' g l c q=>rcases q with _|⟨i,_|d⟩<;>first|rfl|cases h
 |_=>first|rfl|cases h
theorem adf(bU:iw)(L:cU){V:b6}:yD V L (gd bU L):=cz.map (f:=λv=>v.c8 bU) (λ_ h=>adb h) λ_ _ h=>ua h
theorem EU(i j:Nat):∀H:bC,nf [i,j] H (oi (jF i j) H)
 |[]=>cz.refl []
 |(k,b)::r=>λq v c ae=>by
  obtain⟨I,J⟩:=gN c;obtain⟨ag,_⟩:=gN J;unfold oi at ae
  by_cases d:beq k i=true
  ·have e:=eq_of_beq_eq_true d
   have a:jF i j b.pN k=some j:=by unfold jF;rw[d]
   rw[a]at ae;rw[cI,if_neg ag]at ae;rw[cI,if_neg (by rw[e];exact I)];exact EU i j r q v c ae
  ·have g:beq k i=false:=by simpa only[Bool.not_eq_true] using d
   by_cases f:beq k j=true
   ·have e:=eq_of_beq_eq_true f
    have a:jF i j b.pN k=none:=by unfold jF;rw[g,f]
    rw[a]at ae;rw[cI,if_neg (by rw[e];exact ag)];exact EU i j r q v c ae
   ·have h:beq k j=false:=by simpa only[Bool.not_eq_true] using f
    have a:jF i j b.pN k=some k:=by unfold jF;rw[g,h]
    rw[a]at ae;rw[cI]at ae ⊢
    split at ae
    ·rename_i e
     cases ae;rw[if_pos e];exact⟨b,rfl,λaz=>ade az⟩
    ·rename_i e
     rw[if_neg e];exact EU i j r q v c ae
theorem adh{n:Nat}{st st':aO}{x:yE}{c:Bool}(h:A6 n st x=some (c,st')):db x.yF st st':=by
 unfold A6 at h
 split at h
 ·split at h
  ·split at h
   ·cases h
    exact⟨lA _ _ _,cz.more (cz.trans (V:=[]) (V2:=[_]) (kI _ _ _) (k3 (k4 _ _))) λq a=>by
     have I:=(gN a).1;show(match beq _ q with|true=>true|false=>false)=false
     split
     ·rename_i e;exact absurd (eq_of_beq_eq_true e).symm I
     ·rfl⟩
   ·cases h
  ·cases h
 ·split at h
  ·cases h
   exact⟨cz.refl _,k3 (k4 _ _)⟩
  ·cases h
 ·split at h
  ·cases h
   exact⟨lA _ _ _,kI _ _ _⟩
  ·cases h
 ·split at h
  ·cases h
   exact⟨cz.refl _,k3 (k4 _ _)⟩
  ·cases h
 ·split at h
  ·exact Ry h
  ·cases h
 ·split at h
  ·exact Ry h
  ·cases h
 ·split at h
  ·cases h
   exact⟨adf _ _,EU _ _ _⟩
  ·cases h
theorem RC{n:Nat}{x:mz}{st st':aO}{c:Bool}(h:yH n x st=some (c,st')):db x.yF st st':=by
 unfold yH at h
 split at h
 ·split at h
  ·rename_i e
   cases h;unfold Go.Proofs.YtcheedjfedcbpaaGreatDoor.cT at e
   split at e
   ·cases e;exact⟨lA _ _ _,kI _ _ _⟩
   ·cases e
  ·cases h
 ·split at h
  ·split at h
   ·cases h;exact⟨acS _ _ _ _,Kz _⟩
   ·cases h
  ·cases h
 ·split at h
  ·split at h
   ·cases h
    exact⟨cz.cons (lA _ _ _),(cz.cons (kI _ _ _)).more λq a=>by obtain⟨I,J⟩:=gN a;exact J⟩
   ·cases h
  ·cases h
 ·split at h
  ·cases h
   exact⟨lA _ _ _,ada _⟩
  ·cases h
 ·split at h
  ·rename_i e
   cases h;unfold Go.Proofs.YtcheedjfedcbpaaGreatDoor.sK at e
   split at e
   ·cases e;exact⟨lA _ _ _,kI _ _ _⟩
   ·cases e
  ·cases h
 ·exact adh h
def yI(X:bu)(t:TypeId)(g:a7):Bool:=match X.a6.find t with
 |some ⟨⟨.struct _,_,_,_⟩,_⟩=>g.key&&(lS X.P X.a6 12 t g&&!(X.P.eqGuardType X.P.depth t))
 |_=>false
theorem adi{X:bu}(a:X.a6.ok X.P){t:TypeId}{g:a7}(h:yI X t g=true):ue X.P t g:=by
 unfold yI at h
 split at h
 ·rename_i az
  simp only[and_eq_true,not_eq_true']at h;exact ue.of a h.1 az rfl h.2.1 h.2.2
 ·cases h
def KF(X:bu)(e:TypeId):Option (cr×a7):=match X.a6.find e with
 |some bE=>match bE.g with
  |some g=>some (bE,g)
  |none=>none
 |none=>none
def EV(X:bu)(L:cU)(t:TypeId)(u v:Operand):Option (Bool×Bool):=match bz X L u,bz X L v,X.a6.find t with
 |some (a,.agg cs),some (g2,.agg aK),some bE=>match bE.g with
  |some g=>match dec g cs,dec g aK,yI X t g with
   |some (fu,x,[]),some (cG,y,[]),true=>some (a&&(g2&&(fu&&cG)),g.beq x y)
   |_,_,_=>none
  |none=>none
 |_,_,_=>none
def yJ(X:bu)(st:aO):Op->Option (Bool×bq)
 |.binOp .eql t u v _=>match EV X st.L t u v with
  |some (c,b)=>some (c,.c (.val (.bool b)))
  |none=>none
 |.binOp .neq t u v _=>match EV X st.L t u v with
  |some (c,b)=>some (c,.c (.val (.bool (!b))))
  |none=>none
 |.load t x=>match bz X st.L x,X.a6.find t with
  |some (a,.c (.e4 id 1 i 0)),some bE=>match bm st.H id,l7 bE.ti.desc with
   |some (.cP _ _ _ _ _ j d2),false=>some (a&&beq i j,.c (.ax d2))
   |some (.b0 _ _ _ _ _ (some (j,some d2))),false=>some (a&&decide (i=j),.c (.ax d2))
   |_,_=>none
  |_,_=>none
 |.slice t u (some x) none none=>match X.a6.find t,bz X st.L u,bz X st.L x with
  |some ⟨⟨.slice e,_,_,_⟩,_⟩,some (a,.c (.ax id)),some (g2,.c (.val (.int _ z)))=>match X.a6.find e,bm st.H id with
   |some dS,some (.row _ g l _)=>match beq g.size dS.ti.size with
    |true=>some (a&&(g2&&(decide (0<=z)&&decide (z<=(l.length:Int)))),.c (.jE id g.size z.toNat))
    |false=>none
   |_,_=>none
  |_,_,_=>none
 |.call ⟨.builtin .cap,⟨[u]⟩,⟨[t]⟩⟩=>match X.a6.find t,bz X st.L u with
  |some ⟨⟨.slice _,_,_,_⟩,_⟩,some (a,.c (.ax id))=>some (a,.c (.jR id))
  |_,_=>none
 |_=>none
theorem RD{X:bu}(f:X.a6.ok X.P){L:cU}{t:TypeId}{u v:Operand}{c b:Bool}(h:EV X L t u v=some (c,b))(U:c=true):∃a g2 fu cG cs aK g x y,bz X L u=some (a,.agg cs)/\bz X L v=some (g2,.agg aK)/\ue X.P t g/\dec g cs=some (fu,x,[])/\dec g aK=some (cG,y,[])/\a=true/\g2=true/\fu=true/\cG=true/\b=g.beq x y:=by
 unfold EV at h
 split at h
 ·rename_i hu d bk
  split at h
  ·split at h
   ·rename_i e i j
    cases h;simp only[and_eq_true]at U;exact⟨_,_,_,_,_,_,_,_,_,hu,d,adi f j,e,i,U.1,U.2.1,U.2.2.1,U.2.2.2,rfl⟩
   ·cases h
  ·cases h
 ·cases h
theorem EW{X:bu}{st:aO}(d:X.a6.ok X.P){o:Oper}{c:Bool}{bN:bq}(h:yJ X st o.op=some (c,bN))(U:c=true):jn X st o bN:=by
 unfold yJ at h
 split at h
 ·rename_i b
  split at h
  ·rename_i e
   cases h;obtain⟨l,g2,fu,cG,cs,aK,g,x,y,hu,f,j,ai,aG,I,J,ag,i,rfl⟩:=RD d e U;exact aca j b hu I f J ai ag aG i
  ·cases h
 ·rename_i b
  split at h
  ·rename_i e
   cases h;obtain⟨l,g2,fu,cG,cs,aK,g,x,y,hu,f,j,ai,aG,I,J,ag,i,rfl⟩:=RD d e U;exact acb j b hu I f J ai ag aG i
  ·cases h
 ·rename_i b
  split at h
  ·rename_i ai bk
   split at h
   ·rename_i ae bh
    cases h;simp only[and_eq_true]at U
    have:=eq_of_beq_eq_true U.2
    subst this;intro R W aE n aq env B ak H a b5 ah;exact ab8 d b bk bh ai U.1 ae ah
   ·rename_i ae bh
    cases h;simp only[and_eq_true]at U;exact Rq d b bk bh ai U.1 ae U.2
   ·cases h
  ·cases h
 ·rename_i b
  split at h
  ·rename_i bk hu ai
   split at h
   ·rename_i he ae
    split at h
    ·rename_i k
     cases h;rw[and_eq_true,and_eq_true]at U;exact acH d b bk rfl he hu U.1 ai U.2.1 ae k U.2.2
    ·cases h
   ·cases h
  ·cases h
 ·rename_i b
  split at h
  ·rename_i bk hu
   cases h;exact acJ d b bk rfl hu U
  ·cases h
 ·cases h
section
def ez(g c:Bool):Bool:=match c with
 |true=>true
 |false=>!g
theorem A7{g c:Bool}(h:ez g c=true)(a:g=true):c=true:=by
 cases c with
 |true=>rfl
 |false=>rw[a]at h;cases h
abbrev gy:=List (Nat×Nat×Bool)
def kJ(L:cU)(s:Nat)(want:Bool):Option Bool:=match bm L s,want with
 |some (.a (.c (.val (.bool b)))),true=>some b
 |some (.a (.c (.val (.bool b)))),false=>some (!b)
 |some (.may g (.c (.val (.bool b)))),true=>some (g&&b)
 |some (.may g (.c (.val (.bool b)))),false=>some (g&&!b)
 |_,_=>none
def KG:Bool->Bool->Bool
 |true,true=>true
 |false,false=>true
 |_,_=>false
theorem adj:∀ {a b:Bool},KG a b=true->a=b
 |true,true,_=>rfl
 |false,false,_=>rfl
def A8(j:Nat)(w:Bool):List (Nat×Bool)->Bool
 |[]=>false
 |p::r=>match beq p.1 j,KG p.2 w with
  |true,true=>true
  |_,_=>A8 j w r
def A9(s:Nat):gy->Option (Nat×Bool)
 |[]=>none
 |e::G=>match beq e.1 s with
  |true=>some e.2
  |false=>A9 s G
def Ba(c1:List (Option Nat))(j s:Nat):Bool:=match nth c1 j with
 |some (some q)=>beq q s
 |_=>false
def ou(c1:List (Option Nat))(d:Nat):gy->gy
 |[]=>[]
 |e::G=>match beq e.1 d,Ba c1 e.2.1 d with
  |false,false=>e::ou c1 d G
  |_,_=>ou c1 d G
def wo(c1:List (Option Nat))(G:gy):Nat->Nat->Bool->List (Nat×Bool)
 |0,j,w=>[(j,w)]
 |k+1,j,w=>(j,w)::match nth c1 j with
  |some (some s)=>match A9 s G with
   |some p=>wo c1 G k p.1 p.2
   |none=>[]
  |_=>[]
def mA(aH:List (Nat×Bool)):gy->cU->cU
 |[],L=>L
 |e::G,L=>match A8 e.2.1 e.2.2 aH,bm L e.1 with
  |true,some (.may _ x)=>(e.1,.a x)::mA aH G L
  |_,_=>mA aH G L
def yK(c1:List (Option Nat))(s:Nat)(w:Bool)(aH:List (Nat×Bool)):gy->List (Nat×Bool)
 |[]=>aH
 |e::G=>match Ba c1 e.2.1 s,KG e.2.2 w with
  |true,true=>(e.2.1,w)::yK c1 s w aH G
  |_,_=>yK c1 s w aH G
def KH(G:gy)(aH:List (Nat×Bool))(L:cU)(s:Nat):Option (Bool×Bool):=match bm L s with
 |some (.a (.c (.val (.bool b))))=>some (true,b)
 |some (.may g (.c (.val (.bool b))))=>match A9 s G with
  |some p=>match A8 p.1 p.2 aH with
   |true=>some (true,b)
   |false=>some (g,b)
  |none=>some (g,b)
 |_=>none
def uv(X:bu)(c1:List (Option Nat))(aH:List (Nat×Bool))(G:gy)(st:aO):Op->Option (Bool×bq)
 |.pick (.tmp s) u v=>match KH G aH st.L s with
  |some (c,b)=>match bz X (mA (yK c1 s true aH G) G st.L) u,bz X (mA (yK c1 s false aH G) G st.L) v with
   |some (a,x),some (bj,y)=>match Aj b x y with
    |some r=>some (c&&(ez b a&&ez (!b) bj),r)
    |none=>none
   |_,_=>none
  |none=>none
 |op=>match vz X ⟨mA aH G st.L,st.H⟩ op with
  |some r=>some r
  |none=>yJ X ⟨mA aH G st.L,st.H⟩ op
section
variable {X:bu} {R:Nat->Prop} {W:World} {aE:fj} {n:Nat} {aq:b6} {env:Nat->Loc} {B:Nat->Prop} {ak:World} {H:c2} {st:aO} {a:Act} {w:World} {c1:List (Option Nat)} {G:gy} {aH:List (Nat×Bool)}
def eR(c1:List (Option Nat))(G:gy)(L:cU):Prop:=∀e∈G,∃s g x,nth c1 e.2.1=some (some s)/\kJ L s e.2.2=some g/\bm L e.1=some (.may g x)
def o3(c1:List (Option Nat))(L:cU)(p:Nat×Bool):Prop:=∃s,nth c1 p.1=some (some s)/\kJ L s p.2=some true
theorem EX{j:Nat}{w:Bool}:∀ {aH:List (Nat×Bool)},A8 j w aH=true->(j,w)∈aH
 |[],h=>by cases h
 |p::r,h=>by
  unfold A8 at h
  split at h
  ·rename_i I J
   rw[<- eq_of_beq_eq_true I,<- adj J];exact mem_cons_self
  ·exact mem_cons_of_mem _ (EX h)
theorem KI{s:Nat}{p:Nat×Bool}:∀ {G:gy},A9 s G=some p->(s,p)∈G
 |[],h=>by cases h
 |e::G,h=>by
  unfold A9 at h
  split at h
  ·rename_i I
   cases h;rw[<- eq_of_beq_eq_true I];exact mem_cons_self
  ·exact mem_cons_of_mem _ (KI h)
theorem KJ{d:Nat}{e:Nat×Nat×Bool}:∀ {G:gy},e∈ou c1 d G->e∈G/\e.1≠d/\Ba c1 e.2.1 d=false
 |[],h=>by cases h
 |q::G,h=>by
  unfold ou at h
  split at h
  ·rename_i I J
   rcases List.mem_cons.1 h with rfl|h
   ·exact⟨mem_cons_self,ne_of_beq_eq_false I,J⟩
   ·obtain⟨ag,a⟩:=KJ h
    exact⟨mem_cons_of_mem _ ag,a⟩
  ·obtain⟨ag,a⟩:=KJ h
   exact⟨mem_cons_of_mem _ ag,a⟩
theorem EY{L:cU}{d s:Nat}{sv:cd}{w:Bool}(h:s≠d):kJ ((d,sv)::L) s w=kJ L s w:=by
 unfold kJ;rw[cI,if_neg h]
theorem eR.drop{L:cU}(h:eR c1 G L)(d:Nat)(sv:cd):eR c1 (ou c1 d G) ((d,sv)::L):=λe he=>by
 obtain⟨I,J,ag⟩:=KJ he;obtain⟨s,g,x,a,c,b⟩:=h e I;have f:s≠d:=λi=>by
  unfold Ba at ag;rw[a,i]at ag
  simp at ag
 exact⟨s,g,x,a,by rw[EY f];exact c,by rw[cI,if_neg J];exact b⟩
theorem eR.nil{L:cU}:eR c1 [] L:=λ_ h=>by cases h
theorem adk{L:cU}{s:Nat}{g w:Bool}{x:bq}(ag:bm L s=some (.may g x))(a:kJ L s w=some true):g=true:=by
 unfold kJ at a
 split at a
 ·rename_i e;rw[ag]at e;cases e
 ·rename_i e;rw[ag]at e;cases e
 ·rename_i e
  rw[ag]at e;cases e;simp only[Option.some.injEq,and_eq_true]at a;exact a.1
 ·rename_i e
  rw[ag]at e;cases e;simp only[Option.some.injEq,and_eq_true]at a;exact a.1
 ·cases a
theorem EZ{L:cU}(b:eR c1 G L):∀ {k j:Nat} {w:Bool},o3 c1 L (j,w)->∀p∈wo c1 G k j w,o3 c1 L p
 |0,j,w,h,p,al=>by rw[List.mem_singleton.1 al];exact h
 |k+1,j,w,h,p,al=>by
  rcases List.mem_cons.1 al with rfl|al
  ·exact h
  ·split at al
   ·rename_i s e
    split at al
    ·rename_i q f
     obtain⟨i,g,x,I,J,ag⟩:=b _ (KI f);refine EZ b ?_ p al;obtain⟨l,a,c⟩:=h;rw[e]at a;cases a;have d:g=true:=by
      exact adk ag c
     exact⟨i,I,by rw[J,d]⟩
    ·cases al
   ·cases al
theorem adl{L:cU}(o:eR c1 G L)(al:∀p∈aH,o3 c1 L p){b:Array Value}(h:∀s sv,bm L s=some sv->∃v,b[s]?=some v/\eK env B ak sv v):∀s sv,bm (mA aH G L) s=some sv->∃v,b[s]?=some v/\eK env B ak sv v:=by
 have key:∀a,(∀e∈a,e∈G)->∀s sv,bm (mA aH a L) s=some sv->∃v,b[s]?=some v/\eK env B ak sv v:=by
  intro a
  induction a with
  |nil=>exact λ_=>h
  |cons e a n=>
   intro i s sv ae;have c:=n λe he=>i e (mem_cons_of_mem _ he)
   unfold mA at ae
   split at ae
   ·rename_i g x I J
    rw[cI]at ae
    split at ae
    ·rename_i l
     cases ae;obtain⟨u,r,t,ag,m,f⟩:=o e (i e mem_cons_self);obtain⟨w,d,j⟩:=al _ (EX I);rw[ag]at d;cases d;rw[m]at j;cases j;rw[J]at f;cases f;obtain⟨v,k,q⟩:=h _ _ J;rw[<- l]at k;exact⟨v,k,q.1 rfl⟩
    ·exact c s sv ae
   ·exact c s sv ae
 exact key G λ_ h=>h
theorem adm{L:cU}(m:eR c1 G L)(al:∀p∈aH,o3 c1 L p):∀s sv,bm (mA aH G L) s=some sv->bm L s=some sv\/∃x,sv=.a x/\bm L s=some (.may true x):=by
 have key:∀a,(∀e∈a,e∈G)->∀s sv,bm (mA aH a L) s=some sv->bm L s=some sv\/∃x,sv=.a x/\bm L s=some (.may true x):=by
  intro a
  induction a with
  |nil=>exact λ_ s sv h=>.inl h
  |cons e a l=>
   intro f s sv ae;have b:=l λe he=>f e (mem_cons_of_mem _ he)
   unfold mA at ae
   split at ae
   ·rename_i g x I J
    rw[cI]at ae
    split at ae
    ·rename_i j
     cases ae;obtain⟨q,n,o,ag,k,d⟩:=m e (f e mem_cons_self);obtain⟨r,c,i⟩:=al _ (EX I);rw[ag]at c;cases c;rw[k]at i;cases i;rw[J]at d;cases d;exact .inr ⟨x,rfl,by rw[j];exact J⟩
    ·exact b s sv ae
   ·exact b s sv ae
 exact key G λ_ h=>h
theorem bK.view(ah:bK X R W aE n aq env B ak H st a w)(b:eR c1 G st.L)(al:∀p∈aH,o3 c1 st.L p):bK X R W aE n aq env B ak H ⟨mA aH G st.L,st.H⟩ a w:=
 ⟨ah.size,ah.defs,adl b al ah.has,ah.heap,ah.aU,ah.sub,ah.new,ah.dr,ah.base,ah.eg⟩
theorem E0{L:cU}{s:Nat}{c:Bool}(al:∀p∈aH,o3 c1 L p)(a:kJ L s c=some true):∀(G:gy),∀p∈yK c1 s c aH G,o3 c1 L p
 |[],p,h=>al p h
 |e::G,p,h=>by
  unfold yK at h
  split at h
  ·rename_i I _
   rcases List.mem_cons.1 h with rfl|h
   ·unfold Ba at I
    split at I
    ·rename_i q b
     rw[eq_of_beq_eq_true I]at b;exact⟨s,b,a⟩
    ·cases I
   ·exact E0 al a G p h
  ·exact E0 al a G p h
theorem adn{s:Nat}{i b:Bool}(ah:bK X R W aE n aq env B ak H st a w)(m:eR c1 G st.L)(al:∀p∈aH,o3 c1 st.L p)(h:KH G aH st.L s=some (i,b))(U:i=true):aI (full a) (.tmp s)=some (.bool b)/\kJ st.L s true=some b/\kJ st.L s false=some (!b):=by
 unfold KH at h
 split at h
 ·rename_i oM e
  cases h;obtain⟨v,I,J⟩:=ah.has _ _ e;rw[show v=_ from J]at I;exact⟨im I,by unfold kJ;rw[e],by unfold kJ;rw[e]⟩
 ·rename_i g oM e
  have key:g=true->oM=b->aI (full a) (.tmp s)=some (.bool b)/\kJ st.L s true=some b/\kJ st.L s false=some (!b):=λj ad=>by
   subst ad;subst j;obtain⟨v,I,J⟩:=ah.has _ _ e;rw[show v=_ from J.1 rfl]at I;exact⟨im I,by unfold kJ;rw[e];rfl,by unfold kJ;rw[e];rfl⟩
  split at h
  ·rename_i q k
   split at h
   ·rename_i cH
    cases h;refine key ?_ rfl;obtain⟨t,o,r,ag,l,d⟩:=m _ (KI k);obtain⟨u,c,f⟩:=al _ (EX cH);rw[ag]at c;cases c;rw[l]at f;cases f;rw[e]at d;cases d
    rfl
   ·cases h;exact key U rfl
  ·cases h;exact key U rfl
 ·cases h
theorem RE{b:Bool}{x y r:bq}{vx vy:Value}(al:Aj b x y=some r)(ai:b=true->dU env B ak x vx)(aG:b=false->dU env B ak y vy):dU env B ak r (if b then vx else vy):=by
 unfold Aj at al
 split at al
 ·split at al
  ·rename_i aa
   have a:=of_decide_eq_true aa;subst a;cases al;cases b
   ·exact aG rfl
   ·exact ai rfl
  ·cases al
 ·cases al
  cases b
  ·exact aG rfl
  ·exact ai rfl
 ·cases al
  cases b
  ·exact aG rfl
  ·exact ai rfl
 ·cases al
theorem RF(l:X.a6.ok X.P)(ah:bK X R W aE n aq env B ak H st a w)(f:eR c1 G st.L)(al:∀p∈aH,o3 c1 st.L p){o:Oper}{c:Bool}{bN:bq}(h:uv X c1 aH G st o.op=some (c,bN))(U:c=true):∃v,dU env B ak bN v/\∀w',(re o.op=true->bZ (λk=>R k\/B k) ak (H++aq.map dE) w')->(execOp a.eval o).run X.P w'=.ok (.value v) w':=by
 unfold uv at h
 split at h
 ·rename_i s u v j
  split at h
  ·rename_i F b t
   split at h
   ·rename_i E x bj y z A
    split at h
    ·rename_i r m
     cases h;simp only[and_eq_true]at U;obtain⟨q,C,D⟩:=U;obtain⟨I,J,ag⟩:=adn ah f al t q;cases b with
     |true=>
      have d:=ah.view f (E0 al J G);obtain⟨vx,i,g⟩:=d.aI z (A7 C rfl);exact⟨vx,RE (vy:=vx) m (λ_=>g) (λh=>by cases h),λw' _=>O0 ah.cf j I rfl i w'⟩
     |false=>
      have d:=ah.view f (E0 al ag G);obtain⟨vy,i,g⟩:=d.aI A (A7 D rfl);exact⟨vy,RE (vx:=vy) m (λh=>by cases h) (λ_=>g),λw' _=>O1 ah.cf j I rfl i w'⟩
    ·cases h
   ·cases h
  ·cases h
 ·have d:=ah.view f al
  split at h
  ·rename_i e
   cases h;obtain⟨v,I,J⟩:=DR l e U d;exact⟨v,I,J⟩
  ·obtain⟨v,I,J⟩:=EW l h U d
   exact⟨v,I,J⟩
theorem RG(b:X.a6.ok X.P)(ah:bK X R W aE n aq env B ak H st a w)(d:eR c1 G st.L)(al:∀p∈aH,o3 c1 st.L p){o:Oper}{c:Bool}{bN:bq}(h:uv X c1 aH G st o.op=some (c,bN))(U:c=true):∃v,dU env B ak bN v/\(execOp a.eval o).run X.P w=.ok (.value v) w:=by
 obtain⟨v,I,J⟩:=RF b ah d al h U;exact⟨v,I,J w λ_=>ah.aU⟩
theorem KM{l:List Oper}{o:Oper}(ah:bK X R W aE n aq env B ak H st a w){j s:Nat}{want g:Bool}(e:o.guard=some (j,want))(i:nth (eU l) j=some (some s))(c:kJ st.L s want=some g):Region.wanted o (yielded l.toArray a.tmps)=g:=by
 obtain⟨p,k,m⟩:=Jk i;have f:(l.toArray[j]?).bind (·.dst)=some s:=by simp[k,<- m]
 unfold kJ at c
 split at c
 ·rename_i b d
  cases c;obtain⟨v,I,J⟩:=ah.has _ _ d;rw[show v=_ from J]at I;rw[tv ah.sym e f (im I)];cases g<;>rfl
 ·rename_i b d
  cases c;obtain⟨v,I,J⟩:=ah.has _ _ d;rw[show v=_ from J]at I;rw[tv ah.sym e f (im I)];cases b<;>rfl
 ·rename_i h b d
  cases c;obtain⟨v,I,J,ag⟩:=ah.has _ _ d;cases h with
  |true=>
   rw[show v=_ from J rfl]at I;rw[tv ah.sym e f (im I)];cases b<;>rfl
  |false=>
   rw[ag rfl]at I;rw[DC ah.sym e f (im I)]
   rfl
 ·rename_i h b d
  cases c;obtain⟨v,I,J,ag⟩:=ah.has _ _ d;cases h with
  |true=>
   rw[show v=_ from J rfl]at I;rw[tv ah.sym e f (im I)];cases b<;>rfl
  |false=>
   rw[ag rfl]at I;rw[DC ah.sym e f (im I)]
   rfl
 ·cases c
end
def RH:Option Nat->b6
 |some d=>[d]
 |none=>[]
def Bc(X:bu)(L:cU):Op->b6
 |.store _ u _=>match bz X L u with
  |some (_,.c (.ptr id _))=>[id]
  |some (_,.c (.e4 id _ _ _))=>[id]
  |_=>[]
 |.call ⟨.builtin .append,⟨[u,_]⟩,_⟩=>match bz X L u with
  |some (_,.c (.ax id))=>[id]
  |_=>[]
 |_=>[]
theorem E1{n:Nat}{st st':aO}{d:Nat}{t:TypeId}{g:a7}{l:List g.D}{cap:Option Nat}(h:newRow n st d t g l cap=some st'):db [d] st st':=by
 unfold newRow at h
 split at h
 ·cases h
  exact⟨cz.cons (lA _ _ _),cz.cons (kI _ _ _)⟩
 ·cases h
theorem RI{X:bu}{n:Nat}{st st':aO}{t:TypeId}{d:Nat}{cs:dI}{c:Bool}(h:tL X n st t d cs=some (c,st')):db [d] st st':=by
 unfold tL at h
 split at h
 ·cases h
  exact⟨cz.cons (lA _ _ _),cz.cons (kI _ _ _)⟩
 ·cases h
theorem ado{X:bu}{n:Nat}{st st':aO}{t:TypeId}{N d:Nat}{aH:List (Nat×Operand)}{c:Bool}(h:Aq X n st t N aH d=some (c,st')):db [d] st st':=by
 unfold Aq at h
 split at h
 ·split at h
  ·split at h
   ·split at h
    ·split at h
     ·rename_i e;cases h;exact E1 e
     ·cases h
    ·cases h
   ·cases h
  ·cases h
 ·cases h
theorem adp{X:bu}{n:Nat}{st st':aO}{t:TypeId}{d:Nat}{x y:bq}{c:Bool}(h:As X n st t x y d=some (c,st')):db [d] st st':=by
 unfold As at h
 split at h
 ·split at h
  ·split at h
   ·split at h
    ·rename_i e;cases h;exact E1 e
    ·cases h
   ·cases h
  ·cases h
 ·cases h
theorem adq{X:bu}{st st':aO}{t:TypeId}{x y:bq}{c:Bool}(h:Ao X st t x y=some (c,st')):(∃id o,x=.c (.ptr id o)/\db [id] st st')\/∃id a i o,x=.c (.e4 id a i o)/\db [id] st st':=by
 unfold Ao at h
 split at h
 ·split at h
  ·split at h
   ·split at h
    ·cases h
     exact .inl ⟨_,_,rfl,cz.refl _,k3 (k4 _ _)⟩
    ·cases h
   ·cases h
  ·split at h
   ·split at h
    ·split at h
     ·split at h
      ·cases h
       exact .inr ⟨_,_,_,_,rfl,cz.refl _,k3 (k4 _ _)⟩
      ·cases h
     ·cases h
    ·cases h
   ·cases h
  ·cases h
 ·cases h
theorem adr{X:bu}{n:Nat}{st st':aO}{t:TypeId}{x y:bq}{d:Nat}{c:Bool}(h:Au X n st t x y d=some (c,st')):db [d] st st'\/∃id,x=.c (.ax id)/\db [d,id] st st':=by
 unfold Au at h
 split at h
 ·split at h
  ·split at h
   ·split at h
    ·split at h
     ·cases h
      refine .inr ⟨_,rfl,cz.cons (lA _ _ _),(cz.cons (V:=[]) (kI _ _ _)).more λq a=>?_⟩;exact(gN a).2
     ·cases h
    ·cases h
   ·split at h
    ·split at h
     ·rename_i e;cases h;exact .inl (E1 e)
     ·cases h
    ·cases h
   ·split at h
    ·split at h
     ·rename_i e;cases h;exact .inl (E1 e)
     ·cases h
    ·cases h
   ·cases h
  ·cases h
 ·cases h
theorem ads{X:bu}{n:Nat}{st st':aO}{op:Op}{d:Option Nat}{c:Bool}(h:Av X n st d op=some (c,st')):db (RH d++Bc X st.L op) st st':=by
 unfold Av at h
 split at h
 ·split at h
  ·exact RI h
  ·cases h
 ·split at h
  ·split at h
   ·rename_i e;cases h;exact RI e
   ·cases h
  ·cases h
 ·split at h
  ·rename_i a g
   split at h
   ·rename_i e
    cases h
    rcases adq e with⟨id,o,rfl,aa⟩|⟨id,cM,i,o,rfl,aa⟩
    ·simp only[Bc,a];exact aa
    ·simp only[Bc,a];exact aa
   ·cases h
  ·cases h
 ·split at h
  ·exact ado h
  ·cases h
 ·split at h
  ·split at h
   ·rename_i e;cases h;exact adp e
   ·cases h
  ·cases h
 ·split at h
  ·rename_i hu f
   split at h
   ·rename_i e
    cases h
    rcases adr e with aa|⟨id,rfl,aa⟩
    ·exact aa.more λq b=>(qC.1 b).1
    ·simp only[Bc,hu];exact aa
   ·cases h
  ·cases h
 ·cases h
def wq(X:bu)(L:cU)(o:Oper):b6:=RH o.dst++Bc X L o.op
theorem yL{X:bu}{n:Nat}{c1:List (Option Nat)}{st st':aO}{o:Oper}{c:Bool}(a:o.guard=none)(h:oU X n c1 st o=.ok c st'):db (wq X st.L o) st st':=by
 obtain⟨L,H⟩:=st;simp only[oU,a]at h;have one:∀ {d:Nat} {sv:cd},o.dst=some d->db (wq X L o) ⟨L,H⟩ ⟨(d,sv)::L,H⟩:=λ{d sv} ay=>by
  refine db.more (V:=[d]) ⟨cz.cons (cz.refl _),cz.refl _⟩ λq b=>?_
  have:=(qC.1 b).1
  rw[ay]at this;exact this
 split at h
 ·split at h
  ·rename_i d ay
   split at h
   ·cases h;exact one ay
   ·cases h
  ·cases h
 ·split at h
  ·split at h
   ·rename_i d ay
    split at h
    ·cases h;exact one ay
    ·cases h
   ·cases h
  ·split at h
   ·rename_i e
    cases h;exact ads e
   ·cases h
theorem KN{id:Nat}:∀H:bC,nf [id] H (nJ id H)
 |[]=>cz.refl []
 |(k,b)::r=>λq v a ae=>by
  have c:=(gN a).1;unfold nJ at ae
  split at ae
  ·rename_i e
   have aa:=eq_of_beq_eq_true e;exact⟨v,by rw[cI,if_neg (by rw[aa];exact c)];exact ae,λ_=>rfl⟩
  ·rw[cI]at ae ⊢
   split at ae
   ·rename_i e;rw[if_pos e];exact⟨_,rfl,λ_=>by cases ae;rfl⟩
   ·rename_i e;rw[if_neg e];exact KN r q v a ae
theorem KO{ct aq:b6}{V:b6}:∀H:bC,nf V H (iW ct aq H)
 |[]=>cz.refl []
 |(k,b)::r=>λq v a ae=>by
  unfold iW at ae
  split at ae
  ·rename_i e
   obtain⟨u,I,J⟩:=KO r q v a ae
   by_cases c:q=k
   ·subst c
    exact(KP e ae).elim
   ·exact⟨u,by rw[cI,if_neg c];exact I,J⟩
  ·rw[cI]at ae ⊢
   split at ae
   ·rename_i e;cases ae;rw[if_pos e];exact⟨b,rfl,λaz=>acP az⟩
   ·rename_i e;rw[if_neg e];exact KO r q v a ae
where KP {ct aq:b6} {k:Nat} (aa:ct.elem k=true) {v:cD}:∀ {H:bC},bm (iW ct aq H) k=some v->False
 |[],h=>by cases h
 |(j,b)::r,h=>by
  unfold iW at h
  split at h
  ·exact KP aa h
  ·rename_i e
   rw[cI,if_neg (λd=>by subst d;exact absurd aa (by simp_all))]at h;exact KP aa h
theorem RJ{aH:dZ}{i j:Nat}(h:bm aH i=some j){q:Nat}(d:fC q (lP aH)=false):q≠j:=by
 induction aH with
 |nil=>cases h
 |cons p r e=>
  obtain⟨a,b⟩:=p;rw[cI]at h;have c:fC q (b::lP r)=false:=d
  split at h
  ·cases h;exact(gN c).1
  ·exact e h (gN c).2
theorem RK{aH e:dZ}:∀ {is:b6} {H h H1:bC},pR aH e is H=some (h,H1)->nf (lP aH) H H1
 |[],H,h,H1,al=>by cases al;exact cz.refl _
 |i::is,H,h,H1,al=>by
  unfold pR at al
  split at al
  ·rename_i j c
   split at al
   ·split at al
    ·rename_i b g f ad d
     cases al;have I:=RK d;refine((KN H).trans I).more λq a=>qC.2 ⟨a,rI.2 ⟨RJ c a,rfl⟩⟩
    ·cases al
   ·cases al
  ·cases al
theorem RL{aH:dZ}:∀ {h a:bC},sA aH h=some a->∀q,fC q (lP aH)=false->fC q (a.map (·.1))=false
 |[],a,e,q,c=>by cases e;rfl
 |(i,b)::r,a,e,q,c=>by
  unfold sA at e
  split at e
  ·rename_i j k g d ad f
   cases e;exact rI.2 ⟨RJ d c,RL f q c⟩
  ·cases e
theorem adt{X:bu}{n:Nat}{e:bw X}{aH:dZ}{st st':aO}{d:Nat}{args:dO}{p:yy X e}{r:e.aY}(al:rH X n e aH st.H args=some p)(h:after X e aH st d p r=some st'):db (d::lP aH) st st':=by
 unfold after at h
 split at h
 ·rename_i g i f b
  have aa:=RL b
  split at h
  ·cases h
   refine⟨(cz.cons (V:=[]) (cz.refl _)).more λq a=>rI.2 ⟨(gN a).1,rfl⟩,(cz.append (V:=[]) (cz.refl _) rfl).more λq a=>qC.2 ⟨aa q (gN a).2,rfl⟩⟩
  ·cases h
   have I:nf (lP aH) st.H p.H1:=by
    unfold rH at al
    split at al
    ·rename_i c
     split at al
     ·split at al
      ·cases al;exact RK c
      ·cases al
     ·cases al
    ·cases al
   refine⟨(cz.cons (V:=[]) (acR _ _)).more λq a=>rI.2 ⟨(gN a).1,rfl⟩,?_⟩;refine(cz.append (I.trans (KO (V:=[]) _)) rfl).more λq a=>?_
   have J:=(gN a).2;exact qC.2 ⟨aa q J,qC.2 ⟨rfl,J⟩⟩
 ·cases h
end
section
def Bd(X:bu)(n:Nat)(st:aO)(d:Nat):Op->Option (Bool×aO)
 |.index t u x=>match X.a6.find t with
  |some ⟨⟨.string,_,_,_⟩,_⟩=>match bz X st.L u,bz X st.L x with
   |some (g,.c (.str s)),some (g2,.c (.val (.int _ z)))=>some (g&&(g2&&a8 z s.length),⟨(d,.c (.val (.int .u8 ((s.getD z.toNat 0).toNat:Int))))::st.L,st.H⟩)
   |_,_=>none
  |some ⟨⟨.array m e,_,_,_⟩,_⟩=>match KF X e,bz X st.L u,bz X st.L x with
   |some (dS,g),some (b,o),some (g2,.c (.val (.int _ z)))=>match Ex g m o,beq g.size dS.ti.size,decEq (l7 dS.ti.desc) g.sJ,g.sJ || beq g.size 1 with
    |some (c,l),true,isTrue _,true=>match rC g (l.getD z.toNat g.zero)with
     |some bN=>some (b&&(g2&&(c&&(a8 z m&&a8 z l.length))),⟨(d,.a bN)::st.L,st.H⟩)
     |none=>none
    |_,_,_,_=>none
   |_,_,_=>none
  |_=>none
 |.slice t u lo hi none=>match X.a6.find t,bz X st.L u with
  |some ⟨⟨.string,_,_,_⟩,_⟩,some (g,.c (.str s))=>match lo,hi with
   |some x,none=>match bz X st.L x with
    |some (g2,.c (.val (.int _ z)))=>some (g&&(g2&&(decide (0<=z)&&decide (z<=(s.length:Int)))),⟨(d,.c (.str (s.drop z.toNat)))::st.L,st.H⟩)
    |_=>none
   |none,some x=>match bz X st.L x with
    |some (g2,.c (.val (.int _ z)))=>some (g&&(g2&&(decide (0<=z)&&decide (z<=(s.length:Int)))),⟨(d,.c (.str (s.take z.toNat)))::st.L,st.H⟩)
    |_=>none
   |some x,some y=>match bz X st.L x,bz X st.L y with
    |some (g2,.c (.val (.int _ z))),some (g3,.c (.val (.int _ k)))=>some (g&&(g2&&(g3&&(decide (0<=z)&&(decide (z<=k)&&decide (k<=(s.length:Int)))))),⟨(d,.c (.str ((s.take k.toNat).drop z.toNat)))::st.L,st.H⟩)
    |_,_=>none
   |none,none=>none
  |_,_=>none
 |.slice t u none (some y) (some v)=>match X.a6.find t,bz X st.L u,bz X st.L y,bz X st.L v with
  |some ⟨⟨.slice e,_,_,_⟩,_⟩,some (b,.c (.ax id)),some (g2,.c (.val (.int _ z))),some (g3,.c (.jR q))=>match X.a6.find e,bm st.H id,beq q id,blt d n&&blt id hZ with
   |some _,some (.row T g l cap),true,true=>some (b&&(g2&&(g3&&(decide (0<=z)&&decide (z<=(l.length:Int))))),⟨(d,.c (.ax id))::gu id .dead st.L,(id,.row T g (l.take z.toNat) cap)::ew id .dead st.H⟩)
   |_,_,_,_=>none
  |_,_,_,_=>none
 |.call ⟨.builtin .append,⟨[x,y]⟩,⟨[t,j]⟩⟩=>match beq j t,X.a6.find t,bz X st.L x,bz X st.L y with
  |true,some ⟨⟨.slice e,_,_,_⟩,_⟩,some (b,.c (.ax id)),some (g2,ej)=>match X.a6.find e,bm st.H id with
   |some ⟨⟨_,f,i,_⟩,some _⟩,some (.gT h g l)=>match beq h e,beq g.size f,mT st g ej,blt id hZ with
    |true,true,some a,true=>some (b&&(g2&&dx i (l.length+a.length)),⟨(d,.c (.ax id))::gu id .dead st.L,(id,.gT e g (l++a))::ew id .dead st.H⟩)
    |_,_,_,_=>none
   |_,_=>none
  |true,some ⟨⟨.slice e,_,_,_⟩,_⟩,some (b,.c (.bo g l (some c))),some (g2,ej)=>match X.a6.find e with
   |some ⟨⟨_,f,i,_⟩,some _⟩=>match beq g.size f,mT st g ej with
    |true,some a=>some (b&&(g2&&(dx i (l.length+a.length)&&decide (c=l.length))),⟨(d,.c (.ax d))::gu d .dead st.L,(d,.gT e g (l++a))::ew d .dead st.H⟩)
    |_,_=>none
   |_=>none
  |_,_,_,_=>none
 |.call ⟨.builtin .copy,⟨[x,y]⟩,⟨[t,j]⟩⟩=>match beq j t,X.a6.find t,bz X st.L x,bz X st.L y with
  |true,some ⟨⟨.slice e,_,_,_⟩,_⟩,some (b,.c (.ax id)),some (g2,ej)=>match X.a6.find e,bm st.H id with
   |some ⟨⟨_,f,i,_⟩,some _⟩,some (.row h g l cap)=>match beq h e,beq g.size f,mT st g ej with
    |true,true,some a=>some (b&&(g2&&beq a.length l.length),⟨(d,.c (.val (.int .i64 (l.length:Int))))::st.L,fc id (.row e g a cap) st.H⟩)
    |_,_,_=>none
   |_,_=>none
  |true,some ⟨⟨.slice e,_,_,_⟩,_⟩,some (b,.c (.jE id s p)),some (g2,ej)=>match X.a6.find e,bm st.H id with
   |some ⟨⟨_,f,i,_⟩,some _⟩,some (.row h g l cap)=>match beq h e,beq g.size f,beq s f,mT st g ej,blt 0 f with
    |true,true,true,some a,true=>some (b&&(g2&&decide (p+a.length<=l.length)),⟨(d,.c (.val (.int .i64 (a.length:Int))))::st.L,fc id (.row e g (l.take p++a++l.drop (p+a.length)) cap) st.H⟩)
    |_,_,_,_,_=>none
   |_,_=>none
  |_,_,_,_=>none
 |_=>none
def Be(X:bu)(st:aO):Op->Option (Bool×aO)
 |.store t x y=>match X.a6.find t,bz X st.L x,bz X st.L y with
  |some bE,some (a,.c (.e4 id 1 i 0)),some (g2,.c (.ax d))=>match bm st.H id,bm st.H d,beq bE.ti.size 1 with
   |some (.row T (.ax g) l cap),some (.row _ _ _ _),true=>some (a&&(g2&&decide (i<l.length)),⟨st.L,fc id (.cP false T g l cap i d) st.H⟩)
   |some (.row T (.hX g) l cap),some (.row _ _ b (some q)),true=>some (a&&(g2&&(decide (i<l.length)&&beq q b.length)),⟨st.L,fc id (.cP true T g l cap i d) st.H⟩)
   |some (.b0 T T' g l cap h),_,true=>some (a&&(g2&&(wj h i&&decide (i<l.length))),⟨st.L,fc id (.b0 T T' g l cap (some (i,some d))) st.H⟩)
   |_,_,_=>none
  |_,_,_=>none
 |_=>none
section
variable {X:bu} {n:Nat} {st st':aO} {o:Oper} {d:Nat}
theorem adv{e:TypeId}{bE:cr}{g:a7}(h:KF X e=some (bE,g)):X.a6.find e=some bE/\bE.g=some g:=by
 unfold KF at h
 split at h
 ·rename_i I
  split at h
  ·rename_i J;cases h;exact⟨I,J⟩
  ·cases h
 ·cases h
theorem adw(b:X.a6.ok X.P){c:Bool}(h:Be X st o.op=some (c,st'))(U:c=true)(d:o.guard=none/\o.dst=none):hg X n o st st':=by
 unfold Be at h
 split at h
 ·rename_i a
  split at h
  ·rename_i bk ai aG
   split at h
   ·rename_i I J ag
    cases h;simp only[and_eq_true]at U;exact acx b a d bk ag ai U.1 aG U.2.1 I J U.2.2
   ·rename_i I J ag
    cases h;simp only[and_eq_true]at U;exact acz b a d bk ag ai U.1 aG U.2.1 I J U.2.2.1 U.2.2.2
   ·rename_i I ag
    cases h;simp only[and_eq_true]at U;exact Rs b a d bk ag ai U.1 aG U.2.1 I U.2.2.1 U.2.2.2
   ·cases h
  ·cases h
 ·cases h
theorem adx{c:Bool}{op:Op}(h:Be X st op=some (c,st')):∃id,db [id] st st'/\(∃t x y a i,op=.store t x y/\bz X st.L x=some (a,.c (.e4 id 1 i 0))):=by
 unfold Be at h
 split at h
 ·split at h
  ·rename_i bk ai aG
   split at h
   ·cases h
    exact⟨_,⟨cz.refl _,k3 (k4 _ _)⟩,_,_,_,_,_,rfl,ai⟩
   ·cases h
    exact⟨_,⟨cz.refl _,k3 (k4 _ _)⟩,_,_,_,_,_,rfl,ai⟩
   ·cases h
    exact⟨_,⟨cz.refl _,k3 (k4 _ _)⟩,_,_,_,_,_,rfl,ai⟩
   ·cases h
  ·cases h
 ·cases h
theorem ady(b:X.a6.ok X.P){c:Bool}(h:Bd X n st d o.op=some (c,st'))(U:c=true)(e:o.guard=none/\o.dst=some d)(ay:blt d n=true):hg X n o st st':=by
 unfold Bd at h
 split at h
 ·rename_i a
  split at h
  ·rename_i bk
   split at h
   ·rename_i hu ai
    cases h;simp only[and_eq_true]at U;exact acv b a e ay bk rfl hu U.1 ai U.2.1 U.2.2
   ·cases h
  ·rename_i bk
   split at h
   ·rename_i he hu ai
    obtain⟨k,l⟩:=adv he
    split at h
    ·rename_i ag I J _ g
     split at h
     ·rename_i i
      cases h;simp only[and_eq_true]at U;exact acC _ _ _ b a e ay bk rfl k J ag g hu U.1 ai U.2.1 I U.2.2.1 U.2.2.2.1 U.2.2.2.2 i
     ·cases h
    ·cases h
   ·cases h
  ·cases h
 ·rename_i a
  split at h
  ·rename_i bk hu
   split at h
   ·split at h
    ·rename_i ai
     cases h;simp only[and_eq_true]at U;exact acD b a e ay bk rfl hu U.1 ai U.2.1 U.2.2.1 U.2.2.2
    ·cases h
   ·split at h
    ·rename_i ai
     cases h;simp only[and_eq_true]at U;exact acE b a e ay bk rfl hu U.1 ai U.2.1 U.2.2.1 U.2.2.2
    ·cases h
   ·split at h
    ·rename_i ai aG
     cases h;simp only[and_eq_true]at U;exact acF b a e ay bk rfl hu U.1 ai U.2.1 aG U.2.2.1 U.2.2.2.1 U.2.2.2.2.1 U.2.2.2.2.2
    ·cases h
   ·cases h
  ·cases h
 ·rename_i a
  split at h
  ·rename_i bk hu aG j
   split at h
   ·rename_i he ae hid bc
    cases h
    have:=eq_of_beq_eq_true hid
    subst this;rw[and_eq_true,and_eq_true,and_eq_true]at U;exact acK b a e bc bk rfl he hu U.1 aG U.2.1 j U.2.2.1 ae U.2.2.2
   ·cases h
  ·cases h
 ·rename_i a
  split at h
  ·rename_i f bk ai aG
   have:=eq_of_beq_eq_true f
   subst this
   split at h
   ·rename_i he ae
    split at h
    ·rename_i I J ag g
     have:=eq_of_beq_eq_true I
     subst this;cases h;simp only[and_eq_true]at U;exact ab7 b a e (by rw[ay,g];rfl) bk rfl he ai U.1 aG U.2.1 ae J ag U.2.2
    ·cases h
   ·cases h
  ·rename_i f bk ai aG
   have:=eq_of_beq_eq_true f
   subst this
   split at h
   ·rename_i he
    split at h
    ·rename_i J ag
     cases h;simp only[and_eq_true]at U;exact acG b a e ay bk rfl he ai U.1 aG U.2.1 J ag U.2.2.1 U.2.2.2
    ·cases h
   ·cases h
  ·cases h
 ·rename_i a
  split at h
  ·rename_i f bk ai aG
   have:=eq_of_beq_eq_true f
   subst this
   split at h
   ·rename_i he ae
    split at h
    ·rename_i I J ag
     have:=eq_of_beq_eq_true I
     subst this;cases h;simp only[and_eq_true]at U;exact acg b a e ay bk rfl he ai U.1 aG U.2.1 ae J ag U.2.2
    ·cases h
   ·cases h
  ·rename_i f bk ai aG
   have:=eq_of_beq_eq_true f
   subst this
   split at h
   ·rename_i he ae
    split at h
    ·rename_i I J g ag i
     have:=eq_of_beq_eq_true I
     subst this;cases h;simp only[and_eq_true]at U;exact acI b a e ay bk rfl he ai U.1 aG U.2.1 ae J g ag i U.2.2
    ·cases h
   ·cases h
  ·cases h
 ·cases h
def wu(X:bu)(st:aO)(d:Nat):Op->b6
 |.call ⟨.builtin _,⟨[x,_]⟩,_⟩=>match bz X st.L x with
  |some (_,.c (.ax id))=>[d,id]
  |some (_,.c (.jE id _ _))=>[d,id]
  |_=>[d]
 |.slice _ u none (some _) (some _)=>match bz X st.L u with
  |some (_,.c (.ax id))=>[d,id]
  |_=>[d]
 |_=>[d]
def RM(X:bu)(st:aO):Op->b6
 |.store _ x _=>match bz X st.L x with
  |some (_,.c (.e4 id _ _ _))=>[id]
  |_=>[]
 |_=>[]
theorem pT{sv:cd}:db [d] st ⟨(d,sv)::st.L,st.H⟩:=⟨cz.cons (V:=[]) (cz.refl _),(cz.refl _)⟩
theorem adz{c:Bool}{op:Op}(h:Bd X n st d op=some (c,st')):db (wu X st d op) st st':=by
 unfold Bd at h
 split at h
 ·split at h
  ·split at h
   ·cases h;exact pT
   ·cases h
  ·split at h
   ·split at h
    ·split at h
     ·cases h;exact pT
     ·cases h
    ·cases h
   ·cases h
  ·cases h
 ·split at h
  ·split at h
   ·split at h
    ·cases h;exact pT
    ·cases h
   ·split at h
    ·cases h;exact pT
    ·cases h
   ·split at h
    ·cases h;exact pT
    ·cases h
   ·cases h
  ·cases h
 ·split at h
  ·rename_i bk hu aG f
   split at h
   ·cases h
    unfold wu;simp only[hu];exact⟨cz.cons (lA _ _ _),(cz.cons (kI _ _ _)).more λq a=>(gN a).2⟩
   ·cases h
  ·cases h
 ·split at h
  ·rename_i b bk ai aG
   split at h
   ·split at h
    ·cases h
     unfold wu;simp only[ai];exact⟨cz.cons (lA _ _ _),(cz.cons (kI _ _ _)).more λq a=>(gN a).2⟩
    ·cases h
   ·cases h
  ·rename_i b bk ai aG
   split at h
   ·split at h
    ·cases h
     unfold wu;simp only[ai];exact⟨cz.cons (lA _ _ _),cz.cons (kI _ _ _)⟩
    ·cases h
   ·cases h
  ·cases h
 ·split at h
  ·rename_i b bk ai aG
   split at h
   ·split at h
    ·cases h
     unfold wu;simp only[ai];exact⟨(cz.cons (V:=[]) (cz.refl _)).more λq a=>by
      obtain⟨I,_⟩:=gN a;unfold fC
      split
      ·rename_i e;exact absurd (eq_of_beq_eq_true e).symm I
      ·rfl,k3 (by unfold fC;split<;>first|rfl|(exact k4 _ _))⟩
    ·cases h
   ·cases h
  ·rename_i b bk ai aG
   split at h
   ·split at h
    ·cases h
     unfold wu;simp only[ai];exact⟨(cz.cons (V:=[]) (cz.refl _)).more λq a=>by
      obtain⟨I,_⟩:=gN a;unfold fC
      split
      ·rename_i e;exact absurd (eq_of_beq_eq_true e).symm I
      ·rfl,k3 (by unfold fC;split<;>first|rfl|(exact k4 _ _))⟩
    ·cases h
   ·cases h
  ·cases h
 ·cases h
def wv(X:bu)(n:Nat)(st:aO)(o:Oper):Option (Bool×aO×b6):=match o.guard with
 |none=>match o.dst with
  |some d=>match blt d n with
   |true=>match yJ X st o.op with
    |some (c,bN)=>some (c,⟨(d,.a bN)::st.L,st.H⟩,[d])
    |none=>match Bd X n st d o.op with
     |some (c,st')=>some (c,st',wu X st d o.op)
     |none=>none
   |false=>none
  |none=>match Be X st o.op with
   |some (c,st')=>some (c,st',RM X st o.op)
   |none=>none
 |some _=>none
theorem jn.rJ{bN:bq}(al:jn X st o bN)(b:o.guard=none/\o.dst=some d)(ay:blt d n=true):hg X n o st ⟨(d,.a bN)::st.L,st.H⟩:=by
 intro R W aE aq env B ak H a w ah KK l e;obtain⟨v,I,J⟩:=al ah;exact iD ah.cf b.1 b.2 (ef ay) (J w λ_=>ah.aU) λaX c=>e aX w env H (ah.set I c)
theorem KQ(b:X.a6.ok X.P){c:Bool}{V:b6}(h:wv X n st o=some (c,st',V))(U:c=true):hg X n o st st':=by
 unfold wv at h
 split at h
 ·rename_i a
  split at h
  ·rename_i d ay
   split at h
   ·rename_i ad
    split at h
    ·rename_i e
     cases h;exact jn.rJ (λah=>EW b e U ah) ⟨a,ay⟩ ad
    ·split at h
     ·rename_i e
      cases h;exact ady b e U ⟨a,ay⟩ ad
     ·cases h
   ·cases h
  ·rename_i ay
   split at h
   ·rename_i e
    cases h;exact adw b e U ⟨a,ay⟩
   ·cases h
 ·cases h
theorem KR{c:Bool}{V:b6}(h:wv X n st o=some (c,st',V)):db V st st':=by
 unfold wv at h
 split at h
 ·split at h
  ·split at h
   ·split at h
    ·cases h;exact pT
    ·split at h
     ·rename_i e
      cases h;exact adz e
     ·cases h
   ·cases h
  ·split at h
   ·rename_i e
    cases h;obtain⟨id,I,t,x,y,b,i,a,J⟩:=adx e;unfold RM;rw[a];simp only[J];exact I
   ·cases h
 ·cases h
end
end
section
set_option linter.unusedSectionVars false
theorem adA{P:Program}{a6:cm}(av:a6.ok P)(e:Bool)(m:Nat):∀(k:Nat) (t:TypeId) (g:a7) (x:g.D) (w:World),g.key=true->lS P a6 k t g=true->(Instr.checkKey e (m+k) t (qv a6 t (g.cQ x))).run P w=.ok () w:=by
 intro k
 induction k with
 |zero=>intro t g x w _ h;cases h
 |succ k bD=>
  intro t g x w aa h;unfold lS at h;cases az:a6.find t with
  |none=>simp[az]at h
  |some bE=>
   rw[az]at h;dsimp only at h;have hC:=(cm.get av az).ti.1;unfold qv;rw[az];dsimp only
   split at h
   ·rename_i js ay
    rw[ay]at hC ⊢;cases g with
    |int ey=>
     unfold Instr.checkKey
     simp[run_underlying hC,Result.andThen]
    |_=>cases h
   ·rename_i ay
    rw[ay]at hC ⊢;cases g with
    |bool=>
     unfold Instr.checkKey
     simp[run_underlying hC,Result.andThen]
    |_=>cases h
   ·rename_i ay
    rw[ay]at hC ⊢;cases g with
    |str=>
     unfold Instr.checkKey
     simp[run_underlying hC,Result.andThen]
    |_=>cases h
   ·rename_i dn ay
    rw[ay]at hC ⊢;simp only[and_eq_true,not_eq_true']at h;show(Instr.checkKey e (m+k+1) t (.agg (g.cQ x).toArray)).run P w=_;rw[Instr.checkKey];simp only[Sem.run_bind,run_underlying hC,Result.andThen_ok];rw[<- Array.forIn_toList];have J:=h.2.2
    clear hC ay h
    obtain⟨xs,rB⟩:∃xs:Array Value,xs=(g.cQ x).toArray:=⟨_,rfl⟩
    rw[<- rB];have ai:xs.toList.drop 0=g.cQ x:=by rw[rB];simp
    clear rB
    obtain⟨off,RN⟩:∃off:Nat,off=0:=⟨_,rfl⟩
    rw[<- RN]at J ai
    clear RN
    generalize dn.toList=L at J
    induction L generalizing off g with
    |nil=>simp[kF]at J
    |cons f L AR=>
     cases L with
     |nil=>
      have aP : (decide (f.name ≠ "_") && (beq f.offset off && lS P a6 k f.type g)) = true := by
       cases g<;>exact J
      simp only[and_eq_true,decide_eq_true_eq]at aP;obtain⟨bc,bn,he⟩:=aP;have bn:=eq_of_beq_eq_true bn;simp only[List.forIn_cons,List.forIn_nil,Sem.run_bind,bc,ne_eq,not_false_eq_true,if_true,bn,yp av aa he (by rw[ai,append_nil]),Result.andThen_ok,bD _ _ _ _ aa he,Sem.run_pure]
     |cons f2 L=>
      cases g with
      |pair g ag=>
       have aP : (decide (f.name ≠ "_") && (beq f.offset off && (lS P a6 k f.type g && kF (lS P a6 k) (off + g.size) (f2 :: L) ag))) = true := J
       simp only[and_eq_true,decide_eq_true_eq]at aP;obtain⟨bc,bn,he,aw⟩:=aP;have bn:=eq_of_beq_eq_true bn;simp only[a7.key,and_eq_true]at aa;have km:xs.toList.drop off=g.cQ x.1++ag.cQ x.2:=ai;have qw:=AR ag x.2 aa.2 (off+g.size) (by rw[<- List.drop_drop,km,<- yo x.1 aa.1,List.drop_left]) aw;rw[List.forIn_cons];simp only[Sem.run_bind,bc,ne_eq,not_false_eq_true,if_true,bn,yp av aa.1 he km,Result.andThen_ok,bD _ _ _ _ aa.1 he,Sem.run_pure];exact qw
      |int _=>simp[kF]at J
      |bool=>simp[kF]at J
      |str=>simp[kF]at J
      |ax _=>simp[kF]at J
      |hX _=>simp[kF]at J
      |unit=>simp[kF]at J
      |fn=>simp[kF]at J
   ·cases h
structure pU(P:Program)(t:TypeId)(g:a7):Prop where
 eq:ue P t g
 yM:∀(e:Bool) (x:g.D) (w:World),(Instr.checkKey e 10000 t (.agg (g.cQ x).toArray)).run P w=.ok () w
 str:∃dn,P.underlying t=some (.struct dn)
 rK:∃a b,g=.pair a b
theorem pU.of{P:Program}{a6:cm}(c:a6.ok P){t:TypeId}{bE:cr}{a b:a7}{dn:Array Field}(aa:(a7.pair a b).key=true)(az:a6.find t=some bE)(ay:bE.ti.desc=.struct dn)(h:lS P a6 12 t (.pair a b)=true)(d:P.eqGuardType P.depth t=false):pU P t (.pair a b):=by
 refine⟨.of c aa az ay h d,λe x w=>?_,⟨dn,?_⟩,⟨_,_,rfl⟩⟩
 ·have:=adA c e 9988 12 t (.pair a b) x w aa h
  unfold qv at this;rw[az]at this;dsimp only at this;rw[ay]at this;exact this
 ·have:=(cm.get c az).ti.1
  rw[ay]at this;exact this
section
variable {P:Program} {B:Nat->Prop} {w:World} {br bj:a7} {t:TypeId}
theorem eL.key{g:a7}(c:∃a b,g=.pair a b)(aa:g.key=true){x:g.D}{v:Value}(h:eL B w g x v):v=.agg (g.cQ x).toArray:=by
 obtain⟨a,b,rfl⟩:=c;obtain⟨vs,e,I⟩:=h;rw[e,bR.cQ aa I]
theorem eL.KS{g:a7}(c:∃a b,g=.pair a b)(aa:g.key=true)(x:g.D):eL B w g x (.agg (g.cQ x).toArray):=by
 obtain⟨a,b,rfl⟩:=c;exact⟨_,rfl,KT aa x⟩
where KT:∀ {g:a7} (aa:g.key=true) (x:g.D),bR B w g x (g.cQ x)
 |.int _,_,_=>rfl
 |.bool,_,_=>rfl
 |.str,_,_=>rfl
 |.ax _,h,_=>by cases h
 |.hX _,h,_=>by cases h
 |.unit,h,_=>by cases h
 |.fn,h,_=>by cases h
 |.pair g h,aa,x=>by
  simp only[a7.key,and_eq_true]at aa;exact⟨_,_,rfl,KT aa.1 x.1,KT aa.2 x.2⟩
theorem RO{g:a7}{x y:g.D}(aa:g.key=true):g.beq x y=g.beq y x:=by
 cases I:g.beq x y with
 |true=>exact((beq_iff y x aa).2 ((beq_iff x y aa).1 I).symm).symm
 |false=>
  cases J:g.beq y x with
  |true=>rw[(beq_iff x y aa).2 ((beq_iff y x aa).1 J).symm]at I;cases I
  |false=>rfl
theorem E2(a:pU P t br)(x y:br.D)(b5:World):(Op.equal t (.agg (br.cQ x).toArray) (.agg (br.cQ y).toArray)).run P b5=.ok (br.beq x y) b5:=a.eq.eq x y b5
theorem gP.Bf(a:pU P t br){z:br.D}(b5:World):∀ {l:List (br.D×bj.D)} {b:List MapEntry} (i:Nat),gP B w br bj l b ->
  (dk br bj l z=none/\(Instr.findAsking t (.agg (br.cQ z).toArray) b i).run P b5=.ok none b5)\/∃x j v,dk br bj l z=some x/\(Instr.findAsking t (.agg (br.cQ z).toArray) b i).run P b5=.ok (some (i+j,v)) b5/\eL B w bj x v/\j<b.length
 |[],_,i,h=>by rw[show _=[] from h];exact .inl ⟨rfl,rfl⟩
 |x::l,_,i,⟨e,r,he,I,J,ag⟩=>by
  subst he;have aa:=eL.key a.rK a.eq.key I;unfold Instr.findAsking dk;rw[aa];simp only[Sem.run_bind,E2 a z x.1 b5,Result.andThen_ok];rw[RO (y:=x.1) a.eq.key];cases ad:br.beq x.1 z with
  |true=>exact .inr ⟨x.2,0,e.val,rfl,rfl,J,by simp⟩
  |false=>
   rcases gP.Bf a b5 (i+1) ag with⟨au,aD⟩|⟨y,j,v,au,aD,a1,ca⟩
   ·exact .inl ⟨au,by simpa using aD⟩
   ·exact .inr ⟨y,j+1,v,au,by simpa [add_assoc,add_comm 1 j] using aD,a1,by simpa using ca⟩
theorem gP.yN(a:pU P t br){z:br.D}{gx:bj.D}{vv:Value}(b5:World)(c:eL B w bj gx vv):∀ {l:List (br.D×bj.D)} {b:List MapEntry} (i:Nat),gP B w br bj l b ->
  ((Instr.findAsking t (.agg (br.cQ z).toArray) b i).run P b5=.ok none b5/\e6 br bj l z gx=l++[(z,gx)]) \/
  ∃j v e,(Instr.findAsking t (.agg (br.cQ z).toArray) b i).run P b5=.ok (some (i+j,v)) b5/\b[j]?=some e/\e.key=.agg (br.cQ z).toArray/\gP B w br bj (e6 br bj l z gx) (b.modify j λe=>{ e with key:=.agg (br.cQ z).toArray,val:=vv })
 |[],_,i,h=>by rw[show _=[] from h];exact .inl ⟨rfl,rfl⟩
 |x::l,_,i,⟨e,r,he,I,J,ag⟩=>by
  subst he;have aa:=eL.key a.rK a.eq.key I;unfold Instr.findAsking e6;rw[aa];simp only[Sem.run_bind,E2 a z x.1 b5,Result.andThen_ok];rw[RO (y:=x.1) a.eq.key];cases ad:br.beq x.1 z with
  |true=>
   have bO:=(beq_iff x.1 z a.eq.key).1 ad;refine .inr ⟨0,e.val,e,rfl,rfl,by rw[aa,bO],{ e with key:=.agg (br.cQ z).toArray,val:=vv },r,rfl,?_,c,ag⟩;rw[bO];exact eL.KS a.rK a.eq.key z
  |false=>
   rcases gP.yN a b5 c (i+1) ag with⟨au,aD⟩|⟨j,v,ck,au,aD,a1,ca⟩
   ·exact .inl ⟨by simpa using au,by show x::e6 br bj l z gx=_;rw[aD];rfl⟩
   ·exact .inr ⟨j+1,v,ck,by simpa [add_assoc,add_comm 1 j] using au,by simpa using aD,a1,e,_,rfl,I,J,ca⟩
theorem rL{dn:Array Field}(hu:P.underlying t=some (.struct dn)){k:Value}{a:List MapEntry}{r:Option (Nat×Value)}{b5:World}(h:(Instr.findAsking t k a 0).run P b5=.ok r b5):(Instr.findKey t k a).run P b5=.ok r b5:=by
 unfold Instr.findKey;simp only[Sem.run_bind,run_underlying hu,Result.andThen_ok];cases a with
 |nil=>exact h
 |cons e a=>
  have:Instr.findNow (.struct dn) k (e::a) 0=none:=by
   rfl
  exact h
theorem E3:∀ {g:a7},g.key=true->∀(x:g.D) (n:Nat),∀v∈g.cQ x,Instr.sameBits n v v=true
 |.int _,_,x,n,v,aB=>by
  rw[List.mem_singleton.1 aB];cases n<;>simp[Instr.sameBits]
 |.bool,_,x,n,v,aB=>by
  rw[List.mem_singleton.1 aB];cases n<;>simp[Instr.sameBits]
 |.str,_,x,n,v,aB=>by
  rw[List.mem_singleton.1 aB];have ad:(toArray (show dV from x)==toArray (show dV from x))=true:=beq_self_eq_true _;cases n with
  |zero=>exact ad
  |succ n=>exact ad
 |.ax _,h,_,_,_,_=>by cases h
 |.hX _,h,_,_,_,_=>by cases h
 |.unit,h,_,_,_,_=>by cases h
 |.fn,h,_,_,_,_=>by cases h
 |.pair g h,aa,x,n,v,aB=>by
  simp only[a7.key,and_eq_true]at aa
  rcases List.mem_append.1 aB with aB|aB
  ·exact E3 aa.1 x.1 n v aB
  ·exact E3 aa.2 x.2 n v aB
theorem RP{vs:cl}(h:∀n,∀v∈vs,Instr.sameBits n v v=true):Instr.sameBits 10000 (.agg vs.toArray) (.agg vs.toArray)=true:=by
 unfold Instr.sameBits;simp only[beq_self_eq_true,Bool.true_and,List.all_eq_true];rintro⟨a,b⟩ mB
 have:a=b/\a∈vs:=by
  clear h
  induction vs with
  |nil=>cases mB
  |cons v vs c=>
   simp only[List.zip_cons_cons,List.mem_cons,Prod.mk.injEq]at mB
   rcases mB with⟨rfl,rfl⟩|mB
   ·exact⟨rfl,mem_cons_self⟩
   ·obtain⟨d,e⟩:=c mB
    exact⟨d,mem_cons_of_mem _ e⟩
 obtain⟨rfl,f⟩:=this;exact h _ _ f
end
section
variable {X:bu} {n:Nat} {st:aO} {o:Oper} {d:Nat}
theorem adB(h:X.a6.ok X.P){t fQ gE:TypeId}{bE dS:cr}{br bj:a7}{u x:Operand}{id:Nat}{l:List (br.D×bj.D)}{kH:Option (List MapEntry×Nat)}{z:br.D}{g c:Bool}{fG bN:bq}(e:pU X.P fQ br)(p:o.op=.lookup t u x false)(i:o.guard=none/\o.dst=some d)(ay:blt d n=true)(bk:X.a6.find t=some bE)(dq:bE.ti.desc=.map fQ gE)(he:X.a6.find gE=some dS)(bO:∀B w,eL B w bj bj.zero dS.ti.zero)(hu:bz X st.L u=some (true,.c (.dY id)))(ai:bz X st.L x=some (g,fG))(r:g=true)(nh:dec br fG.cells=some (c,z,[]))(U:c=true)(O:mu br fG=true)(s:bm st.H id=some (.mp br bj l kH))(nM:rC bj ((dk br bj l z).getD bj.zero)=some bN)
  : hg X n o st ⟨(d,.a bN)::st.L,st.H⟩:=by
 intro R W aE aq env B ak H a w ah KK Q D;obtain⟨S,I,b,ad,rfl⟩:=ah.aI hu rfl;obtain⟨vx,J,ag⟩:=ah.aI ai r;have E:=eL.key e.rK e.eq.key (eL.vS nh U O ag);rw[E]at J;obtain⟨eA,K,⟨b',P,clock,m,rfl,F,dG,_⟩,C⟩:=ah.heap.gU s;rw[ad]at m;cases m;have L:=(ah.aU.ok _ C.more.mem).2;have f:=(cm.get h bk).ti.1;rw[dq]at f;obtain⟨dn,k⟩:=e.str;have G:=bI.so (cm.get h he).ti w;have N:∃v,(Instr.lookup t (.map (some b)) (.agg (br.cQ z).toArray) false).run X.P w=.ok v w/\eL B ak bj ((dk br bj l z).getD bj.zero) v:=by
  unfold Instr.lookup;simp only[Sem.run_bind,run_underlying f,Result.andThen_ok,MapKept.run_getObj_map L,e.yM,Sem.run_pure]
  rcases F.Bf e w 0 with⟨au,aD⟩|⟨y,j,v,au,aD,a1,_⟩
  ·refine⟨dS.ti.zero,?_,by rw[au];exact bO _ _⟩
   simp[rL k aD,G,Result.andThen]
  ·refine⟨v,?_,by rw[au];exact a1⟩
   simp[rL k aD,Result.andThen]
 obtain⟨v,A,M⟩:=N;refine(iD ah.cf i.1 i.2 (ef ay) (v:=v) (w':=w) ?_ λaX q=>?_)
 ·simp[execOp,p,ah.cf.aI I,ah.cf.aI J,A]
 ·exact D aX _ env H (ah.set (M.bN nM) q)
theorem adC(T:X.a6.ok X.P){t fQ gE:TypeId}{bE:cr}{br bj:a7}{u x y:Operand}{id:Nat}{l:List (br.D×bj.D)}{kH:Option (List MapEntry×Nat)}{z:br.D}{g g2 c cG:Bool}{fG ej:bq}{gx:bj.D}(d:pU X.P fQ br)(N:o.op=.mapUpdate t u x y)(C:o.guard=none/\o.dst=none)(bk:X.a6.find t=some bE)(dq:bE.ti.desc=.map fQ gE)(hu:bz X st.L u=some (true,.c (.dY id)))(ai:bz X st.L x=some (g,fG))(Q:g=true)(nh:dec br fG.cells=some (c,z,[]))(U:c=true)(ar:mu br fG=true)(aG:bz X st.L y=some (g2,ej))(Z:g2=true)(V:bm st.H id=some (.mp br bj l kH))(ao:dec bj ej.cells=some (cG,gx,[]))(am:cG=true)(aa:mu bj ej=true)
  : hg X n o st ⟨st.L,fc id (.mp br bj (e6 br bj l z gx) none) st.H⟩:=by
 intro R W aE aq env B ak H a w ah KK av ab;obtain⟨aw,I,b,ad,rfl⟩:=ah.aI hu rfl;obtain⟨vx,J,ag⟩:=ah.aI ai Q;have af:=eL.key d.rK d.eq.key (eL.vS nh U ar ag);rw[af]at J;obtain⟨vy,S,O⟩:=ah.aI aG Z;have L:=eL.vS ao am aa O;obtain⟨eA,K,⟨b',m,clock,F,rfl,G,dG,_⟩,E,ac⟩:=ah.ql (b':=.mp br bj (e6 br bj l z gx) none) V;rw[ad]at F;cases F;have r:=(ah.aU.ok _ E.mem).2;have s:=(cm.get T bk).ti.1;rw[dq]at s;obtain⟨dn,D⟩:=d.str;have ap:∃i k,(Instr.mapUpdate t (.map (some b)) (.agg (br.cQ z).toArray) vy).run X.P w=.ok () { w with heap:=w.heap.setIfInBounds b (.map i.toArray k) }/\gP B ak br bj (e6 br bj l z gx) i/\Stamped i k:=by
  unfold Instr.mapUpdate;simp only[Sem.run_bind,run_underlying s,Result.andThen_ok,MapKept.run_getObj_map r,d.yM]
  rcases G.yN d w L (z:=z) 0 with⟨a1,ca⟩|⟨j,v,e,a1,ca,di,ae⟩
  ·refine⟨m++[MapEntry.mk (.agg (br.cQ z).toArray) vy clock],clock+1,?_,?_,?_⟩
   ·simp only[rL D a1,Result.andThen_ok,MapKept.run_setObj_map _ r]
    simp
   ·rw[ca]
    exact gP.snoc (eL.KS d.rK d.eq.key z) L G
   ·refine⟨?_,?_⟩
    ·rw[map_append,pairwise_append]
     exact⟨dG.1,by simp,λp al q A=>by simp at A;subst A;exact dG.2 p al⟩
    ·intro p al
     rw[map_append,List.mem_append]at al
     rcases al with al|al
     ·exact Nat.lt_succ_of_lt (dG.2 p al)
     ·simp at al;omega
  ·refine⟨m.modify j λe=>{ e with key:=.agg (br.cQ z).toArray,val:=vy },clock,?_,ae,?_⟩
   ·rw[zero_add]at a1
    have an:(Instr.keyThatStays (((m.toArray[j]?).map (·.key)).getD (.agg (br.cQ z).toArray)) (.agg (br.cQ z).toArray)).run X.P w=.ok (.agg (br.cQ z).toArray) w:=by
     have:((m.toArray[j]?).map (·.key)).getD (.agg (br.cQ z).toArray)=.agg (br.cQ z).toArray:=by simp[ca,di]
     rw[this];unfold Instr.keyThatStays;rw[RP λn=>E3 d.eq.key z n]
     rfl
    simp only[rL D a1,Result.andThen_ok,Sem.run_bind,an,MapKept.run_setObj_map _ r]
    simp
   ·rw[Stamped,AQ (f:=λe=>{ e with key:=.agg (br.cQ z).toArray,val:=vy }) (λ_=>rfl)]
    exact dG
 obtain⟨i,k,Y,M,au⟩:=ap;refine(Dz ah.cf C.1 C.2 (w':={ w with heap:=w.heap.setIfInBounds b (.map i.toArray k) }) ?_ λaX P=>?_)
 ·simp[execOp,N,ah.cf.aI I,ah.cf.aI J,ah.cf.aI S,Y]
 ·obtain⟨H',aj⟩:=ac _ aX _ ⟨b,i,k,ad,rfl,M,au,λ_ h=>by cases h⟩ (ah.aU.z7 E) P
  exact ab aX _ env H' (aj)
end
end
section
set_option linter.unusedSectionVars false
section
variable {X:bu} {R:Nat->Prop} {W:World} {aE:fj} {n:Nat} {aq:b6} {env:Nat->Loc} {B:Nat->Prop} {ak:World} {H:c2} {st:aO} {a aX:Act} {w:World} {d:Nat} {o:Oper}
theorem adD(Y:X.a6.ok X.P){t T T':TypeId}{bE:cr}{x:Operand}{id i:Nat}{g:a7}{l:List (Bool×List g.D)}{cap:Option Nat}{M:Bool}(U:o.op=.load t x)(E:o.guard=none/\o.dst=some d)(ay:blt d n=true)(bk:X.a6.find t=some bE)(aw:l7 bE.ti.desc=false)(ai:bz X st.L x=some (M,.c (.e4 id 1 i 0)))(aa:M=true)(J:bm st.H id=some (.b0 T T' g l cap none))(Z:beq d id=false)(hi:decide (i<l.length)=true)(F:(l.getD i (false,[])).1=true)
  : hg X n o st ⟨(d,.c (.ax d))::gu d .dead st.L,(d,.row T' g (l.getD i (false,[])).2 none)::fc id (.b0 T T' g l cap (some (i,some d))) (ew d .dead st.H)⟩:=by
 intro R W aE aq env B ak H a w ah KK aJ ab;have D:=of_decide_eq_true hi;have z:id≠d:=λe=>ne_of_beq_false Z e.symm
 obtain⟨vx,I,b,c,m,he,rfl⟩:=ah.aI ai aa;obtain⟨c0,aC,⟨A,k,ys,y,bb,G,rfl,P,ar,ac⟩,Q⟩:=ah.heap.gU J;rw[he]at G;cases G;have av:=ar;subst av;obtain⟨v,ft,C,S,az⟩:=dW.hole (show dW B ak T' g l y bb from P) D
 rcases az with⟨_,du,ey,gY,rfl,hb,lr⟩|⟨Kv,_⟩
 ·have aI:=dW.length (show dW B ak T' g l y bb from P)
  have am:w.cell? ⟨b,i * 1+0,none⟩=some (.slice du (l.getD i (false,[])).2.length ey):=by
   have ae:fX w (λk=>R k\/B k) T 1 (some ⟨b,0,none⟩) c l.length y:=(ah.aU.ok _ Q.more.mem).1 _ mem_cons_self;rw[ae.cells rfl _ (by omega)]
   simpa using C
  refine iD ah.cf E.1 E.2 (ef ay) (w':=w) (xX ah.cf U (cm.get Y bk).ti aw I am) λaX j=>?_
  obtain⟨H2,ad,f⟩:=ah.Rm ay (.row du ey (l.getD i (false,[])).2.length);obtain⟨fu,aF,aj,⟨an,ao,ax,rfl⟩,ap⟩:=f.heap.put (A3 z J);subst ax;obtain⟨aD,aK,aH,r,aB,N,rfl,_⟩:=aj;rw[kz id z,he]at N;cases N;have O:=ah.aU.same (c:=.tree (⟨some ⟨b,0,none⟩,c,T,1,l.length,r⟩::aB)) (mem_append_left _ (ad.subset (by simp))) Q.more.mem ⟨_,mem_cons_self,rfl⟩ ⟨_,mem_cons_self,rfl⟩;simp only[bp.tree.injEq,List.cons.injEq,gO.mk.injEq,true_and]at O;obtain⟨rfl,rfl⟩:=O
  let p:gO:=⟨du,ey,T',g.size,(l.getD i (false,[])).2.length,gY⟩
  let L:gO:=⟨some ⟨b,0,none⟩,c,T,1,l.length,r⟩
  have K:=f.aU;rw[append_assoc,cons_append]at K;have al:=K.z1 ⟨p::L::ft,(List.Perm.cons _ lr).trans (List.Perm.swap _ _ _),List.Sublist.refl _⟩;have au:=al.DA;refine ab aX w _ (p.eA::(an++.tree (L::ft)::ao)) ⟨j.size,j.defs,λs u q=>?_,⟨_,_,rfl,⟨du,ey,gY,fK,rfl,hb,λ_ h=>by cases h⟩,ap _ _ ⟨_,c,r.set i (.slice none 0 0),r,ft,by rw[kz id z];exact he,rfl,S,⟨D,.slice du (l.getD i (false,[])).2.length ey,?_,λaG aA=>by cases aA;exact⟨du,ey,_,fK,rfl⟩⟩,ac⟩⟩,by rw[cons_append,append_assoc,cons_append];exact au,f.sub,f.new,f.dr,f.base,f.eg⟩
  ·rw[cI]at q
   split at q
   ·rename_i e;subst e;cases q;exact⟨_,j.this,_,_,_,fK,rfl⟩
   ·rename_i e
    obtain⟨af,ag,V⟩:=f.has s u q;exact⟨af,j.other e ag,V⟩
  ·rw[set_set]
   exact(List.Rl C).symm
 ·rw[Kv]at F;cases F
theorem adE(T':TypeId)(i:a7)(h:X.a6.ok X.P){t e:TypeId}{bE dS:cr}{x y:Operand}{k k':IntKind}{b f:Int}{C g2:Bool}{V:a7}(E:o.op=.makeSlice t x y)(l:o.guard=none/\o.dst=some d)(ay:blt d n=true)(bk:X.a6.find t=some bE)(dq:bE.ti.desc=.slice e)(he:X.a6.find e=some dS)(Z:dS.g=some (.ax V))(ai:bz X st.L x=some (C,.c (.val (.int k b))))(N:C=true)(aG:bz X st.L y=some (g2,.c (.val (.int k' f))))(M:g2=true)(U:(decide (0<=b)&&decide (b<=f)&&eT dS.ti.bytes f)=true)
  : hg X n o st ⟨(d,.c (.ax d))::gu d .dead st.L,(d,.b0 e T' i (replicate b.toNat (true,[])) (some f.toNat) none)::ew d .dead st.H⟩:=by
 intro R W aE aq env B ak H a w ah KK aa P;obtain⟨vx,D,S⟩:=ah.aI ai N;obtain⟨vy,A,T⟩:=ah.aI aG M;simp only[and_eq_true,decide_eq_true_eq]at U;obtain⟨⟨fg,h0⟩,ir⟩:=U;obtain⟨ir,nH⟩:=(DM (by omega)).1 ir;rw[show vx=_ from S]at D;rw[show vy=_ from T]at A;obtain⟨I,J,ag⟩:=(cm.get h he).g _ Z;have j:=(cm.get h bk).ti.1;rw[dq]at j;have u:=I.symm;have Y:dS.ti.zero.cells.toList=[.slice none 0 0]:=J;obtain⟨p,cP⟩:=PV ah.aU j (cm.get h he).ti (z:=[.slice none 0 0]) (by rw[<- Y]) (by rw[u];rfl) (by omega) (k:=k) (k':=k') (m:=b.toNat) (c:=f.toNat) (by omega) (by
  have:((dS.ti.bytes * f.toNat:Nat):Int)=(dS.ti.bytes:Int) * f:=by rw[Int.natCast_mul,Int.toNat_of_nonneg (by omega)]
  omega) (by omega)
 rw[Int.toNat_of_nonneg fg,Int.toNat_of_nonneg (by omega)]at p;refine iD ah.cf l.1 l.2 (ef ay) (v:=.slice (some ⟨w.heap.size,0,none⟩) b.toNat f.toNat) (w':=w.alloc (.cells (e3 [.slice none 0 0] f.toNat).toArray e)) (by simp[execOp,E,ah.cf.aI D,ah.cf.aI A,p]) λaX F=>?_
 obtain⟨bb,Q,bc⟩:=dW.Rk (T':=T') b.toNat;have G:e3 [Value.slice none 0 0] b.toNat=replicate b.toNat (.slice none 0 0):=by
  unfold e3
  induction b.toNat with
  |zero=>rfl
  |succ k L=>rw[List.replicate_succ,List.flatten_cons,L,List.replicate_succ];rfl
 rw[u,G]at cP;have g:=bZ.Rp (bZ.Ro (X:=[]) (r:=⟨some ⟨w.heap.size,0,none⟩,f.toNat,e,1,b.toNat,replicate b.toNat (.slice none 0 0)⟩) cP) λs g=>⟨_,_,bc s g⟩
 obtain⟨H',_,O⟩:=ah.pF ay (blk:=.b0 e T' i (replicate b.toNat (true,[])) (some f.toNat) none) (sv:=.c (.ax d)) g ⟨_,f.toNat,_,_,bb,by rw[List.length_replicate];exact fK,by rw[List.length_replicate],Q,rfl,λq K=>by cases K;rfl⟩ ⟨_,_,_,fK,rfl⟩ F;exact P _ _ _ _ O
end
inductive pV where
 |Bg
 |st
 |mk
 |ov (br bj:a7)
 |Bh
 |E4
 |E5
 |RR (l:List (Int×Nat))
 |RS
 |tD
 |mC
 |RT
 |RU
def yO(X:bu)(t:TypeId):a7->Bool
 |.pair a b=>yI X t (.pair a b)
 |_=>false
theorem Bi{X:bu}(c:X.a6.ok X.P){t:TypeId}{g:a7}(h:yO X t g=true):pU X.P t g:=by
 cases g with
 |pair a b=>
  have J:yI X t (.pair a b)=true:=h;unfold yI at J
  split at J
  ·rename_i az
   simp only[and_eq_true,not_eq_true']at J;exact pU.of c J.1 az rfl J.2.1 J.2.2
  ·cases J
 |_=>cases h
def Bj:a7->Value->Bool
 |.int k,.int k' z=>decide (k'=k)&&decide (z=0)
 |.bool,.bool b=>!b
 |_,_=>false
theorem RV{g:a7}{v:Value}(h:Bj g v=true):∀B w,eL B w g g.zero v:=by
 intro B w;cases g with
 |int k=>
  cases v with
  |int k' z=>
   unfold Bj at h;rw[and_eq_true,decide_eq_true_eq,decide_eq_true_eq]at h;rw[h.1,h.2];exact(rfl:[Value.int k 0]=[Value.int k 0])
  |_=>cases h
 |bool=>
  cases v with
  |bool b=>
   cases b with
   |true=>cases h
   |false=>exact(rfl:[Value.bool false]=[Value.bool false])
  |_=>cases h
 |_=>cases h
def E6(bj:a7)(dS:cr):Bool:=match bj,dS.ti.zero with
 |.fn,.nilFunc=>true
 |.pair a b,.agg _=>decide (dS.g=some (.pair a b))
 |.int k,.int k' z=>decide (k'=k)&&decide (z=0)
 |.bool,.bool b=>!b
 |_,_=>false
theorem RW{P:Program}{gE:TypeId}{dS:cr}{bj:a7}(c:cr.ok P gE dS)(h:E6 bj dS=true):∀B w,eL B w bj bj.zero dS.ti.zero:=by
 intro B w;unfold E6 at h
 split at h
 ·rename_i bO
  rw[bO];exact(rfl:[Value.nilFunc]=[Value.nilFunc])
 ·rename_i a b _ bO
  obtain⟨_,J,_⟩:=c.g _ (of_decide_eq_true h);rw[bO]at J;refine⟨_,bO,?_⟩;have ag:=bR.e3 (B:=B) (w:=w) (a7.pair a b);rw[<- J]at ag;exact ag
 ·rename_i bO
  rw[and_eq_true,decide_eq_true_eq,decide_eq_true_eq]at h;rw[bO,h.1,h.2];exact(rfl:[Value.int _ 0]=[Value.int _ 0])
 ·rename_i b bO
  rw[bO];cases b with
  |true=>cases h
  |false=>exact(rfl:[Value.bool false]=[Value.bool false])
 ·cases h
def RX:List (Int×Nat)->Int->Option Nat
 |[],_=>none
 |(k,f)::r,z=>cond (decide (z=k)) (some f) (RX r z)
def qE(f:Nat):Option (Option Nat)->Bool
 |some (some h)=>beq h f
 |_=>false
theorem adG{f:Nat}{o:Option (Option Nat)}(h:qE f o=true):o=some (some f):=by
 unfold qE at h
 split at h
 ·rw[eq_of_beq_eq_true h]
 ·cases h
theorem adH{X:bu}{n:Nat}{st:aO}{o:Oper}{d:Nat}(j:X.a6.ok X.P)(br bj:a7){t fQ gE:TypeId}{bE:cr}{u:Operand}{k:IntKind}{z:Int}{g:Bool}(c:o.op=.makeMap t (some u))(b:o.guard=none/\o.dst=some d)(ay:blt d n=true)(bk:X.a6.find t=some bE)(dq:bE.ti.desc=.map fQ gE)(hu:bz X st.L u=some (g,.c (.val (.int k z))))(i:g=true) :
  hg X n o st ⟨(d,.c (.dY d))::gu d .dead st.L,(d,.mp br bj [] none)::ew d .dead st.H⟩:=by
 intro R W aE aq env B ak H a w ah KK p m;obtain⟨v,I,J⟩:=ah.aI hu i;rw[show v=_ from J]at I;have e:=ah.cf.aI I;have bh:asIntOf (Value.int k z)=pure (k,z):=rfl;have l:X.P.underlying t=some (.map fQ gE):=by rw[<- dq];exact(cm.get j bk).ti.1
 refine(iD ah.cf b.1 b.2 (ef ay) (v:=.map (some w.heap.size)) (w':=w.alloc (.map #[] 0)) (by simp[execOp,c,e,Instr.makeMap,newObj,underlying,asInt,bh,l,Sem.run]) λaX f=>?_);obtain⟨H',_,ag⟩:=ah.pF ay (blk:=.mp br bj [] none) (sv:=.c (.dY d)) (ah.aU.alloc (.map #[] 0)) ⟨_,[],0,fK,rfl,rfl,⟨List.Pairwise.nil,λ_ h=>by cases h⟩,λ_ h=>by cases h⟩ ⟨_,fK,rfl⟩ f;exact m aX _ _ H' (ag)
theorem adI{X:bu}{n:Nat}{st:aO}{o:Oper}{d:Nat}(r:X.a6.ok X.P){t fQ gE:TypeId}{bE:cr}{br bj:a7}{u:Operand}{id:Nat}{l:List (br.D×bj.D)}{kH:Option (List MapEntry×Nat)}(p:o.op=.range t u)(i:o.guard=none/\o.dst=some d)(ay:blt d n=true)(bk:X.a6.find t=some bE)(dq:bE.ti.desc=.map fQ gE)(hu:bz X st.L u=some (true,.c (.dY id)))(A:bm st.H id=some (.mp br bj l kH))(ae:l.isEmpty=true)(z:beq id d=false) :
  hg X n o st ⟨(d,.c (.ptr d 0))::gu d .dead st.L,(d,.hY id)::ew d .dead (fc id (.mp br bj [] none) st.H)⟩:=by
 intro R W aE aq env B ak H a w ah KK J D;cases l with
 |cons x l=>cases ae
 |nil=>
  obtain⟨L,I,b,ad,rfl⟩:=ah.aI hu rfl;obtain⟨c,K,⟨b',f,clock,m,rfl,E,dG,_⟩,k,G⟩:=ah.heap.put A;rw[ad]at m;cases m;have F:=(ah.aU.ok _ k.more.mem).2;have e:=(cm.get r bk).ti.1;rw[dq]at e;have s:K (.obj b (.map f.toArray clock))=H:=by obtain⟨X,Y,e,y⟩:=k;rw[y,e]
  have j:=G (.mp br bj [] none) (.obj b (.map f.toArray clock)) ⟨b,f,clock,ad,rfl,E,dG,λ_ h=>by cases h⟩;rw[s]at j;have g:bK X R W aE n aq env B ak H ⟨st.L,fc id (.mp br bj [] none) st.H⟩ a w:=⟨ah.size,ah.defs,ah.has,j,ah.aU,ah.sub,ah.new,ah.dr,ah.base,ah.eg⟩
  have C:(Instr.range t (.map (some b))).run X.P w=.ok (.pointer (some ⟨w.heap.size,0,none⟩)) (w.alloc (.mapIter (some b) clock #[] clock)):=by
   simp[Instr.range,run_underlying e,MapKept.run_getObj_map F,newObj,Sem.run,Result.andThen]
  refine(iD g.cf i.1 i.2 (ef ay) (v:=.pointer (some ⟨w.heap.size,0,none⟩)) (w':=w.alloc (.mapIter (some b) clock #[] clock)) (by simp[execOp,p,ah.cf.aI I,C]) λaX q=>?_);obtain⟨H',_,ag⟩:=g.pF ay (blk:=.hY id) (sv:=.c (.ptr d 0)) (g.aU.alloc _) ⟨_,b,clock,fK,by rw[kz id (ne_of_beq_eq_false z)];exact ad,rfl⟩ ⟨_,fK,rfl⟩ q;exact D aX _ _ H' ag
theorem adJ{X:bu}{n:Nat}{st:aO}{o:Oper}{d:Nat}{br bj:a7}{u:Operand}{h id:Nat}{kH:Option (List MapEntry×Nat)}(l:o.op=.next u false)(f:o.guard=none/\o.dst=some d)(ay:blt d n=true)(hu:bz X st.L u=some (true,.c (.ptr id 0)))(A:bm st.H id=some (.hY h))(s:bm st.H h=some (.mp br bj [] kH)):hg X n o st ⟨(d,.da [.c (.val (.bool false))])::st.L,st.H⟩:=by
 intro R W aE aq env B ak H a w ah KK J y;obtain⟨L,I,b,ad,rfl⟩:=ah.aI hu rfl;obtain⟨cG,E,⟨m,G,clock,C,rfl,z,_⟩,j⟩:=ah.heap.gU s;have r:=(ah.aU.ok _ j.more.mem).2;obtain⟨c,K,⟨b',F,q,g,i,rfl⟩,t⟩:=ah.heap.gU A;rw[ad]at g;cases g;rw[C]at i;cases i;have D:=(ah.aU.ok _ t.more.mem).2;have k:=z;subst k
 rcases run_next_at (P:=X.P) w o.type b m q q #[] #[] clock D r (λx ai=>by simp at ai) (le_refl _)with⟨_,dC⟩|⟨e,he,_⟩
 ·refine(iD ah.cf f.1 f.2 (ef ay) (v:=.tuple #[.bool false]) (w':=w) (by simp[execOp,l,ah.cf.aI I,dC]) λaX p=>?_)
  exact y aX _ _ _ (ah.set ⟨[.bool false],rfl,.bool false,[],rfl,rfl,rfl⟩ p)
 ·simp[leftOf]at he
theorem gP.len{B:Nat->Prop}{w:World}{br bj:a7}:∀ {l:List (br.D×bj.D)} {a:List MapEntry},gP B w br bj l a->a.length=l.length
 |[],_,h=>by rw[show _=[] from h];rfl
 |_::_,_,⟨_,_,e,_,_,h⟩=>by rw[e,List.length_cons,List.length_cons,gP.len h]
theorem adL{X:bu}{n:Nat}{st:aO}{o:Oper}{d:Nat}(j:X.a6.ok X.P){t fQ gE:TypeId}{bE:cr}{br bj:a7}{u:Operand}{id:Nat}{l:List (br.D×bj.D)}{kH:Option (List MapEntry×Nat)}(h:o.op=.call { callee:=.builtin .len,args:=#[u],argTypes:=#[t] })(f:o.guard=none/\o.dst=some d)(ay:blt d n=true)(bk:X.a6.find t=some bE)(dq:bE.ti.desc=.map fQ gE)(hu:bz X st.L u=some (true,.c (.dY id)))(k:bm st.H id=some (.mp br bj l kH)):hg X n o st ⟨(d,.c (.val (.int .i64 (l.length:Int))))::st.L,st.H⟩:=by
 intro R W aE aq env B ak H a w ah KK y p;obtain⟨z,I,b,ad,rfl⟩:=ah.aI hu rfl;obtain⟨c,K,⟨b',s,clock,g,rfl,q,dG,_⟩,m⟩:=ah.heap.gU k;rw[ad]at g;cases g;have r:=(ah.aU.ok _ m.more.mem).2;have e:=(cm.get j bk).ti.1;rw[dq]at e;refine(iD ah.cf f.1 f.2 (ef ay) (v:=.int .i64 (l.length:Int)) (w':=w) ?_ λaX i=>?_)
 ·simp[execOp,h,resolve,invoke,builtin,Builtin.len_,ah.cf.aI I,run_underlying e,MapKept.run_getObj_map r,goInt,q.len]
 ·exact p aX _ env H (ah.set rfl i)
theorem adM(A:Option Addr)(s c:Nat):kf A 0 s c=A:=by
 unfold kf
 split
 ·rfl
 ·cases A with
  |none=>rfl
  |some a=>simp[Addr.add]
theorem adN{X:bu}{n:Nat}{st:aO}{o:Oper}{d:Nat}(j:X.a6.ok X.P){t e:TypeId}{x y:Operand}{p g2:Bool}{ej:bq}{id f aa:Nat}{ab g:a7}{l b:List g.D}{cap:Option Nat}{bE:cr}{aK:TypeDesc}{af:Value}(E:o.op=.call ⟨.builtin .copy,⟨[x,y]⟩,⟨[t,t]⟩⟩)(M:o.guard=none/\o.dst=some d)(ay:blt d n=true)(bk:X.a6.find t=some bE)(dq:bE.ti.desc=.slice e)(he:X.a6.find e=some ⟨⟨aK,f,aa,af⟩,some ab⟩)(ai:bz X st.L x=some (p,.c (.ax id)))(F:p=true)(aG:bz X st.L y=some (g2,ej))(S:g2=true)(O:bm st.H id=some (.row e g l cap))(P:beq g.size f=true)(ah:mT st g ej=some b)(ag:blt 0 f=true)(U:decide (b.length<=l.length)=true):hg X n o st ⟨(d,.c (.val (.int .i64 (b.length:Int))))::st.L,fc id (.row e g (b++l.drop b.length) cap) st.H⟩:=by
 intro R W aE aq env B ak H a w h KK lo V;obtain⟨vx,ac,ad⟩:=h.aI ai F;obtain⟨vy,Z,ae⟩:=h.aI aG S;obtain⟨T,L,I,J⟩:=nD (cm.get j bk).ti (cm.get j he).ti;have r:=eq_of_beq_eq_true P;have an:=of_decide_eq_true U;obtain⟨am,cG,s,rfl,z,q⟩:=sy h ah ae;obtain⟨A,c,m,v,rfl⟩:=ad;obtain⟨eA,K,⟨al,k',xs,C,rfl,N,Y⟩,k,aj⟩:=h.ql (b':=.row e g (b++l.drop b.length) cap) O;rw[v]at C;cases C;rw[r]at k q;have u:(b++l.drop b.length).length=l.length:=by
  simp only[List.length_append,List.length_drop];omega
 have G:aI (full a) x=some (.slice (kf A 0 f c) (l.length-0) (c-0)):=by
  rw[adM];exact ac
 refine Pe h.sym E M ay L I dq J G Z k q (Flat.jo (λ_ _=>bR.jo) z) (ef ag) (by omega) λaX w' bP=>?_
 have D:=Flat.part (i:=0) (λ_ _=>bR.length) N z;obtain⟨H',Q⟩:=aj (.row A c e g.size l.length (xs.take (0 * f)++s++xs.drop (0 * f+s.length))) a w' ⟨A,c,_,by rw[u];exact v,by rw[u],by simpa using D,Y⟩ (by rw[r];exact bP.aU) h.cf;exact V aX w' _ H' (Q.set rfl bP.st)
def Bk(X:bu)(n:Nat)(st:aO):pV->Oper->Option (Bool×aO×b6)
 |.ov br bj,⟨some d,.makeMap _ none,_,_,_,none⟩=>match blt d n with
  |true=>some (true,⟨(d,.c (.dY d))::gu d .dead st.L,(d,.mp br bj [] none)::ew d .dead st.H⟩,[d])
  |false=>none
 |.ov br bj,⟨some d,.makeMap t (some u),_,_,_,none⟩=>match blt d n,X.a6.find t,bz X st.L u with
  |true,some ⟨⟨.map _ _,_,_,_⟩,_⟩,some (g,.c (.val (.int _ _)))=>some (g,⟨(d,.c (.dY d))::gu d .dead st.L,(d,.mp br bj [] none)::ew d .dead st.H⟩,[d])
  |_,_,_=>none
 |.Bh,⟨some d,.lookup t u x false,_,_,_,none⟩=>match blt d n,X.a6.find t,bz X st.L u,bz X st.L x with
  |true,some ⟨⟨.map fQ gE,_,_,_⟩,_⟩,some (true,.c (.dY id)),some (g,fG)=>match bm st.H id,X.a6.find gE with
   |some (.mp br bj l _),some dS=>match dec br fG.cells,yO X fQ br&&(mu br fG&&Bj bj dS.ti.zero)with
    |some (c,z,[]),true=>match rC bj ((dk br bj l z).getD bj.zero)with
     |some bN=>some (g&&c,⟨(d,.a bN)::st.L,st.H⟩,[d])
     |none=>none
    |_,_=>none
   |_,_=>none
  |_,_,_,_=>none
 |.E4,⟨none,.mapUpdate t u x y,_,_,_,none⟩=>match X.a6.find t,bz X st.L u,bz X st.L x,bz X st.L y with
  |some ⟨⟨.map fQ _,_,_,_⟩,_⟩,some (true,.c (.dY id)),some (g,fG),some (g2,ej)=>match bm st.H id with
   |some (.mp br bj l _)=>match dec br fG.cells,dec bj ej.cells,yO X fQ br&&(mu br fG&&mu bj ej)with
    |some (c,z,[]),some (cG,gx,[]),true=>some (g&&(c&&(g2&&cG)),⟨st.L,fc id (.mp br bj (e6 br bj l z gx) none) st.H⟩,[id])
    |_,_,_=>none
   |_=>none
  |_,_,_,_=>none
 |.E5,⟨some d,.lookup t u x true,_,_,_,none⟩=>match blt d n,X.a6.find t,bz X st.L u,bz X st.L x with
  |true,some ⟨⟨.map fQ gE,_,_,_⟩,_⟩,some (true,.c (.dY id)),some (g,.c (.val (.int k z)))=>match bm st.H id,X.a6.find fQ,X.a6.find gE with
   |some (.mp (.int k') bj l _),some ⟨⟨.int a,_,_,_⟩,_⟩,some dS=>match decEq k' k,decEq a k,E6 bj dS,rC bj ((dk (.int k') bj l z).getD bj.zero)with
    |isTrue _,isTrue _,true,some bN=>some (g,⟨(d,.da [bN,.c (.val (.bool (dk (.int k') bj l z).isSome))])::st.L,st.H⟩,[d])
    |_,_,_,_=>none
   |_,_,_=>none
  |_,_,_,_=>none
 |.RR dn,⟨some d,.lookup t u x false,_,_,_,none⟩=>match blt d n,X.a6.find t,bz X st.L u,bz X st.L x with
  |true,some ⟨⟨.map fQ gE,_,_,_⟩,_⟩,some (true,.c (.dY id)),some (g,.c (.val (.int k z)))=>match bm st.H id,X.a6.find fQ,X.a6.find gE,RX dn z with
   |some (.mp (.int k') .fn l _),some ⟨⟨.int a,_,_,_⟩,_⟩,some dS,some f=>match decEq k' k,decEq a k,E6 .fn dS with
    |isTrue _,isTrue _,true=>some (g&&qE f (dk (.int k') .fn l z),⟨(d,.a (.c (.fn f [])))::st.L,st.H⟩,[d])
    |_,_,_=>none
   |_,_,_,_=>none
  |_,_,_,_=>none
 |.mC,⟨none,.insert t u x y,_,_,_,none⟩=>match X.a6.find t,bz X st.L u,bz X st.L x,bz X st.L y with
  |some ⟨⟨.map fQ _,_,_,_⟩,_⟩,some (true,.c (.dY id)),some (g,.c (.val (.int k z))),some (g2,ej)=>match bm st.H id,X.a6.find fQ with
   |some (.mp (.int k') bj l _),some ⟨⟨.int a,_,_,_⟩,_⟩=>match decEq k' k,decEq a k,dec bj ej.cells,mu bj ej with
    |isTrue _,isTrue _,some (cG,gx,[]),true=>some (g&&(g2&&cG),⟨st.L,fc id (.mp (.int k') bj (e6 (.int k') bj l z gx) none) st.H⟩,[id])
    |_,_,_,_=>none
   |_,_=>none
  |_,_,_,_=>none
 |.RT,⟨some d,.range t u,_,_,_,none⟩=>match blt d n,X.a6.find t,bz X st.L u with
  |true,some ⟨⟨.map _ _,_,_,_⟩,_⟩,some (true,.c (.dY id))=>match beq id d,bm st.H id with
   |false,some (.mp br bj l _)=>some (l.isEmpty,⟨(d,.c (.ptr d 0))::gu d .dead st.L,(d,.hY id)::ew d .dead (fc id (.mp br bj [] none) st.H)⟩,[d,id])
   |_,_=>none
  |_,_,_=>none
 |.RU,⟨some d,.next u false,_,_,_,none⟩=>match blt d n,bz X st.L u with
  |true,some (true,.c (.ptr id 0))=>match bm st.H id with
   |some (.hY j)=>match bm st.H j with
    |some (.mp _ _ [] _)=>some (true,⟨(d,.da [.c (.val (.bool false))])::st.L,st.H⟩,[d])
    |_=>none
   |_=>none
  |_,_=>none
 |.RS,⟨some d,.call ⟨.builtin .len,⟨[u]⟩,⟨[t]⟩⟩,_,_,_,none⟩=>match blt d n,X.a6.find t,bz X st.L u with
  |true,some ⟨⟨.map _ _,_,_,_⟩,_⟩,some (true,.c (.dY id))=>match bm st.H id with
   |some (.mp _ _ l _)=>some (true,⟨(d,.c (.val (.int .i64 (l.length:Int))))::st.L,st.H⟩,[d])
   |_=>none
  |_,_,_=>none
 |.tD,⟨some d,.call ⟨.builtin .copy,⟨[x,y]⟩,⟨[t,o]⟩⟩,_,_,_,none⟩=>match blt d n,beq o t,X.a6.find t,bz X st.L x,bz X st.L y with
  |true,true,some ⟨⟨.slice e,_,_,_⟩,_⟩,some (m,.c (.ax id)),some (g2,ej)=>match X.a6.find e,bm st.H id with
   |some ⟨⟨_,h,_,_⟩,some _⟩,some (.row i g l cap)=>match beq i e,beq g.size h,mT st g ej,blt 0 h with
    |true,true,some b,true=>some (m&&(g2&&decide (b.length<=l.length)),⟨(d,.c (.val (.int .i64 (b.length:Int))))::st.L,fc id (.row e g (b++l.drop b.length) cap) st.H⟩,[d,id])
    |_,_,_,_=>none
   |_,_=>none
  |_,_,_,_,_=>none
 |_,_=>none
section
variable {X:bu} {n:Nat} {st st':aO} {o:Oper}
theorem adP(a:X.a6.ok X.P){m:pV}{c:Bool}{V:b6}(h:Bk X n st m o=some (c,st',V))(U:c=true):hg X n o st st':=by
 unfold Bk at h
 split at h
 ·split at h
  ·rename_i ay
   cases h;exact acs _ _ rfl ⟨rfl,rfl⟩ ay
  ·cases h
 ·split at h
  ·rename_i ay bk hu
   cases h;exact adH a _ _ rfl ⟨rfl,rfl⟩ ay bk rfl hu U
  ·cases h
 ·split at h
  ·rename_i ay bk hu ai
   split at h
   ·rename_i ae he
    split at h
    ·rename_i nh aa
     simp only[and_eq_true]at aa
     split at h
     ·rename_i nM
      cases h;rw[and_eq_true]at U;exact adB a (Bi a aa.1) rfl ⟨rfl,rfl⟩ ay bk rfl he (RV aa.2.2) hu ai U.1 nh U.2 aa.2.1 ae nM
     ·cases h
    ·cases h
   ·cases h
  ·cases h
 ·split at h
  ·rename_i bk hu ai aG
   split at h
   ·rename_i ae
    split at h
    ·rename_i nh sT aa
     simp only[and_eq_true]at aa;cases h;simp only[and_eq_true]at U;exact adC a (Bi a aa.1) rfl ⟨rfl,rfl⟩ bk rfl hu ai U.1 nh U.2.1 aa.2.1 aG U.2.2.1 ae sT U.2.2.2 aa.2.2
    ·cases h
   ·cases h
  ·cases h
 ·split at h
  ·rename_i ay bk hu ai
   split at h
   ·rename_i ae aa he
    split at h
    ·rename_i d b _ _ _ bO nM
     subst d;subst b;cases h;exact acf a rfl ⟨rfl,rfl⟩ ay bk rfl aa rfl he (RW (cm.get a he) bO) hu ai U ae nM
    ·cases h
   ·cases h
  ·cases h
 ·split at h
  ·rename_i ay bk hu ai
   split at h
   ·rename_i ae aa he _
    split at h
    ·rename_i d b _ _ bO
     subst d;subst b;cases h;rw[and_eq_true]at U;exact acu a rfl ⟨rfl,rfl⟩ ay bk rfl aa rfl he (RW (cm.get a he) bO) hu ai U.1 ae (by rw[adG U.2];rfl)
    ·cases h
   ·cases h
  ·cases h
 ·split at h
  ·rename_i bk hu ai aG
   split at h
   ·rename_i ae aa
    split at h
    ·rename_i d b _ _ _ _ sT f
     subst d;subst b;cases h;simp only[and_eq_true]at U;exact acw a rfl ⟨rfl,rfl⟩ bk rfl aa rfl hu ai U.1 aG U.2.1 ae sT U.2.2 f
    ·cases h
   ·cases h
  ·cases h
 ·split at h
  ·rename_i ay bk hu
   split at h
   ·rename_i i ae
    cases h;exact adI a rfl ⟨rfl,rfl⟩ ay bk rfl hu ae U i
   ·cases h
  ·cases h
 ·split at h
  ·rename_i ay hu
   split at h
   ·rename_i hi
    split at h
    ·rename_i ae
     cases h;exact adJ rfl ⟨rfl,rfl⟩ ay hu hi ae
    ·cases h
   ·cases h
  ·cases h
 ·split at h
  ·rename_i ay bk hu
   split at h
   ·rename_i ae
    cases h;exact adL a rfl ⟨rfl,rfl⟩ ay bk rfl hu ae
   ·cases h
  ·cases h
 ·split at h
  ·rename_i ay k bk ai aG
   split at h
   ·rename_i he ae
    split at h
    ·rename_i J ag g e
     have b:=eq_of_beq_eq_true J;have j:=eq_of_beq_eq_true k;subst b;subst j;cases h;simp only[and_eq_true]at U;exact adN a rfl ⟨rfl,rfl⟩ ay bk rfl he ai U.1 aG U.2.1 ae ag g e U.2.2
    ·cases h
   ·cases h
  ·cases h
 ·cases h
theorem adQ{m:pV}{c:Bool}{V:b6}(h:Bk X n st m o=some (c,st',V)):db V st st':=by
 unfold Bk at h
 split at h
 ·split at h
  ·cases h
   exact⟨cz.cons (lA _ _ _),cz.cons (V:=[]) (kI _ _ _)⟩
  ·cases h
 ·split at h
  ·cases h
   exact⟨cz.cons (lA _ _ _),cz.cons (V:=[]) (kI _ _ _)⟩
  ·cases h
 ·split at h
  ·split at h
   ·split at h
    ·split at h
     ·cases h;exact pT
     ·cases h
    ·cases h
   ·cases h
  ·cases h
 ·split at h
  ·split at h
   ·split at h
    ·cases h;exact⟨cz.refl _,k3 (k4 _ _)⟩
    ·cases h
   ·cases h
  ·cases h
 ·split at h
  ·split at h
   ·split at h
    ·cases h;exact pT
    ·cases h
   ·cases h
  ·cases h
 ·split at h
  ·split at h
   ·split at h
    ·cases h;exact pT
    ·cases h
   ·cases h
  ·cases h
 ·split at h
  ·split at h
   ·split at h
    ·cases h;exact⟨cz.refl _,k3 (k4 _ _)⟩
    ·cases h
   ·cases h
  ·cases h
 ·split at h
  ·split at h
   ·cases h
    exact⟨cz.cons (lA _ _ _),cz.cons (cz.trans (V2:=[]) (k3 (k4 _ _)) (kI _ _ _))⟩
   ·cases h
  ·cases h
 ·split at h
  ·split at h
   ·split at h
    ·cases h;exact pT
    ·cases h
   ·cases h
  ·cases h
 ·split at h
  ·split at h
   ·cases h;exact pT
   ·cases h
  ·cases h
 ·split at h
  ·split at h
   ·split at h
    ·cases h
     exact⟨cz.cons (cz.refl _),(k3 (k4 _ _)).more λq a=>(gN a).2⟩
    ·cases h
   ·cases h
  ·cases h
 ·cases h
end
section
variable {X:bu} {n:Nat} {st st':aO} {d:Nat} {o:Oper}
def wx(X:bu)(n:Nat)(st:aO):pV->Oper->Option (Bool×aO×b6)
 |.Bg,⟨some d,.load t x,_,_,_,none⟩=>match blt d n,X.a6.find t,bz X st.L x with
  |true,some bE,some (a,.c (.e4 id 1 i 0))=>match l7 bE.ti.desc,beq d id,bm st.H id with
   |false,false,some (.b0 T T' g l cap none)=>some (a&&(decide (i<l.length)&&(l.getD i (false,[])).1),⟨(d,.c (.ax d))::gu d .dead st.L,(d,.row T' g (l.getD i (false,[])).2 none)::fc id (.b0 T T' g l cap (some (i,some d))) (ew d .dead st.H)⟩,[d,id])
   |false,_,some (.b0 _ _ _ _ _ (some (j,some d2)))=>some (a&&decide (i=j),⟨(d,.c (.ax d2))::st.L,st.H⟩,[d])
   |_,_,_=>none
  |_,_,_=>none
 |.st,⟨none,.store t x y,_,_,_,none⟩=>match X.a6.find t,bz X st.L x,bz X st.L y with
  |some bE,some (a,.c (.e4 id 1 i 0)),some (g2,.c (.ax d))=>match beq bE.ti.size 1,bm st.H id with
   |true,some (.b0 T T' g l cap h)=>some (a&&(g2&&(wj h i&&decide (i<l.length))),⟨st.L,fc id (.b0 T T' g l cap (some (i,some d))) st.H⟩,[id])
   |_,_=>none
  |some bE,some (a,.c (.e4 id 1 i 0)),some (g2,.c (.bo g' f _))=>match beq bE.ti.size 1,bm st.H id with
   |true,some (.b0 T T' g l cap h)=>match decEq g' g with
    |isTrue e=>some (a&&(g2&&(wj h i&&decide (i<l.length))),⟨st.L,fc id (.b0 T T' g (l.set i (false,pQ e f)) cap none) st.H⟩,[id])
    |isFalse _=>none
   |_,_=>none
  |_,_,_=>none
 |.mk,⟨some d,.makeSlice t x y,_,_,_,none⟩=>match blt d n,X.a6.find t,bz X st.L x,bz X st.L y with
  |true,some ⟨⟨.slice e,_,_,_⟩,_⟩,some (a,.c (.val (.int _ c))),some (g2,.c (.val (.int _ b)))=>match X.a6.find e with
   |some ⟨⟨.slice T',_,k,_⟩,some (.ax g)⟩=>some (a&&(g2&&(decide (0<=c)&&decide (c<=b)&&eT k b)),⟨(d,.c (.ax d))::gu d .dead st.L,(d,.b0 e T' g (replicate c.toNat (true,[])) (some b.toNat) none)::ew d .dead st.H⟩,[d])
   |_=>none
  |_,_,_,_=>none
 |m,o=>Bk X n st m o
theorem KW(a:X.a6.ok X.P){m:pV}{c:Bool}{V:b6}(h:wx X n st m o=some (c,st',V))(U:c=true):hg X n o st st':=by
 unfold wx at h
 split at h
 ·split at h
  ·rename_i ay bk ai
   split at h
   ·rename_i bh bc ae
    cases h;simp only[and_eq_true]at U;exact adD a rfl ⟨rfl,rfl⟩ ay bk bh ai U.1 ae bc U.2.1 U.2.2
   ·rename_i bh ae
    cases h;simp only[and_eq_true]at U;exact jn.rJ (Rq a rfl bk bh ai U.1 ae U.2) ⟨rfl,rfl⟩ ay
   ·cases h
  ·cases h
 ·split at h
  ·rename_i bk ai aG
   split at h
   ·rename_i b ae
    cases h;simp only[and_eq_true]at U;exact Rs a rfl ⟨rfl,rfl⟩ bk b ai U.1 aG U.2.1 ae U.2.2.1 U.2.2.2
   ·cases h
  ·rename_i bk ai aG
   split at h
   ·rename_i b ae
    split at h
    ·rename_i e _
     subst e;cases h;simp only[and_eq_true]at U;exact acX a rfl ⟨rfl,rfl⟩ bk b ai U.1 aG U.2.1 ae U.2.2.1 U.2.2.2
    ·cases h
   ·cases h
  ·cases h
 ·split at h
  ·rename_i ay bk ai aG
   split at h
   ·rename_i he
    cases h;rw[and_eq_true,and_eq_true]at U;exact adE _ _ a rfl ⟨rfl,rfl⟩ ay bk rfl he rfl ai U.1 aG U.2.1 U.2.2
   ·cases h
  ·cases h
 ·exact adP a h U
theorem KX{m:pV}{c:Bool}{V:b6}(h:wx X n st m o=some (c,st',V)):db V st st':=by
 unfold wx at h
 split at h
 ·split at h
  ·split at h
   ·cases h
    exact⟨cz.cons (lA _ _ _),cz.cons (cz.trans (V2:=[_]) (kI _ _ _) (k3 (k4 _ _)))⟩
   ·cases h
    exact pT
   ·cases h
  ·cases h
 ·split at h
  ·split at h
   ·cases h;exact⟨cz.refl _,k3 (k4 _ _)⟩
   ·cases h
  ·split at h
   ·split at h
    ·cases h;exact⟨cz.refl _,k3 (k4 _ _)⟩
    ·cases h
   ·cases h
  ·cases h
 ·split at h
  ·split at h
   ·cases h
    exact⟨cz.cons (lA _ _ _),cz.cons (kI _ _ _)⟩
   ·cases h
  ·cases h
 ·exact adQ h
end
end
section
def qG:eG->Bool->Bool
 |[],x=>x
 |c::r,x=>qG r (c&&x)
theorem ni:∀ {A:eG} {x:Bool},qG A x=true->(∀c∈A,c=true)/\x=true
 |[],_,h=>⟨(λ_ h=>by cases h),h⟩
 |c::r,x,h=>by
  obtain⟨I,J⟩:=ni (A:=r) h;simp only[and_eq_true]at J;refine⟨λd ay=>?_,J.2⟩
  rcases List.mem_cons.1 ay with rfl|ay
  ·exact J.1
  ·exact I d ay
inductive In where
 |n (k:Nat)
 |w (x:mz)
 |c (aH:dZ)
 |y
 |t (m:pV)
 |f (j:Nat) (aq:cZ)
abbrev lD(aY:Type):=Option (Nat->dO->Option aY->Option aY->Option aY)
def Bl:Option cd->Option Nat
 |some (.a (.c (.val (.func (.yield l) ⟨[]⟩ ⟨[]⟩))))=>some l
 |_=>none
def sU(L:cU):Operand->Option (FuncId×dO×dO)
 |.func f=>some (f,[],[])
 |.tmp s=>match bm L s with
  |some (.a (.c (.fn f ids)))=>some (f,[],oX ids)
  |some (.a (.c (.jD f id)))=>some (f,[.c (.ptr id 0)],[])
  |_=>none
 |_=>none
def takeN{α:Type}:Nat->List α->List α
 |0,_=>[]
 |_,[]=>[]
 |k+1,x::l=>x::takeN k l
def E7{α:Type}:Nat->List α->List α
 |0,l=>l
 |_,[]=>[]
 |k+1,_::l=>E7 k l
section
variable {X:bu} {aY:Type}
def Bm(X:bu)(n:Nat)(f:FuncId)(aH:dZ)(d:Nat)(st:aO)(args:dO)(k:aO->Option aY):List (bw X)->Option aY
 |[]=>none
 |e::T=>match beq e.f f with
  |true=>match rH X n e aH st.H args with
   |some p=>(e.m p.d).bind λr=>match after X e aH st d p r with
    |some st'=>k st'
    |none=>none
   |none=>Bm X n f aH d st args k T
  |false=>Bm X n f aH d st args k T
abbrev pW(aY:Type):=gy->b6->eG->aO->Option aY
def wy(X:bu)(n:Nat)(T:List (bw X))(aH:dZ)(V:b6)(A:eG)(st:aO)(k:pW aY):Oper->Option aY
 |⟨some d,.call ⟨.value u,⟨xs⟩,_⟩,_,_,_,none⟩=>match blt d n,sU st.L u,oW X st.L xs with
  |true,some (f,pre,post),some (c,args)=>ao (qG (c::A) true) (Bm X n f aH d st (pre++(args++post)) (λst'=>k [] (d::(lP aH++V)) [] st') T)
  |_,_,_=>none
 |_=>none
def Bn(X:bu)(n:Nat)(f:FuncId)(d:Nat)(g:Bool)(st:aO)(args:dO)(k:bq->Option aY):List (bw X)->Option aY
 |[]=>none
 |e::T=>match beq e.f f with
  |true=>match rH X n e [] st.H args with
   |some p=>(cond g (e.m p.d) (some e.kn)).bind λr=>match after X e [] st d p r,(e.out p.d r).2 with
    |some ⟨(_,.a bN)::_,_⟩,[]=>k bN
    |_,_=>none
   |none=>Bn X n f d g st args k T
  |false=>Bn X n f d g st args k T
def yP(X:bu)(n:Nat)(T:List (bw X))(c1:List (Option Nat))(G:gy)(V:b6)(A:eG)(st:aO)(k:pW aY):Oper->Option aY
 |⟨some d,.call ⟨.value u,⟨xs⟩,_⟩,_,_,_,some (j,want)⟩=>match nth c1 j with
  |some (some s)=>match kJ st.L s want with
   |some g=>match blt d n,beq s d,sU (mA (wo c1 G 8 j want) G st.L) u,oW X (mA (wo c1 G 8 j want) G st.L) xs with
    |true,false,some (f,pre,post),some (c,args)=>ao (qG (ez g c::A) true) (Bn X n f d g st (pre++(args++post)) (λbN=>k ((d,j,want)::ou c1 d G) (d::V) [] ⟨(d,.may g bN)::st.L,st.H⟩) T)
    |_,_,_,_=>none
   |none=>none
  |_=>none
 |_=>none
def Bo(X:bu)(n:Nat)(T:List (bw X))(c1:List (Option Nat))(G:gy)(V:b6)(A:eG)(st:aO)(o:Oper)(k:pW aY):Option aY:=match o.guard with
 |none=>match uv X c1 [] G st o.op with
  |some (c,bN)=>match o.dst with
   |some d=>match blt d n with
    |true=>k (ou c1 d G) (d::V) (c::A) ⟨(d,.a bN)::st.L,st.H⟩
    |false=>none
   |none=>none
  |none=>match wv X n st o with
   |some (c,st',W)=>k [] (W++V) (c::A) st'
   |none=>match oU X n c1 st o with
    |.ok c st'=>k [] (wq X st.L o++V) (c::A) st'
    |.stop=>wy X n T [] V A st k o
 |some (j,want)=>match nth c1 j with
  |some (some s)=>match kJ st.L s want with
   |some g=>match uv X c1 (wo c1 G 8 j want) G st o.op with
    |some (c,bN)=>match o.dst with
     |some d=>match blt d n,beq s d with
      |true,false=>k ((d,j,want)::ou c1 d G) (d::V) (ez g c::A) ⟨(d,.may g bN)::st.L,st.H⟩
      |_,_=>none
     |none=>none
    |none=>yP X n T c1 G V A st k o
   |none=>none
  |_=>none
def Bp(X:bu)(n:Nat)(T:List (bw X))(c1:List (Option Nat)):List Oper->gy->b6->eG->aO->pW aY->Option aY
 |[],G,V,A,st,k=>k G V A st
 |o::l,G,V,A,st,k=>Bo X n T c1 G V A st o λb c a st'=>Bp X n T c1 l b c a st' k
def KY(X:bu)(n:Nat)(cv:lD aY)(st:aO)(A:eG)(o:Oper)(k:Nat->aO->Option aY):Option aY:=match cv,o with
 |some em,⟨some d,.call ⟨.value (.tmp s),⟨xs⟩,_⟩,_,_,_,none⟩=>match blt d n,Bl (bm st.L s),oW X st.L xs with
  |true,some l,some (c,args)=>ao (qG (c::A) true) (em l args (k d ⟨(d,.c (.val (.bool false)))::st.L,st.H⟩) (k d ⟨(d,.c (.val (.bool true)))::st.L,st.H⟩))
  |_,_,_=>none
 |_,_=>none
def E8{aY:Type}(z:Int):cZ->(Int->Option aY)->Option aY
 |[],_=>none
 |q::a,f=>cond (decide (z=q)) (f q) (E8 z a f)
def kK(X:bu)(n:Nat)(T:List (bw X))(cv:lD aY)(c1:List (Option Nat)):List In->List Oper->gy->b6->eG->aO->(b6->aO->Option aY)->Option aY
 |[],ops,G,V,A,st,k=>Bp X n T c1 ops G V A st λ_ b a st'=>ao (qG a true) (k b st')
 |.n m::is,ops,G,V,A,st,k=>Bp X n T c1 (takeN m ops) G V A st λe b a st'=>kK X n T cv c1 is (E7 m ops) e b a st' k
 |.w x::is,ops,_,V,A,st,k=>match yH n x st with
  |some (c,st')=>kK X n T cv c1 is ops [] (x.yF++V) (c::A) st' k
  |none=>none
 |.c aH::is,o::ops,_,V,A,st,k=>wy X n T aH V A st (λe b a st'=>kK X n T cv c1 is ops e b a st' k) o
 |.c _::_,[],_,_,_,_,_=>none
 |.y::is,o::ops,_,V,A,st,k=>KY X n cv st A o λd st'=>kK X n T cv c1 is ops [] (d::V) [] st' k
 |.t m::is,o::ops,_,V,A,st,k=>match wx X n st m o with
  |some (c,st',W)=>kK X n T cv c1 is ops [] (W++V) (c::A) st' k
  |none=>none
 |.f j aq::is,ops,_,V,A,st,k=>match bm st.L j with
  |some (.a (.c (.val (.int pN z))))=>ao (qG A true) (E8 z aq λq=>kK X n T cv c1 is ops [] (j::V) [] ⟨(j,.a (.c (.val (.int pN q))))::st.L,st.H⟩ k)
  |_=>none
 |.y::_,[],_,_,_,_,_=>none
 |.t _::_,[],_,_,_,_,_=>none
variable {M:Bool} {n:Nat} {rr:Option Nat} {T:List (bw X)} {fy st st':aO} {Q:Exit->aO->Prop} {ops l rest:List Oper} {o:Oper} {r:aY} {V:b6} {A:eG}
def E9(k:pW aY)(r:aY):Prop:=∀G V A st,k G V A st=some r->∀c∈A,c=true
theorem KZ{f:FuncId}{xs:eE}{pre post args:dO}{aH:dZ}{d:Nat}{c:Bool}{k:aO->Option aY}(g:Callee X st o f xs pre post)(a:o.guard=none/\o.dst=some d)(ay:blt d n=true)(b:oW X st.L xs=some (c,args))(U:c=true):∀ {T:List (bw X)},Bm X n f aH d st (pre++(args++post)) k T=some r->∃st',uk X n o (wa st.H aH) st st'/\db (d::lP aH) st st'/\k st'=some r
 |[],h=>by cases h
 |e::T,h=>by
  unfold Bm at h
  split at h
  ·rename_i az
   have j:=eq_of_beq_eq_true az;subst j
   split at h
   ·rename_i p al
    obtain⟨q,i,h⟩:=ek h
    split at h
    ·rename_i l bh
     exact⟨l,Q7 e aH g a ay (.of b U) al i bh,adt al bh,h⟩
    ·cases h
   ·exact KZ g a ay b U h
  ·exact KZ g a ay b U h
theorem RY{u:Operand}{xs:eE}{b:Array TypeId}{f:FuncId}{pre post:dO}(a:o.op=.call { callee:=.value u,args:=xs.toArray,argTypes:=b })(h:sU st.L u=some (f,pre,post)):Callee X st o f xs pre post:=by
 refine⟨b,?_⟩;unfold sU at h
 split at h
 ·cases h;exact .inl ⟨a,rfl,rfl⟩
 ·split at h
  ·rename_i e;cases h;exact .inr (.inl ⟨_,_,a,e,rfl,rfl⟩)
  ·rename_i e;cases h;exact .inr (.inr ⟨_,_,a,e,rfl,rfl⟩)
  ·cases h
 ·cases h
theorem ux{aH:dZ}{k:pW aY}(g:db V fy st)(h:wy X n T aH V A st k o=some r):(∀c∈A,c=true)/\∃st' e,uk X n o (wa st.H aH) st st'/\db e fy st'/\k [] e [] st'=some r:=by
 unfold wy at h
 split at h
 ·rename_i d u xs i t p a
  split at h
  ·rename_i f pre post c args ay j l
   obtain⟨U,h⟩:=hf h;have b:=(ni U).1;obtain⟨st',I,J,ag⟩:=KZ (o:=⟨some d,.call ⟨.value u,⟨xs⟩,i⟩,t,p,a,none⟩) (RY rfl j) ⟨rfl,rfl⟩ ay l (b c mem_cons_self) h;exact⟨λc U=>b c (mem_cons_of_mem _ U),st',_,I,by have:=g.trans J;exact this,ag⟩
  ·cases h
 ·cases h
theorem K0{f:FuncId}{d:Nat}{g:Bool}{args:dO}{k:bq->Option aY}{r:aY}:∀ {T:List (bw X)},Bn X n f d g st args k T=some r->∃(e:bw X) (p:yy X e) (q:e.aY) (bN:bq),e.f=f/\rH X n e [] st.H args=some p/\(g=true->e.m p.d=some q)/\after X e [] st d p q=some ⟨(d,.a bN)::st.L,st.H⟩/\k bN=some r
 |[],h=>by cases h
 |e::T,h=>by
  unfold Bn at h
  split at h
  ·rename_i az
   split at h
   ·rename_i p al
    obtain⟨q,a,h⟩:=ek h
    split at h
    ·rename_i d2 bN b H2 bh j
     refine⟨e,p,q,bN,eq_of_beq_eq_true az,al,λc=>by rw[c]at a;exact a,?_,h⟩;have I:H2=st.H/\b=st.L/\d2=d:=by
      unfold rH at al
      split at al
      ·rename_i l I H1 u v t
       split at al
       ·split at al
        ·cases al
         unfold after at bh;rw[j]at bh
         split at bh
         ·rename_i o s m i
          cases i;cases bh;exact⟨rfl,rfl,rfl⟩
         ·cases bh
        ·cases al
       ·cases al
      ·cases al
     obtain⟨rfl,rfl,rfl⟩:=I;exact bh
    ·cases h
   ·exact K0 h
  ·exact K0 h
theorem RZ{G:gy}{k:pW aY}(h:yP X n T (eU ops) G V A st k o=some r):∀c∈A,c=true:=by
 unfold yP at h
 split at h
 ·split at h
  ·split at h
   ·split at h
    ·obtain⟨U,h⟩:=hf h
     exact λc a=>(ni U).1 c (mem_cons_of_mem _ a)
    ·cases h
   ·cases h
  ·cases h
 ·cases h
theorem adR{c1:List (Option Nat)}{G:gy}{aH:List (Nat×Bool)}{u:Operand}{c:FuncId×dO×dO}(m:eR c1 G st.L)(al:∀p∈aH,o3 c1 st.L p)(h:sU (mA aH G st.L) u=some c) :
  ∃g:aO,g.H=st.H/\sU g.L u=some c/\(∀ {R W aE aq env B ak H a w},bK X R W aE n aq env B ak H st a w->bK X R W aE n aq env B ak H g a w)/\(∀ {R W aE aq env B ak H a w},bK X R W aE n aq env B ak H g a w->bK X R W aE n aq env B ak H st a w) /\
   ∀ {d:Nat} {bN:bq} {R W aE aq env B ak H a w},bK X R W aE n aq env B ak H ⟨(d,.a bN)::g.L,g.H⟩ a w->bK X R W aE n aq env B ak H ⟨(d,.a bN)::st.L,st.H⟩ a w:=by
 cases u with
 |tmp s=>
  unfold sU at h;dsimp only at h;cases ae:bm (mA aH G st.L) s with
  |none=>rw[ae]at h;cases h
  |some sv=>
   rcases adm m al s sv ae with I|⟨x,rfl,I⟩
   ·exact⟨st,rfl,by unfold sU;dsimp only;rw[I];rw[ae]at h;exact h,λh=>h,λh=>h,λh=>h⟩
   ·have key:∀ {L:cU} {R W aE aq env B ak H a w},(∀q,q≠s->bm L q=bm ((s,cd.a x)::L) q)->bK X R W aE n aq env B ak H ⟨(s,.a x)::L,st.H⟩ a w->bm L s=some (.may true x)->bK X R W aE n aq env B ak H ⟨L,st.H⟩ a w:=λ{L} _ _ _ _ _ _ _ _ _ _ _ ah l=>⟨ah.size,ah.defs,λq sv b=>by
     by_cases e:q=s
     ·subst e
      rw[l]at b;cases b;obtain⟨v,j,i⟩:=ah.has q (.a x) (by rw[cI,if_pos rfl]);exact⟨v,j,λ_=>i,λh=>by cases h⟩
     ·exact ah.has q sv (by rw[cI,if_neg e];exact b),ah.heap,ah.aU,ah.sub,ah.new,ah.dr,ah.base,ah.eg⟩
    refine⟨⟨(s,.a x)::st.L,st.H⟩,rfl,?_,λah=>⟨ah.size,ah.defs,λq sv b=>?_,ah.heap,ah.aU,ah.sub,ah.new,ah.dr,ah.base,ah.eg⟩,λah=>key (λq b=>by rw[cI,if_neg b]) ah I,λ{d bN} _ _ _ _ _ _ _ _ _ _ ah=>⟨ah.size,ah.defs,λq sv b=>?_,ah.heap,ah.aU,ah.sub,ah.new,ah.dr,ah.base,ah.eg⟩⟩
    ·unfold sU
     dsimp only;rw[cI,if_pos rfl];rw[ae]at h;exact h
    ·rw[cI]at b
     split at b
     ·rename_i e
      subst e;cases b;obtain⟨v,j,i⟩:=ah.has _ _ I;exact⟨v,j,i.1 rfl⟩
     ·exact ah.has q sv b
    ·rw[cI]at b
     split at b
     ·rename_i e
      subst e;cases b;exact ah.has _ _ (by rw[cI,if_pos rfl])
     ·rename_i e
      by_cases k:q=s
      ·subst k
       rw[I]at b;cases b;obtain⟨v,j,i⟩:=ah.has q (.a x) (by rw[cI,if_neg e,cI,if_pos rfl]);exact⟨v,j,λ_=>i,λh=>by cases h⟩
      ·exact ah.has q sv (by rw[cI,if_neg e,cI,if_neg k];exact b)
 |func f=>exact⟨st,rfl,h,λh=>h,λh=>h,λh=>h⟩
 |_=>cases h
theorem adS{e:bw X}{a:aO}{d:Nat}{p:yy X e}{q:e.aY}{bN:bq}(g:a.H=st.H)(bh:after X e [] st d p q=some ⟨(d,.a bN)::st.L,st.H⟩):after X e [] a d p q=some ⟨(d,.a bN)::a.L,a.H⟩:=by
 unfold after at bh ⊢
 split at bh
 ·rename_i h i j k
  dsimp only at bh ⊢;have ag:=Option.some.inj bh;have f:=congrArg aO.L ag;have c:i++st.H=st.H:=congrArg aO.H ag;rw[g,c];have b:h=cd.a bN:=by
   have:=(List.cons.inj f).1
   exact(Prod.mk.inj this).2
  rw[b]
 ·cases bh
theorem R0{G:gy}{k:pW aY}(l:eR (eU ops) G st.L)(E:db V fy st)(h:yP X n T (eU ops) G V A st k o=some r):∃(d:Nat) (g:Bool) (bN:bq) (M:gy),eR (eU ops) M ((d,.may g bN)::st.L)/\db (d::V) fy ⟨(d,.may g bN)::st.L,st.H⟩/\k M (d::V) [] ⟨(d,.may g bN)::st.L,st.H⟩=some r /\
  ∀(R:Nat->Prop) (W:World) (aE:fj) (aq:b6) (env:Nat->Loc) (B:Nat->Prop) (ak:World) (H:c2) (a:Act) (w:World),bK X R W aE n aq env B ak H st a w->∀(KK:Act->World->Prop),
   (∀aX w' env' B' z H',bK X R W aE n aq env' B' z H' ⟨(d,.may g bN)::st.L,st.H⟩ aX w'->(∀k,B k->B' k)->c9 (λk=>R k\/B k) ak z->KK aX w')->fh X.P ops.toArray o KK a w:=by
 unfold yP at h
 split at h
 ·rename_i d u xs L ty O F j want
  split at h
  ·rename_i s m
   split at h
   ·rename_i g t
    split at h
    ·rename_i f pre post c args ay Q aj an
     obtain⟨U,h⟩:=hf h;have ad:=(ni U).1;obtain⟨e,av,q,bN,az,al,y,bh,aa⟩:=K0 h;subst az;have ac:=ne_of_beq_eq_false Q;have ar:eR (eU ops) ((d,j,want)::ou (eU ops) d G) ((d,.may g bN)::st.L):=λe he=>by
      rcases List.mem_cons.1 he with rfl|he
      ·exact⟨s,g,bN,m,by rw[EY ac];exact t,by rw[cI,if_pos rfl]⟩
      ·exact l.drop d _ e he
     refine⟨d,g,bN,_,ar,⟨cz.cons E.1,E.2.more λq y=>(gN y).2⟩,aa,?_⟩;intro R W aE aq env B ak H a w ah KK K;have N:=KM (o:=⟨some d,.call ⟨.value u,⟨xs⟩,L⟩,ty,O,F,some (j,want)⟩) ah rfl m t;have put:∀v,df n (kW aq aE) ((d,v)::full a) (a.put (some d) v):=λv=>ah.cf.put d v (ef ay)
     cases g with
     |false=>exact .inr ⟨N,K _ _ _ _ _ _ (ah.set ⟨(λh=>by cases h),λ_=>rfl⟩ (put undef)) (λ_ h=>h) (c9.refl _ _)⟩
     |true=>
      have D:∀p∈wo (eU ops) G 8 j want,o3 (eU ops) st.L p:=EZ l ⟨s,m,t⟩;obtain⟨ag,P,S,ao,Y,Z⟩:=adR (n:=n) l D aj;have ab:EI X n ag xs args:=λ_ _ _ _ _ _ _ _ _ _ ah=>vJ ((Y ah).view l D) an (A7 (ad _ mem_cons_self) rfl)
      have I:=Q7 (o:=⟨some d,.call ⟨.value u,⟨xs⟩,L⟩,ty,O,F,none⟩) e [] (RY rfl S) ⟨rfl,rfl⟩ ay ab (by rw[P];exact al) (y rfl) (adS P bh) R W aE aq env B ak H a w (ao ah) KK ops λaX w' env' B' z H' af ae am _=>by
       have b:=Z af;have au:=b.has d (.a bN) (by rw[cI,if_pos rfl]);obtain⟨v,ap,ai⟩:=au;refine K _ _ _ _ _ _ ⟨b.size,b.defs,λq sv i=>?_,b.heap,b.aU,b.sub,b.new,b.dr,b.base,b.eg⟩ ae am
       by_cases C:q=d
       ·subst C
        rw[cI,if_pos rfl]at i;cases i;exact⟨v,ap,λ_=>ai,λh=>by cases h⟩
       ·exact b.has q sv (by rw[cI,if_neg C]at i ⊢;exact i)
      rcases I with⟨_,J⟩|⟨J,_⟩
      ·exact .inl ⟨N,J⟩
      ·simp[Region.wanted]at J
    ·cases h
   ·cases h
  ·cases h
 ·cases h
theorem adX{G:gy}{k:pW aY}(aa:E9 k r)(h:Bo X n T (eU ops) G V A st o k=some r):∀c∈A,c=true:=by
 unfold Bo at h
 split at h
 ·split at h
  ·split at h
   ·split at h
    ·exact λc U=>aa _ _ _ _ h c (mem_cons_of_mem _ U)
    ·cases h
   ·cases h
  ·split at h
   ·exact λc U=>aa _ _ _ _ h c (mem_cons_of_mem _ U)
   ·split at h
    ·exact λc U=>aa _ _ _ _ h c (mem_cons_of_mem _ U)
    ·exact(ux (db.refl st) h).1
 ·split at h
  ·split at h
   ·split at h
    ·split at h
     ·split at h
      ·exact λc U=>aa _ _ _ _ h c (mem_cons_of_mem _ U)
      ·cases h
     ·cases h
    ·exact RZ h
   ·cases h
  ·cases h
theorem Fb{k:pW aY}(aa:E9 k r):∀ {l:List Oper} {G:gy} {V:b6} {A:eG} {st:aO},Bp X n T (eU ops) l G V A st k=some r->∀c∈A,c=true
 |[],G,V,A,st,h=>aa _ _ _ _ h
 |o::l,G,V,A,st,h=>adX (λ_ _ _ _ a=>Fb aa a) h
def K1(X:bu)(n:Nat)(ops:List Oper)(o:Oper)(st st':aO):Prop:=∀(R:Nat->Prop) (W:World) (aE:fj) (aq:b6) (env:Nat->Loc) (B:Nat->Prop) (ak:World) (H:c2) (a:Act) (w:World),bK X R W aE n aq env B ak H st a w->∀(KK:Act->World->Prop),
 (∀aX w' env' B' b H',bK X R W aE n aq env' B' b H' st' aX w'->KK aX w')->fh X.P ops.toArray o KK a w
theorem uk.Fc{b:bp->Bool}(h:uk X n o b st st'):K1 X n ops o st st':=λR W aE aq env B ak H a w ah KK c=>h R W aE aq env B ak H a w ah KK ops λaX w' env' B' e H' d _ _ _=>c aX w' env' B' e H' d
structure Br(X:bu)(n:Nat)(ops:List Oper)(Z:List Oper->aY->aO->Prop):Prop where
 step:∀ {o rest r st st'},K1 X n ops o st st'->Z rest r st'->Z (o::rest) r st
 e2:∀ {l r st st'},ds X n st st'->Z l r st'->Z l r st
def Ff(X:bu)(n:Nat)(ops:List Oper)(o:Oper)(st:aO):Prop:=∀ {R:Nat->Prop} {W:World} {aE:fj} {aq:b6} {env:Nat->Loc} {B:Nat->Prop} {ak:World} {H:c2} {a:Act} {w:World},bK X R W aE n aq env B ak H st a w->Region.wanted o (yielded ops.toArray a.tmps)=true
theorem Ff.none{ops:List Oper}{o:Oper}{st:aO}(h:o.guard=none):Ff X n ops o st:=λ_=>by simp[Region.wanted,h]
def R2(X:bu)(n:Nat)(ops:List Oper)(cv:lD aY)(Z:List Oper->aY->aO->Prop):Prop:=∀em,cv=some em->∀ {l:Nat} {args:dO} {f t:Option aY} {r:aY},em l args f t=some r->∃o5 a,f=some o5/\t=some a/\∀ {o:Oper} {rest:List Oper} {st:aO} {d s:Nat} {xs:eE} {b:Array TypeId} {c:Bool},o.op=.call { callee:=.value (.tmp s),args:=xs.toArray,argTypes:=b }->Ff X n ops o st/\o.dst=some d->blt d n=true->Bl (bm st.L s)=some l->oW X st.L xs=some (c,args)->c=true ->
 Z rest o5 ⟨(d,.c (.val (.bool false)))::st.L,st.H⟩->Z rest a ⟨(d,.c (.val (.bool true)))::st.L,st.H⟩->Z (o::rest) r st
variable {Z:List Oper->aY->aO->Prop}
theorem adY(p:X.a6.ok X.P)(i:Br X n ops Z){G:gy}(l:eR (eU ops) G st.L)(f:db V fy st){k:pW aY}(u:E9 k r)(h:Bo X n T (eU ops) G V A st o k=some r)(aa:∀F K S st',eR (eU ops) F st'.L->db K fy st'->k F K S st'=some r->Z rest r st'):Z (o::rest) r st:=by
 have one:∀ {d:Nat} {sv:cd},db (d::V) fy ⟨(d,sv)::st.L,st.H⟩:=λ{d sv}=>⟨cz.cons f.1,f.2.more λq O=>(gN O).2⟩
 unfold Bo at h
 split at h
 ·rename_i t
  split at h
  ·rename_i c bN y
   split at h
   ·rename_i d E
    split at h
    ·rename_i ay
     have U:=u _ _ _ _ h c mem_cons_self;refine i.step (st':=⟨(d,.a bN)::st.L,st.H⟩) ?_ (aa _ _ _ _ (l.drop d _) one h);intro R W aE aq env B ak H a w ah KK b;obtain⟨v,I,J⟩:=RG p ah l (λ_ h=>by cases h) y U;exact iD ah.cf t E (ef ay) J λaX N=>b aX w env B ak H (ah.set I N)
    ·cases h
   ·cases h
  ·split at h
   ·rename_i c m W e
    have U:=u _ _ _ _ h c mem_cons_self;exact i.step (KQ p e U).c.Fc (aa _ _ _ m eR.nil (f.trans (KR e)) h)
   ·split at h
    ·rename_i c m e
     have U:=u _ _ _ _ h c mem_cons_self;refine i.step ?_ (aa _ _ _ m eR.nil (f.trans (yL t e)) h);intro R W aE aq env B ak H a w ah KK b;exact vD p e U ah λaX w' env' H' _ D=>b aX w' env' B ak H' D
    ·obtain⟨_,m,V2,I,J,ag⟩:=ux f h
     exact i.step I.Fc (aa _ _ _ m eR.nil J ag)
 ·rename_i j want t
  split at h
  ·rename_i s z
   split at h
   ·rename_i g C
    split at h
    ·rename_i c bN y
     split at h
     ·rename_i d E
      split at h
      ·rename_i ay M
       have U:=u _ _ _ _ h _ mem_cons_self;have P:=ne_of_beq_eq_false M;have ae:eR (eU ops) ((d,j,want)::ou (eU ops) d G) ((d,.may g bN)::st.L):=λe he=>by
        rcases List.mem_cons.1 he with rfl|he
        ·exact⟨s,g,bN,z,by rw[EY P];exact C,by rw[cI,if_pos rfl]⟩
        ·exact l.drop d _ e he
       refine i.step (st':=⟨(d,.may g bN)::st.L,st.H⟩) ?_ (aa _ _ _ _ ae one h);intro R W aE aq env B ak H a w ah KK b;have put:∀v,df n (kW aq aE) ((d,v)::full a) (a.put o.dst v):=λv=>by rw[E];exact ah.cf.put d v (ef ay)
       have L:=KM ah t z C;cases g with
       |true=>
        obtain⟨v,I,J⟩:=RG p ah l (EZ l ⟨s,z,C⟩) y (A7 U rfl);exact .inl ⟨L,.inl ⟨v,w,J,b _ _ _ _ _ _ (ah.set ⟨λ_=>I,λh=>by cases h⟩ (put v))⟩⟩
       |false=>exact .inr ⟨L,b _ _ _ _ _ _ (ah.set ⟨(λh=>by cases h),λ_=>rfl⟩ (put undef))⟩
      ·cases h
     ·cases h
    ·obtain⟨d,g2,bN,F,ad,Q,ab,ac⟩:=R0 l f h
     exact i.step (λR W aE aq env B ak H a w ah KK b=>ac R W aE aq env B ak H a w ah KK λaX w' env' B' Y H' D _ _=>b aX w' env' B' Y H' D) (aa _ _ _ _ ad Q ab)
   ·cases h
  ·cases h
theorem K2(f:X.a6.ok X.P)(g:Br X n ops Z){k:pW aY}{r:aY}(j:E9 k r):∀ {l rest:List Oper} {G:gy} {V:b6} {A:eG} {st:aO},eR (eU ops) G st.L->db V fy st->Bp X n T (eU ops) l G V A st k=some r->(∀d e i st',eR (eU ops) d st'.L->db e fy st'->k d e i st'=some r->Z rest r st')->Z (l++rest) r st
 |[],rest,G,V,A,st,c,b,h,aa=>aa G V A st c b h
 |o::l,rest,G,V,A,st,c,b,h,aa=>adY f g c b (λ_ _ _ _ a=>Fb j a) h λd e i st' p m a=>K2 f g j p m a aa
theorem take_drop:∀(m:Nat) (l:List Oper),takeN m l++E7 m l=l
 |0,_=>rfl
 |_+1,[]=>rfl
 |m+1,x::l=>by
  show x::(takeN m l++E7 m l)=_;rw[take_drop m l]
theorem R3{cv:lD aY}{k:Nat->aO->Option aY}(h:KY X n cv st A o k=some r):(∀c∈A,c=true)/\∃em l d s xs b c args,cv=some em/\o.op=.call { callee:=.value (.tmp s),args:=xs.toArray,argTypes:=b }/\(o.guard=none/\o.dst=some d)/\blt d n=true/\Bl (bm st.L s)=some l/\oW X st.L xs=some (c,args)/\c=true/\em l args (k d ⟨(d,.c (.val (.bool false)))::st.L,st.H⟩) (k d ⟨(d,.c (.val (.bool true)))::st.L,st.H⟩)=some r:=by
 unfold KY at h
 split at h
 ·split at h
  ·rename_i ay aG bh
   obtain⟨U,h⟩:=hf h;have a:=(ni U).1;exact⟨λc U=>a c (mem_cons_of_mem _ U),_,_,_,_,_,_,_,_,rfl,rfl,⟨rfl,rfl⟩,ay,aG,bh,a _ mem_cons_self,h⟩
  ·cases h
 ·cases h
variable {cv:lD aY}
theorem R4{z:Int}{f:Int->Option aY}{r:aY}:∀ {aq:cZ},E8 z aq f=some r->f z=some r
 |[],h=>by cases h
 |q::a,h=>by
  unfold E8 at h
  by_cases e:z=q
  ·subst e
   rw[decide_eq_true rfl]at h;exact h
  ·rw[decide_eq_false e]at h
   exact R4 h
theorem ds.again{j:Nat}{sv:cd}(h:bm st.L j=some sv):ds X n st ⟨(j,sv)::st.L,st.H⟩:=λ_ _ _ _ _ _ ⟨aq,env,B,ak,H,b,ah⟩=>by
 refine⟨aq,env,B,ak,H,b,⟨ah.size,ah.defs,λs u a=>?_,ah.heap,ah.aU,ah.sub,ah.new,ah.dr,ah.base,ah.eg⟩⟩;rw[cI]at a
 split at a
 ·rename_i e
  subst e;cases a;exact ah.has _ _ h
 ·exact ah.has s u a
theorem yQ{k:b6->aO->Option aY}{r:aY}:∀ {is:List In} {l:List Oper} {G:gy} {V:b6} {A:eG} {st:aO},kK X n T cv (eU ops) is l G V A st k=some r->∀c∈A,c=true
 |[],l,G,V,A,st,h=>Fb (λ_ _ _ _ a=>(ni (hf a).1).1) h
 |.n m::is,l,G,V,A,st,h=>Fb (λ_ _ _ _ a=>yQ a) h
 |.w x::is,l,G,V,A,st,h=>by
  unfold kK at h
  split at h
  ·exact λc U=>yQ h c (mem_cons_of_mem _ U)
  ·cases h
 |.c aH::is,o::l,G,V,A,st,h=>by
  unfold kK at h;exact(ux (db.refl st) h).1
 |.c _::_,[],G,V,A,st,h=>by cases h
 |.y::is,o::l,G,V,A,st,h=>by
  unfold kK at h;exact(R3 h).1
 |.y::_,[],G,V,A,st,h=>by cases h
 |.f j aq::is,l,G,V,A,st,h=>by
  unfold kK at h
  split at h
  ·exact(ni (hf h).1).1
  ·cases h
 |.t _::_,[],G,V,A,st,h=>by cases h
 |.t m::is,o::l,G,V,A,st,h=>by
  unfold kK at h
  split at h
  ·exact λc U=>yQ h c (mem_cons_of_mem _ U)
  ·cases h
theorem sW(g:X.a6.ok X.P)(b:Br X n ops Z)(bP:R2 X n ops cv Z){k:b6->aO->Option aY}:∀ {is:List In} {l:List Oper} {G:gy} {V:b6} {A:eG} {st:aO} {r:aY},eR (eU ops) G st.L->db V fy st->kK X n T cv (eU ops) is l G V A st k=some r->(∀p st' w,db p fy st'->k p st'=some w->Z [] w st')->Z l r st
 |[],l,G,V,A,st,r,f,a,h,aa=>by
  have:=K2 g b (λ_ _ _ _ i=>(ni (hf i).1).1) f a h λE p D st' _ u i=>aa p st' _ u (hf i).2
  rwa [append_nil]at this
 |.n m::is,l,G,V,A,st,r,f,a,h,aa=>by
  rw[<- take_drop m l];exact K2 g b (λ_ _ _ _ i=>yQ i) f a h λE p D st' F u i=>sW g b bP F u i aa
 |.w x::is,l,G,V,A,st,r,f,a,h,aa=>by
  unfold kK at h
  split at h
  ·rename_i c y e
   have U:=yQ h c mem_cons_self;exact b.e2 (Rx e U) (sW g b bP eR.nil (a.trans (RC e)) h aa)
  ·cases h
 |.c aH::is,o::l,G,V,A,st,r,f,a,h,aa=>by
  unfold kK at h;obtain⟨_,K,V2,I,J,ag⟩:=ux a h;exact b.step I.Fc (sW g b bP eR.nil J ag aa)
 |.c _::_,[],G,V,A,st,r,f,a,h,aa=>by cases h
 |.y::is,o::l,G,V,A,st,r,f,a,h,aa=>by
  unfold kK at h;obtain⟨_,em,l',d,s,xs,H,c,args,C,B,v,ay,aG,bh,U,h⟩:=R3 h;obtain⟨o5,L,az,bk,bO⟩:=bP em C h;have one:∀ {sv:cd},db (d::V) fy ⟨(d,sv)::st.L,st.H⟩:=λ{sv}=>⟨cz.cons a.1,a.2.more λq t=>(gN t).2⟩
  exact bO B ⟨Ff.none v.1,v.2⟩ ay aG bh U (sW g b bP eR.nil one az aa) (sW g b bP eR.nil one bk aa)
 |.y::_,[],G,V,A,st,r,f,a,h,aa=>by cases h
 |.f j aq::is,l,G,V,A,st,r,f,a,h,aa=>by
  unfold kK at h
  split at h
  ·rename_i pN z e
   have one:∀ {sv:cd},db (j::V) fy ⟨(j,sv)::st.L,st.H⟩:=λ{sv}=>⟨cz.cons a.1,a.2.more λq t=>(gN t).2⟩
   exact b.e2 (ds.again e) (sW g b bP eR.nil one (R4 (hf h).2) aa)
  ·cases h
 |.t _::_,[],G,V,A,st,r,f,a,h,aa=>by cases h
 |.t m::is,o::l,G,V,A,st,r,f,a,h,aa=>by
  unfold kK at h
  split at h
  ·rename_i c y W e
   exact b.step (KW g e (yQ h c mem_cons_self)).c.Fc (sW g b bP eR.nil (a.trans (KX e)) h aa)
  ·cases h
end
def k5:b6->cU->cU
 |[],_=>[]
 |s::r,L=>match bm L s with
  |some v=>match v.free with
   |true=>(s,v)::k5 r L
   |false=>k5 r L
  |none=>k5 r L
def hD:b6->bC->bC
 |[],_=>[]
 |s::r,H=>match bm H s with
  |some v=>match v.free with
   |true=>(s,v)::hD r H
   |false=>hD r H
  |none=>hD r H
def R5{α:Type}(L:List (Nat×α))(s:Nat):Bool:=match bm L s with
 |some _=>true
 |none=>false
def yR{α:Type}(V aq:b6)(L:List (Nat×α)):List (Nat×α)->Bool
 |[]=>true
 |p::r=>match fC p.1 V,fC p.1 aq,R5 L p.1 with
  |false,false,true=>yR V aq L r
  |_,_,_=>false
def ev{α:Type}:List (Nat×α)->b6
 |[]=>[]
 |p::r=>p.1::ev r
def et.ids(a:et):b6:=ev a.L++ev a.H
def et.S(a:et)(st:aO)(d:a.D):aO:=⟨(oq a.L (nN a.T d)).1++k5 a.sM st.L,(jZ a.H (oq a.L (nN a.T d)).2).1++hD a.nc st.H⟩
def et.get(a:et)(st:aO)(V:b6)(st':aO):Option a.D:=
 match yR V (ev a.L) st'.L (k5 a.sM st.L),yR V (ev a.H) st'.H (hD a.nc st.H),qo (ev a.H++ev (hD a.nc st.H))with
 |true,true,true=>match tS st'.H (ev a.H)with
  |some h=>match vZ (T:=[]) a.H h ()with
   |some u=>match EC a.L st'.L u with
    |some u=>some (qy a.T u)
    |none=>none
   |none=>none
  |none=>none
 |_,_,_=>none
theorem Bt{s:Nat}{v:cd}:∀ {aq:b6} {L:cU},bm (k5 aq L) s=some v->(s,v)∈k5 aq L/\bm L s=some v/\v.free=true
 |[],_,h=>by cases h
 |k::r,L,h=>by
  unfold k5 at h ⊢
  split at h
  ·rename_i u e
   split at h
   ·rename_i az
    rw[cI]at h
    split at h
    ·rename_i a;cases h;exact⟨by rw[a];exact mem_cons_self,by rw[a];exact e,az⟩
    ·obtain⟨I,J⟩:=Bt h;exact⟨mem_cons_of_mem _ I,J⟩
   ·exact Bt h
  ·exact Bt h
theorem wz{p:Nat×cd}:∀ {aq:b6} {L:cU},p∈k5 aq L->bm L p.1=some p.2/\p.2.free=true
 |[],_,h=>by cases h
 |k::r,L,h=>by
  unfold k5 at h
  split at h
  ·rename_i u e
   split at h
   ·rename_i az
    rcases List.mem_cons.1 h with rfl|h
    ·exact⟨e,az⟩
    ·exact wz h
   ·exact wz h
  ·exact wz h
theorem qH{p:Nat×cD}:∀ {aq:b6} {L:bC},p∈hD aq L->bm L p.1=some p.2/\p.2.free=true
 |[],_,h=>by cases h
 |k::r,L,h=>by
  unfold hD at h
  split at h
  ·rename_i u e
   split at h
   ·rename_i az
    rcases List.mem_cons.1 h with rfl|h
    ·exact⟨e,az⟩
    ·exact qH h
   ·exact qH h
  ·exact qH h
theorem ad0{p:Nat×cd}{aq:b6}{L:cU}(h:p∈k5 aq L):bm (k5 aq L) p.1=some p.2:=by
 obtain⟨I,J⟩:=wz h
 induction aq with
 |nil=>cases h
 |cons k r a=>
  unfold k5 at h ⊢
  split at h
  ·rename_i u e
   split at h
   ·rename_i az
    rw[cI]
    split
    ·rename_i b;rw[<- b,I]at e;cases e;rfl
    ·rename_i b
     rcases List.mem_cons.1 h with rfl|h
     ·exact absurd rfl b
     ·exact a h
   ·exact a h
  ·exact a h
theorem ad1{p:Nat×cD}{aq:b6}{L:bC}(h:p∈hD aq L):bm (hD aq L) p.1=some p.2:=by
 obtain⟨I,J⟩:=qH h
 induction aq with
 |nil=>cases h
 |cons k r a=>
  unfold hD at h ⊢
  split at h
  ·rename_i u e
   split at h
   ·rename_i az
    rw[cI]
    split
    ·rename_i b;rw[<- b,I]at e;cases e;rfl
    ·rename_i b
     rcases List.mem_cons.1 h with rfl|h
     ·exact absurd rfl b
     ·exact a h
   ·exact a h
  ·exact a h
theorem Bu{α:Type}{V aq:b6}{L:List (Nat×α)}{p:Nat×α}:∀ {K:List (Nat×α)},yR V aq L K=true->p∈K->fC p.1 V=false/\fC p.1 aq=false/\∃v,bm L p.1=some v
 |[],_,h=>by cases h
 |q::r,h,hm=>by
  unfold yR at h
  split at h
  ·rename_i I J ag
   rcases List.mem_cons.1 hm with rfl|hm
   ·refine⟨I,J,?_⟩
    unfold R5 at ag
    split at ag
    ·rename_i v e;exact⟨v,e⟩
    ·cases ag
   ·exact Bu h hm
  ·cases h
theorem K3{α:Type}{q:Nat}:∀ {L eu:List (Nat×α)},fC q (ev L)=false->bm (L++eu) q=bm eu q
 |[],_,_=>rfl
 |p::r,eu,h=>by
  obtain⟨I,J⟩:=gN h;rw[cons_append,cI,if_neg I];exact K3 J
theorem Fg{α:Type}{q:Nat}{v:α}:∀ {L eu:List (Nat×α)},bm (L++eu) q=some v->bm L q=some v\/fC q (ev L)=false/\bm eu q=some v
 |[],_,h=>.inr ⟨rfl,h⟩
 |p::r,eu,h=>by
  rw[cons_append,cI]at h;rw[cI]
  split at h
  ·rename_i e;rw[if_pos e];exact .inl h
  ·rename_i e
   rw[if_neg e]
   rcases Fg h with h|⟨I,J⟩
   ·exact .inl h
   ·exact .inr ⟨rI.2 ⟨e,I⟩,J⟩
theorem K4:∀(l:List (Nat×lT)) {T:List Type} (u:dm (yx l T)),ev (oq l u).1=ev l
 |[],_,_=>rfl
 |p::r,_,u=>by
  show p.1::ev _=p.1::ev _;rw[K4 r]
theorem K5:∀(l:List (Nat×fx)) {T:List Type} (u:dm (nO l T)),ev (jZ l u).1=ev l
 |[],_,_=>rfl
 |p::r,_,u=>by
  show p.1::ev _=p.1::ev _;rw[K5 r]
theorem Bv:∀ {aq:b6} {h a:bC},tS h aq=some a->ev a=aq
 |[],_,_,e=>by cases e;rfl
 |k::aq,h,a,e=>by
  unfold tS at e
  split at e
  ·rename_i I J
   split at e
   ·cases e
    show k::ev _=_;rw[Bv J]
   ·cases e
  ·cases e
theorem K6{α:Type}{q:Nat}:∀ {L:List (Nat×α)},fC q (ev L)=false->bm L q=none
 |[],_=>rfl
 |p::r,h=>by
  obtain⟨I,J⟩:=gN h;rw[cI,if_neg I];exact K6 J
theorem Fh{h:bC}{K:bC}:∀ {I:bC},lp h I->(∀p∈K,bm h p.1=some p.2)->qo (ev I++ev K)=true->lp h (I++K):=by
 have base:∀K:bC,(∀p∈K,bm h p.1=some p.2)->qo (ev K)=true->lp h K:=by
  intro K
  induction K with
  |nil=>exact λ_ _=>.nil
  |cons p r c=>
   intro aa bc;have a:(!(ev r).elem p.1&&qo (ev r))=true:=bc;simp only[and_eq_true,not_eq_true']at a;exact .cons (aa p mem_cons_self) (K7 a.1) (c (λq g=>aa q (mem_cons_of_mem _ g)) a.2)
 intro f
 induction f with
 |nil=>exact λaa bc=>base K aa bc
 |cons i ot j c=>
  rename_i k b r;intro aa bc;have a:(!(ev r++ev K).elem k&&qo (ev r++ev K))=true:=bc;simp only[and_eq_true,not_eq_true']at a;refine .cons i ?_ (c aa a.2);refine K7 ?_
  have:∀l:bC,ev (l++K)=ev l++ev K:=by
   intro l
   induction l with
   |nil=>rfl
   |cons p l c=>show p.1::ev (l++K)=_;rw[c];rfl
  show(ev (r++K)).elem k=false;rw[this];exact a.1
where K7 {q:Nat}:∀ {L:bC},(ev L).elem q=false->bm L q=none
 |[],_=>rfl
 |p::r,h=>by
  have d:(p.1::ev r).elem q=false:=h;rw[List.elem_cons]at d
  split at d
  ·cases d
  ·rename_i e
   rw[cI,if_neg (by simpa using e)];exact K7 d
def kL(a:et)(st b:aO):Prop:=(∀p∈k5 a.sM st.L,fC p.1 (ev a.L)=false->bm b.L p.1=some p.2)/\∀p∈hD a.nc st.H,fC p.1 (ev a.H)=false->bm b.H p.1=some p.2
theorem kL.self(a:et)(st:aO):kL a st st:=⟨λp al _=>(wz al).1,λp al _=>(qH al).1⟩
theorem kL.step(a:et)(st:aO)(d:a.D):kL a st (a.S st d):=⟨λp al aa=>by
 show bm (_++_) p.1=_;rw[K3 (by rw[K4];exact aa)];exact ad0 al,λp al aa=>by
 show bm (_++_) p.1=_;rw[K3 (by rw[K5];exact aa)];exact ad1 al⟩
theorem et.iK{X:bu}{n:Nat}{b:et}{st A st':aO}{V:b6}{d:b.D}(z:kL b st A)(t:db V A st')(h:b.get st V st'=some d):ds X n st' (b.S st d):=by
 unfold et.get at h
 split at h
 ·rename_i T Q U
  split at h
  ·rename_i F y
   split at h
   ·rename_i u E
    split at h
    ·rename_i C k
     cases h;obtain⟨I,J⟩:=uj E;obtain⟨ag,L⟩:=ED k;have G:∀p∈k5 b.sM st.L,bm st'.L p.1=some p.2:=λp al=>by
      obtain⟨m,g2,v,g3⟩:=Bu T al;obtain⟨u,i,o⟩:=t.1 p.1 v m g3;rw[z.1 p al g2]at i;cases i;rw[g3,o (wz al).2]
     have Y:∀p∈hD b.nc st.H,bm st'.H p.1=some p.2:=λp al=>by
      obtain⟨m,g2,v,g3⟩:=Bu Q al;obtain⟨u,i,o⟩:=t.2 p.1 v m g3;rw[z.2 p al g2]at i;cases i;rw[g3,o (qH al).2]
     rintro R W aE M a w ⟨aq,env,B,ak,H,O,ah⟩;have S:=Fh (x6 y) Y (by rw[Bv y];exact U);obtain⟨H',f⟩:=ah.e2 (st':=⟨[],F++hD b.nc st.H⟩) .nil S;refine⟨aq,env,B,ak,H',O,f.size,f.defs,λq sv K=>?_,?_,f.aU,f.sub,f.new,f.dr,f.base,f.eg⟩
     ·have g:bm ((oq b.L (nN b.T (qy b.T C))).1++k5 b.sM st.L) q=some sv:=K
      rw[vY]at g
      rcases Fg g with g|⟨_,g⟩
      ·obtain⟨x,j,D⟩:=L q sv g
       obtain⟨v,N,P⟩:=ah.has q x j;exact⟨v,N,D _ _ _ _ P⟩
      ·obtain⟨j,_⟩:=Bt g
       exact ah.has q sv (G _ j)
     ·show bJ env B ak ((jZ b.H (oq b.L (nN b.T (qy b.T C))).2).1++hD b.nc st.H) H'
      rw[vY,ag];obtain⟨H1,H2,e,s,r⟩:=bJ.split f.heap;rw[e];exact(J _ _ _ _ s).append r
    ·cases h
   ·cases h
  ·cases h
 ·cases h
where bJ.split {env:Nat->Loc} {B:Nat->Prop} {w:World}:∀ {l l':bC} {H:c2},bJ env B w (l++l') H->∃H1 H2,H=H1++H2/\bJ env B w l H1/\bJ env B w l' H2
 |[],_,H,h=>⟨[],H,rfl,rfl,h⟩
 |_::_,_,_,⟨c,H',e,I,J⟩=>by
  obtain⟨H1,H2,k,s,r⟩:=bJ.split J;exact⟨c::H1,H2,by rw[e,k];rfl,⟨c,H1,rfl,I,s⟩,r⟩
theorem et.aq(a:et)(st:aO)(d:a.D):db a.ids st (a.S st d):=by
 refine⟨λq v b ae=>?_,λq v b ae=>?_⟩
 ·rcases Fg (show bm (_++_) q=some v from ae)with h|⟨_,h⟩
  ·have:=K6 (L:=(oq a.L (nN a.T d)).1) (q:=q) (by rw[K4];exact(qC.1 b).1)
   rw[this]at h;cases h
  ·obtain⟨I,J,ag⟩:=Bt h
   exact⟨v,J,λ_=>rfl⟩
 ·rcases Fg (show bm (_++_) q=some v from ae)with h|⟨_,h⟩
  ·have:=K6 (L:=(jZ a.H (oq a.L (nN a.T d)).2).1) (by rw[K5];exact(qC.1 b).2)
   rw[this]at h;cases h
  ·exact⟨v,Fi h,λ_=>rfl⟩
where Fi {s:Nat} {v:cD}:∀ {aq:b6} {L:bC},bm (hD aq L) s=some v->bm L s=some v
 |[],_,h=>by cases h
 |k::r,L,h=>by
  unfold hD at h
  split at h
  ·rename_i u e
   split at h
   ·rw[cI]at h
    split at h
    ·rename_i c;cases h;rw[c];exact e
    ·exact Fi h
   ·exact Fi h
  ·exact Fi h
end
section
section
variable {X:bu} {n:Nat} {st:aO} {o:Oper} {d:Nat}
end
end
section
theorem ad3{a:List MapEntry}{j:Nat}{e:MapEntry}(d:(a.map (·.born)).Pairwise (· < ·))(c:a[j]?=some e):a.toArray.findIdx? (λx=>(x.born:Int)==(e.born:Int))=some j:=by
 rw[List.findIdx?_toArray];obtain⟨b,he⟩:=List.getElem?_eq_some_iff.1 c;rw[List.findIdx?_eq_some_iff_getElem];refine⟨b,by rw[he];simp,λk aa=>?_⟩;have I:=List.pairwise_iff_getElem.1 d k j (by simp;omega) (by simpa using b) aa;simp only[List.getElem_map]at I;rw[he]at I;simp only[beq_iff_eq];omega
theorem R6{a:List MapEntry}{k v:Value}:∀(j:Nat),(a.modify j λe=>{ e with key:=k }).modify j (λe=>{ e with val:=v })=a.modify j λe=>{ e with key:=k,val:=v }:=by
 induction a with
 |nil=>intro j;simp
 |cons e a b=>
  intro j;cases j with
  |zero=>simp
  |succ j=>simp only[List.modify_succ_cons,b j]
theorem ad4{a:List MapEntry}{e:MapEntry}{f:MapEntry->MapEntry}:(a++[e]).modify a.length f=a++[f e]:=by
 induction a with
 |nil=>simp
 |cons x a b=>simp[b]
theorem gP.R7{P:Program}{t:TypeId}{B:Nat->Prop}{w:World}{br bj:a7}(a:pU P t br){z:br.D}{vv:Value}{c:Nat}(b5:World):∀ {l:List (br.D×bj.D)} {b:List MapEntry} (i:Nat),gP B w br bj l b->(Instr.findAsking t (.agg (br.cQ z).toArray) b i).run P b5=.ok none b5 ->
  (Instr.findAsking t (.agg (br.cQ z).toArray) (b++[MapEntry.mk (.agg (br.cQ z).toArray) vv c]) i).run P b5=.ok (some (i+b.length,vv)) b5
 |[],_,i,h,_=>by
  rw[show _=[] from h];show(Instr.findAsking t _ [MapEntry.mk (.agg (br.cQ z).toArray) vv c] i).run P b5=_;unfold Instr.findAsking;simp only[Sem.run_bind,E2 a z z b5,Result.andThen_ok,(beq_iff z z a.eq.key).2 rfl]
  simp
 |x::l,_,i,⟨e,r,he,I,J,ag⟩,az=>by
  subst he;have aa:=eL.key a.rK a.eq.key I;show(Instr.findAsking t _ (e::(r++[MapEntry.mk (.agg (br.cQ z).toArray) vv c])) i).run P b5=_;unfold Instr.findAsking at az ⊢;rw[aa]at az ⊢;simp only[Sem.run_bind,E2 a z x.1 b5,Result.andThen_ok]at az ⊢;cases ad:br.beq z x.1 with
  |true=>rw[ad]at az;simp at az
  |false=>
   rw[ad]at az
   have:=gP.R7 a b5 (i+1) ag (by simpa using az) (vv:=vv) (c:=c)
   simpa [add_assoc,add_comm 1] using this
section
variable {X:bu} {n:Nat} {st:aO}
theorem R8(e:X.a6.ok X.P){t fQ gE:TypeId}{bE dS:cr}{br bj:a7}{id:Nat}{l:List (br.D×bj.D)}{kH:Option (List MapEntry×Nat)}{z:br.D}(c:pU X.P fQ br)(bk:X.a6.find t=some bE)(dq:bE.ti.desc=.map fQ gE)(he:X.a6.find gE=some dS)(i:bm st.H id=some (.mp br bj l kH)){R:Nat->Prop}{W:World}{aE:fj}{aq:b6}{env:Nat->Loc}{B:Nat->Prop}{ak:World}{H:c2}{a:Act}{w:World}(ah:bK X R W aE n aq env B ak H st a w) :
  ∃h,(∀b,env id=.blk b->(Instr.lookup t (.map (some b)) (.agg (br.cQ z).toArray) false).run X.P w=.ok h w)/\((∀B w,eL B w bj bj.zero dS.ti.zero)->eL B ak bj ((dk br bj l z).getD bj.zero) h):=by
 obtain⟨eA,K,⟨b,r,clock,ad,rfl,m,dG,_⟩,k⟩:=ah.heap.gU i;have p:=(ah.aU.ok _ k.more.mem).2;have d:=(cm.get e bk).ti.1;rw[dq]at d;obtain⟨dn,f⟩:=c.str;have o:=bI.so (cm.get e he).ti w;have q:∃v,(Instr.lookup t (.map (some b)) (.agg (br.cQ z).toArray) false).run X.P w=.ok v w/\((∀B w,eL B w bj bj.zero dS.ti.zero)->eL B ak bj ((dk br bj l z).getD bj.zero) v):=by
  unfold Instr.lookup;simp only[Sem.run_bind,run_underlying d,Result.andThen_ok,MapKept.run_getObj_map p,c.yM,Sem.run_pure]
  rcases m.Bf c w 0 with⟨au,aD⟩|⟨y,j,v,au,aD,a1,_⟩
  ·refine⟨dS.ti.zero,?_,λbO=>by rw[au];exact bO _ _⟩
   simp[rL f aD,o,Result.andThen]
  ·refine⟨v,?_,λ_=>by rw[au];exact a1⟩
   simp[rL f aD,Result.andThen]
 obtain⟨v,I,J⟩:=q;exact⟨v,λs g=>by rw[ad]at g;cases g;exact I,J⟩
theorem R9(ay:X.a6.ok X.P){ops:Array Oper}{Y Z ab:Oper}{d1 d2:Nat}{t fQ gE:TypeId}{bE dS:cr}{br bj:a7}{u x aL y:Operand}{id:Nat}{l:List (br.D×bj.D)}{kH:Option (List MapEntry×Nat)}{z:br.D}{g g2 c cG:Bool}{fG ej:bq}{gx:bj.D}(m:pU X.P fQ br)(K8:Y.op=.mapEntry t u x)(aK:Y.guard=none/\Y.dst=some d1)(mP:blt d1 n=true)(K9:Z.op=.extract (.tmp d1) 1)(aM:Z.guard=none/\Z.dst=some d2)(ln:blt d2 n=true)(La:ab.op=.entryStore t aL (.tmp d2) y)(aJ:ab.guard=none/\ab.dst=none)(bk:X.a6.find t=some bE)(dq:bE.ti.desc=.map fQ gE)(he:X.a6.find gE=some dS)(hu:bz X st.L u=some (true,.c (.dY id)))(ai:bz X st.L x=some (g,fG))(aT:g=true)(nh:dec br fG.cells=some (c,z,[]))(U:c=true)(bu:mu br fG=true)(az:bm st.H id=some (.mp br bj l kH))(bs:bz X ((d2,cd.a (.c .dead))::(d1,cd.a (.c .dead))::st.L) aL=some (true,.c (.dY id)))(aG:bz X ((d2,cd.a (.c .dead))::(d1,cd.a (.c .dead))::st.L) y=some (g2,ej))(a8:g2=true)(bi:dec bj ej.cells=some (cG,gx,[]))(bf:cG=true)(a9:mu bj ej=true){R:Nat->Prop}{W:World}{aE:fj}{aq:b6}{env:Nat->Loc}{B:Nat->Prop}{ak:World}{H:c2}{a:Act}{w:World}(ah:bK X R W aE n aq env B ak H st a w){ac:Value}(bo:∀b,env id=.blk b->(Instr.lookup t (.map (some b)) (.agg (br.cQ z).toArray) false).run X.P w=.ok ac w){G ap:World->Prop}(aA:∀b5,c9 (λk=>R k\/B k) ak b5->(∀b,env id=.blk b->(Instr.lookup t (.map (some b)) (.agg (br.cQ z).toArray) false).run X.P b5=.ok ac b5)->G b5)(aU:∀b5,c9 (λk=>R k\/B k) ak b5->ap b5){KK:Act->World->Prop}(bv:∀aX w' H',bK X R W aE n aq env B ak H' ⟨(d2,.a (.c .dead))::(d1,.a (.c .dead))::st.L,fc id (.mp br bj (e6 br bj l z gx) none) st.H⟩ aX w'->KK aX w') :
  fh X.P ops Y (λax b5=>G b5/\fh X.P ops Z (λae aD=>G aD/\fh X.P ops ab (λT aH=>ap aH/\KK T aH) ae aD) ax b5) a w:=by
 obtain⟨bH,I,b,ad,rfl⟩:=ah.aI hu rfl;obtain⟨vx,J,ag⟩:=ah.aI ai aT;have bc:=eL.key m.rK m.eq.key (eL.vS nh U bu ag);rw[bc]at J;obtain⟨eA,K,⟨b',i,clock,aC,rfl,E,dG,_⟩,aB⟩:=ah.heap.gU az;rw[ad]at aC;cases aC;have M:=(ah.aU.ok _ aB.more.mem).2;have V:=(cm.get ay bk).ti.1;rw[dq]at V;obtain⟨dn,aa⟩:=m.str;have aF:=bI.so (cm.get ay he).ti w;have cH:=(Array.getElem?_eq_some_iff.1 M).1;have Q:=bo b ad
 -- what the first operation leaves
 have bl:∃(o:List MapEntry) (s j:Nat) (e:MapEntry) (v:Value),(Instr.mapEntry t (.map (some b)) (.agg (br.cQ z).toArray)).run X.P w=.ok (.tuple #[v,.int .i64 (e.born:Int)]) { w with heap:=w.heap.setIfInBounds b (.map o.toArray s) }/\o[j]?=some e/\(o.map (·.born)).Pairwise (· < ·)/\(Instr.lookup t (.map (some b)) (.agg (br.cQ z).toArray) false).run X.P { w with heap:=w.heap.setIfInBounds b (.map o.toArray s) }=.ok ac { w with heap:=w.heap.setIfInBounds b (.map o.toArray s) } /\
   ∀vy,eL B ak bj gx vy->gP B ak br bj (e6 br bj l z gx) (o.modify j λe=>{ e with val:=vy })/\Stamped (o.modify j λe=>{ e with val:=vy }) s:=by
  unfold Instr.mapEntry;simp only[Sem.run_bind,run_underlying V,Result.andThen_ok,MapKept.run_getObj_map M,m.yM]
  rcases E.Bf m w (z:=z) 0 with⟨a1,ca⟩|⟨q,j,v,a1,ca,di,h1⟩
  ·refine⟨i++[MapEntry.mk (.agg (br.cQ z).toArray) dS.ti.zero clock],clock+1,i.length,MapEntry.mk (.agg (br.cQ z).toArray) dS.ti.zero clock,dS.ti.zero,?_,by simp,?_,?_,λvy C=>⟨?_,?_⟩⟩
   ·simp only[rL aa ca,Result.andThen_ok,Sem.run_bind,aF,MapKept.run_setObj_map _ M]
    simp[goInt]
   ·rw[map_append,pairwise_append]
    exact⟨dG.1,by simp,λp al q A=>by simp at A;subst A;exact dG.2 p al⟩
   ·have fg:ac=dS.ti.zero:=by
     unfold Instr.lookup at Q;simp only[Sem.run_bind,run_underlying V,Result.andThen_ok,MapKept.run_getObj_map M,m.yM,Sem.run_pure]at Q
     simp[rL aa ca,aF,Result.andThen]at Q
     exact Q.symm
    have S:({ w with heap:=w.heap.setIfInBounds b (.map (i++[MapEntry.mk (.agg (br.cQ z).toArray) dS.ti.zero clock]).toArray (clock+1)) }:World).heap[b]?=some (.map (i++[MapEntry.mk (.agg (br.cQ z).toArray) dS.ti.zero clock]).toArray (clock+1)):=by simp[cH]
    have aV:(Instr.findAsking fQ (.agg (br.cQ z).toArray) i 0).run X.P { w with heap:=w.heap.setIfInBounds b (.map (i++[MapEntry.mk (.agg (br.cQ z).toArray) dS.ti.zero clock]).toArray (clock+1)) }=.ok none { w with heap:=w.heap.setIfInBounds b (.map (i++[MapEntry.mk (.agg (br.cQ z).toArray) dS.ti.zero clock]).toArray (clock+1)) }:=by
     rcases E.Bf m { w with heap:=w.heap.setIfInBounds b (.map (i++[MapEntry.mk (.agg (br.cQ z).toArray) dS.ti.zero clock]).toArray (clock+1)) } 0 with⟨_,r⟩|⟨q,j,v,r,_⟩
     ·exact r
     ·rw[a1]at r;cases r
    have aO:=E.R7 m _ 0 aV (vv:=dS.ti.zero) (c:=clock);rw[fg];unfold Instr.lookup;simp only[Sem.run_bind,run_underlying V,Result.andThen_ok,MapKept.run_getObj_map S,m.yM,Sem.run_pure];have aW:=rL aa aO;simp only[aW,Result.andThen_ok]
    simp
   ·rw[ad4]
    rcases E.yN m w C 0 with⟨_,d⟩|⟨yS,v2,ck,d,_⟩
    ·rw[d]
     exact gP.snoc (eL.KS m.rK m.eq.key z) C E
    ·rw[ca]at d
     cases d
   ·rw[Stamped,AQ (f:=λe=>{ e with val:=vy }) (λ_=>rfl)]
    refine⟨?_,?_⟩
    ·rw[map_append,pairwise_append]
     exact⟨dG.1,by simp,λp al q A=>by simp at A;subst A;exact dG.2 p al⟩
    ·intro p al
     rw[map_append,List.mem_append]at al
     rcases al with al|al
     ·exact Nat.lt_succ_of_lt (dG.2 p al)
     ·simp at al;omega
  ·-- the entry is there
   obtain⟨L,F⟩:∃L,i[j]?=some L:=⟨_,List.getElem?_eq_getElem h1⟩
   have aY:∀vy,eL B ak bj gx vy->L.key=.agg (br.cQ z).toArray/\gP B ak br bj (e6 br bj l z gx) (i.modify j λe=>{ e with key:=.agg (br.cQ z).toArray,val:=vy }):=λvy C=>by
    rcases E.yN m w C 0 with⟨d,_⟩|⟨yS,v2,ck,d,r,o4,ad9⟩
    ·rw[ca]at d
     cases d
    ·rw[ca]at d
     have O:yS=j:=by
      have:=Result.ok.inj d
      have N:=Option.some.inj this.1;have ar:=(Prod.mk.inj N).1;omega
     subst O;rw[F]at r;cases r;exact⟨o4,ad9⟩
   refine⟨i.modify j λe=>{ e with key:=.agg (br.cQ z).toArray },clock,j,{ L with key:=.agg (br.cQ z).toArray },v,?_,?_,?_,?_,λvy C=>⟨?_,?_⟩⟩
   ·have am:L.key=.agg (br.cQ z).toArray:=by
     rcases E.yN m w di (z:=z) 0 with⟨d,_⟩|⟨yS,v2,ck,d,r,o4,_⟩
     ·rw[ca]at d
      cases d
     ·rw[ca]at d
      have O:yS=j:=by
       have:=Result.ok.inj d
       have N:=Option.some.inj this.1;have ar:=(Prod.mk.inj N).1;omega
      subst O;rw[F]at r;cases r;exact o4
    rw[zero_add]at ca;have bh:(Instr.keyThatStays (((i.toArray[j]?).map (·.key)).getD (.agg (br.cQ z).toArray)) (.agg (br.cQ z).toArray)).run X.P w=.ok (.agg (br.cQ z).toArray) w:=by
     have:((i.toArray[j]?).map (·.key)).getD (.agg (br.cQ z).toArray)=.agg (br.cQ z).toArray:=by simp[F,am]
     rw[this];unfold Instr.keyThatStays;rw[RP λn=>E3 m.eq.key z n]
     rfl
    simp only[rL aa ca,Result.andThen_ok,Sem.run_bind,bh,MapKept.run_setObj_map _ M]
    simp[goInt,F]
   ·simp[F]
   ·rw[AQ (f:=λe=>{ e with key:=.agg (br.cQ z).toArray }) (λ_=>rfl)]
    exact dG.1
   ·have am:L.key=.agg (br.cQ z).toArray:=by
     rcases E.yN m w di (z:=z) 0 with⟨d,_⟩|⟨yS,v2,ck,d,r,o4,_⟩
     ·rw[ca]at d
      cases d
     ·rw[ca]at d
      have O:yS=j:=by
       have:=Result.ok.inj d
       have N:=Option.some.inj this.1;have ar:=(Prod.mk.inj N).1;omega
      subst O;rw[F]at r;cases r;exact o4
    have aQ:(i.modify j λe=>{ e with key:=.agg (br.cQ z).toArray })=i:=by
     apply List.ext_getElem?
     intro q;rw[List.getElem?_modify]
     by_cases A:j=q
     ·subst A
      rw[F]
      simp[<- am]
     ·simp[A]
    rw[aQ];have bg:({ w with heap:=w.heap.setIfInBounds b (.map i.toArray clock) }:World)=w:=by
     have:w.heap.setIfInBounds b (.map i.toArray clock)=w.heap:=by
      apply Array.ext_getElem?
      intro q
      by_cases A:q=b
      ·subst A
       rw[M]
       simp[cH]
      ·rw[Array.getElem?_setIfInBounds_ne (Ne.symm A)]
     rw[this]
    rw[bg];exact Q
   ·rw[R6]
    exact(aY vy C).2
   ·rw[R6,Stamped,AQ (f:=λe=>{ e with key:=.agg (br.cQ z).toArray,val:=vy }) (λ_=>rfl)]
    exact dG
 obtain⟨o,s,j,e,v,aZ,a0,a2,au,bt⟩:=bl;have a3:=ad3 a2 a0;have aj:∀(an:Obj),c9 (λk=>R k\/B k) ak { w with heap:=w.heap.setIfInBounds b an }:=λan=>(ah.aU.z7 (x':=an) aB.more).below
 refine iD ah.cf aK.1 aK.2 (ef mP) (v:=.tuple #[v,.int .i64 (e.born:Int)]) (w':={ w with heap:=w.heap.setIfInBounds b (.map o.toArray s) }) ?_ λax av=>⟨aA _ (aj _) (λbe P=>by rw[ad]at P;cases P;exact au),?_⟩
 ·simp[execOp,K8,ah.cf.aI I,ah.cf.aI J,aZ]
 have af:=ah.set (sv:=.a (.c .dead)) trivial av;have aR:=im av.this;refine iD af.cf aM.1 aM.2 (ef ln) (w':={ w with heap:=w.heap.setIfInBounds b (.map o.toArray s) }) (O2 af.cf K9 aR rfl _) λae ao=>⟨aA _ (aj _) (λbe P=>by rw[ad]at P;cases P;exact au),?_⟩
 have D:=af.set (sv:=.a (.c .dead)) trivial ao;have bn:aI (full ae) (.tmp d2)=some (.int .i64 (e.born:Int)):=im ao.this;obtain⟨bD,a6,bA,aN,rfl⟩:=D.aI bs rfl;rw[ad]at aN;cases aN;obtain⟨vy,ba,bd⟩:=D.aI aG a8;have C:=eL.vS bi bf a9 bd;obtain⟨bw,a4⟩:=bt vy C;obtain⟨bC,bx,⟨bB,bF,bG,aw,rfl,_⟩,aP,bb⟩:=D.ql (b':=.mp br bj (e6 br bj l z gx) none) az;rw[ad]at aw;cases aw;have S:({ w with heap:=w.heap.setIfInBounds b (.map o.toArray s) }:World).heap[b]?=some (.map o.toArray s):=by simp[cH]
 have a5:(Instr.entryStore t (.map (some b)) (.int .i64 (e.born:Int)) vy).run X.P { w with heap:=w.heap.setIfInBounds b (.map o.toArray s) }=.ok () { w with heap:=w.heap.setIfInBounds b (.map (o.modify j λe=>{ e with val:=vy }).toArray s) }:=by
  unfold Instr.entryStore;simp only[Sem.run_bind,MapKept.run_getObj_map S,Result.andThen_ok,asInt,asIntOf,Sem.run_pure,a3];rw[MapKept.run_setObj_map _ S]
  simp[Array.setIfInBounds_setIfInBounds]
 refine Dz D.cf aJ.1 aJ.2 (w':={ w with heap:=w.heap.setIfInBounds b (.map (o.modify j λe=>{ e with val:=vy }).toArray s) }) ?_ λT aS=>⟨aU _ (aj _),?_⟩
 ·simp[execOp,La,D.cf.aI a6,D.cf.aI bn,D.cf.aI ba,a5]
 obtain⟨H',d⟩:=bb _ T _ ⟨b,_,s,ad,rfl,bw,a4,λ_ h=>by cases h⟩ (D.aU.z7 aP) aS;exact bv T _ H' d
end
end
section
inductive rN where
  |t (i m:Nat)
  |m (i:Nat)
  |s (i:Nat)
  |k (i:Nat)
  |u (i:Nat) (m:pV)
  |w (i p e:Nat)
  |c (i:Nat) (aH:dZ)
  |g (i:Nat)
  |z (id:Nat)
  |f
def s0:List rN->Nat
  |[]=>0
  |.z _::r=>s0 r
  |.f::r=>s0 r
  |.w _ _ _::r=>s0 r+3+1+1
  |_::r=>s0 r+1
def Fk(a:Bool)(m:Nat)(H:bC):bC:=match m with
  |1=>[]
  |3=>match a with
    |true=>H
    |false=>og H
  |_=>H
def yU(a:Bool)(m:Nat)(H:c2):c2:=match m with
  |1=>[]
  |3=>H.filter (rq a)
  |_=>H
theorem Fl{a:Bool}{m:Nat}{env:Nat->Loc}{B:Nat->Prop}{w:World}{l:bC}{H:c2}(h:bJ env B w l H):bJ env B w (Fk a m l) (yU a m H)/\(yU a m H).Sublist H:=by
  unfold Fk yU
  split
  · exact⟨rfl,List.nil_sublist _⟩
  · cases a with
    |true=>exact⟨by
        have e:H.filter (rq true)=H:=List.filter_eq_self.2 λ_ _=>rfl
        rw[e];exact h,List.filter_sublist⟩
    |false=>exact⟨h.hF,List.filter_sublist⟩
  · exact⟨h,List.Sublist.refl _⟩
def Lc(X:bu)(n:Nat)(st:aO)(b d e:Oper):Option (Bool×aO×b6):=match b,d,e with
  |⟨some d1,.mapEntry t u x,_,_,_,none⟩,⟨some d2,.extract (.tmp f) 1,_,_,_,none⟩,⟨none,.entryStore i j (.tmp h) y,_,_,_,none⟩=>match blt d1 n&&(blt d2 n&&(beq f d1&&(beq h d2&&beq i t))),X.a6.find t,bz X st.L u,bz X st.L x with
    |true,some ⟨⟨.map fQ gE,_,_,_⟩,_⟩,some (true,.c (.dY id)),some (g,fG)=>match bm st.H id,X.a6.find gE,bz X ((d2,cd.a (.c .dead))::(d1,cd.a (.c .dead))::st.L) j,bz X ((d2,cd.a (.c .dead))::(d1,cd.a (.c .dead))::st.L) y with
      |some (.mp br bj l _),some _,some (true,.c (.dY a)),some (g2,ej)=>match dec br fG.cells,dec bj ej.cells,beq a id&&(yO X fQ br&&(mu br fG&&mu bj ej))with
        |some (c,z,[]),some (cG,gx,[]),true=>some (g&&(c&&(g2&&cG)),⟨(d2,.a (.c .dead))::(d1,.a (.c .dead))::st.L,fc id (.mp br bj (e6 br bj l z gx) none) st.H⟩,[d2,d1,id])
        |_,_,_=>none
      |_,_,_,_=>none
    |_,_,_,_=>none
  |_,_,_=>none
theorem aeh{X:bu}{n:Nat}{st st':aO}{i j l:Oper}{c:Bool}{V:b6}(b:X.a6.ok X.P)(h:Lc X n st i j l=some (c,st',V))(U:c=true){ops:Array Oper}{R:Nat->Prop}{W:World}{aE:fj}{aq:b6}{env:Nat->Loc}{B:Nat->Prop}{ak:World}{H:c2}{a:Act}{w:World}(ah:bK X R W aE n aq env B ak H st a w){G:World->Prop}(m:∀b5,c9 (λk=>R k\/B k) ak b5->G b5){KK:Act->World->Prop}(E:∀aX w' H',bK X R W aE n aq env B ak H' st' aX w'->KK aX w') :
    fh X.P ops i (λv b5=>G b5/\fh X.P ops j (λr o=>G o/\fh X.P ops l (λs q=>G q/\KK s q) r o) v b5) a w:=by
  unfold Lc at h
  split at h
  · rename_i d1 t u x _ _ _ d2 F _ _ _ J L I y _ _ _
    split at h
    · rename_i ad bk hu ai
      simp only[and_eq_true]at ad;obtain⟨mP,ln,d,e,f⟩:=ad;have d:=eq_of_beq_eq_true d;have e:=eq_of_beq_eq_true e;have f:=eq_of_beq_eq_true f;subst d;subst e;subst f
      split at h
      · rename_i ae he C aG
        split at h
        · rename_i nh sT aa
          simp only[and_eq_true]at aa;obtain⟨g,p,A,D⟩:=aa;have g:=eq_of_beq_eq_true g;subst g;cases h;simp only[and_eq_true]at U;obtain⟨K,z,_⟩:=R8 b (Bi b p) bk rfl he ae ah;exact R9 b (Bi b p) rfl ⟨rfl,rfl⟩ mP rfl ⟨rfl,rfl⟩ ln rfl ⟨rfl,rfl⟩ bk rfl he hu ai U.1 nh U.2.1 A ae C aG U.2.2.1 sT U.2.2.2 D ah z (λb5 h _=>m b5 h) m E
        · cases h
      · cases h
    · cases h
  · cases h
def Bx(X:bu)(n:Nat)(st:aO)(k a h i j:Oper):Option (Bool×aO×b6):=match k,a.guard,a.dst,h,i,j with
  |⟨some d,.lookup t (.tmp lE) (.tmp fG) false,_,_,_,none⟩,none,some jH,⟨some d1,.mapEntry p (.tmp b) (.tmp e),_,_,_,none⟩,⟨some d2,.extract (.tmp m) 1,_,_,_,none⟩,⟨none,.entryStore q (.tmp f) (.tmp o) y,_,_,_,none⟩=>
    match (blt d n&&(blt jH n&&(blt d1 n&&blt d2 n)))&&((beq b lE&&(beq e fG&&(beq f lE&&(beq m d1&&(beq o d2&&(beq p t&&beq q t))))))&&((!beq lE d&&(!beq lE jH&&(!beq lE d1&&(!beq lE d2&&(!beq fG d&&!beq fG jH)))))&&(yb a.op&&!re a.op))),X.a6.find t,bz X st.L (.tmp lE),bz X st.L (.tmp fG)with
    |true,some ⟨⟨.map fQ gE,_,_,_⟩,_⟩,some (true,.c (.dY id)),some (g,rJ)=>match bm st.H id,X.a6.find gE with
      |some (.mp br bj l _),some dS=>match dec br rJ.cells,yO X fQ br&&(mu br rJ&&Bj bj dS.ti.zero)with
        |some (c,z,[]),true=>match rC bj ((dk br bj l z).getD bj.zero)with
          |some bN=>match vz X ⟨(d,.a bN)::st.L,st.H⟩ a.op with
            |some (tD,sp)=>match bz X ((d2,cd.a (.c .dead))::(d1,cd.a (.c .dead))::(jH,.a sp)::(d,.a bN)::st.L) y with
              |some (g2,ej)=>match dec bj ej.cells,mu bj ej with
                |some (cG,gx,[]),true=>some (g&&(c&&(tD&&(g2&&cG))),⟨(d2,.a (.c .dead))::(d1,.a (.c .dead))::(jH,.a sp)::(d,.a bN)::st.L,fc id (.mp br bj (e6 br bj l z gx) none) st.H⟩,[d2,d1,jH,d,id])
                |_,_=>none
              |none=>none
            |none=>none
          |none=>none
        |_,_=>none
      |_,_=>none
    |_,_,_,_=>none
  |_,_,_,_,_,_=>none
def Ld(ops:Array Oper)(E:b6)(listed:Array Bool)(i p e:Nat):Bool:=
  (rp ops E listed i&&rp ops E (listed.setIfInBounds i true) p&&((xQ ops i).all λj=>!listed.getD j true&&yc ops i (xQ ops i) j) &&
    (range ops.size).all λj=>j==i || listed.getD j true || j==e || j==e+1 || (xQ ops i).elem j) &&
  (((Region.ready .any ops ((listed.setIfInBounds i true).setIfInBounds p true)==[e])&&(Region.ready .any ops (((listed.setIfInBounds i true).setIfInBounds p true).setIfInBounds e true)==[e+1])&&(Region.ready .any ops ((((listed.setIfInBounds i true).setIfInBounds p true).setIfInBounds e true).setIfInBounds (e+1) true)==[e+2])) &&
   (!E.elem i&&!E.elem p&&!E.elem e&&!E.elem (e+1)&&!E.elem (e+2))&&(!beq p e&&!beq p (e+1)&&blt (e+1) listed.size))
def Sm(ops:Array Oper)(E:b6)(listed:Array Bool)(i:Nat):Bool:=(range ops.size).all λj=>j==i || listed.getD j true || E.elem j || E.elem (j+mX) ||
  (match ops[j]? with
  |some o=>o.after.any λe=>Region.binds .any e&&(e.on==i || E.elem (e.on+mX))
  |none=>true)
theorem Sn{l:Array Bool}{j:Nat}:(l.setIfInBounds j true).getD j true=true:=by
  rcases lt_or_ge j l.size with aP|aP
  · simp[aP]
  · simp[aP]
theorem So{E:b6}{l:Array Bool}{j:Nat}(h:sC E (l.setIfInBounds j true)=false):sC E l=false:=by
  unfold sC at h ⊢;rw[List.any_eq_false]at h ⊢;intro e he ad;refine h e he ?_;rw[and_eq_true]at ad ⊢;refine⟨ad.1,?_⟩;obtain⟨q,c⟩:∃q,q=e-mX:=⟨_,rfl⟩
  have b:=ad.2;rw[<- c]at b ⊢
  by_cases a:j=q
  · rw[a];exact Sn
  · rw[getD_set_ne true a]
    exact b
theorem Sp{E:b6}{l:Array Bool}{j:Nat}(a:E.elem (j+mX)=true)(ae:l.getD j true=true):sC E l=true:=by
  unfold sC;rw[List.any_eq_true];refine⟨j+mX,by simpa using a,?_⟩;rw[and_eq_true];exact⟨Nat.ble_eq_true_of_le (Nat.le_add_left _ _),by rw[Nat.add_sub_cancel];exact ae⟩
theorem hc.aei{P:Program}{ops:Array Oper}{Q:Exit->Act->World->Prop}{E:b6}{G F:World->Prop}{i:Nat}{m:Oper}{v:Value}(hi:ops[i]?=some m)(y:∀(j:Nat) (o:Oper) cs b,ops[j]?=some o->o.op≠.select cs b)(M:AK E i=true):∀(fuel:Nat) (listed:Array Bool) (a:Act) (w:World),
      (∀j c,ops[j]?=some c->j≠i->listed.getD j true=false->(∀e∈c.after,Region.binds .any e=true->e.on≠i)->m.apart ops c=true/\(E.elem j=true\/E.elem (j+mX)=true\/∃e∈c.after,Region.binds .any e=true/\E.elem (e.on+mX)=true)) ->
      i∈Region.ready .any ops listed->YieldsIf P ops F m v a->F w->(gp E listed i=true->G w) ->
      hc P ops Q (λj l w=>(gp E l j=true->G w)/\F w) fuel (listed.setIfInBounds i true) (a.put m.dst v) w->hc P ops Q (λj l w=>(gp E l j=true->G w)/\F w) (fuel+1) listed a w:=by
  have B:∀ {l:Array Bool} {j:Nat},gp E l j=true->gp E (l.setIfInBounds i true) j=true:=JE M;intro fuel
  induction fuel with
  |zero=>
    intro listed a w _ f aG p u H;refine⟨λh=>(by rw[h]at f;cases f),λj s=>?_⟩
    by_cases d:j=i
    · subst d;exact⟨m,hi,Eg aG p ⟨⟨u,p⟩,H⟩⟩
    · have:=ready_mono s d
      rw[H.1]at this;cases this
  |succ fuel T=>
    intro listed a w K f aG p u H;refine⟨λh=>(by rw[h]at f;cases f),λj s=>?_⟩
    by_cases d:j=i
    · subst d;exact⟨m,hi,Eg aG p ⟨⟨u,p⟩,H⟩⟩
    · obtain⟨X,O,D⟩:=H.2 j (ready_mono s d)
      obtain⟨J,c,t,I⟩:=mem_ready.1 s;have R:=Option.some.inj (O.symm.trans t);rw[R]at D;have N:∀e∈c.after,Region.binds .any e=true->e.on≠i:=λe he ad heq=>by
        have g:=I e he ad;have L:=(mem_ready.1 f).1;rw[heq]at g
        rcases lt_or_ge i listed.size with aP|aP
        · simp[aP]at L g;rw[L]at g;cases g
        · simp[Array.getElem?_eq_none aP]at g
      obtain⟨lf,S⟩:=K j c t d J N;have V:=fh.Ql lf (λcs b=>y i m cs b hi) (λcs b=>y j c cs b t) aG D;refine⟨c,t,V.mono λaX w' n=>⟨⟨λq=>n.2.1.1 (B q),n.2.1.2⟩,?_⟩⟩;refine T (listed.setIfInBounds j true) aX w' (λk ok aa W z U=>?_) (ready_mono f (Ne.symm d)) n.1 n.2.1.2 (λq=>?_) ?_
      · refine K k ok aa W ?_ U
        by_cases A:j=k
        · subst A;exact J
        · rw[getD_set_ne true A]at z;exact z
      · have r:sC E (listed.setIfInBounds j true)=false:=by
          unfold gp at q;rw[and_eq_true,not_eq_true']at q;exact q.2
        rcases S with aD|aD|⟨e,he,ad,aD⟩
        · refine n.2.1.1 (B ?_)
          unfold gp;rw[aD,So r]
          rfl
        · rw[Sp aD Sn]at r
          cases r
        · have ae:listed.getD e.on true=true:=by
            have g:=I e he ad
            rcases lt_or_ge e.on listed.size with aP|aP
            · simpa [aP] using g
            · simp[aP]
          have C:=So r;rw[Sp aD ae]at C;cases C
      · rw[Array.setIfInBounds_comm _ _ d]
        exact n.2.2
def Fo(ops:Array Oper)(E:b6)(i m:Nat)(aK:iv):Bool:=match m with
  |0=>rp ops E aK.listed i&&Ek ops E aK.listed aK.pre i&&tX (λo=>yb o&&!re o) ops i
  |1=>rp ops E aK.listed i&&Ek ops E aK.listed aK.pre i&&tX yb ops i&&aK.lx
  |3=>rp ops E aK.listed i&&AL ops E (xQ ops i) aK.listed i&&tX yb ops i&&aK.early&&aK.pre
  |5=>rp ops E aK.listed i&&Sm ops E aK.listed i&&tX (λo=>yb o&&!re o) ops i&&aK.pre
  |_=>false
def iv.next(aK:iv)(i:Nat):iv:=⟨aK.listed.setIfInBounds i true,aK.early,aK.pre,aK.lx,aK.all⟩
section
variable {X:bu} {aY:Type}
def gz(X:bu)(n:Nat)(T:List (bw X))(ops:List Oper)(E:b6):List rN->iv->gy->b6->eG->aO->(iv->gy->b6->eG->aO->Option aY)->Option aY
  |[],aK,G,V,A,st,k=>k aK G V A st
  |.t i m::r,aK,G,V,A,st,k=>match nth ops i,Fo ops.toArray E i m aK with
    |some o,true=>match o.guard,o.dst with
      |none,some d=>match uv X (eU ops) [] G ⟨st.L,Fk aK.all m st.H⟩ o.op,blt d n with
        |some (c,bN),true=>gz X n T ops E r (aK.next i) (ou (eU ops) d G) (d::V) (c::A) ⟨(d,.a bN)::st.L,st.H⟩ k
        |_,_=>none
      |some (j,want),some d=>match nth (eU ops) j with
        |some (some s)=>match kJ st.L s want with
          |some g=>match uv X (eU ops) (wo (eU ops) G 8 j want) G ⟨st.L,Fk aK.all m st.H⟩ o.op,blt d n,beq s d with
            |some (c,bN),true,false=>gz X n T ops E r (aK.next i) ((d,j,want)::ou (eU ops) d G) (d::V) (ez g c::A) ⟨(d,.may g bN)::st.L,st.H⟩ k
            |_,_,_=>none
          |none=>none
        |_=>none
      |_,none=>none
    |_,_=>none
  |.m i::r,aK,G,V,A,st,k=>match nth ops i,Fo ops.toArray E i 0 aK with
    |some o,true=>match o.guard,o.dst,D2 st.L o.op with
      |none,some d,some xs=>match blt d n with
        |true=>gz X n T ops E r (aK.next i) (ou (eU ops) d G) (d::V) A ⟨(d,.da xs)::st.L,st.H⟩ k
        |false=>none
      |_,_,_=>none
    |_,_=>none
  |.s i::r,aK,_,V,A,st,k=>match nth ops i,Region.ready .any ops.toArray aK.listed==[i],gp E aK.listed i with
    |some o,true,false=>match o.guard with
      |none=>match wv X n st o with
        |some (c,st',W)=>gz X n T ops E r ⟨aK.listed.setIfInBounds i true,false,false,aK.lx,aK.all⟩ [] (W++V) (c::A) st' k
        |none=>match oU X n (eU ops) st o with
          |.ok c st'=>gz X n T ops E r ⟨aK.listed.setIfInBounds i true,false,false,aK.lx,aK.all⟩ [] (wq X st.L o++V) (c::A) st' k
          |.stop=>none
      |some _=>none
    |_,_,_=>none
  |.k i::r,aK,_,V,A,st,k=>match nth ops i,Region.ready .any ops.toArray aK.listed==[i],aK.pre with
    |some o,true,true=>match o.guard with
      |none=>match o.dst,yJ X st o.op with
        |some d,some (c,bN)=>match blt d n with
          |true=>gz X n T ops E r ⟨aK.listed.setIfInBounds i true,false,true,false,aK.all⟩ [] (d::V) (c::A) ⟨(d,.a bN)::st.L,st.H⟩ k
          |false=>none
        |_,none=>match cond aK.all (x1 o.op&&tI o st.H) (DS o.op&&ri o st.H),oU X n (eU ops) st o with
          |true,.ok c st'=>gz X n T ops E r ⟨aK.listed.setIfInBounds i true,false,true,aK.lx,aK.all⟩ [] (wq X st.L o++V) (c::A) st' k
          |_,_=>none
        |none,some _=>none
      |some _=>none
    |_,_,_=>none
  |.u i m::r,aK,_,V,A,st,k=>match nth ops i,Region.ready .any ops.toArray aK.listed==[i],gp E aK.listed i with
    |some o,true,false=>match wx X n st m o with
      |some (c,st',W)=>gz X n T ops E r ⟨aK.listed.setIfInBounds i true,false,false,aK.lx,aK.all⟩ [] (W++V) (c::A) st' k
      |none=>none
    |_,_,_=>none
  |.w i p e::r,aK,_,V,A,st,k=>match nth ops i,nth ops p,nth ops e,nth ops (e+1),nth ops (e+2),Ld ops.toArray E aK.listed i p e with
    |some u,some t,some h,some l,some q,true=>match Bx X n st u t h l q with
      |some (c,st',W)=>gz X n T ops E r ⟨((((aK.listed.setIfInBounds i true).setIfInBounds p true).setIfInBounds e true).setIfInBounds (e+1) true).setIfInBounds (e+2) true,false,false,aK.lx,aK.all⟩ [] (W++V) (c::A) st' k
      |none=>none
    |_,_,_,_,_,_=>none
  |.c i aH::r,aK,_,V,A,st,k=>match nth ops i,Region.ready .any ops.toArray aK.listed==[i],!gp E aK.listed i || (aK.pre&&(qA st.H aH || (!aK.all&&yz st.H aH)))with
    |some o,true,true=>wy X n T aH V A st (λb f a st'=>gz X n T ops E r ⟨aK.listed.setIfInBounds i true,false,aK.pre&&(qA st.H aH || (!aK.all&&yz st.H aH)),false,aK.all⟩ b f a st' k) o
    |_,_,_=>none
  |.g i::r,aK,G,V,A,st,k=>match nth ops i,Region.ready .any ops.toArray aK.listed==[i],gp E aK.listed i with
    |some o,true,false=>yP X n T (eU ops) G V A st (λb f a st'=>gz X n T ops E r ⟨aK.listed.setIfInBounds i true,false,false,false,aK.all⟩ b f a st' k) o
    |_,_,_=>none
  |.z id::r,aK,_,V,A,st,k=>match cT id st with
    |some st'=>gz X n T ops E r ⟨aK.listed,false,aK.pre&&!aK.all,false,aK.all⟩ [] V A st' k
    |none=>none
  |.f::r,aK,G,V,A,st,k=>match E.isEmpty || aK.pre with
    |true=>gz X n T ops E r ⟨aK.listed,true,true,true,aK.all⟩ G V A st k
    |false=>none
variable {M:Bool} {n:Nat} {T:List (bw X)} {fy st st':aO} {Q:Exit->aO->Prop} {ops:List Oper} {o:Oper} {r:aY} {V:b6} {A:eG} {E:b6} {aK:iv} {fuel i:Nat}
theorem j5{k:iv->gy->b6->eG->aO->Option aY}(a:∀aK G V A st,k aK G V A st=some r->∀c∈A,c=true):∀ {is:List rN} {aK:iv} {G:gy} {V:b6} {A:eG} {st:aO},gz X n T ops E is aK G V A st k=some r->∀c∈A,c=true
  |[],aK,G,V,A,st,h=>by
    unfold gz at h;exact a _ _ _ _ _ h
  |.t i m::is,aK,G,V,A,st,h=>by
    unfold gz at h
    split at h
    · split at h
      · split at h
        · exact λc U=>j5 a h c (mem_cons_of_mem _ U)
        · cases h
      · split at h
        · split at h
          · split at h
            · exact λc U=>j5 a h c (mem_cons_of_mem _ U)
            · cases h
          · cases h
        · cases h
      · cases h
    · cases h
  |.m i::is,aK,G,V,A,st,h=>by
    unfold gz at h
    split at h
    · split at h
      · split at h
        · exact j5 a h
        · cases h
      · cases h
    · cases h
  |.s i::is,aK,G,V,A,st,h=>by
    unfold gz at h
    split at h
    · split at h
      · split at h
        · exact λc U=>j5 a h c (mem_cons_of_mem _ U)
        · split at h
          · exact λc U=>j5 a h c (mem_cons_of_mem _ U)
          · cases h
      · cases h
    · cases h
  |.k i::is,aK,G,V,A,st,h=>by
    unfold gz at h
    split at h
    · split at h
      · split at h
        · split at h
          · exact λc U=>j5 a h c (mem_cons_of_mem _ U)
          · cases h
        · split at h
          · exact λc U=>j5 a h c (mem_cons_of_mem _ U)
          · cases h
        · cases h
      · cases h
    · cases h
  |.u i m::is,aK,G,V,A,st,h=>by
    unfold gz at h
    split at h
    · split at h
      · exact λc U=>j5 a h c (mem_cons_of_mem _ U)
      · cases h
    · cases h
  |.w i p e::is,aK,G,V,A,st,h=>by
    unfold gz at h
    split at h
    · split at h
      · exact λc U=>j5 a h c (mem_cons_of_mem _ U)
      · cases h
    · cases h
  |.c i aH::is,aK,G,V,A,st,h=>by
    unfold gz at h
    split at h
    · exact(ux (db.refl st) h).1
    · cases h
  |.g i::is,aK,G,V,A,st,h=>by
    unfold gz at h
    split at h
    · exact RZ h
    · cases h
  |.z id::is,aK,G,V,A,st,h=>by
    unfold gz at h
    split at h
    · exact j5 a h
    · cases h
  |.f::is,aK,G,V,A,st,h=>by
    unfold gz at h
    split at h
    · exact j5 a h
    · cases h
theorem Sq(d:X.a6.ok X.P){R:Nat->Prop}{W:World}{aE:fj}{aq:b6}{env:Nat->Loc}{B:Nat->Prop}{ak:World}{H C:c2}{L:cU}{j h:bC}{a:Act}{w:World}{c:Bool}{G:gy}{aH:List (Nat×Bool)}{bN:bq}(ah:bK X R W aE n aq env B ak H ⟨L,j⟩ a w)(e:bJ env B ak h C)(cJ:C.Sublist H)(f:eR (eU ops) G L)(al:∀p∈aH,o3 (eU ops) L p)(b:uv X (eU ops) aH G ⟨L,h⟩ o.op=some (c,bN))(U:c=true) :
    ∃v,dU env B ak bN v/\∀w',(re o.op=true->bZ (λk=>R k\/B k) ak C w')->(execOp a.eval o).run X.P w'=.ok (.value v) w':=by
  have g:bK X R W aE n [] env B ak C ⟨L,h⟩ { tmps:=a.tmps,defers:=aE.d } w:=⟨ah.size,rfl,ah.has,e,ah.aU.e2 (by simpa using cJ.trans (List.sublist_append_left _ _)),ah.sub,ah.new,ah.dr,ah.base,ah.eg⟩
  obtain⟨v,I,J⟩:=RF d g f al b U;refine⟨v,I,λw' i=>?_⟩
  have:=J w' (by simpa using i)
  exact this
theorem Fp(an:X.a6.ok X.P){m d:Nat}{sv:cd}{R:Nat->Prop}{W:World}{aE:fj}{p:Nat->Prop}{q:World}{c7:c2}{F:World->Prop}{aq:b6}{env:Nat->Loc}{B:Nat->Prop}{ak:World}{H:c2}{a:Act}{w:World}{N:Exit->Act->World->Prop}(hi:nth ops i=some o)(bk:Fo ops.toArray E i m aK=true)(ad:o.dst=some d)(ay:blt d n=true)(ah:bK X R W aE n aq env B ak H st a w)(b:mn R aK p q c7 F B ak H)(v:Value)(ai:eK env B ak sv v)(aG:∀T:World->Prop,(∀w',T w'->re o.op=true->bZ (λk=>R k\/B k) ak (yU aK.all m H) w')->YieldsIf X.P ops.toArray T o v a)(Q:∀aX,bK X R W aE n aq env B ak H ⟨(d,sv)::st.L,st.H⟩ aX w->mn R (aK.next i) p q c7 F B ak H->hc X.P ops.toArray N (λj l w=>(gp E l j=true->bZ (λk=>R k\/p k) q c7 w)/\F w) fuel (aK.next i).listed aX w) :
    hc X.P ops.toArray N (λj l w=>(gp E l j=true->bZ (λk=>R k\/p k) q c7 w)/\F w) (fuel+1) aK.listed a w:=by
  have c:=mo hi;have s:=b.F ah;have P:=ah.set ai (show df n (kW aq aE) ((d,v)::full a) (a.put o.dst v) by rw[ad];exact ah.cf.put d v (ef ay));have af:mn R (aK.next i) p q c7 F B ak H:=⟨b.early,b.pre,b.cT,b.qs⟩
  have go:=Q _ P af;unfold Fo at bk
  split at bk
  · simp only[tX,c,and_eq_true,not_eq_true']at bk
    obtain⟨⟨f,C⟩,t,u⟩:=bk;obtain⟨ot,D⟩:=Qr C;exact JF (E.elem i) v c f id ot (aG _ λw' _ ae=>by rw[u]at ae;cases ae) (λhe=>b.T (D he) ah) s go
  · simp only[tX,c,and_eq_true]at bk
    obtain⟨⟨⟨f,C⟩,t⟩,al⟩:=bk;obtain⟨ot,D⟩:=Qr C;refine JF (E.elem i) v c f id ot (aG _ λw' A _=>?_) (λhe=>b.T (D he) ah) s go;have g:=A.2;rw[b.cT al]at g;refine⟨g,λk aa=>?_,(λ_ h=>by cases h),List.Pairwise.nil⟩;have ag:=ah.aU.base k aa;have Y:=ah.aU.below.block k aa;have G:=g.block k aa;rw[<- Y,Array.getElem?_eq_getElem ag]at G;exact(Array.getElem?_eq_some_iff.1 G).1
  · simp only[tX,c,and_eq_true]at bk
    obtain⟨⟨⟨⟨f,r⟩,t⟩,V⟩,z⟩:=bk;refine JF true v c f (λ_=>rfl) (λ_=>r) (aG _ λw' A _=>?_) (λ_=>b.T z ah) s go;have g:=A.1 rfl;obtain⟨U,Z,ab⟩:=b.early V;rw[U,Z,ab]at g;exact g
  · simp only[tX,c,and_eq_true,not_eq_true']at bk
    obtain⟨⟨⟨f,r⟩,t,u⟩,z⟩:=bk;simp only[rp,and_eq_true]at f;obtain⟨⟨⟨O,am⟩,aj⟩,S⟩:=f;refine hc.aei c (Region.noSelect_spec am) O _ _ _ _ (λj ac y L M K=>⟨Region.free_spec c aj j ac y L M K,?_⟩) (by simpa using S) (aG F λw' _ ae=>by rw[u]at ae;cases ae) s (λ_=>b.T z ah) go;unfold Sm at r;rw[List.all_eq_true]at r;have I:=r j (List.mem_range.2 (Array.getElem?_eq_some_iff.1 y).1);simp only[or_eq_true,y,Array.any_eq_true]at I
    rcases I with(((I|I)|I)|I)|⟨e,he,I⟩
    · exact absurd (by simpa using I) L
    · rw[M]at I;cases I
    · exact .inl I
    · exact .inr (.inl I)
    · rw[and_eq_true,or_eq_true]at I
      rcases I.2 with J|J
      · exact absurd (by simpa using J) (K _ (Array.getElem_mem he) I.1)
      · exact .inr (.inr ⟨_,Array.getElem_mem he,I.1,J⟩)
  · cases bk
theorem Sr{H:bC}{aH:dZ}{pre a:Bool}(h:(pre&&(qA H aH || (!a&&yz H aH)))=true):pre=true/\∀c,rq a c=true->wa H aH c=true:=by
  rw[and_eq_true,or_eq_true,and_eq_true]at h;refine⟨h.1,λc U=>?_⟩;unfold wa
  rcases h.2 with I|I
  · rw[I];rfl
  · unfold rq at U
    have J:a=false:=by simpa using I.1
    rw[J,Bool.false_or]at U;rw[U,I.2]
    simp
theorem Bz{pre':Bool}{j:bp->Bool}(hi:nth ops i=some o)(al:uk X n o j st st')(D:pre'=true->aK.pre=true/\∀c,rq aK.all c=true->j c=true)(s:(!gp E aK.listed i || pre')=true)(h:kk X M n ops E fuel ⟨aK.listed.setIfInBounds i true,false,pre',false,aK.all⟩ st' Q):ru X M n ops E fuel aK st Q i:=by
  intro R W aE p q c7 F aq env B ak H a w z ah m;refine⟨o,mo hi,al R W aE aq env B ak H a w ah _ _ λaX w' env' B' l H' e r b C=>?_⟩;have g:mn R ⟨aK.listed.setIfInBounds i true,false,pre',false,aK.all⟩ p q c7 F B' l H':=⟨λh=>(by cases h),λh=>by
    have t:pre'=true:=h;obtain⟨u,v⟩:=D t;obtain⟨f,g2,g3,A⟩:=m.pre u;exact⟨λc U=>⟨C c (f c U).1 (v c (f c U).2),(f c U).2⟩,g2,λk aa=>r k (g3 k aa),A.trans ⟨b.os,b.tape,b.output,b.size,λk aa=>b.block k (aa.imp id (g3 k))⟩⟩,λh=>(by cases h),λw d=>m.qs w (b.trans ⟨d.os,d.tape,d.output,d.size,λk aa=>d.block k (aa.imp id (r k))⟩)⟩
  refine⟨⟨λy=>g.T ?_ e,g.F e⟩,h R W aE p q c7 F aq env' B' l H' aX w' z e g⟩;rw[y]at s;exact s
theorem aem(hi:nth ops i=some o)(al:∀(R:Nat->Prop) (W:World) (aE:fj) (aq:b6) (env:Nat->Loc) (B:Nat->Prop) (ak:World) (H:c2) (a:Act) (w:World),bK X R W aE n aq env B ak H st a w->∀(KK:Act->World->Prop),(∀aX w' env' B' b H',bK X R W aE n aq env' B' b H' st' aX w'->(∀k,B k->B' k)->c9 (λk=>R k\/B k) ak b->KK aX w')->fh X.P ops.toArray o KK a w)(q:gp E aK.listed i=false)(h:kk X M n ops E fuel ⟨aK.listed.setIfInBounds i true,false,false,false,aK.all⟩ st' Q):ru X M n ops E fuel aK st Q i:=by
  intro R W aE f g c7 F aq env B ak H a w l ah m;refine⟨o,mo hi,al R W aE aq env B ak H a w ah _ λaX w' env' B' b H' e p r=>?_⟩;have j:mn R ⟨aK.listed.setIfInBounds i true,false,false,false,aK.all⟩ f g c7 F B' b H':=⟨λh=>(by cases h),λh=>(by cases h),λh=>(by cases h),λw c=>m.qs w (r.trans ⟨c.os,c.tape,c.output,c.size,λk aa=>c.block k (aa.imp id (p k))⟩)⟩
  exact⟨⟨λd=>(by rw[q]at d;cases d),j.F e⟩,h R W aE f g c7 F aq env' B' b H' aX w' l e j⟩
theorem uz(a:(Region.ready .any ops.toArray aK.listed==[i])=true)(h:ru X M n ops E fuel aK st Q i):kk X M n ops E (fuel+1) aK st Q:=JJ (beq_iff_eq.1 a) (yh h JI)
theorem jn.Ss{bN:bq}{d:Nat}(al:jn X st o bN)(b:o.guard=none/\o.dst=some d)(ay:blt d n=true):uk X n o (λ_=>true) st ⟨(d,.a bN)::st.L,st.H⟩:=by
  intro R W aE aq env B ak H a w ah KK l e;obtain⟨v,I,J⟩:=al ah;exact iD ah.cf b.1 b.2 (ef ay) (J w λ_=>ah.aU) λaX c=>e aX w env B ak H (ah.set I c) (λ_ h=>h) (c9.refl _ _) λ_ h _=>h
theorem anF(v:X.a6.ok X.P){g j l:Oper}{c:Bool}{y:b6}(I:nth ops i=some g)(J:nth ops (i+1)=some j)(ag:nth ops (i+2)=some l)(o:(Region.ready .any ops.toArray aK.listed==[i]&&(Region.ready .any ops.toArray (aK.listed.setIfInBounds i true)==[i+1]&&Region.ready .any ops.toArray ((aK.listed.setIfInBounds i true).setIfInBounds (i+1) true)==[i+2]))=true)(s:(gp E aK.listed i || (gp E (aK.listed.setIfInBounds i true) (i+1) || gp E ((aK.listed.setIfInBounds i true).setIfInBounds (i+1) true) (i+2)))=false)(ai:Lc X n st g j l=some (c,st',y))(U:c=true)(h:kk X M n ops E fuel ⟨((aK.listed.setIfInBounds i true).setIfInBounds (i+1) true).setIfInBounds (i+2) true,false,false,aK.lx,aK.all⟩ st' Q):kk X M n ops E (fuel+3) aK st Q:=by
  intro R W aE C D c7 F aq env B ak H a w A ah r;simp only[and_eq_true,beq_iff_eq]at o;obtain⟨m,q,p⟩:=o;simp only[Bool.or_eq_false_iff]at s;obtain⟨N,O,P⟩:=s;have e:=aeh (ops:=ops.toArray) v ai U ah (λb5 aa=>r.qs b5 aa) (λaX w' H' z=>h R W aE C D c7 F aq env B ak H' aX w' A z r.lost);refine⟨λb=>(by rw[m]at b;cases b),λk aa=>?_⟩;rw[m]at aa;have f:k=i:=by simpa using aa
  subst f;refine⟨g,mo I,e.mono λV b5 ⟨K,e⟩=>⟨⟨λd=>(by rw[N]at d;cases d),K⟩,?_⟩⟩;refine⟨λb=>(by rw[q]at b;cases b),λG t=>?_⟩;rw[q]at t;have f:G=k+1:=by simpa using t
  subst f;refine⟨j,mo J,e.mono λS Y ⟨g2,e⟩=>⟨⟨λd=>(by rw[O]at d;cases d),g2⟩,?_⟩⟩;refine⟨λb=>(by rw[p]at b;cases b),λL u=>?_⟩;rw[p]at u;have f:L=k+2:=by simpa using u
  subst f;exact⟨l,mo ag,e.mono λT Z ⟨g3,e⟩=>⟨⟨λd=>(by rw[P]at d;cases d),g3⟩,e⟩⟩
structure aen(X:bu)(n:Nat)(st:aO)(k7 j4 bf bt cj:Oper)(c:Bool)(st':aO)(W:b6) where
  d:Nat
  jH:Nat
  d1:Nat
  d2:Nat
  lE:Nat
  fG:Nat
  t:TypeId
  fQ:TypeId
  gE:TypeId
  id:Nat
  bE:cr
  dS:cr
  br:a7
  bj:a7
  l:List (br.D×bj.D)
  kH:Option (List MapEntry×Nat)
  z:br.D
  g:Bool
  St:Bool
  tD:Bool
  g2:Bool
  cG:Bool
  rJ:bq
  bN:bq
  sp:bq
  ej:bq
  gx:bj.D
  y:Operand
  aeo:k7.op=.lookup t (.tmp lE) (.tmp fG) false
  cY:k7.guard=none/\k7.dst=some d
  ow:j4.guard=none/\j4.dst=some jH
  K8:bf.op=.mapEntry t (.tmp lE) (.tmp fG)
  I:bf.guard=none/\bf.dst=some d1
  K9:bt.op=.extract (.tmp d1) 1
  J:bt.guard=none/\bt.dst=some d2
  La:cj.op=.entryStore t (.tmp lE) (.tmp d2) y
  ag:cj.guard=none/\cj.dst=none
  ay:blt d n=true
  aep:blt jH n=true
  mP:blt d1 n=true
  ln:blt d2 n=true
  Fq:lE≠d/\lE≠jH/\lE≠d1/\lE≠d2
  Su:fG≠d/\fG≠jH
  pu:yb j4.op=true/\re j4.op=false
  bk:X.a6.find t=some bE
  dq:bE.ti.desc=.map fQ gE
  he:X.a6.find gE=some dS
  hu:bz X st.L (.tmp lE)=some (true,.c (.dY id))
  ai:bz X st.L (.tmp fG)=some (g,rJ)
  ae:bm st.H id=some (.mp br bj l kH)
  nh:dec br rJ.cells=some (St,z,[])
  aa:yO X fQ br=true
  Sv:mu br rJ=true
  bO:Bj bj dS.ti.zero=true
  nM:rC bj ((dk br bj l z).getD bj.zero)=some bN
  lf:vz X ⟨(d,.a bN)::st.L,st.H⟩ j4.op=some (tD,sp)
  aG:bz X ((d2,cd.a (.c .dead))::(d1,cd.a (.c .dead))::(jH,.a sp)::(d,.a bN)::st.L) y=some (g2,ej)
  sT:dec bj ej.cells=some (cG,gx,[])
  aeq:mu bj ej=true
  U:c=(g&&(St&&(tD&&(g2&&cG))))
  dG:st'=⟨(d2,.a (.c .dead))::(d1,.a (.c .dead))::(jH,.a sp)::(d,.a bN)::st.L,fc id (.mp br bj (e6 br bj l z gx) none) st.H⟩
  cS:W=[d2,d1,jH,d,id]
theorem Sw{p o k l m:Oper}{c:Bool}{j:b6}(ai:Bx X n st p o k l m=some (c,st',j)):Nonempty (aen X n st p o k l m c st' j):=by
  unfold Bx at ai
  split at ai
  · rename_i d t lE fG _ _ _ jH d1 N I J _ _ _ d2 L _ _ _ O K M y _ _ _ C B
    split at ai
    · rename_i ad bk hu s
      simp only[and_eq_true,not_eq_true']at ad;obtain⟨⟨x3,F,q,r⟩,⟨e,f,g,h,i,a,b⟩,⟨G,H,u,v,w,z⟩,E,A⟩:=ad;have e:=eq_of_beq_eq_true e;have f:=eq_of_beq_eq_true f;have g:=eq_of_beq_eq_true g;have h:=eq_of_beq_eq_true h;have i:=eq_of_beq_eq_true i;have a:=eq_of_beq_eq_true a;have b:=eq_of_beq_eq_true b;subst e;subst f;subst g;subst h;subst i;subst a;subst b
      split at ai
      · rename_i ae he
        split at ai
        · rename_i nh aa
          simp only[and_eq_true]at aa
          split at ai
          · rename_i nM
            split at ai
            · rename_i lf
              split at ai
              · rename_i aG
                split at ai
                · rename_i sT D
                  cases ai;exact⟨⟨d,jH,_,_,_,_,_,_,_,_,_,_,_,_,_,_,_,_,_,_,_,_,_,_,_,_,_,_,rfl,⟨rfl,rfl⟩,⟨C,B⟩,rfl,⟨rfl,rfl⟩,rfl,⟨rfl,rfl⟩,rfl,⟨rfl,rfl⟩,x3,F,q,r,⟨ne_of_beq_eq_false G,ne_of_beq_eq_false H,ne_of_beq_eq_false u,ne_of_beq_eq_false v⟩,⟨ne_of_beq_eq_false w,ne_of_beq_eq_false z⟩,⟨E,A⟩,bk,rfl,he,hu,s,ae,nh,aa.1,aa.2.1,aa.2.2,nM,lf,aG,sT,D,rfl,rfl,rfl⟩⟩
                · cases ai
              · cases ai
            · cases ai
          · cases ai
        · cases ai
      · cases ai
    · cases ai
  · cases ai
theorem aew{i h e f g:Oper}{c:Bool}{a:b6}(ai:Bx X n st i h e f g=some (c,st',a)):db a st st':=by
  obtain⟨bb⟩:=Sw ai;have key:∀(s:aO) (V:b6),s=⟨(bb.d2,.a (.c .dead))::(bb.d1,.a (.c .dead))::(bb.jH,.a bb.sp)::(bb.d,.a bb.bN)::st.L,fc bb.id (.mp bb.br bb.bj (e6 bb.br bb.bj bb.l bb.z bb.gx) none) st.H⟩->V=[bb.d2,bb.d1,bb.jH,bb.d,bb.id]->db V st s:=λs V b j=>by
    subst b;subst j;exact⟨(cz.cons (cz.cons (cz.cons (cz.cons (cz.refl _))))),(k3 (k4 _ _)).more λq d=>(gN (gN (gN (gN d).2).2).2).2⟩
  exact key _ _ bb.dG bb.cS
theorem hc.Sx{P:Program}{ops:Array Oper}{Q:Exit->Act->World->Prop}{S S':Nat->Array Bool->World->Prop}{e:Nat}(f:∀j l w,j≠e->j≠e+1->S j l w->S' j l w):∀(fuel:Nat) (listed:Array Bool) (a:Act) (w:World),listed.getD e true=true->listed.getD (e+1) true=true->hc P ops Q S fuel listed a w->hc P ops Q S' fuel listed a w
  |0,_,_,_,_,_,h=>h
  |fuel+1,listed,_,_,I,J,h=>⟨h.1,λj d=>by
    obtain⟨o,i,ai⟩:=h.2 j d;have hu:=(mem_ready.1 d).1;have c:∀q,listed.getD q true=true->j≠q:=λq b g=>by
      subst g
      rcases lt_or_ge j listed.size with aP|aP
      · simp[aP]at hu b;rw[hu]at b;cases b
      · simp[Array.getElem?_eq_none aP]at hu
    have aa:∀q,listed.getD q true=true->(listed.setIfInBounds j true).getD q true=true:=λq b=>by rw[getD_set_ne true (c q b)];exact b
    exact⟨o,i,ai.mono λaX w' aP=>⟨f _ _ _ (c e I) (c (e+1) J) aP.1,hc.Sx f fuel _ aX w' (aa e I) (aa (e+1) J) aP.2⟩⟩⟩
theorem yV{L:cU}{s d:Nat}{v:cd}(h:s≠d):bz X ((d,v)::L) (.tmp s)=bz X L (.tmp s):=by
  unfold bz;simp only[cI,if_neg h]
theorem aey{P:Program}{ops:List Oper}{Q:Exit->Act->World->Prop}{S:Nat->Array Bool->World->Prop}{e fuel:Nat}{f g i:Oper}{l:Array Bool}{a:Act}{w:World}(I:nth ops e=some f)(J:nth ops (e+1)=some g)(ag:nth ops (e+2)=some i)(n:Region.ready .any ops.toArray l=[e])(r:Region.ready .any ops.toArray (l.setIfInBounds e true)=[e+1])(p:Region.ready .any ops.toArray ((l.setIfInBounds e true).setIfInBounds (e+1) true)=[e+2])(h:fh P ops.toArray f (λo b5=>S e l b5/\fh P ops.toArray g (λm j=>S (e+1) (l.setIfInBounds e true) j/\fh P ops.toArray i (λt s=>S (e+2) ((l.setIfInBounds e true).setIfInBounds (e+1) true) s/\hc P ops.toArray Q S fuel (((l.setIfInBounds e true).setIfInBounds (e+1) true).setIfInBounds (e+2) true) t s) m j) o b5) a w):hc P ops.toArray Q S (fuel+3) l a w:=by
  refine⟨λb=>(by rw[n]at b;cases b),λk aa=>?_⟩;rw[n]at aa;have v:k=e:=by simpa using aa
  subst v;refine⟨f,mo I,h.mono λo b5 ⟨u,h⟩=>⟨u,?_⟩⟩;refine⟨λb=>(by rw[r]at b;cases b),λq c=>?_⟩;rw[r]at c;have d:q=k+1:=by simpa using c
  subst d;refine⟨g,mo J,h.mono λm j ⟨g2,h⟩=>⟨g2,?_⟩⟩;refine⟨λb=>(by rw[p]at b;cases b),λq c=>?_⟩;rw[p]at c;have d:q=k+2:=by simpa using c
  subst d;exact⟨i,mo ag,h⟩
theorem aez(k:Nat):¬(k+2=k\/k+2=k+1):=by omega
theorem aeA{l:Array Bool}{e:Nat}(h:e<l.size):(((l.setIfInBounds e true).setIfInBounds (e+1) true).setIfInBounds (e+2) true).getD e true=true:=by
  simp[h]
theorem aeB{l:Array Bool}{e:Nat}(h:e+1<l.size):(((l.setIfInBounds e true).setIfInBounds (e+1) true).setIfInBounds (e+2) true).getD (e+1) true=true:=by
  simp[h]
set_option maxHeartbeats 1000000 in
theorem aeC(D:X.a6.ok X.P){t ac aA aC aD:Oper}{c:Bool}{a3:b6}{p e:Nat}(aw:nth ops i=some t)(ax:nth ops p=some ac)(I:nth ops e=some aA)(J:nth ops (e+1)=some aC)(ag:nth ops (e+2)=some aD)(V:Ld ops.toArray E aK.listed i p e=true)(ai:Bx X n st t ac aA aC aD=some (c,st',a3))(U:c=true)(h:kk X M n ops E fuel ⟨((((aK.listed.setIfInBounds i true).setIfInBounds p true).setIfInBounds e true).setIfInBounds (e+1) true).setIfInBounds (e+2) true,false,false,aK.lx,aK.all⟩ st' Q):kk X M n ops E (fuel+3+1+1) aK st Q:=by
  intro R W aE v y c7 F aq env B ak H a w a6 ah L;obtain⟨bb⟩:=Sw ai;have aF:=bb.U.symm.trans U;simp only[and_eq_true]at aF;obtain⟨aJ,aH,ba,aP,aR⟩:=aF;unfold Ld at V;rw[and_eq_true]at V;obtain⟨aI,aL⟩:=V;simp only[and_eq_true]at aI aL;obtain⟨⟨⟨aN,al⟩,bh⟩,a9⟩:=aI;obtain⟨⟨⟨⟨ay,aB⟩,az⟩,⟨⟨⟨⟨am,an⟩,ao⟩,ap⟩,ar⟩⟩,⟨⟨z,A⟩,C⟩⟩:=aL;simp only[beq_iff_eq]at ay aB az;simp only[not_eq_true']at am an ao ap ar z A;have z:=ne_of_beq_eq_false z;have A:=ne_of_beq_eq_false A;have C:=ef C;have aM:=L.F ah;have u:∀ {l:Array Bool} {j:Nat},E.elem j=false->gp E l j=false:=λ{l j} o=>by unfold gp;rw[o];rfl
  have K:=Bi D bb.aa;obtain⟨m,au,bc⟩:=R8 D K bb.bk bb.dq bb.he bb.ae ah;have bf:dU env B ak bb.bN m:=(bc (RV bb.bO)).bN bb.nM;obtain⟨bn,a5,b,ad,rfl⟩:=ah.aI bb.hu rfl;obtain⟨vx,aG,a8⟩:=ah.aI bb.ai aJ;rw[eL.key K.rK K.eq.key (eL.vS bb.nh aH bb.Sv a8)]at aG
  let s:World->Prop:=λb5=>∀b,env bb.id=.blk b->(Instr.lookup bb.t (.map (some b)) (.agg (bb.br.cQ bb.z).toArray) false).run X.P b5=.ok m b5
  have aS:∀b5,s b5->(execOp a.eval t).run X.P b5=.ok (.value m) b5:=λb5 g=>by
    simp[execOp,bb.aeo,ah.cf.aI a5,ah.cf.aI aG,g b ad]
  -- the state xQ the lookup and the new value
  have Z:=ah.set (sv:=.a bb.bN) bf (show df n (kW aq aE) ((bb.d,m)::full a) (a.put t.dst m) by rw[bb.cY.2];exact ah.cf.put bb.d m (ef bb.ay));obtain⟨S,aT,aU⟩:=DR D bb.lf ba Z;have a7:=Z.set (sv:=.a bb.sp) aT (show df n (kW aq aE) ((bb.jH,S)::full (a.put t.dst m)) ((a.put t.dst m).put ac.dst S) by rw[bb.ow.2];exact Z.cf.put bb.jH S (ef bb.aep))
  -- stronger: the lookup may come xQ the entry
  refine hc.JK (S':=λj l w=>((gp E l j=true->bZ (λk=>R k\/v k) y c7 w)/\F w)/\(j=e\/j=e+1->s w)) (λ_ _ _ h=>h.1) _ _ _ _ ?_;simp only[rp,and_eq_true]at aN al;obtain⟨⟨⟨aV,aO⟩,aW⟩,aY⟩:=aN;obtain⟨⟨⟨aZ,_⟩,a0⟩,a1⟩:=al;have af:∀ {q:Nat},AK E q=true->∀(j:Nat) (l:Array Bool) (w:World),(((gp E (l.setIfInBounds q true) j=true->bZ (λk=>R k\/v k) y c7 w)/\F w)/\(j=e\/j=e+1->s w))->(((gp E l j=true->bZ (λk=>R k\/v k) y c7 w)/\F w)/\(j=e\/j=e+1->s w)):=λa2 j l w d=>⟨⟨λhe=>d.1.1 (JE a2 he),d.1.2⟩,d.2⟩
  have av:∀j∈xQ ops.toArray i,aK.listed.getD j true=false/\yc ops.toArray i (xQ ops.toArray i) j=true:=λj o=>by
    have:=List.all_eq_true.1 bh j o
    simpa using this
  refine hc.first (T:=λw=>s w/\F w) (mo aw) (Region.noSelect_spec aO) (xQ ops.toArray i) (λj o=>Qp (av j o).2) (af aV) _ _ _ _ (λj o=>(av j o).1) ?_ (by simpa using aY) (.inl ⟨by simp[Region.wanted,bb.cY.1],λb5 g=>aS b5 g.1⟩) ⟨au,aM⟩ ?_ (λl b5 g=>⟨⟨λhe=>(by rw[u am]at he;cases he),g.2⟩,λ_=>g.1⟩)
  · intro j Y O N P ab
    refine⟨Region.free_spec (mo aw) aW j Y O N P ab,?_⟩
    have:=List.all_eq_true.1 a9 j (List.mem_range.2 (Array.getElem?_eq_some_iff.1 O).1)
    simp only[or_eq_true,beq_iff_eq]at this
    rcases this with(((g1|g1)|g1)|g1)|g1
    · exact absurd g1 N
    · rw[P]at g1;cases g1
    · exact .inr λl b5 _ d=>⟨d.2 (.inl g1),d.1.2⟩
    · exact .inr λl b5 _ d=>⟨d.2 (.inr g1),d.1.2⟩
    · exact .inl (by simpa using g1)
  refine hc.first (mo ax) (Region.noSelect_spec aO) [] (λ_ h=>by cases h) (af aZ) _ _ _ _ (λ_ h=>by cases h) ?_ (by simpa using a1) (.inl ⟨by simp[Region.wanted,bb.ow.1],λb5 _=>aU b5 λh=>by rw[bb.pu.2]at h;cases h⟩) aM ?_ (λl b5 g=>⟨⟨λhe=>(by rw[u an]at he;cases he),g⟩,λhe=>he.elim (λq=>absurd q z) (λq=>absurd q A)⟩)
  · intro j Y O N P ab
    exact⟨Region.free_spec (mo ax) a0 j Y O N P ab,.inr λl b5 _ d=>d.1.2⟩
  -- the entry
  have aj:bz X ((bb.jH,cd.a bb.sp)::(bb.d,cd.a bb.bN)::st.L) (.tmp bb.lE)=some (true,.c (.dY bb.id)):=by rw[yV bb.Fq.2.1,yV bb.Fq.1];exact bb.hu
  have bd:bz X ((bb.jH,cd.a bb.sp)::(bb.d,cd.a bb.bN)::st.L) (.tmp bb.fG)=some (bb.g,bb.rJ):=by rw[yV bb.Su.2,yV bb.Su.1];exact bb.ai
  have bg:bz X ((bb.d2,cd.a (.c .dead))::(bb.d1,cd.a (.c .dead))::(bb.jH,cd.a bb.sp)::(bb.d,cd.a bb.bN)::st.L) (.tmp bb.lE)=some (true,.c (.dY bb.id)):=by rw[yV bb.Fq.2.2.2,yV bb.Fq.2.2.1];exact aj
  have r:=R9 (st:=⟨(bb.jH,cd.a bb.sp)::(bb.d,cd.a bb.bN)::st.L,st.H⟩) (ops:=ops.toArray) D K bb.K8 bb.I bb.mP bb.K9 bb.J bb.ln bb.La bb.ag bb.bk bb.dq bb.he aj bd aJ bb.nh aH bb.Sv bb.ae bg bb.aG aP bb.sT aR bb.aeq a7 au (G:=λb5=>F b5/\s b5) (λb5 aa ae=>⟨L.qs b5 aa,ae⟩) (λb5 aa=>L.qs b5 aa)
    (KK:=λaX w'=>hc X.P ops.toArray (λe a w=>e=.normal/\∃st',Q e st'/\mQ X R W aE M n st' a w) (λj l w=>((gp E l j=true->bZ (λk=>R k\/v k) y c7 w)/\F w)/\(j=e\/j=e+1->s w)) fuel (((((aK.listed.setIfInBounds i true).setIfInBounds p true).setIfInBounds e true).setIfInBounds (e+1) true).setIfInBounds (e+2) true) aX w') (λaX w' H' a4=>by
      have aQ:bK X R W aE n aq env B ak H' st' aX w':=by rw[bb.dG];exact a4
      have be:=h R W aE v y c7 F aq env B ak H' aX w' a6 aQ L.lost;refine hc.Sx (λj l w I J d=>⟨d,λh=>h.elim (λq=>absurd q I) (λq=>absurd q J)⟩) _ _ _ _ ?_ ?_ be
      · exact aeA (by simpa using Nat.lt_of_succ_lt C)
      · exact aeB (by simpa using C))
  exact aey I J ag ay aB az (r.mono λbk b5 ⟨g1,r⟩=>⟨⟨⟨λf=>(by rw[u ao]at f;cases f),g1.1⟩,λ_=>g1.2⟩,r.mono λbi bl ⟨g2,r⟩=>⟨⟨⟨λf=>(by rw[u ap]at f;cases f),g2.1⟩,λ_=>g2.2⟩,r.mono λbj bm ⟨g3,r⟩=>⟨⟨⟨λf=>(by rw[u ar]at f;cases f),g3⟩,λf=>(aez e f).elim⟩,r⟩⟩⟩)
theorem lW(l:X.a6.ok X.P){k:iv->gy->b6->eG->aO->Option aY}{r:aY}{c0:Nat}(t:∀aK G V A st,k aK G V A st=some r->∀c∈A,c=true)(aa:∀yd al an av st',eR (eU ops) al st'.L->db an fy st'->k yd al an av st'=some r->kk X M n ops E c0 yd st' Q):∀ {is:List rN} {aK:iv} {G:gy} {V:b6} {A:eG} {st:aO},eR (eU ops) G st.L->db V fy st->gz X n T ops E is aK G V A st k=some r->kk X M n ops E (c0+s0 is) aK st Q
  |[],aK,G,V,A,st,u,f,h=>by
    unfold gz at h;exact aa _ _ _ _ _ u f h
  |.t i m::is,aK,G,V,A,st,u,f,h=>by
    have one:∀ {d:Nat} {sv:cd},db (d::V) fy ⟨(d,sv)::st.L,st.H⟩:=λ{d sv}=>⟨cz.cons f.1,f.2.more λq ab=>(gN ab).2⟩
    unfold gz at h
    split at h
    · rename_i o hi bk
      split at h
      · rename_i d z C
        split at h
        · rename_i c bN b ay
          have U:=j5 t h c mem_cons_self;have N:=lW (is:=is) l t aa (u.drop d _) one h;intro R W aE S Y c7 F aq env B ak H a w O ah P;obtain⟨v,ae,aj⟩:∃v,dU env B ak bN v/\∀w',(re o.op=true->bZ (λk=>R k\/B k) ak (yU aK.all m H) w')->(execOp a.eval o).run X.P w'=.ok (.value v) w':=Sq l ah (Fl ah.heap).1 (Fl ah.heap).2 u (λ_ h=>by cases h) b U;exact Fp (sv:=.a bN) l hi bk C ay ah P v ae (λT ac=>.inl ⟨by simp[Region.wanted,z],λw' ad=>aj w' (ac w' ad)⟩) λaX K L=>N R W aE S Y c7 F aq env B ak H aX w O K L
        · cases h
      · rename_i j want d z C
        split at h
        · rename_i s af
          split at h
          · rename_i g ai
            split at h
            · rename_i c bN b ay ap
              have U:=j5 t h _ mem_cons_self;have ar:=ne_of_beq_eq_false ap;have aC:eR (eU ops) ((d,j,want)::ou (eU ops) d G) ((d,.may g bN)::st.L):=λe he=>by
                rcases List.mem_cons.1 he with rfl|he
                · exact⟨s,g,bN,af,by rw[EY ar];exact ai,by rw[cI,if_pos rfl]⟩
                · exact u.drop d _ e he
              have N:=lW l t aa aC one h;intro R W aE S Y c7 F aq env B ak H a w O ah P;have ao:=KM ah z af ai;cases g with
              |true=>
                obtain⟨v,ae,aj⟩:∃v,dU env B ak bN v/\∀w',(re o.op=true->bZ (λk=>R k\/B k) ak (yU aK.all m H) w')->(execOp a.eval o).run X.P w'=.ok (.value v) w':=Sq l ah (Fl ah.heap).1 (Fl ah.heap).2 u (EZ u ⟨s,af,ai⟩) b (A7 U rfl);exact Fp (sv:=.may true bN) l hi bk C ay ah P v ⟨λ_=>ae,λh=>by cases h⟩ (λT ac=>.inl ⟨ao,λw' ad=>aj w' (ac w' ad)⟩) λaX K L=>N R W aE S Y c7 F aq env B ak H aX w O K L
              |false=>exact Fp (sv:=.may false bN) l hi bk C ay ah P undef ⟨(λh=>by cases h),λ_=>rfl⟩ (λT ac=>.inr ⟨ao,rfl⟩) λaX K L=>N R W aE S Y c7 F aq env B ak H aX w O K L
            · cases h
          · cases h
        · cases h
      · cases h
    · cases h
  |.m i::is,aK,G,V,A,st,u,f,h=>by
    unfold gz at h
    split at h
    · rename_i o hi bk
      split at h
      · rename_i d xs z C az
        split at h
        · rename_i ay
          have one:db (d::V) fy ⟨(d,.da xs)::st.L,st.H⟩:=⟨cz.cons f.1,f.2.more λq ab=>(gN ab).2⟩
          have N:=lW (is:=is) l t aa (u.drop d _) one h;intro R W aE S Y c7 F aq env B ak H a w O ah P;obtain⟨v,I,J⟩:=P1 ah az;exact Fp l hi bk C ay ah P v I (λT ac=>.inl ⟨by simp[Region.wanted,z],λw' ad=>J w'⟩) λaX K L=>N R W aE S Y c7 F aq env B ak H aX w O K L
        · cases h
      · cases h
    · cases h
  |.s i::is,aK,G,V,A,st,u,f,h=>by
    unfold gz at h
    split at h
    · rename_i o hi y D
      split at h
      · rename_i z
        split at h
        · rename_i c st' W b
          have U:=j5 t h c mem_cons_self;exact uz y (Ey hi (KQ l b U) D rfl (lW l t aa eR.nil (f.trans (KR b)) h))
        · split at h
          · rename_i c st' b
            have U:=j5 t h c mem_cons_self;exact uz y (Qs l hi D b U rfl (lW l t aa eR.nil (f.trans (yL z b)) h))
          · cases h
      · cases h
    · cases h
  |.k i::is,aK,G,V,A,st,u,f,h=>by
    unfold gz at h
    split at h
    · rename_i o hi y am
      split at h
      · rename_i z
        split at h
        · rename_i d c bN C b
          split at h
          · rename_i ay
            have one:db (d::V) fy ⟨(d,.a bN)::st.L,st.H⟩:=⟨cz.cons f.1,f.2.more λq ab=>(gN ab).2⟩
            have U:=j5 t h c mem_cons_self;refine uz y (Bz (pre':=true) hi (jn.Ss (λah=>EW l b U ah) ⟨z,C⟩ ay) (λ_=>⟨am,λ_ _=>rfl⟩) (by simp) ?_);exact lW l t aa eR.nil one h
          · cases h
        · split at h
          · rename_i c st' Z b
            have U:=j5 t h c mem_cons_self;cases jX:aK.all with
            |true=>
              rw[jX,cond_true]at Z;refine uz y (Qu l hi (by rw[am,Bool.true_and];exact Z) b U rfl ?_);exact lW (is:=is) l t aa eR.nil (f.trans (yL z b)) h
            |false=>
              rw[jX,cond_false]at Z;simp only[and_eq_true]at Z;refine uz y (Qt l hi (by rw[am,Z.1,Z.2,jX];rfl) b U rfl ?_);exact lW (is:=is) l t aa eR.nil (f.trans (yL z b)) h
          · cases h
        · cases h
      · cases h
    · cases h
  |.u i m::is,aK,G,V,A,st,u,f,h=>by
    unfold gz at h
    split at h
    · rename_i o hi y D
      split at h
      · rename_i c st' W b
        have U:=j5 t h c mem_cons_self;exact uz y (Ey hi (KW l b U) D rfl (lW l t aa eR.nil (f.trans (KX b)) h))
      · cases h
    · cases h
  |.w i p e::is,aK,G,V,A,st,u,f,h=>by
    unfold gz at h
    split at h
    · rename_i aM aL aF aG aI cY ow I J ag y
      split at h
      · rename_i c st' aD b
        have U:=j5 t h c mem_cons_self;exact aeC l cY ow I J ag y b U (lW l t aa eR.nil (f.trans (aew b)) h)
      · cases h
    · cases h
  |.c i aH::is,aK,G,V,A,st,u,f,h=>by
    unfold gz at h
    split at h
    · rename_i o hi y D
      obtain⟨_,aJ,V2,I,J,ag⟩:=ux f h;exact uz y (Bz hi I Sr D (lW l t aa eR.nil J ag))
    · cases h
  |.g i::is,aK,G,V,A,st,u,f,h=>by
    unfold gz at h
    split at h
    · rename_i o hi y D
      obtain⟨d,g,bN,al,aB,au,ax,aA⟩:=R0 u f h;exact uz y (aem hi aA D (lW l t aa aB au ax))
    · cases h
  |.z id::is,aK,G,V,A,st,u,f,h=>by
    unfold gz at h
    split at h
    · rename_i st' b
      have aw:db [] st st':=by
        unfold cT at b
        split at b
        · cases b;exact⟨lA _ _ _,kI _ _ _⟩
        · cases b
      exact aat id b (lW (is:=is) l t aa eR.nil (f.trans aw) h)
    · cases h
  |.f::is,aK,G,V,A,st,u,f,h=>by
    unfold gz at h
    split at h
    · rename_i b
      exact aar b (lW (is:=is) l t aa u f h)
    · cases h
inductive s3 where
  |f (l:List rN)
  |b (l:List rN) (i j:Nat) (aH j0:dZ) (s5 s6:Option pV) (x y:s3)
  |s (l:List rN) (j:Nat) (aq:cZ) (t:s3)
  |t (l:List rN) (i j k:Nat) (aH j0 rs:dZ) (s5 s6 mk:Option pV) (x y z:s3)
def nk:s3->Nat
  |.f l=>s0 l
  |.b l _ _ _ _ _ _ x _=>nk x+1+s0 l
  |.s l _ _ t=>nk t+s0 l
  |.t l _ _ _ _ _ _ _ _ _ x _ _=>nk x+1+s0 l
def Fw{aY:Type}(z:Int):cZ->(Int->Option aY)->Option aY
  |[],_=>none
  |k::aq,f=>cond (decide (z=k)) (f k) (Fw z aq f)
theorem SI{aY:Type}{z:Int}{f:Int->Option aY}{r:aY}:∀ {aq:cZ},Fw z aq f=some r->f z=some r
  |[],h=>by cases h
  |k::aq,h=>by
    unfold Fw at h;cases ay:decide (z=k)with
    |true=>
      rw[ay,cond_true]at h;rw[of_decide_eq_true ay];exact h
    |false=>
      rw[ay,cond_false]at h;exact SI h
def Fx(j:Nat)(v:cd):cU->cU
  |[]=>[]
  |(k,u)::r=>match beq j k with
    |true=>(k,v)::r
    |false=>(k,u)::Fx j v r
theorem SJ{j:Nat}{v:cd}:∀ {L:cU},bm L j=some v->Fx j v L=L
  |[],_=>rfl
  |(k,u)::r,h=>by
    unfold bm at h;unfold Fx
    split at h
    · rename_i ad
      cases h;rw[ad]
    · rename_i ad
      rw[ad,SJ h]
open Classical in
noncomputable def hk{aY:Type}(a b:Option aY):Option aY:=if a=b then a else none
noncomputable def fM{aY:Type}(a:Option aY):Option aY:=hk a a
theorem mF{aY:Type}(a:Option aY):hk a a=a:=if_pos rfl
theorem Lk{aY:Type}{a b:Option aY}{r:aY}(h:hk a b=some r):a=some r/\b=some r:=by
  unfold hk at h
  split at h
  · rename_i e
    exact⟨h,e ▸ h⟩
  · cases h
def Fy(ops:List Oper)(k:b6->aO->Option aY):iv->gy->b6->eG->aO->Option aY:=λaK _ V A st=>match Region.ready .any ops.toArray aK.listed with
  |[]=>ao (qG A true) (k V st)
  |_=>none
theorem SK{α β:Type}{c:Bool}{a:Option α}{f:α->Option β}:Option.bind a (λr=>ao c (f r))=ao c (Option.bind a f):=by
  cases c with
  |true=>rfl
  |false=>
    cases a with
    |none=>rfl
    |some x=>rfl
theorem SL{α:Type}{a b:Bool}{k:Option α}:ao (a&&b) k=ao a (ao b k):=by cases a<;>rfl
theorem BB{α:Type}{k:Option α}:ao true k=k:=rfl
theorem Ll{α:Type}{k:Option α}:ao false k=none:=rfl
theorem Lm{α:Type}{c:Bool}:ao c (none:Option α)=none:=by cases c<;>rfl
theorem Ln{α:Type}{a:Bool}{k y:Option α}(I:a=true->k=y)(J:a=false->none=y):ao a k=y:=by
  cases a with
  |true=>exact I rfl
  |false=>exact J rfl
theorem SM{aY:Type}{x y:Option aY}(h:x=y):hk x y=x:=by rw[h];exact mF _
def wE(X:bu)(n:Nat)(T:List (bw X))(ops:List Oper)(E:b6)(i:Nat)(aH:dZ)(m:Option pV)(o:Oper)(aK:iv)(V:b6)(A:eG)(st:aO)(k:iv->gy->b6->eG->aO->Option aY):Option aY:=match o.guard with
  |none=>match gp E aK.listed i,aK.pre with
    |false,_=>match (match m with|some m=>wx X n st m o|none=>wv X n st o)with
      |some (c,st',W)=>k ⟨aK.listed.setIfInBounds i true,false,false,aK.lx,aK.all⟩ [] (W++V) (c::A) st'
      |none=>match oU X n (eU ops) st o with
        |.ok c st'=>k ⟨aK.listed.setIfInBounds i true,false,false,aK.lx,aK.all⟩ [] (wq X st.L o++V) (c::A) st'
        |.stop=>wy X n T aH V A st (λb e a st'=>k ⟨aK.listed.setIfInBounds i true,false,false,false,aK.all⟩ b e a st') o
    |true,true=>match o.dst,yJ X st o.op with
      |some d,some (c,bN)=>match blt d n with
        |true=>k ⟨aK.listed.setIfInBounds i true,false,true,false,aK.all⟩ [] (d::V) (c::A) ⟨(d,.a bN)::st.L,st.H⟩
        |false=>none
      |_,none=>match cond aK.all (x1 o.op&&tI o st.H) (DS o.op&&ri o st.H),oU X n (eU ops) st o with
        |true,.ok c st'=>k ⟨aK.listed.setIfInBounds i true,false,true,aK.lx,aK.all⟩ [] (wq X st.L o++V) (c::A) st'
        |_,.stop=>match qA st.H aH || (!aK.all&&yz st.H aH)with
          |true=>wy X n T aH V A st (λb e a st'=>k ⟨aK.listed.setIfInBounds i true,false,true,false,aK.all⟩ b e a st') o
          |false=>none
        |_,_=>none
      |none,some _=>none
    |true,false=>none
  |some _=>none
noncomputable def rP(X:bu)(n:Nat)(T:List (bw X))(ops:List Oper)(E:b6):s3->iv->gy->b6->eG->aO->(b6->aO->Option aY)->Option aY
  |.f l,aK,G,V,A,st,k=>gz X n T ops E l aK G V A st (Fy ops k)
  |.s l j aq t,aK,G,V,A,st,k=>gz X n T ops E l aK G V A st λaK _ V A st=>match bm st.L j with
    |some (.a (.c (.val (.int pN z))))=>ao (qG A true) (Fw z aq λq=>rP X n T ops E t aK [] V [] ⟨Fx j (.a (.c (.val (.int pN q)))) st.L,st.H⟩ k)
    |_=>none
  |.t l i j q aH c h d e f x y z,aK,G,V,A,st,k=>gz X n T ops E l aK G V A st λaK _ V A st=>match nth ops i,nth ops j,nth ops q,Region.ready .any ops.toArray aK.listed==[i,j,q],beq (nk x) (nk y)&&beq (nk x) (nk z)with
    |some b,some a,some g,true,true=>ao (qG A true) (hk (wE X n T ops E i aH d b aK V [] st λaK G V A st=>rP X n T ops E x aK G V A st k) (hk (wE X n T ops E j c e a aK V [] st λaK G V A st=>rP X n T ops E y aK G V A st k) (wE X n T ops E q h f g aK V [] st λaK G V A st=>rP X n T ops E z aK G V A st k)))
    |_,_,_,_,_=>none
  |.b l i j aH c d e x y,aK,G,V,A,st,k=>gz X n T ops E l aK G V A st λaK _ V A st=>match nth ops i,nth ops j,Region.ready .any ops.toArray aK.listed==[i,j],beq (nk x) (nk y)with
    |some b,some a,true,true=>ao (qG A true) (hk (wE X n T ops E i aH d b aK V [] st λaK G V A st=>rP X n T ops E x aK G V A st k) (wE X n T ops E j c e a aK V [] st λaK G V A st=>rP X n T ops E y aK G V A st k))
    |_,_,_,_=>none
theorem BC{aH:dZ}{m:Option pV}(e:X.a6.ok X.P){k:iv->gy->b6->eG->aO->Option aY}{r:aY}{c0:Nat}(g:∀aK G V A st,k aK G V A st=some r->∀c∈A,c=true)(aa:∀yd s t v st',eR (eU ops) s st'.L->db t fy st'->k yd s t v st'=some r->kk X M n ops E c0 yd st' Q)(hi:nth ops i=some o)(b:db V fy st)(h:wE X n T ops E i aH m o aK V A st k=some r):ru X M n ops E c0 aK st Q i:=by
  unfold wE at h
  split at h
  · rename_i p
    split at h
    · rename_i j
      split at h
      · rename_i c st' W a
        cases m with
        |some m=>exact Ey hi (KW e a (g _ _ _ _ _ h c mem_cons_self)) j rfl (aa _ _ _ _ _ eR.nil (b.trans (KX a)) h)
        |none=>exact Ey hi (KQ e a (g _ _ _ _ _ h c mem_cons_self)) j rfl (aa _ _ _ _ _ eR.nil (b.trans (KR a)) h)
      · split at h
        · rename_i c st' a
          exact Qs e hi j a (g _ _ _ _ _ h c mem_cons_self) rfl (aa _ _ _ _ _ eR.nil (b.trans (yL p a)) h)
        · obtain⟨_,y,V2,I,J,ag⟩:=ux b h
          exact Bz (pre':=false) hi I (λh=>by cases h) (by rw[j];rfl) (aa _ _ _ _ _ eR.nil J ag)
    · rename_i j l
      split at h
      · rename_i d c bN w a
        split at h
        · rename_i ay
          have one:db (d::V) fy ⟨(d,.a bN)::st.L,st.H⟩:=⟨cz.cons b.1,b.2.more λq u=>(gN u).2⟩
          exact Bz (pre':=true) hi (jn.Ss (λah=>EW e a (g _ _ _ _ _ h c mem_cons_self) ah) ⟨p,w⟩ ay) (λ_=>⟨l,λ_ _=>rfl⟩) (by simp) (aa _ _ _ _ _ eR.nil one h)
        · cases h
      · split at h
        · rename_i c st' f a
          have U:=g _ _ _ _ _ h c mem_cons_self;have bc:=aa _ _ _ _ _ eR.nil (b.trans (yL p a)) h;cases jX:aK.all with
          |true=>
            rw[jX,cond_true]at f;exact Qu e hi (by rw[l,Bool.true_and];exact f) a U rfl bc
          |false=>
            rw[jX,cond_false]at f;simp only[and_eq_true]at f;exact Qt e hi (by rw[l,f.1,f.2,jX];rfl) a U rfl bc
        · split at h
          · rename_i z
            obtain⟨_,y,V2,I,J,ag⟩:=ux b h;exact Bz (pre':=true) hi I (λ_=>Sr (by rw[l,z];rfl)) (by simp) (aa _ _ _ _ _ eR.nil J ag)
          · cases h
        · cases h
      · cases h
    · cases h
  · cases h
theorem BD{k:b6->aO->Option aY}:∀ {t:s3} {aK:iv} {G:gy} {V:b6} {A:eG} {st:aO},rP X n T ops E t aK G V A st k=some r->∀c∈A,c=true
  |.f l,aK,G,V,A,st,h=>j5 (λaK G V A st h=>by
      unfold Fy at h
      split at h
      · exact(ni (hf h).1).1
      · cases h) h
  |.b l i j aH a b d x y,aK,G,V,A,st,h=>j5 (λaK G V A st h=>by
      split at h
      · exact(ni (hf h).1).1
      · cases h) h
  |.t l i j q aH a f b d e x y z,aK,G,V,A,st,h=>j5 (λaK G V A st h=>by
      split at h
      · exact(ni (hf h).1).1
      · cases h) h
  |.s l j aq t,aK,G,V,A,st,h=>j5 (λaK G V A st h=>by
      split at h
      · exact(ni (hf h).1).1
      · cases h) h
theorem wF(c:X.a6.ok X.P){k:b6->aO->Option aY}{r:aY}(aa:∀g st',db g fy st'->k g st'=some r->Q .normal st'):∀ {t:s3} {aK:iv} {G:gy} {V:b6} {A:eG} {st:aO},eR (eU ops) G st.L->db V fy st->rP X n T ops E t aK G V A st k=some r->kk X M n ops E (nk t) aK st Q
  |.f l,aK,G,V,A,st,b,a,h=>by
    have:=lW (M:=M) c (λaK G V A st h=>by
      unfold Fy at h
      split at h
      · exact(ni (hf h).1).1
      · cases h) (λaK G V A st b a h=>by
      unfold Fy at h
      split at h
      · rename_i e
        exact aaq e (aa V st a (hf h).2)
      · cases h) b a h
    rwa [zero_add]at this
  |.s l j aq t,aK,G,V,A,st,b,a,h=>by
    refine lW (is:=l) c (k:=_) (r:=r) (λaK G V A st h=>?_) (λaK G V A st b a h=>?_) b a h
    · split at h
      · exact(ni (hf h).1).1
      · cases h
    · split at h
      · rename_i pN z ae
        have J:=SI (hf h).2;rw[SJ ae]at J;exact wF c aa eR.nil a J
      · cases h
  |.t l i j q aH s C u v w x y z,aK,G,V,A,st,b,a,h=>by
    refine lW (c0:=nk x+1) (is:=l) c (k:=_) (r:=r) (λaK G V A st h=>?_) (λaK G V A st b a h=>?_) b a h
    · split at h
      · exact(ni (hf h).1).1
      · cases h
    · split at h
      · rename_i p o B hi d m f U
        obtain⟨I,J⟩:=Lk (hf h).2;obtain⟨J,ag⟩:=Lk J;rw[and_eq_true]at U;refine JJ (beq_iff_eq.1 f) (yh (BC c (λ_ _ _ _ _ h=>BD h) (λaK G V A st b a h=>wF c aa b a h) hi a I) (yh (BC c (λ_ _ _ _ _ h=>BD h) (λaK G V A st b a h=>?_) d a J) (yh (BC c (λ_ _ _ _ _ h=>BD h) (λaK G V A st b a h=>?_) m a ag) JI)))
        · rw[eq_of_beq_eq_true U.1]
          exact wF c aa b a h
        · rw[eq_of_beq_eq_true U.2]
          exact wF c aa b a h
      · cases h
  |.b l i j aH s u v x y,aK,G,V,A,st,b,a,h=>by
    refine lW (c0:=nk x+1) (is:=l) c (k:=_) (r:=r) (λaK G V A st h=>?_) (λaK G V A st b a h=>?_) b a h
    · split at h
      · exact(ni (hf h).1).1
      · cases h
    · split at h
      · rename_i p o hi d f U
        obtain⟨I,J⟩:=Lk (hf h).2;refine JJ (beq_iff_eq.1 f) (yh (BC c (λ_ _ _ _ _ h=>BD h) (λaK G V A st b a h=>wF c aa b a h) hi a I) (yh (BC c (λ_ _ _ _ _ h=>BD h) (λaK G V A st b a h=>?_) d a J) JI));rw[eq_of_beq_eq_true U];exact wF c aa b a h
      · cases h
end
end
def BE{β:Type}(b:β->(Nat->Prop)->World->Prop):Prop:=∀l C W a,b l C W->c9 C W a->b l C a
structure Grow(B C cW:Nat->Prop)(W dp:World):Prop where
 ee:c9 (λk=>B k\/(k<W.heap.size/\¬C k)) W dp
 new:∀k,cW k->C k\/W.heap.size<=k\/B k
structure wG(C b8 dt:Nat->Prop)(W:World):Prop where
 sub:∀k,b8 k->dt k
 new:∀k,dt k->b8 k\/(¬C k/\∃cs e dN,W.heap[k]?=some (.cells cs e dN))
def BF{β:Type}(c:β->(Nat->Prop)->(Nat->Prop)->World->Prop):Prop:=∀l C a W b,c l C a W->c9 C W b->c l C a b
def Lp{α:Type}(P:Program)(g:Nat)(m:cl)(B:Nat->Prop)(ak:World)(j:c2)(l:List α)(enc:(Nat->Prop)->World->α->cl->Prop):Prop:=
 ∀(id:Nat) (d:List α->(Nat->Prop)->(Nat->Prop)->World->Prop) (i:Unit->(Nat->Prop)->World->Prop) (W:World),c9 B ak W->(∀k,B k->k<ak.heap.size)->BF d->BE i->(∀r C a W,d r C a W->∀k,C k->k<W.heap.size)->(∀r C W,i r C W->∀k,C k->k<W.heap.size)->(∀r C a W,d r C a W->∀k,a k->C k) ->
  (∀x rest C a h f vs,d (x::rest) C a f->wG C a h f->enc h f x vs->YieldAt Fence.wide 1 P id vs.toArray f λe c=>
   (e=.returned (.bool true)/\∃b,d rest b h c/\Grow h C b f c)\/(e=.returned (.bool false)/\∃b,i () b c/\Grow h C b f c)) ->
  ∀C,d l C B W->bZ C W j W->CallsIn Fence.wide 1 P g (#[.func (.yield id) #[] #[]]++m.toArray) W λe c=>(∃v,e=.returned v)/\∃b,(∃a,d [] b a c)\/i () b c
def SO{α:Type}(B:Nat->Prop)(bb:List α->(Nat->Prop)->(Nat->Prop)->World->Prop)(c:Code->(Nat->Prop)->World->Prop)(rest:List α)(C:Nat->Prop)(W:World):Exit->Act->World->Prop
 |.normal,_,b=>∃a,bb rest a B b/\Grow B C a W b
 |.ret,_,b=>∃a,c .ret a b/\Grow B C a W b
 |.exit id,_,b=>∃a,c (.exit id) a b/\Grow B C a W b
 |_,_,_=>False
theorem uA{C:Nat->Prop}{W:World}{k:Nat}{o:Obj}(h:¬C k):c9 C W (W.putObj k o):=⟨rfl,rfl,rfl,by simp,λq a=>World.putObj_heap_other λe=>h (e ▸ a)⟩
theorem SP{α:Type}{P:Program}{g:Operand}{aH:Array Tmp}{assign body:Code}{Q:Exit->Act->World->Prop}{a:Act}{w:World}{E:Nat}{S:cl}{B:Nat->Prop}{ak:World}{ah:c2}{l:List α}{enc:(Nat->Prop)->World->α->cl->Prop}(az:a.eval g=.func (.func E) #[] S.toArray)(aU:∀args w,(callFunc E args).run P w=.ok (.enter E args) w)(aW:Lp P E S B ak ah l enc)(av:c9 B ak w)(aq:∀k,B k->k<ak.heap.size)(aQ:∀f W x vs,enc f W x vs->vs.length=aH.size)(a2:∀f W A x vs,c9 f W A->enc f W x vs->enc f A x vs)(bb:List α->(Nat->Prop)->(Nat->Prop)->World->Prop)(M:Code->(Nat->Prop)->World->Prop)(T:BF bb)(X:BE M)(ap:∀r C d W,bb r C d W->∀k,C k->k<W.heap.size)(aj:∀r C d W,bb r C d W->∀k,d k->C k)(ax:∀r C W,M r C W->∀k,C k->k<W.heap.size)(jv:Nat->Prop)(ao:bb l jv B w)(Y:bZ jv w ah w)(aA:∀(id:Nat) (x:α) (rest:List α) (vs:cl) (C d f:Nat->Prop) (W:World) (o:Obj),id<W.heap.size->¬C id->¬f id->bb (x::rest) C d W->wG C d f W->enc f W x vs ->
   assign.wpIn (Fence.wide.inRound id) 1 P (Exit.then (λaI b5=>b5.heap[id]?=W.heap[id]?/\body.wpIn (Fence.wide.inRound id) 1 P (SO f bb M rest C (W.putObj id o)) aI (b5.putObj id o)) (λ_ _ _=>False)) { tmps:=(aH.zip vs.toArray).foldl (λt (p,v)=>t.setIfInBounds p v) a.tmps,defers:=[] } W)(aT:∀(D:Nat) (C d:Nat->Prop) (W:World),w.heap.size<=D->¬C D->bb [] C d W->W.heap[D]?=some (.deferred (some []))->Q .normal { a with defers:={ target:=.collected D,args:=#[] }::a.defers } W)(aS:∀(D:Nat) (c:Code) (C:Nat->Prop) (W:World),w.heap.size<=D->¬C D->M c C W->W.heap[D]?=some (.deferred (some []))->c.wpIn Fence.wide 2 P Q { a with defers:={ target:=.collected D,args:=#[] }::a.defers } W) :
  (Code.rangeFunc g aH assign body).wpIn Fence.wide 2 P Q a w:=by
 refine wpIn_rangeFunc ?_;intro fn aL;have a6:Fence.wide.round=none:=rfl;obtain⟨rec,u⟩:∃rec:LoopState->Option Code->Loop,rec=λst aB=>{ state:=st,pending:=aB,fn,tmps:=a.tmps,params:=aH,assign,body,defers:=w.heap.size }:=⟨_,rfl⟩
 obtain⟨q,N⟩:∃q,(w.alloc (.deferred (some []))).alloc (.loop (rec .ready none))=q:=⟨_,rfl⟩
 have aX:q.heap[w.heap.size+1]?=some (.loop (rec .ready none)):=by
  rw[<- N];have:=World.alloc_heap_new (w.alloc (.deferred (some []))) (.loop (rec .ready none));rwa [World.size_alloc]at this
 have aC:q.heap[w.heap.size]?=some (.deferred (some [])):=by
  rw[<- N];exact(Below.heap_alloc _ _ _ (by simp)).trans (World.alloc_heap_new w _)
 have aK:q.heap.size=w.heap.size+2:=by rw[<- N];simp
 have ai:∀ {C:Nat->Prop},(∀k,C k->k<w.heap.size)->c9 C w q:=λ{C} cJ=>by
  rw[<- N];exact⟨rfl,rfl,rfl,by simp;omega,λk aa=>by
   have:=cJ k aa
   exact(Below.heap_alloc _ _ _ (by simp;omega)).trans (Below.heap_alloc _ _ _ this)⟩
 have aY:∀k,B k->k<w.heap.size:=λk aa=>lt_of_lt_of_le (aq k aa) av.size
 have R:=ap _ _ _ _ ao;have aD:=T _ _ _ _ _ ao (ai R);have aE:bZ (λk=>jv k\/k=w.heap.size\/k=w.heap.size+1) q ah q:=by
  refine⟨c9.refl _ _,λk aa=>?_,λc U=>?_,Y.apart⟩
  ·rw[aK]
   rcases aa with aa|aa|aa
   ·have:=R k aa
    omega
   ·omega
   ·omega
  ·refine((Y.ok c U).ee λb ad=>(ai λk aa=>((Y.ok c U).lt aa).2).block b ad).base λb ad h=>?_
   have I:=(Y.ok c U).lt ad
   rcases h with h|h|h
   ·exact I.1 h
   ·omega
   ·omega
 let D:=w.heap.size
 let id:=w.heap.size+1
 let aJ:List α->(Nat->Prop)->(Nat->Prop)->World->Prop:=λr C d W=>∃jv,(∀k,C k↔jv k\/k=D\/k=id)/\¬jv D/\¬jv id/\bb r jv d W/\W.heap[id]?=some (.loop (rec .ready none))/\W.heap[D]?=some (.deferred (some []))
 let aN:Unit->(Nat->Prop)->World->Prop:=λ_ C W=>∃jv c,(∀k,C k↔jv k\/k=D\/k=id)/\¬jv D/\¬jv id/\M c jv W/\W.heap[id]?=some (.loop (rec .done (some c)))/\W.heap[D]?=some (.deferred (some []))
 have au:∀ {C jv:Nat->Prop} {W A:World},(∀k,C k↔jv k\/k=D\/k=id)->c9 C W A->c9 jv W A:=λcJ h=>⟨h.os,h.tape,h.output,h.size,λk aa=>h.block k ((cJ k).2 (.inl aa))⟩
 refine⟨w.heap.size+1,[{ target:=.collected w.heap.size,args:=#[] }],q,{ target:=.fn (.func E) S.toArray,args:=#[.func (.yield (w.heap.size+1)) #[] #[]] },q,E,
  #[.func (.yield (w.heap.size+1)) #[] #[]]++S.toArray,q,?_,?_,?_,?_,λ_=>by omega,?_⟩
 ·rw[<- N,u];exact run_enterLoop_outer _ _ _ _ _
 ·simp only[resolve,az]
  simp[go_sem]
 ·intro f' a3
  exact trivial
 ·simp[invoke,go_sem,aU]
 ·refine(aW id aJ aN q (av.trans (ai aY)) aq ?_ ?_ ?_ ?_ ?_ ?_ (λk=>jv k\/k=D\/k=id) ⟨jv,λk=>Iff.rfl,λh=>by have:=R _ h;simp only[D]at this;omega,λh=>by have:=R _ h;simp only[id]at this;omega,aD,aX,aC⟩ aE).mono ?_
  ·rintro r C d W A ⟨j,cJ,I,J,ag,y,n⟩ aa
   exact⟨j,cJ,I,J,T _ _ _ _ _ ag (au cJ aa),(aa.block _ ((cJ _).2 (.inr (.inr rfl)))).trans y,(aa.block _ ((cJ _).2 (.inr (.inl rfl)))).trans n⟩
  ·rintro r C W A ⟨j,c,cJ,I,J,ag,y,n⟩ aa
   exact⟨j,c,cJ,I,J,X _ _ _ _ ag (au cJ aa),(aa.block _ ((cJ _).2 (.inr (.inr rfl)))).trans y,(aa.block _ ((cJ _).2 (.inr (.inl rfl)))).trans n⟩
  ·rintro r C d W ⟨j,cJ,I,J,ag,y,n⟩ k aa
   rcases (cJ k).1 aa with h|h|h
   ·exact ap _ _ _ _ ag k h
   ·subst h;exact(Array.getElem?_eq_some_iff.1 n).1
   ·subst h;exact(Array.getElem?_eq_some_iff.1 y).1
  ·rintro r C W ⟨j,c,cJ,I,J,ag,y,n⟩ k aa
   rcases (cJ k).1 aa with h|h|h
   ·exact ax _ _ _ ag k h
   ·subst h;exact(Array.getElem?_eq_some_iff.1 n).1
   ·subst h;exact(Array.getElem?_eq_some_iff.1 y).1
  ·rintro r C d W ⟨j,cJ,I,J,ag,y,n⟩ k aa
   exact(cJ k).2 (.inl (aj _ _ _ _ ag k aa))
  ·rintro x rest C d f W vs ⟨j,cJ,ab,F,hi,ae,aa⟩ V aw
   have Z:=(Array.getElem?_eq_some_iff.1 ae).1;have aG:=run_yield (P:=P) (args:=vs.toArray) ae (by rw[u];simp[aQ _ _ x vs aw]);rw[u]at aG;have ay:¬f id:=λh=>by
    rcases V.new id h with h|⟨h,_⟩
    ·exact F (aj _ _ _ _ hi id h)
    ·exact h ((cJ id).2 (.inr (.inr rfl)))
   have aF:wG j d f W:=⟨V.sub,λk aa=>(V.new k aa).imp_right λ⟨h,J⟩=>⟨λaP=>h ((cJ k).2 (.inl aP)),J⟩⟩
   refine⟨fn,_,assign,body,aG,roundIn_of_wpIn aL (wpIn_mono (aA id x rest vs j d f W (.loop { rec .ready none with state:=.busy }) Z F ay hi aF aw) ?_)⟩;rintro aM a1 a5 n;cases aM with
   |normal=>?_
   |_=>exact False.elim n
   refine⟨_,run_beginRound (n.1.trans ae) (by rw[u]),?_⟩;have aR:(W.putObj id (.loop { rec .ready none with state:=.busy })).heap[id]?=some (.loop { rec .ready none with state:=.busy }):=World.putObj_heap_same Z;have aO:(W.putObj id (.loop { rec .ready none with state:=.busy })).heap[D]?=some (.deferred (some [])):=(World.putObj_heap_other (by simp only[D,id];omega)).trans aa;have ac:∀k,f k->k≠id/\k≠D:=λk aa=>by
    rcases V.new k aa with h|⟨h,_⟩
    ·have:=aj _ _ _ _ hi k h
     exact⟨λe=>F (e ▸ this),λe=>ab (e ▸ this)⟩
    ·exact⟨λe=>h ((cJ k).2 (.inr (.inr e))),λe=>h ((cJ k).2 (.inr (.inl e)))⟩
   refine wpIn_mono n.2 ?_;have af:∀ {s:Nat->Prop} {z:World},Grow f j s (W.putObj id (.loop { rec .ready none with state:=.busy })) z->∀(jump:Option Code),
     (Instr.endRound id jump).run P z=.ok (.bool jump.isNone) (z.putObj id (.loop (rec (if jump.isNone then .ready else .done) jump))) /\
     (z.putObj id (.loop (rec (if jump.isNone then .ready else .done) jump))).heap[id]?=some (.loop (rec (if jump.isNone then .ready else .done) jump)) /\
     (z.putObj id (.loop (rec (if jump.isNone then .ready else .done) jump))).heap[D]?=some (.deferred (some []))/\¬s D/\¬s id/\Grow f C (λk=>s k\/k=D\/k=id) W (z.putObj id (.loop (rec (if jump.isNone then .ready else .done) jump))):=λ{s z} m jump=>by
    have hid:id<(W.putObj id (.loop { rec .ready none with state:=.busy })).heap.size/\¬j id:=⟨by simpa using Z,F⟩
    have an:D<(W.putObj id (.loop { rec .ready none with state:=.busy })).heap.size/\¬j D:=⟨by simp only[D,id]at Z ⊢;simp;omega,ab⟩
    have am:=(m.ee.block id (.inr hid)).trans aR;have aV:=(m.ee.block D (.inr an)).trans aO;have he:=run_endRound (P:=P) jump am;rw[u]at he ⊢;refine⟨he,World.putObj_heap_same (Array.getElem?_eq_some_iff.1 am).1,(World.putObj_heap_other (by simp only[D,id];omega)).trans aV,λh=>?_,λh=>?_,⟨⟨?_,?_,?_,?_,λk aa=>?_⟩,λk aa=>?_⟩⟩
    ·rcases m.new _ h with aP|aP|aP
     ·exact ab aP
     ·have:=an.1;omega
     ·exact(ac _ aP).2 rfl
    ·rcases m.new _ h with aP|aP|aP
     ·exact F aP
     ·have:=hid.1;omega
     ·exact(ac _ aP).1 rfl
    ·exact m.ee.os
    ·exact m.ee.tape
    ·exact m.ee.output
    ·have:=m.ee.size;simpa using this
    ·have ar:k≠id:=by
      rcases aa with aa|aa
      ·exact(ac k aa).1
      ·exact λe=>aa.2 ((cJ k).2 (.inr (.inr e)))
     refine(World.putObj_heap_other ar).trans ((m.ee.block k ?_).trans (World.putObj_heap_other ar))
     rcases aa with aa|aa
     ·exact .inl aa
     ·exact .inr ⟨by simpa using aa.1,λh=>aa.2 ((cJ k).2 (.inl h))⟩
    ·rcases aa with aa|aa
     ·rcases m.new k aa with aP|aP|aP
      ·exact .inl ((cJ k).2 (.inl aP))
      ·exact .inr (.inl (by simpa using aP))
      ·exact .inr (.inr aP)
     ·exact .inl ((cJ k).2 (.inr aa))
   rintro e a0 z al;cases e with
   |normal=>
    obtain⟨s,G,m⟩:=al;obtain⟨K,O,H,mP,ln,L⟩:=af m none;exact⟨_,_,K,.inl ⟨rfl,_,⟨s,λk=>Iff.rfl,mP,ln,T _ _ _ _ _ G (uA ln),O,H⟩,L⟩⟩
   |ret=>
    obtain⟨s,G,m⟩:=al;obtain⟨K,O,H,mP,ln,L⟩:=af m (some .ret);exact⟨_,_,K,.inr ⟨rfl,_,⟨s,.ret,λk=>Iff.rfl,mP,ln,X _ _ _ _ G (uA ln),O,H⟩,L⟩⟩
   |exit i=>
    obtain⟨s,G,m⟩:=al;obtain⟨K,O,H,mP,ln,L⟩:=af m (some (.exit i));exact⟨_,_,K,.inr ⟨rfl,_,⟨s,.exit i,λk=>Iff.rfl,mP,ln,X _ _ _ _ G (uA ln),O,H⟩,L⟩⟩
   |goto t=>exact al.elim
   |panic aZ=>exact al.elim
   |outgrown=>exact al.elim
  ·rintro e a4 ⟨⟨v,rfl⟩,s,(⟨d,j,cJ,I,J,hi,ae,aa⟩|⟨j,c,cJ,I,J,hi,ae,aa⟩)⟩
   ·exact⟨none,_,by have:=run_endLoop (P:=P) ae (by rw[u];simp);rw[u]at this;exact this,aT _ j d _ (le_refl _) I (T _ _ _ _ _ hi (uA J)) ((World.putObj_heap_other (by simp only[id];omega)).trans aa)⟩
   ·exact⟨some c,_,by have:=run_endLoop (P:=P) ae (by rw[u];simp);rw[u]at this;exact this,aS _ c j _ (le_refl _) I (X _ _ _ _ hi (uA J)) ((World.putObj_heap_other (by simp only[id];omega)).trans aa)⟩
theorem aeS{α:Type}{P:Program}{g:Operand}{aH:Array Tmp}{assign body:Code}{Q:Exit->Act->World->Prop}{a:Act}{w:World}{i:Nat}{s:cl}{B:Nat->Prop}{ak:World}{m:c2}{l:List α}{enc:(Nat->Prop)->World->α->cl->Prop}(G:a.eval g=.func (.func i) #[] s.toArray)(V:∀args w,(callFunc i args).run P w=.ok (.enter i args) w)(X:Lp P i s B ak m l enc)(O:c9 B ak w)(M:∀k,B k->k<ak.heap.size)(y:∀b W x vs,enc b W x vs->vs.length=aH.size)(n:∀b W q x vs,c9 b W q->enc b W x vs->enc b q x vs)(bb:List α->(Nat->Prop)->(Nat->Prop)->World->Prop)(f:Code->(Nat->Prop)->World->Prop)(u:BF bb)(Y:BE f)(I:∀r C d W,bb r C d W->∀k,C k->k<W.heap.size)(T:∀r C d W,bb r C d W->∀k,d k->C k)(F:∀r C W,f r C W->∀k,C k->k<W.heap.size)(jv:Nat->Prop)(H:bb l jv B w)(Z:bZ jv w m w)(E:cl->Act)(L:∀(id:Nat) (x:α) (vs:cl) (W:World) (K:Act->World->Prop),vs.length=aH.size->K (E vs) W ->
   assign.wpIn (Fence.wide.inRound id) 1 P (Exit.then K (λ_ _ _=>False)) { tmps:=(aH.zip vs.toArray).foldl (λt (p,v)=>t.setIfInBounds p v) a.tmps,defers:=[] } W)(U:∀(id:Nat) (x:α) (rest:List α) (vs:cl) (C d b:Nat->Prop) (W:World),bb (x::rest) C d W->wG C d b W->enc b W x vs->body.wpIn (Fence.wide.inRound id) 1 P (SO b bb f rest C W) (E vs) W)(S:∀(D:Nat) (C d:Nat->Prop) (W:World),w.heap.size<=D->¬C D->bb [] C d W->W.heap[D]?=some (.deferred (some []))->Q .normal { a with defers:={ target:=.collected D,args:=#[] }::a.defers } W)(R:∀(D:Nat) (c:Code) (C:Nat->Prop) (W:World),w.heap.size<=D->¬C D->f c C W->W.heap[D]?=some (.deferred (some []))->c.wpIn Fence.wide 2 P Q { a with defers:={ target:=.collected D,args:=#[] }::a.defers } W) :
  (Code.rangeFunc g aH assign body).wpIn Fence.wide 2 P Q a w:=SP G V X O M y n bb f u Y I T F jv H Z (λid x rest vs C d b W o hid cJ j hi z A=>by
  refine L id x vs W _ (y _ _ x vs A) ⟨rfl,?_⟩;have N:∀k,b k->k≠id:=λk aa e=>j (e ▸ aa)
  exact U _ x rest vs C d b _ (u _ _ _ _ _ hi (uA cJ)) ⟨z.sub,λk aa=>(z.new k aa).imp_right λ⟨h,cs,e,dN,J⟩=>⟨h,cs,e,dN,(World.putObj_heap_other (N k aa)).trans J⟩⟩ (n _ _ _ _ _ (uA λh=>j h) A)) S R
section
theorem bJ.split{env:Nat->Loc}{B:Nat->Prop}{w:World}:∀ {l l':bC} {H:c2},bJ env B w (l++l') H->∃H1 H2,H=H1++H2/\bJ env B w l H1/\bJ env B w l' H2
 |[],_,H,h=>⟨[],H,rfl,rfl,h⟩
 |(_,_)::l,_,_,⟨c,H',e,I,J⟩=>by
  obtain⟨H1,H2,a,d,b⟩:=bJ.split J;exact⟨c::H1,H2,by rw[e,a];rfl,⟨c,H1,rfl,I,d⟩,b⟩
def wM{α:Type}(X:bu)(d:FuncId)(gH:ep)(al:bC)(l:List α)(e:α->dO):Prop:=
 ∀(B:Nat->Prop) (w:World) (b:cl) (env:Nat->Loc) (a:c2),(∀k,B k->k<w.heap.size)->vF X B w->fb env B w gH b->bJ env B w al a->Lp X.P d b B w a l (λc W x vs=>dw (λ_=>.no) c W (e x) vs)
def lZ(R B:Nat->Prop)(H:c2)(aq:b6)(k:Nat):Prop:=R k\/B k\/∃c∈H++aq.map dE,c.has k
section
variable {X:bu} {R:Nat->Prop} {W:World} {aE:fj} {n:Nat} {aq:b6} {env:Nat->Loc} {B:Nat->Prop} {ak:World} {H:c2} {st:aO} {a:Act} {w:World}
theorem bK.Lu{f:World}(h:bK X R W aE n aq env B ak H st a w)(aa:c9 (lZ R B H aq) w f):bK X R W aE n aq env B ak H st a f:=
 ⟨h.size,h.defs,h.has,h.heap,⟨h.aU.below.trans ⟨aa.os,aa.tape,aa.output,aa.size,λk d=>aa.block k (d.elim .inl λh=>.inr (.inl h))⟩,λk d=>lt_of_lt_of_le (h.aU.base k d) aa.size,λc U=>(h.aU.ok c U).ee λb e=>aa.block b (.inr (.inr ⟨c,U,e⟩)),h.aU.apart⟩,h.sub,h.new,h.dr,h.base,h.eg⟩
theorem bK.now(h:bK X R W aE n aq env B ak H st a w):bK X R W aE n aq env B w H st a w:=by
 have b:gm B ak B w:=⟨λ_ h=>h,λk aa=>h.aU.below.block k (.inr aa)⟩
 refine⟨h.size,h.defs,λs sv c=>?_,h.heap.up b,⟨c9.refl _ _,h.aU.base,h.aU.ok,h.aU.apart⟩,h.sub,λk aa=>(h.new k aa).imp_right λI=>⟨I.1,I.2.ee (h.aU.below.block k (.inr aa))⟩,h.dr,h.base.trans ⟨h.aU.below.os,h.aU.below.tape,h.aU.below.output,h.aU.below.size,λk aa=>h.aU.below.block k (.inl aa)⟩,λi x ai=>(h.eg i x ai).up b⟩;obtain⟨v,I,J⟩:=h.has s sv c;exact⟨v,I,J.up b⟩
theorem bK.SR{d:Nat->Prop}(h:bK X R W aE n aq env B w H st a w)(f:∀k,d k->B k\/(¬lZ R B H aq k/\sw w k)):bK X R W aE n aq env (λk=>B k\/d k) w H st a w:=by
 have g:gm B w (λk=>B k\/d k) w:=⟨λ_ h=>.inl h,λk aa=>rfl⟩
 have l:∀k,d k->k<w.heap.size:=λk aa=>by
  rcases f k aa with I|⟨_,cs,e,p,J⟩
  ·exact h.aU.base k (.inr I)
  ·exact(Array.getElem?_eq_some_iff.1 J).1
 refine⟨h.size,h.defs,λs sv m=>?_,h.heap.up g,⟨c9.refl _ _,λk aa=>?_,λc U=>(h.aU.ok c U).base λb ad aa=>?_,h.aU.apart⟩,λk aa=>.inl (h.sub k aa),λk aa=>?_,h.dr,h.base,λi x ai=>(h.eg i x ai).up g⟩
 ·obtain⟨v,I,J⟩:=h.has s sv m
  exact⟨v,I,J.up g⟩
 ·rcases aa with aa|aa|aa
  ·exact h.aU.base k (.inl aa)
  ·exact h.aU.base k (.inr aa)
  ·exact l k aa
 ·have j:=((h.aU.ok c U).lt ad).1
  rcases aa with aa|aa|aa
  ·exact j (.inl aa)
  ·exact j (.inr aa)
  ·rcases f b aa with I|⟨I,_⟩
   ·exact j (.inr I)
   ·exact I (.inr (.inr ⟨c,U,ad⟩))
 ·rcases aa with aa|aa
  ·exact h.new k aa
  ·rcases f k aa with I|⟨I,J⟩
   ·exact h.new k I
   ·exact .inr ⟨λo=>I (.inl o),J⟩
theorem bK.FC(h:bK X R W aE n aq env B ak H st a w):∀k,lZ R B H aq k->k<w.heap.size:=λk aa=>by
 rcases aa with aa|aa|⟨c,U,e⟩
 ·exact h.aU.base k (.inl aa)
 ·exact h.aU.base k (.inr aa)
 ·exact((h.aU.ok c U).lt e).2
end
def gR(X:bu)(M:Bool)(n:Nat)(st st':aO):Prop:=∀R W aE a w,mQ X R W aE M n st a w->mQ X R W aE M n st' a w
theorem ds.m{X:bu}{M:Bool}{n:Nat}{st st':aO}(h:ds X n st st'):gR X M n st st':=λR W aE a w ah=>h _ _ _ _ _ _ ah
theorem gR.refl{X:bu}{M:Bool}{n:Nat}(st:aO):gR X M n st st:=λ_ _ _ _ _ h=>h
theorem gR.trans{X:bu}{M:Bool}{n:Nat}{a b c:aO}(h:gR X M n a b)(k:gR X M n b c):gR X M n a c:=λR W aE x w ah=>k _ _ _ _ _ (h _ _ _ _ _ ah)
theorem bK.put{X:bu}{R:Nat->Prop}{W:World}{aE:fj}{n:Nat}{env:Nat->Loc}{B:Nat->Prop}{ak:World}{H:c2}{st:aO}{a:Act}{w:World}{id:Nat}(h:bK X R W aE n [] env B ak H st a w)(hid:R id)(ad:¬aE.b id)(j:id<W.heap.size)(o:Obj):bK X R (W.putObj id o) aE n [] env B (ak.putObj id o) H st a (w.putObj id o):=by
 have l:∀k,B k->k≠id:=λk aa e=>by
  subst e
  rcases h.new _ aa with I|I
  ·exact ad I
  ·exact I.1 hid
 have f:=lt_of_lt_of_le j h.base.size;have q:=lt_of_lt_of_le f h.aU.below.size;have g:gm B ak B (ak.putObj id o):=⟨λ_ h=>h,λk aa=>World.putObj_heap_other (l k aa)⟩
 have key:∀ {v d:World} (k:Nat),id<v.heap.size->id<d.heap.size->d.heap[k]?=v.heap[k]?->(d.putObj id o).heap[k]?=(v.putObj id o).heap[k]?:=λ{v d} k I J ag=>by
  by_cases e:k=id
  ·subst e
   rw[World.putObj_heap_same I,World.putObj_heap_same J]
  ·rw[World.putObj_heap_other e,World.putObj_heap_other e,ag]
 refine⟨h.size,h.defs,λs sv m=>?_,h.heap.up g,⟨⟨h.aU.below.os,h.aU.below.tape,h.aU.below.output,by simpa using h.aU.below.size,λk aa=>key k f q (h.aU.below.block k aa)⟩,λk aa=>by simpa using h.aU.base k aa,λc U=>(h.aU.ok c U).ee λb e=>World.putObj_heap_other λp=>((h.aU.ok c U).lt e).1 (.inl (p ▸ hid)),h.aU.apart⟩,h.sub,λk aa=>(h.new k aa).imp_right λI=>⟨I.1,I.2.ee (World.putObj_heap_other (l k aa))⟩,h.dr,⟨h.base.os,h.base.tape,h.base.output,by simpa using h.base.size,λk aa=>key k j f (h.base.block k aa)⟩,λi x ai=>(h.eg i x ai).up g⟩;obtain⟨v,I,J⟩:=h.has s sv m;exact⟨v,I,J.up g⟩
theorem aeU{X:bu}{M:Bool}{n id:Nat}{c:Code}{ms:List (Nat×Nat)}{L:cU}{H:bC}{P:aO->Prop}(h:mq n c ms)(f:mY n (ms.map (·.1))=true)(ow:P ⟨sF ms L,H⟩):gQ X M n (some id) c ⟨L,H⟩ (λe s=>e=.normal/\P s):=λR W aE a w ⟨aq,env,B,ak,g,d,ah⟩=>by
 have b:=Has.dc ⟨ah.size,ah.has⟩ f;exact mq.ok h ⟨_,⟨rfl,ow⟩,aq,env,B,ak,g,d,b.size,ah.defs,b.has,ah.heap,ah.aU,ah.sub,ah.new,ah.dr,ah.base,ah.eg⟩
theorem SS{α β:Type}{X:bu}{n:Nat}{st:aO}{Q:Exit->aO->Prop}{g:Operand}{pl:b6}{assign body:Code}{ig:FuncId}{fn:Func}{gH:ep}{lY:α->dO}{l:List α}{b:Bool}{al fq:bC}(aR : bz X st.L g = some (b, .c (.fn ig gH)))(ad : b = true)(gC : X.P.funcs[ig]? = some fn)(ox : (fn.name == "runtime.NumGoroutine") = false)(pb : fn.body.isNone = false)(hU : wM X ig gH al l lY)(hlen : ∀ x, (lY x).length = pl.length)(fH : mY n pl = true)(bc : ble n hZ = true)(gZ:β->bC)(bU:List α->β->Prop)(l0:Exit->bC->Prop)(iz:β)(aS:bU l iz)(dG:st.H=al++fq)(dH:∀ {env:Nat->Loc} {B:Nat->Prop} {w:World} {H:c2},bJ env B w fq H->∃H' Y,H.Perm (H'++Y)/\bJ env B w (gZ iz) H')(qJ:∀id x rest y,bU (x::rest) y->gQ X false n (some id) assign ⟨ub pl (lY x) (gd (hs n) st.L),gZ y⟩ (λhH kM=>hH=.normal/\gQ X false n (some id) body kM (λe s=>(e=.normal/\∃nS,bU rest nS/\∃eu,gR X false n s ⟨eu,gZ nS⟩)\/(e≠.normal/\Eo e=true/\∃aP,l0 e aP/\∃eu,gR X false n s ⟨eu,aP⟩))))(o9:∀y,bU [] y->Q .normal ⟨gd (hs n) st.L,gZ y⟩)(nm:∀e aP,l0 e aP->Q e ⟨gd (hs n) st.L,aP⟩):gQ X true n none (.rangeFunc g pl.toArray assign body) st Q:=by
 intro R W aE a w h3;obtain⟨aq,env,B,ak,nq,cb,e7⟩:=h3;have BK:=e7.heap;rw[dG]at BK;obtain⟨O,H2,Lw,iu,hR⟩:=bJ.split BK;obtain⟨H,Y,yC,ry⟩:=dH hR;subst Lw;have ah:bK X R W aE n aq env B ak (O++H) ⟨st.L,al++gZ iz⟩ a w:=by
  refine⟨e7.size,e7.defs,e7.has,iu.append ry,?_,e7.sub,e7.new,e7.dr,e7.base,e7.eg⟩;have ar:((O++H2)++aq.map dE).Perm (((O++H)++aq.map dE)++Y):=by
   refine((yC.append_left O).append_right _).trans ?_;simp only[append_assoc];exact((List.perm_append_comm).append_left H).append_left O
  exact(e7.aU.perm ar).e2 (List.sublist_append_left _ _)
 obtain⟨bj,dX,gG,rfl,dF⟩:=e7.aI aR ad;have h3:=ah.QB;have s8:gm B ak B w:=⟨λ_ h=>h,λk aa=>ah.aU.below.block k (.inr aa)⟩
 have wK:∀k,B k->k<w.heap.size:=λk aa=>ah.aU.base k (.inr aa)
 have wH:=hU B w gG env O wK (λi x ai=>(ah.eg i x ai).up s8) (dF.up s8) (iu.up s8);have hQ:=Nat.le_of_ble_eq_true bc;have sB:(H++aq.map dE).Sublist ((O++H)++aq.map dE):=by
  rw[append_assoc];exact List.sublist_append_right _ _
 have Lx:bZ (lZ (λk=>R k\/B k) B H aq) w O w:=by
  have lf:=ah.aU.apart;rw[append_assoc,pairwise_append]at lf;refine⟨c9.refl _ _,λk aa=>?_,λc U=>?_,lf.1⟩
  ·rcases aa with aa|aa|⟨c,U,e⟩
   ·exact ah.aU.base k aa
   ·exact ah.aU.base k (.inr aa)
   ·exact((ah.aU.ok c (sB.subset U)).lt e).2
  ·have ha:=ah.aU.ok c (mem_append_left _ (mem_append_left _ U))
   refine ha.base λb ad aa=>?_
   rcases aa with aa|aa|⟨c',dJ,e⟩
   ·exact(ha.lt ad).1 aa
   ·exact(ha.lt ad).1 (.inr aa)
   ·exact lf.2.2 c U c' dJ b ad e
 let nA:=gd (hs n) st.L
 let p0:Nat->Prop:=λk=>R k\/B k
 let In:bC->(Nat->Prop)->(Nat->Prop)->World->Prop:=λh C b8 dp=>∃env' B' cw H',bK X p0 w ⟨B,oj n env,aE.d⟩ n aq env' B' cw H' ⟨nA,h⟩ a dp/\C=lZ p0 B' H' aq/\∀k,b8 k->B' k
 let bb:List α->(Nat->Prop)->(Nat->Prop)->World->Prop:=λr C b8 dp=>∃y,bU r y/\In (gZ y) C b8 dp
 let lX:Code->(Nat->Prop)->World->Prop:=λc C dp=>∃e aP b8,QA e=some c/\l0 e aP/\In aP C b8 dp
 have BL:∀h C b8 b1 np,In h C b8 b1->c9 C b1 np->In h C b8 np:=by
  rintro h C b8 b1 np ⟨env',B',cw,H',I,rfl,J⟩ aa;exact⟨env',B',cw,H',I.Lu aa,rfl,J⟩
 have BM:∀ {B':Nat->Prop} {cw:World} {env':Nat->Loc},(∀k,B k->B' k)->(∀k,B k->cw.heap[k]?=w.heap[k]?)->(∀id l,oj n env id l->env' id=l)->∀s sv,bm nA s=some sv->∃v,a.tmps[s]?=some v/\eK env' B' cw sv v:=by
  intro B' cw env' cB hw he s sv aj;obtain⟨u,I,rfl⟩:=ua aj;obtain⟨v,J,ag⟩:=h3.has s u I;exact⟨v,J,eK.c8 (Qx (λid l au aD a1=>he id l ⟨au,aD,a1⟩) hQ) (ag.up ⟨cB,hw⟩)⟩
 have BN:∀ {h:bC} {C b8:Nat->Prop} {b1:World} (k:Nat),w.heap.size<=k->¬C k->b1.heap[k]?=some (.deferred (some []))->In h C b8 b1->mQ X R W aE true n ⟨nA,h⟩ { a with defers:={ target:=.collected k,args:=#[] }::a.defers } b1:=by
  rintro h C b8 b1 k aa uB ay ⟨env',B',cw,H',I,rfl,_⟩;refine⟨k::aq,env',B',cw,H',⟨(λh=>by cases h),cb.2⟩,ah.aau ?_⟩;have lr:(dE k::(H'++aq.map dE)).Perm (H'++(k::aq).map dE):=by
   exact List.perm_middle.symm
  have eb:bZ (λq=>(R q\/B q)\/B' q) cw (dE k::(H'++aq.map dE)) b1:=by
   refine⟨I.aU.below,I.aU.base,λc U=>?_,List.Pairwise.cons (λc U q aC ba=>?_) I.aU.apart⟩
   ·rcases List.mem_cons.1 U with rfl|U
    ·exact⟨λar=>uB (ar.elim .inl λh=>.inr (.inl h)),ay⟩
    ·exact I.aU.ok c U
   ·have:k=q:=Option.some.inj aC
    subst this;exact uB (.inr (.inr ⟨c,U,ba⟩))
  refine⟨I.size,congrArg (List.cons (vt k)) I.defs,I.has,I.heap,eb.perm lr,I.sub,I.new,I.dr,I.base,I.eg⟩
 have dj:∀(c:Code) (m:Nat) (Q:Exit->Act->World->Prop) a w,c.wpIn Fence.wide m X.P Q a w↔c.wpIn Fence.wide 0 X.P Q a w:=λc m Q a w=>wpIn_wide.trans wpIn_wide.symm
 have BO:∀(id:Nat) (c:Code) (m:Nat) (Q:Exit->Act->World->Prop) a w,c.wpIn (Fence.wide.inRound id) 0 X.P Q a w->c.wpIn (Fence.wide.inRound id) m X.P Q a w:=λid c m Q a w h=>by
  intro b k cs yr ad aw;exact h b k cs yr ad (λ_ h=>by cases h)
 refine(dj _ 2 _ _ _).1 ?_;have Ly:∀vs:cl,(pl.toArray.zip vs.toArray).foldl (λt (p,v)=>t.setIfInBounds p v) a.tmps=(pl.zip vs).foldl (λt (p,v)=>t.setIfInBounds p v) a.tmps:=λx=>by
  rw[<- Array.foldl_toList,Array.toList_zip]
 refine SP (ah.cf.aI dX) (λargs w=>Pj gC ox pb) wH (c9.refl _ _) wK (λdt np x vs h=>by have:=dw.length h;rw[hlen x]at this;simpa using this) (λdt np k8 x vs aa h=>dw.up ⟨λ_ h=>h,λk ar=>aa.block k ar⟩ h)
  bb lX ?_ ?_ ?_ ?_ ?_ (lZ p0 B H aq) ?_ Lx ?_ ?_ ?_
 ·rintro r C b8 b1 np ⟨y,aG,I⟩ aa
  exact⟨y,aG,BL _ _ _ _ _ I aa⟩
 ·rintro c C b1 np ⟨e,aP,b8,he,nT,I⟩ aa
  exact⟨e,aP,b8,he,nT,BL _ _ _ _ _ I aa⟩
 ·rintro r C b8 b1 ⟨y,aG,env',B',cw,H',I,rfl,_⟩
  exact I.FC
 ·rintro r C b8 b1 ⟨y,aG,env',B',cw,H',I,rfl,J⟩ k aa
  exact .inr (.inl (J k aa))
 ·rintro c C b1 ⟨e,aP,b8,he,nT,env',B',cw,H',I,rfl,_⟩
  exact I.FC
 ·exact⟨iz,aS,env,B,w,H,⟨h3.size,h3.defs,BM (λ_ h=>h) (λ_ _=>rfl) (λ_ _ h=>h.2.1),ry.up s8,h3.aU.e2 sB,h3.sub,h3.new,h3.dr,h3.base,h3.eg⟩,rfl,λ_ h=>h⟩
 ·rintro id x rest vs C b8 dt W o hid SU Lr ⟨y,aG,rQ,dy,b5,H1,aS,rfl,pY⟩ nn pa
  rw[Ly];obtain⟨gg,y1⟩:∃gg:Nat->Prop,gg=λk=>dy k\/dt k:=⟨_,rfl⟩
  have FD:bK X p0 w ⟨B,oj n env,aE.d⟩ n aq rQ gg W H1 ⟨nA,gZ y⟩ a W:=by
   rw[y1];exact aS.now.SR λk aa=>(nn.new k aa).imp (λh=>pY k h) λ⟨h,J⟩=>⟨h,J⟩
  have lu:∀k,lZ p0 gg H1 aq k->lZ p0 dy H1 aq k\/dt k:=λk aa=>by
   rcases aa with aa|aa|aa
   ·exact .inl (.inl aa)
   ·rw[y1]at aa
    exact aa.imp (λh=>.inr (.inl h)) λh=>h
   ·exact .inl (.inr (.inr aa))
  have wN:∀k,dt k->gg k:=λk aa=>by rw[y1];exact .inr aa
  have SV:¬lZ p0 gg H1 aq id:=λh=>(lu id h).elim SU Lr
  have aeV:Has n rQ gg W nA a.tmps:=⟨ah.size,λs sv aj=>by
   obtain⟨v,J,ag⟩:=FD.has s sv aj;exact⟨v,J,ag.up ⟨λ_ h=>h,λk aa=>FD.aU.below.block k (.inr aa)⟩⟩⟩
  have aeW:=FD.round (Has.par aeV fH ((dw.any pa).up ⟨wN,λ_ _=>rfl⟩));have Lz:gB W H1 id:=⟨hid,λc U e=>SU (.inr (.inr ⟨c,mem_append_left _ U,e⟩))⟩
  have aeX:=qJ id x rest y aG _ _ _ _ _ ⟨[],rQ,gg,W,H1,⟨λ_=>rfl,λh=>by cases h⟩,aeW⟩;refine wpIn_mono (BO _ _ 1 _ _ _ aeX) ?_;rintro hh a5 wL ⟨anG,⟨rfl,aeY⟩,anH,aeZ,ae0,anI,ae1,SW,aD⟩;have ae2:=SW.1 rfl;subst ae2;refine⟨(aD.aU.below.block id (.inl Lz)).trans (aD.base.block id Lz),?_⟩;have wg:=(FD.Lu (uA (o:=o) SV)).now;have wh:=aD.put Lz (λh=>SV (.inr (.inl h))) hid o;have ae3:gB W H1=gB (W.putObj id o) H1:=funext λk=>by simp[gB]
  rw[ae3]at wh;obtain⟨b1,wI⟩:∃b1,b1=W.putObj id o:=⟨_,rfl⟩
  rw[<- wI]at wg wh ⊢;have I:=wg;have fB:=I.aU.e2 (List.sublist_append_left _ _);have ae4:∀k,B k->b1.heap[k]?=w.heap[k]?:=λk aa=>(I.aU.below.block k (.inl (.inr aa))).trans (I.base.block k (.inr aa))
  have LA:=aeY _ _ _ _ _ ⟨[],aeZ,ae0,_,ae1,SW,wh⟩;refine wpIn_mono (BO _ _ 1 _ _ _ LA) ?_;rintro e a3 k8 ⟨s,aj,J⟩;have jd:∀k,p0 k\/gg k->gB b1 H1 k:=λk aa=>⟨fB.base k aa,λc U e=>((fB.ok c U).lt e).1 aa⟩
  have key:∀aP eu,gR X false n s ⟨eu,aP⟩->∃cW,In aP cW dt k8/\Grow dt (lZ p0 dy H1 aq) cW b1 k8:=by
   intro aP eu hw;obtain⟨ae5,BP,s9,j3,BQ,FE,ag⟩:=hw _ _ _ _ _ J
   have:=FE.1 rfl
   subst this;have ml:∀k,gB b1 H1 k->k8.heap[k]?=b1.heap[k]?:=λk aa=>(ag.aU.below.block k (.inl aa)).trans (ag.base.block k aa)
   have au:=I.aav ag (BM (λk aa=>ag.sub k (I.sub k aa)) (λk aa=>(ag.base.block k (jd k (.inl (.inr aa)))).trans (ae4 k aa)) (λid l al=>(ag.dr id l ⟨(I.dr id l al).1,(I.dr id l al).2.1,(I.dr id l al).2.2⟩).2.1));have k9:=ag.aU;simp only[map_nil,append_nil]at k9;refine⟨_,⟨BP,s9,j3,BQ,au,rfl,λk aa=>ag.sub k (wN k aa)⟩,⟨⟨ag.aU.below.os.trans ag.base.os,ag.aU.below.tape.trans ag.base.tape,ag.aU.below.output.trans ag.base.output,le_trans ag.base.size ag.aU.below.size,λk aa=>?_⟩,λk aa=>?_⟩⟩
   ·rcases aa with aa|⟨j2,ju⟩
    ·exact ml k (jd k (.inr (wN k aa)))
    ·exact ml k ⟨j2,λc U e=>ju (.inr (.inr ⟨c,mem_append_left _ U,e⟩))⟩
   ·by_cases aW:b1.heap.size<=k
    ·exact .inr (.inl aW)
    ·have iI:lZ p0 gg H1 aq k->lZ p0 dy H1 aq k\/b1.heap.size<=k\/dt k:=λh=>(lu k h).imp_right .inr
     apply iI
     have LB:k<b1.heap.size:=by omega
     by_cases j2:lZ p0 gg H1 aq k
     ·exact j2
     ·exfalso
      have wO:gB b1 H1 k:=⟨LB,λc U e=>j2 (.inr (.inr ⟨c,mem_append_left _ U,e⟩))⟩
      rcases aa with aa|aa|⟨c,U,e⟩
      ·exact j2 (.inl aa)
      ·rcases ag.new k aa with aD|aD
       ·exact j2 (.inr (.inl aD))
       ·exact aD.1 wO
      ·rcases List.mem_append.1 U with U|U
       ·exact((k9.ok c U).lt e).1 (.inl wO)
       ·exact j2 (.inr (.inr ⟨c,mem_append_right _ U,e⟩))
  rcases aj with⟨rfl,nS,jT,eu,hw⟩|⟨cC,hex,aP,nT,eu,hw⟩
  ·obtain⟨cW,aD,a1⟩:=key _ _ hw
   exact⟨cW,⟨nS,jT,aD⟩,a1⟩
  ·obtain⟨cW,aD,a1⟩:=key _ _ hw
   cases e with
   |normal=>exact absurd rfl cC
   |ret=>exact⟨cW,⟨.ret,aP,_,rfl,nT,aD⟩,a1⟩
   |exit i=>exact⟨cW,⟨.exit i,aP,_,rfl,nT,aD⟩,a1⟩
   |goto t=>cases hex
   |panic c=>cases hex
   |outgrown=>cases hex
 ·rintro k C b8 b1 aa cJ ⟨y,aG,I⟩ ay
  exact⟨_,o9 y aG,BN k aa cJ ay I⟩
 ·rintro k c C b1 aa cJ ⟨e,aP,b8,he,nT,I⟩ ay
  have BR:=BN k aa cJ ay I;have ar:=nm e aP nT;cases e with
  |ret=>cases he;exact wpIn_ret ⟨_,ar,BR⟩
  |exit id=>cases he;exact(dj _ 2 _ _ _).2 (II ⟨_,ar,BR⟩)
  |normal=>cases he
  |goto t=>cases he
  |panic c=>cases he
  |outgrown=>cases he
theorem ae6{α β:Type}{X:bu}{n:Nat}{st:aO}{Q:Exit->aO->Prop}{g:Operand}{pl:b6}{assign body:Code}{ig:FuncId}{fn:Func}{gH:ep}{lY:α->dO}{l:List α}{b:Bool}{ms:List (Nat×Nat)}{al fq:bC}(aR : bz X st.L g = some (b, .c (.fn ig gH)))(ad : b = true)(gC : X.P.funcs[ig]? = some fn)(ox : (fn.name == "runtime.NumGoroutine") = false)(pb : fn.body.isNone = false)(hU : wM X ig gH al l lY)(hlen : ∀ x, (lY x).length = pl.length)(fH : mY n pl = true)(pZ : mq n assign ms)(nG : mY n (ms.map (·.1)) = true)(bc : ble n hZ = true)(gZ:β->bC)(bU:List α->β->Prop)(l0:Exit->bC->Prop)(iz:β)(aS:bU l iz)(dG:st.H=al++fq)(dH:∀ {env:Nat->Loc} {B:Nat->Prop} {w:World} {H:c2},bJ env B w fq H->∃H' Y,H.Perm (H'++Y)/\bJ env B w (gZ iz) H')(qJ:∀id x rest y,bU (x::rest) y->gQ X false n (some id) body ⟨sF ms (ub pl (lY x) (gd (hs n) st.L)),gZ y⟩ (λe s=>(e=.normal/\∃nS,bU rest nS/\∃eu,gR X false n s ⟨eu,gZ nS⟩)\/(e≠.normal/\Eo e=true/\∃aP,l0 e aP/\∃eu,gR X false n s ⟨eu,aP⟩)))(o9:∀y,bU [] y->Q .normal ⟨gd (hs n) st.L,gZ y⟩)(nm:∀e aP,l0 e aP->Q e ⟨gd (hs n) st.L,aP⟩):gQ X true n none (.rangeFunc g pl.toArray assign body) st Q:=SS aR ad gC ox pb hU hlen fH bc gZ bU l0 iz aS dG dH (λid x rest y aG=>aeU pZ nG (qJ id x rest y aG)) o9 nm
end
section
structure gh(X:bu)(M:Bool)(n:Nat)(rr:Option Nat)(aY:Type) where
 In:aY->aO->Act->World->Prop
 frame:∀ {c:Code} {st:aO} {Q:Exit->aO->Prop} {r:aY} {a:Act} {w:World},gQ X M n rr c st Q->In r st a w->kS rr X.P c (λe a w=>∃s,Q e s/\In r s a w) a w
 step:∀ {ops:List Oper} {o:Oper} {st st':aO} {r:aY} {a:Act} {w:World},K1 X n ops o st st'->In r st a w->∀ {KK:Act->World->Prop},(∀a w,In r st' a w->KK a w)->fh X.P ops.toArray o KK a w
 e2:∀ {st st':aO} {r:aY} {a:Act} {w:World},gR X M n st st'->In r st a w->In r st' a w
 y2:∀ {st:aO} {r:aY} {a:Act} {w:World},In r st a w->∃R W aE aq env B ak H,bK X R W aE n aq env B ak H st a w
variable {X:bu} {M:Bool} {n:Nat} {rr:Option Nat} {aY:Type}
def gh.ta(R:Nat->Prop)(W:World)(aE:fj)(f:aY):gh X M n rr aY where
 In r st a w:=r=f/\mQ X R W aE M n st a w
 frame h hi:=wpIn_mono (h R W aE _ _ hi.2) λ_ _ _ ⟨s,I,J⟩=>⟨s,I,hi.1,J⟩
 step h hi KK b4:=by
  obtain⟨b,aq,env,B,ak,H,d,ah⟩:=hi;exact h R W aE aq env B ak H _ _ ah _ λaX w' env' B' e H' c=>b4 _ _ ⟨b,aq,env',B',e,H',d,c⟩
 e2 h hi:=⟨hi.1,h _ _ _ _ _ hi.2⟩
 y2 hi:=by
  obtain⟨_,aq,env,B,ak,H,_,ah⟩:=hi;exact⟨_,_,_,_,_,_,_,_,ah⟩
def gh.const{b:Type}(Γ:gh X M n rr aY)(r:aY)(d0:b):gh X M n rr b where
 In d st a w:=d=d0/\Γ.In r st a w
 frame h hi:=wpIn_mono (Γ.frame h hi.2) λ_ _ _ ⟨s,I,J⟩=>⟨s,I,hi.1,J⟩
 step h hi KK b4:=Γ.step h hi.2 λa w h=>b4 a w ⟨hi.1,h⟩
 e2 h hi:=⟨hi.1,Γ.e2 h hi.2⟩
 y2 hi:=Γ.y2 hi.2
def iL(Γ:gh X M n rr aY)(c:Code)(r:aY)(st:aO)(Q:Exit->aO->aY->Prop):Prop:=∀a w,Γ.In r st a w->kS rr X.P c (λe a w=>∃s b,Q e s b/\Γ.In b s a w) a w
section
variable {Γ:gh X M n rr aY} {c fu cG:Code} {r:aY} {st st':aO} {Q tQ:Exit->aO->aY->Prop}
theorem wP{Q:Exit->aO->Prop}(h:gQ X M n rr c st Q):iL Γ c r st (λe s b=>Q e s/\b=r):=λa w hi=>wpIn_mono (Γ.frame h hi) λ_ _ _ ⟨s,I,J⟩=>⟨s,r,⟨I,rfl⟩,J⟩
theorem lF(h:iL Γ c r st Q)(d:∀e s b,Q e s b->tQ e s b):iL Γ c r st tQ:=λa w hi=>wpIn_mono (h a w hi) λ_ _ _ ⟨s,b,I,J⟩=>⟨s,b,d _ _ _ I,J⟩
theorem FF{b:Type}{d0:b}{Q:Exit->aO->b->Prop}(h:iL (Γ.const r d0) c d0 st Q):iL Γ c r st (λe s f=>f=r/\Q e s d0):=λa w hi=>wpIn_mono (h a w ⟨rfl,hi⟩) λ_ _ _ ⟨s,d,I,J,ag⟩=>⟨s,r,⟨rfl,J ▸ I⟩,ag⟩
theorem y3(b:gR X M n st st')(h:iL Γ c r st' Q):iL Γ c r st Q:=λa w hi=>h a w (Γ.e2 b hi)
def ae7(Γ:gh X M n rr aY)(c:Code)(Q:Exit->aO->aY->Prop):Exit->aO->aY->Prop
 |.normal,st,r=>iL Γ c r st Q
 |e,st,r=>Q e st r
theorem LC(h:iL Γ fu r st (ae7 Γ cG Q)):iL Γ (.seq fu cG) r st Q:=λa w hi=>by
 refine wpIn_seq (wpIn_mono (h a w hi) ?_);rintro e a w ⟨s,b,I,J⟩;cases e with
 |normal=>exact I a w J
 |_=>exact⟨s,b,I,J⟩
theorem ae8{x:Operand}{g b:Bool}(ai:bz X st.L x=some (g,.c (.val (.bool b))))(c:g=true)(I:b=true->iL Γ fu r st Q)(d:b=false->iL Γ cG r st Q):iL Γ (.cond x fu cG) r st Q:=λa w hi=>by
 obtain⟨R,W,aE,aq,env,B,ak,H,ah⟩:=Γ.y2 hi;obtain⟨v,J,ag⟩:=ah.aI ai c;rw[show v=_ from ag]at J;exact O7 ah.sym J (λad=>I ad a w hi) (λad=>d ad a w hi)
def SX(id:Nat)(Q:Exit->aO->aY->Prop):Exit->aO->aY->Prop
 |.exit a,st,r=>match beq a id with
  |true=>Q .normal st r
  |false=>Q (.exit a) st r
 |e,st,r=>Q e st r
theorem ae9{id:Nat}(h:iL Γ c r st (SX id Q)):iL Γ (.block id c) r st Q:=λa w hi=>by
 refine O6 (wpIn_mono (h a w hi) ?_);rintro e a w ⟨s,b,I,J⟩;cases e with
 |exit f=>
  simp only[SX]at I
  split at I
  ·rename_i ad
   have:=eq_of_beq_eq_true ad
   subst this;simp only[Exit.inBlock,if_true];exact⟨s,b,I,J⟩
  ·rename_i ad
   have d:=ne_of_beq_eq_false ad;simp only[Exit.inBlock,if_neg d];exact⟨s,b,I,J⟩
 |_=>exact⟨s,b,I,J⟩
def afa(Q:Exit->aO->aY->Prop):Exit->aO->aY->Prop
 |.goto _,_,_=>False
 |e,st,r=>Q e st r
theorem afb(h:iL Γ c r st (afa Q)):iL Γ (.scope c) r st Q:=λa w hi=>by
 refine ab1 (wpIn_mono (h a w hi) ?_);rintro e a w ⟨s,b,I,J⟩;cases e with
 |goto l=>exact I.elim
 |_=>exact⟨s,b,I,J⟩
def afc{α:Type}(M:Bool)(n:Nat)(X:bu)(bb:α->aO)(bU:α->aY->Prop)(m:α->Nat)(x:α)(Q:Exit->aO->aY->Prop):Exit->aO->aY->Prop
 |.normal,st,r=>∃y,bU y r/\m y<m x/\gR X M n st (bb y)
 |e,st,r=>Q e st r
theorem LD{α:Type}(bb:α->aO)(bU:α->aY->Prop)(m:α->Nat)(b:α)(g:bU b r)(j:gR X M n st (bb b))(i:∀x r,bU x r->iL Γ c r (bb x) (afc M n X bb bU m x Q)):iL Γ (.loop c) r st Q:=λa w hi=>by
 refine O8 (λx a w=>∃r,bU x r/\Γ.In r (bb x) a w) m b ⟨r,g,Γ.e2 j hi⟩ λx a w ⟨r,k,hi⟩=>wpIn_mono (i x r k a w hi) ?_
 rintro e a w ⟨s,d,I,J⟩;cases e with
 |normal=>
  obtain⟨y,ag,h,f⟩:=I;exact⟨y,⟨d,ag,Γ.e2 f J⟩,h⟩
 |_=>exact⟨s,d,I,J⟩
theorem BS{c:Code}{st:aO}{Q:Exit->aO->aY->Prop}{r:aY}(h:∀R W aE,iL (gh.ta (X:=X) (M:=M) (n:=n) (rr:=rr) R W aE r) c r st Q):gQ X M n rr c st (λe s=>Q e s r):=λR W aE a w ah=>by
 refine wpIn_mono (h R W aE a w ⟨rfl,ah⟩) ?_;rintro e a w ⟨s,b,I,rfl,J⟩;exact⟨s,I,J⟩
end
theorem afd(z:X.a6.ok X.P){f:FuncId}{fn:Func}{c:Code}{args:dO}{h:bC}{Q:cd->bC->Prop}{res:List ResultVar}(az:X.P.funcs[f]?=some fn)(ad:fn.body=some c)(aM:fn.ntmps=n)(ae:ble args.length n=true)(bc:ble n iT=true)(A:fn.results=res.toArray)(D:gQ X true n none c ⟨mh 0 args,h⟩ (λe st=>(e=.ret\/e=.normal)/\∃st',gR X true n st st'/\∃c sv,oe X st' res=some (c,sv)/\c=true/\Q sv st'.H)):AC X f args h Q:=by
 intro B ak env vs H W t bh C g;have K:=bh.length;have hle:vs.length<=n:=by rw[K];exact Nat.le_of_ble_eq_true ae
 refine(callsIn_wide (n:=0)).1 (callsIn_of_wp_marks az ad trivial ?_);have o:gm B ak B W:=⟨λ_ h=>h,λk aa=>g.below.block k aa⟩
 have E:∀k,B k->gB W H k:=λk aa=>⟨g.base k aa,λc U e=>((g.ok c U).lt e).1 aa⟩
 have r:=DF aM hle _ rfl;have ah:bK X (gB W H) W ⟨B,λid l=>((iT<=id/\∃b,l=.blk b)\/hZ<=id)/\env id=l,[]⟩ n [] env B W H ⟨mh 0 args,h⟩ { tmps:=vs.toArray++Array.replicate (fn.ntmps-vs.toArray.size) undef,defers:=[] } W:=by
  refine⟨r.size,rfl,λs sv M=>?_,C.up o,?_,λ_ h=>h,λ_ h=>.inl h,λid l al=>⟨le_trans (Nat.le_of_ble_eq_true bc) (al.1.elim (λh=>h.1) (λh=>le_trans (by decide) h)),al.2,al.1.imp (λh=>h.2) (λh=>h)⟩,c9.refl _ _,λi x ai=>(t i x ai).up o⟩
  ·obtain⟨_,v,I,J⟩:=Ax bh M
   refine⟨v,?_,J.up o⟩;have u:=(List.getElem?_eq_some_iff.1 I).1;rw[Array.getElem?_append_left (by simpa using u)]
   simpa using I
  ·have I:=g.rest
   simp only[map_nil,append_nil];exact⟨c9.refl _ _,λk aa=>aa.elim (λh=>h.1) (λh=>g.base k h),λc U=>(I.ok c U).base λb ad aa=>aa.elim (λh=>((I.ok c U).lt ad).1 h) (λh=>((I.ok c U).lt ad).1 (E b h)),I.apart⟩
 refine wpIn_mono (D _ _ _ _ _ ⟨[],env,B,W,H,⟨(λh=>by cases h),λ_ id l (al:((iT<=id/\∃b,l=.blk b)\/hZ<=id)/\env id=l)=>al.1.elim (λh=>h.1) (λh=>le_trans (by decide) h)⟩,ah⟩) ?_;rintro e a w ⟨st,⟨he,st',j,c,sv,L,U,F⟩,J⟩;obtain⟨aq,env',B',m,H',O,d⟩:=j _ _ _ _ _ J;have G:bK X (gB W H) W ⟨B,λid l=>((iT<=id/\∃b,l=.blk b)\/hZ<=id)/\env id=l,[]⟩ n [] env' B' m H' st' { tmps:=a.tmps,defers:=[] } w:=
  ⟨d.size,rfl,d.has,d.heap,by simpa using d.aU.e2 (List.sublist_append_left _ _),d.sub,d.new,d.dr,d.base,d.eg⟩
 obtain⟨v,ag,y⟩:=Ay z G A L U;have N:Sym n (aq.map vt) (full a) (λk=>gB W H k\/B' k) m (aq.map (λk=>bp.obj k (.deferred (some [])))++H') a w:=⟨by have dG:=d.cf;simpa [kW] using dG,d.aU.perm List.perm_append_comm⟩
 have key:=Pg (R:=pI X env B H W Q) aq N (λw j=>y w (by simpa using j)) λw j=>⟨env',B',m,H',sv,st'.H,F,d.sub,d.new,d.base,ag,d.heap,j,λid l q p=>(d.dr id l ⟨q,p⟩).2.1⟩
 rcases he with rfl|rfl
 ·exact key
 ·exact key
end
end Go.Proofs.YtcheedjfedcbpaaGreatDoor
