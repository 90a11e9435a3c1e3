/- Part 3 of 6 of the proof. -/
import Derived.Test.YtldjgdggcodgeaaGreatPe2
import Derived.RangeFuncNested
set_option linter.unusedSimpArgs false
set_option linter.unusedVariables false
set_option maxRecDepth 100000
namespace Go.Proofs.YtldjgdggcodgeaaGreat
open Go.RowKit
section
set_option linter.unusedSectionVars false
section
variable {B:Nat->Prop} {w:World} {T':TypeId} {g:ba}
theorem bP.Md:bP B w (.ak g) ([]:List g.D) [.slice none 0 0]:=⟨none,0,[],rfl,Nat.le_refl _,Nat.zero_le _,rfl,Reads.nil _ _ _,fun _ _ h=>absurd h (Nat.lt_irrefl 0)⟩
theorem dA.hole:∀ {l:List (Bool×List g.D)} {bn:List Value} {I:List fY} {i:Nat},dA B w T' g l bn I->i < l.length ->
    ∃ v eJ,bn[i]?=some v/\dA B w T' g (l.set i (false,[])) (bn.set i (.slice none 0 0)) eJ /\
      (((l.getD i (false,[])).1=true/\∃ A k xs,v=.slice A (l.getD i (false,[])).2.length k/\Flat (bP B w g) (l.getD i (false,[])).2 xs/\I.Perm (⟨A,k,T',g.size,(l.getD i (false,[])).2.length,xs⟩ :: eJ)) \/
       ((l.getD i (false,[])).1=false/\I=eJ/\bP B w (.ak g) (l.getD i (false,[])).2 [v]))
  | [],_,_,_,_,h=>by simp at h
  | (true,li) :: l,_,_,0,⟨v,eY,e,A,k,xs,eJ,aw,gI,az,aY⟩,_=>by
    subst e;exact⟨v,eJ,rfl,⟨_,eY,rfl,bP.Md,aY⟩,.inl ⟨rfl,A,k,xs,aw,az,by rw[gI]; exact List.Perm.refl _⟩⟩
  | (false,li) :: l,_,I,0,⟨v,eY,e,az,aY⟩,_=>by
    subst e;exact⟨v,I,rfl,⟨_,eY,rfl,bP.Md,aY⟩,.inr ⟨rfl,rfl,az⟩⟩
  | (true,li) :: l,_,_,i+1,⟨v,eY,e,A,k,xs,FV,aw,gI,az,aY⟩,h=>by
    subst e;obtain⟨u,eJ,J,U,ag⟩:=dA.hole aY (Nat.lt_of_succ_lt_succ h);refine⟨u,_ :: eJ,J,⟨v,_,rfl,A,k,xs,eJ,aw,rfl,az,U⟩,ag.imp (fun⟨f,c7,e0,gy,aC,a1,cq⟩=>⟨f,c7,e0,gy,aC,a1,?_⟩) fun⟨f,aC,a1⟩=>⟨f,?_,a1⟩⟩
    · rw[gI]
      exact(List.Perm.cons _ cq).trans (List.Perm.swap _ _ _)
    · rw[gI,aC]
  | (false,li) :: l,_,_,i+1,⟨v,eY,e,az,aY⟩,h=>by
    subst e;obtain⟨u,eJ,J,U,ag⟩:=dA.hole aY (Nat.lt_of_succ_lt_succ h);exact⟨u,eJ,J,⟨v,_,rfl,az,U⟩,ag⟩
theorem dA.fill{ct:List g.D} {A:Option Addr} {k:Nat} {xs:List Value} (jQ:Flat (bP B w g) ct xs):∀ {l:List (Bool×List g.D)} {bn:List Value} {I:List fY} {i:Nat},dA B w T' g (l.set i (false,[])) bn I->i < l.length ->
    ∃ eJ,eJ.Perm (⟨A,k,T',g.size,ct.length,xs⟩ :: I)/\dA B w T' g (l.set i (true,ct)) (bn.set i (.slice A ct.length k)) eJ
  | [],_,_,_,_,h=>by simp at h
  | _ :: l,_,I,0,⟨v,eY,e,_,aY⟩,_=>by
    subst e;exact⟨_,List.Perm.refl _,_,eY,rfl,A,k,xs,I,rfl,rfl,jQ,aY⟩
  | (true,li) :: l,_,_,i+1,⟨v,eY,e,FW,FX,xD,FV,aw,gI,az,aY⟩,h=>by
    subst e;obtain⟨eJ,J,U⟩:=dA.fill jQ (A:=A) (k:=k) aY (Nat.lt_of_succ_lt_succ h);refine⟨_ :: eJ,?_,v,_,rfl,FW,FX,xD,eJ,aw,rfl,az,U⟩;rw[gI];exact(List.Perm.cons _ J).trans (List.Perm.swap _ _ _)
  | (false,li) :: l,_,_,i+1,⟨v,eY,e,az,aY⟩,h=>by
    subst e;obtain⟨eJ,J,U⟩:=dA.fill jQ (A:=A) (k:=k) aY (Nat.lt_of_succ_lt_succ h);exact⟨eJ,J,v,_,rfl,az,U⟩
theorem dA.FY{ct:List g.D} {u:Value} (jQ:bP B w (.ak g) ct [u]):∀ {l:List (Bool×List g.D)} {bn:List Value} {I:List fY} {i:Nat},dA B w T' g (l.set i (false,[])) bn I->i < l.length ->
    dA B w T' g (l.set i (false,ct)) (bn.set i u) I
  | [],_,_,_,_,h=>by simp at h
  | _ :: l,_,I,0,⟨v,eY,e,_,aY⟩,_=>by
    subst e;exact⟨_,eY,rfl,jQ,aY⟩
  | (true,li) :: l,_,_,i+1,⟨v,eY,e,FW,FX,xD,FV,aw,gI,az,aY⟩,h=>by
    subst e;exact⟨v,_,rfl,FW,FX,xD,FV,aw,gI,az,dA.FY jQ aY (Nat.lt_of_succ_lt_succ h)⟩
  | (false,li) :: l,_,_,i+1,⟨v,eY,e,az,aY⟩,h=>by
    subst e;exact⟨v,_,rfl,az,dA.FY jQ aY (Nat.lt_of_succ_lt_succ h)⟩
theorem dA.map{l:List (List g.D)}:∀ {l:List (List g.D)} {bn:List Value},Flat (bP B w (.ak g)) l bn->dA B w T' g (l.map fun x=>(false,x)) bn []
  | [],_,h=>⟨h,rfl⟩
  | x :: l,_,⟨v1,v2,e,J,U⟩=>by
    have ad:=bP.length J
    match v1,ad with
    | [v],_=>exact⟨v,v2,e,J,dA.map (l:=l) U⟩
theorem dA.Me:∀ k:Nat,∃ I,dA B w T' g (List.replicate k (true,[])) (List.replicate k (.slice none 0 0)) I/\∀ r∈I,r=⟨none,0,T',g.size,0,[]⟩
  | 0=>⟨[],⟨rfl,rfl⟩,fun _ h=>by cases h⟩
  | k+1=>by
    obtain⟨I,J,U⟩:=dA.Me k;refine⟨_ :: I,⟨_,_,rfl,none,0,[],I,rfl,rfl,rfl,J⟩,fun r au=>?_⟩
    rcases List.mem_cons.1 au with rfl | au
    · rfl
    · exact U r au
end
theorem yc{id d:Nat} {z:bg} {b:cA} (cG:id≠d):∀ {l:bE},aZ l id=some b->aZ (dG d z l) id=some (b.sub d z)
  | [],h=>by cases h
  | (k,b') :: l,h=>by
    rw[cn]at h;unfold dG
    split at h
    · rename_i e
      subst e;cases h
      have:Nat.beq id d=false:=by
        cases ae:Nat.beq id d with
        | false=>rfl
        | true=>exact absurd (Nat.eq_of_beq_eq_true ae) cG
      rw[this,cn,if_pos rfl]
    · rename_i e
      split
      · exact yc cG h
      · rw[cn,if_neg e]
        exact yc cG h
section
variable {X:bq} {R:Nat->Prop} {W:World} {aD:eT} {n:Nat} {ks:List Nat} {env:Nat->Loc} {B:Nat->Prop} {ai:World} {H:List bc} {st:aM} {a aW:Act} {w:World} {d:Nat} {o:Oper}
theorem List.Mf {α:Type} {l:List α} {i:Nat} {v:α} (h:l[i]?=some v):l.set i v=l:=by
  obtain⟨aL,rfl⟩:=List.getElem?_eq_some_iff.1 h;exact List.set_getElem_self aL
theorem bI.Mg(h:bI X R W aD n ks env B ai H st a w) (ax:Nat.blt d n=true) (l:Loc):∃ H2,H2.Sublist H/\bI X R W aD n ks (h8 env d l) B ai H2 ⟨fe d .dead st.L,dG d .dead st.H⟩ a w:=by
  obtain⟨H2,J,U⟩:=h.heap.del (z:=.dead) (h4 (env:=env) (id:=d) (l:=l)) (fun _ _=>trivial);refine⟨H2,J,h.size,h.defs,fun s u aj=>?_,U,h.aU.en (J.append_right _),h.sub,h.new,nY h.dt (fun q an=>by have J:=(h.dt _ _ an).1; have U:=dK ax; omega),h.base,h.dX⟩;obtain⟨hz,hA,rfl⟩:=lK aj;obtain⟨eF,ag,ay⟩:=h.has s hz hA;exact⟨eF,ag,ei.sub (z:=.dead) (h4 (env:=env)) (fun _ _=>trivial) ay⟩
theorem bK.same{B:Nat->Prop} {ai w:World} {H:List bc} (h:bK B ai H w) {c c':bc} (aa:c∈H) (e3:c'∈H) {b:Nat} (ae:c.has b) (eX:c'.has b):c=c':=by
  have key:∀ {H:List bc},H.Pairwise bc.off->c∈H->c'∈H->c=c':=by
    intro H
    induction H with
    | nil=>intro _ h; cases h
    | cons x r bJ=>
      intro an J U;obtain⟨ag,ay⟩:=List.pairwise_cons.1 an
      rcases List.mem_cons.1 J with aC | aO
      · rcases List.mem_cons.1 U with a1 | aK
        · rw[aC,a1]
        · subst aC; exact absurd eX (ag _ aK b ae)
      · rcases List.mem_cons.1 U with a1 | aK
        · subst a1; exact absurd ae (ag _ aO b eX)
        · exact bJ ay aO aK
  exact key h.apart aa e3
theorem ne_of_beq_false{a b:Nat} (h:Nat.beq a b=false):a≠b:=fun e=>by subst e; rw[Nat.beq_refl]at h; cases h
def s7:Option (Nat×Option Nat)->Nat->Bool
  | none,_=>true
  | some (j,_),i=>decide (j=i)
theorem dA.X6{T':TypeId} {g:ba} {l:List (Bool×List g.D)} {bn cM:List Value} {I:List fY} {h:Option (Nat×Option Nat)} {i:Nat} (aY:dA B w T' g (Kv l h) bn I) (aw:xi env l.length bn cM h) (bb:s7 h i=true) (hi:i < l.length) :
    ∃ iP eJ,dA B w T' g (l.set i (false,[])) iP eJ/\(∀ u,cM.set i u=iP.set i u)/\cM.length=l.length/\∃ eE,I.Perm eE/\eJ.Sublist eE:=by
  match h,aY,aw,bb with
  | none,aY,aw,_=>
    subst aw;obtain⟨v,eJ,J,U,ag⟩:=dA.hole (show dA B w T' g l cM I from aY) hi;refine⟨_,eJ,U,fun u=>by rw[List.set_set],dA.length (show dA B w T' g l cM I from aY),?_⟩
    rcases ag with⟨_,A,k,xs,_,_,an⟩ | ⟨_,e,_⟩
    · exact⟨_,an,List.sublist_cons_self _ _⟩
    · exact⟨eJ,by rw[e],List.Sublist.refl _⟩
  | some (j,qZ),aY,⟨_,v,J,_⟩,bb=>
    have e:j=i:=of_decide_eq_true bb;subst e;have ad:=dA.length (show dA B w T' g (l.set j (false,[])) bn I from aY);rw[List.length_set]at ad;exact⟨bn,I,aY,fun u=>by rw[J,List.set_set],by rw[J,List.length_set,ad],I,List.Perm.refl _,List.Sublist.refl _⟩
theorem bI.Mh(h:bI X R W aD n ks env B ai H st a w) {id:Nat} {b b':cA} (b8:aZ st.H id=some b):∃ c jq jr,ej env B ai id b c/\H=jq++c :: jr/\∀ c' aW w',ej env B ai id b' c'->bK (fun k=>R k\/B k) ai (jq++c' :: (jr++ks.map dC)) w'->c2 n (jR ks aD) (gn a) aW->bI X R W aD n ks env B ai (jq++c' :: jr) ⟨st.L,eO id b' st.H⟩ aW w':=by
  obtain⟨c,K,J,⟨jq,jr,aC,rfl⟩,ag⟩:=h.heap.put b8;refine⟨c,jq,jr,J,aC,fun c' aW w' ae aj aJ=>⟨aJ.size,aJ.defs,fun s u hu=>?_,ag b' c' ae,by rw[List.append_assoc,List.cons_append]; exact aj,h.sub,h.new,h.dt,h.base,h.dX⟩⟩;obtain⟨eF,ay,aO⟩:=h.has s u hu;exact⟨eF,aJ.same ay,aO⟩
theorem bK.X7{B:Nat->Prop} {ai w:World} {H:List bc} (h:bK B ai H w):bK B ai (.tree [] :: H) w:=
  ⟨h.below,h.base,fun c aa=>by
    rcases List.mem_cons.1 aa with rfl | aa
    · exact⟨(fun _ h=>by cases h),List.Pairwise.nil⟩
    · exact h.ok c aa,List.Pairwise.cons (fun c aa b ae=>by obtain⟨_,h,_⟩:=ae; cases h) h.apart⟩
theorem bK.Mi{B:Nat->Prop} {ai w:World} {X Y:List bc} {r:fY} (h:bK B ai (X++r.dz :: Y) w):bK B ai (X++.tree [r] :: Y) w:=
  ((((h.perm oG).X7).perm (List.Perm.swap _ _ _)).Ed).perm oG.symm
theorem bK.Mj{B:Nat->Prop} {ai w:World} {H:List bc} {r:fY}:∀ {I:List fY},bK B ai (.tree [r] :: H) w->(∀ s∈I,∃ e cP,s=⟨none,0,e,cP,0,[]⟩)->bK B ai (.tree (r :: I) :: H) w
  | [],h,_=>h
  | s :: I,h,gI=>by
    obtain⟨e,cP,rfl⟩:=gI _ List.mem_cons_self;have bJ:=bK.Mj (I:=I) h fun s aj=>gI s (List.mem_cons_of_mem _ aj)
    have U:bK B ai (.tree (⟨none,0,e,cP,0,[]⟩ :: r :: I) :: H) w:=(bJ.oL e cP).Ed;exact bK.xa (X:=[]) U ⟨_,List.Perm.swap _ _ _,List.Sublist.refl _⟩
theorem Mk(av:X.a7.ok X.P) {t T T':TypeId} {bp:bo} {x:Operand} {id d2 i j:Nat} {g:ba} {l:List (Bool×List g.D)} {cap:Option Nat} {g1:Bool} (aA:o.op=.load t x)
    (aY:X.a7.find t=some bp) (ns:jO bp.bs.desc=false) (ah:bw X st.L x=some (g1,.c (.dV id 1 i 0))) (dw:g1=true) (b8:aZ st.H id=some (.bQ T T' g l cap (some (j,some d2)))) (mh:decide (i=j)=true):hh X st o (.c (.ak d2)):=by
  intro R W aD n ks env B ai H a b0 al;have e:i=j:=of_decide_eq_true mh;subst e;obtain⟨vx,J,b,c,m,he,rfl⟩:=al.aE ah dw;obtain⟨dz,K,⟨A,k,bn,cM,I,cV,rfl,jZ,⟨hi,v,aw,ax⟩,_⟩,az⟩:=al.heap.gx b8;rw[he]at cV;cases cV;obtain⟨cm,c',cI,kY,rfl⟩:=ax d2 rfl;have yd:=dA.length (show dA B ai T' g (l.set i (false,[])) bn I from jZ);rw[List.length_set]at yd;refine⟨.slice cm cI c',⟨cm,c',cI,kY,rfl⟩,fun w ea=>?_⟩;have e7:ey w (fun k=>R k\/B k) T 1 (some ⟨b,0,none⟩) c l.length cM:=((ea (by rw[aA]; rfl)).ok _ az.more.mem).1 _ List.mem_cons_self;have jy:w.cell? ⟨b,i * 1+0,none⟩=some (.slice cm cI c'):=by
    rw[e7.cells rfl _ (by omega),aw]
    simp[List.getElem?_set,yd,hi]
  exact sl al.cb aA (cj.get av aY).bs ns J jy
theorem bI.storeT(av:X.a7.ok X.P) (al:bI X R W aD n ks env B ai H st a w) {t T T':TypeId} {bp:bo} {x y:Operand} {id i b cI k':Nat} {g:ba} {l:List (Bool×List g.D)} {cap:Option Nat} {h:Option (Nat×Option Nat)} {c7:Option Addr} (aA:o.op=.store t x y) (bb:o.guard=none/\o.dst=none)
    (aY:X.a7.find t=some bp) (c6:Nat.beq bp.bs.size 1=true) (ah:Go.Proofs.YtldjgdggcodgeaaGreat.aE (gn a) x=some (.pointer (some ⟨b,i * 1+0,none⟩))) {c m:Nat} (he:env id=.row (some ⟨b,0,none⟩) c m) (aH:Go.Proofs.YtldjgdggcodgeaaGreat.aE (gn a) y=some (.slice c7 cI k'))
    (b8:aZ st.H id=some (.bQ T T' g l cap h)) (b1:s7 h i=true) (hi:i < l.length) {b':cA} {iW:List Oper} {KK:Act->World->Prop}
    (ae:(∀ q,cap=some q->c=q)->∀ iP I,dA B ai T' g (l.set i (false,[])) iP I->ej env B ai id b' (.tree (⟨some ⟨b,0,none⟩,c,T,1,l.length,iP.set i (.slice c7 cI k')⟩ :: I)))
    (ed:∀ aW w' H',bI X R W aD n ks env B ai H' ⟨st.L,eO id b' st.H⟩ aW w'->KK aW w'):eW X.P iW.toArray o KK a w:=by
  obtain⟨dz,jq,jr,⟨A,k,bn,cM,I,cV,rfl,jZ,mR,fq⟩,ec,mO⟩:=al.Mh (b':=b') b8;rw[he]at cV;cases cV;obtain⟨iP,eJ,X8,gN,yd,fT⟩:=dA.X6 jZ mR b1 hi
  let ek:fY:=⟨some ⟨b,0,none⟩,c,T,1,l.length,cM⟩
  have ea:=al.aU;rw[ec,List.append_assoc,List.cons_append]at ea;have X9:bK (fun k=>R k\/B k) ai (jq++.tree (ek :: eJ) :: (jr++ks.map dC)) w:=by
    obtain⟨eE,an,aj⟩:=fT;exact ea.xa ⟨ek :: eE,List.Perm.cons _ an,aj.cons_cons _⟩
  have ck:Sym n (jR ks aD) (gn a) (fun k=>R k\/B k) ai (ek.dz :: (jq++.tree eJ :: (jr++ks.map dC))) a w:=⟨al.cb,X9.AB⟩
  have nc:=(cj.get av aY).bs;have fu:=Nat.eq_of_beq_eq_true c6;refine AV (v:=.slice c7 cI k') ck aA bb nc ah aH (by rw[fu]; rfl) (by intro u hu; simp[Value.cells]at hu; subst hu; rfl) (uo (c:=ek.dz)) (by show i * 1+0+1<=l.length * 1; omega) fun aW w' Ml=>?_
  have e:cM.take (i * 1+0)++(Value.slice c7 cI k').cells.toList++cM.drop (i * 1+0+(Value.slice c7 cI k').cells.toList.length)=iP.set i (.slice c7 cI k'):=by
    rw[<- gN,List.set_eq_take_append_cons_drop,if_pos (by omega)]
    simp[Value.cells]
  have lH:=Ml.aU;rw[e]at lH;have Ya:=bK.J6 (r:=⟨some ⟨b,0,none⟩,c,T,1,l.length,iP.set i (.slice c7 cI k')⟩) lH;exact ed aW w' _ (mO _ aW w' (ae fq iP eJ X8) Ya Ml.st)
theorem Mm(av:X.a7.ok X.P) {t T T':TypeId} {bp:bo} {x y:Operand} {id d i:Nat} {g:ba} {l:List (Bool×List g.D)} {cap:Option Nat} {h:Option (Nat×Option Nat)} {g1 g2:Bool} (aA:o.op=.store t x y) (bb:o.guard=none/\o.dst=none)
    (aY:X.a7.find t=some bp) (c6:Nat.beq bp.bs.size 1=true) (ah:bw X st.L x=some (g1,.c (.dV id 1 i 0))) (dw:g1=true) (aH:bw X st.L y=some (g2,.c (.ak d))) (dP:g2=true) (b8:aZ st.H id=some (.bQ T T' g l cap h)) (b1:s7 h i=true)
    (hi:decide (i < l.length)=true):gB X n o st ⟨st.L,eO id (.bQ T T' g l cap (some (i,some d))) st.H⟩:=by
  intro R W aD ks env B ai H a w al KK iW ed;have aL:=of_decide_eq_true hi;obtain⟨vx,J,b,c,m,he,rfl⟩:=al.aE ah dw;obtain⟨vy,fN,c7,cR,fS,kY,rfl⟩:=al.aE aH dP;have hm:m=l.length:=by
    obtain⟨dz,K,⟨A,k,bn,cM,I,cV,_⟩,_⟩:=al.heap.gx b8;rw[he]at cV;cases cV
    rfl
  subst hm;exact al.storeT (b':=.bQ T T' g l cap (some (i,some d))) av aA bb aY c6 J he fN b8 b1 aL (fun fq iP I bk=>⟨_,c,iP,_,I,he,rfl,bk,⟨aL,_,rfl,fun ga mn=>by cases mn; exact⟨c7,cR,fS,kY,rfl⟩⟩,fq⟩) fun aW w' H' b7=>ed aW w' env H' b7
theorem Yb(av:X.a7.ok X.P) {t T T':TypeId} {bp:bo} {x y:Operand} {id i:Nat} {g:ba} {l:List (Bool×List g.D)} {ct:List g.D} {cap ya:Option Nat} {h:Option (Nat×Option Nat)} {g1 g2:Bool} (aA:o.op=.store t x y) (bb:o.guard=none/\o.dst=none)
    (aY:X.a7.find t=some bp) (c6:Nat.beq bp.bs.size 1=true) (ah:bw X st.L x=some (g1,.c (.dV id 1 i 0))) (dw:g1=true) (aH:bw X st.L y=some (g2,.c (.bd g ct ya))) (dP:g2=true) (b8:aZ st.H id=some (.bQ T T' g l cap h)) (b1:s7 h i=true)
    (hi:decide (i < l.length)=true):gB X n o st ⟨st.L,eO id (.bQ T T' g (l.set i (false,ct)) cap none) st.H⟩:=by
  intro R W aD ks env B ai H a w al KK iW ed;have aL:=of_decide_eq_true hi;obtain⟨vx,J,b,c,m,he,rfl⟩:=al.aE ah dw;obtain⟨vy,fN,c7,cR,gy,rfl,c8,dL,fA,hg,lJ⟩:=al.aE aH dP;have hm:m=l.length:=by
    obtain⟨dz,K,⟨A,k,bn,cM,I,cV,_⟩,_⟩:=al.heap.gx b8;rw[he]at cV;cases cV
    rfl
  subst hm;exact al.storeT (b':=.bQ T T' g (l.set i (false,ct)) cap none) av aA bb aY c6 J he fN b8 b1 aL (fun fq iP I bk=>⟨_,c,_,_,I,by rw[List.length_set]; exact he,by rw[List.length_set],dA.FY (u:=.slice c7 ct.length cR) ⟨c7,cR,gy,rfl,c8,dL,hg,lJ⟩ bk aL,rfl,fq⟩) fun aW w' H' b7=>ed aW w' env H' b7
theorem Yc{T T':TypeId} {id i:Nat} {g:ba} {l:List (Bool×List g.D)} {cap:Option Nat} (ax:Nat.blt d n=true) (b8:aZ st.H id=some (.bQ T T' g l cap none)) (cG:Nat.beq d id=false)
    (hi:decide (i < l.length)=true) (cS:(l.getD i (false,[])).1=true)
    : dk X n st ⟨fe d .dead st.L,(d,.row T' g (l.getD i (false,[])).2 none) :: eO id (.bQ T T' g l cap (some (i,some d))) (dG d .dead st.H)⟩:=fun R W aD M a w ⟨ks,env,B,ai,H,cp,al⟩=>by
  have aL:=of_decide_eq_true hi;have qg:id≠d:=fun e=>ne_of_beq_false cG e.symm
  obtain⟨c0,BL,⟨A,k,bn,cM,I,he,rfl,jZ,mR,fq⟩,mf⟩:=al.heap.gx b8;have qh:cM=bn:=mR;subst qh;obtain⟨b,rfl⟩:=ey.at ((al.aU.ok _ mf.more.mem).1 _ List.mem_cons_self) (by show 0 < l.length; omega);obtain⟨v,eJ,aw,ye,p3⟩:=dA.hole (show dA B ai T' g l cM I from jZ) aL
  rcases p3 with⟨_,c7,e0,gy,rfl,jQ,pT⟩ | ⟨yf,_⟩
  · obtain⟨H2,fT,eS⟩:=al.Mg ax (.row c7 e0 (l.getD i (false,[])).2.length)
    obtain⟨ft,Yd,fE,⟨jq,jr,rz,rfl⟩,mO⟩:=eS.heap.put (yc (z:=.dead) qg b8);subst rz;obtain⟨FZ,jk,s8,mS,s9,lu,rfl,_⟩:=fE;rw[h4 id qg,he]at lu;cases lu;have lS:=al.aU.same (c:=.tree (⟨some ⟨b,0,none⟩,k,T,1,l.length,mS⟩ :: s9)) (List.mem_append_left _ (fT.subset (by simp))) mf.more.mem (b:=b) ⟨_,List.mem_cons_self,rfl⟩ ⟨_,List.mem_cons_self,rfl⟩;simp only[bc.tree.injEq,List.cons.injEq,fY.mk.injEq,true_and,and_true]at lS;obtain⟨rfl,rfl⟩:=lS
    let p:fY:=⟨c7,e0,T',g.size,(l.getD i (false,[])).2.length,gy⟩
    let ek:fY:=⟨some ⟨b,0,none⟩,k,T,1,l.length,mS⟩
    have ea:=eS.aU;rw[List.append_assoc,List.cons_append]at ea;have hx:bK (fun k=>R k\/B k) ai (jq++.tree (p :: ek :: eJ) :: (jr++ks.map dC)) w:=ea.xa ⟨p :: ek :: eJ,(List.Perm.cons _ pT).trans (List.Perm.swap _ _ _),List.Sublist.refl _⟩;have lH:=hx.AB;refine⟨ks,_,B,ai,p.dz :: (jq++.tree (ek :: eJ) :: jr),cp,eS.size,eS.defs,eS.has,⟨_,_,rfl,⟨c7,e0,gy,e8,rfl,jQ,fun _ h=>by cases h⟩,mO _ _ ⟨_,k,mS.set i (.slice none 0 0),mS,eJ,by rw[h4 id qg]; exact he,rfl,ye,⟨aL,.slice c7 (l.getD i (false,[])).2.length e0,?_,fun ga mn=>by cases mn; exact⟨c7,e0,_,e8,rfl⟩⟩,fq⟩⟩,by rw[List.cons_append,List.append_assoc,List.cons_append]; exact lH,eS.sub,eS.new,eS.dt,eS.base,eS.dX⟩;rw[List.set_set];exact(List.Mf aw).symm
  · rw[yf]at cS; cases cS
theorem Ye{T T':TypeId} {id i d:Nat} {g:ba} {l:List (Bool×List g.D)} {ct:List g.D} {cap ya:Option Nat} (b8:aZ st.H id=some (.bQ T T' g l cap (some (i,some d)))) (BK:aZ st.H d=some (.row T' g ct ya)) (cG:Nat.beq d id=false) :
    dk X n st ⟨fe d .dead st.L,eO id (.bQ T T' g (l.set i (true,ct)) cap none) (dG d .dead st.H)⟩:=fun R W aD M a w ⟨ks,env,B,ai,H,cp,h⟩=>by
  have qg:id≠d:=fun e=>ne_of_beq_false cG e.symm
  obtain⟨c0,BL,⟨A,k,bn,cM,I,he,rfl,jZ,⟨aL,v,aw,o7⟩,fq⟩,mf⟩:=h.heap.gx b8;obtain⟨ft,Y,Z,⟨c7,e0,gy,kY,rfl,jQ,_⟩,ec,oK⟩:=h.heap.take BK;obtain⟨cm,c',cI,uL,rfl⟩:=o7 d rfl;rw[kY]at uL;cases uL;obtain⟨b,rfl⟩:=ey.at ((h.aU.ok _ mf.more.mem).1 _ List.mem_cons_self) (by show 0 < l.length; omega);obtain⟨H2,fT,Yf,_⟩:=oK env .dead (fun _ _=>rfl) (fun _ _=>trivial);have Mn:=yc (z:=.dead) qg b8;rw[show(cA.bQ T T' g l cap (some (i,some d))).sub d .dead=.bQ T T' g l cap (some (i,none)) by simp only[cA.sub,Nat.beq_refl]]at Mn;obtain⟨vk,ahn,oY,⟨jq,jr,rz,rfl⟩,mO⟩:=Yf.put Mn;subst rz;obtain⟨XF,k3,aho,F0,yg,Mo,rfl,ahp,_⟩:=oY;rw[he]at Mo;cases Mo;have jS:bc.tree (⟨some ⟨b,0,none⟩,k,T,1,l.length,F0⟩ :: yg)∈H:=by
    rw[ec]
    have:=fT.subset (a:=bc.tree (⟨some ⟨b,0,none⟩,k,T,1,l.length,F0⟩ :: yg)) (by simp)
    simp only[List.mem_append,List.mem_cons]at this ⊢;exact this.imp (fun h=>h) .inr
  have lS:=h.aU.same (c:=.tree (⟨some ⟨b,0,none⟩,k,T,1,l.length,F0⟩ :: yg)) (List.mem_append_left _ jS) mf.more.mem (b:=b) ⟨_,List.mem_cons_self,rfl⟩ ⟨_,List.mem_cons_self,rfl⟩;simp only[bc.tree.injEq,List.cons.injEq,fY.mk.injEq,true_and,and_true]at lS;obtain⟨rfl,rfl⟩:=lS;obtain⟨eJ,pT,ye⟩:=dA.fill jQ (A:=c7) (k:=e0) (show dA B ai T' g (l.set i (false,[])) bn yg from jZ) aL
  let p:fY:=⟨c7,e0,T',g.size,ct.length,gy⟩
  let ek:fY:=⟨some ⟨b,0,none⟩,k,T,1,l.length,bn.set i (.slice c7 ct.length e0)⟩
  have ea:=h.aU;rw[ec]at ea;have fu:bK (fun k=>R k\/B k) ai (p.dz :: (jq++.tree (ek :: yg) :: (jr++ks.map dC))) w:=by
    have an:(Y++p.dz :: Z++ks.map dC).Perm (p.dz :: (Y++Z++ks.map dC)):=by
      simp only[List.append_assoc,List.cons_append];exact List.perm_middle
    have:=(ea.perm an).en (((fT.append_right (ks.map dC))).cons_cons _)
    rw[List.append_assoc,List.cons_append,aw]at this;exact this
  have hx:bK (fun k=>R k\/B k) ai (jq++.tree (ek :: eJ) :: (jr++ks.map dC)) w:=fu.J6.xa ⟨_,(List.Perm.swap _ _ _).trans (List.Perm.cons _ pT.symm),List.Sublist.refl _⟩;refine⟨ks,env,B,ai,jq++.tree (ek :: eJ) :: jr,cp,h.size,h.defs,fun s u hu=>?_,mO _ _ ⟨_,k,_,_,eJ,by rw[List.length_set]; exact he,by rw[List.length_set],ye,rfl,fq⟩,by rw[List.append_assoc,List.cons_append]; exact hx,h.sub,h.new,h.dt,h.base,h.dX⟩;obtain⟨hz,hA,rfl⟩:=lK hu;obtain⟨eF,ag,ay⟩:=h.has s hz hA;exact⟨eF,ag,ei.sub (z:=.dead) (fun _ _=>rfl) (fun _ _=>trivial) ay⟩
theorem Yg{T:TypeId} (T':TypeId) {id:Nat} {g:ba} {l:List (List g.D)} {cap:Option Nat} (b8:aZ st.H id=some (.row T (.ak g) l cap)) :
    dk X n st ⟨st.L,eO id (.bQ T T' g (l.map fun x=>(false,x)) cap none) st.H⟩:=fun R W aD M a w ⟨ks,env,B,ai,H,cp,h⟩=>by
  obtain⟨c0,jq,jr,⟨A,k,xs,he,rfl,az,fq⟩,ec,mO⟩:=h.Mh (b':=.bQ T T' g (l.map fun x=>(false,x)) cap none) b8;have ea:=h.aU;rw[ec,List.append_assoc,List.cons_append]at ea;have aj:=bK.Mi (r:=⟨A,k,T,1,l.length,xs⟩) ea;exact⟨ks,env,B,ai,_,cp,mO (.tree [⟨A,k,T,1,l.length,xs⟩]) a w ⟨A,k,xs,xs,[],by rw[List.length_map]; exact he,by rw[List.length_map],dA.map (l:=l) az,rfl,fq⟩ aj h.cb⟩
theorem ey.reads{w:World} {B:Nat->Prop} {e:TypeId} {size c n:Nat} {A:Option Addr} {xs:List Value} (bb:ey w B e size A c n xs):Reads w A n size xs:=by
  refine⟨bb.1,fun a6=>?_⟩;obtain⟨g,J⟩:=bb.at a6;refine⟨g,0,J,fun j u hu=>?_⟩;rw[Nat.zero_add,bb.cells J j (by have:=(List.getElem?_eq_some_iff.1 hu).1; rw[bb.1]at this; exact this)];exact hu
theorem dA.flat{B B':Nat->Prop} {w:World} {T':TypeId} {g:ba}:∀ {l:List (Bool×List g.D)} {bn:List Value} {I:List fY},dA B' w T' g l bn I->(∀ r∈I,r.ok B w/\∀ b,r.has b->B' b)->Flat (bP B' w (.ak g)) (l.map (·.2)) bn
  | [],_,_,⟨e,_⟩,_=>e
  | (true,li) :: l,_,_,⟨v,eY,e,A,k,xs,eJ,aw,gI,az,aY⟩,gO=>by
    subst gI;obtain⟨J,U⟩:=gO _ List.mem_cons_self;have bb:ey w B T' g.size A k li.length xs:=J;exact⟨[v],eY,e,⟨A,k,xs,by rw[aw],bb.le.1,bb.le.2,az,bb.reads,fun b p _ e=>U b (by show A.map _=_; rw[e]; rfl)⟩,dA.flat aY fun r au=>gO r (List.mem_cons_of_mem _ au)⟩
  | (false,li) :: l,_,_,⟨v,eY,e,az,aY⟩,gO=>⟨[v],eY,e,az,dA.flat aY gO⟩
theorem Yh{T T':TypeId} {id:Nat} {g:ba} {l:List (Bool×List g.D)} {cap:Option Nat} (b8:aZ st.H id=some (.bQ T T' g l cap none)) :
    dk X n st ⟨fe id (.bd (.ak g) (l.map (·.2)) cap) st.L,dG id (.bd (.ak g) (l.map (·.2)) cap) st.H⟩:=fun R W aD M a w ⟨ks,env,B,ai,H,cp,h⟩=>by
  obtain⟨c0,BL,ng,mf⟩:=h.heap.gx b8;have pJ:=(mf.more (H2:=ks.map dC)).mem;have dp:fJ B ai (fun q=>B q\/c0.has q) w:=⟨fun q ao=>.inl ao,fun q ao=>h.aU.below.block q (.inr ao)⟩
  obtain⟨c,Y,Z,ae,U,ag⟩:=(h.heap.up dp).take b8;have jS:c∈H++ks.map dC:=by rw[U]; simp
  have AY:c=c0:=by
    obtain⟨A,k,bn,cM,I,he,aC,jZ,mR,_⟩:=ng;obtain⟨FZ,jk,s8,mS,s9,lu,a1,F1,F2,_⟩:=ae;rw[he]at lu;cases lu
    match al:A with
    | some p=>
      subst aC;subst a1;exact h.aU.same jS pJ (b:=p.block) ⟨_,List.mem_cons_self,rfl⟩ ⟨_,List.mem_cons_self,rfl⟩
    | none=>
      have e7:ey w (fun k=>R k\/B k) T 1 none k l.length cM:=by
        subst aC;exact(h.aU.ok _ pJ).1 _ List.mem_cons_self
      have ad:l.length=0:=by
        by_cases ad:l.length=0
        · exact ad
        · obtain⟨b,ae⟩:=e7.at (by omega)
          cases ae
      have hV:l=[]:=List.length_eq_zero_iff.1 ad;subst hV;have aq:cM=bn:=mR;have a2:mS=s8:=F2;obtain⟨a3,a4⟩:=(show dA B ai T' g [] bn I from jZ)
      obtain⟨a5,et⟩:=(show dA _ w T' g [] s8 s9 from F1)
      subst aq a2 a3 a4 a5 et;rw[aC,a1]
  subst AY;obtain⟨A,k,bn,cM,I,he,rfl,jZ,mR,fq⟩:=ae;have qh:cM=bn:=mR;subst qh;have rA:=h.aU.ok _ jS;have e7:ey w (fun k=>R k\/B k) T 1 A k l.length cM:=rA.1 _ List.mem_cons_self;have hU:∀ q,bc.has (.tree (⟨A,k,T,1,l.length,cM⟩ :: I)) q->¬ (R q\/B q)/\q < w.heap.size:=fun q ao=>rA.lt ao
  have cS:=dA.flat (B:=fun k=>R k\/B k) (show dA _ w T' g l cM I from jZ) fun r au=>⟨rA.1 r (List.mem_cons_of_mem _ au),fun b ae=>.inr ⟨r,List.mem_cons_of_mem _ au,ae⟩⟩
  have q5:∀ v,dy env (fun q=>B q\/bc.has (.tree (⟨A,k,T,1,l.length,cM⟩ :: I)) q) w (.ak id) v->dy env (fun q=>B q\/bc.has (.tree (⟨A,k,T,1,l.length,cM⟩ :: I)) q) w (.bd (.ak g) (l.map (·.2)) cap) v:=by
    rintro v ⟨cm,c',m,cV,rfl⟩;rw[he]at cV;cases cV;exact⟨A,k,cM,by rw[List.length_map],by rw[List.length_map]; exact e7.le.1,e7.le.2,fq,cS,by rw[List.length_map]; exact⟨e7.reads,fun b p _ e=>.inr ⟨_,List.mem_cons_self,by show A.map _=_; rw[e]; rfl⟩⟩⟩
  obtain⟨H2,ay,aO,_⟩:=ag env (.bd (.ak g) (l.map (·.2)) cap) (fun _ _=>rfl) q5;have jT:=h.aU.apart;rw[U,List.append_assoc,List.cons_append]at jT;refine⟨ks,env,_,w,H2,cp,h.size,h.defs,fun s u hu=>?_,aO,?_,fun q ao=>.inl (h.sub q ao),fun q ao=>?_,h.dt,h.base.trans ⟨h.aU.below.os,h.aU.below.tape,h.aU.below.output,h.aU.below.size,fun q ao=>h.aU.below.block q (.inl ao)⟩,fun i x ah=>(h.dX i x ah).up dp⟩
  · obtain⟨hz,hA,rfl⟩:=lK hu
    obtain⟨eF,aK,bY⟩:=h.has s hz hA;exact⟨eF,aK,ei.sub (fun _ _=>rfl) q5 (bY.up dp)⟩
  · have aj:bK (fun k=>R k\/B k) ai (H2++ks.map dC) w:=by
      have aK:=h.aU;rw[U]at aK;have an:(Y++bc.tree (⟨A,k,T,1,l.length,cM⟩ :: I) :: Z++ks.map dC).Perm (bc.tree (⟨A,k,T,1,l.length,cM⟩ :: I) :: (Y++Z++ks.map dC)):=by
        simp only[List.append_assoc,List.cons_append];exact List.perm_middle
      exact(aK.perm an).en (((ay.append_right _)).cons _)
    refine⟨dm.refl _ _,fun q ao=>?_,fun c aa=>(aj.ok c aa).base fun b ae cH=>?_,aj.apart⟩
    · rcases ao with ao | ao | ao
      · exact h.aU.base q (.inl ao)
      · exact h.aU.base q (.inr ao)
      · exact(hU q ao).2
    · rcases cH with cH | cH | cH
      · exact((aj.ok c aa).lt ae).1 (.inl cH)
      · exact((aj.ok c aa).lt ae).1 (.inr cH)
      · have h1:c∈Y++(Z++ks.map dC):=by
          rcases List.mem_append.1 aa with aa | aa
          · have:=ay.subset aa
            rcases List.mem_append.1 this with bY | bY
            · exact List.mem_append_left _ bY
            · exact List.mem_append_right _ (List.mem_append_left _ bY)
          · exact List.mem_append_right _ (List.mem_append_right _ aa)
        rw[List.pairwise_append,List.pairwise_cons]at jT;obtain⟨_,⟨c3,_⟩,hB⟩:=jT
        rcases List.mem_append.1 h1 with bY | bY
        · exact hB c bY _ List.mem_cons_self b ae cH
        · exact c3 c bY b cH ae
  · rcases ao with ao | ao
    · exact(h.new q ao).imp_right fun a8=>⟨a8.1,a8.2.e6 (h.aU.below.block q (.inr ao))⟩
    · exact .inr ⟨fun dO=>(hU q ao).1 (.inl dO),rA.cells rfl ao⟩
theorem Yi{T T':TypeId} {id:Nat} {g:ba} {l:List (Bool×List g.D)} {cap:Option Nat} (b8:aZ st.H id=some (.bQ T T' g l cap none)) :
    dk X n st ⟨st.L,eO id (.row T (.ak g) (l.map (·.2)) cap) st.H⟩:=fun R W aD M a w ⟨ks,env,B,ai,H,cp,h⟩=>by
  obtain⟨c0,BL,ng,mf⟩:=h.heap.gx b8;have pJ:=(mf.more (H2:=ks.map dC)).mem;obtain⟨A,k,bn,cM,I,he,rfl,jZ,mR,fq⟩:=ng;have qh:cM=bn:=mR;subst qh
  let ek:fY:=⟨A,k,T,1,l.length,cM⟩
  have dp:fJ B ai (fun q=>B q\/bc.has (.tree I) q) w:=⟨fun q ao=>.inl ao,fun q ao=>h.aU.below.block q (.inr ao)⟩
  obtain⟨c,K,ae,⟨jq,jr,ec,rfl⟩,mO⟩:=(h.heap.up dp).put b8;have jS:c∈H++ks.map dC:=by rw[ec]; simp
  have AY:c=.tree (⟨A,k,T,1,l.length,cM⟩ :: I):=by
    obtain⟨FZ,jk,s8,mS,s9,lu,a1,F1,F2,_⟩:=ae;rw[he]at lu;cases lu
    match al:A with
    | some p=>
      subst a1;exact h.aU.same jS pJ (b:=p.block) ⟨_,List.mem_cons_self,rfl⟩ ⟨_,List.mem_cons_self,rfl⟩
    | none=>
      have e7:ey w (fun k=>R k\/B k) T 1 none k l.length cM:=(h.aU.ok _ pJ).1 _ List.mem_cons_self;have ad:l.length=0:=by
        by_cases ad:l.length=0
        · exact ad
        · obtain⟨b,ae⟩:=e7.at (by omega)
          cases ae
      have hV:l=[]:=List.length_eq_zero_iff.1 ad;subst hV;have a2:mS=s8:=F2;obtain⟨a3,a4⟩:=(show dA B ai T' g [] cM I from jZ)
      obtain⟨a5,et⟩:=(show dA _ w T' g [] s8 s9 from F1)
      subst a2 a3 a4 a5 et;rw[a1]
  subst AY;have rA:=h.aU.ok _ jS;have hU:∀ q,bc.has (.tree I) q->¬ (R q\/B q)/\q < w.heap.size:=fun q ⟨r,au,ao⟩=>rA.lt ⟨r,List.mem_cons_of_mem _ au,ao⟩
  have cS:=dA.flat (B:=fun k=>R k\/B k) (B':=fun q=>B q\/bc.has (.tree I) q) (w:=w) ((dA.up dp (show dA B ai T' g l cM I from jZ))) fun r au=>⟨rA.1 r (List.mem_cons_of_mem _ au),fun b ae=>.inr ⟨r,au,ae⟩⟩
  have ea:=h.aU;rw[ec,List.append_assoc,List.cons_append]at ea;have fu:bK (fun k=>R k\/B k) ai (.tree I :: (jq++ek.dz :: (jr++ks.map dC))) w:=by
    refine(ea.AB (r:=ek)).perm ?_;refine(List.Perm.cons _ oG).trans ((List.Perm.swap _ _ _).trans (List.Perm.cons _ oG.symm))
  have b1:=mO (.row T (.ak g) (l.map (·.2)) cap) ek.dz ⟨A,k,cM,by rw[List.length_map]; exact he,by rw[List.length_map]; rfl,cS,fq⟩;refine⟨ks,env,_,w,jq++ek.dz :: jr,cp,h.size,h.defs,fun s u hu=>?_,b1,?_,fun q ao=>.inl (h.sub q ao),fun q ao=>?_,h.dt,h.base.trans ⟨h.aU.below.os,h.aU.below.tape,h.aU.below.output,h.aU.below.size,fun q ao=>h.aU.below.block q (.inl ao)⟩,fun i x ah=>(h.dX i x ah).up dp⟩
  · obtain⟨eF,aK,bY⟩:=h.has s u hu
    exact⟨eF,aK,bY.up dp⟩
  · rw[List.append_assoc,List.cons_append]
    refine⟨dm.refl _ _,fun q ao=>?_,fun c aa=>(fu.ok c (List.mem_cons_of_mem _ aa)).base fun b ae cH=>?_,(List.pairwise_cons.1 fu.apart).2⟩
    · rcases ao with ao | ao | ao
      · exact h.aU.base q (.inl ao)
      · exact h.aU.base q (.inr ao)
      · exact(hU q ao).2
    · rcases cH with cH | cH | cH
      · exact((fu.ok c (List.mem_cons_of_mem _ aa)).lt ae).1 (.inl cH)
      · exact((fu.ok c (List.mem_cons_of_mem _ aa)).lt ae).1 (.inr cH)
      · exact(List.pairwise_cons.1 fu.apart).1 c aa b cH ae
  · rcases ao with ao | ao
    · exact(h.new q ao).imp_right fun a8=>⟨a8.1,a8.2.e6 (h.aU.below.block q (.inr ao))⟩
    · exact .inr ⟨fun dO=>(hU q ao).1 (.inl dO),by
        obtain⟨r,au,ae⟩:=ao;exact rA.cells rfl ⟨r,List.mem_cons_of_mem _ au,ae⟩⟩
end
inductive vl where
  | close (id d:Nat)
  | oo (id:Nat) (T':TypeId)
  | dn (id:Nat)
  | cL (id:Nat)
  | op (id s d:Nat)
  | BM (id s d:Nat) (k:IntKind) (c:Int)
  | eR (i j:Nat)
def vl.vm:vl->List Nat
  | .close id d=>[id,d]
  | .oo id _=>[id]
  | .dn _=>[]
  | .cL id=>[id]
  | .op id _ d=>[id,d]
  | .BM id _ d _ _=>[id,d]
  | .eR i j=>[i,j]
def vn(n:Nat) (st:aM) (id d i:Nat):Option (Bool×aM):=match Nat.blt d n,aZ st.H id,Nat.beq d id with
  | true,some (.bQ T T' g l cap none),false=>some (decide (i < l.length)&&(l.getD i (false,[])).1,⟨fe d .dead st.L,(d,.row T' g (l.getD i (false,[])).2 none) :: eO id (.bQ T T' g l cap (some (i,some d))) (dG d .dead st.H)⟩)
  | _,_,_=>none
def yh(n:Nat) (st:aM):vl->Option (Bool×aM)
  | .close id d=>match aZ st.H id,aZ st.H d,Nat.beq d id with
    | some (.bQ T T' g l cap (some (i,some ga))),some (.row x9 g2 ct _),false=>match Nat.beq ga d,Nat.beq x9 T',decEq g2 g with
      | true,true,isTrue h=>some (true,⟨fe d .dead st.L,eO id (.bQ T T' g (l.set i (true,nt h ct)) cap none) (dG d .dead st.H)⟩)
      | _,_,_=>none
    | _,_,_=>none
  | .oo id T'=>match aZ st.H id with
    | some (.row T (.ak g) l cap)=>some (true,⟨st.L,eO id (.bQ T T' g (l.map fun x=>(false,x)) cap none) st.H⟩)
    | _=>none
  | .dn id=>match aZ st.H id with
    | some (.bQ _ _ g l cap none)=>some (true,⟨fe id (.bd (.ak g) (l.map (·.2)) cap) st.L,dG id (.bd (.ak g) (l.map (·.2)) cap) st.H⟩)
    | _=>none
  | .cL id=>match aZ st.H id with
    | some (.bQ T _ g l cap none)=>some (true,⟨st.L,eO id (.row T (.ak g) (l.map (·.2)) cap) st.H⟩)
    | _=>none
  | .op id s d=>match aZ st.L s with
    | some (.a (.c (.val (.int _ z))))=>vn n st id d z.toNat
    | _=>none
  | .BM id s d k c=>match aZ st.L s with
    | some (.a (.c (.val (.int _ z))))=>vn n st id d (k.wrap (z - c)).toNat
    | _=>none
  | .eR i j=>match Nat.blt j n with
    | true=>some (true,⟨iC (iD i j) st.L,mj (iD i j) st.H⟩)
    | false=>none
section
variable {X:bq} {n:Nat} {st st':aM} {d:Nat} {o:Oper}
theorem Mp{id i:Nat} {c:Bool} (h:vn n st id d i=some (c,st')) (aa:c=true):dk X n st st':=by
  unfold vn at h
  split at h
  · rename_i J U ag
    cases h;simp only[Bool.and_eq_true]at aa;exact Yc J U ag aa.1 aa.2
  · cases h
theorem Yj{i j:Nat} (aF:Nat.blt j n=true):dk X n st ⟨iC (iD i j) st.L,mj (iD i j) st.H⟩:=fun _ _ _ _ _ _ ⟨ks,env,B,ai,H,cp,al⟩=>by
  obtain⟨H',J,U⟩:=bt.c4 (uW (i:=i) (j:=j)) al.heap;refine⟨ks,h8 env j (env i),B,ai,H',cp,al.size,al.defs,fun s sv aj=>?_,U,al.aU.en (J.append_right _),al.sub,al.new,nY al.dt (fun q an=>by have J:=(al.dt _ _ an).1; have U:=dK aF; omega),al.base,al.dX⟩;obtain⟨u,ag,rfl⟩:=sM aj;obtain⟨v,ay,aO⟩:=al.has s u ag;exact⟨v,ay,ei.c4 uW aO⟩
theorem Yk{x:vl} {c:Bool} (h:yh n st x=some (c,st')) (aa:c=true):dk X n st st':=by
  unfold yh at h
  split at h
  · split at h
    · rename_i J U ag
      split at h
      · rename_i aV aC a1 _
        cases h;subst aV;have c8:=Nat.eq_of_beq_eq_true aC;have dL:=Nat.eq_of_beq_eq_true a1;subst c8;subst dL;exact Ye J U ag
      · cases h
    · cases h
  · split at h
    · rename_i J
      cases h;exact Yg _ J
    · cases h
  · split at h
    · rename_i J
      cases h;exact Yh J
    · cases h
  · split at h
    · rename_i J
      cases h;exact Yi J
    · cases h
  · split at h
    · exact Mp h aa
    · cases h
  · split at h
    · exact Mp h aa
    · cases h
  · split at h
    · rename_i aF
      cases h;exact Yj aF
    · cases h
end
end

inductive k5 where
 | dn (id:Nat)
 | b4 (id:Nat) (g:ba)
 | nil (s id:Nat) (t:TypeId) (g:ba)
 | nr (k p id:Nat) (t:TypeId) (g:ba)
 | rp (id:Nat)
 | Bu (id:Nat)
 | sU (s id:Nat) (t:TypeId)
 | Bw (k p id:Nat) (t:TypeId)
 | arr (s:Nat) (g:ba) (m:Nat)
 | va (s:Nat)
 | pick (ks aj:List Nat)
 | conv (s:Nat) (x:jX)
 | Bn (id:Nat)
 | data (s:Nat) (g:ba)
 | Bo (id:Nat) (g:ba)
 | t (x:vl)
def vo(n:Nat):k5->aM->Option (Bool×aM)
 | .dn id,st=>match Go.Proofs.YtldjgdggcodgeaaGreat.dn id st with
  | some st'=>some (true,st')
  | none=>none
 | .b4 id g,st=>match aZ st.H id with
  | some (.cells _ cs)=>match dec g cs with
   | some (c,x,[])=>some (c,⟨sJ id g x st.L,mi id g x st.H⟩)
   | _=>none
  | _=>none
 | .nil s id t g,st=>match Nat.blt id n,aZ st.L s with
  | true,some (.a (.c (.val v)))=>match isNil v with
   | true=>some (true,⟨(s,.c (.ak id)) :: fe id .dead st.L,(id,.row t g [] none) :: dG id .dead st.H⟩)
   | false=>none
  | _,_=>none
 | .nr k p id t g,st=>match Nat.blt id n with
  | true=>some (true,⟨fe id .dead st.L,(id,.row t g [] none) :: jG k p id (dG id .dead st.H)⟩)
  | false=>none
 | .rp id,st=>match Go.Proofs.YtldjgdggcodgeaaGreat.rp id st with
  | some st'=>some (true,st')
  | none=>none
 | .Bu id,st=>match aZ st.H id with
  | some (.row t g l _)=>some (true,⟨st.L,eO id (.fw t g l) st.H⟩)
  | _=>none
 | .sU s id t,st=>match Nat.blt id n,aZ st.L s with
  | true,some (.a (.c (.bd g l (some c))))=>some (Nat.beq c l.length,⟨(s,.c (.ak id)) :: fe id .dead st.L,(id,.fw t g l) :: dG id .dead st.H⟩)
  | _,_=>none
 | .Bw k p id t,st=>match Nat.blt id n,Nat.beq k id,aZ st.H k with
  | true,false,some (.cells _ cs)=>match cs[p]? with
   | some (.bd g l (some c))=>some (Nat.beq c l.length,⟨fe id .dead st.L,(id,.fw t g l) :: o1 k p (.ak id) (dG id .dead st.H)⟩)
   | _=>none
  | _,_,_=>none
 | .arr s g m,st=>match Nat.blt s n,aZ st.L s,aZ st.H s with
  | true,some (.a (.c (.ptr q 0))),some (.cells t cs)=>match Nat.beq q s,Nat.ble m 140737488355328,u3 g m cs with
   | true,true,some (c,l,[])=>some (c,⟨(s,.c (.dV s g.size 0 0)) :: fe s .dead st.L,(s,.row t g l (some m)) :: dG s .dead st.H⟩)
   | _,_,_=>none
  | _,_,_=>none
 | .va s,st=>match aZ st.L s with
  | some (.a (.c (.dV id _ 0 0)))=>match aZ st.H id with
   | some (.row _ g l _)=>some (true,⟨(s,.c (.par g l)) :: fe id .dead st.L,dG id .dead st.H⟩)
   | _=>none
  | _=>none
 | .pick ks aj,st=>match uH st.L ks,pS st.H aj with
  | some cY,some H'=>some (true,⟨cY,H'⟩)
  | _,_=>none
 | .conv s x,st=>match aZ st.L s with
  | some sv=>match x.get (T:=[]) sv ()with
   | some u=>some (true,⟨(s,(x.S u).1) :: st.L,st.H⟩)
   | none=>none
  | none=>none
 | .Bn id,st=>some (true,⟨st.L,rj id st.H⟩)
 | .data s g,st=>match aZ st.L s with
  | some (.a (.agg cs))=>match dec g cs with
   | some (c,x,[])=>match kQ g x 0 g.size with
    | some jx=>some (c,⟨(s,.a (.agg jx)) :: st.L,st.H⟩)
    | none=>none
   | _=>none
  | _=>none
 | .Bo id g,st=>match aZ st.H id with
  | some (.cells t cs)=>match dec g cs with
   | some (c,x,[])=>match kQ g x 0 g.size with
    | some jx=>some (c,⟨st.L,eO id (.cells t jx) st.H⟩)
    | none=>none
   | _=>none
  | _=>none
 | .t x,st=>yh n st x
theorem Mq{X:bq} {n:Nat} {x:k5} {st st':aM} {c:Bool} (h:vo n x st=some (c,st')) (aa:c=true):dk X n st st':=by
 unfold vo at h
 split at h
 ·split at h
  ·rename_i e; cases h; exact dk.dn e
  ·cases h
 ·split at h
  ·rename_i e
   split at h
   ·rename_i a1; cases h; exact dk.b4 _ _ e a1 aa
   ·cases h
  ·cases h
 ·split at h
  ·rename_i e a1
   split at h
   ·rename_i cq
    cases h;rw[LJ cq]at a1;exact dk.nil _ _ _ _ e a1
   ·cases h
  ·cases h
 ·split at h
  ·rename_i e; cases h; exact dk.nr _ _ _ _ _ e
  ·cases h
 ·split at h
  ·rename_i e; cases h; exact dk.rp e
  ·cases h
 ·split at h
  ·rename_i e; cases h; exact dk.Bu _ e
  ·cases h
 ·split at h
  ·rename_i aC a1
   cases h;exact dk.sU _ _ _ aC a1 (Nat.eq_of_beq_eq_true aa)
  ·cases h
 ·split at h
  ·rename_i aC a1 cq
   split at h
   ·rename_i ep
    cases h;exact dk.Bw _ _ _ _ aC a1 cq ep (Nat.eq_of_beq_eq_true aa)
   ·cases h
  ·cases h
 ·split at h
  ·rename_i aC a1 cq
   split at h
   ·rename_i ep gh sT
    cases h;rw[Nat.eq_of_beq_eq_true ep]at a1;exact dk.arr _ _ _ _ aC a1 cq sT aa (Nat.le_of_ble_eq_true gh)
   ·cases h
  ·cases h
 ·split at h
  ·rename_i aC
   split at h
   ·rename_i a1
    cases h;exact dk.va _ aC a1
   ·cases h
  ·cases h
 ·split at h
  ·rename_i aC a1; cases h; exact dk.pick _ _ aC a1
  ·cases h
 ·split at h
  ·rename_i aC
   split at h
   ·rename_i a1
    cases h;exact dk.conv _ aC (jX.hG a1).2
   ·cases h
  ·cases h
 ·cases h
  exact dk.Bn _ rfl
 ·split at h
  ·rename_i aC
   split at h
   ·rename_i a1
    split at h
    ·rename_i cq
     cases h;exact dk.data _ _ aC a1 aa cq
    ·cases h
   ·cases h
  ·cases h
 ·split at h
  ·rename_i aC
   split at h
   ·rename_i a1
    split at h
    ·rename_i cq
     cases h;exact dk.Bo _ _ aC a1 aa cq
    ·cases h
   ·cases h
  ·cases h
 ·exact Yk h aa
def k5.vm:k5->List Nat
 | .nil s id _ _=>[s,id]
 | .nr k _ id _ _=>[k,id]
 | .Bu id=>[id]
 | .sU s id _=>[s,id]
 | .Bw k _ id _=>[k,id]
 | .arr s _ _=>[s]
 | .va s=>[s]
 | .conv s _=>[s]
 | .Bn id=>[id]
 | .data s _=>[s]
 | .Bo id _=>[id]
 | .t x=>x.vm
 | _=>[]
theorem Yl{a b:Nat} (h:a≠b):Nat.beq b a=false:=by
 cases e:Nat.beq b a with
 | false=>rfl
 | true=>exact absurd (Nat.eq_of_beq_eq_true e).symm h
theorem iX(a:Nat) (r:List Nat):eA a (a :: r)=true:=by
 unfold eA;rw[Nat.beq_refl]
theorem F3{id:Nat} {g:ba} {x:g.D} {V:List Nat}:∀ H:bE,kh V H (mi id g x H)
 | []=>b6.refl []
 | (k,b) :: r=>fun q v ao ad=>by
  unfold mi at ad
  split at ad
  ·rename_i e
   have ab:=Nat.eq_of_beq_eq_true e;obtain⟨u,J,U⟩:=F3 r q v ao ad
   by_cases cG:q=k
   ·subst cG
    subst ab;exact(F4 ad).elim
   ·exact⟨u,by rw[cn,if_neg cG]; exact J,U⟩
  ·rw[cn]at ad ⊢
   split at ad
   ·rename_i e
    cases ad;rw[if_pos e];exact⟨b,rfl,fun az=>X3 az⟩
   ·rename_i e
    rw[if_neg e];exact F3 r q v ao ad
where F4 {id:Nat} {g:ba} {x:g.D} {v:cA}:∀ {H:bE},aZ (mi id g x H) id=some v->False
 | [],h=>by cases h
 | (k,b) :: r,h=>by
  unfold mi at h
  split at h
  ·exact F4 h
  ·rename_i e
   rw[cn,if_neg (fun cu=>by rw[cu,Nat.beq_refl]at e; cases e)]at h;exact F4 h
theorem F5{k p id:Nat} {V:List Nat} (jH:eA k V=true):∀ H:bE,kh V H (jG k p id H)
 | []=>b6.refl []
 | (j,b) :: r=>fun q v ao ad=>by
  have cG:q≠k:=fun e=>by rw[e,jH]at ao; cases ao
  unfold jG at ad
  split at ad
  ·cases ad
  ·rename_i ez
   cases ez
   split at ad
   ·rename_i e
    have ab:=Nat.eq_of_beq_eq_true e;subst ab;rw[cn,if_neg cG]at ad;exact⟨v,by rw[cn,if_neg cG]; exact ad,fun _=>rfl⟩
   ·rw[cn]at ad ⊢
    split at ad
    ·rename_i e
     rw[if_pos e];exact⟨_,rfl,fun _=>by cases ad; rfl⟩
    ·rename_i e
     rw[if_neg e];exact F5 jH r q v ao ad
  ·rename_i ez
   cases ez;rw[cn]at ad ⊢
   split at ad
   ·rename_i e
    rw[if_pos e];exact⟨_,rfl,fun _=>by cases ad; rfl⟩
   ·rename_i e
    rw[if_neg e];exact F5 jH r q v ao ad
theorem Ym{L:cQ}:∀ {ks:List Nat} {cY:cQ},uH L ks=some cY->∀ q v,aZ cY q=some v->aZ L q=some v:=fun h q v ao=>(EZ h).look q v ao
theorem Yn{h a8:bE} (aj:iR h a8):∀ q b,aZ a8 q=some b->aZ h q=some b:=by
 induction aj with
 | nil=>intro q b h; cases h
 | cons ab _ _ bJ=>
  intro q b h;rw[cn]at h
  split at h
  ·rename_i e; cases h; rw[e]; exact ab
  ·exact bJ q b h
theorem F6{id:Nat} {V:List Nat} (jH:eA id V=true):∀ H:bE,kh V H (rj id H)
 | []=>b6.refl []
 | (j,b) :: r=>fun q v ao ad=>by
  have cG:q≠id:=fun e=>by rw[e,jH]at ao; cases ao
  unfold rj at ad
  split at ad
  ·cases ad
  ·rename_i ez
   cases ez
   split at ad
   ·rename_i e
    have ab:=Nat.eq_of_beq_eq_true e;subst ab;rw[cn,if_neg cG]at ad;exact⟨v,by rw[cn,if_neg cG]; exact ad,fun _=>rfl⟩
   ·rw[cn]at ad ⊢
    split at ad
    ·rename_i e
     rw[if_pos e];exact⟨_,rfl,fun _=>by cases ad; rfl⟩
    ·rename_i e
     rw[if_neg e];exact F6 jH r q v ao ad
  ·rename_i ez
   cases ez;rw[cn]at ad ⊢
   split at ad
   ·rename_i e
    rw[if_pos e];exact⟨_,rfl,fun _=>by cases ad; rfl⟩
   ·rename_i e
    rw[if_neg e];exact F6 jH r q v ao ad
theorem Mr{k p:Nat} {c:bg} {V:List Nat} (jH:eA k V=true):∀ H:bE,kh V H (o1 k p c H)
 | []=>b6.refl []
 | (j,b) :: r=>fun q v ao ad=>by
  have cG:q≠k:=fun e=>by rw[e,jH]at ao; cases ao
  unfold o1 at ad
  split at ad
  ·rename_i e
   have ab:=Nat.eq_of_beq_eq_true e;subst ab;rw[cn,if_neg cG]at ad;exact⟨v,by rw[cn,if_neg cG]; exact ad,fun _=>rfl⟩
  ·rw[cn]at ad ⊢
   split at ad
   ·rename_i e
    rw[if_pos e];exact⟨_,rfl,fun _=>by cases ad; rfl⟩
   ·rename_i e
    rw[if_neg e];exact Mr jH r q v ao ad
theorem o9{q k:Nat} {r:List Nat}:eA q (k :: r)=false ↔ q≠k/\eA q r=false:=⟨e9,fun⟨J,U⟩=>by
 unfold eA;rw[Yl J];exact U⟩
theorem Ms{q a b:Nat} (h:eA q [a,b]=false):eA q (b :: ([a]++[]))=false:=by
 obtain⟨J,U⟩:=o9.1 h;obtain⟨ag,ay⟩:=o9.1 U;exact o9.2 ⟨ag,o9.2 ⟨J,rfl⟩⟩
theorem Yo{k p id:Nat} {z:bg} {b:cA} (H:bE):kh [k,id] H ((id,b) :: jG k p id (dG id z H)):=
 (((iG id z (V:=[]) H).trans (F5 (k:=k) (p:=p) (id:=id) (iX k []) _)).cons (d:=id) (v:=b)).more fun _ h=>Ms h
theorem Yp{k p id:Nat} {z c:bg} {b:cA} (H:bE):kh [k,id] H ((id,b) :: o1 k p c (dG id z H)):=
 (((iG id z (V:=[]) H).trans (Mr (k:=k) (p:=p) (c:=c) (iX k []) _)).cons (d:=id) (v:=b)).more fun _ h=>Ms h
def cU(V:List Nat) (st st':aM):Prop:=vj V st.L st'.L/\kh V st.H st'.H
theorem cU.refl{V:List Nat} (st:aM):cU V st st:=⟨b6.refl _,b6.refl _⟩
theorem cU.trans{V V2:List Nat} {a b c:aM} (h:cU V a b) (k:cU V2 b c):cU (V2++V) a c:=⟨h.1.trans k.1,h.2.trans k.2⟩
theorem cU.more{V V2:List Nat} {a b:aM} (h:cU V a b) (aw:∀ q,eA q V2=false->eA q V=false):cU V2 a b:=⟨h.1.more aw,h.2.more aw⟩
theorem Mt{n:Nat} {st st':aM} {id d i:Nat} {c:Bool} (h:vn n st id d i=some (c,st')):cU [id,d] st st':=by
 unfold vn at h
 split at h
 ·cases h
  refine⟨jo _ _ _,?_⟩;refine b6.more (b6.cons (b6.trans (V:=[]) (V2:=[id]) (iG _ _ _) (jI (iX _ _)))) fun q ao=>?_
  obtain⟨J,U⟩:=e9 ao;obtain⟨ag,_⟩:=e9 U;show(match Nat.beq d q with | true=>true | false=>match Nat.beq id q with | true=>true | false=>false)=false
  split
  ·rename_i e; exact absurd (Nat.eq_of_beq_eq_true e).symm ag
  ·split
   ·rename_i e; exact absurd (Nat.eq_of_beq_eq_true e).symm J
   ·rfl
 ·cases h
theorem Mu{cg:hE}:∀ {cs:List e2},pY cs=true->oZ cg cs=some cs
 | [],_=>rfl
 | .id _ :: _,h=>by cases h
 | .cL _ _ :: cs,h=>by
  unfold oZ;rw[Mu (cs:=cs) h]
theorem F7(cg:hE):Fix fun c=>c.c4 cg:=⟨fun c h=>by
 cases c with
 | fn f cs=>simp only[bg.c4]; rw[Mu h]
 | _=>first | rfl | cases h⟩
theorem F8(cg:hE):∀ cs:List bg,rh cg cs=s6 (fun c=>c.c4 cg) cs
 | []=>rfl
 | c :: r=>by
  show c.c4 cg :: rh cg r=_;rw[F8 cg r]; rfl
theorem F9{cg:hE} {x:bh} (h:x.free=true):x.c4 cg=x:=by
 cases x with
 | c x=>simp only[bh.c4]; rw[(F7 cg).fix x h]
 | agg cs=>simp only[bh.c4]; rw[F8,qf (F7 cg) h]
 | arr g l=>rfl
theorem Mv{cg:hE}:∀ {xs:List bh},k4 xs=true->sL cg xs=xs
 | [],_=>rfl
 | c :: r,h=>by
  unfold k4 at h
  split at h
  ·rename_i e
   show c.c4 cg :: sL cg r=_;rw[F9 e,Mv h]
  ·cases h
theorem Yq{cg:hE} {v:b5} (h:v.free=true):v.c4 cg=v:=by
 cases v with
 | a x=>simp only[b5.c4]; rw[F9 h]
 | may g x=>simp only[b5.c4]; rw[F9 h]
 | dj xs=>simp only[b5.c4]; rw[Mv h]
theorem Yr{cg:hE} {b:cA} (h:b.free=true):b.c4 cg=b:=by
 cases b with
 | cells t cs=>simp only[cA.c4]; rw[F8,qf (F7 cg) h]
 | bQ T T' g l c q=>rcases q with _ | ⟨i,_ | d⟩<;>first | rfl | cases h
 | _=>first | rfl | cases h
theorem Ys(cg:hE) (L:cQ) {V:List Nat}:vj V L (iC cg L):=b6.map (f:=fun v=>v.c4 cg) (fun _ h=>Yq h) fun _ _ h=>sM h
theorem BN(i j:Nat):∀ H:bE,kh [i,j] H (mj (iD i j) H)
 | []=>b6.refl []
 | (k,b) :: r=>fun q v ao ad=>by
  obtain⟨J,U⟩:=e9 ao;obtain⟨ag,_⟩:=e9 U;unfold mj at ad
  by_cases aC:Nat.beq k i=true
  ·have e:=Nat.eq_of_beq_eq_true aC
   have hm:iD i j b.pX k=some j:=by unfold iD; rw[aC]
   rw[hm]at ad;dsimp only at ad;rw[cn,if_neg ag]at ad;rw[cn,if_neg (by rw[e]; exact J)];exact BN i j r q v ao ad
  ·have Mw:Nat.beq k i=false:=by simpa only[Bool.not_eq_true] using aC
   by_cases a1:Nat.beq k j=true
   ·have e:=Nat.eq_of_beq_eq_true a1
    have hm:iD i j b.pX k=none:=by unfold iD; rw[Mw,a1]
    rw[hm]at ad;dsimp only at ad;rw[cn,if_neg (by rw[e]; exact ag)];exact BN i j r q v ao ad
   ·have Yt:Nat.beq k j=false:=by simpa only[Bool.not_eq_true] using a1
    have hm:iD i j b.pX k=some k:=by unfold iD; rw[Mw,Yt]
    rw[hm]at ad;dsimp only at ad;rw[cn]at ad ⊢
    split at ad
    ·rename_i e
     cases ad;rw[if_pos e];exact⟨b,rfl,fun az=>Yr az⟩
    ·rename_i e
     rw[if_neg e];exact BN i j r q v ao ad
theorem Yu{n:Nat} {st st':aM} {x:vl} {c:Bool} (h:yh n st x=some (c,st')):cU x.vm st st':=by
 unfold yh at h
 split at h
 ·split at h
  ·split at h
   ·cases h
    exact⟨jo _ _ _,b6.more (b6.trans (V:=[]) (V2:=[_]) (iG _ _ _) (jI (iX _ _))) fun q ao=>by
     have J:=(e9 ao).1;show(match Nat.beq _ q with | true=>true | false=>false)=false
     split
     ·rename_i e; exact absurd (Nat.eq_of_beq_eq_true e).symm J
     ·rfl⟩
   ·cases h
  ·cases h
 ·split at h
  ·cases h
   exact⟨b6.refl _,jI (iX _ _)⟩
  ·cases h
 ·split at h
  ·cases h
   exact⟨jo _ _ _,iG _ _ _⟩
  ·cases h
 ·split at h
  ·cases h
   exact⟨b6.refl _,jI (iX _ _)⟩
  ·cases h
 ·split at h
  ·exact Mt h
  ·cases h
 ·split at h
  ·exact Mt h
  ·cases h
 ·split at h
  ·cases h
   exact⟨Ys _ _,BN _ _ _⟩
  ·cases h
theorem Mx{n:Nat} {x:k5} {st st':aM} {c:Bool} (h:vo n x st=some (c,st')):cU x.vm st st':=by
 unfold vo at h
 split at h
 ·split at h
  ·rename_i e
   cases h;unfold Go.Proofs.YtldjgdggcodgeaaGreat.dn at e
   split at e
   ·cases e; exact⟨jo _ _ _,iG _ _ _⟩
   ·cases e
  ·cases h
 ·split at h
  ·split at h
   ·cases h; exact⟨X5 _ _ _ _,F3 _⟩
   ·cases h
  ·cases h
 ·split at h
  ·split at h
   ·cases h
    exact⟨b6.cons (jo _ _ _),(b6.cons (V:=[]) (iG _ _ _)).more fun q ao=>by obtain⟨J,U⟩:=e9 ao; exact U⟩
   ·cases h
  ·cases h
 ·split at h
  ·cases h
   exact⟨jo _ _ _,Yo _⟩
  ·cases h
 ·split at h
  ·rename_i e
   cases h;unfold Go.Proofs.YtldjgdggcodgeaaGreat.rp at e
   split at e
   ·cases e; exact⟨jo _ _ _,iG _ _ _⟩
   ·cases e
  ·cases h
 ·split at h
  ·cases h; exact⟨b6.refl _,jI (iX _ _)⟩
  ·cases h
 ·split at h
  ·cases h
   exact⟨b6.cons (jo _ _ _),(b6.cons (V:=[]) (iG _ _ _)).more fun q ao=>by obtain⟨J,U⟩:=e9 ao; exact U⟩
  ·cases h
 ·split at h
  ·split at h
   ·cases h
    exact⟨jo _ _ _,Yp _⟩
   ·cases h
  ·cases h
 ·split at h
  ·split at h
   ·cases h
    exact⟨b6.cons (jo _ _ _),b6.cons (iG _ _ _)⟩
   ·cases h
  ·cases h
 ·split at h
  ·split at h
   ·cases h
    exact⟨b6.cons (jo _ _ _),iG _ _ _⟩
   ·cases h
  ·cases h
 ·split at h
  ·rename_i aC a1
   cases h;exact⟨b6.less (Ym aC),b6.less (Yn (sB a1))⟩
  ·cases h
 ·split at h
  ·split at h
   ·cases h
    exact⟨b6.cons (b6.refl _),b6.refl _⟩
   ·cases h
  ·cases h
 ·cases h
  exact⟨b6.refl _,F6 (iX _ _) _⟩
 ·split at h
  ·split at h
   ·split at h
    ·cases h
     exact⟨b6.cons (b6.refl _),b6.refl _⟩
    ·cases h
   ·cases h
  ·cases h
 ·split at h
  ·split at h
   ·split at h
    ·cases h
     exact⟨b6.refl _,jI (iX _ _)⟩
    ·cases h
   ·cases h
  ·cases h
 ·exact Yu h

def vp(X:bq) (t:TypeId) (g:ba):Bool:=match X.a7.find t with
 | some ⟨⟨.struct _,_,_,_⟩,_⟩=>g.key&&(kD X.P X.a7 12 t g&&!(X.P.eqGuardType X.P.depth t))
 | _=>false
theorem Yv{X:bq} (av:X.a7.ok X.P) {t:TypeId} {g:ba} (h:vp X t g=true):rk X.P t g:=by
 unfold vp at h
 split at h
 ·rename_i az
  simp only[Bool.and_eq_true,Bool.not_eq_true']at h;exact rk.of av h.1 az rfl h.2.1 h.2.2
 ·cases h
def Ga(X:bq) (e:TypeId):Option (bo×ba):=match X.a7.find e with
 | some bp=>match bp.g with
  | some g=>some (bp,g)
  | none=>none
 | none=>none
def BO(X:bq) (L:cQ) (t:TypeId) (u v:Operand):Option (Bool×Bool):=match bw X L u,bw X L v,X.a7.find t with
 | some (g1,.agg cs),some (g2,.agg aI),some bp=>match bp.g with
  | some g=>match dec g cs,dec g aI,vp X t g with
   | some (ft,x,[]),some (cR,y,[]),true=>some (g1&&(g2&&(ft&&cR)),g.beq x y)
   | _,_,_=>none
  | none=>none
 | _,_,_=>none
def vq(X:bq) (st:aM):Op->Option (Bool×bh)
 | .binOp .eql t u v _=>match BO X st.L t u v with
  | some (c,b)=>some (c,.c (.val (.bool b)))
  | none=>none
 | .binOp .neq t u v _=>match BO X st.L t u v with
  | some (c,b)=>some (c,.c (.val (.bool (!b))))
  | none=>none
 | .load t x=>match bw X st.L x,X.a7.find t with
  | some (g1,.c (.dV id 1 i 0)),some bp=>match aZ st.H id,jO bp.bs.desc with
   | some (.bX _ _ _ _ _ j d2),false=>some (g1&&Nat.beq i j,.c (.ak d2))
   | some (.bQ _ _ _ _ _ (some (j,some d2))),false=>some (g1&&decide (i=j),.c (.ak d2))
   | _,_=>none
  | _,_=>none
 | .slice t u (some x) none none=>match X.a7.find t,bw X st.L u,bw X st.L x with
  | some ⟨⟨.slice e,_,_,_⟩,_⟩,some (g1,.c (.ak id)),some (g2,.c (.val (.int _ z)))=>match X.a7.find e,aZ st.H id with
   | some eK,some (.row _ g l _)=>match Nat.beq g.size eK.bs.size with
    | true=>some (g1&&(g2&&(decide (0<=z)&&decide (z<=(l.length:Int)))),.c (.iv id g.size z.toNat))
    | false=>none
   | _,_=>none
  | _,_,_=>none
 | .call ⟨.builtin .cap,⟨[u]⟩,⟨[t]⟩⟩=>match X.a7.find t,bw X st.L u with
  | some ⟨⟨.slice _,_,_,_⟩,_⟩,some (g1,.c (.ak id))=>some (g1,.c (.iN id))
  | _,_=>none
 | _=>none
theorem My{X:bq} (av:X.a7.ok X.P) {L:cQ} {t:TypeId} {u v:Operand} {c b:Bool} (h:BO X L t u v=some (c,b)) (aa:c=true):∃ g1 g2 ft cR cs aI g x y,bw X L u=some (g1,.agg cs)/\bw X L v=some (g2,.agg aI)/\rk X.P t g/\dec g cs=some (ft,x,[])/\dec g aI=some (cR,y,[])/\g1=true/\g2=true/\ft=true/\cR=true/\b=g.beq x y:=by
 unfold BO at h
 split at h
 ·rename_i hu aw aY
  split at h
  ·split at h
   ·rename_i aC a1 cq
    cases h;simp only[Bool.and_eq_true]at aa;exact⟨_,_,_,_,_,_,_,_,_,hu,aw,Yv av cq,aC,a1,aa.1,aa.2.1,aa.2.2.1,aa.2.2.2,rfl⟩
   ·cases h
  ·cases h
 ·cases h
theorem BP{X:bq} {st:aM} (av:X.a7.ok X.P) {o:Oper} {c:Bool} {bx:bh} (h:vq X st o.op=some (c,bx)) (aa:c=true):hh X st o bx:=by
 unfold vq at h
 split at h
 ·rename_i aA
  split at h
  ·rename_i e
   cases h;obtain⟨g1,g2,ft,cR,cs,aI,g,x,y,hu,aw,bZ,ah,aH,J,U,ag,ay,rfl⟩:=My av e aa;exact Xg bZ aA hu J aw U ah ag aH ay
  ·cases h
 ·rename_i aA
  split at h
  ·rename_i e
   cases h;obtain⟨g1,g2,ft,cR,cs,aI,g,x,y,hu,aw,bZ,ah,aH,J,U,ag,ay,rfl⟩:=My av e aa;exact Xh bZ aA hu J aw U ah ag aH ay
  ·cases h
 ·rename_i aA
  split at h
  ·rename_i ah aY
   split at h
   ·rename_i ad aS
    cases h;simp only[Bool.and_eq_true]at aa
    have:=Nat.eq_of_beq_eq_true aa.2
    subst this;intro R W aD n ks env B ai H a b0 al;exact Xe av aA aY aS ah aa.1 ad al
   ·rename_i ad aS
    cases h;simp only[Bool.and_eq_true]at aa;exact Mk av aA aY aS ah aa.1 ad aa.2
   ·cases h
  ·cases h
 ·rename_i aA
  split at h
  ·rename_i aY hu ah
   split at h
   ·rename_i he ad
    split at h
    ·rename_i aj
     cases h;rw[Bool.and_eq_true,Bool.and_eq_true]at aa;exact XU av aA aY rfl he hu aa.1 ah aa.2.1 ad aj aa.2.2
    ·cases h
   ·cases h
  ·cases h
 ·rename_i aA
  split at h
  ·rename_i aY hu
   cases h;exact XW av aA aY rfl hu aa
  ·cases h
 ·cases h

section
def fr(g c:Bool):Bool:=match c with
 | true=>true
 | false=>!g
theorem yi{g c:Bool} (h:fr g c=true) (aV:g=true):c=true:=by
 cases c with
 | true=>rfl
 | false=>rw[aV]at h; cases h
abbrev fa:=List (Nat×Nat×Bool)
def ie(L:cQ) (s:Nat) (want:Bool):Option Bool:=match aZ L s,want with
 | some (.a (.c (.val (.bool b)))),true=>some b
 | some (.a (.c (.val (.bool b)))),false=>some (!b)
 | some (.may g (.c (.val (.bool b)))),true=>some (g&&b)
 | some (.may g (.c (.val (.bool b)))),false=>some (g&&!b)
 | _,_=>none
def Gb:Bool->Bool->Bool
 | true,true=>true
 | false,false=>true
 | _,_=>false
theorem Yw:∀ {a b:Bool},Gb a b=true->a=b
 | true,true,_=>rfl
 | false,false,_=>rfl
def yj(j:Nat) (w:Bool):List (Nat×Bool)->Bool
 | []=>false
 | p :: r=>match Nat.beq p.1 j,Gb p.2 w with
  | true,true=>true
  | _,_=>yj j w r
def yk(s:Nat):fa->Option (Nat×Bool)
 | []=>none
 | e :: G=>match Nat.beq e.1 s with
  | true=>some e.2
  | false=>yk s G
def yl(cB:List (Option Nat)) (j s:Nat):Bool:=match nth cB j with
 | some (some q)=>Nat.beq q s
 | _=>false
def iY(cB:List (Option Nat)) (d:Nat):fa->fa
 | []=>[]
 | e :: G=>match Nat.beq e.1 d,yl cB e.2.1 d with
  | false,false=>e :: iY cB d G
  | _,_=>iY cB d G
def lW(cB:List (Option Nat)) (G:fa):Nat->Nat->Bool->List (Nat×Bool)
 | 0,j,w=>[(j,w)]
 | k+1,j,w=>(j,w) :: match nth cB j with
  | some (some s)=>match yk s G with
   | some p=>lW cB G k p.1 p.2
   | none=>[]
  | _=>[]
def gP(ps:List (Nat×Bool)):fa->cQ->cQ
 | [],L=>L
 | e :: G,L=>match yj e.2.1 e.2.2 ps,aZ L e.1 with
  | true,some (.may _ x)=>(e.1,.a x) :: gP ps G L
  | _,_=>gP ps G L
def vr(cB:List (Option Nat)) (s:Nat) (w:Bool) (ps:List (Nat×Bool)):fa->List (Nat×Bool)
 | []=>ps
 | e :: G=>match yl cB e.2.1 s,Gb e.2.2 w with
  | true,true=>(e.2.1,w) :: vr cB s w ps G
  | _,_=>vr cB s w ps G
def Gc(G:fa) (ps:List (Nat×Bool)) (L:cQ) (s:Nat):Option (Bool×Bool):=match aZ L s with
 | some (.a (.c (.val (.bool b))))=>some (true,b)
 | some (.may g (.c (.val (.bool b))))=>match yk s G with
  | some p=>match yj p.1 p.2 ps with
   | true=>some (true,b)
   | false=>some (g,b)
  | none=>some (g,b)
 | _=>none
def rB(X:bq) (cB:List (Option Nat)) (ps:List (Nat×Bool)) (G:fa) (st:aM):Op->Option (Bool×bh)
 | .pick (.tmp s) u v=>match Gc G ps st.L s with
  | some (gc,b)=>match bw X (gP (vr cB s true ps G) G st.L) u,bw X (gP (vr cB s false ps G) G st.L) v with
   | some (xr,x),some (bO,y)=>match xq b x y with
    | some r=>some (gc&&(fr b xr&&fr (!b) bO),r)
    | none=>none
   | _,_=>none
  | none=>none
 | op=>match sr X ⟨gP ps G st.L,st.H⟩ op with
  | some r=>some r
  | none=>vq X ⟨gP ps G st.L,st.H⟩ op
section
variable {X:bq} {R:Nat->Prop} {W:World} {aD:eT} {n:Nat} {ks:List Nat} {env:Nat->Loc} {B:Nat->Prop} {ai:World} {H:List bc} {st:aM} {a:Act} {w:World} {cB:List (Option Nat)} {G:fa} {ps:List (Nat×Bool)}
def dS(cB:List (Option Nat)) (G:fa) (L:cQ):Prop:=∀ e∈G,∃ s g x,nth cB e.2.1=some (some s)/\ie L s e.2.2=some g/\aZ L e.1=some (.may g x)
def k6(cB:List (Option Nat)) (L:cQ) (p:Nat×Bool):Prop:=∃ s,nth cB p.1=some (some s)/\ie L s p.2=some true
theorem ym{j:Nat} {w:Bool}:∀ {ps:List (Nat×Bool)},yj j w ps=true->(j,w)∈ps
 | [],h=>by cases h
 | p :: r,h=>by
  unfold yj at h
  split at h
  ·rename_i J U
   rw[<- Nat.eq_of_beq_eq_true J,<- Yw U];exact List.mem_cons_self
  ·exact List.mem_cons_of_mem _ (ym h)
theorem Gd{s:Nat} {p:Nat×Bool}:∀ {G:fa},yk s G=some p->(s,p)∈G
 | [],h=>by cases h
 | e :: G,h=>by
  unfold yk at h
  split at h
  ·rename_i J
   cases h;rw[<- Nat.eq_of_beq_eq_true J];exact List.mem_cons_self
  ·exact List.mem_cons_of_mem _ (Gd h)
theorem Ge{d:Nat} {e:Nat×Nat×Bool}:∀ {G:fa},e∈iY cB d G->e∈G/\e.1≠d/\yl cB e.2.1 d=false
 | [],h=>by cases h
 | q :: G,h=>by
  unfold iY at h
  split at h
  ·rename_i J U
   rcases List.mem_cons.1 h with rfl | h
   ·exact⟨List.mem_cons_self,Nat.ne_of_beq_eq_false J,U⟩
   ·obtain⟨ag,ay⟩:=Ge h
    exact⟨List.mem_cons_of_mem _ ag,ay⟩
  ·obtain⟨ag,ay⟩:=Ge h
   exact⟨List.mem_cons_of_mem _ ag,ay⟩
theorem vt{L:cQ} {d s:Nat} {sv:b5} {w:Bool} (h:s≠d):ie ((d,sv) :: L) s w=ie L s w:=by
 unfold ie;rw[cn,if_neg h]
theorem dS.drop{L:cQ} (h:dS cB G L) (d:Nat) (sv:b5):dS cB (iY cB d G) ((d,sv) :: L):=fun e he=>by
 obtain⟨J,U,ag⟩:=Ge he;obtain⟨s,g,x,ay,aO,aK⟩:=h e J;have aj:s≠d:=fun cu=>by
  unfold yl at ag;rw[ay,cu]at ag
  simp at ag
 exact⟨s,g,x,ay,by rw[vt aj]; exact aO,by rw[cn,if_neg U]; exact aK⟩
theorem dS.nil{L:cQ}:dS cB [] L:=fun _ h=>by cases h
theorem Yx{L:cQ} {s:Nat} {g w:Bool} {x:bh} (ag:aZ L s=some (.may g x)) (aO:ie L s w=some true):g=true:=by
 unfold ie at aO
 split at aO
 ·rename_i e; rw[ag]at e; cases e
 ·rename_i e; rw[ag]at e; cases e
 ·rename_i e
  rw[ag]at e;cases e;simp only[Option.some.injEq,Bool.and_eq_true]at aO;exact aO.1
 ·rename_i e
  rw[ag]at e;cases e;simp only[Option.some.injEq,Bool.and_eq_true]at aO;exact aO.1
 ·cases aO
theorem yn{L:cQ} (cy:dS cB G L):∀ {k j:Nat} {w:Bool},k6 cB L (j,w)->∀ p∈lW cB G k j w,k6 cB L p
 | 0,j,w,h,p,an=>by rw[List.mem_singleton.1 an]; exact h
 | k+1,j,w,h,p,an=>by
  unfold lW at an
  rcases List.mem_cons.1 an with rfl | an
  ·exact h
  ·split at an
   ·rename_i s aj
    split at an
    ·rename_i q ao
     obtain⟨s1,g,x,J,U,ag⟩:=cy _ (Gd ao);refine yn cy ?_ p an;obtain⟨s2,ay,aO⟩:=h;rw[aj]at ay;cases ay;have aV:g=true:=by
      exact Yx ag aO
     exact⟨s1,J,by rw[U,aV]⟩
    ·cases an
   ·cases an
theorem Yy{L:cQ} (cy:dS cB G L) (an:∀ p∈ps,k6 cB L p) {Gf:Array Value} (h:∀ s sv,aZ L s=some sv->∃ v,Gf[s]?=some v/\ei env B ai sv v):∀ s sv,aZ (gP ps G L) s=some sv->∃ v,Gf[s]?=some v/\ei env B ai sv v:=by
 have key:∀ eL,(∀ e∈eL,e∈G)->∀ s sv,aZ (gP ps eL L) s=some sv->∃ v,Gf[s]?=some v/\ei env B ai sv v:=by
  intro eL
  induction eL with
  | nil=>exact fun _=>h
  | cons e eL bJ=>
   intro aj s sv ad;have rC:=bJ fun e he=>aj e (List.mem_cons_of_mem _ he)
   unfold gP at ad
   split at ad
   ·rename_i g x J U
    rw[cn]at ad
    split at ad
    ·rename_i aC
     cases ad;obtain⟨s1,g1,pQ,ag,ay,aO⟩:=cy e (aj e List.mem_cons_self);obtain⟨s2,aK,bY⟩:=an _ (ym J);dsimp only at aK;rw[ag]at aK;cases aK;rw[ay]at bY;cases bY;rw[U]at aO;cases aO;obtain⟨v,c3,hB⟩:=h _ _ U;rw[<- aC]at c3;exact⟨v,c3,hB.1 rfl⟩
    ·exact rC s sv ad
   ·exact rC s sv ad
 exact key G fun _ h=>h
theorem Yz{L:cQ} (cy:dS cB G L) (an:∀ p∈ps,k6 cB L p):∀ s sv,aZ (gP ps G L) s=some sv->aZ L s=some sv\/∃ x,sv=.a x/\aZ L s=some (.may true x):=by
 have key:∀ eL,(∀ e∈eL,e∈G)->∀ s sv,aZ (gP ps eL L) s=some sv->aZ L s=some sv\/∃ x,sv=.a x/\aZ L s=some (.may true x):=by
  intro eL
  induction eL with
  | nil=>exact fun _ s sv h=>.inl h
  | cons e eL bJ=>
   intro aj s sv ad;have rC:=bJ fun e he=>aj e (List.mem_cons_of_mem _ he)
   unfold gP at ad
   split at ad
   ·rename_i g x J U
    rw[cn]at ad
    split at ad
    ·rename_i aC
     cases ad;obtain⟨s1,g1,pQ,ag,ay,aO⟩:=cy e (aj e List.mem_cons_self);obtain⟨s2,aK,bY⟩:=an _ (ym J);dsimp only at aK;rw[ag]at aK;cases aK;rw[ay]at bY;cases bY;rw[U]at aO;cases aO;exact .inr ⟨x,rfl,by rw[aC]; exact U⟩
    ·exact rC s sv ad
   ·exact rC s sv ad
 exact key G fun _ h=>h
theorem Mz{L:cQ} (cy:dS cB G L) (an:∀ p∈ps,k6 cB L p):∀ s sv,aZ L s=some sv->aZ (gP ps G L) s=some sv\/∃ x,sv=.may true x/\aZ (gP ps G L) s=some (.a x):=by
 have key:∀ eL,(∀ e∈eL,e∈G)->∀ s sv,aZ L s=some sv->aZ (gP ps eL L) s=some sv\/∃ x,sv=.may true x/\aZ (gP ps eL L) s=some (.a x):=by
  intro eL
  induction eL with
  | nil=>exact fun _ s sv h=>.inl h
  | cons e eL bJ=>
   intro aj s sv ad;have rC:=bJ fun e he=>aj e (List.mem_cons_of_mem _ he)
   unfold gP
   split
   ·rename_i g x J U
    rw[cn]
    split
    ·rename_i aC
     obtain⟨s1,g1,pQ,ag,ay,aO⟩:=cy e (aj e List.mem_cons_self);obtain⟨s2,aK,bY⟩:=an _ (ym J);dsimp only at aK;rw[ag]at aK;cases aK;rw[ay]at bY;cases bY;rw[U]at aO;cases aO;rw[aC,U]at ad;cases ad;exact .inr ⟨x,rfl,rfl⟩
    ·exact rC s sv ad
   ·exact rC s sv ad
 exact key G fun _ h=>h
theorem bI.YA(al:bI X R W aD n ks env B ai H ⟨gP ps G st.L,st.H⟩ a w) (cy:dS cB G st.L) (an:∀ p∈ps,k6 cB st.L p):bI X R W aD n ks env B ai H st a w:=
 ⟨al.size,al.defs,fun s sv aj=>by
  rcases Mz cy an s sv aj with h | ⟨x,rfl,h⟩
  ·exact al.has s sv h
  ·obtain⟨v,J,U⟩:=al.has s _ h
   exact⟨v,J,fun _=>U,fun h=>by cases h⟩,al.heap,al.aU,al.sub,al.new,al.dt,al.base,al.dX⟩
theorem bI.view(al:bI X R W aD n ks env B ai H st a w) (cy:dS cB G st.L) (an:∀ p∈ps,k6 cB st.L p):bI X R W aD n ks env B ai H ⟨gP ps G st.L,st.H⟩ a w:=
 ⟨al.size,al.defs,Yy cy an al.has,al.heap,al.aU,al.sub,al.new,al.dt,al.base,al.dX⟩
theorem BQ{L:cQ} {s:Nat} {wt:Bool} (an:∀ p∈ps,k6 cB L p) (aw:ie L s wt=some true):∀ (G:fa),∀ p∈vr cB s wt ps G,k6 cB L p
 | [],p,h=>an p h
 | e :: G,p,h=>by
  unfold vr at h
  split at h
  ·rename_i J _
   rcases List.mem_cons.1 h with rfl | h
   ·unfold yl at J
    split at J
    ·rename_i q ao
     rw[Nat.eq_of_beq_eq_true J]at ao;exact⟨s,ao,aw⟩
    ·cases J
   ·exact BQ an aw G p h
  ·exact BQ an aw G p h
theorem YB{s:Nat} {gc b:Bool} (al:bI X R W aD n ks env B ai H st a w) (cy:dS cB G st.L) (an:∀ p∈ps,k6 cB st.L p) (h:Gc G ps st.L s=some (gc,b)) (aa:gc=true):aE (gn a) (.tmp s)=some (.bool b)/\ie st.L s true=some b/\ie st.L s false=some (!b):=by
 unfold Gc at h
 split at h
 ·rename_i sn e
  cases h;obtain⟨v,J,U⟩:=al.has _ _ e;rw[show v=_ from U]at J;exact⟨hQ J,by unfold ie; rw[e],by unfold ie; rw[e]⟩
 ·rename_i g sn e
  have key:g=true->sn=b->aE (gn a) (.tmp s)=some (.bool b)/\ie st.L s true=some b/\ie st.L s false=some (!b):=fun aV ae=>by
   subst ae;subst aV;obtain⟨v,J,U⟩:=al.has _ _ e;rw[show v=_ from U.1 rfl]at J;exact⟨hQ J,by unfold ie; rw[e]; rfl,by unfold ie; rw[e]; rfl⟩
  split at h
  ·rename_i q ao
   split at h
   ·rename_i dR
    cases h;refine key ?_ rfl;obtain⟨s1,g1,pQ,ag,ay,aO⟩:=cy _ (Gd ao);obtain⟨s2,aK,bY⟩:=an _ (ym dR);dsimp only at aK ag ay aO bY;rw[ag]at aK;cases aK;rw[ay]at bY;cases bY;rw[e]at aO;cases aO
    rfl
   ·cases h; exact key aa rfl
  ·cases h; exact key aa rfl
 ·cases h
theorem MA{b:Bool} {x y r:bh} {vx vy:Value} (an:xq b x y=some r) (ah:b=true->dH env B ai x vx) (aH:b=false->dH env B ai y vy):dH env B ai r (if b then vx else vy):=by
 unfold xq at an
 split at an
 ·split at an
  ·rename_i ab
   have kS:=of_decide_eq_true ab;subst kS;cases an;cases b
   ·exact aH rfl
   ·exact ah rfl
  ·cases an
 ·cases an
  cases b
  ·exact aH rfl
  ·exact ah rfl
 ·cases an
  cases b
  ·exact aH rfl
  ·exact ah rfl
 ·cases an
theorem MB(av:X.a7.ok X.P) (al:bI X R W aD n ks env B ai H st a w) (cy:dS cB G st.L) (an:∀ p∈ps,k6 cB st.L p) {o:Oper} {c:Bool} {bx:bh} (h:rB X cB ps G st o.op=some (c,bx)) (aa:c=true):∃ v,dH env B ai bx v/\∀ w',(oO o.op=true->bK (fun k=>R k\/B k) ai (H++ks.map dC) w')->(execOp a.eval o).run X.P w'=.ok (.value v) w':=by
 unfold rB at h
 split at h
 ·rename_i s u v aA
  split at h
  ·rename_i gc b aC
   split at h
   ·rename_i xr x bO y a1 cq
    split at h
    ·rename_i r ep
     cases h;simp only[Bool.and_eq_true]at aa;obtain⟨EO,fE,ng⟩:=aa;obtain⟨J,U,ag⟩:=YB al cy an aC EO;cases b with
     | true=>
      have b7:=al.view cy (BQ an U G);obtain⟨vx,ay,aO⟩:=b7.aE a1 (yi fE rfl);exact⟨vx,MA (vx:=vx) (vy:=vx) ep (fun _=>aO) (fun h=>by cases h),fun w' _=>Ka al.cb aA J rfl ay w'⟩
     | false=>
      have b7:=al.view cy (BQ an ag G);obtain⟨vy,ay,aO⟩:=b7.aE cq (yi ng rfl);exact⟨vy,MA (vx:=vy) (vy:=vy) ep (fun h=>by cases h) (fun _=>aO),fun w' _=>Kb al.cb aA J rfl ay w'⟩
    ·cases h
   ·cases h
  ·cases h
 ·have b7:=al.view cy an
  split at h
  ·rename_i e
   cases h;obtain⟨v,J,U⟩:=AS (st:=⟨gP ps G st.L,st.H⟩) av e aa b7;exact⟨v,J,U⟩
  ·obtain⟨v,J,U⟩:=BP (st:=⟨gP ps G st.L,st.H⟩) av h aa b7
   exact⟨v,J,U⟩
theorem MC(av:X.a7.ok X.P) (al:bI X R W aD n ks env B ai H st a w) (cy:dS cB G st.L) (an:∀ p∈ps,k6 cB st.L p) {o:Oper} {c:Bool} {bx:bh} (h:rB X cB ps G st o.op=some (c,bx)) (aa:c=true):∃ v,dH env B ai bx v/\(execOp a.eval o).run X.P w=.ok (.value v) w:=by
 obtain⟨v,J,U⟩:=MB av al cy an h aa;exact⟨v,J,U w fun _=>al.aU⟩
theorem yo{l:List Oper} {o:Oper} (al:bI X R W aD n ks env B ai H st a w) {j s:Nat} {want g:Bool} (dx:o.guard=some (j,want)) (aF:nth (ef l) j=some (some s)) (aV:ie st.L s want=some g):Region.wanted o (yielded l.toArray a.tmps)=g:=by
 obtain⟨fF,kc,q8⟩:=EX aF;have lO:(l.toArray[j]?).bind (·.dst)=some s:=by simp[kc,<- q8]
 unfold ie at aV
 split at aV
 ·rename_i b b8
  cases aV;obtain⟨v,J,U⟩:=al.has _ _ b8;rw[show v=_ from U]at J;rw[qV al.sym dx lO (hQ J)];cases g<;>rfl
 ·rename_i b b8
  cases aV;obtain⟨v,J,U⟩:=al.has _ _ b8;rw[show v=_ from U]at J;rw[qV al.sym dx lO (hQ J)];cases b<;>rfl
 ·rename_i g0 b b8
  cases aV;obtain⟨v,J,U,ag⟩:=al.has _ _ b8;cases g0 with
  | true=>
   rw[show v=_ from U rfl]at J;rw[qV al.sym dx lO (hQ J)];cases b<;>rfl
  | false=>
   rw[ag rfl]at J;rw[AE al.sym dx lO (hQ J)]
   rfl
 ·rename_i g0 b b8
  cases aV;obtain⟨v,J,U,ag⟩:=al.has _ _ b8;cases g0 with
  | true=>
   rw[show v=_ from U rfl]at J;rw[qV al.sym dx lO (hQ J)];cases b<;>rfl
  | false=>
   rw[ag rfl]at J;rw[AE al.sym dx lO (hQ J)]
   rfl
 ·cases aV
end
def MD:Option Nat->List Nat
 | some d=>[d]
 | none=>[]
def yp(X:bq) (L:cQ):Op->List Nat
 | .store _ u _=>match bw X L u with
  | some (_,.c (.ptr id _))=>[id]
  | some (_,.c (.dV id _ _ _))=>[id]
  | _=>[]
 | .call ⟨.builtin .append,⟨[u,_]⟩,_⟩=>match bw X L u with
  | some (_,.c (.ak id))=>[id]
  | _=>[]
 | _=>[]
theorem BR{n:Nat} {st st':aM} {d:Nat} {t:TypeId} {g:ba} {l:List g.D} {cap:Option Nat} (h:newRow n st d t g l cap=some st'):cU [d] st st':=by
 unfold newRow at h
 split at h
 ·cases h
  exact⟨b6.cons (jo _ _ _),b6.cons (iG _ _ _)⟩
 ·cases h
theorem ME{X:bq} {n:Nat} {st st':aM} {t:TypeId} {d:Nat} {cs:List bg} {c:Bool} (h:q3 X n st t d cs=some (c,st')):cU [d] st st':=by
 unfold q3 at h
 split at h
 ·cases h
  exact⟨b6.cons (jo _ _ _),b6.cons (iG _ _ _)⟩
 ·cases h
theorem YC{X:bq} {n:Nat} {st st':aM} {t:TypeId} {N d:Nat} {ps:List (Nat×Operand)} {c:Bool} (h:xz X n st t N ps d=some (c,st')):cU [d] st st':=by
 unfold xz at h
 split at h
 ·split at h
  ·split at h
   ·split at h
    ·split at h
     ·rename_i e; cases h; exact BR e
     ·cases h
    ·cases h
   ·cases h
  ·cases h
 ·cases h
theorem YD{X:bq} {n:Nat} {st st':aM} {t:TypeId} {d:Nat} {x y:bh} {c:Bool} (h:xB X n st t x y d=some (c,st')):cU [d] st st':=by
 unfold xB at h
 split at h
 ·split at h
  ·split at h
   ·split at h
    ·rename_i e; cases h; exact BR e
    ·cases h
   ·cases h
  ·cases h
 ·cases h
theorem YE{X:bq} {st st':aM} {t:TypeId} {x y:bh} {c:Bool} (h:xv X st t x y=some (c,st')):(∃ id o,x=.c (.ptr id o)/\cU [id] st st')\/∃ id cP i o,x=.c (.dV id cP i o)/\cU [id] st st':=by
 unfold xv at h
 split at h
 ·split at h
  ·split at h
   ·split at h
    ·cases h
     exact .inl ⟨_,_,rfl,b6.refl _,jI (iX _ _)⟩
    ·cases h
   ·cases h
  ·split at h
   ·split at h
    ·split at h
     ·split at h
      ·cases h
       exact .inr ⟨_,_,_,_,rfl,b6.refl _,jI (iX _ _)⟩
      ·cases h
     ·cases h
    ·cases h
   ·cases h
  ·cases h
 ·cases h
theorem YF{X:bq} {n:Nat} {st st':aM} {t:TypeId} {x y:bh} {d:Nat} {c:Bool} (h:xC X n st t x y d=some (c,st')):cU [d] st st'\/∃ id,x=.c (.ak id)/\cU [d,id] st st':=by
 unfold xC at h
 split at h
 ·split at h
  ·split at h
   ·split at h
    ·split at h
     ·cases h
      refine .inr ⟨_,rfl,b6.cons (jo _ _ _),(b6.cons (V:=[]) (iG _ _ _)).more fun q ao=>?_⟩;exact(e9 ao).2
     ·cases h
    ·cases h
   ·split at h
    ·split at h
     ·rename_i e; cases h; exact .inl (BR e)
     ·cases h
    ·cases h
   ·split at h
    ·split at h
     ·rename_i e; cases h; exact .inl (BR e)
     ·cases h
    ·cases h
   ·cases h
  ·cases h
 ·cases h
theorem YG{X:bq} {n:Nat} {st st':aM} {op:Op} {d:Option Nat} {c:Bool} (h:xE X n st d op=some (c,st')):cU (MD d++yp X st.L op) st st':=by
 unfold xE at h
 split at h
 ·split at h
  ·exact ME h
  ·cases h
 ·split at h
  ·split at h
   ·rename_i e; cases h; exact ME e
   ·cases h
  ·cases h
 ·split at h
  ·rename_i aC a1
   split at h
   ·rename_i e
    cases h
    rcases YE e with⟨id,o,rfl,ab⟩ | ⟨id,cP,i,o,rfl,ab⟩
    ·simp only[yp,aC]; exact ab
    ·simp only[yp,aC]; exact ab
   ·cases h
  ·cases h
 ·split at h
  ·exact YC h
  ·cases h
 ·split at h
  ·split at h
   ·rename_i e; cases h; exact YD e
   ·cases h
  ·cases h
 ·split at h
  ·rename_i hu aw
   split at h
   ·rename_i e
    cases h
    rcases YF e with ab | ⟨id,rfl,ab⟩
    ·exact ab.more fun q ao=>(oj.1 ao).1
    ·simp only[yp,hu]; exact ab
   ·cases h
  ·cases h
 ·cases h
def ta(X:bq) (L:cQ) (o:Oper):List Nat:=MD o.dst++yp X L o.op
theorem vu{X:bq} {n:Nat} {cB:List (Option Nat)} {st st':aM} {o:Oper} {c:Bool} (aV:o.guard=none) (h:nk X n cB st o=.ok c st'):cU (ta X st.L o) st st':=by
 obtain⟨L,H⟩:=st;simp only[nk,aV]at h;have one:∀ {d:Nat} {sv:b5},o.dst=some d->cU (ta X L o) ⟨L,H⟩ ⟨(d,sv) :: L,H⟩:=fun {d sv} ax=>by
  refine cU.more (V:=[d]) ⟨b6.cons (b6.refl _),b6.refl _⟩ fun q ao=>?_
  have:=(oj.1 ao).1
  rw[ax]at this;exact this
 split at h
 ·split at h
  ·rename_i d ax
   split at h
   ·cases h; exact one ax
   ·cases h
  ·cases h
 ·split at h
  ·split at h
   ·rename_i d ax
    split at h
    ·cases h; exact one ax
    ·cases h
   ·cases h
  ·split at h
   ·rename_i e
    cases h;exact YG e
   ·cases h
theorem Gg{id:Nat}:∀ H:bE,kh [id] H (lR id H)
 | []=>b6.refl []
 | (k,b) :: r=>fun q v ao ad=>by
  have cG:=(e9 ao).1;unfold lR at ad
  split at ad
  ·rename_i e
   have ab:=Nat.eq_of_beq_eq_true e;exact⟨v,by rw[cn,if_neg (by rw[ab]; exact cG)]; exact ad,fun _=>rfl⟩
  ·rw[cn]at ad ⊢
   split at ad
   ·rename_i e; rw[if_pos e]; exact⟨_,rfl,fun _=>by cases ad; rfl⟩
   ·rename_i e; rw[if_neg e]; exact Gg r q v ao ad
theorem Gh{js ks:List Nat} {V:List Nat}:∀ H:bE,kh V H (iS js ks H)
 | []=>b6.refl []
 | (k,b) :: r=>fun q v ao ad=>by
  unfold iS at ad
  split at ad
  ·rename_i e
   obtain⟨u,J,U⟩:=Gh r q v ao ad
   by_cases cG:q=k
   ·subst cG
    exact(Gi e ad).elim
   ·exact⟨u,by rw[cn,if_neg cG]; exact J,U⟩
  ·rw[cn]at ad ⊢
   split at ad
   ·rename_i e; cases ad; rw[if_pos e]; exact⟨b,rfl,fun az=>X2 az⟩
   ·rename_i e; rw[if_neg e]; exact Gh r q v ao ad
where Gi {js ks:List Nat} {k:Nat} (ab:js.elem k=true) {v:cA}:∀ {H:bE},aZ (iS js ks H) k=some v->False
 | [],h=>by cases h
 | (j,b) :: r,h=>by
  unfold iS at h
  split at h
  ·exact Gi ab h
  ·rename_i e
   rw[cn,if_neg (fun cu=>by subst cu; exact absurd ab (by simp_all))]at h;exact Gi ab h
theorem MF{ps:dQ} {i j:Nat} (h:aZ ps i=some j) {q:Nat} (ao:eA q (kd ps)=false):q≠j:=by
 induction ps with
 | nil=>cases h
 | cons p r bJ=>
  obtain⟨a,b⟩:=p;rw[cn]at h;have nx:eA q (b :: kd r)=false:=ao
  split at h
  ·cases h; exact(e9 nx).1
  ·exact bJ h (e9 nx).2
theorem MG{ps kE:dQ}:∀ {is:List Nat} {H h H1:bE},nv ps kE is H=some (h,H1)->kh (kd ps) H H1
 | [],H,h,H1,an=>by cases an; exact b6.refl _
 | i :: is,H,h,H1,an=>by
  unfold nv at an
  split at an
  ·rename_i j aF
   split at an
   ·split at an
    ·rename_i b h0 FB ae au
     cases an;have J:=MG au;refine((Gg H).trans J).more fun q ao=>oj.2 ⟨ao,o9.2 ⟨MF aF ao,rfl⟩⟩
    ·cases an
   ·cases an
  ·cases an
theorem MH{ps:dQ}:∀ {h a8:bE},sC ps h=some a8->∀ q,eA q (kd ps)=false->eA q (a8.map (·.1))=false
 | [],a8,e,q,ao=>by cases e; rfl
 | (i,b) :: r,a8,e,q,ao=>by
  unfold sC at e
  split at e
  ·rename_i j iM aX aF ae au
   cases e;exact o9.2 ⟨MF aF ao,MH au q ao⟩
  ·cases e
theorem YH{X:bq} {n:Nat} {e:bz X} {ps:dQ} {st st':aM} {d:Nat} {args:List bh} {p:vf X e} {r:e.ρ} (an:o4 X n e ps st.H args=some p) (h:after X e ps st d p r=some st'):cU (d :: kd ps) st st':=by
 unfold after at h
 split at h
 ·rename_i iT lr aC a1
  have ab:=MH a1
  split at h
  ·cases h
   refine⟨(b6.cons (V:=[]) (b6.refl _)).more fun q ao=>o9.2 ⟨(e9 ao).1,rfl⟩,(b6.append (V:=[]) (b6.refl _) rfl).more fun q ao=>oj.2 ⟨ab q (e9 ao).2,rfl⟩⟩
  ·cases h
   have J:kh (kd ps) st.H p.H1:=by
    unfold o4 at an
    split at an
    ·rename_i ht
     split at an
     ·split at an
      ·cases an; exact MG ht
      ·cases an
     ·cases an
    ·cases an
   refine⟨(b6.cons (V:=[]) (X4 _ _)).more fun q ao=>o9.2 ⟨(e9 ao).1,rfl⟩,?_⟩;refine(b6.append (J.trans (Gh (V:=[]) _)) rfl).more fun q ao=>?_
   have U:=(e9 ao).2;exact oj.2 ⟨ab q U,oj.2 ⟨rfl,U⟩⟩
 ·cases h
end

section
def yq(X:bq) (n:Nat) (st:aM) (d:Nat):Op->Option (Bool×aM)
 | .range t u=>match X.a7.find t,bw X st.L u with
  | some ⟨⟨.string,_,_,_⟩,_⟩,some (g,.c (.str s))=>some (g,⟨(d,.c (.ptr d 0)) :: fe d .dead st.L,(d,.hf ⟨s.toArray⟩ 0) :: dG d .dead st.H⟩)
  | _,_=>none
 | .index t u x=>match X.a7.find t with
  | some ⟨⟨.string,_,_,_⟩,_⟩=>match bw X st.L u,bw X st.L x with
   | some (g,.c (.str s)),some (g2,.c (.val (.int _ z)))=>some (g&&(g2&&aR z s.length),⟨(d,.c (.val (.int .u8 ((s.getD z.toNat 0).toNat:Int)))) :: st.L,st.H⟩)
   | _,_=>none
  | some ⟨⟨.array m e,_,_,_⟩,_⟩=>match Ga X e,bw X st.L u,bw X st.L x with
   | some (eK,g),some (g1,qc),some (g2,.c (.val (.int _ z)))=>match Bt g m qc,Nat.beq g.size eK.bs.size,decEq (jO eK.bs.desc) g.p2,g.p2 || Nat.beq g.size 1 with
    | some (c,l),true,isTrue _,true=>match sO g (l.getD z.toNat g.zero)with
     | some bx=>some (g1&&(g2&&(c&&(aR z m&&aR z l.length))),⟨(d,.a bx) :: st.L,st.H⟩)
     | none=>none
    | _,_,_,_=>none
   | _,_,_=>none
  | _=>none
 | .convert t bR u=>match X.a7.find t,X.a7.find bR,bw X st.L u with
  | some ⟨⟨.slice e,_,_,_⟩,_⟩,some ⟨⟨.string,_,_,_⟩,_⟩,some (g,qc)=>match X.a7.find e,lQ st (.int .u8) qc with
   | some ⟨⟨.int .u8,_,_,_⟩,_⟩,some l=>some (g&&rn l,⟨(d,.c (.str (kg l))) :: st.L,st.H⟩)
   | _,_=>none
  | _,_,_=>none
 | .slice t u lo hi none=>match X.a7.find t,bw X st.L u with
  | some ⟨⟨.string,_,_,_⟩,_⟩,some (g,.c (.str s))=>match lo,hi with
   | some x,none=>match bw X st.L x with
    | some (g2,.c (.val (.int _ z)))=>some (g&&(g2&&(decide (0<=z)&&decide (z<=(s.length:Int)))),⟨(d,.c (.str (s.drop z.toNat))) :: st.L,st.H⟩)
    | _=>none
   | none,some x=>match bw X st.L x with
    | some (g2,.c (.val (.int _ z)))=>some (g&&(g2&&(decide (0<=z)&&decide (z<=(s.length:Int)))),⟨(d,.c (.str (s.take z.toNat))) :: st.L,st.H⟩)
    | _=>none
   | some x,some y=>match bw X st.L x,bw X st.L y with
    | some (g2,.c (.val (.int _ z))),some (g3,.c (.val (.int _ z2)))=>some (g&&(g2&&(g3&&(decide (0<=z)&&(decide (z<=z2)&&decide (z2<=(s.length:Int)))))),⟨(d,.c (.str ((s.take z2.toNat).drop z.toNat))) :: st.L,st.H⟩)
    | _,_=>none
   | none,none=>none
  | _,_=>none
 | .slice t u none (some y) (some v)=>match X.a7.find t,bw X st.L u,bw X st.L y,bw X st.L v with
  | some ⟨⟨.slice e,_,_,_⟩,_⟩,some (g1,.c (.ak id)),some (g2,.c (.val (.int _ z))),some (g3,.c (.iN YI))=>match X.a7.find e,aZ st.H id,Nat.beq YI id,Nat.blt d n&&Nat.blt id h2 with
   | some _,some (.row T g l cap),true,true=>some (g1&&(g2&&(g3&&(decide (0<=z)&&decide (z<=(l.length:Int))))),⟨(d,.c (.ak id)) :: fe id .dead st.L,(id,.row T g (l.take z.toNat) cap) :: dG id .dead st.H⟩)
   | _,_,_,_=>none
  | _,_,_,_=>none
 | .load t x=>match X.a7.find t,bw X st.L x with
  | some ⟨⟨.array m e,cP,b,kA⟩,pH⟩,some (g1,.c (.dV id _ 0 0))=>match aZ st.H id with
   | some (.row _ g l _)=>match Nat.beq cP (m * g.size)with
    | true=>some (g1&&decide (l.length=m),⟨(d,.a (.arr g l)) :: st.L,st.H⟩)
    | false=>none
   | _=>none
  | some ⟨⟨.array m e,cP,b,kA⟩,pH⟩,some (g1,.c (.par g l))=>match Nat.beq cP (m * g.size)with
   | true=>some (g1&&decide (l.length=m),⟨(d,.a (.arr g l)) :: st.L,st.H⟩)
   | false=>none
  | _,_=>none
 | .call ⟨.builtin .append,⟨[x,y]⟩,⟨[t,t2]⟩⟩=>match Nat.beq t2 t,X.a7.find t,bw X st.L x,bw X st.L y with
  | true,some ⟨⟨.slice e,_,_,_⟩,_⟩,some (g1,.c (.ak id)),some (g2,eZ)=>match X.a7.find e,aZ st.H id with
   | some ⟨⟨_,cP,gW,_⟩,some _⟩,some (.fw cu g l)=>match Nat.beq cu e,Nat.beq g.size cP,lQ st g eZ,Nat.blt id h2 with
    | true,true,some ct,true=>some (g1&&(g2&&ee gW (l.length+ct.length)),⟨(d,.c (.ak id)) :: fe id .dead st.L,(id,.fw e g (l++ct)) :: dG id .dead st.H⟩)
    | _,_,_,_=>none
   | _,_=>none
  | true,some ⟨⟨.slice e,_,_,_⟩,_⟩,some (g1,.c (.bd g l (some c))),some (g2,eZ)=>match X.a7.find e with
   | some ⟨⟨_,cP,gW,_⟩,some _⟩=>match Nat.beq g.size cP,lQ st g eZ with
    | true,some ct=>some (g1&&(g2&&(ee gW (l.length+ct.length)&&decide (c=l.length))),⟨(d,.c (.ak d)) :: fe d .dead st.L,(d,.fw e g (l++ct)) :: dG d .dead st.H⟩)
    | _,_=>none
   | _=>none
  | _,_,_,_=>none
 | .call ⟨.builtin .copy,⟨[x,y]⟩,⟨[t,t2]⟩⟩=>match Nat.beq t2 t,X.a7.find t,bw X st.L x,bw X st.L y with
  | true,some ⟨⟨.slice e,_,_,_⟩,_⟩,some (g1,.c (.ak id)),some (g2,eZ)=>match X.a7.find e,aZ st.H id with
   | some ⟨⟨_,cP,gW,_⟩,some _⟩,some (.row cu g l cap)=>match Nat.beq cu e,Nat.beq g.size cP,lQ st g eZ with
    | true,true,some ct=>some (g1&&(g2&&Nat.beq ct.length l.length),⟨(d,.c (.val (.int .i64 (l.length:Int)))) :: st.L,eO id (.row e g ct cap) st.H⟩)
    | _,_,_=>none
   | _,_=>none
  | true,some ⟨⟨.slice e,_,_,_⟩,_⟩,some (g1,.c (.iv id s p)),some (g2,eZ)=>match X.a7.find e,aZ st.H id with
   | some ⟨⟨_,cP,gW,_⟩,some _⟩,some (.row cu g l cap)=>match Nat.beq cu e,Nat.beq g.size cP,Nat.beq s cP,lQ st g eZ,Nat.blt 0 cP with
    | true,true,true,some ct,true=>some (g1&&(g2&&decide (p+ct.length<=l.length)),⟨(d,.c (.val (.int .i64 (ct.length:Int)))) :: st.L,eO id (.row e g (l.take p++ct++l.drop (p+ct.length)) cap) st.H⟩)
    | _,_,_,_,_=>none
   | _,_=>none
  | _,_,_,_=>none
 | _=>none
def yr(X:bq) (st:aM):Op->Option (Bool×aM)
 | .store t x y=>match X.a7.find t,bw X st.L x,bw X st.L y with
  | some bp,some (g1,.c (.dV id 1 i 0)),some (g2,.c (.ak d))=>match aZ st.H id,aZ st.H d,Nat.beq bp.bs.size 1 with
   | some (.row T (.ak g) l cap),some (.row _ _ _ _),true=>some (g1&&(g2&&decide (i < l.length)),⟨st.L,eO id (.bX false T g l cap i d) st.H⟩)
   | some (.row T (.gM g) l cap),some (.row _ _ ct (some q)),true=>some (g1&&(g2&&(decide (i < l.length)&&Nat.beq q ct.length)),⟨st.L,eO id (.bX true T g l cap i d) st.H⟩)
   | some (.bQ T T' g l cap h),_,true=>some (g1&&(g2&&(s7 h i&&decide (i < l.length))),⟨st.L,eO id (.bQ T T' g l cap (some (i,some d))) st.H⟩)
   | _,_,_=>none
  | _,_,_=>none
 | _=>none
section
variable {X:bq} {n:Nat} {st st':aM} {o:Oper} {d:Nat}
theorem YJ{e:TypeId} {bp:bo} {g:ba} (h:Ga X e=some (bp,g)):X.a7.find e=some bp/\bp.g=some g:=by
 unfold Ga at h
 split at h
 ·rename_i J
  split at h
  ·rename_i U; cases h; exact⟨J,U⟩
  ·cases h
 ·cases h
theorem YK(av:X.a7.ok X.P) {c:Bool} (h:yr X st o.op=some (c,st')) (aa:c=true) (bb:o.guard=none/\o.dst=none):gB X n o st st':=by
 unfold yr at h
 split at h
 ·rename_i aA
  split at h
  ·rename_i aY ah aH
   split at h
   ·rename_i J U ag
    cases h;simp only[Bool.and_eq_true]at aa;exact XA av aA bb aY ag ah aa.1 aH aa.2.1 J U aa.2.2
   ·rename_i J U ag
    cases h;simp only[Bool.and_eq_true]at aa;exact XC av aA bb aY ag ah aa.1 aH aa.2.1 J U aa.2.2.1 aa.2.2.2
   ·rename_i J ag
    cases h;simp only[Bool.and_eq_true]at aa;exact Mm av aA bb aY ag ah aa.1 aH aa.2.1 J aa.2.2.1 aa.2.2.2
   ·cases h
  ·cases h
 ·cases h
theorem YL{c:Bool} {op:Op} (h:yr X st op=some (c,st')):∃ id,cU [id] st st'/\(∃ t x y g1 i,op=.store t x y/\bw X st.L x=some (g1,.c (.dV id 1 i 0))):=by
 unfold yr at h
 split at h
 ·split at h
  ·rename_i aY ah aH
   split at h
   ·cases h
    exact⟨_,⟨b6.refl _,jI (iX _ _)⟩,_,_,_,_,_,rfl,ah⟩
   ·cases h
    exact⟨_,⟨b6.refl _,jI (iX _ _)⟩,_,_,_,_,_,rfl,ah⟩
   ·cases h
    exact⟨_,⟨b6.refl _,jI (iX _ _)⟩,_,_,_,_,_,rfl,ah⟩
   ·cases h
  ·cases h
 ·cases h
theorem YM(av:X.a7.ok X.P) {c:Bool} (h:yq X n st d o.op=some (c,st')) (aa:c=true) (bb:o.guard=none/\o.dst=some d) (ax:Nat.blt d n=true):gB X n o st st':=by
 unfold yq at h
 split at h
 ·rename_i aA
  split at h
  ·rename_i aY hu
   cases h;exact XR av aA bb ax aY rfl hu aa
  ·cases h
 ·rename_i aA
  split at h
  ·rename_i aY
   split at h
   ·rename_i hu ah
    cases h;simp only[Bool.and_eq_true]at aa;exact Xz av aA bb ax aY rfl hu aa.1 ah aa.2.1 aa.2.2
   ·cases h
  ·rename_i aY
   split at h
   ·rename_i he hu ah
    obtain⟨lu,kY⟩:=YJ he
    split at h
    ·rename_i ag J U _ ay
     split at h
     ·rename_i aO
      cases h;simp only[Bool.and_eq_true]at aa;exact XG _ _ _ av aA bb ax aY rfl lu U ag ay hu aa.1 ah aa.2.1 J aa.2.2.1 aa.2.2.2.1 aa.2.2.2.2 aO
     ·cases h
    ·cases h
   ·cases h
  ·cases h
 ·rename_i aA
  split at h
  ·rename_i aY xF hu
   split at h
   ·rename_i he aj
    cases h;simp only[Bool.and_eq_true]at aa;exact XJ av aA bb ax aY rfl xF rfl he rfl hu aa.1 aj aa.2
   ·cases h
  ·cases h
 ·rename_i aA
  split at h
  ·rename_i aY hu
   split at h
   ·split at h
    ·rename_i ah
     cases h;simp only[Bool.and_eq_true]at aa;exact XM av aA bb ax aY rfl hu aa.1 ah aa.2.1 aa.2.2.1 aa.2.2.2
    ·cases h
   ·split at h
    ·rename_i ah
     cases h;simp only[Bool.and_eq_true]at aa;exact XN av aA bb ax aY rfl hu aa.1 ah aa.2.1 aa.2.2.1 aa.2.2.2
    ·cases h
   ·split at h
    ·rename_i ah aH
     cases h;simp only[Bool.and_eq_true]at aa;exact XO av aA bb ax aY rfl hu aa.1 ah aa.2.1 aH aa.2.2.1 aa.2.2.2.1 aa.2.2.2.2.1 aa.2.2.2.2.2
    ·cases h
   ·cases h
  ·cases h
 ·rename_i aA
  split at h
  ·rename_i aY hu aH aw
   split at h
   ·rename_i he ad ji a6
    cases h
    have:=Nat.eq_of_beq_eq_true ji
    subst this;rw[Bool.and_eq_true,Bool.and_eq_true,Bool.and_eq_true]at aa;exact XX av aA bb a6 aY rfl he hu aa.1 aH aa.2.1 aw aa.2.2.1 ad aa.2.2.2
   ·cases h
  ·cases h
 ·rename_i aA
  split at h
  ·rename_i aY ah
   split at h
   ·rename_i ad
    split at h
    ·rename_i c6
     cases h;simp only[Bool.and_eq_true]at aa;exact XH av aA bb ax aY rfl ah aa.1 ad c6 aa.2
    ·cases h
   ·cases h
  ·rename_i aY ah
   split at h
   ·rename_i c6
    cases h;simp only[Bool.and_eq_true]at aa;exact XI av aA bb ax aY rfl ah aa.1 c6 aa.2
   ·cases h
  ·cases h
 ·rename_i aA
  split at h
  ·rename_i h0 aY ah aH
   have:=Nat.eq_of_beq_eq_true h0
   subst this
   split at h
   ·rename_i he ad
    split at h
    ·rename_i J U ag ay
     have:=Nat.eq_of_beq_eq_true J
     subst this;cases h;simp only[Bool.and_eq_true]at aa;exact Xd av aA bb (by rw[ax,ay]; rfl) aY rfl he ah aa.1 aH aa.2.1 ad U ag aa.2.2
    ·cases h
   ·cases h
  ·rename_i h0 aY ah aH
   have:=Nat.eq_of_beq_eq_true h0
   subst this
   split at h
   ·rename_i he
    split at h
    ·rename_i U ag
     cases h;simp only[Bool.and_eq_true]at aa;exact XQ av aA bb ax aY rfl he ah aa.1 aH aa.2.1 U ag aa.2.2.1 aa.2.2.2
    ·cases h
   ·cases h
  ·cases h
 ·rename_i aA
  split at h
  ·rename_i h0 aY ah aH
   have:=Nat.eq_of_beq_eq_true h0
   subst this
   split at h
   ·rename_i he ad
    split at h
    ·rename_i J U ag
     have:=Nat.eq_of_beq_eq_true J
     subst this;cases h;simp only[Bool.and_eq_true]at aa;exact Xo av aA bb ax aY rfl he ah aa.1 aH aa.2.1 ad U ag aa.2.2
    ·cases h
   ·cases h
  ·rename_i h0 aY ah aH
   have:=Nat.eq_of_beq_eq_true h0
   subst this
   split at h
   ·rename_i he ad
    split at h
    ·rename_i J U ay ag aO
     have:=Nat.eq_of_beq_eq_true J
     subst this;cases h;simp only[Bool.and_eq_true]at aa;exact XV av aA bb ax aY rfl he ah aa.1 aH aa.2.1 ad U ay ag aO aa.2.2
    ·cases h
   ·cases h
  ·cases h
 ·cases h
def tb(X:bq) (st:aM) (d:Nat):Op->List Nat
 | .call ⟨.builtin _,⟨[x,_]⟩,_⟩=>match bw X st.L x with
  | some (_,.c (.ak id))=>[d,id]
  | some (_,.c (.iv id _ _))=>[d,id]
  | _=>[d]
 | .slice _ u none (some _) (some _)=>match bw X st.L u with
  | some (_,.c (.ak id))=>[d,id]
  | _=>[d]
 | _=>[d]
def MI(X:bq) (st:aM):Op->List Nat
 | .store _ x _=>match bw X st.L x with
  | some (_,.c (.dV id _ _ _))=>[id]
  | _=>[]
 | _=>[]
theorem mT{sv:b5}:cU [d] st ⟨(d,sv) :: st.L,st.H⟩:=⟨b6.cons (V:=[]) (b6.refl _),(b6.refl _)⟩
theorem YN{c:Bool} {op:Op} (h:yq X n st d op=some (c,st')):cU (tb X st d op) st st':=by
 unfold yq at h
 split at h
 ·split at h
  ·cases h
   exact⟨b6.cons (jo _ _ _),b6.cons (V:=[]) (iG _ _ _)⟩
  ·cases h
 ·split at h
  ·split at h
   ·cases h; exact mT
   ·cases h
  ·split at h
   ·split at h
    ·split at h
     ·cases h; exact mT
     ·cases h
    ·cases h
   ·cases h
  ·cases h
 ·split at h
  ·split at h
   ·cases h; exact mT
   ·cases h
  ·cases h
 ·split at h
  ·split at h
   ·split at h
    ·cases h; exact mT
    ·cases h
   ·split at h
    ·cases h; exact mT
    ·cases h
   ·split at h
    ·cases h; exact mT
    ·cases h
   ·cases h
  ·cases h
 ·split at h
  ·rename_i aY hu aH aw
   split at h
   ·cases h
    unfold tb;simp only[hu];exact⟨b6.cons (jo _ _ _),(b6.cons (V:=[]) (iG _ _ _)).more fun q ao=>(e9 ao).2⟩
   ·cases h
  ·cases h
 ·split at h
  ·split at h
   ·split at h
    ·cases h; exact mT
    ·cases h
   ·cases h
  ·split at h
   ·cases h; exact mT
   ·cases h
  ·cases h
 ·split at h
  ·rename_i h0 aY ah aH
   split at h
   ·split at h
    ·cases h
     unfold tb;simp only[ah];exact⟨b6.cons (jo _ _ _),(b6.cons (V:=[]) (iG _ _ _)).more fun q ao=>(e9 ao).2⟩
    ·cases h
   ·cases h
  ·rename_i h0 aY ah aH
   split at h
   ·split at h
    ·cases h
     unfold tb;simp only[ah];exact⟨b6.cons (jo _ _ _),b6.cons (V:=[]) (iG _ _ _)⟩
    ·cases h
   ·cases h
  ·cases h
 ·split at h
  ·rename_i h0 aY ah aH
   split at h
   ·split at h
    ·cases h
     unfold tb;simp only[ah];exact⟨(b6.cons (V:=[]) (b6.refl _)).more fun q ao=>by
      obtain⟨J,_⟩:=e9 ao;unfold eA
      split
      ·rename_i e; exact absurd (Nat.eq_of_beq_eq_true e).symm J
      ·rfl,jI (by unfold eA; split<;>first | rfl | (exact iX _ _))⟩
    ·cases h
   ·cases h
  ·rename_i h0 aY ah aH
   split at h
   ·split at h
    ·cases h
     unfold tb;simp only[ah];exact⟨(b6.cons (V:=[]) (b6.refl _)).more fun q ao=>by
      obtain⟨J,_⟩:=e9 ao;unfold eA
      split
      ·rename_i e; exact absurd (Nat.eq_of_beq_eq_true e).symm J
      ·rfl,jI (by unfold eA; split<;>first | rfl | (exact iX _ _))⟩
    ·cases h
   ·cases h
  ·cases h
 ·cases h
def tc(X:bq) (n:Nat) (st:aM) (o:Oper):Option (Bool×aM×List Nat):=match o.guard with
 | none=>match o.dst with
  | some d=>match Nat.blt d n with
   | true=>match vq X st o.op with
    | some (c,bx)=>some (c,⟨(d,.a bx) :: st.L,st.H⟩,[d])
    | none=>match yq X n st d o.op with
     | some (c,st')=>some (c,st',tb X st d o.op)
     | none=>none
   | false=>none
  | none=>match yr X st o.op with
   | some (c,st')=>some (c,st',MI X st o.op)
   | none=>none
 | some _=>none
theorem hh.ny{bx:bh} (an:hh X st o bx) (bb:o.guard=none/\o.dst=some d) (ax:Nat.blt d n=true):gB X n o st ⟨(d,.a bx) :: st.L,st.H⟩:=by
 intro R W aD ks env B ai H a w al KK l bZ;obtain⟨v,J,U⟩:=an al;exact hv al.cb bb.1 bb.2 (dK ax) (U w fun _=>al.aU) fun aW aJ=>bZ aW w env H (al.set (sv:=.a bx) J aJ)
theorem Gj(av:X.a7.ok X.P) {c:Bool} {V:List Nat} (h:tc X n st o=some (c,st',V)) (aa:c=true):gB X n o st st':=by
 unfold tc at h
 split at h
 ·rename_i aV
  split at h
  ·rename_i d ax
   split at h
   ·rename_i ae
    split at h
    ·rename_i e
     cases h;exact hh.ny (fun al=>BP av e aa al) ⟨aV,ax⟩ ae
    ·split at h
     ·rename_i e
      cases h;exact YM av e aa ⟨aV,ax⟩ ae
     ·cases h
   ·cases h
  ·rename_i ax
   split at h
   ·rename_i e
    cases h;exact YK av e aa ⟨aV,ax⟩
   ·cases h
 ·cases h
theorem Gk{c:Bool} {V:List Nat} (h:tc X n st o=some (c,st',V)):cU V st st':=by
 unfold tc at h
 split at h
 ·split at h
  ·split at h
   ·split at h
    ·cases h; exact mT
    ·split at h
     ·rename_i e
      cases h;exact YN e
     ·cases h
   ·cases h
  ·split at h
   ·rename_i e
    cases h;obtain⟨id,J,t,x,y,g1,i,aA,U⟩:=YL e;unfold MI;rw[aA];simp only[U];exact J
   ·cases h
 ·cases h
end
end

section
set_option linter.unusedSectionVars false
theorem YO{P:Program} {a7:cj} (av:a7.ok P) (e:Bool) (m:Nat):∀ (k:Nat) (t:TypeId) (g:ba) (x:g.D) (w:World),g.key=true->kD P a7 k t g=true->(Instr.checkKey e (m+k) t (oa a7 t (g.cK x))).run P w=.ok () w:=by
 intro k
 induction k with
 | zero=>intro t g x w _ h; cases h
 | succ k bJ=>
  intro t g x w ab h;unfold kD at h;cases az:a7.find t with
  | none=>simp[az]at h
  | some bp=>
   rw[az]at h;dsimp only at h;have hq:=(cj.get av az).bs.1;unfold oa;rw[az];dsimp only
   split at h
   ·rename_i jk ax
    rw[ax]at hq ⊢;cases g with
    | int e0=>
     show(Instr.checkKey e (m+k+1) t (.int e0 x)).run P w=_;unfold Instr.checkKey
     simp[run_underlying hq,Result.andThen]
    | _=>cases h
   ·rename_i ax
    rw[ax]at hq ⊢;cases g with
    | bool=>
     show(Instr.checkKey e (m+k+1) t (.bool x)).run P w=_;unfold Instr.checkKey
     simp[run_underlying hq,Result.andThen]
    | _=>cases h
   ·rename_i ax
    rw[ax]at hq ⊢;cases g with
    | str=>
     show(Instr.checkKey e (m+k+1) t (fi x)).run P w=_;unfold Instr.checkKey
     simp[run_underlying hq,Result.andThen]
    | _=>cases h
   ·rename_i du ax
    rw[ax]at hq ⊢;simp only[Bool.and_eq_true,Bool.not_eq_true']at h;show(Instr.checkKey e (m+k+1) t (.agg (g.cK x).toArray)).run P w=_;rw[Instr.checkKey];simp only[Sem.run_bind,run_underlying hq,Result.andThen_ok];rw[<- Array.forIn_toList];have U:=h.2.2
    clear hq ax h
    obtain⟨xs,sS⟩:∃ xs:Array Value,xs=(g.cK x).toArray:=⟨_,rfl⟩
    rw[<- sS];have ah:xs.toList.drop 0=g.cK x:=by rw[sS]; simp
    clear sS
    obtain⟨off,MJ⟩:∃ off:Nat,off=0:=⟨_,rfl⟩
    rw[<- MJ]at U ah
    clear MJ
    generalize du.toList=L at U
    induction L generalizing off g with
    | nil=>simp[kf]at U
    | cons f L xY=>
     cases L with
     | nil=>
      have a8 : (decide (f.name ≠ "_") && (Nat.beq f.offset off && kD P a7 k f.type g)) = true := by
       cases g<;>exact U
      simp only[Bool.and_eq_true,decide_eq_true_eq]at a8;obtain⟨a6,bb,he⟩:=a8;have bb:=Nat.eq_of_beq_eq_true bb;simp only[List.forIn_cons,List.forIn_nil,Sem.run_bind,a6,ne_eq,not_false_eq_true,if_true,bb,u5 av ab he (r:=[]) (by rw[ah,List.append_nil]),Result.andThen_ok,bJ _ _ _ _ ab he,Sem.run_pure]
     | cons f2 L=>
      cases g with
      | pair g ag=>
       have a8 : (decide (f.name ≠ "_") && (Nat.beq f.offset off && (kD P a7 k f.type g && kf (kD P a7 k) (off + g.size) (f2 :: L) ag))) = true := U
       simp only[Bool.and_eq_true,decide_eq_true_eq]at a8;obtain⟨a6,bb,he,au⟩:=a8;have bb:=Nat.eq_of_beq_eq_true bb;simp only[ba.key,Bool.and_eq_true]at ab;have mQ:xs.toList.drop off=g.cK x.1++ag.cK x.2:=ah;have sP:=xY ag x.2 ab.2 (off+g.size) (by rw[<- List.drop_drop,mQ,<- u4 x.1 ab.1,List.drop_left]) au;rw[List.forIn_cons];simp only[Sem.run_bind,a6,ne_eq,not_false_eq_true,if_true,bb,u5 av ab.1 he mQ,Result.andThen_ok,bJ _ _ _ _ ab.1 he,Sem.run_pure];exact sP
      | int _=>simp[kf]at U
      | bool=>simp[kf]at U
      | str=>simp[kf]at U
      | ak _=>simp[kf]at U
      | gM _=>simp[kf]at U
      | unit=>simp[kf]at U
   ·cases h
structure nz(P:Program) (t:TypeId) (g:ba):Prop where
 eq:rk P t g
 vw:∀ (e:Bool) (x:g.D) (w:World),(Instr.checkKey e 10000 t (.agg (g.cK x).toArray)).run P w=.ok () w
 str:∃ du,P.underlying t=some (.struct du)
 pa:∃ a b,g=.pair a b
theorem nz.of{P:Program} {a7:cj} (av:a7.ok P) {t:TypeId} {bp:bo} {a b:ba} {du:Array Field} (ab:(ba.pair a b).key=true) (az:a7.find t=some bp) (ax:bp.bs.desc=.struct du) (h:kD P a7 12 t (.pair a b)=true) (aV:P.eqGuardType P.depth t=false):nz P t (.pair a b):=by
 refine⟨.of av ab az ax h aV,fun e x w=>?_,⟨du,?_⟩,⟨_,_,rfl⟩⟩
 ·have:=YO av e 9988 12 t (.pair a b) x w ab h
  unfold oa at this;rw[az]at this;dsimp only at this;rw[ax]at this;exact this
 ·have:=(cj.get av az).bs.1
  rw[ax]at this;exact this
section
variable {P:Program} {B:Nat->Prop} {w:World} {gk bO:ba} {t:TypeId}
theorem eQ.key{g:ba} (aV:∃ a b,g=.pair a b) (ab:g.key=true) {x:g.D} {v:Value} (h:eQ B w g x v):v=.agg (g.cK x).toArray:=by
 obtain⟨a,b,rfl⟩:=aV;obtain⟨vs,e,J⟩:=h;rw[e,bP.cK ab J]
theorem eQ.Gl{g:ba} (aV:∃ a b,g=.pair a b) (ab:g.key=true) (x:g.D):eQ B w g x (.agg (g.cK x).toArray):=by
 obtain⟨a,b,rfl⟩:=aV;exact⟨_,rfl,Gm ab x⟩
where Gm:∀ {g:ba} (ab:g.key=true) (x:g.D),bP B w g x (g.cK x)
 | .int _,_,_=>rfl
 | .bool,_,_=>rfl
 | .str,_,_=>rfl
 | .ak _,h,_=>by cases h
 | .gM _,h,_=>by cases h
 | .unit,h,_=>by cases h
 | .pair g h,ab,x=>by
  simp only[ba.key,Bool.and_eq_true]at ab;exact⟨_,_,rfl,Gm ab.1 x.1,Gm ab.2 x.2⟩
theorem MK{g:ba} {x y:g.D} (ab:g.key=true):g.beq x y=g.beq y x:=by
 cases J:g.beq x y with
 | true=>exact((beq_iff y x ab).2 ((beq_iff x y ab).1 J).symm).symm
 | false=>
  cases U:g.beq y x with
  | true=>rw[(beq_iff x y ab).2 ((beq_iff y x ab).1 U).symm]at J; cases J
  | false=>rfl
theorem BS(bZ:nz P t gk) (x y:gk.D) (b0:World):(Op.equal t (.agg (gk.cK x).toArray) (.agg (gk.cK y).toArray)).run P b0=.ok (gk.beq x y) b0:=bZ.eq.eq x y b0
theorem h7.ys(bZ:nz P t gk) {z:gk.D} (b0:World):∀ {l:List (gk.D×bO.D)} {es:List MapEntry} (i:Nat),h7 B w gk bO l es ->
  (hF gk bO l z=none/\(Instr.findAsking t (.agg (gk.cK z).toArray) es i).run P b0=.ok none b0)\/∃ x j v,hF gk bO l z=some x/\(Instr.findAsking t (.agg (gk.cK z).toArray) es i).run P b0=.ok (some (i+j,v)) b0/\eQ B w bO x v/\j < es.length
 | [],_,i,h=>by rw[show _=[] from h]; exact .inl ⟨rfl,rfl⟩
 | x :: l,_,i,⟨e,r,he,J,U,ag⟩=>by
  subst he;have ab:=eQ.key bZ.pa bZ.eq.key J;unfold Instr.findAsking hF;rw[ab];simp only[Sem.run_bind,BS bZ z x.1 b0,Result.andThen_ok];rw[MK (x:=z) (y:=x.1) bZ.eq.key];cases ae:gk.beq x.1 z with
  | true=>exact .inr ⟨x.2,0,e.val,rfl,rfl,U,by simp⟩
  | false=>
   rcases h7.ys bZ b0 (i+1) ag with⟨ay,aO⟩ | ⟨y,j,v,ay,aO,aK,bY⟩
   ·exact .inl ⟨ay,by simpa using aO⟩
   ·exact .inr ⟨y,j+1,v,ay,by simpa [Nat.add_assoc,Nat.add_comm 1 j] using aO,aK,by simpa using bY⟩
theorem h7.vz(bZ:nz P t gk) {z:gk.D} {gQ:bO.D} {vv:Value} (b0:World) (aw:eQ B w bO gQ vv):∀ {l:List (gk.D×bO.D)} {es:List MapEntry} (i:Nat),h7 B w gk bO l es ->
  ((Instr.findAsking t (.agg (gk.cK z).toArray) es i).run P b0=.ok none b0/\ib gk bO l z gQ=l++[(z,gQ)]) \/
  ∃ j v e,(Instr.findAsking t (.agg (gk.cK z).toArray) es i).run P b0=.ok (some (i+j,v)) b0/\es[j]?=some e/\e.key=.agg (gk.cK z).toArray/\h7 B w gk bO (ib gk bO l z gQ) (es.modify j fun e=>{ e with key:=.agg (gk.cK z).toArray,val:=vv })
 | [],_,i,h=>by rw[show _=[] from h]; exact .inl ⟨rfl,rfl⟩
 | x :: l,_,i,⟨e,r,he,J,U,ag⟩=>by
  subst he;have ab:=eQ.key bZ.pa bZ.eq.key J;unfold Instr.findAsking ib;rw[ab];simp only[Sem.run_bind,BS bZ z x.1 b0,Result.andThen_ok];rw[MK (x:=z) (y:=x.1) bZ.eq.key];cases ae:gk.beq x.1 z with
  | true=>
   have bk:=(beq_iff x.1 z bZ.eq.key).1 ae;refine .inr ⟨0,e.val,e,rfl,rfl,by rw[ab,bk],{ e with key:=.agg (gk.cK z).toArray,val:=vv },r,rfl,?_,aw,ag⟩;show eQ B w gk x.1 (.agg (gk.cK z).toArray);rw[bk];exact eQ.Gl bZ.pa bZ.eq.key z
  | false=>
   rcases h7.vz bZ b0 aw (i+1) ag with⟨ay,aO⟩ | ⟨j,v,cu,ay,aO,aK,bY⟩
   ·exact .inl ⟨by simpa using ay,by show x :: ib gk bO l z gQ=_; rw[aO]; rfl⟩
   ·exact .inr ⟨j+1,v,cu,by simpa [Nat.add_assoc,Nat.add_comm 1 j] using ay,by simpa using aO,aK,e,_,rfl,J,U,bY⟩
theorem pb{du:Array Field} (hu:P.underlying t=some (.struct du)) {k:Value} {es:List MapEntry} {r:Option (Nat×Value)} {b0:World} (h:(Instr.findAsking t k es 0).run P b0=.ok r b0):(Instr.findKey t k es).run P b0=.ok r b0:=by
 unfold Instr.findKey;simp only[Sem.run_bind,run_underlying hu,Result.andThen_ok];cases es with
 | nil=>exact h
 | cons e es=>
  have:Instr.findNow (.struct du) k (e :: es) 0=none:=by
   unfold Instr.findNow Instr.sameNow
   rfl
  rw[this];exact h
theorem BT:∀ {g:ba},g.key=true->∀ (x:g.D) (n:Nat),∀ v∈g.cK x,Instr.sameBits n v v=true
 | .int _,_,x,n,v,aw=>by
  rw[List.mem_singleton.1 aw];cases n<;>simp[Instr.sameBits]
 | .bool,_,x,n,v,aw=>by
  rw[List.mem_singleton.1 aw];cases n<;>simp[Instr.sameBits]
 | .str,_,x,n,v,aw=>by
  rw[List.mem_singleton.1 aw];have ae:(List.toArray (show List UInt8 from x) == List.toArray (show List UInt8 from x))=true:=beq_self_eq_true _;cases n with
  | zero=>exact ae
  | succ n=>exact ae
 | .ak _,h,_,_,_,_=>by cases h
 | .gM _,h,_,_,_,_=>by cases h
 | .unit,h,_,_,_,_=>by cases h
 | .pair g h,ab,x,n,v,aw=>by
  simp only[ba.key,Bool.and_eq_true]at ab
  rcases List.mem_append.1 aw with aw | aw
  ·exact BT ab.1 x.1 n v aw
  ·exact BT ab.2 x.2 n v aw
theorem ML{vs:List Value} (h:∀ n,∀ v∈vs,Instr.sameBits n v v=true):Instr.sameBits 10000 (.agg vs.toArray) (.agg vs.toArray)=true:=by
 rw[show(10000:Nat)=9999+1 from rfl];unfold Instr.sameBits;simp only[beq_self_eq_true,Bool.true_and,List.all_eq_true];rintro⟨a,b⟩ td
 have:a=b/\a∈vs:=by
  clear h
  induction vs with
  | nil=>cases td
  | cons v vs bJ=>
   simp only[List.zip_cons_cons,List.mem_cons,Prod.mk.injEq]at td
   rcases td with⟨rfl,rfl⟩ | td
   ·exact⟨rfl,List.mem_cons_self⟩
   ·obtain⟨c8,dL⟩:=bJ td
    exact⟨c8,List.mem_cons_of_mem _ dL⟩
 obtain⟨rfl,hm⟩:=this;exact h _ _ hm
end
section
variable {X:bq} {n:Nat} {st:aM} {o:Oper} {d:Nat}
theorem YP(av:X.a7.ok X.P) {t iZ ki:TypeId} {bp eK:bo} {gk bO:ba} {u x:Operand} {id:Nat} {l:List (gk.D×bO.D)} {qi:Option (List MapEntry×Nat)} {z:gk.D} {g c:Bool} {fx bx:bh} (bZ:nz X.P iZ gk) (aA:o.op=.lookup t u x false) (bb:o.guard=none/\o.dst=some d) (ax:Nat.blt d n=true)
  (aY:X.a7.find t=some bp) (dv:bp.bs.desc=.map iZ ki) (he:X.a7.find ki=some eK) (bk:∀ B w,eQ B w bO bO.zero eK.bs.zero)
  (hu:bw X st.L u=some (true,.c (.eP id))) (ah:bw X st.L x=some (g,fx)) (aV:g=true) (lz:dec gk fx.cells=some (c,z,[])) (aa:c=true) (mo:lT gk fx=true) (b8:aZ st.H id=some (.mp gk bO l qi)) (o6:sO bO ((hF gk bO l z).getD bO.zero)=some bx)
  : gB X n o st ⟨(d,.a bx) :: st.L,st.H⟩:=by
 intro R W aD ks env B ai H a w al KK iW ed;obtain⟨jj,J,b,ae,rfl⟩:=al.aE hu rfl;obtain⟨vx,U,ag⟩:=al.aE ah aV;have hl:=eQ.key bZ.pa bZ.eq.key (eQ.u2 lz aa mo ag);rw[hl]at U;obtain⟨dz,K,⟨b',es,clock,eX,rfl,lX,di,_⟩,fp⟩:=al.heap.gx b8;rw[ae]at eX;cases eX;have kF:=(al.aU.ok _ fp.more.mem).2;have aC:=(cj.get av aY).bs.1;rw[dv]at aC;obtain⟨du,cq⟩:=bZ.str;have gh:=bC.sf (cj.get av he).bs w;have pc:∃ v,(Instr.lookup t (.map (some b)) (.agg (gk.cK z).toArray) false).run X.P w=.ok v w/\eQ B ai bO ((hF gk bO l z).getD bO.zero) v:=by
  unfold Instr.lookup;simp only[Sem.run_bind,run_underlying aC,Result.andThen_ok,MapKept.run_getObj_map kF,bZ.vw,Sem.run_pure]
  rcases lX.ys bZ w (z:=z) 0 with⟨ay,aO⟩ | ⟨y,j,v,ay,aO,aK,_⟩
  ·refine⟨eK.bs.zero,?_,by rw[ay]; exact bk _ _⟩
   simp[pb cq aO,gh,Result.andThen]
  ·refine⟨v,?_,by rw[ay]; exact aK⟩
   simp[pb cq aO,Result.andThen]
 obtain⟨v,dW,o7⟩:=pc;refine(hv al.cb bb.1 bb.2 (dK ax) (v:=v) (w':=w) ?_ fun aW aJ=>?_)
 ·simp[execOp,aA,al.cb.aE J,al.cb.aE U,dW]
 ·exact ed aW _ env H (al.set (sv:=.a bx) (o7.bx o6) aJ)
theorem YQ(av:X.a7.ok X.P) {t iZ ki:TypeId} {bp:bo} {gk bO:ba} {u x y:Operand} {id:Nat} {l:List (gk.D×bO.D)} {qi:Option (List MapEntry×Nat)} {z:gk.D} {g g2 c cR:Bool} {fx eZ:bh} {gQ:bO.D} (bZ:nz X.P iZ gk) (aA:o.op=.mapUpdate t u x y) (bb:o.guard=none/\o.dst=none)
  (aY:X.a7.find t=some bp) (dv:bp.bs.desc=.map iZ ki)
  (hu:bw X st.L u=some (true,.c (.eP id))) (ah:bw X st.L x=some (g,fx)) (aV:g=true) (lz:dec gk fx.cells=some (c,z,[])) (aa:c=true) (mo:lT gk fx=true) (aH:bw X st.L y=some (g2,eZ)) (dP:g2=true) (b8:aZ st.H id=some (.mp gk bO l qi))
  (n8:dec bO eZ.cells=some (cR,gQ,[])) (jg:cR=true) (ea:lT bO eZ=true)
  : gB X n o st ⟨st.L,eO id (.mp gk bO (ib gk bO l z gQ) none) st.H⟩:=by
 intro R W aD ks env B ai H a w al KK iW ed;obtain⟨jj,J,b,ae,rfl⟩:=al.aE hu rfl;obtain⟨vx,U,ag⟩:=al.aE ah aV;have hl:=eQ.key bZ.pa bZ.eq.key (eQ.u2 lz aa mo ag);rw[hl]at U;obtain⟨vy,ay,aO⟩:=al.aE aH dP;have o7:eQ B ai bO gQ vy:=eQ.u2 n8 jg ea aO;obtain⟨dz,K,⟨b',es,clock,eX,rfl,lX,di,_⟩,fp,gN⟩:=al.mK (b':=.mp gk bO (ib gk bO l z gQ) none) b8;rw[ae]at eX;cases eX;have kF:=(al.aU.ok _ fp.mem).2;have aC:=(cj.get av aY).bs.1;rw[dv]at aC;obtain⟨du,cq⟩:=bZ.str;have pc:∃ vA yt,(Instr.mapUpdate t (.map (some b)) (.agg (gk.cK z).toArray) vy).run X.P w=.ok () { w with heap:=w.heap.setIfInBounds b (.map vA.toArray yt) }/\h7 B ai gk bO (ib gk bO l z gQ) vA/\Stamped vA yt:=by
  unfold Instr.mapUpdate;simp only[Sem.run_bind,run_underlying aC,Result.andThen_ok,MapKept.run_getObj_map kF,bZ.vw]
  rcases lX.vz bZ w o7 (z:=z) 0 with⟨aK,bY⟩ | ⟨j,v,e,aK,bY,c3,hB⟩
  ·refine⟨es++[MapEntry.mk (.agg (gk.cK z).toArray) vy clock],clock+1,?_,?_,?_⟩
   ·simp only[pb cq aK,Result.andThen_ok,MapKept.run_setObj_map _ kF]
    simp
   ·rw[bY]
    exact h7.snoc (gk:=gk) (x:=(z,gQ)) (e:=MapEntry.mk (.agg (gk.cK z).toArray) vy clock) (eQ.Gl bZ.pa bZ.eq.key z) o7 lX
   ·refine⟨?_,?_⟩
    ·rw[List.map_append,List.pairwise_append]
     exact⟨di.1,by simp,fun p an q ao=>by simp at ao; subst ao; exact di.2 p an⟩
    ·intro p an
     rw[List.map_append,List.mem_append]at an
     rcases an with an | an
     ·exact Nat.lt_succ_of_lt (di.2 p an)
     ·simp at an; omega
  ·refine⟨es.modify j fun e=>{ e with key:=.agg (gk.cK z).toArray,val:=vy },clock,?_,hB,?_⟩
   ·rw[Nat.zero_add]at aK
    have l8:(Instr.keyThatStays (((es.toArray[j]?).map (·.key)).getD (.agg (gk.cK z).toArray)) (.agg (gk.cK z).toArray)).run X.P w=.ok (.agg (gk.cK z).toArray) w:=by
     have:((es.toArray[j]?).map (·.key)).getD (.agg (gk.cK z).toArray)=.agg (gk.cK z).toArray:=by simp[bY,c3]
     rw[this];unfold Instr.keyThatStays;rw[ML fun n=>BT bZ.eq.key z n]
     rfl
    simp only[pb cq aK,Result.andThen_ok,Sem.run_bind,l8,MapKept.run_setObj_map _ kF]
    simp
   ·rw[Stamped,Bp (f:=fun e=>{ e with key:=.agg (gk.cK z).toArray,val:=vy }) (fun _=>rfl)]
    exact di
 obtain⟨vA,yt,dW,YR,YS⟩:=pc;refine(Ea al.cb bb.1 bb.2 (w':={ w with heap:=w.heap.setIfInBounds b (.map vA.toArray yt) }) ?_ fun aW aJ=>?_)
 ·simp[execOp,aA,al.cb.aE J,al.cb.aE U,al.cb.aE ay,dW]
 ·obtain⟨H',hr⟩:=gN _ aW _ ⟨b,vA,yt,ae,rfl,YR,YS,fun _ h=>by cases h⟩ (al.aU.xc fp) aJ
  exact ed aW _ env H' (hr)
end
end

section
set_option linter.unusedSectionVars false
section
variable {X:bq} {R:Nat->Prop} {W:World} {aD:eT} {n:Nat} {ks:List Nat} {env:Nat->Loc} {B:Nat->Prop} {ai:World} {H:List bc} {st:aM} {a aW:Act} {w:World} {d:Nat} {o:Oper}
theorem YT(av:X.a7.ok X.P) {t T T':TypeId} {bp:bo} {x:Operand} {id i:Nat} {g:ba} {l:List (Bool×List g.D)} {cap:Option Nat} {g1:Bool} (aA:o.op=.load t x) (bb:o.guard=none/\o.dst=some d) (ax:Nat.blt d n=true)
  (aY:X.a7.find t=some bp) (ns:jO bp.bs.desc=false) (ah:bw X st.L x=some (g1,.c (.dV id 1 i 0))) (dw:g1=true) (b8:aZ st.H id=some (.bQ T T' g l cap none)) (cG:Nat.beq d id=false)
  (hi:decide (i < l.length)=true) (cS:(l.getD i (false,[])).1=true)
  : gB X n o st ⟨(d,.c (.ak d)) :: fe d .dead st.L,(d,.row T' g (l.getD i (false,[])).2 none) :: eO id (.bQ T T' g l cap (some (i,some d))) (dG d .dead st.H)⟩:=by
 intro R W aD ks env B ai H a w al KK iW ed;have aL:=of_decide_eq_true hi;have qg:id≠d:=fun e=>ne_of_beq_false cG e.symm
 obtain⟨vx,J,b,c,m,he,rfl⟩:=al.aE ah dw;obtain⟨c0,BL,⟨A,k,bn,cM,I,cV,rfl,jZ,mR,fq⟩,mf⟩:=al.heap.gx b8;rw[he]at cV;cases cV;have qh:cM=bn:=mR;subst qh;obtain⟨v,eJ,aw,ye,p3⟩:=dA.hole (show dA B ai T' g l cM I from jZ) aL
 rcases p3 with⟨_,c7,e0,gy,rfl,jQ,pT⟩ | ⟨yf,_⟩
 ·have yd:=dA.length (show dA B ai T' g l cM I from jZ)
  have jy:w.cell? ⟨b,i * 1+0,none⟩=some (.slice c7 (l.getD i (false,[])).2.length e0):=by
   have e7:ey w (fun k=>R k\/B k) T 1 (some ⟨b,0,none⟩) c l.length cM:=(al.aU.ok _ mf.more.mem).1 _ List.mem_cons_self;rw[e7.cells rfl _ (by omega)]
   simpa using aw
  refine hv al.cb bb.1 bb.2 (dK ax) (v:=.slice c7 (l.getD i (false,[])).2.length e0) (w':=w) (sl al.cb aA (cj.get av aY).bs ns J jy) fun aW aJ=>?_
  obtain⟨H2,fT,eS⟩:=al.Mg ax (.row c7 e0 (l.getD i (false,[])).2.length);obtain⟨ft,Yd,fE,⟨jq,jr,rz,rfl⟩,mO⟩:=eS.heap.put (yc (z:=.dead) qg b8);subst rz;obtain⟨FZ,jk,s8,mS,s9,lu,rfl,_⟩:=fE;rw[h4 id qg,he]at lu;cases lu;have lS:=al.aU.same (c:=.tree (⟨some ⟨b,0,none⟩,c,T,1,l.length,mS⟩ :: s9)) (List.mem_append_left _ (fT.subset (by simp))) mf.more.mem (b:=b) ⟨_,List.mem_cons_self,rfl⟩ ⟨_,List.mem_cons_self,rfl⟩;simp only[bc.tree.injEq,List.cons.injEq,fY.mk.injEq,true_and,and_true]at lS;obtain⟨rfl,rfl⟩:=lS
  let p:fY:=⟨c7,e0,T',g.size,(l.getD i (false,[])).2.length,gy⟩
  let ek:fY:=⟨some ⟨b,0,none⟩,c,T,1,l.length,mS⟩
  have ea:=eS.aU;rw[List.append_assoc,List.cons_append]at ea;have hx:bK (fun k=>R k\/B k) ai (jq++.tree (p :: ek :: eJ) :: (jr++ks.map dC)) w:=ea.xa ⟨p :: ek :: eJ,(List.Perm.cons _ pT).trans (List.Perm.swap _ _ _),List.Sublist.refl _⟩;have lH:=hx.AB;refine ed aW w _ (p.dz :: (jq++.tree (ek :: eJ) :: jr)) ⟨aJ.size,aJ.defs,fun s u aj=>?_,⟨_,_,rfl,⟨c7,e0,gy,e8,rfl,jQ,fun _ h=>by cases h⟩,mO _ _ ⟨_,c,mS.set i (.slice none 0 0),mS,eJ,by rw[h4 id qg]; exact he,rfl,ye,⟨aL,.slice c7 (l.getD i (false,[])).2.length e0,?_,fun ga mn=>by cases mn; exact⟨c7,e0,_,e8,rfl⟩⟩,fq⟩⟩,by rw[List.cons_append,List.append_assoc,List.cons_append]; exact lH,eS.sub,eS.new,eS.dt,eS.base,eS.dX⟩
  ·rw[cn]at aj
   split at aj
   ·rename_i e; subst e; cases aj; exact⟨_,aJ.this,_,_,_,e8,rfl⟩
   ·rename_i e
    obtain⟨eF,ag,ay⟩:=eS.has s u aj;exact⟨eF,aJ.other e ag,ay⟩
  ·rw[List.set_set]
   exact(List.Mf aw).symm
 ·rw[yf]at cS; cases cS
theorem MM(av:X.a7.ok X.P) {t T T':TypeId} {bp:bo} {x:Operand} {id i:Nat} {g:ba} {l:List (Bool×List g.D)} {cap:Option Nat} {g1:Bool} (aA:o.op=.load t x)
  (aY:X.a7.find t=some bp) (ns:jO bp.bs.desc=false) (ah:bw X st.L x=some (g1,.c (.dV id 1 i 0))) (dw:g1=true) (b8:aZ st.H id=some (.bQ T T' g l cap none)) (hi:decide (i < l.length)=true) (cS:(!(l.getD i (false,[])).1)=true):hh X st o (.c (.bd g (l.getD i (false,[])).2 none)):=by
 intro R W aD n ks env B ai H a b0 al;have aL:=of_decide_eq_true hi;obtain⟨vx,J,b,c,m,he,rfl⟩:=al.aE ah dw;obtain⟨dz,K,⟨A,k,bn,cM,I,cV,rfl,jZ,mR,_⟩,az⟩:=al.heap.gx b8;rw[he]at cV;cases cV;have qh:cM=bn:=mR;subst qh;obtain⟨v,eJ,aw,_,p3⟩:=dA.hole (show dA B ai T' g l cM I from jZ) aL;have yd:=dA.length (show dA B ai T' g l cM I from jZ)
 rcases p3 with⟨yf,_⟩ | ⟨_,_,c7,cR,gy,a1,c8,dL,fA,hg⟩
 ·rw[yf]at cS; cases cS
 ·simp only[List.cons.injEq,and_true]at a1
  subst a1;refine⟨_,⟨c7,cR,gy,rfl,c8,dL,(fun _ h=>by cases h),fA,hg⟩,fun w ea=>?_⟩;have e7:ey w (fun k=>R k\/B k) T 1 (some ⟨b,0,none⟩) c l.length cM:=((ea (by rw[aA]; rfl)).ok _ az.more.mem).1 _ List.mem_cons_self;have jy:w.cell? ⟨b,i * 1+0,none⟩=some (.slice c7 (l.getD i (false,[])).2.length cR):=by
   rw[e7.cells rfl _ (by omega)]
   simpa using aw
  exact sl al.cb aA (cj.get av aY).bs ns J jy
theorem YU(T':TypeId) (Gn:ba) (av:X.a7.ok X.P) {t e:TypeId} {bp eK:bo} {x y:Operand} {k k':IntKind} {hT hn:Int} {g1 g2:Bool} {ka:ba} (aA:o.op=.makeSlice t x y) (bb:o.guard=none/\o.dst=some d) (ax:Nat.blt d n=true)
  (aY:X.a7.find t=some bp) (dv:bp.bs.desc=.slice e) (he:X.a7.find e=some eK) (pI:eK.g=some (.ak ka)) (ah:bw X st.L x=some (g1,.c (.val (.int k hT)))) (dw:g1=true) (aH:bw X st.L y=some (g2,.c (.val (.int k' hn)))) (dP:g2=true)
  (aa:(decide (0<=hT)&&decide (hT<=hn)&&eo eK.bs.bytes hn)=true)
  : gB X n o st ⟨(d,.c (.ak d)) :: fe d .dead st.L,(d,.bQ e T' Gn (List.replicate hT.toNat (true,[])) (some hn.toNat) none) :: dG d .dead st.H⟩:=by
 intro R W aD ks env B ai H a w al KK iW ed;obtain⟨vx,hl,lp⟩:=al.aE ah dw;obtain⟨vy,fN,ky⟩:=al.aE aH dP;simp only[Bool.and_eq_true,decide_eq_true_eq]at aa;obtain⟨⟨pM,so⟩,nW⟩:=aa;obtain⟨nW,Ti⟩:=(kP (by omega)).1 nW;rw[show vx=_ from lp]at hl;rw[show vy=_ from ky]at fN;obtain⟨J,U,ag⟩:=(cj.get av he).g _ pI;have aC:=(cj.get av aY).bs.1;rw[dv]at aC;have fu:eK.bs.size=1:=J.symm;have nb:eK.bs.zero.cells.toList=[.slice none 0 0]:=U;obtain⟨dW,bX⟩:=KY al.aU aC (cj.get av he).bs (z:=[.slice none 0 0]) (by rw[<- nb]) (by rw[fu]; rfl) (by omega) (k:=k) (k':=k') (m:=hT.toNat) (c:=hn.toNat) (by omega) (by
  have:((eK.bs.bytes * hn.toNat:Nat):Int)=(eK.bs.bytes:Int) * hn:=by rw[Int.natCast_mul,Int.toNat_of_nonneg (by omega)]
  omega) (by omega)
 rw[Int.toNat_of_nonneg pM,Int.toNat_of_nonneg (by omega)]at dW;refine hv al.cb bb.1 bb.2 (dK ax) (v:=.slice (some ⟨w.heap.size,0,none⟩) hT.toNat hn.toNat) (w':=w.alloc (.cells (eh [.slice none 0 0] hn.toNat).toArray e)) (by simp[execOp,aA,al.cb.aE hl,al.cb.aE fN,dW]) fun aW aJ=>?_
 obtain⟨I,gI,a6⟩:=dA.Me (B:=B) (w:=ai) (T':=T') (g:=Gn) hT.toNat;have YV:eh [Value.slice none 0 0] hT.toNat=List.replicate hT.toNat (.slice none 0 0):=by
  unfold eh
  induction hT.toNat with
  | zero=>rfl
  | succ k bJ=>rw[List.replicate_succ,List.flatten_cons,bJ,List.replicate_succ]; rfl
 rw[fu,YV]at bX;have aj:=bK.Mj (bK.Mi (X:=[]) (r:=⟨some ⟨w.heap.size,0,none⟩,hn.toNat,e,1,hT.toNat,List.replicate hT.toNat (.slice none 0 0)⟩) bX) fun s aj=>⟨_,_,a6 s aj⟩
 obtain⟨H',_,c3⟩:=al.nZ (d:=d) ax (l:=.row (some ⟨w.heap.size,0,none⟩) hn.toNat hT.toNat) (blk:=.bQ e T' Gn (List.replicate hT.toNat (true,[])) (some hn.toNat) none) (sv:=.c (.ak d)) aj ⟨_,hn.toNat,_,_,I,by rw[List.length_replicate]; exact e8,by rw[List.length_replicate],gI,rfl,fun q ao=>by cases ao; rfl⟩ ⟨_,_,_,e8,rfl⟩ aJ;exact ed _ _ _ _ c3
end
inductive rD where
 | yu
 | Gp
 | st
 | mk
 | Gq (gk bO:ba)
 | Gr
 | YW
 | MN
def vB(X:bq) (t:TypeId):ba->Bool
 | .pair a b=>vp X t (.pair a b)
 | _=>false
theorem yv{X:bq} (av:X.a7.ok X.P) {t:TypeId} {g:ba} (h:vB X t g=true):nz X.P t g:=by
 cases g with
 | pair a b=>
  have U:vp X t (.pair a b)=true:=h;unfold vp at U
  split at U
  ·rename_i az
   simp only[Bool.and_eq_true,Bool.not_eq_true']at U;exact nz.of av U.1 az rfl U.2.1 U.2.2
  ·cases U
 | _=>cases h
def yw:ba->Value->Bool
 | .int k,.int k' z=>decide (k'=k)&&decide (z=0)
 | .bool,.bool b=>!b
 | _,_=>false
theorem MO{g:ba} {v:Value} (h:yw g v=true):∀ B w,eQ B w g g.zero v:=by
 intro B w;cases g with
 | int k=>
  cases v with
  | int k' z=>
   unfold yw at h;rw[Bool.and_eq_true,decide_eq_true_eq,decide_eq_true_eq]at h;rw[h.1,h.2];exact(rfl:[Value.int k 0]=[Value.int k 0])
  | _=>cases h
 | bool=>
  cases v with
  | bool b=>
   cases b with
   | true=>cases h
   | false=>exact(rfl:[Value.bool false]=[Value.bool false])
  | _=>cases h
 | _=>cases h
def yx(X:bq) (n:Nat) (st:aM):rD->Oper->Option (Bool×aM×List Nat)
 | .Gq gk bO,⟨some d,.makeMap _ none,_,_,_,none⟩=>match Nat.blt d n with
  | true=>some (true,⟨(d,.c (.eP d)) :: fe d .dead st.L,(d,.mp gk bO [] none) :: dG d .dead st.H⟩,[d])
  | false=>none
 | .Gr,⟨some d,.lookup t u x false,_,_,_,none⟩=>match Nat.blt d n,X.a7.find t,bw X st.L u,bw X st.L x with
  | true,some ⟨⟨.map iZ ki,_,_,_⟩,_⟩,some (true,.c (.eP id)),some (g,fx)=>match aZ st.H id,X.a7.find ki with
   | some (.mp gk bO l _),some eK=>match dec gk fx.cells,vB X iZ gk&&(lT gk fx&&yw bO eK.bs.zero)with
    | some (c,z,[]),true=>match sO bO ((hF gk bO l z).getD bO.zero)with
     | some bx=>some (g&&c,⟨(d,.a bx) :: st.L,st.H⟩,[d])
     | none=>none
    | _,_=>none
   | _,_=>none
  | _,_,_,_=>none
 | .YW,⟨none,.mapUpdate t u x y,_,_,_,none⟩=>match X.a7.find t,bw X st.L u,bw X st.L x,bw X st.L y with
  | some ⟨⟨.map iZ _,_,_,_⟩,_⟩,some (true,.c (.eP id)),some (g,fx),some (g2,eZ)=>match aZ st.H id with
   | some (.mp gk bO l _)=>match dec gk fx.cells,dec bO eZ.cells,vB X iZ gk&&(lT gk fx&&lT bO eZ)with
    | some (c,z,[]),some (cR,gQ,[]),true=>some (g&&(c&&(g2&&cR)),⟨st.L,eO id (.mp gk bO (ib gk bO l z gQ) none) st.H⟩,[id])
    | _,_,_=>none
   | _=>none
  | _,_,_,_=>none
 | _,_=>none
section
variable {X:bq} {n:Nat} {st st':aM} {o:Oper}
theorem YX(av:X.a7.ok X.P) {m:rD} {c:Bool} {V:List Nat} (h:yx X n st m o=some (c,st',V)) (aa:c=true):gB X n o st st':=by
 unfold yx at h
 split at h
 ·split at h
  ·rename_i ax
   cases h;exact Xy _ _ rfl ⟨rfl,rfl⟩ ax
  ·cases h
 ·split at h
  ·rename_i ax aY hu ah
   split at h
   ·rename_i ad he
    split at h
    ·rename_i lz ab
     simp only[Bool.and_eq_true]at ab
     split at h
     ·rename_i o6
      cases h;rw[Bool.and_eq_true]at aa;exact YP av (yv av ab.1) rfl ⟨rfl,rfl⟩ ax aY rfl he (MO ab.2.2) hu ah aa.1 lz aa.2 ab.2.1 ad o6
     ·cases h
    ·cases h
   ·cases h
  ·cases h
 ·split at h
  ·rename_i aY hu ah aH
   split at h
   ·rename_i ad
    split at h
    ·rename_i lz te ab
     simp only[Bool.and_eq_true]at ab;cases h;simp only[Bool.and_eq_true]at aa;exact YQ av (yv av ab.1) rfl ⟨rfl,rfl⟩ aY rfl hu ah aa.1 lz aa.2.1 ab.2.1 aH aa.2.2.1 ad te aa.2.2.2 ab.2.2
    ·cases h
   ·cases h
  ·cases h
 ·cases h
theorem YY{m:rD} {c:Bool} {V:List Nat} (h:yx X n st m o=some (c,st',V)):cU V st st':=by
 unfold yx at h
 split at h
 ·split at h
  ·cases h
   exact⟨b6.cons (jo _ _ _),b6.cons (V:=[]) (iG _ _ _)⟩
  ·cases h
 ·split at h
  ·split at h
   ·split at h
    ·split at h
     ·cases h; exact mT
     ·cases h
    ·cases h
   ·cases h
  ·cases h
 ·split at h
  ·split at h
   ·split at h
    ·cases h; exact⟨b6.refl _,jI (iX _ _)⟩
    ·cases h
   ·cases h
  ·cases h
 ·cases h
end
section
variable {X:bq} {n:Nat} {st st':aM} {d:Nat} {o:Oper}
def vC(X:bq) (n:Nat) (st:aM):rD->Oper->Option (Bool×aM×List Nat)
 | .yu,⟨some d,.load t x,_,_,_,none⟩=>match Nat.blt d n,X.a7.find t,bw X st.L x with
  | true,some bp,some (g1,.c (.dV id 1 i 0))=>match jO bp.bs.desc,Nat.beq d id,aZ st.H id with
   | false,false,some (.bQ T T' g l cap none)=>some (g1&&(decide (i < l.length)&&(l.getD i (false,[])).1),⟨(d,.c (.ak d)) :: fe d .dead st.L,(d,.row T' g (l.getD i (false,[])).2 none) :: eO id (.bQ T T' g l cap (some (i,some d))) (dG d .dead st.H)⟩,[d,id])
   | false,_,some (.bQ _ _ _ _ _ (some (j,some d2)))=>some (g1&&decide (i=j),⟨(d,.c (.ak d2)) :: st.L,st.H⟩,[d])
   | _,_,_=>none
  | _,_,_=>none
 | .Gp,⟨some d,.load t x,_,_,_,none⟩=>match Nat.blt d n,X.a7.find t,bw X st.L x with
  | true,some bp,some (g1,.c (.dV id 1 i 0))=>match jO bp.bs.desc,aZ st.H id with
   | false,some (.bQ _ _ g l _ none)=>some (g1&&(decide (i < l.length)&&!(l.getD i (false,[])).1),⟨(d,.c (.bd g (l.getD i (false,[])).2 none)) :: st.L,st.H⟩,[d])
   | _,_=>none
  | _,_,_=>none
 | .st,⟨none,.store t x y,_,_,_,none⟩=>match X.a7.find t,bw X st.L x,bw X st.L y with
  | some bp,some (g1,.c (.dV id 1 i 0)),some (g2,.c (.ak d))=>match Nat.beq bp.bs.size 1,aZ st.H id with
   | true,some (.bQ T T' g l cap h)=>some (g1&&(g2&&(s7 h i&&decide (i < l.length))),⟨st.L,eO id (.bQ T T' g l cap (some (i,some d))) st.H⟩,[id])
   | _,_=>none
  | some bp,some (g1,.c (.dV id 1 i 0)),some (g2,.c (.bd cr ct _))=>match Nat.beq bp.bs.size 1,aZ st.H id with
   | true,some (.bQ T T' g l cap h)=>match decEq cr g with
    | isTrue e=>some (g1&&(g2&&(s7 h i&&decide (i < l.length))),⟨st.L,eO id (.bQ T T' g (l.set i (false,nt e ct)) cap none) st.H⟩,[id])
    | isFalse _=>none
   | _,_=>none
  | _,_,_=>none
 | .mk,⟨some d,.makeSlice t x y,_,_,_,none⟩=>match Nat.blt d n,X.a7.find t,bw X st.L x,bw X st.L y with
  | true,some ⟨⟨.slice e,_,_,_⟩,_⟩,some (g1,.c (.val (.int _ hT))),some (g2,.c (.val (.int _ hn)))=>match X.a7.find e with
   | some ⟨⟨.slice T',_,gW,_⟩,some (.ak g)⟩=>some (g1&&(g2&&(decide (0<=hT)&&decide (hT<=hn)&&eo gW hn)),⟨(d,.c (.ak d)) :: fe d .dead st.L,(d,.bQ e T' g (List.replicate hT.toNat (true,[])) (some hn.toNat) none) :: dG d .dead st.H⟩,[d])
   | _=>none
  | _,_,_,_=>none
 | .MN,⟨some d,.binOp .add _ u v _,_,_,_,none⟩=>match Nat.blt d n,bw X st.L u,bw X st.L v with
  | true,some (g1,.c (.val (.int .i64 x))),some (g2,.c (.val (.int .i64 y)))=>some (g1&&g2,⟨(d,.c (.val (.int .i64 (IntKind.i64.wrap (x+y))))) :: st.L,st.H⟩,[d])
  | _,_,_=>none
 | m,o=>yx X n st m o
theorem MP(av:X.a7.ok X.P) {m:rD} {c:Bool} {V:List Nat} (h:vC X n st m o=some (c,st',V)) (aa:c=true):gB X n o st st':=by
 unfold vC at h
 split at h
 ·split at h
  ·rename_i ax aY ah
   split at h
   ·rename_i aS a6 ad
    cases h;simp only[Bool.and_eq_true]at aa;exact YT av rfl ⟨rfl,rfl⟩ ax aY aS ah aa.1 ad a6 aa.2.1 aa.2.2
   ·rename_i aS ad
    cases h;simp only[Bool.and_eq_true]at aa;exact hh.ny (Mk av rfl aY aS ah aa.1 ad aa.2) ⟨rfl,rfl⟩ ax
   ·cases h
  ·cases h
 ·split at h
  ·rename_i ax aY ah
   split at h
   ·rename_i aS ad
    cases h;simp only[Bool.and_eq_true]at aa;exact hh.ny (MM av rfl aY aS ah aa.1 ad aa.2.1 aa.2.2) ⟨rfl,rfl⟩ ax
   ·cases h
  ·cases h
 ·split at h
  ·rename_i aY ah aH
   split at h
   ·rename_i aj ad
    cases h;simp only[Bool.and_eq_true]at aa;exact Mm av rfl ⟨rfl,rfl⟩ aY aj ah aa.1 aH aa.2.1 ad aa.2.2.1 aa.2.2.2
   ·cases h
  ·rename_i aY ah aH
   split at h
   ·rename_i aj ad
    split at h
    ·rename_i e _
     subst e;cases h;simp only[Bool.and_eq_true]at aa;exact Yb av rfl ⟨rfl,rfl⟩ aY aj ah aa.1 aH aa.2.1 ad aa.2.2.1 aa.2.2.2
    ·cases h
   ·cases h
  ·cases h
 ·split at h
  ·rename_i ax aY ah aH
   split at h
   ·rename_i he
    cases h;rw[Bool.and_eq_true,Bool.and_eq_true]at aa;exact YU _ _ av rfl ⟨rfl,rfl⟩ ax aY rfl he rfl ah aa.1 aH aa.2.1 aa.2.2
   ·cases h
  ·cases h
 ·split at h
  ·rename_i ax ah aH
   cases h;simp only[Bool.and_eq_true]at aa;refine hh.ny (fun {R W aD LH ks env B ai H a b0} al=>?_) ⟨rfl,rfl⟩ ax;obtain⟨v,aw,J⟩:=al.aE ah aa.1;obtain⟨v2,iz,U⟩:=al.aE aH aa.2;rw[show v=_ from J]at aw;rw[show v2=_ from U]at iz;exact⟨_,rfl,fun w _=>Kd al.cb rfl aw iz rfl w⟩
  ·cases h
 ·exact YX av h aa
theorem MQ{m:rD} {c:Bool} {V:List Nat} (h:vC X n st m o=some (c,st',V)):cU V st st':=by
 unfold vC at h
 split at h
 ·split at h
  ·split at h
   ·cases h
    exact⟨b6.cons (jo _ _ _),b6.cons (b6.trans (V:=[]) (V2:=[_]) (iG _ _ _) (jI (iX _ _)))⟩
   ·cases h
    exact mT
   ·cases h
  ·cases h
 ·split at h
  ·split at h
   ·cases h; exact mT
   ·cases h
  ·cases h
 ·split at h
  ·split at h
   ·cases h; exact⟨b6.refl _,jI (iX _ _)⟩
   ·cases h
  ·split at h
   ·split at h
    ·cases h; exact⟨b6.refl _,jI (iX _ _)⟩
    ·cases h
   ·cases h
  ·cases h
 ·split at h
  ·split at h
   ·cases h
    exact⟨b6.cons (jo _ _ _),b6.cons (V:=[]) (iG _ _ _)⟩
   ·cases h
  ·cases h
 ·split at h
  ·cases h; exact mT
  ·cases h
 ·exact YY h
end
end

section
def mU:List Bool->Bool->Bool
  | [],x=>x
  | c :: r,x=>mU r (c&&x)
theorem k7:∀ {A:List Bool} {x:Bool},mU A x=true->(∀ c∈A,c=true)/\x=true
  | [],_,h=>⟨(fun _ h=>by cases h),h⟩
  | c :: r,x,h=>by
    obtain⟨J,U⟩:=k7 (A:=r) h;simp only[Bool.and_eq_true]at U;refine⟨fun d ax=>?_,U.2⟩
    rcases List.mem_cons.1 ax with rfl | ax
    · exact U.1
    · exact J d ax
inductive In where
  | n (k:Nat)
  | w (x:k5)
  | c (ps:dQ)
  | y
  | x
  | t (m:rD)
  | f (j:Nat) (ks:List Int)
  | BU (j:Nat)
  | tf
abbrev lA (ρ:Type):=Option (Nat->List bh->Option ρ->Option ρ->Option ρ)
def tg:Option b5->Option Nat
  | some (.a (.c (.val (.func (.yield l) ⟨[]⟩ ⟨[]⟩))))=>some l
  | _=>none
def qj(L:cQ):Operand->Option (FuncId×List bh×List bh)
  | .func f=>some (f,[],[])
  | .tmp s=>match aZ L s with
    | some (.a (.c (.fn f ids)))=>some (f,[],np ids)
    | some (.a (.c (.iu f id)))=>some (f,[.c (.ptr id 0)],[])
    | _=>none
  | _=>none
def takeN{α:Type}:Nat->List α->List α
  | 0,_=>[]
  | _,[]=>[]
  | k+1,x :: l=>x :: takeN k l
def BV{α:Type}:Nat->List α->List α
  | 0,l=>l
  | _,[]=>[]
  | k+1,_ :: l=>BV k l
section
variable {X:bq} {ρ:Type}
def yy(X:bq) (n:Nat) (f:FuncId) (ps:dQ) (d:Nat) (st:aM) (args:List bh) (k:aM->Option ρ):List (bz X)->Option ρ
  | []=>none
  | e :: T=>match Nat.beq e.f f with
    | true=>match o4 X n e ps st.H args with
      | some p=>(e.m p.d).bind fun r=>match after X e ps st d p r with
        | some st'=>k st'
        | none=>none
      | none=>yy X n f ps d st args k T
    | false=>yy X n f ps d st args k T
abbrev nA (ρ:Type):=fa->List Nat->List Bool->aM->Option ρ
def th(X:bq) (n:Nat) (T:List (bz X)) (ps:dQ) (V:List Nat) (A:List Bool) (st:aM) (k:nA ρ):Oper->Option ρ
  | ⟨some d,.call ⟨.value u,⟨xs⟩,_⟩,_,_,_,none⟩=>match Nat.blt d n,qj st.L u,nn X st.L xs with
    | true,some (f,pre,post),some (c,args)=>ar (mU (c :: A) true) (yy X n f ps d st (pre++(args++post)) (fun st'=>k [] (d :: (kd ps++V)) [] st') T)
    | _,_,_=>none
  | _=>none
def yz(X:bq) (n:Nat) (f:FuncId) (d:Nat) (g:Bool) (st:aM) (args:List bh) (k:bh->Option ρ):List (bz X)->Option ρ
  | []=>none
  | e :: T=>match Nat.beq e.f f with
    | true=>match o4 X n e [] st.H args with
      | some p=>(cond g (e.m p.d) (some e.k2)).bind fun r=>match after X e [] st d p r,(e.out p.d r).2 with
        | some ⟨(_,.a bx) :: _,_⟩,[]=>k bx
        | _,_=>none
      | none=>yz X n f d g st args k T
    | false=>yz X n f d g st args k T
def vD(X:bq) (n:Nat) (T:List (bz X)) (cB:List (Option Nat)) (G:fa) (V:List Nat) (A:List Bool) (st:aM) (k:nA ρ):Oper->Option ρ
  | ⟨some d,.call ⟨.value u,⟨xs⟩,_⟩,_,_,_,some (j,want)⟩=>match nth cB j with
    | some (some s)=>match ie st.L s want with
      | some g=>match Nat.blt d n,Nat.beq s d,qj (gP (lW cB G 8 j want) G st.L) u,nn X (gP (lW cB G 8 j want) G st.L) xs with
        | true,false,some (f,pre,post),some (c,args)=>ar (mU (fr g c :: A) true) (yz X n f d g st (pre++(args++post)) (fun bx=>k ((d,j,want) :: iY cB d G) (d :: V) [] ⟨(d,.may g bx) :: st.L,st.H⟩) T)
        | _,_,_,_=>none
      | none=>none
    | _=>none
  | _=>none
def yA(X:bq) (n:Nat) (T:List (bz X)) (cB:List (Option Nat)) (G:fa) (V:List Nat) (A:List Bool) (st:aM) (o:Oper) (k:nA ρ):Option ρ:=match o.guard with
  | none=>match rB X cB [] G st o.op with
    | some (c,bx)=>match o.dst with
      | some d=>match Nat.blt d n with
        | true=>k (iY cB d G) (d :: V) (c :: A) ⟨(d,.a bx) :: st.L,st.H⟩
        | false=>none
      | none=>none
    | none=>match tc X n st o with
      | some (c,st',W)=>k [] (W++V) (c :: A) st'
      | none=>match nk X n cB st o with
        | .ok c st'=>k [] (ta X st.L o++V) (c :: A) st'
        | .stop=>th X n T [] V A st k o
  | some (j,want)=>match nth cB j with
    | some (some s)=>match ie st.L s want with
      | some g=>match rB X cB (lW cB G 8 j want) G st o.op with
        | some (c,bx)=>match o.dst with
          | some d=>match Nat.blt d n,Nat.beq s d with
            | true,false=>k ((d,j,want) :: iY cB d G) (d :: V) (fr g c :: A) ⟨(d,.may g bx) :: st.L,st.H⟩
            | _,_=>none
          | none=>none
        | none=>vD X n T cB G V A st k o
      | none=>none
    | _=>none
def yB(X:bq) (n:Nat) (T:List (bz X)) (cB:List (Option Nat)):List Oper->fa->List Nat->List Bool->aM->nA ρ->Option ρ
  | [],G,V,A,st,k=>k G V A st
  | o :: l,G,V,A,st,k=>yA X n T cB G V A st o fun eL fk cm st'=>yB X n T cB l eL fk cm st' k
def Gs(X:bq) (n:Nat) (cD:lA ρ) (st:aM) (A:List Bool) (o:Oper) (k:Nat->aM->Option ρ):Option ρ:=match cD,o with
  | some em,⟨some d,.call ⟨.value (.tmp s),⟨xs⟩,_⟩,_,_,_,none⟩=>match Nat.blt d n,tg (aZ st.L s),nn X st.L xs with
    | true,some l,some (c,args)=>ar (mU (c :: A) true) (em l args (k d ⟨(d,.c (.val (.bool false))) :: st.L,st.H⟩) (k d ⟨(d,.c (.val (.bool true))) :: st.L,st.H⟩))
    | _,_,_=>none
  | _,_=>none
def yC(X:bq) (n:Nat) (cD:lA ρ) (cB:List (Option Nat)) (G:fa) (st:aM) (A:List Bool) (o:Oper) (k:fa->Nat->aM->Option ρ):Option ρ:=match cD,o with
  | some em,⟨some d,.call ⟨.value (.tmp s),⟨xs⟩,_⟩,_,_,_,some (j,want)⟩=>match nth cB j with
    | some (some k8)=>match ie st.L k8 want with
      | some true=>match Nat.blt d n,Nat.beq k8 d,tg (aZ (gP (lW cB G 8 j want) G st.L) s),nn X (gP (lW cB G 8 j want) G st.L) xs with
        | true,false,some l,some (c,args)=>ar (mU (c :: A) true) (em l args (k ((d,j,want) :: iY cB d G) d ⟨(d,.may true (.c (.val (.bool false)))) :: st.L,st.H⟩) (k ((d,j,want) :: iY cB d G) d ⟨(d,.may true (.c (.val (.bool true)))) :: st.L,st.H⟩))
        | _,_,_,_=>none
      | some false=>match Nat.blt d n,Nat.beq k8 d with
        | true,false=>ar (mU A true) (k ((d,j,want) :: iY cB d G) d ⟨(d,.may false (.c (.val (.bool false)))) :: st.L,st.H⟩)
        | _,_=>none
      | none=>none
    | _=>none
  | _,_=>none
def Gt{ρ:Type} (X:bq) (n:Nat) (st:aM) (A:List Bool) (o:Oper) (k:List Nat->aM->Option ρ):Option ρ:=match o with
  | ⟨some d,.next x true,_,_,_,none⟩=>match Nat.blt d n,bw X st.L x with
    | true,some (g,.c (.ptr id 0))=>match aZ st.H id with
      | some (.hf S p)=>ar (mU (g :: A) true) (cond (decide (p < S.size)) (k [d,id] ⟨(d,.dj [.c (.val (.bool true)),.c (.val (.int .i64 (p:Int))),.c (.val (.int .i32 (Utf8.decode S p).1))]) :: st.L,eO id (.hf S (p+(Utf8.decode S p).2)) st.H⟩) (k [d,id] ⟨(d,.dj [.c (.val (.bool false))]) :: st.L,st.H⟩))
      | _=>none
    | _,_=>none
  | _=>none
def BW{ρ:Type} (z:Int):List Int->(Int->Option ρ)->Option ρ
  | [],_=>none
  | q :: kE,f=>cond (decide (z=q)) (f q) (BW z kE f)
def gY(X:bq) (n:Nat) (T:List (bz X)) (cD:lA ρ) (cB:List (Option Nat)):List In->List Oper->fa->List Nat->List Bool->aM->(List Nat->aM->Option ρ)->Option ρ
  | [],ops,G,V,A,st,k=>yB X n T cB ops G V A st fun _ fk cm st'=>ar (mU cm true) (k fk st')
  | .n m :: is,ops,G,V,A,st,k=>yB X n T cB (takeN m ops) G V A st fun eL fk cm st'=>gY X n T cD cB is (BV m ops) eL fk cm st' k
  | .w x :: is,ops,_,V,A,st,k=>match vo n x st with
    | some (c,st')=>gY X n T cD cB is ops [] (x.vm++V) (c :: A) st' k
    | none=>none
  | .c ps :: is,o :: ops,_,V,A,st,k=>th X n T ps V A st (fun eL fk cm st'=>gY X n T cD cB is ops eL fk cm st' k) o
  | .c _ :: _,[],_,_,_,_,_=>none
  | .y :: is,o :: ops,_,V,A,st,k=>Gs X n cD st A o fun d st'=>gY X n T cD cB is ops [] (d :: V) [] st' k
  | .x :: is,o :: ops,_,V,A,st,k=>Gt X n st A o fun W st'=>gY X n T cD cB is ops [] (W++V) [] st' k
  | .t m :: is,o :: ops,_,V,A,st,k=>match vC X n st m o with
    | some (c,st',W)=>gY X n T cD cB is ops [] (W++V) (c :: A) st' k
    | none=>none
  | .f j ks :: is,ops,_,V,A,st,k=>match aZ st.L j with
    | some (.a (.c (.val (.int pX z))))=>ar (mU A true) (BW z ks fun q=>gY X n T cD cB is ops [] (j :: V) [] ⟨(j,.a (.c (.val (.int pX q)))) :: st.L,st.H⟩ k)
    | _=>none
  | .BU j :: is,ops,_,V,A,st,k=>match aZ st.L j with
    | some (.a (.c (.val (.bool b))))=>ar (mU A true) (cond b (gY X n T cD cB is ops [] (j :: V) [] ⟨(j,.a (.c (.val (.bool true)))) :: st.L,st.H⟩ k) (gY X n T cD cB is ops [] (j :: V) [] ⟨(j,.a (.c (.val (.bool false)))) :: st.L,st.H⟩ k))
    | _=>none
  | .tf :: is,o :: ops,G,V,A,st,k=>yC X n cD cB G st A o fun eL d st'=>gY X n T cD cB is ops eL (d :: V) [] st' k
  | .tf :: _,[],_,_,_,_,_=>none
  | .x :: _,[],_,_,_,_,_=>none
  | .y :: _,[],_,_,_,_,_=>none
  | .t _ :: _,[],_,_,_,_,_=>none
variable {M:Bool} {n:Nat} {rr:Option Nat} {T:List (bz X)} {st0 st st':aM} {Q:Exit->aM->Prop} {ops l rest:List Oper} {o:Oper} {r:ρ} {V:List Nat} {A:List Bool}
def BX(k:nA ρ) (r:ρ):Prop:=∀ G V A st,k G V A st=some r->∀ c∈A,c=true
theorem Gu{f:FuncId} {xs:List Operand} {pre post args:List bh} {ps:dQ} {d:Nat} {c:Bool} {k:aM->Option ρ} (s3:Callee X st o f xs pre post) (bb:o.guard=none/\o.dst=some d) (ax:Nat.blt d n=true) (p9:nn X st.L xs=some (c,args)) (aa:c=true):∀ {T:List (bz X)},yy X n f ps d st (pre++(args++post)) k T=some r->∃ st',p6 X n o (s0 st.H ps) st st'/\cU (d :: kd ps) st st'/\k st'=some r
  | [],h=>by cases h
  | e :: T,h=>by
    unfold yy at h
    split at h
    · rename_i az
      have mE:=Nat.eq_of_beq_eq_true az;subst mE
      split at h
      · rename_i p an
        obtain⟨q,ao,h⟩:=ri h
        split at h
        · rename_i eG aS
          exact⟨eG,L0 e ps s3 bb ax (.of p9 aa) an ao aS,YH an aS,h⟩
        · cases h
      · exact Gu s3 bb ax p9 aa h
    · exact Gu s3 bb ax p9 aa h
theorem MR{u:Operand} {xs:List Operand} {fo:Array TypeId} {f:FuncId} {pre post:List bh} (aA:o.op=.call { callee:=.value u,args:=xs.toArray,argTypes:=fo }) (h:qj st.L u=some (f,pre,post)):Callee X st o f xs pre post:=by
  refine⟨fo,?_⟩;unfold qj at h
  split at h
  · cases h; exact .inl ⟨aA,rfl,rfl⟩
  · split at h
    · rename_i e; cases h; exact .inr (.inl ⟨_,_,aA,e,rfl,rfl⟩)
    · rename_i e; cases h; exact .inr (.inr ⟨_,_,aA,e,rfl,rfl⟩)
    · cases h
  · cases h
theorem rE{ps:dQ} {k:nA ρ} (h0:cU V st0 st) (h:th X n T ps V A st k o=some r):(∀ c∈A,c=true)/\∃ st' fk,p6 X n o (s0 st.H ps) st st'/\cU fk st0 st'/\k [] fk [] st'=some r:=by
  unfold th at h
  split at h
  · rename_i d u xs fo t p a
    split at h
    · rename_i f pre post c args ax k1 p9
      obtain⟨aa,h⟩:=hp h;have e3:=(k7 aa).1;obtain⟨st',J,U,ag⟩:=Gu (o:=⟨some d,.call ⟨.value u,⟨xs⟩,fo⟩,t,p,a,none⟩) (MR rfl k1) ⟨rfl,rfl⟩ ax p9 (e3 c List.mem_cons_self) h;exact⟨fun c aa=>e3 c (List.mem_cons_of_mem _ aa),st',_,J,by have:=h0.trans U; exact this,ag⟩
    · cases h
  · cases h
theorem Gv{f:FuncId} {d:Nat} {g:Bool} {args:List bh} {k:bh->Option ρ} {r:ρ}:∀ {T:List (bz X)},yz X n f d g st args k T=some r->∃ (e:bz X) (p:vf X e) (q:e.ρ) (bx:bh),e.f=f/\o4 X n e [] st.H args=some p/\(g=true->e.m p.d=some q)/\after X e [] st d p q=some ⟨(d,.a bx) :: st.L,st.H⟩/\k bx=some r
  | [],h=>by cases h
  | e :: T,h=>by
    unfold yz at h
    split at h
    · rename_i az
      split at h
      · rename_i p an
        obtain⟨q,ao,h⟩:=ri h
        split at h
        · rename_i d2 bx o8 H2 aS bb
          refine⟨e,p,q,bx,Nat.eq_of_beq_eq_true az,an,fun aV=>by rw[aV]at ao; exact ao,?_,h⟩;have J:H2=st.H/\o8=st.L/\d2=d:=by
            unfold o4 at an
            split at an
            · rename_i BF J H1 kz BH ht
              split at an
              · split at an
                · cases an
                  have ec:H1=st.H:=by
                    cases MS:e.dc with
                    | nil=>rw[MS]at ht; cases ht; rfl
                    | cons q _=>rw[MS]at ht; cases ht
                  unfold after at aS;rw[bb]at aS
                  split at aS
                  · rename_i iT lr aC a1
                    cases a1;cases aS;exact⟨rfl,rfl,rfl⟩
                  · cases aS
                · cases an
              · cases an
            · cases an
          obtain⟨rfl,rfl,rfl⟩:=J;exact aS
        · cases h
      · exact Gv h
    · exact Gv h
theorem MT{G:fa} {k:nA ρ} (h:vD X n T (ef ops) G V A st k o=some r):∀ c∈A,c=true:=by
  unfold vD at h
  split at h
  · split at h
    · split at h
      · split at h
        · obtain⟨aa,h⟩:=hp h
          exact fun c hm=>(k7 aa).1 c (List.mem_cons_of_mem _ hm)
        · cases h
      · cases h
    · cases h
  · cases h
theorem YZ{cB:List (Option Nat)} {G:fa} {ps:List (Nat×Bool)} {u:Operand} {c:FuncId×List bh×List bh} (cy:dS cB G st.L) (an:∀ p∈ps,k6 cB st.L p) (h:qj (gP ps G st.L) u=some c) :
    ∃ eG:aM,eG.H=st.H/\qj eG.L u=some c/\(∀ {R W aD ks env B ai H a w},bI X R W aD n ks env B ai H st a w->bI X R W aD n ks env B ai H eG a w)/\(∀ {R W aD ks env B ai H a w},bI X R W aD n ks env B ai H eG a w->bI X R W aD n ks env B ai H st a w) /\
      ∀ {d:Nat} {bx:bh} {R W aD ks env B ai H a w},bI X R W aD n ks env B ai H ⟨(d,.a bx) :: eG.L,eG.H⟩ a w->bI X R W aD n ks env B ai H ⟨(d,.a bx) :: st.L,st.H⟩ a w:=by
  cases u with
  | tmp s=>
    unfold qj at h;dsimp only at h;cases ad:aZ (gP ps G st.L) s with
    | none=>rw[ad]at h; cases h
    | some sv=>
      rcases Yz cy an s sv ad with J | ⟨x,rfl,J⟩
      · exact⟨st,rfl,by unfold qj; dsimp only; rw[J]; rw[ad]at h; exact h,fun h=>h,fun h=>h,fun h=>h⟩
      · have key:∀ {L:cQ} {R W aD ks env B ai H a w},(∀ q,q≠s->aZ L q=aZ ((s,b5.a x) :: L) q)->bI X R W aD n ks env B ai H ⟨(s,.a x) :: L,st.H⟩ a w->aZ L s=some (.may true x)->bI X R W aD n ks env B ai H ⟨L,st.H⟩ a w:=fun {L} _ _ _ _ _ _ _ _ _ _ _ al aj=>⟨al.size,al.defs,fun q sv ao=>by
          by_cases e:q=s
          · subst e
            rw[aj]at ao;cases ao;obtain⟨v,kU,iz⟩:=al.has q (.a x) (by rw[cn,if_pos rfl]);exact⟨v,kU,fun _=>iz,fun h=>by cases h⟩
          · exact al.has q sv (by rw[cn,if_neg e]; exact ao),al.heap,al.aU,al.sub,al.new,al.dt,al.base,al.dX⟩
        refine⟨⟨(s,.a x) :: st.L,st.H⟩,rfl,?_,fun al=>⟨al.size,al.defs,fun q sv ao=>?_,al.heap,al.aU,al.sub,al.new,al.dt,al.base,al.dX⟩,fun al=>key (fun q ao=>by rw[cn,if_neg ao]) al J,fun {d bx} _ _ _ _ _ _ _ _ _ _ al=>⟨al.size,al.defs,fun q sv ao=>?_,al.heap,al.aU,al.sub,al.new,al.dt,al.base,al.dX⟩⟩
        · unfold qj
          dsimp only;rw[cn,if_pos rfl];rw[ad]at h;exact h
        · rw[cn]at ao
          split at ao
          · rename_i e
            subst e;cases ao;obtain⟨v,kU,iz⟩:=al.has _ _ J;exact⟨v,kU,iz.1 rfl⟩
          · exact al.has q sv ao
        · rw[cn]at ao
          split at ao
          · rename_i e
            subst e;cases ao;exact al.has _ _ (by rw[cn,if_pos rfl])
          · rename_i e
            by_cases a1:q=s
            · subst a1
              rw[J]at ao;cases ao;obtain⟨v,kU,iz⟩:=al.has q (.a x) (by rw[cn,if_neg e,cn,if_pos rfl]);exact⟨v,kU,fun _=>iz,fun h=>by cases h⟩
            · exact al.has q sv (by rw[cn,if_neg e,cn,if_neg a1]; exact ao)
  | func f=>exact⟨st,rfl,h,fun h=>h,fun h=>h,fun h=>h⟩
  | _=>cases h
theorem Y0{e:bz X} {eG:aM} {d:Nat} {p:vf X e} {q:e.ρ} {bx:bh} (ec:eG.H=st.H) (aS:after X e [] st d p q=some ⟨(d,.a bx) :: st.L,st.H⟩):after X e [] eG d p q=some ⟨(d,.a bx) :: eG.L,eG.H⟩:=by
  unfold after at aS ⊢
  split at aS
  · rename_i iT lr aC a1
    dsimp only at aS ⊢;have ag:=Option.some.inj aS;have ay:(d,iT) :: st.L=(d,b5.a bx) :: st.L:=congrArg aM.L ag;have aO:lr++st.H=st.H:=congrArg aM.H ag;rw[ec,aO];have aK:iT=b5.a bx:=by
      have:=(List.cons.inj ay).1
      exact(Prod.mk.inj this).2
    rw[aK]
  · cases aS
theorem MU{G:fa} {k:nA ρ} (cy:dS (ef ops) G st.L) (h0:cU V st0 st) (h:vD X n T (ef ops) G V A st k o=some r):∃ (d:Nat) (g:Bool) (bx:bh) (eL:fa),dS (ef ops) eL ((d,.may g bx) :: st.L)/\cU (d :: V) st0 ⟨(d,.may g bx) :: st.L,st.H⟩/\k eL (d :: V) [] ⟨(d,.may g bx) :: st.L,st.H⟩=some r /\
    ∀ (R:Nat->Prop) (W:World) (aD:eT) (ks:List Nat) (env:Nat->Loc) (B:Nat->Prop) (ai:World) (H:List bc) (a:Act) (w:World),bI X R W aD n ks env B ai H st a w->∀ (KK:Act->World->Prop),
      (∀ aW w' env' B' cJ H',bI X R W aD n ks env' B' cJ H' ⟨(d,.may g bx) :: st.L,st.H⟩ aW w'->(∀ k,B k->B' k)->dm (fun k=>R k\/B k) ai cJ->KK aW w')->eW X.P ops.toArray o KK a w:=by
  unfold vD at h
  split at h
  · rename_i d u xs fo ty po af j want
    split at h
    · rename_i s aF
      split at h
      · rename_i g aV
        split at h
        · rename_i f pre post c args ax qk k1 p9
          obtain⟨aa,h⟩:=hp h;have e3:=(k7 aa).1;obtain⟨e,pp,q,bx,az,an,ao,aS,ab⟩:=Gv h;subst az;have cG:s≠d:=Nat.ne_of_beq_eq_false qk;have mq:dS (ef ops) ((d,j,want) :: iY (ef ops) d G) ((d,.may g bx) :: st.L):=fun e he=>by
            rcases List.mem_cons.1 he with rfl | he
            · exact⟨s,g,bx,aF,by rw[vt cG]; exact aV,by rw[cn,if_pos rfl]⟩
            · exact cy.drop d _ e he
          refine⟨d,g,bx,_,mq,⟨b6.cons h0.1,h0.2.more fun q ao=>(e9 ao).2⟩,ab,?_⟩;intro R W aD ks env B ai H a w al KK bZ;have hw:=yo (l:=ops) (o:=⟨some d,.call ⟨.value u,⟨xs⟩,fo⟩,ty,po,af,some (j,want)⟩) al rfl aF aV;have put:∀ v,c2 n (jR ks aD) ((d,v) :: gn a) (a.put (some d) v):=fun v=>al.cb.put d v (dK ax)
          cases g with
          | false=>exact .inr ⟨hw,bZ _ _ _ _ _ _ (al.set (sv:=.may false bx) ⟨(fun h=>by cases h),fun _=>rfl⟩ (put undef)) (fun _ h=>h) (dm.refl _ _)⟩
          | true=>
            have rF:∀ p∈lW (ef ops) G 8 j want,k6 (ef ops) st.L p:=yn cy ⟨s,aF,aV⟩;obtain⟨eG,rz,Y1,lY,Y2,Y3⟩:=YZ (X:=X) (n:=n) cy rF k1;have Gw:BG X n eG xs args:=fun _ _ _ _ _ _ _ _ _ _ al=>Bb ((Y2 al).view cy rF) p9 (yi (e3 _ List.mem_cons_self) rfl)
            have J:=L0 (o:=⟨some d,.call ⟨.value u,⟨xs⟩,fo⟩,ty,po,af,none⟩) e [] (MR rfl Y1) ⟨rfl,rfl⟩ ax Gw (by rw[rz]; exact an) (ao rfl) (Y0 rz aS) R W aD ks env B ai H a w (lY al) KK ops fun aW w' env' B' cJ H' eS fT jE _=>by
              have b7:=Y3 eS;have mn:=b7.has d (.a bx) (by rw[cn,if_pos rfl]);obtain⟨v,kU,iz⟩:=mn;refine bZ _ _ _ _ _ _ ⟨b7.size,b7.defs,fun q sv aj=>?_,b7.heap,b7.aU,b7.sub,b7.new,b7.dt,b7.base,b7.dX⟩ fT jE
              by_cases BY:q=d
              · subst BY
                rw[cn,if_pos rfl]at aj;cases aj;exact⟨v,kU,fun _=>iz,fun h=>by cases h⟩
              · exact b7.has q sv (by rw[cn,if_neg BY]at aj ⊢; exact aj)
            rcases J with⟨_,U⟩ | ⟨U,_⟩
            · exact .inl ⟨hw,U⟩
            · simp[Region.wanted]at U
        · cases h
      · cases h
    · cases h
  · cases h
theorem Y4{G:fa} {k:nA ρ} (ab:BX k r) (h:yA X n T (ef ops) G V A st o k=some r):∀ c∈A,c=true:=by
  unfold yA at h
  split at h
  · split at h
    · split at h
      · split at h
        · exact fun c aa=>ab _ _ _ _ h c (List.mem_cons_of_mem _ aa)
        · cases h
      · cases h
    · split at h
      · exact fun c aa=>ab _ _ _ _ h c (List.mem_cons_of_mem _ aa)
      · split at h
        · exact fun c aa=>ab _ _ _ _ h c (List.mem_cons_of_mem _ aa)
        · exact(rE (cU.refl (V:=V) st) h).1
  · split at h
    · split at h
      · split at h
        · split at h
          · split at h
            · exact fun c aa=>ab _ _ _ _ h c (List.mem_cons_of_mem _ aa)
            · cases h
          · cases h
        · exact MT h
      · cases h
    · cases h
theorem BZ{k:nA ρ} (ab:BX k r):∀ {l:List Oper} {G:fa} {V:List Nat} {A:List Bool} {st:aM},yB X n T (ef ops) l G V A st k=some r->∀ c∈A,c=true
  | [],G,V,A,st,h=>ab _ _ _ _ h
  | o :: l,G,V,A,st,h=>Y4 (fun _ _ _ _ a8=>BZ ab a8) h
def yD(X:bq) (n:Nat) (ops:List Oper) (o:Oper) (st st':aM):Prop:=∀ (R:Nat->Prop) (W:World) (aD:eT) (ks:List Nat) (env:Nat->Loc) (B:Nat->Prop) (ai:World) (H:List bc) (a:Act) (w:World),bI X R W aD n ks env B ai H st a w->∀ (KK:Act->World->Prop),
  (∀ aW w' env' B' cJ H',bI X R W aD n ks env' B' cJ H' st' aW w'->KK aW w')->eW X.P ops.toArray o KK a w
theorem p6.vE{kp:bc->Bool} (h:p6 X n o kp st st'):yD X n ops o st st':=fun R W aD ks env B ai H a w al KK bZ=>h R W aD ks env B ai H a w al KK ops fun aW w' env' B' cJ H' b7 _ _ _=>bZ aW w' env' B' cJ H' b7
structure yE(X:bq) (n:Nat) (ops:List Oper) (Z:List Oper->ρ->aM->Prop):Prop where
  step:∀ {o rest r st st'},yD X n ops o st st'->Z rest r st'->Z (o :: rest) r st
  en:∀ {l r st st'},dk X n st st'->Z l r st'->Z l r st
def B0(X:bq) (n:Nat) (ops:List Oper) (o:Oper) (st:aM):Prop:=∀ {R:Nat->Prop} {W:World} {aD:eT} {ks:List Nat} {env:Nat->Loc} {B:Nat->Prop} {ai:World} {H:List bc} {a:Act} {w:World},bI X R W aD n ks env B ai H st a w->Region.wanted o (yielded ops.toArray a.tmps)=true
theorem B0.none{ops:List Oper} {o:Oper} {st:aM} (h:o.guard=none):B0 X n ops o st:=fun _=>by simp[Region.wanted,h]
def MV(X:bq) (n:Nat) (ops:List Oper) (cD:lA ρ) (Z:List Oper->ρ->aM->Prop):Prop:=∀ em,cD=some em->∀ {l:Nat} {args:List bh} {f t:Option ρ} {r:ρ},em l args f t=some r->∃ pd rt,f=some pd/\t=some rt/\∀ {o:Oper} {rest:List Oper} {st:aM} {d s:Nat} {xs:List Operand} {fo:Array TypeId} {c:Bool},o.op=.call { callee:=.value (.tmp s),args:=xs.toArray,argTypes:=fo }->B0 X n ops o st/\o.dst=some d->Nat.blt d n=true->tg (aZ st.L s)=some l->nn X st.L xs=some (c,args)->c=true ->
  Z rest pd ⟨(d,.c (.val (.bool false))) :: st.L,st.H⟩->Z rest rt ⟨(d,.c (.val (.bool true))) :: st.L,st.H⟩->Z (o :: rest) r st
variable {Z:List Oper->ρ->aM->Prop}
theorem Y5(av:X.a7.ok X.P) (eB:yE X n ops Z) {G:fa} (cy:dS (ef ops) G st.L) (h0:cU V st0 st) {k:nA ρ} (eu:BX k r) (h:yA X n T (ef ops) G V A st o k=some r) (ab:∀ eL fk cm st',dS (ef ops) eL st'.L->cU fk st0 st'->k eL fk cm st'=some r->Z rest r st'):Z (o :: rest) r st:=by
  have one:∀ {d:Nat} {sv:b5},cU (d :: V) st0 ⟨(d,sv) :: st.L,st.H⟩:=fun {d sv}=>⟨b6.cons h0.1,h0.2.more fun q ao=>(e9 ao).2⟩
  unfold yA at h
  split at h
  · rename_i dx
    split at h
    · rename_i c bx aC
      split at h
      · rename_i d dU
        split at h
        · rename_i ax
          have aa:=eu _ _ _ _ h c List.mem_cons_self;refine eB.step (st':=⟨(d,.a bx) :: st.L,st.H⟩) ?_ (ab _ _ _ _ (cy.drop d _) one h);intro R W aD ks env B ai H a w al KK bZ;obtain⟨v,J,U⟩:=MC av al cy (fun _ h=>by cases h) aC aa;exact hv al.cb dx dU (dK ax) U fun aW aJ=>bZ aW w env B ai H (al.set (sv:=.a bx) J aJ)
        · cases h
      · cases h
    · split at h
      · rename_i c eG W e
        have aa:=eu _ _ _ _ h c List.mem_cons_self;exact eB.step (Gj av e aa).c.vE (ab _ _ _ eG dS.nil (h0.trans (Gk e)) h)
      · split at h
        · rename_i c eG e
          have aa:=eu _ _ _ _ h c List.mem_cons_self;refine eB.step ?_ (ab _ _ _ eG dS.nil (h0.trans (vu dx e)) h);intro R W aD ks env B ai H a w al KK bZ;exact A2 av e aa al fun aW w' env' H' _ b7=>bZ aW w' env' B ai H' b7
        · obtain⟨_,eG,V2,J,U,ag⟩:=rE h0 h
          exact eB.step J.vE (ab _ _ _ eG dS.nil U ag)
  · rename_i j want dx
    split at h
    · rename_i s aF
      split at h
      · rename_i g aV
        split at h
        · rename_i c bx aC
          split at h
          · rename_i d dU
            split at h
            · rename_i ax qk
              have aa:=eu _ _ _ _ h _ List.mem_cons_self;have cG:s≠d:=Nat.ne_of_beq_eq_false qk;have mq:dS (ef ops) ((d,j,want) :: iY (ef ops) d G) ((d,.may g bx) :: st.L):=fun e he=>by
                rcases List.mem_cons.1 he with rfl | he
                · exact⟨s,g,bx,aF,by rw[vt cG]; exact aV,by rw[cn,if_pos rfl]⟩
                · exact cy.drop d _ e he
              refine eB.step (st':=⟨(d,.may g bx) :: st.L,st.H⟩) ?_ (ab _ _ _ _ mq one h);intro R W aD ks env B ai H a w al KK bZ;have put:∀ v,c2 n (jR ks aD) ((d,v) :: gn a) (a.put o.dst v):=fun v=>by rw[dU]; exact al.cb.put d v (dK ax)
              have hw:=yo al dx aF aV;cases g with
              | true=>
                obtain⟨v,J,U⟩:=MC av al cy (yn cy ⟨s,aF,aV⟩) aC (yi aa rfl);exact .inl ⟨hw,.inl ⟨v,w,U,bZ _ _ _ _ _ _ (al.set (sv:=.may true bx) ⟨fun _=>J,fun h=>by cases h⟩ (put v))⟩⟩
              | false=>exact .inr ⟨hw,bZ _ _ _ _ _ _ (al.set (sv:=.may false bx) ⟨(fun h=>by cases h),fun _=>rfl⟩ (put undef))⟩
            · cases h
          · cases h
        · obtain⟨d,g2,bx,eL,pU,c8,dL,fA⟩:=MU cy h0 h
          exact eB.step (fun R W aD ks env B ai H a w al KK bZ=>fA R W aD ks env B ai H a w al KK fun aW w' env' B' cJ H' b7 _ _=>bZ aW w' env' B' cJ H' b7) (ab _ _ _ _ pU c8 dL)
      · cases h
    · cases h
theorem Gx(av:X.a7.ok X.P) (eB:yE X n ops Z) {k:nA ρ} {r:ρ} (eu:BX k r):∀ {l rest:List Oper} {G:fa} {V:List Nat} {A:List Bool} {st:aM},dS (ef ops) G st.L->cU V st0 st->yB X n T (ef ops) l G V A st k=some r->(∀ eL fk cm st',dS (ef ops) eL st'.L->cU fk st0 st'->k eL fk cm st'=some r->Z rest r st')->Z (l++rest) r st
  | [],rest,G,V,A,st,cy,h0,h,ab=>ab G V A st cy h0 h
  | o :: l,rest,G,V,A,st,cy,h0,h,ab=>Y5 av eB cy h0 (fun _ _ _ _ a8=>BZ eu a8) h fun eL fk cm st' mq oi a8=>Gx av eB eu mq oi a8 ab
theorem take_drop:∀ (m:Nat) (l:List Oper),takeN m l++BV m l=l
  | 0,_=>rfl
  | _+1,[]=>rfl
  | m+1,x :: l=>by
    show x :: (takeN m l++BV m l)=_;rw[take_drop m l]
theorem MW{cD:lA ρ} {k:Nat->aM->Option ρ} (h:Gs X n cD st A o k=some r):(∀ c∈A,c=true)/\∃ em l d s xs fo c args,cD=some em/\o.op=.call { callee:=.value (.tmp s),args:=xs.toArray,argTypes:=fo }/\(o.guard=none/\o.dst=some d)/\Nat.blt d n=true/\tg (aZ st.L s)=some l/\nn X st.L xs=some (c,args)/\c=true/\em l args (k d ⟨(d,.c (.val (.bool false))) :: st.L,st.H⟩) (k d ⟨(d,.c (.val (.bool true))) :: st.L,st.H⟩)=some r:=by
  unfold Gs at h
  split at h
  · split at h
    · rename_i ax aH aS
      obtain⟨aa,h⟩:=hp h;have e3:=(k7 aa).1;exact⟨fun c aa=>e3 c (List.mem_cons_of_mem _ aa),_,_,_,_,_,_,_,_,rfl,rfl,⟨rfl,rfl⟩,ax,aH,aS,e3 _ List.mem_cons_self,h⟩
    · cases h
  · cases h
theorem MX{cD:lA ρ} {cB:List (Option Nat)} {G:fa} {k:fa->Nat->aM->Option ρ} (h:yC X n cD cB G st A o k=some r):∀ c∈A,c=true:=by
  unfold yC at h
  split at h
  · split at h
    · split at h
      · split at h
        · exact fun c aa=>(k7 (hp h).1).1 c (List.mem_cons_of_mem _ aa)
        · cases h
      · split at h
        · exact(k7 (hp h).1).1
        · cases h
      · cases h
    · cases h
  · cases h
theorem Y6{cD:lA ρ} {cB:List (Option Nat)} {G:fa} {k:fa->Nat->aM->Option ρ} (h:yC X n cD cB G st A o k=some r):(∀ c∈A,c=true)/\∃ (d j:Nat) (want:Bool) (k8:Nat),o.guard=some (j,want)/\o.dst=some d/\nth cB j=some (some k8)/\k8≠d/\Nat.blt d n=true /\
    ((ie st.L k8 want=some true/\∃ em l s xs fo c args,cD=some em/\o.op=.call { callee:=.value (.tmp s),args:=xs.toArray,argTypes:=fo }/\tg (aZ (gP (lW cB G 8 j want) G st.L) s)=some l/\nn X (gP (lW cB G 8 j want) G st.L) xs=some (c,args)/\c=true /\
      em l args (k ((d,j,want) :: iY cB d G) d ⟨(d,.may true (.c (.val (.bool false)))) :: st.L,st.H⟩) (k ((d,j,want) :: iY cB d G) d ⟨(d,.may true (.c (.val (.bool true)))) :: st.L,st.H⟩)=some r) \/
     (ie st.L k8 want=some false/\k ((d,j,want) :: iY cB d G) d ⟨(d,.may false (.c (.val (.bool false)))) :: st.L,st.H⟩=some r)):=by
  refine⟨MX h,?_⟩;unfold yC at h
  split at h
  · split at h
    · rename_i aF
      split at h
      · rename_i aV
        split at h
        · rename_i ax qk aH aS
          obtain⟨aa,h⟩:=hp h;exact⟨_,_,_,_,rfl,rfl,aF,Nat.ne_of_beq_eq_false qk,ax,.inl ⟨aV,_,_,_,_,_,_,_,rfl,rfl,aH,aS,(k7 aa).1 _ List.mem_cons_self,h⟩⟩
        · cases h
      · rename_i aV
        split at h
        · rename_i ax qk
          exact⟨_,_,_,_,rfl,rfl,aF,Nat.ne_of_beq_eq_false qk,ax,.inr ⟨aV,(hp h).2⟩⟩
        · cases h
      · cases h
    · cases h
  · cases h
theorem MY{k:List Nat->aM->Option ρ} (h0:cU V st0 st) (h:Gt X n st A o k=some r):(∀ c∈A,c=true)/\∃ W eG,yD X n ops o st eG/\cU (W++V) st0 eG/\k W eG=some r:=by
  unfold Gt at h
  split at h
  · split at h
    · rename_i ax ah
      split at h
      · rename_i ad
        obtain⟨aa,h⟩:=hp h;have e3:=(k7 aa).1;have ev:∀ {d id:Nat} {sv:b5} {b:cA},cU [d,id] st ⟨(d,sv) :: st.L,eO id b st.H⟩:=fun {d id sv b}=>⟨(b6.cons (V:=[]) (b6.refl _)).more fun q ao=>by
            obtain⟨J,_⟩:=e9 ao;unfold eA
            split
            · rename_i e; exact absurd (Nat.eq_of_beq_eq_true e).symm J
            · rfl,jI (by unfold eA; split<;>first | rfl | (exact iX _ _))⟩
        have Y7:∀ {d id:Nat} {sv:b5},cU [d,id] st ⟨(d,sv) :: st.L,st.H⟩:=fun {d id sv}=>⟨(b6.cons (V:=[]) (b6.refl _)).more fun q ao=>by
            obtain⟨J,_⟩:=e9 ao;unfold eA
            split
            · rename_i e; exact absurd (Nat.eq_of_beq_eq_true e).symm J
            · rfl,b6.refl _⟩
        refine⟨fun c aa=>e3 c (List.mem_cons_of_mem _ aa),?_⟩;rename_i d _ _ _ id _ S p _;cases an:decide (p < S.size)with
        | true=>
          rw[an]at h;exact⟨_,_,(XS rfl ⟨rfl,rfl⟩ ax ah (e3 _ List.mem_cons_self) ad (of_decide_eq_true an)).c.vE,h0.trans ev,h⟩
        | false=>
          rw[an]at h;exact⟨_,_,(XT rfl ⟨rfl,rfl⟩ ax ah (e3 _ List.mem_cons_self) ad (of_decide_eq_false an)).c.vE,h0.trans Y7,h⟩
      · cases h
    · cases h
  · cases h
variable {cD:lA ρ}
theorem MZ{z:Int} {f:Int->Option ρ} {r:ρ}:∀ {ks:List Int},BW z ks f=some r->f z=some r
  | [],h=>by cases h
  | q :: kE,h=>by
    unfold BW at h
    by_cases e:z=q
    · subst e
      rw[decide_eq_true rfl]at h;exact h
    · rw[decide_eq_false e]at h
      exact MZ h
theorem dk.again{j:Nat} {sv:b5} (h:aZ st.L j=some sv):dk X n st ⟨(j,sv) :: st.L,st.H⟩:=fun _ _ _ _ _ _ ⟨ks,env,B,ai,H,cp,al⟩=>by
  refine⟨ks,env,B,ai,H,cp,⟨al.size,al.defs,fun s u aj=>?_,al.heap,al.aU,al.sub,al.new,al.dt,al.base,al.dX⟩⟩;rw[cn]at aj
  split at aj
  · rename_i e
    subst e;cases aj;exact al.has _ _ h
  · exact al.has s u aj
theorem vF{k:List Nat->aM->Option ρ} {r:ρ}:∀ {is:List In} {l:List Oper} {G:fa} {V:List Nat} {A:List Bool} {st:aM},gY X n T cD (ef ops) is l G V A st k=some r->∀ c∈A,c=true
  | [],l,G,V,A,st,h=>BZ (fun _ _ _ _ a8=>(k7 (hp a8).1).1) h
  | .n m :: is,l,G,V,A,st,h=>BZ (fun _ _ _ _ a8=>vF a8) h
  | .w x :: is,l,G,V,A,st,h=>by
    unfold gY at h
    split at h
    · exact fun c aa=>vF h c (List.mem_cons_of_mem _ aa)
    · cases h
  | .c ps :: is,o :: l,G,V,A,st,h=>by
    unfold gY at h;exact(rE (cU.refl (V:=V) st) h).1
  | .c _ :: _,[],G,V,A,st,h=>by cases h
  | .y :: is,o :: l,G,V,A,st,h=>by
    unfold gY at h;exact(MW h).1
  | .y :: _,[],G,V,A,st,h=>by cases h
  | .x :: is,o :: l,G,V,A,st,h=>by
    unfold gY at h;exact(MY (ops:=ops) (cU.refl (V:=V) st) h).1
  | .BU j :: is,l,G,V,A,st,h=>by
    unfold gY at h
    split at h
    · exact(k7 (hp h).1).1
    · cases h
  | .tf :: is,o :: l,G,V,A,st,h=>by
    unfold gY at h;exact MX h
  | .tf :: _,[],G,V,A,st,h=>by cases h
  | .f j ks :: is,l,G,V,A,st,h=>by
    unfold gY at h
    split at h
    · exact(k7 (hp h).1).1
    · cases h
  | .x :: _,[],G,V,A,st,h=>by cases h
  | .t _ :: _,[],G,V,A,st,h=>by cases h
  | .t m :: is,o :: l,G,V,A,st,h=>by
    unfold gY at h
    split at h
    · exact fun c aa=>vF h c (List.mem_cons_of_mem _ aa)
    · cases h
theorem Y8{cB:List (Option Nat)} {G:fa} {ps:List (Nat×Bool)} {d:Nat} {x:bh} (cy:dS cB G st.L) (rF:∀ p∈ps,k6 cB st.L p):dk X n ⟨(d,.a x) :: gP ps G st.L,st.H⟩ ⟨(d,.may true x) :: st.L,st.H⟩:=fun _ _ _ _ _ _ ⟨ks,env,B,ai,H,cp,al⟩=>⟨ks,env,B,ai,H,cp,⟨al.size,al.defs,fun q sv aj=>by
  rw[cn]at aj
  split at aj
  · rename_i e
    subst e;cases aj;obtain⟨v,kU,iz⟩:=al.has q (.a x) (by rw[cn,if_pos rfl]);exact⟨v,kU,fun _=>iz,fun h=>by cases h⟩
  · rename_i e
    rcases Mz cy rF q sv aj with h | ⟨y,rfl,h⟩
    · exact al.has q sv (by rw[cn,if_neg e]; exact h)
    · obtain⟨v,kU,iz⟩:=al.has q (.a y) (by rw[cn,if_neg e]; exact h)
      exact⟨v,kU,fun _=>iz,fun h=>by cases h⟩,al.heap,al.aU,al.sub,al.new,al.dt,al.base,al.dX⟩⟩
theorem Y9{j k8 d:Nat} {want:Bool} {x:bh} (dx:o.guard=some (j,want)) (dU:o.dst=some d) (aF:nth (ef ops) j=some (some k8)) (aV:ie st.L k8 want=some false) (ax:Nat.blt d n=true):yD X n ops o st ⟨(d,.may false x) :: st.L,st.H⟩:=by
  intro R W aD ks env B ai H a w al KK bZ;have hw:=yo (l:=ops) al dx aF aV;exact .inr ⟨hw,by rw[dU]; exact bZ _ _ _ _ _ _ (al.set (sv:=.may false x) ⟨(fun h=>by cases h),fun _=>rfl⟩ (al.cb.put d undef (dK ax)))⟩
theorem lZ(av:X.a7.ok X.P) (eB:yE X n ops Z) (ck:MV X n ops cD Z) {k:List Nat->aM->Option ρ}:∀ {is:List In} {l:List Oper} {G:fa} {V:List Nat} {A:List Bool} {st:aM} {r:ρ},dS (ef ops) G st.L->cU V st0 st->gY X n T cD (ef ops) is l G V A st k=some r->(∀ fk st' cv,cU fk st0 st'->k fk st'=some cv->Z [] cv st')->Z l r st
  | [],l,G,V,A,st,r,cy,h0,h,ab=>by
    have:=Gx (rest:=[]) av eB (fun _ _ _ _ a8=>(k7 (hp a8).1).1) cy h0 h fun eL fk cm st' _ oi a8=>ab fk st' _ oi (hp a8).2
    rwa [List.append_nil]at this
  | .n m :: is,l,G,V,A,st,r,cy,h0,h,ab=>by
    rw[<- take_drop m l];exact Gx av eB (fun _ _ _ _ a8=>vF a8) cy h0 h fun eL fk cm st' mq oi a8=>lZ av eB ck mq oi a8 ab
  | .w x :: is,l,G,V,A,st,r,cy,h0,h,ab=>by
    unfold gY at h
    split at h
    · rename_i c vG e
      have aa:=vF h c List.mem_cons_self;exact eB.en (Mq e aa) (lZ av eB ck dS.nil (h0.trans (Mx e)) h ab)
    · cases h
  | .c ps :: is,o :: l,G,V,A,st,r,cy,h0,h,ab=>by
    unfold gY at h;obtain⟨_,eG,V2,J,U,ag⟩:=rE h0 h;exact eB.step J.vE (lZ av eB ck dS.nil U ag ab)
  | .c _ :: _,[],G,V,A,st,r,cy,h0,h,ab=>by cases h
  | .y :: is,o :: l,G,V,A,st,r,cy,h0,h,ab=>by
    unfold gY at h;obtain⟨_,em,l',d,s,xs,fo,c,args,Gy,aA,bb,ax,aH,aS,aa,h⟩:=MW h;obtain⟨pd,rt,az,aY,bk⟩:=ck em Gy h;have one:∀ {sv:b5},cU (d :: V) st0 ⟨(d,sv) :: st.L,st.H⟩:=fun {sv}=>⟨b6.cons h0.1,h0.2.more fun q ao=>(e9 ao).2⟩
    exact bk aA ⟨B0.none bb.1,bb.2⟩ ax aH aS aa (lZ av eB ck dS.nil one az ab) (lZ av eB ck dS.nil one aY ab)
  | .y :: _,[],G,V,A,st,r,cy,h0,h,ab=>by cases h
  | .BU j :: is,l,G,V,A,st,r,cy,h0,h,ab=>by
    unfold gY at h
    split at h
    · rename_i b e
      have one:∀ {sv:b5},cU (j :: V) st0 ⟨(j,sv) :: st.L,st.H⟩:=fun {sv}=>⟨b6.cons h0.1,h0.2.more fun q ao=>(e9 ao).2⟩
      have U:=(hp h).2;cases b with
      | true=>exact eB.en (dk.again e) (lZ av eB ck dS.nil one U ab)
      | false=>exact eB.en (dk.again e) (lZ av eB ck dS.nil one U ab)
    · cases h
  | .tf :: _,[],G,V,A,st,r,cy,h0,h,ab=>by cases h
  | .tf :: is,o :: l,G,V,A,st,r,cy,h0,h,ab=>by
    unfold gY at h;obtain⟨_,d,j,want,k8,dx,dU,aF,cG,ax,h⟩:=Y6 h;have one:∀ {sv:b5},cU (d :: V) st0 ⟨(d,sv) :: st.L,st.H⟩:=fun {sv}=>⟨b6.cons h0.1,h0.2.more fun q ao=>(e9 ao).2⟩
    rcases h with⟨aV,em,l',s,xs,fo,c,args,Gy,aA,aH,aS,aa,h⟩ | ⟨aV,h⟩
    · have rF:∀ p∈lW (ef ops) G 8 j want,k6 (ef ops) st.L p:=yn cy ⟨k8,aF,aV⟩
      obtain⟨pd,rt,az,aY,bk⟩:=ck em Gy h;have mq:∀ {x:bh},dS (ef ops) ((d,j,want) :: iY (ef ops) d G) ((d,.may true x) :: st.L):=fun {x} e he=>by
        rcases List.mem_cons.1 he with rfl | he
        · exact⟨k8,true,x,aF,by rw[vt cG]; exact aV,by rw[cn,if_pos rfl]⟩
        · exact cy.drop d _ e he
      have back:∀ {x:bh},dk X n ⟨(d,.a x) :: gP (lW (ef ops) G 8 j want) G st.L,st.H⟩ ⟨(d,.may true x) :: st.L,st.H⟩:=fun {x}=>Y8 cy rF
      refine eB.en (st':=⟨gP (lW (ef ops) G 8 j want) G st.L,st.H⟩) (fun _ _ _ _ _ _ ⟨ks,env,B,ai,H,cp,al⟩=>⟨ks,env,B,ai,H,cp,al.view cy rF⟩) ?_;exact bk aA ⟨fun al=>yo (l:=ops) (al.YA cy rF) dx aF aV,dU⟩ ax aH aS aa (eB.en back (lZ av eB ck mq one az ab)) (eB.en back (lZ av eB ck mq one aY ab))
    · have mq:∀ {x:bh},dS (ef ops) ((d,j,want) :: iY (ef ops) d G) ((d,.may false x) :: st.L):=fun {x} e he=>by
        rcases List.mem_cons.1 he with rfl | he
        · exact⟨k8,false,x,aF,by rw[vt cG]; exact aV,by rw[cn,if_pos rfl]⟩
        · exact cy.drop d _ e he
      refine eB.step ?_ (lZ av eB ck (mq (x:=.c (.val (.bool false)))) one h ab);exact Y9 dx dU aF aV ax
  | .f j ks :: is,l,G,V,A,st,r,cy,h0,h,ab=>by
    unfold gY at h
    split at h
    · rename_i pX z e
      have one:∀ {sv:b5},cU (j :: V) st0 ⟨(j,sv) :: st.L,st.H⟩:=fun {sv}=>⟨b6.cons h0.1,h0.2.more fun q ao=>(e9 ao).2⟩
      exact eB.en (dk.again e) (lZ av eB ck dS.nil one (MZ (hp h).2) ab)
    · cases h
  | .x :: _,[],G,V,A,st,r,cy,h0,h,ab=>by cases h
  | .x :: is,o :: l,G,V,A,st,r,cy,h0,h,ab=>by
    unfold gY at h;obtain⟨_,W,eG,J,U,ag⟩:=MY h0 h;exact eB.step J (lZ av eB ck dS.nil U ag ab)
  | .t _ :: _,[],G,V,A,st,r,cy,h0,h,ab=>by cases h
  | .t m :: is,o :: l,G,V,A,st,r,cy,h0,h,ab=>by
    unfold gY at h
    split at h
    · rename_i c vG W e
      exact eB.step (MP av e (vF h c List.mem_cons_self)).c.vE (lZ av eB ck dS.nil (h0.trans (MQ e)) h ab)
    · cases h
end
def j0:List Nat->cQ->cQ
  | [],_=>[]
  | s :: r,L=>match aZ L s with
    | some v=>match v.free with
      | true=>(s,v) :: j0 r L
      | false=>j0 r L
    | none=>j0 r L
def fV:List Nat->bE->bE
  | [],_=>[]
  | s :: r,H=>match aZ H s with
    | some v=>match v.free with
      | true=>(s,v) :: fV r H
      | false=>fV r H
    | none=>fV r H
def M0{α:Type} (L:List (Nat×α)) (s:Nat):Bool:=match aZ L s with
  | some _=>true
  | none=>false
def vH{α:Type} (V ks:List Nat) (L:List (Nat×α)):List (Nat×α)->Bool
  | []=>true
  | p :: r=>match eA p.1 V,eA p.1 ks,M0 L p.1 with
    | false,false,true=>vH V ks L r
    | _,_,_=>false
def ew{α:Type}:List (Nat×α)->List Nat
  | []=>[]
  | p :: r=>p.1 :: ew r
def er.ids(bA:er):List Nat:=ew bA.L++ew bA.H
def er.S(bA:er) (st:aM) (d:bA.D):aM:=⟨(ml bA.L (lU bA.T d)).1++j0 bA.p5 st.L,(iV bA.H (ml bA.L (lU bA.T d)).2).1++fV bA.jY st.H⟩
def er.get(bA:er) (st:aM) (V:List Nat) (st':aM):Option bA.D:=
  match vH V (ew bA.L) st'.L (j0 bA.p5 st.L),vH V (ew bA.H) st'.H (fV bA.jY st.H),n4 (ew bA.H++ew (fV bA.jY st.H))with
  | true,true,true=>match pS st'.H (ew bA.H)with
    | some h=>match sX (T:=[]) bA.H h ()with
      | some u=>match BA bA.L st'.L u with
        | some u=>some (oc bA.T u)
        | none=>none
      | none=>none
    | none=>none
  | _,_,_=>none
theorem yF{s:Nat} {v:b5}:∀ {ks:List Nat} {L:cQ},aZ (j0 ks L) s=some v->(s,v)∈j0 ks L/\aZ L s=some v/\v.free=true
  | [],_,h=>by cases h
  | k :: r,L,h=>by
    unfold j0 at h ⊢
    split at h
    · rename_i u e
      split at h
      · rename_i az
        rw[cn]at h
        split at h
        · rename_i a1; cases h; exact⟨by rw[a1]; exact List.mem_cons_self,by rw[a1]; exact e,az⟩
        · obtain⟨J,U⟩:=yF h; exact⟨List.mem_cons_of_mem _ J,U⟩
      · exact yF h
    · exact yF h
theorem ti{p:Nat×b5}:∀ {ks:List Nat} {L:cQ},p∈j0 ks L->aZ L p.1=some p.2/\p.2.free=true
  | [],_,h=>by cases h
  | k :: r,L,h=>by
    unfold j0 at h
    split at h
    · rename_i u e
      split at h
      · rename_i az
        rcases List.mem_cons.1 h with rfl | h
        · exact⟨e,az⟩
        · exact ti h
      · exact ti h
    · exact ti h
theorem nB{p:Nat×cA}:∀ {ks:List Nat} {L:bE},p∈fV ks L->aZ L p.1=some p.2/\p.2.free=true
  | [],_,h=>by cases h
  | k :: r,L,h=>by
    unfold fV at h
    split at h
    · rename_i u e
      split at h
      · rename_i az
        rcases List.mem_cons.1 h with rfl | h
        · exact⟨e,az⟩
        · exact nB h
      · exact nB h
    · exact nB h
theorem Za{p:Nat×b5} {ks:List Nat} {L:cQ} (h:p∈j0 ks L):aZ (j0 ks L) p.1=some p.2:=by
  obtain⟨J,U⟩:=ti h
  induction ks with
  | nil=>cases h
  | cons k r bJ=>
    unfold j0 at h ⊢
    split at h
    · rename_i u e
      split at h
      · rename_i az
        rw[cn]
        split
        · rename_i a1; rw[<- a1,J]at e; cases e; rfl
        · rename_i a1
          rcases List.mem_cons.1 h with rfl | h
          · exact absurd rfl a1
          · exact bJ h
      · exact bJ h
    · exact bJ h
theorem Zb{p:Nat×cA} {ks:List Nat} {L:bE} (h:p∈fV ks L):aZ (fV ks L) p.1=some p.2:=by
  obtain⟨J,U⟩:=nB h
  induction ks with
  | nil=>cases h
  | cons k r bJ=>
    unfold fV at h ⊢
    split at h
    · rename_i u e
      split at h
      · rename_i az
        rw[cn]
        split
        · rename_i a1; rw[<- a1,J]at e; cases e; rfl
        · rename_i a1
          rcases List.mem_cons.1 h with rfl | h
          · exact absurd rfl a1
          · exact bJ h
      · exact bJ h
    · exact bJ h
theorem yG{α:Type} {V ks:List Nat} {L:List (Nat×α)} {p:Nat×α}:∀ {K:List (Nat×α)},vH V ks L K=true->p∈K->eA p.1 V=false/\eA p.1 ks=false/\∃ v,aZ L p.1=some v
  | [],_,h=>by cases h
  | q :: r,h,hm=>by
    unfold vH at h
    split at h
    · rename_i J U ag
      rcases List.mem_cons.1 hm with rfl | hm
      · refine⟨J,U,?_⟩
        unfold M0 at ag
        split at ag
        · rename_i v e; exact⟨v,e⟩
        · cases ag
      · exact yG h hm
    · cases h
theorem Gz{α:Type} {q:Nat}:∀ {L cY:List (Nat×α)},eA q (ew L)=false->aZ (L++cY) q=aZ cY q
  | [],_,_=>rfl
  | p :: r,cY,h=>by
    obtain⟨J,U⟩:=e9 h;rw[List.cons_append,cn,if_neg J];exact Gz U
theorem B1{α:Type} {q:Nat} {v:α}:∀ {L cY:List (Nat×α)},aZ (L++cY) q=some v->aZ L q=some v\/eA q (ew L)=false/\aZ cY q=some v
  | [],_,h=>.inr ⟨rfl,h⟩
  | p :: r,cY,h=>by
    rw[List.cons_append,cn]at h;rw[cn]
    split at h
    · rename_i e; rw[if_pos e]; exact .inl h
    · rename_i e
      rw[if_neg e]
      rcases B1 h with h | ⟨J,U⟩
      · exact .inl h
      · exact .inr ⟨o9.2 ⟨e,J⟩,U⟩
theorem GA:∀ (l:List (Nat×jX)) {T:List Type} (u:dq (vd l T)),ew (ml l u).1=ew l
  | [],_,_=>rfl
  | p :: r,_,u=>by
    show p.1 :: ew _=p.1 :: ew _;rw[GA r]
theorem GB:∀ (l:List (Nat×gX)) {T:List Type} (u:dq (lV l T)),ew (iV l u).1=ew l
  | [],_,_=>rfl
  | p :: r,_,u=>by
    show p.1 :: ew _=p.1 :: ew _;rw[GB r]
theorem yH:∀ {ks:List Nat} {h a8:bE},pS h ks=some a8->ew a8=ks
  | [],_,_,e=>by cases e; rfl
  | k :: ks,h,a8,e=>by
    unfold pS at e
    split at e
    · rename_i J U
      split at e
      · cases e
        show k :: ew _=_;rw[yH U]
      · cases e
    · cases e
theorem GC{α:Type} {q:Nat}:∀ {L:List (Nat×α)},eA q (ew L)=false->aZ L q=none
  | [],_=>rfl
  | p :: r,h=>by
    obtain⟨J,U⟩:=e9 h;rw[cn,if_neg J];exact GC U
theorem B3{h:bE} {K:bE}:∀ {J:bE},iR h J->(∀ p∈K,aZ h p.1=some p.2)->n4 (ew J++ew K)=true->iR h (J++K):=by
  have base:∀ K:bE,(∀ p∈K,aZ h p.1=some p.2)->n4 (ew K)=true->iR h K:=by
    intro K
    induction K with
    | nil=>exact fun _ _=>.nil
    | cons p r bJ=>
      intro ab a6;have hJ:(!(ew r).elem p.1&&n4 (ew r))=true:=a6;simp only[Bool.and_eq_true,Bool.not_eq_true']at hJ;exact .cons (ab p List.mem_cons_self) (GD hJ.1) (bJ (fun q ao=>ab q (List.mem_cons_of_mem _ ao)) hJ.2)
  intro aj
  induction aj with
  | nil=>exact fun ab a6=>base K ab a6
  | cons lB o5 au bJ=>
    rename_i k b r;intro ab a6;have hJ:(!(ew r++ew K).elem k&&n4 (ew r++ew K))=true:=a6;simp only[Bool.and_eq_true,Bool.not_eq_true']at hJ;refine .cons lB ?_ (bJ ab hJ.2);refine GD ?_
    have:∀ l:bE,ew (l++K)=ew l++ew K:=by
      intro l
      induction l with
      | nil=>rfl
      | cons p l bJ=>show p.1 :: ew (l++K)=_; rw[bJ]; rfl
    show(ew (r++K)).elem k=false;rw[this];exact hJ.1
where GD {q:Nat}:∀ {L:bE},(ew L).elem q=false->aZ L q=none
  | [],_=>rfl
  | p :: r,h=>by
    have a8:(p.1 :: ew r).elem q=false:=h;rw[List.elem_cons]at a8
    split at a8
    · cases a8
    · rename_i e
      rw[cn,if_neg (by simpa using e)];exact GD a8
def j1(bA:er) (st ql:aM):Prop:=(∀ p∈j0 bA.p5 st.L,eA p.1 (ew bA.L)=false->aZ ql.L p.1=some p.2)/\∀ p∈fV bA.jY st.H,eA p.1 (ew bA.H)=false->aZ ql.H p.1=some p.2
theorem j1.self(bA:er) (st:aM):j1 bA st st:=⟨fun p an _=>(ti an).1,fun p an _=>(nB an).1⟩
theorem j1.step(bA:er) (st:aM) (d:bA.D):j1 bA st (bA.S st d):=⟨fun p an ab=>by
  show aZ (_++_) p.1=_;rw[Gz (by rw[GA]; exact ab)];exact Za an,fun p an ab=>by
  show aZ (_++_) p.1=_;rw[Gz (by rw[GB]; exact ab)];exact Zb an⟩
theorem er.hG{X:bq} {n:Nat} {bA:er} {st ql st':aM} {V:List Nat} {d:bA.D} (hw:j1 bA st ql) (aj:cU V ql st') (h:bA.get st V st'=some d):dk X n st' (bA.S st d):=by
  unfold er.get at h
  split at h
  · rename_i jk e0 k3
    split at h
    · rename_i h0 ez
      split at h
      · rename_i u aC
        split at h
        · rename_i om a1
          cases h;obtain⟨J,U⟩:=rv aC;obtain⟨ag,ay⟩:=BB a1;have Zc:∀ p∈j0 bA.p5 st.L,aZ st'.L p.1=some p.2:=fun p an=>by
            obtain⟨g1,g2,v,g3⟩:=yG jk an;obtain⟨u,g4,g5⟩:=aj.1 p.1 v g1 g3;rw[hw.1 p an g2]at g4;cases g4;rw[g3,g5 (ti an).2]
          have tj:∀ p∈fV bA.jY st.H,aZ st'.H p.1=some p.2:=fun p an=>by
            obtain⟨g1,g2,v,g3⟩:=yG e0 an;obtain⟨u,g4,g5⟩:=aj.2 p.1 v g1 g3;rw[hw.2 p an g2]at g4;cases g4;rw[g3,g5 (nB an).2]
          rintro R W aD M a w ⟨ks,env,B,ai,H,cp,al⟩;have fT:iR st'.H (h0++fV bA.jY st.H):=B3 (sB ez) tj (by rw[yH ez]; exact k3);obtain⟨H',b7⟩:=al.en (st':=⟨[],h0++fV bA.jY st.H⟩) .nil fT;refine⟨ks,env,B,ai,H',cp,b7.size,b7.defs,fun q sv ao=>?_,?_,b7.aU,b7.sub,b7.new,b7.dt,b7.base,b7.dX⟩
          · have nx:aZ ((ml bA.L (lU bA.T (oc bA.T om))).1++j0 bA.p5 st.L) q=some sv:=ao
            rw[sV]at nx
            rcases B1 nx with nx | ⟨_,nx⟩
            · obtain⟨x,aO,aK⟩:=ay q sv nx
              obtain⟨v,bY,c3⟩:=al.has q x aO;exact⟨v,bY,aK _ _ _ _ c3⟩
            · obtain⟨aO,_⟩:=yF nx
              exact al.has q sv (Zc _ aO)
          · show bt env B ai ((iV bA.H (ml bA.L (lU bA.T (oc bA.T om))).2).1++fV bA.jY st.H) H'
            rw[sV,ag];obtain⟨H1,H2,e,h9,hK⟩:=bt.split (l:=h0) b7.heap;rw[e];exact(U _ _ _ _ h9).append hK
        · cases h
      · cases h
    · cases h
  · cases h
where bt.split {env:Nat->Loc} {B:Nat->Prop} {w:World}:∀ {l l':bE} {H:List bc},bt env B w (l++l') H->∃ H1 H2,H=H1++H2/\bt env B w l H1/\bt env B w l' H2
  | [],_,H,h=>⟨[],H,rfl,rfl,h⟩
  | _ :: _,_,_,⟨c,H',e,J,U⟩=>by
    obtain⟨H1,H2,a1,h9,hK⟩:=bt.split U;exact⟨c :: H1,H2,by rw[e,a1]; rfl,⟨c,H1,rfl,J,h9⟩,hK⟩
theorem er.ks(bA:er) (st:aM) (d:bA.D):cU bA.ids st (bA.S st d):=by
  refine⟨fun q v ao ad=>?_,fun q v ao ad=>?_⟩
  · rcases B1 (show aZ (_++_) q=some v from ad)with h | ⟨_,h⟩
    · have:=GC (L:=(ml bA.L (lU bA.T d)).1) (q:=q) (by rw[GA]; exact(oj.1 ao).1)
      rw[this]at h;cases h
    · obtain⟨J,U,ag⟩:=yF h
      exact⟨v,U,fun _=>rfl⟩
  · rcases B1 (show aZ (_++_) q=some v from ad)with h | ⟨_,h⟩
    · have:=GC (L:=(iV bA.H (ml bA.L (lU bA.T d)).2).1) (q:=q) (by rw[GB]; exact(oj.1 ao).2)
      rw[this]at h;cases h
    · exact⟨v,B4 h,fun _=>rfl⟩
where B4 {s:Nat} {v:cA}:∀ {ks:List Nat} {L:bE},aZ (fV ks L) s=some v->aZ L s=some v
  | [],_,h=>by cases h
  | k :: r,L,h=>by
    unfold fV at h
    split at h
    · rename_i u e
      split at h
      · rw[cn]at h
        split at h
        · rename_i a1; cases h; rw[a1]; exact e
        · exact B4 h
      · exact B4 h
    · exact B4 h
end

section
def M1(X:bq) (L:cQ) (t:TypeId) (N:Nat) (ps:List (Nat×Operand)):Option (Bool×bh):=
 match X.a7.find t with
 | some ⟨⟨.slice e,_,_,_⟩,_⟩=>match X.a7.find e with
  | some ⟨bp,some g⟩=>match Nat.ble (N * bp.size) 16777216,Nat.beq ps.length N,xx X L bp.size ps 0 with
   | true,true,some (c,cs)=>match xy g N cs with
    | some (c',l)=>some (c&&c',.c (.bd g l (some N)))
    | none=>none
   | _,_,_=>none
  | _=>none
 | _=>none
def GF(X:bq) (L:cQ):Op->Option (Bool×bh)
 | .buildSlice t N ps=>M1 X L t N ps.toList
 | _=>none
section
variable {X:bq} {n:Nat} {st:aM} {o:Oper} {d:Nat}
theorem Zd(av:X.a7.ok X.P) {c:Bool} {bx:bh} (dx:o.guard=none) (dU:o.dst=some d) (ax:Nat.blt d n=true) (ae:GF X st.L o.op=some (c,bx)) (aa:c=true):p6 X n o (fun _=>true) st ⟨(d,.a bx) :: st.L,st.H⟩:=by
 intro R W aD ks env B ai H a w h KK lo bZ;cases aA:o.op with
 | buildSlice t N ps=>
 rw[aA]at ae;unfold GF M1 at ae;dsimp only at ae
 split at ae
 ·rename_i e s1 s2 xA s4 az
  split at ae
  ·rename_i bp g dv
   split at ae
   ·rename_i ft cs hle gH hpc
    split at ae
    ·rename_i cR l hdn
     cases ae;simp only[Bool.and_eq_true]at aa;obtain⟨dw,dP,iQ⟩:=(cj.get av dv).g g rfl;have me:=(cj.get av dv).bs;dsimp only at dw dP me;obtain⟨vs,J,U,ag⟩:=EU h hpc aa.1;obtain⟨ay,v1,v2,aO,aK⟩:=ET ag hdn aa.2;have nj:vs.length=N:=by
      have:=congrArg List.length J
      simp only[List.length_map,List.length_zipIdx]at this;rw[<- this];exact Nat.eq_of_beq_eq_true gH
     have sy:(vs.flatMap fun v=>v.cells.toList).length=N * bp.size:=by
      rw[<- nj]
      clear J ag aO nj
      induction vs with
      | nil=>simp
      | cons v vs bJ=>rw[List.flatMap_cons,List.length_append,bJ (fun u hu=>U u (List.mem_cons_of_mem _ hu)),List.length_cons,Nat.add_mul,Nat.one_mul,Array.length_toList,U v (by simp),Nat.add_comm]
     have iz:v2=[]:=by
      have aC:=congrArg List.length aO;rw[List.length_append,bP.ln aK,ay,sy,dw]at aC;exact List.eq_nil_of_length_eq_zero (by omega)
     subst iz;rw[List.append_nil]at aO;have dW:=KX (w:=w) (N:=N) (vs:=vs) (cj.get av az).bs.1 me (z:=g.eh) dP (by rw[<- bP.length (bP.eh (B:=B) (w:=ai) g)]at dw; exact dw) (by rw[<- dw]; exact iQ) nj (Nat.le_of_ble_eq_true hle) U;have kz:ps.map (fun p=>(p.1,a.eval p.2))=((vs.zipIdx.map fun p=>(p.2,p.1)).toArray):=by
      rw[<- J,<- List.map_toArray]
     have Ze:N<=maxLen:=by
      have:=Nat.le_of_ble_eq_true hle
      have bY:N<=N * bp.size:=Nat.le_mul_of_pos_right _ (by rw[<- dw]; exact iQ);exact Nat.le_trans (Nat.le_trans bY this) (by decide)
     have bX:=bK.En (size:=g.size) (m:=N) (h.aU.AA (vs.flatMap fun v=>v.cells.toList) e) (by rw[sy,dw]) (by
      have:=Nat.le_of_ble_eq_true hle
      have bY:N<=N * bp.size:=Nat.le_mul_of_pos_right _ (by rw[<- dw]; exact iQ);omega)
     refine hv h.cb dx dU (dK ax) (v:=.slice (some ⟨w.heap.size,0,none⟩) N N) (w':=w.alloc (.cells (vs.flatMap fun v=>v.cells.toList).toArray e)) (by
      simp only[execOp,aA];rw[kz]
      simp[dW]) fun aW aJ=>?_
     have di:=bX.en (List.sublist_cons_self _ _);have dp:fJ B ai (fun q=>B q\/q=w.heap.size) (w.alloc (.cells (vs.flatMap fun v=>v.cells.toList).toArray e)):=⟨fun q ao=>.inl ao,fun q ao=>bX.below.block q (.inr ao)⟩
     have aL:∀ q,R q\/B q->q < w.heap.size:=fun q ao=>h.aU.base q ao
     have c6:w.heap.size < (w.alloc (.cells (vs.flatMap fun v=>v.cells.toList).toArray e)).heap.size:=by simp
     refine bZ aW _ env (fun q=>B q\/q=w.heap.size) (w.alloc (.cells (vs.flatMap fun v=>v.cells.toList).toArray e)) H ⟨aJ.size,aJ.defs,fun s u aj=>?_,h.heap.up dp,?_,fun q ao=>.inl (h.sub q ao),fun q ao=>?_,h.dt,h.base.trans ⟨bX.below.os,bX.below.tape,bX.below.output,bX.below.size,fun q ao=>bX.below.block q (.inl ao)⟩,fun i x ah=>(h.dX i x ah).up dp⟩ (fun q ao=>.inl ao) bX.below (fun _ aa _=>aa)
     ·rw[cn]at aj
      split at aj
      ·rename_i e; subst e; cases aj
       refine⟨_,aJ.this,?_⟩;have hm:=Reads.AI bX List.mem_cons_self;rw[<- ay]at hm ⊢;exact⟨some ⟨w.heap.size,0,none⟩,l.length,_,rfl,Nat.le_refl _,by rw[ay]; exact Ze,fun k ab=>by cases ab; rfl,Flat.mono (fun _ _ az=>bP.up dp az) (by rw[aO]at *; exact aK),hm,fun b p _ e=>.inr (by cases e; rfl)⟩
      ·rename_i cG
       obtain⟨eF,bY,c3⟩:=h.has s u aj;exact⟨eF,aJ.other cG bY,c3.up dp⟩
     ·refine⟨dm.refl _ _,fun q ao=>?_,fun c aa=>(di.ok c aa).base fun b ae cH=>?_,di.apart⟩
      ·rcases ao with ao | ao | ao
       ·exact Nat.lt_trans (aL q (.inl ao)) c6
       ·exact Nat.lt_trans (aL q (.inr ao)) c6
       ·rw[ao]; exact c6
      ·rcases cH with cH | cH | cH
       ·exact((di.ok c aa).lt ae).1 (.inl cH)
       ·exact((di.ok c aa).lt ae).1 (.inr cH)
       ·have:=((h.aU.ok c aa).lt ae).2
        rw[cH]at this;exact Nat.lt_irrefl _ this
     ·rcases ao with ao | ao
      ·exact(h.new q ao).imp_right fun a8=>⟨a8.1,a8.2.e6 (bX.below.block q (.inr ao))⟩
      ·exact .inr ⟨fun dO=>Nat.lt_irrefl _ (by have:=aL q (.inl dO); rw[ao]at this; exact this),(bX.ok _ List.mem_cons_self).cells rfl (by rw[ao]; rfl)⟩
    ·cases ae
   ·cases ae
  ·cases ae
 ·cases ae
 | _=>rw[aA]at ae; cases ae
end
end

section
theorem Zf{es:List MapEntry} {j:Nat} {e:MapEntry} (aj:(es.map (·.born)).Pairwise (· < ·)) (aF:es[j]?=some e):es.toArray.findIdx? (fun x=>(x.born:Int) == (e.born:Int))=some j:=by
 rw[List.findIdx?_toArray];obtain⟨aL,he⟩:=List.getElem?_eq_some_iff.1 aF;rw[List.findIdx?_eq_some_iff_getElem];refine⟨aL,by rw[he]; simp,fun k ab=>?_⟩;have J:=List.pairwise_iff_getElem.1 aj k j (by simp; omega) (by simpa using aL) ab;simp only[List.getElem_map]at J;rw[he]at J;simp only[beq_iff_eq];omega
theorem M3{es:List MapEntry} {k v:Value}:∀ (j:Nat),(es.modify j fun e=>{ e with key:=k }).modify j (fun e=>{ e with val:=v })=es.modify j fun e=>{ e with key:=k,val:=v }:=by
 induction es with
 | nil=>intro j; simp
 | cons e es bJ=>
  intro j;cases j with
  | zero=>simp
  | succ j=>simp only[List.modify_succ_cons,bJ j]
theorem Zg{es:List MapEntry} {e:MapEntry} {f:MapEntry->MapEntry}:(es++[e]).modify es.length f=es++[f e]:=by
 induction es with
 | nil=>simp
 | cons x es bJ=>simp[bJ]
theorem h7.M4{P:Program} {t:TypeId} {B:Nat->Prop} {w:World} {gk bO:ba} (bZ:nz P t gk) {z:gk.D} {vv:Value} {c:Nat} (b0:World):∀ {l:List (gk.D×bO.D)} {es:List MapEntry} (i:Nat),h7 B w gk bO l es->(Instr.findAsking t (.agg (gk.cK z).toArray) es i).run P b0=.ok none b0 ->
  (Instr.findAsking t (.agg (gk.cK z).toArray) (es++[MapEntry.mk (.agg (gk.cK z).toArray) vv c]) i).run P b0=.ok (some (i+es.length,vv)) b0
 | [],_,i,h,_=>by
  rw[show _=[] from h];show(Instr.findAsking t _ [MapEntry.mk (.agg (gk.cK z).toArray) vv c] i).run P b0=_;unfold Instr.findAsking;simp only[Sem.run_bind,BS bZ z z b0,Result.andThen_ok,(beq_iff z z bZ.eq.key).2 rfl]
  simp
 | x :: l,_,i,⟨e,r,he,J,U,ag⟩,az=>by
  subst he;have ab:=eQ.key bZ.pa bZ.eq.key J;show(Instr.findAsking t _ (e :: (r++[MapEntry.mk (.agg (gk.cK z).toArray) vv c])) i).run P b0=_;unfold Instr.findAsking at az ⊢;rw[ab]at az ⊢;simp only[Sem.run_bind,BS bZ z x.1 b0,Result.andThen_ok]at az ⊢;cases ae:gk.beq z x.1 with
  | true=>rw[ae]at az; simp at az
  | false=>
   rw[ae]at az
   have:=h7.M4 bZ b0 (i+1) ag (by simpa using az) (vv:=vv) (c:=c)
   simpa [Nat.add_assoc,Nat.add_comm 1] using this
section
variable {X:bq} {n:Nat} {st:aM}
theorem M5(av:X.a7.ok X.P) {t iZ ki:TypeId} {bp eK:bo} {gk bO:ba} {id:Nat} {l:List (gk.D×bO.D)} {qi:Option (List MapEntry×Nat)} {z:gk.D} (bZ:nz X.P iZ gk) (aY:X.a7.find t=some bp) (dv:bp.bs.desc=.map iZ ki) (he:X.a7.find ki=some eK) (b8:aZ st.H id=some (.mp gk bO l qi))
  {R:Nat->Prop} {W:World} {aD:eT} {ks:List Nat} {env:Nat->Loc} {B:Nat->Prop} {ai:World} {H:List bc} {a:Act} {w:World} (al:bI X R W aD n ks env B ai H st a w) :
  ∃ v0,(∀ b,env id=.blk b->(Instr.lookup t (.map (some b)) (.agg (gk.cK z).toArray) false).run X.P w=.ok v0 w)/\((∀ B w,eQ B w bO bO.zero eK.bs.zero)->eQ B ai bO ((hF gk bO l z).getD bO.zero) v0):=by
 obtain⟨dz,K,⟨b,es,clock,ae,rfl,lX,di,_⟩,fp⟩:=al.heap.gx b8;have kF:=(al.aU.ok _ fp.more.mem).2;have aC:=(cj.get av aY).bs.1;rw[dv]at aC;obtain⟨du,cq⟩:=bZ.str;have gh:=bC.sf (cj.get av he).bs w;have pc:∃ v,(Instr.lookup t (.map (some b)) (.agg (gk.cK z).toArray) false).run X.P w=.ok v w/\((∀ B w,eQ B w bO bO.zero eK.bs.zero)->eQ B ai bO ((hF gk bO l z).getD bO.zero) v):=by
  unfold Instr.lookup;simp only[Sem.run_bind,run_underlying aC,Result.andThen_ok,MapKept.run_getObj_map kF,bZ.vw,Sem.run_pure]
  rcases lX.ys bZ w (z:=z) 0 with⟨ay,aO⟩ | ⟨y,j,v,ay,aO,aK,_⟩
  ·refine⟨eK.bs.zero,?_,fun bk=>by rw[ay]; exact bk _ _⟩
   simp[pb cq aO,gh,Result.andThen]
  ·refine⟨v,?_,fun _=>by rw[ay]; exact aK⟩
   simp[pb cq aO,Result.andThen]
 obtain⟨v,J,U⟩:=pc;exact⟨v,fun iM gm=>by rw[ae]at gm; cases gm; exact J,U⟩
theorem M6(av:X.a7.ok X.P) {ops:Array Oper} {bj bM cd:Oper} {d1 d2:Nat} {t iZ ki:TypeId} {bp eK:bo} {gk bO:ba} {u x vI y:Operand} {id:Nat} {l:List (gk.D×bO.D)} {qi:Option (List MapEntry×Nat)} {z:gk.D} {g g2 c cR:Bool} {fx eZ:bh} {gQ:bO.D} (bZ:nz X.P iZ gk)
  (GG:bj.op=.mapEntry t u x) (uv:bj.guard=none/\bj.dst=some d1) (lI:Nat.blt d1 n=true) (GH:bM.op=.extract (.tmp d1) 1) (AF:bM.guard=none/\bM.dst=some d2) (kV:Nat.blt d2 n=true) (GI:cd.op=.entryStore t vI (.tmp d2) y) (si:cd.guard=none/\cd.dst=none)
  (aY:X.a7.find t=some bp) (dv:bp.bs.desc=.map iZ ki) (he:X.a7.find ki=some eK)
  (hu:bw X st.L u=some (true,.c (.eP id))) (ah:bw X st.L x=some (g,fx)) (aV:g=true) (lz:dec gk fx.cells=some (c,z,[])) (aa:c=true) (mo:lT gk fx=true) (b8:aZ st.H id=some (.mp gk bO l qi))
  (qb:bw X ((d2,b5.a (.c .dead)) :: (d1,b5.a (.c .dead)) :: st.L) vI=some (true,.c (.eP id))) (aH:bw X ((d2,b5.a (.c .dead)) :: (d1,b5.a (.c .dead)) :: st.L) y=some (g2,eZ)) (dP:g2=true) (n8:dec bO eZ.cells=some (cR,gQ,[])) (jg:cR=true) (ea:lT bO eZ=true)
  {R:Nat->Prop} {W:World} {aD:eT} {ks:List Nat} {env:Nat->Loc} {B:Nat->Prop} {ai:World} {H:List bc} {a:Act} {w:World} (al:bI X R W aD n ks env B ai H st a w) {v0:Value} (yI:∀ b,env id=.blk b->(Instr.lookup t (.map (some b)) (.agg (gk.cK z).toArray) false).run X.P w=.ok v0 w) {G G3:World->Prop} (cy:∀ b0,dm (fun k=>R k\/B k) ai b0->(∀ b,env id=.blk b->(Instr.lookup t (.map (some b)) (.agg (gk.cK z).toArray) false).run X.P b0=.ok v0 b0)->G b0) (Zh:∀ b0,dm (fun k=>R k\/B k) ai b0->G3 b0) {KK:Act->World->Prop}
  (GJ:∀ aW w' H',bI X R W aD n ks env B ai H' ⟨(d2,.a (.c .dead)) :: (d1,.a (.c .dead)) :: st.L,eO id (.mp gk bO (ib gk bO l z gQ) none) st.H⟩ aW w'->KK aW w') :
  eW X.P ops bj (fun aq b0=>G b0/\eW X.P ops bM (fun a2 w2=>G w2/\eW X.P ops cd (fun a3 mr=>G3 mr/\KK a3 mr) a2 w2) aq b0) a w:=by
 obtain⟨jj,J,b,ae,rfl⟩:=al.aE hu rfl;obtain⟨vx,U,ag⟩:=al.aE ah aV;have hl:=eQ.key bZ.pa bZ.eq.key (eQ.u2 lz aa mo ag);rw[hl]at U;obtain⟨dz,K,⟨b',es,clock,eX,rfl,lX,di,_⟩,fp⟩:=al.heap.gx b8;rw[ae]at eX;cases eX;have kF:=(al.aU.ok _ fp.more.mem).2;have aC:=(cj.get av aY).bs.1;rw[dv]at aC;obtain⟨du,cq⟩:=bZ.str;have gh:=bC.sf (cj.get av he).bs w;have dR:b < w.heap.size:=(Array.getElem?_eq_some_iff.1 kF).1;have yJ:=yI b ae
 -- what the first operation leaves
 have pc:∃ (l0:List MapEntry) (mV j:Nat) (e:MapEntry) (v:Value),(Instr.mapEntry t (.map (some b)) (.agg (gk.cK z).toArray)).run X.P w=.ok (.tuple #[v,.int .i64 (e.born:Int)]) { w with heap:=w.heap.setIfInBounds b (.map l0.toArray mV) }/\l0[j]?=some e/\(l0.map (·.born)).Pairwise (· < ·)/\(Instr.lookup t (.map (some b)) (.agg (gk.cK z).toArray) false).run X.P { w with heap:=w.heap.setIfInBounds b (.map l0.toArray mV) }=.ok v0 { w with heap:=w.heap.setIfInBounds b (.map l0.toArray mV) } /\
   ∀ vy,eQ B ai bO gQ vy->h7 B ai gk bO (ib gk bO l z gQ) (l0.modify j fun e=>{ e with val:=vy })/\Stamped (l0.modify j fun e=>{ e with val:=vy }) mV:=by
  unfold Instr.mapEntry;simp only[Sem.run_bind,run_underlying aC,Result.andThen_ok,MapKept.run_getObj_map kF,bZ.vw]
  rcases lX.ys bZ w (z:=z) 0 with⟨aK,bY⟩ | ⟨q,j,v,aK,bY,c3,hB⟩
  ·refine⟨es++[MapEntry.mk (.agg (gk.cK z).toArray) eK.bs.zero clock],clock+1,es.length,MapEntry.mk (.agg (gk.cK z).toArray) eK.bs.zero clock,eK.bs.zero,?_,by simp,?_,?_,fun vy fN=>⟨?_,?_⟩⟩
   ·simp only[pb cq bY,Result.andThen_ok,Sem.run_bind,gh,MapKept.run_setObj_map _ kF]
    simp[goInt]
   ·rw[List.map_append,List.pairwise_append]
    exact⟨di.1,by simp,fun p an q ao=>by simp at ao; subst ao; exact di.2 p an⟩
   ·have pM:v0=eK.bs.zero:=by
     unfold Instr.lookup at yJ;simp only[Sem.run_bind,run_underlying aC,Result.andThen_ok,MapKept.run_getObj_map kF,bZ.vw,Sem.run_pure]at yJ
     simp[pb cq bY,gh,Result.andThen]at yJ
     exact yJ.symm
    have B5:({ w with heap:=w.heap.setIfInBounds b (.map (es++[MapEntry.mk (.agg (gk.cK z).toArray) eK.bs.zero clock]).toArray (clock+1)) }:World).heap[b]?=some (.map (es++[MapEntry.mk (.agg (gk.cK z).toArray) eK.bs.zero clock]).toArray (clock+1)):=by simp[dR]
    have Zi:(Instr.findAsking iZ (.agg (gk.cK z).toArray) es 0).run X.P { w with heap:=w.heap.setIfInBounds b (.map (es++[MapEntry.mk (.agg (gk.cK z).toArray) eK.bs.zero clock]).toArray (clock+1)) }=.ok none { w with heap:=w.heap.setIfInBounds b (.map (es++[MapEntry.mk (.agg (gk.cK z).toArray) eK.bs.zero clock]).toArray (clock+1)) }:=by
     rcases lX.ys bZ { w with heap:=w.heap.setIfInBounds b (.map (es++[MapEntry.mk (.agg (gk.cK z).toArray) eK.bs.zero clock]).toArray (clock+1)) } (z:=z) 0 with⟨_,k9⟩ | ⟨q,j,v,k9,_⟩
     ·exact k9
     ·rw[aK]at k9; cases k9
    have EN:=lX.M4 bZ _ 0 Zi (vv:=eK.bs.zero) (c:=clock);rw[pM];unfold Instr.lookup;simp only[Sem.run_bind,run_underlying aC,Result.andThen_ok,MapKept.run_getObj_map B5,bZ.vw,Sem.run_pure];have Zj:=pb cq EN;simp only[Zj,Result.andThen_ok]
    simp
   ·rw[Zg]
    rcases lX.vz bZ w fN (z:=z) 0 with⟨_,hr⟩ | ⟨sj,v2,cu,hr,_⟩
    ·rw[hr]
     exact h7.snoc (gk:=gk) (x:=(z,gQ)) (e:=MapEntry.mk (.agg (gk.cK z).toArray) vy clock) (eQ.Gl bZ.pa bZ.eq.key z) fN lX
    ·rw[bY]at hr
     cases hr
   ·rw[Stamped,Bp (f:=fun e=>{ e with val:=vy }) (fun _=>rfl)]
    refine⟨?_,?_⟩
    ·rw[List.map_append,List.pairwise_append]
     exact⟨di.1,by simp,fun p an q ao=>by simp at ao; subst ao; exact di.2 p an⟩
    ·intro p an
     rw[List.map_append,List.mem_append]at an
     rcases an with an | an
     ·exact Nat.lt_succ_of_lt (di.2 p an)
     ·simp at an; omega
  ·-- the entry is there
   obtain⟨ez,tk⟩:∃ ez,es[j]?=some ez:=⟨_,List.getElem?_eq_getElem hB⟩
   have Zk:∀ vy,eQ B ai bO gQ vy->ez.key=.agg (gk.cK z).toArray/\h7 B ai gk bO (ib gk bO l z gQ) (es.modify j fun e=>{ e with key:=.agg (gk.cK z).toArray,val:=vy }):=fun vy fN=>by
    rcases lX.vz bZ w fN (z:=z) 0 with⟨hr,_⟩ | ⟨sj,v2,cu,hr,k9,lY,Zl⟩
    ·rw[bY]at hr
     cases hr
    ·rw[bY]at hr
     have aF:sj=j:=by
      have:=Result.ok.inj hr
      have yK:=Option.some.inj this.1;have M7:=(Prod.mk.inj yK).1;omega
     subst aF;rw[tk]at k9;cases k9;exact⟨lY,Zl⟩
   refine⟨es.modify j fun e=>{ e with key:=.agg (gk.cK z).toArray },clock,j,{ ez with key:=.agg (gk.cK z).toArray },v,?_,?_,?_,?_,fun vy fN=>⟨?_,?_⟩⟩
   ·have rG:ez.key=.agg (gk.cK z).toArray:=by
     rcases lX.vz bZ w c3 (z:=z) 0 with⟨hr,_⟩ | ⟨sj,v2,cu,hr,k9,lY,_⟩
     ·rw[bY]at hr
      cases hr
     ·rw[bY]at hr
      have aF:sj=j:=by
       have:=Result.ok.inj hr
       have yK:=Option.some.inj this.1;have M7:=(Prod.mk.inj yK).1;omega
      subst aF;rw[tk]at k9;cases k9;exact lY
    rw[Nat.zero_add]at bY;have l8:(Instr.keyThatStays (((es.toArray[j]?).map (·.key)).getD (.agg (gk.cK z).toArray)) (.agg (gk.cK z).toArray)).run X.P w=.ok (.agg (gk.cK z).toArray) w:=by
     have:((es.toArray[j]?).map (·.key)).getD (.agg (gk.cK z).toArray)=.agg (gk.cK z).toArray:=by simp[tk,rG]
     rw[this];unfold Instr.keyThatStays;rw[ML fun n=>BT bZ.eq.key z n]
     rfl
    simp only[pb cq bY,Result.andThen_ok,Sem.run_bind,l8,MapKept.run_setObj_map _ kF]
    simp[goInt,tk]
   ·simp[tk]
   ·rw[Bp (f:=fun e=>{ e with key:=.agg (gk.cK z).toArray }) (fun _=>rfl)]
    exact di.1
   ·have rG:ez.key=.agg (gk.cK z).toArray:=by
     rcases lX.vz bZ w c3 (z:=z) 0 with⟨hr,_⟩ | ⟨sj,v2,cu,hr,k9,lY,_⟩
     ·rw[bY]at hr
      cases hr
     ·rw[bY]at hr
      have aF:sj=j:=by
       have:=Result.ok.inj hr
       have yK:=Option.some.inj this.1;have M7:=(Prod.mk.inj yK).1;omega
      subst aF;rw[tk]at k9;cases k9;exact lY
    have Zm:(es.modify j fun e=>{ e with key:=.agg (gk.cK z).toArray })=es:=by
     apply List.ext_getElem?
     intro q;rw[List.getElem?_modify]
     by_cases ao:j=q
     ·subst ao
      rw[tk]
      simp[<- rG]
     ·simp[ao]
    rw[Zm];have ja:({ w with heap:=w.heap.setIfInBounds b (.map es.toArray clock) }:World)=w:=by
     have:w.heap.setIfInBounds b (.map es.toArray clock)=w.heap:=by
      apply Array.ext_getElem?
      intro q
      by_cases ao:q=b
      ·subst ao
       rw[kF]
       simp[dR]
      ·rw[Array.getElem?_setIfInBounds_ne (Ne.symm ao)]
     rw[this]
    rw[ja];exact yJ
   ·rw[M3]
    exact(Zk vy fN).2
   ·rw[M3,Stamped,Bp (f:=fun e=>{ e with key:=.agg (gk.cK z).toArray,val:=vy }) (fun _=>rfl)]
    exact di
 obtain⟨l0,mV,j,e,v,Zn,Zo,Zp,M8,tl⟩:=pc;have Zq:=Zf Zp Zo;have fu:∀ (yL:Obj),dm (fun k=>R k\/B k) ai { w with heap:=w.heap.setIfInBounds b yL }:=fun yL=>(al.aU.xc (x':=yL) fp.more).below
 refine hv al.cb uv.1 uv.2 (dK lI) (v:=.tuple #[v,.int .i64 (e.born:Int)]) (w':={ w with heap:=w.heap.setIfInBounds b (.map l0.toArray mV) }) ?_ fun aq M9=>⟨cy _ (fu _) (fun iM gm=>by rw[ae]at gm; cases gm; exact M8),?_⟩
 ·simp[execOp,GG,al.cb.aE J,al.cb.aE U,Zn]
 have gZ:=al.set (sv:=.a (.c .dead)) (v:=.tuple #[v,.int .i64 (e.born:Int)]) trivial M9;have Zr:aE (gn aq) (.tmp d1)=some (.tuple [v,.int .i64 (e.born:Int)].toArray):=hQ M9.this;refine hv gZ.cb AF.1 AF.2 (dK kV) (v:=.int .i64 (e.born:Int)) (w':={ w with heap:=w.heap.setIfInBounds b (.map l0.toArray mV) }) (Kc gZ.cb GH Zr rfl _) fun a2 GK=>⟨cy _ (fu _) (fun iM gm=>by rw[ae]at gm; cases gm; exact M8),?_⟩
 have eS:=gZ.set (sv:=.a (.c .dead)) (v:=.int .i64 (e.born:Int)) trivial GK;have Zs:aE (gn a2) (.tmp d2)=some (.int .i64 (e.born:Int)):=hQ GK.this;obtain⟨ahq,c8,Na,oY,rfl⟩:=eS.aE (st:=⟨(d2,b5.a (.c .dead)) :: (d1,b5.a (.c .dead)) :: st.L,st.H⟩) qb rfl;rw[ae]at oY;cases oY;obtain⟨vy,dL,fA⟩:=eS.aE (st:=⟨(d2,b5.a (.c .dead)) :: (d1,b5.a (.c .dead)) :: st.L,st.H⟩) aH dP;have fN:eQ B ai bO gQ vy:=eQ.u2 n8 jg ea fA;obtain⟨B6,Zt⟩:=tl vy fN;obtain⟨XD,XE,⟨Nb,ahr,ahs,Nc,rfl,_⟩,Zu,gN⟩:=eS.mK (b':=.mp gk bO (ib gk bO l z gQ) none) b8;rw[ae]at Nc;cases Nc;have B5:({ w with heap:=w.heap.setIfInBounds b (.map l0.toArray mV) }:World).heap[b]?=some (.map l0.toArray mV):=by simp[dR]
 have Zv:(Instr.entryStore t (.map (some b)) (.int .i64 (e.born:Int)) vy).run X.P { w with heap:=w.heap.setIfInBounds b (.map l0.toArray mV) }=.ok () { w with heap:=w.heap.setIfInBounds b (.map (l0.modify j fun e=>{ e with val:=vy }).toArray mV) }:=by
  unfold Instr.entryStore;simp only[Sem.run_bind,MapKept.run_getObj_map B5,Result.andThen_ok,asInt,asIntOf,Sem.run_pure,Zq];rw[MapKept.run_setObj_map _ B5]
  simp[Array.setIfInBounds_setIfInBounds]
 refine Ea eS.cb si.1 si.2 (w':={ w with heap:=w.heap.setIfInBounds b (.map (l0.modify j fun e=>{ e with val:=vy }).toArray mV) }) ?_ fun a3 Nd=>⟨Zh _ (fu _),?_⟩
 ·simp[execOp,GI,eS.cb.aE c8,eS.cb.aE Zs,eS.cb.aE dL,Zv]
 obtain⟨H',hr⟩:=gN _ a3 _ ⟨b,_,mV,ae,rfl,B6,Zt,fun _ h=>by cases h⟩ (eS.aU.xc Zu) Nd;exact GJ a3 _ H' hr
end
end

section
inductive rH where
  | t (i m:Nat)
  | m (i:Nat)
  | s (i:Nat)
  | k (i:Nat)
  | e (i:Nat)
  | q (i:Nat)
  | u (i:Nat) (m:rD)
  | v (i:Nat)
  | w (i p e:Nat)
  | c (i:Nat) (ps:dQ)
  | g (i:Nat)
  | z (id:Nat)
  | f
def rI:List rH->Nat
  | []=>0
  | .z _ :: r=>rI r
  | .f :: r=>rI r
  | .v _ :: r=>rI r+3
  | .w _ _ _ :: r=>rI r+3+1+1
  | _ :: r=>rI r+1
def yM(jV:Bool) (m:Nat) (H:bE):bE:=match m with
  | 1=>[]
  | 3=>match jV with
    | true=>H
    | false=>mP H
  | _=>H
def vJ(jV:Bool) (m:Nat) (H:List bc):List bc:=match m with
  | 1=>[]
  | 3=>H.filter (n6 jV)
  | _=>H
theorem vK{jV:Bool} {m:Nat} {env:Nat->Loc} {B:Nat->Prop} {w:World} {l:bE} {H:List bc} (h:bt env B w l H):bt env B w (yM jV m l) (vJ jV m H)/\(vJ jV m H).Sublist H:=by
  unfold yM vJ
  split
  · exact⟨rfl,List.nil_sublist _⟩
  · cases jV with
    | true=>exact⟨by
        have e:H.filter (n6 true)=H:=List.filter_eq_self.2 fun _ _=>rfl
        show bt env B w l (H.filter (n6 true));rw[e]; exact h,List.filter_sublist⟩
    | false=>exact⟨h.gu,List.filter_sublist⟩
  · exact⟨h,List.Sublist.refl _⟩
def GL(X:bq) (st:aM):Op->Option (Bool×bh)
  | .load t x=>match X.a7.find t,bw X st.L x with
    | some bp,some (g1,.c (.dV id 1 i 0))=>match jO bp.bs.desc,aZ st.H id with
      | false,some (.bQ _ _ g l _ none)=>some (g1&&(decide (i < l.length)&&!(l.getD i (false,[])).1),.c (.bd g (l.getD i (false,[])).2 none))
      | _,_=>none
    | _,_=>none
  | _=>none
def vL(X:bq) (n:Nat) (st:aM) (bj bM cd:Oper):Option (Bool×aM×List Nat):=match bj,bM,cd with
  | ⟨some d1,.mapEntry t u x,_,_,_,none⟩,⟨some d2,.extract (.tmp s1) 1,_,_,_,none⟩,⟨none,.entryStore t3 vI (.tmp s2) y,_,_,_,none⟩=>match Nat.blt d1 n&&(Nat.blt d2 n&&(Nat.beq s1 d1&&(Nat.beq s2 d2&&Nat.beq t3 t))),X.a7.find t,bw X st.L u,bw X st.L x with
    | true,some ⟨⟨.map iZ ki,_,_,_⟩,_⟩,some (true,.c (.eP id)),some (g,fx)=>match aZ st.H id,X.a7.find ki,bw X ((d2,b5.a (.c .dead)) :: (d1,b5.a (.c .dead)) :: st.L) vI,bw X ((d2,b5.a (.c .dead)) :: (d1,b5.a (.c .dead)) :: st.L) y with
      | some (.mp gk bO l _),some _,some (true,.c (.eP Zw)),some (g2,eZ)=>match dec gk fx.cells,dec bO eZ.cells,Nat.beq Zw id&&(vB X iZ gk&&(lT gk fx&&lT bO eZ))with
        | some (c,z,[]),some (cR,gQ,[]),true=>some (g&&(c&&(g2&&cR)),⟨(d2,.a (.c .dead)) :: (d1,.a (.c .dead)) :: st.L,eO id (.mp gk bO (ib gk bO l z gQ) none) st.H⟩,[d2,d1,id])
        | _,_,_=>none
      | _,_,_,_=>none
    | _,_,_,_=>none
  | _,_,_=>none
theorem Zx{X:bq} {n:Nat} {st st':aM} {bj bM cd:Oper} {c:Bool} {V:List Nat} (av:X.a7.ok X.P) (h:vL X n st bj bM cd=some (c,st',V)) (aa:c=true) {ops:Array Oper}
    {R:Nat->Prop} {W:World} {aD:eT} {ks:List Nat} {env:Nat->Loc} {B:Nat->Prop} {ai:World} {H:List bc} {a:Act} {w:World} (al:bI X R W aD n ks env B ai H st a w) {G:World->Prop} (cy:∀ b0,dm (fun k=>R k\/B k) ai b0->G b0) {KK:Act->World->Prop}
    (GJ:∀ aW w' H',bI X R W aD n ks env B ai H' st' aW w'->KK aW w') :
    eW X.P ops bj (fun aq b0=>G b0/\eW X.P ops bM (fun a2 w2=>G w2/\eW X.P ops cd (fun a3 mr=>G mr/\KK a3 mr) a2 w2) aq b0) a w:=by
  unfold vL at h
  split at h
  · rename_i d1 t u x _ _ _ d2 s1 _ _ _ t3 vI s2 y _ _ _
    split at h
    · rename_i ae aY hu ah
      simp only[Bool.and_eq_true]at ae;obtain⟨lI,kV,aC,a1,cq⟩:=ae;have aC:=Nat.eq_of_beq_eq_true aC;have a1:=Nat.eq_of_beq_eq_true a1;have cq:=Nat.eq_of_beq_eq_true cq;subst aC;subst a1;subst cq
      split at h
      · rename_i ad he qb aH
        split at h
        · rename_i lz te ab
          simp only[Bool.and_eq_true]at ab;obtain⟨ep,lB,nC,ry⟩:=ab;have ep:=Nat.eq_of_beq_eq_true ep;subst ep;cases h;simp only[Bool.and_eq_true]at aa;obtain⟨v0,c8,_⟩:=M5 av (yv av lB) aY rfl he ad al;exact M6 av (yv av lB) rfl ⟨rfl,rfl⟩ lI rfl ⟨rfl,rfl⟩ kV rfl ⟨rfl,rfl⟩ aY rfl he hu ah aa.1 lz aa.2.1 nC ad qb aH aa.2.2.1 te aa.2.2.2 ry al c8 (fun b0 h _=>cy b0 h) cy GJ
        · cases h
      · cases h
    · cases h
  · cases h
theorem Zy{X:bq} {n:Nat} {st st':aM} {bj bM cd:Oper} {c:Bool} {V:List Nat} (h:vL X n st bj bM cd=some (c,st',V)):cU V st st':=by
  unfold vL at h
  split at h
  · split at h
    · split at h
      · split at h
        · cases h
          exact⟨(b6.cons (b6.cons (V:=[]) (b6.refl _))).more fun q ao=>by
            obtain⟨J,ao⟩:=e9 ao;obtain⟨U,ao⟩:=e9 ao;unfold eA
            split
            · rename_i e; exact absurd (Nat.eq_of_beq_eq_true e).symm J
            · unfold eA
              split
              · rename_i e; exact absurd (Nat.eq_of_beq_eq_true e).symm U
              · rfl,(jI (V:=[_]) (iX _ _)).more fun q ao=>(e9 (e9 ao).2).2⟩
        · cases h
      · cases h
    · cases h
  · cases h
def yN(X:bq) (n:Nat) (st:aM) (j2 jb bj bM cd:Oper):Option (Bool×aM×List Nat):=match j2,jb.guard,jb.dst,bj,bM,cd with
  | ⟨some d,.lookup t (.tmp kj) (.tmp fx) false,_,_,_,none⟩,none,some iH,⟨some d1,.mapEntry t1 (.tmp Nf) (.tmp Ng),_,_,_,none⟩,⟨some d2,.extract (.tmp s1) 1,_,_,_,none⟩,⟨none,.entryStore t3 (.tmp Nh) (.tmp s2) y,_,_,_,none⟩=>
    match (Nat.blt d n&&(Nat.blt iH n&&(Nat.blt d1 n&&Nat.blt d2 n)))&&((Nat.beq Nf kj&&(Nat.beq Ng fx&&(Nat.beq Nh kj&&(Nat.beq s1 d1&&(Nat.beq s2 d2&&(Nat.beq t1 t&&Nat.beq t3 t))))))&&((!Nat.beq kj d&&(!Nat.beq kj iH&&(!Nat.beq kj d1&&(!Nat.beq kj d2&&(!Nat.beq fx d&&!Nat.beq fx iH)))))&&(xT jb.op&&!oO jb.op))),X.a7.find t,bw X st.L (.tmp kj),bw X st.L (.tmp fx)with
    | true,some ⟨⟨.map iZ ki,_,_,_⟩,_⟩,some (true,.c (.eP id)),some (g,ny)=>match aZ st.H id,X.a7.find ki with
      | some (.mp gk bO l _),some eK=>match dec gk ny.cells,vB X iZ gk&&(lT gk ny&&yw bO eK.bs.zero)with
        | some (c,z,[]),true=>match sO bO ((hF gk bO l z).getD bO.zero)with
          | some bx=>match sr X ⟨(d,.a bx) :: st.L,st.H⟩ jb.op with
            | some (nV,sp)=>match bw X ((d2,b5.a (.c .dead)) :: (d1,b5.a (.c .dead)) :: (iH,.a sp) :: (d,.a bx) :: st.L) y with
              | some (g2,eZ)=>match dec bO eZ.cells,lT bO eZ with
                | some (cR,gQ,[]),true=>some (g&&(c&&(nV&&(g2&&cR))),⟨(d2,.a (.c .dead)) :: (d1,.a (.c .dead)) :: (iH,.a sp) :: (d,.a bx) :: st.L,eO id (.mp gk bO (ib gk bO l z gQ) none) st.H⟩,[d2,d1,iH,d,id])
                | _,_=>none
              | none=>none
            | none=>none
          | none=>none
        | _,_=>none
      | _,_=>none
    | _,_,_,_=>none
  | _,_,_,_,_,_=>none
def GM(ops:Array Oper) (E:List Nat) (listed:Array Bool) (i p e:Nat):Bool:=
  (rb ops E listed i&&rb ops E (listed.setIfInBounds i true) p&&((xK ops i).all fun j=>!listed.getD j true&&uP ops i (xK ops i) j) &&
    (List.range ops.size).all fun j=>j == i || listed.getD j true || j == e || j == e+1 || (xK ops i).elem j) &&
  (((Region.ready .any ops ((listed.setIfInBounds i true).setIfInBounds p true) == [e])&&(Region.ready .any ops (((listed.setIfInBounds i true).setIfInBounds p true).setIfInBounds e true) == [e+1])&&(Region.ready .any ops ((((listed.setIfInBounds i true).setIfInBounds p true).setIfInBounds e true).setIfInBounds (e+1) true) == [e+2])) &&
   (!E.elem i&&!E.elem p&&!E.elem e&&!E.elem (e+1)&&!E.elem (e+2))&&(!Nat.beq p e&&!Nat.beq p (e+1)&&Nat.blt (e+1) listed.size))
def yO(ops:Array Oper) (E:List Nat) (i m:Nat) (aI:hD):Bool:=match m with
  | 0=>rb ops E aI.listed i&&Bi ops E aI.listed aI.pre i&&uQ (fun o=>xT o&&!oO o) ops i
  | 1=>rb ops E aI.listed i&&Bi ops E aI.listed aI.pre i&&uQ xT ops i&&aI.jU
  | 3=>rb ops E aI.listed i&&xU ops E (xK ops i) aI.listed i&&uQ xT ops i&&aI.early&&aI.pre
  | _=>false
def hD.next(aI:hD) (i:Nat):hD:=⟨aI.listed.setIfInBounds i true,aI.early,aI.pre,aI.jU,aI.all⟩
section
variable {X:bq} {ρ:Type}
def fb(X:bq) (n:Nat) (T:List (bz X)) (ops:List Oper) (E:List Nat):List rH->hD->fa->List Nat->List Bool->aM->(hD->fa->List Nat->List Bool->aM->Option ρ)->Option ρ
  | [],aI,G,V,A,st,k=>k aI G V A st
  | .t i m :: r,aI,G,V,A,st,k=>match nth ops i,yO ops.toArray E i m aI with
    | some o,true=>match o.guard,o.dst with
      | none,some d=>match rB X (ef ops) [] G ⟨st.L,yM aI.all m st.H⟩ o.op,Nat.blt d n with
        | some (c,bx),true=>fb X n T ops E r (aI.next i) (iY (ef ops) d G) (d :: V) (c :: A) ⟨(d,.a bx) :: st.L,st.H⟩ k
        | _,_=>none
      | some (j,want),some d=>match nth (ef ops) j with
        | some (some s)=>match ie st.L s want with
          | some g=>match rB X (ef ops) (lW (ef ops) G 8 j want) G ⟨st.L,yM aI.all m st.H⟩ o.op,Nat.blt d n,Nat.beq s d with
            | some (c,bx),true,false=>fb X n T ops E r (aI.next i) ((d,j,want) :: iY (ef ops) d G) (d :: V) (fr g c :: A) ⟨(d,.may g bx) :: st.L,st.H⟩ k
            | _,_,_=>none
          | none=>none
        | _=>none
      | _,none=>none
    | _,_=>none
  | .m i :: r,aI,G,V,A,st,k=>match nth ops i,yO ops.toArray E i 0 aI with
    | some o,true=>match o.guard,o.dst,A0 st.L o.op with
      | none,some d,some xs=>match Nat.blt d n with
        | true=>fb X n T ops E r (aI.next i) (iY (ef ops) d G) (d :: V) A ⟨(d,.dj xs) :: st.L,st.H⟩ k
        | false=>none
      | _,_,_=>none
    | _,_=>none
  | .s i :: r,aI,_,V,A,st,k=>match nth ops i,Region.ready .any ops.toArray aI.listed == [i],fD E aI.listed i with
    | some o,true,false=>match o.guard with
      | none=>match tc X n st o with
        | some (c,st',W)=>fb X n T ops E r ⟨aI.listed.setIfInBounds i true,false,false,aI.jU,aI.all⟩ [] (W++V) (c :: A) st' k
        | none=>match nk X n (ef ops) st o with
          | .ok c st'=>fb X n T ops E r ⟨aI.listed.setIfInBounds i true,false,false,aI.jU,aI.all⟩ [] (ta X st.L o++V) (c :: A) st' k
          | .stop=>none
      | some _=>none
    | _,_,_=>none
  | .k i :: r,aI,_,V,A,st,k=>match nth ops i,Region.ready .any ops.toArray aI.listed == [i],aI.pre with
    | some o,true,true=>match o.guard with
      | none=>match o.dst,vq X st o.op with
        | some d,some (c,bx)=>match Nat.blt d n with
          | true=>fb X n T ops E r ⟨aI.listed.setIfInBounds i true,false,true,false,aI.all⟩ [] (d :: V) (c :: A) ⟨(d,.a bx) :: st.L,st.H⟩ k
          | false=>none
        | _,none=>match cond aI.all (uE o.op&&q2 o st.H) (AT o.op&&oR o st.H),nk X n (ef ops) st o with
          | true,.ok c st'=>fb X n T ops E r ⟨aI.listed.setIfInBounds i true,false,true,aI.jU,aI.all⟩ [] (ta X st.L o++V) (c :: A) st' k
          | _,_=>none
        | none,some _=>none
      | some _=>none
    | _,_,_=>none
  | .q i :: r,aI,G,V,A,st,k=>match nth ops i,yO ops.toArray E i 3 aI with
    | some o,true=>match o.guard,o.dst,GL X ⟨st.L,yM aI.all 3 st.H⟩ o.op with
      | none,some d,some (c,bx)=>match Nat.blt d n with
        | true=>fb X n T ops E r (aI.next i) (iY (ef ops) d G) (d :: V) (c :: A) ⟨(d,.a bx) :: st.L,st.H⟩ k
        | false=>none
      | _,_,_=>none
    | _,_=>none
  | .u i m :: r,aI,_,V,A,st,k=>match nth ops i,Region.ready .any ops.toArray aI.listed == [i],fD E aI.listed i with
    | some o,true,false=>match vC X n st m o with
      | some (c,st',W)=>fb X n T ops E r ⟨aI.listed.setIfInBounds i true,false,false,aI.jU,aI.all⟩ [] (W++V) (c :: A) st' k
      | none=>none
    | _,_,_=>none
  | .v i :: r,aI,_,V,A,st,k=>match nth ops i,nth ops (i+1),nth ops (i+2),Region.ready .any ops.toArray aI.listed == [i]&&(Region.ready .any ops.toArray (aI.listed.setIfInBounds i true) == [i+1]&&Region.ready .any ops.toArray ((aI.listed.setIfInBounds i true).setIfInBounds (i+1) true) == [i+2]),fD E aI.listed i || (fD E (aI.listed.setIfInBounds i true) (i+1) || fD E ((aI.listed.setIfInBounds i true).setIfInBounds (i+1) true) (i+2))with
    | some bj,some bM,some cd,true,false=>match vL X n st bj bM cd with
      | some (c,st',W)=>fb X n T ops E r ⟨((aI.listed.setIfInBounds i true).setIfInBounds (i+1) true).setIfInBounds (i+2) true,false,false,aI.jU,aI.all⟩ [] (W++V) (c :: A) st' k
      | none=>none
    | _,_,_,_,_=>none
  | .w i p e :: r,aI,_,V,A,st,k=>match nth ops i,nth ops p,nth ops e,nth ops (e+1),nth ops (e+2),GM ops.toArray E aI.listed i p e with
    | some j2,some jb,some bj,some bM,some cd,true=>match yN X n st j2 jb bj bM cd with
      | some (c,st',W)=>fb X n T ops E r ⟨((((aI.listed.setIfInBounds i true).setIfInBounds p true).setIfInBounds e true).setIfInBounds (e+1) true).setIfInBounds (e+2) true,false,false,aI.jU,aI.all⟩ [] (W++V) (c :: A) st' k
      | none=>none
    | _,_,_,_,_,_=>none
  | .e i :: r,aI,_,V,A,st,k=>match nth ops i,Region.ready .any ops.toArray aI.listed == [i],!fD E aI.listed i || aI.pre with
    | some o,true,true=>match o.guard,o.dst,GF X st.L o.op with
      | none,some d,some (c,bx)=>match Nat.blt d n with
        | true=>fb X n T ops E r ⟨aI.listed.setIfInBounds i true,false,aI.pre,false,aI.all⟩ [] (d :: V) (c :: A) ⟨(d,.a bx) :: st.L,st.H⟩ k
        | false=>none
      | _,_,_=>none
    | _,_,_=>none
  | .c i ps :: r,aI,_,V,A,st,k=>match nth ops i,Region.ready .any ops.toArray aI.listed == [i],!fD E aI.listed i || (aI.pre&&(og st.H ps || (!aI.all&&vg st.H ps)))with
    | some o,true,true=>th X n T ps V A st (fun eL fk cm st'=>fb X n T ops E r ⟨aI.listed.setIfInBounds i true,false,aI.pre&&(og st.H ps || (!aI.all&&vg st.H ps)),false,aI.all⟩ eL fk cm st' k) o
    | _,_,_=>none
  | .g i :: r,aI,G,V,A,st,k=>match nth ops i,Region.ready .any ops.toArray aI.listed == [i],fD E aI.listed i with
    | some o,true,false=>vD X n T (ef ops) G V A st (fun eL fk cm st'=>fb X n T ops E r ⟨aI.listed.setIfInBounds i true,false,false,false,aI.all⟩ eL fk cm st' k) o
    | _,_,_=>none
  | .z id :: r,aI,_,V,A,st,k=>match dn id st with
    | some st'=>fb X n T ops E r ⟨aI.listed,false,aI.pre&&!aI.all,false,aI.all⟩ [] V A st' k
    | none=>none
  | .f :: r,aI,G,V,A,st,k=>match E.isEmpty || aI.pre with
    | true=>fb X n T ops E r ⟨aI.listed,true,true,true,aI.all⟩ G V A st k
    | false=>none
variable {M:Bool} {n:Nat} {T:List (bz X)} {st0 st st':aM} {Q:Exit->aM->Prop} {ops:List Oper} {o:Oper} {r:ρ} {V:List Nat} {A:List Bool} {E:List Nat} {aI:hD} {fuel i:Nat}
theorem hW{k:hD->fa->List Nat->List Bool->aM->Option ρ} (eu:∀ aI G V A st,k aI G V A st=some r->∀ c∈A,c=true):∀ {is:List rH} {aI:hD} {G:fa} {V:List Nat} {A:List Bool} {st:aM},fb X n T ops E is aI G V A st k=some r->∀ c∈A,c=true
  | [],aI,G,V,A,st,h=>by
    unfold fb at h;exact eu _ _ _ _ _ h
  | .t i m :: is,aI,G,V,A,st,h=>by
    unfold fb at h
    split at h
    · split at h
      · split at h
        · exact fun c aa=>hW eu h c (List.mem_cons_of_mem _ aa)
        · cases h
      · split at h
        · split at h
          · split at h
            · exact fun c aa=>hW eu h c (List.mem_cons_of_mem _ aa)
            · cases h
          · cases h
        · cases h
      · cases h
    · cases h
  | .m i :: is,aI,G,V,A,st,h=>by
    unfold fb at h
    split at h
    · split at h
      · split at h
        · exact hW eu h
        · cases h
      · cases h
    · cases h
  | .s i :: is,aI,G,V,A,st,h=>by
    unfold fb at h
    split at h
    · split at h
      · split at h
        · exact fun c aa=>hW eu h c (List.mem_cons_of_mem _ aa)
        · split at h
          · exact fun c aa=>hW eu h c (List.mem_cons_of_mem _ aa)
          · cases h
      · cases h
    · cases h
  | .k i :: is,aI,G,V,A,st,h=>by
    unfold fb at h
    split at h
    · split at h
      · split at h
        · split at h
          · exact fun c aa=>hW eu h c (List.mem_cons_of_mem _ aa)
          · cases h
        · split at h
          · exact fun c aa=>hW eu h c (List.mem_cons_of_mem _ aa)
          · cases h
        · cases h
      · cases h
    · cases h
  | .q i :: is,aI,G,V,A,st,h=>by
    unfold fb at h
    split at h
    · split at h
      · split at h
        · exact fun c aa=>hW eu h c (List.mem_cons_of_mem _ aa)
        · cases h
      · cases h
    · cases h
  | .u i m :: is,aI,G,V,A,st,h=>by
    unfold fb at h
    split at h
    · split at h
      · exact fun c aa=>hW eu h c (List.mem_cons_of_mem _ aa)
      · cases h
    · cases h
  | .v i :: is,aI,G,V,A,st,h=>by
    unfold fb at h
    split at h
    · split at h
      · exact fun c aa=>hW eu h c (List.mem_cons_of_mem _ aa)
      · cases h
    · cases h
  | .w i p e :: is,aI,G,V,A,st,h=>by
    unfold fb at h
    split at h
    · split at h
      · exact fun c aa=>hW eu h c (List.mem_cons_of_mem _ aa)
      · cases h
    · cases h
  | .e i :: is,aI,G,V,A,st,h=>by
    unfold fb at h
    split at h
    · split at h
      · split at h
        · exact fun c aa=>hW eu h c (List.mem_cons_of_mem _ aa)
        · cases h
      · cases h
    · cases h
  | .c i ps :: is,aI,G,V,A,st,h=>by
    unfold fb at h
    split at h
    · exact(rE (cU.refl (V:=V) st) h).1
    · cases h
  | .g i :: is,aI,G,V,A,st,h=>by
    unfold fb at h
    split at h
    · exact MT h
    · cases h
  | .z id :: is,aI,G,V,A,st,h=>by
    unfold fb at h
    split at h
    · exact hW eu h
    · cases h
  | .f :: is,aI,G,V,A,st,h=>by
    unfold fb at h
    split at h
    · exact hW eu h
    · cases h
theorem Ni(av:X.a7.ok X.P) {R:Nat->Prop} {W:World} {aD:eT} {ks:List Nat} {env:Nat->Loc} {B:Nat->Prop} {ai:World} {H C:List bc} {L:cQ} {q7 h:bE} {a:Act} {w:World} {c:Bool} {G:fa} {ps:List (Nat×Bool)} {bx:bh} (al:bI X R W aD n ks env B ai H ⟨L,q7⟩ a w) (b1:bt env B ai h C) (c5:C.Sublist H) (cy:dS (ef ops) G L) (an:∀ p∈ps,k6 (ef ops) L p) (aj:rB X (ef ops) ps G ⟨L,h⟩ o.op=some (c,bx)) (aa:c=true) :
    ∃ v,dH env B ai bx v/\∀ w',(oO o.op=true->bK (fun k=>R k\/B k) ai C w')->(execOp a.eval o).run X.P w'=.ok (.value v) w':=by
  have gZ:bI X R W aD n [] env B ai C ⟨L,h⟩ { tmps:=a.tmps,defers:=aD.d } w:=⟨al.size,rfl,al.has,b1,al.aU.en (by simpa using c5.trans (List.sublist_append_left _ _)),al.sub,al.new,al.dt,al.base,al.dX⟩
  obtain⟨v,J,U⟩:=MB av gZ cy an aj aa;refine⟨v,J,fun w' hw=>?_⟩
  have:=U w' (by simpa using hw)
  exact this
theorem Zz{R:Nat->Prop} {W:World} {aD:eT} {ks:List Nat} {env:Nat->Loc} {B:Nat->Prop} {ai:World} {H C:List bc} {L:cQ} {q7 h:bE} {a:Act} {w:World} {bx:bh} (al:bI X R W aD n ks env B ai H ⟨L,q7⟩ a w) (b1:bt env B ai h C) (c5:C.Sublist H) (an:hh X ⟨L,h⟩ o bx) :
    ∃ v,dH env B ai bx v/\∀ w',(oO o.op=true->bK (fun k=>R k\/B k) ai C w')->(execOp a.eval o).run X.P w'=.ok (.value v) w':=by
  have gZ:bI X R W aD n [] env B ai C ⟨L,h⟩ { tmps:=a.tmps,defers:=aD.d } w:=⟨al.size,rfl,al.has,b1,al.aU.en (by simpa using c5.trans (List.sublist_append_left _ _)),al.sub,al.new,al.dt,al.base,al.dX⟩
  obtain⟨v,J,U⟩:=an gZ;refine⟨v,J,fun w' hw=>?_⟩
  have:=U w' (by simpa using hw)
  exact this
theorem ZA(av:X.a7.ok X.P) {c:Bool} {bx:bh} (h:GL X st o.op=some (c,bx)) (aa:c=true):hh X st o bx:=by
  unfold GL at h
  split at h
  · rename_i t x aA
    split at h
    · rename_i bp g1 id i aY ah
      split at h
      · rename_i T T' g l cap aS ad
        cases h;simp only[Bool.and_eq_true]at aa;exact MM av aA aY aS ah aa.1 ad aa.2.1 aa.2.2
      · cases h
    · cases h
  · cases h
theorem yP(av:X.a7.ok X.P) {m d:Nat} {sv:b5} {R:Nat->Prop} {W:World} {aD:eT} {dr:Nat->Prop} {dD:World} {cT:List bc} {F:World->Prop} {ks:List Nat} {env:Nat->Loc} {B:Nat->Prop} {ai:World} {H:List bc} {a:Act} {w:World} {uS:Exit->Act->World->Prop} (hi:nth ops i=some o) (aY:yO ops.toArray E i m aI=true) (dU:o.dst=some d) (ax:Nat.blt d n=true)
    (al:bI X R W aD n ks env B ai H st a w) (dY:kZ R aI dr dD cT F B ai H) (v:Value) (jH:ei env B ai sv v)
    (aH:∀ T:World->Prop,(∀ w',T w'->oO o.op=true->bK (fun k=>R k\/B k) ai (vJ aI.all m H) w')->YieldsIf X.P ops.toArray T o v a)
    (E9:∀ aW,bI X R W aD n ks env B ai H ⟨(d,sv) :: st.L,st.H⟩ aW w->kZ R (aI.next i) dr dD cT F B ai H->gz X.P ops.toArray uS (fun j l w=>(fD E l j=true->bK (fun k=>R k\/dr k) dD cT w)/\F w) fuel (aI.next i).listed aW w) :
    gz X.P ops.toArray uS (fun j l w=>(fD E l j=true->bK (fun k=>R k\/dr k) dD cT w)/\F w) (fuel+1) aI.listed a w:=by
  have pW:=k0 hi;have vM:F w:=dY.F al;have yQ:=al.set (sv:=sv) jH (show c2 n (jR ks aD) ((d,v) :: gn a) (a.put o.dst v) by rw[dU]; exact al.cb.put d v (dK ax));have gA:kZ R (aI.next i) dr dD cT F B ai H:=⟨dY.early,dY.pre,dY.dn,dY.n7⟩
  have go:=E9 _ yQ gA;unfold yO at aY
  split at aY
  · simp only[uQ,pW,Bool.and_eq_true,Bool.not_eq_true']at aY
    obtain⟨⟨qW,oX⟩,Nj,ZB⟩:=aY;obtain⟨o5,qa⟩:=Ln oX;exact E8 (E.elem i) v pW qW id o5 (aH _ fun w' _ ad=>by rw[ZB]at ad; cases ad) (fun he=>dY.T (qa he) al) vM go
  · simp only[uQ,pW,Bool.and_eq_true]at aY
    obtain⟨⟨⟨qW,oX⟩,Nj⟩,nR⟩:=aY;obtain⟨o5,qa⟩:=Ln oX;refine E8 (E.elem i) v pW qW id o5 (aH _ fun w' mI _=>?_) (fun he=>dY.T (qa he) al) vM go;have kG:=mI.2;rw[dY.dn nR]at kG;refine⟨kG,fun k ab=>?_,(fun _ h=>by cases h),List.Pairwise.nil⟩;have ag:=al.aU.base k ab;have ay:=al.aU.below.block k ab;have aO:=kG.block k ab;rw[<- ay,Array.getElem?_eq_getElem ag]at aO;exact(Array.getElem?_eq_some_iff.1 aO).1
  · simp only[uQ,pW,Bool.and_eq_true]at aY
    obtain⟨⟨⟨⟨qW,sP⟩,Nj⟩,ZC⟩,pe⟩:=aY;refine E8 true v pW qW (fun _=>rfl) (fun _=>sP) (aH _ fun w' mI _=>?_) (fun _=>dY.T pe al) vM go;have kG:=mI.1 rfl;obtain⟨aC,a1,cq⟩:=dY.early ZC;rw[aC,a1,cq]at kG;exact kG
  · cases aY
theorem Nk{H:bE} {ps:dQ} {pre jV:Bool} (h:(pre&&(og H ps || (!jV&&vg H ps)))=true):pre=true/\∀ c,n6 jV c=true->s0 H ps c=true:=by
  rw[Bool.and_eq_true,Bool.or_eq_true,Bool.and_eq_true]at h;refine⟨h.1,fun c aa=>?_⟩;unfold s0
  rcases h.2 with J | J
  · rw[J]; rfl
  · unfold n6 at aa
    have U:jV=false:=by simpa using J.1
    rw[U,Bool.false_or]at aa;rw[aa,J.2]
    simp
theorem vN{pre':Bool} {kp:bc->Bool} (hi:nth ops i=some o) (an:p6 X n o kp st st') (pf:pre'=true->aI.pre=true/\∀ c,n6 aI.all c=true->kp c=true) (ho:(!fD E aI.listed i || pre')=true) (h:jm X M n ops E fuel ⟨aI.listed.setIfInBounds i true,false,pre',false,aI.all⟩ st' Q):oW X M n ops E fuel aI st Q i:=by
  intro R W aD dr dD cT F ks env B ai H a w cp al dY;refine⟨o,k0 hi,an R W aD ks env B ai H a w al _ _ fun aW w' env' B' cJ H' b7 fT jE l8=>?_⟩;have gA:kZ R ⟨aI.listed.setIfInBounds i true,false,pre',false,aI.all⟩ dr dD cT F B' cJ H':=⟨fun h=>(by cases h),fun h=>by
    have a8:pre'=true:=h;obtain⟨ZD,ZE⟩:=pf a8;obtain⟨g1,g2,g3,g4⟩:=dY.pre ZD;exact⟨fun c aa=>⟨l8 c (g1 c aa).1 (ZE c (g1 c aa).2),(g1 c aa).2⟩,g2,fun k ab=>fT k (g3 k ab),g4.trans ⟨jE.os,jE.tape,jE.output,jE.size,fun k ab=>jE.block k (ab.imp id (g3 k))⟩⟩,fun h=>(by cases h),fun w hw=>dY.n7 w (jE.trans ⟨hw.os,hw.tape,hw.output,hw.size,fun k ab=>hw.block k (ab.imp id (fT k))⟩)⟩
  refine⟨⟨fun b1=>gA.T ?_ b7,gA.F b7⟩,h R W aD dr dD cT F ks env' B' cJ H' aW w' cp b7 gA⟩;rw[b1]at ho;exact ho
theorem ZF(hi:nth ops i=some o) (an:∀ (R:Nat->Prop) (W:World) (aD:eT) (ks:List Nat) (env:Nat->Loc) (B:Nat->Prop) (ai:World) (H:List bc) (a:Act) (w:World),bI X R W aD n ks env B ai H st a w->∀ (KK:Act->World->Prop),(∀ aW w' env' B' cJ H',bI X R W aD n ks env' B' cJ H' st' aW w'->(∀ k,B k->B' k)->dm (fun k=>R k\/B k) ai cJ->KK aW w')->eW X.P ops.toArray o KK a w) (ho:fD E aI.listed i=false) (h:jm X M n ops E fuel ⟨aI.listed.setIfInBounds i true,false,false,false,aI.all⟩ st' Q):oW X M n ops E fuel aI st Q i:=by
  intro R W aD dr dD cT F ks env B ai H a w cp al dY;refine⟨o,k0 hi,an R W aD ks env B ai H a w al _ fun aW w' env' B' cJ H' b7 fT jE=>?_⟩;have gA:kZ R ⟨aI.listed.setIfInBounds i true,false,false,false,aI.all⟩ dr dD cT F B' cJ H':=⟨fun h=>(by cases h),fun h=>(by cases h),fun h=>(by cases h),fun w hw=>dY.n7 w (jE.trans ⟨hw.os,hw.tape,hw.output,hw.size,fun k ab=>hw.block k (ab.imp id (fT k))⟩)⟩
  exact⟨⟨fun b1=>(by rw[ho]at b1; cases b1),gA.F b7⟩,h R W aD dr dD cT F ks env' B' cJ H' aW w' cp b7 gA⟩
theorem qm(au:(Region.ready .any ops.toArray aI.listed == [i])=true) (h:oW X M n ops E fuel aI st Q i):jm X M n ops E (fuel+1) aI st Q:=Ls (beq_iff_eq.1 au) (Fa h Lr)
theorem hh.Nl{bx:bh} {d:Nat} (an:hh X st o bx) (bb:o.guard=none/\o.dst=some d) (ax:Nat.blt d n=true):p6 X n o (fun _=>true) st ⟨(d,.a bx) :: st.L,st.H⟩:=by
  intro R W aD ks env B ai H a w al KK l bZ;obtain⟨v,J,U⟩:=an al;exact hv al.cb bb.1 bb.2 (dK ax) (U w fun _=>al.aU) fun aW aJ=>bZ aW w env B ai H (al.set (sv:=.a bx) J aJ) (fun _ h=>h) (dm.refl _ _) fun _ h _=>h
theorem ZG(av:X.a7.ok X.P) {bj bM cd:Oper} {c:Bool} {cW:List Nat} (J:nth ops i=some bj) (U:nth ops (i+1)=some bM) (ag:nth ops (i+2)=some cd)
    (au:(Region.ready .any ops.toArray aI.listed == [i]&&(Region.ready .any ops.toArray (aI.listed.setIfInBounds i true) == [i+1]&&Region.ready .any ops.toArray ((aI.listed.setIfInBounds i true).setIfInBounds (i+1) true) == [i+2]))=true)
    (hm:(fD E aI.listed i || (fD E (aI.listed.setIfInBounds i true) (i+1) || fD E ((aI.listed.setIfInBounds i true).setIfInBounds (i+1) true) (i+2)))=false) (ah:vL X n st bj bM cd=some (c,st',cW)) (aa:c=true)
    (h:jm X M n ops E fuel ⟨((aI.listed.setIfInBounds i true).setIfInBounds (i+1) true).setIfInBounds (i+2) true,false,false,aI.jU,aI.all⟩ st' Q):jm X M n ops E (fuel+3) aI st Q:=by
  intro R W aD dr dD cT F ks env B ai H a w cp al dY;simp only[Bool.and_eq_true,beq_iff_eq]at au;obtain⟨aP,aX,bG⟩:=au;simp only[Bool.or_eq_false_iff]at hm;obtain⟨GN,fS,yR⟩:=hm;have kH:=Zx (ops:=ops.toArray) av ah aa al (G:=F) (fun b0 ab=>dY.n7 b0 ab) (KK:=fun aW w'=>gz X.P ops.toArray (fun e a w=>e=.normal/\∃ st',Q e st'/\lL X R W aD M n st' a w) (fun j l w=>(fD E l j=true->bK (fun k=>R k\/dr k) dD cT w)/\F w) fuel (((aI.listed.setIfInBounds i true).setIfInBounds (i+1) true).setIfInBounds (i+2) true) aW w') (fun aW w' H' b7=>h R W aD dr dD cT F ks env B ai H' aW w' cp b7 dY.lost);refine⟨fun h0=>(by rw[aP]at h0; cases h0),fun k ab=>?_⟩;rw[aP]at ab;have n5:k=i:=by simpa using ab
  subst n5;refine⟨bj,k0 J,kH.mono fun aq b0 ⟨g1,kH⟩=>⟨⟨fun b1=>(by rw[GN]at b1; cases b1),g1⟩,?_⟩⟩;refine⟨fun h0=>(by rw[aX]at h0; cases h0),fun e0 nC=>?_⟩;rw[aX]at nC;have n5:e0=k+1:=by simpa using nC
  subst n5;refine⟨bM,k0 U,kH.mono fun a2 w2 ⟨g2,kH⟩=>⟨⟨fun b1=>(by rw[fS]at b1; cases b1),g2⟩,?_⟩⟩;refine⟨fun h0=>(by rw[bG]at h0; cases h0),fun k3 ry=>?_⟩;rw[bG]at ry;have n5:k3=k+2:=by simpa using ry
  subst n5;exact⟨cd,k0 ag,kH.mono fun a3 mr ⟨g3,kH⟩=>⟨⟨fun b1=>(by rw[yR]at b1; cases b1),g3⟩,kH⟩⟩
structure ZH(X:bq) (n:Nat) (st:aM) (j2 jb bj bM cd:Oper) (c:Bool) (st':aM) (W:List Nat) where
  d:Nat
  iH:Nat
  d1:Nat
  d2:Nat
  kj:Nat
  fx:Nat
  t:TypeId
  iZ:TypeId
  ki:TypeId
  id:Nat
  bp:bo
  eK:bo
  gk:ba
  bO:ba
  l:List (gk.D×bO.D)
  qi:Option (List MapEntry×Nat)
  z:gk.D
  g:Bool
  Nn:Bool
  nV:Bool
  g2:Bool
  cR:Bool
  ny:bh
  bx:bh
  sp:bh
  eZ:bh
  gQ:bO.D
  y:Operand
  ZI:j2.op=.lookup t (.tmp kj) (.tmp fx) false
  dJ:j2.guard=none/\j2.dst=some d
  nD:jb.guard=none/\jb.dst=some iH
  GG:bj.op=.mapEntry t (.tmp kj) (.tmp fx)
  J:bj.guard=none/\bj.dst=some d1
  GH:bM.op=.extract (.tmp d1) 1
  U:bM.guard=none/\bM.dst=some d2
  GI:cd.op=.entryStore t (.tmp kj) (.tmp d2) y
  ag:cd.guard=none/\cd.dst=none
  ax:Nat.blt d n=true
  ZJ:Nat.blt iH n=true
  lI:Nat.blt d1 n=true
  kV:Nat.blt d2 n=true
  B7:kj≠d/\kj≠iH/\kj≠d1/\kj≠d2
  No:fx≠d/\fx≠iH
  pu:xT jb.op=true/\oO jb.op=false
  aY:X.a7.find t=some bp
  dv:bp.bs.desc=.map iZ ki
  he:X.a7.find ki=some eK
  hu:bw X st.L (.tmp kj)=some (true,.c (.eP id))
  ah:bw X st.L (.tmp fx)=some (g,ny)
  ad:aZ st.H id=some (.mp gk bO l qi)
  lz:dec gk ny.cells=some (Nn,z,[])
  ab:vB X iZ gk=true
  Np:lT gk ny=true
  bk:yw bO eK.bs.zero=true
  o6:sO bO ((hF gk bO l z).getD bO.zero)=some bx
  mG:sr X ⟨(d,.a bx) :: st.L,st.H⟩ jb.op=some (nV,sp)
  aH:bw X ((d2,b5.a (.c .dead)) :: (d1,b5.a (.c .dead)) :: (iH,.a sp) :: (d,.a bx) :: st.L) y=some (g2,eZ)
  te:dec bO eZ.cells=some (cR,gQ,[])
  ZK:lT bO eZ=true
  aa:c=(g&&(Nn&&(nV&&(g2&&cR))))
  di:st'=⟨(d2,.a (.c .dead)) :: (d1,.a (.c .dead)) :: (iH,.a sp) :: (d,.a bx) :: st.L,eO id (.mp gk bO (ib gk bO l z gQ) none) st.H⟩
  oN:W=[d2,d1,iH,d,id]
theorem Nq{j2 jb bj bM cd:Oper} {c:Bool} {cW:List Nat} (ah:yN X n st j2 jb bj bM cd=some (c,st',cW)):Nonempty (ZH X n st j2 jb bj bM cd c st' cW):=by
  unfold yN at ah
  split at ah
  · rename_i d t kj fx _ _ _ iH d1 t1 Nf Ng _ _ _ d2 s1 _ _ _ t3 Nh s2 y _ _ _ hgP hdP
    split at ah
    · rename_i ae aY hu ZL
      simp only[Bool.and_eq_true,Bool.not_eq_true']at ae;obtain⟨⟨EW,iM,Na,Nb⟩,⟨c8,dL,fA,hg,lJ,u9,x3⟩,⟨nw,oh,ZM,Nr,Ns,Nt⟩,h9,hK⟩:=ae;have c8:=Nat.eq_of_beq_eq_true c8;have dL:=Nat.eq_of_beq_eq_true dL;have fA:=Nat.eq_of_beq_eq_true fA;have hg:=Nat.eq_of_beq_eq_true hg;have lJ:=Nat.eq_of_beq_eq_true lJ;have u9:=Nat.eq_of_beq_eq_true u9;have x3:=Nat.eq_of_beq_eq_true x3;subst c8; subst dL; subst fA; subst hg; subst lJ; subst u9; subst x3
      split at ah
      · rename_i ad he
        split at ah
        · rename_i lz ab
          simp only[Bool.and_eq_true]at ab
          split at ah
          · rename_i o6
            split at ah
            · rename_i mG
              split at ah
              · rename_i aH
                split at ah
                · rename_i te hshy
                  cases ah;exact⟨⟨d,iH,_,_,_,_,_,_,_,_,_,_,_,_,_,_,_,_,_,_,_,_,_,_,_,_,_,_,rfl,⟨rfl,rfl⟩,⟨hgP,hdP⟩,rfl,⟨rfl,rfl⟩,rfl,⟨rfl,rfl⟩,rfl,⟨rfl,rfl⟩,EW,iM,Na,Nb,⟨Nat.ne_of_beq_eq_false nw,Nat.ne_of_beq_eq_false oh,Nat.ne_of_beq_eq_false ZM,Nat.ne_of_beq_eq_false Nr⟩,⟨Nat.ne_of_beq_eq_false Ns,Nat.ne_of_beq_eq_false Nt⟩,⟨h9,hK⟩,aY,rfl,he,hu,ZL,ad,lz,ab.1,ab.2.1,ab.2.2,o6,mG,aH,te,hshy,rfl,rfl,rfl⟩⟩
                · cases ah
              · cases ah
            · cases ah
          · cases ah
        · cases ah
      · cases ah
    · cases ah
  · cases ah
theorem ZN{j2 jb bj bM cd:Oper} {c:Bool} {cW:List Nat} (ah:yN X n st j2 jb bj bM cd=some (c,st',cW)):cU cW st st':=by
  obtain⟨I⟩:=Nq ah;have key:∀ (s:aM) (V:List Nat),s=⟨(I.d2,.a (.c .dead)) :: (I.d1,.a (.c .dead)) :: (I.iH,.a I.sp) :: (I.d,.a I.bx) :: st.L,eO I.id (.mp I.gk I.bO (ib I.gk I.bO I.l I.z I.gQ) none) st.H⟩->V=[I.d2,I.d1,I.iH,I.d,I.id]->cU V st s:=fun s V aj jH=>by
    subst aj;subst jH;exact⟨(b6.cons (b6.cons (b6.cons (b6.cons (V:=[I.id]) (b6.refl _))))),(jI (V:=[I.id]) (iX _ _)).more fun q ao=>(e9 (e9 (e9 (e9 ao).2).2).2).2⟩
  exact key _ _ I.di I.oN
theorem gz.Nu{P:Program} {ops:Array Oper} {Q:Exit->Act->World->Prop} {S S':Nat->Array Bool->World->Prop} {e:Nat} (aJ:∀ j l w,j≠e->j≠e+1->S j l w->S' j l w):∀ (fuel:Nat) (listed:Array Bool) (a:Act) (w:World),listed.getD e true=true->listed.getD (e+1) true=true->gz P ops Q S fuel listed a w->gz P ops Q S' fuel listed a w
  | 0,_,_,_,_,_,h=>h
  | fuel+1,listed,_,_,J,U,h=>⟨h.1,fun j aF=>by
    obtain⟨o,bb,ah⟩:=h.2 j aF;have hu:=(mem_ready.1 aF).1;have cG:∀ q,listed.getD q true=true->j≠q:=fun q ao ZO=>by
      subst ZO
      rcases Nat.lt_or_ge j listed.size with a8 | a8
      · simp[a8]at hu ao; rw[hu]at ao; cases ao
      · simp[Array.getElem?_eq_none a8]at hu
    have ab:∀ q,listed.getD q true=true->(listed.setIfInBounds j true).getD q true=true:=fun q ao=>by rw[getD_set_ne true (cG q ao)]; exact ao
    exact⟨o,bb,ah.mono fun aW w' a8=>⟨aJ _ _ _ (cG e J) (cG (e+1) U) a8.1,gz.Nu aJ fuel _ aW w' (ab e J) (ab (e+1) U) a8.2⟩⟩⟩
theorem vO{L:cQ} {s d:Nat} {v:b5} (h:s≠d):bw X ((d,v) :: L) (.tmp s)=bw X L (.tmp s):=by
  unfold bw;simp only[cn,if_neg h]
theorem ZP{P:Program} {ops:List Oper} {Q:Exit->Act->World->Prop} {S:Nat->Array Bool->World->Prop} {e fuel:Nat} {bj bM cd:Oper} {l:Array Bool} {a:Act} {w:World} (J:nth ops e=some bj) (U:nth ops (e+1)=some bM) (ag:nth ops (e+2)=some cd)
    (aP:Region.ready .any ops.toArray l=[e]) (aX:Region.ready .any ops.toArray (l.setIfInBounds e true)=[e+1]) (bG:Region.ready .any ops.toArray ((l.setIfInBounds e true).setIfInBounds (e+1) true)=[e+2])
    (h:eW P ops.toArray bj (fun aq b0=>S e l b0/\eW P ops.toArray bM (fun a2 w2=>S (e+1) (l.setIfInBounds e true) w2/\eW P ops.toArray cd (fun a3 mr=>S (e+2) ((l.setIfInBounds e true).setIfInBounds (e+1) true) mr/\gz P ops.toArray Q S fuel (((l.setIfInBounds e true).setIfInBounds (e+1) true).setIfInBounds (e+2) true) a3 mr) a2 w2) aq b0) a w):gz P ops.toArray Q S (fuel+3) l a w:=by
  refine⟨fun h0=>(by rw[aP]at h0; cases h0),fun k ab=>?_⟩;rw[aP]at ab;have n5:k=e:=by simpa using ab
  subst n5;refine⟨bj,k0 J,h.mono fun aq b0 ⟨g1,h⟩=>⟨g1,?_⟩⟩;refine⟨fun h0=>(by rw[aX]at h0; cases h0),fun q ao=>?_⟩;rw[aX]at ao;have GO:q=k+1:=by simpa using ao
  subst GO;refine⟨bM,k0 U,h.mono fun a2 w2 ⟨g2,h⟩=>⟨g2,?_⟩⟩;refine⟨fun h0=>(by rw[bG]at h0; cases h0),fun q ao=>?_⟩;rw[bG]at ao;have GO:q=k+2:=by simpa using ao
  subst GO;exact⟨cd,k0 ag,h⟩
theorem ZQ(k:Nat):¬ (k+2=k\/k+2=k+1):=by omega
theorem ZR{l:Array Bool} {e:Nat} (h:e < l.size):(((l.setIfInBounds e true).setIfInBounds (e+1) true).setIfInBounds (e+2) true).getD e true=true:=by
  rw[getD_set_ne true (by omega),getD_set_ne true (by omega)]
  simp[h]
theorem ZS{l:Array Bool} {e:Nat} (h:e+1 < l.size):(((l.setIfInBounds e true).setIfInBounds (e+1) true).setIfInBounds (e+2) true).getD (e+1) true=true:=by
  rw[getD_set_ne true (by omega)]
  simp[h]
set_option maxHeartbeats 1000000 in
theorem ZT(av:X.a7.ok X.P) {j2 jb bj bM cd:Oper} {c:Bool} {cW:List Nat} {p e:Nat} (Nv:nth ops i=some j2) (Nw:nth ops p=some jb) (J:nth ops e=some bj) (U:nth ops (e+1)=some bM) (ag:nth ops (e+2)=some cd)
    (au:GM ops.toArray E aI.listed i p e=true) (ah:yN X n st j2 jb bj bM cd=some (c,st',cW)) (aa:c=true)
    (h:jm X M n ops E fuel ⟨((((aI.listed.setIfInBounds i true).setIfInBounds p true).setIfInBounds e true).setIfInBounds (e+1) true).setIfInBounds (e+2) true,false,false,aI.jU,aI.all⟩ st' Q):jm X M n ops E (fuel+3+1+1) aI st Q:=by
  intro R W aD dr dD cT F ks env B ai H a w cp al dY;obtain⟨I⟩:=Nq ah;have e3:=I.aa.symm.trans aa;simp only[Bool.and_eq_true]at e3;obtain⟨jk,e0,k3,mm,yS⟩:=e3;unfold GM at au;rw[Bool.and_eq_true]at au;obtain⟨gw,pg⟩:=au;simp only[Bool.and_eq_true]at gw pg;obtain⟨⟨⟨qn,Nx⟩,sI⟩,hS⟩:=gw;obtain⟨⟨⟨⟨aP,aX⟩,bG⟩,⟨⟨⟨⟨Ny,Nz⟩,NA⟩,NB⟩,NC⟩⟩,⟨⟨B8,B9⟩,Ca⟩⟩:=pg;simp only[beq_iff_eq]at aP aX bG;simp only[Bool.not_eq_true']at Ny Nz NA NB NC B8 B9;have B8:=Nat.ne_of_beq_eq_false B8;have B9:=Nat.ne_of_beq_eq_false B9;have Ca:=dK Ca;have vM:F w:=dY.F al;have yT:∀ {l:Array Bool} {j:Nat},E.elem j=false->fD E l j=false:=fun {l j} aF=>by unfold fD; rw[aF]; rfl
  have bZ:=yv av I.ab;obtain⟨v0,ND,o7⟩:=M5 (z:=I.z) av bZ I.aY I.dv I.he I.ad al;have yI:dH env B ai I.bx v0:=(o7 (MO I.bk)).bx I.o6;obtain⟨jj,c8,b,ae,rfl⟩:=al.aE I.hu rfl;obtain⟨vx,dL,fA⟩:=al.aE I.ah jk;rw[eQ.key bZ.pa bZ.eq.key (eQ.u2 I.lz e0 I.Np fA)]at dL
  let tm:World->Prop:=fun b0=>∀ b,env I.id=.blk b->(Instr.lookup I.t (.map (some b)) (.agg (I.gk.cK I.z).toArray) false).run X.P b0=.ok v0 b0
  have ZU:∀ b0,tm b0->(execOp a.eval j2).run X.P b0=.ok (.value v0) b0:=fun b0 ja=>by
    simp[execOp,I.ZI,al.cb.aE c8,al.cb.aE dL,ja b ae]
  -- the state xK the lookup and the new value
  have gZ:=al.set (sv:=.a I.bx) yI (show c2 n (jR ks aD) ((I.d,v0) :: gn a) (a.put j2.dst v0) by rw[I.dJ.2]; exact al.cb.put I.d v0 (dK I.ax));obtain⟨GP,ZV,ZW⟩:=AS av I.mG k3 gZ;have eS:=gZ.set (sv:=.a I.sp) ZV (show c2 n (jR ks aD) ((I.iH,GP) :: gn (a.put j2.dst v0)) ((a.put j2.dst v0).put jb.dst GP) by rw[I.nD.2]; exact gZ.cb.put I.iH GP (dK I.ZJ))
  -- stronger: the lookup may come xK the entry
  refine gz.Fb (S':=fun j l w=>((fD E l j=true->bK (fun k=>R k\/dr k) dD cT w)/\F w)/\(j=e\/j=e+1->tm w)) (fun _ _ _ h=>h.1) _ _ _ _ ?_;have qW:=qn;simp only[rb,Bool.and_eq_true]at qn Nx;obtain⟨⟨⟨ZX,Bj⟩,ZY⟩,ZZ⟩:=qn;obtain⟨⟨⟨Z0,_⟩,Z1⟩,Z2⟩:=Nx;have xR:∀ {q:Nat},Bh E q=true->∀ (j:Nat) (l:Array Bool) (w:World),(((fD E (l.setIfInBounds q true) j=true->bK (fun k=>R k\/dr k) dD cT w)/\F w)/\(j=e\/j=e+1->tm w))->(((fD E l j=true->bK (fun k=>R k\/dr k) dD cT w)/\F w)/\(j=e\/j=e+1->tm w)):=fun ao j l w aJ=>⟨⟨fun he=>aJ.1.1 (Lk ao he),aJ.1.2⟩,aJ.2⟩
  have NF:∀ j∈xK ops.toArray i,aI.listed.getD j true=false/\uP ops.toArray i (xK ops.toArray i) j=true:=fun j aF=>by
    have:=List.all_eq_true.1 sI j aF
    simpa using this
  refine gz.first (T:=fun w=>tm w/\F w) (k0 Nv) (Region.noSelect_spec Bj) (xK ops.toArray i) (fun j aF=>Ll (NF j aF).2) (xR ZX) _ _ _ _ (fun j aF=>(NF j aF).1) ?_ (by simpa using ZZ) (.inl ⟨by simp[Region.wanted,I.dJ.1],fun b0 ja=>ZU b0 ja.1⟩) ⟨ND,vM⟩ ?_ (fun l b0 ja=>⟨⟨fun he=>(by rw[yT Ny]at he; cases he),ja.2⟩,fun _=>ja.1⟩)
  · intro j fF kc jl nq lv
    refine⟨Region.free_spec (k0 Nv) ZY j fF kc jl nq lv,?_⟩
    have:=List.all_eq_true.1 hS j (List.mem_range.2 (Array.getElem?_eq_some_iff.1 kc).1)
    simp only[Bool.or_eq_true,beq_iff_eq]at this
    rcases this with(((g1 | g1) | g1) | g1) | g1
    · exact absurd g1 jl
    · rw[nq]at g1; cases g1
    · exact .inr fun l b0 _ aJ=>⟨aJ.2 (.inl g1),aJ.1.2⟩
    · exact .inr fun l b0 _ aJ=>⟨aJ.2 (.inr g1),aJ.1.2⟩
    · exact .inl (by simpa using g1)
  refine gz.first (T:=F) (k0 Nw) (Region.noSelect_spec Bj) [] (fun _ h=>by cases h) (xR Z0) _ _ _ _ (fun _ h=>by cases h) ?_ (by simpa using Z2) (.inl ⟨by simp[Region.wanted,I.nD.1],fun b0 _=>ZW b0 fun h=>by rw[I.pu.2]at h; cases h⟩) vM ?_ (fun l b0 ja=>⟨⟨fun he=>(by rw[yT Nz]at he; cases he),ja⟩,fun he=>he.elim (fun q=>absurd q B8) (fun q=>absurd q B9)⟩)
  · intro j fF kc jl nq lv
    exact⟨Region.free_spec (k0 Nw) Z1 j fF kc jl nq lv,.inr fun l b0 _ aJ=>aJ.1.2⟩
  -- the entry
  have BI:bw X ((I.iH,b5.a I.sp) :: (I.d,b5.a I.bx) :: st.L) (.tmp I.kj)=some (true,.c (.eP I.id)):=by rw[vO I.B7.2.1,vO I.B7.1]; exact I.hu
  have nE:bw X ((I.iH,b5.a I.sp) :: (I.d,b5.a I.bx) :: st.L) (.tmp I.fx)=some (I.g,I.ny):=by rw[vO I.No.2,vO I.No.1]; exact I.ah
  have qb:bw X ((I.d2,b5.a (.c .dead)) :: (I.d1,b5.a (.c .dead)) :: (I.iH,b5.a I.sp) :: (I.d,b5.a I.bx) :: st.L) (.tmp I.kj)=some (true,.c (.eP I.id)):=by rw[vO I.B7.2.2.2,vO I.B7.2.2.1]; exact BI
  have kH:=M6 (st:=⟨(I.iH,b5.a I.sp) :: (I.d,b5.a I.bx) :: st.L,st.H⟩) (ops:=ops.toArray) av bZ I.GG I.J I.lI I.GH I.U I.kV I.GI I.ag I.aY I.dv I.he BI nE jk I.lz e0 I.Np I.ad qb I.aH mm I.te yS I.ZK eS ND (G:=fun b0=>F b0/\tm b0) (G3:=F) (fun b0 ab ad=>⟨dY.n7 b0 ab,ad⟩) (fun b0 ab=>dY.n7 b0 ab)
    (KK:=fun aW w'=>gz X.P ops.toArray (fun e a w=>e=.normal/\∃ st',Q e st'/\lL X R W aD M n st' a w) (fun j l w=>((fD E l j=true->bK (fun k=>R k\/dr k) dD cT w)/\F w)/\(j=e\/j=e+1->tm w)) fuel (((((aI.listed.setIfInBounds i true).setIfInBounds p true).setIfInBounds e true).setIfInBounds (e+1) true).setIfInBounds (e+2) true) aW w') (fun aW w' H' b7=>by
      have Cb:bI X R W aD n ks env B ai H' st' aW w':=by rw[I.di]; exact b7
      have sP:gz X.P ops.toArray (fun e a w=>e=.normal/\∃ st',Q e st'/\lL X R W aD M n st' a w) (fun j l w=>(fD E l j=true->bK (fun k=>R k\/dr k) dD cT w)/\F w) fuel (((((aI.listed.setIfInBounds i true).setIfInBounds p true).setIfInBounds e true).setIfInBounds (e+1) true).setIfInBounds (e+2) true) aW w':=h R W aD dr dD cT F ks env B ai H' aW w' cp Cb dY.lost;refine gz.Nu (e:=e) (S:=fun j l w=>(fD E l j=true->bK (fun k=>R k\/dr k) dD cT w)/\F w) (fun j l w J U aJ=>⟨aJ,fun h=>h.elim (fun q=>absurd q J) (fun q=>absurd q U)⟩) _ _ _ _ ?_ ?_ sP
      · exact ZR (by simpa using Nat.lt_of_succ_lt Ca)
      · exact ZS (by simpa using Ca))
  exact ZP J U ag aP aX bG (kH.mono fun aq b0 ⟨g1,kH⟩=>⟨⟨⟨fun b1=>(by rw[yT NA]at b1; cases b1),g1.1⟩,fun _=>g1.2⟩,kH.mono fun a2 w2 ⟨g2,kH⟩=>⟨⟨⟨fun b1=>(by rw[yT NB]at b1; cases b1),g2.1⟩,fun _=>g2.2⟩,kH.mono fun a3 mr ⟨g3,kH⟩=>⟨⟨⟨fun b1=>(by rw[yT NC]at b1; cases b1),g3⟩,fun b1=>(ZQ e b1).elim⟩,kH⟩⟩⟩)
theorem kk(av:X.a7.ok X.P) {k:hD->fa->List Nat->List Bool->aM->Option ρ} {r:ρ} {c0:Nat} (eu:∀ aI G V A st,k aI G V A st=some r->∀ c∈A,c=true) (ab:∀ uR eL fk cm st',dS (ef ops) eL st'.L->cU fk st0 st'->k uR eL fk cm st'=some r->jm X M n ops E c0 uR st' Q):∀ {is:List rH} {aI:hD} {G:fa} {V:List Nat} {A:List Bool} {st:aM},dS (ef ops) G st.L->cU V st0 st->fb X n T ops E is aI G V A st k=some r->jm X M n ops E (c0+rI is) aI st Q
  | [],aI,G,V,A,st,cy,h0,h=>by
    unfold fb at h;exact ab _ _ _ _ _ cy h0 h
  | .t i m :: is,aI,G,V,A,st,cy,h0,h=>by
    have one:∀ {d:Nat} {sv:b5},cU (d :: V) st0 ⟨(d,sv) :: st.L,st.H⟩:=fun {d sv}=>⟨b6.cons h0.1,h0.2.more fun q ao=>(e9 ao).2⟩
    unfold fb at h
    split at h
    · rename_i o hi aY
      split at h
      · rename_i d dx dU
        split at h
        · rename_i c bx aC ax
          have aa:=hW eu h c List.mem_cons_self;have bJ:=kk (is:=is) av eu ab (cy.drop d _) one h;intro R W aD dr dD cT F ks env B ai H a w cp al dY;obtain⟨v,aw,dW⟩:∃ v,dH env B ai bx v/\∀ w',(oO o.op=true->bK (fun k=>R k\/B k) ai (vJ aI.all m H) w')->(execOp a.eval o).run X.P w'=.ok (.value v) w':=Ni av al (vK al.heap).1 (vK al.heap).2 cy (fun _ h=>by cases h) aC aa;exact yP (sv:=.a bx) av hi aY dU ax al dY v aw (fun T ca=>.inl ⟨by simp[Region.wanted,dx],fun w' mI=>dW w' (ca w' mI)⟩) fun aW b7 gA=>bJ R W aD dr dD cT F ks env B ai H aW w cp b7 gA
        · cases h
      · rename_i j want d dx dU
        split at h
        · rename_i s aF
          split at h
          · rename_i g aV
            split at h
            · rename_i c bx aC ax qk
              have aa:=hW eu h _ List.mem_cons_self;have cG:s≠d:=Nat.ne_of_beq_eq_false qk;have mq:dS (ef ops) ((d,j,want) :: iY (ef ops) d G) ((d,.may g bx) :: st.L):=fun e he=>by
                rcases List.mem_cons.1 he with rfl | he
                · exact⟨s,g,bx,aF,by rw[vt cG]; exact aV,by rw[cn,if_pos rfl]⟩
                · exact cy.drop d _ e he
              have bJ:=kk (is:=is) av eu ab mq one h;intro R W aD dr dD cT F ks env B ai H a w cp al dY;have hw:=yo (l:=ops) al dx aF aV;cases g with
              | true=>
                obtain⟨v,aw,dW⟩:∃ v,dH env B ai bx v/\∀ w',(oO o.op=true->bK (fun k=>R k\/B k) ai (vJ aI.all m H) w')->(execOp a.eval o).run X.P w'=.ok (.value v) w':=Ni av al (vK al.heap).1 (vK al.heap).2 cy (yn cy ⟨s,aF,aV⟩) aC (yi aa rfl);exact yP (sv:=.may true bx) av hi aY dU ax al dY v ⟨fun _=>aw,fun h=>by cases h⟩ (fun T ca=>.inl ⟨hw,fun w' mI=>dW w' (ca w' mI)⟩) fun aW b7 gA=>bJ R W aD dr dD cT F ks env B ai H aW w cp b7 gA
              | false=>exact yP (sv:=.may false bx) av hi aY dU ax al dY undef ⟨(fun h=>by cases h),fun _=>rfl⟩ (fun T ca=>.inr ⟨hw,rfl⟩) fun aW b7 gA=>bJ R W aD dr dD cT F ks env B ai H aW w cp b7 gA
            · cases h
          · cases h
        · cases h
      · cases h
    · cases h
  | .m i :: is,aI,G,V,A,st,cy,h0,h=>by
    unfold fb at h
    split at h
    · rename_i o hi aY
      split at h
      · rename_i d xs dx dU hm
        split at h
        · rename_i ax
          have one:cU (d :: V) st0 ⟨(d,.dj xs) :: st.L,st.H⟩:=⟨b6.cons h0.1,h0.2.more fun q ao=>(e9 ao).2⟩
          have bJ:=kk (is:=is) av eu ab (cy.drop d _) one h;intro R W aD dr dD cT F ks env B ai H a w cp al dY;obtain⟨v,J,U⟩:=K4 al hm;exact yP (sv:=.dj xs) av hi aY dU ax al dY v J (fun T ca=>.inl ⟨by simp[Region.wanted,dx],fun w' mI=>U w'⟩) fun aW b7 gA=>bJ R W aD dr dD cT F ks env B ai H aW w cp b7 gA
        · cases h
      · cases h
    · cases h
  | .s i :: is,aI,G,V,A,st,cy,h0,h=>by
    unfold fb at h
    split at h
    · rename_i o hi au ho
      split at h
      · rename_i dx
        split at h
        · rename_i c st' W aC
          have aa:=hW eu h c List.mem_cons_self;exact qm au (Fq hi (Gj av aC aa) ho rfl (kk (is:=is) av eu ab dS.nil (h0.trans (Gk aC)) h))
        · split at h
          · rename_i c st' aC
            have aa:=hW eu h c List.mem_cons_self;exact qm au (Lo av hi ho aC aa rfl (kk (is:=is) av eu ab dS.nil (h0.trans (vu dx aC)) h))
          · cases h
      · cases h
    · cases h
  | .k i :: is,aI,G,V,A,st,cy,h0,h=>by
    unfold fb at h
    split at h
    · rename_i o hi au pe
      split at h
      · rename_i dx
        split at h
        · rename_i d c bx dU aC
          split at h
          · rename_i ax
            have one:cU (d :: V) st0 ⟨(d,.a bx) :: st.L,st.H⟩:=⟨b6.cons h0.1,h0.2.more fun q ao=>(e9 ao).2⟩
            have aa:=hW eu h c List.mem_cons_self;refine qm au (vN (pre':=true) (kp:=fun _=>true) hi (hh.Nl (fun al=>BP av aC aa al) ⟨dx,dU⟩ ax) (fun _=>⟨pe,fun _ _=>rfl⟩) (by simp) ?_);exact kk (is:=is) av eu ab dS.nil one h
          · cases h
        · split at h
          · rename_i c st' hkk aC
            have aa:=hW eu h c List.mem_cons_self;cases fj:aI.all with
            | true=>
              rw[fj,cond_true]at hkk;refine qm au (Lq av hi (by rw[pe,Bool.true_and]; exact hkk) aC aa rfl ?_);exact kk (is:=is) av eu ab dS.nil (h0.trans (vu dx aC)) h
            | false=>
              rw[fj,cond_false]at hkk;simp only[Bool.and_eq_true]at hkk;refine qm au (Lp av hi (by rw[pe,hkk.1,hkk.2,fj]; rfl) aC aa rfl ?_);exact kk (is:=is) av eu ab dS.nil (h0.trans (vu dx aC)) h
          · cases h
        · cases h
      · cases h
    · cases h
  | .q i :: is,aI,G,V,A,st,cy,h0,h=>by
    unfold fb at h
    split at h
    · rename_i o hi aY
      split at h
      · rename_i d c bx dx dU aC
        split at h
        · rename_i ax
          have one:cU (d :: V) st0 ⟨(d,.a bx) :: st.L,st.H⟩:=⟨b6.cons h0.1,h0.2.more fun q ao=>(e9 ao).2⟩
          have aa:=hW eu h c List.mem_cons_self;have bJ:=kk (is:=is) av eu ab (cy.drop d _) one h;intro R W aD dr dD cT F ks env B ai H a w cp al dY;obtain⟨v,aw,dW⟩:=Zz (o:=o) al (vK al.heap).1 (vK al.heap).2 (ZA av aC aa);exact yP (sv:=.a bx) av hi aY dU ax al dY v aw (fun T ca=>.inl ⟨by simp[Region.wanted,dx],fun w' mI=>dW w' (ca w' mI)⟩) fun aW b7 gA=>bJ R W aD dr dD cT F ks env B ai H aW w cp b7 gA
        · cases h
      · cases h
    · cases h
  | .u i m :: is,aI,G,V,A,st,cy,h0,h=>by
    unfold fb at h
    split at h
    · rename_i o hi au ho
      split at h
      · rename_i c st' W aC
        have aa:=hW eu h c List.mem_cons_self;exact qm au (Fq hi (MP av aC aa) ho rfl (kk (is:=is) av eu ab dS.nil (h0.trans (MQ aC)) h))
      · cases h
    · cases h
  | .v i :: is,aI,G,V,A,st,cy,h0,h=>by
    unfold fb at h
    split at h
    · rename_i bj bM cd J U ag au hm
      split at h
      · rename_i c st' cW aC
        have aa:=hW eu h c List.mem_cons_self;exact ZG av J U ag au hm aC aa (kk (is:=is) av eu ab dS.nil (h0.trans (Zy aC)) h)
      · cases h
    · cases h
  | .w i p e :: is,aI,G,V,A,st,cy,h0,h=>by
    unfold fb at h
    split at h
    · rename_i j2 jb bj bM cd dJ nD J U ag au
      split at h
      · rename_i c st' cW aC
        have aa:=hW eu h c List.mem_cons_self;exact ZT av dJ nD J U ag au aC aa (kk (is:=is) av eu ab dS.nil (h0.trans (ZN aC)) h)
      · cases h
    · cases h
  | .e i :: is,aI,G,V,A,st,cy,h0,h=>by
    unfold fb at h
    split at h
    · rename_i o hi au ho
      split at h
      · rename_i d c bx dx dU aC
        split at h
        · rename_i ax
          have one:cU (d :: V) st0 ⟨(d,.a bx) :: st.L,st.H⟩:=⟨b6.cons h0.1,h0.2.more fun q ao=>(e9 ao).2⟩
          have aa:=hW eu h c List.mem_cons_self;exact qm au (vN (pre':=aI.pre) hi (Zd av dx dU ax aC aa) (fun an=>⟨an,fun _ _=>rfl⟩) ho (kk (is:=is) av eu ab dS.nil one h))
        · cases h
      · cases h
    · cases h
  | .c i ps :: is,aI,G,V,A,st,cy,h0,h=>by
    unfold fb at h
    split at h
    · rename_i o hi au ho
      obtain⟨_,eG,V2,J,U,ag⟩:=rE h0 h;exact qm au (vN hi J Nk ho (kk (is:=is) av eu ab dS.nil U ag))
    · cases h
  | .g i :: is,aI,G,V,A,st,cy,h0,h=>by
    unfold fb at h
    split at h
    · rename_i o hi au ho
      obtain⟨d,g,bx,eL,pU,c8,dL,fA⟩:=MU cy h0 h;exact qm au (ZF hi fA ho (kk (is:=is) av eu ab pU c8 dL))
    · cases h
  | .z id :: is,aI,G,V,A,st,cy,h0,h=>by
    unfold fb at h
    split at h
    · rename_i st' aC
      have ev:cU [] st st':=by
        unfold dn at aC
        split at aC
        · cases aC; exact⟨jo _ _ _,iG _ _ _⟩
        · cases aC
      exact TP id aC (kk (is:=is) av eu ab dS.nil (h0.trans ev) h)
    · cases h
  | .f :: is,aI,G,V,A,st,cy,h0,h=>by
    unfold fb at h
    split at h
    · rename_i aC
      exact TN aC (kk (is:=is) av eu ab cy h0 h)
    · cases h
inductive tn where
  | f (l:List rH)
  | b (l:List rH) (i j:Nat) (ps kE:dQ) (x y:tn)
def qo:tn->Nat
  | .f l=>rI l
  | .b l _ _ _ _ x _=>qo x+1+rI l
open Classical in
noncomputable def jc {ρ:Type} (a b:Option ρ):Option ρ:=if a=b then a else none
theorem mW{ρ:Type} (a:Option ρ):jc a a=a:=if_pos rfl
theorem Z3{ρ:Type} {a b:Option ρ} {r:ρ} (h:jc a b=some r):a=some r/\b=some r:=by
  unfold jc at h
  split at h
  · rename_i e
    exact⟨h,e ▸ h⟩
  · cases h
def yU(ops:List Oper) (k:List Nat->aM->Option ρ):hD->fa->List Nat->List Bool->aM->Option ρ:=fun aI _ V A st=>match Region.ready .any ops.toArray aI.listed with
  | []=>ar (mU A true) (k V st)
  | _=>none
theorem nF{α β:Type} {c:Bool} {a:Option α} {f:α->Option β}:Option.bind a (fun r=>ar c (f r))=ar c (Option.bind a f):=by
  cases c with
  | true=>rfl
  | false=>
    cases a with
    | none=>rfl
    | some x=>rfl
theorem nG{α:Type} {a b:Bool} {k:Option α}:ar (a&&b) k=ar a (ar b k):=by cases a<;>rfl
theorem fc{α:Type} {k:Option α}:ar true k=k:=rfl
theorem gi{α:Type} {k:Option α}:ar false k=none:=rfl
theorem gj{α:Type} {c:Bool}:ar c (none:Option α)=none:=by cases c<;>rfl
theorem gl{α:Type} {a:Bool} {k y:Option α} (J:a=true->k=y) (U:a=false->none=y):ar a k=y:=by
  cases a with
  | true=>exact J rfl
  | false=>exact U rfl
theorem nH{ρ:Type} {x y:Option ρ} (h:x=y):jc x y=x:=by rw[h]; exact mW _
def Cc(X:bq) (n:Nat) (T:List (bz X)) (ops:List Oper) (E:List Nat) (i:Nat) (ps:dQ) (o:Oper) (aI:hD) (V:List Nat) (A:List Bool) (st:aM) (k:hD->fa->List Nat->List Bool->aM->Option ρ):Option ρ:=match o.guard with
  | none=>match fD E aI.listed i,aI.pre with
    | false,_=>match tc X n st o with
      | some (c,st',W)=>k ⟨aI.listed.setIfInBounds i true,false,false,aI.jU,aI.all⟩ [] (W++V) (c :: A) st'
      | none=>match nk X n (ef ops) st o with
        | .ok c st'=>k ⟨aI.listed.setIfInBounds i true,false,false,aI.jU,aI.all⟩ [] (ta X st.L o++V) (c :: A) st'
        | .stop=>th X n T ps V A st (fun eL fk cm st'=>k ⟨aI.listed.setIfInBounds i true,false,false,false,aI.all⟩ eL fk cm st') o
    | true,true=>match o.dst,vq X st o.op with
      | some d,some (c,bx)=>match Nat.blt d n with
        | true=>k ⟨aI.listed.setIfInBounds i true,false,true,false,aI.all⟩ [] (d :: V) (c :: A) ⟨(d,.a bx) :: st.L,st.H⟩
        | false=>none
      | _,none=>match cond aI.all (uE o.op&&q2 o st.H) (AT o.op&&oR o st.H),nk X n (ef ops) st o with
        | true,.ok c st'=>k ⟨aI.listed.setIfInBounds i true,false,true,aI.jU,aI.all⟩ [] (ta X st.L o++V) (c :: A) st'
        | _,.stop=>match og st.H ps || (!aI.all&&vg st.H ps)with
          | true=>th X n T ps V A st (fun eL fk cm st'=>k ⟨aI.listed.setIfInBounds i true,false,true,false,aI.all⟩ eL fk cm st') o
          | false=>none
        | _,_=>none
      | none,some _=>none
    | true,false=>none
  | some _=>none
noncomputable def vP (X:bq) (n:Nat) (T:List (bz X)) (ops:List Oper) (E:List Nat):tn->hD->fa->List Nat->List Bool->aM->(List Nat->aM->Option ρ)->Option ρ
  | .f l,aI,G,V,A,st,k=>fb X n T ops E l aI G V A st (yU ops k)
  | .b l i j ps kE x y,aI,G,V,A,st,k=>fb X n T ops E l aI G V A st fun aI _ V A st=>match nth ops i,nth ops j,Region.ready .any ops.toArray aI.listed == [i,j],Nat.beq (qo x) (qo y)with
    | some iB,some fF,true,true=>ar (mU A true) (jc (Cc X n T ops E i ps iB aI V [] st fun aI G V A st=>vP X n T ops E x aI G V A st k) (Cc X n T ops E j kE fF aI V [] st fun aI G V A st=>vP X n T ops E y aI G V A st k))
    | _,_,_,_=>none
theorem NG{ps:dQ} (av:X.a7.ok X.P) {k:hD->fa->List Nat->List Bool->aM->Option ρ} {r:ρ} {c0:Nat} (eu:∀ aI G V A st,k aI G V A st=some r->∀ c∈A,c=true) (ab:∀ uR eL fk cm st',dS (ef ops) eL st'.L->cU fk st0 st'->k uR eL fk cm st'=some r->jm X M n ops E c0 uR st' Q) (hi:nth ops i=some o) (h0:cU V st0 st) (h:Cc X n T ops E i ps o aI V A st k=some r):oW X M n ops E c0 aI st Q i:=by
  unfold Cc at h
  split at h
  · rename_i dx
    split at h
    · rename_i ho
      split at h
      · rename_i c st' W aC
        exact Fq hi (Gj av aC (eu _ _ _ _ _ h c List.mem_cons_self)) ho rfl (ab _ _ _ _ _ dS.nil (h0.trans (Gk aC)) h)
      · split at h
        · rename_i c st' aC
          exact Lo av hi ho aC (eu _ _ _ _ _ h c List.mem_cons_self) rfl (ab _ _ _ _ _ dS.nil (h0.trans (vu dx aC)) h)
        · obtain⟨_,eG,V2,J,U,ag⟩:=rE h0 h
          exact vN (pre':=false) hi J (fun h=>by cases h) (by rw[ho]; rfl) (ab _ _ _ _ _ dS.nil U ag)
    · rename_i ho pe
      split at h
      · rename_i d c bx dU aC
        split at h
        · rename_i ax
          have one:cU (d :: V) st0 ⟨(d,.a bx) :: st.L,st.H⟩:=⟨b6.cons h0.1,h0.2.more fun q ao=>(e9 ao).2⟩
          exact vN (pre':=true) (kp:=fun _=>true) hi (hh.Nl (fun al=>BP av aC (eu _ _ _ _ _ h c List.mem_cons_self) al) ⟨dx,dU⟩ ax) (fun _=>⟨pe,fun _ _=>rfl⟩) (by simp) (ab _ _ _ _ _ dS.nil one h)
        · cases h
      · split at h
        · rename_i c st' hkk aC
          have aa:=eu _ _ _ _ _ h c List.mem_cons_self;have a6:=ab _ _ _ _ _ dS.nil (h0.trans (vu dx aC)) h;cases fj:aI.all with
          | true=>
            rw[fj,cond_true]at hkk;exact Lq av hi (by rw[pe,Bool.true_and]; exact hkk) aC aa rfl a6
          | false=>
            rw[fj,cond_false]at hkk;simp only[Bool.and_eq_true]at hkk;exact Lp av hi (by rw[pe,hkk.1,hkk.2,fj]; rfl) aC aa rfl a6
        · split at h
          · rename_i kz
            obtain⟨_,eG,V2,J,U,ag⟩:=rE h0 h;exact vN (pre':=true) hi J (fun _=>Nk (by rw[pe,kz]; rfl)) (by simp) (ab _ _ _ _ _ dS.nil U ag)
          · cases h
        · cases h
      · cases h
    · cases h
  · cases h
theorem NH{k:List Nat->aM->Option ρ}:∀ {t:tn} {aI:hD} {G:fa} {V:List Nat} {A:List Bool} {st:aM},vP X n T ops E t aI G V A st k=some r->∀ c∈A,c=true
  | .f l,aI,G,V,A,st,h=>hW (fun aI G V A st h=>by
      unfold yU at h
      split at h
      · exact(k7 (hp h).1).1
      · cases h) h
  | .b l i j ps kE x y,aI,G,V,A,st,h=>hW (fun aI G V A st h=>by
      split at h
      · exact(k7 (hp h).1).1
      · cases h) h
theorem GQ(av:X.a7.ok X.P) {k:List Nat->aM->Option ρ} {r:ρ} (ab:∀ fk st',cU fk st0 st'->k fk st'=some r->Q .normal st'):∀ {t:tn} {aI:hD} {G:fa} {V:List Nat} {A:List Bool} {st:aM},dS (ef ops) G st.L->cU V st0 st->vP X n T ops E t aI G V A st k=some r->jm X M n ops E (qo t) aI st Q
  | .f l,aI,G,V,A,st,cy,h0,h=>by
    have:=kk (c0:=0) (is:=l) (Q:=Q) (M:=M) (st0:=st0) av (k:=yU ops k) (r:=r) (fun aI G V A st h=>by
      unfold yU at h
      split at h
      · exact(k7 (hp h).1).1
      · cases h) (fun aI G V A st cy h0 h=>by
      unfold yU at h
      split at h
      · rename_i e
        exact TJ e (ab V st h0 (hp h).2)
      · cases h) cy h0 h
    rwa [Nat.zero_add]at this
  | .b l i j ps kE x y,aI,G,V,A,st,cy,h0,h=>by
    refine kk (c0:=qo x+1) (is:=l) av (k:=_) (r:=r) (fun aI G V A st h=>?_) (fun aI G V A st cy h0 h=>?_) cy h0 h
    · split at h
      · exact(k7 (hp h).1).1
      · cases h
    · split at h
      · rename_i iB fF hi aF au aa
        obtain⟨J,U⟩:=Z3 (hp h).2;refine Ls (beq_iff_eq.1 au) (Fa (NG av (fun _ _ _ _ _ h=>NH h) (fun aI G V A st cy h0 h=>GQ av ab cy h0 h) hi h0 J) (Fa (NG av (fun _ _ _ _ _ h=>NH h) (fun aI G V A st cy h0 h=>?_) aF h0 U) Lr));rw[Nat.eq_of_beq_eq_true aa];exact GQ av ab cy h0 h
      · cases h
end
end

def GR{β:Type} (eE:β->(Nat->Prop)->World->Prop):Prop:=∀ l C W dZ,eE l C W->dm C W dZ->eE l C dZ
structure oq(B C dB:Nat->Prop) (W dZ:World):Prop where
 e6:dm (fun k=>B k\/(k < W.heap.size/\¬ C k)) W dZ
 new:∀ k,dB k->C k\/W.heap.size<=k\/B k
structure yV(C c1 B2:Nat->Prop) (W:World):Prop where
 sub:∀ k,c1 k->B2 k
 new:∀ k,B2 k->c1 k\/(¬ C k/\∃ cs e de,W.heap[k]?=some (.cells cs e de))
def GS{β:Type} (eE:β->(Nat->Prop)->(Nat->Prop)->World->Prop):Prop:=∀ l C c1 W dZ,eE l C c1 W->dm C W dZ->eE l C c1 dZ
def NI{α:Type} (P:Program) (g:Nat) (lb:List Value) (B:Nat->Prop) (ai:World) (O:List bc) (l:List α) (enc:(Nat->Prop)->World->α->List Value->Prop):Prop:=
 ∀ (id:Nat) (eE:List α->(Nat->Prop)->(Nat->Prop)->World->Prop) (j3:Unit->(Nat->Prop)->World->Prop) (W:World),dm B ai W->(∀ k,B k->k < ai.heap.size)->GS eE->GR j3->(∀ r C c1 W,eE r C c1 W->∀ k,C k->k < W.heap.size)->(∀ r C W,j3 r C W->∀ k,C k->k < W.heap.size)->(∀ r C c1 W,eE r C c1 W->∀ k,c1 k->C k) ->
  (∀ x rest C c1 B2 cW vs,eE (x :: rest) C c1 cW->yV C c1 B2 cW->enc B2 cW x vs->YieldAt Fence.wide 1 P id vs.toArray cW fun e dZ=>
   (e=.returned (.bool true)/\∃ dB,eE rest dB B2 dZ/\oq B2 C dB cW dZ)\/(e=.returned (.bool false)/\∃ dB,j3 () dB dZ/\oq B2 C dB cW dZ)) ->
  ∀ C,eE l C B W->bK C W O W->CallsIn Fence.wide 1 P g (#[.func (.yield id) #[] #[]]++lb.toArray) W fun e dZ=>(∃ v,e=.returned v)/\∃ dB,(∃ c1,eE [] dB c1 dZ)\/j3 () dB dZ
def Z4{α:Type} (B:Nat->Prop) (I:List α->(Nat->Prop)->(Nat->Prop)->World->Prop) (ph:Code->(Nat->Prop)->World->Prop) (rest:List α) (C:Nat->Prop) (W:World):Exit->Act->World->Prop
 | .normal,_,dZ=>∃ dB,I rest dB B dZ/\oq B C dB W dZ
 | .ret,_,dZ=>∃ dB,ph .ret dB dZ/\oq B C dB W dZ
 | .exit id,_,dZ=>∃ dB,ph (.exit id) dB dZ/\oq B C dB W dZ
 | _,_,_=>False
theorem tp{C:Nat->Prop} {W:World} {k:Nat} {o:Obj} (h:¬ C k):dm C W (W.putObj k o):=⟨rfl,rfl,rfl,by simp,fun q ao=>World.putObj_heap_other fun e=>h (e ▸ ao)⟩
theorem Z5{α:Type} {P:Program} {g:Operand} {ps:Array Tmp} {assign body:Code} {Q:Exit->Act->World->Prop} {a:Act} {w:World} {gf:Nat} {lb:List Value} {B:Nat->Prop} {ai:World} {O:List bc} {l:List α} {enc:(Nat->Prop)->World->α->List Value->Prop}
  (aV:a.eval g=.func (.func gf) #[] lb.toArray) (Z6:∀ args w,(callFunc gf args).run P w=.ok (.enter gf args) w)
  (GU:NI P gf lb B ai O l enc) (ng:dm B ai w) (cH:∀ k,B k->k < ai.heap.size) (kz:∀ B2 W x vs,enc B2 W x vs->vs.length=ps.size) (dp:∀ B2 W dZ x vs,dm B2 W dZ->enc B2 W x vs->enc B2 dZ x vs)
  (I:List α->(Nat->Prop)->(Nat->Prop)->World->Prop) (ph:Code->(Nat->Prop)->World->Prop) (gI:GS I) (Cd:GR ph) (aL:∀ r C c1 W,I r C c1 W->∀ k,C k->k < W.heap.size) (vQ:∀ r C c1 W,I r C c1 W->∀ k,c1 k->C k) (GV:∀ r C W,ph r C W->∀ k,C k->k < W.heap.size) (kl:Nat->Prop) (h0:I l kl B w) (Ce:bK kl w O w)
  (rm:List Value->Act)
  (Z7:∀ (id:Nat) (x:α) (vs:List Value) (W:World) (K:Act->World->Prop),vs.length=ps.size->K (rm vs) W ->
   assign.wpIn (Fence.wide.inRound id) 1 P (Exit.then K (fun _ _ _=>False)) { tmps:=(ps.zip vs.toArray).foldl (fun t (p,v)=>t.setIfInBounds p v) a.tmps,defers:=[] } W)
  (GW:∀ (id:Nat) (x:α) (rest:List α) (vs:List Value) (C c1 B2:Nat->Prop) (W:World),I (x :: rest) C c1 W->yV C c1 B2 W->enc B2 W x vs->body.wpIn (Fence.wide.inRound id) 1 P (Z4 B2 I ph rest C W) (rm vs) W)
  (GX:∀ (D:Nat) (C c1:Nat->Prop) (W:World),w.heap.size<=D->¬ C D->I [] C c1 W->W.heap[D]?=some (.deferred (some []))->Q .normal { a with defers:={ target:=.collected D,args:=#[] } :: a.defers } W)
  (GY:∀ (D:Nat) (c:Code) (C:Nat->Prop) (W:World),w.heap.size<=D->¬ C D->ph c C W->W.heap[D]?=some (.deferred (some []))->c.wpIn Fence.wide 2 P Q { a with defers:={ target:=.collected D,args:=#[] } :: a.defers } W) :
  (Code.rangeFunc g ps assign body).wpIn Fence.wide 2 P Q a w:=by
 refine wpIn_rangeFunc ?_;intro fn ir;have x1:Fence.wide.round=none:=rfl;rw[x1];obtain⟨rec,bm⟩:∃ rec:LoopState->Option Code->Loop,rec=fun st Z8=>{ state:=st,pending:=Z8,fn,tmps:=a.tmps,params:=ps,assign,body,defers:=w.heap.size }:=⟨_,rfl⟩
 obtain⟨cW,yW⟩:∃ cW,(w.alloc (.deferred (some []))).alloc (.loop (rec .ready none))=cW:=⟨_,rfl⟩
 have yX:cW.heap[w.heap.size+1]?=some (.loop (rec .ready none)):=by
  rw[<- yW]; have:=World.alloc_heap_new (w.alloc (.deferred (some []))) (.loop (rec .ready none)); rwa [World.size_alloc]at this
 have Z9:cW.heap[w.heap.size]?=some (.deferred (some [])):=by
  rw[<- yW]; exact(Below.heap_alloc _ _ _ (by simp)).trans (World.alloc_heap_new w _)
 have fu:cW.heap.size=w.heap.size+2:=by rw[<- yW]; simp
 have hC:∀ {C:Nat->Prop},(∀ k,C k->k < w.heap.size)->dm C w cW:=fun {C} c5=>by
  rw[<- yW];exact⟨rfl,rfl,rfl,by simp; omega,fun k ab=>by
   have:=c5 k ab
   exact(Below.heap_alloc _ _ _ (by simp; omega)).trans (Below.heap_alloc _ _ _ this)⟩
 have Cf:∀ k,B k->k < w.heap.size:=fun k ab=>Nat.lt_of_lt_of_le (cH k ab) ng.size
 have vR:=aL _ _ _ _ h0;have aaa:I l kl B cW:=gI _ _ _ _ _ h0 (hC vR);have aab:bK (fun k=>kl k\/k=w.heap.size\/k=w.heap.size+1) cW O cW:=by
  refine⟨dm.refl _ _,fun k ab=>?_,fun c aa=>?_,Ce.apart⟩
  ·rw[fu]
   rcases ab with ab | ab | ab
   ·have:=vR k ab
    omega
   ·omega
   ·omega
  ·refine((Ce.ok c aa).e6 fun b ae=>(hC (C:=fun k=>c.has k) fun k ab=>((Ce.ok c aa).lt ab).2).block b ae).base fun b ae h=>?_
   have J:=(Ce.ok c aa).lt ae
   rcases h with h | h | h
   ·exact J.1 h
   ·omega
   ·omega
 let D:=w.heap.size
 let id:=w.heap.size+1
 let eE:List α->(Nat->Prop)->(Nat->Prop)->World->Prop:=fun r C c1 W=>∃ kl,(∀ k,C k ↔ kl k\/k=D\/k=id)/\¬ kl D/\¬ kl id/\I r kl c1 W/\W.heap[id]?=some (.loop (rec .ready none))/\W.heap[D]?=some (.deferred (some []))
 let j3:Unit->(Nat->Prop)->World->Prop:=fun _ C W=>∃ kl c,(∀ k,C k ↔ kl k\/k=D\/k=id)/\¬ kl D/\¬ kl id/\ph c kl W/\W.heap[id]?=some (.loop (rec .done (some c)))/\W.heap[D]?=some (.deferred (some []))
 have fT:∀ {C kl:Nat->Prop} {W dZ:World},(∀ k,C k ↔ kl k\/k=D\/k=id)->dm C W dZ->dm kl W dZ:=fun c5 h=>⟨h.os,h.tape,h.output,h.size,fun k ab=>h.block k ((c5 k).2 (.inl ab))⟩
 refine⟨w.heap.size+1,[{ target:=.collected w.heap.size,args:=#[] }],cW,{ target:=.fn (.func gf) lb.toArray,args:=#[.func (.yield (w.heap.size+1)) #[] #[]] },cW,gf,
  #[.func (.yield (w.heap.size+1)) #[] #[]]++lb.toArray,cW,?_,?_,?_,?_,fun _=>by omega,?_⟩
 ·rw[<- yW,bm]; exact run_enterLoop_outer _ _ _ _ _
 ·simp only[resolve,aV]
  simp[go_sem]
 ·intro LK mE
  exact trivial
 ·simp[invoke,go_sem,Z6]
 ·refine(GU id eE j3 cW (ng.trans (hC Cf)) cH ?_ ?_ ?_ ?_ ?_ ?_ (fun k=>kl k\/k=D\/k=id) ⟨kl,fun k=>Iff.rfl,fun h=>by have:=vR _ h; simp only[D]at this; omega,fun h=>by have:=vR _ h; simp only[id]at this; omega,aaa,yX,Z9⟩ aab).mono ?_
  ·rintro r C c1 W dZ ⟨fy,c5,J,U,ag,ay,aO⟩ ab
   exact⟨fy,c5,J,U,gI _ _ _ _ _ ag (fT c5 ab),(ab.block _ ((c5 _).2 (.inr (.inr rfl)))).trans ay,(ab.block _ ((c5 _).2 (.inr (.inl rfl)))).trans aO⟩
  ·rintro r C W dZ ⟨fy,c,c5,J,U,ag,ay,aO⟩ ab
   exact⟨fy,c,c5,J,U,Cd _ _ _ _ ag (fT c5 ab),(ab.block _ ((c5 _).2 (.inr (.inr rfl)))).trans ay,(ab.block _ ((c5 _).2 (.inr (.inl rfl)))).trans aO⟩
  ·rintro r C c1 W ⟨fy,c5,J,U,ag,ay,aO⟩ k ab
   rcases (c5 k).1 ab with h | h | h
   ·exact aL _ _ _ _ ag k h
   ·subst h; exact(Array.getElem?_eq_some_iff.1 aO).1
   ·subst h; exact(Array.getElem?_eq_some_iff.1 ay).1
  ·rintro r C W ⟨fy,c,c5,J,U,ag,ay,aO⟩ k ab
   rcases (c5 k).1 ab with h | h | h
   ·exact GV _ _ _ ag k h
   ·subst h; exact(Array.getElem?_eq_some_iff.1 aO).1
   ·subst h; exact(Array.getElem?_eq_some_iff.1 ay).1
  ·rintro r C c1 W ⟨fy,c5,J,U,ag,ay,aO⟩ k ab
   exact(c5 k).2 (.inl (vQ _ _ _ _ ag k ab))
  ·rintro x rest C c1 B2 W vs ⟨fy,c5,GZ,Cg,hi,ad,ab⟩ tq tr
   have G0:id < W.heap.size:=(Array.getElem?_eq_some_iff.1 ad).1;have aH:=run_yield (P:=P) (args:=vs.toArray) ad (by rw[bm]; simp[kz _ _ x vs tr]);rw[bm]at aH;refine⟨fn,_,assign,body,aH,roundIn_of_wpIn ir (Z7 _ x vs W _ (kz _ _ x vs tr) ?_)⟩
   clear aH
   refine⟨_,run_beginRound ad (by rw[bm]),?_⟩;have fz:(W.putObj id (.loop { rec .ready none with state:=.busy })).heap[id]?=some (.loop { rec .ready none with state:=.busy }):=World.putObj_heap_same G0;have nC:(W.putObj id (.loop { rec .ready none with state:=.busy })).heap[D]?=some (.deferred (some [])):=(World.putObj_heap_other (by simp only[D,id]; omega)).trans ab;have yY:∀ k,B2 k->k≠id/\k≠D:=fun k ab=>by
    rcases tq.new k ab with h | ⟨h,_⟩
    ·have:=vQ _ _ _ _ hi k h
     exact⟨fun e=>Cg (e ▸ this),fun e=>GZ (e ▸ this)⟩
    ·exact⟨fun e=>h ((c5 k).2 (.inr (.inr e))),fun e=>h ((c5 k).2 (.inr (.inl e)))⟩
   have aac:yV fy c1 B2 (W.putObj id (.loop { rec .ready none with state:=.busy })):=⟨tq.sub,fun k ab=>(tq.new k ab).imp_right fun⟨h,cs,e,de,U⟩=>⟨fun a8=>h ((c5 k).2 (.inl a8)),cs,e,de,(World.putObj_heap_other (yY k ab).1).trans U⟩⟩
   have aad:=gI _ _ _ _ _ hi (tp (W:=W) (o:=.loop { rec .ready none with state:=.busy }) Cg);refine wpIn_mono (GW _ x rest vs fy c1 B2 _ aad aac (dp _ _ _ _ _ (tp fun h=>(yY _ h).1 rfl) tr)) ?_;have G1:∀ {dB:Nat->Prop} {mX:World},oq B2 fy dB (W.putObj id (.loop { rec .ready none with state:=.busy })) mX->∀ (jump:Option Code),
     (Instr.endRound id jump).run P mX=.ok (.bool jump.isNone) (mX.putObj id (.loop (rec (if jump.isNone then .ready else .done) jump))) /\
     (mX.putObj id (.loop (rec (if jump.isNone then .ready else .done) jump))).heap[id]?=some (.loop (rec (if jump.isNone then .ready else .done) jump)) /\
     (mX.putObj id (.loop (rec (if jump.isNone then .ready else .done) jump))).heap[D]?=some (.deferred (some []))/\¬ dB D/\¬ dB id/\oq B2 C (fun k=>dB k\/k=D\/k=id) W (mX.putObj id (.loop (rec (if jump.isNone then .ready else .done) jump))):=fun {dB mX} j7 jump=>by
    have ji:id < (W.putObj id (.loop { rec .ready none with state:=.busy })).heap.size/\¬ fy id:=⟨by simpa using G0,Cg⟩
    have NJ:D < (W.putObj id (.loop { rec .ready none with state:=.busy })).heap.size/\¬ fy D:=⟨by simp only[D,id]at G0 ⊢; simp; omega,GZ⟩
    have NK:=(j7.e6.block id (.inr ji)).trans fz;have ry:=(j7.e6.block D (.inr NJ)).trans nC;have he:=run_endRound (P:=P) jump NK;rw[bm]at he ⊢;refine⟨he,World.putObj_heap_same (Array.getElem?_eq_some_iff.1 NK).1,(World.putObj_heap_other (by simp only[D,id]; omega)).trans ry,fun h=>?_,fun h=>?_,⟨⟨?_,?_,?_,?_,fun k ab=>?_⟩,fun k ab=>?_⟩⟩
    ·rcases j7.new _ h with a8 | a8 | a8
     ·exact GZ a8
     ·have:=NJ.1; omega
     ·exact(yY _ a8).2 rfl
    ·rcases j7.new _ h with a8 | a8 | a8
     ·exact Cg a8
     ·have:=ji.1; omega
     ·exact(yY _ a8).1 rfl
    ·exact j7.e6.os
    ·exact j7.e6.tape
    ·exact j7.e6.output
    ·have:=j7.e6.size; simpa using this
    ·have cG:k≠id:=by
      rcases ab with ab | ab
      ·exact(yY k ab).1
      ·exact fun e=>ab.2 ((c5 k).2 (.inr (.inr e)))
     refine(World.putObj_heap_other cG).trans ((j7.e6.block k ?_).trans (World.putObj_heap_other cG))
     rcases ab with ab | ab
     ·exact .inl ab
     ·exact .inr ⟨by simpa using ab.1,fun h=>ab.2 ((c5 k).2 (.inl h))⟩
    ·rcases ab with ab | ab
     ·rcases j7.new k ab with a8 | a8 | a8
      ·exact .inl ((c5 k).2 (.inl a8))
      ·exact .inr (.inl (by simpa using a8))
      ·exact .inr (.inr a8)
     ·exact .inl ((c5 k).2 (.inr ab))
   rintro e a3 mX an;cases e with
   | normal=>
    obtain⟨dB,yZ,j7⟩:=an;obtain⟨au,ts,y0,lI,kV,dP⟩:=G1 j7 none;exact⟨_,_,au,.inl ⟨rfl,_,⟨dB,fun k=>Iff.rfl,lI,kV,gI _ _ _ _ _ yZ (tp kV),ts,y0⟩,dP⟩⟩
   | ret=>
    obtain⟨dB,yZ,j7⟩:=an;obtain⟨au,ts,y0,lI,kV,dP⟩:=G1 j7 (some .ret);exact⟨_,_,au,.inr ⟨rfl,_,⟨dB,.ret,fun k=>Iff.rfl,lI,kV,Cd _ _ _ _ yZ (tp kV),ts,y0⟩,dP⟩⟩
   | exit i=>
    obtain⟨dB,yZ,j7⟩:=an;obtain⟨au,ts,y0,lI,kV,dP⟩:=G1 j7 (some (.exit i));exact⟨_,_,au,.inr ⟨rfl,_,⟨dB,.exit i,fun k=>Iff.rfl,lI,kV,Cd _ _ _ _ yZ (tp kV),ts,y0⟩,dP⟩⟩
   | goto t=>exact an.elim
   | panic W7=>exact an.elim
   | outgrown=>exact an.elim
  ·rintro e rJ ⟨⟨v,rfl⟩,dB,(⟨c1,fy,c5,J,U,hi,ad,ab⟩ | ⟨fy,c,c5,J,U,hi,ad,ab⟩)⟩
   ·exact⟨none,_,by have:=run_endLoop (P:=P) ad (by rw[bm]; simp); rw[bm]at this; exact this,GX _ fy c1 _ (Nat.le_refl _) J (gI _ _ _ _ _ hi (tp U)) ((World.putObj_heap_other (by simp only[D,id]; omega)).trans ab)⟩
   ·exact⟨some c,_,by have:=run_endLoop (P:=P) ad (by rw[bm]; simp); rw[bm]at this; exact this,GY _ c fy _ (Nat.le_refl _) J (Cd _ _ _ _ hi (tp U)) ((World.putObj_heap_other (by simp only[D,id]; omega)).trans ab)⟩

section
theorem bt.split{env:Nat->Loc} {B:Nat->Prop} {w:World}:∀ {l l':bE} {H:List bc},bt env B w (l++l') H->∃ H1 H2,H=H1++H2/\bt env B w l H1/\bt env B w l' H2
 | [],_,H,h=>⟨[],H,rfl,rfl,h⟩
 | (_,_) :: l,_,_,⟨c,H',e,J,U⟩=>by
  obtain⟨H1,H2,a1,h9,hK⟩:=bt.split U;exact⟨c :: H1,H2,by rw[e,a1]; rfl,⟨c,H1,rfl,J,h9⟩,hK⟩
def Ch{α:Type} (X:bq) (gf:FuncId) (h3:List e2) (an:bE) (l:List α) (y1:α->List bh):Prop:=
 ∀ (B:Nat->Prop) (w:World) (lb:List Value) (env:Nat->Loc) (O:List bc),(∀ k,B k->k < w.heap.size)->uI X B w->eN env B w h3 lb->bt env B w an O->NI X.P gf lb B w O l (fun B2 W x vs=>dF (fun _=>.no) B2 W (y1 x) vs)
def nI(R B:Nat->Prop) (H:List bc) (ks:List Nat) (k:Nat):Prop:=R k\/B k\/∃ c∈H++ks.map dC,c.has k
section
variable {X:bq} {R:Nat->Prop} {W:World} {aD:eT} {n:Nat} {ks:List Nat} {env:Nat->Loc} {B:Nat->Prop} {ai:World} {H:List bc} {st:aM} {a:Act} {w:World}
theorem bI.aae{dZ:World} (h:bI X R W aD n ks env B ai H st a w) (ab:dm (nI R B H ks) w dZ):bI X R W aD n ks env B ai H st a dZ:=
 ⟨h.size,h.defs,h.has,h.heap,⟨h.aU.below.trans ⟨ab.os,ab.tape,ab.output,ab.size,fun k ao=>ab.block k (ao.elim .inl fun h=>.inr (.inl h))⟩,fun k ao=>Nat.lt_of_lt_of_le (h.aU.base k ao) ab.size,fun c aa=>(h.aU.ok c aa).e6 fun b e=>ab.block b (.inr (.inr ⟨c,aa,e⟩)),h.aU.apart⟩,h.sub,h.new,h.dt,h.base,h.dX⟩
theorem bI.now(h:bI X R W aD n ks env B ai H st a w):bI X R W aD n ks env B w H st a w:=by
 have dp:fJ B ai B w:=⟨fun _ h=>h,fun k ab=>h.aU.below.block k (.inr ab)⟩
 refine⟨h.size,h.defs,fun s sv aj=>?_,h.heap.up dp,⟨dm.refl _ _,h.aU.base,h.aU.ok,h.aU.apart⟩,h.sub,fun k ab=>(h.new k ab).imp_right fun J=>⟨J.1,J.2.e6 (h.aU.below.block k (.inr ab))⟩,h.dt,h.base.trans ⟨h.aU.below.os,h.aU.below.tape,h.aU.below.output,h.aU.below.size,fun k ab=>h.aU.below.block k (.inl ab)⟩,fun i x ah=>(h.dX i x ah).up dp⟩;obtain⟨v,J,U⟩:=h.has s sv aj;exact⟨v,J,U.up dp⟩
theorem bI.aaf{B2:Nat->Prop} (h:bI X R W aD n ks env B w H st a w) (cH:∀ k,B2 k->B k\/(¬ nI R B H ks k/\uy w k)):bI X R W aD n ks env (fun k=>B k\/B2 k) w H st a w:=by
 have dp:fJ B w (fun k=>B k\/B2 k) w:=⟨fun _ h=>.inl h,fun k ab=>rfl⟩
 have aL:∀ k,B2 k->k < w.heap.size:=fun k ab=>by
  rcases cH k ab with J | ⟨_,cs,e,de,U⟩
  ·exact h.aU.base k (.inr J)
  ·exact(Array.getElem?_eq_some_iff.1 U).1
 refine⟨h.size,h.defs,fun s sv aj=>?_,h.heap.up dp,⟨dm.refl _ _,fun k ab=>?_,fun c aa=>(h.aU.ok c aa).base fun b ae ab=>?_,h.aU.apart⟩,fun k ab=>.inl (h.sub k ab),fun k ab=>?_,h.dt,h.base,fun i x ah=>(h.dX i x ah).up dp⟩
 ·obtain⟨v,J,U⟩:=h.has s sv aj
  exact⟨v,J,U.up dp⟩
 ·rcases ab with ab | ab | ab
  ·exact h.aU.base k (.inl ab)
  ·exact h.aU.base k (.inr ab)
  ·exact aL k ab
 ·have lv:=((h.aU.ok c aa).lt ae).1
  rcases ab with ab | ab | ab
  ·exact lv (.inl ab)
  ·exact lv (.inr ab)
  ·rcases cH b ab with J | ⟨J,_⟩
   ·exact lv (.inr J)
   ·exact J (.inr (.inr ⟨c,aa,ae⟩))
 ·rcases ab with ab | ab
  ·exact h.new k ab
  ·rcases cH k ab with J | ⟨J,U⟩
   ·exact h.new k J
   ·exact .inr ⟨fun au=>J (.inl au),U⟩
theorem bI.NL(h:bI X R W aD n ks env B ai H st a w):∀ k,nI R B H ks k->k < w.heap.size:=fun k ab=>by
 rcases ab with ab | ab | ⟨c,aa,e⟩
 ·exact h.aU.base k (.inl ab)
 ·exact h.aU.base k (.inr ab)
 ·exact((h.aU.ok c aa).lt e).2
end
def hL(X:bq) (M:Bool) (n:Nat) (st st':aM):Prop:=∀ R W aD a w,lL X R W aD M n st a w->lL X R W aD M n st' a w
theorem dk.m{X:bq} {M:Bool} {n:Nat} {st st':aM} (h:dk X n st st'):hL X M n st st':=fun R W aD a w al=>h _ _ _ _ _ _ al
theorem hL.refl{X:bq} {M:Bool} {n:Nat} (st:aM):hL X M n st st:=fun _ _ _ _ _ h=>h
theorem hL.trans{X:bq} {M:Bool} {n:Nat} {a b c:aM} (h:hL X M n a b) (k:hL X M n b c):hL X M n a c:=fun R W aD x w al=>k _ _ _ _ _ (h _ _ _ _ _ al)
theorem aag{α β:Type} {X:bq} {n:Nat} {st:aM} {Q:Exit->aM->Prop} {g:Operand} {pl:List Nat} {assign body:Code} {gf:FuncId} {fn:Func} {h3:List e2} {y1:α->List bh} {l:List α} {b:Bool} {ms:List (Nat×Nat)} {an jt:bE}
  (aV : bw X st.L g = some (b, .c (.fn gf h3))) (ae : b = true) (ir : X.P.funcs[gf]? = some fn) (aah : (fn.name == "runtime.NumGoroutine") = false) (aai : fn.body.isNone = false) (G2 : Ch X gf h3 an l y1) (hlen : ∀ x, (y1 x).length = pl.length) (gH : pZ n pl = true) (G4 : p0 n assign ms) (sx : pZ n (ms.map (·.1)) = true) (a6 : Nat.ble n h2 = true)
  (tt:β->bE) (cg:List α->β->Prop) (G5:Exit->bE->Prop) (rK:β) (h0:cg l rK) (di:st.H=an++jt) (ec:∀ {env:Nat->Loc} {B:Nat->Prop} {w:World} {H:List bc},bt env B w jt H->∃ H' Y,H.Perm (H'++Y)/\bt env B w (tt rK) H')
  (GW:∀ id x rest y,cg (x :: rest) y->mg X false n (some id) body ⟨uX ms (Bm pl (y1 x) (iC (lx n) st.L)),tt y⟩ (fun e s=>(e=.normal/\∃ Ci,cg rest Ci/\∃ cY,hL X false n s ⟨cY,tt Ci⟩)\/(e≠.normal/\TS e=true/\∃ a8,G5 e a8/\∃ cY,hL X false n s ⟨cY,a8⟩)))
  (GX:∀ y,cg [] y->Q .normal ⟨iC (lx n) st.L,tt y⟩)
  (GY:∀ e a8,G5 e a8->Q e ⟨iC (lx n) st.L,a8⟩):mg X true n none (.rangeFunc g pl.toArray assign body) st Q:=by
 intro R W aD a w l1;obtain⟨ks,env,B,ai,mY,cp,gZ⟩:=l1;have NM:=gZ.heap;rw[di]at NM;obtain⟨O,H2,aaj,h9,hK⟩:=bt.split (l:=an) NM;obtain⟨H,Y,L3,uT⟩:=ec hK;subst aaj;have al:bI X R W aD n ks env B ai (O++H) ⟨st.L,an++tt rK⟩ a w:=by
  refine⟨gZ.size,gZ.defs,gZ.has,h9.append uT,?_,gZ.sub,gZ.new,gZ.dt,gZ.base,gZ.dX⟩;have ao:((O++H2)++ks.map dC).Perm (((O++H)++ks.map dC)++Y):=by
   refine((L3.append_left O).append_right _).trans ?_;simp only[List.append_assoc];exact((List.perm_append_comm).append_left H).append_left O
  exact(gZ.aU.perm ao).en (List.sublist_append_left _ _)
 obtain⟨bO,dw,lb,rfl,dP⟩:=gZ.aE aV ae;have l1:=al.TT;have Cj:fJ B ai B w:=⟨fun _ h=>h,fun k ab=>al.aU.below.block k (.inr ab)⟩
 have Cf:∀ k,B k->k < w.heap.size:=fun k ab=>al.aU.base k (.inr ab)
 have GU:=G2 B w lb env O Cf (fun i x ah=>(al.dX i x ah).up Cj) (dP.up Cj) (h9.up Cj);have aht:∀ k,R k\/B k->k < w.heap.size:=fun k ab=>al.aU.base k ab
 have ahu:∀ k∈ks,k < w.heap.size:=fun k ab=>((al.aU.ok (dC k) (List.mem_append_right _ (List.mem_map.2 ⟨k,ab,rfl⟩))).lt rfl).2
 have hJ:=Nat.le_of_ble_eq_true a6;have uM:(H++ks.map dC).Sublist ((O++H)++ks.map dC):=by
  rw[List.append_assoc];exact List.sublist_append_right _ _
 have aak:bK (nI (fun k=>R k\/B k) B H ks) w O w:=by
  have mG:=al.aU.apart;rw[List.append_assoc,List.pairwise_append]at mG;refine⟨dm.refl _ _,fun k ab=>?_,fun c aa=>?_,mG.1⟩
  ·rcases ab with ab | ab | ⟨c,aa,e⟩
   ·exact al.aU.base k ab
   ·exact al.aU.base k (.inr ab)
   ·exact((al.aU.ok c (uM.subset aa)).lt e).2
  ·have gO:=al.aU.ok c (List.mem_append_left _ (List.mem_append_left _ aa))
   refine gO.base fun b ae ab=>?_
   rcases ab with ab | ab | ⟨c',e3,e⟩
   ·exact(gO.lt ae).1 ab
   ·exact(gO.lt ae).1 (.inr ab)
   ·exact mG.2.2 c aa c' e3 b ae e
 let pK:=iC (lx n) st.L
 let nJ:Nat->Prop:=fun k=>R k\/B k
 let In:bE->(Nat->Prop)->(Nat->Prop)->World->Prop:=fun h C c1 dZ=>∃ env' B' cJ H',bI X nJ w ⟨B,sN n env,aD.d⟩ n ks env' B' cJ H' ⟨pK,h⟩ a dZ/\C=nI nJ B' H' ks/\∀ k,c1 k->B' k
 let I:List α->(Nat->Prop)->(Nat->Prop)->World->Prop:=fun r C c1 dZ=>∃ y,cg r y/\In (tt y) C c1 dZ
 let ph:Code->(Nat->Prop)->World->Prop:=fun c C dZ=>∃ e a8 c1,TR e=some c/\G5 e a8/\In a8 C c1 dZ
 have NN:∀ h C c1 cW rJ,In h C c1 cW->dm C cW rJ->In h C c1 rJ:=by
  rintro h C c1 cW rJ ⟨env',B',cJ,H',J,rfl,U⟩ ab;exact⟨env',B',cJ,H',J.aae ab,rfl,U⟩
 have NO:∀ {B':Nat->Prop} {cJ:World} {env':Nat->Loc},(∀ k,B k->B' k)->(∀ k,B k->cJ.heap[k]?=w.heap[k]?)->(∀ id l,sN n env id l->env' id=l)->∀ s sv,aZ pK s=some sv->∃ v,a.tmps[s]?=some v/\ei env' B' cJ sv v:=by
  intro B' cJ env' cH hw he s sv aj;obtain⟨u,J,rfl⟩:=sM aj;obtain⟨v,U,ag⟩:=l1.has s u J;exact⟨v,U,ei.c4 (TQ (fun id l ay aO aK=>he id l ⟨ay,aO,aK⟩) hJ) (ag.up ⟨cH,hw⟩)⟩
 have NP:∀ {h:bE} {C c1:Nat->Prop} {cW:World} (k:Nat),w.heap.size<=k->¬ C k->cW.heap[k]?=some (.deferred (some []))->In h C c1 cW->lL X R W aD true n ⟨pK,h⟩ { a with defers:={ target:=.collected k,args:=#[] } :: a.defers } cW:=by
  rintro h C c1 cW k ab NQ ax ⟨env',B',cJ,H',J,rfl,_⟩;refine⟨k :: ks,env',B',cJ,H',⟨(fun h=>by cases h),cp.2⟩,al.TU ?_⟩;have pT:(dC k :: (H'++ks.map dC)).Perm (H'++(k :: ks).map dC):=by
   rw[List.map_cons];exact List.perm_middle.symm
  have ea:bK (fun q=>(R q\/B q)\/B' q) cJ (dC k :: (H'++ks.map dC)) cW:=by
   refine⟨J.aU.below,J.aU.base,fun c aa=>?_,List.Pairwise.cons (fun c aa q aC a1=>?_) J.aU.apart⟩
   ·rcases List.mem_cons.1 aa with rfl | aa
    ·exact⟨fun ao=>NQ (ao.elim .inl fun h=>.inr (.inl h)),ax⟩
    ·exact J.aU.ok c aa
   ·have:k=q:=Option.some.inj aC
    subst this;exact NQ (.inr (.inr ⟨c,aa,a1⟩))
  refine⟨J.size,congrArg (List.cons (ux k)) J.defs,J.has,J.heap,ea.perm pT,J.sub,J.new,J.dt,J.base,J.dX⟩
 have dp:∀ (c:Code) (m:Nat) (Q:Exit->Act->World->Prop) a w,c.wpIn Fence.wide m X.P Q a w ↔ c.wpIn Fence.wide 0 X.P Q a w:=fun c m Q a w=>wpIn_wide.trans wpIn_wide.symm
 have NR:∀ (id:Nat) (c:Code) (m:Nat) (Q:Exit->Act->World->Prop) a w,c.wpIn (Fence.wide.inRound id) 0 X.P Q a w->c.wpIn (Fence.wide.inRound id) m X.P Q a w:=fun id c m Q a w h=>by
  intro b k cs x1 ae au;exact h b k cs x1 ae (fun _ h=>by cases h)
 refine(dp _ 2 _ _ _).1 ?_;have aal:∀ vs:List Value,(pl.toArray.zip vs.toArray).foldl (fun t (p,v)=>t.setIfInBounds p v) a.tmps=(pl.zip vs).foldl (fun t (p,v)=>t.setIfInBounds p v) a.tmps:=fun x=>by
  rw[<- Array.foldl_toList,Array.toList_zip]
 refine Z5 (gf:=gf) (lb:=lb) (al.cb.aE dw) (fun args w=>Sh ir aah aai) GU (dm.refl _ _) Cf (fun B2 rJ x vs h=>by have:=dF.length h; rw[hlen x]at this; simpa using this) (fun B2 rJ mX x vs ab h=>dF.up ⟨fun _ h=>h,fun k ao=>ab.block k ao⟩ h)
  I ph ?_ ?_ ?_ ?_ ?_ (nI nJ B H ks) ?_ aak (fun vs=>{ tmps:=uY ms ((pl.zip vs).foldl (fun t (p,v)=>t.setIfInBounds p v) a.tmps),defers:=[] }) ?_ ?_ ?_ ?_
 ·rintro r C c1 cW rJ ⟨y,aH,J⟩ ab
  exact⟨y,aH,NN _ _ _ _ _ J ab⟩
 ·rintro c C cW rJ ⟨e,a8,c1,he,tu,J⟩ ab
  exact⟨e,a8,c1,he,tu,NN _ _ _ _ _ J ab⟩
 ·rintro r C c1 cW ⟨y,aH,env',B',cJ,H',J,rfl,_⟩
  exact J.NL
 ·rintro r C c1 cW ⟨y,aH,env',B',cJ,H',J,rfl,U⟩ k ab
  exact .inr (.inl (U k ab))
 ·rintro c C cW ⟨e,a8,c1,he,tu,env',B',cJ,H',J,rfl,_⟩
  exact J.NL
 ·exact⟨rK,h0,env,B,w,H,⟨l1.size,l1.defs,NO (fun _ h=>h) (fun _ _=>rfl) (fun _ _ h=>h.2.1),uT.up Cj,l1.aU.en uM,l1.sub,l1.new,l1.dt,l1.base,l1.dX⟩,rfl,fun _ h=>h⟩
 ·intro id x vs cW K nj bZ
  rw[aal];exact NR _ _ _ _ _ _ (p0.ok (l:=id) G4 bZ)
 ·rintro id x rest vs C c1 B2 cW ⟨y,aH,Ck,dr,b0,H1,h0,rfl,vQ⟩ tq tr
  obtain⟨la,G6⟩:∃ la:Nat->Prop,la=fun k=>dr k\/B2 k:=⟨_,rfl⟩
  have J:bI X nJ w ⟨B,sN n env,aD.d⟩ n ks Ck la cW H1 ⟨pK,tt y⟩ a cW:=by
   rw[G6];exact h0.now.aaf fun k ab=>(tq.new k ab).imp (fun h=>vQ k h) fun⟨h,U⟩=>⟨h,U⟩
  have s5:∀ k,nI nJ la H1 ks k->nI nJ dr H1 ks k\/B2 k:=fun k ab=>by
   rcases ab with ab | ab | ab
   ·exact .inl (.inl ab)
   ·rw[G6]at ab
    exact ab.imp (fun h=>.inr (.inl h)) fun h=>h
   ·exact .inl (.inr (.inr ab))
  have G7:∀ k,B2 k->la k:=fun k ab=>by rw[G6]; exact .inr ab
  clear h0
  have fu:bK (fun k=>nJ k\/la k) cW H1 cW:=J.aU.en (List.sublist_append_left _ _);have aam:fJ la cW la cW:=⟨fun _ h=>h,fun k ab=>J.aU.below.block k (.inr ab)⟩
  have aan:∀ k,B k->cW.heap[k]?=w.heap[k]?:=fun k ab=>(J.aU.below.block k (.inl (.inr ab))).trans (J.base.block k (.inr ab))
  have aao:Has n Ck la cW pK a.tmps:=⟨al.size,fun s sv aj=>by
   obtain⟨v,U,ag⟩:=J.has s sv aj;exact⟨v,U,ag.up aam⟩⟩
  have au:=J.round (Has.eR (Has.par aao gH ((dF.any tr).up ⟨G7,fun _ _=>rfl⟩)) sx);have aap:=GW id x rest y aH _ _ _ _ _ ⟨[],Ck,la,cW,H1,⟨fun _=>rfl,fun h=>by cases h⟩,au⟩;refine wpIn_mono (NR _ _ 1 _ _ _ aap) ?_;rintro e a3 mX ⟨s,aj,U⟩;have kX:∀ k,nJ k\/la k->Rest cW H1 k:=fun k ab=>⟨fu.base k ab,fun c aa e=>((fu.ok c aa).lt e).1 ab⟩
  have key:∀ a8 cY,hL X false n s ⟨cY,a8⟩->∃ dB,In a8 dB B2 mX/\oq B2 (nI nJ dr H1 ks) dB cW mX:=by
   intro a8 cY hw;obtain⟨ahv,G8,G9,mr,Cl,aaq,ag⟩:=hw _ _ _ _ _ U
   have:=aaq.1 rfl
   subst this;have lS:∀ k,Rest cW H1 k->mX.heap[k]?=cW.heap[k]?:=fun k ab=>(ag.aU.below.block k (.inl ab)).trans (ag.base.block k ab)
   have ay:=J.TV ag (L:=pK) (NO (fun k ab=>ag.sub k (J.sub k ab)) (fun k ab=>(ag.base.block k (kX k (.inl (.inr ab)))).trans (aan k ab)) (fun id l an=>(ag.dt id l ⟨(J.dt id l an).1,(J.dt id l an).2.1,(J.dt id l an).2.2⟩).2.1));have NS:=ag.aU;simp only[List.map_nil,List.append_nil]at NS;refine⟨_,⟨G8,G9,mr,Cl,ay,rfl,fun k ab=>ag.sub k (G7 k ab)⟩,⟨⟨ag.aU.below.os.trans ag.base.os,ag.aU.below.tape.trans ag.base.tape,ag.aU.below.output.trans ag.base.output,Nat.le_trans ag.base.size ag.aU.below.size,fun k ab=>?_⟩,fun k ab=>?_⟩⟩
   ·rcases ab with ab | ⟨lB,nC⟩
    ·exact lS k (kX k (.inr (G7 k ab)))
    ·exact lS k ⟨lB,fun c aa e=>nC (.inr (.inr ⟨c,List.mem_append_left _ aa,e⟩))⟩
   ·by_cases aL:cW.heap.size<=k
    ·exact .inr (.inl aL)
    ·have jF:nI nJ la H1 ks k->nI nJ dr H1 ks k\/cW.heap.size<=k\/B2 k:=fun h=>(s5 k h).imp_right .inr
     apply jF
     have aar:k < cW.heap.size:=by omega
     by_cases lB:nI nJ la H1 ks k
     ·exact lB
     ·exfalso
      have NT:Rest cW H1 k:=⟨aar,fun c aa e=>lB (.inr (.inr ⟨c,List.mem_append_left _ aa,e⟩))⟩
      rcases ab with ab | ab | ⟨c,aa,e⟩
      ·exact lB (.inl ab)
      ·rcases ag.new k ab with aO | aO
       ·exact lB (.inr (.inl aO))
       ·exact aO.1 NT
      ·rcases List.mem_append.1 aa with aa | aa
       ·exact((NS.ok c aa).lt e).1 (.inl NT)
       ·exact lB (.inr (.inr ⟨c,List.mem_append_right _ aa,e⟩))
  rcases aj with⟨rfl,Ci,iy,cY,hw⟩ | ⟨cG,hex,a8,tu,cY,hw⟩
  ·obtain⟨dB,aO,aK⟩:=key _ _ hw
   exact⟨dB,⟨Ci,iy,aO⟩,aK⟩
  ·obtain⟨dB,aO,aK⟩:=key _ _ hw
   cases e with
   | normal=>exact absurd rfl cG
   | ret=>exact⟨dB,⟨.ret,a8,_,rfl,tu,aO⟩,aK⟩
   | exit i=>exact⟨dB,⟨.exit i,a8,_,rfl,tu,aO⟩,aK⟩
   | goto t=>cases hex
   | panic c=>cases hex
   | outgrown=>cases hex
 ·rintro k C c1 cW ab c5 ⟨y,aH,J⟩ ax
  exact⟨_,GX y aH,NP k ab c5 ax J⟩
 ·rintro k c C cW ab c5 ⟨e,a8,c1,he,tu,J⟩ ax
  have NU:=NP k ab c5 ax J;have ao:=GY e a8 tu;cases e with
  | ret=>cases he; exact wpIn_ret ⟨_,ao,NU⟩
  | exit id=>cases he; exact(dp _ 2 _ _ _).2 (Kh ⟨_,ao,NU⟩)
  | normal=>cases he
  | goto t=>cases he
  | panic c=>cases he
  | outgrown=>cases he
end
end Go.Proofs.YtldjgdggcodgeaaGreat
