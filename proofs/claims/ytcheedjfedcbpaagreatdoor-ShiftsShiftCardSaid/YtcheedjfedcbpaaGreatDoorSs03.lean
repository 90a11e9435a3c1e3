/- Part 3 of 6 of the proof. -/
import Derived.Test.YtcheedjfedcbpaaGreatDoorSs02
import Derived.Maps.RangeRun
import Derived.RangeFuncNested
set_option linter.unusedSimpArgs false
set_option linter.unusedVariables false
set_option maxRecDepth 100000
namespace Go.Proofs.YtcheedjfedcbpaaGreatDoor
open Go.RowKit
section
set_option linter.unusedSectionVars false
section
variable {B:Nat->Prop} {w:World} {T':TypeId} {g:aU}
theorem bF.N8:bF B w (.ai g) ([]:List g.D) [.slice none 0 0]:=⟨none,0,[],rfl,Nat.le_refl _,Nat.zero_le _,rfl,Reads.nil _ _ _,fun _ _ h=>absurd h (Nat.lt_irrefl 0)⟩
theorem dI.hole:∀ {l:List (Bool×List g.D)} {ys:List Value} {I:List ga} {i:Nat},dI B w T' g l ys I->i < l.length ->
    ∃ v eL,ys[i]?=some v/\dI B w T' g (l.set i (false,[])) (ys.set i (.slice none 0 0)) eL /\
      (((l.getD i (false,[])).1=true/\∃ A k xs,v=.slice A (l.getD i (false,[])).2.length k/\Flat (bF B w g) (l.getD i (false,[])).2 xs/\I.Perm (⟨A,k,T',g.size,(l.getD i (false,[])).2.length,xs⟩ :: eL)) \/
       ((l.getD i (false,[])).1=false/\I=eL/\bF B w (.ai g) (l.getD i (false,[])).2 [v]))
  | [],_,_,_,_,h=>by simp at h
  | (true,li) :: l,_,_,0,⟨v,eV,e,A,k,xs,eL,aC,gV,az,a8⟩,_=>by
    subst e;exact⟨v,eL,rfl,⟨_,eV,rfl,bF.N8,a8⟩,.inl ⟨rfl,A,k,xs,aC,az,by rw[gV]; exact List.Perm.refl _⟩⟩
  | (false,li) :: l,_,I,0,⟨v,eV,e,az,a8⟩,_=>by
    subst e;exact⟨v,I,rfl,⟨_,eV,rfl,bF.N8,a8⟩,.inr ⟨rfl,rfl,az⟩⟩
  | (true,li) :: l,_,_,i+1,⟨v,eV,e,A,k,xs,G9,aC,gV,az,a8⟩,h=>by
    subst e;obtain⟨u,eL,J,U,ag⟩:=dI.hole a8 (Nat.lt_of_succ_lt_succ h);refine⟨u,_ :: eL,J,⟨v,_,rfl,A,k,xs,eL,aC,rfl,az,U⟩,ag.imp (fun⟨f,c2,en,gB,ay,aS,cz⟩=>⟨f,c2,en,gB,ay,aS,?_⟩) fun⟨f,ay,aS⟩=>⟨f,?_,aS⟩⟩
    · rw[gV]
      exact(List.Perm.cons _ cz).trans (List.Perm.swap _ _ _)
    · rw[gV,ay]
  | (false,li) :: l,_,_,i+1,⟨v,eV,e,az,a8⟩,h=>by
    subst e;obtain⟨u,eL,J,U,ag⟩:=dI.hole a8 (Nat.lt_of_succ_lt_succ h);exact⟨u,eL,J,⟨v,_,rfl,az,U⟩,ag⟩
theorem dI.fill{l2:List g.D} {A:Option Addr} {k:Nat} {xs:List Value} (iM:Flat (bF B w g) l2 xs):∀ {l:List (Bool×List g.D)} {ys:List Value} {I:List ga} {i:Nat},dI B w T' g (l.set i (false,[])) ys I->i < l.length ->
    ∃ eL,eL.Perm (⟨A,k,T',g.size,l2.length,xs⟩ :: I)/\dI B w T' g (l.set i (true,l2)) (ys.set i (.slice A l2.length k)) eL
  | [],_,_,_,_,h=>by simp at h
  | _ :: l,_,I,0,⟨v,eV,e,_,a8⟩,_=>by
    subst e;exact⟨_,List.Perm.refl _,_,eV,rfl,A,k,xs,I,rfl,rfl,iM,a8⟩
  | (true,li) :: l,_,_,i+1,⟨v,eV,e,Ha,Hb,BI,G9,aC,gV,az,a8⟩,h=>by
    subst e;obtain⟨eL,J,U⟩:=dI.fill iM (A:=A) (k:=k) a8 (Nat.lt_of_succ_lt_succ h);refine⟨_ :: eL,?_,v,_,rfl,Ha,Hb,BI,eL,aC,rfl,az,U⟩;rw[gV];exact(List.Perm.cons _ J).trans (List.Perm.swap _ _ _)
  | (false,li) :: l,_,_,i+1,⟨v,eV,e,az,a8⟩,h=>by
    subst e;obtain⟨eL,J,U⟩:=dI.fill iM (A:=A) (k:=k) a8 (Nat.lt_of_succ_lt_succ h);exact⟨eL,J,v,_,rfl,az,U⟩
theorem dI.Hc{l2:List g.D} {u:Value} (iM:bF B w (.ai g) l2 [u]):∀ {l:List (Bool×List g.D)} {ys:List Value} {I:List ga} {i:Nat},dI B w T' g (l.set i (false,[])) ys I->i < l.length ->
    dI B w T' g (l.set i (false,l2)) (ys.set i u) I
  | [],_,_,_,_,h=>by simp at h
  | _ :: l,_,I,0,⟨v,eV,e,_,a8⟩,_=>by
    subst e;exact⟨_,eV,rfl,iM,a8⟩
  | (true,li) :: l,_,_,i+1,⟨v,eV,e,Ha,Hb,BI,G9,aC,gV,az,a8⟩,h=>by
    subst e;exact⟨v,_,rfl,Ha,Hb,BI,G9,aC,gV,az,dI.Hc iM a8 (Nat.lt_of_succ_lt_succ h)⟩
  | (false,li) :: l,_,_,i+1,⟨v,eV,e,az,a8⟩,h=>by
    subst e;exact⟨v,_,rfl,az,dI.Hc iM a8 (Nat.lt_of_succ_lt_succ h)⟩
theorem dI.map{l:List (List g.D)}:∀ {l:List (List g.D)} {ys:List Value},Flat (bF B w (.ai g)) l ys->dI B w T' g (l.map fun x=>(false,x)) ys []
  | [],_,h=>⟨h,rfl⟩
  | x :: l,_,⟨v1,v2,e,J,U⟩=>by
    have ah:=bF.length J
    match v1,ah with
    | [v],_=>exact⟨v,v2,e,J,dI.map (l:=l) U⟩
theorem dI.N9:∀ k:Nat,∃ I,dI B w T' g (List.replicate k (true,[])) (List.replicate k (.slice none 0 0)) I/\∀ r∈I,r=⟨none,0,T',g.size,0,[]⟩
  | 0=>⟨[],⟨rfl,rfl⟩,fun _ h=>by cases h⟩
  | k+1=>by
    obtain⟨I,J,U⟩:=dI.N9 k;refine⟨_ :: I,⟨_,_,rfl,none,0,[],I,rfl,rfl,rfl,J⟩,fun r aw=>?_⟩
    rcases List.mem_cons.1 aw with rfl | aw
    · rfl
    · exact U r aw
end
theorem y5{id d:Nat} {z:bm} {b:cv} (cr:id≠d):∀ {l:bz},bd l id=some b->bd (ef d z l) id=some (b.sub d z)
  | [],h=>by cases h
  | (k,b') :: l,h=>by
    rw[cI]at h;unfold ef
    split at h
    · rename_i e
      subst e;cases h
      have:Nat.beq id d=false:=by
        cases ae:Nat.beq id d with
        | false=>rfl
        | true=>exact absurd (Nat.eq_of_beq_eq_true ae) cr
      rw[this,cI,if_pos rfl]
    · rename_i e
      split
      · exact y5 cr h
      · rw[cI,if_neg e]
        exact y5 cr h
section
variable {X:bs} {R:Nat->Prop} {W:World} {aJ:e0} {n:Nat} {ks:List Nat} {env:Nat->Loc} {B:Nat->Prop} {al:World} {H:List bf} {st:aO} {a aP:Act} {w:World} {d:Nat} {o:Oper}
theorem List.Oa {α:Type} {l:List α} {i:Nat} {v:α} (h:l[i]?=some v):l.set i v=l:=by
  obtain⟨aW,rfl⟩:=List.getElem?_eq_some_iff.1 h;exact List.set_getElem_self aW
theorem bH.Ob(h:bH X R W aJ n ks env B al H st a w) (ax:Nat.blt d n=true) (l:Loc):∃ H2,H2.Sublist H/\bH X R W aJ n ks (kr env d l) B al H2 ⟨fK d .dead st.L,ef d .dead st.H⟩ a w:=by
  obtain⟨H2,J,U⟩:=h.heap.del (z:=.dead) (jJ (env:=env) (id:=d) (l:=l)) (fun _ _=>trivial);refine⟨H2,J,h.size,h.defs,fun s u an=>?_,U,h.aM.e6 (J.append_right _),h.sub,h.new,tR h.dL (fun q ao=>by have J:=(h.dL _ _ ao).1; have U:=dY ax; omega),h.base,h.et⟩;obtain⟨jK,jL,rfl⟩:=pc an;obtain⟨fL,ag,aq⟩:=h.has s jK jL;exact⟨fL,ag,eH.sub (z:=.dead) (jJ (env:=env)) (fun _ _=>trivial) aq⟩
theorem bE.same{B:Nat->Prop} {al w:World} {H:List bf} (h:bE B al H w) {c c':bf} (aa:c∈H) (dE:c'∈H) {b:Nat} (ae:c.has b) (dM:c'.has b):c=c':=by
  have key:∀ {H:List bf},H.Pairwise bf.off->c∈H->c'∈H->c=c':=by
    intro H
    induction H with
    | nil=>intro _ h; cases h
    | cons x r br=>
      intro ao J U;obtain⟨ag,aq⟩:=List.pairwise_cons.1 ao
      rcases List.mem_cons.1 J with ay | aE
      · rcases List.mem_cons.1 U with aS | bb
        · rw[ay,aS]
        · subst ay; exact absurd dM (ag _ bb b ae)
      · rcases List.mem_cons.1 U with aS | bb
        · subst aS; exact absurd ae (ag _ aE b dM)
        · exact br aq aE bb
  exact key h.apart aa dE
theorem ne_of_beq_false{a b:Nat} (h:Nat.beq a b=false):a≠b:=fun e=>by subst e; rw[Nat.beq_refl]at h; cases h
def uB:Option (Nat×Option Nat)->Nat->Bool
  | none,_=>true
  | some (j,_),i=>decide (j=i)
theorem dI.aai{T':TypeId} {g:aU} {l:List (Bool×List g.D)} {ys c4:List Value} {I:List ga} {h:Option (Nat×Option Nat)} {i:Nat} (a8:dI B w T' g (Mo l h) ys I) (aC:yg env l.length ys c4 h) (bg:uB h i=true) (hi:i < l.length) :
    ∃ zs eL,dI B w T' g (l.set i (false,[])) zs eL/\(∀ u,c4.set i u=zs.set i u)/\c4.length=l.length/\∃ eA,I.Perm eA/\eL.Sublist eA:=by
  match h,a8,aC,bg with
  | none,a8,aC,_=>
    subst aC;obtain⟨v,eL,J,U,ag⟩:=dI.hole (show dI B w T' g l c4 I from a8) hi;refine⟨_,eL,U,fun u=>by rw[List.set_set],dI.length (show dI B w T' g l c4 I from a8),?_⟩
    rcases ag with⟨_,A,k,xs,_,_,ao⟩ | ⟨_,e,_⟩
    · exact⟨_,ao,List.sublist_cons_self _ _⟩
    · exact⟨eL,by rw[e],List.Sublist.refl _⟩
  | some (j,Mp),a8,⟨_,v,J,_⟩,bg=>
    have e:j=i:=of_decide_eq_true bg;subst e;have ah:=dI.length (show dI B w T' g (l.set j (false,[])) ys I from a8);rw[List.length_set]at ah;exact⟨ys,I,a8,fun u=>by rw[J,List.set_set],by rw[J,List.length_set,ah],I,List.Perm.refl _,List.Sublist.refl _⟩
theorem bH.Oc(h:bH X R W aJ n ks env B al H st a w) {id:Nat} {b b':cv} (b5:bd st.H id=some b):∃ c jv jw,er env B al id b c/\H=jv++c :: jw/\∀ c' aP w',er env B al id b' c'->bE (fun k=>R k\/B k) al (jv++c' :: (jw++ks.map dk)) w'->cT n (j2 ks aJ) (gm a) aP->bH X R W aJ n ks env B al (jv++c' :: jw) ⟨st.L,eM id b' st.H⟩ aP w':=by
  obtain⟨c,K,J,⟨jv,jw,ay,rfl⟩,ag⟩:=h.heap.put b5;refine⟨c,jv,jw,J,ay,fun c' aP w' ae an aI=>⟨aI.size,aI.defs,fun s u hu=>?_,ag b' c' ae,by rw[List.append_assoc,List.cons_append]; exact an,h.sub,h.new,h.dL,h.base,h.et⟩⟩;obtain⟨fL,aq,aE⟩:=h.has s u hu;exact⟨fL,aI.same aq,aE⟩
theorem bE.aaj{B:Nat->Prop} {al w:World} {H:List bf} (h:bE B al H w):bE B al (.tree [] :: H) w:=
  ⟨h.below,h.base,fun c aa=>by
    rcases List.mem_cons.1 aa with rfl | aa
    · exact⟨(fun _ h=>by cases h),List.Pairwise.nil⟩
    · exact h.ok c aa,List.Pairwise.cons (fun c aa b ae=>by obtain⟨_,h,_⟩:=ae; cases h) h.apart⟩
theorem bE.Od{B:Nat->Prop} {al w:World} {X Y:List bf} {r:ga} (h:bE B al (X++r.ee :: Y) w):bE B al (X++.tree [r] :: Y) w:=
  ((((h.perm pY).aaj).perm (List.Perm.swap _ _ _)).Fh).perm pY.symm
theorem bE.Oe{B:Nat->Prop} {al w:World} {H:List bf} {r:ga}:∀ {I:List ga},bE B al (.tree [r] :: H) w->(∀ s∈I,∃ e cJ,s=⟨none,0,e,cJ,0,[]⟩)->bE B al (.tree (r :: I) :: H) w
  | [],h,_=>h
  | s :: I,h,gV=>by
    obtain⟨e,cJ,rfl⟩:=gV _ List.mem_cons_self;have br:=bE.Oe (I:=I) h fun s an=>gV s (List.mem_cons_of_mem _ an)
    have U:bE B al (.tree (⟨none,0,e,cJ,0,[]⟩ :: r :: I) :: H) w:=(br.sg e cJ).Fh;exact bE.x8 (X:=[]) U ⟨_,List.Perm.swap _ _ _,List.Sublist.refl _⟩
theorem Of(av:X.tt.ok X.P) {t T T':TypeId} {bw:bh} {x:Operand} {id d2 i j:Nat} {g:aU} {l:List (Bool×List g.D)} {cap:Option Nat} {g1:Bool} (aA:o.op=.load t x)
    (a8:X.tt.find t=some bw) (qm:lR bw.bq.desc=false) (ak:bp X st.L x=some (g1,.c (.eG id 1 i 0))) (dN:g1=true) (b5:bd st.H id=some (.b2 T T' g l cap (some (j,some d2)))) (kQ:decide (i=j)=true):ix X st o (.c (.ai d2)):=by
  intro R W aJ n ks env B al H a b1 aj;have e:i=j:=of_decide_eq_true kQ;subst e;obtain⟨vx,J,b,c,m,he,rfl⟩:=aj.aD ak dN;obtain⟨ee,K,⟨A,k,ys,c4,I,cV,rfl,lD,⟨hi,v,aC,ax⟩,_⟩,az⟩:=aj.heap.gz b5;rw[he]at cV;cases cV;obtain⟨bP,c',ca,lp,rfl⟩:=ax d2 rfl;have rJ:=dI.length (show dI B al T' g (l.set i (false,[])) ys I from lD);rw[List.length_set]at rJ;refine⟨.slice bP ca c',⟨bP,c',ca,lp,rfl⟩,fun w dP=>?_⟩;have fx:eQ w (fun k=>R k\/B k) T 1 (some ⟨b,0,none⟩) c l.length c4:=((dP (by rw[aA]; rfl)).ok _ az.more.mem).1 _ List.mem_cons_self;have k9:w.cell? ⟨b,i * 1+0,none⟩=some (.slice bP ca c'):=by
    rw[fx.cells rfl _ (by omega),aC]
    simp[List.getElem?_set,rJ,hi]
  exact v8 aj.bZ aA (b9.get av a8).bq qm J k9
theorem bH.storeT(av:X.tt.ok X.P) (aj:bH X R W aJ n ks env B al H st a w) {t T T':TypeId} {bw:bh} {x y:Operand} {id i b ca k':Nat} {g:aU} {l:List (Bool×List g.D)} {cap:Option Nat} {h:Option (Nat×Option Nat)} {c2:Option Addr} (aA:o.op=.store t x y) (bg:o.guard=none/\o.dst=none)
    (a8:X.tt.find t=some bw) (dv:Nat.beq bw.bq.size 1=true) (ak:Go.Proofs.YtcheedjfedcbpaaGreatDoor.aD (gm a) x=some (.pointer (some ⟨b,i * 1+0,none⟩))) {c m:Nat} (he:env id=.row (some ⟨b,0,none⟩) c m) (aL:Go.Proofs.YtcheedjfedcbpaaGreatDoor.aD (gm a) y=some (.slice c2 ca k'))
    (b5:bd st.H id=some (.b2 T T' g l cap h)) (cg:uB h i=true) (hi:i < l.length) {b':cv} {je:List Oper} {KK:Act->World->Prop}
    (ae:(∀ q,cap=some q->c=q)->∀ zs I,dI B al T' g (l.set i (false,[])) zs I->er env B al id b' (.tree (⟨some ⟨b,0,none⟩,c,T,1,l.length,zs.set i (.slice c2 ca k')⟩ :: I)))
    (ei:∀ aP w' H',bH X R W aJ n ks env B al H' ⟨st.L,eM id b' st.H⟩ aP w'->KK aP w'):eS X.P je.toArray o KK a w:=by
  obtain⟨ee,jv,jw,⟨A,k,ys,c4,I,cV,rfl,lD,lE,fy⟩,dt,lr⟩:=aj.Oc (b':=b') b5;rw[he]at cV;cases cV;obtain⟨zs,eL,aak,ha,rJ,gL⟩:=dI.aai lD lE cg hi
  let eI:ga:=⟨some ⟨b,0,none⟩,c,T,1,l.length,c4⟩
  have dP:=aj.aM;rw[dt,List.append_assoc,List.cons_append]at dP;have aal:bE (fun k=>R k\/B k) al (jv++.tree (eI :: eL) :: (jw++ks.map dk)) w:=by
    obtain⟨eA,ao,an⟩:=gL;exact dP.x8 ⟨eI :: eA,List.Perm.cons _ ao,an.cons_cons _⟩
  have cw:Sym n (j2 ks aJ) (gm a) (fun k=>R k\/B k) al (eI.ee :: (jv++.tree eL :: (jw++ks.map dk))) a w:=⟨aj.bZ,aal.Bl⟩
  have lT:=(b9.get av a8).bq;have fb:=Nat.eq_of_beq_eq_true dv;refine BF (v:=.slice c2 ca k') cw aA bg lT ak aL (by rw[fb]; rfl) (by intro u hu; simp[Value.cells]at hu; subst hu; rfl) (vT (c:=eI.ee)) (by show i * 1+0+1<=l.length * 1; omega) fun aP w' Og=>?_
  have e:c4.take (i * 1+0)++(Value.slice c2 ca k').cells.toList++c4.drop (i * 1+0+(Value.slice c2 ca k').cells.toList.length)=zs.set i (.slice c2 ca k'):=by
    rw[<- ha,List.set_eq_take_append_cons_drop,if_pos (by omega)]
    simp[Value.cells]
  have mn:=Og.aM;rw[e]at mn;have Hd:=bE.LY (r:=⟨some ⟨b,0,none⟩,c,T,1,l.length,zs.set i (.slice c2 ca k')⟩) mn;exact ei aP w' _ (lr _ aP w' (ae fy zs eL aak) Hd Og.st)
theorem Oh(av:X.tt.ok X.P) {t T T':TypeId} {bw:bh} {x y:Operand} {id d i:Nat} {g:aU} {l:List (Bool×List g.D)} {cap:Option Nat} {h:Option (Nat×Option Nat)} {g1 g2:Bool} (aA:o.op=.store t x y) (bg:o.guard=none/\o.dst=none)
    (a8:X.tt.find t=some bw) (dv:Nat.beq bw.bq.size 1=true) (ak:bp X st.L x=some (g1,.c (.eG id 1 i 0))) (dN:g1=true) (aL:bp X st.L y=some (g2,.c (.ai d))) (dm:g2=true) (b5:bd st.H id=some (.b2 T T' g l cap h)) (cg:uB h i=true)
    (hi:decide (i < l.length)=true):gp X n o st ⟨st.L,eM id (.b2 T T' g l cap (some (i,some d))) st.H⟩:=by
  intro R W aJ ks env B al H a w aj KK je ei;have aW:=of_decide_eq_true hi;obtain⟨vx,J,b,c,m,he,rfl⟩:=aj.aD ak dN;obtain⟨vy,fF,c2,cL,m2,lp,rfl⟩:=aj.aD aL dm;have hm:m=l.length:=by
    obtain⟨ee,K,⟨A,k,ys,c4,I,cV,_⟩,_⟩:=aj.heap.gz b5;rw[he]at cV;cases cV
    rfl
  subst hm;exact aj.storeT (b':=.b2 T T' g l cap (some (i,some d))) av aA bg a8 dv J he fF b5 cg aW (fun fy zs I bG=>⟨_,c,zs,_,I,he,rfl,bG,⟨aW,_,rfl,fun c5 oB=>by cases oB; exact⟨c2,cL,m2,lp,rfl⟩⟩,fy⟩) fun aP w' H' ck=>ei aP w' env H' ck
theorem aam(av:X.tt.ok X.P) {t T T':TypeId} {bw:bh} {x y:Operand} {id i:Nat} {g:aU} {l:List (Bool×List g.D)} {l2:List g.D} {cap y3:Option Nat} {h:Option (Nat×Option Nat)} {g1 g2:Bool} (aA:o.op=.store t x y) (bg:o.guard=none/\o.dst=none)
    (a8:X.tt.find t=some bw) (dv:Nat.beq bw.bq.size 1=true) (ak:bp X st.L x=some (g1,.c (.eG id 1 i 0))) (dN:g1=true) (aL:bp X st.L y=some (g2,.c (.bk g l2 y3))) (dm:g2=true) (b5:bd st.H id=some (.b2 T T' g l cap h)) (cg:uB h i=true)
    (hi:decide (i < l.length)=true):gp X n o st ⟨st.L,eM id (.b2 T T' g (l.set i (false,l2)) cap none) st.H⟩:=by
  intro R W aJ ks env B al H a w aj KK je ei;have aW:=of_decide_eq_true hi;obtain⟨vx,J,b,c,m,he,rfl⟩:=aj.aD ak dN;obtain⟨vy,fF,c2,cL,gB,rfl,db,eB,hM,iJ,j1⟩:=aj.aD aL dm;have hm:m=l.length:=by
    obtain⟨ee,K,⟨A,k,ys,c4,I,cV,_⟩,_⟩:=aj.heap.gz b5;rw[he]at cV;cases cV
    rfl
  subst hm;exact aj.storeT (b':=.b2 T T' g (l.set i (false,l2)) cap none) av aA bg a8 dv J he fF b5 cg aW (fun fy zs I bG=>⟨_,c,_,_,I,by rw[List.length_set]; exact he,by rw[List.length_set],dI.Hc (u:=.slice c2 l2.length cL) ⟨c2,cL,gB,rfl,db,eB,iJ,j1⟩ bG aW,rfl,fy⟩) fun aP w' H' ck=>ei aP w' env H' ck
theorem aan{T T':TypeId} {id i:Nat} {g:aU} {l:List (Bool×List g.D)} {cap:Option Nat} (ax:Nat.blt d n=true) (b5:bd st.H id=some (.b2 T T' g l cap none)) (cr:Nat.beq d id=false)
    (hi:decide (i < l.length)=true) (di:(l.getD i (false,[])).1=true)
    : fq X n st ⟨fK d .dead st.L,(d,.row T' g (l.getD i (false,[])).2 none) :: eM id (.b2 T T' g l cap (some (i,some d))) (ef d .dead st.H)⟩:=fun R W aJ M a w ⟨ks,env,B,al,H,bL,aj⟩=>by
  have aW:=of_decide_eq_true hi;have rK:id≠d:=fun e=>ne_of_beq_false cr e.symm
  obtain⟨c0,Cr,⟨A,k,ys,c4,I,he,rfl,lD,lE,fy⟩,nI⟩:=aj.heap.gz b5;have uC:c4=ys:=lE;subst uC;obtain⟨b,rfl⟩:=eQ.at ((aj.aM.ok _ nI.more.mem).1 _ List.mem_cons_self) (by show 0 < l.length; omega);obtain⟨v,eL,aC,y6,rq⟩:=dI.hole (show dI B al T' g l c4 I from lD) aW
  rcases rq with⟨_,c2,en,gB,rfl,iM,pj⟩ | ⟨He,_⟩
  · obtain⟨H2,gL,fQ⟩:=aj.Ob ax (.row c2 en (l.getD i (false,[])).2.length)
    obtain⟨fw,aao,hs,⟨jv,jw,sP,rfl⟩,lr⟩:=fQ.heap.put (y5 (z:=.dead) rK b5);subst sP;obtain⟨Hf,j4,uD,nP,uE,lY,rfl,_⟩:=hs;rw[jJ id rK,he]at lY;cases lY;have jM:=aj.aM.same (c:=.tree (⟨some ⟨b,0,none⟩,k,T,1,l.length,nP⟩ :: uE)) (List.mem_append_left _ (gL.subset (by simp))) nI.more.mem (b:=b) ⟨_,List.mem_cons_self,rfl⟩ ⟨_,List.mem_cons_self,rfl⟩;simp only[bf.tree.injEq,List.cons.injEq,ga.mk.injEq,true_and,and_true]at jM;obtain⟨rfl,rfl⟩:=jM
    let p:ga:=⟨c2,en,T',g.size,(l.getD i (false,[])).2.length,gB⟩
    let eI:ga:=⟨some ⟨b,0,none⟩,k,T,1,l.length,nP⟩
    have dP:=fQ.aM;rw[List.append_assoc,List.cons_append]at dP;have ih:bE (fun k=>R k\/B k) al (jv++.tree (p :: eI :: eL) :: (jw++ks.map dk)) w:=dP.x8 ⟨p :: eI :: eL,(List.Perm.cons _ pj).trans (List.Perm.swap _ _ _),List.Sublist.refl _⟩;have mn:=ih.Bl;refine⟨ks,_,B,al,p.ee :: (jv++.tree (eI :: eL) :: jw),bL,fQ.size,fQ.defs,fQ.has,⟨_,_,rfl,⟨c2,en,gB,fp,rfl,iM,fun _ h=>by cases h⟩,lr _ _ ⟨_,k,nP.set i (.slice none 0 0),nP,eL,by rw[jJ id rK]; exact he,rfl,y6,⟨aW,.slice c2 (l.getD i (false,[])).2.length en,?_,fun c5 oB=>by cases oB; exact⟨c2,en,_,fp,rfl⟩⟩,fy⟩⟩,by rw[List.cons_append,List.append_assoc,List.cons_append]; exact mn,fQ.sub,fQ.new,fQ.dL,fQ.base,fQ.et⟩;rw[List.set_set];exact(List.Oa aC).symm
  · rw[He]at di; cases di
theorem aap{T T':TypeId} {id i d:Nat} {g:aU} {l:List (Bool×List g.D)} {l2:List g.D} {cap y3:Option Nat} (b5:bd st.H id=some (.b2 T T' g l cap (some (i,some d)))) (Co:bd st.H d=some (.row T' g l2 y3)) (cr:Nat.beq d id=false) :
    fq X n st ⟨fK d .dead st.L,eM id (.b2 T T' g (l.set i (true,l2)) cap none) (ef d .dead st.H)⟩:=fun R W aJ M a w ⟨ks,env,B,al,H,bL,h⟩=>by
  have rK:id≠d:=fun e=>ne_of_beq_false cr e.symm
  obtain⟨c0,Cr,⟨A,k,ys,c4,I,he,rfl,lD,⟨aW,v,aC,lA⟩,fy⟩,nI⟩:=h.heap.gz b5;obtain⟨fw,Y,Z,⟨c2,en,gB,lp,rfl,iM,_⟩,dt,p2⟩:=h.heap.take Co;obtain⟨bP,c',ca,wy,rfl⟩:=lA d rfl;rw[lp]at wy;cases wy;obtain⟨b,rfl⟩:=eQ.at ((h.aM.ok _ nI.more.mem).1 _ List.mem_cons_self) (by show 0 < l.length; omega);obtain⟨H2,gL,aaq,_⟩:=p2 env .dead (fun _ _=>rfl) (fun _ _=>trivial);have Oi:=y5 (z:=.dead) rK b5;rw[show(cv.b2 T T' g l cap (some (i,some d))).sub d .dead=.b2 T T' g l cap (some (i,none)) by simp only[cv.sub,Nat.beq_refl]]at Oi;obtain⟨sQ,aj8,wE,⟨jv,jw,sP,rfl⟩,lr⟩:=aaq.put Oi;subst sP;obtain⟨ZZ,l6,aj9,Hg,y7,Oj,rfl,aka,_⟩:=wE;rw[he]at Oj;cases Oj;have kP:bf.tree (⟨some ⟨b,0,none⟩,k,T,1,l.length,Hg⟩ :: y7)∈H:=by
    rw[dt]
    have:=gL.subset (a:=bf.tree (⟨some ⟨b,0,none⟩,k,T,1,l.length,Hg⟩ :: y7)) (by simp)
    simp only[List.mem_append,List.mem_cons]at this ⊢;exact this.imp (fun h=>h) .inr
  have jM:=h.aM.same (c:=.tree (⟨some ⟨b,0,none⟩,k,T,1,l.length,Hg⟩ :: y7)) (List.mem_append_left _ kP) nI.more.mem (b:=b) ⟨_,List.mem_cons_self,rfl⟩ ⟨_,List.mem_cons_self,rfl⟩;simp only[bf.tree.injEq,List.cons.injEq,ga.mk.injEq,true_and,and_true]at jM;obtain⟨rfl,rfl⟩:=jM;obtain⟨eL,pj,y6⟩:=dI.fill iM (A:=c2) (k:=en) (show dI B al T' g (l.set i (false,[])) ys y7 from lD) aW
  let p:ga:=⟨c2,en,T',g.size,l2.length,gB⟩
  let eI:ga:=⟨some ⟨b,0,none⟩,k,T,1,l.length,ys.set i (.slice c2 l2.length en)⟩
  have dP:=h.aM;rw[dt]at dP;have fb:bE (fun k=>R k\/B k) al (p.ee :: (jv++.tree (eI :: y7) :: (jw++ks.map dk))) w:=by
    have ao:(Y++p.ee :: Z++ks.map dk).Perm (p.ee :: (Y++Z++ks.map dk)):=by
      simp only[List.append_assoc,List.cons_append];exact List.perm_middle
    have:=(dP.perm ao).e6 (((gL.append_right (ks.map dk))).cons_cons _)
    rw[List.append_assoc,List.cons_append,aC]at this;exact this
  have ih:bE (fun k=>R k\/B k) al (jv++.tree (eI :: eL) :: (jw++ks.map dk)) w:=fb.LY.x8 ⟨_,(List.Perm.swap _ _ _).trans (List.Perm.cons _ pj.symm),List.Sublist.refl _⟩;refine⟨ks,env,B,al,jv++.tree (eI :: eL) :: jw,bL,h.size,h.defs,fun s u hu=>?_,lr _ _ ⟨_,k,_,_,eL,by rw[List.length_set]; exact he,by rw[List.length_set],y6,rfl,fy⟩,by rw[List.append_assoc,List.cons_append]; exact ih,h.sub,h.new,h.dL,h.base,h.et⟩;obtain⟨jK,jL,rfl⟩:=pc hu;obtain⟨fL,ag,aq⟩:=h.has s jK jL;exact⟨fL,ag,eH.sub (z:=.dead) (fun _ _=>rfl) (fun _ _=>trivial) aq⟩
theorem aar{T:TypeId} (T':TypeId) {id:Nat} {g:aU} {l:List (List g.D)} {cap:Option Nat} (b5:bd st.H id=some (.row T (.ai g) l cap)) :
    fq X n st ⟨st.L,eM id (.b2 T T' g (l.map fun x=>(false,x)) cap none) st.H⟩:=fun R W aJ M a w ⟨ks,env,B,al,H,bL,h⟩=>by
  obtain⟨c0,jv,jw,⟨A,k,xs,he,rfl,az,fy⟩,dt,lr⟩:=h.Oc (b':=.b2 T T' g (l.map fun x=>(false,x)) cap none) b5;have dP:=h.aM;rw[dt,List.append_assoc,List.cons_append]at dP;have an:=bE.Od (r:=⟨A,k,T,1,l.length,xs⟩) dP;exact⟨ks,env,B,al,_,bL,lr (.tree [⟨A,k,T,1,l.length,xs⟩]) a w ⟨A,k,xs,xs,[],by rw[List.length_map]; exact he,by rw[List.length_map],dI.map (l:=l) az,rfl,fy⟩ an h.bZ⟩
theorem eQ.reads{w:World} {B:Nat->Prop} {e:TypeId} {size c n:Nat} {A:Option Addr} {xs:List Value} (bg:eQ w B e size A c n xs):Reads w A n size xs:=by
  refine⟨bg.1,fun aV=>?_⟩;obtain⟨g,J⟩:=bg.at aV;refine⟨g,0,J,fun j u hu=>?_⟩;rw[Nat.zero_add,bg.cells J j (by have:=(List.getElem?_eq_some_iff.1 hu).1; rw[bg.1]at this; exact this)];exact hu
theorem dI.flat{B B':Nat->Prop} {w:World} {T':TypeId} {g:aU}:∀ {l:List (Bool×List g.D)} {ys:List Value} {I:List ga},dI B' w T' g l ys I->(∀ r∈I,r.ok B w/\∀ b,r.has b->B' b)->Flat (bF B' w (.ai g)) (l.map (·.2)) ys
  | [],_,_,⟨e,_⟩,_=>e
  | (true,li) :: l,_,_,⟨v,eV,e,A,k,xs,eL,aC,gV,az,a8⟩,fU=>by
    subst gV;obtain⟨J,U⟩:=fU _ List.mem_cons_self;have bg:eQ w B T' g.size A k li.length xs:=J;exact⟨[v],eV,e,⟨A,k,xs,by rw[aC],bg.le.1,bg.le.2,az,bg.reads,fun b p _ e=>U b (by show A.map _=_; rw[e]; rfl)⟩,dI.flat a8 fun r aw=>fU r (List.mem_cons_of_mem _ aw)⟩
  | (false,li) :: l,_,_,⟨v,eV,e,az,a8⟩,fU=>⟨[v],eV,e,az,dI.flat a8 fU⟩
theorem aas{T T':TypeId} {id:Nat} {g:aU} {l:List (Bool×List g.D)} {cap:Option Nat} (b5:bd st.H id=some (.b2 T T' g l cap none)) :
    fq X n st ⟨fK id (.bk (.ai g) (l.map (·.2)) cap) st.L,ef id (.bk (.ai g) (l.map (·.2)) cap) st.H⟩:=fun R W aJ M a w ⟨ks,env,B,al,H,bL,h⟩=>by
  obtain⟨c0,Cr,kM,nI⟩:=h.heap.gz b5;have o7:=(nI.more (H2:=ks.map dk)).mem;have dp:fJ B al (fun q=>B q\/c0.has q) w:=⟨fun q ar=>.inl ar,fun q ar=>h.aM.below.block q (.inr ar)⟩
  obtain⟨c,Y,Z,ae,U,ag⟩:=(h.heap.up dp).take b5;have kP:c∈H++ks.map dk:=by rw[U]; simp
  have om:c=c0:=by
    obtain⟨A,k,ys,c4,I,he,ay,lD,lE,_⟩:=kM;obtain⟨Hf,j4,uD,nP,uE,lY,aS,Hh,Hi,_⟩:=ae;rw[he]at lY;cases lY
    match aj:A with
    | some p=>
      subst ay;subst aS;exact h.aM.same kP o7 (b:=p.block) ⟨_,List.mem_cons_self,rfl⟩ ⟨_,List.mem_cons_self,rfl⟩
    | none=>
      have fx:eQ w (fun k=>R k\/B k) T 1 none k l.length c4:=by
        subst ay;exact(h.aM.ok _ o7).1 _ List.mem_cons_self
      have ah:l.length=0:=by
        by_cases ah:l.length=0
        · exact ah
        · obtain⟨b,ae⟩:=fx.at (by omega)
          cases ae
      have hU:l=[]:=List.length_eq_zero_iff.1 ah;subst hU;have a1:c4=ys:=lE;have a2:nP=uD:=Hi;obtain⟨a3,a4⟩:=(show dI B al T' g [] ys I from lD)
      obtain⟨a5,bY⟩:=(show dI _ w T' g [] uD uE from Hh)
      subst a1 a2 a3 a4 a5 bY;rw[ay,aS]
  subst om;obtain⟨A,k,ys,c4,I,he,rfl,lD,lE,fy⟩:=ae;have uC:c4=ys:=lE;subst uC;have sR:=h.aM.ok _ kP;have fx:eQ w (fun k=>R k\/B k) T 1 A k l.length c4:=sR.1 _ List.mem_cons_self;have hH:∀ q,bf.has (.tree (⟨A,k,T,1,l.length,c4⟩ :: I)) q->¬ (R q\/B q)/\q < w.heap.size:=fun q ar=>sR.lt ar
  have di:=dI.flat (B:=fun k=>R k\/B k) (show dI _ w T' g l c4 I from lD) fun r aw=>⟨sR.1 r (List.mem_cons_of_mem _ aw),fun b ae=>.inr ⟨r,List.mem_cons_of_mem _ aw,ae⟩⟩
  have su:∀ v,dB env (fun q=>B q\/bf.has (.tree (⟨A,k,T,1,l.length,c4⟩ :: I)) q) w (.ai id) v->dB env (fun q=>B q\/bf.has (.tree (⟨A,k,T,1,l.length,c4⟩ :: I)) q) w (.bk (.ai g) (l.map (·.2)) cap) v:=by
    rintro v ⟨bP,c',m,cV,rfl⟩;rw[he]at cV;cases cV;exact⟨A,k,c4,by rw[List.length_map],by rw[List.length_map]; exact fx.le.1,fx.le.2,fy,di,by rw[List.length_map]; exact⟨fx.reads,fun b p _ e=>.inr ⟨_,List.mem_cons_self,by show A.map _=_; rw[e]; rfl⟩⟩⟩
  obtain⟨H2,aq,aE,_⟩:=ag env (.bk (.ai g) (l.map (·.2)) cap) (fun _ _=>rfl) su;have lX:=h.aM.apart;rw[U,List.append_assoc,List.cons_append]at lX;refine⟨ks,env,_,w,H2,bL,h.size,h.defs,fun s u hu=>?_,aE,?_,fun q ar=>.inl (h.sub q ar),fun q ar=>?_,h.dL,h.base.trans ⟨h.aM.below.os,h.aM.below.tape,h.aM.below.output,h.aM.below.size,fun q ar=>h.aM.below.block q (.inl ar)⟩,fun i x ak=>(h.et i x ak).up dp⟩
  · obtain⟨jK,jL,rfl⟩:=pc hu
    obtain⟨fL,bb,bX⟩:=h.has s jK jL;exact⟨fL,bb,eH.sub (fun _ _=>rfl) su (bX.up dp)⟩
  · have an:bE (fun k=>R k\/B k) al (H2++ks.map dk) w:=by
      have bb:=h.aM;rw[U]at bb;have ao:(Y++bf.tree (⟨A,k,T,1,l.length,c4⟩ :: I) :: Z++ks.map dk).Perm (bf.tree (⟨A,k,T,1,l.length,c4⟩ :: I) :: (Y++Z++ks.map dk)):=by
        simp only[List.append_assoc,List.cons_append];exact List.perm_middle
      exact(bb.perm ao).e6 (((aq.append_right _)).cons _)
    refine⟨c6.refl _ _,fun q ar=>?_,fun c aa=>(an.ok c aa).base fun b ae cm=>?_,an.apart⟩
    · rcases ar with ar | ar | ar
      · exact h.aM.base q (.inl ar)
      · exact h.aM.base q (.inr ar)
      · exact(hH q ar).2
    · rcases cm with cm | cm | cm
      · exact((an.ok c aa).lt ae).1 (.inl cm)
      · exact((an.ok c aa).lt ae).1 (.inr cm)
      · have iF:c∈Y++(Z++ks.map dk):=by
          rcases List.mem_append.1 aa with aa | aa
          · have:=aq.subset aa
            rcases List.mem_append.1 this with bX | bX
            · exact List.mem_append_left _ bX
            · exact List.mem_append_right _ (List.mem_append_left _ bX)
          · exact List.mem_append_right _ (List.mem_append_right _ aa)
        rw[List.pairwise_append,List.pairwise_cons]at lX;obtain⟨_,⟨dj,_⟩,il⟩:=lX
        rcases List.mem_append.1 iF with bX | bX
        · exact il c bX _ List.mem_cons_self b ae cm
        · exact dj c bX b cm ae
  · rcases ar with ar | ar
    · exact(h.new q ar).imp_right fun aK=>⟨aK.1,aK.2.dQ (h.aM.below.block q (.inr ar))⟩
    · exact .inr ⟨fun dT=>(hH q ar).1 (.inl dT),sR.cells rfl ar⟩
theorem aat{T T':TypeId} {id:Nat} {g:aU} {l:List (Bool×List g.D)} {cap:Option Nat} (b5:bd st.H id=some (.b2 T T' g l cap none)) :
    fq X n st ⟨st.L,eM id (.row T (.ai g) (l.map (·.2)) cap) st.H⟩:=fun R W aJ M a w ⟨ks,env,B,al,H,bL,h⟩=>by
  obtain⟨c0,Cr,kM,nI⟩:=h.heap.gz b5;have o7:=(nI.more (H2:=ks.map dk)).mem;obtain⟨A,k,ys,c4,I,he,rfl,lD,lE,fy⟩:=kM;have uC:c4=ys:=lE;subst uC
  let eI:ga:=⟨A,k,T,1,l.length,c4⟩
  have dp:fJ B al (fun q=>B q\/bf.has (.tree I) q) w:=⟨fun q ar=>.inl ar,fun q ar=>h.aM.below.block q (.inr ar)⟩
  obtain⟨c,K,ae,⟨jv,jw,dt,rfl⟩,lr⟩:=(h.heap.up dp).put b5;have kP:c∈H++ks.map dk:=by rw[dt]; simp
  have om:c=.tree (⟨A,k,T,1,l.length,c4⟩ :: I):=by
    obtain⟨Hf,j4,uD,nP,uE,lY,aS,Hh,Hi,_⟩:=ae;rw[he]at lY;cases lY
    match aj:A with
    | some p=>
      subst aS;exact h.aM.same kP o7 (b:=p.block) ⟨_,List.mem_cons_self,rfl⟩ ⟨_,List.mem_cons_self,rfl⟩
    | none=>
      have fx:eQ w (fun k=>R k\/B k) T 1 none k l.length c4:=(h.aM.ok _ o7).1 _ List.mem_cons_self;have ah:l.length=0:=by
        by_cases ah:l.length=0
        · exact ah
        · obtain⟨b,ae⟩:=fx.at (by omega)
          cases ae
      have hU:l=[]:=List.length_eq_zero_iff.1 ah;subst hU;have a2:nP=uD:=Hi;obtain⟨a3,a4⟩:=(show dI B al T' g [] c4 I from lD)
      obtain⟨a5,bY⟩:=(show dI _ w T' g [] uD uE from Hh)
      subst a2 a3 a4 a5 bY;rw[aS]
  subst om;have sR:=h.aM.ok _ kP;have hH:∀ q,bf.has (.tree I) q->¬ (R q\/B q)/\q < w.heap.size:=fun q ⟨r,aw,ar⟩=>sR.lt ⟨r,List.mem_cons_of_mem _ aw,ar⟩
  have di:=dI.flat (B:=fun k=>R k\/B k) (B':=fun q=>B q\/bf.has (.tree I) q) (w:=w) ((dI.up dp (show dI B al T' g l c4 I from lD))) fun r aw=>⟨sR.1 r (List.mem_cons_of_mem _ aw),fun b ae=>.inr ⟨r,aw,ae⟩⟩
  have dP:=h.aM;rw[dt,List.append_assoc,List.cons_append]at dP;have fb:bE (fun k=>R k\/B k) al (.tree I :: (jv++eI.ee :: (jw++ks.map dk))) w:=by
    refine(dP.Bl (r:=eI)).perm ?_;refine(List.Perm.cons _ pY).trans ((List.Perm.swap _ _ _).trans (List.Perm.cons _ pY.symm))
  have cg:=lr (.row T (.ai g) (l.map (·.2)) cap) eI.ee ⟨A,k,c4,by rw[List.length_map]; exact he,by rw[List.length_map]; rfl,di,fy⟩;refine⟨ks,env,_,w,jv++eI.ee :: jw,bL,h.size,h.defs,fun s u hu=>?_,cg,?_,fun q ar=>.inl (h.sub q ar),fun q ar=>?_,h.dL,h.base.trans ⟨h.aM.below.os,h.aM.below.tape,h.aM.below.output,h.aM.below.size,fun q ar=>h.aM.below.block q (.inl ar)⟩,fun i x ak=>(h.et i x ak).up dp⟩
  · obtain⟨fL,bb,bX⟩:=h.has s u hu
    exact⟨fL,bb,bX.up dp⟩
  · rw[List.append_assoc,List.cons_append]
    refine⟨c6.refl _ _,fun q ar=>?_,fun c aa=>(fb.ok c (List.mem_cons_of_mem _ aa)).base fun b ae cm=>?_,(List.pairwise_cons.1 fb.apart).2⟩
    · rcases ar with ar | ar | ar
      · exact h.aM.base q (.inl ar)
      · exact h.aM.base q (.inr ar)
      · exact(hH q ar).2
    · rcases cm with cm | cm | cm
      · exact((fb.ok c (List.mem_cons_of_mem _ aa)).lt ae).1 (.inl cm)
      · exact((fb.ok c (List.mem_cons_of_mem _ aa)).lt ae).1 (.inr cm)
      · exact(List.pairwise_cons.1 fb.apart).1 c aa b cm ae
  · rcases ar with ar | ar
    · exact(h.new q ar).imp_right fun aK=>⟨aK.1,aK.2.dQ (h.aM.below.block q (.inr ar))⟩
    · exact .inr ⟨fun dT=>(hH q ar).1 (.inl dT),by
        obtain⟨r,aw,ae⟩:=ar;exact sR.cells rfl ⟨r,List.mem_cons_of_mem _ aw,ae⟩⟩
end
inductive wV where
  | close (id d:Nat)
  | Ok (id:Nat) (T':TypeId)
  | de (id:Nat)
  | eT (id:Nat)
  | op (id s d:Nat)
  | Hj (id s d:Nat) (k:IntKind) (c:Int)
  | cP (i j:Nat)
def wV.wW:wV->List Nat
  | .close id d=>[id,d]
  | .Ok id _=>[id]
  | .de _=>[]
  | .eT id=>[id]
  | .op id _ d=>[id,d]
  | .Hj id _ d _ _=>[id,d]
  | .cP i j=>[i,j]
def wX(n:Nat) (st:aO) (id d i:Nat):Option (Bool×aO):=match Nat.blt d n,bd st.H id,Nat.beq d id with
  | true,some (.b2 T T' g l cap none),false=>some (decide (i < l.length)&&(l.getD i (false,[])).1,⟨fK d .dead st.L,(d,.row T' g (l.getD i (false,[])).2 none) :: eM id (.b2 T T' g l cap (some (i,some d))) (ef d .dead st.H)⟩)
  | _,_,_=>none
def y8(n:Nat) (st:aO):wV->Option (Bool×aO)
  | .close id d=>match bd st.H id,bd st.H d,Nat.beq d id with
    | some (.b2 T T' g l cap (some (i,some c5))),some (.row y2 g2 l2 _),false=>match Nat.beq c5 d,Nat.beq y2 T',decEq g2 g with
      | true,true,isTrue h=>some (true,⟨fK d .dead st.L,eM id (.b2 T T' g (l.set i (true,ox h l2)) cap none) (ef d .dead st.H)⟩)
      | _,_,_=>none
    | _,_,_=>none
  | .Ok id T'=>match bd st.H id with
    | some (.row T (.ai g) l cap)=>some (true,⟨st.L,eM id (.b2 T T' g (l.map fun x=>(false,x)) cap none) st.H⟩)
    | _=>none
  | .de id=>match bd st.H id with
    | some (.b2 _ _ g l cap none)=>some (true,⟨fK id (.bk (.ai g) (l.map (·.2)) cap) st.L,ef id (.bk (.ai g) (l.map (·.2)) cap) st.H⟩)
    | _=>none
  | .eT id=>match bd st.H id with
    | some (.b2 T _ g l cap none)=>some (true,⟨st.L,eM id (.row T (.ai g) (l.map (·.2)) cap) st.H⟩)
    | _=>none
  | .op id s d=>match bd st.L s with
    | some (.a (.c (.val (.int _ z))))=>wX n st id d z.toNat
    | _=>none
  | .Hj id s d k c=>match bd st.L s with
    | some (.a (.c (.val (.int _ z))))=>wX n st id d (k.wrap (z - c)).toNat
    | _=>none
  | .cP i j=>match Nat.blt j n with
    | true=>some (true,⟨fC (jr i j) st.L,nM (jr i j) st.H⟩)
    | false=>none
section
variable {X:bs} {n:Nat} {st st':aO} {d:Nat} {o:Oper}
theorem Ol{id i:Nat} {c:Bool} (h:wX n st id d i=some (c,st')) (aa:c=true):fq X n st st':=by
  unfold wX at h
  split at h
  · rename_i J U ag
    cases h;simp only[Bool.and_eq_true]at aa;exact aan J U ag aa.1 aa.2
  · cases h
theorem aau{i j:Nat} (aH:Nat.blt j n=true):fq X n st ⟨fC (jr i j) st.L,nM (jr i j) st.H⟩:=fun _ _ _ _ _ _ ⟨ks,env,B,al,H,bL,aj⟩=>by
  obtain⟨H',J,U⟩:=bA.cQ (B5 (i:=i) (j:=j)) aj.heap;refine⟨ks,kr env j (env i),B,al,H',bL,aj.size,aj.defs,fun s sv an=>?_,U,aj.aM.e6 (J.append_right _),aj.sub,aj.new,tR aj.dL (fun q ao=>by have J:=(aj.dL _ _ ao).1; have U:=dY aH; omega),aj.base,aj.et⟩;obtain⟨u,ag,rfl⟩:=ud an;obtain⟨v,aq,aE⟩:=aj.has s u ag;exact⟨v,aq,eH.cQ B5 aE⟩
theorem aav{x:wV} {c:Bool} (h:y8 n st x=some (c,st')) (aa:c=true):fq X n st st':=by
  unfold y8 at h
  split at h
  · split at h
    · rename_i J U ag
      split at h
      · rename_i aQ ay aS _
        cases h;subst aQ;have db:=Nat.eq_of_beq_eq_true ay;have eB:=Nat.eq_of_beq_eq_true aS;subst db;subst eB;exact aap J U ag
      · cases h
    · cases h
  · split at h
    · rename_i J
      cases h;exact aar _ J
    · cases h
  · split at h
    · rename_i J
      cases h;exact aas J
    · cases h
  · split at h
    · rename_i J
      cases h;exact aat J
    · cases h
  · split at h
    · exact Ol h aa
    · cases h
  · split at h
    · exact Ol h aa
    · cases h
  · split at h
    · rename_i aH
      cases h;exact aau aH
    · cases h
end
end
inductive lF where
 | de (id:Nat)
 | cd (id:Nat) (g:aU)
 | nil (s id:Nat) (t:TypeId) (g:aU)
 | sF (k p id:Nat) (t:TypeId) (g:aU)
 | ru (id:Nat)
 | t (x:wV)
def wY(n:Nat):lF->aO->Option (Bool×aO)
 | .de id,st=>match Go.Proofs.YtcheedjfedcbpaaGreatDoor.de id st with
  | some st'=>some (true,st')
  | none=>none
 | .cd id g,st=>match bd st.H id with
  | some (.cells _ cs)=>match dec g cs with
   | some (c,x,[])=>some (c,⟨tZ id g x st.L,ng id g x st.H⟩)
   | _=>none
  | _=>none
 | .nil s id t g,st=>match Nat.blt id n,bd st.L s with
  | true,some (.a (.c (.val v)))=>match isNil v with
   | true=>some (true,⟨(s,.c (.ai id)) :: fK id .dead st.L,(id,.row t g [] none) :: ef id .dead st.H⟩)
   | false=>none
  | _,_=>none
 | .sF k p id t g,st=>match Nat.blt id n with
  | true=>some (true,⟨fK id .dead st.L,(id,.row t g [] none) :: jt k p id (ef id .dead st.H)⟩)
  | false=>none
 | .ru id,st=>match Go.Proofs.YtcheedjfedcbpaaGreatDoor.ru id st with
  | some st'=>some (true,st')
  | none=>none
 | .t x,st=>y8 n st x
theorem Om{X:bs} {n:Nat} {x:lF} {st st':aO} {c:Bool} (h:wY n x st=some (c,st')) (aa:c=true):fq X n st st':=by
 unfold wY at h
 split at h
 ·split at h
  ·rename_i e; cases h; exact fq.de e
  ·cases h
 ·split at h
  ·rename_i e
   split at h
   ·rename_i aS; cases h; exact fq.cd _ _ e aS aa
   ·cases h
  ·cases h
 ·split at h
  ·rename_i e aS
   split at h
   ·rename_i cz
    cases h;rw[ND cz]at aS;exact fq.nil _ _ _ _ e aS
   ·cases h
  ·cases h
 ·split at h
  ·rename_i e; cases h; exact fq.sF _ _ _ _ _ e
  ·cases h
 ·split at h
  ·rename_i e; cases h; exact fq.ru e
  ·cases h
 ·exact aav h aa
def lF.wW:lF->List Nat
 | .nil s id _ _=>[s,id]
 | .sF k _ id _ _=>[k,id]
 | .t x=>x.wW
 | _=>[]
theorem aaw{a b:Nat} (h:a≠b):Nat.beq b a=false:=by
 cases e:Nat.beq b a with
 | false=>rfl
 | true=>exact absurd (Nat.eq_of_beq_eq_true e).symm h
theorem j8(a:Nat) (r:List Nat):e2 a (a :: r)=true:=by
 unfold e2;rw[Nat.beq_refl]
theorem Hk{id:Nat} {g:aU} {x:g.D} {V:List Nat}:∀ H:bz,lC V H (ng id g x H)
 | []=>cp.refl []
 | (k,b) :: r=>fun q v ar ah=>by
  unfold ng at ah
  split at ah
  ·rename_i e
   have ab:=Nat.eq_of_beq_eq_true e;obtain⟨u,J,U⟩:=Hk r q v ar ah
   by_cases cr:q=k
   ·subst cr
    subst ab;exact(Hl ah).elim
   ·exact⟨u,by rw[cI,if_neg cr]; exact J,U⟩
  ·rw[cI]at ah ⊢
   split at ah
   ·rename_i e
    cases ah;rw[if_pos e];exact⟨b,rfl,fun az=>aaf az⟩
   ·rename_i e
    rw[if_neg e];exact Hk r q v ar ah
where Hl {id:Nat} {g:aU} {x:g.D} {v:cv}:∀ {H:bz},bd (ng id g x H) id=some v->False
 | [],h=>by cases h
 | (k,b) :: r,h=>by
  unfold ng at h
  split at h
  ·exact Hl h
  ·rename_i e
   rw[cI,if_neg (fun cj=>by rw[cj,Nat.beq_refl]at e; cases e)]at h;exact Hl h
theorem Hm{k p id:Nat} {V:List Nat} (gM:e2 k V=true):∀ H:bz,lC V H (jt k p id H)
 | []=>cp.refl []
 | (j,b) :: r=>fun q v ar ah=>by
  have cr:q≠k:=fun e=>by rw[e,gM]at ar; cases ar
  unfold jt at ah
  split at ah
  ·cases ah
  ·rename_i gA
   cases gA
   split at ah
   ·rename_i e
    have ab:=Nat.eq_of_beq_eq_true e;subst ab;rw[cI,if_neg cr]at ah;exact⟨v,by rw[cI,if_neg cr]; exact ah,fun _=>rfl⟩
   ·rw[cI]at ah ⊢
    split at ah
    ·rename_i e
     rw[if_pos e];exact⟨_,rfl,fun _=>by cases ah; rfl⟩
    ·rename_i e
     rw[if_neg e];exact Hm gM r q v ar ah
  ·rename_i gA
   cases gA;rw[cI]at ah ⊢
   split at ah
   ·rename_i e
    rw[if_pos e];exact⟨_,rfl,fun _=>by cases ah; rfl⟩
   ·rename_i e
    rw[if_neg e];exact Hm gM r q v ar ah
theorem qq{q k:Nat} {r:List Nat}:e2 q (k :: r)=false ↔ q≠k/\e2 q r=false:=⟨fY,fun⟨J,U⟩=>by
 unfold e2;rw[aaw J];exact U⟩
theorem aax{q a b:Nat} (h:e2 q [a,b]=false):e2 q (b :: ([a]++[]))=false:=by
 obtain⟨J,U⟩:=qq.1 h;obtain⟨ag,aq⟩:=qq.1 U;exact qq.2 ⟨ag,qq.2 ⟨J,rfl⟩⟩
theorem aay{k p id:Nat} {z:bm} {b:cv} (H:bz):lC [k,id] H ((id,b) :: jt k p id (ef id z H)):=
 (((jR id z (V:=[]) H).trans (Hm (k:=k) (p:=p) (id:=id) (j8 k []) _)).cons (d:=id) (v:=b)).more fun _ h=>aax h
def cZ(V:List Nat) (st st':aO):Prop:=wU V st.L st'.L/\lC V st.H st'.H
theorem cZ.refl{V:List Nat} (st:aO):cZ V st st:=⟨cp.refl _,cp.refl _⟩
theorem cZ.trans{V V2:List Nat} {a b c:aO} (h:cZ V a b) (k:cZ V2 b c):cZ (V2++V) a c:=⟨h.1.trans k.1,h.2.trans k.2⟩
theorem cZ.more{V V2:List Nat} {a b:aO} (h:cZ V a b) (aC:∀ q,e2 q V2=false->e2 q V=false):cZ V2 a b:=⟨h.1.more aC,h.2.more aC⟩
theorem On{n:Nat} {st st':aO} {id d i:Nat} {c:Bool} (h:wX n st id d i=some (c,st')):cZ [id,d] st st':=by
 unfold wX at h
 split at h
 ·cases h
  refine⟨kC _ _ _,?_⟩;refine cp.more (cp.cons (cp.trans (V:=[]) (V2:=[id]) (jR _ _ _) (j7 (j8 _ _)))) fun q ar=>?_
  obtain⟨J,U⟩:=fY ar;obtain⟨ag,_⟩:=fY U;show(match Nat.beq d q with | true=>true | false=>match Nat.beq id q with | true=>true | false=>false)=false
  split
  ·rename_i e; exact absurd (Nat.eq_of_beq_eq_true e).symm ag
  ·split
   ·rename_i e; exact absurd (Nat.eq_of_beq_eq_true e).symm J
   ·rfl
 ·cases h
theorem Oo{bN:hK}:∀ {cs:List e4},rk cs=true->qj bN cs=some cs
 | [],_=>rfl
 | .id _ :: _,h=>by cases h
 | .eT _ _ :: cs,h=>by
  unfold qj;rw[Oo (cs:=cs) h]
theorem Hn(bN:hK):Fix fun c=>c.cQ bN:=⟨fun c h=>by
 cases c with
 | fn f cs=>simp only[bm.cQ]; rw[Oo h]
 | _=>first | rfl | cases h⟩
theorem Ho(bN:hK):∀ cs:List bm,sD bN cs=uA (fun c=>c.cQ bN) cs
 | []=>rfl
 | c :: r=>by
  show c.cQ bN :: sD bN r=_;rw[Ho bN r]; rfl
theorem Hp{bN:hK} {x:bl} (h:x.free=true):x.cQ bN=x:=by
 cases x with
 | c x=>simp only[bl.cQ]; rw[(Hn bN).fix x h]
 | agg cs=>simp only[bl.cQ]; rw[Ho,rI (Hn bN) h]
 | arr g l=>rfl
theorem Oq{bN:hK}:∀ {xs:List bl},lB xs=true->ub bN xs=xs
 | [],_=>rfl
 | c :: r,h=>by
  unfold lB at h
  split at h
  ·rename_i e
   show c.cQ bN :: ub bN r=_;rw[Hp e,Oq h]
  ·cases h
theorem aaz{bN:hK} {v:b3} (h:v.free=true):v.cQ bN=v:=by
 cases v with
 | a x=>simp only[b3.cQ]; rw[Hp h]
 | may g x=>simp only[b3.cQ]; rw[Hp h]
 | c3 xs=>simp only[b3.cQ]; rw[Oq h]
theorem aaA{bN:hK} {b:cv} (h:b.free=true):b.cQ bN=b:=by
 cases b with
 | cells t cs=>simp only[cv.cQ]; rw[Ho,rI (Hn bN) h]
 | b2 T T' g l c q=>rcases q with _ | ⟨i,_ | d⟩<;>first | rfl | cases h
 | _=>first | rfl | cases h
theorem aaB(bN:hK) (L:cX) {V:List Nat}:wU V L (fC bN L):=cp.map (f:=fun v=>v.cQ bN) (fun _ h=>aaz h) fun _ _ h=>ud h
theorem Cs(i j:Nat):∀ H:bz,lC [i,j] H (nM (jr i j) H)
 | []=>cp.refl []
 | (k,b) :: r=>fun q v ar ah=>by
  obtain⟨J,U⟩:=fY ar;obtain⟨ag,_⟩:=fY U;unfold nM at ah
  by_cases ay:Nat.beq k i=true
  ·have e:=Nat.eq_of_beq_eq_true ay
   have hm:jr i j b.ou k=some j:=by unfold jr; rw[ay]
   rw[hm]at ah;dsimp only at ah;rw[cI,if_neg ag]at ah;rw[cI,if_neg (by rw[e]; exact J)];exact Cs i j r q v ar ah
  ·have Hq:Nat.beq k i=false:=by simpa only[Bool.not_eq_true] using ay
   by_cases aS:Nat.beq k j=true
   ·have e:=Nat.eq_of_beq_eq_true aS
    have hm:jr i j b.ou k=none:=by unfold jr; rw[Hq,aS]
    rw[hm]at ah;dsimp only at ah;rw[cI,if_neg (by rw[e]; exact ag)];exact Cs i j r q v ar ah
   ·have aaC:Nat.beq k j=false:=by simpa only[Bool.not_eq_true] using aS
    have hm:jr i j b.ou k=some k:=by unfold jr; rw[Hq,aaC]
    rw[hm]at ah;dsimp only at ah;rw[cI]at ah ⊢
    split at ah
    ·rename_i e
     cases ah;rw[if_pos e];exact⟨b,rfl,fun az=>aaA az⟩
    ·rename_i e
     rw[if_neg e];exact Cs i j r q v ar ah
theorem aaD{n:Nat} {st st':aO} {x:wV} {c:Bool} (h:y8 n st x=some (c,st')):cZ x.wW st st':=by
 unfold y8 at h
 split at h
 ·split at h
  ·split at h
   ·cases h
    exact⟨kC _ _ _,cp.more (cp.trans (V:=[]) (V2:=[_]) (jR _ _ _) (j7 (j8 _ _))) fun q ar=>by
     have J:=(fY ar).1;show(match Nat.beq _ q with | true=>true | false=>false)=false
     split
     ·rename_i e; exact absurd (Nat.eq_of_beq_eq_true e).symm J
     ·rfl⟩
   ·cases h
  ·cases h
 ·split at h
  ·cases h
   exact⟨cp.refl _,j7 (j8 _ _)⟩
  ·cases h
 ·split at h
  ·cases h
   exact⟨kC _ _ _,jR _ _ _⟩
  ·cases h
 ·split at h
  ·cases h
   exact⟨cp.refl _,j7 (j8 _ _)⟩
  ·cases h
 ·split at h
  ·exact On h
  ·cases h
 ·split at h
  ·exact On h
  ·cases h
 ·split at h
  ·cases h
   exact⟨aaB _ _,Cs _ _ _⟩
  ·cases h
theorem Ot{n:Nat} {x:lF} {st st':aO} {c:Bool} (h:wY n x st=some (c,st')):cZ x.wW st st':=by
 unfold wY at h
 split at h
 ·split at h
  ·rename_i e
   cases h;unfold Go.Proofs.YtcheedjfedcbpaaGreatDoor.de at e
   split at e
   ·cases e; exact⟨kC _ _ _,jR _ _ _⟩
   ·cases e
  ·cases h
 ·split at h
  ·split at h
   ·cases h; exact⟨aah _ _ _ _,Hk _⟩
   ·cases h
  ·cases h
 ·split at h
  ·split at h
   ·cases h
    exact⟨cp.cons (kC _ _ _),(cp.cons (V:=[]) (jR _ _ _)).more fun q ar=>by obtain⟨J,U⟩:=fY ar; exact U⟩
   ·cases h
  ·cases h
 ·split at h
  ·cases h
   exact⟨kC _ _ _,aay _⟩
  ·cases h
 ·split at h
  ·rename_i e
   cases h;unfold Go.Proofs.YtcheedjfedcbpaaGreatDoor.ru at e
   split at e
   ·cases e; exact⟨kC _ _ _,jR _ _ _⟩
   ·cases e
  ·cases h
 ·exact aaD h
def wZ(X:bs) (t:TypeId) (g:aU):Bool:=match X.tt.find t with
 | some ⟨⟨.struct _,_,_,_⟩,_⟩=>g.key&&(kS X.P X.tt 12 t g&&!(X.P.eqGuardType X.P.depth t))
 | _=>false
theorem aaE{X:bs} (av:X.tt.ok X.P) {t:TypeId} {g:aU} (h:wZ X t g=true):sH X.P t g:=by
 unfold wZ at h
 split at h
 ·rename_i az
  simp only[Bool.and_eq_true,Bool.not_eq_true']at h;exact sH.of av h.1 az rfl h.2.1 h.2.2
 ·cases h
def Hr(X:bs) (e:TypeId):Option (bh×aU):=match X.tt.find e with
 | some bw=>match bw.g with
  | some g=>some (bw,g)
  | none=>none
 | none=>none
def Ct(X:bs) (L:cX) (t:TypeId) (u v:Operand):Option (Bool×Bool):=match bp X L u,bp X L v,X.tt.find t with
 | some (g1,.agg cs),some (g2,.agg aG),some bw=>match bw.g with
  | some g=>match dec g cs,dec g aG,wZ X t g with
   | some (fw,x,[]),some (cL,y,[]),true=>some (g1&&(g2&&(fw&&cL)),g.beq x y)
   | _,_,_=>none
  | none=>none
 | _,_,_=>none
def w0(X:bs) (st:aO):Op->Option (Bool×bl)
 | .binOp .eql t u v _=>match Ct X st.L t u v with
  | some (c,b)=>some (c,.c (.val (.bool b)))
  | none=>none
 | .binOp .neq t u v _=>match Ct X st.L t u v with
  | some (c,b)=>some (c,.c (.val (.bool (!b))))
  | none=>none
 | .load t x=>match bp X st.L x,X.tt.find t with
  | some (g1,.c (.eG id 1 i 0)),some bw=>match bd st.H id,lR bw.bq.desc with
   | some (.cM _ _ _ _ _ j d2),false=>some (g1&&Nat.beq i j,.c (.ai d2))
   | some (.b2 _ _ _ _ _ (some (j,some d2))),false=>some (g1&&decide (i=j),.c (.ai d2))
   | _,_=>none
  | _,_=>none
 | .slice t u (some x) none none=>match X.tt.find t,bp X st.L u,bp X st.L x with
  | some ⟨⟨.slice e,_,_,_⟩,_⟩,some (g1,.c (.ai id)),some (g2,.c (.val (.int _ z)))=>match X.tt.find e,bd st.H id with
   | some dC,some (.row _ g l _)=>match Nat.beq g.size dC.bq.size with
    | true=>some (g1&&(g2&&(decide (0<=z)&&decide (z<=(l.length:Int)))),.c (.iI id g.size z.toNat))
    | false=>none
   | _,_=>none
  | _,_,_=>none
 | .call ⟨.builtin .cap,⟨[u]⟩,⟨[t]⟩⟩=>match X.tt.find t,bp X st.L u with
  | some ⟨⟨.slice _,_,_,_⟩,_⟩,some (g1,.c (.ai id))=>some (g1,.c (.iU id))
  | _,_=>none
 | _=>none
theorem Ou{X:bs} (av:X.tt.ok X.P) {L:cX} {t:TypeId} {u v:Operand} {c b:Bool} (h:Ct X L t u v=some (c,b)) (aa:c=true):∃ g1 g2 fw cL cs aG g x y,bp X L u=some (g1,.agg cs)/\bp X L v=some (g2,.agg aG)/\sH X.P t g/\dec g cs=some (fw,x,[])/\dec g aG=some (cL,y,[])/\g1=true/\g2=true/\fw=true/\cL=true/\b=g.beq x y:=by
 unfold Ct at h
 split at h
 ·rename_i hu aC a8
  split at h
  ·split at h
   ·rename_i ay aS cz
    cases h;simp only[Bool.and_eq_true]at aa;exact⟨_,_,_,_,_,_,_,_,_,hu,aC,aaE av cz,ay,aS,aa.1,aa.2.1,aa.2.2.1,aa.2.2.2,rfl⟩
   ·cases h
  ·cases h
 ·cases h
theorem Cu{X:bs} {st:aO} (av:X.tt.ok X.P) {o:Oper} {c:Bool} {bx:bl} (h:w0 X st o.op=some (c,bx)) (aa:c=true):ix X st o bx:=by
 unfold w0 at h
 split at h
 ·rename_i aA
  split at h
  ·rename_i e
   cases h;obtain⟨g1,g2,fw,cL,cs,aG,g,x,y,hu,aC,bQ,ak,aL,J,U,ag,aq,rfl⟩:=Ou av e aa;exact ZA bQ aA hu J aC U ak ag aL aq
  ·cases h
 ·rename_i aA
  split at h
  ·rename_i e
   cases h;obtain⟨g1,g2,fw,cL,cs,aG,g,x,y,hu,aC,bQ,ak,aL,J,U,ag,aq,rfl⟩:=Ou av e aa;exact ZB bQ aA hu J aC U ak ag aL aq
  ·cases h
 ·rename_i aA
  split at h
  ·rename_i ak a8
   split at h
   ·rename_i ah aX
    cases h;simp only[Bool.and_eq_true]at aa
    have:=Nat.eq_of_beq_eq_true aa.2
    subst this;intro R W aJ n ks env B al H a b1 aj;exact Zy av aA a8 aX ak aa.1 ah aj
   ·rename_i ah aX
    cases h;simp only[Bool.and_eq_true]at aa;exact Of av aA a8 aX ak aa.1 ah aa.2
   ·cases h
  ·cases h
 ·rename_i aA
  split at h
  ·rename_i a8 hu ak
   split at h
   ·rename_i he ah
    split at h
    ·rename_i an
     cases h;rw[Bool.and_eq_true,Bool.and_eq_true]at aa;exact Z6 av aA a8 rfl he hu aa.1 ak aa.2.1 ah an aa.2.2
    ·cases h
   ·cases h
  ·cases h
 ·rename_i aA
  split at h
  ·rename_i a8 hu
   cases h;exact Z8 av aA a8 rfl hu aa
  ·cases h
 ·cases h
section
def eo(g c:Bool):Bool:=match c with
 | true=>true
 | false=>!g
theorem y9{g c:Bool} (h:eo g c=true) (aQ:g=true):c=true:=by
 cases c with
 | true=>rfl
 | false=>rw[aQ]at h; cases h
abbrev fG:=List (Nat×Nat×Bool)
def jS(L:cX) (s:Nat) (want:Bool):Option Bool:=match bd L s,want with
 | some (.a (.c (.val (.bool b)))),true=>some b
 | some (.a (.c (.val (.bool b)))),false=>some (!b)
 | some (.may g (.c (.val (.bool b)))),true=>some (g&&b)
 | some (.may g (.c (.val (.bool b)))),false=>some (g&&!b)
 | _,_=>none
def Hs:Bool->Bool->Bool
 | true,true=>true
 | false,false=>true
 | _,_=>false
theorem aaF:∀ {a b:Bool},Hs a b=true->a=b
 | true,true,_=>rfl
 | false,false,_=>rfl
def za(j:Nat) (w:Bool):List (Nat×Bool)->Bool
 | []=>false
 | p :: r=>match Nat.beq p.1 j,Hs p.2 w with
  | true,true=>true
  | _,_=>za j w r
def zb(s:Nat):fG->Option (Nat×Bool)
 | []=>none
 | e :: G=>match Nat.beq e.1 s with
  | true=>some e.2
  | false=>zb s G
def zc(df:List (Option Nat)) (j s:Nat):Bool:=match nth df j with
 | some (some q)=>Nat.beq q s
 | _=>false
def nk(df:List (Option Nat)) (d:Nat):fG->fG
 | []=>[]
 | e :: G=>match Nat.beq e.1 d,zc df e.2.1 d with
  | false,false=>e :: nk df d G
  | _,_=>nk df d G
def sS(df:List (Option Nat)) (G:fG):Nat->Nat->Bool->List (Nat×Bool)
 | 0,j,w=>[(j,w)]
 | k+1,j,w=>(j,w) :: match nth df j with
  | some (some s)=>match zb s G with
   | some p=>sS df G k p.1 p.2
   | none=>[]
  | _=>[]
def kD(ps:List (Nat×Bool)):fG->cX->cX
 | [],L=>L
 | e :: G,L=>match za e.2.1 e.2.2 ps,bd L e.1 with
  | true,some (.may _ x)=>(e.1,.a x) :: kD ps G L
  | _,_=>kD ps G L
def w1(df:List (Option Nat)) (s:Nat) (w:Bool) (ps:List (Nat×Bool)):fG->List (Nat×Bool)
 | []=>ps
 | e :: G=>match zc df e.2.1 s,Hs e.2.2 w with
  | true,true=>(e.2.1,w) :: w1 df s w ps G
  | _,_=>w1 df s w ps G
def Ht(G:fG) (ps:List (Nat×Bool)) (L:cX) (s:Nat):Option (Bool×Bool):=match bd L s with
 | some (.a (.c (.val (.bool b))))=>some (true,b)
 | some (.may g (.c (.val (.bool b))))=>match zb s G with
  | some p=>match za p.1 p.2 ps with
   | true=>some (true,b)
   | false=>some (g,b)
  | none=>some (g,b)
 | _=>none
def sT(X:bs) (df:List (Option Nat)) (ps:List (Nat×Bool)) (G:fG) (st:aO):Op->Option (Bool×bl)
 | .pick (.tmp s) u v=>match Ht G ps st.L s with
  | some (gc,b)=>match bp X (kD (w1 df s true ps G) G st.L) u,bp X (kD (w1 df s false ps G) G st.L) v with
   | some (yn,x),some (aY,y)=>match ym b x y with
    | some r=>some (gc&&(eo b yn&&eo (!b) aY),r)
    | none=>none
   | _,_=>none
  | none=>none
 | op=>match tO X ⟨kD ps G st.L,st.H⟩ op with
  | some r=>some r
  | none=>w0 X ⟨kD ps G st.L,st.H⟩ op
section
variable {X:bs} {R:Nat->Prop} {W:World} {aJ:e0} {n:Nat} {ks:List Nat} {env:Nat->Loc} {B:Nat->Prop} {al:World} {H:List bf} {st:aO} {a:Act} {w:World} {df:List (Option Nat)} {G:fG} {ps:List (Nat×Bool)}
def ez(df:List (Option Nat)) (G:fG) (L:cX):Prop:=∀ e∈G,∃ s g x,nth df e.2.1=some (some s)/\jS L s e.2.2=some g/\bd L e.1=some (.may g x)
def nQ(df:List (Option Nat)) (L:cX) (p:Nat×Bool):Prop:=∃ s,nth df p.1=some (some s)/\jS L s p.2=some true
theorem Cv{j:Nat} {w:Bool}:∀ {ps:List (Nat×Bool)},za j w ps=true->(j,w)∈ps
 | [],h=>by cases h
 | p :: r,h=>by
  unfold za at h
  split at h
  ·rename_i J U
   rw[<- Nat.eq_of_beq_eq_true J,<- aaF U];exact List.mem_cons_self
  ·exact List.mem_cons_of_mem _ (Cv h)
theorem Hu{s:Nat} {p:Nat×Bool}:∀ {G:fG},zb s G=some p->(s,p)∈G
 | [],h=>by cases h
 | e :: G,h=>by
  unfold zb at h
  split at h
  ·rename_i J
   cases h;rw[<- Nat.eq_of_beq_eq_true J];exact List.mem_cons_self
  ·exact List.mem_cons_of_mem _ (Hu h)
theorem Hv{d:Nat} {e:Nat×Nat×Bool}:∀ {G:fG},e∈nk df d G->e∈G/\e.1≠d/\zc df e.2.1 d=false
 | [],h=>by cases h
 | q :: G,h=>by
  unfold nk at h
  split at h
  ·rename_i J U
   rcases List.mem_cons.1 h with rfl | h
   ·exact⟨List.mem_cons_self,Nat.ne_of_beq_eq_false J,U⟩
   ·obtain⟨ag,aq⟩:=Hv h
    exact⟨List.mem_cons_of_mem _ ag,aq⟩
  ·obtain⟨ag,aq⟩:=Hv h
   exact⟨List.mem_cons_of_mem _ ag,aq⟩
theorem Cw{L:cX} {d s:Nat} {sv:b3} {w:Bool} (h:s≠d):jS ((d,sv) :: L) s w=jS L s w:=by
 unfold jS;rw[cI,if_neg h]
theorem ez.drop{L:cX} (h:ez df G L) (d:Nat) (sv:b3):ez df (nk df d G) ((d,sv) :: L):=fun e he=>by
 obtain⟨J,U,ag⟩:=Hv he;obtain⟨s,g,x,aq,aE,bb⟩:=h e J;have an:s≠d:=fun cj=>by
  unfold zc at ag;rw[aq,cj]at ag
  simp at ag
 exact⟨s,g,x,aq,by rw[Cw an]; exact aE,by rw[cI,if_neg U]; exact bb⟩
theorem ez.nil{L:cX}:ez df [] L:=fun _ h=>by cases h
theorem aaG{L:cX} {s:Nat} {g w:Bool} {x:bl} (ag:bd L s=some (.may g x)) (aE:jS L s w=some true):g=true:=by
 unfold jS at aE
 split at aE
 ·rename_i e; rw[ag]at e; cases e
 ·rename_i e; rw[ag]at e; cases e
 ·rename_i e
  rw[ag]at e;cases e;simp only[Option.some.injEq,Bool.and_eq_true]at aE;exact aE.1
 ·rename_i e
  rw[ag]at e;cases e;simp only[Option.some.injEq,Bool.and_eq_true]at aE;exact aE.1
 ·cases aE
theorem Cx{L:cX} (bR:ez df G L):∀ {k j:Nat} {w:Bool},nQ df L (j,w)->∀ p∈sS df G k j w,nQ df L p
 | 0,j,w,h,p,ao=>by rw[List.mem_singleton.1 ao]; exact h
 | k+1,j,w,h,p,ao=>by
  unfold sS at ao
  rcases List.mem_cons.1 ao with rfl | ao
  ·exact h
  ·split at ao
   ·rename_i s an
    split at ao
    ·rename_i q ar
     obtain⟨s1,g,x,J,U,ag⟩:=bR _ (Hu ar);refine Cx bR ?_ p ao;obtain⟨s2,aq,aE⟩:=h;rw[an]at aq;cases aq;have aQ:g=true:=by
      exact aaG ag aE
     exact⟨s1,J,by rw[U,aQ]⟩
    ·cases ao
   ·cases ao
theorem aaH{L:cX} (bR:ez df G L) (ao:∀ p∈ps,nQ df L p) {Hw:Array Value} (h:∀ s sv,bd L s=some sv->∃ v,Hw[s]?=some v/\eH env B al sv v):∀ s sv,bd (kD ps G L) s=some sv->∃ v,Hw[s]?=some v/\eH env B al sv v:=by
 have key:∀ fi,(∀ e∈fi,e∈G)->∀ s sv,bd (kD ps fi L) s=some sv->∃ v,Hw[s]?=some v/\eH env B al sv v:=by
  intro fi
  induction fi with
  | nil=>exact fun _=>h
  | cons e fi br=>
   intro an s sv ah;have zd:=br fun e he=>an e (List.mem_cons_of_mem _ he)
   unfold kD at ah
   split at ah
   ·rename_i g x J U
    rw[cI]at ah
    split at ah
    ·rename_i ay
     cases ah;obtain⟨s1,g1,oh,ag,aq,aE⟩:=bR e (an e List.mem_cons_self);obtain⟨s2,bb,bX⟩:=ao _ (Cv J);dsimp only at bb;rw[ag]at bb;cases bb;rw[aq]at bX;cases bX;rw[U]at aE;cases aE;obtain⟨v,dj,il⟩:=h _ _ U;rw[<- ay]at dj;exact⟨v,dj,il.1 rfl⟩
    ·exact zd s sv ah
   ·exact zd s sv ah
 exact key G fun _ h=>h
theorem aaI{L:cX} (bR:ez df G L) (ao:∀ p∈ps,nQ df L p):∀ s sv,bd (kD ps G L) s=some sv->bd L s=some sv\/∃ x,sv=.a x/\bd L s=some (.may true x):=by
 have key:∀ fi,(∀ e∈fi,e∈G)->∀ s sv,bd (kD ps fi L) s=some sv->bd L s=some sv\/∃ x,sv=.a x/\bd L s=some (.may true x):=by
  intro fi
  induction fi with
  | nil=>exact fun _ s sv h=>.inl h
  | cons e fi br=>
   intro an s sv ah;have zd:=br fun e he=>an e (List.mem_cons_of_mem _ he)
   unfold kD at ah
   split at ah
   ·rename_i g x J U
    rw[cI]at ah
    split at ah
    ·rename_i ay
     cases ah;obtain⟨s1,g1,oh,ag,aq,aE⟩:=bR e (an e List.mem_cons_self);obtain⟨s2,bb,bX⟩:=ao _ (Cv J);dsimp only at bb;rw[ag]at bb;cases bb;rw[aq]at bX;cases bX;rw[U]at aE;cases aE;exact .inr ⟨x,rfl,by rw[ay]; exact U⟩
    ·exact zd s sv ah
   ·exact zd s sv ah
 exact key G fun _ h=>h
theorem bH.view(aj:bH X R W aJ n ks env B al H st a w) (bR:ez df G st.L) (ao:∀ p∈ps,nQ df st.L p):bH X R W aJ n ks env B al H ⟨kD ps G st.L,st.H⟩ a w:=
 ⟨aj.size,aj.defs,aaH bR ao aj.has,aj.heap,aj.aM,aj.sub,aj.new,aj.dL,aj.base,aj.et⟩
theorem Cy{L:cX} {s:Nat} {wt:Bool} (ao:∀ p∈ps,nQ df L p) (aC:jS L s wt=some true):∀ (G:fG),∀ p∈w1 df s wt ps G,nQ df L p
 | [],p,h=>ao p h
 | e :: G,p,h=>by
  unfold w1 at h
  split at h
  ·rename_i J _
   rcases List.mem_cons.1 h with rfl | h
   ·unfold zc at J
    split at J
    ·rename_i q ar
     rw[Nat.eq_of_beq_eq_true J]at ar;exact⟨s,ar,aC⟩
    ·cases J
   ·exact Cy ao aC G p h
  ·exact Cy ao aC G p h
theorem aaJ{s:Nat} {gc b:Bool} (aj:bH X R W aJ n ks env B al H st a w) (bR:ez df G st.L) (ao:∀ p∈ps,nQ df st.L p) (h:Ht G ps st.L s=some (gc,b)) (aa:gc=true):aD (gm a) (.tmp s)=some (.bool b)/\jS st.L s true=some b/\jS st.L s false=some (!b):=by
 unfold Ht at h
 split at h
 ·rename_i pa e
  cases h;obtain⟨v,J,U⟩:=aj.has _ _ e;rw[show v=_ from U]at J;exact⟨h6 J,by unfold jS; rw[e],by unfold jS; rw[e]⟩
 ·rename_i g pa e
  have key:g=true->pa=b->aD (gm a) (.tmp s)=some (.bool b)/\jS st.L s true=some b/\jS st.L s false=some (!b):=fun aQ ae=>by
   subst ae;subst aQ;obtain⟨v,J,U⟩:=aj.has _ _ e;rw[show v=_ from U.1 rfl]at J;exact⟨h6 J,by unfold jS; rw[e]; rfl,by unfold jS; rw[e]; rfl⟩
  split at h
  ·rename_i q ar
   split at h
   ·rename_i gg
    cases h;refine key ?_ rfl;obtain⟨s1,g1,oh,ag,aq,aE⟩:=bR _ (Hu ar);obtain⟨s2,bb,bX⟩:=ao _ (Cv gg);dsimp only at bb ag aq aE bX;rw[ag]at bb;cases bb;rw[aq]at bX;cases bX;rw[e]at aE;cases aE
    rfl
   ·cases h; exact key aa rfl
  ·cases h; exact key aa rfl
 ·cases h
theorem Ov{b:Bool} {x y r:bl} {vx vy:Value} (ao:ym b x y=some r) (ak:b=true->dH env B al x vx) (aL:b=false->dH env B al y vy):dH env B al r (if b then vx else vy):=by
 unfold ym at ao
 split at ao
 ·split at ao
  ·rename_i ab
   have hS:=of_decide_eq_true ab;subst hS;cases ao;cases b
   ·exact aL rfl
   ·exact ak rfl
  ·cases ao
 ·cases ao
  cases b
  ·exact aL rfl
  ·exact ak rfl
 ·cases ao
  cases b
  ·exact aL rfl
  ·exact ak rfl
 ·cases ao
theorem Ow(av:X.tt.ok X.P) (aj:bH X R W aJ n ks env B al H st a w) (bR:ez df G st.L) (ao:∀ p∈ps,nQ df st.L p) {o:Oper} {c:Bool} {bx:bl} (h:sT X df ps G st o.op=some (c,bx)) (aa:c=true):∃ v,dH env B al bx v/\∀ w',(p7 o.op=true->bE (fun k=>R k\/B k) al (H++ks.map dk) w')->(execOp a.eval o).run X.P w'=.ok (.value v) w':=by
 unfold sT at h
 split at h
 ·rename_i s u v aA
  split at h
  ·rename_i gc b ay
   split at h
   ·rename_i yn x aY y aS cz
    split at h
    ·rename_i r hh
     cases h;simp only[Bool.and_eq_true]at aa;obtain⟨FV,hs,kM⟩:=aa;obtain⟨J,U,ag⟩:=aaJ aj bR ao ay FV;cases b with
     | true=>
      have ck:=aj.view bR (Cy ao U G);obtain⟨vx,aq,aE⟩:=ck.aD aS (y9 hs rfl);exact⟨vx,Ov (vx:=vx) (vy:=vx) hh (fun _=>aE) (fun h=>by cases h),fun w' _=>L2 aj.bZ aA J rfl aq w'⟩
     | false=>
      have ck:=aj.view bR (Cy ao ag G);obtain⟨vy,aq,aE⟩:=ck.aD cz (y9 kM rfl);exact⟨vy,Ov (vx:=vy) (vy:=vy) hh (fun h=>by cases h) (fun _=>aE),fun w' _=>L3 aj.bZ aA J rfl aq w'⟩
    ·cases h
   ·cases h
  ·cases h
 ·have ck:=aj.view bR ao
  split at h
  ·rename_i e
   cases h;obtain⟨v,J,U⟩:=BB (st:=⟨kD ps G st.L,st.H⟩) av e aa ck;exact⟨v,J,U⟩
  ·obtain⟨v,J,U⟩:=Cu (st:=⟨kD ps G st.L,st.H⟩) av h aa ck
   exact⟨v,J,U⟩
theorem Ox(av:X.tt.ok X.P) (aj:bH X R W aJ n ks env B al H st a w) (bR:ez df G st.L) (ao:∀ p∈ps,nQ df st.L p) {o:Oper} {c:Bool} {bx:bl} (h:sT X df ps G st o.op=some (c,bx)) (aa:c=true):∃ v,dH env B al bx v/\(execOp a.eval o).run X.P w=.ok (.value v) w:=by
 obtain⟨v,J,U⟩:=Ow av aj bR ao h aa;exact⟨v,J,U w fun _=>aj.aM⟩
theorem Hx{l:List Oper} {o:Oper} (aj:bH X R W aJ n ks env B al H st a w) {j s:Nat} {want g:Bool} (dS:o.guard=some (j,want)) (aH:nth (e1 l) j=some (some s)) (aQ:jS st.L s want=some g):Region.wanted o (yielded l.toArray a.tmps)=g:=by
 obtain⟨eu,hT,sw⟩:=F2 aH;have kN:(l.toArray[j]?).bind (·.dst)=some s:=by simp[hT,<- sw]
 unfold jS at aQ
 split at aQ
 ·rename_i b b5
  cases aQ;obtain⟨v,J,U⟩:=aj.has _ _ b5;rw[show v=_ from U]at J;rw[sf aj.sym dS kN (h6 J)];cases g<;>rfl
 ·rename_i b b5
  cases aQ;obtain⟨v,J,U⟩:=aj.has _ _ b5;rw[show v=_ from U]at J;rw[sf aj.sym dS kN (h6 J)];cases b<;>rfl
 ·rename_i g0 b b5
  cases aQ;obtain⟨v,J,U,ag⟩:=aj.has _ _ b5;cases g0 with
  | true=>
   rw[show v=_ from U rfl]at J;rw[sf aj.sym dS kN (h6 J)];cases b<;>rfl
  | false=>
   rw[ag rfl]at J;rw[Bn aj.sym dS kN (h6 J)]
   rfl
 ·rename_i g0 b b5
  cases aQ;obtain⟨v,J,U,ag⟩:=aj.has _ _ b5;cases g0 with
  | true=>
   rw[show v=_ from U rfl]at J;rw[sf aj.sym dS kN (h6 J)];cases b<;>rfl
  | false=>
   rw[ag rfl]at J;rw[Bn aj.sym dS kN (h6 J)]
   rfl
 ·cases aQ
end
def Oy:Option Nat->List Nat
 | some d=>[d]
 | none=>[]
def ze(X:bs) (L:cX):Op->List Nat
 | .store _ u _=>match bp X L u with
  | some (_,.c (.ptr id _))=>[id]
  | some (_,.c (.eG id _ _ _))=>[id]
  | _=>[]
 | .call ⟨.builtin .append,⟨[u,_]⟩,_⟩=>match bp X L u with
  | some (_,.c (.ai id))=>[id]
  | _=>[]
 | _=>[]
theorem Cz{n:Nat} {st st':aO} {d:Nat} {t:TypeId} {g:aU} {l:List g.D} {cap:Option Nat} (h:newRow n st d t g l cap=some st'):cZ [d] st st':=by
 unfold newRow at h
 split at h
 ·cases h
  exact⟨cp.cons (kC _ _ _),cp.cons (jR _ _ _)⟩
 ·cases h
theorem Oz{X:bs} {n:Nat} {st st':aO} {t:TypeId} {d:Nat} {cs:List bm} {c:Bool} (h:sr X n st t d cs=some (c,st')):cZ [d] st st':=by
 unfold sr at h
 split at h
 ·cases h
  exact⟨cp.cons (kC _ _ _),cp.cons (jR _ _ _)⟩
 ·cases h
theorem aaK{X:bs} {n:Nat} {st st':aO} {t:TypeId} {N d:Nat} {ps:List (Nat×Operand)} {c:Bool} (h:yr X n st t N ps d=some (c,st')):cZ [d] st st':=by
 unfold yr at h
 split at h
 ·split at h
  ·split at h
   ·split at h
    ·split at h
     ·rename_i e; cases h; exact Cz e
     ·cases h
    ·cases h
   ·cases h
  ·cases h
 ·cases h
theorem aaL{X:bs} {n:Nat} {st st':aO} {t:TypeId} {d:Nat} {x y:bl} {c:Bool} (h:yw X n st t x y d=some (c,st')):cZ [d] st st':=by
 unfold yw at h
 split at h
 ·split at h
  ·split at h
   ·split at h
    ·rename_i e; cases h; exact Cz e
    ·cases h
   ·cases h
  ·cases h
 ·cases h
theorem aaM{X:bs} {st st':aO} {t:TypeId} {x y:bl} {c:Bool} (h:yp X st t x y=some (c,st')):(∃ id o,x=.c (.ptr id o)/\cZ [id] st st')\/∃ id cJ i o,x=.c (.eG id cJ i o)/\cZ [id] st st':=by
 unfold yp at h
 split at h
 ·split at h
  ·split at h
   ·split at h
    ·cases h
     exact .inl ⟨_,_,rfl,cp.refl _,j7 (j8 _ _)⟩
    ·cases h
   ·cases h
  ·split at h
   ·split at h
    ·split at h
     ·split at h
      ·cases h
       exact .inr ⟨_,_,_,_,rfl,cp.refl _,j7 (j8 _ _)⟩
      ·cases h
     ·cases h
    ·cases h
   ·cases h
  ·cases h
 ·cases h
theorem aaN{X:bs} {n:Nat} {st st':aO} {t:TypeId} {x y:bl} {d:Nat} {c:Bool} (h:yx X n st t x y d=some (c,st')):cZ [d] st st'\/∃ id,x=.c (.ai id)/\cZ [d,id] st st':=by
 unfold yx at h
 split at h
 ·split at h
  ·split at h
   ·split at h
    ·split at h
     ·cases h
      refine .inr ⟨_,rfl,cp.cons (kC _ _ _),(cp.cons (V:=[]) (jR _ _ _)).more fun q ar=>?_⟩;exact(fY ar).2
     ·cases h
    ·cases h
   ·split at h
    ·split at h
     ·rename_i e; cases h; exact .inl (Cz e)
     ·cases h
    ·cases h
   ·split at h
    ·split at h
     ·rename_i e; cases h; exact .inl (Cz e)
     ·cases h
    ·cases h
   ·cases h
  ·cases h
 ·cases h
theorem aaO{X:bs} {n:Nat} {st st':aO} {op:Op} {d:Option Nat} {c:Bool} (h:yy X n st d op=some (c,st')):cZ (Oy d++ze X st.L op) st st':=by
 unfold yy at h
 split at h
 ·split at h
  ·exact Oz h
  ·cases h
 ·split at h
  ·split at h
   ·rename_i e; cases h; exact Oz e
   ·cases h
  ·cases h
 ·split at h
  ·rename_i ay aS
   split at h
   ·rename_i e
    cases h
    rcases aaM e with⟨id,o,rfl,ab⟩ | ⟨id,cJ,i,o,rfl,ab⟩
    ·simp only[ze,ay]; exact ab
    ·simp only[ze,ay]; exact ab
   ·cases h
  ·cases h
 ·split at h
  ·exact aaK h
  ·cases h
 ·split at h
  ·split at h
   ·rename_i e; cases h; exact aaL e
   ·cases h
  ·cases h
 ·split at h
  ·rename_i hu aC
   split at h
   ·rename_i e
    cases h
    rcases aaN e with ab | ⟨id,rfl,ab⟩
    ·exact ab.more fun q ar=>(pE.1 ar).1
    ·simp only[ze,hu]; exact ab
   ·cases h
  ·cases h
 ·cases h
def uF(X:bs) (L:cX) (o:Oper):List Nat:=Oy o.dst++ze X L o.op
theorem w2{X:bs} {n:Nat} {df:List (Option Nat)} {st st':aO} {o:Oper} {c:Bool} (aQ:o.guard=none) (h:oo X n df st o=.ok c st'):cZ (uF X st.L o) st st':=by
 obtain⟨L,H⟩:=st;simp only[oo,aQ]at h;have one:∀ {d:Nat} {sv:b3},o.dst=some d->cZ (uF X L o) ⟨L,H⟩ ⟨(d,sv) :: L,H⟩:=fun {d sv} ax=>by
  refine cZ.more (V:=[d]) ⟨cp.cons (cp.refl _),cp.refl _⟩ fun q ar=>?_
  have:=(pE.1 ar).1
  rw[ax]at this;exact this
 split at h
 ·split at h
  ·rename_i d ax
   split at h
   ·cases h; exact one ax
   ·cases h
  ·cases h
 ·split at h
  ·split at h
   ·rename_i d ax
    split at h
    ·cases h; exact one ax
    ·cases h
   ·cases h
  ·split at h
   ·rename_i e
    cases h;exact aaO e
   ·cases h
theorem Hy{id:Nat}:∀ H:bz,lC [id] H (mz id H)
 | []=>cp.refl []
 | (k,b) :: r=>fun q v ar ah=>by
  have cr:=(fY ar).1;unfold mz at ah
  split at ah
  ·rename_i e
   have ab:=Nat.eq_of_beq_eq_true e;exact⟨v,by rw[cI,if_neg (by rw[ab]; exact cr)]; exact ah,fun _=>rfl⟩
  ·rw[cI]at ah ⊢
   split at ah
   ·rename_i e; rw[if_pos e]; exact⟨_,rfl,fun _=>by cases ah; rfl⟩
   ·rename_i e; rw[if_neg e]; exact Hy r q v ar ah
theorem Hz{js ks:List Nat} {V:List Nat}:∀ H:bz,lC V H (iY js ks H)
 | []=>cp.refl []
 | (k,b) :: r=>fun q v ar ah=>by
  unfold iY at ah
  split at ah
  ·rename_i e
   obtain⟨u,J,U⟩:=Hz r q v ar ah
   by_cases cr:q=k
   ·subst cr
    exact(HA e ah).elim
   ·exact⟨u,by rw[cI,if_neg cr]; exact J,U⟩
  ·rw[cI]at ah ⊢
   split at ah
   ·rename_i e; cases ah; rw[if_pos e]; exact⟨b,rfl,fun az=>aae az⟩
   ·rename_i e; rw[if_neg e]; exact Hz r q v ar ah
where HA {js ks:List Nat} {k:Nat} (ab:js.elem k=true) {v:cv}:∀ {H:bz},bd (iY js ks H) k=some v->False
 | [],h=>by cases h
 | (j,b) :: r,h=>by
  unfold iY at h
  split at h
  ·exact HA ab h
  ·rename_i e
   rw[cI,if_neg (fun cj=>by subst cj; exact absurd ab (by simp_all))]at h;exact HA ab h
theorem OA{ps:ec} {i j:Nat} (h:bd ps i=some j) {q:Nat} (ar:e2 q (kx ps)=false):q≠j:=by
 induction ps with
 | nil=>cases h
 | cons p r br=>
  obtain⟨a,b⟩:=p;rw[cI]at h;have jf:e2 q (b :: kx r)=false:=ar
  split at h
  ·cases h; exact(fY jf).1
  ·exact br h (fY jf).2
theorem OB{ps jd:ec}:∀ {is:List Nat} {H h H1:bz},oA ps jd is H=some (h,H1)->lC (kx ps) H H1
 | [],H,h,H1,ao=>by cases ao; exact cp.refl _
 | i :: is,H,h,H1,ao=>by
  unfold oA at ao
  split at ao
  ·rename_i j aH
   split at ao
   ·split at ao
    ·rename_i b aN uq ae aw
     cases ao;have J:=OB aw;refine((Hy H).trans J).more fun q ar=>pE.2 ⟨ar,qq.2 ⟨OA aH ar,rfl⟩⟩
    ·cases ao
   ·cases ao
  ·cases ao
theorem OC{ps:ec}:∀ {h aK:bz},tV ps h=some aK->∀ q,e2 q (kx ps)=false->e2 q (aK.map (·.1))=false
 | [],aK,e,q,ar=>by cases e; rfl
 | (i,b) :: r,aK,e,q,ar=>by
  unfold tV at e
  split at e
  ·rename_i j jE a7 aH ae aw
   cases e;exact qq.2 ⟨OA aH ar,OC aw q ar⟩
  ·cases e
theorem aaP{X:bs} {n:Nat} {e:bC X} {ps:ec} {st st':aO} {d:Nat} {args:List bl} {p:wR X e} {r:e.aR} (ao:sM X n e ps st.H args=some p) (h:after X e ps st d p r=some st'):cZ (d :: kx ps) st st':=by
 unfold after at h
 split at h
 ·rename_i nc nJ ay aS
  have ab:=OC aS
  split at h
  ·cases h
   refine⟨(cp.cons (V:=[]) (cp.refl _)).more fun q ar=>qq.2 ⟨(fY ar).1,rfl⟩,(cp.append (V:=[]) (cp.refl _) rfl).more fun q ar=>pE.2 ⟨ab q (fY ar).2,rfl⟩⟩
  ·cases h
   have J:lC (kx ps) st.H p.H1:=by
    unfold sM at ao
    split at ao
    ·rename_i l5
     split at ao
     ·split at ao
      ·cases ao; exact OB l5
      ·cases ao
     ·cases ao
    ·cases ao
   refine⟨(cp.cons (V:=[]) (aag _ _)).more fun q ar=>qq.2 ⟨(fY ar).1,rfl⟩,?_⟩;refine(cp.append (J.trans (Hz (V:=[]) _)) rfl).more fun q ar=>?_
   have U:=(fY ar).2;exact pE.2 ⟨ab q U,pE.2 ⟨rfl,U⟩⟩
 ·cases h
end
section
def zf(X:bs) (n:Nat) (st:aO) (d:Nat):Op->Option (Bool×aO)
 | .index t u x=>match X.tt.find t with
  | some ⟨⟨.string,_,_,_⟩,_⟩=>match bp X st.L u,bp X st.L x with
   | some (g,.c (.str s)),some (g2,.c (.val (.int _ z)))=>some (g&&(g2&&bc z s.length),⟨(d,.c (.val (.int .u8 ((s.getD z.toNat 0).toNat:Int)))) :: st.L,st.H⟩)
   | _,_=>none
  | some ⟨⟨.array m e,_,_,_⟩,_⟩=>match Hr X e,bp X st.L u,bp X st.L x with
   | some (dC,g),some (g1,Cp),some (g2,.c (.val (.int _ z)))=>match Cc g m Cp,Nat.beq g.size dC.bq.size,decEq (lR dC.bq.desc) g.rp,g.rp || Nat.beq g.size 1 with
    | some (c,l),true,isTrue _,true=>match ql g (l.getD z.toNat g.zero)with
     | some bx=>some (g1&&(g2&&(c&&(bc z m&&bc z l.length))),⟨(d,.a bx) :: st.L,st.H⟩)
     | none=>none
    | _,_,_,_=>none
   | _,_,_=>none
  | _=>none
 | .slice t u lo hi none=>match X.tt.find t,bp X st.L u with
  | some ⟨⟨.string,_,_,_⟩,_⟩,some (g,.c (.str s))=>match lo,hi with
   | some x,none=>match bp X st.L x with
    | some (g2,.c (.val (.int _ z)))=>some (g&&(g2&&(decide (0<=z)&&decide (z<=(s.length:Int)))),⟨(d,.c (.str (s.drop z.toNat))) :: st.L,st.H⟩)
    | _=>none
   | none,some x=>match bp X st.L x with
    | some (g2,.c (.val (.int _ z)))=>some (g&&(g2&&(decide (0<=z)&&decide (z<=(s.length:Int)))),⟨(d,.c (.str (s.take z.toNat))) :: st.L,st.H⟩)
    | _=>none
   | some x,some y=>match bp X st.L x,bp X st.L y with
    | some (g2,.c (.val (.int _ z))),some (g3,.c (.val (.int _ z2)))=>some (g&&(g2&&(g3&&(decide (0<=z)&&(decide (z<=z2)&&decide (z2<=(s.length:Int)))))),⟨(d,.c (.str ((s.take z2.toNat).drop z.toNat))) :: st.L,st.H⟩)
    | _,_=>none
   | none,none=>none
  | _,_=>none
 | .slice t u none (some y) (some v)=>match X.tt.find t,bp X st.L u,bp X st.L y,bp X st.L v with
  | some ⟨⟨.slice e,_,_,_⟩,_⟩,some (g1,.c (.ai id)),some (g2,.c (.val (.int _ z))),some (g3,.c (.iU aaQ))=>match X.tt.find e,bd st.H id,Nat.beq aaQ id,Nat.blt d n&&Nat.blt id h5 with
   | some _,some (.row T g l cap),true,true=>some (g1&&(g2&&(g3&&(decide (0<=z)&&decide (z<=(l.length:Int))))),⟨(d,.c (.ai id)) :: fK id .dead st.L,(id,.row T g (l.take z.toNat) cap) :: ef id .dead st.H⟩)
   | _,_,_,_=>none
  | _,_,_,_=>none
 | .call ⟨.builtin .append,⟨[x,y]⟩,⟨[t,t2]⟩⟩=>match Nat.beq t2 t,X.tt.find t,bp X st.L x,bp X st.L y with
  | true,some ⟨⟨.slice e,_,_,_⟩,_⟩,some (g1,.c (.ai id)),some (g2,eb)=>match X.tt.find e,bd st.H id with
   | some ⟨⟨_,cJ,gU,_⟩,some _⟩,some (.gl cj g l)=>match Nat.beq cj e,Nat.beq g.size cJ,mx st g eb,Nat.blt id h5 with
    | true,true,some l2,true=>some (g1&&(g2&&eg gU (l.length+l2.length)),⟨(d,.c (.ai id)) :: fK id .dead st.L,(id,.gl e g (l++l2)) :: ef id .dead st.H⟩)
    | _,_,_,_=>none
   | _,_=>none
  | true,some ⟨⟨.slice e,_,_,_⟩,_⟩,some (g1,.c (.bk g l (some c))),some (g2,eb)=>match X.tt.find e with
   | some ⟨⟨_,cJ,gU,_⟩,some _⟩=>match Nat.beq g.size cJ,mx st g eb with
    | true,some l2=>some (g1&&(g2&&(eg gU (l.length+l2.length)&&decide (c=l.length))),⟨(d,.c (.ai d)) :: fK d .dead st.L,(d,.gl e g (l++l2)) :: ef d .dead st.H⟩)
    | _,_=>none
   | _=>none
  | _,_,_,_=>none
 | .call ⟨.builtin .copy,⟨[x,y]⟩,⟨[t,t2]⟩⟩=>match Nat.beq t2 t,X.tt.find t,bp X st.L x,bp X st.L y with
  | true,some ⟨⟨.slice e,_,_,_⟩,_⟩,some (g1,.c (.ai id)),some (g2,eb)=>match X.tt.find e,bd st.H id with
   | some ⟨⟨_,cJ,gU,_⟩,some _⟩,some (.row cj g l cap)=>match Nat.beq cj e,Nat.beq g.size cJ,mx st g eb with
    | true,true,some l2=>some (g1&&(g2&&Nat.beq l2.length l.length),⟨(d,.c (.val (.int .i64 (l.length:Int)))) :: st.L,eM id (.row e g l2 cap) st.H⟩)
    | _,_,_=>none
   | _,_=>none
  | true,some ⟨⟨.slice e,_,_,_⟩,_⟩,some (g1,.c (.iI id s p)),some (g2,eb)=>match X.tt.find e,bd st.H id with
   | some ⟨⟨_,cJ,gU,_⟩,some _⟩,some (.row cj g l cap)=>match Nat.beq cj e,Nat.beq g.size cJ,Nat.beq s cJ,mx st g eb,Nat.blt 0 cJ with
    | true,true,true,some l2,true=>some (g1&&(g2&&decide (p+l2.length<=l.length)),⟨(d,.c (.val (.int .i64 (l2.length:Int)))) :: st.L,eM id (.row e g (l.take p++l2++l.drop (p+l2.length)) cap) st.H⟩)
    | _,_,_,_,_=>none
   | _,_=>none
  | _,_,_,_=>none
 | _=>none
def zg(X:bs) (st:aO):Op->Option (Bool×aO)
 | .store t x y=>match X.tt.find t,bp X st.L x,bp X st.L y with
  | some bw,some (g1,.c (.eG id 1 i 0)),some (g2,.c (.ai d))=>match bd st.H id,bd st.H d,Nat.beq bw.bq.size 1 with
   | some (.row T (.ai g) l cap),some (.row _ _ _ _),true=>some (g1&&(g2&&decide (i < l.length)),⟨st.L,eM id (.cM false T g l cap i d) st.H⟩)
   | some (.row T (.gS g) l cap),some (.row _ _ l2 (some q)),true=>some (g1&&(g2&&(decide (i < l.length)&&Nat.beq q l2.length)),⟨st.L,eM id (.cM true T g l cap i d) st.H⟩)
   | some (.b2 T T' g l cap h),_,true=>some (g1&&(g2&&(uB h i&&decide (i < l.length))),⟨st.L,eM id (.b2 T T' g l cap (some (i,some d))) st.H⟩)
   | _,_,_=>none
  | _,_,_=>none
 | _=>none
section
variable {X:bs} {n:Nat} {st st':aO} {o:Oper} {d:Nat}
theorem aaR{e:TypeId} {bw:bh} {g:aU} (h:Hr X e=some (bw,g)):X.tt.find e=some bw/\bw.g=some g:=by
 unfold Hr at h
 split at h
 ·rename_i J
  split at h
  ·rename_i U; cases h; exact⟨J,U⟩
  ·cases h
 ·cases h
theorem aaS(av:X.tt.ok X.P) {c:Bool} (h:zg X st o.op=some (c,st')) (aa:c=true) (bg:o.guard=none/\o.dst=none):gp X n o st st':=by
 unfold zg at h
 split at h
 ·rename_i aA
  split at h
  ·rename_i a8 ak aL
   split at h
   ·rename_i J U ag
    cases h;simp only[Bool.and_eq_true]at aa;exact ZV av aA bg a8 ag ak aa.1 aL aa.2.1 J U aa.2.2
   ·rename_i J U ag
    cases h;simp only[Bool.and_eq_true]at aa;exact ZX av aA bg a8 ag ak aa.1 aL aa.2.1 J U aa.2.2.1 aa.2.2.2
   ·rename_i J ag
    cases h;simp only[Bool.and_eq_true]at aa;exact Oh av aA bg a8 ag ak aa.1 aL aa.2.1 J aa.2.2.1 aa.2.2.2
   ·cases h
  ·cases h
 ·cases h
theorem aaT{c:Bool} {op:Op} (h:zg X st op=some (c,st')):∃ id,cZ [id] st st'/\(∃ t x y g1 i,op=.store t x y/\bp X st.L x=some (g1,.c (.eG id 1 i 0))):=by
 unfold zg at h
 split at h
 ·split at h
  ·rename_i a8 ak aL
   split at h
   ·cases h
    exact⟨_,⟨cp.refl _,j7 (j8 _ _)⟩,_,_,_,_,_,rfl,ak⟩
   ·cases h
    exact⟨_,⟨cp.refl _,j7 (j8 _ _)⟩,_,_,_,_,_,rfl,ak⟩
   ·cases h
    exact⟨_,⟨cp.refl _,j7 (j8 _ _)⟩,_,_,_,_,_,rfl,ak⟩
   ·cases h
  ·cases h
 ·cases h
theorem aaU(av:X.tt.ok X.P) {c:Bool} (h:zf X n st d o.op=some (c,st')) (aa:c=true) (bg:o.guard=none/\o.dst=some d) (ax:Nat.blt d n=true):gp X n o st st':=by
 unfold zf at h
 split at h
 ·rename_i aA
  split at h
  ·rename_i a8
   split at h
   ·rename_i hu ak
    cases h;simp only[Bool.and_eq_true]at aa;exact ZT av aA bg ax a8 rfl hu aa.1 ak aa.2.1 aa.2.2
   ·cases h
  ·rename_i a8
   split at h
   ·rename_i he hu ak
    obtain⟨lY,lp⟩:=aaR he
    split at h
    ·rename_i ag J U _ aq
     split at h
     ·rename_i aE
      cases h;simp only[Bool.and_eq_true]at aa;exact Z0 _ _ _ av aA bg ax a8 rfl lY U ag aq hu aa.1 ak aa.2.1 J aa.2.2.1 aa.2.2.2.1 aa.2.2.2.2 aE
     ·cases h
    ·cases h
   ·cases h
  ·cases h
 ·rename_i aA
  split at h
  ·rename_i a8 hu
   split at h
   ·split at h
    ·rename_i ak
     cases h;simp only[Bool.and_eq_true]at aa;exact Z1 av aA bg ax a8 rfl hu aa.1 ak aa.2.1 aa.2.2.1 aa.2.2.2
    ·cases h
   ·split at h
    ·rename_i ak
     cases h;simp only[Bool.and_eq_true]at aa;exact Z2 av aA bg ax a8 rfl hu aa.1 ak aa.2.1 aa.2.2.1 aa.2.2.2
    ·cases h
   ·split at h
    ·rename_i ak aL
     cases h;simp only[Bool.and_eq_true]at aa;exact Z3 av aA bg ax a8 rfl hu aa.1 ak aa.2.1 aL aa.2.2.1 aa.2.2.2.1 aa.2.2.2.2.1 aa.2.2.2.2.2
    ·cases h
   ·cases h
  ·cases h
 ·rename_i aA
  split at h
  ·rename_i a8 hu aL aC
   split at h
   ·rename_i he ah hid aV
    cases h
    have:=Nat.eq_of_beq_eq_true hid
    subst this;rw[Bool.and_eq_true,Bool.and_eq_true,Bool.and_eq_true]at aa;exact Z9 av aA bg aV a8 rfl he hu aa.1 aL aa.2.1 aC aa.2.2.1 ah aa.2.2.2
   ·cases h
  ·cases h
 ·rename_i aA
  split at h
  ·rename_i aN a8 ak aL
   have:=Nat.eq_of_beq_eq_true aN
   subst this
   split at h
   ·rename_i he ah
    split at h
    ·rename_i J U ag aq
     have:=Nat.eq_of_beq_eq_true J
     subst this;cases h;simp only[Bool.and_eq_true]at aa;exact Zx av aA bg (by rw[ax,aq]; rfl) a8 rfl he ak aa.1 aL aa.2.1 ah U ag aa.2.2
    ·cases h
   ·cases h
  ·rename_i aN a8 ak aL
   have:=Nat.eq_of_beq_eq_true aN
   subst this
   split at h
   ·rename_i he
    split at h
    ·rename_i U ag
     cases h;simp only[Bool.and_eq_true]at aa;exact Z5 av aA bg ax a8 rfl he ak aa.1 aL aa.2.1 U ag aa.2.2.1 aa.2.2.2
    ·cases h
   ·cases h
  ·cases h
 ·rename_i aA
  split at h
  ·rename_i aN a8 ak aL
   have:=Nat.eq_of_beq_eq_true aN
   subst this
   split at h
   ·rename_i he ah
    split at h
    ·rename_i J U ag
     have:=Nat.eq_of_beq_eq_true J
     subst this;cases h;simp only[Bool.and_eq_true]at aa;exact ZF av aA bg ax a8 rfl he ak aa.1 aL aa.2.1 ah U ag aa.2.2
    ·cases h
   ·cases h
  ·rename_i aN a8 ak aL
   have:=Nat.eq_of_beq_eq_true aN
   subst this
   split at h
   ·rename_i he ah
    split at h
    ·rename_i J U aq ag aE
     have:=Nat.eq_of_beq_eq_true J
     subst this;cases h;simp only[Bool.and_eq_true]at aa;exact Z7 av aA bg ax a8 rfl he ak aa.1 aL aa.2.1 ah U aq ag aE aa.2.2
    ·cases h
   ·cases h
  ·cases h
 ·cases h
def uG(X:bs) (st:aO) (d:Nat):Op->List Nat
 | .call ⟨.builtin _,⟨[x,_]⟩,_⟩=>match bp X st.L x with
  | some (_,.c (.ai id))=>[d,id]
  | some (_,.c (.iI id _ _))=>[d,id]
  | _=>[d]
 | .slice _ u none (some _) (some _)=>match bp X st.L u with
  | some (_,.c (.ai id))=>[d,id]
  | _=>[d]
 | _=>[d]
def OD(X:bs) (st:aO):Op->List Nat
 | .store _ x _=>match bp X st.L x with
  | some (_,.c (.eG id _ _ _))=>[id]
  | _=>[]
 | _=>[]
theorem oC{sv:b3}:cZ [d] st ⟨(d,sv) :: st.L,st.H⟩:=⟨cp.cons (V:=[]) (cp.refl _),(cp.refl _)⟩
theorem aaV{c:Bool} {op:Op} (h:zf X n st d op=some (c,st')):cZ (uG X st d op) st st':=by
 unfold zf at h
 split at h
 ·split at h
  ·split at h
   ·cases h; exact oC
   ·cases h
  ·split at h
   ·split at h
    ·split at h
     ·cases h; exact oC
     ·cases h
    ·cases h
   ·cases h
  ·cases h
 ·split at h
  ·split at h
   ·split at h
    ·cases h; exact oC
    ·cases h
   ·split at h
    ·cases h; exact oC
    ·cases h
   ·split at h
    ·cases h; exact oC
    ·cases h
   ·cases h
  ·cases h
 ·split at h
  ·rename_i a8 hu aL aC
   split at h
   ·cases h
    unfold uG;simp only[hu];exact⟨cp.cons (kC _ _ _),(cp.cons (V:=[]) (jR _ _ _)).more fun q ar=>(fY ar).2⟩
   ·cases h
  ·cases h
 ·split at h
  ·rename_i aN a8 ak aL
   split at h
   ·split at h
    ·cases h
     unfold uG;simp only[ak];exact⟨cp.cons (kC _ _ _),(cp.cons (V:=[]) (jR _ _ _)).more fun q ar=>(fY ar).2⟩
    ·cases h
   ·cases h
  ·rename_i aN a8 ak aL
   split at h
   ·split at h
    ·cases h
     unfold uG;simp only[ak];exact⟨cp.cons (kC _ _ _),cp.cons (V:=[]) (jR _ _ _)⟩
    ·cases h
   ·cases h
  ·cases h
 ·split at h
  ·rename_i aN a8 ak aL
   split at h
   ·split at h
    ·cases h
     unfold uG;simp only[ak];exact⟨(cp.cons (V:=[]) (cp.refl _)).more fun q ar=>by
      obtain⟨J,_⟩:=fY ar;unfold e2
      split
      ·rename_i e; exact absurd (Nat.eq_of_beq_eq_true e).symm J
      ·rfl,j7 (by unfold e2; split<;>first | rfl | (exact j8 _ _))⟩
    ·cases h
   ·cases h
  ·rename_i aN a8 ak aL
   split at h
   ·split at h
    ·cases h
     unfold uG;simp only[ak];exact⟨(cp.cons (V:=[]) (cp.refl _)).more fun q ar=>by
      obtain⟨J,_⟩:=fY ar;unfold e2
      split
      ·rename_i e; exact absurd (Nat.eq_of_beq_eq_true e).symm J
      ·rfl,j7 (by unfold e2; split<;>first | rfl | (exact j8 _ _))⟩
    ·cases h
   ·cases h
  ·cases h
 ·cases h
def uH(X:bs) (n:Nat) (st:aO) (o:Oper):Option (Bool×aO×List Nat):=match o.guard with
 | none=>match o.dst with
  | some d=>match Nat.blt d n with
   | true=>match w0 X st o.op with
    | some (c,bx)=>some (c,⟨(d,.a bx) :: st.L,st.H⟩,[d])
    | none=>match zf X n st d o.op with
     | some (c,st')=>some (c,st',uG X st d o.op)
     | none=>none
   | false=>none
  | none=>match zg X st o.op with
   | some (c,st')=>some (c,st',OD X st o.op)
   | none=>none
 | some _=>none
theorem ix.qs{bx:bl} (ao:ix X st o bx) (bg:o.guard=none/\o.dst=some d) (ax:Nat.blt d n=true):gp X n o st ⟨(d,.a bx) :: st.L,st.H⟩:=by
 intro R W aJ ks env B al H a w aj KK l bQ;obtain⟨v,J,U⟩:=ao aj;exact hP aj.bZ bg.1 bg.2 (dY ax) (U w fun _=>aj.aM) fun aP aI=>bQ aP w env H (aj.set (sv:=.a bx) J aI)
theorem HB(av:X.tt.ok X.P) {c:Bool} {V:List Nat} (h:uH X n st o=some (c,st',V)) (aa:c=true):gp X n o st st':=by
 unfold uH at h
 split at h
 ·rename_i aQ
  split at h
  ·rename_i d ax
   split at h
   ·rename_i ae
    split at h
    ·rename_i e
     cases h;exact ix.qs (fun aj=>Cu av e aa aj) ⟨aQ,ax⟩ ae
    ·split at h
     ·rename_i e
      cases h;exact aaU av e aa ⟨aQ,ax⟩ ae
     ·cases h
   ·cases h
  ·rename_i ax
   split at h
   ·rename_i e
    cases h;exact aaS av e aa ⟨aQ,ax⟩
   ·cases h
 ·cases h
theorem HC{c:Bool} {V:List Nat} (h:uH X n st o=some (c,st',V)):cZ V st st':=by
 unfold uH at h
 split at h
 ·split at h
  ·split at h
   ·split at h
    ·cases h; exact oC
    ·split at h
     ·rename_i e
      cases h;exact aaV e
     ·cases h
   ·cases h
  ·split at h
   ·rename_i e
    cases h;obtain⟨id,J,t,x,y,g1,i,aA,U⟩:=aaT e;unfold OD;rw[aA];simp only[U];exact J
   ·cases h
 ·cases h
end
end
section
set_option linter.unusedSectionVars false
theorem aaW{P:Program} {tt:b9} (av:tt.ok P) (e:Bool) (m:Nat):∀ (k:Nat) (t:TypeId) (g:aU) (x:g.D) (w:World),g.key=true->kS P tt k t g=true->(Instr.checkKey e (m+k) t (pv tt t (g.cE x))).run P w=.ok () w:=by
 intro k
 induction k with
 | zero=>intro t g x w _ h; cases h
 | succ k br=>
  intro t g x w ab h;unfold kS at h;cases az:tt.find t with
  | none=>simp[az]at h
  | some bw=>
   rw[az]at h;dsimp only at h;have gN:=(b9.get av az).bq.1;unfold pv;rw[az];dsimp only
   split at h
   ·rename_i j4 ax
    rw[ax]at gN ⊢;cases g with
    | int en=>
     show(Instr.checkKey e (m+k+1) t (.int en x)).run P w=_;unfold Instr.checkKey
     simp[run_underlying gN,Result.andThen]
    | _=>cases h
   ·rename_i ax
    rw[ax]at gN ⊢;cases g with
    | bool=>
     show(Instr.checkKey e (m+k+1) t (.bool x)).run P w=_;unfold Instr.checkKey
     simp[run_underlying gN,Result.andThen]
    | _=>cases h
   ·rename_i ax
    rw[ax]at gN ⊢;cases g with
    | str=>
     show(Instr.checkKey e (m+k+1) t (fc x)).run P w=_;unfold Instr.checkKey
     simp[run_underlying gN,Result.andThen]
    | _=>cases h
   ·rename_i c1 ax
    rw[ax]at gN ⊢;simp only[Bool.and_eq_true,Bool.not_eq_true']at h;show(Instr.checkKey e (m+k+1) t (.agg (g.cE x).toArray)).run P w=_;rw[Instr.checkKey];simp only[Sem.run_bind,run_underlying gN,Result.andThen_ok];rw[<- Array.forIn_toList];have U:=h.2.2
    clear gN ax h
    obtain⟨xs,qk⟩:∃ xs:Array Value,xs=(g.cE x).toArray:=⟨_,rfl⟩
    rw[<- qk];have ak:xs.toList.drop 0=g.cE x:=by rw[qk]; simp
    clear qk
    obtain⟨off,OE⟩:∃ off:Nat,off=0:=⟨_,rfl⟩
    rw[<- OE]at U ak
    clear OE
    generalize c1.toList=L at U
    induction L generalizing off g with
    | nil=>simp[jP]at U
    | cons f L yT=>
     cases L with
     | nil=>
      have aK : (decide (f.name ≠ "_") && (Nat.beq f.offset off && kS P tt k f.type g)) = true := by
       cases g<;>exact U
      simp only[Bool.and_eq_true,decide_eq_true_eq]at aK;obtain⟨aV,bg,he⟩:=aK;have bg:=Nat.eq_of_beq_eq_true bg;simp only[List.forIn_cons,List.forIn_nil,Sem.run_bind,aV,ne_eq,not_false_eq_true,if_true,bg,wM av ab he (r:=[]) (by rw[ak,List.append_nil]),Result.andThen_ok,br _ _ _ _ ab he,Sem.run_pure]
     | cons f2 L=>
      cases g with
      | pair g ag=>
       have aK : (decide (f.name ≠ "_") && (Nat.beq f.offset off && (kS P tt k f.type g && jP (kS P tt k) (off + g.size) (f2 :: L) ag))) = true := U
       simp only[Bool.and_eq_true,decide_eq_true_eq]at aK;obtain⟨aV,bg,he,aw⟩:=aK;have bg:=Nat.eq_of_beq_eq_true bg;simp only[aU.key,Bool.and_eq_true]at ab;have ni:xs.toList.drop off=g.cE x.1++ag.cE x.2:=ak;have pw:=yT ag x.2 ab.2 (off+g.size) (by rw[<- List.drop_drop,ni,<- wL x.1 ab.1,List.drop_left]) aw;rw[List.forIn_cons];simp only[Sem.run_bind,aV,ne_eq,not_false_eq_true,if_true,bg,wM av ab.1 he ni,Result.andThen_ok,br _ _ _ _ ab.1 he,Sem.run_pure];exact pw
      | int _=>simp[jP]at U
      | bool=>simp[jP]at U
      | str=>simp[jP]at U
      | ai _=>simp[jP]at U
      | gS _=>simp[jP]at U
      | unit=>simp[jP]at U
      | fn=>simp[jP]at U
   ·cases h
structure oD(P:Program) (t:TypeId) (g:aU):Prop where
 eq:sH P t g
 w3:∀ (e:Bool) (x:g.D) (w:World),(Instr.checkKey e 10000 t (.agg (g.cE x).toArray)).run P w=.ok () w
 str:∃ c1,P.underlying t=some (.struct c1)
 qt:∃ a b,g=.pair a b
theorem oD.of{P:Program} {tt:b9} (av:tt.ok P) {t:TypeId} {bw:bh} {a b:aU} {c1:Array Field} (ab:(aU.pair a b).key=true) (az:tt.find t=some bw) (ax:bw.bq.desc=.struct c1) (h:kS P tt 12 t (.pair a b)=true) (aQ:P.eqGuardType P.depth t=false):oD P t (.pair a b):=by
 refine⟨.of av ab az ax h aQ,fun e x w=>?_,⟨c1,?_⟩,⟨_,_,rfl⟩⟩
 ·have:=aaW av e 9988 12 t (.pair a b) x w ab h
  unfold pv at this;rw[az]at this;dsimp only at this;rw[ax]at this;exact this
 ·have:=(b9.get av az).bq.1
  rw[ax]at this;exact this
section
variable {P:Program} {B:Nat->Prop} {w:World} {gk aY:aU} {t:TypeId}
theorem dZ.key{g:aU} (aQ:∃ a b,g=.pair a b) (ab:g.key=true) {x:g.D} {v:Value} (h:dZ B w g x v):v=.agg (g.cE x).toArray:=by
 obtain⟨a,b,rfl⟩:=aQ;obtain⟨vs,e,J⟩:=h;rw[e,bF.cE ab J]
theorem dZ.HD{g:aU} (aQ:∃ a b,g=.pair a b) (ab:g.key=true) (x:g.D):dZ B w g x (.agg (g.cE x).toArray):=by
 obtain⟨a,b,rfl⟩:=aQ;exact⟨_,rfl,HE ab x⟩
where HE:∀ {g:aU} (ab:g.key=true) (x:g.D),bF B w g x (g.cE x)
 | .int _,_,_=>rfl
 | .bool,_,_=>rfl
 | .str,_,_=>rfl
 | .ai _,h,_=>by cases h
 | .gS _,h,_=>by cases h
 | .unit,h,_=>by cases h
 | .fn,h,_=>by cases h
 | .pair g h,ab,x=>by
  simp only[aU.key,Bool.and_eq_true]at ab;exact⟨_,_,rfl,HE ab.1 x.1,HE ab.2 x.2⟩
theorem OF{g:aU} {x y:g.D} (ab:g.key=true):g.beq x y=g.beq y x:=by
 cases J:g.beq x y with
 | true=>exact((beq_iff y x ab).2 ((beq_iff x y ab).1 J).symm).symm
 | false=>
  cases U:g.beq y x with
  | true=>rw[(beq_iff x y ab).2 ((beq_iff y x ab).1 U).symm]at J; cases J
  | false=>rfl
theorem CA(bQ:oD P t gk) (x y:gk.D) (b1:World):(Op.equal t (.agg (gk.cE x).toArray) (.agg (gk.cE y).toArray)).run P b1=.ok (gk.beq x y) b1:=bQ.eq.eq x y b1
theorem gb.zh(bQ:oD P t gk) {z:gk.D} (b1:World):∀ {l:List (gk.D×aY.D)} {es:List MapEntry} (i:Nat),gb B w gk aY l es ->
  (cF gk aY l z=none/\(Instr.findAsking t (.agg (gk.cE z).toArray) es i).run P b1=.ok none b1)\/∃ x j v,cF gk aY l z=some x/\(Instr.findAsking t (.agg (gk.cE z).toArray) es i).run P b1=.ok (some (i+j,v)) b1/\dZ B w aY x v/\j < es.length
 | [],_,i,h=>by rw[show _=[] from h]; exact .inl ⟨rfl,rfl⟩
 | x :: l,_,i,⟨e,r,he,J,U,ag⟩=>by
  subst he;have ab:=dZ.key bQ.qt bQ.eq.key J;unfold Instr.findAsking cF;rw[ab];simp only[Sem.run_bind,CA bQ z x.1 b1,Result.andThen_ok];rw[OF (x:=z) (y:=x.1) bQ.eq.key];cases ae:gk.beq x.1 z with
  | true=>exact .inr ⟨x.2,0,e.val,rfl,rfl,U,by simp⟩
  | false=>
   rcases gb.zh bQ b1 (i+1) ag with⟨aq,aE⟩ | ⟨y,j,v,aq,aE,bb,bX⟩
   ·exact .inl ⟨aq,by simpa using aE⟩
   ·exact .inr ⟨y,j+1,v,aq,by simpa [Nat.add_assoc,Nat.add_comm 1 j] using aE,bb,by simpa using bX⟩
theorem gb.w4(bQ:oD P t gk) {z:gk.D} {e8:aY.D} {vv:Value} (b1:World) (aC:dZ B w aY e8 vv):∀ {l:List (gk.D×aY.D)} {es:List MapEntry} (i:Nat),gb B w gk aY l es ->
  ((Instr.findAsking t (.agg (gk.cE z).toArray) es i).run P b1=.ok none b1/\eD gk aY l z e8=l++[(z,e8)]) \/
  ∃ j v e,(Instr.findAsking t (.agg (gk.cE z).toArray) es i).run P b1=.ok (some (i+j,v)) b1/\es[j]?=some e/\e.key=.agg (gk.cE z).toArray/\gb B w gk aY (eD gk aY l z e8) (es.modify j fun e=>{ e with key:=.agg (gk.cE z).toArray,val:=vv })
 | [],_,i,h=>by rw[show _=[] from h]; exact .inl ⟨rfl,rfl⟩
 | x :: l,_,i,⟨e,r,he,J,U,ag⟩=>by
  subst he;have ab:=dZ.key bQ.qt bQ.eq.key J;unfold Instr.findAsking eD;rw[ab];simp only[Sem.run_bind,CA bQ z x.1 b1,Result.andThen_ok];rw[OF (x:=z) (y:=x.1) bQ.eq.key];cases ae:gk.beq x.1 z with
  | true=>
   have bG:=(beq_iff x.1 z bQ.eq.key).1 ae;refine .inr ⟨0,e.val,e,rfl,rfl,by rw[ab,bG],{ e with key:=.agg (gk.cE z).toArray,val:=vv },r,rfl,?_,aC,ag⟩;show dZ B w gk x.1 (.agg (gk.cE z).toArray);rw[bG];exact dZ.HD bQ.qt bQ.eq.key z
  | false=>
   rcases gb.w4 bQ b1 aC (i+1) ag with⟨aq,aE⟩ | ⟨j,v,cj,aq,aE,bb,bX⟩
   ·exact .inl ⟨by simpa using aq,by show x :: eD gk aY l z e8=_; rw[aE]; rfl⟩
   ·exact .inr ⟨j+1,v,cj,by simpa [Nat.add_assoc,Nat.add_comm 1 j] using aq,by simpa using aE,bb,e,_,rfl,J,U,bX⟩
theorem qu{c1:Array Field} (hu:P.underlying t=some (.struct c1)) {k:Value} {es:List MapEntry} {r:Option (Nat×Value)} {b1:World} (h:(Instr.findAsking t k es 0).run P b1=.ok r b1):(Instr.findKey t k es).run P b1=.ok r b1:=by
 unfold Instr.findKey;simp only[Sem.run_bind,run_underlying hu,Result.andThen_ok];cases es with
 | nil=>exact h
 | cons e es=>
  have:Instr.findNow (.struct c1) k (e :: es) 0=none:=by
   unfold Instr.findNow Instr.sameNow
   rfl
  rw[this];exact h
theorem CB:∀ {g:aU},g.key=true->∀ (x:g.D) (n:Nat),∀ v∈g.cE x,Instr.sameBits n v v=true
 | .int _,_,x,n,v,aC=>by
  rw[List.mem_singleton.1 aC];cases n<;>simp[Instr.sameBits]
 | .bool,_,x,n,v,aC=>by
  rw[List.mem_singleton.1 aC];cases n<;>simp[Instr.sameBits]
 | .str,_,x,n,v,aC=>by
  rw[List.mem_singleton.1 aC];have ae:(List.toArray (show List UInt8 from x) == List.toArray (show List UInt8 from x))=true:=beq_self_eq_true _;cases n with
  | zero=>exact ae
  | succ n=>exact ae
 | .ai _,h,_,_,_,_=>by cases h
 | .gS _,h,_,_,_,_=>by cases h
 | .unit,h,_,_,_,_=>by cases h
 | .fn,h,_,_,_,_=>by cases h
 | .pair g h,ab,x,n,v,aC=>by
  simp only[aU.key,Bool.and_eq_true]at ab
  rcases List.mem_append.1 aC with aC | aC
  ·exact CB ab.1 x.1 n v aC
  ·exact CB ab.2 x.2 n v aC
theorem OG{vs:List Value} (h:∀ n,∀ v∈vs,Instr.sameBits n v v=true):Instr.sameBits 10000 (.agg vs.toArray) (.agg vs.toArray)=true:=by
 rw[show(10000:Nat)=9999+1 from rfl];unfold Instr.sameBits;simp only[beq_self_eq_true,Bool.true_and,List.all_eq_true];rintro⟨a,b⟩ jx
 have:a=b/\a∈vs:=by
  clear h
  induction vs with
  | nil=>cases jx
  | cons v vs br=>
   simp only[List.zip_cons_cons,List.mem_cons,Prod.mk.injEq]at jx
   rcases jx with⟨rfl,rfl⟩ | jx
   ·exact⟨rfl,List.mem_cons_self⟩
   ·obtain⟨db,eB⟩:=br jx
    exact⟨db,List.mem_cons_of_mem _ eB⟩
 obtain⟨rfl,hm⟩:=this;exact h _ _ hm
end
section
variable {X:bs} {n:Nat} {st:aO} {o:Oper} {d:Nat}
theorem aaX(av:X.tt.ok X.P) {t fh fr:TypeId} {bw dC:bh} {gk aY:aU} {u x:Operand} {id:Nat} {l:List (gk.D×aY.D)} {jQ:Option (List MapEntry×Nat)} {z:gk.D} {g c:Bool} {e7 bx:bl} (bQ:oD X.P fh gk) (aA:o.op=.lookup t u x false) (bg:o.guard=none/\o.dst=some d) (ax:Nat.blt d n=true)
  (a8:X.tt.find t=some bw) (dh:bw.bq.desc=.map fh fr) (he:X.tt.find fr=some dC) (bG:∀ B w,dZ B w aY aY.zero dC.bq.zero)
  (hu:bp X st.L u=some (true,.c (.b8 id))) (ak:bp X st.L x=some (g,e7)) (aQ:g=true) (l7:dec gk e7.cells=some (c,z,[])) (aa:c=true) (sU:ly gk e7=true) (b5:bd st.H id=some (.mp gk aY l jQ)) (l1:ql aY ((cF gk aY l z).getD aY.zero)=some bx)
  : gp X n o st ⟨(d,.a bx) :: st.L,st.H⟩:=by
 intro R W aJ ks env B al H a w aj KK je ei;obtain⟨iz,J,b,ae,rfl⟩:=aj.aD hu rfl;obtain⟨vx,U,ag⟩:=aj.aD ak aQ;have gZ:=dZ.key bQ.qt bQ.eq.key (dZ.ug l7 aa sU ag);rw[gZ]at U;obtain⟨ee,K,⟨b',es,clock,dM,rfl,hV,cU,_⟩,ey⟩:=aj.heap.gz b5;rw[ae]at dM;cases dM;have hW:=(aj.aM.ok _ ey.more.mem).2;have ay:=(b9.get av a8).bq.1;rw[dh]at ay;obtain⟨c1,cz⟩:=bQ.str;have hL:=bD.qU (b9.get av he).bq w;have lz:∃ v,(Instr.lookup t (.map (some b)) (.agg (gk.cE z).toArray) false).run X.P w=.ok v w/\dZ B al aY ((cF gk aY l z).getD aY.zero) v:=by
  unfold Instr.lookup;simp only[Sem.run_bind,run_underlying ay,Result.andThen_ok,MapKept.run_getObj_map hW,bQ.w3,Sem.run_pure]
  rcases hV.zh bQ w (z:=z) 0 with⟨aq,aE⟩ | ⟨y,j,v,aq,aE,bb,_⟩
  ·refine⟨dC.bq.zero,?_,by rw[aq]; exact bG _ _⟩
   simp[qu cz aE,hL,Result.andThen]
  ·refine⟨v,?_,by rw[aq]; exact bb⟩
   simp[qu cz aE,Result.andThen]
 obtain⟨v,dy,lA⟩:=lz;refine(hP aj.bZ bg.1 bg.2 (dY ax) (v:=v) (w':=w) ?_ fun aP aI=>?_)
 ·simp[execOp,aA,aj.bZ.aD J,aj.bZ.aD U,dy]
 ·exact ei aP _ env H (aj.set (sv:=.a bx) (lA.bx l1) aI)
theorem aaY(av:X.tt.ok X.P) {t fh fr:TypeId} {bw:bh} {gk aY:aU} {u x y:Operand} {id:Nat} {l:List (gk.D×aY.D)} {jQ:Option (List MapEntry×Nat)} {z:gk.D} {g g2 c cL:Bool} {e7 eb:bl} {e8:aY.D} (bQ:oD X.P fh gk) (aA:o.op=.mapUpdate t u x y) (bg:o.guard=none/\o.dst=none)
  (a8:X.tt.find t=some bw) (dh:bw.bq.desc=.map fh fr)
  (hu:bp X st.L u=some (true,.c (.b8 id))) (ak:bp X st.L x=some (g,e7)) (aQ:g=true) (l7:dec gk e7.cells=some (c,z,[])) (aa:c=true) (sU:ly gk e7=true) (aL:bp X st.L y=some (g2,eb)) (dm:g2=true) (b5:bd st.H id=some (.mp gk aY l jQ))
  (mq:dec aY eb.cells=some (cL,e8,[])) (h4:cL=true) (dP:ly aY eb=true)
  : gp X n o st ⟨st.L,eM id (.mp gk aY (eD gk aY l z e8) none) st.H⟩:=by
 intro R W aJ ks env B al H a w aj KK je ei;obtain⟨iz,J,b,ae,rfl⟩:=aj.aD hu rfl;obtain⟨vx,U,ag⟩:=aj.aD ak aQ;have gZ:=dZ.key bQ.qt bQ.eq.key (dZ.ug l7 aa sU ag);rw[gZ]at U;obtain⟨vy,aq,aE⟩:=aj.aD aL dm;have lA:dZ B al aY e8 vy:=dZ.ug mq h4 dP aE;obtain⟨ee,K,⟨b',es,clock,dM,rfl,hV,cU,_⟩,ey,ha⟩:=aj.pe (b':=.mp gk aY (eD gk aY l z e8) none) b5;rw[ae]at dM;cases dM;have hW:=(aj.aM.ok _ ey.mem).2;have ay:=(b9.get av a8).bq.1;rw[dh]at ay;obtain⟨c1,cz⟩:=bQ.str;have lz:∃ nN pC,(Instr.mapUpdate t (.map (some b)) (.agg (gk.cE z).toArray) vy).run X.P w=.ok () { w with heap:=w.heap.setIfInBounds b (.map nN.toArray pC) }/\gb B al gk aY (eD gk aY l z e8) nN/\Stamped nN pC:=by
  unfold Instr.mapUpdate;simp only[Sem.run_bind,run_underlying ay,Result.andThen_ok,MapKept.run_getObj_map hW,bQ.w3]
  rcases hV.w4 bQ w lA (z:=z) 0 with⟨bb,bX⟩ | ⟨j,v,e,bb,bX,dj,il⟩
  ·refine⟨es++[MapEntry.mk (.agg (gk.cE z).toArray) vy clock],clock+1,?_,?_,?_⟩
   ·simp only[qu cz bb,Result.andThen_ok,MapKept.run_setObj_map _ hW]
    simp
   ·rw[bX]
    exact gb.snoc (gk:=gk) (x:=(z,e8)) (e:=MapEntry.mk (.agg (gk.cE z).toArray) vy clock) (dZ.HD bQ.qt bQ.eq.key z) lA hV
   ·refine⟨?_,?_⟩
    ·rw[List.map_append,List.pairwise_append]
     exact⟨cU.1,by simp,fun p ao q ar=>by simp at ar; subst ar; exact cU.2 p ao⟩
    ·intro p ao
     rw[List.map_append,List.mem_append]at ao
     rcases ao with ao | ao
     ·exact Nat.lt_succ_of_lt (cU.2 p ao)
     ·simp at ao; omega
  ·refine⟨es.modify j fun e=>{ e with key:=.agg (gk.cE z).toArray,val:=vy },clock,?_,il,?_⟩
   ·rw[Nat.zero_add]at bb
    have lS:(Instr.keyThatStays (((es.toArray[j]?).map (·.key)).getD (.agg (gk.cE z).toArray)) (.agg (gk.cE z).toArray)).run X.P w=.ok (.agg (gk.cE z).toArray) w:=by
     have:((es.toArray[j]?).map (·.key)).getD (.agg (gk.cE z).toArray)=.agg (gk.cE z).toArray:=by simp[bX,dj]
     rw[this];unfold Instr.keyThatStays;rw[OG fun n=>CB bQ.eq.key z n]
     rfl
    simp only[qu cz bb,Result.andThen_ok,Sem.run_bind,lS,MapKept.run_setObj_map _ hW]
    simp
   ·rw[Stamped,yS (f:=fun e=>{ e with key:=.agg (gk.cE z).toArray,val:=vy }) (fun _=>rfl)]
    exact cU
 obtain⟨nN,pC,dy,GU,GV⟩:=lz;refine(Bj aj.bZ bg.1 bg.2 (w':={ w with heap:=w.heap.setIfInBounds b (.map nN.toArray pC) }) ?_ fun aP aI=>?_)
 ·simp[execOp,aA,aj.bZ.aD J,aj.bZ.aD U,aj.bZ.aD aq,dy]
 ·obtain⟨H',hb⟩:=ha _ aP _ ⟨b,nN,pC,ae,rfl,GU,GV,fun _ h=>by cases h⟩ (aj.aM.x9 ey) aI
  exact ei aP _ env H' (hb)
end
end
section
set_option linter.unusedSectionVars false
section
variable {X:bs} {R:Nat->Prop} {W:World} {aJ:e0} {n:Nat} {ks:List Nat} {env:Nat->Loc} {B:Nat->Prop} {al:World} {H:List bf} {st:aO} {a aP:Act} {w:World} {d:Nat} {o:Oper}
theorem aaZ(av:X.tt.ok X.P) {t T T':TypeId} {bw:bh} {x:Operand} {id i:Nat} {g:aU} {l:List (Bool×List g.D)} {cap:Option Nat} {g1:Bool} (aA:o.op=.load t x) (bg:o.guard=none/\o.dst=some d) (ax:Nat.blt d n=true)
  (a8:X.tt.find t=some bw) (qm:lR bw.bq.desc=false) (ak:bp X st.L x=some (g1,.c (.eG id 1 i 0))) (dN:g1=true) (b5:bd st.H id=some (.b2 T T' g l cap none)) (cr:Nat.beq d id=false)
  (hi:decide (i < l.length)=true) (di:(l.getD i (false,[])).1=true)
  : gp X n o st ⟨(d,.c (.ai d)) :: fK d .dead st.L,(d,.row T' g (l.getD i (false,[])).2 none) :: eM id (.b2 T T' g l cap (some (i,some d))) (ef d .dead st.H)⟩:=by
 intro R W aJ ks env B al H a w aj KK je ei;have aW:=of_decide_eq_true hi;have rK:id≠d:=fun e=>ne_of_beq_false cr e.symm
 obtain⟨vx,J,b,c,m,he,rfl⟩:=aj.aD ak dN;obtain⟨c0,Cr,⟨A,k,ys,c4,I,cV,rfl,lD,lE,fy⟩,nI⟩:=aj.heap.gz b5;rw[he]at cV;cases cV;have uC:c4=ys:=lE;subst uC;obtain⟨v,eL,aC,y6,rq⟩:=dI.hole (show dI B al T' g l c4 I from lD) aW
 rcases rq with⟨_,c2,en,gB,rfl,iM,pj⟩ | ⟨He,_⟩
 ·have rJ:=dI.length (show dI B al T' g l c4 I from lD)
  have k9:w.cell? ⟨b,i * 1+0,none⟩=some (.slice c2 (l.getD i (false,[])).2.length en):=by
   have fx:eQ w (fun k=>R k\/B k) T 1 (some ⟨b,0,none⟩) c l.length c4:=(aj.aM.ok _ nI.more.mem).1 _ List.mem_cons_self;rw[fx.cells rfl _ (by omega)]
   simpa using aC
  refine hP aj.bZ bg.1 bg.2 (dY ax) (v:=.slice c2 (l.getD i (false,[])).2.length en) (w':=w) (v8 aj.bZ aA (b9.get av a8).bq qm J k9) fun aP aI=>?_
  obtain⟨H2,gL,fQ⟩:=aj.Ob ax (.row c2 en (l.getD i (false,[])).2.length);obtain⟨fw,aao,hs,⟨jv,jw,sP,rfl⟩,lr⟩:=fQ.heap.put (y5 (z:=.dead) rK b5);subst sP;obtain⟨Hf,j4,uD,nP,uE,lY,rfl,_⟩:=hs;rw[jJ id rK,he]at lY;cases lY;have jM:=aj.aM.same (c:=.tree (⟨some ⟨b,0,none⟩,c,T,1,l.length,nP⟩ :: uE)) (List.mem_append_left _ (gL.subset (by simp))) nI.more.mem (b:=b) ⟨_,List.mem_cons_self,rfl⟩ ⟨_,List.mem_cons_self,rfl⟩;simp only[bf.tree.injEq,List.cons.injEq,ga.mk.injEq,true_and,and_true]at jM;obtain⟨rfl,rfl⟩:=jM
  let p:ga:=⟨c2,en,T',g.size,(l.getD i (false,[])).2.length,gB⟩
  let eI:ga:=⟨some ⟨b,0,none⟩,c,T,1,l.length,nP⟩
  have dP:=fQ.aM;rw[List.append_assoc,List.cons_append]at dP;have ih:bE (fun k=>R k\/B k) al (jv++.tree (p :: eI :: eL) :: (jw++ks.map dk)) w:=dP.x8 ⟨p :: eI :: eL,(List.Perm.cons _ pj).trans (List.Perm.swap _ _ _),List.Sublist.refl _⟩;have mn:=ih.Bl;refine ei aP w _ (p.ee :: (jv++.tree (eI :: eL) :: jw)) ⟨aI.size,aI.defs,fun s u an=>?_,⟨_,_,rfl,⟨c2,en,gB,fp,rfl,iM,fun _ h=>by cases h⟩,lr _ _ ⟨_,c,nP.set i (.slice none 0 0),nP,eL,by rw[jJ id rK]; exact he,rfl,y6,⟨aW,.slice c2 (l.getD i (false,[])).2.length en,?_,fun c5 oB=>by cases oB; exact⟨c2,en,_,fp,rfl⟩⟩,fy⟩⟩,by rw[List.cons_append,List.append_assoc,List.cons_append]; exact mn,fQ.sub,fQ.new,fQ.dL,fQ.base,fQ.et⟩
  ·rw[cI]at an
   split at an
   ·rename_i e; subst e; cases an; exact⟨_,aI.this,_,_,_,fp,rfl⟩
   ·rename_i e
    obtain⟨fL,ag,aq⟩:=fQ.has s u an;exact⟨fL,aI.other e ag,aq⟩
  ·rw[List.set_set]
   exact(List.Oa aC).symm
 ·rw[He]at di; cases di
theorem aa0(T':TypeId) (HF:aU) (av:X.tt.ok X.P) {t e:TypeId} {bw dC:bh} {x y:Operand} {k k':IntKind} {h7 hx:Int} {g1 g2:Bool} {kq:aU} (aA:o.op=.makeSlice t x y) (bg:o.guard=none/\o.dst=some d) (ax:Nat.blt d n=true)
  (a8:X.tt.find t=some bw) (dh:bw.bq.desc=.slice e) (he:X.tt.find e=some dC) (p0:dC.g=some (.ai kq)) (ak:bp X st.L x=some (g1,.c (.val (.int k h7)))) (dN:g1=true) (aL:bp X st.L y=some (g2,.c (.val (.int k' hx)))) (dm:g2=true)
  (aa:(decide (0<=h7)&&decide (h7<=hx)&&gd dC.bq.bytes hx)=true)
  : gp X n o st ⟨(d,.c (.ai d)) :: fK d .dead st.L,(d,.b2 e T' HF (List.replicate h7.toNat (true,[])) (some hx.toNat) none) :: ef d .dead st.H⟩:=by
 intro R W aJ ks env B al H a w aj KK je ei;obtain⟨vx,gZ,kt⟩:=aj.aD ak dN;obtain⟨vy,fF,j3⟩:=aj.aD aL dm;simp only[Bool.and_eq_true,decide_eq_true_eq]at aa;obtain⟨⟨q3,q4⟩,nG⟩:=aa;obtain⟨nG,F0⟩:=(Mr (by omega)).1 nG;rw[show vx=_ from kt]at gZ;rw[show vy=_ from j3]at fF;obtain⟨J,U,ag⟩:=(b9.get av he).g _ p0;have ay:=(b9.get av a8).bq.1;rw[dh]at ay;have fb:dC.bq.size=1:=J.symm;have oa:dC.bq.zero.cells.toList=[.slice none 0 0]:=U;obtain⟨dy,cM⟩:=MU aj.aM ay (b9.get av he).bq (z:=[.slice none 0 0]) (by rw[<- oa]) (by rw[fb]; rfl) (by omega) (k:=k) (k':=k') (m:=h7.toNat) (c:=hx.toNat) (by omega) (by
  have:((dC.bq.bytes * hx.toNat:Nat):Int)=(dC.bq.bytes:Int) * hx:=by rw[Int.natCast_mul,Int.toNat_of_nonneg (by omega)]
  omega) (by omega)
 rw[Int.toNat_of_nonneg q3,Int.toNat_of_nonneg (by omega)]at dy;refine hP aj.bZ bg.1 bg.2 (dY ax) (v:=.slice (some ⟨w.heap.size,0,none⟩) h7.toNat hx.toNat) (w':=w.alloc (.cells (ek [.slice none 0 0] hx.toNat).toArray e)) (by simp[execOp,aA,aj.bZ.aD gZ,aj.bZ.aD fF,dy]) fun aP aI=>?_
 obtain⟨I,gV,aV⟩:=dI.N9 (B:=B) (w:=al) (T':=T') (g:=HF) h7.toNat;have aa1:ek [Value.slice none 0 0] h7.toNat=List.replicate h7.toNat (.slice none 0 0):=by
  unfold ek
  induction h7.toNat with
  | zero=>rfl
  | succ k br=>rw[List.replicate_succ,List.flatten_cons,br,List.replicate_succ]; rfl
 rw[fb,aa1]at cM;have an:=bE.Oe (bE.Od (X:=[]) (r:=⟨some ⟨w.heap.size,0,none⟩,hx.toNat,e,1,h7.toNat,List.replicate h7.toNat (.slice none 0 0)⟩) cM) fun s an=>⟨_,_,aV s an⟩
 obtain⟨H',_,dj⟩:=aj.oi (d:=d) ax (l:=.row (some ⟨w.heap.size,0,none⟩) hx.toNat h7.toNat) (blk:=.b2 e T' HF (List.replicate h7.toNat (true,[])) (some hx.toNat) none) (sv:=.c (.ai d)) an ⟨_,hx.toNat,_,_,I,by rw[List.length_replicate]; exact fp,by rw[List.length_replicate],gV,rfl,fun q ar=>by cases ar; rfl⟩ ⟨_,_,_,fp,rfl⟩ aI;exact ei _ _ _ _ dj
end
inductive oE where
 | HG
 | st
 | mk
 | nm (gk aY:aU)
 | zi
 | CC
 | CD
 | OH (l:List (Int×Nat))
 | OI
 | sk
 | lG
 | OJ
 | OK
def w5(X:bs) (t:TypeId):aU->Bool
 | .pair a b=>wZ X t (.pair a b)
 | _=>false
theorem zj{X:bs} (av:X.tt.ok X.P) {t:TypeId} {g:aU} (h:w5 X t g=true):oD X.P t g:=by
 cases g with
 | pair a b=>
  have U:wZ X t (.pair a b)=true:=h;unfold wZ at U
  split at U
  ·rename_i az
   simp only[Bool.and_eq_true,Bool.not_eq_true']at U;exact oD.of av U.1 az rfl U.2.1 U.2.2
  ·cases U
 | _=>cases h
def zk:aU->Value->Bool
 | .int k,.int k' z=>decide (k'=k)&&decide (z=0)
 | .bool,.bool b=>!b
 | _,_=>false
theorem OL{g:aU} {v:Value} (h:zk g v=true):∀ B w,dZ B w g g.zero v:=by
 intro B w;cases g with
 | int k=>
  cases v with
  | int k' z=>
   unfold zk at h;rw[Bool.and_eq_true,decide_eq_true_eq,decide_eq_true_eq]at h;rw[h.1,h.2];exact(rfl:[Value.int k 0]=[Value.int k 0])
  | _=>cases h
 | bool=>
  cases v with
  | bool b=>
   cases b with
   | true=>cases h
   | false=>exact(rfl:[Value.bool false]=[Value.bool false])
  | _=>cases h
 | _=>cases h
def CE(aY:aU) (dC:bh):Bool:=match aY,dC.bq.zero with
 | .fn,.nilFunc=>true
 | .pair a b,.agg _=>decide (dC.g=some (.pair a b))
 | .int k,.int k' z=>decide (k'=k)&&decide (z=0)
 | .bool,.bool b=>!b
 | _,_=>false
theorem OM{P:Program} {fr:TypeId} {dC:bh} {aY:aU} (bg:bh.ok P fr dC) (h:CE aY dC=true):∀ B w,dZ B w aY aY.zero dC.bq.zero:=by
 intro B w;unfold CE at h
 split at h
 ·rename_i bG
  rw[bG];exact(rfl:[Value.nilFunc]=[Value.nilFunc])
 ·rename_i a b _ bG
  obtain⟨_,U,_⟩:=bg.g _ (of_decide_eq_true h);rw[bG]at U;refine⟨_,bG,?_⟩;have ag:=bF.ek (B:=B) (w:=w) (aU.pair a b);rw[<- U]at ag;exact ag
 ·rename_i bG
  rw[Bool.and_eq_true,decide_eq_true_eq,decide_eq_true_eq]at h;rw[bG,h.1,h.2];exact(rfl:[Value.int _ 0]=[Value.int _ 0])
 ·rename_i b bG
  rw[bG];cases b with
  | true=>cases h
  | false=>exact(rfl:[Value.bool false]=[Value.bool false])
 ·cases h
def ON:List (Int×Nat)->Int->Option Nat
 | [],_=>none
 | (k,f) :: r,z=>cond (decide (z=k)) (some f) (ON r z)
def pF(f:Nat):Option (Option Nat)->Bool
 | some (some h)=>Nat.beq h f
 | _=>false
theorem aa2{f:Nat} {o:Option (Option Nat)} (h:pF f o=true):o=some (some f):=by
 unfold pF at h
 split at h
 ·rw[Nat.eq_of_beq_eq_true h]
 ·cases h
theorem aa3{X:bs} {n:Nat} {st:aO} {o:Oper} {d:Nat} (av:X.tt.ok X.P) (gk aY:aU) {t fh fr:TypeId} {bw:bh} {u:Operand} {k:IntKind} {z:Int} {g:Bool} (aA:o.op=.makeMap t (some u)) (bg:o.guard=none/\o.dst=some d) (ax:Nat.blt d n=true) (a8:X.tt.find t=some bw) (dh:bw.bq.desc=.map fh fr) (hu:bp X st.L u=some (g,.c (.val (.int k z)))) (aQ:g=true) :
  gp X n o st ⟨(d,.c (.b8 d)) :: fK d .dead st.L,(d,.mp gk aY [] none) :: ef d .dead st.H⟩:=by
 intro R W aJ ks env B al H a w aj KK je ei;obtain⟨v,J,U⟩:=aj.aD hu aQ;rw[show v=_ from U]at J;have e:=aj.bZ.aD J;have aX:asIntOf (Value.int k z)=pure (k,z):=rfl;have bI:X.P.underlying t=some (.map fh fr):=by rw[<- dh]; exact(b9.get av a8).bq.1
 refine(hP aj.bZ bg.1 bg.2 (dY ax) (v:=.map (some w.heap.size)) (w':=w.alloc (.map #[] 0)) (by simp[execOp,aA,e,Instr.makeMap,newObj,underlying,asInt,aX,bI,Sem.run]) fun aP aI=>?_);obtain⟨H',_,ag⟩:=aj.oi (d:=d) ax (l:=.blk w.heap.size) (blk:=.mp gk aY [] none) (sv:=.c (.b8 d)) (aj.aM.alloc (.map #[] 0)) ⟨_,[],0,fp,rfl,rfl,⟨List.Pairwise.nil,fun _ h=>by cases h⟩,fun _ h=>by cases h⟩ ⟨_,fp,rfl⟩ aI;exact ei aP _ _ H' (ag)
theorem aa4{X:bs} {n:Nat} {st:aO} {o:Oper} {d:Nat} (av:X.tt.ok X.P) {t fh fr:TypeId} {bw:bh} {gk aY:aU} {u:Operand} {id:Nat} {l:List (gk.D×aY.D)} {jQ:Option (List MapEntry×Nat)} (aA:o.op=.range t u) (bg:o.guard=none/\o.dst=some d) (ax:Nat.blt d n=true)
  (a8:X.tt.find t=some bw) (dh:bw.bq.desc=.map fh fr) (hu:bp X st.L u=some (true,.c (.b8 id))) (b5:bd st.H id=some (.mp gk aY l jQ)) (ah:l.isEmpty=true) (cr:Nat.beq id d=false) :
  gp X n o st ⟨(d,.c (.ptr d 0)) :: fK d .dead st.L,(d,.hj id) :: ef d .dead (eM id (.mp gk aY [] none) st.H)⟩:=by
 intro R W aJ ks env B al H a w aj KK je ei;cases l with
 | cons x l=>cases ah
 | nil=>
  obtain⟨iz,J,b,ae,rfl⟩:=aj.aD hu rfl;obtain⟨c,K,⟨b',es,clock,dM,rfl,hV,cU,_⟩,ey,lr⟩:=aj.heap.put b5;rw[ae]at dM;cases dM;have hW:=(aj.aM.ok _ ey.more.mem).2;have ay:=(b9.get av a8).bq.1;rw[dh]at ay;have bQ:K (.obj b (.map es.toArray clock))=H:=by obtain⟨X,Y,ay,aS⟩:=ey; rw[aS,ay]
  have dt:=lr (.mp gk aY [] none) (.obj b (.map es.toArray clock)) ⟨b,es,clock,ae,rfl,hV,cU,fun _ h=>by cases h⟩;rw[bQ]at dt;have fQ:bH X R W aJ n ks env B al H ⟨st.L,eM id (.mp gk aY [] none) st.H⟩ a w:=⟨aj.size,aj.defs,aj.has,dt,aj.aM,aj.sub,aj.new,aj.dL,aj.base,aj.et⟩
  have dy:(Instr.range t (.map (some b))).run X.P w=.ok (.pointer (some ⟨w.heap.size,0,none⟩)) (w.alloc (.mapIter (some b) clock #[] clock)):=by
   simp[Instr.range,run_underlying ay,MapKept.run_getObj_map hW,newObj,Sem.run,Result.andThen]
  refine(hP fQ.bZ bg.1 bg.2 (dY ax) (v:=.pointer (some ⟨w.heap.size,0,none⟩)) (w':=w.alloc (.mapIter (some b) clock #[] clock)) (by simp[execOp,aA,aj.bZ.aD J,dy]) fun aP aI=>?_);obtain⟨H',_,ag⟩:=fQ.oi (d:=d) ax (l:=.blk w.heap.size) (blk:=.hj id) (sv:=.c (.ptr d 0)) (fQ.aM.alloc _) ⟨_,b,clock,fp,by rw[jJ id (Nat.ne_of_beq_eq_false cr)]; exact ae,rfl⟩ ⟨_,fp,rfl⟩ aI;exact ei aP _ _ H' ag
theorem aa5{X:bs} {n:Nat} {st:aO} {o:Oper} {d:Nat} {gk aY:aU} {u:Operand} {eU id:Nat} {jQ:Option (List MapEntry×Nat)} (aA:o.op=.next u false) (bg:o.guard=none/\o.dst=some d) (ax:Nat.blt d n=true)
  (hu:bp X st.L u=some (true,.c (.ptr id 0))) (mD:bd st.H id=some (.hj eU)) (b5:bd st.H eU=some (.mp gk aY [] jQ)):gp X n o st ⟨(d,.c3 [.c (.val (.bool false))]) :: st.L,st.H⟩:=by
 intro R W aJ ks env B al H a w aj KK je ei;obtain⟨iz,J,b,ae,rfl⟩:=aj.aD hu rfl;obtain⟨cL,NX,⟨m,es,clock,hm,rfl,hV,_⟩,HH⟩:=aj.heap.gz b5;have aa6:=(aj.aM.ok _ HH.more.mem).2;obtain⟨c,K,⟨b',ca,q,dM,e9,rfl⟩,ey⟩:=aj.heap.gz mD;rw[ae]at dM;cases dM;rw[hm]at e9;cases e9;have hW:=(aj.aM.ok _ ey.more.mem).2;have HI:es=[]:=hV;subst HI
 rcases run_next_at (P:=X.P) w o.type b m q q #[] #[] clock hW aa6 (fun x ak=>by simp at ak) (Nat.le_refl _)with⟨_,dy⟩ | ⟨e,he,_⟩
 ·refine(hP aj.bZ bg.1 bg.2 (dY ax) (v:=.tuple #[.bool false]) (w':=w) (by simp[execOp,aA,aj.bZ.aD J,dy]) fun aP aI=>?_)
  exact ei aP _ _ _ (aj.set (sv:=.c3 [.c (.val (.bool false))]) ⟨[.bool false],rfl,.bool false,[],rfl,rfl,rfl⟩ aI)
 ·simp[leftOf]at he
theorem gb.len{B:Nat->Prop} {w:World} {gk aY:aU}:∀ {l:List (gk.D×aY.D)} {es:List MapEntry},gb B w gk aY l es->es.length=l.length
 | [],_,h=>by rw[show _=[] from h]; rfl
 | _ :: _,_,⟨_,_,e,_,_,h⟩=>by rw[e,List.length_cons,List.length_cons,gb.len h]
theorem aa7{X:bs} {n:Nat} {st:aO} {o:Oper} {d:Nat} (av:X.tt.ok X.P) {t fh fr:TypeId} {bw:bh} {gk aY:aU} {u:Operand} {id:Nat} {l:List (gk.D×aY.D)} {jQ:Option (List MapEntry×Nat)} (aA:o.op=.call { callee:=.builtin .len,args:=#[u],argTypes:=#[t] }) (bg:o.guard=none/\o.dst=some d) (ax:Nat.blt d n=true)
  (a8:X.tt.find t=some bw) (dh:bw.bq.desc=.map fh fr) (hu:bp X st.L u=some (true,.c (.b8 id))) (b5:bd st.H id=some (.mp gk aY l jQ)):gp X n o st ⟨(d,.c (.val (.int .i64 (l.length:Int)))) :: st.L,st.H⟩:=by
 intro R W aJ ks env B al H a w aj KK je ei;obtain⟨iz,J,b,ae,rfl⟩:=aj.aD hu rfl;obtain⟨c,K,⟨b',es,clock,dM,rfl,hV,cU,_⟩,ey⟩:=aj.heap.gz b5;rw[ae]at dM;cases dM;have hW:=(aj.aM.ok _ ey.more.mem).2;have ay:=(b9.get av a8).bq.1;rw[dh]at ay;refine(hP aj.bZ bg.1 bg.2 (dY ax) (v:=.int .i64 (l.length:Int)) (w':=w) ?_ fun aP aI=>?_)
 ·simp[execOp,aA,resolve,invoke,builtin,Builtin.len_,aj.bZ.aD J,run_underlying ay,MapKept.run_getObj_map hW,goInt,hV.len]
 ·exact ei aP _ env H (aj.set (sv:=.c (.val (.int .i64 (l.length:Int)))) rfl aI)
theorem aa8(A:Option Addr) (s c:Nat):jm A 0 s c=A:=by
 unfold jm
 split
 ·rfl
 ·cases A with
  | none=>rfl
  | some a=>simp[Addr.add]
theorem aa9{X:bs} {n:Nat} {st:aO} {o:Oper} {d:Nat} (av:X.tt.ok X.P) {t e:TypeId} {x y:Operand} {g1 g2:Bool} {eb:bl} {id cJ gU:Nat} {ge g:aU} {l l2:List g.D} {cap:Option Nat} {bw:bh} {aG:TypeDesc} {kO:Value} (aA:o.op=.call ⟨.builtin .copy,⟨[x,y]⟩,⟨[t,t]⟩⟩) (bg:o.guard=none/\o.dst=some d) (ax:Nat.blt d n=true)
  (a8:X.tt.find t=some bw) (dh:bw.bq.desc=.slice e) (he:X.tt.find e=some ⟨⟨aG,cJ,gU,kO⟩,some ge⟩) (ak:bp X st.L x=some (g1,.c (.ai id))) (aQ:g1=true) (aL:bp X st.L y=some (g2,eb)) (ea:g2=true)
  (b5:bd st.H id=some (.row e g l cap)) (dv:Nat.beq g.size cJ=true) (my:mx st g eb=some l2) (jH:Nat.blt 0 cJ=true) (aa:decide (l2.length<=l.length)=true):gp X n o st ⟨(d,.c (.val (.int .i64 (l2.length:Int)))) :: st.L,eM id (.row e g (l2++l.drop l2.length) cap) st.H⟩:=by
 intro R W aJ ks env B al H a w h KK lo ei;obtain⟨vx,gZ,kt⟩:=h.aD ak aQ;obtain⟨vy,fF,j3⟩:=h.aD aL ea;obtain⟨T,bI,J,aq⟩:=mY (b9.get av a8).bq (b9.get av he).bq;have gJ:=Nat.eq_of_beq_eq_true dv;have kU:=of_decide_eq_true aa;obtain⟨c2,cL,gB,rfl,iK,fS⟩:=ss h my j3;obtain⟨A,c,m,iL,rfl⟩:=kt;obtain⟨ee,K,⟨bP,k',xs,nb,rfl,di,fy⟩,ey,nH⟩:=h.pe (b':=.row e g (l2++l.drop l2.length) cap) b5;rw[iL]at nb;cases nb;rw[gJ]at ey fS;have hlen:(l2++l.drop l2.length).length=l.length:=by
  simp only[List.length_append,List.length_drop];omega
 have aba:aD (gm a) x=some (.slice (jm A 0 cJ c) (l.length - 0) (c - 0)):=by
  rw[aa8];exact gZ
 refine Mc h.sym aA bg ax bI J dh aq aba fF ey fS (Flat.iX (fun _ _=>bF.iX) iK) (dY jH) (by omega) fun aP w' cw=>?_
 have wT:=Flat.part (i:=0) (fun _ _=>bF.length) di iK;rw[gJ]at wT;simp only[List.take_zero,List.nil_append,Nat.zero_add]at wT;obtain⟨H',dj⟩:=nH (.row A c e g.size l.length (xs.take (0 * cJ)++gB++xs.drop (0 * cJ+gB.length))) a w' ⟨A,c,_,by rw[hlen]; exact iL,by rw[hlen],by simpa using wT,fy⟩ (by rw[gJ]; exact cw.aM) h.bZ;exact ei aP w' _ H' (dj.set rfl cw.st)
def zl(X:bs) (n:Nat) (st:aO):oE->Oper->Option (Bool×aO×List Nat)
 | .nm gk aY,⟨some d,.makeMap _ none,_,_,_,none⟩=>match Nat.blt d n with
  | true=>some (true,⟨(d,.c (.b8 d)) :: fK d .dead st.L,(d,.mp gk aY [] none) :: ef d .dead st.H⟩,[d])
  | false=>none
 | .nm gk aY,⟨some d,.makeMap t (some u),_,_,_,none⟩=>match Nat.blt d n,X.tt.find t,bp X st.L u with
  | true,some ⟨⟨.map _ _,_,_,_⟩,_⟩,some (g,.c (.val (.int _ _)))=>some (g,⟨(d,.c (.b8 d)) :: fK d .dead st.L,(d,.mp gk aY [] none) :: ef d .dead st.H⟩,[d])
  | _,_,_=>none
 | .zi,⟨some d,.lookup t u x false,_,_,_,none⟩=>match Nat.blt d n,X.tt.find t,bp X st.L u,bp X st.L x with
  | true,some ⟨⟨.map fh fr,_,_,_⟩,_⟩,some (true,.c (.b8 id)),some (g,e7)=>match bd st.H id,X.tt.find fr with
   | some (.mp gk aY l _),some dC=>match dec gk e7.cells,w5 X fh gk&&(ly gk e7&&zk aY dC.bq.zero)with
    | some (c,z,[]),true=>match ql aY ((cF gk aY l z).getD aY.zero)with
     | some bx=>some (g&&c,⟨(d,.a bx) :: st.L,st.H⟩,[d])
     | none=>none
    | _,_=>none
   | _,_=>none
  | _,_,_,_=>none
 | .CC,⟨none,.mapUpdate t u x y,_,_,_,none⟩=>match X.tt.find t,bp X st.L u,bp X st.L x,bp X st.L y with
  | some ⟨⟨.map fh _,_,_,_⟩,_⟩,some (true,.c (.b8 id)),some (g,e7),some (g2,eb)=>match bd st.H id with
   | some (.mp gk aY l _)=>match dec gk e7.cells,dec aY eb.cells,w5 X fh gk&&(ly gk e7&&ly aY eb)with
    | some (c,z,[]),some (cL,e8,[]),true=>some (g&&(c&&(g2&&cL)),⟨st.L,eM id (.mp gk aY (eD gk aY l z e8) none) st.H⟩,[id])
    | _,_,_=>none
   | _=>none
  | _,_,_,_=>none
 | .CD,⟨some d,.lookup t u x true,_,_,_,none⟩=>match Nat.blt d n,X.tt.find t,bp X st.L u,bp X st.L x with
  | true,some ⟨⟨.map fh fr,_,_,_⟩,_⟩,some (true,.c (.b8 id)),some (g,.c (.val (.int k z)))=>match bd st.H id,X.tt.find fh,X.tt.find fr with
   | some (.mp (.int k') aY l _),some ⟨⟨.int en,_,_,_⟩,_⟩,some dC=>match decEq k' k,decEq en k,CE aY dC,ql aY ((cF (.int k') aY l z).getD aY.zero)with
    | isTrue _,isTrue _,true,some bx=>some (g,⟨(d,.c3 [bx,.c (.val (.bool (cF (.int k') aY l z).isSome))]) :: st.L,st.H⟩,[d])
    | _,_,_,_=>none
   | _,_,_=>none
  | _,_,_,_=>none
 | .OH c1,⟨some d,.lookup t u x false,_,_,_,none⟩=>match Nat.blt d n,X.tt.find t,bp X st.L u,bp X st.L x with
  | true,some ⟨⟨.map fh fr,_,_,_⟩,_⟩,some (true,.c (.b8 id)),some (g,.c (.val (.int k z)))=>match bd st.H id,X.tt.find fh,X.tt.find fr,ON c1 z with
   | some (.mp (.int k') .fn l _),some ⟨⟨.int en,_,_,_⟩,_⟩,some dC,some f=>match decEq k' k,decEq en k,CE .fn dC with
    | isTrue _,isTrue _,true=>some (g&&pF f (cF (.int k') .fn l z),⟨(d,.a (.c (.fn f []))) :: st.L,st.H⟩,[d])
    | _,_,_=>none
   | _,_,_,_=>none
  | _,_,_,_=>none
 | .lG,⟨none,.insert t u x y,_,_,_,none⟩=>match X.tt.find t,bp X st.L u,bp X st.L x,bp X st.L y with
  | some ⟨⟨.map fh _,_,_,_⟩,_⟩,some (true,.c (.b8 id)),some (g,.c (.val (.int k z))),some (g2,eb)=>match bd st.H id,X.tt.find fh with
   | some (.mp (.int k') aY l _),some ⟨⟨.int en,_,_,_⟩,_⟩=>match decEq k' k,decEq en k,dec aY eb.cells,ly aY eb with
    | isTrue _,isTrue _,some (cL,e8,[]),true=>some (g&&(g2&&cL),⟨st.L,eM id (.mp (.int k') aY (eD (.int k') aY l z e8) none) st.H⟩,[id])
    | _,_,_,_=>none
   | _,_=>none
  | _,_,_,_=>none
 | .OJ,⟨some d,.range t u,_,_,_,none⟩=>match Nat.blt d n,X.tt.find t,bp X st.L u with
  | true,some ⟨⟨.map _ _,_,_,_⟩,_⟩,some (true,.c (.b8 id))=>match Nat.beq id d,bd st.H id with
   | false,some (.mp gk aY l _)=>some (l.isEmpty,⟨(d,.c (.ptr d 0)) :: fK d .dead st.L,(d,.hj id) :: ef d .dead (eM id (.mp gk aY [] none) st.H)⟩,[d,id])
   | _,_=>none
  | _,_,_=>none
 | .OK,⟨some d,.next u false,_,_,_,none⟩=>match Nat.blt d n,bp X st.L u with
  | true,some (true,.c (.ptr id 0))=>match bd st.H id with
   | some (.hj eU)=>match bd st.H eU with
    | some (.mp _ _ [] _)=>some (true,⟨(d,.c3 [.c (.val (.bool false))]) :: st.L,st.H⟩,[d])
    | _=>none
   | _=>none
  | _,_=>none
 | .OI,⟨some d,.call ⟨.builtin .len,⟨[u]⟩,⟨[t]⟩⟩,_,_,_,none⟩=>match Nat.blt d n,X.tt.find t,bp X st.L u with
  | true,some ⟨⟨.map _ _,_,_,_⟩,_⟩,some (true,.c (.b8 id))=>match bd st.H id with
   | some (.mp _ _ l _)=>some (true,⟨(d,.c (.val (.int .i64 (l.length:Int)))) :: st.L,st.H⟩,[d])
   | _=>none
  | _,_,_=>none
 | .sk,⟨some d,.call ⟨.builtin .copy,⟨[x,y]⟩,⟨[t,t2]⟩⟩,_,_,_,none⟩=>match Nat.blt d n,Nat.beq t2 t,X.tt.find t,bp X st.L x,bp X st.L y with
  | true,true,some ⟨⟨.slice e,_,_,_⟩,_⟩,some (g1,.c (.ai id)),some (g2,eb)=>match X.tt.find e,bd st.H id with
   | some ⟨⟨_,cJ,_,_⟩,some _⟩,some (.row cj g l cap)=>match Nat.beq cj e,Nat.beq g.size cJ,mx st g eb,Nat.blt 0 cJ with
    | true,true,some l2,true=>some (g1&&(g2&&decide (l2.length<=l.length)),⟨(d,.c (.val (.int .i64 (l2.length:Int)))) :: st.L,eM id (.row e g (l2++l.drop l2.length) cap) st.H⟩,[d,id])
    | _,_,_,_=>none
   | _,_=>none
  | _,_,_,_,_=>none
 | _,_=>none
section
variable {X:bs} {n:Nat} {st st':aO} {o:Oper}
theorem abb(av:X.tt.ok X.P) {m:oE} {c:Bool} {V:List Nat} (h:zl X n st m o=some (c,st',V)) (aa:c=true):gp X n o st st':=by
 unfold zl at h
 split at h
 ·split at h
  ·rename_i ax
   cases h;exact ZR _ _ rfl ⟨rfl,rfl⟩ ax
  ·cases h
 ·split at h
  ·rename_i ax a8 hu
   cases h;exact aa3 av _ _ rfl ⟨rfl,rfl⟩ ax a8 rfl hu aa
  ·cases h
 ·split at h
  ·rename_i ax a8 hu ak
   split at h
   ·rename_i ah he
    split at h
    ·rename_i l7 ab
     simp only[Bool.and_eq_true]at ab
     split at h
     ·rename_i l1
      cases h;rw[Bool.and_eq_true]at aa;exact aaX av (zj av ab.1) rfl ⟨rfl,rfl⟩ ax a8 rfl he (OL ab.2.2) hu ak aa.1 l7 aa.2 ab.2.1 ah l1
     ·cases h
    ·cases h
   ·cases h
  ·cases h
 ·split at h
  ·rename_i a8 hu ak aL
   split at h
   ·rename_i ah
    split at h
    ·rename_i l7 rL ab
     simp only[Bool.and_eq_true]at ab;cases h;simp only[Bool.and_eq_true]at aa;exact aaY av (zj av ab.1) rfl ⟨rfl,rfl⟩ a8 rfl hu ak aa.1 l7 aa.2.1 ab.2.1 aL aa.2.2.1 ah rL aa.2.2.2 ab.2.2
    ·cases h
   ·cases h
  ·cases h
 ·split at h
  ·rename_i ax a8 hu ak
   split at h
   ·rename_i ah ab he
    split at h
    ·rename_i ay aS _ _ _ bG l1
     subst ay;subst aS;cases h;exact ZE av rfl ⟨rfl,rfl⟩ ax a8 rfl ab rfl he (OM (b9.get av he) bG) hu ak aa ah l1
    ·cases h
   ·cases h
  ·cases h
 ·split at h
  ·rename_i ax a8 hu ak
   split at h
   ·rename_i ah ab he _
    split at h
    ·rename_i ay aS _ _ bG
     subst ay;subst aS;cases h;rw[Bool.and_eq_true]at aa;exact ZS av rfl ⟨rfl,rfl⟩ ax a8 rfl ab rfl he (OM (b9.get av he) bG) hu ak aa.1 ah (by rw[aa2 aa.2]; rfl)
    ·cases h
   ·cases h
  ·cases h
 ·split at h
  ·rename_i a8 hu ak aL
   split at h
   ·rename_i ah ab
    split at h
    ·rename_i ay aS _ _ _ _ rL an
     subst ay;subst aS;cases h;simp only[Bool.and_eq_true]at aa;exact ZU av rfl ⟨rfl,rfl⟩ a8 rfl ab rfl hu ak aa.1 aL aa.2.1 ah rL aa.2.2 an
    ·cases h
   ·cases h
  ·cases h
 ·split at h
  ·rename_i ax a8 hu
   split at h
   ·rename_i cr ah
    cases h;exact aa4 av rfl ⟨rfl,rfl⟩ ax a8 rfl hu ah aa cr
   ·cases h
  ·cases h
 ·split at h
  ·rename_i ax hu
   split at h
   ·rename_i hi
    split at h
    ·rename_i ah
     cases h;exact aa5 rfl ⟨rfl,rfl⟩ ax hu hi ah
    ·cases h
   ·cases h
  ·cases h
 ·split at h
  ·rename_i ax a8 hu
   split at h
   ·rename_i ah
    cases h;exact aa7 av rfl ⟨rfl,rfl⟩ ax a8 rfl hu ah
   ·cases h
  ·cases h
 ·split at h
  ·rename_i ax uI a8 ak aL
   split at h
   ·rename_i he ah
    split at h
    ·rename_i U ag aq aE
     have aS:=Nat.eq_of_beq_eq_true U;have cz:=Nat.eq_of_beq_eq_true uI;subst aS;subst cz;cases h;simp only[Bool.and_eq_true]at aa;exact aa9 av rfl ⟨rfl,rfl⟩ ax a8 rfl he ak aa.1 aL aa.2.1 ah ag aq aE aa.2.2
    ·cases h
   ·cases h
  ·cases h
 ·cases h
theorem abc{m:oE} {c:Bool} {V:List Nat} (h:zl X n st m o=some (c,st',V)):cZ V st st':=by
 unfold zl at h
 split at h
 ·split at h
  ·cases h
   exact⟨cp.cons (kC _ _ _),cp.cons (V:=[]) (jR _ _ _)⟩
  ·cases h
 ·split at h
  ·cases h
   exact⟨cp.cons (kC _ _ _),cp.cons (V:=[]) (jR _ _ _)⟩
  ·cases h
 ·split at h
  ·split at h
   ·split at h
    ·split at h
     ·cases h; exact oC
     ·cases h
    ·cases h
   ·cases h
  ·cases h
 ·split at h
  ·split at h
   ·split at h
    ·cases h; exact⟨cp.refl _,j7 (j8 _ _)⟩
    ·cases h
   ·cases h
  ·cases h
 ·split at h
  ·split at h
   ·split at h
    ·cases h; exact oC
    ·cases h
   ·cases h
  ·cases h
 ·split at h
  ·split at h
   ·split at h
    ·cases h; exact oC
    ·cases h
   ·cases h
  ·cases h
 ·split at h
  ·split at h
   ·split at h
    ·cases h; exact⟨cp.refl _,j7 (j8 _ _)⟩
    ·cases h
   ·cases h
  ·cases h
 ·split at h
  ·split at h
   ·cases h
    exact⟨cp.cons (kC _ _ _),cp.cons (cp.trans (V:=[_]) (V2:=[]) (j7 (j8 _ _)) (jR _ _ _))⟩
   ·cases h
  ·cases h
 ·split at h
  ·split at h
   ·split at h
    ·cases h; exact oC
    ·cases h
   ·cases h
  ·cases h
 ·split at h
  ·split at h
   ·cases h; exact oC
   ·cases h
  ·cases h
 ·split at h
  ·split at h
   ·split at h
    ·cases h
     exact⟨cp.cons (cp.refl _),(j7 (j8 _ _)).more fun q ar=>(fY ar).2⟩
    ·cases h
   ·cases h
  ·cases h
 ·cases h
end
section
variable {X:bs} {n:Nat} {st st':aO} {d:Nat} {o:Oper}
def uJ(X:bs) (n:Nat) (st:aO):oE->Oper->Option (Bool×aO×List Nat)
 | .HG,⟨some d,.load t x,_,_,_,none⟩=>match Nat.blt d n,X.tt.find t,bp X st.L x with
  | true,some bw,some (g1,.c (.eG id 1 i 0))=>match lR bw.bq.desc,Nat.beq d id,bd st.H id with
   | false,false,some (.b2 T T' g l cap none)=>some (g1&&(decide (i < l.length)&&(l.getD i (false,[])).1),⟨(d,.c (.ai d)) :: fK d .dead st.L,(d,.row T' g (l.getD i (false,[])).2 none) :: eM id (.b2 T T' g l cap (some (i,some d))) (ef d .dead st.H)⟩,[d,id])
   | false,_,some (.b2 _ _ _ _ _ (some (j,some d2)))=>some (g1&&decide (i=j),⟨(d,.c (.ai d2)) :: st.L,st.H⟩,[d])
   | _,_,_=>none
  | _,_,_=>none
 | .st,⟨none,.store t x y,_,_,_,none⟩=>match X.tt.find t,bp X st.L x,bp X st.L y with
  | some bw,some (g1,.c (.eG id 1 i 0)),some (g2,.c (.ai d))=>match Nat.beq bw.bq.size 1,bd st.H id with
   | true,some (.b2 T T' g l cap h)=>some (g1&&(g2&&(uB h i&&decide (i < l.length))),⟨st.L,eM id (.b2 T T' g l cap (some (i,some d))) st.H⟩,[id])
   | _,_=>none
  | some bw,some (g1,.c (.eG id 1 i 0)),some (g2,.c (.bk g' l2 _))=>match Nat.beq bw.bq.size 1,bd st.H id with
   | true,some (.b2 T T' g l cap h)=>match decEq g' g with
    | isTrue e=>some (g1&&(g2&&(uB h i&&decide (i < l.length))),⟨st.L,eM id (.b2 T T' g (l.set i (false,ox e l2)) cap none) st.H⟩,[id])
    | isFalse _=>none
   | _,_=>none
  | _,_,_=>none
 | .mk,⟨some d,.makeSlice t x y,_,_,_,none⟩=>match Nat.blt d n,X.tt.find t,bp X st.L x,bp X st.L y with
  | true,some ⟨⟨.slice e,_,_,_⟩,_⟩,some (g1,.c (.val (.int _ h7))),some (g2,.c (.val (.int _ hx)))=>match X.tt.find e with
   | some ⟨⟨.slice T',_,gU,_⟩,some (.ai g)⟩=>some (g1&&(g2&&(decide (0<=h7)&&decide (h7<=hx)&&gd gU hx)),⟨(d,.c (.ai d)) :: fK d .dead st.L,(d,.b2 e T' g (List.replicate h7.toNat (true,[])) (some hx.toNat) none) :: ef d .dead st.H⟩,[d])
   | _=>none
  | _,_,_,_=>none
 | m,o=>zl X n st m o
theorem HJ(av:X.tt.ok X.P) {m:oE} {c:Bool} {V:List Nat} (h:uJ X n st m o=some (c,st',V)) (aa:c=true):gp X n o st st':=by
 unfold uJ at h
 split at h
 ·split at h
  ·rename_i ax a8 ak
   split at h
   ·rename_i aX aV ah
    cases h;simp only[Bool.and_eq_true]at aa;exact aaZ av rfl ⟨rfl,rfl⟩ ax a8 aX ak aa.1 ah aV aa.2.1 aa.2.2
   ·rename_i aX ah
    cases h;simp only[Bool.and_eq_true]at aa;exact ix.qs (Of av rfl a8 aX ak aa.1 ah aa.2) ⟨rfl,rfl⟩ ax
   ·cases h
  ·cases h
 ·split at h
  ·rename_i a8 ak aL
   split at h
   ·rename_i an ah
    cases h;simp only[Bool.and_eq_true]at aa;exact Oh av rfl ⟨rfl,rfl⟩ a8 an ak aa.1 aL aa.2.1 ah aa.2.2.1 aa.2.2.2
   ·cases h
  ·rename_i a8 ak aL
   split at h
   ·rename_i an ah
    split at h
    ·rename_i e _
     subst e;cases h;simp only[Bool.and_eq_true]at aa;exact aam av rfl ⟨rfl,rfl⟩ a8 an ak aa.1 aL aa.2.1 ah aa.2.2.1 aa.2.2.2
    ·cases h
   ·cases h
  ·cases h
 ·split at h
  ·rename_i ax a8 ak aL
   split at h
   ·rename_i he
    cases h;rw[Bool.and_eq_true,Bool.and_eq_true]at aa;exact aa0 _ _ av rfl ⟨rfl,rfl⟩ ax a8 rfl he rfl ak aa.1 aL aa.2.1 aa.2.2
   ·cases h
  ·cases h
 ·exact abb av h aa
theorem HK{m:oE} {c:Bool} {V:List Nat} (h:uJ X n st m o=some (c,st',V)):cZ V st st':=by
 unfold uJ at h
 split at h
 ·split at h
  ·split at h
   ·cases h
    exact⟨cp.cons (kC _ _ _),cp.cons (cp.trans (V:=[]) (V2:=[_]) (jR _ _ _) (j7 (j8 _ _)))⟩
   ·cases h
    exact oC
   ·cases h
  ·cases h
 ·split at h
  ·split at h
   ·cases h; exact⟨cp.refl _,j7 (j8 _ _)⟩
   ·cases h
  ·split at h
   ·split at h
    ·cases h; exact⟨cp.refl _,j7 (j8 _ _)⟩
    ·cases h
   ·cases h
  ·cases h
 ·split at h
  ·split at h
   ·cases h
    exact⟨cp.cons (kC _ _ _),cp.cons (V:=[]) (jR _ _ _)⟩
   ·cases h
  ·cases h
 ·exact abc h
end
end
section
def pG:List Bool->Bool->Bool
 | [],x=>x
 | c :: r,x=>pG r (c&&x)
theorem l8:∀ {A:List Bool} {x:Bool},pG A x=true->(∀ c∈A,c=true)/\x=true
 | [],_,h=>⟨(fun _ h=>by cases h),h⟩
 | c :: r,x,h=>by
  obtain⟨J,U⟩:=l8 (A:=r) h;simp only[Bool.and_eq_true]at U;refine⟨fun d ax=>?_,U.2⟩
  rcases List.mem_cons.1 ax with rfl | ax
  ·exact U.1
  ·exact J d ax
inductive In where
 | n (k:Nat)
 | w (x:lF)
 | c (ps:ec)
 | y
 | t (m:oE)
 | f (j:Nat) (ks:List Int)
abbrev kE (aR:Type):=Option (Nat->List bl->Option aR->Option aR->Option aR)
def zm:Option b3->Option Nat
 | some (.a (.c (.val (.func (.yield l) ⟨[]⟩ ⟨[]⟩))))=>some l
 | _=>none
def rM(L:cX):Operand->Option (FuncId×List bl×List bl)
 | .func f=>some (f,[],[])
 | .tmp s=>match bd L s with
  | some (.a (.c (.fn f ids)))=>some (f,[],pk ids)
  | some (.a (.c (.iH f id)))=>some (f,[.c (.ptr id 0)],[])
  | _=>none
 | _=>none
def takeN{α:Type}:Nat->List α->List α
 | 0,_=>[]
 | _,[]=>[]
 | k+1,x :: l=>x :: takeN k l
def CF{α:Type}:Nat->List α->List α
 | 0,l=>l
 | _,[]=>[]
 | k+1,_ :: l=>CF k l
section
variable {X:bs} {aR:Type}
def zn(X:bs) (n:Nat) (f:FuncId) (ps:ec) (d:Nat) (st:aO) (args:List bl) (k:aO->Option aR):List (bC X)->Option aR
 | []=>none
 | e :: T=>match Nat.beq e.f f with
  | true=>match sM X n e ps st.H args with
   | some p=>(e.m p.d).bind fun r=>match after X e ps st d p r with
    | some st'=>k st'
    | none=>none
   | none=>zn X n f ps d st args k T
  | false=>zn X n f ps d st args k T
abbrev oF (aR:Type):=fG->List Nat->List Bool->aO->Option aR
def uK(X:bs) (n:Nat) (T:List (bC X)) (ps:ec) (V:List Nat) (A:List Bool) (st:aO) (k:oF aR):Oper->Option aR
 | ⟨some d,.call ⟨.value u,⟨xs⟩,_⟩,_,_,_,none⟩=>match Nat.blt d n,rM st.L u,qe X st.L xs with
  | true,some (f,pre,post),some (c,args)=>au (pG (c :: A) true) (zn X n f ps d st (pre++(args++post)) (fun st'=>k [] (d :: (kx ps++V)) [] st') T)
  | _,_,_=>none
 | _=>none
def zo(X:bs) (n:Nat) (f:FuncId) (d:Nat) (g:Bool) (st:aO) (args:List bl) (k:bl->Option aR):List (bC X)->Option aR
 | []=>none
 | e :: T=>match Nat.beq e.f f with
  | true=>match sM X n e [] st.H args with
   | some p=>(cond g (e.m p.d) (some e.oz)).bind fun r=>match after X e [] st d p r,(e.out p.d r).2 with
    | some ⟨(_,.a bx) :: _,_⟩,[]=>k bx
    | _,_=>none
   | none=>zo X n f d g st args k T
  | false=>zo X n f d g st args k T
def w6(X:bs) (n:Nat) (T:List (bC X)) (df:List (Option Nat)) (G:fG) (V:List Nat) (A:List Bool) (st:aO) (k:oF aR):Oper->Option aR
 | ⟨some d,.call ⟨.value u,⟨xs⟩,_⟩,_,_,_,some (j,want)⟩=>match nth df j with
  | some (some s)=>match jS st.L s want with
   | some g=>match Nat.blt d n,Nat.beq s d,rM (kD (sS df G 8 j want) G st.L) u,qe X (kD (sS df G 8 j want) G st.L) xs with
    | true,false,some (f,pre,post),some (c,args)=>au (pG (eo g c :: A) true) (zo X n f d g st (pre++(args++post)) (fun bx=>k ((d,j,want) :: nk df d G) (d :: V) [] ⟨(d,.may g bx) :: st.L,st.H⟩) T)
    | _,_,_,_=>none
   | none=>none
  | _=>none
 | _=>none
def zp(X:bs) (n:Nat) (T:List (bC X)) (df:List (Option Nat)) (G:fG) (V:List Nat) (A:List Bool) (st:aO) (o:Oper) (k:oF aR):Option aR:=match o.guard with
 | none=>match sT X df [] G st o.op with
  | some (c,bx)=>match o.dst with
   | some d=>match Nat.blt d n with
    | true=>k (nk df d G) (d :: V) (c :: A) ⟨(d,.a bx) :: st.L,st.H⟩
    | false=>none
   | none=>none
  | none=>match uH X n st o with
   | some (c,st',W)=>k [] (W++V) (c :: A) st'
   | none=>match oo X n df st o with
    | .ok c st'=>k [] (uF X st.L o++V) (c :: A) st'
    | .stop=>uK X n T [] V A st k o
 | some (j,want)=>match nth df j with
  | some (some s)=>match jS st.L s want with
   | some g=>match sT X df (sS df G 8 j want) G st o.op with
    | some (c,bx)=>match o.dst with
     | some d=>match Nat.blt d n,Nat.beq s d with
      | true,false=>k ((d,j,want) :: nk df d G) (d :: V) (eo g c :: A) ⟨(d,.may g bx) :: st.L,st.H⟩
      | _,_=>none
     | none=>none
    | none=>w6 X n T df G V A st k o
   | none=>none
  | _=>none
def zq(X:bs) (n:Nat) (T:List (bC X)) (df:List (Option Nat)):List Oper->fG->List Nat->List Bool->aO->oF aR->Option aR
 | [],G,V,A,st,k=>k G V A st
 | o :: l,G,V,A,st,k=>zp X n T df G V A st o fun fi fj bP st'=>zq X n T df l fi fj bP st' k
def HL(X:bs) (n:Nat) (cf:kE aR) (st:aO) (A:List Bool) (o:Oper) (k:Nat->aO->Option aR):Option aR:=match cf,o with
 | some em,⟨some d,.call ⟨.value (.tmp s),⟨xs⟩,_⟩,_,_,_,none⟩=>match Nat.blt d n,zm (bd st.L s),qe X st.L xs with
  | true,some l,some (c,args)=>au (pG (c :: A) true) (em l args (k d ⟨(d,.c (.val (.bool false))) :: st.L,st.H⟩) (k d ⟨(d,.c (.val (.bool true))) :: st.L,st.H⟩))
  | _,_,_=>none
 | _,_=>none
def CG{aR:Type} (z:Int):List Int->(Int->Option aR)->Option aR
 | [],_=>none
 | q :: jd,f=>cond (decide (z=q)) (f q) (CG z jd f)
def j9(X:bs) (n:Nat) (T:List (bC X)) (cf:kE aR) (df:List (Option Nat)):List In->List Oper->fG->List Nat->List Bool->aO->(List Nat->aO->Option aR)->Option aR
 | [],ops,G,V,A,st,k=>zq X n T df ops G V A st fun _ fj bP st'=>au (pG bP true) (k fj st')
 | .n m :: is,ops,G,V,A,st,k=>zq X n T df (takeN m ops) G V A st fun fi fj bP st'=>j9 X n T cf df is (CF m ops) fi fj bP st' k
 | .w x :: is,ops,_,V,A,st,k=>match wY n x st with
  | some (c,st')=>j9 X n T cf df is ops [] (x.wW++V) (c :: A) st' k
  | none=>none
 | .c ps :: is,o :: ops,_,V,A,st,k=>uK X n T ps V A st (fun fi fj bP st'=>j9 X n T cf df is ops fi fj bP st' k) o
 | .c _ :: _,[],_,_,_,_,_=>none
 | .y :: is,o :: ops,_,V,A,st,k=>HL X n cf st A o fun d st'=>j9 X n T cf df is ops [] (d :: V) [] st' k
 | .t m :: is,o :: ops,_,V,A,st,k=>match uJ X n st m o with
  | some (c,st',W)=>j9 X n T cf df is ops [] (W++V) (c :: A) st' k
  | none=>none
 | .f j ks :: is,ops,_,V,A,st,k=>match bd st.L j with
  | some (.a (.c (.val (.int ou z))))=>au (pG A true) (CG z ks fun q=>j9 X n T cf df is ops [] (j :: V) [] ⟨(j,.a (.c (.val (.int ou q)))) :: st.L,st.H⟩ k)
  | _=>none
 | .y :: _,[],_,_,_,_,_=>none
 | .t _ :: _,[],_,_,_,_,_=>none
variable {M:Bool} {n:Nat} {rr:Option Nat} {T:List (bC X)} {st0 st st':aO} {Q:Exit->aO->Prop} {ops l rest:List Oper} {o:Oper} {r:aR} {V:List Nat} {A:List Bool}
def CH(k:oF aR) (r:aR):Prop:=∀ G V A st,k G V A st=some r->∀ c∈A,c=true
theorem HM{f:FuncId} {xs:List Operand} {pre post args:List bl} {ps:ec} {d:Nat} {c:Bool} {k:aO->Option aR} (uw:Callee X st o f xs pre post) (bg:o.guard=none/\o.dst=some d) (ax:Nat.blt d n=true) (rC:qe X st.L xs=some (c,args)) (aa:c=true):∀ {T:List (bC X)},zn X n f ps d st (pre++(args++post)) k T=some r->∃ st',sN X n o (uv st.H ps) st st'/\cZ (d :: kx ps) st st'/\k st'=some r
 | [],h=>by cases h
 | e :: T,h=>by
  unfold zn at h
  split at h
  ·rename_i az
   have gR:=Nat.eq_of_beq_eq_true az;subst gR
   split at h
   ·rename_i p ao
    obtain⟨q,ar,h⟩:=hl h
    split at h
    ·rename_i gK aX
     exact⟨gK,NU e ps uw bg ax (.of rC aa) ao ar aX,aaP ao aX,h⟩
    ·cases h
   ·exact HM uw bg ax rC aa h
  ·exact HM uw bg ax rC aa h
theorem OO{u:Operand} {xs:List Operand} {fN:Array TypeId} {f:FuncId} {pre post:List bl} (aA:o.op=.call { callee:=.value u,args:=xs.toArray,argTypes:=fN }) (h:rM st.L u=some (f,pre,post)):Callee X st o f xs pre post:=by
 refine⟨fN,?_⟩;unfold rM at h
 split at h
 ·cases h; exact .inl ⟨aA,rfl,rfl⟩
 ·split at h
  ·rename_i e; cases h; exact .inr (.inl ⟨_,_,aA,e,rfl,rfl⟩)
  ·rename_i e; cases h; exact .inr (.inr ⟨_,_,aA,e,rfl,rfl⟩)
  ·cases h
 ·cases h
theorem sV{ps:ec} {k:oF aR} (aN:cZ V st0 st) (h:uK X n T ps V A st k o=some r):(∀ c∈A,c=true)/\∃ st' fj,sN X n o (uv st.H ps) st st'/\cZ fj st0 st'/\k [] fj [] st'=some r:=by
 unfold uK at h
 split at h
 ·rename_i d u xs fN t p a
  split at h
  ·rename_i f pre post c args ax kU rC
   obtain⟨aa,h⟩:=iq h;have dE:=(l8 aa).1;obtain⟨st',J,U,ag⟩:=HM (o:=⟨some d,.call ⟨.value u,⟨xs⟩,fN⟩,t,p,a,none⟩) (OO rfl kU) ⟨rfl,rfl⟩ ax rC (dE c List.mem_cons_self) h;exact⟨fun c aa=>dE c (List.mem_cons_of_mem _ aa),st',_,J,by have:=aN.trans U; exact this,ag⟩
  ·cases h
 ·cases h
theorem HN{f:FuncId} {d:Nat} {g:Bool} {args:List bl} {k:bl->Option aR} {r:aR}:∀ {T:List (bC X)},zo X n f d g st args k T=some r->∃ (e:bC X) (p:wR X e) (q:e.aR) (bx:bl),e.f=f/\sM X n e [] st.H args=some p/\(g=true->e.m p.d=some q)/\after X e [] st d p q=some ⟨(d,.a bx) :: st.L,st.H⟩/\k bx=some r
 | [],h=>by cases h
 | e :: T,h=>by
  unfold zo at h
  split at h
  ·rename_i az
   split at h
   ·rename_i p ao
    obtain⟨q,ar,h⟩:=hl h
    split at h
    ·rename_i d2 bx Cq H2 aX bg
     refine⟨e,p,q,bx,Nat.eq_of_beq_eq_true az,ao,fun aQ=>by rw[aQ]at ar; exact ar,?_,h⟩;have J:H2=st.H/\Cq=st.L/\d2=d:=by
      unfold sM at ao
      split at ao
      ·rename_i GN J H1 mw NV l5
       split at ao
       ·split at ao
        ·cases ao
         have dt:H1=st.H:=by
          cases OP:e.eN with
          | nil=>rw[OP]at l5; cases l5; rfl
          | cons q _=>rw[OP]at l5; cases l5
         unfold after at aX;rw[bg]at aX
         split at aX
         ·rename_i nc nJ ay aS
          cases aS;cases aX;exact⟨rfl,rfl,rfl⟩
         ·cases aX
        ·cases ao
       ·cases ao
      ·cases ao
     obtain⟨rfl,rfl,rfl⟩:=J;exact aX
    ·cases h
   ·exact HN h
  ·exact HN h
theorem OQ{G:fG} {k:oF aR} (h:w6 X n T (e1 ops) G V A st k o=some r):∀ c∈A,c=true:=by
 unfold w6 at h
 split at h
 ·split at h
  ·split at h
   ·split at h
    ·obtain⟨aa,h⟩:=iq h
     exact fun c hm=>(l8 aa).1 c (List.mem_cons_of_mem _ hm)
    ·cases h
   ·cases h
  ·cases h
 ·cases h
theorem abd{df:List (Option Nat)} {G:fG} {ps:List (Nat×Bool)} {u:Operand} {c:FuncId×List bl×List bl} (bR:ez df G st.L) (ao:∀ p∈ps,nQ df st.L p) (h:rM (kD ps G st.L) u=some c) :
  ∃ gK:aO,gK.H=st.H/\rM gK.L u=some c/\(∀ {R W aJ ks env B al H a w},bH X R W aJ n ks env B al H st a w->bH X R W aJ n ks env B al H gK a w)/\(∀ {R W aJ ks env B al H a w},bH X R W aJ n ks env B al H gK a w->bH X R W aJ n ks env B al H st a w) /\
   ∀ {d:Nat} {bx:bl} {R W aJ ks env B al H a w},bH X R W aJ n ks env B al H ⟨(d,.a bx) :: gK.L,gK.H⟩ a w->bH X R W aJ n ks env B al H ⟨(d,.a bx) :: st.L,st.H⟩ a w:=by
 cases u with
 | tmp s=>
  unfold rM at h;dsimp only at h;cases ah:bd (kD ps G st.L) s with
  | none=>rw[ah]at h; cases h
  | some sv=>
   rcases aaI bR ao s sv ah with J | ⟨x,rfl,J⟩
   ·exact⟨st,rfl,by unfold rM; dsimp only; rw[J]; rw[ah]at h; exact h,fun h=>h,fun h=>h,fun h=>h⟩
   ·have key:∀ {L:cX} {R W aJ ks env B al H a w},(∀ q,q≠s->bd L q=bd ((s,b3.a x) :: L) q)->bH X R W aJ n ks env B al H ⟨(s,.a x) :: L,st.H⟩ a w->bd L s=some (.may true x)->bH X R W aJ n ks env B al H ⟨L,st.H⟩ a w:=fun {L} _ _ _ _ _ _ _ _ _ _ _ aj an=>⟨aj.size,aj.defs,fun q sv ar=>by
     by_cases e:q=s
     ·subst e
      rw[an]at ar;cases ar;obtain⟨v,oj,lh⟩:=aj.has q (.a x) (by rw[cI,if_pos rfl]);exact⟨v,oj,fun _=>lh,fun h=>by cases h⟩
     ·exact aj.has q sv (by rw[cI,if_neg e]; exact ar),aj.heap,aj.aM,aj.sub,aj.new,aj.dL,aj.base,aj.et⟩
    refine⟨⟨(s,.a x) :: st.L,st.H⟩,rfl,?_,fun aj=>⟨aj.size,aj.defs,fun q sv ar=>?_,aj.heap,aj.aM,aj.sub,aj.new,aj.dL,aj.base,aj.et⟩,fun aj=>key (fun q ar=>by rw[cI,if_neg ar]) aj J,fun {d bx} _ _ _ _ _ _ _ _ _ _ aj=>⟨aj.size,aj.defs,fun q sv ar=>?_,aj.heap,aj.aM,aj.sub,aj.new,aj.dL,aj.base,aj.et⟩⟩
    ·unfold rM
     dsimp only;rw[cI,if_pos rfl];rw[ah]at h;exact h
    ·rw[cI]at ar
     split at ar
     ·rename_i e
      subst e;cases ar;obtain⟨v,oj,lh⟩:=aj.has _ _ J;exact⟨v,oj,lh.1 rfl⟩
     ·exact aj.has q sv ar
    ·rw[cI]at ar
     split at ar
     ·rename_i e
      subst e;cases ar;exact aj.has _ _ (by rw[cI,if_pos rfl])
     ·rename_i e
      by_cases aS:q=s
      ·subst aS
       rw[J]at ar;cases ar;obtain⟨v,oj,lh⟩:=aj.has q (.a x) (by rw[cI,if_neg e,cI,if_pos rfl]);exact⟨v,oj,fun _=>lh,fun h=>by cases h⟩
      ·exact aj.has q sv (by rw[cI,if_neg e,cI,if_neg aS]; exact ar)
 | func f=>exact⟨st,rfl,h,fun h=>h,fun h=>h,fun h=>h⟩
 | _=>cases h
theorem abe{e:bC X} {gK:aO} {d:Nat} {p:wR X e} {q:e.aR} {bx:bl} (dt:gK.H=st.H) (aX:after X e [] st d p q=some ⟨(d,.a bx) :: st.L,st.H⟩):after X e [] gK d p q=some ⟨(d,.a bx) :: gK.L,gK.H⟩:=by
 unfold after at aX ⊢
 split at aX
 ·rename_i nc nJ ay aS
  dsimp only at aX ⊢;have ag:=Option.some.inj aX;have aq:(d,nc) :: st.L=(d,b3.a bx) :: st.L:=congrArg aO.L ag;have aE:nJ++st.H=st.H:=congrArg aO.H ag;rw[dt,aE];have bb:nc=b3.a bx:=by
   have:=(List.cons.inj aq).1
   exact(Prod.mk.inj this).2
  rw[bb]
 ·cases aX
theorem OR{G:fG} {k:oF aR} (bR:ez (e1 ops) G st.L) (aN:cZ V st0 st) (h:w6 X n T (e1 ops) G V A st k o=some r):∃ (d:Nat) (g:Bool) (bx:bl) (fi:fG),ez (e1 ops) fi ((d,.may g bx) :: st.L)/\cZ (d :: V) st0 ⟨(d,.may g bx) :: st.L,st.H⟩/\k fi (d :: V) [] ⟨(d,.may g bx) :: st.L,st.H⟩=some r /\
  ∀ (R:Nat->Prop) (W:World) (aJ:e0) (ks:List Nat) (env:Nat->Loc) (B:Nat->Prop) (al:World) (H:List bf) (a:Act) (w:World),bH X R W aJ n ks env B al H st a w->∀ (KK:Act->World->Prop),
   (∀ aP w' env' B' cC H',bH X R W aJ n ks env' B' cC H' ⟨(d,.may g bx) :: st.L,st.H⟩ aP w'->(∀ k,B k->B' k)->c6 (fun k=>R k\/B k) al cC->KK aP w')->eS X.P ops.toArray o KK a w:=by
 unfold w6 at h
 split at h
 ·rename_i d u xs fN ty po af j want
  split at h
  ·rename_i s aH
   split at h
   ·rename_i g aQ
    split at h
    ·rename_i f pre post c args ax sW kU rC
     obtain⟨aa,h⟩:=iq h;have dE:=(l8 aa).1;obtain⟨e,pp,q,bx,az,ao,ar,aX,ab⟩:=HN h;subst az;have cr:s≠d:=Nat.ne_of_beq_eq_false sW;have rN:ez (e1 ops) ((d,j,want) :: nk (e1 ops) d G) ((d,.may g bx) :: st.L):=fun e he=>by
      rcases List.mem_cons.1 he with rfl | he
      ·exact⟨s,g,bx,aH,by rw[Cw cr]; exact aQ,by rw[cI,if_pos rfl]⟩
      ·exact bR.drop d _ e he
     refine⟨d,g,bx,_,rN,⟨cp.cons aN.1,aN.2.more fun q ar=>(fY ar).2⟩,ab,?_⟩;intro R W aJ ks env B al H a w aj KK bQ;have hw:=Hx (l:=ops) (o:=⟨some d,.call ⟨.value u,⟨xs⟩,fN⟩,ty,po,af,some (j,want)⟩) aj rfl aH aQ;have put:∀ v,cT n (j2 ks aJ) ((d,v) :: gm a) (a.put (some d) v):=fun v=>aj.bZ.put d v (dY ax)
     cases g with
     | false=>exact .inr ⟨hw,bQ _ _ _ _ _ _ (aj.set (sv:=.may false bx) ⟨(fun h=>by cases h),fun _=>rfl⟩ (put undef)) (fun _ h=>h) (c6.refl _ _)⟩
     | true=>
      have OS:∀ p∈sS (e1 ops) G 8 j want,nQ (e1 ops) st.L p:=Cx bR ⟨s,aH,aQ⟩;obtain⟨gK,sP,abf,oG,abg,abh⟩:=abd (X:=X) (n:=n) bR OS kU;have abi:Cl X n gK xs args:=fun _ _ _ _ _ _ _ _ _ _ aj=>yE ((abg aj).view bR OS) rC (y9 (dE _ List.mem_cons_self) rfl)
      have J:=NU (o:=⟨some d,.call ⟨.value u,⟨xs⟩,fN⟩,ty,po,af,none⟩) e [] (OO rfl abf) ⟨rfl,rfl⟩ ax abi (by rw[sP]; exact ao) (ar rfl) (abe sP aX) R W aJ ks env B al H a w (oG aj) KK ops fun aP w' env' B' cC H' fQ gL jN _=>by
       have ck:=abh fQ;have oB:=ck.has d (.a bx) (by rw[cI,if_pos rfl]);obtain⟨v,oj,lh⟩:=oB;refine bQ _ _ _ _ _ _ ⟨ck.size,ck.defs,fun q sv an=>?_,ck.heap,ck.aM,ck.sub,ck.new,ck.dL,ck.base,ck.et⟩ gL jN
       by_cases CI:q=d
       ·subst CI
        rw[cI,if_pos rfl]at an;cases an;exact⟨v,oj,fun _=>lh,fun h=>by cases h⟩
       ·exact ck.has q sv (by rw[cI,if_neg CI]at an ⊢; exact an)
      rcases J with⟨_,U⟩ | ⟨U,_⟩
      ·exact .inl ⟨hw,U⟩
      ·simp[Region.wanted]at U
    ·cases h
   ·cases h
  ·cases h
 ·cases h
theorem abj{G:fG} {k:oF aR} (ab:CH k r) (h:zp X n T (e1 ops) G V A st o k=some r):∀ c∈A,c=true:=by
 unfold zp at h
 split at h
 ·split at h
  ·split at h
   ·split at h
    ·exact fun c aa=>ab _ _ _ _ h c (List.mem_cons_of_mem _ aa)
    ·cases h
   ·cases h
  ·split at h
   ·exact fun c aa=>ab _ _ _ _ h c (List.mem_cons_of_mem _ aa)
   ·split at h
    ·exact fun c aa=>ab _ _ _ _ h c (List.mem_cons_of_mem _ aa)
    ·exact(sV (cZ.refl (V:=V) st) h).1
 ·split at h
  ·split at h
   ·split at h
    ·split at h
     ·split at h
      ·exact fun c aa=>ab _ _ _ _ h c (List.mem_cons_of_mem _ aa)
      ·cases h
     ·cases h
    ·exact OQ h
   ·cases h
  ·cases h
theorem CJ{k:oF aR} (ab:CH k r):∀ {l:List Oper} {G:fG} {V:List Nat} {A:List Bool} {st:aO},zq X n T (e1 ops) l G V A st k=some r->∀ c∈A,c=true
 | [],G,V,A,st,h=>ab _ _ _ _ h
 | o :: l,G,V,A,st,h=>abj (fun _ _ _ _ aK=>CJ ab aK) h
def HO(X:bs) (n:Nat) (ops:List Oper) (o:Oper) (st st':aO):Prop:=∀ (R:Nat->Prop) (W:World) (aJ:e0) (ks:List Nat) (env:Nat->Loc) (B:Nat->Prop) (al:World) (H:List bf) (a:Act) (w:World),bH X R W aJ n ks env B al H st a w->∀ (KK:Act->World->Prop),
 (∀ aP w' env' B' cC H',bH X R W aJ n ks env' B' cC H' st' aP w'->KK aP w')->eS X.P ops.toArray o KK a w
theorem sN.CK{kp:bf->Bool} (h:sN X n o kp st st'):HO X n ops o st st':=fun R W aJ ks env B al H a w aj KK bQ=>h R W aJ ks env B al H a w aj KK ops fun aP w' env' B' cC H' ck _ _ _=>bQ aP w' env' B' cC H' ck
structure CL(X:bs) (n:Nat) (ops:List Oper) (Z:List Oper->aR->aO->Prop):Prop where
 step:∀ {o rest r st st'},HO X n ops o st st'->Z rest r st'->Z (o :: rest) r st
 e6:∀ {l r st st'},fq X n st st'->Z l r st'->Z l r st
def CM(X:bs) (n:Nat) (ops:List Oper) (o:Oper) (st:aO):Prop:=∀ {R:Nat->Prop} {W:World} {aJ:e0} {ks:List Nat} {env:Nat->Loc} {B:Nat->Prop} {al:World} {H:List bf} {a:Act} {w:World},bH X R W aJ n ks env B al H st a w->Region.wanted o (yielded ops.toArray a.tmps)=true
theorem CM.none{ops:List Oper} {o:Oper} {st:aO} (h:o.guard=none):CM X n ops o st:=fun _=>by simp[Region.wanted,h]
def OT(X:bs) (n:Nat) (ops:List Oper) (cf:kE aR) (Z:List Oper->aR->aO->Prop):Prop:=∀ em,cf=some em->∀ {l:Nat} {args:List bl} {f t:Option aR} {r:aR},em l args f t=some r->∃ nR rt,f=some nR/\t=some rt/\∀ {o:Oper} {rest:List Oper} {st:aO} {d s:Nat} {xs:List Operand} {fN:Array TypeId} {c:Bool},o.op=.call { callee:=.value (.tmp s),args:=xs.toArray,argTypes:=fN }->CM X n ops o st/\o.dst=some d->Nat.blt d n=true->zm (bd st.L s)=some l->qe X st.L xs=some (c,args)->c=true ->
 Z rest nR ⟨(d,.c (.val (.bool false))) :: st.L,st.H⟩->Z rest rt ⟨(d,.c (.val (.bool true))) :: st.L,st.H⟩->Z (o :: rest) r st
variable {Z:List Oper->aR->aO->Prop}
theorem abk(av:X.tt.ok X.P) (iB:CL X n ops Z) {G:fG} (bR:ez (e1 ops) G st.L) (aN:cZ V st0 st) {k:oF aR} (dJ:CH k r) (h:zp X n T (e1 ops) G V A st o k=some r) (ab:∀ fi fj bP st',ez (e1 ops) fi st'.L->cZ fj st0 st'->k fi fj bP st'=some r->Z rest r st'):Z (o :: rest) r st:=by
 have one:∀ {d:Nat} {sv:b3},cZ (d :: V) st0 ⟨(d,sv) :: st.L,st.H⟩:=fun {d sv}=>⟨cp.cons aN.1,aN.2.more fun q ar=>(fY ar).2⟩
 unfold zp at h
 split at h
 ·rename_i dS
  split at h
  ·rename_i c bx ay
   split at h
   ·rename_i d eK
    split at h
    ·rename_i ax
     have aa:=dJ _ _ _ _ h c List.mem_cons_self;refine iB.step (st':=⟨(d,.a bx) :: st.L,st.H⟩) ?_ (ab _ _ _ _ (bR.drop d _) one h);intro R W aJ ks env B al H a w aj KK bQ;obtain⟨v,J,U⟩:=Ox av aj bR (fun _ h=>by cases h) ay aa;exact hP aj.bZ dS eK (dY ax) U fun aP aI=>bQ aP w env B al H (aj.set (sv:=.a bx) J aI)
    ·cases h
   ·cases h
  ·split at h
   ·rename_i c gK W e
    have aa:=dJ _ _ _ _ h c List.mem_cons_self;exact iB.step (HB av e aa).c.CK (ab _ _ _ gK ez.nil (aN.trans (HC e)) h)
   ·split at h
    ·rename_i c gK e
     have aa:=dJ _ _ _ _ h c List.mem_cons_self;refine iB.step ?_ (ab _ _ _ gK ez.nil (aN.trans (w2 dS e)) h);intro R W aJ ks env B al H a w aj KK bQ;exact BL av e aa aj fun aP w' env' H' _ ck=>bQ aP w' env' B al H' ck
    ·obtain⟨_,gK,V2,J,U,ag⟩:=sV aN h
     exact iB.step J.CK (ab _ _ _ gK ez.nil U ag)
 ·rename_i j want dS
  split at h
  ·rename_i s aH
   split at h
   ·rename_i g aQ
    split at h
    ·rename_i c bx ay
     split at h
     ·rename_i d eK
      split at h
      ·rename_i ax sW
       have aa:=dJ _ _ _ _ h _ List.mem_cons_self;have cr:s≠d:=Nat.ne_of_beq_eq_false sW;have rN:ez (e1 ops) ((d,j,want) :: nk (e1 ops) d G) ((d,.may g bx) :: st.L):=fun e he=>by
        rcases List.mem_cons.1 he with rfl | he
        ·exact⟨s,g,bx,aH,by rw[Cw cr]; exact aQ,by rw[cI,if_pos rfl]⟩
        ·exact bR.drop d _ e he
       refine iB.step (st':=⟨(d,.may g bx) :: st.L,st.H⟩) ?_ (ab _ _ _ _ rN one h);intro R W aJ ks env B al H a w aj KK bQ;have put:∀ v,cT n (j2 ks aJ) ((d,v) :: gm a) (a.put o.dst v):=fun v=>by rw[eK]; exact aj.bZ.put d v (dY ax)
       have hw:=Hx aj dS aH aQ;cases g with
       | true=>
        obtain⟨v,J,U⟩:=Ox av aj bR (Cx bR ⟨s,aH,aQ⟩) ay (y9 aa rfl);exact .inl ⟨hw,.inl ⟨v,w,U,bQ _ _ _ _ _ _ (aj.set (sv:=.may true bx) ⟨fun _=>J,fun h=>by cases h⟩ (put v))⟩⟩
       | false=>exact .inr ⟨hw,bQ _ _ _ _ _ _ (aj.set (sv:=.may false bx) ⟨(fun h=>by cases h),fun _=>rfl⟩ (put undef))⟩
      ·cases h
     ·cases h
    ·obtain⟨d,g2,bx,fi,nL,db,eB,hM⟩:=OR bR aN h
     exact iB.step (fun R W aJ ks env B al H a w aj KK bQ=>hM R W aJ ks env B al H a w aj KK fun aP w' env' B' cC H' ck _ _=>bQ aP w' env' B' cC H' ck) (ab _ _ _ _ nL db eB)
   ·cases h
  ·cases h
theorem HP(av:X.tt.ok X.P) (iB:CL X n ops Z) {k:oF aR} {r:aR} (dJ:CH k r):∀ {l rest:List Oper} {G:fG} {V:List Nat} {A:List Bool} {st:aO},ez (e1 ops) G st.L->cZ V st0 st->zq X n T (e1 ops) l G V A st k=some r->(∀ fi fj bP st',ez (e1 ops) fi st'.L->cZ fj st0 st'->k fi fj bP st'=some r->Z rest r st')->Z (l++rest) r st
 | [],rest,G,V,A,st,bR,aN,h,ab=>ab G V A st bR aN h
 | o :: l,rest,G,V,A,st,bR,aN,h,ab=>abk av iB bR aN (fun _ _ _ _ aK=>CJ dJ aK) h fun fi fj bP st' rN pD aK=>HP av iB dJ rN pD aK ab
theorem take_drop:∀ (m:Nat) (l:List Oper),takeN m l++CF m l=l
 | 0,_=>rfl
 | _+1,[]=>rfl
 | m+1,x :: l=>by
  show x :: (takeN m l++CF m l)=_;rw[take_drop m l]
theorem OU{cf:kE aR} {k:Nat->aO->Option aR} (h:HL X n cf st A o k=some r):(∀ c∈A,c=true)/\∃ em l d s xs fN c args,cf=some em/\o.op=.call { callee:=.value (.tmp s),args:=xs.toArray,argTypes:=fN }/\(o.guard=none/\o.dst=some d)/\Nat.blt d n=true/\zm (bd st.L s)=some l/\qe X st.L xs=some (c,args)/\c=true/\em l args (k d ⟨(d,.c (.val (.bool false))) :: st.L,st.H⟩) (k d ⟨(d,.c (.val (.bool true))) :: st.L,st.H⟩)=some r:=by
 unfold HL at h
 split at h
 ·split at h
  ·rename_i ax aL aX
   obtain⟨aa,h⟩:=iq h;have dE:=(l8 aa).1;exact⟨fun c aa=>dE c (List.mem_cons_of_mem _ aa),_,_,_,_,_,_,_,_,rfl,rfl,⟨rfl,rfl⟩,ax,aL,aX,dE _ List.mem_cons_self,h⟩
  ·cases h
 ·cases h
variable {cf:kE aR}
theorem OV{z:Int} {f:Int->Option aR} {r:aR}:∀ {ks:List Int},CG z ks f=some r->f z=some r
 | [],h=>by cases h
 | q :: jd,h=>by
  unfold CG at h
  by_cases e:z=q
  ·subst e
   rw[decide_eq_true rfl]at h;exact h
  ·rw[decide_eq_false e]at h
   exact OV h
theorem fq.again{j:Nat} {sv:b3} (h:bd st.L j=some sv):fq X n st ⟨(j,sv) :: st.L,st.H⟩:=fun _ _ _ _ _ _ ⟨ks,env,B,al,H,bL,aj⟩=>by
 refine⟨ks,env,B,al,H,bL,⟨aj.size,aj.defs,fun s u an=>?_,aj.heap,aj.aM,aj.sub,aj.new,aj.dL,aj.base,aj.et⟩⟩;rw[cI]at an
 split at an
 ·rename_i e
  subst e;cases an;exact aj.has _ _ h
 ·exact aj.has s u an
theorem w7{k:List Nat->aO->Option aR} {r:aR}:∀ {is:List In} {l:List Oper} {G:fG} {V:List Nat} {A:List Bool} {st:aO},j9 X n T cf (e1 ops) is l G V A st k=some r->∀ c∈A,c=true
 | [],l,G,V,A,st,h=>CJ (fun _ _ _ _ aK=>(l8 (iq aK).1).1) h
 | .n m :: is,l,G,V,A,st,h=>CJ (fun _ _ _ _ aK=>w7 aK) h
 | .w x :: is,l,G,V,A,st,h=>by
  unfold j9 at h
  split at h
  ·exact fun c aa=>w7 h c (List.mem_cons_of_mem _ aa)
  ·cases h
 | .c ps :: is,o :: l,G,V,A,st,h=>by
  unfold j9 at h;exact(sV (cZ.refl (V:=V) st) h).1
 | .c _ :: _,[],G,V,A,st,h=>by cases h
 | .y :: is,o :: l,G,V,A,st,h=>by
  unfold j9 at h;exact(OU h).1
 | .y :: _,[],G,V,A,st,h=>by cases h
 | .f j ks :: is,l,G,V,A,st,h=>by
  unfold j9 at h
  split at h
  ·exact(l8 (iq h).1).1
  ·cases h
 | .t _ :: _,[],G,V,A,st,h=>by cases h
 | .t m :: is,o :: l,G,V,A,st,h=>by
  unfold j9 at h
  split at h
  ·exact fun c aa=>w7 h c (List.mem_cons_of_mem _ aa)
  ·cases h
theorem sX(av:X.tt.ok X.P) (iB:CL X n ops Z) (cw:OT X n ops cf Z) {k:List Nat->aO->Option aR}:∀ {is:List In} {l:List Oper} {G:fG} {V:List Nat} {A:List Bool} {st:aO} {r:aR},ez (e1 ops) G st.L->cZ V st0 st->j9 X n T cf (e1 ops) is l G V A st k=some r->(∀ fj st' cy,cZ fj st0 st'->k fj st'=some cy->Z [] cy st')->Z l r st
 | [],l,G,V,A,st,r,bR,aN,h,ab=>by
  have:=HP (rest:=[]) av iB (fun _ _ _ _ aK=>(l8 (iq aK).1).1) bR aN h fun fi fj bP st' _ pD aK=>ab fj st' _ pD (iq aK).2
  rwa [List.append_nil]at this
 | .n m :: is,l,G,V,A,st,r,bR,aN,h,ab=>by
  rw[<- take_drop m l];exact HP av iB (fun _ _ _ _ aK=>w7 aK) bR aN h fun fi fj bP st' rN pD aK=>sX av iB cw rN pD aK ab
 | .w x :: is,l,G,V,A,st,r,bR,aN,h,ab=>by
  unfold j9 at h
  split at h
  ·rename_i c CN e
   have aa:=w7 h c List.mem_cons_self;exact iB.e6 (Om e aa) (sX av iB cw ez.nil (aN.trans (Ot e)) h ab)
  ·cases h
 | .c ps :: is,o :: l,G,V,A,st,r,bR,aN,h,ab=>by
  unfold j9 at h;obtain⟨_,gK,V2,J,U,ag⟩:=sV aN h;exact iB.step J.CK (sX av iB cw ez.nil U ag ab)
 | .c _ :: _,[],G,V,A,st,r,bR,aN,h,ab=>by cases h
 | .y :: is,o :: l,G,V,A,st,r,bR,aN,h,ab=>by
  unfold j9 at h;obtain⟨_,em,l',d,s,xs,fN,c,args,abl,aA,bg,ax,aL,aX,aa,h⟩:=OU h;obtain⟨nR,rt,az,a8,bG⟩:=cw em abl h;have one:∀ {sv:b3},cZ (d :: V) st0 ⟨(d,sv) :: st.L,st.H⟩:=fun {sv}=>⟨cp.cons aN.1,aN.2.more fun q ar=>(fY ar).2⟩
  exact bG aA ⟨CM.none bg.1,bg.2⟩ ax aL aX aa (sX av iB cw ez.nil one az ab) (sX av iB cw ez.nil one a8 ab)
 | .y :: _,[],G,V,A,st,r,bR,aN,h,ab=>by cases h
 | .f j ks :: is,l,G,V,A,st,r,bR,aN,h,ab=>by
  unfold j9 at h
  split at h
  ·rename_i ou z e
   have one:∀ {sv:b3},cZ (j :: V) st0 ⟨(j,sv) :: st.L,st.H⟩:=fun {sv}=>⟨cp.cons aN.1,aN.2.more fun q ar=>(fY ar).2⟩
   exact iB.e6 (fq.again e) (sX av iB cw ez.nil one (OV (iq h).2) ab)
  ·cases h
 | .t _ :: _,[],G,V,A,st,r,bR,aN,h,ab=>by cases h
 | .t m :: is,o :: l,G,V,A,st,r,bR,aN,h,ab=>by
  unfold j9 at h
  split at h
  ·rename_i c CN W e
   exact iB.step (HJ av e (w7 h c List.mem_cons_self)).c.CK (sX av iB cw ez.nil (aN.trans (HK e)) h ab)
  ·cases h
end
def ka:List Nat->cX->cX
 | [],_=>[]
 | s :: r,L=>match bd L s with
  | some v=>match v.free with
   | true=>(s,v) :: ka r L
   | false=>ka r L
  | none=>ka r L
def gh:List Nat->bz->bz
 | [],_=>[]
 | s :: r,H=>match bd H s with
  | some v=>match v.free with
   | true=>(s,v) :: gh r H
   | false=>gh r H
  | none=>gh r H
def OW{α:Type} (L:List (Nat×α)) (s:Nat):Bool:=match bd L s with
 | some _=>true
 | none=>false
def w8{α:Type} (V ks:List Nat) (L:List (Nat×α)):List (Nat×α)->Bool
 | []=>true
 | p :: r=>match e2 p.1 V,e2 p.1 ks,OW L p.1 with
  | false,false,true=>w8 V ks L r
  | _,_,_=>false
def dX{α:Type}:List (Nat×α)->List Nat
 | []=>[]
 | p :: r=>p.1 :: dX r
def dW.ids(bo:dW):List Nat:=dX bo.L++dX bo.H
def dW.S(bo:dW) (st:aO) (d:bo.D):aO:=⟨(nj bo.L (mB bo.T d)).1++ka bo.rz st.L,(ju bo.H (nj bo.L (mB bo.T d)).2).1++gh bo.j6 st.H⟩
def dW.get(bo:dW) (st:aO) (V:List Nat) (st':aO):Option bo.D:=
 match w8 V (dX bo.L) st'.L (ka bo.rz st.L),w8 V (dX bo.H) st'.H (gh bo.j6 st.H),ph (dX bo.H++dX (gh bo.j6 st.H))with
 | true,true,true=>match tU st'.H (dX bo.H)with
  | some h=>match um (T:=[]) bo.H h ()with
   | some u=>match Ch bo.L st'.L u with
    | some u=>some (px bo.T u)
    | none=>none
   | none=>none
  | none=>none
 | _,_,_=>none
theorem zr{s:Nat} {v:b3}:∀ {ks:List Nat} {L:cX},bd (ka ks L) s=some v->(s,v)∈ka ks L/\bd L s=some v/\v.free=true
 | [],_,h=>by cases h
 | k :: r,L,h=>by
  unfold ka at h ⊢
  split at h
  ·rename_i u e
   split at h
   ·rename_i az
    rw[cI]at h
    split at h
    ·rename_i aS; cases h; exact⟨by rw[aS]; exact List.mem_cons_self,by rw[aS]; exact e,az⟩
    ·obtain⟨J,U⟩:=zr h; exact⟨List.mem_cons_of_mem _ J,U⟩
   ·exact zr h
  ·exact zr h
theorem uL{p:Nat×b3}:∀ {ks:List Nat} {L:cX},p∈ka ks L->bd L p.1=some p.2/\p.2.free=true
 | [],_,h=>by cases h
 | k :: r,L,h=>by
  unfold ka at h
  split at h
  ·rename_i u e
   split at h
   ·rename_i az
    rcases List.mem_cons.1 h with rfl | h
    ·exact⟨e,az⟩
    ·exact uL h
   ·exact uL h
  ·exact uL h
theorem oH{p:Nat×cv}:∀ {ks:List Nat} {L:bz},p∈gh ks L->bd L p.1=some p.2/\p.2.free=true
 | [],_,h=>by cases h
 | k :: r,L,h=>by
  unfold gh at h
  split at h
  ·rename_i u e
   split at h
   ·rename_i az
    rcases List.mem_cons.1 h with rfl | h
    ·exact⟨e,az⟩
    ·exact oH h
   ·exact oH h
  ·exact oH h
theorem abm{p:Nat×b3} {ks:List Nat} {L:cX} (h:p∈ka ks L):bd (ka ks L) p.1=some p.2:=by
 obtain⟨J,U⟩:=uL h
 induction ks with
 | nil=>cases h
 | cons k r br=>
  unfold ka at h ⊢
  split at h
  ·rename_i u e
   split at h
   ·rename_i az
    rw[cI]
    split
    ·rename_i aS; rw[<- aS,J]at e; cases e; rfl
    ·rename_i aS
     rcases List.mem_cons.1 h with rfl | h
     ·exact absurd rfl aS
     ·exact br h
   ·exact br h
  ·exact br h
theorem abn{p:Nat×cv} {ks:List Nat} {L:bz} (h:p∈gh ks L):bd (gh ks L) p.1=some p.2:=by
 obtain⟨J,U⟩:=oH h
 induction ks with
 | nil=>cases h
 | cons k r br=>
  unfold gh at h ⊢
  split at h
  ·rename_i u e
   split at h
   ·rename_i az
    rw[cI]
    split
    ·rename_i aS; rw[<- aS,J]at e; cases e; rfl
    ·rename_i aS
     rcases List.mem_cons.1 h with rfl | h
     ·exact absurd rfl aS
     ·exact br h
   ·exact br h
  ·exact br h
theorem zt{α:Type} {V ks:List Nat} {L:List (Nat×α)} {p:Nat×α}:∀ {K:List (Nat×α)},w8 V ks L K=true->p∈K->e2 p.1 V=false/\e2 p.1 ks=false/\∃ v,bd L p.1=some v
 | [],_,h=>by cases h
 | q :: r,h,hm=>by
  unfold w8 at h
  split at h
  ·rename_i J U ag
   rcases List.mem_cons.1 hm with rfl | hm
   ·refine⟨J,U,?_⟩
    unfold OW at ag
    split at ag
    ·rename_i v e; exact⟨v,e⟩
    ·cases ag
   ·exact zt h hm
  ·cases h
theorem HQ{α:Type} {q:Nat}:∀ {L L':List (Nat×α)},e2 q (dX L)=false->bd (L++L') q=bd L' q
 | [],_,_=>rfl
 | p :: r,L',h=>by
  obtain⟨J,U⟩:=fY h;rw[List.cons_append,cI,if_neg J];exact HQ U
theorem CO{α:Type} {q:Nat} {v:α}:∀ {L L':List (Nat×α)},bd (L++L') q=some v->bd L q=some v\/e2 q (dX L)=false/\bd L' q=some v
 | [],_,h=>.inr ⟨rfl,h⟩
 | p :: r,L',h=>by
  rw[List.cons_append,cI]at h;rw[cI]
  split at h
  ·rename_i e; rw[if_pos e]; exact .inl h
  ·rename_i e
   rw[if_neg e]
   rcases CO h with h | ⟨J,U⟩
   ·exact .inl h
   ·exact .inr ⟨qq.2 ⟨e,J⟩,U⟩
theorem HR:∀ (l:List (Nat×kV)) {T:List Type} (u:c8 (wQ l T)),dX (nj l u).1=dX l
 | [],_,_=>rfl
 | p :: r,_,u=>by
  show p.1 :: dX _=p.1 :: dX _;rw[HR r]
theorem HS:∀ (l:List (Nat×ia)) {T:List Type} (u:c8 (mC l T)),dX (ju l u).1=dX l
 | [],_,_=>rfl
 | p :: r,_,u=>by
  show p.1 :: dX _=p.1 :: dX _;rw[HS r]
theorem zu:∀ {ks:List Nat} {h aK:bz},tU h ks=some aK->dX aK=ks
 | [],_,_,e=>by cases e; rfl
 | k :: ks,h,aK,e=>by
  unfold tU at e
  split at e
  ·rename_i J U
   split at e
   ·cases e
    show k :: dX _=_;rw[zu U]
   ·cases e
  ·cases e
theorem HT{α:Type} {q:Nat}:∀ {L:List (Nat×α)},e2 q (dX L)=false->bd L q=none
 | [],_=>rfl
 | p :: r,h=>by
  obtain⟨J,U⟩:=fY h;rw[cI,if_neg J];exact HT U
theorem CP{h:bz} {K:bz}:∀ {J:bz},lj h J->(∀ p∈K,bd h p.1=some p.2)->ph (dX J++dX K)=true->lj h (J++K):=by
 have base:∀ K:bz,(∀ p∈K,bd h p.1=some p.2)->ph (dX K)=true->lj h K:=by
  intro K
  induction K with
  | nil=>exact fun _ _=>.nil
  | cons p r br=>
   intro ab aV;have hr:(!(dX r).elem p.1&&ph (dX r))=true:=aV;simp only[Bool.and_eq_true,Bool.not_eq_true']at hr;exact .cons (ab p List.mem_cons_self) (HU hr.1) (br (fun q ar=>ab q (List.mem_cons_of_mem _ ar)) hr.2)
 intro an
 induction an with
 | nil=>exact fun ab aV=>base K ab aV
 | cons iN rD aw br=>
  rename_i k b r;intro ab aV;have hr:(!(dX r++dX K).elem k&&ph (dX r++dX K))=true:=aV;simp only[Bool.and_eq_true,Bool.not_eq_true']at hr;refine .cons iN ?_ (br ab hr.2);refine HU ?_
  have:∀ l:bz,dX (l++K)=dX l++dX K:=by
   intro l
   induction l with
   | nil=>rfl
   | cons p l br=>show p.1 :: dX (l++K)=_; rw[br]; rfl
  show(dX (r++K)).elem k=false;rw[this];exact hr.1
where HU {q:Nat}:∀ {L:bz},(dX L).elem q=false->bd L q=none
 | [],_=>rfl
 | p :: r,h=>by
  have aK:(p.1 :: dX r).elem q=false:=h;rw[List.elem_cons]at aK
  split at aK
  ·cases aK
  ·rename_i e
   rw[cI,if_neg (by simpa using e)];exact HU aK
def jT(bo:dW) (st fz:aO):Prop:=(∀ p∈ka bo.rz st.L,e2 p.1 (dX bo.L)=false->bd fz.L p.1=some p.2)/\∀ p∈gh bo.j6 st.H,e2 p.1 (dX bo.H)=false->bd fz.H p.1=some p.2
theorem jT.self(bo:dW) (st:aO):jT bo st st:=⟨fun p ao _=>(uL ao).1,fun p ao _=>(oH ao).1⟩
theorem jT.step(bo:dW) (st:aO) (d:bo.D):jT bo st (bo.S st d):=⟨fun p ao ab=>by
 show bd (_++_) p.1=_;rw[HQ (by rw[HR]; exact ab)];exact abm ao,fun p ao ab=>by
 show bd (_++_) p.1=_;rw[HQ (by rw[HS]; exact ab)];exact abn ao⟩
theorem dW.iA{X:bs} {n:Nat} {bo:dW} {st fz st':aO} {V:List Nat} {d:bo.D} (hw:jT bo st fz) (an:cZ V fz st') (h:bo.get st V st'=some d):fq X n st' (bo.S st d):=by
 unfold dW.get at h
 split at h
 ·rename_i j4 en l6
  split at h
  ·rename_i aN gA
   split at h
   ·rename_i u ay
    split at h
    ·rename_i nO aS
     cases h;obtain⟨J,U⟩:=uo ay;obtain⟨ag,aq⟩:=Ci aS;have abo:∀ p∈ka bo.rz st.L,bd st'.L p.1=some p.2:=fun p ao=>by
      obtain⟨g1,g2,v,g3⟩:=zt j4 ao;obtain⟨u,g4,g5⟩:=an.1 p.1 v g1 g3;rw[hw.1 p ao g2]at g4;cases g4;rw[g3,g5 (uL ao).2]
     have uM:∀ p∈gh bo.j6 st.H,bd st'.H p.1=some p.2:=fun p ao=>by
      obtain⟨g1,g2,v,g3⟩:=zt en ao;obtain⟨u,g4,g5⟩:=an.2 p.1 v g1 g3;rw[hw.2 p ao g2]at g4;cases g4;rw[g3,g5 (oH ao).2]
     rintro R W aJ M a w ⟨ks,env,B,al,H,bL,aj⟩;have gL:lj st'.H (aN++gh bo.j6 st.H):=CP (yz gA) uM (by rw[zu gA]; exact l6);obtain⟨H',ck⟩:=aj.e6 (st':=⟨[],aN++gh bo.j6 st.H⟩) .nil gL;refine⟨ks,env,B,al,H',bL,ck.size,ck.defs,fun q sv ar=>?_,?_,ck.aM,ck.sub,ck.new,ck.dL,ck.base,ck.et⟩
     ·have jf:bd ((nj bo.L (mB bo.T (px bo.T nO))).1++ka bo.rz st.L) q=some sv:=ar
      rw[uj]at jf
      rcases CO jf with jf | ⟨_,jf⟩
      ·obtain⟨x,aE,bb⟩:=aq q sv jf
       obtain⟨v,bX,dj⟩:=aj.has q x aE;exact⟨v,bX,bb _ _ _ _ dj⟩
      ·obtain⟨aE,_⟩:=zr jf
       exact aj.has q sv (abo _ aE)
     ·show bA env B al ((ju bo.H (nj bo.L (mB bo.T (px bo.T nO))).2).1++gh bo.j6 st.H) H'
      rw[uj,ag];obtain⟨H1,H2,e,h8,hF⟩:=bA.split (l:=aN) ck.heap;rw[e];exact(U _ _ _ _ h8).append hF
    ·cases h
   ·cases h
  ·cases h
 ·cases h
where bA.split {env:Nat->Loc} {B:Nat->Prop} {w:World}:∀ {l l':bz} {H:List bf},bA env B w (l++l') H->∃ H1 H2,H=H1++H2/\bA env B w l H1/\bA env B w l' H2
 | [],_,H,h=>⟨[],H,rfl,rfl,h⟩
 | _ :: _,_,_,⟨c,H',e,J,U⟩=>by
  obtain⟨H1,H2,aS,h8,hF⟩:=bA.split U;exact⟨c :: H1,H2,by rw[e,aS]; rfl,⟨c,H1,rfl,J,h8⟩,hF⟩
theorem dW.ks(bo:dW) (st:aO) (d:bo.D):cZ bo.ids st (bo.S st d):=by
 refine⟨fun q v ar ah=>?_,fun q v ar ah=>?_⟩
 ·rcases CO (show bd (_++_) q=some v from ah)with h | ⟨_,h⟩
  ·have:=HT (L:=(nj bo.L (mB bo.T d)).1) (q:=q) (by rw[HR]; exact(pE.1 ar).1)
   rw[this]at h;cases h
  ·obtain⟨J,U,ag⟩:=zr h
   exact⟨v,U,fun _=>rfl⟩
 ·rcases CO (show bd (_++_) q=some v from ah)with h | ⟨_,h⟩
  ·have:=HT (L:=(ju bo.H (nj bo.L (mB bo.T d)).2).1) (q:=q) (by rw[HS]; exact(pE.1 ar).2)
   rw[this]at h;cases h
  ·exact⟨v,CQ h,fun _=>rfl⟩
where CQ {s:Nat} {v:cv}:∀ {ks:List Nat} {L:bz},bd (gh ks L) s=some v->bd L s=some v
 | [],_,h=>by cases h
 | k :: r,L,h=>by
  unfold gh at h
  split at h
  ·rename_i u e
   split at h
   ·rw[cI]at h
    split at h
    ·rename_i aS; cases h; rw[aS]; exact e
    ·exact CQ h
   ·exact CQ h
  ·exact CQ h
end
section
section
variable {X:bs} {n:Nat} {st:aO} {o:Oper} {d:Nat}
end
end
section
theorem abp{es:List MapEntry} {j:Nat} {e:MapEntry} (an:(es.map (·.born)).Pairwise (· < ·)) (aH:es[j]?=some e):es.toArray.findIdx? (fun x=>(x.born:Int) == (e.born:Int))=some j:=by
 rw[List.findIdx?_toArray];obtain⟨aW,he⟩:=List.getElem?_eq_some_iff.1 aH;rw[List.findIdx?_eq_some_iff_getElem];refine⟨aW,by rw[he]; simp,fun k ab=>?_⟩;have J:=List.pairwise_iff_getElem.1 an k j (by simp; omega) (by simpa using aW) ab;simp only[List.getElem_map]at J;rw[he]at J;simp only[beq_iff_eq];omega
theorem OX{es:List MapEntry} {k v:Value}:∀ (j:Nat),(es.modify j fun e=>{ e with key:=k }).modify j (fun e=>{ e with val:=v })=es.modify j fun e=>{ e with key:=k,val:=v }:=by
 induction es with
 | nil=>intro j; simp
 | cons e es br=>
  intro j;cases j with
  | zero=>simp
  | succ j=>simp only[List.modify_succ_cons,br j]
theorem abq{es:List MapEntry} {e:MapEntry} {f:MapEntry->MapEntry}:(es++[e]).modify es.length f=es++[f e]:=by
 induction es with
 | nil=>simp
 | cons x es br=>simp[br]
theorem gb.OY{P:Program} {t:TypeId} {B:Nat->Prop} {w:World} {gk aY:aU} (bQ:oD P t gk) {z:gk.D} {vv:Value} {c:Nat} (b1:World):∀ {l:List (gk.D×aY.D)} {es:List MapEntry} (i:Nat),gb B w gk aY l es->(Instr.findAsking t (.agg (gk.cE z).toArray) es i).run P b1=.ok none b1 ->
  (Instr.findAsking t (.agg (gk.cE z).toArray) (es++[MapEntry.mk (.agg (gk.cE z).toArray) vv c]) i).run P b1=.ok (some (i+es.length,vv)) b1
 | [],_,i,h,_=>by
  rw[show _=[] from h];show(Instr.findAsking t _ [MapEntry.mk (.agg (gk.cE z).toArray) vv c] i).run P b1=_;unfold Instr.findAsking;simp only[Sem.run_bind,CA bQ z z b1,Result.andThen_ok,(beq_iff z z bQ.eq.key).2 rfl]
  simp
 | x :: l,_,i,⟨e,r,he,J,U,ag⟩,az=>by
  subst he;have ab:=dZ.key bQ.qt bQ.eq.key J;show(Instr.findAsking t _ (e :: (r++[MapEntry.mk (.agg (gk.cE z).toArray) vv c])) i).run P b1=_;unfold Instr.findAsking at az ⊢;rw[ab]at az ⊢;simp only[Sem.run_bind,CA bQ z x.1 b1,Result.andThen_ok]at az ⊢;cases ae:gk.beq z x.1 with
  | true=>rw[ae]at az; simp at az
  | false=>
   rw[ae]at az
   have:=gb.OY bQ b1 (i+1) ag (by simpa using az) (vv:=vv) (c:=c)
   simpa [Nat.add_assoc,Nat.add_comm 1] using this
section
variable {X:bs} {n:Nat} {st:aO}
theorem OZ(av:X.tt.ok X.P) {t fh fr:TypeId} {bw dC:bh} {gk aY:aU} {id:Nat} {l:List (gk.D×aY.D)} {jQ:Option (List MapEntry×Nat)} {z:gk.D} (bQ:oD X.P fh gk) (a8:X.tt.find t=some bw) (dh:bw.bq.desc=.map fh fr) (he:X.tt.find fr=some dC) (b5:bd st.H id=some (.mp gk aY l jQ))
  {R:Nat->Prop} {W:World} {aJ:e0} {ks:List Nat} {env:Nat->Loc} {B:Nat->Prop} {al:World} {H:List bf} {a:Act} {w:World} (aj:bH X R W aJ n ks env B al H st a w) :
  ∃ v0,(∀ b,env id=.blk b->(Instr.lookup t (.map (some b)) (.agg (gk.cE z).toArray) false).run X.P w=.ok v0 w)/\((∀ B w,dZ B w aY aY.zero dC.bq.zero)->dZ B al aY ((cF gk aY l z).getD aY.zero) v0):=by
 obtain⟨ee,K,⟨b,es,clock,ae,rfl,hV,cU,_⟩,ey⟩:=aj.heap.gz b5;have hW:=(aj.aM.ok _ ey.more.mem).2;have ay:=(b9.get av a8).bq.1;rw[dh]at ay;obtain⟨c1,cz⟩:=bQ.str;have hL:=bD.qU (b9.get av he).bq w;have lz:∃ v,(Instr.lookup t (.map (some b)) (.agg (gk.cE z).toArray) false).run X.P w=.ok v w/\((∀ B w,dZ B w aY aY.zero dC.bq.zero)->dZ B al aY ((cF gk aY l z).getD aY.zero) v):=by
  unfold Instr.lookup;simp only[Sem.run_bind,run_underlying ay,Result.andThen_ok,MapKept.run_getObj_map hW,bQ.w3,Sem.run_pure]
  rcases hV.zh bQ w (z:=z) 0 with⟨aq,aE⟩ | ⟨y,j,v,aq,aE,bb,_⟩
  ·refine⟨dC.bq.zero,?_,fun bG=>by rw[aq]; exact bG _ _⟩
   simp[qu cz aE,hL,Result.andThen]
  ·refine⟨v,?_,fun _=>by rw[aq]; exact bb⟩
   simp[qu cz aE,Result.andThen]
 obtain⟨v,J,U⟩:=lz;exact⟨v,fun jE ij=>by rw[ae]at ij; cases ij; exact J,U⟩
theorem O0(av:X.tt.ok X.P) {ops:Array Oper} {aT bM b7:Oper} {d1 d2:Nat} {t fh fr:TypeId} {bw dC:bh} {gk aY:aU} {u x uN y:Operand} {id:Nat} {l:List (gk.D×aY.D)} {jQ:Option (List MapEntry×Nat)} {z:gk.D} {g g2 c cL:Bool} {e7 eb:bl} {e8:aY.D} (bQ:oD X.P fh gk)
  (HV:aT.op=.mapEntry t u x) (sh:aT.guard=none/\aT.dst=some d1) (lU:Nat.blt d1 n=true) (HW:bM.op=.extract (.tmp d1) 1) (Bo:bM.guard=none/\bM.dst=some d2) (kv:Nat.blt d2 n=true) (HX:b7.op=.entryStore t uN (.tmp d2) y) (p4:b7.guard=none/\b7.dst=none)
  (a8:X.tt.find t=some bw) (dh:bw.bq.desc=.map fh fr) (he:X.tt.find fr=some dC)
  (hu:bp X st.L u=some (true,.c (.b8 id))) (ak:bp X st.L x=some (g,e7)) (aQ:g=true) (l7:dec gk e7.cells=some (c,z,[])) (aa:c=true) (sU:ly gk e7=true) (b5:bd st.H id=some (.mp gk aY l jQ))
  (ux:bp X ((d2,b3.a (.c .dead)) :: (d1,b3.a (.c .dead)) :: st.L) uN=some (true,.c (.b8 id))) (aL:bp X ((d2,b3.a (.c .dead)) :: (d1,b3.a (.c .dead)) :: st.L) y=some (g2,eb)) (dm:g2=true) (mq:dec aY eb.cells=some (cL,e8,[])) (h4:cL=true) (dP:ly aY eb=true)
  {R:Nat->Prop} {W:World} {aJ:e0} {ks:List Nat} {env:Nat->Loc} {B:Nat->Prop} {al:World} {H:List bf} {a:Act} {w:World} (aj:bH X R W aJ n ks env B al H st a w) {v0:Value} (w9:∀ b,env id=.blk b->(Instr.lookup t (.map (some b)) (.agg (gk.cE z).toArray) false).run X.P w=.ok v0 w) {G G3:World->Prop} (bR:∀ b1,c6 (fun k=>R k\/B k) al b1->(∀ b,env id=.blk b->(Instr.lookup t (.map (some b)) (.agg (gk.cE z).toArray) false).run X.P b1=.ok v0 b1)->G b1) (abr:∀ b1,c6 (fun k=>R k\/B k) al b1->G3 b1) {KK:Act->World->Prop}
  (sY:∀ aP w' H',bH X R W aJ n ks env B al H' ⟨(d2,.a (.c .dead)) :: (d1,.a (.c .dead)) :: st.L,eM id (.mp gk aY (eD gk aY l z e8) none) st.H⟩ aP w'->KK aP w') :
  eS X.P ops aT (fun a1 b1=>G b1/\eS X.P ops bM (fun a2 hI=>G hI/\eS X.P ops b7 (fun a3 l9=>G3 l9/\KK a3 l9) a2 hI) a1 b1) a w:=by
 obtain⟨iz,J,b,ae,rfl⟩:=aj.aD hu rfl;obtain⟨vx,U,ag⟩:=aj.aD ak aQ;have gZ:=dZ.key bQ.qt bQ.eq.key (dZ.ug l7 aa sU ag);rw[gZ]at U;obtain⟨ee,K,⟨b',es,clock,dM,rfl,hV,cU,_⟩,ey⟩:=aj.heap.gz b5;rw[ae]at dM;cases dM;have hW:=(aj.aM.ok _ ey.more.mem).2;have ay:=(b9.get av a8).bq.1;rw[dh]at ay;obtain⟨c1,cz⟩:=bQ.str;have hL:=bD.qU (b9.get av he).bq w;have gg:b < w.heap.size:=(Array.getElem?_eq_some_iff.1 hW).1;have nn:=w9 b ae
 -- what the first operation leaves
 have lz:∃ (mE:List MapEntry) (nS j:Nat) (e:MapEntry) (v:Value),(Instr.mapEntry t (.map (some b)) (.agg (gk.cE z).toArray)).run X.P w=.ok (.tuple #[v,.int .i64 (e.born:Int)]) { w with heap:=w.heap.setIfInBounds b (.map mE.toArray nS) }/\mE[j]?=some e/\(mE.map (·.born)).Pairwise (· < ·)/\(Instr.lookup t (.map (some b)) (.agg (gk.cE z).toArray) false).run X.P { w with heap:=w.heap.setIfInBounds b (.map mE.toArray nS) }=.ok v0 { w with heap:=w.heap.setIfInBounds b (.map mE.toArray nS) } /\
   ∀ vy,dZ B al aY e8 vy->gb B al gk aY (eD gk aY l z e8) (mE.modify j fun e=>{ e with val:=vy })/\Stamped (mE.modify j fun e=>{ e with val:=vy }) nS:=by
  unfold Instr.mapEntry;simp only[Sem.run_bind,run_underlying ay,Result.andThen_ok,MapKept.run_getObj_map hW,bQ.w3]
  rcases hV.zh bQ w (z:=z) 0 with⟨bb,bX⟩ | ⟨q,j,v,bb,bX,dj,il⟩
  ·refine⟨es++[MapEntry.mk (.agg (gk.cE z).toArray) dC.bq.zero clock],clock+1,es.length,MapEntry.mk (.agg (gk.cE z).toArray) dC.bq.zero clock,dC.bq.zero,?_,by simp,?_,?_,fun vy fF=>⟨?_,?_⟩⟩
   ·simp only[qu cz bX,Result.andThen_ok,Sem.run_bind,hL,MapKept.run_setObj_map _ hW]
    simp[goInt]
   ·rw[List.map_append,List.pairwise_append]
    exact⟨cU.1,by simp,fun p ao q ar=>by simp at ar; subst ar; exact cU.2 p ao⟩
   ·have q3:v0=dC.bq.zero:=by
     unfold Instr.lookup at nn;simp only[Sem.run_bind,run_underlying ay,Result.andThen_ok,MapKept.run_getObj_map hW,bQ.w3,Sem.run_pure]at nn
     simp[qu cz bX,hL,Result.andThen]at nn
     exact nn.symm
    have CR:({ w with heap:=w.heap.setIfInBounds b (.map (es++[MapEntry.mk (.agg (gk.cE z).toArray) dC.bq.zero clock]).toArray (clock+1)) }:World).heap[b]?=some (.map (es++[MapEntry.mk (.agg (gk.cE z).toArray) dC.bq.zero clock]).toArray (clock+1)):=by simp[gg]
    have abt:(Instr.findAsking fh (.agg (gk.cE z).toArray) es 0).run X.P { w with heap:=w.heap.setIfInBounds b (.map (es++[MapEntry.mk (.agg (gk.cE z).toArray) dC.bq.zero clock]).toArray (clock+1)) }=.ok none { w with heap:=w.heap.setIfInBounds b (.map (es++[MapEntry.mk (.agg (gk.cE z).toArray) dC.bq.zero clock]).toArray (clock+1)) }:=by
     rcases hV.zh bQ { w with heap:=w.heap.setIfInBounds b (.map (es++[MapEntry.mk (.agg (gk.cE z).toArray) dC.bq.zero clock]).toArray (clock+1)) } (z:=z) 0 with⟨_,mF⟩ | ⟨q,j,v,mF,_⟩
     ·exact mF
     ·rw[bb]at mF; cases mF
    have FU:=hV.OY bQ _ 0 abt (vv:=dC.bq.zero) (c:=clock);rw[q3];unfold Instr.lookup;simp only[Sem.run_bind,run_underlying ay,Result.andThen_ok,MapKept.run_getObj_map CR,bQ.w3,Sem.run_pure];have abu:=qu cz FU;simp only[abu,Result.andThen_ok]
    simp
   ·rw[abq]
    rcases hV.w4 bQ w fF (z:=z) 0 with⟨_,hb⟩ | ⟨tL,v2,cj,hb,_⟩
    ·rw[hb]
     exact gb.snoc (gk:=gk) (x:=(z,e8)) (e:=MapEntry.mk (.agg (gk.cE z).toArray) vy clock) (dZ.HD bQ.qt bQ.eq.key z) fF hV
    ·rw[bX]at hb
     cases hb
   ·rw[Stamped,yS (f:=fun e=>{ e with val:=vy }) (fun _=>rfl)]
    refine⟨?_,?_⟩
    ·rw[List.map_append,List.pairwise_append]
     exact⟨cU.1,by simp,fun p ao q ar=>by simp at ar; subst ar; exact cU.2 p ao⟩
    ·intro p ao
     rw[List.map_append,List.mem_append]at ao
     rcases ao with ao | ao
     ·exact Nat.lt_succ_of_lt (cU.2 p ao)
     ·simp at ao; omega
  ·-- the entry is there
   obtain⟨gA,np⟩:∃ gA,es[j]?=some gA:=⟨_,List.getElem?_eq_getElem il⟩
   have abv:∀ vy,dZ B al aY e8 vy->gA.key=.agg (gk.cE z).toArray/\gb B al gk aY (eD gk aY l z e8) (es.modify j fun e=>{ e with key:=.agg (gk.cE z).toArray,val:=vy }):=fun vy fF=>by
    rcases hV.w4 bQ w fF (z:=z) 0 with⟨hb,_⟩ | ⟨tL,v2,cj,hb,mF,oG,abw⟩
    ·rw[bX]at hb
     cases hb
    ·rw[bX]at hb
     have aH:tL=j:=by
      have:=Result.ok.inj hb
      have zv:=Option.some.inj this.1;have O1:=(Prod.mk.inj zv).1;omega
     subst aH;rw[np]at mF;cases mF;exact⟨oG,abw⟩
   refine⟨es.modify j fun e=>{ e with key:=.agg (gk.cE z).toArray },clock,j,{ gA with key:=.agg (gk.cE z).toArray },v,?_,?_,?_,?_,fun vy fF=>⟨?_,?_⟩⟩
   ·have HY:gA.key=.agg (gk.cE z).toArray:=by
     rcases hV.w4 bQ w dj (z:=z) 0 with⟨hb,_⟩ | ⟨tL,v2,cj,hb,mF,oG,_⟩
     ·rw[bX]at hb
      cases hb
     ·rw[bX]at hb
      have aH:tL=j:=by
       have:=Result.ok.inj hb
       have zv:=Option.some.inj this.1;have O1:=(Prod.mk.inj zv).1;omega
      subst aH;rw[np]at mF;cases mF;exact oG
    rw[Nat.zero_add]at bX;have lS:(Instr.keyThatStays (((es.toArray[j]?).map (·.key)).getD (.agg (gk.cE z).toArray)) (.agg (gk.cE z).toArray)).run X.P w=.ok (.agg (gk.cE z).toArray) w:=by
     have:((es.toArray[j]?).map (·.key)).getD (.agg (gk.cE z).toArray)=.agg (gk.cE z).toArray:=by simp[np,HY]
     rw[this];unfold Instr.keyThatStays;rw[OG fun n=>CB bQ.eq.key z n]
     rfl
    simp only[qu cz bX,Result.andThen_ok,Sem.run_bind,lS,MapKept.run_setObj_map _ hW]
    simp[goInt,np]
   ·simp[np]
   ·rw[yS (f:=fun e=>{ e with key:=.agg (gk.cE z).toArray }) (fun _=>rfl)]
    exact cU.1
   ·have HY:gA.key=.agg (gk.cE z).toArray:=by
     rcases hV.w4 bQ w dj (z:=z) 0 with⟨hb,_⟩ | ⟨tL,v2,cj,hb,mF,oG,_⟩
     ·rw[bX]at hb
      cases hb
     ·rw[bX]at hb
      have aH:tL=j:=by
       have:=Result.ok.inj hb
       have zv:=Option.some.inj this.1;have O1:=(Prod.mk.inj zv).1;omega
      subst aH;rw[np]at mF;cases mF;exact oG
    have HI:(es.modify j fun e=>{ e with key:=.agg (gk.cE z).toArray })=es:=by
     apply List.ext_getElem?
     intro q;rw[List.getElem?_modify]
     by_cases ar:j=q
     ·subst ar
      rw[np]
      simp[<- HY]
     ·simp[ar]
    rw[HI];have oI:({ w with heap:=w.heap.setIfInBounds b (.map es.toArray clock) }:World)=w:=by
     have:w.heap.setIfInBounds b (.map es.toArray clock)=w.heap:=by
      apply Array.ext_getElem?
      intro q
      by_cases ar:q=b
      ·subst ar
       rw[hW]
       simp[gg]
      ·rw[Array.getElem?_setIfInBounds_ne (Ne.symm ar)]
     rw[this]
    rw[oI];exact nn
   ·rw[OX]
    exact(abv vy fF).2
   ·rw[OX,Stamped,yS (f:=fun e=>{ e with key:=.agg (gk.cE z).toArray,val:=vy }) (fun _=>rfl)]
    exact cU
 obtain⟨mE,nS,j,e,v,abx,aby,abz,O2,rO⟩:=lz;have abA:=abp abz aby;have fb:∀ (HZ:Obj),c6 (fun k=>R k\/B k) al { w with heap:=w.heap.setIfInBounds b HZ }:=fun HZ=>(aj.aM.x9 (x':=HZ) ey.more).below
 refine hP aj.bZ sh.1 sh.2 (dY lU) (v:=.tuple #[v,.int .i64 (e.born:Int)]) (w':={ w with heap:=w.heap.setIfInBounds b (.map mE.toArray nS) }) ?_ fun a1 O3=>⟨bR _ (fb _) (fun jE ij=>by rw[ae]at ij; cases ij; exact O2),?_⟩
 ·simp[execOp,HV,aj.bZ.aD J,aj.bZ.aD U,abx]
 have fe:=aj.set (sv:=.a (.c .dead)) (v:=.tuple #[v,.int .i64 (e.born:Int)]) trivial O3;have O4:aD (gm a1) (.tmp d1)=some (.tuple [v,.int .i64 (e.born:Int)].toArray):=h6 O3.this;refine hP fe.bZ Bo.1 Bo.2 (dY kv) (v:=.int .i64 (e.born:Int)) (w':={ w with heap:=w.heap.setIfInBounds b (.map mE.toArray nS) }) (L4 fe.bZ HW O4 rfl _) fun a2 O5=>⟨bR _ (fb _) (fun jE ij=>by rw[ae]at ij; cases ij; exact O2),?_⟩
 have fQ:=fe.set (sv:=.a (.c .dead)) (v:=.int .i64 (e.born:Int)) trivial O5;have uI:aD (gm a2) (.tmp d2)=some (.int .i64 (e.born:Int)):=h6 O5.this;obtain⟨akb,db,O6,wE,rfl⟩:=fQ.aD (st:=⟨(d2,b3.a (.c .dead)) :: (d1,b3.a (.c .dead)) :: st.L,st.H⟩) ux rfl;rw[ae]at wE;cases wE;obtain⟨vy,eB,hM⟩:=fQ.aD (st:=⟨(d2,b3.a (.c .dead)) :: (d1,b3.a (.c .dead)) :: st.L,st.H⟩) aL dm;have fF:dZ B al aY e8 vy:=dZ.ug mq h4 dP hM;obtain⟨CS,abB⟩:=rO vy fF;obtain⟨ZY,NX,⟨O7,akc,akd,O8,rfl,_⟩,HH,ha⟩:=fQ.pe (b':=.mp gk aY (eD gk aY l z e8) none) b5;rw[ae]at O8;cases O8;have CR:({ w with heap:=w.heap.setIfInBounds b (.map mE.toArray nS) }:World).heap[b]?=some (.map mE.toArray nS):=by simp[gg]
 have abC:(Instr.entryStore t (.map (some b)) (.int .i64 (e.born:Int)) vy).run X.P { w with heap:=w.heap.setIfInBounds b (.map mE.toArray nS) }=.ok () { w with heap:=w.heap.setIfInBounds b (.map (mE.modify j fun e=>{ e with val:=vy }).toArray nS) }:=by
  unfold Instr.entryStore;simp only[Sem.run_bind,MapKept.run_getObj_map CR,Result.andThen_ok,asInt,asIntOf,Sem.run_pure,abA];rw[MapKept.run_setObj_map _ CR]
  simp[Array.setIfInBounds_setIfInBounds]
 refine Bj fQ.bZ p4.1 p4.2 (w':={ w with heap:=w.heap.setIfInBounds b (.map (mE.modify j fun e=>{ e with val:=vy }).toArray nS) }) ?_ fun a3 abD=>⟨abr _ (fb _),?_⟩
 ·simp[execOp,HX,fQ.bZ.aD db,fQ.bZ.aD uI,fQ.bZ.aD eB,abC]
 obtain⟨H',hb⟩:=ha _ a3 _ ⟨b,_,nS,ae,rfl,CS,abB,fun _ h=>by cases h⟩ (fQ.aM.x9 HH) abD;exact sY a3 _ H' hb
end
end
section
inductive qv where
  | t (i m:Nat)
  | m (i:Nat)
  | s (i:Nat)
  | k (i:Nat)
  | u (i:Nat) (m:oE)
  | w (i p e:Nat)
  | c (i:Nat) (ps:ec)
  | g (i:Nat)
  | z (id:Nat)
  | f
def rP:List qv->Nat
  | []=>0
  | .z _ :: r=>rP r
  | .f :: r=>rP r
  | .w _ _ _ :: r=>rP r+3+1+1
  | _ :: r=>rP r+1
def CT(j5:Bool) (m:Nat) (H:bz):bz:=match m with
  | 1=>[]
  | 3=>match j5 with
    | true=>H
    | false=>nf H
  | _=>H
def xa(j5:Bool) (m:Nat) (H:List bf):List bf:=match m with
  | 1=>[]
  | 3=>H.filter (pr j5)
  | _=>H
theorem CU{j5:Bool} {m:Nat} {env:Nat->Loc} {B:Nat->Prop} {w:World} {l:bz} {H:List bf} (h:bA env B w l H):bA env B w (CT j5 m l) (xa j5 m H)/\(xa j5 m H).Sublist H:=by
  unfold CT xa
  split
  · exact⟨rfl,List.nil_sublist _⟩
  · cases j5 with
    | true=>exact⟨by
        have e:H.filter (pr true)=H:=List.filter_eq_self.2 fun _ _=>rfl
        show bA env B w l (H.filter (pr true));rw[e]; exact h,List.filter_sublist⟩
    | false=>exact⟨h.gQ,List.filter_sublist⟩
  · exact⟨h,List.Sublist.refl _⟩
def H0(X:bs) (n:Nat) (st:aO) (aT bM b7:Oper):Option (Bool×aO×List Nat):=match aT,bM,b7 with
  | ⟨some d1,.mapEntry t u x,_,_,_,none⟩,⟨some d2,.extract (.tmp s1) 1,_,_,_,none⟩,⟨none,.entryStore t3 uN (.tmp s2) y,_,_,_,none⟩=>match Nat.blt d1 n&&(Nat.blt d2 n&&(Nat.beq s1 d1&&(Nat.beq s2 d2&&Nat.beq t3 t))),X.tt.find t,bp X st.L u,bp X st.L x with
    | true,some ⟨⟨.map fh fr,_,_,_⟩,_⟩,some (true,.c (.b8 id)),some (g,e7)=>match bd st.H id,X.tt.find fr,bp X ((d2,b3.a (.c .dead)) :: (d1,b3.a (.c .dead)) :: st.L) uN,bp X ((d2,b3.a (.c .dead)) :: (d1,b3.a (.c .dead)) :: st.L) y with
      | some (.mp gk aY l _),some _,some (true,.c (.b8 abE)),some (g2,eb)=>match dec gk e7.cells,dec aY eb.cells,Nat.beq abE id&&(w5 X fh gk&&(ly gk e7&&ly aY eb))with
        | some (c,z,[]),some (cL,e8,[]),true=>some (g&&(c&&(g2&&cL)),⟨(d2,.a (.c .dead)) :: (d1,.a (.c .dead)) :: st.L,eM id (.mp gk aY (eD gk aY l z e8) none) st.H⟩,[d2,d1,id])
        | _,_,_=>none
      | _,_,_,_=>none
    | _,_,_,_=>none
  | _,_,_=>none
theorem abF{X:bs} {n:Nat} {st st':aO} {aT bM b7:Oper} {c:Bool} {V:List Nat} (av:X.tt.ok X.P) (h:H0 X n st aT bM b7=some (c,st',V)) (aa:c=true) {ops:Array Oper}
    {R:Nat->Prop} {W:World} {aJ:e0} {ks:List Nat} {env:Nat->Loc} {B:Nat->Prop} {al:World} {H:List bf} {a:Act} {w:World} (aj:bH X R W aJ n ks env B al H st a w) {G:World->Prop} (bR:∀ b1,c6 (fun k=>R k\/B k) al b1->G b1) {KK:Act->World->Prop}
    (sY:∀ aP w' H',bH X R W aJ n ks env B al H' st' aP w'->KK aP w') :
    eS X.P ops aT (fun a1 b1=>G b1/\eS X.P ops bM (fun a2 hI=>G hI/\eS X.P ops b7 (fun a3 l9=>G l9/\KK a3 l9) a2 hI) a1 b1) a w:=by
  unfold H0 at h
  split at h
  · rename_i d1 t u x _ _ _ d2 s1 _ _ _ t3 uN s2 y _ _ _
    split at h
    · rename_i ae a8 hu ak
      simp only[Bool.and_eq_true]at ae;obtain⟨lU,kv,ay,aS,cz⟩:=ae;have ay:=Nat.eq_of_beq_eq_true ay;have aS:=Nat.eq_of_beq_eq_true aS;have cz:=Nat.eq_of_beq_eq_true cz;subst ay;subst aS;subst cz
      split at h
      · rename_i ah he ux aL
        split at h
        · rename_i l7 rL ab
          simp only[Bool.and_eq_true]at ab;obtain⟨hh,iN,hz,sO⟩:=ab;have hh:=Nat.eq_of_beq_eq_true hh;subst hh;cases h;simp only[Bool.and_eq_true]at aa;obtain⟨v0,db,_⟩:=OZ av (zj av iN) a8 rfl he ah aj;exact O0 av (zj av iN) rfl ⟨rfl,rfl⟩ lU rfl ⟨rfl,rfl⟩ kv rfl ⟨rfl,rfl⟩ a8 rfl he hu ak aa.1 l7 aa.2.1 hz ah ux aL aa.2.2.1 rL aa.2.2.2 sO aj db (fun b1 h _=>bR b1 h) bR sY
        · cases h
      · cases h
    · cases h
  · cases h
def zw(X:bs) (n:Nat) (st:aO) (kb jg aT bM b7:Oper):Option (Bool×aO×List Nat):=match kb,jg.guard,jg.dst,aT,bM,b7 with
  | ⟨some d,.lookup t (.tmp kF) (.tmp e7) false,_,_,_,none⟩,none,some iO,⟨some d1,.mapEntry t1 (.tmp O9) (.tmp Pa),_,_,_,none⟩,⟨some d2,.extract (.tmp s1) 1,_,_,_,none⟩,⟨none,.entryStore t3 (.tmp Pb) (.tmp s2) y,_,_,_,none⟩=>
    match (Nat.blt d n&&(Nat.blt iO n&&(Nat.blt d1 n&&Nat.blt d2 n)))&&((Nat.beq O9 kF&&(Nat.beq Pa e7&&(Nat.beq Pb kF&&(Nat.beq s1 d1&&(Nat.beq s2 d2&&(Nat.beq t1 t&&Nat.beq t3 t))))))&&((!Nat.beq kF d&&(!Nat.beq kF iO&&(!Nat.beq kF d1&&(!Nat.beq kF d2&&(!Nat.beq e7 d&&!Nat.beq e7 iO)))))&&(wz jg.op&&!p7 jg.op))),X.tt.find t,bp X st.L (.tmp kF),bp X st.L (.tmp e7)with
    | true,some ⟨⟨.map fh fr,_,_,_⟩,_⟩,some (true,.c (.b8 id)),some (g,qs)=>match bd st.H id,X.tt.find fr with
      | some (.mp gk aY l _),some dC=>match dec gk qs.cells,w5 X fh gk&&(ly gk qs&&zk aY dC.bq.zero)with
        | some (c,z,[]),true=>match ql aY ((cF gk aY l z).getD aY.zero)with
          | some bx=>match tO X ⟨(d,.a bx) :: st.L,st.H⟩ jg.op with
            | some (sk,sp)=>match bp X ((d2,b3.a (.c .dead)) :: (d1,b3.a (.c .dead)) :: (iO,.a sp) :: (d,.a bx) :: st.L) y with
              | some (g2,eb)=>match dec aY eb.cells,ly aY eb with
                | some (cL,e8,[]),true=>some (g&&(c&&(sk&&(g2&&cL))),⟨(d2,.a (.c .dead)) :: (d1,.a (.c .dead)) :: (iO,.a sp) :: (d,.a bx) :: st.L,eM id (.mp gk aY (eD gk aY l z e8) none) st.H⟩,[d2,d1,iO,d,id])
                | _,_=>none
              | none=>none
            | none=>none
          | none=>none
        | _,_=>none
      | _,_=>none
    | _,_,_,_=>none
  | _,_,_,_,_,_=>none
def H3(ops:Array Oper) (E:List Nat) (listed:Array Bool) (i p e:Nat):Bool:=
  (qf ops E listed i&&qf ops E (listed.setIfInBounds i true) p&&((yu ops i).all fun j=>!listed.getD j true&&wA ops i (yu ops i) j) &&
    (List.range ops.size).all fun j=>j == i || listed.getD j true || j == e || j == e+1 || (yu ops i).elem j) &&
  (((Region.ready .any ops ((listed.setIfInBounds i true).setIfInBounds p true) == [e])&&(Region.ready .any ops (((listed.setIfInBounds i true).setIfInBounds p true).setIfInBounds e true) == [e+1])&&(Region.ready .any ops ((((listed.setIfInBounds i true).setIfInBounds p true).setIfInBounds e true).setIfInBounds (e+1) true) == [e+2])) &&
   (!E.elem i&&!E.elem p&&!E.elem e&&!E.elem (e+1)&&!E.elem (e+2))&&(!Nat.beq p e&&!Nat.beq p (e+1)&&Nat.blt (e+1) listed.size))
def Pc(ops:Array Oper) (E:List Nat) (listed:Array Bool) (i:Nat):Bool:=(List.range ops.size).all fun j=>j == i || listed.getD j true || E.elem j || E.elem (j+lZ) ||
  (match ops[j]? with
  | some o=>o.after.any fun e=>Region.binds .any e&&(e.on == i || E.elem (e.on+lZ))
  | none=>true)
theorem Pd{l:Array Bool} {j:Nat}:(l.setIfInBounds j true).getD j true=true:=by
  rcases Nat.lt_or_ge j l.size with aK | aK
  · simp[aK]
  · simp[aK]
theorem Pe{E:List Nat} {l:Array Bool} {j:Nat} (h:rj E (l.setIfInBounds j true)=false):rj E l=false:=by
  unfold rj at h ⊢;rw[List.any_eq_false]at h ⊢;intro e he ae;refine h e he ?_;rw[Bool.and_eq_true]at ae ⊢;refine⟨ae.1,?_⟩;obtain⟨q,ar⟩:∃ q,q=e - lZ:=⟨_,rfl⟩
  have ij:=ae.2;rw[<- ar]at ij ⊢
  by_cases aH:j=q
  · rw[aH]; exact Pd
  · rw[getD_set_ne true aH]
    exact ij
theorem Pf{E:List Nat} {l:Array Bool} {j:Nat} (gn:E.elem (j+lZ)=true) (ah:l.getD j true=true):rj E l=true:=by
  unfold rj;rw[List.any_eq_true];refine⟨j+lZ,by simpa using gn,?_⟩;rw[Bool.and_eq_true];exact⟨Nat.ble_eq_true_of_le (Nat.le_add_left _ _),by rw[Nat.add_sub_cancel]; exact ah⟩
theorem fV.abG{P:Program} {ops:Array Oper} {Q:Exit->Act->World->Prop} {E:List Nat} {G F:World->Prop} {i:Nat} {gC:Oper} {v:Value} (hi:ops[i]?=some gC) (yI:∀ (j:Nat) (o:Oper) cs b,ops[j]?=some o->o.op≠.select cs b) (yP:yN E i=true):∀ (fuel:Nat) (listed:Array Bool) (a:Act) (w:World),
      (∀ j eu,ops[j]?=some eu->j≠i->listed.getD j true=false->(∀ e∈eu.after,Region.binds .any e=true->e.on≠i)->gC.apart ops eu=true/\(E.elem j=true\/E.elem (j+lZ)=true\/∃ e∈eu.after,Region.binds .any e=true/\E.elem (e.on+lZ)=true)) ->
      i∈Region.ready .any ops listed->YieldsIf P ops F gC v a->F w->(fg E listed i=true->G w) ->
      fV P ops Q (fun j l w=>(fg E l j=true->G w)/\F w) fuel (listed.setIfInBounds i true) (a.put gC.dst v) w->fV P ops Q (fun j l w=>(fg E l j=true->G w)/\F w) (fuel+1) listed a w:=by
  have B1:∀ {l:Array Bool} {j:Nat},fg E l j=true->fg E (l.setIfInBounds i true) j=true:=Gh yP;intro fuel
  induction fuel with
  | zero=>
    intro listed a w _ aw aL bI bR H;refine⟨fun h=>(by rw[h]at aw; cases aw),fun j aH=>?_⟩
    by_cases e5:j=i
    · subst e5; exact⟨gC,hi,BW aL bI ⟨⟨bR,bI⟩,H⟩⟩
    · have:=ready_mono aH e5
      rw[H.1]at this;cases this
  | succ fuel br=>
    intro listed a w lq aw aL bI bR H;refine⟨fun h=>(by rw[h]at aw; cases aw),fun j aH=>?_⟩
    by_cases e5:j=i
    · subst e5; exact⟨gC,hi,BW aL bI ⟨⟨bR,bI⟩,H⟩⟩
    · obtain⟨Gd,Ge,dt⟩:=H.2 j (ready_mono aH e5)
      obtain⟨kR,eu,hT,lW⟩:=mem_ready.1 aH;have Gf:Gd=eu:=Option.some.inj (Ge.symm.trans hT);rw[Gf]at dt;have BY:∀ e∈eu.after,Region.binds .any e=true->e.on≠i:=fun e he ae heq=>by
        have db:=lW e he ae;have nL:=(mem_ready.1 aw).1;rw[heq]at db
        rcases Nat.lt_or_ge i listed.size with aK | aK
        · simp[aK]at nL db; rw[nL]at db; cases db
        · simp[Array.getElem?_eq_none aK]at db
      obtain⟨kl,Gg⟩:=lq j eu hT e5 kR BY;have lr:=eS.M6 kl (fun cs b=>yI i gC cs b hi) (fun cs b=>yI j eu cs b hT) aL dt;refine⟨eu,hT,lr.mono fun aP w' aq=>⟨⟨fun hm=>aq.2.1.1 (B1 hm),aq.2.1.2⟩,?_⟩⟩;refine br (listed.setIfInBounds j true) aP w' (fun k ok ab pq yL ff=>?_) (ready_mono aw (Ne.symm e5)) aq.1 aq.2.1.2 (fun hm=>?_) ?_
      · refine lq k ok ab pq ?_ ff
        by_cases yM:j=k
        · subst yM; exact kR
        · rw[getD_set_ne true yM]at yL; exact yL
      · have CV:rj E (listed.setIfInBounds j true)=false:=by
          unfold fg at hm;rw[Bool.and_eq_true,Bool.not_eq_true']at hm;exact hm.2
        rcases Gg with aE | aE | ⟨e,he,ae,aE⟩
        · refine aq.2.1.1 (B1 ?_)
          unfold fg;rw[aE,Pe CV]
          rfl
        · rw[Pf aE Pd]at CV
          cases CV
        · have ah:listed.getD e.on true=true:=by
            have db:=lW e he ae
            rcases Nat.lt_or_ge e.on listed.size with aK | aK
            · simpa [aK] using db
            · simp[aK]
          have bb:=Pe CV;rw[Pf aE ah]at bb;cases bb
      · rw[Array.setIfInBounds_comm _ _ e5]
        exact aq.2.2
def CW(ops:Array Oper) (E:List Nat) (i m:Nat) (aG:hJ):Bool:=match m with
  | 0=>qf ops E aG.listed i&&B0 ops E aG.listed aG.pre i&&sA (fun o=>wz o&&!p7 o) ops i
  | 1=>qf ops E aG.listed i&&B0 ops E aG.listed aG.pre i&&sA wz ops i&&aG.ky
  | 3=>qf ops E aG.listed i&&yO ops E (yu ops i) aG.listed i&&sA wz ops i&&aG.early&&aG.pre
  | 5=>qf ops E aG.listed i&&Pc ops E aG.listed i&&sA (fun o=>wz o&&!p7 o) ops i&&aG.pre
  | _=>false
def hJ.next(aG:hJ) (i:Nat):hJ:=⟨aG.listed.setIfInBounds i true,aG.early,aG.pre,aG.ky,aG.all⟩
section
variable {X:bs} {aR:Type}
def fH(X:bs) (n:Nat) (T:List (bC X)) (ops:List Oper) (E:List Nat):List qv->hJ->fG->List Nat->List Bool->aO->(hJ->fG->List Nat->List Bool->aO->Option aR)->Option aR
  | [],aG,G,V,A,st,k=>k aG G V A st
  | .t i m :: r,aG,G,V,A,st,k=>match nth ops i,CW ops.toArray E i m aG with
    | some o,true=>match o.guard,o.dst with
      | none,some d=>match sT X (e1 ops) [] G ⟨st.L,CT aG.all m st.H⟩ o.op,Nat.blt d n with
        | some (c,bx),true=>fH X n T ops E r (aG.next i) (nk (e1 ops) d G) (d :: V) (c :: A) ⟨(d,.a bx) :: st.L,st.H⟩ k
        | _,_=>none
      | some (j,want),some d=>match nth (e1 ops) j with
        | some (some s)=>match jS st.L s want with
          | some g=>match sT X (e1 ops) (sS (e1 ops) G 8 j want) G ⟨st.L,CT aG.all m st.H⟩ o.op,Nat.blt d n,Nat.beq s d with
            | some (c,bx),true,false=>fH X n T ops E r (aG.next i) ((d,j,want) :: nk (e1 ops) d G) (d :: V) (eo g c :: A) ⟨(d,.may g bx) :: st.L,st.H⟩ k
            | _,_,_=>none
          | none=>none
        | _=>none
      | _,none=>none
    | _,_=>none
  | .m i :: r,aG,G,V,A,st,k=>match nth ops i,CW ops.toArray E i 0 aG with
    | some o,true=>match o.guard,o.dst,BJ st.L o.op with
      | none,some d,some xs=>match Nat.blt d n with
        | true=>fH X n T ops E r (aG.next i) (nk (e1 ops) d G) (d :: V) A ⟨(d,.c3 xs) :: st.L,st.H⟩ k
        | false=>none
      | _,_,_=>none
    | _,_=>none
  | .s i :: r,aG,_,V,A,st,k=>match nth ops i,Region.ready .any ops.toArray aG.listed == [i],fg E aG.listed i with
    | some o,true,false=>match o.guard with
      | none=>match uH X n st o with
        | some (c,st',W)=>fH X n T ops E r ⟨aG.listed.setIfInBounds i true,false,false,aG.ky,aG.all⟩ [] (W++V) (c :: A) st' k
        | none=>match oo X n (e1 ops) st o with
          | .ok c st'=>fH X n T ops E r ⟨aG.listed.setIfInBounds i true,false,false,aG.ky,aG.all⟩ [] (uF X st.L o++V) (c :: A) st' k
          | .stop=>none
      | some _=>none
    | _,_,_=>none
  | .k i :: r,aG,_,V,A,st,k=>match nth ops i,Region.ready .any ops.toArray aG.listed == [i],aG.pre with
    | some o,true,true=>match o.guard with
      | none=>match o.dst,w0 X st o.op with
        | some d,some (c,bx)=>match Nat.blt d n with
          | true=>fH X n T ops E r ⟨aG.listed.setIfInBounds i true,false,true,false,aG.all⟩ [] (d :: V) (c :: A) ⟨(d,.a bx) :: st.L,st.H⟩ k
          | false=>none
        | _,none=>match cond aG.all (we o.op&&so o st.H) (BC o.op&&qa o st.H),oo X n (e1 ops) st o with
          | true,.ok c st'=>fH X n T ops E r ⟨aG.listed.setIfInBounds i true,false,true,aG.ky,aG.all⟩ [] (uF X st.L o++V) (c :: A) st' k
          | _,_=>none
        | none,some _=>none
      | some _=>none
    | _,_,_=>none
  | .u i m :: r,aG,_,V,A,st,k=>match nth ops i,Region.ready .any ops.toArray aG.listed == [i],fg E aG.listed i with
    | some o,true,false=>match uJ X n st m o with
      | some (c,st',W)=>fH X n T ops E r ⟨aG.listed.setIfInBounds i true,false,false,aG.ky,aG.all⟩ [] (W++V) (c :: A) st' k
      | none=>none
    | _,_,_=>none
  | .w i p e :: r,aG,_,V,A,st,k=>match nth ops i,nth ops p,nth ops e,nth ops (e+1),nth ops (e+2),H3 ops.toArray E aG.listed i p e with
    | some kb,some jg,some aT,some bM,some b7,true=>match zw X n st kb jg aT bM b7 with
      | some (c,st',W)=>fH X n T ops E r ⟨((((aG.listed.setIfInBounds i true).setIfInBounds p true).setIfInBounds e true).setIfInBounds (e+1) true).setIfInBounds (e+2) true,false,false,aG.ky,aG.all⟩ [] (W++V) (c :: A) st' k
      | none=>none
    | _,_,_,_,_,_=>none
  | .c i ps :: r,aG,_,V,A,st,k=>match nth ops i,Region.ready .any ops.toArray aG.listed == [i],!fg E aG.listed i || (aG.pre&&(pz st.H ps || (!aG.all&&wS st.H ps)))with
    | some o,true,true=>uK X n T ps V A st (fun fi fj bP st'=>fH X n T ops E r ⟨aG.listed.setIfInBounds i true,false,aG.pre&&(pz st.H ps || (!aG.all&&wS st.H ps)),false,aG.all⟩ fi fj bP st' k) o
    | _,_,_=>none
  | .g i :: r,aG,G,V,A,st,k=>match nth ops i,Region.ready .any ops.toArray aG.listed == [i],fg E aG.listed i with
    | some o,true,false=>w6 X n T (e1 ops) G V A st (fun fi fj bP st'=>fH X n T ops E r ⟨aG.listed.setIfInBounds i true,false,false,false,aG.all⟩ fi fj bP st' k) o
    | _,_,_=>none
  | .z id :: r,aG,_,V,A,st,k=>match de id st with
    | some st'=>fH X n T ops E r ⟨aG.listed,false,aG.pre&&!aG.all,false,aG.all⟩ [] V A st' k
    | none=>none
  | .f :: r,aG,G,V,A,st,k=>match E.isEmpty || aG.pre with
    | true=>fH X n T ops E r ⟨aG.listed,true,true,true,aG.all⟩ G V A st k
    | false=>none
variable {M:Bool} {n:Nat} {T:List (bC X)} {st0 st st':aO} {Q:Exit->aO->Prop} {ops:List Oper} {o:Oper} {r:aR} {V:List Nat} {A:List Bool} {E:List Nat} {aG:hJ} {fuel i:Nat}
theorem jh{k:hJ->fG->List Nat->List Bool->aO->Option aR} (dJ:∀ aG G V A st,k aG G V A st=some r->∀ c∈A,c=true):∀ {is:List qv} {aG:hJ} {G:fG} {V:List Nat} {A:List Bool} {st:aO},fH X n T ops E is aG G V A st k=some r->∀ c∈A,c=true
  | [],aG,G,V,A,st,h=>by
    unfold fH at h;exact dJ _ _ _ _ _ h
  | .t i m :: is,aG,G,V,A,st,h=>by
    unfold fH at h
    split at h
    · split at h
      · split at h
        · exact fun c aa=>jh dJ h c (List.mem_cons_of_mem _ aa)
        · cases h
      · split at h
        · split at h
          · split at h
            · exact fun c aa=>jh dJ h c (List.mem_cons_of_mem _ aa)
            · cases h
          · cases h
        · cases h
      · cases h
    · cases h
  | .m i :: is,aG,G,V,A,st,h=>by
    unfold fH at h
    split at h
    · split at h
      · split at h
        · exact jh dJ h
        · cases h
      · cases h
    · cases h
  | .s i :: is,aG,G,V,A,st,h=>by
    unfold fH at h
    split at h
    · split at h
      · split at h
        · exact fun c aa=>jh dJ h c (List.mem_cons_of_mem _ aa)
        · split at h
          · exact fun c aa=>jh dJ h c (List.mem_cons_of_mem _ aa)
          · cases h
      · cases h
    · cases h
  | .k i :: is,aG,G,V,A,st,h=>by
    unfold fH at h
    split at h
    · split at h
      · split at h
        · split at h
          · exact fun c aa=>jh dJ h c (List.mem_cons_of_mem _ aa)
          · cases h
        · split at h
          · exact fun c aa=>jh dJ h c (List.mem_cons_of_mem _ aa)
          · cases h
        · cases h
      · cases h
    · cases h
  | .u i m :: is,aG,G,V,A,st,h=>by
    unfold fH at h
    split at h
    · split at h
      · exact fun c aa=>jh dJ h c (List.mem_cons_of_mem _ aa)
      · cases h
    · cases h
  | .w i p e :: is,aG,G,V,A,st,h=>by
    unfold fH at h
    split at h
    · split at h
      · exact fun c aa=>jh dJ h c (List.mem_cons_of_mem _ aa)
      · cases h
    · cases h
  | .c i ps :: is,aG,G,V,A,st,h=>by
    unfold fH at h
    split at h
    · exact(sV (cZ.refl (V:=V) st) h).1
    · cases h
  | .g i :: is,aG,G,V,A,st,h=>by
    unfold fH at h
    split at h
    · exact OQ h
    · cases h
  | .z id :: is,aG,G,V,A,st,h=>by
    unfold fH at h
    split at h
    · exact jh dJ h
    · cases h
  | .f :: is,aG,G,V,A,st,h=>by
    unfold fH at h
    split at h
    · exact jh dJ h
    · cases h
theorem Pg(av:X.tt.ok X.P) {R:Nat->Prop} {W:World} {aJ:e0} {ks:List Nat} {env:Nat->Loc} {B:Nat->Prop} {al:World} {H C:List bf} {L:cX} {wm h:bz} {a:Act} {w:World} {c:Bool} {G:fG} {ps:List (Nat×Bool)} {bx:bl} (aj:bH X R W aJ n ks env B al H ⟨L,wm⟩ a w) (cg:bA env B al h C) (dA:C.Sublist H) (bR:ez (e1 ops) G L) (ao:∀ p∈ps,nQ (e1 ops) L p) (an:sT X (e1 ops) ps G ⟨L,h⟩ o.op=some (c,bx)) (aa:c=true) :
    ∃ v,dH env B al bx v/\∀ w',(p7 o.op=true->bE (fun k=>R k\/B k) al C w')->(execOp a.eval o).run X.P w'=.ok (.value v) w':=by
  have fe:bH X R W aJ n [] env B al C ⟨L,h⟩ { tmps:=a.tmps,defers:=aJ.d } w:=⟨aj.size,rfl,aj.has,cg,aj.aM.e6 (by simpa using dA.trans (List.sublist_append_left _ _)),aj.sub,aj.new,aj.dL,aj.base,aj.et⟩
  obtain⟨v,J,U⟩:=Ow av fe bR ao an aa;refine⟨v,J,fun w' hw=>?_⟩
  have:=U w' (by simpa using hw)
  exact this
theorem CX(av:X.tt.ok X.P) {m d:Nat} {sv:b3} {R:Nat->Prop} {W:World} {aJ:e0} {dc:Nat->Prop} {dG:World} {cN:List bf} {F:World->Prop} {ks:List Nat} {env:Nat->Loc} {B:Nat->Prop} {al:World} {H:List bf} {a:Act} {w:World} {wC:Exit->Act->World->Prop} (hi:nth ops i=some o) (a8:CW ops.toArray E i m aG=true) (eK:o.dst=some d) (ax:Nat.blt d n=true)
    (aj:bH X R W aJ n ks env B al H st a w) (dD:lu R aG dc dG cN F B al H) (v:Value) (gM:eH env B al sv v)
    (aL:∀ T:World->Prop,(∀ w',T w'->p7 o.op=true->bE (fun k=>R k\/B k) al (xa aG.all m H) w')->YieldsIf X.P ops.toArray T o v a)
    (Gj:∀ aP,bH X R W aJ n ks env B al H ⟨(d,sv) :: st.L,st.H⟩ aP w->lu R (aG.next i) dc dG cN F B al H->fV X.P ops.toArray wC (fun j l w=>(fg E l j=true->bE (fun k=>R k\/dc k) dG cN w)/\F w) fuel (aG.next i).listed aP w) :
    fV X.P ops.toArray wC (fun j l w=>(fg E l j=true->bE (fun k=>R k\/dc k) dG cN w)/\F w) (fuel+1) aG.listed a w:=by
  have ot:=lv hi;have uO:F w:=dD.F aj;have abH:=aj.set (sv:=sv) gM (show cT n (j2 ks aJ) ((d,v) :: gm a) (a.put o.dst v) by rw[eK]; exact aj.bZ.put d v (dY ax));have gD:lu R (aG.next i) dc dG cN F B al H:=⟨dD.early,dD.pre,dD.de,dD.pt⟩
  have go:=Gj _ abH gD;unfold CW at a8
  split at a8
  · simp only[sA,ot,Bool.and_eq_true,Bool.not_eq_true']at a8
    obtain⟨⟨o5,qh⟩,H4,H5⟩:=a8;obtain⟨rD,y1⟩:=Nc qh;exact Gi (E.elem i) v ot o5 id rD (aL _ fun w' _ ah=>by rw[H5]at ah; cases ah) (fun he=>dD.T (y1 he) aj) uO go
  · simp only[sA,ot,Bool.and_eq_true]at a8
    obtain⟨⟨⟨o5,qh⟩,H4⟩,o6⟩:=a8;obtain⟨rD,y1⟩:=Nc qh;refine Gi (E.elem i) v ot o5 id rD (aL _ fun w' pd _=>?_) (fun he=>dD.T (y1 he) aj) uO go;have oJ:=pd.2;rw[dD.de o6]at oJ;refine⟨oJ,fun k ab=>?_,(fun _ h=>by cases h),List.Pairwise.nil⟩;have ag:=aj.aM.base k ab;have aq:=aj.aM.below.block k ab;have aE:=oJ.block k ab;rw[<- aq,Array.getElem?_eq_getElem ag]at aE;exact(Array.getElem?_eq_some_iff.1 aE).1
  · simp only[sA,ot,Bool.and_eq_true]at a8
    obtain⟨⟨⟨⟨o5,pw⟩,H4⟩,abI⟩,oK⟩:=a8;refine Gi true v ot o5 (fun _=>rfl) (fun _=>pw) (aL _ fun w' pd _=>?_) (fun _=>dD.T oK aj) uO go;have oJ:=pd.1 rfl;obtain⟨ay,aS,cz⟩:=dD.early abI;rw[ay,aS,cz]at oJ;exact oJ
  · simp only[sA,ot,Bool.and_eq_true,Bool.not_eq_true']at a8
    obtain⟨⟨⟨o5,pw⟩,H4,H5⟩,oK⟩:=a8;simp only[qf,Bool.and_eq_true]at o5;obtain⟨⟨⟨yP,wD⟩,lq⟩,Gk⟩:=o5;refine fV.abG ot (Region.noSelect_spec wD) yP _ _ _ _ (fun j eu hT e5 kR ff=>⟨Region.free_spec ot lq j eu hT e5 kR ff,?_⟩) (by simpa using Gk) (aL F fun w' _ ah=>by rw[H5]at ah; cases ah) uO (fun _=>dD.T oK aj) go;unfold Pc at pw;rw[List.all_eq_true]at pw;have J:=pw j (List.mem_range.2 (Array.getElem?_eq_some_iff.1 hT).1);simp only[Bool.or_eq_true,hT,Array.any_eq_true]at J
    rcases J with(((J | J) | J) | J) | ⟨e,he,J⟩
    · exact absurd (by simpa using J) e5
    · rw[kR]at J; cases J
    · exact .inl J
    · exact .inr (.inl J)
    · rw[Bool.and_eq_true,Bool.or_eq_true]at J
      rcases J.2 with U | U
      · exact absurd (by simpa using U) (ff _ (Array.getElem_mem he) J.1)
      · exact .inr (.inr ⟨_,Array.getElem_mem he,J.1,U⟩)
  · cases a8
theorem Ph{H:bz} {ps:ec} {pre j5:Bool} (h:(pre&&(pz H ps || (!j5&&wS H ps)))=true):pre=true/\∀ c,pr j5 c=true->uv H ps c=true:=by
  rw[Bool.and_eq_true,Bool.or_eq_true,Bool.and_eq_true]at h;refine⟨h.1,fun c aa=>?_⟩;unfold uv
  rcases h.2 with J | J
  · rw[J]; rfl
  · unfold pr at aa
    have U:j5=false:=by simpa using J.1
    rw[U,Bool.false_or]at aa;rw[aa,J.2]
    simp
theorem zx{pre':Bool} {kp:bf->Bool} (hi:nth ops i=some o) (ao:sN X n o kp st st') (abJ:pre'=true->aG.pre=true/\∀ c,pr aG.all c=true->kp c=true) (gn:(!fg E aG.listed i || pre')=true) (h:jq X M n ops E fuel ⟨aG.listed.setIfInBounds i true,false,pre',false,aG.all⟩ st' Q):qg X M n ops E fuel aG st Q i:=by
  intro R W aJ dc dG cN F ks env B al H a w bL aj dD;refine⟨o,lv hi,ao R W aJ ks env B al H a w aj _ _ fun aP w' env' B' cC H' ck gL jN lS=>?_⟩;have gD:lu R ⟨aG.listed.setIfInBounds i true,false,pre',false,aG.all⟩ dc dG cN F B' cC H':=⟨fun h=>(by cases h),fun h=>by
    have aK:pre'=true:=h;obtain⟨abK,abL⟩:=abJ aK;obtain⟨g1,g2,g3,g4⟩:=dD.pre abK;exact⟨fun c aa=>⟨lS c (g1 c aa).1 (abL c (g1 c aa).2),(g1 c aa).2⟩,g2,fun k ab=>gL k (g3 k ab),g4.trans ⟨jN.os,jN.tape,jN.output,jN.size,fun k ab=>jN.block k (ab.imp id (g3 k))⟩⟩,fun h=>(by cases h),fun w hw=>dD.pt w (jN.trans ⟨hw.os,hw.tape,hw.output,hw.size,fun k ab=>hw.block k (ab.imp id (gL k))⟩)⟩
  refine⟨⟨fun cg=>gD.T ?_ ck,gD.F ck⟩,h R W aJ dc dG cN F ks env' B' cC H' aP w' bL ck gD⟩;rw[cg]at gn;exact gn
theorem abM(hi:nth ops i=some o) (ao:∀ (R:Nat->Prop) (W:World) (aJ:e0) (ks:List Nat) (env:Nat->Loc) (B:Nat->Prop) (al:World) (H:List bf) (a:Act) (w:World),bH X R W aJ n ks env B al H st a w->∀ (KK:Act->World->Prop),(∀ aP w' env' B' cC H',bH X R W aJ n ks env' B' cC H' st' aP w'->(∀ k,B k->B' k)->c6 (fun k=>R k\/B k) al cC->KK aP w')->eS X.P ops.toArray o KK a w) (gn:fg E aG.listed i=false) (h:jq X M n ops E fuel ⟨aG.listed.setIfInBounds i true,false,false,false,aG.all⟩ st' Q):qg X M n ops E fuel aG st Q i:=by
  intro R W aJ dc dG cN F ks env B al H a w bL aj dD;refine⟨o,lv hi,ao R W aJ ks env B al H a w aj _ fun aP w' env' B' cC H' ck gL jN=>?_⟩;have gD:lu R ⟨aG.listed.setIfInBounds i true,false,false,false,aG.all⟩ dc dG cN F B' cC H':=⟨fun h=>(by cases h),fun h=>(by cases h),fun h=>(by cases h),fun w hw=>dD.pt w (jN.trans ⟨hw.os,hw.tape,hw.output,hw.size,fun k ab=>hw.block k (ab.imp id (gL k))⟩)⟩
  exact⟨⟨fun cg=>(by rw[gn]at cg; cases cg),gD.F ck⟩,h R W aJ dc dG cN F ks env' B' cC H' aP w' bL ck gD⟩
theorem sZ(aw:(Region.ready .any ops.toArray aG.listed == [i])=true) (h:qg X M n ops E fuel aG st Q i):jq X M n ops E (fuel+1) aG st Q:=Gm (beq_iff_eq.1 aw) (wF h Gl)
theorem ix.Pj{bx:bl} {d:Nat} (ao:ix X st o bx) (bg:o.guard=none/\o.dst=some d) (ax:Nat.blt d n=true):sN X n o (fun _=>true) st ⟨(d,.a bx) :: st.L,st.H⟩:=by
  intro R W aJ ks env B al H a w aj KK l bQ;obtain⟨v,J,U⟩:=ao aj;exact hP aj.bZ bg.1 bg.2 (dY ax) (U w fun _=>aj.aM) fun aP aI=>bQ aP w env B al H (aj.set (sv:=.a bx) J aI) (fun _ h=>h) (c6.refl _ _) fun _ h _=>h
theorem ake(av:X.tt.ok X.P) {aT bM b7:Oper} {c:Bool} {bK:List Nat} (J:nth ops i=some aT) (U:nth ops (i+1)=some bM) (ag:nth ops (i+2)=some b7)
    (aw:(Region.ready .any ops.toArray aG.listed == [i]&&(Region.ready .any ops.toArray (aG.listed.setIfInBounds i true) == [i+1]&&Region.ready .any ops.toArray ((aG.listed.setIfInBounds i true).setIfInBounds (i+1) true) == [i+2]))=true)
    (hm:(fg E aG.listed i || (fg E (aG.listed.setIfInBounds i true) (i+1) || fg E ((aG.listed.setIfInBounds i true).setIfInBounds (i+1) true) (i+2)))=false) (ak:H0 X n st aT bM b7=some (c,st',bK)) (aa:c=true)
    (h:jq X M n ops E fuel ⟨((aG.listed.setIfInBounds i true).setIfInBounds (i+1) true).setIfInBounds (i+2) true,false,false,aG.ky,aG.all⟩ st' Q):jq X M n ops E (fuel+3) aG st Q:=by
  intro R W aJ dc dG cN F ks env B al H a w bL aj dD;simp only[Bool.and_eq_true,beq_iff_eq]at aw;obtain⟨aF,a7,bt⟩:=aw;simp only[Bool.or_eq_false_iff]at hm;obtain⟨m1,m2,m3⟩:=hm;have mG:=abF (ops:=ops.toArray) av ak aa aj (G:=F) (fun b1 ab=>dD.pt b1 ab) (KK:=fun aP w'=>fV X.P ops.toArray (fun e a w=>e=.normal/\∃ st',Q e st'/\lV X R W aJ M n st' a w) (fun j l w=>(fg E l j=true->bE (fun k=>R k\/dc k) dG cN w)/\F w) fuel (((aG.listed.setIfInBounds i true).setIfInBounds (i+1) true).setIfInBounds (i+2) true) aP w') (fun aP w' H' ck=>h R W aJ dc dG cN F ks env B al H' aP w' bL ck dD.lost);refine⟨fun aN=>(by rw[aF]at aN; cases aN),fun k ab=>?_⟩;rw[aF]at ab;have pq:k=i:=by simpa using ab
  subst pq;refine⟨aT,lv J,mG.mono fun a1 b1 ⟨g1,mG⟩=>⟨⟨fun cg=>(by rw[m1]at cg; cases cg),g1⟩,?_⟩⟩;refine⟨fun aN=>(by rw[a7]at aN; cases aN),fun en hz=>?_⟩;rw[a7]at hz;have pq:en=k+1:=by simpa using hz
  subst pq;refine⟨bM,lv U,mG.mono fun a2 hI ⟨g2,mG⟩=>⟨⟨fun cg=>(by rw[m2]at cg; cases cg),g2⟩,?_⟩⟩;refine⟨fun aN=>(by rw[bt]at aN; cases aN),fun l6 sO=>?_⟩;rw[bt]at sO;have pq:l6=k+2:=by simpa using sO
  subst pq;exact⟨b7,lv ag,mG.mono fun a3 l9 ⟨g3,mG⟩=>⟨⟨fun cg=>(by rw[m3]at cg; cases cg),g3⟩,mG⟩⟩
structure abN(X:bs) (n:Nat) (st:aO) (kb jg aT bM b7:Oper) (c:Bool) (st':aO) (W:List Nat) where
  d:Nat
  iO:Nat
  d1:Nat
  d2:Nat
  kF:Nat
  e7:Nat
  t:TypeId
  fh:TypeId
  fr:TypeId
  id:Nat
  bw:bh
  dC:bh
  gk:aU
  aY:aU
  l:List (gk.D×aY.D)
  jQ:Option (List MapEntry×Nat)
  z:gk.D
  g:Bool
  Pk:Bool
  sk:Bool
  g2:Bool
  cL:Bool
  qs:bl
  bx:bl
  sp:bl
  eb:bl
  e8:aY.D
  y:Operand
  abO:kb.op=.lookup t (.tmp kF) (.tmp e7) false
  dV:kb.guard=none/\kb.dst=some d
  iC:jg.guard=none/\jg.dst=some iO
  HV:aT.op=.mapEntry t (.tmp kF) (.tmp e7)
  J:aT.guard=none/\aT.dst=some d1
  HW:bM.op=.extract (.tmp d1) 1
  U:bM.guard=none/\bM.dst=some d2
  HX:b7.op=.entryStore t (.tmp kF) (.tmp d2) y
  ag:b7.guard=none/\b7.dst=none
  ax:Nat.blt d n=true
  abP:Nat.blt iO n=true
  lU:Nat.blt d1 n=true
  kv:Nat.blt d2 n=true
  CY:kF≠d/\kF≠iO/\kF≠d1/\kF≠d2
  Pl:e7≠d/\e7≠iO
  pu:wz jg.op=true/\p7 jg.op=false
  a8:X.tt.find t=some bw
  dh:bw.bq.desc=.map fh fr
  he:X.tt.find fr=some dC
  hu:bp X st.L (.tmp kF)=some (true,.c (.b8 id))
  ak:bp X st.L (.tmp e7)=some (g,qs)
  ah:bd st.H id=some (.mp gk aY l jQ)
  l7:dec gk qs.cells=some (Pk,z,[])
  ab:w5 X fh gk=true
  Pm:ly gk qs=true
  bG:zk aY dC.bq.zero=true
  l1:ql aY ((cF gk aY l z).getD aY.zero)=some bx
  kl:tO X ⟨(d,.a bx) :: st.L,st.H⟩ jg.op=some (sk,sp)
  aL:bp X ((d2,b3.a (.c .dead)) :: (d1,b3.a (.c .dead)) :: (iO,.a sp) :: (d,.a bx) :: st.L) y=some (g2,eb)
  rL:dec aY eb.cells=some (cL,e8,[])
  abQ:ly aY eb=true
  aa:c=(g&&(Pk&&(sk&&(g2&&cL))))
  cU:st'=⟨(d2,.a (.c .dead)) :: (d1,.a (.c .dead)) :: (iO,.a sp) :: (d,.a bx) :: st.L,eM id (.mp gk aY (eD gk aY l z e8) none) st.H⟩
  mo:W=[d2,d1,iO,d,id]
theorem Pn{kb jg aT bM b7:Oper} {c:Bool} {bK:List Nat} (ak:zw X n st kb jg aT bM b7=some (c,st',bK)):Nonempty (abN X n st kb jg aT bM b7 c st' bK):=by
  unfold zw at ak
  split at ak
  · rename_i d t kF e7 _ _ _ iO d1 t1 O9 Pa _ _ _ d2 s1 _ _ _ t3 Pb s2 y _ _ _ hgP hdP
    split at ak
    · rename_i ae a8 hu abR
      simp only[Bool.and_eq_true,Bool.not_eq_true']at ae;obtain⟨⟨wi,jE,O6,O7⟩,⟨db,eB,hM,iJ,j1,uy,H6⟩,⟨pA,pB,abS,abT,abU,abV⟩,h8,hF⟩:=ae;have db:=Nat.eq_of_beq_eq_true db;have eB:=Nat.eq_of_beq_eq_true eB;have hM:=Nat.eq_of_beq_eq_true hM;have iJ:=Nat.eq_of_beq_eq_true iJ;have j1:=Nat.eq_of_beq_eq_true j1;have uy:=Nat.eq_of_beq_eq_true uy;have H6:=Nat.eq_of_beq_eq_true H6;subst db; subst eB; subst hM; subst iJ; subst j1; subst uy; subst H6
      split at ak
      · rename_i ah he
        split at ak
        · rename_i l7 ab
          simp only[Bool.and_eq_true]at ab
          split at ak
          · rename_i l1
            split at ak
            · rename_i kl
              split at ak
              · rename_i aL
                split at ak
                · rename_i rL hshy
                  cases ak;exact⟨⟨d,iO,_,_,_,_,_,_,_,_,_,_,_,_,_,_,_,_,_,_,_,_,_,_,_,_,_,_,rfl,⟨rfl,rfl⟩,⟨hgP,hdP⟩,rfl,⟨rfl,rfl⟩,rfl,⟨rfl,rfl⟩,rfl,⟨rfl,rfl⟩,wi,jE,O6,O7,⟨Nat.ne_of_beq_eq_false pA,Nat.ne_of_beq_eq_false pB,Nat.ne_of_beq_eq_false abS,Nat.ne_of_beq_eq_false abT⟩,⟨Nat.ne_of_beq_eq_false abU,Nat.ne_of_beq_eq_false abV⟩,⟨h8,hF⟩,a8,rfl,he,hu,abR,ah,l7,ab.1,ab.2.1,ab.2.2,l1,kl,aL,rL,hshy,rfl,rfl,rfl⟩⟩
                · cases ak
              · cases ak
            · cases ak
          · cases ak
        · cases ak
      · cases ak
    · cases ak
  · cases ak
theorem abW{kb jg aT bM b7:Oper} {c:Bool} {bK:List Nat} (ak:zw X n st kb jg aT bM b7=some (c,st',bK)):cZ bK st st':=by
  obtain⟨I⟩:=Pn ak;have key:∀ (s:aO) (V:List Nat),s=⟨(I.d2,.a (.c .dead)) :: (I.d1,.a (.c .dead)) :: (I.iO,.a I.sp) :: (I.d,.a I.bx) :: st.L,eM I.id (.mp I.gk I.aY (eD I.gk I.aY I.l I.z I.e8) none) st.H⟩->V=[I.d2,I.d1,I.iO,I.d,I.id]->cZ V st s:=fun s V an gM=>by
    subst an;subst gM;exact⟨(cp.cons (cp.cons (cp.cons (cp.cons (V:=[I.id]) (cp.refl _))))),(j7 (V:=[I.id]) (j8 _ _)).more fun q ar=>(fY (fY (fY (fY ar).2).2).2).2⟩
  exact key _ _ I.cU I.mo
theorem fV.Po{P:Program} {ops:Array Oper} {Q:Exit->Act->World->Prop} {S S':Nat->Array Bool->World->Prop} {e:Nat} (aI:∀ j l w,j≠e->j≠e+1->S j l w->S' j l w):∀ (fuel:Nat) (listed:Array Bool) (a:Act) (w:World),listed.getD e true=true->listed.getD (e+1) true=true->fV P ops Q S fuel listed a w->fV P ops Q S' fuel listed a w
  | 0,_,_,_,_,_,h=>h
  | fuel+1,listed,_,_,J,U,h=>⟨h.1,fun j aH=>by
    obtain⟨o,bg,ak⟩:=h.2 j aH;have hu:=(mem_ready.1 aH).1;have cr:∀ q,listed.getD q true=true->j≠q:=fun q ar abX=>by
      subst abX
      rcases Nat.lt_or_ge j listed.size with aK | aK
      · simp[aK]at hu ar; rw[hu]at ar; cases ar
      · simp[Array.getElem?_eq_none aK]at hu
    have ab:∀ q,listed.getD q true=true->(listed.setIfInBounds j true).getD q true=true:=fun q ar=>by rw[getD_set_ne true (cr q ar)]; exact ar
    exact⟨o,bg,ak.mono fun aP w' aK=>⟨aI _ _ _ (cr e J) (cr (e+1) U) aK.1,fV.Po aI fuel _ aP w' (ab e J) (ab (e+1) U) aK.2⟩⟩⟩
theorem xb{L:cX} {s d:Nat} {v:b3} (h:s≠d):bp X ((d,v) :: L) (.tmp s)=bp X L (.tmp s):=by
  unfold bp;simp only[cI,if_neg h]
theorem abY{P:Program} {ops:List Oper} {Q:Exit->Act->World->Prop} {S:Nat->Array Bool->World->Prop} {e fuel:Nat} {aT bM b7:Oper} {l:Array Bool} {a:Act} {w:World} (J:nth ops e=some aT) (U:nth ops (e+1)=some bM) (ag:nth ops (e+2)=some b7)
    (aF:Region.ready .any ops.toArray l=[e]) (a7:Region.ready .any ops.toArray (l.setIfInBounds e true)=[e+1]) (bt:Region.ready .any ops.toArray ((l.setIfInBounds e true).setIfInBounds (e+1) true)=[e+2])
    (h:eS P ops.toArray aT (fun a1 b1=>S e l b1/\eS P ops.toArray bM (fun a2 hI=>S (e+1) (l.setIfInBounds e true) hI/\eS P ops.toArray b7 (fun a3 l9=>S (e+2) ((l.setIfInBounds e true).setIfInBounds (e+1) true) l9/\fV P ops.toArray Q S fuel (((l.setIfInBounds e true).setIfInBounds (e+1) true).setIfInBounds (e+2) true) a3 l9) a2 hI) a1 b1) a w):fV P ops.toArray Q S (fuel+3) l a w:=by
  refine⟨fun aN=>(by rw[aF]at aN; cases aN),fun k ab=>?_⟩;rw[aF]at ab;have pq:k=e:=by simpa using ab
  subst pq;refine⟨aT,lv J,h.mono fun a1 b1 ⟨g1,h⟩=>⟨g1,?_⟩⟩;refine⟨fun aN=>(by rw[a7]at aN; cases aN),fun q ar=>?_⟩;rw[a7]at ar;have H7:q=k+1:=by simpa using ar
  subst H7;refine⟨bM,lv U,h.mono fun a2 hI ⟨g2,h⟩=>⟨g2,?_⟩⟩;refine⟨fun aN=>(by rw[bt]at aN; cases aN),fun q ar=>?_⟩;rw[bt]at ar;have H7:q=k+2:=by simpa using ar
  subst H7;exact⟨b7,lv ag,h⟩
theorem abZ(k:Nat):¬ (k+2=k\/k+2=k+1):=by omega
theorem ab0{l:Array Bool} {e:Nat} (h:e < l.size):(((l.setIfInBounds e true).setIfInBounds (e+1) true).setIfInBounds (e+2) true).getD e true=true:=by
  rw[getD_set_ne true (by omega),getD_set_ne true (by omega)]
  simp[h]
theorem ab1{l:Array Bool} {e:Nat} (h:e+1 < l.size):(((l.setIfInBounds e true).setIfInBounds (e+1) true).setIfInBounds (e+2) true).getD (e+1) true=true:=by
  rw[getD_set_ne true (by omega)]
  simp[h]
set_option maxHeartbeats 1000000 in
theorem ab2(av:X.tt.ok X.P) {kb jg aT bM b7:Oper} {c:Bool} {bK:List Nat} {p e:Nat} (Pp:nth ops i=some kb) (Pq:nth ops p=some jg) (J:nth ops e=some aT) (U:nth ops (e+1)=some bM) (ag:nth ops (e+2)=some b7)
    (aw:H3 ops.toArray E aG.listed i p e=true) (ak:zw X n st kb jg aT bM b7=some (c,st',bK)) (aa:c=true)
    (h:jq X M n ops E fuel ⟨((((aG.listed.setIfInBounds i true).setIfInBounds p true).setIfInBounds e true).setIfInBounds (e+1) true).setIfInBounds (e+2) true,false,false,aG.ky,aG.all⟩ st' Q):jq X M n ops E (fuel+3+1+1) aG st Q:=by
  intro R W aJ dc dG cN F ks env B al H a w bL aj dD;obtain⟨I⟩:=Pn ak;have dE:=I.aa.symm.trans aa;simp only[Bool.and_eq_true]at dE;obtain⟨j4,en,l6,Cm,H8⟩:=dE;unfold H3 at aw;rw[Bool.and_eq_true]at aw;obtain⟨jF,oL⟩:=aw;simp only[Bool.and_eq_true]at jF oL;obtain⟨⟨⟨rQ,Pr⟩,tY⟩,lW⟩:=jF;obtain⟨⟨⟨⟨aF,a7⟩,bt⟩,⟨⟨⟨⟨H9,Ps⟩,Pt⟩,Pu⟩,Pv⟩⟩,⟨⟨CZ,C0⟩,C1⟩⟩:=oL;simp only[beq_iff_eq]at aF a7 bt;simp only[Bool.not_eq_true']at H9 Ps Pt Pu Pv CZ C0;have CZ:=Nat.ne_of_beq_eq_false CZ;have C0:=Nat.ne_of_beq_eq_false C0;have C1:=dY C1;have uO:F w:=dD.F aj;have zy:∀ {l:Array Bool} {j:Nat},E.elem j=false->fg E l j=false:=fun {l j} aH=>by unfold fg; rw[aH]; rfl
  have bQ:=zj av I.ab;obtain⟨v0,Pw,lA⟩:=OZ (z:=I.z) av bQ I.a8 I.dh I.he I.ah aj;have w9:dH env B al I.bx v0:=(lA (OL I.bG)).bx I.l1;obtain⟨iz,db,b,ae,rfl⟩:=aj.aD I.hu rfl;obtain⟨vx,eB,hM⟩:=aj.aD I.ak j4;rw[dZ.key bQ.qt bQ.eq.key (dZ.ug I.l7 en I.Pm hM)]at eB
  let uP:World->Prop:=fun b1=>∀ b,env I.id=.blk b->(Instr.lookup I.t (.map (some b)) (.agg (I.gk.cE I.z).toArray) false).run X.P b1=.ok v0 b1
  have ab3:∀ b1,uP b1->(execOp a.eval kb).run X.P b1=.ok (.value v0) b1:=fun b1 oI=>by
    simp[execOp,I.abO,aj.bZ.aD db,aj.bZ.aD eB,oI b ae]
  -- the state yu the lookup and the new value
  have fe:=aj.set (sv:=.a I.bx) w9 (show cT n (j2 ks aJ) ((I.d,v0) :: gm a) (a.put kb.dst v0) by rw[I.dV.2]; exact aj.bZ.put I.d v0 (dY I.ax));obtain⟨Ia,ab4,ab5⟩:=BB av I.kl l6 fe;have fQ:=fe.set (sv:=.a I.sp) ab4 (show cT n (j2 ks aJ) ((I.iO,Ia) :: gm (a.put kb.dst v0)) ((a.put kb.dst v0).put jg.dst Ia) by rw[I.iC.2]; exact fe.bZ.put I.iO Ia (dY I.abP))
  -- stronger: the lookup may come yu the entry
  refine fV.Gn (S':=fun j l w=>((fg E l j=true->bE (fun k=>R k\/dc k) dG cN w)/\F w)/\(j=e\/j=e+1->uP w)) (fun _ _ _ h=>h.1) _ _ _ _ ?_;have o5:=rQ;simp only[qf,Bool.and_eq_true]at rQ Pr;obtain⟨⟨⟨ab6,wD⟩,ab7⟩,ab8⟩:=rQ;obtain⟨⟨⟨ab9,_⟩,aca⟩,acb⟩:=Pr;have yJ:∀ {q:Nat},yN E q=true->∀ (j:Nat) (l:Array Bool) (w:World),(((fg E (l.setIfInBounds q true) j=true->bE (fun k=>R k\/dc k) dG cN w)/\F w)/\(j=e\/j=e+1->uP w))->(((fg E l j=true->bE (fun k=>R k\/dc k) dG cN w)/\F w)/\(j=e\/j=e+1->uP w)):=fun ar j l w aI=>⟨⟨fun he=>aI.1.1 (Gh ar he),aI.1.2⟩,aI.2⟩
  have Px:∀ j∈yu ops.toArray i,aG.listed.getD j true=false/\wA ops.toArray i (yu ops.toArray i) j=true:=fun j aH=>by
    have:=List.all_eq_true.1 tY j aH
    simpa using this
  refine fV.first (T:=fun w=>uP w/\F w) (lv Pp) (Region.noSelect_spec wD) (yu ops.toArray i) (fun j aH=>Na (Px j aH).2) (yJ ab6) _ _ _ _ (fun j aH=>(Px j aH).1) ?_ (by simpa using ab8) (.inl ⟨by simp[Region.wanted,I.dV.1],fun b1 oI=>ab3 b1 oI.1⟩) ⟨Pw,uO⟩ ?_ (fun l b1 oI=>⟨⟨fun he=>(by rw[zy H9]at he; cases he),oI.2⟩,fun _=>oI.1⟩)
  · intro j eu hT e5 kR ff
    refine⟨Region.free_spec (lv Pp) ab7 j eu hT e5 kR ff,?_⟩
    have:=List.all_eq_true.1 lW j (List.mem_range.2 (Array.getElem?_eq_some_iff.1 hT).1)
    simp only[Bool.or_eq_true,beq_iff_eq]at this
    rcases this with(((g1 | g1) | g1) | g1) | g1
    · exact absurd g1 e5
    · rw[kR]at g1; cases g1
    · exact .inr fun l b1 _ aI=>⟨aI.2 (.inl g1),aI.1.2⟩
    · exact .inr fun l b1 _ aI=>⟨aI.2 (.inr g1),aI.1.2⟩
    · exact .inl (by simpa using g1)
  refine fV.first (T:=F) (lv Pq) (Region.noSelect_spec wD) [] (fun _ h=>by cases h) (yJ ab9) _ _ _ _ (fun _ h=>by cases h) ?_ (by simpa using acb) (.inl ⟨by simp[Region.wanted,I.iC.1],fun b1 _=>ab5 b1 fun h=>by rw[I.pu.2]at h; cases h⟩) uO ?_ (fun l b1 oI=>⟨⟨fun he=>(by rw[zy Ps]at he; cases he),oI⟩,fun he=>he.elim (fun q=>absurd q CZ) (fun q=>absurd q C0)⟩)
  · intro j eu hT e5 kR ff
    exact⟨Region.free_spec (lv Pq) aca j eu hT e5 kR ff,.inr fun l b1 _ aI=>aI.1.2⟩
  -- the entry
  have GR:bp X ((I.iO,b3.a I.sp) :: (I.d,b3.a I.bx) :: st.L) (.tmp I.kF)=some (true,.c (.b8 I.id)):=by rw[xb I.CY.2.1,xb I.CY.1]; exact I.hu
  have nq:bp X ((I.iO,b3.a I.sp) :: (I.d,b3.a I.bx) :: st.L) (.tmp I.e7)=some (I.g,I.qs):=by rw[xb I.Pl.2,xb I.Pl.1]; exact I.ak
  have ux:bp X ((I.d2,b3.a (.c .dead)) :: (I.d1,b3.a (.c .dead)) :: (I.iO,b3.a I.sp) :: (I.d,b3.a I.bx) :: st.L) (.tmp I.kF)=some (true,.c (.b8 I.id)):=by rw[xb I.CY.2.2.2,xb I.CY.2.2.1]; exact GR
  have mG:=O0 (st:=⟨(I.iO,b3.a I.sp) :: (I.d,b3.a I.bx) :: st.L,st.H⟩) (ops:=ops.toArray) av bQ I.HV I.J I.lU I.HW I.U I.kv I.HX I.ag I.a8 I.dh I.he GR nq j4 I.l7 en I.Pm I.ah ux I.aL Cm I.rL H8 I.abQ fQ Pw (G:=fun b1=>F b1/\uP b1) (G3:=F) (fun b1 ab ah=>⟨dD.pt b1 ab,ah⟩) (fun b1 ab=>dD.pt b1 ab)
    (KK:=fun aP w'=>fV X.P ops.toArray (fun e a w=>e=.normal/\∃ st',Q e st'/\lV X R W aJ M n st' a w) (fun j l w=>((fg E l j=true->bE (fun k=>R k\/dc k) dG cN w)/\F w)/\(j=e\/j=e+1->uP w)) fuel (((((aG.listed.setIfInBounds i true).setIfInBounds p true).setIfInBounds e true).setIfInBounds (e+1) true).setIfInBounds (e+2) true) aP w') (fun aP w' H' ck=>by
      have acd:bH X R W aJ n ks env B al H' st' aP w':=by rw[I.cU]; exact ck
      have pw:fV X.P ops.toArray (fun e a w=>e=.normal/\∃ st',Q e st'/\lV X R W aJ M n st' a w) (fun j l w=>(fg E l j=true->bE (fun k=>R k\/dc k) dG cN w)/\F w) fuel (((((aG.listed.setIfInBounds i true).setIfInBounds p true).setIfInBounds e true).setIfInBounds (e+1) true).setIfInBounds (e+2) true) aP w':=h R W aJ dc dG cN F ks env B al H' aP w' bL acd dD.lost;refine fV.Po (e:=e) (S:=fun j l w=>(fg E l j=true->bE (fun k=>R k\/dc k) dG cN w)/\F w) (fun j l w J U aI=>⟨aI,fun h=>h.elim (fun q=>absurd q J) (fun q=>absurd q U)⟩) _ _ _ _ ?_ ?_ pw
      · exact ab0 (by simpa using Nat.lt_of_succ_lt C1)
      · exact ab1 (by simpa using C1))
  exact abY J U ag aF a7 bt (mG.mono fun a1 b1 ⟨g1,mG⟩=>⟨⟨⟨fun cg=>(by rw[zy Pt]at cg; cases cg),g1.1⟩,fun _=>g1.2⟩,mG.mono fun a2 hI ⟨g2,mG⟩=>⟨⟨⟨fun cg=>(by rw[zy Pu]at cg; cases cg),g2.1⟩,fun _=>g2.2⟩,mG.mono fun a3 l9 ⟨g3,mG⟩=>⟨⟨⟨fun cg=>(by rw[zy Pv]at cg; cases cg),g3⟩,fun cg=>(abZ e cg).elim⟩,mG⟩⟩⟩)
theorem kW(av:X.tt.ok X.P) {k:hJ->fG->List Nat->List Bool->aO->Option aR} {r:aR} {c0:Nat} (dJ:∀ aG G V A st,k aG G V A st=some r->∀ c∈A,c=true) (ab:∀ wB fi fj bP st',ez (e1 ops) fi st'.L->cZ fj st0 st'->k wB fi fj bP st'=some r->jq X M n ops E c0 wB st' Q):∀ {is:List qv} {aG:hJ} {G:fG} {V:List Nat} {A:List Bool} {st:aO},ez (e1 ops) G st.L->cZ V st0 st->fH X n T ops E is aG G V A st k=some r->jq X M n ops E (c0+rP is) aG st Q
  | [],aG,G,V,A,st,bR,aN,h=>by
    unfold fH at h;exact ab _ _ _ _ _ bR aN h
  | .t i m :: is,aG,G,V,A,st,bR,aN,h=>by
    have one:∀ {d:Nat} {sv:b3},cZ (d :: V) st0 ⟨(d,sv) :: st.L,st.H⟩:=fun {d sv}=>⟨cp.cons aN.1,aN.2.more fun q ar=>(fY ar).2⟩
    unfold fH at h
    split at h
    · rename_i o hi a8
      split at h
      · rename_i d dS eK
        split at h
        · rename_i c bx ay ax
          have aa:=jh dJ h c List.mem_cons_self;have br:=kW (is:=is) av dJ ab (bR.drop d _) one h;intro R W aJ dc dG cN F ks env B al H a w bL aj dD;obtain⟨v,aC,dy⟩:∃ v,dH env B al bx v/\∀ w',(p7 o.op=true->bE (fun k=>R k\/B k) al (xa aG.all m H) w')->(execOp a.eval o).run X.P w'=.ok (.value v) w':=Pg av aj (CU aj.heap).1 (CU aj.heap).2 bR (fun _ h=>by cases h) ay aa;exact CX (sv:=.a bx) av hi a8 eK ax aj dD v aC (fun T bI=>.inl ⟨by simp[Region.wanted,dS],fun w' pd=>dy w' (bI w' pd)⟩) fun aP ck gD=>br R W aJ dc dG cN F ks env B al H aP w bL ck gD
        · cases h
      · rename_i j want d dS eK
        split at h
        · rename_i s aH
          split at h
          · rename_i g aQ
            split at h
            · rename_i c bx ay ax sW
              have aa:=jh dJ h _ List.mem_cons_self;have cr:s≠d:=Nat.ne_of_beq_eq_false sW;have rN:ez (e1 ops) ((d,j,want) :: nk (e1 ops) d G) ((d,.may g bx) :: st.L):=fun e he=>by
                rcases List.mem_cons.1 he with rfl | he
                · exact⟨s,g,bx,aH,by rw[Cw cr]; exact aQ,by rw[cI,if_pos rfl]⟩
                · exact bR.drop d _ e he
              have br:=kW (is:=is) av dJ ab rN one h;intro R W aJ dc dG cN F ks env B al H a w bL aj dD;have hw:=Hx (l:=ops) aj dS aH aQ;cases g with
              | true=>
                obtain⟨v,aC,dy⟩:∃ v,dH env B al bx v/\∀ w',(p7 o.op=true->bE (fun k=>R k\/B k) al (xa aG.all m H) w')->(execOp a.eval o).run X.P w'=.ok (.value v) w':=Pg av aj (CU aj.heap).1 (CU aj.heap).2 bR (Cx bR ⟨s,aH,aQ⟩) ay (y9 aa rfl);exact CX (sv:=.may true bx) av hi a8 eK ax aj dD v ⟨fun _=>aC,fun h=>by cases h⟩ (fun T bI=>.inl ⟨hw,fun w' pd=>dy w' (bI w' pd)⟩) fun aP ck gD=>br R W aJ dc dG cN F ks env B al H aP w bL ck gD
              | false=>exact CX (sv:=.may false bx) av hi a8 eK ax aj dD undef ⟨(fun h=>by cases h),fun _=>rfl⟩ (fun T bI=>.inr ⟨hw,rfl⟩) fun aP ck gD=>br R W aJ dc dG cN F ks env B al H aP w bL ck gD
            · cases h
          · cases h
        · cases h
      · cases h
    · cases h
  | .m i :: is,aG,G,V,A,st,bR,aN,h=>by
    unfold fH at h
    split at h
    · rename_i o hi a8
      split at h
      · rename_i d xs dS eK hm
        split at h
        · rename_i ax
          have one:cZ (d :: V) st0 ⟨(d,.c3 xs) :: st.L,st.H⟩:=⟨cp.cons aN.1,aN.2.more fun q ar=>(fY ar).2⟩
          have br:=kW (is:=is) av dJ ab (bR.drop d _) one h;intro R W aJ dc dG cN F ks env B al H a w bL aj dD;obtain⟨v,J,U⟩:=MZ aj hm;exact CX (sv:=.c3 xs) av hi a8 eK ax aj dD v J (fun T bI=>.inl ⟨by simp[Region.wanted,dS],fun w' pd=>U w'⟩) fun aP ck gD=>br R W aJ dc dG cN F ks env B al H aP w bL ck gD
        · cases h
      · cases h
    · cases h
  | .s i :: is,aG,G,V,A,st,bR,aN,h=>by
    unfold fH at h
    split at h
    · rename_i o hi aw gn
      split at h
      · rename_i dS
        split at h
        · rename_i c st' W ay
          have aa:=jh dJ h c List.mem_cons_self;exact sZ aw (Cd hi (HB av ay aa) gn rfl (kW (is:=is) av dJ ab ez.nil (aN.trans (HC ay)) h))
        · split at h
          · rename_i c st' ay
            have aa:=jh dJ h c List.mem_cons_self;exact sZ aw (Nd av hi gn ay aa rfl (kW (is:=is) av dJ ab ez.nil (aN.trans (w2 dS ay)) h))
          · cases h
      · cases h
    · cases h
  | .k i :: is,aG,G,V,A,st,bR,aN,h=>by
    unfold fH at h
    split at h
    · rename_i o hi aw oK
      split at h
      · rename_i dS
        split at h
        · rename_i d c bx eK ay
          split at h
          · rename_i ax
            have one:cZ (d :: V) st0 ⟨(d,.a bx) :: st.L,st.H⟩:=⟨cp.cons aN.1,aN.2.more fun q ar=>(fY ar).2⟩
            have aa:=jh dJ h c List.mem_cons_self;refine sZ aw (zx (pre':=true) (kp:=fun _=>true) hi (ix.Pj (fun aj=>Cu av ay aa aj) ⟨dS,eK⟩ ax) (fun _=>⟨oK,fun _ _=>rfl⟩) (by simp) ?_);exact kW (is:=is) av dJ ab ez.nil one h
          · cases h
        · split at h
          · rename_i c st' lH ay
            have aa:=jh dJ h c List.mem_cons_self;cases iZ:aG.all with
            | true=>
              rw[iZ,cond_true]at lH;refine sZ aw (Ng av hi (by rw[oK,Bool.true_and]; exact lH) ay aa rfl ?_);exact kW (is:=is) av dJ ab ez.nil (aN.trans (w2 dS ay)) h
            | false=>
              rw[iZ,cond_false]at lH;simp only[Bool.and_eq_true]at lH;refine sZ aw (Nf av hi (by rw[oK,lH.1,lH.2,iZ]; rfl) ay aa rfl ?_);exact kW (is:=is) av dJ ab ez.nil (aN.trans (w2 dS ay)) h
          · cases h
        · cases h
      · cases h
    · cases h
  | .u i m :: is,aG,G,V,A,st,bR,aN,h=>by
    unfold fH at h
    split at h
    · rename_i o hi aw gn
      split at h
      · rename_i c st' W ay
        have aa:=jh dJ h c List.mem_cons_self;exact sZ aw (Cd hi (HJ av ay aa) gn rfl (kW (is:=is) av dJ ab ez.nil (aN.trans (HK ay)) h))
      · cases h
    · cases h
  | .w i p e :: is,aG,G,V,A,st,bR,aN,h=>by
    unfold fH at h
    split at h
    · rename_i kb jg aT bM b7 dV iC J U ag aw
      split at h
      · rename_i c st' bK ay
        have aa:=jh dJ h c List.mem_cons_self;exact ab2 av dV iC J U ag aw ay aa (kW (is:=is) av dJ ab ez.nil (aN.trans (abW ay)) h)
      · cases h
    · cases h
  | .c i ps :: is,aG,G,V,A,st,bR,aN,h=>by
    unfold fH at h
    split at h
    · rename_i o hi aw gn
      obtain⟨_,gK,V2,J,U,ag⟩:=sV aN h;exact sZ aw (zx hi J Ph gn (kW (is:=is) av dJ ab ez.nil U ag))
    · cases h
  | .g i :: is,aG,G,V,A,st,bR,aN,h=>by
    unfold fH at h
    split at h
    · rename_i o hi aw gn
      obtain⟨d,g,bx,fi,nL,db,eB,hM⟩:=OR bR aN h;exact sZ aw (abM hi hM gn (kW (is:=is) av dJ ab nL db eB))
    · cases h
  | .z id :: is,aG,G,V,A,st,bR,aN,h=>by
    unfold fH at h
    split at h
    · rename_i st' ay
      have fs:cZ [] st st':=by
        unfold de at ay
        split at ay
        · cases ay; exact⟨kC _ _ _,jR _ _ _⟩
        · cases ay
      exact VX id ay (kW (is:=is) av dJ ab ez.nil (aN.trans fs) h)
    · cases h
  | .f :: is,aG,G,V,A,st,bR,aN,h=>by
    unfold fH at h
    split at h
    · rename_i ay
      exact VV ay (kW (is:=is) av dJ ab bR aN h)
    · cases h
inductive rR where
  | f (l:List qv)
  | b (l:List qv) (i j:Nat) (ps jd:ec) (rS rT:Option oE) (x y:rR)
  | s (l:List qv) (j:Nat) (ks:List Int) (t:rR)
  | t (l:List qv) (i j k:Nat) (ps jd rs:ec) (rS rT mk:Option oE) (x y z:rR)
def lI:rR->Nat
  | .f l=>rP l
  | .b l _ _ _ _ _ _ x _=>lI x+1+rP l
  | .s l _ _ t=>lI t+rP l
  | .t l _ _ _ _ _ _ _ _ _ x _ _=>lI x+1+rP l
def C2{aR:Type} (z:Int):List Int->(Int->Option aR)->Option aR
  | [],_=>none
  | k :: ks,f=>cond (decide (z=k)) (f k) (C2 z ks f)
theorem Py{aR:Type} {z:Int} {f:Int->Option aR} {r:aR}:∀ {ks:List Int},C2 z ks f=some r->f z=some r
  | [],h=>by cases h
  | k :: ks,h=>by
    unfold C2 at h;cases ax:decide (z=k)with
    | true=>
      rw[ax,cond_true]at h;rw[of_decide_eq_true ax];exact h
    | false=>
      rw[ax,cond_false]at h;exact Py h
def C3(j:Nat) (v:b3):cX->cX
  | []=>[]
  | (k,u) :: r=>match Nat.beq j k with
    | true=>(k,v) :: r
    | false=>(k,u) :: C3 j v r
theorem Pz{j:Nat} {v:b3}:∀ {L:cX},bd L j=some v->C3 j v L=L
  | [],_=>rfl
  | (k,u) :: r,h=>by
    unfold bd at h;unfold C3
    split at h
    · rename_i ae
      cases h;rw[ae]
    · rename_i ae
      rw[ae,Pz h]
open Classical in
noncomputable def eW {aR:Type} (a b:Option aR):Option aR:=if a=b then a else none
theorem nT{aR:Type} (a:Option aR):eW a a=a:=if_pos rfl
theorem Ib{aR:Type} {a b:Option aR} {r:aR} (h:eW a b=some r):a=some r/\b=some r:=by
  unfold eW at h
  split at h
  · rename_i e
    exact⟨h,e ▸ h⟩
  · cases h
def zz(ops:List Oper) (k:List Nat->aO->Option aR):hJ->fG->List Nat->List Bool->aO->Option aR:=fun aG _ V A st=>match Region.ready .any ops.toArray aG.listed with
  | []=>au (pG A true) (k V st)
  | _=>none
theorem ace{α β:Type} {c:Bool} {a:Option α} {f:α->Option β}:Option.bind a (fun r=>au c (f r))=au c (Option.bind a f):=by
  cases c with
  | true=>rfl
  | false=>
    cases a with
    | none=>rfl
    | some x=>rfl
theorem acf{α:Type} {a b:Bool} {k:Option α}:au (a&&b) k=au a (au b k):=by cases a<;>rfl
theorem acg{α:Type} {k:Option α}:au true k=k:=rfl
theorem ach{aR:Type} {x y:Option aR} (h:x=y):eW x y=x:=by rw[h]; exact nT _
def uQ(X:bs) (n:Nat) (T:List (bC X)) (ops:List Oper) (E:List Nat) (i:Nat) (ps:ec) (m:Option oE) (o:Oper) (aG:hJ) (V:List Nat) (A:List Bool) (st:aO) (k:hJ->fG->List Nat->List Bool->aO->Option aR):Option aR:=match o.guard with
  | none=>match fg E aG.listed i,aG.pre with
    | false,_=>match (match m with | some m=>uJ X n st m o | none=>uH X n st o)with
      | some (c,st',W)=>k ⟨aG.listed.setIfInBounds i true,false,false,aG.ky,aG.all⟩ [] (W++V) (c :: A) st'
      | none=>match oo X n (e1 ops) st o with
        | .ok c st'=>k ⟨aG.listed.setIfInBounds i true,false,false,aG.ky,aG.all⟩ [] (uF X st.L o++V) (c :: A) st'
        | .stop=>uK X n T ps V A st (fun fi fj bP st'=>k ⟨aG.listed.setIfInBounds i true,false,false,false,aG.all⟩ fi fj bP st') o
    | true,true=>match o.dst,w0 X st o.op with
      | some d,some (c,bx)=>match Nat.blt d n with
        | true=>k ⟨aG.listed.setIfInBounds i true,false,true,false,aG.all⟩ [] (d :: V) (c :: A) ⟨(d,.a bx) :: st.L,st.H⟩
        | false=>none
      | _,none=>match cond aG.all (we o.op&&so o st.H) (BC o.op&&qa o st.H),oo X n (e1 ops) st o with
        | true,.ok c st'=>k ⟨aG.listed.setIfInBounds i true,false,true,aG.ky,aG.all⟩ [] (uF X st.L o++V) (c :: A) st'
        | _,.stop=>match pz st.H ps || (!aG.all&&wS st.H ps)with
          | true=>uK X n T ps V A st (fun fi fj bP st'=>k ⟨aG.listed.setIfInBounds i true,false,true,false,aG.all⟩ fi fj bP st') o
          | false=>none
        | _,_=>none
      | none,some _=>none
    | true,false=>none
  | some _=>none
noncomputable def qw (X:bs) (n:Nat) (T:List (bC X)) (ops:List Oper) (E:List Nat):rR->hJ->fG->List Nat->List Bool->aO->(List Nat->aO->Option aR)->Option aR
  | .f l,aG,G,V,A,st,k=>fH X n T ops E l aG G V A st (zz ops k)
  | .s l j ks t,aG,G,V,A,st,k=>fH X n T ops E l aG G V A st fun aG _ V A st=>match bd st.L j with
    | some (.a (.c (.val (.int ou z))))=>au (pG A true) (C2 z ks fun q=>qw X n T ops E t aG [] V [] ⟨C3 j (.a (.c (.val (.int ou q)))) st.L,st.H⟩ k)
    | _=>none
  | .t l i j q ps jd rs rS rT Ic x y z,aG,G,V,A,st,k=>fH X n T ops E l aG G V A st fun aG _ V A st=>match nth ops i,nth ops j,nth ops q,Region.ready .any ops.toArray aG.listed == [i,j,q],Nat.beq (lI x) (lI y)&&Nat.beq (lI x) (lI z)with
    | some gC,some eu,some PA,true,true=>au (pG A true) (eW (uQ X n T ops E i ps rS gC aG V [] st fun aG G V A st=>qw X n T ops E x aG G V A st k) (eW (uQ X n T ops E j jd rT eu aG V [] st fun aG G V A st=>qw X n T ops E y aG G V A st k) (uQ X n T ops E q rs Ic PA aG V [] st fun aG G V A st=>qw X n T ops E z aG G V A st k)))
    | _,_,_,_,_=>none
  | .b l i j ps jd rS rT x y,aG,G,V,A,st,k=>fH X n T ops E l aG G V A st fun aG _ V A st=>match nth ops i,nth ops j,Region.ready .any ops.toArray aG.listed == [i,j],Nat.beq (lI x) (lI y)with
    | some gC,some eu,true,true=>au (pG A true) (eW (uQ X n T ops E i ps rS gC aG V [] st fun aG G V A st=>qw X n T ops E x aG G V A st k) (uQ X n T ops E j jd rT eu aG V [] st fun aG G V A st=>qw X n T ops E y aG G V A st k))
    | _,_,_,_=>none
theorem zA{ps:ec} {m:Option oE} (av:X.tt.ok X.P) {k:hJ->fG->List Nat->List Bool->aO->Option aR} {r:aR} {c0:Nat} (dJ:∀ aG G V A st,k aG G V A st=some r->∀ c∈A,c=true) (ab:∀ wB fi fj bP st',ez (e1 ops) fi st'.L->cZ fj st0 st'->k wB fi fj bP st'=some r->jq X M n ops E c0 wB st' Q) (hi:nth ops i=some o) (aN:cZ V st0 st) (h:uQ X n T ops E i ps m o aG V A st k=some r):qg X M n ops E c0 aG st Q i:=by
  unfold uQ at h
  split at h
  · rename_i dS
    split at h
    · rename_i gn
      split at h
      · rename_i c st' W ay
        cases m with
        | some m=>exact Cd hi (HJ av ay (dJ _ _ _ _ _ h c List.mem_cons_self)) gn rfl (ab _ _ _ _ _ ez.nil (aN.trans (HK ay)) h)
        | none=>exact Cd hi (HB av ay (dJ _ _ _ _ _ h c List.mem_cons_self)) gn rfl (ab _ _ _ _ _ ez.nil (aN.trans (HC ay)) h)
      · split at h
        · rename_i c st' ay
          exact Nd av hi gn ay (dJ _ _ _ _ _ h c List.mem_cons_self) rfl (ab _ _ _ _ _ ez.nil (aN.trans (w2 dS ay)) h)
        · obtain⟨_,gK,V2,J,U,ag⟩:=sV aN h
          exact zx (pre':=false) hi J (fun h=>by cases h) (by rw[gn]; rfl) (ab _ _ _ _ _ ez.nil U ag)
    · rename_i gn oK
      split at h
      · rename_i d c bx eK ay
        split at h
        · rename_i ax
          have one:cZ (d :: V) st0 ⟨(d,.a bx) :: st.L,st.H⟩:=⟨cp.cons aN.1,aN.2.more fun q ar=>(fY ar).2⟩
          exact zx (pre':=true) (kp:=fun _=>true) hi (ix.Pj (fun aj=>Cu av ay (dJ _ _ _ _ _ h c List.mem_cons_self) aj) ⟨dS,eK⟩ ax) (fun _=>⟨oK,fun _ _=>rfl⟩) (by simp) (ab _ _ _ _ _ ez.nil one h)
        · cases h
      · split at h
        · rename_i c st' lH ay
          have aa:=dJ _ _ _ _ _ h c List.mem_cons_self;have aV:=ab _ _ _ _ _ ez.nil (aN.trans (w2 dS ay)) h;cases iZ:aG.all with
          | true=>
            rw[iZ,cond_true]at lH;exact Ng av hi (by rw[oK,Bool.true_and]; exact lH) ay aa rfl aV
          | false=>
            rw[iZ,cond_false]at lH;simp only[Bool.and_eq_true]at lH;exact Nf av hi (by rw[oK,lH.1,lH.2,iZ]; rfl) ay aa rfl aV
        · split at h
          · rename_i mw
            obtain⟨_,gK,V2,J,U,ag⟩:=sV aN h;exact zx (pre':=true) hi J (fun _=>Ph (by rw[oK,mw]; rfl)) (by simp) (ab _ _ _ _ _ ez.nil U ag)
          · cases h
        · cases h
      · cases h
    · cases h
  · cases h
theorem zB{k:List Nat->aO->Option aR}:∀ {t:rR} {aG:hJ} {G:fG} {V:List Nat} {A:List Bool} {st:aO},qw X n T ops E t aG G V A st k=some r->∀ c∈A,c=true
  | .f l,aG,G,V,A,st,h=>jh (fun aG G V A st h=>by
      unfold zz at h
      split at h
      · exact(l8 (iq h).1).1
      · cases h) h
  | .b l i j ps jd rS rT x y,aG,G,V,A,st,h=>jh (fun aG G V A st h=>by
      split at h
      · exact(l8 (iq h).1).1
      · cases h) h
  | .t l i j q ps jd rs rS rT Ic x y z,aG,G,V,A,st,h=>jh (fun aG G V A st h=>by
      split at h
      · exact(l8 (iq h).1).1
      · cases h) h
  | .s l j ks t,aG,G,V,A,st,h=>jh (fun aG G V A st h=>by
      split at h
      · exact(l8 (iq h).1).1
      · cases h) h
theorem uR(av:X.tt.ok X.P) {k:List Nat->aO->Option aR} {r:aR} (ab:∀ fj st',cZ fj st0 st'->k fj st'=some r->Q .normal st'):∀ {t:rR} {aG:hJ} {G:fG} {V:List Nat} {A:List Bool} {st:aO},ez (e1 ops) G st.L->cZ V st0 st->qw X n T ops E t aG G V A st k=some r->jq X M n ops E (lI t) aG st Q
  | .f l,aG,G,V,A,st,bR,aN,h=>by
    have:=kW (c0:=0) (is:=l) (Q:=Q) (M:=M) (st0:=st0) av (k:=zz ops k) (r:=r) (fun aG G V A st h=>by
      unfold zz at h
      split at h
      · exact(l8 (iq h).1).1
      · cases h) (fun aG G V A st bR aN h=>by
      unfold zz at h
      split at h
      · rename_i e
        exact VU e (ab V st aN (iq h).2)
      · cases h) bR aN h
    rwa [Nat.zero_add]at this
  | .s l j ks t,aG,G,V,A,st,bR,aN,h=>by
    refine kW (c0:=lI t) (is:=l) av (k:=_) (r:=r) (fun aG G V A st h=>?_) (fun aG G V A st bR aN h=>?_) bR aN h
    · split at h
      · exact(l8 (iq h).1).1
      · cases h
    · split at h
      · rename_i ou z ah
        have U:=Py (iq h).2;rw[Pz ah]at U;exact uR av ab ez.nil aN U
      · cases h
  | .t l i j q ps jd rs rS rT Ic x y z,aG,G,V,A,st,bR,aN,h=>by
    refine kW (c0:=lI x+1) (is:=l) av (k:=_) (r:=r) (fun aG G V A st h=>?_) (fun aG G V A st bR aN h=>?_) bR aN h
    · split at h
      · exact(l8 (iq h).1).1
      · cases h
    · split at h
      · rename_i gC eu PA hi aH ar aw aa
        obtain⟨J,U⟩:=Ib (iq h).2;obtain⟨U,ag⟩:=Ib U;rw[Bool.and_eq_true]at aa;refine Gm (beq_iff_eq.1 aw) (wF (zA av (fun _ _ _ _ _ h=>zB h) (fun aG G V A st bR aN h=>uR av ab bR aN h) hi aN J) (wF (zA av (fun _ _ _ _ _ h=>zB h) (fun aG G V A st bR aN h=>?_) aH aN U) (wF (zA av (fun _ _ _ _ _ h=>zB h) (fun aG G V A st bR aN h=>?_) ar aN ag) Gl)))
        · rw[Nat.eq_of_beq_eq_true aa.1]
          exact uR av ab bR aN h
        · rw[Nat.eq_of_beq_eq_true aa.2]
          exact uR av ab bR aN h
      · cases h
  | .b l i j ps jd rS rT x y,aG,G,V,A,st,bR,aN,h=>by
    refine kW (c0:=lI x+1) (is:=l) av (k:=_) (r:=r) (fun aG G V A st h=>?_) (fun aG G V A st bR aN h=>?_) bR aN h
    · split at h
      · exact(l8 (iq h).1).1
      · cases h
    · split at h
      · rename_i gC eu hi aH aw aa
        obtain⟨J,U⟩:=Ib (iq h).2;refine Gm (beq_iff_eq.1 aw) (wF (zA av (fun _ _ _ _ _ h=>zB h) (fun aG G V A st bR aN h=>uR av ab bR aN h) hi aN J) (wF (zA av (fun _ _ _ _ _ h=>zB h) (fun aG G V A st bR aN h=>?_) aH aN U) Gl));rw[Nat.eq_of_beq_eq_true aa];exact uR av ab bR aN h
      · cases h
end
end
def zC{β:Type} (eA:β->(Nat->Prop)->World->Prop):Prop:=∀ l C W da,eA l C W->c6 C W da->eA l C da
structure Grow(B C cK:Nat->Prop) (W da:World):Prop where
 dQ:c6 (fun k=>B k\/(k < W.heap.size/\¬ C k)) W da
 new:∀ k,cK k->C k\/W.heap.size<=k\/B k
structure uS(C bV dK:Nat->Prop) (W:World):Prop where
 sub:∀ k,bV k->dK k
 new:∀ k,dK k->bV k\/(¬ C k/\∃ cs e dz,W.heap[k]?=some (.cells cs e dz))
def zD{β:Type} (eA:β->(Nat->Prop)->(Nat->Prop)->World->Prop):Prop:=∀ l C bV W da,eA l C bV W->c6 C W da->eA l C bV da
def Ie{α:Type} (P:Program) (g:Nat) (lb:List Value) (B:Nat->Prop) (al:World) (O:List bf) (l:List α) (enc:(Nat->Prop)->World->α->List Value->Prop):Prop:=
 ∀ (id:Nat) (eA:List α->(Nat->Prop)->(Nat->Prop)->World->Prop) (gq:Unit->(Nat->Prop)->World->Prop) (W:World),c6 B al W->(∀ k,B k->k < al.heap.size)->zD eA->zC gq->(∀ r C bV W,eA r C bV W->∀ k,C k->k < W.heap.size)->(∀ r C W,gq r C W->∀ k,C k->k < W.heap.size)->(∀ r C bV W,eA r C bV W->∀ k,bV k->C k) ->
  (∀ x rest C bV dK bK vs,eA (x :: rest) C bV bK->uS C bV dK bK->enc dK bK x vs->YieldAt Fence.wide 1 P id vs.toArray bK fun e da=>
   (e=.returned (.bool true)/\∃ cK,eA rest cK dK da/\Grow dK C cK bK da)\/(e=.returned (.bool false)/\∃ cK,gq () cK da/\Grow dK C cK bK da)) ->
  ∀ C,eA l C B W->bE C W O W->CallsIn Fence.wide 1 P g (#[.func (.yield id) #[] #[]]++lb.toArray) W fun e da=>(∃ v,e=.returned v)/\∃ cK,(∃ bV,eA [] cK bV da)\/gq () cK da
def PB{α:Type} (B:Nat->Prop) (I:List α->(Nat->Prop)->(Nat->Prop)->World->Prop) (kX:Code->(Nat->Prop)->World->Prop) (rest:List α) (C:Nat->Prop) (W:World):Exit->Act->World->Prop
 | .normal,_,da=>∃ cK,I rest cK B da/\Grow B C cK W da
 | .ret,_,da=>∃ cK,kX .ret cK da/\Grow B C cK W da
 | .exit id,_,da=>∃ cK,kX (.exit id) cK da/\Grow B C cK W da
 | _,_,_=>False
theorem s0{C:Nat->Prop} {W:World} {k:Nat} {o:Obj} (h:¬ C k):c6 C W (W.putObj k o):=⟨rfl,rfl,rfl,by simp,fun q ar=>World.putObj_heap_other fun e=>h (e ▸ ar)⟩
theorem PC{α:Type} {P:Program} {g:Operand} {ps:Array Tmp} {assign body:Code} {Q:Exit->Act->World->Prop} {a:Act} {w:World} {gf:Nat} {lb:List Value} {B:Nat->Prop} {al:World} {O:List bf} {l:List α} {enc:(Nat->Prop)->World->α->List Value->Prop}
  (aQ:a.eval g=.func (.func gf) #[] lb.toArray) (uT:∀ args w,(callFunc gf args).run P w=.ok (.enter gf args) w)
  (uU:Ie P gf lb B al O l enc) (kM:c6 B al w) (cm:∀ k,B k->k < al.heap.size) (mw:∀ dK W x vs,enc dK W x vs->vs.length=ps.size) (dp:∀ dK W da x vs,c6 dK W da->enc dK W x vs->enc dK da x vs)
  (I:List α->(Nat->Prop)->(Nat->Prop)->World->Prop) (kX:Code->(Nat->Prop)->World->Prop) (gV:zD I) (xc:zC kX) (aW:∀ r C bV W,I r C bV W->∀ k,C k->k < W.heap.size) (oM:∀ r C bV W,I r C bV W->∀ k,bV k->C k) (zE:∀ r C W,kX r C W->∀ k,C k->k < W.heap.size) (ir:Nat->Prop) (aN:I l ir B w) (xd:bE ir w O w)
  (aci:∀ (id:Nat) (x:α) (rest:List α) (vs:List Value) (C bV dK:Nat->Prop) (W:World) (o:Obj),id < W.heap.size->¬ C id->¬ dK id->I (x :: rest) C bV W->uS C bV dK W->enc dK W x vs ->
   assign.wpIn (Fence.wide.inRound id) 1 P (Exit.then (fun a1 b1=>b1.heap[id]?=W.heap[id]?/\body.wpIn (Fence.wide.inRound id) 1 P (PB dK I kX rest C (W.putObj id o)) a1 (b1.putObj id o)) (fun _ _ _=>False)) { tmps:=(ps.zip vs.toArray).foldl (fun t (p,v)=>t.setIfInBounds p v) a.tmps,defers:=[] } W)
  (nU:∀ (D:Nat) (C bV:Nat->Prop) (W:World),w.heap.size<=D->¬ C D->I [] C bV W->W.heap[D]?=some (.deferred (some []))->Q .normal { a with defers:={ target:=.collected D,args:=#[] } :: a.defers } W)
  (kY:∀ (D:Nat) (c:Code) (C:Nat->Prop) (W:World),w.heap.size<=D->¬ C D->kX c C W->W.heap[D]?=some (.deferred (some []))->c.wpIn Fence.wide 2 P Q { a with defers:={ target:=.collected D,args:=#[] } :: a.defers } W) :
  (Code.rangeFunc g ps assign body).wpIn Fence.wide 2 P Q a w:=by
 refine wpIn_rangeFunc ?_;intro fn gX;have ui:Fence.wide.round=none:=rfl;rw[ui];obtain⟨rec,bO⟩:∃ rec:LoopState->Option Code->Loop,rec=fun st acj=>{ state:=st,pending:=acj,fn,tmps:=a.tmps,params:=ps,assign,body,defers:=w.heap.size }:=⟨_,rfl⟩
 obtain⟨bK,uV⟩:∃ bK,(w.alloc (.deferred (some []))).alloc (.loop (rec .ready none))=bK:=⟨_,rfl⟩
 have zF:bK.heap[w.heap.size+1]?=some (.loop (rec .ready none)):=by
  rw[<- uV]; have:=World.alloc_heap_new (w.alloc (.deferred (some []))) (.loop (rec .ready none)); rwa [World.size_alloc]at this
 have ack:bK.heap[w.heap.size]?=some (.deferred (some [])):=by
  rw[<- uV]; exact(Below.heap_alloc _ _ _ (by simp)).trans (World.alloc_heap_new w _)
 have fb:bK.heap.size=w.heap.size+2:=by rw[<- uV]; simp
 have ln:∀ {C:Nat->Prop},(∀ k,C k->k < w.heap.size)->c6 C w bK:=fun {C} dA=>by
  rw[<- uV];exact⟨rfl,rfl,rfl,by simp; omega,fun k ab=>by
   have:=dA k ab
   exact(Below.heap_alloc _ _ _ (by simp; omega)).trans (Below.heap_alloc _ _ _ this)⟩
 have uW:∀ k,B k->k < w.heap.size:=fun k ab=>Nat.lt_of_lt_of_le (cm k ab) kM.size
 have C4:=aW _ _ _ _ aN;have Ig:I l ir B bK:=gV _ _ _ _ _ aN (ln C4);have acm:bE (fun k=>ir k\/k=w.heap.size\/k=w.heap.size+1) bK O bK:=by
  refine⟨c6.refl _ _,fun k ab=>?_,fun c aa=>?_,xd.apart⟩
  ·rw[fb]
   rcases ab with ab | ab | ab
   ·have:=C4 k ab
    omega
   ·omega
   ·omega
  ·refine((xd.ok c aa).dQ fun b ae=>(ln (C:=fun k=>c.has k) fun k ab=>((xd.ok c aa).lt ab).2).block b ae).base fun b ae h=>?_
   have J:=(xd.ok c aa).lt ae
   rcases h with h | h | h
   ·exact J.1 h
   ·omega
   ·omega
 let D:=w.heap.size
 let id:=w.heap.size+1
 let eA:List α->(Nat->Prop)->(Nat->Prop)->World->Prop:=fun r C bV W=>∃ ir,(∀ k,C k ↔ ir k\/k=D\/k=id)/\¬ ir D/\¬ ir id/\I r ir bV W/\W.heap[id]?=some (.loop (rec .ready none))/\W.heap[D]?=some (.deferred (some []))
 let gq:Unit->(Nat->Prop)->World->Prop:=fun _ C W=>∃ ir c,(∀ k,C k ↔ ir k\/k=D\/k=id)/\¬ ir D/\¬ ir id/\kX c ir W/\W.heap[id]?=some (.loop (rec .done (some c)))/\W.heap[D]?=some (.deferred (some []))
 have gL:∀ {C ir:Nat->Prop} {W da:World},(∀ k,C k ↔ ir k\/k=D\/k=id)->c6 C W da->c6 ir W da:=fun dA h=>⟨h.os,h.tape,h.output,h.size,fun k ab=>h.block k ((dA k).2 (.inl ab))⟩
 refine⟨w.heap.size+1,[{ target:=.collected w.heap.size,args:=#[] }],bK,{ target:=.fn (.func gf) lb.toArray,args:=#[.func (.yield (w.heap.size+1)) #[] #[]] },bK,gf,
  #[.func (.yield (w.heap.size+1)) #[] #[]]++lb.toArray,bK,?_,?_,?_,?_,fun _=>by omega,?_⟩
 ·rw[<- uV,bO]; exact run_enterLoop_outer _ _ _ _ _
 ·simp only[resolve,aQ]
  simp[go_sem]
 ·intro f' gR
  exact trivial
 ·simp[invoke,go_sem,uT]
 ·refine(uU id eA gq bK (kM.trans (ln uW)) cm ?_ ?_ ?_ ?_ ?_ ?_ (fun k=>ir k\/k=D\/k=id) ⟨ir,fun k=>Iff.rfl,fun h=>by have:=C4 _ h; simp only[D]at this; omega,fun h=>by have:=C4 _ h; simp only[id]at this; omega,Ig,zF,ack⟩ acm).mono ?_
  ·rintro r C bV W da ⟨fT,dA,J,U,ag,aq,aE⟩ ab
   exact⟨fT,dA,J,U,gV _ _ _ _ _ ag (gL dA ab),(ab.block _ ((dA _).2 (.inr (.inr rfl)))).trans aq,(ab.block _ ((dA _).2 (.inr (.inl rfl)))).trans aE⟩
  ·rintro r C W da ⟨fT,c,dA,J,U,ag,aq,aE⟩ ab
   exact⟨fT,c,dA,J,U,xc _ _ _ _ ag (gL dA ab),(ab.block _ ((dA _).2 (.inr (.inr rfl)))).trans aq,(ab.block _ ((dA _).2 (.inr (.inl rfl)))).trans aE⟩
  ·rintro r C bV W ⟨fT,dA,J,U,ag,aq,aE⟩ k ab
   rcases (dA k).1 ab with h | h | h
   ·exact aW _ _ _ _ ag k h
   ·subst h; exact(Array.getElem?_eq_some_iff.1 aE).1
   ·subst h; exact(Array.getElem?_eq_some_iff.1 aq).1
  ·rintro r C W ⟨fT,c,dA,J,U,ag,aq,aE⟩ k ab
   rcases (dA k).1 ab with h | h | h
   ·exact zE _ _ _ ag k h
   ·subst h; exact(Array.getElem?_eq_some_iff.1 aE).1
   ·subst h; exact(Array.getElem?_eq_some_iff.1 aq).1
  ·rintro r C bV W ⟨fT,dA,J,U,ag,aq,aE⟩ k ab
   exact(dA k).2 (.inl (oM _ _ _ _ ag k ab))
  ·rintro x rest C bV dK W vs ⟨fT,dA,Ih,zG,hi,ah,ab⟩ ma nV
   have xe:id < W.heap.size:=(Array.getElem?_eq_some_iff.1 ah).1;have aL:=run_yield (P:=P) (args:=vs.toArray) ah (by rw[bO]; simp[mw _ _ x vs nV]);rw[bO]at aL;have Ii:¬ dK id:=fun h=>by
    rcases ma.new id h with h | ⟨h,_⟩
    ·exact zG (oM _ _ _ _ hi id h)
    ·exact h ((dA id).2 (.inr (.inr rfl)))
   have acn:uS fT bV dK W:=⟨ma.sub,fun k ab=>(ma.new k ab).imp_right fun⟨h,U⟩=>⟨fun aK=>h ((dA k).2 (.inl aK)),U⟩⟩
   refine⟨fn,_,assign,body,aL,roundIn_of_wpIn gX (wpIn_mono (aci id x rest vs fT bV dK W (.loop { rec .ready none with state:=.busy }) xe zG Ii hi acn nV) ?_)⟩
   clear aL
   rintro hL a5 aco aE;cases hL with
   | normal=>?_
   | _=>exact False.elim aE
   refine⟨_,run_beginRound (aE.1.trans ah) (by rw[bO]),?_⟩;have ja:(W.putObj id (.loop { rec .ready none with state:=.busy })).heap[id]?=some (.loop { rec .ready none with state:=.busy }):=World.putObj_heap_same xe;have hz:(W.putObj id (.loop { rec .ready none with state:=.busy })).heap[D]?=some (.deferred (some [])):=(World.putObj_heap_other (by simp only[D,id]; omega)).trans ab;have Ij:∀ k,dK k->k≠id/\k≠D:=fun k ab=>by
    rcases ma.new k ab with h | ⟨h,_⟩
    ·have:=oM _ _ _ _ hi k h
     exact⟨fun e=>zG (e ▸ this),fun e=>Ih (e ▸ this)⟩
    ·exact⟨fun e=>h ((dA k).2 (.inr (.inr e))),fun e=>h ((dA k).2 (.inr (.inl e)))⟩
   refine wpIn_mono aE.2 ?_;have Ik:∀ {cK:Nat->Prop} {kc:World},Grow dK fT cK (W.putObj id (.loop { rec .ready none with state:=.busy })) kc->∀ (jump:Option Code),
     (Instr.endRound id jump).run P kc=.ok (.bool jump.isNone) (kc.putObj id (.loop (rec (if jump.isNone then .ready else .done) jump))) /\
     (kc.putObj id (.loop (rec (if jump.isNone then .ready else .done) jump))).heap[id]?=some (.loop (rec (if jump.isNone then .ready else .done) jump)) /\
     (kc.putObj id (.loop (rec (if jump.isNone then .ready else .done) jump))).heap[D]?=some (.deferred (some []))/\¬ cK D/\¬ cK id/\Grow dK C (fun k=>cK k\/k=D\/k=id) W (kc.putObj id (.loop (rec (if jump.isNone then .ready else .done) jump))):=fun {cK kc} kk jump=>by
    have hid:id < (W.putObj id (.loop { rec .ready none with state:=.busy })).heap.size/\¬ fT id:=⟨by simpa using xe,zG⟩
    have PD:D < (W.putObj id (.loop { rec .ready none with state:=.busy })).heap.size/\¬ fT D:=⟨by simp only[D,id]at xe ⊢; simp; omega,Ih⟩
    have rU:=(kk.dQ.block id (.inr hid)).trans ja;have sO:=(kk.dQ.block D (.inr PD)).trans hz;have he:=run_endRound (P:=P) jump rU;rw[bO]at he ⊢;refine⟨he,World.putObj_heap_same (Array.getElem?_eq_some_iff.1 rU).1,(World.putObj_heap_other (by simp only[D,id]; omega)).trans sO,fun h=>?_,fun h=>?_,⟨⟨?_,?_,?_,?_,fun k ab=>?_⟩,fun k ab=>?_⟩⟩
    ·rcases kk.new _ h with aK | aK | aK
     ·exact Ih aK
     ·have:=PD.1; omega
     ·exact(Ij _ aK).2 rfl
    ·rcases kk.new _ h with aK | aK | aK
     ·exact zG aK
     ·have:=hid.1; omega
     ·exact(Ij _ aK).1 rfl
    ·exact kk.dQ.os
    ·exact kk.dQ.tape
    ·exact kk.dQ.output
    ·have:=kk.dQ.size; simpa using this
    ·have cr:k≠id:=by
      rcases ab with ab | ab
      ·exact(Ij k ab).1
      ·exact fun e=>ab.2 ((dA k).2 (.inr (.inr e)))
     refine(World.putObj_heap_other cr).trans ((kk.dQ.block k ?_).trans (World.putObj_heap_other cr))
     rcases ab with ab | ab
     ·exact .inl ab
     ·exact .inr ⟨by simpa using ab.1,fun h=>ab.2 ((dA k).2 (.inl h))⟩
    ·rcases ab with ab | ab
     ·rcases kk.new k ab with aK | aK | aK
      ·exact .inl ((dA k).2 (.inl aK))
      ·exact .inr (.inl (by simpa using aK))
      ·exact .inr (.inr aK)
     ·exact .inl ((dA k).2 (.inr ab))
   rintro e a3 kc ao;cases e with
   | normal=>
    obtain⟨cK,zH,kk⟩:=ao;obtain⟨aw,xf,zI,lU,kv,dm⟩:=Ik kk none;exact⟨_,_,aw,.inl ⟨rfl,_,⟨cK,fun k=>Iff.rfl,lU,kv,gV _ _ _ _ _ zH (s0 kv),xf,zI⟩,dm⟩⟩
   | ret=>
    obtain⟨cK,zH,kk⟩:=ao;obtain⟨aw,xf,zI,lU,kv,dm⟩:=Ik kk (some .ret);exact⟨_,_,aw,.inr ⟨rfl,_,⟨cK,.ret,fun k=>Iff.rfl,lU,kv,xc _ _ _ _ zH (s0 kv),xf,zI⟩,dm⟩⟩
   | exit i=>
    obtain⟨cK,zH,kk⟩:=ao;obtain⟨aw,xf,zI,lU,kv,dm⟩:=Ik kk (some (.exit i));exact⟨_,_,aw,.inr ⟨rfl,_,⟨cK,.exit i,fun k=>Iff.rfl,lU,kv,xc _ _ _ _ zH (s0 kv),xf,zI⟩,dm⟩⟩
   | goto t=>exact ao.elim
   | panic Zr=>exact ao.elim
   | outgrown=>exact ao.elim
  ·rintro e mb ⟨⟨v,rfl⟩,cK,(⟨bV,fT,dA,J,U,hi,ah,ab⟩ | ⟨fT,c,dA,J,U,hi,ah,ab⟩)⟩
   ·exact⟨none,_,by have:=run_endLoop (P:=P) ah (by rw[bO]; simp); rw[bO]at this; exact this,nU _ fT bV _ (Nat.le_refl _) J (gV _ _ _ _ _ hi (s0 U)) ((World.putObj_heap_other (by simp only[D,id]; omega)).trans ab)⟩
   ·exact⟨some c,_,by have:=run_endLoop (P:=P) ah (by rw[bO]; simp); rw[bO]at this; exact this,kY _ c fT _ (Nat.le_refl _) J (xc _ _ _ _ hi (s0 U)) ((World.putObj_heap_other (by simp only[D,id]; omega)).trans ab)⟩
theorem acp{α:Type} {P:Program} {g:Operand} {ps:Array Tmp} {assign body:Code} {Q:Exit->Act->World->Prop} {a:Act} {w:World} {gf:Nat} {lb:List Value} {B:Nat->Prop} {al:World} {O:List bf} {l:List α} {enc:(Nat->Prop)->World->α->List Value->Prop}
  (aQ:a.eval g=.func (.func gf) #[] lb.toArray) (uT:∀ args w,(callFunc gf args).run P w=.ok (.enter gf args) w)
  (uU:Ie P gf lb B al O l enc) (kM:c6 B al w) (cm:∀ k,B k->k < al.heap.size) (mw:∀ dK W x vs,enc dK W x vs->vs.length=ps.size) (dp:∀ dK W da x vs,c6 dK W da->enc dK W x vs->enc dK da x vs)
  (I:List α->(Nat->Prop)->(Nat->Prop)->World->Prop) (kX:Code->(Nat->Prop)->World->Prop) (gV:zD I) (xc:zC kX) (aW:∀ r C bV W,I r C bV W->∀ k,C k->k < W.heap.size) (oM:∀ r C bV W,I r C bV W->∀ k,bV k->C k) (zE:∀ r C W,kX r C W->∀ k,C k->k < W.heap.size) (ir:Nat->Prop) (aN:I l ir B w) (xd:bE ir w O w)
  (sI:List Value->Act)
  (acq:∀ (id:Nat) (x:α) (vs:List Value) (W:World) (K:Act->World->Prop),vs.length=ps.size->K (sI vs) W ->
   assign.wpIn (Fence.wide.inRound id) 1 P (Exit.then K (fun _ _ _=>False)) { tmps:=(ps.zip vs.toArray).foldl (fun t (p,v)=>t.setIfInBounds p v) a.tmps,defers:=[] } W)
  (pH:∀ (id:Nat) (x:α) (rest:List α) (vs:List Value) (C bV dK:Nat->Prop) (W:World),I (x :: rest) C bV W->uS C bV dK W->enc dK W x vs->body.wpIn (Fence.wide.inRound id) 1 P (PB dK I kX rest C W) (sI vs) W)
  (nU:∀ (D:Nat) (C bV:Nat->Prop) (W:World),w.heap.size<=D->¬ C D->I [] C bV W->W.heap[D]?=some (.deferred (some []))->Q .normal { a with defers:={ target:=.collected D,args:=#[] } :: a.defers } W)
  (kY:∀ (D:Nat) (c:Code) (C:Nat->Prop) (W:World),w.heap.size<=D->¬ C D->kX c C W->W.heap[D]?=some (.deferred (some []))->c.wpIn Fence.wide 2 P Q { a with defers:={ target:=.collected D,args:=#[] } :: a.defers } W) :
  (Code.rangeFunc g ps assign body).wpIn Fence.wide 2 P Q a w:=PC aQ uT uU kM cm mw dp I kX gV xc aW oM zE ir aN xd (fun id x rest vs C bV dK W o hid dA xg hi ma nV=>by
  refine acq id x vs W _ (mw _ _ x vs nV) ⟨rfl,?_⟩;have cr:∀ k,dK k->k≠id:=fun k ab e=>xg (e ▸ ab)
  exact pH _ x rest vs C bV dK _ (gV _ _ _ _ _ hi (s0 dA)) ⟨ma.sub,fun k ab=>(ma.new k ab).imp_right fun⟨h,cs,e,dz,U⟩=>⟨h,cs,e,dz,(World.putObj_heap_other (cr k ab)).trans U⟩⟩ (dp _ _ _ _ _ (s0 fun h=>xg h) nV)) nU kY
section
theorem bA.split{env:Nat->Loc} {B:Nat->Prop} {w:World}:∀ {l l':bz} {H:List bf},bA env B w (l++l') H->∃ H1 H2,H=H1++H2/\bA env B w l H1/\bA env B w l' H2
 | [],_,H,h=>⟨[],H,rfl,rfl,h⟩
 | (_,_) :: l,_,_,⟨c,H',e,J,U⟩=>by
  obtain⟨H1,H2,aS,h8,hF⟩:=bA.split U;exact⟨c :: H1,H2,by rw[e,aS]; rfl,⟨c,H1,rfl,J,h8⟩,hF⟩
def uX{α:Type} (X:bs) (gf:FuncId) (fP:List e4) (ao:bz) (l:List α) (kZ:α->List bl):Prop:=
 ∀ (B:Nat->Prop) (w:World) (lb:List Value) (env:Nat->Loc) (O:List bf),(∀ k,B k->k < w.heap.size)->wo X B w->eZ env B w fP lb->bA env B w ao O->Ie X.P gf lb B w O l (fun dK W x vs=>dn (fun _=>.no) dK W (kZ x) vs)
def k0(R B:Nat->Prop) (H:List bf) (ks:List Nat) (k:Nat):Prop:=R k\/B k\/∃ c∈H++ks.map dk,c.has k
section
variable {X:bs} {R:Nat->Prop} {W:World} {aJ:e0} {n:Nat} {ks:List Nat} {env:Nat->Loc} {B:Nat->Prop} {al:World} {H:List bf} {st:aO} {a:Act} {w:World}
theorem bH.Il{da:World} (h:bH X R W aJ n ks env B al H st a w) (ab:c6 (k0 R B H ks) w da):bH X R W aJ n ks env B al H st a da:=
 ⟨h.size,h.defs,h.has,h.heap,⟨h.aM.below.trans ⟨ab.os,ab.tape,ab.output,ab.size,fun k ar=>ab.block k (ar.elim .inl fun h=>.inr (.inl h))⟩,fun k ar=>Nat.lt_of_lt_of_le (h.aM.base k ar) ab.size,fun c aa=>(h.aM.ok c aa).dQ fun b e=>ab.block b (.inr (.inr ⟨c,aa,e⟩)),h.aM.apart⟩,h.sub,h.new,h.dL,h.base,h.et⟩
theorem bH.now(h:bH X R W aJ n ks env B al H st a w):bH X R W aJ n ks env B w H st a w:=by
 have dp:fJ B al B w:=⟨fun _ h=>h,fun k ab=>h.aM.below.block k (.inr ab)⟩
 refine⟨h.size,h.defs,fun s sv an=>?_,h.heap.up dp,⟨c6.refl _ _,h.aM.base,h.aM.ok,h.aM.apart⟩,h.sub,fun k ab=>(h.new k ab).imp_right fun J=>⟨J.1,J.2.dQ (h.aM.below.block k (.inr ab))⟩,h.dL,h.base.trans ⟨h.aM.below.os,h.aM.below.tape,h.aM.below.output,h.aM.below.size,fun k ab=>h.aM.below.block k (.inl ab)⟩,fun i x ak=>(h.et i x ak).up dp⟩;obtain⟨v,J,U⟩:=h.has s sv an;exact⟨v,J,U.up dp⟩
theorem bH.PE{dK:Nat->Prop} (h:bH X R W aJ n ks env B w H st a w) (cm:∀ k,dK k->B k\/(¬ k0 R B H ks k/\q2 w k)):bH X R W aJ n ks env (fun k=>B k\/dK k) w H st a w:=by
 have dp:fJ B w (fun k=>B k\/dK k) w:=⟨fun _ h=>.inl h,fun k ab=>rfl⟩
 have aW:∀ k,dK k->k < w.heap.size:=fun k ab=>by
  rcases cm k ab with J | ⟨_,cs,e,dz,U⟩
  ·exact h.aM.base k (.inr J)
  ·exact(Array.getElem?_eq_some_iff.1 U).1
 refine⟨h.size,h.defs,fun s sv an=>?_,h.heap.up dp,⟨c6.refl _ _,fun k ab=>?_,fun c aa=>(h.aM.ok c aa).base fun b ae ab=>?_,h.aM.apart⟩,fun k ab=>.inl (h.sub k ab),fun k ab=>?_,h.dL,h.base,fun i x ak=>(h.et i x ak).up dp⟩
 ·obtain⟨v,J,U⟩:=h.has s sv an
  exact⟨v,J,U.up dp⟩
 ·rcases ab with ab | ab | ab
  ·exact h.aM.base k (.inl ab)
  ·exact h.aM.base k (.inr ab)
  ·exact aW k ab
 ·have ff:=((h.aM.ok c aa).lt ae).1
  rcases ab with ab | ab | ab
  ·exact ff (.inl ab)
  ·exact ff (.inr ab)
  ·rcases cm b ab with J | ⟨J,_⟩
   ·exact ff (.inr J)
   ·exact J (.inr (.inr ⟨c,aa,ae⟩))
 ·rcases ab with ab | ab
  ·exact h.new k ab
  ·rcases cm k ab with J | ⟨J,U⟩
   ·exact h.new k J
   ·exact .inr ⟨fun aw=>J (.inl aw),U⟩
theorem bH.C5(h:bH X R W aJ n ks env B al H st a w):∀ k,k0 R B H ks k->k < w.heap.size:=fun k ab=>by
 rcases ab with ab | ab | ⟨c,aa,e⟩
 ·exact h.aM.base k (.inl ab)
 ·exact h.aM.base k (.inr ab)
 ·exact((h.aM.ok c aa).lt e).2
end
def gF(X:bs) (M:Bool) (n:Nat) (st st':aO):Prop:=∀ R W aJ a w,lV X R W aJ M n st a w->lV X R W aJ M n st' a w
theorem fq.m{X:bs} {M:Bool} {n:Nat} {st st':aO} (h:fq X n st st'):gF X M n st st':=fun R W aJ a w aj=>h _ _ _ _ _ _ aj
theorem gF.refl{X:bs} {M:Bool} {n:Nat} (st:aO):gF X M n st st:=fun _ _ _ _ _ h=>h
theorem gF.trans{X:bs} {M:Bool} {n:Nat} {a b c:aO} (h:gF X M n a b) (k:gF X M n b c):gF X M n a c:=fun R W aJ x w aj=>k _ _ _ _ _ (h _ _ _ _ _ aj)
theorem bH.put{X:bs} {R:Nat->Prop} {W:World} {aJ:e0} {n:Nat} {env:Nat->Loc} {B:Nat->Prop} {al:World} {H:List bf} {st:aO} {a:Act} {w:World} {id:Nat} (h:bH X R W aJ n [] env B al H st a w) (hid:R id) (ae:¬ aJ.b id) (aW:id < W.heap.size) (o:Obj):bH X R (W.putObj id o) aJ n [] env B (al.putObj id o) H st a (w.putObj id o):=by
 have cm:∀ k,B k->k≠id:=fun k ab e=>by
  subst e
  rcases h.new _ ab with J | J
  ·exact ae J
  ·exact J.1 hid
 have Im:=Nat.lt_of_lt_of_le aW h.base.size;have xe:=Nat.lt_of_lt_of_le Im h.aM.below.size;have dp:fJ B al B (al.putObj id o):=⟨fun _ h=>h,fun k ab=>World.putObj_heap_other (cm k ab)⟩
 have key:∀ {v eV:World} (k:Nat),id < v.heap.size->id < eV.heap.size->eV.heap[k]?=v.heap[k]?->(eV.putObj id o).heap[k]?=(v.putObj id o).heap[k]?:=fun {v eV} k J U ag=>by
  by_cases e:k=id
  ·subst e
   rw[World.putObj_heap_same J,World.putObj_heap_same U]
  ·rw[World.putObj_heap_other e,World.putObj_heap_other e,ag]
 refine⟨h.size,h.defs,fun s sv an=>?_,h.heap.up dp,⟨⟨h.aM.below.os,h.aM.below.tape,h.aM.below.output,by simpa using h.aM.below.size,fun k ab=>key k Im xe (h.aM.below.block k ab)⟩,fun k ab=>by simpa using h.aM.base k ab,fun c aa=>(h.aM.ok c aa).dQ fun b e=>World.putObj_heap_other fun aS=>((h.aM.ok c aa).lt e).1 (.inl (aS ▸ hid)),h.aM.apart⟩,h.sub,fun k ab=>(h.new k ab).imp_right fun J=>⟨J.1,J.2.dQ (World.putObj_heap_other (cm k ab))⟩,h.dL,⟨h.base.os,h.base.tape,h.base.output,by simpa using h.base.size,fun k ab=>key k aW Im (h.base.block k ab)⟩,fun i x ak=>(h.et i x ak).up dp⟩;obtain⟨v,J,U⟩:=h.has s sv an;exact⟨v,J,U.up dp⟩
theorem acr{X:bs} {M:Bool} {n id:Nat} {c:Code} {ms:List (Nat×Nat)} {L:cX} {H:bz} {P:aO->Prop} (oN:lx n c ms) (mv:l0 n (ms.map (·.1))=true) (iC:P ⟨rl ms L,H⟩):lk X M n (some id) c ⟨L,H⟩ (fun e s=>e=.normal/\P s):=fun R W aJ a w ⟨ks,env,B,al,qx,bL,aj⟩=>by
 have cg:=Has.cP (ms:=ms) (L:=L) (tmps:=a.tmps) (n:=n) (env:=env) (B:=B) (w:=al) ⟨aj.size,aj.has⟩ mv;exact lx.ok (l:=id) oN ⟨_,⟨rfl,iC⟩,ks,env,B,al,qx,bL,cg.size,aj.defs,cg.has,aj.heap,aj.aM,aj.sub,aj.new,aj.dL,aj.base,aj.et⟩
theorem PF{α β:Type} {X:bs} {n:Nat} {st:aO} {Q:Exit->aO->Prop} {g:Operand} {pl:List Nat} {assign body:Code} {gf:FuncId} {fn:Func} {fP:List e4} {kZ:α->List bl} {l:List α} {b:Bool} {ao eR:bz}
  (aQ : bp X st.L g = some (b, .c (.fn gf fP))) (ae : b = true) (gX : X.P.funcs[gf]? = some fn) (rV : (fn.name == "runtime.NumGoroutine") = false) (jU : fn.body.isNone = false) (mD : uX X gf fP ao l kZ) (hlen : ∀ x, (kZ x).length = pl.length) (gT : l0 n pl = true) (aV : Nat.ble n h5 = true)
  (hc:β->bz) (bN:List α->β->Prop) (k1:Exit->bz->Prop) (hN:β) (aN:bN l hN) (cU:st.H=ao++eR) (dt:∀ {env:Nat->Loc} {B:Nat->Prop} {w:World} {H:List bf},bA env B w eR H->∃ H' Y,H.Perm (H'++Y)/\bA env B w (hc hN) H')
  (pH:∀ id x rest y,bN (x :: rest) y->lk X false n (some id) assign ⟨sE pl (kZ x) (fC (gE n) st.L),hc y⟩ (fun gA fz=>gA=.normal/\lk X false n (some id) body fz (fun e s=>(e=.normal/\∃ mc,bN rest mc/\∃ L',gF X false n s ⟨L',hc mc⟩)\/(e≠.normal/\B6 e=true/\∃ aK,k1 e aK/\∃ L',gF X false n s ⟨L',aK⟩))))
  (nU:∀ y,bN [] y->Q .normal ⟨fC (gE n) st.L,hc y⟩)
  (kY:∀ e aK,k1 e aK->Q e ⟨fC (gE n) st.L,aK⟩):lk X true n none (.rangeFunc g pl.toArray assign body) st Q:=by
 intro R W aJ a w hA;obtain⟨ks,env,B,al,qx,bL,fe⟩:=hA;have zJ:=fe.heap;rw[cU]at zJ;obtain⟨O,H2,Io,h8,hF⟩:=bA.split (l:=ao) zJ;obtain⟨H,Y,qp,qi⟩:=dt hF;subst Io;have aj:bH X R W aJ n ks env B al (O++H) ⟨st.L,ao++hc hN⟩ a w:=by
  refine⟨fe.size,fe.defs,fe.has,h8.append qi,?_,fe.sub,fe.new,fe.dL,fe.base,fe.et⟩;have ar:((O++H2)++ks.map dk).Perm (((O++H)++ks.map dk)++Y):=by
   refine((qp.append_left O).append_right _).trans ?_;simp only[List.append_assoc];exact((List.perm_append_comm).append_left H).append_left O
  exact(fe.aM.perm ar).e6 (List.sublist_append_left _ _)
 obtain⟨aY,dN,lb,rfl,dm⟩:=fe.aD aQ ae;have hA:=aj.No;have rW:fJ B al B w:=⟨fun _ h=>h,fun k ab=>aj.aM.below.block k (.inr ab)⟩
 have uW:∀ k,B k->k < w.heap.size:=fun k ab=>aj.aM.base k (.inr ab)
 have uU:=mD B w lb env O uW (fun i x ak=>(aj.et i x ak).up rW) (dm.up rW) (h8.up rW);have akf:∀ k,R k\/B k->k < w.heap.size:=fun k ab=>aj.aM.base k ab
 have akg:∀ k∈ks,k < w.heap.size:=fun k ab=>((aj.aM.ok (dk k) (List.mem_append_right _ (List.mem_map.2 ⟨k,ab,rfl⟩))).lt rfl).2
 have hr:=Nat.le_of_ble_eq_true aV;have ri:(H++ks.map dk).Sublist ((O++H)++ks.map dk):=by
  rw[List.append_assoc];exact List.sublist_append_right _ _
 have Ip:bE (k0 (fun k=>R k\/B k) B H ks) w O w:=by
  have kl:=aj.aM.apart;rw[List.append_assoc,List.pairwise_append]at kl;refine⟨c6.refl _ _,fun k ab=>?_,fun c aa=>?_,kl.1⟩
  ·rcases ab with ab | ab | ⟨c,aa,e⟩
   ·exact aj.aM.base k ab
   ·exact aj.aM.base k (.inr ab)
   ·exact((aj.aM.ok c (ri.subset aa)).lt e).2
  ·have fU:=aj.aM.ok c (List.mem_append_left _ (List.mem_append_left _ aa))
   refine fU.base fun b ae ab=>?_
   rcases ab with ab | ab | ⟨c',dE,e⟩
   ·exact(fU.lt ae).1 ab
   ·exact(fU.lt ae).1 (.inr ab)
   ·exact kl.2.2 c aa c' dE b ae e
 let la:=fC (gE n) st.L
 let mH:Nat->Prop:=fun k=>R k\/B k
 let In:bz->(Nat->Prop)->(Nat->Prop)->World->Prop:=fun h C bV da=>∃ env' B' cC H',bH X mH w ⟨B,mA n env,aJ.d⟩ n ks env' B' cC H' ⟨la,h⟩ a da/\C=k0 mH B' H' ks/\∀ k,bV k->B' k
 let I:List α->(Nat->Prop)->(Nat->Prop)->World->Prop:=fun r C bV da=>∃ y,bN r y/\In (hc y) C bV da
 let kX:Code->(Nat->Prop)->World->Prop:=fun c C da=>∃ e aK bV,Nn e=some c/\k1 e aK/\In aK C bV da
 have s3:∀ h C bV bK mb,In h C bV bK->c6 C bK mb->In h C bV mb:=by
  rintro h C bV bK mb ⟨env',B',cC,H',J,rfl,U⟩ ab;exact⟨env',B',cC,H',J.Il ab,rfl,U⟩
 have zK:∀ {B':Nat->Prop} {cC:World} {env':Nat->Loc},(∀ k,B k->B' k)->(∀ k,B k->cC.heap[k]?=w.heap[k]?)->(∀ id l,mA n env id l->env' id=l)->∀ s sv,bd la s=some sv->∃ v,a.tmps[s]?=some v/\eH env' B' cC sv v:=by
  intro B' cC env' cm hw he s sv an;obtain⟨u,J,rfl⟩:=ud an;obtain⟨v,U,ag⟩:=hA.has s u J;exact⟨v,U,eH.cQ (Nj (fun id l aq aE bb=>he id l ⟨aq,aE,bb⟩) hr) (ag.up ⟨cm,hw⟩)⟩
 have zL:∀ {h:bz} {C bV:Nat->Prop} {bK:World} (k:Nat),w.heap.size<=k->¬ C k->bK.heap[k]?=some (.deferred (some []))->In h C bV bK->lV X R W aJ true n ⟨la,h⟩ { a with defers:={ target:=.collected k,args:=#[] } :: a.defers } bK:=by
  rintro h C bV bK k ab s5 ax ⟨env',B',cC,H',J,rfl,_⟩;refine⟨k :: ks,env',B',cC,H',⟨(fun h=>by cases h),bL.2⟩,aj.VY ?_⟩;have pj:(dk k :: (H'++ks.map dk)).Perm (H'++(k :: ks).map dk):=by
   rw[List.map_cons];exact List.perm_middle.symm
  have dP:bE (fun q=>(R q\/B q)\/B' q) cC (dk k :: (H'++ks.map dk)) bK:=by
   refine⟨J.aM.below,J.aM.base,fun c aa=>?_,List.Pairwise.cons (fun c aa q ay aS=>?_) J.aM.apart⟩
   ·rcases List.mem_cons.1 aa with rfl | aa
    ·exact⟨fun ar=>s5 (ar.elim .inl fun h=>.inr (.inl h)),ax⟩
    ·exact J.aM.ok c aa
   ·have:k=q:=Option.some.inj ay
    subst this;exact s5 (.inr (.inr ⟨c,aa,aS⟩))
  refine⟨J.size,congrArg (List.cons (tI k)) J.defs,J.has,J.heap,dP.perm pj,J.sub,J.new,J.dL,J.base,J.et⟩
 have dp:∀ (c:Code) (m:Nat) (Q:Exit->Act->World->Prop) a w,c.wpIn Fence.wide m X.P Q a w ↔ c.wpIn Fence.wide 0 X.P Q a w:=fun c m Q a w=>wpIn_wide.trans wpIn_wide.symm
 have zM:∀ (id:Nat) (c:Code) (m:Nat) (Q:Exit->Act->World->Prop) a w,c.wpIn (Fence.wide.inRound id) 0 X.P Q a w->c.wpIn (Fence.wide.inRound id) m X.P Q a w:=fun id c m Q a w h=>by
  intro b k cs ui ae aw;exact h b k cs ui ae (fun _ h=>by cases h)
 refine(dp _ 2 _ _ _).1 ?_;have Iq:∀ vs:List Value,(pl.toArray.zip vs.toArray).foldl (fun t (p,v)=>t.setIfInBounds p v) a.tmps=(pl.zip vs).foldl (fun t (p,v)=>t.setIfInBounds p v) a.tmps:=fun x=>by
  rw[<- Array.foldl_toList,Array.toList_zip]
 refine PC (gf:=gf) (lb:=lb) (aj.bZ.aD dN) (fun args w=>Mh gX rV jU) uU (c6.refl _ _) uW (fun dK mb x vs h=>by have:=dn.length h; rw[hlen x]at this; simpa using this) (fun dK mb kc x vs ab h=>dn.up ⟨fun _ h=>h,fun k ar=>ab.block k ar⟩ h)
  I kX ?_ ?_ ?_ ?_ ?_ (k0 mH B H ks) ?_ Ip ?_ ?_ ?_
 ·rintro r C bV bK mb ⟨y,aL,J⟩ ab
  exact⟨y,aL,s3 _ _ _ _ _ J ab⟩
 ·rintro c C bK mb ⟨e,aK,bV,he,mI,J⟩ ab
  exact⟨e,aK,bV,he,mI,s3 _ _ _ _ _ J ab⟩
 ·rintro r C bV bK ⟨y,aL,env',B',cC,H',J,rfl,_⟩
  exact J.C5
 ·rintro r C bV bK ⟨y,aL,env',B',cC,H',J,rfl,U⟩ k ab
  exact .inr (.inl (U k ab))
 ·rintro c C bK ⟨e,aK,bV,he,mI,env',B',cC,H',J,rfl,_⟩
  exact J.C5
 ·exact⟨hN,aN,env,B,w,H,⟨hA.size,hA.defs,zK (fun _ h=>h) (fun _ _=>rfl) (fun _ _ h=>h.2.1),qi.up rW,hA.aM.e6 ri,hA.sub,hA.new,hA.dL,hA.base,hA.et⟩,rfl,fun _ h=>h⟩
 ·rintro id x rest vs C bV dK W o hid PG Ii ⟨y,aL,qy,dc,b1,H1,aN,rfl,oM⟩ ma nV
  rw[Iq];obtain⟨fk,xh⟩:∃ fk:Nat->Prop,fk=fun k=>dc k\/dK k:=⟨_,rfl⟩
  have zN:bH X mH w ⟨B,mA n env,aJ.d⟩ n ks qy fk W H1 ⟨la,hc y⟩ a W:=by
   rw[xh];exact aN.now.PE fun k ab=>(ma.new k ab).imp (fun h=>oM k h) fun⟨h,U⟩=>⟨h,U⟩
  have rF:∀ k,k0 mH fk H1 ks k->k0 mH dc H1 ks k\/dK k:=fun k ab=>by
   rcases ab with ab | ab | ab
   ·exact .inl (.inl ab)
   ·rw[xh]at ab
    exact ab.imp (fun h=>.inr (.inl h)) fun h=>h
   ·exact .inl (.inr (.inr ab))
  have uY:∀ k,dK k->fk k:=fun k ab=>by rw[xh]; exact .inr ab
  have PH:¬ k0 mH fk H1 ks id:=fun h=>(rF id h).elim PG Ii
  clear aN
  have akh:bE (fun k=>mH k\/fk k) W H1 W:=zN.aM.e6 (List.sublist_append_left _ _);have acs:Has n qy fk W la a.tmps:=⟨aj.size,fun s sv an=>by
   obtain⟨v,U,ag⟩:=zN.has s sv an;exact⟨v,U,ag.up ⟨fun _ h=>h,fun k ab=>zN.aM.below.block k (.inr ab)⟩⟩⟩
  have acu:=zN.round (Has.par acs gT ((dn.any nV).up ⟨uY,fun _ _=>rfl⟩));have Ir:gj W H1 id:=⟨hid,fun c aa e=>PG (.inr (.inr ⟨c,List.mem_append_left _ aa,e⟩))⟩
  have xi:=pH id x rest y aL _ _ _ _ _ ⟨[],qy,fk,W,H1,⟨fun _=>rfl,fun h=>by cases h⟩,acu⟩;refine wpIn_mono (zM _ _ 1 _ _ _ xi) ?_;rintro hL a5 aco ⟨acv,⟨rfl,acw⟩,aki,acx,acy,akj,acz,PI,aE⟩;have acA:=PI.1 rfl;subst acA;refine⟨(aE.aM.below.block id (.inl Ir)).trans (aE.base.block id Ir),?_⟩;have rG:=(zN.Il (s0 (W:=W) (o:=o) PH)).now;have uz:=aE.put Ir (fun h=>PH (.inr (.inl h))) hid o;have acB:gj W H1=gj (W.putObj id o) H1:=funext fun k=>by simp[gj]
  rw[acB]at uz;obtain⟨bK,uV⟩:∃ bK,bK=W.putObj id o:=⟨_,rfl⟩
  rw[<- uV]at rG uz ⊢;have J:bH X mH w ⟨B,mA n env,aJ.d⟩ n ks qy fk bK H1 ⟨la,hc y⟩ a bK:=rG;have fb:bE (fun k=>mH k\/fk k) bK H1 bK:=J.aM.e6 (List.sublist_append_left _ _);have PJ:fJ fk bK fk bK:=⟨fun _ h=>h,fun k ab=>J.aM.below.block k (.inr ab)⟩
  have Is:∀ k,B k->bK.heap[k]?=w.heap[k]?:=fun k ab=>(J.aM.below.block k (.inl (.inr ab))).trans (J.base.block k (.inr ab))
  have It:=acw _ _ _ _ _ ⟨[],acx,acy,_,acz,PI,uz⟩;refine wpIn_mono (zM _ _ 1 _ _ _ It) ?_;rintro e a3 kc ⟨s,an,U⟩;have im:∀ k,mH k\/fk k->gj bK H1 k:=fun k ab=>⟨fb.base k ab,fun c aa e=>((fb.ok c aa).lt e).1 ab⟩
  have key:∀ aK L',gF X false n s ⟨L',aK⟩->∃ cK,In aK cK dK kc/\Grow dK (k0 mH dc H1 ks) cK bK kc:=by
   intro aK L' hw;obtain⟨acC,C6,s6,l9,C7,C8,ag⟩:=hw _ _ _ _ _ U
   have:=C8.1 rfl
   subst this;have jM:∀ k,gj bK H1 k->kc.heap[k]?=bK.heap[k]?:=fun k ab=>(ag.aM.below.block k (.inl ab)).trans (ag.base.block k ab)
   have aq:=J.VZ ag (L:=la) (zK (fun k ab=>ag.sub k (J.sub k ab)) (fun k ab=>(ag.base.block k (im k (.inl (.inr ab)))).trans (Is k ab)) (fun id l ao=>(ag.dL id l ⟨(J.dL id l ao).1,(J.dL id l ao).2.1,(J.dL id l ao).2.2⟩).2.1));have kd:=ag.aM;simp only[List.map_nil,List.append_nil]at kd;refine⟨_,⟨C6,s6,l9,C7,aq,rfl,fun k ab=>ag.sub k (uY k ab)⟩,⟨⟨ag.aM.below.os.trans ag.base.os,ag.aM.below.tape.trans ag.base.tape,ag.aM.below.output.trans ag.base.output,Nat.le_trans ag.base.size ag.aM.below.size,fun k ab=>?_⟩,fun k ab=>?_⟩⟩
   ·rcases ab with ab | ⟨iN,hz⟩
    ·exact jM k (im k (.inr (uY k ab)))
    ·exact jM k ⟨iN,fun c aa e=>hz (.inr (.inr ⟨c,List.mem_append_left _ aa,e⟩))⟩
   ·by_cases aW:bK.heap.size<=k
    ·exact .inr (.inl aW)
    ·have kz:k0 mH fk H1 ks k->k0 mH dc H1 ks k\/bK.heap.size<=k\/dK k:=fun h=>(rF k h).imp_right .inr
     apply kz
     have Iu:k < bK.heap.size:=by omega
     by_cases iN:k0 mH fk H1 ks k
     ·exact iN
     ·exfalso
      have uZ:gj bK H1 k:=⟨Iu,fun c aa e=>iN (.inr (.inr ⟨c,List.mem_append_left _ aa,e⟩))⟩
      rcases ab with ab | ab | ⟨c,aa,e⟩
      ·exact iN (.inl ab)
      ·rcases ag.new k ab with aE | aE
       ·exact iN (.inr (.inl aE))
       ·exact aE.1 uZ
      ·rcases List.mem_append.1 aa with aa | aa
       ·exact((kd.ok c aa).lt e).1 (.inl uZ)
       ·exact iN (.inr (.inr ⟨c,List.mem_append_right _ aa,e⟩))
  rcases an with⟨rfl,mc,iW,L',hw⟩ | ⟨cr,hex,aK,mI,L',hw⟩
  ·obtain⟨cK,aE,bb⟩:=key _ _ hw
   exact⟨cK,⟨mc,iW,aE⟩,bb⟩
  ·obtain⟨cK,aE,bb⟩:=key _ _ hw
   cases e with
   | normal=>exact absurd rfl cr
   | ret=>exact⟨cK,⟨.ret,aK,_,rfl,mI,aE⟩,bb⟩
   | exit i=>exact⟨cK,⟨.exit i,aK,_,rfl,mI,aE⟩,bb⟩
   | goto t=>cases hex
   | panic c=>cases hex
   | outgrown=>cases hex
 ·rintro k C bV bK ab dA ⟨y,aL,J⟩ ax
  exact⟨_,nU y aL,zL k ab dA ax J⟩
 ·rintro k c C bK ab dA ⟨e,aK,bV,he,mI,J⟩ ax
  have zO:=zL k ab dA ax J;have ar:=kY e aK mI;cases e with
  | ret=>cases he; exact wpIn_ret ⟨_,ar,zO⟩
  | exit id=>cases he; exact(dp _ 2 _ _ _).2 (Fm ⟨_,ar,zO⟩)
  | normal=>cases he
  | goto t=>cases he
  | panic c=>cases he
  | outgrown=>cases he
theorem acD{α β:Type} {X:bs} {n:Nat} {st:aO} {Q:Exit->aO->Prop} {g:Operand} {pl:List Nat} {assign body:Code} {gf:FuncId} {fn:Func} {fP:List e4} {kZ:α->List bl} {l:List α} {b:Bool} {ms:List (Nat×Nat)} {ao eR:bz}
  (aQ : bp X st.L g = some (b, .c (.fn gf fP))) (ae : b = true) (gX : X.P.funcs[gf]? = some fn) (rV : (fn.name == "runtime.NumGoroutine") = false) (jU : fn.body.isNone = false) (mD : uX X gf fP ao l kZ) (hlen : ∀ x, (kZ x).length = pl.length) (gT : l0 n pl = true) (oN : lx n assign ms) (mv : l0 n (ms.map (·.1)) = true) (aV : Nat.ble n h5 = true)
  (hc:β->bz) (bN:List α->β->Prop) (k1:Exit->bz->Prop) (hN:β) (aN:bN l hN) (cU:st.H=ao++eR) (dt:∀ {env:Nat->Loc} {B:Nat->Prop} {w:World} {H:List bf},bA env B w eR H->∃ H' Y,H.Perm (H'++Y)/\bA env B w (hc hN) H')
  (pH:∀ id x rest y,bN (x :: rest) y->lk X false n (some id) body ⟨rl ms (sE pl (kZ x) (fC (gE n) st.L)),hc y⟩ (fun e s=>(e=.normal/\∃ mc,bN rest mc/\∃ L',gF X false n s ⟨L',hc mc⟩)\/(e≠.normal/\B6 e=true/\∃ aK,k1 e aK/\∃ L',gF X false n s ⟨L',aK⟩)))
  (nU:∀ y,bN [] y->Q .normal ⟨fC (gE n) st.L,hc y⟩)
  (kY:∀ e aK,k1 e aK->Q e ⟨fC (gE n) st.L,aK⟩):lk X true n none (.rangeFunc g pl.toArray assign body) st Q:=PF aQ ae gX rV jU mD hlen gT aV hc bN k1 hN aN cU dt (fun id x rest y aL=>acr oN mv (pH id x rest y aL)) nU kY
end
section
structure gr(X:bs) (M:Bool) (n:Nat) (rr:Option Nat) (aR:Type) where
 In:aR->aO->Act->World->Prop
 frame:∀ {c:Code} {st:aO} {Q:Exit->aO->Prop} {r:aR} {a:Act} {w:World},lk X M n rr c st Q->In r st a w->kJ rr X.P c (fun e a w=>∃ s,Q e s/\In r s a w) a w
 step:∀ {ops:List Oper} {o:Oper} {st st':aO} {r:aR} {a:Act} {w:World},HO X n ops o st st'->In r st a w->∀ {KK:Act->World->Prop},(∀ a w,In r st' a w->KK a w)->eS X.P ops.toArray o KK a w
 e6:∀ {st st':aO} {r:aR} {a:Act} {w:World},gF X M n st st'->In r st a w->In r st' a w
 xj:∀ {st:aO} {r:aR} {a:Act} {w:World},In r st a w->∃ R W aJ ks env B al H,bH X R W aJ n ks env B al H st a w
variable {X:bs} {M:Bool} {n:Nat} {rr:Option Nat} {aR:Type}
def gr.C9(R:Nat->Prop) (W:World) (aJ:e0) (eI:aR):gr X M n rr aR where
 In r st a w:=r=eI/\lV X R W aJ M n st a w
 frame h hi:=wpIn_mono (h R W aJ _ _ hi.2) fun _ _ _ ⟨s,J,U⟩=>⟨s,J,hi.1,U⟩
 step h hi KK bQ:=by
  obtain⟨aN,ks,env,B,al,H,bL,aj⟩:=hi;exact h R W aJ ks env B al H _ _ aj _ fun aP w' env' B' cC H' ck=>bQ _ _ ⟨aN,ks,env',B',cC,H',bL,ck⟩
 e6 h hi:=⟨hi.1,h _ _ _ _ _ hi.2⟩
 xj hi:=by
  obtain⟨_,ks,env,B,al,H,_,aj⟩:=hi;exact⟨_,_,_,_,_,_,_,_,aj⟩
def gr.const{bo:Type} (Γ:gr X M n rr aR) (r:aR) (d0:bo):gr X M n rr bo where
 In d st a w:=d=d0/\Γ.In r st a w
 frame h hi:=wpIn_mono (Γ.frame h hi.2) fun _ _ _ ⟨s,J,U⟩=>⟨s,J,hi.1,U⟩
 step h hi KK bQ:=Γ.step h hi.2 fun a w h=>bQ a w ⟨hi.1,h⟩
 e6 h hi:=⟨hi.1,Γ.e6 h hi.2⟩
 xj hi:=Γ.xj hi.2
def hY(Γ:gr X M n rr aR) (c:Code) (r:aR) (st:aO) (Q:Exit->aO->aR->Prop):Prop:=∀ a w,Γ.In r st a w->kJ rr X.P c (fun e a w=>∃ s cy,Q e s cy/\Γ.In cy s a w) a w
section
variable {Γ:gr X M n rr aR} {c fw cL:Code} {r:aR} {st st':aO} {Q pf:Exit->aO->aR->Prop}
theorem u0{Q:Exit->aO->Prop} (h:lk X M n rr c st Q):hY Γ c r st (fun e s cy=>Q e s/\cy=r):=fun a w hi=>wpIn_mono (Γ.frame h hi) fun _ _ _ ⟨s,J,U⟩=>⟨s,r,⟨J,rfl⟩,U⟩
theorem kG(h:hY Γ c r st Q) (ar:∀ e s cy,Q e s cy->pf e s cy):hY Γ c r st pf:=fun a w hi=>wpIn_mono (h a w hi) fun _ _ _ ⟨s,cy,J,U⟩=>⟨s,cy,ar _ _ _ J,U⟩
theorem Da{bo:Type} {d0:bo} {Q:Exit->aO->bo->Prop} (h:hY (Γ.const r d0) c d0 st Q):hY Γ c r st (fun e s cy=>cy=r/\Q e s d0):=fun a w hi=>wpIn_mono (h a w ⟨rfl,hi⟩) fun _ _ _ ⟨s,d,J,U,ag⟩=>⟨s,r,⟨rfl,U ▸ J⟩,ag⟩
theorem xk(hw:gF X M n st st') (h:hY Γ c r st' Q):hY Γ c r st Q:=fun a w hi=>h a w (Γ.e6 hw hi)
def acE(Γ:gr X M n rr aR) (c:Code) (Q:Exit->aO->aR->Prop):Exit->aO->aR->Prop
 | .normal,st,r=>hY Γ c r st Q
 | e,st,r=>Q e st r
theorem Iv(h:hY Γ fw r st (acE Γ cL Q)):hY Γ (.seq fw cL) r st Q:=fun a w hi=>by
 refine wpIn_seq (wpIn_mono (h a w hi) ?_);rintro e a w ⟨s,cy,J,U⟩;cases e with
 | normal=>exact J a w U
 | _=>exact⟨s,cy,J,U⟩
theorem acF{x:Operand} {g b:Bool} (ak:bp X st.L x=some (g,.c (.val (.bool b)))) (aQ:g=true) (J:b=true->hY Γ fw r st Q) (aN:b=false->hY Γ cL r st Q):hY Γ (.cond x fw cL) r st Q:=fun a w hi=>by
 obtain⟨R,W,aJ,ks,env,B,al,H,aj⟩:=Γ.xj hi;obtain⟨v,U,ag⟩:=aj.aD ak aQ;rw[show v=_ from ag]at U;exact T5 aj.sym U (fun ae=>J ae a w hi) (fun ae=>aN ae a w hi)
def PK(id:Nat) (Q:Exit->aO->aR->Prop):Exit->aO->aR->Prop
 | .exit oy,st,r=>match Nat.beq oy id with
  | true=>Q .normal st r
  | false=>Q (.exit oy) st r
 | e,st,r=>Q e st r
theorem acG{id:Nat} (h:hY Γ c r st (PK id Q)):hY Γ (.block id c) r st Q:=fun a w hi=>by
 refine T4 (wpIn_mono (h a w hi) ?_);rintro e a w ⟨s,cy,J,U⟩;cases e with
 | exit oy=>
  simp only[PK]at J
  split at J
  ·rename_i ae
   have:=Nat.eq_of_beq_eq_true ae
   subst this;simp only[Exit.inBlock,if_true];exact⟨s,cy,J,U⟩
  ·rename_i ae
   have cr:oy≠id:=Nat.ne_of_beq_eq_false ae;simp only[Exit.inBlock,if_neg cr];exact⟨s,cy,J,U⟩
 | _=>exact⟨s,cy,J,U⟩
def acH(Q:Exit->aO->aR->Prop):Exit->aO->aR->Prop
 | .goto _,_,_=>False
 | e,st,r=>Q e st r
theorem acI(h:hY Γ c r st (acH Q)):hY Γ (.scope c) r st Q:=fun a w hi=>by
 refine Zq (wpIn_mono (h a w hi) ?_);rintro e a w ⟨s,cy,J,U⟩;cases e with
 | goto l=>exact J.elim
 | _=>exact⟨s,cy,J,U⟩
def acJ{α:Type} (M:Bool) (n:Nat) (X:bs) (I:α->aO) (bN:α->aR->Prop) (m:α->Nat) (x:α) (Q:Exit->aO->aR->Prop):Exit->aO->aR->Prop
 | .normal,st,r=>∃ y,bN y r/\m y < m x/\gF X M n st (I y)
 | e,st,r=>Q e st r
theorem Iw{α:Type} (I:α->aO) (bN:α->aR->Prop) (m:α->Nat) (qz:α) (aN:bN qz r) (hw:gF X M n st (I qz)) (aw:∀ x r,bN x r->hY Γ c r (I x) (acJ M n X I bN m x Q)):hY Γ (.loop c) r st Q:=fun a w hi=>by
 refine T8 (fun x a w=>∃ r,bN x r/\Γ.In r (I x) a w) m qz ⟨r,aN,Γ.e6 hw hi⟩ fun x a w ⟨r,zP,hi⟩=>wpIn_mono (aw x r zP a w hi) ?_
 rintro e a w ⟨s,cy,J,U⟩;cases e with
 | normal=>
  obtain⟨y,ag,aq,aE⟩:=J;exact⟨y,⟨cy,ag,Γ.e6 aE U⟩,aq⟩
 | _=>exact⟨s,cy,J,U⟩
theorem Db{c:Code} {st:aO} {Q:Exit->aO->aR->Prop} {r:aR} (h:∀ R W aJ,hY (gr.C9 (X:=X) (M:=M) (n:=n) (rr:=rr) R W aJ r) c r st Q):lk X M n rr c st (fun e s=>Q e s r):=fun R W aJ a w aj=>by
 refine wpIn_mono (h R W aJ a w ⟨rfl,aj⟩) ?_;rintro e a w ⟨s,cy,J,rfl,U⟩;exact⟨s,J,U⟩
end
theorem acK(av:X.tt.ok X.P) {f:FuncId} {fn:Func} {c:Code} {args:List bl} {h:bz} {Q:b3->bz->Prop} {res:List ResultVar} (az:X.P.funcs[f]?=some fn) (ae:fn.body=some c) (a6:fn.ntmps=n) (ah:Nat.ble args.length n=true) (aV:Nat.ble n mZ=true) (aw:fn.results=res.toArray)
  (cm:lk X true n none c ⟨re 0 args,h⟩ (fun e st=>(e=.ret\/e=.normal)/\∃ st',gF X true n st st'/\∃ c sv,wu X st' res=some (c,sv)/\c=true/\Q sv st'.H)):AC X f args h Q:=by
 intro B al env vs H W aQ aX cg an;have hlen:=aX.length;have hle:vs.length<=n:=by rw[hlen]; exact Nat.le_of_ble_eq_true ah
 refine(callsIn_wide (n:=0)).1 (callsIn_of_wp_marks az ae trivial ?_);have dp:fJ B al B W:=⟨fun _ h=>h,fun k ab=>an.below.block k ab⟩
 have gL:∀ k,B k->gj W H k:=fun k ab=>⟨an.base k ab,fun c aa e=>((an.ok c aa).lt e).1 ab⟩
 have aI:=Md (fn:=fn) a6 hle _ rfl (vs:=vs);have aj:bH X (gj W H) W ⟨B,fun id l=>((mZ<=id/\∃ b,l=.blk b)\/h5<=id)/\env id=l,[]⟩ n [] env B W H ⟨re 0 args,h⟩ { tmps:=vs.toArray++Array.replicate (fn.ntmps - vs.toArray.size) undef,defers:=[] } W:=by
  refine⟨aI.size,rfl,fun s sv F9=>?_,cg.up dp,?_,fun _ h=>h,fun _ h=>.inl h,fun id l ao=>⟨Nat.le_trans (Nat.le_of_ble_eq_true aV) (ao.1.elim (fun h=>h.1) (fun h=>Nat.le_trans (by decide) h)),ao.2,ao.1.imp (fun h=>h.2) (fun h=>h)⟩,c6.refl _ _,fun i x ak=>(aQ i x ak).up dp⟩
  ·obtain⟨_,v,J,U⟩:=F5 aX F9
   rw[Nat.sub_zero]at J;refine⟨v,?_,U.up dp⟩;have aW:s < vs.length:=(List.getElem?_eq_some_iff.1 J).1;show(vs.toArray++_)[s]?=some v;rw[Array.getElem?_append_left (by simpa using aW)]
   simpa using J
  ·have J:=an.rest
   simp only[List.map_nil,List.append_nil];exact⟨c6.refl _ _,fun k ab=>ab.elim (fun h=>h.1) (fun h=>an.base k h),fun c aa=>(J.ok c aa).base fun b ae ab=>ab.elim (fun h=>((J.ok c aa).lt ae).1 h) (fun h=>((J.ok c aa).lt ae).1 (gL b h)),J.apart⟩
 refine wpIn_mono (cm _ _ _ _ _ ⟨[],env,B,W,H,⟨(fun h=>by cases h),fun _ id l (ao:((mZ<=id/\∃ b,l=.blk b)\/h5<=id)/\env id=l)=>ao.1.elim (fun h=>h.1) (fun h=>Nat.le_trans (by decide) h)⟩,aj⟩) ?_;rintro e a w ⟨st,⟨he,st',hw,c,sv,sj,aa,nK⟩,U⟩;obtain⟨ks,env',B',cC,H',bL,ck⟩:=hw _ _ _ _ _ U;have hA:bH X (gj W H) W ⟨B,fun id l=>((mZ<=id/\∃ b,l=.blk b)\/h5<=id)/\env id=l,[]⟩ n [] env' B' cC H' st' { tmps:=a.tmps,defers:=[] } w:=
  ⟨ck.size,rfl,ck.has,ck.heap,by simpa using ck.aM.e6 (List.sublist_append_left _ _),ck.sub,ck.new,ck.dL,ck.base,ck.et⟩
 obtain⟨v,ag,aq⟩:=VC av hA aw sj aa;have tT:Sym n (ks.map tI) (gm a) (fun k=>gj W H k\/B' k) cC (ks.map (fun k=>bf.obj k (.deferred (some [])))++H') a w:=⟨by have cU:=ck.bZ; simpa [j2] using cU,ck.aM.perm List.perm_append_comm⟩
 have key:=Mf (fn:=fn) (R:=wq X env B H W Q) ks tT (fun w hw=>aq w (by simpa using hw)) fun w hw=>⟨env',B',cC,H',sv,st'.H,nK,ck.sub,ck.new,ck.base,ag,ck.heap,hw,fun id l aE bb=>(ck.dL id l ⟨aE,bb⟩).2.1⟩
 rcases he with rfl | rfl
 ·exact key
 ·exact key
end
end Go.Proofs.YtcheedjfedcbpaaGreatDoor
