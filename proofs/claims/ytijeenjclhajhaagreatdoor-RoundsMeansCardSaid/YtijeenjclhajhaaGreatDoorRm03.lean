/- Part 3 of 6 of the proof. -/
import Derived.Test.YtijeenjclhajhaaGreatDoorRm02
import Derived.Maps.RangeRun
import Derived.RangeFuncNested
set_option linter.all false
set_option maxRecDepth 100000
namespace Go.Proofs.YtijeenjclhajhaaGreatDoor
open _root_.Bool (and_eq_true not_eq_true' or_eq_true)
open _root_.Nat (beq beq_refl ble blt eq_of_beq_eq_true le_refl le_trans lt_of_lt_of_le lt_of_succ_lt_succ ne_of_beq_eq_false zero_add)
open _root_.List (append_assoc append_nil cons_append length_map length_set map_append map_nil mem_append_left mem_cons_of_mem mem_cons_self pairwise_append range replicate set_set sublist_append_left toArray)
open Go.RowKit
variable{d i j n q s:Nat}{α:Type}{T' e3 fB t:TypeId}{g gk gv:aZ}{h:Option (Nat×Option Nat)}{bB:cm}{u x y:Operand}{cap:Option Nat}{b g2:Bool}{X:bx}{st st':aP}{V:bG}{L:cS}{o:Oper}{ps:eh}{args:dT}{P:Program}{a:Act}{iW:Option (List MapEntry×Nat)}{B R:Nat->Prop}{W ai w:World}{aC:fe}{env:Nat->Loc}{H:cW}{l:Array Bool}{assign body:Code}
section
set_option linter.unusedSectionVars false
section
variable {B:Nat->Prop} {w:World} {T':TypeId} {g:aZ}
theorem bN.SY:bN B w (.ax g) ([]:List g.D) [.slice none 0 0]:=⟨none,0,[],rfl,le_refl _,Nat.zero_le _,rfl,Reads.nil _ _ _,λ_ _ h=>absurd h (Nat.lt_irrefl 0)⟩
theorem dO.hole:∀ {l:List (Bool×List g.D)} {ys:bQ} {I:List gS} {i:Nat},dO B w T' g l ys I->i<l.length ->
    ∃v eZ,ys[i]?=some v/\dO B w T' g (l.set i (false,[])) (ys.set i (.slice none 0 0)) eZ /\
      (((l.getD i (false,[])).1=true/\∃A k xs,v=.slice A (l.getD i (false,[])).2.length k/\Flat (bN B w g) (l.getD i (false,[])).2 xs/\I.Perm (⟨A,k,T',g.size,(l.getD i (false,[])).2.length,xs⟩::eZ)) \/
       ((l.getD i (false,[])).1=false/\I=eZ/\bN B w (.ax g) (l.getD i (false,[])).2 [v]))
  |[],_,_,_,_,h=>by simp at h
  |(true,d)::l,_,_,0,⟨v,a,e,A,k,xs,eZ,b,c,aF,bj⟩,_=>by
    subst e;exact⟨v,eZ,rfl,⟨_,a,rfl,bN.SY,bj⟩,.inl ⟨rfl,A,k,xs,b,aF,by rw[c];exact List.Perm.refl _⟩⟩
  |(false,d)::l,_,I,0,⟨v,a,e,aF,bj⟩,_=>by
    subst e;exact⟨v,I,rfl,⟨_,a,rfl,bN.SY,bj⟩,.inr ⟨rfl,rfl,aF⟩⟩
  |(true,d)::l,_,_,i+1,⟨v,a,e,A,k,xs,j,b,c,aF,bj⟩,h=>by
    subst e;obtain⟨u,eZ,J,U,ah⟩:=dO.hole bj (lt_of_succ_lt_succ h);refine⟨u,_::eZ,J,⟨v,_,rfl,A,k,xs,eZ,b,rfl,aF,U⟩,ah.imp (λ⟨f,df,ev,gW,aH,bk,cn⟩=>⟨f,df,ev,gW,aH,bk,?_⟩) λ⟨f,aH,bk⟩=>⟨f,?_,bk⟩⟩
    · rw[c]
      exact(List.Perm.cons _ cn).trans (List.Perm.swap _ _ _)
    grind
  |(false,d)::l,_,_,i+1,⟨v,a,e,aF,bj⟩,h=>by
    subst e;obtain⟨u,eZ,J,U,ah⟩:=dO.hole bj (lt_of_succ_lt_succ h);exact⟨u,eZ,J,⟨v,_,rfl,aF,U⟩,ah⟩
theorem dO.fill{a:List g.D}{A:Option Addr}{k:Nat}{xs:bQ}(c:Flat (bN B w g) a xs):∀ {l:List (Bool×List g.D)} {ys:bQ} {I:List gS} {i:Nat},dO B w T' g (l.set i (false,[])) ys I->i<l.length ->
    ∃eZ,eZ.Perm (⟨A,k,T',g.size,a.length,xs⟩::I)/\dO B w T' g (l.set i (true,a)) (ys.set i (.slice A a.length k)) eZ
  |[],_,_,_,_,h=>by simp at h
  |_::l,_,I,0,⟨v,b,e,_,bj⟩,_=>by
    subst e;exact⟨_,List.Perm.refl _,_,b,rfl,A,k,xs,I,rfl,rfl,c,bj⟩
  |(true,m)::l,_,_,i+1,⟨v,b,e,j,k0,n,o,d,f,aF,bj⟩,h=>by
    subst e;obtain⟨eZ,J,U⟩:=dO.fill c (A:=A) (k:=k) bj (lt_of_succ_lt_succ h);refine⟨_::eZ,?_,v,_,rfl,j,k0,n,eZ,d,rfl,aF,U⟩;rw[f];exact(List.Perm.cons _ J).trans (List.Perm.swap _ _ _)
  |(false,m)::l,_,_,i+1,⟨v,b,e,aF,bj⟩,h=>by
    subst e;obtain⟨eZ,J,U⟩:=dO.fill c (A:=A) (k:=k) bj (lt_of_succ_lt_succ h);exact⟨eZ,J,v,_,rfl,aF,U⟩
theorem dO.Lp{c:List g.D}{u:Value}(b:bN B w (.ax g) c [u]):∀ {l:List (Bool×List g.D)} {ys:bQ} {I:List gS} {i:Nat},dO B w T' g (l.set i (false,[])) ys I->i<l.length ->
    dO B w T' g (l.set i (false,c)) (ys.set i u) I
  |[],_,_,_,_,h=>by simp at h
  |_::l,_,I,0,⟨v,a,e,_,bj⟩,_=>by
    subst e;exact⟨_,a,rfl,b,bj⟩
  |(true,m)::l,_,_,i+1,⟨v,a,e,k,k0,n,d,f,j,aF,bj⟩,h=>by
    subst e;exact⟨v,_,rfl,k,k0,n,d,f,j,aF,dO.Lp b bj (lt_of_succ_lt_succ h)⟩
  |(false,m)::l,_,_,i+1,⟨v,a,e,aF,bj⟩,h=>by
    subst e;exact⟨v,_,rfl,aF,dO.Lp b bj (lt_of_succ_lt_succ h)⟩
theorem dO.map{l:List (List g.D)}:∀ {l:List (List g.D)} {ys:bQ},Flat (bN B w (.ax g)) l ys->dO B w T' g (l.map λx=>(false,x)) ys []
  |[],_,h=>⟨h,rfl⟩
  |x::l,_,⟨a,b,e,J,U⟩=>by
    have ao:=bN.length J
    match a,ao with
    |[v],_=>exact⟨v,b,e,J,dO.map (l:=l) U⟩
theorem dO.SZ:∀k:Nat,∃I,dO B w T' g (replicate k (true,[])) (replicate k (.slice none 0 0)) I/\∀r∈I,r=⟨none,0,T',g.size,0,[]⟩
  |0=>⟨[],⟨rfl,rfl⟩,λ_ h=>by cases h⟩
  |k+1=>by
    obtain⟨I,J,U⟩:=dO.SZ k;refine⟨_::I,⟨_,_,rfl,none,0,[],I,rfl,rfl,rfl,J⟩,λr av=>?_⟩
    rcases List.mem_cons.1 av with rfl|av
    · rfl
    grind
end
theorem Cb{id:Nat}{z:bs}{b:cz}(a:id≠d):∀ {l:bC},bh l id=some b->bh (en d z l) id=some (b.sub d z)
  |[],h=>by cases h
  |(k,b')::l,h=>by
    rw[cO]at h;unfold en
    split at h
    · grind [beq,id,absurd,eq_of_beq_eq_true,cO]
    · rename_i e
      split
      · exact Cb a h
      · rw[cO,if_neg e]
        exact Cb a h
section
variable {X:bx} {R:Nat->Prop} {W:World} {aC:fe} {n:Nat} {ks:bG} {env:Nat->Loc} {B:Nat->Prop} {ai:World} {H:cW} {st:aP} {a aS:Act} {w:World} {d:Nat} {o:Oper}
theorem List.S0{l:List α}{v:α}(h:l[i]?=some v):l.set i v=l:=by
  grind [List.getElem?_eq_some_iff,List.set_getElem_self]
theorem bO.S1(h:bO X R W aC n ks env B ai H st a w)(az:blt d n=true)(l:Loc):∃H2,H2.Sublist H/\bO X R W aC n ks (lL env d l) B ai H2 ⟨fS d .dead st.L,en d .dead st.H⟩ a w:=by
  obtain⟨H2,J,U⟩:=h.heap.del (z:=.dead) (ki (env:=env) (id:=d) (l:=l)) (λ_ _=>trivial);refine⟨H2,J,h.size,h.defs,λs u b=>?_,U,h.aQ.fb (J.append_right _),h.sub,h.new,wX h.dB (λq an=>by have J:=(h.dB _ _ an).1;have U:=dH az;omega),h.base,h.eg⟩;obtain⟨f,g,rfl⟩:=rq b;obtain⟨e,ah,c⟩:=h.has s f g;exact⟨e,ah,eI.sub (z:=.dead) (ki (env:=env)) (λ_ _=>trivial) c⟩
theorem bK.same{B:Nat->Prop}{ai w:World}{H:cW}(h:bK B ai H w){c c':bm}(aa:c∈H)(f:c'∈H){b:Nat}(ag:c.has b)(d:c'.has b):c=c':=by
  have key:∀ {H:cW},H.Pairwise bm.off->c∈H->c'∈H->c=c':=by
    intro H
    induction H with
    |nil=>intro _ h;cases h
    |cons x r i=>
      intro an J U;obtain⟨ah,g⟩:=List.pairwise_cons.1 an
      rcases List.mem_cons.1 J with e|aI
      · rcases List.mem_cons.1 U with a|bb
        · grind
        · subst e;exact absurd d (ah _ bb b ag)
      · rcases List.mem_cons.1 U with a|bb
        · subst a;exact absurd ag (ah _ aI b d)
        grind
  exact key h.apart aa f
theorem ne_of_beq_false{a b:Nat}(h:beq a b=false):a≠b:=λe=>by subst e;rw[beq_refl]at h;cases h
def xw:Option (Nat×Option Nat)->Nat->Bool
  |none,_=>true
  |some (j,_),i=>decide (j=i)
theorem dO.ae7{l:List (Bool×List g.D)}{ys ys':bQ}{I:List gS}(bj:dO B w T' g (QP l h) ys I)(b:Bm env l.length ys ys' h)(a:xw h i=true)(hi:i<l.length) :
    ∃zs eZ,dO B w T' g (l.set i (false,[])) zs eZ/\(∀u,ys'.set i u=zs.set i u)/\ys'.length=l.length/\∃c,I.Perm c/\eZ.Sublist c:=by
  match h,bj,b,a with
  |none,bj,b,_=>
    subst b;obtain⟨v,eZ,J,U,ah⟩:=dO.hole (show dO B w T' g l ys' I from bj) hi;refine⟨_,eZ,U,λu=>by rw[set_set],dO.length (show dO B w T' g l ys' I from bj),?_⟩
    rcases ah with⟨_,A,k,xs,_,_,an⟩|⟨_,e,_⟩
    · exact⟨_,an,List.sublist_cons_self _ _⟩
    · exact⟨eZ,by rw[e],List.Sublist.refl _⟩
  |some (j,d),bj,⟨_,v,J,_⟩,a=>
    have e:j=i:=of_decide_eq_true a;subst e;have ao:=dO.length (show dO B w T' g (l.set j (false,[])) ys I from bj);rw[length_set]at ao;exact⟨ys,I,bj,λu=>by rw[J,set_set],by rw[J,length_set,ao],I,List.Perm.refl _,List.Sublist.refl _⟩
theorem bO.S2(h:bO X R W aC n ks env B ai H st a w){id:Nat}{b b':cz}(m:bh st.H id=some b):∃c d e,eF env B ai id b c/\H=d++c::e/\∀c' aS w',eF env B ai id b' c'->bK (λk=>R k\/B k) ai (d++c'::(e++ks.map dj)) w'->c5 n (kf ks aC) (full a) aS->bO X R W aC n ks env B ai (d++c'::e) ⟨st.L,qr id b' st.H⟩ aS w':=by
  obtain⟨c,K,J,⟨d,e,g,rfl⟩,ah⟩:=h.heap.put m;refine⟨c,d,e,J,g,λc' aS w' ag j f=>⟨f.size,f.defs,λs u hu=>?_,ah b' c' ag,by rw[append_assoc,cons_append];exact j,h.sub,h.new,h.dB,h.base,h.eg⟩⟩;obtain⟨o,l,i⟩:=h.has s u hu;exact⟨o,f.same l,i⟩
theorem bK.ae8{B:Nat->Prop}{ai w:World}{H:cW}(h:bK B ai H w):bK B ai (.tree []::H) w:=
  ⟨h.below,h.base,λc aa=>by
    rcases List.mem_cons.1 aa with rfl|aa
    · exact⟨(λ_ h=>by cases h),List.Pairwise.nil⟩
    · exact h.ok c aa,List.Pairwise.cons (λc aa b ag=>by obtain⟨_,h,_⟩:=ag;cases h) h.apart⟩
theorem bK.S3{B:Nat->Prop}{ai w:World}{X Y:cW}{r:gS}(h:bK B ai (X++r.et::Y) w):bK B ai (X++.tree [r]::Y) w:=
  ((((h.perm sh).ae8).perm (List.Perm.swap _ _ _)).Jy).perm sh.symm
theorem bK.S4{B:Nat->Prop}{ai w:World}{H:cW}{r:gS}:∀ {I:List gS},bK B ai (.tree [r]::H) w->(∀s∈I,∃e a,s=⟨none,0,e,a,0,[]⟩)->bK B ai (.tree (r::I)::H) w
  |[],h,_=>h
  |s::I,h,b=>by
    obtain⟨e,a,rfl⟩:=b _ mem_cons_self;have d:=bK.S4 (I:=I) h λs c=>b s (mem_cons_of_mem _ c)
    have U:bK B ai (.tree (⟨none,0,e,a,0,[]⟩::r::I)::H) w:=(d.uQ e a).Jy;exact bK.Bh (X:=[]) U ⟨_,List.Perm.swap _ _ _,List.Sublist.refl _⟩
theorem S5(s:X.a1.ok X.P){T:TypeId}{id d2:Nat}{l:List (Bool×List g.D)}{q:Bool}(h:o.op=.load t x)(bj:X.a1.find t=some bB)(M:mM bB.ti.desc=false)(ak:bu X st.L x=some (q,.c (.eT id 1 i 0)))(y:q=true)(u:bh st.H id=some (.bS T T' g l cap (some (j,some d2))))(F:decide (i=j)=true):jq X st o (.c (.ax d2)):=by
  intro R W aC n ks env B ai H a b9 ae;have e:i=j:=of_decide_eq_true F;subst e;obtain⟨vx,J,b,c,m,he,rfl⟩:=ae.aD ak y;obtain⟨et,K,⟨A,k,ys,ys',I,p,rfl,L,⟨hi,v,r,az⟩,_⟩,aF⟩:=ae.heap.gA u;rw[he]at p;cases p;obtain⟨d,c',f,E,rfl⟩:=az d2 rfl;have D:=dO.length (show dO B ai T' g (l.set i (false,[])) ys I from L);rw[length_set]at D;refine⟨.slice d f c',⟨d,c',f,E,rfl⟩,λw z=>?_⟩;have C:eY w (λk=>R k\/B k) T 1 (some ⟨b,0,none⟩) c l.length ys':=((z (by rw[h];rfl)).ok _ aF.more.mem).1 _ mem_cons_self;have G:w.cell? ⟨b,i * 1+0,none⟩=some (.slice d f c'):=by
    rw[C.cells rfl _ (by omega),r]
    grind
  exact y3 ae.bV h (cd.get s bj).ti M J G
theorem bO.storeT(N:X.a1.ok X.P)(ae:bO X R W aC n ks env B ai H st a w){T:TypeId}{id b d k':Nat}{l:List (Bool×List g.D)}{f:Option Addr}(J:o.op=.store t x y)(G:o.guard=none/\o.dst=none)(bj:X.a1.find t=some bB)(U:beq bB.ti.size 1=true)(ak:Go.Proofs.YtijeenjclhajhaaGreatDoor.aD (full a) x=some (.pointer (some ⟨b,i * 1+0,none⟩))){c m:Nat}(he:env id=.row (some ⟨b,0,none⟩) c m)(aA:Go.Proofs.YtijeenjclhajhaaGreatDoor.aD (full a) y=some (.slice f d k'))(O:bh st.H id=some (.bS T T' g l cap h))(P:xw h i=true)(hi:i<l.length){b':cz}{ac:List Oper}{KK:Act->World->Prop}(ag:(∀q,cap=some q->c=q)->∀zs I,dO B ai T' g (l.set i (false,[])) zs I->eF env B ai id b' (.tree (⟨some ⟨b,0,none⟩,c,T,1,l.length,zs.set i (.slice f d k')⟩::I)))(S:∀aS w' H',bO X R W aC n ks env B ai H' ⟨st.L,qr id b' st.H⟩ aS w'->KK aS w'):fa X.P ac.toArray o KK a w:=by
  obtain⟨et,z,C,⟨A,k,ys,ys',I,p,rfl,ah,af,Y⟩,Q,ad⟩:=ae.S2 (b':=b') O;rw[he]at p;cases p;obtain⟨zs,eZ,K,Z,al,ab⟩:=dO.ae7 ah af P hi
  let j:gS:=⟨some ⟨b,0,none⟩,c,T,1,l.length,ys'⟩
  have s:=ae.aQ;rw[Q,append_assoc,cons_append]at s;have L:bK (λk=>R k\/B k) ai (z++.tree (j::eZ)::(C++ks.map dj)) w:=by
    obtain⟨V,an,M⟩:=ab;exact s.Bh ⟨j::V,List.Perm.cons _ an,M.cons_cons _⟩
  have bt:Sym n (kf ks aC) (full a) (λk=>R k\/B k) ai (j.et::(z++.tree eZ::(C++ks.map dj))) a w:=⟨ae.bV,L.Ez⟩
  have aj:=(cd.get N bj).ti;have aa:=eq_of_beq_eq_true U;refine ES (v:=.slice f d k') bt J G aj ak aA (by rw[aa];rfl) (by intro u hu;simp[Value.cells]at hu;subst hu;rfl) (yW (c:=j.et)) (by show i * 1+0+1<=l.length * 1;omega) λaS w' E=>?_
  have e:ys'.take (i * 1+0)++(Value.slice f d k').cells.toList++ys'.drop (i * 1+0+(Value.slice f d k').cells.toList.length)=zs.set i (.slice f d k'):=by
    rw[<- Z,List.set_eq_take_append_cons_drop,if_pos (by omega)]
    simp[Value.cells]
  have D:=E.aQ;rw[e]at D;have F:=bK.Qk (r:=⟨some ⟨b,0,none⟩,c,T,1,l.length,zs.set i (.slice f d k')⟩) D;exact S aS w' _ (ad _ aS w' (ag Y zs eZ K) F E.st)
theorem S7(s:X.a1.ok X.P){T:TypeId}{id d:Nat}{l:List (Bool×List g.D)}{p:Bool}(r:o.op=.store t x y)(q:o.guard=none/\o.dst=none)(bj:X.a1.find t=some bB)(D:beq bB.ti.size 1=true)(ak:bu X st.L x=some (p,.c (.eT id 1 i 0)))(C:p=true)(aA:bu X st.L y=some (g2,.c (.ax d)))(F:g2=true)(e:bh st.H id=some (.bS T T' g l cap h))(v:xw h i=true)(hi:decide (i<l.length)=true):hh X n o st ⟨st.L,qr id (.bS T T' g l cap (some (i,some d))) st.H⟩:=by
  intro R W aC ks env B ai H a w ae KK S z;have f:=of_decide_eq_true hi;obtain⟨vx,J,b,c,m,he,rfl⟩:=ae.aD ak C;obtain⟨vy,L,E,cC,O,N,rfl⟩:=ae.aD aA F;have M:m=l.length:=by
    obtain⟨et,K,⟨A,k,ys,ys',I,j,_⟩,_⟩:=ae.heap.gA e;rw[he]at j;cases j
    rfl
  subst M;exact ae.storeT (b':=.bS T T' g l cap (some (i,some d))) s r q bj D J he L e v f (λG zs I bw=>⟨_,c,zs,_,I,he,rfl,bw,⟨f,_,rfl,λQ P=>by cases P;exact⟨E,cC,O,N,rfl⟩⟩,G⟩) λaS w' H' u=>z aS w' env H' u
theorem afb(v:X.a1.ok X.P){T:TypeId}{id:Nat}{l:List (Bool×List g.D)}{d:List g.D}{xr:Option Nat}{q:Bool}(s:o.op=.store t x y)(r:o.guard=none/\o.dst=none)(bj:X.a1.find t=some bB)(G:beq bB.ti.size 1=true)(ak:bu X st.L x=some (q,.c (.eT id 1 i 0)))(F:q=true)(aA:bu X st.L y=some (g2,.c (.bz g d xr)))(L:g2=true)(e:bh st.H id=some (.bS T T' g l cap h))(C:xw h i=true)(hi:decide (i<l.length)=true):hh X n o st ⟨st.L,qr id (.bS T T' g (l.set i (false,d)) cap none) st.H⟩:=by
  intro R W aC ks env B ai H a w ae KK Y E;have f:=of_decide_eq_true hi;obtain⟨vx,J,b,c,m,he,rfl⟩:=ae.aD ak F;obtain⟨vy,O,p,cC,P,rfl,D,M,V,S,U⟩:=ae.aD aA L;have Q:m=l.length:=by
    obtain⟨et,K,⟨A,k,ys,ys',I,j,_⟩,_⟩:=ae.heap.gA e;rw[he]at j;cases j
    rfl
  subst Q;exact ae.storeT (b':=.bS T T' g (l.set i (false,d)) cap none) v s r bj G J he O e C f (λN zs I bw=>⟨_,c,_,_,I,by rw[length_set];exact he,by rw[length_set],dO.Lp (u:=.slice p d.length cC) ⟨p,cC,P,rfl,D,M,S,U⟩ bw f,rfl,N⟩) λaS w' H' z=>E aS w' env H' z
theorem afc{T:TypeId}{id:Nat}{l:List (Bool×List g.D)}(az:blt d n=true)(q:bh st.H id=some (.bS T T' g l cap none))(K:beq d id=false)(hi:decide (i<l.length)=true)(s:(l.getD i (false,[])).1=true)
    : cj X n st ⟨fS d .dead st.L,(d,.row T' g (l.getD i (false,[])).2 none)::qr id (.bS T T' g l cap (some (i,some d))) (en d .dead st.H)⟩:=λR W aC M a w ⟨ks,env,B,ai,H,J,ae⟩=>by
  have r:=of_decide_eq_true hi;have o:id≠d:=λe=>ne_of_beq_false K e.symm
  obtain⟨c0,ad,⟨A,k,ys,ys',I,he,rfl,V,U,L⟩,E⟩:=ae.heap.gA q;have ab:ys'=ys:=U;subst ab;obtain⟨b,rfl⟩:=eY.at ((ae.aQ.ok _ E.more.mem).1 _ mem_cons_self) (by show 0<l.length;omega);obtain⟨v,eZ,G,F,Z⟩:=dO.hole (show dO B ai T' g l ys' I from V) r
  rcases Z with⟨_,df,ev,gW,rfl,fW,jf⟩|⟨Lq,_⟩
  · obtain⟨H2,N,f⟩:=ae.S1 az (.row df ev (l.getD i (false,[])).2.length)
    obtain⟨fp,ag,O,⟨u,y,Y,rfl⟩,Q⟩:=f.heap.put (Cb (z:=.dead) o q);subst Y;obtain⟨af,ak,aj,j,ac,D,rfl,_⟩:=O;rw[ki id o,he]at D;cases D;have C:=ae.aQ.same (c:=.tree (⟨some ⟨b,0,none⟩,k,T,1,l.length,j⟩::ac)) (mem_append_left _ (N.subset (by simp))) E.more.mem (b:=b) ⟨_,mem_cons_self,rfl⟩ ⟨_,mem_cons_self,rfl⟩;simp only[bm.tree.injEq,List.cons.injEq,gS.mk.injEq,true_and]at C;obtain⟨rfl,rfl⟩:=C
    let p:gS:=⟨df,ev,T',g.size,(l.getD i (false,[])).2.length,gW⟩
    let m:gS:=⟨some ⟨b,0,none⟩,k,T,1,l.length,j⟩
    have t:=f.aQ;rw[append_assoc,cons_append]at t;have P:bK (λk=>R k\/B k) ai (u++.tree (p::m::eZ)::(y++ks.map dj)) w:=t.Bh ⟨p::m::eZ,(List.Perm.cons _ jf).trans (List.Perm.swap _ _ _),List.Sublist.refl _⟩;have S:=P.Ez;refine⟨ks,_,B,ai,p.et::(u++.tree (m::eZ)::y),J,f.size,f.defs,f.has,⟨_,_,rfl,⟨df,ev,gW,fi,rfl,fW,λ_ h=>by cases h⟩,Q _ _ ⟨_,k,j.set i (.slice none 0 0),j,eZ,by rw[ki id o];exact he,rfl,F,⟨r,.slice df (l.getD i (false,[])).2.length ev,?_,λah aa=>by cases aa;exact⟨df,ev,_,fi,rfl⟩⟩,L⟩⟩,by rw[cons_append,append_assoc,cons_append];exact S,f.sub,f.new,f.dB,f.base,f.eg⟩;rw[set_set];exact(List.S0 G).symm
  · rw[Lq]at s;cases s
theorem afe{T:TypeId}{id d:Nat}{l:List (Bool×List g.D)}{j:List g.D}{xr:Option Nat}(F:bh st.H id=some (.bS T T' g l cap (some (i,some d))))(N:bh st.H d=some (.row T' g j xr))(U:beq d id=false) :
    cj X n st ⟨fS d .dead st.L,qr id (.bS T T' g (l.set i (true,j)) cap none) (en d .dead st.H)⟩:=λR W aC M a w ⟨ks,env,B,ai,H,Q,h⟩=>by
  have av:id≠d:=λe=>ne_of_beq_false U e.symm
  obtain⟨c0,ay,⟨A,k,ys,ys',I,he,rfl,au,⟨S,v,az,ar⟩,aa⟩,K⟩:=h.heap.gA F;obtain⟨fp,Y,Z,⟨m,q,ad,aq,rfl,ab,_⟩,V,aj⟩:=h.heap.take N;obtain⟨aE,c',aF,y,rfl⟩:=ar d rfl;rw[aq]at y;cases y;obtain⟨b,rfl⟩:=eY.at ((h.aQ.ok _ K.more.mem).1 _ mem_cons_self) (by show 0<l.length;omega);obtain⟨H2,af,O,_⟩:=aj env .dead (λ_ _=>rfl) (λ_ _=>trivial);have C:=Cb (z:=.dead) av F;rw[show(cz.bS T T' g l cap (some (i,some d))).sub d .dead=.bS T T' g l cap (some (i,none)) by simp only[cz.sub,beq_refl]]at C;obtain⟨aI,aB,ax,⟨r,t,aw,rfl⟩,ak⟩:=O.put C;subst aw;obtain⟨aA,aG,aH,D,f,E,rfl,aD,_⟩:=ax;rw[he]at E;cases E;have al:bm.tree (⟨some ⟨b,0,none⟩,k,T,1,l.length,D⟩::f)∈H:=by
    grind
  have J:=h.aQ.same (c:=.tree (⟨some ⟨b,0,none⟩,k,T,1,l.length,D⟩::f)) (mem_append_left _ al) K.more.mem (b:=b) ⟨_,mem_cons_self,rfl⟩ ⟨_,mem_cons_self,rfl⟩;simp only[bm.tree.injEq,List.cons.injEq,gS.mk.injEq,true_and]at J;obtain⟨rfl,rfl⟩:=J;obtain⟨eZ,am,L⟩:=dO.fill ab (A:=m) (k:=q) (show dO B ai T' g (l.set i (false,[])) ys f from au) S
  let p:gS:=⟨m,q,T',g.size,j.length,ad⟩
  let o:gS:=⟨some ⟨b,0,none⟩,k,T,1,l.length,ys.set i (.slice m j.length q)⟩
  have G:=h.aQ;rw[V]at G;have ac:bK (λk=>R k\/B k) ai (p.et::(r++.tree (o::f)::(t++ks.map dj))) w:=by
    have an:(Y++p.et::Z++ks.map dj).Perm (p.et::(Y++Z++ks.map dj)):=by
      grind [append_assoc,List.perm_middle]
    have:=(G.perm an).fb (((af.append_right (ks.map dj))).cons_cons _)
    grind
  have ag:bK (λk=>R k\/B k) ai (r++.tree (o::eZ)::(t++ks.map dj)) w:=ac.Qk.Bh ⟨_,(List.Perm.swap _ _ _).trans (List.Perm.cons _ am.symm),List.Sublist.refl _⟩;refine⟨ks,env,B,ai,r++.tree (o::eZ)::t,Q,h.size,h.defs,λs u hu=>?_,ak _ _ ⟨_,k,_,_,eZ,by rw[length_set];exact he,by rw[length_set],L,rfl,aa⟩,by rw[append_assoc,cons_append];exact ag,h.sub,h.new,h.dB,h.base,h.eg⟩;obtain⟨ao,ap,rfl⟩:=rq hu;obtain⟨ae,ah,P⟩:=h.has s ao ap;exact⟨ae,ah,eI.sub (z:=.dead) (λ_ _=>rfl) (λ_ _=>trivial) P⟩
theorem afg{T:TypeId}(T':TypeId){id:Nat}{l:List (List g.D)}(e:bh st.H id=some (.row T (.ax g) l cap)) :
    cj X n st ⟨st.L,qr id (.bS T T' g (l.map λx=>(false,x)) cap none) st.H⟩:=λR W aC M a w ⟨ks,env,B,ai,H,d,h⟩=>by
  obtain⟨c0,m,o,⟨A,k,xs,he,rfl,aF,i⟩,f,j⟩:=h.S2 (b':=.bS T T' g (l.map λx=>(false,x)) cap none) e;have b:=h.aQ;rw[f,append_assoc,cons_append]at b;have c:=bK.S3 (r:=⟨A,k,T,1,l.length,xs⟩) b;exact⟨ks,env,B,ai,_,d,j (.tree [⟨A,k,T,1,l.length,xs⟩]) a w ⟨A,k,xs,xs,[],by rw[length_map];exact he,by rw[length_map],dO.map (l:=l) aF,rfl,i⟩ c h.bV⟩
theorem eY.reads{w:World}{B:Nat->Prop}{e:TypeId}{size c n:Nat}{A:Option Addr}{xs:bQ}(a:eY w B e size A c n xs):Reads w A n size xs:=by
  refine⟨a.1,λbc=>?_⟩;obtain⟨g,J⟩:=a.at bc;refine⟨g,0,J,λj u hu=>?_⟩;rw[zero_add,a.cells J j (by have:=(List.getElem?_eq_some_iff.1 hu).1;rw[a.1]at this;exact this)]
  grind
theorem dO.flat{B B':Nat->Prop}{w:World}:∀ {l:List (Bool×List g.D)} {ys:bQ} {I:List gS},dO B' w T' g l ys I->(∀r∈I,r.ok B w/\∀b,r.has b->B' b)->Flat (bN B' w (.ax g)) (l.map (·.2)) ys
  |[],_,_,⟨e,_⟩,_=>e
  |(true,f)::l,_,_,⟨v,d,e,A,k,xs,eZ,h,j,aF,bj⟩,a=>by
    subst j;obtain⟨J,U⟩:=a _ mem_cons_self;have c:eY w B T' g.size A k f.length xs:=J;exact⟨[v],d,e,⟨A,k,xs,by rw[h],c.le.1,c.le.2,aF,c.reads,λb p _ e=>U b (by show A.map _=_;rw[e];rfl)⟩,dO.flat bj λr i=>a r (mem_cons_of_mem _ i)⟩
  |(false,f)::l,_,_,⟨v,d,e,aF,bj⟩,a=>⟨[v],d,e,aF,dO.flat bj a⟩
theorem afh{T:TypeId}{id:Nat}{l:List (Bool×List g.D)}(G:bh st.H id=some (.bS T T' g l cap none)) :
    cj X n st ⟨fS id (.bz (.ax g) (l.map (·.2)) cap) st.L,en id (.bz (.ax g) (l.map (·.2)) cap) st.H⟩:=λR W aC M a w ⟨ks,env,B,ai,H,af,h⟩=>by
  obtain⟨c0,aG,az,aB⟩:=h.heap.gA G;have P:=(aB.more (H2:=ks.map dj)).mem;have t:gm B ai (λq=>B q\/c0.has q) w:=⟨λq aq=>.inl aq,λq aq=>h.aQ.below.block q (.inr aq)⟩
  obtain⟨c,Y,Z,ag,U,ah⟩:=(h.heap.up t).take G;have N:c∈H++ks.map dj:=by rw[U];simp
  have S:c=c0:=by
    obtain⟨A,k,ys,ys',I,he,D,C,z,_⟩:=az;obtain⟨aH,aP,K,aD,aF,O,aj,V,ab,_⟩:=ag;rw[he]at O;cases O
    match ae:A with
    |some p=>
      subst D;subst aj;exact h.aQ.same N P (b:=p.block) ⟨_,mem_cons_self,rfl⟩ ⟨_,mem_cons_self,rfl⟩
    |none=>
      have d:eY w (λk=>R k\/B k) T 1 none k l.length ys':=by
        subst D;exact(h.aQ.ok _ P).1 _ mem_cons_self
      have ao:l.length=0:=by
        by_cases ao:l.length=0
        · grind
        · obtain⟨b,ag⟩:=d.at (by omega)
          grind
      have aA:l=[]:=List.length_eq_zero_iff.1 ao;subst aA;have aM:ys'=ys:=z;have aI:aD=K:=ab;obtain⟨aJ,aK⟩:=(show dO B ai T' g [] ys I from C)
      obtain⟨aL,aO⟩:=(show dO _ w T' g [] K aF from V)
      grind
  subst S;obtain⟨A,k,ys,ys',I,he,rfl,C,z,ar⟩:=ag;have aE:ys'=ys:=z;subst aE;have o:=h.aQ.ok _ N;have d:eY w (λk=>R k\/B k) T 1 A k l.length ys':=o.1 _ mem_cons_self;have L:∀q,bm.has (.tree (⟨A,k,T,1,l.length,ys'⟩::I)) q->¬(R q\/B q)/\q<w.heap.size:=λq aq=>o.lt aq
  have am:=dO.flat (B:=λk=>R k\/B k) (show dO _ w T' g l ys' I from C) λr F=>⟨o.1 r (mem_cons_of_mem _ F),λb ag=>.inr ⟨r,mem_cons_of_mem _ F,ag⟩⟩
  have Q:∀v,dw env (λq=>B q\/bm.has (.tree (⟨A,k,T,1,l.length,ys'⟩::I)) q) w (.ax id) v->dw env (λq=>B q\/bm.has (.tree (⟨A,k,T,1,l.length,ys'⟩::I)) q) w (.bz (.ax g) (l.map (·.2)) cap) v:=by
    rintro v ⟨aN,c',m,J,rfl⟩;rw[he]at J;cases J;exact⟨A,k,ys',by rw[length_map],by rw[length_map];exact d.le.1,d.le.2,ar,am,by rw[length_map];exact⟨d.reads,λb p _ e=>.inr ⟨_,mem_cons_self,by show A.map _=_;rw[e];rfl⟩⟩⟩
  obtain⟨H2,ad,ac,_⟩:=ah env (.bz (.ax g) (l.map (·.2)) cap) (λ_ _=>rfl) Q;have y:=h.aQ.apart;rw[U,append_assoc,cons_append]at y;refine⟨ks,env,_,w,H2,af,h.size,h.defs,λs u hu=>?_,ac,?_,λq aq=>.inl (h.sub q aq),λq aq=>?_,h.dB,h.base.trans ⟨h.aQ.below.os,h.aQ.below.tape,h.aQ.below.output,h.aQ.below.size,λq aq=>h.aQ.below.block q (.inl aq)⟩,λi x ak=>(h.eg i x ak).up t⟩
  · obtain⟨ax,ay,rfl⟩:=rq hu
    obtain⟨au,j,cl⟩:=h.has s ax ay;exact⟨au,j,eI.sub (λ_ _=>rfl) Q (cl.up t)⟩
  · have f:bK (λk=>R k\/B k) ai (H2++ks.map dj) w:=by
      have j:=h.aQ;rw[U]at j;have an:(Y++bm.tree (⟨A,k,T,1,l.length,ys'⟩::I)::Z++ks.map dj).Perm (bm.tree (⟨A,k,T,1,l.length,ys'⟩::I)::(Y++Z++ks.map dj)):=by
        grind [append_assoc,List.perm_middle]
      exact(j.perm an).fb (((ad.append_right _)).cons _)
    refine⟨cV.refl _ _,λq aq=>?_,λc aa=>(f.ok c aa).base λb ag cG=>?_,f.apart⟩
    · rcases aq with aq|aq|aq
      · exact h.aQ.base q (.inl aq)
      · exact h.aQ.base q (.inr aq)
      · exact(L q aq).2
    · rcases cG with cG|cG|cG
      · exact((f.ok c aa).lt ag).1 (.inl cG)
      · exact((f.ok c aa).lt ag).1 (.inr cG)
      · have aw:c∈Y++(Z++ks.map dj):=by
          rcases List.mem_append.1 aa with aa|aa
          · grind
          grind
        rw[pairwise_append,List.pairwise_cons]at y;obtain⟨_,⟨al,_⟩,av⟩:=y
        rcases List.mem_append.1 aw with cl|cl
        · exact av c cl _ mem_cons_self b ag cG
        · exact al c cl b cG ag
  · rcases aq with aq|aq
    · exact(h.new q aq).imp_right λE=>⟨E.1,E.2.eb (h.aQ.below.block q (.inr aq))⟩
    · exact .inr ⟨λap=>(L q aq).1 (.inl ap),o.cells rfl aq⟩
theorem afi{T:TypeId}{id:Nat}{l:List (Bool×List g.D)}(t:bh st.H id=some (.bS T T' g l cap none)) :
    cj X n st ⟨st.L,qr id (.row T (.ax g) (l.map (·.2)) cap) st.H⟩:=λR W aC M a w ⟨ks,env,B,ai,H,Q,h⟩=>by
  obtain⟨c0,av,aj,an⟩:=h.heap.gA t;have L:=(an.more (H2:=ks.map dj)).mem;obtain⟨A,k,ys,ys',I,he,rfl,J,al,ad⟩:=aj;have ar:ys'=ys:=al;subst ar
  let j:gS:=⟨A,k,T,1,l.length,ys'⟩
  have f:gm B ai (λq=>B q\/bm.has (.tree I) q) w:=⟨λq aq=>.inl aq,λq aq=>h.aQ.below.block q (.inr aq)⟩
  obtain⟨c,K,ag,⟨E,F,v,rfl⟩,ah⟩:=(h.heap.up f).put t;have D:c∈H++ks.map dj:=by rw[v];simp
  have N:c=.tree (⟨A,k,T,1,l.length,ys'⟩::I):=by
    obtain⟨aw,aD,z,ap,au,G,U,O,P,_⟩:=ag;rw[he]at G;cases G
    match ae:A with
    |some p=>
      subst U;exact h.aQ.same D L (b:=p.block) ⟨_,mem_cons_self,rfl⟩ ⟨_,mem_cons_self,rfl⟩
    |none=>
      have ac:eY w (λk=>R k\/B k) T 1 none k l.length ys':=(h.aQ.ok _ L).1 _ mem_cons_self;have ao:l.length=0:=by
        by_cases ao:l.length=0
        · grind
        · obtain⟨b,ag⟩:=ac.at (by omega)
          grind
      have am:l=[]:=List.length_eq_zero_iff.1 ao;subst am;have ax:ap=z:=P;obtain⟨ay,az⟩:=(show dO B ai T' g [] ys' I from J)
      obtain⟨aA,aB⟩:=(show dO _ w T' g [] z au from O)
      grind
  subst N;have m:=h.aQ.ok _ D;have C:∀q,bm.has (.tree I) q->¬(R q\/B q)/\q<w.heap.size:=λq ⟨r,d,aq⟩=>m.lt ⟨r,mem_cons_of_mem _ d,aq⟩
  have Z:=dO.flat (B:=λk=>R k\/B k) (B':=λq=>B q\/bm.has (.tree I) q) (w:=w) ((dO.up f (show dO B ai T' g l ys' I from J))) λr d=>⟨m.1 r (mem_cons_of_mem _ d),λb ag=>.inr ⟨r,d,ag⟩⟩
  have y:=h.aQ;rw[v,append_assoc,cons_append]at y;have e:bK (λk=>R k\/B k) ai (.tree I::(E++j.et::(F++ks.map dj))) w:=by
    refine(y.Ez (r:=j)).perm ?_;refine(List.Perm.cons _ sh).trans ((List.Perm.swap _ _ _).trans (List.Perm.cons _ sh.symm))
  have Y:=ah (.row T (.ax g) (l.map (·.2)) cap) j.et ⟨A,k,ys',by rw[length_map];exact he,by rw[length_map];rfl,Z,ad⟩;refine⟨ks,env,_,w,E++j.et::F,Q,h.size,h.defs,λs u hu=>?_,Y,?_,λq aq=>.inl (h.sub q aq),λq aq=>?_,h.dB,h.base.trans ⟨h.aQ.below.os,h.aQ.below.tape,h.aQ.below.output,h.aQ.below.size,λq aq=>h.aQ.below.block q (.inl aq)⟩,λi x ak=>(h.eg i x ak).up f⟩
  · obtain⟨af,S,V⟩:=h.has s u hu
    exact⟨af,S,V.up f⟩
  · rw[append_assoc,cons_append]
    refine⟨cV.refl _ _,λq aq=>?_,λc aa=>(e.ok c (mem_cons_of_mem _ aa)).base λb ag cG=>?_,(List.pairwise_cons.1 e.apart).2⟩
    · rcases aq with aq|aq|aq
      · exact h.aQ.base q (.inl aq)
      · exact h.aQ.base q (.inr aq)
      · exact(C q aq).2
    · rcases cG with cG|cG|cG
      · exact((e.ok c (mem_cons_of_mem _ aa)).lt ag).1 (.inl cG)
      · exact((e.ok c (mem_cons_of_mem _ aa)).lt ag).1 (.inr cG)
      · exact(List.pairwise_cons.1 e.apart).1 c aa b cG ag
  · rcases aq with aq|aq
    · exact(h.new q aq).imp_right λo=>⟨o.1,o.2.eb (h.aQ.below.block q (.inr aq))⟩
    · exact .inr ⟨λab=>(C q aq).1 (.inl ab),by
        obtain⟨r,d,ag⟩:=aq;exact m.cells rfl ⟨r,mem_cons_of_mem _ d,ag⟩⟩
end
inductive zM where
  |close (id d:Nat)
  |Tb (id:Nat) (T':TypeId)
  |da (id:Nat)
  |eC (id:Nat)
  |op (id s d:Nat)
  |FW (id s d:Nat) (k:IntKind) (c:Int)
  |cZ (i j:Nat)
def zM.zN:zM->bG
  |.close id d=>[id,d]
  |.Tb id _=>[id]
  |.da _=>[]
  |.eC id=>[id]
  |.op id _ d=>[id,d]
  |.FW id _ d _ _=>[id,d]
  |.cZ i j=>[i,j]
def zO(n:Nat)(st:aP)(id d i:Nat):Option (Bool×aP):=match blt d n,bh st.H id,beq d id with
  |true,some (.bS T T' g l cap none),false=>some (decide (i<l.length)&&(l.getD i (false,[])).1,⟨fS d .dead st.L,(d,.row T' g (l.getD i (false,[])).2 none)::qr id (.bS T T' g l cap (some (i,some d))) (en d .dead st.H)⟩)
  |_,_,_=>none
def Cd(n:Nat)(st:aP):zM->Option (Bool×aP)
  |.close id d=>match bh st.H id,bh st.H d,beq d id with
    |some (.bS T T' g l cap (some (i,some e))),some (.row a g2 b _),false=>match beq e d,beq a T',decEq g2 g with
      |true,true,isTrue h=>some (true,⟨fS d .dead st.L,qr id (.bS T T' g (l.set i (true,qT h b)) cap none) (en d .dead st.H)⟩)
      |_,_,_=>none
    |_,_,_=>none
  |.Tb id T'=>match bh st.H id with
    |some (.row T (.ax g) l cap)=>some (true,⟨st.L,qr id (.bS T T' g (l.map λx=>(false,x)) cap none) st.H⟩)
    |_=>none
  |.da id=>match bh st.H id with
    |some (.bS _ _ g l cap none)=>some (true,⟨fS id (.bz (.ax g) (l.map (·.2)) cap) st.L,en id (.bz (.ax g) (l.map (·.2)) cap) st.H⟩)
    |_=>none
  |.eC id=>match bh st.H id with
    |some (.bS T _ g l cap none)=>some (true,⟨st.L,qr id (.row T (.ax g) (l.map (·.2)) cap) st.H⟩)
    |_=>none
  |.op id s d=>match bh st.L s with
    |some (.a (.c (.val (.int _ z))))=>zO n st id d z.toNat
    |_=>none
  |.FW id s d k c=>match bh st.L s with
    |some (.a (.c (.val (.int _ z))))=>zO n st id d (k.wrap (z-c)).toNat
    |_=>none
  |.cZ i j=>match blt j n with
    |true=>some (true,⟨gg (km i j) st.L,pV (km i j) st.H⟩)
    |false=>none
section
variable {X:bx} {n:Nat} {st st':aP} {d:Nat} {o:Oper}
theorem Tc{id:Nat}{c:Bool}(h:zO n st id d i=some (c,st'))(aa:c=true):cj X n st st':=by
  grind [zO,afc]
theorem afj(b:blt j n=true):cj X n st ⟨gg (km i j) st.L,pV (km i j) st.H⟩:=λ_ _ _ _ _ _ ⟨ks,env,B,ai,H,e,ae⟩=>by
  obtain⟨H',J,U⟩:=bE.db (Ft (i:=i) (j:=j)) ae.heap;refine⟨ks,lL env j (env i),B,ai,H',e,ae.size,ae.defs,λs sv c=>?_,U,ae.aQ.fb (J.append_right _),ae.sub,ae.new,wX ae.dB (λq an=>by have J:=(ae.dB _ _ an).1;have U:=dH b;omega),ae.base,ae.eg⟩;obtain⟨u,ah,rfl⟩:=xb c;obtain⟨v,d,a⟩:=ae.has s u ah;exact⟨v,d,eI.db Ft a⟩
theorem afk{x:zM}{c:Bool}(h:Cd n st x=some (c,st'))(aa:c=true):cj X n st st':=by
  unfold Cd at h
  split at h
  · split at h
    · rename_i J U ah
      split at h
      · rename_i b a d _
        cases h;subst b;have e:=eq_of_beq_eq_true a;have f:=eq_of_beq_eq_true d;subst e;subst f;exact afe J U ah
      grind
    grind
  · grind [afg]
  · grind [afh]
  · grind [afi]
  · grind [Tc]
  · grind [Tc]
  grind [afj]
end
end
inductive ng where
 |da (id:Nat)
 |bX (id:Nat) (g:aZ)
 |nil (s id:Nat) (t:TypeId) (g:aZ)
 |rG (k p id:Nat) (t:TypeId) (g:aZ)
 |tR (id:Nat)
 |t (x:zM)
def zP(n:Nat):ng->aP->Option (Bool×aP)
 |.da id,st=>match Go.Proofs.YtijeenjclhajhaaGreatDoor.da id st with
  |some st'=>some (true,st')
  |none=>none
 |.bX id g,st=>match bh st.H id with
  |some (.cells _ cs)=>match dec g cs with
   |some (c,x,[])=>some (c,⟨w9 id g x st.L,o1 id g x st.H⟩)
   |_=>none
  |_=>none
 |.nil s id t g,st=>match blt id n,bh st.L s with
  |true,some (.a (.c (.val v)))=>match isNil v with
   |true=>some (true,⟨(s,.c (.ax id))::fS id .dead st.L,(id,.row t g [] none)::en id .dead st.H⟩)
   |false=>none
  |_,_=>none
 |.rG k p id t g,st=>match blt id n with
  |true=>some (true,⟨fS id .dead st.L,(id,.row t g [] none)::kn k p id (en id .dead st.H)⟩)
  |false=>none
 |.tR id,st=>match Go.Proofs.YtijeenjclhajhaaGreatDoor.tR id st with
  |some st'=>some (true,st')
  |none=>none
 |.t x,st=>Cd n st x
theorem Td{x:ng}{c:Bool}(h:zP n x st=some (c,st'))(aa:c=true):cj X n st st':=by
 unfold zP at h
 split at h
 ·split at h
  ·rename_i e;cases h;exact cj.da e
  ·cases h
 ·split at h
  ·rename_i e
   split at h
   ·rename_i a;cases h;exact cj.bX _ _ e a aa
   ·cases h
  ·cases h
 ·split at h
  ·rename_i e a
   split at h
   ·rename_i b
    cases h;rw[St b]at a;exact cj.nil _ _ _ _ e a
   ·cases h
  ·cases h
 ·split at h
  ·rename_i e;cases h;exact cj.rG _ _ _ _ _ e
  ·cases h
 ·split at h
  ·rename_i e;cases h;exact cj.tR e
  ·cases h
 ·exact afk h aa
def ng.zN:ng->bG
 |.nil s id _ _=>[s,id]
 |.rG k _ id _ _=>[k,id]
 |.t x=>x.zN
 |_=>[]
theorem afl{a b:Nat}(h:a≠b):beq b a=false:=by
 grind [beq,absurd,eq_of_beq_eq_true]
theorem lp(a:Nat)(r:bG):fs a (a::r)=true:=by
 grind [fs,beq_refl]
theorem Lu{id:Nat}{x:g.D}:∀H:bC,nc V H (o1 id g x H)
 |[]=>cy.refl []
 |(k,b)::r=>λq v a ao=>by
  unfold o1 at ao
  split at ao
  ·rename_i e
   have ab:=eq_of_beq_eq_true e;obtain⟨u,J,U⟩:=Lu r q v a ao
   by_cases c:q=k
   ·subst c
    subst ab;exact(Lv ao).elim
   grind [cO]
  ·rw[cO]at ao ⊢
   split at ao
   ·grind [ae4]
   ·rename_i e
    rw[if_neg e];exact Lu r q v a ao
where Lv {id:Nat} {g:aZ} {x:g.D} {v:cz}:∀ {H:bC},bh (o1 id g x H) id=some v->False
 |[],h=>by cases h
 |(k,b)::r,h=>by
  unfold o1 at h
  split at h
  ·exact Lv h
  ·rename_i e
   rw[cO,if_neg (λd=>by rw[d,beq_refl]at e;cases e)]at h;exact Lv h
theorem Lw{k p id:Nat}(d:fs k V=true):∀H:bC,nc V H (kn k p id H)
 |[]=>cy.refl []
 |(j,b)::r=>λq v a ao=>by
  have f:q≠k:=λe=>by rw[e,d]at a;cases a
  unfold kn at ao
  split at ao
  ·grind
  ·rename_i c
   cases c
   split at ao
   ·grind [eq_of_beq_eq_true,cO]
   ·rw[cO]at ao ⊢
    split at ao
    ·grind
    ·rename_i e
     rw[if_neg e];exact Lw d r q v a ao
  ·rename_i c
   cases c;rw[cO]at ao ⊢
   split at ao
   ·grind
   ·rename_i e
    rw[if_neg e];exact Lw d r q v a ao
theorem xA{k:Nat}{r:bG}:fs q (k::r)=false↔q≠k/\fs q r=false:=⟨gY,λ⟨J,U⟩=>by
 unfold fs;rw[afl J];exact U⟩
theorem afm{a b:Nat}(h:fs q [a,b]=false):fs q (b::([a]++[]))=false:=by
 grind [xA]
theorem afn{k p id:Nat}{z:bs}{b:cz}(H:bC):nc [k,id] H ((id,b)::kn k p id (en id z H)):=
 (((kX id z (V:=[]) H).trans (Lw (k:=k) (p:=p) (id:=id) (lp k []) _)).cons (d:=id) (v:=b)).more λ_ h=>afm h
def di(V:bG)(st st':aP):Prop:=zK V st.L st'.L/\nc V st.H st'.H
theorem di.refl(st:aP):di V st st:=⟨cy.refl _,cy.refl _⟩
theorem di.trans{V2:bG}{a b c:aP}(h:di V a b)(k:di V2 b c):di (V2++V) a c:=⟨h.1.trans k.1,h.2.trans k.2⟩
theorem di.more{V2:bG}{a b:aP}(h:di V a b)(c:∀q,fs q V2=false->fs q V=false):di V2 a b:=⟨h.1.more c,h.2.more c⟩
theorem Te{id:Nat}{c:Bool}(h:zO n st id d i=some (c,st')):di [id,d] st st':=by
 unfold zO at h
 split at h
 ·cases h
  refine⟨lU _ _ _,?_⟩;refine cy.more (cy.cons (cy.trans (V:=[]) (V2:=[id]) (kX _ _ _) (ln (lp _ _)))) λq a=>?_
  obtain⟨J,U⟩:=gY a;obtain⟨ah,_⟩:=gY U;show(match beq d q with|true=>true|false=>match beq id q with|true=>true|false=>false)=false
  split
  ·grind [absurd,eq_of_beq_eq_true]
  grind [absurd,eq_of_beq_eq_true]
 grind
theorem Tf{bP:iu}:∀ {cs:dY},tG cs=true->sz bP cs=some cs
 |[],_=>rfl
 |.id _::_,h=>by cases h
 |.eC _ _::cs,h=>by
  unfold sz;rw[Tf (cs:=cs) h]
theorem Lx(bP:iu):Fix λc=>c.db bP:=⟨λc h=>by
 cases c with
 |fn f cs=>simp only[bs.db];rw[Tf h]
 |_=>first|rfl|cases h⟩
theorem Ly(bP:iu):∀cs:dP,ve bP cs=xv (λc=>c.db bP) cs
 |[]=>rfl
 |c::r=>by
  show c.db bP::ve bP r=_;rw[Ly bP r];rfl
theorem Lz{bP:iu}{x:bn}(h:x.free=true):x.db bP=x:=by
 cases x with
 |c x=>simp only[bn.db];rw[(Lx bP).fix x h]
 |agg cs=>simp only[bn.db];rw[Ly,tY (Lx bP) h]
 |arr g l=>rfl
theorem Tg{bP:iu}:∀ {xs:dT},nb xs=true->xa bP xs=xs
 |[],_=>rfl
 |c::r,h=>by
  unfold nb at h
  split at h
  ·rename_i e
   show c.db bP::xa bP r=_;rw[Lz e,Tg h]
  grind
theorem afo{bP:iu}{v:b7}(h:v.free=true):v.db bP=v:=by
 cases v with
 |a x=>simp only[b7.db];rw[Lz h]
 |may g x=>simp only[b7.db];rw[Lz h]
 |cE xs=>simp only[b7.db];rw[Tg h]
theorem afp{bP:iu}{b:cz}(h:b.free=true):b.db bP=b:=by
 cases b with
 |cells t cs=>simp only[cz.db];rw[Ly,tY (Lx bP) h]
 |bS T T' g l c q=>rcases q with _|⟨i,_|d⟩<;>first|rfl|cases h
 |_=>first|rfl|cases h
theorem afq(bP:iu)(L:cS):zK V L (gg bP L):=cy.map (f:=λv=>v.db bP) (λ_ h=>afo h) λ_ _ h=>xb h
theorem FX(i j:Nat):∀H:bC,nc [i,j] H (pV (km i j) H)
 |[]=>cy.refl []
 |(k,b)::r=>λq v c ao=>by
  obtain⟨J,U⟩:=gY c;obtain⟨ah,_⟩:=gY U;unfold pV at ao
  by_cases d:beq k i=true
  ·have e:=eq_of_beq_eq_true d
   have a:km i j b.rF k=some j:=by unfold km;rw[d]
   rw[a]at ao;dsimp only at ao;rw[cO,if_neg ah]at ao;rw[cO,if_neg (by rw[e];exact J)];exact FX i j r q v c ao
  ·have g:beq k i=false:=by simpa only[Bool.not_eq_true] using d
   by_cases f:beq k j=true
   ·have e:=eq_of_beq_eq_true f
    have a:km i j b.rF k=none:=by unfold km;rw[g,f]
    rw[a]at ao;dsimp only at ao;rw[cO,if_neg (by rw[e];exact ah)];exact FX i j r q v c ao
   ·have h:beq k j=false:=by simpa only[Bool.not_eq_true] using f
    have a:km i j b.rF k=some k:=by unfold km;rw[g,h]
    rw[a]at ao;dsimp only at ao;rw[cO]at ao ⊢
    split at ao
    ·grind [afp]
    ·rename_i e
     rw[if_neg e];exact FX i j r q v c ao
theorem afs{x:zM}{c:Bool}(h:Cd n st x=some (c,st')):di x.zN st st':=by
 unfold Cd at h
 split at h
 ·split at h
  ·split at h
   ·cases h
    exact⟨lU _ _ _,cy.more (cy.trans (V:=[]) (V2:=[_]) (kX _ _ _) (ln (lp _ _))) λq a=>by
     have J:=(gY a).1;show(match beq _ q with|true=>true|false=>false)=false
     split
     ·rename_i e;exact absurd (eq_of_beq_eq_true e).symm J
     ·rfl⟩
   grind
  grind
 ·split at h
  ·cases h
   exact⟨cy.refl _,ln (lp _ _)⟩
  grind
 ·split at h
  ·cases h
   exact⟨lU _ _ _,kX _ _ _⟩
  grind
 ·split at h
  ·cases h
   exact⟨cy.refl _,ln (lp _ _)⟩
  grind
 ·split at h
  ·exact Te h
  ·grind
 ·split at h
  ·exact Te h
  ·grind
 ·split at h
  ·cases h
   exact⟨afq _ _,FX _ _ _⟩
  grind
theorem Ti{x:ng}{c:Bool}(h:zP n x st=some (c,st')):di x.zN st st':=by
 unfold zP at h
 split at h
 ·split at h
  ·rename_i e
   cases h;unfold Go.Proofs.YtijeenjclhajhaaGreatDoor.da at e
   split at e
   ·cases e;exact⟨lU _ _ _,kX _ _ _⟩
   ·cases e
  ·cases h
 ·split at h
  ·split at h
   ·cases h;exact⟨ae6 _ _ _ _,Lu _⟩
   ·cases h
  ·cases h
 ·split at h
  ·split at h
   ·cases h
    exact⟨cy.cons (lU _ _ _),(cy.cons (V:=[]) (kX _ _ _)).more λq a=>by obtain⟨J,U⟩:=gY a;exact U⟩
   ·cases h
  ·cases h
 ·split at h
  ·cases h
   exact⟨lU _ _ _,afn _⟩
  ·cases h
 ·split at h
  ·rename_i e
   cases h;unfold Go.Proofs.YtijeenjclhajhaaGreatDoor.tR at e
   split at e
   ·cases e;exact⟨lU _ _ _,kX _ _ _⟩
   ·cases e
  ·cases h
 ·exact afs h
def zQ(X:bx)(t:TypeId)(g:aZ):Bool:=match X.a1.find t with
 |some ⟨⟨.struct _,_,_,_⟩,_⟩=>g.key&&(mq X.P X.a1 12 t g&&!(X.P.eqGuardType X.P.depth t))
 |_=>false
theorem aft(a:X.a1.ok X.P)(h:zQ X t g=true):vj X.P t g:=by
 grind [zQ,not_eq_true',vj.of]
def LA(X:bx)(e:TypeId):Option (cm×aZ):=match X.a1.find e with
 |some bB=>match bB.g with
  |some g=>some (bB,g)
  |none=>none
 |none=>none
def FY(X:bx)(L:cS)(t:TypeId)(u v:Operand):Option (Bool×Bool):=match bu X L u,bu X L v,X.a1.find t with
 |some (a,.agg cs),some (g2,.agg aK),some bB=>match bB.g with
  |some g=>match dec g cs,dec g aK,zQ X t g with
   |some (fp,x,[]),some (cC,y,[]),true=>some (a&&(g2&&(fp&&cC)),g.beq x y)
   |_,_,_=>none
  |none=>none
 |_,_,_=>none
def zR(X:bx)(st:aP):Op->Option (Bool×bn)
 |.binOp .eql t u v _=>match FY X st.L t u v with
  |some (c,b)=>some (c,.c (.val (.bool b)))
  |none=>none
 |.binOp .neq t u v _=>match FY X st.L t u v with
  |some (c,b)=>some (c,.c (.val (.bool (!b))))
  |none=>none
 |.load t x=>match bu X st.L x,X.a1.find t with
  |some (a,.c (.eT id 1 i 0)),some bB=>match bh st.H id,mM bB.ti.desc with
   |some (.cN _ _ _ _ _ j d2),false=>some (a&&beq i j,.c (.ax d2))
   |some (.bS _ _ _ _ _ (some (j,some d2))),false=>some (a&&decide (i=j),.c (.ax d2))
   |_,_=>none
  |_,_=>none
 |.slice t u (some x) none none=>match X.a1.find t,bu X st.L u,bu X st.L x with
  |some ⟨⟨.slice e,_,_,_⟩,_⟩,some (a,.c (.ax id)),some (g2,.c (.val (.int _ z)))=>match X.a1.find e,bh st.H id with
   |some dC,some (.row _ g l _)=>match beq g.size dC.ti.size with
    |true=>some (a&&(g2&&(decide (0<=z)&&decide (z<=(l.length:Int)))),.c (.jE id g.size z.toNat))
    |false=>none
   |_,_=>none
  |_,_,_=>none
 |.call ⟨.builtin .cap,⟨[u]⟩,⟨[t]⟩⟩=>match X.a1.find t,bu X st.L u with
  |some ⟨⟨.slice _,_,_,_⟩,_⟩,some (a,.c (.ax id))=>some (a,.c (.jV id))
  |_,_=>none
 |_=>none
theorem Tj(d:X.a1.ok X.P){v:Operand}{c:Bool}(h:FY X L t u v=some (c,b))(aa:c=true):∃a g2 fp cC cs aK g x y,bu X L u=some (a,.agg cs)/\bu X L v=some (g2,.agg aK)/\vj X.P t g/\dec g cs=some (fp,x,[])/\dec g aK=some (cC,y,[])/\a=true/\g2=true/\fp=true/\cC=true/\b=g.beq x y:=by
 unfold FY at h
 split at h
 ·grind [aft]
 grind
theorem FZ(a:X.a1.ok X.P){c:Bool}{sa:bn}(h:zR X st o.op=some (c,sa))(aa:c=true):jq X st o sa:=by
 unfold zR at h
 split at h
 ·grind [Tj,aep]
 ·grind [Tj,aeq]
 ·grind [eq_of_beq_eq_true,aeo,S5]
 ·grind [aeV]
 ·grind [aeX]
 grind
section
def ew(g c:Bool):Bool:=match c with
 |true=>true
 |false=>!g
theorem Ce{g c:Bool}(h:ew g c=true)(a:g=true):c=true:=by
 cases c with
 |true=>rfl
 |false=>rw[a]at h;cases h
abbrev gu:=List (Nat×Nat×Bool)
def kY(L:cS)(s:Nat)(want:Bool):Option Bool:=match bh L s,want with
 |some (.a (.c (.val (.bool b)))),true=>some b
 |some (.a (.c (.val (.bool b)))),false=>some (!b)
 |some (.may g (.c (.val (.bool b)))),true=>some (g&&b)
 |some (.may g (.c (.val (.bool b)))),false=>some (g&&!b)
 |_,_=>none
def LB:Bool->Bool->Bool
 |true,true=>true
 |false,false=>true
 |_,_=>false
theorem afu:∀ {a b:Bool},LB a b=true->a=b
 |true,true,_=>rfl
 |false,false,_=>rfl
def Cf(j:Nat)(w:Bool):List (Nat×Bool)->Bool
 |[]=>false
 |p::r=>match beq p.1 j,LB p.2 w with
  |true,true=>true
  |_,_=>Cf j w r
def Cg(s:Nat):gu->Option (Nat×Bool)
 |[]=>none
 |e::G=>match beq e.1 s with
  |true=>some e.2
  |false=>Cg s G
def Ch(cF:List (Option Nat))(j s:Nat):Bool:=match nth cF j with
 |some (some q)=>beq q s
 |_=>false
def pd(cF:List (Option Nat))(d:Nat):gu->gu
 |[]=>[]
 |e::G=>match beq e.1 d,Ch cF e.2.1 d with
  |false,false=>e::pd cF d G
  |_,_=>pd cF d G
def vr(cF:List (Option Nat))(G:gu):Nat->Nat->Bool->List (Nat×Bool)
 |0,j,w=>[(j,w)]
 |k+1,j,w=>(j,w)::match nth cF j with
  |some (some s)=>match Cg s G with
   |some p=>vr cF G k p.1 p.2
   |none=>[]
  |_=>[]
def lV(ps:List (Nat×Bool)):gu->cS->cS
 |[],L=>L
 |e::G,L=>match Cf e.2.1 e.2.2 ps,bh L e.1 with
  |true,some (.may _ x)=>(e.1,.a x)::lV ps G L
  |_,_=>lV ps G L
def zS(cF:List (Option Nat))(s:Nat)(w:Bool)(ps:List (Nat×Bool)):gu->List (Nat×Bool)
 |[]=>ps
 |e::G=>match Ch cF e.2.1 s,LB e.2.2 w with
  |true,true=>(e.2.1,w)::zS cF s w ps G
  |_,_=>zS cF s w ps G
def LC(G:gu)(ps:List (Nat×Bool))(L:cS)(s:Nat):Option (Bool×Bool):=match bh L s with
 |some (.a (.c (.val (.bool b))))=>some (true,b)
 |some (.may g (.c (.val (.bool b))))=>match Cg s G with
  |some p=>match Cf p.1 p.2 ps with
   |true=>some (true,b)
   |false=>some (g,b)
  |none=>some (g,b)
 |_=>none
def vt(X:bx)(cF:List (Option Nat))(ps:List (Nat×Bool))(G:gu)(st:aP):Op->Option (Bool×bn)
 |.pick (.tmp s) u v=>match LC G ps st.L s with
  |some (c,b)=>match bu X (lV (zS cF s true ps G) G st.L) u,bu X (lV (zS cF s false ps G) G st.L) v with
   |some (a,x),some (gv,y)=>match Br b x y with
    |some r=>some (c&&(ew b a&&ew (!b) gv),r)
    |none=>none
   |_,_=>none
  |none=>none
 |op=>match wT X ⟨lV ps G st.L,st.H⟩ op with
  |some r=>some r
  |none=>zR X ⟨lV ps G st.L,st.H⟩ op
section
variable {X:bx} {R:Nat->Prop} {W:World} {aC:fe} {n:Nat} {ks:bG} {env:Nat->Loc} {B:Nat->Prop} {ai:World} {H:cW} {st:aP} {a:Act} {w:World} {cF:List (Option Nat)} {G:gu} {ps:List (Nat×Bool)}
def eK(cF:List (Option Nat))(G:gu)(L:cS):Prop:=∀e∈G,∃s g x,nth cF e.2.1=some (some s)/\kY L s e.2.2=some g/\bh L e.1=some (.may g x)
def p0(cF:List (Option Nat))(L:cS)(p:Nat×Bool):Prop:=∃s,nth cF p.1=some (some s)/\kY L s p.2=some true
theorem F0{w:Bool}:∀ {ps:List (Nat×Bool)},Cf j w ps=true->(j,w)∈ps
 |[],h=>by cases h
 |p::r,h=>by
  unfold Cf at h
  split at h
  ·grind [eq_of_beq_eq_true,afu,mem_cons_self]
  ·exact mem_cons_of_mem _ (F0 h)
theorem LD{p:Nat×Bool}:∀ {G:gu},Cg s G=some p->(s,p)∈G
 |[],h=>by cases h
 |e::G,h=>by
  unfold Cg at h
  split at h
  ·grind [eq_of_beq_eq_true,mem_cons_self]
  ·exact mem_cons_of_mem _ (LD h)
theorem LF{e:Nat×Nat×Bool}:∀ {G:gu},e∈pd cF d G->e∈G/\e.1≠d/\Ch cF e.2.1 d=false
 |[],h=>by cases h
 |q::G,h=>by
  unfold pd at h
  split at h
  ·rename_i J U
   rcases List.mem_cons.1 h with rfl|h
   ·grind [mem_cons_self,ne_of_beq_eq_false]
   ·obtain⟨ah,a⟩:=LF h
    grind
  ·obtain⟨ah,a⟩:=LF h
   grind
theorem F1{sv:b7}{w:Bool}(h:s≠d):kY ((d,sv)::L) s w=kY L s w:=by
 unfold kY
 grind [cO]
theorem eK.drop(h:eK cF G L)(d:Nat)(sv:b7):eK cF (pd cF d G) ((d,sv)::L):=λe he=>by
 obtain⟨J,U,ah⟩:=LF he;obtain⟨s,g,x,a,c,i⟩:=h e J;have f:s≠d:=λb=>by
  unfold Ch at ah;rw[a,b]at ah
  simp at ah
 grind [F1,cO]
theorem eK.nil:eK cF [] L:=λ_ h=>by cases h
theorem afv{g w:Bool}{x:bn}(ah:bh L s=some (.may g x))(a:kY L s w=some true):g=true:=by
 unfold kY at a
 split at a
 ·grind
 ·grind
 ·grind
 ·grind
 grind
theorem F2(b:eK cF G L):∀ {k j:Nat} {w:Bool},p0 cF L (j,w)->∀p∈vr cF G k j w,p0 cF L p
 |0,j,w,h,p,an=>by rw[List.mem_singleton.1 an];exact h
 |k+1,j,w,h,p,an=>by
  unfold vr at an
  rcases List.mem_cons.1 an with rfl|an
  ·grind
  ·split at an
   ·rename_i s d
    split at an
    ·rename_i q e
     obtain⟨f,g,x,J,U,ah⟩:=b _ (LD e);refine F2 b ?_ p an;obtain⟨l,a,i⟩:=h;rw[d]at a;cases a;have c:g=true:=by
      grind [afv]
     exact⟨f,J,by rw[U,c]⟩
    grind
   grind
theorem afw(n:eK cF G L)(an:∀p∈ps,p0 cF L p){b:Array Value}(h:∀s sv,bh L s=some sv->∃v,b[s]?=some v/\eI env B ai sv v):∀s sv,bh (lV ps G L) s=some sv->∃v,b[s]?=some v/\eI env B ai sv v:=by
 have key:∀a,(∀e∈a,e∈G)->∀s sv,bh (lV ps a L) s=some sv->∃v,b[s]?=some v/\eI env B ai sv v:=by
  intro a
  induction a with
  |nil=>exact λ_=>h
  |cons e a m=>
   intro f s sv ao;have r:=m λe he=>f e (mem_cons_of_mem _ he)
   unfold lV at ao
   split at ao
   ·rename_i g x J U
    rw[cO]at ao
    split at ao
    ·rename_i k
     cases ao;obtain⟨u,t,q,ah,l,d⟩:=n e (f e mem_cons_self);obtain⟨w,c,i⟩:=an _ (F0 J);dsimp only at c;rw[ah]at c;cases c;rw[l]at i;cases i;rw[U]at d;cases d;obtain⟨v,j,o⟩:=h _ _ U;rw[<- k]at j;exact⟨v,j,o.1 rfl⟩
    grind
   grind
 exact key G λ_ h=>h
theorem afy(d:eK cF G L)(an:∀p∈ps,p0 cF L p):∀s sv,bh (lV ps G L) s=some sv->bh L s=some sv\/∃x,sv=.a x/\bh L s=some (.may true x):=by
 have key:∀a,(∀e∈a,e∈G)->∀s sv,bh (lV ps a L) s=some sv->bh L s=some sv\/∃x,sv=.a x/\bh L s=some (.may true x):=by
  intro a
  induction a with
  |nil=>exact λ_ s sv h=>.inl h
  |cons e a c=>
   intro b s sv ao;have k:=c λe he=>b e (mem_cons_of_mem _ he)
   unfold lV at ao
   split at ao
   ·rename_i g x J U
    rw[cO]at ao
    split at ao
    ·rename_i i
     cases ao;obtain⟨q,o,f,ah,l,j⟩:=d e (b e mem_cons_self);obtain⟨r,m,n⟩:=an _ (F0 J)
     grind
    grind
   grind
 exact key G λ_ h=>h
theorem bO.view(ae:bO X R W aC n ks env B ai H st a w)(b:eK cF G st.L)(an:∀p∈ps,p0 cF st.L p):bO X R W aC n ks env B ai H ⟨lV ps G st.L,st.H⟩ a w:=
 ⟨ae.size,ae.defs,afw b an ae.has,ae.heap,ae.aQ,ae.sub,ae.new,ae.dB,ae.base,ae.eg⟩
theorem F3{c:Bool}(an:∀p∈ps,p0 cF L p)(a:kY L s c=some true):∀(G:gu),∀p∈zS cF s c ps G,p0 cF L p
 |[],p,h=>an p h
 |e::G,p,h=>by
  unfold zS at h
  split at h
  ·rename_i J _
   rcases List.mem_cons.1 h with rfl|h
   ·unfold Ch at J
    split at J
    ·rename_i q b
     rw[eq_of_beq_eq_true J]at b;exact⟨s,b,a⟩
    grind
   ·exact F3 an a G p h
  ·exact F3 an a G p h
theorem afz{c:Bool}(ae:bO X R W aC n ks env B ai H st a w)(i:eK cF G st.L)(an:∀p∈ps,p0 cF st.L p)(h:LC G ps st.L s=some (c,b))(aa:c=true):aD (full a) (.tmp s)=some (.bool b)/\kY st.L s true=some b/\kY st.L s false=some (!b):=by
 unfold LC at h
 split at h
 ·rename_i ru e
  cases h;obtain⟨v,J,U⟩:=ae.has _ _ e;rw[show v=_ from U]at J;exact⟨hr J,by unfold kY;rw[e],by unfold kY;rw[e]⟩
 ·rename_i g ru e
  have key:g=true->ru=b->aD (full a) (.tmp s)=some (.bool b)/\kY st.L s true=some b/\kY st.L s false=some (!b):=λd ag=>by
   subst ag;subst d;obtain⟨v,J,U⟩:=ae.has _ _ e;rw[show v=_ from U.1 rfl]at J;exact⟨hr J,by unfold kY;rw[e];rfl,by unfold kY;rw[e];rfl⟩
  split at h
  ·rename_i q f
   split at h
   ·rename_i ca
    cases h;refine key ?_ rfl;obtain⟨t,r,j,ah,l,k⟩:=i _ (LD f);obtain⟨u,m,o⟩:=an _ (F0 ca)
    grind
   grind
  grind
 grind
theorem Tk{x y r:bn}{vx vy:Value}(an:Br b x y=some r)(ak:b=true->dN env B ai x vx)(aA:b=false->dN env B ai y vy):dN env B ai r (if b then vx else vy):=by
 unfold Br at an
 split at an
 ·grind
 ·grind
 ·grind
 grind
theorem Tl(l:X.a1.ok X.P)(ae:bO X R W aC n ks env B ai H st a w)(f:eK cF G st.L)(an:∀p∈ps,p0 cF st.L p){c:Bool}{sa:bn}(h:vt X cF ps G st o.op=some (c,sa))(aa:c=true):∃v,dN env B ai sa v/\∀w',(n5 o.op=true->bK (λk=>R k\/B k) ai (H++ks.map dj) w')->(execOp a.eval o).run X.P w'=.ok (.value v) w':=by
 unfold vt at h
 split at h
 ·rename_i s u v j
  split at h
  ·rename_i F b t
   split at h
   ·rename_i E x gv y z A
    split at h
    ·rename_i r m
     cases h;simp only[and_eq_true]at aa;obtain⟨q,C,D⟩:=aa;obtain⟨J,U,ah⟩:=afz ae f an t q;cases b with
     |true=>
      have d:=ae.view f (F3 an U G);obtain⟨vx,i,g⟩:=d.aD z (Ce C rfl);exact⟨vx,Tk (vx:=vx) (vy:=vx) m (λ_=>g) (λh=>by cases h),λw' _=>Qo ae.bV j J rfl i w'⟩
     |false=>
      have d:=ae.view f (F3 an ah G);obtain⟨vy,i,g⟩:=d.aD A (Ce D rfl);exact⟨vy,Tk (vx:=vy) (vy:=vy) m (λh=>by cases h) (λ_=>g),λw' _=>Qp ae.bV j J rfl i w'⟩
    grind
   grind
  ·grind
 ·have d:=ae.view f an
  split at h
  ·rename_i e
   cases h;obtain⟨v,J,U⟩:=y7 (st:=⟨lV ps G st.L,st.H⟩) l e aa d
   grind
  ·obtain⟨v,J,U⟩:=FZ (st:=⟨lV ps G st.L,st.H⟩) l h aa d
   grind
theorem Tm(b:X.a1.ok X.P)(ae:bO X R W aC n ks env B ai H st a w)(d:eK cF G st.L)(an:∀p∈ps,p0 cF st.L p){c:Bool}{sa:bn}(h:vt X cF ps G st o.op=some (c,sa))(aa:c=true):∃v,dN env B ai sa v/\(execOp a.eval o).run X.P w=.ok (.value v) w:=by
 obtain⟨v,J,U⟩:=Tl b ae d an h aa;exact⟨v,J,U w λ_=>ae.aQ⟩
theorem LH{l:List Oper}(ae:bO X R W aC n ks env B ai H st a w){want g:Bool}(e:o.guard=some (j,want))(i:nth (ey l) j=some (some s))(d:kY st.L s want=some g):Region.wanted o (yielded l.toArray a.tmps)=g:=by
 obtain⟨p,k,m⟩:=BC i;have f:(l.toArray[j]?).bind (·.dst)=some s:=by simp[k,<- m]
 unfold kY at d
 split at d
 ·rename_i b c
  cases d;obtain⟨v,J,U⟩:=ae.has _ _ c;rw[show v=_ from U]at J;rw[pC ae.sym e f (hr J)];cases g<;>rfl
 ·rename_i b c
  cases d;obtain⟨v,J,U⟩:=ae.has _ _ c;rw[show v=_ from U]at J;rw[pC ae.sym e f (hr J)]
  grind
 ·rename_i h b c
  cases d;obtain⟨v,J,U,ah⟩:=ae.has _ _ c;cases h with
  |true=>
   rw[show v=_ from U rfl]at J;rw[pC ae.sym e f (hr J)];cases b<;>rfl
  |false=>
   rw[ah rfl]at J;rw[yY ae.sym e f (hr J)]
   rfl
 ·rename_i h b c
  cases d;obtain⟨v,J,U,ah⟩:=ae.has _ _ c;cases h with
  |true=>
   rw[show v=_ from U rfl]at J;rw[pC ae.sym e f (hr J)]
   grind
  |false=>
   rw[ah rfl]at J;rw[yY ae.sym e f (hr J)]
   rfl
 grind
end
def Tn:Option Nat->bG
 |some d=>[d]
 |none=>[]
def Ci(X:bx)(L:cS):Op->bG
 |.store _ u _=>match bu X L u with
  |some (_,.c (.ptr id _))=>[id]
  |some (_,.c (.eT id _ _ _))=>[id]
  |_=>[]
 |.call ⟨.builtin .append,⟨[u,_]⟩,_⟩=>match bu X L u with
  |some (_,.c (.ax id))=>[id]
  |_=>[]
 |_=>[]
theorem F4{l:List g.D}(h:newRow n st d t g l cap=some st'):di [d] st st':=by
 unfold newRow at h
 split at h
 ·cases h
  exact⟨cy.cons (lU _ _ _),cy.cons (kX _ _ _)⟩
 grind
theorem To{cs:dP}{c:Bool}(h:uX X n st t d cs=some (c,st')):di [d] st st':=by
 unfold uX at h
 split at h
 ·cases h
  exact⟨cy.cons (lU _ _ _),cy.cons (kX _ _ _)⟩
 grind
theorem afA{N:Nat}{ps:List (Nat×Operand)}{c:Bool}(h:By X n st t N ps d=some (c,st')):di [d] st st':=by
 unfold By at h
 split at h
 ·grind [F4]
 grind
theorem afB{x y:bn}{c:Bool}(h:BA X n st t x y d=some (c,st')):di [d] st st':=by
 unfold BA at h
 split at h
 ·grind [F4]
 grind
theorem afC{x y:bn}{c:Bool}(h:Bw X st t x y=some (c,st')):(∃id o,x=.c (.ptr id o)/\di [id] st st')\/∃id a i o,x=.c (.eT id a i o)/\di [id] st st':=by
 unfold Bw at h
 split at h
 ·split at h
  ·split at h
   ·split at h
    ·cases h
     exact .inl ⟨_,_,rfl,cy.refl _,ln (lp _ _)⟩
    grind
   grind
  ·split at h
   ·split at h
    ·split at h
     ·split at h
      ·cases h
       exact .inr ⟨_,_,_,_,rfl,cy.refl _,ln (lp _ _)⟩
      grind
     grind
    grind
   ·grind
  ·grind
 ·grind
theorem afD{x y:bn}{c:Bool}(h:BB X n st t x y d=some (c,st')):di [d] st st'\/∃id,x=.c (.ax id)/\di [d,id] st st':=by
 unfold BB at h
 split at h
 ·split at h
  ·split at h
   ·split at h
    ·split at h
     ·cases h
      refine .inr ⟨_,rfl,cy.cons (lU _ _ _),(cy.cons (V:=[]) (kX _ _ _)).more λq a=>?_⟩
      grind [gY]
     grind
    grind
   ·grind [F4]
   ·grind [F4]
   grind
  ·grind
 ·grind
theorem afE{op:Op}{d:Option Nat}{c:Bool}(h:za X n st d op=some (c,st')):di (Tn d++Ci X st.L op) st st':=by
 unfold za at h
 split at h
 ·split at h
  ·exact To h
  grind
 ·split at h
  ·split at h
   ·rename_i e;cases h;exact To e
   grind
  grind
 ·split at h
  ·rename_i a g
   split at h
   ·rename_i e
    cases h
    rcases afC e with⟨id,o,rfl,ab⟩|⟨id,cI,i,o,rfl,ab⟩
    ·simp only[Ci,a];exact ab
    ·simp only[Ci,a];exact ab
   grind
  grind
 ·split at h
  ·exact afA h
  grind
 ·split at h
  ·split at h
   ·rename_i e;cases h;exact afB e
   grind
  grind
 ·split at h
  ·rename_i hu f
   split at h
   ·rename_i e
    cases h
    rcases afD e with ab|⟨id,rfl,ab⟩
    ·exact ab.more λq b=>(sH.1 b).1
    ·simp only[Ci,hu];exact ab
   grind
  grind
 grind
def xB(X:bx)(L:cS)(o:Oper):bG:=Tn o.dst++Ci X L o.op
theorem zT{cF:List (Option Nat)}{c:Bool}(a:o.guard=none)(h:kO X n cF st o=.ok c st'):di (xB X st.L o) st st':=by
 obtain⟨L,H⟩:=st;simp only[kO,a]at h;have one:∀ {d:Nat} {sv:b7},o.dst=some d->di (xB X L o) ⟨L,H⟩ ⟨(d,sv)::L,H⟩:=λ{d sv} az=>by
  refine di.more (V:=[d]) ⟨cy.cons (cy.refl _),cy.refl _⟩ λq b=>?_
  have:=(sH.1 b).1
  rw[az]at this;exact this
 split at h
 ·grind
 ·split at h
  ·grind
  ·split at h
   ·rename_i e
    cases h;exact afE e
   grind
theorem LI{id:Nat}:∀H:bC,nc [id] H (nF id H)
 |[]=>cy.refl []
 |(k,b)::r=>λq v a ao=>by
  have c:=(gY a).1;unfold nF at ao
  split at ao
  ·grind [eq_of_beq_eq_true,cO]
  ·rw[cO]at ao ⊢
   split at ao
   ·grind
   ·rename_i e;rw[if_neg e];exact LI r q v a ao
theorem LJ{js ks:bG}:∀H:bC,nc V H (je js ks H)
 |[]=>cy.refl []
 |(k,b)::r=>λq v a ao=>by
  unfold je at ao
  split at ao
  ·rename_i e
   obtain⟨u,J,U⟩:=LJ r q v a ao
   by_cases c:q=k
   ·subst c
    exact(LK e ao).elim
   grind [cO]
  ·rw[cO]at ao ⊢
   split at ao
   ·grind [ae3]
   ·rename_i e;rw[if_neg e];exact LJ r q v a ao
where LK {js ks:bG} {k:Nat} (ab:js.elem k=true) {v:cz}:∀ {H:bC},bh (je js ks H) k=some v->False
 |[],h=>by cases h
 |(j,b)::r,h=>by
  unfold je at h
  split at h
  ·exact LK ab h
  ·rename_i e
   rw[cO,if_neg (λd=>by subst d;exact absurd ab (by simp_all))]at h;exact LK ab h
theorem Tp(h:bh ps i=some j)(a:fs q (lO ps)=false):q≠j:=by
 induction ps with
 |nil=>cases h
 |cons p r b=>
  grind [cO,fs,lO,gY]
theorem Tq{e:eh}:∀ {is:bG} {H h H1:bC},pa ps e is H=some (h,H1)->nc (lO ps) H H1
 |[],H,h,H1,an=>by cases an;exact cy.refl _
 |i::is,H,h,H1,an=>by
  unfold pa at an
  split at an
  ·rename_i j c
   split at an
   ·split at an
    ·rename_i b g f ag d
     cases an;have J:=Tq d;refine((LI H).trans J).more λq a=>sH.2 ⟨a,xA.2 ⟨Tp c a,rfl⟩⟩
    grind
   grind
  grind
theorem Tr:∀ {h a:bC},tB ps h=some a->∀q,fs q (lO ps)=false->fs q (a.map (·.1))=false
 |[],a,e,q,c=>by cases e;rfl
 |(i,b)::r,a,e,q,c=>by
  unfold tB at e
  split at e
  ·rename_i j k g d ag f
   cases e;exact xA.2 ⟨Tp d c,Tr f q c⟩
  grind
theorem afF{e:bA X}{p:zG X e}{r:e.aT}(an:vn X n e ps st.H args=some p)(h:after X e ps st d p r=some st'):di (d::lO ps) st st':=by
 unfold after at h
 split at h
 ·rename_i f g c b
  have ab:=Tr b
  split at h
  ·cases h
   refine⟨(cy.cons (V:=[]) (cy.refl _)).more λq a=>xA.2 ⟨(gY a).1,rfl⟩,(cy.append (V:=[]) (cy.refl _) rfl).more λq a=>sH.2 ⟨ab q (gY a).2,rfl⟩⟩
  ·cases h
   have J:nc (lO ps) st.H p.H1:=by
    grind [vn,Tq]
   refine⟨(cy.cons (V:=[]) (ae5 _ _)).more λq a=>xA.2 ⟨(gY a).1,rfl⟩,?_⟩;refine(cy.append (J.trans (LJ (V:=[]) _)) rfl).more λq a=>?_
   grind [gY,sH]
 grind
end
section
def Cj(X:bx)(n:Nat)(st:aP)(d:Nat):Op->Option (Bool×aP)
 |.index t u x=>match X.a1.find t with
  |some ⟨⟨.string,_,_,_⟩,_⟩=>match bu X st.L u,bu X st.L x with
   |some (g,.c (.str s)),some (g2,.c (.val (.int _ z)))=>some (g&&(g2&&a6 z s.length),⟨(d,.c (.val (.int .u8 ((s.getD z.toNat 0).toNat:Int))))::st.L,st.H⟩)
   |_,_=>none
  |some ⟨⟨.array m e,_,_,_⟩,_⟩=>match LA X e,bu X st.L u,bu X st.L x with
   |some (dC,g),some (b,q),some (g2,.c (.val (.int _ z)))=>match FE g m q,beq g.size dC.ti.size,decEq (mM dC.ti.desc) g.tP,g.tP || beq g.size 1 with
    |some (c,l),true,isTrue _,true=>match pX g (l.getD z.toNat g.zero)with
     |some sa=>some (b&&(g2&&(c&&(a6 z m&&a6 z l.length))),⟨(d,.a sa)::st.L,st.H⟩)
     |none=>none
    |_,_,_,_=>none
   |_,_,_=>none
  |_=>none
 |.slice t u lo hi none=>match X.a1.find t,bu X st.L u with
  |some ⟨⟨.string,_,_,_⟩,_⟩,some (g,.c (.str s))=>match lo,hi with
   |some x,none=>match bu X st.L x with
    |some (g2,.c (.val (.int _ z)))=>some (g&&(g2&&(decide (0<=z)&&decide (z<=(s.length:Int)))),⟨(d,.c (.str (s.drop z.toNat)))::st.L,st.H⟩)
    |_=>none
   |none,some x=>match bu X st.L x with
    |some (g2,.c (.val (.int _ z)))=>some (g&&(g2&&(decide (0<=z)&&decide (z<=(s.length:Int)))),⟨(d,.c (.str (s.take z.toNat)))::st.L,st.H⟩)
    |_=>none
   |some x,some y=>match bu X st.L x,bu X st.L y with
    |some (g2,.c (.val (.int _ z))),some (j,.c (.val (.int _ o)))=>some (g&&(g2&&(j&&(decide (0<=z)&&(decide (z<=o)&&decide (o<=(s.length:Int)))))),⟨(d,.c (.str ((s.take o.toNat).drop z.toNat)))::st.L,st.H⟩)
    |_,_=>none
   |none,none=>none
  |_,_=>none
 |.slice t u none (some y) (some v)=>match X.a1.find t,bu X st.L u,bu X st.L y,bu X st.L v with
  |some ⟨⟨.slice e,_,_,_⟩,_⟩,some (b,.c (.ax id)),some (g2,.c (.val (.int _ z))),some (j,.c (.jV r))=>match X.a1.find e,bh st.H id,beq r id,blt d n&&blt id h1 with
   |some _,some (.row T g l cap),true,true=>some (b&&(g2&&(j&&(decide (0<=z)&&decide (z<=(l.length:Int))))),⟨(d,.c (.ax id))::fS id .dead st.L,(id,.row T g (l.take z.toNat) cap)::en id .dead st.H⟩)
   |_,_,_,_=>none
  |_,_,_,_=>none
 |.call ⟨.builtin .append,⟨[x,y]⟩,⟨[t,k]⟩⟩=>match beq k t,X.a1.find t,bu X st.L x,bu X st.L y with
  |true,some ⟨⟨.slice e,_,_,_⟩,_⟩,some (b,.c (.ax id)),some (g2,dW)=>match X.a1.find e,bh st.H id with
   |some ⟨⟨_,f,i,_⟩,some _⟩,some (.gT h g l)=>match beq h e,beq g.size f,nD st g dW,blt id h1 with
    |true,true,some a,true=>some (b&&(g2&&dk i (l.length+a.length)),⟨(d,.c (.ax id))::fS id .dead st.L,(id,.gT e g (l++a))::en id .dead st.H⟩)
    |_,_,_,_=>none
   |_,_=>none
  |true,some ⟨⟨.slice e,_,_,_⟩,_⟩,some (b,.c (.bz g l (some c))),some (g2,dW)=>match X.a1.find e with
   |some ⟨⟨_,f,i,_⟩,some _⟩=>match beq g.size f,nD st g dW with
    |true,some a=>some (b&&(g2&&(dk i (l.length+a.length)&&decide (c=l.length))),⟨(d,.c (.ax d))::fS d .dead st.L,(d,.gT e g (l++a))::en d .dead st.H⟩)
    |_,_=>none
   |_=>none
  |_,_,_,_=>none
 |.call ⟨.builtin .copy,⟨[x,y]⟩,⟨[t,k]⟩⟩=>match beq k t,X.a1.find t,bu X st.L x,bu X st.L y with
  |true,some ⟨⟨.slice e,_,_,_⟩,_⟩,some (b,.c (.ax id)),some (g2,dW)=>match X.a1.find e,bh st.H id with
   |some ⟨⟨_,f,i,_⟩,some _⟩,some (.row h g l cap)=>match beq h e,beq g.size f,nD st g dW with
    |true,true,some a=>some (b&&(g2&&beq a.length l.length),⟨(d,.c (.val (.int .i64 (l.length:Int))))::st.L,qr id (.row e g a cap) st.H⟩)
    |_,_,_=>none
   |_,_=>none
  |true,some ⟨⟨.slice e,_,_,_⟩,_⟩,some (b,.c (.jE id s p)),some (g2,dW)=>match X.a1.find e,bh st.H id with
   |some ⟨⟨_,f,i,_⟩,some _⟩,some (.row h g l cap)=>match beq h e,beq g.size f,beq s f,nD st g dW,blt 0 f with
    |true,true,true,some a,true=>some (b&&(g2&&decide (p+a.length<=l.length)),⟨(d,.c (.val (.int .i64 (a.length:Int))))::st.L,qr id (.row e g (l.take p++a++l.drop (p+a.length)) cap) st.H⟩)
    |_,_,_,_,_=>none
   |_,_=>none
  |_,_,_,_=>none
 |_=>none
def Ck(X:bx)(st:aP):Op->Option (Bool×aP)
 |.store t x y=>match X.a1.find t,bu X st.L x,bu X st.L y with
  |some bB,some (a,.c (.eT id 1 i 0)),some (g2,.c (.ax d))=>match bh st.H id,bh st.H d,beq bB.ti.size 1 with
   |some (.row T (.ax g) l cap),some (.row _ _ _ _),true=>some (a&&(g2&&decide (i<l.length)),⟨st.L,qr id (.cN false T g l cap i d) st.H⟩)
   |some (.row T (.hL g) l cap),some (.row _ _ b (some q)),true=>some (a&&(g2&&(decide (i<l.length)&&beq q b.length)),⟨st.L,qr id (.cN true T g l cap i d) st.H⟩)
   |some (.bS T T' g l cap h),_,true=>some (a&&(g2&&(xw h i&&decide (i<l.length))),⟨st.L,qr id (.bS T T' g l cap (some (i,some d))) st.H⟩)
   |_,_,_=>none
  |_,_,_=>none
 |_=>none
section
variable {X:bx} {n:Nat} {st st':aP} {o:Oper} {d:Nat}
theorem afH{e:TypeId}(h:LA X e=some (bB,g)):X.a1.find e=some bB/\bB.g=some g:=by
 grind [LA]
theorem afI(b:X.a1.ok X.P){c:Bool}(h:Ck X st o.op=some (c,st'))(aa:c=true)(a:o.guard=none/\o.dst=none):hh X n o st st':=by
 unfold Ck at h
 split at h
 ·grind [aeK,aeM,S7]
 grind
theorem afJ{c:Bool}{op:Op}(h:Ck X st op=some (c,st')):∃id,di [id] st st'/\(∃t x y a i,op=.store t x y/\bu X st.L x=some (a,.c (.eT id 1 i 0))):=by
 unfold Ck at h
 split at h
 ·split at h
  ·rename_i bj ak aA
   split at h
   ·cases h
    exact⟨_,⟨cy.refl _,ln (lp _ _)⟩,_,_,_,_,_,rfl,ak⟩
   ·cases h
    exact⟨_,⟨cy.refl _,ln (lp _ _)⟩,_,_,_,_,_,rfl,ak⟩
   ·cases h
    exact⟨_,⟨cy.refl _,ln (lp _ _)⟩,_,_,_,_,_,rfl,ak⟩
   grind
  grind
 grind
theorem afK(e:X.a1.ok X.P){c:Bool}(h:Cj X n st d o.op=some (c,st'))(aa:c=true)(b:o.guard=none/\o.dst=some d)(az:blt d n=true):hh X n o st st':=by
 unfold Cj at h
 split at h
 ·rename_i a
  split at h
  ·rename_i bj
   split at h
   ·rename_i hu ak
    cases h;simp only[and_eq_true]at aa;exact aeI e a b az bj rfl hu aa.1 ak aa.2.1 aa.2.2
   ·cases h
  ·rename_i bj
   split at h
   ·rename_i he hu ak
    obtain⟨k,l⟩:=afH he
    split at h
    ·rename_i ah J U _ g
     split at h
     ·rename_i i
      cases h;simp only[and_eq_true]at aa;exact aeP _ _ _ e a b az bj rfl k U ah g hu aa.1 ak aa.2.1 J aa.2.2.1 aa.2.2.2.1 aa.2.2.2.2 i
     ·cases h
    ·cases h
   ·cases h
  ·cases h
 ·rename_i a
  split at h
  ·rename_i bj hu
   split at h
   ·split at h
    ·rename_i ak
     cases h;simp only[and_eq_true]at aa;exact aeR e a b az bj rfl hu aa.1 ak aa.2.1 aa.2.2.1 aa.2.2.2
    ·cases h
   ·split at h
    ·rename_i ak
     cases h;simp only[and_eq_true]at aa;exact aeS e a b az bj rfl hu aa.1 ak aa.2.1 aa.2.2.1 aa.2.2.2
    ·cases h
   ·split at h
    ·rename_i ak aA
     cases h;simp only[and_eq_true]at aa;exact aeT e a b az bj rfl hu aa.1 ak aa.2.1 aA aa.2.2.1 aa.2.2.2.1 aa.2.2.2.2.1 aa.2.2.2.2.2
    ·cases h
   ·cases h
  ·cases h
 ·rename_i a
  split at h
  ·rename_i bj hu aA j
   split at h
   ·rename_i he ao hid bc
    cases h
    have:=eq_of_beq_eq_true hid
    subst this;rw[and_eq_true,and_eq_true,and_eq_true]at aa;exact aeY e a b bc bj rfl he hu aa.1 aA aa.2.1 j aa.2.2.1 ao aa.2.2.2
   ·cases h
  ·cases h
 ·rename_i a
  split at h
  ·rename_i f bj ak aA
   have:=eq_of_beq_eq_true f
   subst this
   split at h
   ·rename_i he ao
    split at h
    ·rename_i J U ah g
     have:=eq_of_beq_eq_true J
     subst this;cases h;simp only[and_eq_true]at aa;exact aen e a b (by rw[az,g];rfl) bj rfl he ak aa.1 aA aa.2.1 ao U ah aa.2.2
    ·cases h
   ·cases h
  ·rename_i f bj ak aA
   have:=eq_of_beq_eq_true f
   subst this
   split at h
   ·rename_i he
    split at h
    ·rename_i U ah
     cases h;simp only[and_eq_true]at aa;exact aeU e a b az bj rfl he ak aa.1 aA aa.2.1 U ah aa.2.2.1 aa.2.2.2
    ·cases h
   ·cases h
  ·cases h
 ·rename_i a
  split at h
  ·rename_i f bj ak aA
   have:=eq_of_beq_eq_true f
   subst this
   split at h
   ·rename_i he ao
    split at h
    ·rename_i J U ah
     have:=eq_of_beq_eq_true J
     subst this;cases h;simp only[and_eq_true]at aa;exact aeu e a b az bj rfl he ak aa.1 aA aa.2.1 ao U ah aa.2.2
    ·cases h
   ·cases h
  ·rename_i f bj ak aA
   have:=eq_of_beq_eq_true f
   subst this
   split at h
   ·rename_i he ao
    split at h
    ·rename_i J U g ah i
     have:=eq_of_beq_eq_true J
     subst this;cases h;simp only[and_eq_true]at aa;exact aeW e a b az bj rfl he ak aa.1 aA aa.2.1 ao U g ah i aa.2.2
    ·cases h
   ·cases h
  ·cases h
 ·cases h
def xC(X:bx)(st:aP)(d:Nat):Op->bG
 |.call ⟨.builtin _,⟨[x,_]⟩,_⟩=>match bu X st.L x with
  |some (_,.c (.ax id))=>[d,id]
  |some (_,.c (.jE id _ _))=>[d,id]
  |_=>[d]
 |.slice _ u none (some _) (some _)=>match bu X st.L u with
  |some (_,.c (.ax id))=>[d,id]
  |_=>[d]
 |_=>[d]
def Ts(X:bx)(st:aP):Op->bG
 |.store _ x _=>match bu X st.L x with
  |some (_,.c (.eT id _ _ _))=>[id]
  |_=>[]
 |_=>[]
theorem qV{sv:b7}:di [d] st ⟨(d,sv)::st.L,st.H⟩:=⟨cy.cons (V:=[]) (cy.refl _),(cy.refl _)⟩
theorem afL{c:Bool}{op:Op}(h:Cj X n st d op=some (c,st')):di (xC X st d op) st st':=by
 unfold Cj at h
 split at h
 ·split at h
  ·split at h
   ·cases h;exact qV
   ·cases h
  ·split at h
   ·split at h
    ·split at h
     ·cases h;exact qV
     ·cases h
    ·cases h
   ·cases h
  ·cases h
 ·split at h
  ·split at h
   ·split at h
    ·cases h;exact qV
    ·cases h
   ·split at h
    ·cases h;exact qV
    ·cases h
   ·split at h
    ·cases h;exact qV
    ·cases h
   ·cases h
  ·cases h
 ·split at h
  ·rename_i bj hu aA f
   split at h
   ·cases h
    unfold xC;simp only[hu];exact⟨cy.cons (lU _ _ _),(cy.cons (V:=[]) (kX _ _ _)).more λq a=>(gY a).2⟩
   ·cases h
  ·cases h
 ·split at h
  ·rename_i b bj ak aA
   split at h
   ·split at h
    ·cases h
     unfold xC;simp only[ak];exact⟨cy.cons (lU _ _ _),(cy.cons (V:=[]) (kX _ _ _)).more λq a=>(gY a).2⟩
    ·cases h
   ·cases h
  ·rename_i b bj ak aA
   split at h
   ·split at h
    ·cases h
     unfold xC;simp only[ak];exact⟨cy.cons (lU _ _ _),cy.cons (V:=[]) (kX _ _ _)⟩
    ·cases h
   ·cases h
  ·cases h
 ·split at h
  ·rename_i b bj ak aA
   split at h
   ·split at h
    ·cases h
     unfold xC;simp only[ak];exact⟨(cy.cons (V:=[]) (cy.refl _)).more λq a=>by
      obtain⟨J,_⟩:=gY a;unfold fs
      split
      ·rename_i e;exact absurd (eq_of_beq_eq_true e).symm J
      ·rfl,ln (by unfold fs;split<;>first|rfl|(exact lp _ _))⟩
    ·cases h
   ·cases h
  ·rename_i b bj ak aA
   split at h
   ·split at h
    ·cases h
     unfold xC;simp only[ak];exact⟨(cy.cons (V:=[]) (cy.refl _)).more λq a=>by
      obtain⟨J,_⟩:=gY a;unfold fs
      split
      ·rename_i e;exact absurd (eq_of_beq_eq_true e).symm J
      ·rfl,ln (by unfold fs;split<;>first|rfl|(exact lp _ _))⟩
    ·cases h
   ·cases h
  ·cases h
 ·cases h
def xD(X:bx)(n:Nat)(st:aP)(o:Oper):Option (Bool×aP×bG):=match o.guard with
 |none=>match o.dst with
  |some d=>match blt d n with
   |true=>match zR X st o.op with
    |some (c,sa)=>some (c,⟨(d,.a sa)::st.L,st.H⟩,[d])
    |none=>match Cj X n st d o.op with
     |some (c,st')=>some (c,st',xC X st d o.op)
     |none=>none
   |false=>none
  |none=>match Ck X st o.op with
   |some (c,st')=>some (c,st',Ts X st o.op)
   |none=>none
 |some _=>none
theorem jq.sJ{sa:bn}(an:jq X st o sa)(b:o.guard=none/\o.dst=some d)(az:blt d n=true):hh X n o st ⟨(d,.a sa)::st.L,st.H⟩:=by
 intro R W aC ks env B ai H a w ae KK l e;obtain⟨v,J,U⟩:=an ae;exact hD ae.bV b.1 b.2 (dH az) (U w λ_=>ae.aQ) λaS c=>e aS w env H (ae.set (sv:=.a sa) J c)
theorem LL(a:X.a1.ok X.P){c:Bool}(h:xD X n st o=some (c,st',V))(aa:c=true):hh X n o st st':=by
 unfold xD at h
 split at h
 ·grind [jq.sJ,FZ,afK,afI]
 grind
theorem LM{c:Bool}(h:xD X n st o=some (c,st',V)):di V st st':=by
 unfold xD at h
 split at h
 ·grind [qV,afL,id,afJ,Ts]
 grind
end
end
section
set_option linter.unusedSectionVars false
theorem afM{a1:cd}(ay:a1.ok P)(e:Bool)(m:Nat):∀(k:Nat) (t:TypeId) (g:aZ) (x:g.D) (w:World),g.key=true->mq P a1 k t g=true->(Instr.checkKey e (m+k) t (rI a1 t (g.cJ x))).run P w=.ok () w:=by
 intro k
 induction k with
 |zero=>intro t g x w _ h;cases h
 |succ k bL=>
  intro t g x w ab h;unfold mq at h;cases aF:a1.find t with
  |none=>simp[aF]at h
  |some bB=>
   rw[aF]at h;dsimp only at h;have hH:=(cd.get ay aF).ti.1;unfold rI;rw[aF];dsimp only
   split at h
   ·rename_i jX az
    rw[az]at hH ⊢;cases g with
    |int ev=>
     show(Instr.checkKey e (m+k+1) t (.int ev x)).run P w=_;unfold Instr.checkKey
     simp[run_underlying hH,Result.andThen]
    |_=>cases h
   ·rename_i az
    rw[az]at hH ⊢;cases g with
    |bool=>
     show(Instr.checkKey e (m+k+1) t (.bool x)).run P w=_;unfold Instr.checkKey
     simp[run_underlying hH,Result.andThen]
    |_=>cases h
   ·rename_i az
    rw[az]at hH ⊢;cases g with
    |str=>
     show(Instr.checkKey e (m+k+1) t (fF x)).run P w=_;unfold Instr.checkKey
     simp[run_underlying hH,Result.andThen]
    |_=>cases h
   ·rename_i dp az
    rw[az]at hH ⊢;simp only[and_eq_true,not_eq_true']at h;show(Instr.checkKey e (m+k+1) t (.agg (g.cJ x).toArray)).run P w=_;rw[Instr.checkKey];simp only[Sem.run_bind,run_underlying hH,Result.andThen_ok];rw[<- Array.forIn_toList];have U:=h.2.2
    clear hH az h
    obtain⟨xs,sC⟩:∃xs:Array Value,xs=(g.cJ x).toArray:=⟨_,rfl⟩
    rw[<- sC];have ak:xs.toList.drop 0=g.cJ x:=by rw[sC];simp
    clear sC
    obtain⟨off,Tt⟩:∃off:Nat,off=0:=⟨_,rfl⟩
    rw[<- Tt]at U ak
    clear Tt
    generalize dp.toList=L at U
    induction L generalizing off g with
    |nil=>simp[kU]at U
    |cons f L BZ=>
     cases L with
     |nil=>
      have aW : (decide (f.name ≠ "_") && (beq f.offset off && mq P a1 k f.type g)) = true := by
       cases g<;>exact U
      simp only[and_eq_true,decide_eq_true_eq]at aW;obtain⟨bc,a8,he⟩:=aW;have a8:=eq_of_beq_eq_true a8;simp only[List.forIn_cons,List.forIn_nil,Sem.run_bind,bc,ne_eq,not_false_eq_true,if_true,a8,zA ay ab he (r:=[]) (by rw[ak,append_nil]),Result.andThen_ok,bL _ _ _ _ ab he,Sem.run_pure]
     |cons f2 L=>
      cases g with
      |pair g ah=>
       have aW : (decide (f.name ≠ "_") && (beq f.offset off && (mq P a1 k f.type g && kU (mq P a1 k) (off + g.size) (f2 :: L) ah))) = true := U
       simp only[and_eq_true,decide_eq_true_eq]at aW;obtain⟨bc,a8,he,av⟩:=aW;have a8:=eq_of_beq_eq_true a8;simp only[aZ.key,and_eq_true]at ab;have lj:xs.toList.drop off=g.cJ x.1++ah.cJ x.2:=ak;have pT:=BZ ah x.2 ab.2 (off+g.size) (by rw[<- List.drop_drop,lj,<- zz x.1 ab.1,List.drop_left]) av;rw[List.forIn_cons];simp only[Sem.run_bind,bc,ne_eq,not_false_eq_true,if_true,a8,zA ay ab.1 he lj,Result.andThen_ok,bL _ _ _ _ ab.1 he,Sem.run_pure];exact pT
      |int _=>simp[kU]at U
      |bool=>simp[kU]at U
      |str=>simp[kU]at U
      |ax _=>simp[kU]at U
      |hL _=>simp[kU]at U
      |unit=>simp[kU]at U
      |fn=>simp[kU]at U
   ·grind
structure qW(P:Program)(t:TypeId)(g:aZ):Prop where
 eq:vj P t g
 zU:∀(e:Bool) (x:g.D) (w:World),(Instr.checkKey e 10000 t (.agg (g.cJ x).toArray)).run P w=.ok () w
 str:∃dp,P.underlying t=some (.struct dp)
 ua:∃a b,g=.pair a b
theorem qW.of{a1:cd}(c:a1.ok P){a b:aZ}{dp:Array Field}(ab:(aZ.pair a b).key=true)(aF:a1.find t=some bB)(az:bB.ti.desc=.struct dp)(h:mq P a1 12 t (.pair a b)=true)(d:P.eqGuardType P.depth t=false):qW P t (.pair a b):=by
 refine⟨.of c ab aF az h d,λe x w=>?_,⟨dp,?_⟩,⟨_,_,rfl⟩⟩
 ·have:=afM c e 9988 12 t (.pair a b) x w ab h
  unfold rI at this;rw[aF]at this;dsimp only at this;rw[az]at this;exact this
 ·have:=(cd.get c aF).ti.1
  grind
section
variable {P:Program} {B:Nat->Prop} {w:World} {gk gv:aZ} {t:TypeId}
theorem dZ.key(c:∃a b,g=.pair a b)(ab:g.key=true){x:g.D}{v:Value}(h:dZ B w g x v):v=.agg (g.cJ x).toArray:=by
 obtain⟨a,b,rfl⟩:=c;obtain⟨vs,e,J⟩:=h
 grind [bN.cJ]
theorem dZ.Tu(c:∃a b,g=.pair a b)(ab:g.key=true)(x:g.D):dZ B w g x (.agg (g.cJ x).toArray):=by
 obtain⟨a,b,rfl⟩:=c;exact⟨_,rfl,LN ab x⟩
where LN:∀ {g:aZ} (ab:g.key=true) (x:g.D),bN B w g x (g.cJ x)
 |.int _,_,_=>rfl
 |.bool,_,_=>rfl
 |.str,_,_=>rfl
 |.ax _,h,_=>by cases h
 |.hL _,h,_=>by cases h
 |.unit,h,_=>by cases h
 |.fn,h,_=>by cases h
 |.pair g h,ab,x=>by
  simp only[aZ.key,and_eq_true]at ab;exact⟨_,_,rfl,LN ab.1 x.1,LN ab.2 x.2⟩
theorem Tv{x y:g.D}(ab:g.key=true):g.beq x y=g.beq y x:=by
 grind [beq_iff]
theorem F5(a:qW P t gk)(x y:gk.D)(b9:World):(Op.equal t (.agg (gk.cJ x).toArray) (.agg (gk.cJ y).toArray)).run P b9=.ok (gk.beq x y) b9:=a.eq.eq x y b9
theorem fK.Cl(a:qW P t gk){z:gk.D}(b9:World):∀ {l:List (gk.D×gv.D)} {b:List MapEntry} (i:Nat),fK B w gk gv l b ->
  (cX gk gv l z=none/\(Instr.findAsking t (.agg (gk.cJ z).toArray) b i).run P b9=.ok none b9)\/∃x j v,cX gk gv l z=some x/\(Instr.findAsking t (.agg (gk.cJ z).toArray) b i).run P b9=.ok (some (i+j,v)) b9/\dZ B w gv x v/\j<b.length
 |[],_,i,h=>by rw[show _=[] from h];exact .inl ⟨rfl,rfl⟩
 |x::l,_,i,⟨e,r,he,J,U,ah⟩=>by
  subst he;have ab:=dZ.key a.ua a.eq.key J;unfold Instr.findAsking cX;rw[ab];simp only[Sem.run_bind,F5 a z x.1 b9,Result.andThen_ok];rw[Tv (x:=z) (y:=x.1) a.eq.key];cases ag:gk.beq x.1 z with
  |true=>exact .inr ⟨x.2,0,e.val,rfl,rfl,U,by simp⟩
  |false=>
   rcases fK.Cl a b9 (i+1) ah with⟨aw,aI⟩|⟨y,j,v,aw,aI,bb,cl⟩
   ·exact .inl ⟨aw,by simpa using aI⟩
   ·exact .inr ⟨y,j+1,v,aw,by simpa [Nat.add_assoc,Nat.add_comm 1 j] using aI,bb,by simpa using cl⟩
theorem fK.zV(a:qW P t gk){z:gk.D}{e8:gv.D}{vv:Value}(b9:World)(c:dZ B w gv e8 vv):∀ {l:List (gk.D×gv.D)} {b:List MapEntry} (i:Nat),fK B w gk gv l b ->
  ((Instr.findAsking t (.agg (gk.cJ z).toArray) b i).run P b9=.ok none b9/\ez gk gv l z e8=l++[(z,e8)]) \/
  ∃j v e,(Instr.findAsking t (.agg (gk.cJ z).toArray) b i).run P b9=.ok (some (i+j,v)) b9/\b[j]?=some e/\e.key=.agg (gk.cJ z).toArray/\fK B w gk gv (ez gk gv l z e8) (b.modify j λe=>{ e with key:=.agg (gk.cJ z).toArray,val:=vv })
 |[],_,i,h=>by rw[show _=[] from h];exact .inl ⟨rfl,rfl⟩
 |x::l,_,i,⟨e,r,he,J,U,ah⟩=>by
  subst he;have ab:=dZ.key a.ua a.eq.key J;unfold Instr.findAsking ez;rw[ab];simp only[Sem.run_bind,F5 a z x.1 b9,Result.andThen_ok];rw[Tv (x:=z) (y:=x.1) a.eq.key];cases ag:gk.beq x.1 z with
  |true=>
   have bw:=(beq_iff x.1 z a.eq.key).1 ag;refine .inr ⟨0,e.val,e,rfl,rfl,by rw[ab,bw],{ e with key:=.agg (gk.cJ z).toArray,val:=vv },r,rfl,?_,c,ah⟩
   grind
  |false=>
   rcases fK.zV a b9 c (i+1) ah with⟨aw,aI⟩|⟨j,v,cv,aw,aI,bb,cl⟩
   ·exact .inl ⟨by simpa using aw,by show x::ez gk gv l z e8=_;rw[aI];rfl⟩
   ·exact .inr ⟨j+1,v,cv,by simpa [Nat.add_assoc,Nat.add_comm 1 j] using aw,by simpa using aI,bb,e,_,rfl,J,U,cl⟩
theorem sK{dp:Array Field}(hu:P.underlying t=some (.struct dp)){k:Value}{a:List MapEntry}{r:Option (Nat×Value)}{b9:World}(h:(Instr.findAsking t k a 0).run P b9=.ok r b9):(Instr.findKey t k a).run P b9=.ok r b9:=by
 unfold Instr.findKey;simp only[Sem.run_bind,run_underlying hu,Result.andThen_ok];cases a with
 |nil=>exact h
 |cons e a=>
  grind [Instr.findNow,Instr.sameNow]
theorem F6:∀ {g:aZ},g.key=true->∀(x:g.D) (n:Nat),∀v∈g.cJ x,Instr.sameBits n v v=true
 |.int _,_,x,n,v,aB=>by
  rw[List.mem_singleton.1 aB]
  grind [Instr.sameBits]
 |.bool,_,x,n,v,aB=>by
  rw[List.mem_singleton.1 aB]
  grind [Instr.sameBits]
 |.str,_,x,n,v,aB=>by
  rw[List.mem_singleton.1 aB];have ag:(toArray (show dQ from x)==toArray (show dQ from x))=true:=beq_self_eq_true _;cases n with
  |zero=>exact ag
  |succ n=>exact ag
 |.ax _,h,_,_,_,_=>by cases h
 |.hL _,h,_,_,_,_=>by cases h
 |.unit,h,_,_,_,_=>by cases h
 |.fn,h,_,_,_,_=>by cases h
 |.pair g h,ab,x,n,v,aB=>by
  simp only[aZ.key,and_eq_true]at ab
  rcases List.mem_append.1 aB with aB|aB
  ·exact F6 ab.1 x.1 n v aB
  ·exact F6 ab.2 x.2 n v aB
theorem Tw{vs:bQ}(h:∀n,∀v∈vs,Instr.sameBits n v v=true):Instr.sameBits 10000 (.agg vs.toArray) (.agg vs.toArray)=true:=by
 rw[show(10000:Nat)=9999+1 from rfl];unfold Instr.sameBits;simp only[beq_self_eq_true,Bool.true_and,List.all_eq_true];rintro⟨a,b⟩ qX
 have:a=b/\a∈vs:=by
  clear h
  induction vs with
  |nil=>cases qX
  |cons v vs c=>
   grind [List.zip_cons_cons,Prod.mk.injEq,mem_cons_self,mem_cons_of_mem]
 grind
end
section
variable {X:bx} {n:Nat} {st:aP} {o:Oper} {d:Nat}
theorem afN(i:X.a1.ok X.P){dC:cm}{id:Nat}{l:List (gk.D×gv.D)}{z:gk.D}{g c:Bool}{fx sa:bn}(e:qW X.P e3 gk)(p:o.op=.lookup t u x false)(f:o.guard=none/\o.dst=some d)(az:blt d n=true)(bj:X.a1.find t=some bB)(c6:bB.ti.desc=.map e3 fB)(he:X.a1.find fB=some dC)(bw:∀B w,dZ B w gv gv.zero dC.ti.zero)(hu:bu X st.L u=some (true,.c (.dv id)))(ak:bu X st.L x=some (g,fx))(r:g=true)(nQ:dec gk fx.cells=some (c,z,[]))(aa:c=true)(N:mn gk fx=true)(s:bh st.H id=some (.mp gk gv l iW))(mo:pX gv ((cX gk gv l z).getD gv.zero)=some sa)
  : hh X n o st ⟨(d,.a sa)::st.L,st.H⟩:=by
 intro R W aC ks env B ai H a w ae KK Q C;obtain⟨P,J,b,ag,rfl⟩:=ae.aD hu rfl;obtain⟨vx,U,ah⟩:=ae.aD ak r;have G:=dZ.key e.ua e.eq.key (dZ.vh nQ aa N ah);rw[G]at U;obtain⟨et,K,⟨b',O,clock,m,rfl,I,cY,_⟩,D⟩:=ae.heap.gA s;rw[ag]at m;cases m;have E:=(ae.aQ.ok _ D.more.mem).2;have h:=(cd.get i bj).ti.1;rw[c6]at h;obtain⟨dp,k⟩:=e.str;have F:=bI.sg (cd.get i he).ti w;have L:∃v,(Instr.lookup t (.map (some b)) (.agg (gk.cJ z).toArray) false).run X.P w=.ok v w/\dZ B ai gv ((cX gk gv l z).getD gv.zero) v:=by
  unfold Instr.lookup;simp only[Sem.run_bind,run_underlying h,Result.andThen_ok,MapKept.run_getObj_map E,e.zU,Sem.run_pure]
  rcases I.Cl e w (z:=z) 0 with⟨aw,aI⟩|⟨y,j,v,aw,aI,bb,_⟩
  ·refine⟨dC.ti.zero,?_,by rw[aw];exact bw _ _⟩
   simp[sK k aI,F,Result.andThen]
  ·refine⟨v,?_,by rw[aw];exact bb⟩
   simp[sK k aI,Result.andThen]
 obtain⟨v,A,M⟩:=L;refine(hD ae.bV f.1 f.2 (dH az) (v:=v) (w':=w) ?_ λaS q=>?_)
 ·simp[execOp,p,ae.bV.aD J,ae.bV.aD U,A]
 ·exact C aS _ env H (ae.set (sv:=.a sa) (M.sa mo) q)
theorem afO(P:X.a1.ok X.P){id:Nat}{l:List (gk.D×gv.D)}{z:gk.D}{g c cC:Bool}{fx dW:bn}{e8:gv.D}(d:qW X.P e3 gk)(I:o.op=.mapUpdate t u x y)(r:o.guard=none/\o.dst=none)(bj:X.a1.find t=some bB)(c6:bB.ti.desc=.map e3 fB)(hu:bu X st.L u=some (true,.c (.dv id)))(ak:bu X st.L x=some (g,fx))(N:g=true)(nQ:dec gk fx.cells=some (c,z,[]))(aa:c=true)(ao:mn gk fx=true)(aA:bu X st.L y=some (g2,dW))(V:g2=true)(Q:bh st.H id=some (.mp gk gv l iW))(am:dec gv dW.cells=some (cC,e8,[]))(ac:cC=true)(Y:mn gv dW=true)
  : hh X n o st ⟨st.L,qr id (.mp gk gv (ez gk gv l z e8) none) st.H⟩:=by
 intro R W aC ks env B ai H a w ae KK au T;obtain⟨ar,J,b,ag,rfl⟩:=ae.aD hu rfl;obtain⟨vx,U,ah⟩:=ae.aD ak N;have ad:=dZ.key d.ua d.eq.key (dZ.vh nQ aa ao ah);rw[ad]at U;obtain⟨vy,O,L⟩:=ae.aD aA V;have F:dZ B ai gv e8 vy:=dZ.vh am ac Y L;obtain⟨et,K,⟨b',m,clock,D,rfl,E,cY,_⟩,C,Z⟩:=ae.oU (b':=.mp gk gv (ez gk gv l z e8) none) Q;rw[ag]at D;cases D;have ab:=(ae.aQ.ok _ C.mem).2;have s:=(cd.get P bj).ti.1;rw[c6]at s;obtain⟨dp,aq⟩:=d.str;have al:∃i k,(Instr.mapUpdate t (.map (some b)) (.agg (gk.cJ z).toArray) vy).run X.P w=.ok () { w with heap:=w.heap.setIfInBounds b (.map i.toArray k) }/\fK B ai gk gv (ez gk gv l z e8) i/\n3 i k:=by
  unfold Instr.mapUpdate;simp only[Sem.run_bind,run_underlying s,Result.andThen_ok,MapKept.run_getObj_map ab,d.zU]
  rcases E.zV d w F (z:=z) 0 with⟨bb,cl⟩|⟨j,v,e,bb,cl,de,af⟩
  ·refine⟨m++[MapEntry.mk (.agg (gk.cJ z).toArray) vy clock],clock+1,?_,?_,?_⟩
   ·grind [sK,Result.andThen_ok,MapKept.run_setObj_map]
   ·rw[cl]
    exact fK.snoc (gk:=gk) (x:=(z,e8)) (e:=MapEntry.mk (.agg (gk.cJ z).toArray) vy clock) (dZ.Tu d.ua d.eq.key z) F E
   ·refine⟨?_,?_⟩
    ·rw[map_append,pairwise_append]
     exact⟨cY.1,by simp,λp an q A=>by simp at A;subst A;exact cY.2 p an⟩
    ·intro p an
     rw[map_append,List.mem_append]at an
     rcases an with an|an
     ·exact Nat.lt_succ_of_lt (cY.2 p an)
     grind
  ·refine⟨m.modify j λe=>{ e with key:=.agg (gk.cJ z).toArray,val:=vy },clock,?_,af,?_⟩
   ·rw[zero_add]at bb
    have av:(Instr.keyThatStays (((m.toArray[j]?).map (·.key)).getD (.agg (gk.cJ z).toArray)) (.agg (gk.cJ z).toArray)).run X.P w=.ok (.agg (gk.cJ z).toArray) w:=by
     have:((m.toArray[j]?).map (·.key)).getD (.agg (gk.cJ z).toArray)=.agg (gk.cJ z).toArray:=by simp[cl,de]
     rw[this];unfold Instr.keyThatStays;rw[Tw λn=>F6 d.eq.key z n]
     rfl
    grind [sK,Result.andThen_ok,Sem.run_bind,MapKept.run_setObj_map]
   ·rw[n3,zv (f:=λe=>{ e with key:=.agg (gk.cJ z).toArray,val:=vy }) (λ_=>rfl)]
    exact cY
 obtain⟨i,k,S,G,ap⟩:=al;refine(Bf ae.bV r.1 r.2 (w':={ w with heap:=w.heap.setIfInBounds b (.map i.toArray k) }) ?_ λaS M=>?_)
 ·simp[execOp,I,ae.bV.aD J,ae.bV.aD U,ae.bV.aD O,S]
 ·obtain⟨H',aj⟩:=Z _ aS _ ⟨b,i,k,ag,rfl,G,ap,λ_ h=>by cases h⟩ (ae.aQ.wN C) M
  exact T aS _ env H' (aj)
end
end
section
set_option linter.unusedSectionVars false
section
variable {X:bx} {R:Nat->Prop} {W:World} {aC:fe} {n:Nat} {ks:bG} {env:Nat->Loc} {B:Nat->Prop} {ai:World} {H:cW} {st:aP} {a aS:Act} {w:World} {d:Nat} {o:Oper}
theorem afP(ab:X.a1.ok X.P){T:TypeId}{id:Nat}{l:List (Bool×List g.D)}{M:Bool}(Z:o.op=.load t x)(D:o.guard=none/\o.dst=some d)(az:blt d n=true)(bj:X.a1.find t=some bB)(av:mM bB.ti.desc=false)(ak:bu X st.L x=some (M,.c (.eT id 1 i 0)))(af:M=true)(E:bh st.H id=some (.bS T T' g l cap none))(ac:beq d id=false)(hi:decide (i<l.length)=true)(K:(l.getD i (false,[])).1=true)
  : hh X n o st ⟨(d,.c (.ax d))::fS d .dead st.L,(d,.row T' g (l.getD i (false,[])).2 none)::qr id (.bS T T' g l cap (some (i,some d))) (en d .dead st.H)⟩:=by
 intro R W aC ks env B ai H a w ae KK aJ ad;have F:=of_decide_eq_true hi;have C:id≠d:=λe=>ne_of_beq_false ac e.symm
 obtain⟨vx,J,b,c,m,he,rfl⟩:=ae.aD ak af;obtain⟨c0,aD,⟨A,k,ys,ys',I,G,rfl,S,au,aj⟩,U⟩:=ae.heap.gA E;rw[he]at G;cases G;have aA:ys'=ys:=au;subst aA;obtain⟨v,eZ,Y,V,ax⟩:=dO.hole (show dO B ai T' g l ys' I from S) F
 rcases ax with⟨_,df,ev,gW,rfl,fW,jf⟩|⟨Lq,_⟩
 ·have aI:=dO.length (show dO B ai T' g l ys' I from S)
  have ar:w.cell? ⟨b,i * 1+0,none⟩=some (.slice df (l.getD i (false,[])).2.length ev):=by
   have ag:eY w (λk=>R k\/B k) T 1 (some ⟨b,0,none⟩) c l.length ys':=(ae.aQ.ok _ U.more.mem).1 _ mem_cons_self;rw[ag.cells rfl _ (by omega)]
   grind
  refine hD ae.bV D.1 D.2 (dH az) (v:=.slice df (l.getD i (false,[])).2.length ev) (w':=w) (y3 ae.bV Z (cd.get ab bj).ti av J ar) λaS j=>?_
  obtain⟨H2,am,f⟩:=ae.S1 az (.row df ev (l.getD i (false,[])).2.length);obtain⟨fp,aF,an,⟨N,O,aw,rfl⟩,ap⟩:=f.heap.put (Cb (z:=.dead) C E);subst aw;obtain⟨aE,aK,aH,r,aB,Q,rfl,_⟩:=an;rw[ki id C,he]at Q;cases Q;have P:=ae.aQ.same (c:=.tree (⟨some ⟨b,0,none⟩,c,T,1,l.length,r⟩::aB)) (mem_append_left _ (am.subset (by simp))) U.more.mem (b:=b) ⟨_,mem_cons_self,rfl⟩ ⟨_,mem_cons_self,rfl⟩;simp only[bm.tree.injEq,List.cons.injEq,gS.mk.injEq,true_and]at P;obtain⟨rfl,rfl⟩:=P
  let p:gS:=⟨df,ev,T',g.size,(l.getD i (false,[])).2.length,gW⟩
  let y:gS:=⟨some ⟨b,0,none⟩,c,T,1,l.length,r⟩
  have L:=f.aQ;rw[append_assoc,cons_append]at L;have ao:bK (λk=>R k\/B k) ai (N++.tree (p::y::eZ)::(O++ks.map dj)) w:=L.Bh ⟨p::y::eZ,(List.Perm.cons _ jf).trans (List.Perm.swap _ _ _),List.Sublist.refl _⟩;have aq:=ao.Ez;refine ad aS w _ (p.et::(N++.tree (y::eZ)::O)) ⟨j.size,j.defs,λs u q=>?_,⟨_,_,rfl,⟨df,ev,gW,fi,rfl,fW,λ_ h=>by cases h⟩,ap _ _ ⟨_,c,r.set i (.slice none 0 0),r,eZ,by rw[ki id C];exact he,rfl,V,⟨F,.slice df (l.getD i (false,[])).2.length ev,?_,λaG ay=>by cases ay;exact⟨df,ev,_,fi,rfl⟩⟩,aj⟩⟩,by rw[cons_append,append_assoc,cons_append];exact aq,f.sub,f.new,f.dB,f.base,f.eg⟩
  ·rw[cO]at q
   split at q
   ·rename_i e;subst e;cases q;exact⟨_,j.this,_,_,_,fi,rfl⟩
   ·rename_i e
    obtain⟨al,ah,aa⟩:=f.has s u q;exact⟨al,j.other e ah,aa⟩
  ·rw[set_set]
   exact(List.S0 Y).symm
 ·rw[Lq]at K;cases K
theorem afQ(T':TypeId)(h:aZ)(j:X.a1.ok X.P){e:TypeId}{dC:cm}{k k':IntKind}{b f:Int}{E:Bool}{Z:aZ}(G:o.op=.makeSlice t x y)(p:o.guard=none/\o.dst=some d)(az:blt d n=true)(bj:X.a1.find t=some bB)(c6:bB.ti.desc=.slice e)(he:X.a1.find e=some dC)(ac:dC.g=some (.ax Z))(ak:bu X st.L x=some (E,.c (.val (.int k b))))(P:E=true)(aA:bu X st.L y=some (g2,.c (.val (.int k' f))))(S:g2=true)(aa:(decide (0<=b)&&decide (b<=f)&&fh dC.ti.bytes f)=true)
  : hh X n o st ⟨(d,.c (.ax d))::fS d .dead st.L,(d,.bS e T' h (replicate b.toNat (true,[])) (some f.toNat) none)::en d .dead st.H⟩:=by
 intro R W aC ks env B ai H a w ae KK ad O;obtain⟨vx,F,V⟩:=ae.aD ak P;obtain⟨vy,C,Y⟩:=ae.aD aA S;simp only[and_eq_true,decide_eq_true_eq]at aa;obtain⟨⟨eP,hF⟩,gn⟩:=aa;obtain⟨gn,nC⟩:=(JM (by omega)).1 gn;rw[show vx=_ from V]at F;rw[show vy=_ from Y]at C;obtain⟨J,U,ah⟩:=(cd.get j he).g _ ac;have u:=(cd.get j bj).ti.1;rw[c6]at u;have D:dC.ti.size=1:=J.symm;have ab:dC.ti.zero.cells.toList=[.slice none 0 0]:=U;obtain⟨A,cN⟩:=Rk ae.aQ u (cd.get j he).ti (z:=[.slice none 0 0]) (by rw[<- ab]) (by rw[D];rfl) (by omega) (k:=k) (k':=k') (m:=b.toNat) (c:=f.toNat) (by omega) (by
  have:((dC.ti.bytes * f.toNat:Nat):Int)=(dC.ti.bytes:Int) * f:=by rw[Int.natCast_mul,Int.toNat_of_nonneg (by omega)]
  omega) (by omega)
 rw[Int.toNat_of_nonneg eP,Int.toNat_of_nonneg (by omega)]at A;refine hD ae.bV p.1 p.2 (dH az) (v:=.slice (some ⟨w.heap.size,0,none⟩) b.toNat f.toNat) (w':=w.alloc (.cells (eO [.slice none 0 0] f.toNat).toArray e)) (by simp[execOp,G,ae.bV.aD F,ae.bV.aD C,A]) λaS K=>?_
 obtain⟨I,T,bc⟩:=dO.SZ (B:=B) (w:=ai) (T':=T') (g:=h) b.toNat;have L:eO [Value.slice none 0 0] b.toNat=replicate b.toNat (.slice none 0 0):=by
  unfold eO
  induction b.toNat with
  |zero=>rfl
  |succ k N=>rw[List.replicate_succ,List.flatten_cons,N,List.replicate_succ];rfl
 rw[D,L]at cN;have i:=bK.S4 (bK.S3 (X:=[]) (r:=⟨some ⟨w.heap.size,0,none⟩,f.toNat,e,1,b.toNat,replicate b.toNat (.slice none 0 0)⟩) cN) λs i=>⟨_,_,bc s i⟩
 obtain⟨H',_,Q⟩:=ae.oT (d:=d) az (l:=.row (some ⟨w.heap.size,0,none⟩) f.toNat b.toNat) (blk:=.bS e T' h (replicate b.toNat (true,[])) (some f.toNat) none) (sv:=.c (.ax d)) i ⟨_,f.toNat,_,_,I,by rw[List.length_replicate];exact fi,by rw[List.length_replicate],T,rfl,λq M=>by cases M;rfl⟩ ⟨_,_,_,fi,rfl⟩ K;exact O _ _ _ _ Q
end
inductive qY where
 |F7
 |st
 |mk
 |pe (gk gv:aZ)
 |Cm
 |F8
 |F9
 |Tx (l:List (Int×Nat))
 |Ty
 |uS
 |nh
 |Tz
 |TA
def zW(X:bx)(t:TypeId):aZ->Bool
 |.pair a b=>zQ X t (.pair a b)
 |_=>false
theorem Cn(c:X.a1.ok X.P)(h:zW X t g=true):qW X.P t g:=by
 cases g with
 |pair a b=>
  have U:zQ X t (.pair a b)=true:=h;unfold zQ at U
  split at U
  ·grind [not_eq_true',qW.of]
  grind
 |_=>cases h
def Co:aZ->Value->Bool
 |.int k,.int k' z=>decide (k'=k)&&decide (z=0)
 |.bool,.bool b=>!b
 |_,_=>false
theorem TB{v:Value}(h:Co g v=true):∀B w,dZ B w g g.zero v:=by
 intro B w;cases g with
 |int k=>
  cases v with
  |int k' z=>
   unfold Co at h;rw[and_eq_true,decide_eq_true_eq,decide_eq_true_eq]at h;rw[h.1,h.2];exact(rfl:[Value.int k 0]=[Value.int k 0])
  |_=>cases h
 |bool=>
  cases v with
  |bool b=>
   cases b with
   |true=>cases h
   |false=>exact(rfl:[Value.bool false]=[Value.bool false])
  |_=>cases h
 |_=>cases h
def Ga(gv:aZ)(dC:cm):Bool:=match gv,dC.ti.zero with
 |.fn,.nilFunc=>true
 |.pair a b,.agg _=>decide (dC.g=some (.pair a b))
 |.int k,.int k' z=>decide (k'=k)&&decide (z=0)
 |.bool,.bool b=>!b
 |_,_=>false
theorem TC{dC:cm}(c:cm.ok P fB dC)(h:Ga gv dC=true):∀B w,dZ B w gv gv.zero dC.ti.zero:=by
 intro B w;unfold Ga at h
 split at h
 ·rename_i bw
  rw[bw];exact(rfl:[Value.nilFunc]=[Value.nilFunc])
 ·rename_i a b _ bw
  obtain⟨_,U,_⟩:=c.g _ (of_decide_eq_true h);rw[bw]at U;refine⟨_,bw,?_⟩;have ah:=bN.eO (B:=B) (w:=w) (aZ.pair a b);rw[<- U]at ah;exact ah
 ·rename_i bw
  rw[and_eq_true,decide_eq_true_eq,decide_eq_true_eq]at h;rw[bw,h.1,h.2];exact(rfl:[Value.int _ 0]=[Value.int _ 0])
 ·rename_i b bw
  rw[bw];cases b with
  |true=>cases h
  |false=>exact(rfl:[Value.bool false]=[Value.bool false])
 grind
def TD:List (Int×Nat)->Int->Option Nat
 |[],_=>none
 |(k,f)::r,z=>cond (decide (z=k)) (some f) (TD r z)
def rP(f:Nat):Option (Option Nat)->Bool
 |some (some h)=>beq h f
 |_=>false
theorem afS{f:Nat}{o:Option (Option Nat)}(h:rP f o=true):o=some (some f):=by
 unfold rP at h
 split at h
 ·rw[eq_of_beq_eq_true h]
 grind
theorem afT(j:X.a1.ok X.P)(gk gv:aZ){k:IntKind}{z:Int}{g:Bool}(c:o.op=.makeMap t (some u))(b:o.guard=none/\o.dst=some d)(az:blt d n=true)(bj:X.a1.find t=some bB)(c6:bB.ti.desc=.map e3 fB)(hu:bu X st.L u=some (g,.c (.val (.int k z))))(i:g=true) :
  hh X n o st ⟨(d,.c (.dv d))::fS d .dead st.L,(d,.mp gk gv [] none)::en d .dead st.H⟩:=by
 intro R W aC ks env B ai H a w ae KK q p;obtain⟨v,J,U⟩:=ae.aD hu i;rw[show v=_ from U]at J;have e:=ae.bV.aD J;have bl:asIntOf (Value.int k z)=pure (k,z):=rfl;have m:X.P.underlying t=some (.map e3 fB):=by rw[<- c6];exact(cd.get j bj).ti.1
 refine(hD ae.bV b.1 b.2 (dH az) (v:=.map (some w.heap.size)) (w':=w.alloc (.map #[] 0)) (by simp[execOp,c,e,Instr.makeMap,newObj,underlying,asInt,bl,m,Sem.run]) λaS f=>?_);obtain⟨H',_,ah⟩:=ae.oT (d:=d) az (l:=.blk w.heap.size) (blk:=.mp gk gv [] none) (sv:=.c (.dv d)) (ae.aQ.alloc (.map #[] 0)) ⟨_,[],0,fi,rfl,rfl,⟨List.Pairwise.nil,λ_ h=>by cases h⟩,λ_ h=>by cases h⟩ ⟨_,fi,rfl⟩ f;exact p aS _ _ H' (ah)
theorem afU(r:X.a1.ok X.P){id:Nat}{l:List (gk.D×gv.D)}(p:o.op=.range t u)(i:o.guard=none/\o.dst=some d)(az:blt d n=true)(bj:X.a1.find t=some bB)(c6:bB.ti.desc=.map e3 fB)(hu:bu X st.L u=some (true,.c (.dv id)))(s:bh st.H id=some (.mp gk gv l iW))(ao:l.isEmpty=true)(A:beq id d=false) :
  hh X n o st ⟨(d,.c (.ptr d 0))::fS d .dead st.L,(d,.hS id)::en d .dead (qr id (.mp gk gv [] none) st.H)⟩:=by
 intro R W aC ks env B ai H a w ae KK L D;cases l with
 |cons x l=>cases ao
 |nil=>
  obtain⟨I,J,b,ag,rfl⟩:=ae.aD hu rfl;obtain⟨c,K,⟨b',f,clock,m,rfl,F,cY,_⟩,k,G⟩:=ae.heap.put s;rw[ag]at m;cases m;have E:=(ae.aQ.ok _ k.more.mem).2;have e:=(cd.get r bj).ti.1;rw[c6]at e;have C:K (.obj b (.map f.toArray clock))=H:=by obtain⟨X,Y,e,y⟩:=k;rw[y,e]
  have j:=G (.mp gk gv [] none) (.obj b (.map f.toArray clock)) ⟨b,f,clock,ag,rfl,F,cY,λ_ h=>by cases h⟩;rw[C]at j;have g:bO X R W aC n ks env B ai H ⟨st.L,qr id (.mp gk gv [] none) st.H⟩ a w:=⟨ae.size,ae.defs,ae.has,j,ae.aQ,ae.sub,ae.new,ae.dB,ae.base,ae.eg⟩
  have z:(Instr.range t (.map (some b))).run X.P w=.ok (.pointer (some ⟨w.heap.size,0,none⟩)) (w.alloc (.mapIter (some b) clock #[] clock)):=by
   simp[Instr.range,run_underlying e,MapKept.run_getObj_map E,newObj,Sem.run,Result.andThen]
  refine(hD g.bV i.1 i.2 (dH az) (v:=.pointer (some ⟨w.heap.size,0,none⟩)) (w':=w.alloc (.mapIter (some b) clock #[] clock)) (by simp[execOp,p,ae.bV.aD J,z]) λaS q=>?_);obtain⟨H',_,ah⟩:=g.oT (d:=d) az (l:=.blk w.heap.size) (blk:=.hS id) (sv:=.c (.ptr d 0)) (g.aQ.alloc _) ⟨_,b,clock,fi,by rw[ki id (ne_of_beq_eq_false A)];exact ag,rfl⟩ ⟨_,fi,rfl⟩ q;exact D aS _ _ H' ah
theorem afV{h id:Nat}(l:o.op=.next u false)(f:o.guard=none/\o.dst=some d)(az:blt d n=true)(hu:bu X st.L u=some (true,.c (.ptr id 0)))(A:bh st.H id=some (.hS h))(r:bh st.H h=some (.mp gk gv [] iW)):hh X n o st ⟨(d,.cE [.c (.val (.bool false))])::st.L,st.H⟩:=by
 intro R W aC ks env B ai H a w ae KK L s;obtain⟨I,J,b,ag,rfl⟩:=ae.aD hu rfl;obtain⟨cC,F,⟨m,y,clock,C,rfl,D,_⟩,E⟩:=ae.heap.gA r;have j:=(ae.aQ.ok _ E.more.mem).2;obtain⟨c,K,⟨b',G,q,g,i,rfl⟩,t⟩:=ae.heap.gA A;rw[ag]at g;cases g;rw[C]at i;cases i;have z:=(ae.aQ.ok _ t.more.mem).2;have k:y=[]:=D;subst k
 rcases run_next_at (P:=X.P) w o.type b m q q #[] #[] clock z j (λx ak=>by simp at ak) (le_refl _)with⟨_,c2⟩|⟨e,he,_⟩
 ·refine(hD ae.bV f.1 f.2 (dH az) (v:=.tuple #[.bool false]) (w':=w) (by simp[execOp,l,ae.bV.aD J,c2]) λaS p=>?_)
  exact s aS _ _ _ (ae.set (sv:=.cE [.c (.val (.bool false))]) ⟨[.bool false],rfl,.bool false,[],rfl,rfl,rfl⟩ p)
 ·simp[leftOf]at he
theorem fK.len:∀ {l:List (gk.D×gv.D)} {a:List MapEntry},fK B w gk gv l a->a.length=l.length
 |[],_,h=>by rw[show _=[] from h];rfl
 |_::_,_,⟨_,_,e,_,_,h⟩=>by rw[e,List.length_cons,List.length_cons,fK.len h]
theorem afW(j:X.a1.ok X.P){id:Nat}{l:List (gk.D×gv.D)}(h:o.op=.call { callee:=.builtin .len,args:=#[u],argTypes:=#[t] })(e:o.guard=none/\o.dst=some d)(az:blt d n=true)(bj:X.a1.find t=some bB)(c6:bB.ti.desc=.map e3 fB)(hu:bu X st.L u=some (true,.c (.dv id)))(k:bh st.H id=some (.mp gk gv l iW)):hh X n o st ⟨(d,.c (.val (.int .i64 (l.length:Int))))::st.L,st.H⟩:=by
 intro R W aC ks env B ai H a w ae KK z m;obtain⟨y,J,b,ag,rfl⟩:=ae.aD hu rfl;obtain⟨c,K,⟨b',s,clock,g,rfl,r,cY,_⟩,p⟩:=ae.heap.gA k;rw[ag]at g;cases g;have q:=(ae.aQ.ok _ p.more.mem).2;have f:=(cd.get j bj).ti.1;rw[c6]at f;refine(hD ae.bV e.1 e.2 (dH az) (v:=.int .i64 (l.length:Int)) (w':=w) ?_ λaS i=>?_)
 ·simp[execOp,h,resolve,invoke,builtin,Builtin.len_,ae.bV.aD J,run_underlying f,MapKept.run_getObj_map q,goInt,r.len]
 ·exact m aS _ env H (ae.set (sv:=.c (.val (.int .i64 (l.length:Int)))) rfl i)
theorem afX(A:Option Addr)(s c:Nat):ke A 0 s c=A:=by
 unfold ke
 split
 ·rfl
 ·cases A with
  |none=>rfl
  |some a=>simp[Addr.add]
theorem afY(p:X.a1.ok X.P){e:TypeId}{r:Bool}{dW:bn}{id f ab:Nat}{Z:aZ}{l b:List g.D}{aK:TypeDesc}{ae:Value}(F:o.op=.call ⟨.builtin .copy,⟨[x,y]⟩,⟨[t,t]⟩⟩)(E:o.guard=none/\o.dst=some d)(az:blt d n=true)(bj:X.a1.find t=some bB)(c6:bB.ti.desc=.slice e)(he:X.a1.find e=some ⟨⟨aK,f,ab,ae⟩,some Z⟩)(ak:bu X st.L x=some (r,.c (.ax id)))(G:r=true)(aA:bu X st.L y=some (g2,dW))(P:g2=true)(N:bh st.H id=some (.row e g l cap))(Q:beq g.size f=true)(af:nD st g dW=some b)(ah:blt 0 f=true)(aa:decide (b.length<=l.length)=true):hh X n o st ⟨(d,.c (.val (.int .i64 (b.length:Int))))::st.L,qr id (.row e g (b++l.drop b.length) cap) st.H⟩:=by
 intro R W aC ks env B ai H a w h KK lo O;obtain⟨vx,am,ac⟩:=h.aD ak G;obtain⟨vy,Y,ad⟩:=h.aD aA P;obtain⟨T,M,J,L⟩:=n2 (cd.get p bj).ti (cd.get p he).ti;have j:=eq_of_beq_eq_true Q;have an:=of_decide_eq_true aa;obtain⟨al,cC,s,rfl,v,u⟩:=tx h af ad;obtain⟨A,c,m,C,rfl⟩:=ac;obtain⟨et,K,⟨aj,k',xs,D,rfl,U,V⟩,q,ag⟩:=h.oU (b':=.row e g (b++l.drop b.length) cap) N;rw[C]at D;cases D;rw[j]at q u;have z:(b++l.drop b.length).length=l.length:=by
  grind
 have I:aD (full a) x=some (.slice (ke A 0 f c) (l.length-0) (c-0)):=by
  grind [afX]
 refine QC h.sym F E az M J c6 L I Y q u (Flat.jr (λ_ _=>bN.jr) v) (dH ah) (by omega) λaS w' bt=>?_
 have k:=Flat.part (i:=0) (λ_ _=>bN.length) U v;rw[j]at k;simp only[List.take_zero,List.nil_append,zero_add]at k;obtain⟨H',S⟩:=ag (.row A c e g.size l.length (xs.take (0 * f)++s++xs.drop (0 * f+s.length))) a w' ⟨A,c,_,by rw[z];exact C,by rw[z],by simpa using k,V⟩ (by rw[j];exact bt.aQ) h.bV;exact O aS w' _ H' (S.set rfl bt.st)
def Cp(X:bx)(n:Nat)(st:aP):qY->Oper->Option (Bool×aP×bG)
 |.pe gk gv,⟨some d,.makeMap _ none,_,_,_,none⟩=>match blt d n with
  |true=>some (true,⟨(d,.c (.dv d))::fS d .dead st.L,(d,.mp gk gv [] none)::en d .dead st.H⟩,[d])
  |false=>none
 |.pe gk gv,⟨some d,.makeMap t (some u),_,_,_,none⟩=>match blt d n,X.a1.find t,bu X st.L u with
  |true,some ⟨⟨.map _ _,_,_,_⟩,_⟩,some (g,.c (.val (.int _ _)))=>some (g,⟨(d,.c (.dv d))::fS d .dead st.L,(d,.mp gk gv [] none)::en d .dead st.H⟩,[d])
  |_,_,_=>none
 |.Cm,⟨some d,.lookup t u x false,_,_,_,none⟩=>match blt d n,X.a1.find t,bu X st.L u,bu X st.L x with
  |true,some ⟨⟨.map e3 fB,_,_,_⟩,_⟩,some (true,.c (.dv id)),some (g,fx)=>match bh st.H id,X.a1.find fB with
   |some (.mp gk gv l _),some dC=>match dec gk fx.cells,zW X e3 gk&&(mn gk fx&&Co gv dC.ti.zero)with
    |some (c,z,[]),true=>match pX gv ((cX gk gv l z).getD gv.zero)with
     |some sa=>some (g&&c,⟨(d,.a sa)::st.L,st.H⟩,[d])
     |none=>none
    |_,_=>none
   |_,_=>none
  |_,_,_,_=>none
 |.F8,⟨none,.mapUpdate t u x y,_,_,_,none⟩=>match X.a1.find t,bu X st.L u,bu X st.L x,bu X st.L y with
  |some ⟨⟨.map e3 _,_,_,_⟩,_⟩,some (true,.c (.dv id)),some (g,fx),some (g2,dW)=>match bh st.H id with
   |some (.mp gk gv l _)=>match dec gk fx.cells,dec gv dW.cells,zW X e3 gk&&(mn gk fx&&mn gv dW)with
    |some (c,z,[]),some (cC,e8,[]),true=>some (g&&(c&&(g2&&cC)),⟨st.L,qr id (.mp gk gv (ez gk gv l z e8) none) st.H⟩,[id])
    |_,_,_=>none
   |_=>none
  |_,_,_,_=>none
 |.F9,⟨some d,.lookup t u x true,_,_,_,none⟩=>match blt d n,X.a1.find t,bu X st.L u,bu X st.L x with
  |true,some ⟨⟨.map e3 fB,_,_,_⟩,_⟩,some (true,.c (.dv id)),some (g,.c (.val (.int k z)))=>match bh st.H id,X.a1.find e3,X.a1.find fB with
   |some (.mp (.int k') gv l _),some ⟨⟨.int a,_,_,_⟩,_⟩,some dC=>match decEq k' k,decEq a k,Ga gv dC,pX gv ((cX (.int k') gv l z).getD gv.zero)with
    |isTrue _,isTrue _,true,some sa=>some (g,⟨(d,.cE [sa,.c (.val (.bool (cX (.int k') gv l z).isSome))])::st.L,st.H⟩,[d])
    |_,_,_,_=>none
   |_,_,_=>none
  |_,_,_,_=>none
 |.Tx dp,⟨some d,.lookup t u x false,_,_,_,none⟩=>match blt d n,X.a1.find t,bu X st.L u,bu X st.L x with
  |true,some ⟨⟨.map e3 fB,_,_,_⟩,_⟩,some (true,.c (.dv id)),some (g,.c (.val (.int k z)))=>match bh st.H id,X.a1.find e3,X.a1.find fB,TD dp z with
   |some (.mp (.int k') .fn l _),some ⟨⟨.int a,_,_,_⟩,_⟩,some dC,some f=>match decEq k' k,decEq a k,Ga .fn dC with
    |isTrue _,isTrue _,true=>some (g&&rP f (cX (.int k') .fn l z),⟨(d,.a (.c (.fn f [])))::st.L,st.H⟩,[d])
    |_,_,_=>none
   |_,_,_,_=>none
  |_,_,_,_=>none
 |.nh,⟨none,.insert t u x y,_,_,_,none⟩=>match X.a1.find t,bu X st.L u,bu X st.L x,bu X st.L y with
  |some ⟨⟨.map e3 _,_,_,_⟩,_⟩,some (true,.c (.dv id)),some (g,.c (.val (.int k z))),some (g2,dW)=>match bh st.H id,X.a1.find e3 with
   |some (.mp (.int k') gv l _),some ⟨⟨.int a,_,_,_⟩,_⟩=>match decEq k' k,decEq a k,dec gv dW.cells,mn gv dW with
    |isTrue _,isTrue _,some (cC,e8,[]),true=>some (g&&(g2&&cC),⟨st.L,qr id (.mp (.int k') gv (ez (.int k') gv l z e8) none) st.H⟩,[id])
    |_,_,_,_=>none
   |_,_=>none
  |_,_,_,_=>none
 |.Tz,⟨some d,.range t u,_,_,_,none⟩=>match blt d n,X.a1.find t,bu X st.L u with
  |true,some ⟨⟨.map _ _,_,_,_⟩,_⟩,some (true,.c (.dv id))=>match beq id d,bh st.H id with
   |false,some (.mp gk gv l _)=>some (l.isEmpty,⟨(d,.c (.ptr d 0))::fS d .dead st.L,(d,.hS id)::en d .dead (qr id (.mp gk gv [] none) st.H)⟩,[d,id])
   |_,_=>none
  |_,_,_=>none
 |.TA,⟨some d,.next u false,_,_,_,none⟩=>match blt d n,bu X st.L u with
  |true,some (true,.c (.ptr id 0))=>match bh st.H id with
   |some (.hS j)=>match bh st.H j with
    |some (.mp _ _ [] _)=>some (true,⟨(d,.cE [.c (.val (.bool false))])::st.L,st.H⟩,[d])
    |_=>none
   |_=>none
  |_,_=>none
 |.Ty,⟨some d,.call ⟨.builtin .len,⟨[u]⟩,⟨[t]⟩⟩,_,_,_,none⟩=>match blt d n,X.a1.find t,bu X st.L u with
  |true,some ⟨⟨.map _ _,_,_,_⟩,_⟩,some (true,.c (.dv id))=>match bh st.H id with
   |some (.mp _ _ l _)=>some (true,⟨(d,.c (.val (.int .i64 (l.length:Int))))::st.L,st.H⟩,[d])
   |_=>none
  |_,_,_=>none
 |.uS,⟨some d,.call ⟨.builtin .copy,⟨[x,y]⟩,⟨[t,o]⟩⟩,_,_,_,none⟩=>match blt d n,beq o t,X.a1.find t,bu X st.L x,bu X st.L y with
  |true,true,some ⟨⟨.slice e,_,_,_⟩,_⟩,some (m,.c (.ax id)),some (g2,dW)=>match X.a1.find e,bh st.H id with
   |some ⟨⟨_,h,_,_⟩,some _⟩,some (.row i g l cap)=>match beq i e,beq g.size h,nD st g dW,blt 0 h with
    |true,true,some b,true=>some (m&&(g2&&decide (b.length<=l.length)),⟨(d,.c (.val (.int .i64 (b.length:Int))))::st.L,qr id (.row e g (b++l.drop b.length) cap) st.H⟩,[d,id])
    |_,_,_,_=>none
   |_,_=>none
  |_,_,_,_,_=>none
 |_,_=>none
section
variable {X:bx} {n:Nat} {st st':aP} {o:Oper}
theorem af0(a:X.a1.ok X.P){m:qY}{c:Bool}(h:Cp X n st m o=some (c,st',V))(aa:c=true):hh X n o st st':=by
 unfold Cp at h
 split at h
 ·split at h
  ·rename_i az
   cases h;exact aeG _ _ rfl ⟨rfl,rfl⟩ az
  ·cases h
 ·split at h
  ·rename_i az bj hu
   cases h;exact afT a _ _ rfl ⟨rfl,rfl⟩ az bj rfl hu aa
  ·cases h
 ·split at h
  ·rename_i az bj hu ak
   split at h
   ·rename_i ao he
    split at h
    ·rename_i nQ ab
     simp only[and_eq_true]at ab
     split at h
     ·rename_i mo
      cases h;rw[and_eq_true]at aa;exact afN a (Cn a ab.1) rfl ⟨rfl,rfl⟩ az bj rfl he (TB ab.2.2) hu ak aa.1 nQ aa.2 ab.2.1 ao mo
     ·cases h
    ·cases h
   ·cases h
  ·cases h
 ·split at h
  ·rename_i bj hu ak aA
   split at h
   ·rename_i ao
    split at h
    ·rename_i nQ ub ab
     simp only[and_eq_true]at ab;cases h;simp only[and_eq_true]at aa;exact afO a (Cn a ab.1) rfl ⟨rfl,rfl⟩ bj rfl hu ak aa.1 nQ aa.2.1 ab.2.1 aA aa.2.2.1 ao ub aa.2.2.2 ab.2.2
    ·cases h
   ·cases h
  ·cases h
 ·split at h
  ·rename_i az bj hu ak
   split at h
   ·rename_i ao ab he
    split at h
    ·rename_i d b _ _ _ bw mo
     subst d;subst b;cases h;exact aet a rfl ⟨rfl,rfl⟩ az bj rfl ab rfl he (TC (cd.get a he) bw) hu ak aa ao mo
    ·cases h
   ·cases h
  ·cases h
 ·split at h
  ·rename_i az bj hu ak
   split at h
   ·rename_i ao ab he _
    split at h
    ·rename_i d b _ _ bw
     subst d;subst b;cases h;rw[and_eq_true]at aa;exact aeH a rfl ⟨rfl,rfl⟩ az bj rfl ab rfl he (TC (cd.get a he) bw) hu ak aa.1 ao (by rw[afS aa.2];rfl)
    ·cases h
   ·cases h
  ·cases h
 ·split at h
  ·rename_i bj hu ak aA
   split at h
   ·rename_i ao ab
    split at h
    ·rename_i d b _ _ _ _ ub f
     subst d;subst b;cases h;simp only[and_eq_true]at aa;exact aeJ a rfl ⟨rfl,rfl⟩ bj rfl ab rfl hu ak aa.1 aA aa.2.1 ao ub aa.2.2 f
    ·cases h
   ·cases h
  ·cases h
 ·split at h
  ·rename_i az bj hu
   split at h
   ·rename_i i ao
    cases h;exact afU a rfl ⟨rfl,rfl⟩ az bj rfl hu ao aa i
   ·cases h
  ·cases h
 ·split at h
  ·rename_i az hu
   split at h
   ·rename_i hi
    split at h
    ·rename_i ao
     cases h;exact afV rfl ⟨rfl,rfl⟩ az hu hi ao
    ·cases h
   ·cases h
  ·cases h
 ·split at h
  ·rename_i az bj hu
   split at h
   ·rename_i ao
    cases h;exact afW a rfl ⟨rfl,rfl⟩ az bj rfl hu ao
   ·cases h
  ·cases h
 ·split at h
  ·rename_i az k bj ak aA
   split at h
   ·rename_i he ao
    split at h
    ·rename_i U ah g e
     have b:=eq_of_beq_eq_true U;have j:=eq_of_beq_eq_true k;subst b;subst j;cases h;simp only[and_eq_true]at aa;exact afY a rfl ⟨rfl,rfl⟩ az bj rfl he ak aa.1 aA aa.2.1 ao ah g e aa.2.2
    ·cases h
   ·cases h
  ·cases h
 ·cases h
theorem af1{m:qY}{c:Bool}(h:Cp X n st m o=some (c,st',V)):di V st st':=by
 unfold Cp at h
 split at h
 ·split at h
  ·cases h
   exact⟨cy.cons (lU _ _ _),cy.cons (V:=[]) (kX _ _ _)⟩
  ·cases h
 ·split at h
  ·cases h
   exact⟨cy.cons (lU _ _ _),cy.cons (V:=[]) (kX _ _ _)⟩
  ·cases h
 ·split at h
  ·split at h
   ·split at h
    ·split at h
     ·cases h;exact qV
     ·cases h
    ·cases h
   ·cases h
  ·cases h
 ·split at h
  ·split at h
   ·split at h
    ·cases h;exact⟨cy.refl _,ln (lp _ _)⟩
    ·cases h
   ·cases h
  ·cases h
 ·split at h
  ·split at h
   ·split at h
    ·cases h;exact qV
    ·cases h
   ·cases h
  ·cases h
 ·split at h
  ·split at h
   ·split at h
    ·cases h;exact qV
    ·cases h
   ·cases h
  ·cases h
 ·split at h
  ·split at h
   ·split at h
    ·cases h;exact⟨cy.refl _,ln (lp _ _)⟩
    ·cases h
   ·cases h
  ·cases h
 ·split at h
  ·split at h
   ·cases h
    exact⟨cy.cons (lU _ _ _),cy.cons (cy.trans (V:=[_]) (V2:=[]) (ln (lp _ _)) (kX _ _ _))⟩
   ·cases h
  ·cases h
 ·split at h
  ·split at h
   ·split at h
    ·cases h;exact qV
    ·cases h
   ·cases h
  ·cases h
 ·split at h
  ·split at h
   ·cases h;exact qV
   ·cases h
  ·cases h
 ·split at h
  ·split at h
   ·split at h
    ·cases h
     exact⟨cy.cons (cy.refl _),(ln (lp _ _)).more λq a=>(gY a).2⟩
    ·cases h
   ·cases h
  ·cases h
 ·cases h
end
section
variable {X:bx} {n:Nat} {st st':aP} {d:Nat} {o:Oper}
def xE(X:bx)(n:Nat)(st:aP):qY->Oper->Option (Bool×aP×bG)
 |.F7,⟨some d,.load t x,_,_,_,none⟩=>match blt d n,X.a1.find t,bu X st.L x with
  |true,some bB,some (a,.c (.eT id 1 i 0))=>match mM bB.ti.desc,beq d id,bh st.H id with
   |false,false,some (.bS T T' g l cap none)=>some (a&&(decide (i<l.length)&&(l.getD i (false,[])).1),⟨(d,.c (.ax d))::fS d .dead st.L,(d,.row T' g (l.getD i (false,[])).2 none)::qr id (.bS T T' g l cap (some (i,some d))) (en d .dead st.H)⟩,[d,id])
   |false,_,some (.bS _ _ _ _ _ (some (j,some d2)))=>some (a&&decide (i=j),⟨(d,.c (.ax d2))::st.L,st.H⟩,[d])
   |_,_,_=>none
  |_,_,_=>none
 |.st,⟨none,.store t x y,_,_,_,none⟩=>match X.a1.find t,bu X st.L x,bu X st.L y with
  |some bB,some (a,.c (.eT id 1 i 0)),some (g2,.c (.ax d))=>match beq bB.ti.size 1,bh st.H id with
   |true,some (.bS T T' g l cap h)=>some (a&&(g2&&(xw h i&&decide (i<l.length))),⟨st.L,qr id (.bS T T' g l cap (some (i,some d))) st.H⟩,[id])
   |_,_=>none
  |some bB,some (a,.c (.eT id 1 i 0)),some (g2,.c (.bz g' f _))=>match beq bB.ti.size 1,bh st.H id with
   |true,some (.bS T T' g l cap h)=>match decEq g' g with
    |isTrue e=>some (a&&(g2&&(xw h i&&decide (i<l.length))),⟨st.L,qr id (.bS T T' g (l.set i (false,qT e f)) cap none) st.H⟩,[id])
    |isFalse _=>none
   |_,_=>none
  |_,_,_=>none
 |.mk,⟨some d,.makeSlice t x y,_,_,_,none⟩=>match blt d n,X.a1.find t,bu X st.L x,bu X st.L y with
  |true,some ⟨⟨.slice e,_,_,_⟩,_⟩,some (a,.c (.val (.int _ c))),some (g2,.c (.val (.int _ b)))=>match X.a1.find e with
   |some ⟨⟨.slice T',_,k,_⟩,some (.ax g)⟩=>some (a&&(g2&&(decide (0<=c)&&decide (c<=b)&&fh k b)),⟨(d,.c (.ax d))::fS d .dead st.L,(d,.bS e T' g (replicate c.toNat (true,[])) (some b.toNat) none)::en d .dead st.H⟩,[d])
   |_=>none
  |_,_,_,_=>none
 |m,o=>Cp X n st m o
theorem LQ(a:X.a1.ok X.P){m:qY}{c:Bool}(h:xE X n st m o=some (c,st',V))(aa:c=true):hh X n o st st':=by
 unfold xE at h
 split at h
 ·split at h
  ·rename_i az bj ak
   split at h
   ·rename_i bl bc ao
    cases h;simp only[and_eq_true]at aa;exact afP a rfl ⟨rfl,rfl⟩ az bj bl ak aa.1 ao bc aa.2.1 aa.2.2
   ·rename_i bl ao
    cases h;simp only[and_eq_true]at aa;exact jq.sJ (S5 a rfl bj bl ak aa.1 ao aa.2) ⟨rfl,rfl⟩ az
   ·cases h
  ·cases h
 ·split at h
  ·rename_i bj ak aA
   split at h
   ·rename_i b ao
    cases h;simp only[and_eq_true]at aa;exact S7 a rfl ⟨rfl,rfl⟩ bj b ak aa.1 aA aa.2.1 ao aa.2.2.1 aa.2.2.2
   ·cases h
  ·rename_i bj ak aA
   split at h
   ·rename_i b ao
    split at h
    ·rename_i e _
     subst e;cases h;simp only[and_eq_true]at aa;exact afb a rfl ⟨rfl,rfl⟩ bj b ak aa.1 aA aa.2.1 ao aa.2.2.1 aa.2.2.2
    ·cases h
   ·cases h
  ·cases h
 ·split at h
  ·rename_i az bj ak aA
   split at h
   ·rename_i he
    cases h;rw[and_eq_true,and_eq_true]at aa;exact afQ _ _ a rfl ⟨rfl,rfl⟩ az bj rfl he rfl ak aa.1 aA aa.2.1 aa.2.2
   ·cases h
  ·cases h
 ·exact af0 a h aa
theorem LR{m:qY}{c:Bool}(h:xE X n st m o=some (c,st',V)):di V st st':=by
 unfold xE at h
 split at h
 ·split at h
  ·split at h
   ·cases h
    exact⟨cy.cons (lU _ _ _),cy.cons (cy.trans (V:=[]) (V2:=[_]) (kX _ _ _) (ln (lp _ _)))⟩
   ·cases h
    exact qV
   ·cases h
  ·cases h
 ·split at h
  ·split at h
   ·cases h;exact⟨cy.refl _,ln (lp _ _)⟩
   ·cases h
  ·split at h
   ·split at h
    ·cases h;exact⟨cy.refl _,ln (lp _ _)⟩
    ·cases h
   ·cases h
  ·cases h
 ·split at h
  ·split at h
   ·cases h
    exact⟨cy.cons (lU _ _ _),cy.cons (V:=[]) (kX _ _ _)⟩
   ·cases h
  ·cases h
 ·exact af1 h
end
end
section
def rQ:ed->Bool->Bool
 |[],x=>x
 |c::r,x=>rQ r (c&&x)
theorem nR:∀ {A:ed} {x:Bool},rQ A x=true->(∀c∈A,c=true)/\x=true
 |[],_,h=>⟨(λ_ h=>by cases h),h⟩
 |c::r,x,h=>by
  obtain⟨J,U⟩:=nR (A:=r) h
  grind
inductive In where
 |n (k:Nat)
 |w (x:ng)
 |c (ps:eh)
 |y
 |t (m:qY)
 |f (j:Nat) (ks:bR)
abbrev lW(aT:Type):=Option (Nat->dT->Option aT->Option aT->Option aT)
def Cq:Option b7->Option Nat
 |some (.a (.c (.val (.func (.yield l) ⟨[]⟩ ⟨[]⟩))))=>some l
 |_=>none
def ue(L:cS):Operand->Option (FuncId×dT×dT)
 |.func f=>some (f,[],[])
 |.tmp s=>match bh L s with
  |some (.a (.c (.fn f ids)))=>some (f,[],qJ ids)
  |some (.a (.c (.jD f id)))=>some (f,[.c (.ptr id 0)],[])
  |_=>none
 |_=>none
def takeN{α:Type}:Nat->List α->List α
 |0,_=>[]
 |_,[]=>[]
 |k+1,x::l=>x::takeN k l
def Gb{α:Type}:Nat->List α->List α
 |0,l=>l
 |_,[]=>[]
 |k+1,_::l=>Gb k l
section
variable {X:bx} {aT:Type}
def Cr(X:bx)(n:Nat)(f:FuncId)(ps:eh)(d:Nat)(st:aP)(args:dT)(k:aP->Option aT):List (bA X)->Option aT
 |[]=>none
 |e::T=>match beq e.f f with
  |true=>match vn X n e ps st.H args with
   |some p=>(e.m p.d).bind λr=>match after X e ps st d p r with
    |some st'=>k st'
    |none=>none
   |none=>Cr X n f ps d st args k T
  |false=>Cr X n f ps d st args k T
abbrev qZ(aT:Type):=gu->bG->ed->aP->Option aT
def xF(X:bx)(n:Nat)(T:List (bA X))(ps:eh)(V:bG)(A:ed)(st:aP)(k:qZ aT):Oper->Option aT
 |⟨some d,.call ⟨.value u,⟨xs⟩,_⟩,_,_,_,none⟩=>match blt d n,ue st.L u,pL X st.L xs with
  |true,some (f,pre,post),some (c,args)=>ar (rQ (c::A) true) (Cr X n f ps d st (pre++(args++post)) (λst'=>k [] (d::(lO ps++V)) [] st') T)
  |_,_,_=>none
 |_=>none
def Cs(X:bx)(n:Nat)(f:FuncId)(d:Nat)(g:Bool)(st:aP)(args:dT)(k:bn->Option aT):List (bA X)->Option aT
 |[]=>none
 |e::T=>match beq e.f f with
  |true=>match vn X n e [] st.H args with
   |some p=>(cond g (e.m p.d) (some e.kW)).bind λr=>match after X e [] st d p r,(e.out p.d r).2 with
    |some ⟨(_,.a sa)::_,_⟩,[]=>k sa
    |_,_=>none
   |none=>Cs X n f d g st args k T
  |false=>Cs X n f d g st args k T
def zX(X:bx)(n:Nat)(T:List (bA X))(cF:List (Option Nat))(G:gu)(V:bG)(A:ed)(st:aP)(k:qZ aT):Oper->Option aT
 |⟨some d,.call ⟨.value u,⟨xs⟩,_⟩,_,_,_,some (j,want)⟩=>match nth cF j with
  |some (some s)=>match kY st.L s want with
   |some g=>match blt d n,beq s d,ue (lV (vr cF G 8 j want) G st.L) u,pL X (lV (vr cF G 8 j want) G st.L) xs with
    |true,false,some (f,pre,post),some (c,args)=>ar (rQ (ew g c::A) true) (Cs X n f d g st (pre++(args++post)) (λsa=>k ((d,j,want)::pd cF d G) (d::V) [] ⟨(d,.may g sa)::st.L,st.H⟩) T)
    |_,_,_,_=>none
   |none=>none
  |_=>none
 |_=>none
def Ct(X:bx)(n:Nat)(T:List (bA X))(cF:List (Option Nat))(G:gu)(V:bG)(A:ed)(st:aP)(o:Oper)(k:qZ aT):Option aT:=match o.guard with
 |none=>match vt X cF [] G st o.op with
  |some (c,sa)=>match o.dst with
   |some d=>match blt d n with
    |true=>k (pd cF d G) (d::V) (c::A) ⟨(d,.a sa)::st.L,st.H⟩
    |false=>none
   |none=>none
  |none=>match xD X n st o with
   |some (c,st',W)=>k [] (W++V) (c::A) st'
   |none=>match kO X n cF st o with
    |.ok c st'=>k [] (xB X st.L o++V) (c::A) st'
    |.stop=>xF X n T [] V A st k o
 |some (j,want)=>match nth cF j with
  |some (some s)=>match kY st.L s want with
   |some g=>match vt X cF (vr cF G 8 j want) G st o.op with
    |some (c,sa)=>match o.dst with
     |some d=>match blt d n,beq s d with
      |true,false=>k ((d,j,want)::pd cF d G) (d::V) (ew g c::A) ⟨(d,.may g sa)::st.L,st.H⟩
      |_,_=>none
     |none=>none
    |none=>zX X n T cF G V A st k o
   |none=>none
  |_=>none
def Cu(X:bx)(n:Nat)(T:List (bA X))(cF:List (Option Nat)):List Oper->gu->bG->ed->aP->qZ aT->Option aT
 |[],G,V,A,st,k=>k G V A st
 |o::l,G,V,A,st,k=>Ct X n T cF G V A st o λb c a st'=>Cu X n T cF l b c a st' k
def LS(X:bx)(n:Nat)(ct:lW aT)(st:aP)(A:ed)(o:Oper)(k:Nat->aP->Option aT):Option aT:=match ct,o with
 |some em,⟨some d,.call ⟨.value (.tmp s),⟨xs⟩,_⟩,_,_,_,none⟩=>match blt d n,Cq (bh st.L s),pL X st.L xs with
  |true,some l,some (c,args)=>ar (rQ (c::A) true) (em l args (k d ⟨(d,.c (.val (.bool false)))::st.L,st.H⟩) (k d ⟨(d,.c (.val (.bool true)))::st.L,st.H⟩))
  |_,_,_=>none
 |_,_=>none
def Gc{aT:Type}(z:Int):bR->(Int->Option aT)->Option aT
 |[],_=>none
 |q::a,f=>cond (decide (z=q)) (f q) (Gc z a f)
def lq(X:bx)(n:Nat)(T:List (bA X))(ct:lW aT)(cF:List (Option Nat)):List In->List Oper->gu->bG->ed->aP->(bG->aP->Option aT)->Option aT
 |[],ops,G,V,A,st,k=>Cu X n T cF ops G V A st λ_ b a st'=>ar (rQ a true) (k b st')
 |.n m::is,ops,G,V,A,st,k=>Cu X n T cF (takeN m ops) G V A st λe b a st'=>lq X n T ct cF is (Gb m ops) e b a st' k
 |.w x::is,ops,_,V,A,st,k=>match zP n x st with
  |some (c,st')=>lq X n T ct cF is ops [] (x.zN++V) (c::A) st' k
  |none=>none
 |.c ps::is,o::ops,_,V,A,st,k=>xF X n T ps V A st (λe b a st'=>lq X n T ct cF is ops e b a st' k) o
 |.c _::_,[],_,_,_,_,_=>none
 |.y::is,o::ops,_,V,A,st,k=>LS X n ct st A o λd st'=>lq X n T ct cF is ops [] (d::V) [] st' k
 |.t m::is,o::ops,_,V,A,st,k=>match xE X n st m o with
  |some (c,st',W)=>lq X n T ct cF is ops [] (W++V) (c::A) st' k
  |none=>none
 |.f j ks::is,ops,_,V,A,st,k=>match bh st.L j with
  |some (.a (.c (.val (.int rF z))))=>ar (rQ A true) (Gc z ks λq=>lq X n T ct cF is ops [] (j::V) [] ⟨(j,.a (.c (.val (.int rF q))))::st.L,st.H⟩ k)
  |_=>none
 |.y::_,[],_,_,_,_,_=>none
 |.t _::_,[],_,_,_,_,_=>none
variable {M:Bool} {n:Nat} {rr:Option Nat} {T:List (bA X)} {st0 st st':aP} {Q:Exit->aP->Prop} {ops l rest:List Oper} {o:Oper} {r:aT} {V:bG} {A:ed}
def Gd(k:qZ aT)(r:aT):Prop:=∀G V A st,k G V A st=some r->∀c∈A,c=true
theorem LU{f:FuncId}{xs:dX}{pre post:dT}{c:Bool}{k:aP->Option aT}(g:Callee X st o f xs pre post)(a:o.guard=none/\o.dst=some d)(az:blt d n=true)(b:pL X st.L xs=some (c,args))(aa:c=true):∀ {T:List (bA X)},Cr X n f ps d st (pre++(args++post)) k T=some r->∃st',vo X n o (xo st.H ps) st st'/\di (d::lO ps) st st'/\k st'=some r
 |[],h=>by cases h
 |e::T,h=>by
  unfold Cr at h
  split at h
  ·rename_i aF
   have j:=eq_of_beq_eq_true aF;subst j
   split at h
   ·rename_i p an
    obtain⟨q,i,h⟩:=cx h
    split at h
    ·rename_i l bl
     exact⟨l,SK e ps g a az (.of b aa) an i bl,afF an bl,h⟩
    grind
   ·exact LU g a az b aa h
  ·exact LU g a az b aa h
theorem TE{xs:dX}{a:Array TypeId}{f:FuncId}{pre post:dT}(b:o.op=.call { callee:=.value u,args:=xs.toArray,argTypes:=a })(h:ue st.L u=some (f,pre,post)):Callee X st o f xs pre post:=by
 refine⟨a,?_⟩;unfold ue at h
 split at h
 ·grind
 ·grind
 grind
theorem vw{k:qZ aT}(g:di V st0 st)(h:xF X n T ps V A st k o=some r):(∀c∈A,c=true)/\∃st' e,vo X n o (xo st.H ps) st st'/\di e st0 st'/\k [] e [] st'=some r:=by
 unfold xF at h
 split at h
 ·rename_i d u xs i t p a
  split at h
  ·rename_i f pre post c args az j l
   obtain⟨aa,h⟩:=e7 h;have b:=(nR aa).1;obtain⟨st',J,U,ah⟩:=LU (o:=⟨some d,.call ⟨.value u,⟨xs⟩,i⟩,t,p,a,none⟩) (TE rfl j) ⟨rfl,rfl⟩ az l (b c mem_cons_self) h;exact⟨λc aa=>b c (mem_cons_of_mem _ aa),st',_,J,by have:=g.trans U;exact this,ah⟩
  grind
 grind
theorem LV{f:FuncId}{g:Bool}{k:bn->Option aT}{r:aT}:∀ {T:List (bA X)},Cs X n f d g st args k T=some r->∃(e:bA X) (p:zG X e) (q:e.aT) (sa:bn),e.f=f/\vn X n e [] st.H args=some p/\(g=true->e.m p.d=some q)/\after X e [] st d p q=some ⟨(d,.a sa)::st.L,st.H⟩/\k sa=some r
 |[],h=>by cases h
 |e::T,h=>by
  unfold Cs at h
  split at h
  ·rename_i aF
   split at h
   ·rename_i p an
    obtain⟨q,b,h⟩:=cx h
    split at h
    ·rename_i d2 sa c H2 bl i
     refine⟨e,p,q,sa,eq_of_beq_eq_true aF,an,λj=>by rw[j]at b;exact b,?_,h⟩;have J:H2=st.H/\c=st.L/\d2=d:=by
      unfold vn at an
      split at an
      ·rename_i m J H1 v w a
       split at an
       ·split at an
        ·cases an
         have s:H1=st.H:=by
          cases TF:e.ec with
          |nil=>rw[TF]at a;cases a;rfl
          |cons q _=>rw[TF]at a;cases a
         unfold after at bl;rw[i]at bl
         split at bl
         ·rename_i t u o l
          cases l
          grind
         grind
        ·grind
       ·grind
      ·grind
     obtain⟨rfl,rfl,rfl⟩:=J;exact bl
    ·grind
   ·exact LV h
  ·exact LV h
theorem TG{G:gu}{k:qZ aT}(h:zX X n T (ey ops) G V A st k o=some r):∀c∈A,c=true:=by
 unfold zX at h
 split at h
 ·grind [e7,nR,mem_cons_of_mem]
 grind
theorem af2{cF:List (Option Nat)}{G:gu}{ps:List (Nat×Bool)}{c:FuncId×dT×dT}(m:eK cF G st.L)(an:∀p∈ps,p0 cF st.L p)(h:ue (lV ps G st.L) u=some c) :
  ∃g:aP,g.H=st.H/\ue g.L u=some c/\(∀ {R W aC ks env B ai H a w},bO X R W aC n ks env B ai H st a w->bO X R W aC n ks env B ai H g a w)/\(∀ {R W aC ks env B ai H a w},bO X R W aC n ks env B ai H g a w->bO X R W aC n ks env B ai H st a w) /\
   ∀ {d:Nat} {sa:bn} {R W aC ks env B ai H a w},bO X R W aC n ks env B ai H ⟨(d,.a sa)::g.L,g.H⟩ a w->bO X R W aC n ks env B ai H ⟨(d,.a sa)::st.L,st.H⟩ a w:=by
 cases u with
 |tmp s=>
  unfold ue at h;dsimp only at h;cases ao:bh (lV ps G st.L) s with
  |none=>rw[ao]at h;cases h
  |some sv=>
   rcases afy m an s sv ao with J|⟨x,rfl,J⟩
   ·exact⟨st,rfl,by unfold ue;dsimp only;rw[J];rw[ao]at h;exact h,λh=>h,λh=>h,λh=>h⟩
   ·have key:∀ {L:cS} {R W aC ks env B ai H a w},(∀q,q≠s->bh L q=bh ((s,b7.a x)::L) q)->bO X R W aC n ks env B ai H ⟨(s,.a x)::L,st.H⟩ a w->bh L s=some (.may true x)->bO X R W aC n ks env B ai H ⟨L,st.H⟩ a w:=λ{L} _ _ _ _ _ _ _ _ _ _ _ ae l=>⟨ae.size,ae.defs,λq sv b=>by
     by_cases e:q=s
     ·subst e
      rw[l]at b;cases b;obtain⟨v,j,i⟩:=ae.has q (.a x) (by rw[cO,if_pos rfl]);exact⟨v,j,λ_=>i,λh=>by cases h⟩
     ·exact ae.has q sv (by rw[cO,if_neg e];exact b),ae.heap,ae.aQ,ae.sub,ae.new,ae.dB,ae.base,ae.eg⟩
    refine⟨⟨(s,.a x)::st.L,st.H⟩,rfl,?_,λae=>⟨ae.size,ae.defs,λq sv b=>?_,ae.heap,ae.aQ,ae.sub,ae.new,ae.dB,ae.base,ae.eg⟩,λae=>key (λq b=>by rw[cO,if_neg b]) ae J,λ{d sa} _ _ _ _ _ _ _ _ _ _ ae=>⟨ae.size,ae.defs,λq sv b=>?_,ae.heap,ae.aQ,ae.sub,ae.new,ae.dB,ae.base,ae.eg⟩⟩
    ·unfold ue
     dsimp only;rw[cO,if_pos rfl];rw[ao]at h;exact h
    ·rw[cO]at b
     split at b
     ·rename_i e
      subst e;cases b;obtain⟨v,j,i⟩:=ae.has _ _ J;exact⟨v,j,i.1 rfl⟩
     ·exact ae.has q sv b
    ·rw[cO]at b
     split at b
     ·rename_i e
      subst e;cases b;exact ae.has _ _ (by rw[cO,if_pos rfl])
     ·rename_i e
      by_cases k:q=s
      ·subst k
       rw[J]at b;cases b;obtain⟨v,j,i⟩:=ae.has q (.a x) (by rw[cO,if_neg e,cO,if_pos rfl]);exact⟨v,j,λ_=>i,λh=>by cases h⟩
      ·exact ae.has q sv (by rw[cO,if_neg e,cO,if_neg k];exact b)
 |func f=>exact⟨st,rfl,h,λh=>h,λh=>h,λh=>h⟩
 |_=>cases h
theorem af3{e:bA X}{a:aP}{p:zG X e}{q:e.aT}{sa:bn}(b:a.H=st.H)(bl:after X e [] st d p q=some ⟨(d,.a sa)::st.L,st.H⟩):after X e [] a d p q=some ⟨(d,.a sa)::a.L,a.H⟩:=by
 grind [after,Option.some.inj,List.cons.inj,Prod.mk.inj]
theorem TH{G:gu}{k:qZ aT}(m:eK (ey ops) G st.L)(D:di V st0 st)(h:zX X n T (ey ops) G V A st k o=some r):∃(d:Nat) (g:Bool) (sa:bn) (M:gu),eK (ey ops) M ((d,.may g sa)::st.L)/\di (d::V) st0 ⟨(d,.may g sa)::st.L,st.H⟩/\k M (d::V) [] ⟨(d,.may g sa)::st.L,st.H⟩=some r /\
  ∀(R:Nat->Prop) (W:World) (aC:fe) (ks:bG) (env:Nat->Loc) (B:Nat->Prop) (ai:World) (H:cW) (a:Act) (w:World),bO X R W aC n ks env B ai H st a w->∀(KK:Act->World->Prop),
   (∀aS w' env' B' y H',bO X R W aC n ks env' B' y H' ⟨(d,.may g sa)::st.L,st.H⟩ aS w'->(∀k,B k->B' k)->cV (λk=>R k\/B k) ai y->KK aS w')->fa X.P ops.toArray o KK a w:=by
 unfold zX at h
 split at h
 ·rename_i d u xs L ty N I j want
  split at h
  ·rename_i s F
   split at h
   ·rename_i g E
    split at h
    ·rename_i f pre post c args az P ak al
     obtain⟨aa,h⟩:=e7 h;have ac:=(nR aa).1;obtain⟨e,au,q,sa,aF,an,t,bl,ab⟩:=LV h;subst aF;have ar:s≠d:=ne_of_beq_eq_false P;have ao:eK (ey ops) ((d,j,want)::pd (ey ops) d G) ((d,.may g sa)::st.L):=λe he=>by
      rcases List.mem_cons.1 he with rfl|he
      ·grind [F1,cO]
      ·exact m.drop d _ e he
     refine⟨d,g,sa,_,ao,⟨cy.cons D.1,D.2.more λq t=>(gY t).2⟩,ab,?_⟩;intro R W aC ks env B ai H a w ae KK K;have hw:=LH (l:=ops) (o:=⟨some d,.call ⟨.value u,⟨xs⟩,L⟩,ty,N,I,some (j,want)⟩) ae rfl F E;have put:∀v,c5 n (kf ks aC) ((d,v)::full a) (a.put (some d) v):=λv=>ae.bV.put d v (dH az)
     cases g with
     |false=>exact .inr ⟨hw,K _ _ _ _ _ _ (ae.set (sv:=.may false sa) ⟨(λh=>by cases h),λ_=>rfl⟩ (put undef)) (λ_ h=>h) (cV.refl _ _)⟩
     |true=>
      have C:∀p∈vr (ey ops) G 8 j want,p0 (ey ops) st.L p:=F2 m ⟨s,F,E⟩;obtain⟨ag,O,Q,ap,S,Y⟩:=af2 (X:=X) (n:=n) m C ak;have Z:FO X n ag xs args:=λ_ _ _ _ _ _ _ _ _ _ ae=>w5 ((S ae).view m C) al (Ce (ac _ mem_cons_self) rfl)
      have J:=SK (o:=⟨some d,.call ⟨.value u,⟨xs⟩,L⟩,ty,N,I,none⟩) e [] (TE rfl Q) ⟨rfl,rfl⟩ az Z (by rw[O];exact an) (t rfl) (af3 O bl) R W aC ks env B ai H a w (ap ae) KK ops λaS w' env' B' y H' ad af aj _=>by
       have b:=Y ad;have aq:=b.has d (.a sa) (by rw[cO,if_pos rfl]);obtain⟨v,am,ah⟩:=aq;refine K _ _ _ _ _ _ ⟨b.size,b.defs,λq sv i=>?_,b.heap,b.aQ,b.sub,b.new,b.dB,b.base,b.eg⟩ af aj
       by_cases z:q=d
       ·subst z
        rw[cO,if_pos rfl]at i;cases i;exact⟨v,am,λ_=>ah,λh=>by cases h⟩
       ·exact b.has q sv (by rw[cO,if_neg z]at i ⊢;exact i)
      rcases J with⟨_,U⟩|⟨U,_⟩
      ·exact .inl ⟨hw,U⟩
      ·simp[Region.wanted]at U
    ·cases h
   ·cases h
  ·cases h
 ·cases h
theorem af8{G:gu}{k:qZ aT}(ab:Gd k r)(h:Ct X n T (ey ops) G V A st o k=some r):∀c∈A,c=true:=by
 unfold Ct at h
 split at h
 ·split at h
  ·split at h
   ·split at h
    ·exact λc aa=>ab _ _ _ _ h c (mem_cons_of_mem _ aa)
    grind
   grind
  ·split at h
   ·exact λc aa=>ab _ _ _ _ h c (mem_cons_of_mem _ aa)
   ·split at h
    ·exact λc aa=>ab _ _ _ _ h c (mem_cons_of_mem _ aa)
    ·exact(vw (di.refl (V:=V) st) h).1
 ·split at h
  ·split at h
   ·split at h
    ·split at h
     ·split at h
      ·exact λc aa=>ab _ _ _ _ h c (mem_cons_of_mem _ aa)
      grind
     grind
    grind [TG]
   ·grind
  ·grind
theorem Gf{k:qZ aT}(ab:Gd k r):∀ {l:List Oper} {G:gu} {V:bG} {A:ed} {st:aP},Cu X n T (ey ops) l G V A st k=some r->∀c∈A,c=true
 |[],G,V,A,st,h=>ab _ _ _ _ h
 |o::l,G,V,A,st,h=>af8 (λ_ _ _ _ a=>Gf ab a) h
def LW(X:bx)(n:Nat)(ops:List Oper)(o:Oper)(st st':aP):Prop:=∀(R:Nat->Prop) (W:World) (aC:fe) (ks:bG) (env:Nat->Loc) (B:Nat->Prop) (ai:World) (H:cW) (a:Act) (w:World),bO X R W aC n ks env B ai H st a w->∀(KK:Act->World->Prop),
 (∀aS w' env' B' b H',bO X R W aC n ks env' B' b H' st' aS w'->KK aS w')->fa X.P ops.toArray o KK a w
theorem vo.Gg{kp:bm->Bool}(h:vo X n o kp st st'):LW X n ops o st st':=λR W aC ks env B ai H a w ae KK d=>h R W aC ks env B ai H a w ae KK ops λaS w' env' B' c H' b _ _ _=>d aS w' env' B' c H' b
structure Gh(X:bx)(n:Nat)(ops:List Oper)(Z:List Oper->aT->aP->Prop):Prop where
 step:∀ {o rest r st st'},LW X n ops o st st'->Z rest r st'->Z (o::rest) r st
 fb:∀ {l r st st'},cj X n st st'->Z l r st'->Z l r st
def Gi(X:bx)(n:Nat)(ops:List Oper)(o:Oper)(st:aP):Prop:=∀ {R:Nat->Prop} {W:World} {aC:fe} {ks:bG} {env:Nat->Loc} {B:Nat->Prop} {ai:World} {H:cW} {a:Act} {w:World},bO X R W aC n ks env B ai H st a w->Region.wanted o (yielded ops.toArray a.tmps)=true
theorem Gi.none{ops:List Oper}{o:Oper}{st:aP}(h:o.guard=none):Gi X n ops o st:=λ_=>by simp[Region.wanted,h]
def TJ(X:bx)(n:Nat)(ops:List Oper)(ct:lW aT)(Z:List Oper->aT->aP->Prop):Prop:=∀em,ct=some em->∀ {l:Nat} {args:dT} {f t:Option aT} {r:aT},em l args f t=some r->∃p1 a,f=some p1/\t=some a/\∀ {o:Oper} {rest:List Oper} {st:aP} {d s:Nat} {xs:dX} {b:Array TypeId} {c:Bool},o.op=.call { callee:=.value (.tmp s),args:=xs.toArray,argTypes:=b }->Gi X n ops o st/\o.dst=some d->blt d n=true->Cq (bh st.L s)=some l->pL X st.L xs=some (c,args)->c=true ->
 Z rest p1 ⟨(d,.c (.val (.bool false)))::st.L,st.H⟩->Z rest a ⟨(d,.c (.val (.bool true)))::st.L,st.H⟩->Z (o::rest) r st
variable {Z:List Oper->aT->aP->Prop}
theorem af9(y:X.a1.ok X.P)(i:Gh X n ops Z){G:gu}(l:eK (ey ops) G st.L)(f:di V st0 st){k:qZ aT}(t:Gd k r)(h:Ct X n T (ey ops) G V A st o k=some r)(ab:∀C F M st',eK (ey ops) C st'.L->di F st0 st'->k C F M st'=some r->Z rest r st'):Z (o::rest) r st:=by
 have one:∀ {d:Nat} {sv:b7},di (d::V) st0 ⟨(d,sv)::st.L,st.H⟩:=λ{d sv}=>⟨cy.cons f.1,f.2.more λq L=>(gY L).2⟩
 unfold Ct at h
 split at h
 ·rename_i p
  split at h
  ·rename_i c sa u
   split at h
   ·rename_i d z
    split at h
    ·rename_i az
     have aa:=t _ _ _ _ h c mem_cons_self;refine i.step (st':=⟨(d,.a sa)::st.L,st.H⟩) ?_ (ab _ _ _ _ (l.drop d _) one h);intro R W aC ks env B ai H a w ae KK b;obtain⟨v,J,U⟩:=Tm y ae l (λ_ h=>by cases h) u aa;exact hD ae.bV p z (dH az) U λaS K=>b aS w env B ai H (ae.set (sv:=.a sa) J K)
    grind
   ·grind
  ·split at h
   ·rename_i c m W e
    have aa:=t _ _ _ _ h c mem_cons_self;exact i.step (LL y e aa).c.Gg (ab _ _ _ m eK.nil (f.trans (LM e)) h)
   ·split at h
    ·rename_i c m e
     have aa:=t _ _ _ _ h c mem_cons_self;refine i.step ?_ (ab _ _ _ m eK.nil (f.trans (zT p e)) h);intro R W aC ks env B ai H a w ae KK b
     grind [ss]
    ·obtain⟨_,m,V2,J,U,ah⟩:=vw f h
     exact i.step J.Gg (ab _ _ _ m eK.nil U ah)
 ·rename_i j want p
  split at h
  ·rename_i s E
   split at h
   ·rename_i g D
    split at h
    ·rename_i c sa u
     split at h
     ·rename_i d z
      split at h
      ·rename_i az I
       have aa:=t _ _ _ _ h _ mem_cons_self;have ad:s≠d:=ne_of_beq_eq_false I;have Y:eK (ey ops) ((d,j,want)::pd (ey ops) d G) ((d,.may g sa)::st.L):=λe he=>by
        rcases List.mem_cons.1 he with rfl|he
        ·grind [F1,cO]
        ·exact l.drop d _ e he
       refine i.step (st':=⟨(d,.may g sa)::st.L,st.H⟩) ?_ (ab _ _ _ _ Y one h);intro R W aC ks env B ai H a w ae KK b;have put:∀v,c5 n (kf ks aC) ((d,v)::full a) (a.put o.dst v):=λv=>by rw[z];exact ae.bV.put d v (dH az)
       have hw:=LH ae p E D;cases g with
       |true=>
        obtain⟨v,J,U⟩:=Tm y ae l (F2 l ⟨s,E,D⟩) u (Ce aa rfl);exact .inl ⟨hw,.inl ⟨v,w,U,b _ _ _ _ _ _ (ae.set (sv:=.may true sa) ⟨λ_=>J,λh=>by cases h⟩ (put v))⟩⟩
       |false=>exact .inr ⟨hw,b _ _ _ _ _ _ (ae.set (sv:=.may false sa) ⟨(λh=>by cases h),λ_=>rfl⟩ (put undef))⟩
      ·grind
     ·grind
    ·obtain⟨d,g2,sa,C,ac,P,Q,S⟩:=TH l f h
     exact i.step (λR W aC ks env B ai H a w ae KK b=>S R W aC ks env B ai H a w ae KK λaS w' env' B' O H' N _ _=>b aS w' env' B' O H' N) (ab _ _ _ _ ac P Q)
   ·grind
  ·grind
theorem LX(f:X.a1.ok X.P)(i:Gh X n ops Z){k:qZ aT}{r:aT}(j:Gd k r):∀ {l rest:List Oper} {G:gu} {V:bG} {A:ed} {st:aP},eK (ey ops) G st.L->di V st0 st->Cu X n T (ey ops) l G V A st k=some r->(∀d e g st',eK (ey ops) d st'.L->di e st0 st'->k d e g st'=some r->Z rest r st')->Z (l++rest) r st
 |[],rest,G,V,A,st,c,a,h,ab=>ab G V A st c a h
 |o::l,rest,G,V,A,st,c,a,h,ab=>af9 f i c a (λ_ _ _ _ b=>Gf j b) h λd e g st' p m b=>LX f i j p m b ab
theorem take_drop:∀(m:Nat) (l:List Oper),takeN m l++Gb m l=l
 |0,_=>rfl
 |_+1,[]=>rfl
 |m+1,x::l=>by
  show x::(takeN m l++Gb m l)=_;rw[take_drop m l]
theorem TK{ct:lW aT}{k:Nat->aP->Option aT}(h:LS X n ct st A o k=some r):(∀c∈A,c=true)/\∃em l d s xs b c args,ct=some em/\o.op=.call { callee:=.value (.tmp s),args:=xs.toArray,argTypes:=b }/\(o.guard=none/\o.dst=some d)/\blt d n=true/\Cq (bh st.L s)=some l/\pL X st.L xs=some (c,args)/\c=true/\em l args (k d ⟨(d,.c (.val (.bool false)))::st.L,st.H⟩) (k d ⟨(d,.c (.val (.bool true)))::st.L,st.H⟩)=some r:=by
 unfold LS at h
 split at h
 ·split at h
  ·rename_i az aA bl
   obtain⟨aa,h⟩:=e7 h;have a:=(nR aa).1;exact⟨λc aa=>a c (mem_cons_of_mem _ aa),_,_,_,_,_,_,_,_,rfl,rfl,⟨rfl,rfl⟩,az,aA,bl,a _ mem_cons_self,h⟩
  grind
 grind
variable {ct:lW aT}
theorem TL{z:Int}{f:Int->Option aT}{r:aT}:∀ {ks:bR},Gc z ks f=some r->f z=some r
 |[],h=>by cases h
 |q::a,h=>by
  unfold Gc at h
  by_cases e:z=q
  ·grind
  ·rw[decide_eq_false e]at h
   exact TL h
theorem cj.again{sv:b7}(h:bh st.L j=some sv):cj X n st ⟨(j,sv)::st.L,st.H⟩:=λ_ _ _ _ _ _ ⟨ks,env,B,ai,H,b,ae⟩=>by
 refine⟨ks,env,B,ai,H,b,⟨ae.size,ae.defs,λs u a=>?_,ae.heap,ae.aQ,ae.sub,ae.new,ae.dB,ae.base,ae.eg⟩⟩;rw[cO]at a
 split at a
 ·rename_i e
  subst e;cases a;exact ae.has _ _ h
 ·exact ae.has s u a
theorem zY{k:bG->aP->Option aT}{r:aT}:∀ {is:List In} {l:List Oper} {G:gu} {V:bG} {A:ed} {st:aP},lq X n T ct (ey ops) is l G V A st k=some r->∀c∈A,c=true
 |[],l,G,V,A,st,h=>Gf (λ_ _ _ _ a=>(nR (e7 a).1).1) h
 |.n m::is,l,G,V,A,st,h=>Gf (λ_ _ _ _ a=>zY a) h
 |.w x::is,l,G,V,A,st,h=>by
  unfold lq at h
  split at h
  ·exact λc aa=>zY h c (mem_cons_of_mem _ aa)
  ·cases h
 |.c ps::is,o::l,G,V,A,st,h=>by
  unfold lq at h;exact(vw (di.refl (V:=V) st) h).1
 |.c _::_,[],G,V,A,st,h=>by cases h
 |.y::is,o::l,G,V,A,st,h=>by
  unfold lq at h;exact(TK h).1
 |.y::_,[],G,V,A,st,h=>by cases h
 |.f j ks::is,l,G,V,A,st,h=>by
  unfold lq at h
  split at h
  ·exact(nR (e7 h).1).1
  ·cases h
 |.t _::_,[],G,V,A,st,h=>by cases h
 |.t m::is,o::l,G,V,A,st,h=>by
  unfold lq at h
  split at h
  ·exact λc aa=>zY h c (mem_cons_of_mem _ aa)
  ·cases h
theorem vA(g:X.a1.ok X.P)(b:Gh X n ops Z)(bt:TJ X n ops ct Z){k:bG->aP->Option aT}:∀ {is:List In} {l:List Oper} {G:gu} {V:bG} {A:ed} {st:aP} {r:aT},eK (ey ops) G st.L->di V st0 st->lq X n T ct (ey ops) is l G V A st k=some r->(∀p st' w,di p st0 st'->k p st'=some w->Z [] w st')->Z l r st
 |[],l,G,V,A,st,r,f,a,h,ab=>by
  have:=LX (rest:=[]) g b (λ_ _ _ _ i=>(nR (e7 i).1).1) f a h λE p D st' _ u i=>ab p st' _ u (e7 i).2
  rwa [append_nil]at this
 |.n m::is,l,G,V,A,st,r,f,a,h,ab=>by
  rw[<- take_drop m l];exact LX g b (λ_ _ _ _ i=>zY i) f a h λE p D st' F u i=>vA g b bt F u i ab
 |.w x::is,l,G,V,A,st,r,f,a,h,ab=>by
  unfold lq at h
  split at h
  ·rename_i c y e
   have aa:=zY h c mem_cons_self;exact b.fb (Td e aa) (vA g b bt eK.nil (a.trans (Ti e)) h ab)
  ·cases h
 |.c ps::is,o::l,G,V,A,st,r,f,a,h,ab=>by
  unfold lq at h;obtain⟨_,I,V2,J,U,ah⟩:=vw a h;exact b.step J.Gg (vA g b bt eK.nil U ah ab)
 |.c _::_,[],G,V,A,st,r,f,a,h,ab=>by cases h
 |.y::is,o::l,G,V,A,st,r,f,a,h,ab=>by
  unfold lq at h;obtain⟨_,em,l',d,s,xs,H,c,args,C,B,v,az,aA,bl,aa,h⟩:=TK h;obtain⟨p1,K,aF,bj,bw⟩:=bt em C h;have one:∀ {sv:b7},di (d::V) st0 ⟨(d,sv)::st.L,st.H⟩:=λ{sv}=>⟨cy.cons a.1,a.2.more λq t=>(gY t).2⟩
  exact bw B ⟨Gi.none v.1,v.2⟩ az aA bl aa (vA g b bt eK.nil one aF ab) (vA g b bt eK.nil one bj ab)
 |.y::_,[],G,V,A,st,r,f,a,h,ab=>by cases h
 |.f j ks::is,l,G,V,A,st,r,f,a,h,ab=>by
  unfold lq at h
  split at h
  ·rename_i rF z e
   have one:∀ {sv:b7},di (j::V) st0 ⟨(j,sv)::st.L,st.H⟩:=λ{sv}=>⟨cy.cons a.1,a.2.more λq t=>(gY t).2⟩
   exact b.fb (cj.again e) (vA g b bt eK.nil one (TL (e7 h).2) ab)
  ·cases h
 |.t _::_,[],G,V,A,st,r,f,a,h,ab=>by cases h
 |.t m::is,o::l,G,V,A,st,r,f,a,h,ab=>by
  unfold lq at h
  split at h
  ·rename_i c y W e
   exact b.step (LQ g e (zY h c mem_cons_self)).c.Gg (vA g b bt eK.nil (a.trans (LR e)) h ab)
  ·cases h
end
def lr:bG->cS->cS
 |[],_=>[]
 |s::r,L=>match bh L s with
  |some v=>match v.free with
   |true=>(s,v)::lr r L
   |false=>lr r L
  |none=>lr r L
def gZ:bG->bC->bC
 |[],_=>[]
 |s::r,H=>match bh H s with
  |some v=>match v.free with
   |true=>(s,v)::gZ r H
   |false=>gZ r H
  |none=>gZ r H
def TM{α:Type}(L:List (Nat×α))(s:Nat):Bool:=match bh L s with
 |some _=>true
 |none=>false
def zZ{α:Type}(V ks:bG)(L:List (Nat×α)):List (Nat×α)->Bool
 |[]=>true
 |p::r=>match fs p.1 V,fs p.1 ks,TM L p.1 with
  |false,false,true=>zZ V ks L r
  |_,_,_=>false
def ep{α:Type}:List (Nat×α)->bG
 |[]=>[]
 |p::r=>p.1::ep r
def eo.ids(a:eo):bG:=ep a.L++ep a.H
def eo.S(a:eo)(st:aP)(d:a.D):aP:=⟨(o9 a.L (oq a.T d)).1++lr a.tT st.L,(kt a.H (o9 a.L (oq a.T d)).2).1++gZ a.ll st.H⟩
def eo.get(a:eo)(st:aP)(V:bG)(st':aP):Option a.D:=
 match zZ V (ep a.L) st'.L (lr a.tT st.L),zZ V (ep a.H) st'.H (gZ a.ll st.H),rC (ep a.H++ep (gZ a.ll st.H))with
 |true,true,true=>match u4 st'.H (ep a.H)with
  |some h=>match xk (T:=[]) a.H h ()with
   |some u=>match FK a.L st'.L u with
    |some u=>some (rK a.T u)
    |none=>none
   |none=>none
  |none=>none
 |_,_,_=>none
theorem Cw{v:b7}:∀ {ks:bG} {L:cS},bh (lr ks L) s=some v->(s,v)∈lr ks L/\bh L s=some v/\v.free=true
 |[],_,h=>by cases h
 |k::r,L,h=>by
  unfold lr at h ⊢
  split at h
  ·rename_i u e
   split at h
   ·rename_i aF
    rw[cO]at h
    split at h
    ·grind
    ·obtain⟨J,U⟩:=Cw h;exact⟨mem_cons_of_mem _ J,U⟩
   ·exact Cw h
  ·exact Cw h
theorem xH{p:Nat×b7}:∀ {ks:bG} {L:cS},p∈lr ks L->bh L p.1=some p.2/\p.2.free=true
 |[],_,h=>by cases h
 |k::r,L,h=>by
  unfold lr at h
  split at h
  ·rename_i u e
   split at h
   ·rename_i aF
    rcases List.mem_cons.1 h with rfl|h
    ·grind
    ·exact xH h
   ·exact xH h
  ·exact xH h
theorem q0{p:Nat×cz}:∀ {ks:bG} {L:bC},p∈gZ ks L->bh L p.1=some p.2/\p.2.free=true
 |[],_,h=>by cases h
 |k::r,L,h=>by
  unfold gZ at h
  split at h
  ·rename_i u e
   split at h
   ·rename_i aF
    rcases List.mem_cons.1 h with rfl|h
    ·grind
    ·exact q0 h
   ·exact q0 h
  ·exact q0 h
theorem agb{p:Nat×b7}{ks:bG}(h:p∈lr ks L):bh (lr ks L) p.1=some p.2:=by
 obtain⟨J,U⟩:=xH h
 induction ks with
 |nil=>cases h
 |cons k r a=>
  grind [lr,cO,absurd]
theorem agc{p:Nat×cz}{ks:bG}{L:bC}(h:p∈gZ ks L):bh (gZ ks L) p.1=some p.2:=by
 obtain⟨J,U⟩:=q0 h
 induction ks with
 |nil=>cases h
 |cons k r a=>
  grind [gZ,cO,absurd]
theorem Cx{ks:bG}{L:List (Nat×α)}{p:Nat×α}:∀ {K:List (Nat×α)},zZ V ks L K=true->p∈K->fs p.1 V=false/\fs p.1 ks=false/\∃v,bh L p.1=some v
 |[],_,h=>by cases h
 |q::r,h,hm=>by
  unfold zZ at h
  split at h
  ·rename_i J U ah
   rcases List.mem_cons.1 hm with rfl|hm
   ·grind [TM]
   ·exact Cx h hm
  grind
theorem LY:∀ {L dJ:List (Nat×α)},fs q (ep L)=false->bh (L++dJ) q=bh dJ q
 |[],_,_=>rfl
 |p::r,dJ,h=>by
  obtain⟨J,U⟩:=gY h;rw[cons_append,cO,if_neg J];exact LY U
theorem Gk{v:α}:∀ {L dJ:List (Nat×α)},bh (L++dJ) q=some v->bh L q=some v\/fs q (ep L)=false/\bh dJ q=some v
 |[],_,h=>.inr ⟨rfl,h⟩
 |p::r,dJ,h=>by
  rw[cons_append,cO]at h;rw[cO]
  split at h
  ·grind
  ·rename_i e
   rw[if_neg e]
   rcases Gk h with h|⟨J,U⟩
   ·grind
   ·exact .inr ⟨xA.2 ⟨e,J⟩,U⟩
theorem LZ:∀(l:List (Nat×mv)) {T:List Type} (u:dn (zF l T)),ep (o9 l u).1=ep l
 |[],_,_=>rfl
 |p::r,_,u=>by
  show p.1::ep _=p.1::ep _;rw[LZ r]
theorem L0:∀(l:List (Nat×fD)) {T:List Type} (u:dn (ot l T)),ep (kt l u).1=ep l
 |[],_,_=>rfl
 |p::r,_,u=>by
  show p.1::ep _=p.1::ep _;rw[L0 r]
theorem Cy:∀ {ks:bG} {h a:bC},u4 h ks=some a->ep a=ks
 |[],_,_,e=>by cases e;rfl
 |k::ks,h,a,e=>by
  unfold u4 at e
  split at e
  ·rename_i J U
   split at e
   ·cases e
    show k::ep _=_;rw[Cy U]
   grind
  grind
theorem L1:∀ {L:List (Nat×α)},fs q (ep L)=false->bh L q=none
 |[],_=>rfl
 |p::r,h=>by
  obtain⟨J,U⟩:=gY h;rw[cO,if_neg J];exact L1 U
theorem Gl{h:bC}{K:bC}:∀ {J:bC},mi h J->(∀p∈K,bh h p.1=some p.2)->rC (ep J++ep K)=true->mi h (J++K):=by
 have base:∀K:bC,(∀p∈K,bh h p.1=some p.2)->rC (ep K)=true->mi h K:=by
  intro K
  induction K with
  |nil=>exact λ_ _=>.nil
  |cons p r c=>
   intro ab bc;have a:(!(ep r).elem p.1&&rC (ep r))=true:=bc;simp only[and_eq_true,not_eq_true']at a;exact .cons (ab p mem_cons_self) (L2 a.1) (c (λq g=>ab q (mem_cons_of_mem _ g)) a.2)
 intro f
 induction f with
 |nil=>exact λab bc=>base K ab bc
 |cons i oi j c=>
  rename_i k b r;intro ab bc;have a:(!(ep r++ep K).elem k&&rC (ep r++ep K))=true:=bc;simp only[and_eq_true,not_eq_true']at a;refine .cons i ?_ (c ab a.2);refine L2 ?_
  have:∀l:bC,ep (l++K)=ep l++ep K:=by
   intro l
   induction l with
   |nil=>rfl
   |cons p l c=>show p.1::ep (l++K)=_;rw[c];rfl
  show(ep (r++K)).elem k=false
  grind
where L2 {q:Nat}:∀ {L:bC},(ep L).elem q=false->bh L q=none
 |[],_=>rfl
 |p::r,h=>by
  have d:(p.1::ep r).elem q=false:=h;rw[List.elem_cons]at d
  split at d
  ·cases d
  ·rename_i e
   rw[cO,if_neg (by simpa using e)];exact L2 d
def kZ(a:eo)(st b:aP):Prop:=(∀p∈lr a.tT st.L,fs p.1 (ep a.L)=false->bh b.L p.1=some p.2)/\∀p∈gZ a.ll st.H,fs p.1 (ep a.H)=false->bh b.H p.1=some p.2
theorem kZ.self(a:eo)(st:aP):kZ a st st:=⟨λp an _=>(xH an).1,λp an _=>(q0 an).1⟩
theorem kZ.step(a:eo)(st:aP)(d:a.D):kZ a st (a.S st d):=⟨λp an ab=>by
 show bh (_++_) p.1=_;rw[LY (by rw[LZ];exact ab)];exact agb an,λp an ab=>by
 show bh (_++_) p.1=_;rw[LY (by rw[L0];exact ab)];exact agc an⟩
theorem eo.jv{b:eo}{C:aP}{d:b.D}(hw:kZ b st C)(z:di V C st')(h:b.get st V st'=some d):cj X n st' (b.S st d):=by
 unfold eo.get at h
 split at h
 ·rename_i S P T
  split at h
  ·rename_i m A
   split at h
   ·rename_i u E
    split at h
    ·rename_i D o
     cases h;obtain⟨J,U⟩:=xl E;obtain⟨ah,I⟩:=FL o;have F:∀p∈lr b.tT st.L,bh st'.L p.1=some p.2:=λp an=>by
      obtain⟨r,g2,v,i⟩:=Cx S an;obtain⟨u,j,s⟩:=z.1 p.1 v r i;rw[hw.1 p an g2]at j;cases j;rw[i,s (xH an).2]
     have Y:∀p∈gZ b.ll st.H,bh st'.H p.1=some p.2:=λp an=>by
      obtain⟨r,g2,v,i⟩:=Cx P an;obtain⟨u,j,s⟩:=z.2 p.1 v r i;rw[hw.2 p an g2]at j;cases j;rw[i,s (q0 an).2]
     rintro R W aC M a w ⟨ks,env,B,ai,H,K,ae⟩;have Q:mi st'.H (m++gZ b.ll st.H):=Gl (zb A) Y (by rw[Cy A];exact T);obtain⟨H',f⟩:=ae.fb (st':=⟨[],m++gZ b.ll st.H⟩) .nil Q;refine⟨ks,env,B,ai,H',K,f.size,f.defs,λq sv G=>?_,?_,f.aQ,f.sub,f.new,f.dB,f.base,f.eg⟩
     ·have g:bh ((o9 b.L (oq b.T (rK b.T D))).1++lr b.tT st.L) q=some sv:=G
      rw[xi]at g
      rcases Gk g with g|⟨_,g⟩
      ·obtain⟨x,k,L⟩:=I q sv g
       obtain⟨v,N,O⟩:=ae.has q x k;exact⟨v,N,L _ _ _ _ O⟩
      ·obtain⟨k,_⟩:=Cw g
       exact ae.has q sv (F _ k)
     ·show bE env B ai ((kt b.H (o9 b.L (oq b.T (rK b.T D))).2).1++gZ b.ll st.H) H'
      rw[xi,ah];obtain⟨H1,H2,e,y,t⟩:=bE.split (l:=m) f.heap;rw[e];exact(U _ _ _ _ y).append t
    ·grind
   ·grind
  ·grind
 ·grind
where bE.split {env:Nat->Loc} {B:Nat->Prop} {w:World}:∀ {l l':bC} {H:cW},bE env B w (l++l') H->∃H1 H2,H=H1++H2/\bE env B w l H1/\bE env B w l' H2
 |[],_,H,h=>⟨[],H,rfl,rfl,h⟩
 |_::_,_,_,⟨c,H',e,J,U⟩=>by
  obtain⟨H1,H2,o,y,t⟩:=bE.split U;exact⟨c::H1,H2,by rw[e,o];rfl,⟨c,H1,rfl,J,y⟩,t⟩
theorem eo.ks(a:eo)(st:aP)(d:a.D):di a.ids st (a.S st d):=by
 refine⟨λq v b ao=>?_,λq v b ao=>?_⟩
 ·rcases Gk (show bh (_++_) q=some v from ao)with h|⟨_,h⟩
  ·have:=L1 (L:=(o9 a.L (oq a.T d)).1) (q:=q) (by rw[LZ];exact(sH.1 b).1)
   grind
  ·obtain⟨J,U,ah⟩:=Cw h
   grind
 ·rcases Gk (show bh (_++_) q=some v from ao)with h|⟨_,h⟩
  ·have:=L1 (L:=(kt a.H (o9 a.L (oq a.T d)).2).1) (q:=q) (by rw[L0];exact(sH.1 b).2)
   grind
  ·exact⟨v,Gm h,λ_=>rfl⟩
where Gm {s:Nat} {v:cz}:∀ {ks:bG} {L:bC},bh (gZ ks L) s=some v->bh L s=some v
 |[],_,h=>by cases h
 |k::r,L,h=>by
  unfold gZ at h
  split at h
  ·rename_i u e
   split at h
   ·rw[cO]at h
    split at h
    ·rename_i c;cases h;rw[c];exact e
    ·exact Gm h
   ·exact Gm h
  ·exact Gm h
end
section
section
variable {X:bx} {n:Nat} {st:aP} {o:Oper} {d:Nat}
end
end
section
theorem age{a:List MapEntry}{e:MapEntry}(c:(a.map (·.born)).Pairwise (· < ·))(b:a[j]?=some e):a.toArray.findIdx? (λx=>(x.born:Int)==(e.born:Int))=some j:=by
 grind [List.getElem?_eq_some_iff,List.findIdx?_eq_some_iff_getElem,List.pairwise_iff_getElem]
theorem TN{a:List MapEntry}{k v:Value}:∀(j:Nat),(a.modify j λe=>{ e with key:=k }).modify j (λe=>{ e with val:=v })=a.modify j λe=>{ e with key:=k,val:=v }:=by
 induction a with
 |nil=>intro j;simp
 |cons e a b=>
  grind
theorem agf{a:List MapEntry}{e:MapEntry}{f:MapEntry->MapEntry}:(a++[e]).modify a.length f=a++[f e]:=by
 induction a with
 |nil=>simp
 |cons x a b=>simp[b]
theorem fK.TO(a:qW P t gk){z:gk.D}{vv:Value}{c:Nat}(b9:World):∀ {l:List (gk.D×gv.D)} {b:List MapEntry} (i:Nat),fK B w gk gv l b->(Instr.findAsking t (.agg (gk.cJ z).toArray) b i).run P b9=.ok none b9 ->
  (Instr.findAsking t (.agg (gk.cJ z).toArray) (b++[MapEntry.mk (.agg (gk.cJ z).toArray) vv c]) i).run P b9=.ok (some (i+b.length,vv)) b9
 |[],_,i,h,_=>by
  rw[show _=[] from h];show(Instr.findAsking t _ [MapEntry.mk (.agg (gk.cJ z).toArray) vv c] i).run P b9=_;unfold Instr.findAsking;simp only[Sem.run_bind,F5 a z z b9,Result.andThen_ok,(beq_iff z z a.eq.key).2 rfl]
  simp
 |x::l,_,i,⟨e,r,he,J,U,ah⟩,aF=>by
  subst he;have ab:=dZ.key a.ua a.eq.key J;show(Instr.findAsking t _ (e::(r++[MapEntry.mk (.agg (gk.cJ z).toArray) vv c])) i).run P b9=_;unfold Instr.findAsking at aF ⊢;rw[ab]at aF ⊢;simp only[Sem.run_bind,F5 a z x.1 b9,Result.andThen_ok]at aF ⊢;cases ag:gk.beq z x.1 with
  |true=>rw[ag]at aF;simp at aF
  |false=>
   rw[ag]at aF
   have:=fK.TO a b9 (i+1) ah (by simpa using aF) (vv:=vv) (c:=c)
   grind
section
variable {X:bx} {n:Nat} {st:aP}
theorem TP(e:X.a1.ok X.P){dC:cm}{id:Nat}{l:List (gk.D×gv.D)}{z:gk.D}(c:qW X.P e3 gk)(bj:X.a1.find t=some bB)(c6:bB.ti.desc=.map e3 fB)(he:X.a1.find fB=some dC)(h:bh st.H id=some (.mp gk gv l iW)){ks:bG}(ae:bO X R W aC n ks env B ai H st a w) :
  ∃v0,(∀b,env id=.blk b->(Instr.lookup t (.map (some b)) (.agg (gk.cJ z).toArray) false).run X.P w=.ok v0 w)/\((∀B w,dZ B w gv gv.zero dC.ti.zero)->dZ B ai gv ((cX gk gv l z).getD gv.zero) v0):=by
 obtain⟨et,K,⟨b,q,clock,ag,rfl,o,cY,_⟩,i⟩:=ae.heap.gA h;have k:=(ae.aQ.ok _ i.more.mem).2;have d:=(cd.get e bj).ti.1;rw[c6]at d;obtain⟨dp,f⟩:=c.str;have m:=bI.sg (cd.get e he).ti w;have p:∃v,(Instr.lookup t (.map (some b)) (.agg (gk.cJ z).toArray) false).run X.P w=.ok v w/\((∀B w,dZ B w gv gv.zero dC.ti.zero)->dZ B ai gv ((cX gk gv l z).getD gv.zero) v):=by
  unfold Instr.lookup;simp only[Sem.run_bind,run_underlying d,Result.andThen_ok,MapKept.run_getObj_map k,c.zU,Sem.run_pure]
  rcases o.Cl c w (z:=z) 0 with⟨aw,aI⟩|⟨y,j,v,aw,aI,bb,_⟩
  ·refine⟨dC.ti.zero,?_,λbw=>by rw[aw];exact bw _ _⟩
   simp[sK f aI,m,Result.andThen]
  ·refine⟨v,?_,λ_=>by rw[aw];exact bb⟩
   simp[sK f aI,Result.andThen]
 obtain⟨v,J,U⟩:=p;exact⟨v,λr g=>by rw[ag]at g;cases g;exact J,U⟩
theorem TQ(aq:X.a1.ok X.P){ops:Array Oper}{P S Q:Oper}{d1 d2:Nat}{dC:cm}{aG:Operand}{id:Nat}{l:List (gk.D×gv.D)}{z:gk.D}{g c cC:Bool}{fx dW:bn}{e8:gv.D}(i:qW X.P e3 gk)(L3:P.op=.mapEntry t u x)(aE:P.guard=none/\P.dst=some d1)(nA:blt d1 n=true)(L4:S.op=.extract (.tmp d1) 1)(az:S.guard=none/\S.dst=some d2)(lM:blt d2 n=true)(L5:Q.op=.entryStore t aG (.tmp d2) y)(aF:Q.guard=none/\Q.dst=none)(bj:X.a1.find t=some bB)(c6:bB.ti.desc=.map e3 fB)(he:X.a1.find fB=some dC)(hu:bu X st.L u=some (true,.c (.dv id)))(ak:bu X st.L x=some (g,fx))(aN:g=true)(nQ:dec gk fx.cells=some (c,z,[]))(aa:c=true)(bi:mn gk fx=true)(ar:bh st.H id=some (.mp gk gv l iW))(bl:bu X ((d2,b7.a (.c .dead))::(d1,b7.a (.c .dead))::st.L) aG=some (true,.c (.dv id)))(aA:bu X ((d2,b7.a (.c .dead))::(d1,b7.a (.c .dead))::st.L) y=some (g2,dW))(a0:g2=true)(bc:dec gv dW.cells=some (cC,e8,[]))(a4:cC=true)(a2:mn gv dW=true){ks:bG}(ae:bO X R W aC n ks env B ai H st a w){v0:Value}(bd:∀b,env id=.blk b->(Instr.lookup t (.map (some b)) (.agg (gk.cJ z).toArray) false).run X.P w=.ok v0 w){G G3:World->Prop}(au:∀b9,cV (λk=>R k\/B k) ai b9->(∀b,env id=.blk b->(Instr.lookup t (.map (some b)) (.agg (gk.cJ z).toArray) false).run X.P b9=.ok v0 b9)->G b9)(aK:∀b9,cV (λk=>R k\/B k) ai b9->G3 b9){KK:Act->World->Prop}(bg:∀aS w' H',bO X R W aC n ks env B ai H' ⟨(d2,.a (.c .dead))::(d1,.a (.c .dead))::st.L,qr id (.mp gk gv (ez gk gv l z e8) none) st.H⟩ aS w'->KK aS w') :
  fa X.P ops P (λab b9=>G b9/\fa X.P ops S (λZ ay=>G ay/\fa X.P ops Q (λN aB=>G3 aB/\KK N aB) Z ay) ab b9) a w:=by
 obtain⟨bv,J,b,ag,rfl⟩:=ae.aD hu rfl;obtain⟨vx,U,ah⟩:=ae.aD ak aN;have a5:=dZ.key i.ua i.eq.key (dZ.vh nQ aa bi ah);rw[a5]at U;obtain⟨et,K,⟨b',d,clock,aw,rfl,D,cY,_⟩,av⟩:=ae.heap.gA ar;rw[ag]at aw;cases aw;have F:=(ae.aQ.ok _ av.more.mem).2;have O:=(cd.get aq bj).ti.1;rw[c6]at O;obtain⟨dp,T⟩:=i.str;have ax:=bI.sg (cd.get aq he).ti w;have ca:b<w.heap.size:=(Array.getElem?_eq_some_iff.1 F).1;have L:=bd b ag
 -- what the first operation leaves
 have a9:∃(m:List MapEntry) (o j:Nat) (e:MapEntry) (v:Value),(Instr.mapEntry t (.map (some b)) (.agg (gk.cJ z).toArray)).run X.P w=.ok (.tuple #[v,.int .i64 (e.born:Int)]) { w with heap:=w.heap.setIfInBounds b (.map m.toArray o) }/\m[j]?=some e/\(m.map (·.born)).Pairwise (· < ·)/\(Instr.lookup t (.map (some b)) (.agg (gk.cJ z).toArray) false).run X.P { w with heap:=w.heap.setIfInBounds b (.map m.toArray o) }=.ok v0 { w with heap:=w.heap.setIfInBounds b (.map m.toArray o) } /\
   ∀vy,dZ B ai gv e8 vy->fK B ai gk gv (ez gk gv l z e8) (m.modify j λe=>{ e with val:=vy })/\n3 (m.modify j λe=>{ e with val:=vy }) o:=by
  unfold Instr.mapEntry;simp only[Sem.run_bind,run_underlying O,Result.andThen_ok,MapKept.run_getObj_map F,i.zU]
  rcases D.Cl i w (z:=z) 0 with⟨bb,cl⟩|⟨q,j,v,bb,cl,de,iD⟩
  ·refine⟨d++[MapEntry.mk (.agg (gk.cJ z).toArray) dC.ti.zero clock],clock+1,d.length,MapEntry.mk (.agg (gk.cJ z).toArray) dC.ti.zero clock,dC.ti.zero,?_,by simp,?_,?_,λvy A=>⟨?_,?_⟩⟩
   ·simp only[sK T cl,Result.andThen_ok,Sem.run_bind,ax,MapKept.run_setObj_map _ F]
    simp[goInt]
   ·rw[map_append,pairwise_append]
    exact⟨cY.1,by simp,λp an q s=>by simp at s;subst s;exact cY.2 p an⟩
   ·have eP:v0=dC.ti.zero:=by
     unfold Instr.lookup at L;simp only[Sem.run_bind,run_underlying O,Result.andThen_ok,MapKept.run_getObj_map F,i.zU,Sem.run_pure]at L
     simp[sK T cl,ax,Result.andThen]at L
     exact L.symm
    have M:({ w with heap:=w.heap.setIfInBounds b (.map (d++[MapEntry.mk (.agg (gk.cJ z).toArray) dC.ti.zero clock]).toArray (clock+1)) }:World).heap[b]?=some (.map (d++[MapEntry.mk (.agg (gk.cJ z).toArray) dC.ti.zero clock]).toArray (clock+1)):=by simp[ca]
    have aO:(Instr.findAsking e3 (.agg (gk.cJ z).toArray) d 0).run X.P { w with heap:=w.heap.setIfInBounds b (.map (d++[MapEntry.mk (.agg (gk.cJ z).toArray) dC.ti.zero clock]).toArray (clock+1)) }=.ok none { w with heap:=w.heap.setIfInBounds b (.map (d++[MapEntry.mk (.agg (gk.cJ z).toArray) dC.ti.zero clock]).toArray (clock+1)) }:=by
     rcases D.Cl i { w with heap:=w.heap.setIfInBounds b (.map (d++[MapEntry.mk (.agg (gk.cJ z).toArray) dC.ti.zero clock]).toArray (clock+1)) } (z:=z) 0 with⟨_,Y⟩|⟨q,j,v,Y,_⟩
     ·grind
     ·grind
    have bo:=D.TO i _ 0 aO (vv:=dC.ti.zero) (c:=clock);rw[eP];unfold Instr.lookup;simp only[Sem.run_bind,run_underlying O,Result.andThen_ok,MapKept.run_getObj_map M,i.zU,Sem.run_pure];have aP:=sK T bo;simp only[aP,Result.andThen_ok]
    simp
   ·rw[agf]
    rcases D.zV i w A (z:=z) 0 with⟨_,r⟩|⟨EF,v2,cv,r,_⟩
    ·rw[r]
     exact fK.snoc (gk:=gk) (x:=(z,e8)) (e:=MapEntry.mk (.agg (gk.cJ z).toArray) vy clock) (dZ.Tu i.ua i.eq.key z) A D
    ·rw[cl]at r
     cases r
   ·rw[n3,zv (f:=λe=>{ e with val:=vy }) (λ_=>rfl)]
    refine⟨?_,?_⟩
    ·rw[map_append,pairwise_append]
     exact⟨cY.1,by simp,λp an q s=>by simp at s;subst s;exact cY.2 p an⟩
    ·intro p an
     rw[map_append,List.mem_append]at an
     rcases an with an|an
     ·exact Nat.lt_succ_of_lt (cY.2 p an)
     ·simp at an;omega
  ·-- the entry is there
   obtain⟨E,V⟩:∃E,d[j]?=some E:=⟨_,List.getElem?_eq_getElem iD⟩
   have aQ:∀vy,dZ B ai gv e8 vy->E.key=.agg (gk.cJ z).toArray/\fK B ai gk gv (ez gk gv l z e8) (d.modify j λe=>{ e with key:=.agg (gk.cJ z).toArray,val:=vy }):=λvy A=>by
    rcases D.zV i w A (z:=z) 0 with⟨r,_⟩|⟨EF,v2,cv,r,Y,vz,aq9⟩
    ·grind
    ·grind
   refine⟨d.modify j λe=>{ e with key:=.agg (gk.cJ z).toArray },clock,j,{ E with key:=.agg (gk.cJ z).toArray },v,?_,?_,?_,?_,λvy A=>⟨?_,?_⟩⟩
   ·have aj:E.key=.agg (gk.cJ z).toArray:=by
     rcases D.zV i w de (z:=z) 0 with⟨r,_⟩|⟨EF,v2,cv,r,Y,vz,_⟩
     ·grind
     ·grind
    rw[zero_add]at cl;have ba:(Instr.keyThatStays (((d.toArray[j]?).map (·.key)).getD (.agg (gk.cJ z).toArray)) (.agg (gk.cJ z).toArray)).run X.P w=.ok (.agg (gk.cJ z).toArray) w:=by
     have:((d.toArray[j]?).map (·.key)).getD (.agg (gk.cJ z).toArray)=.agg (gk.cJ z).toArray:=by simp[V,aj]
     rw[this];unfold Instr.keyThatStays;rw[Tw λn=>F6 i.eq.key z n]
     rfl
    simp only[sK T cl,Result.andThen_ok,Sem.run_bind,ba,MapKept.run_setObj_map _ F]
    simp[goInt,V]
   ·simp[V]
   ·rw[zv (f:=λe=>{ e with key:=.agg (gk.cJ z).toArray }) (λ_=>rfl)]
    exact cY.1
   ·have aj:E.key=.agg (gk.cJ z).toArray:=by
     rcases D.zV i w de (z:=z) 0 with⟨r,_⟩|⟨EF,v2,cv,r,Y,vz,_⟩
     ·grind
     ·grind
    have aL:(d.modify j λe=>{ e with key:=.agg (gk.cJ z).toArray })=d:=by
     apply List.ext_getElem?
     intro q;rw[List.getElem?_modify]
     by_cases s:j=q
     ·subst s
      rw[V]
      simp[<- aj]
     ·grind
    rw[aL];have a8:({ w with heap:=w.heap.setIfInBounds b (.map d.toArray clock) }:World)=w:=by
     have:w.heap.setIfInBounds b (.map d.toArray clock)=w.heap:=by
      apply Array.ext_getElem?
      intro q
      by_cases s:q=b
      ·grind
      ·grind
     rw[this]
    rw[a8];exact L
   ·rw[TN]
    exact(aQ vy A).2
   ·rw[TN,n3,zv (f:=λe=>{ e with key:=.agg (gk.cJ z).toArray,val:=vy }) (λ_=>rfl)]
    exact cY
 obtain⟨m,o,j,e,v,aR,aJ,aT,al,bf⟩:=a9;have aU:=age aT aJ;have ac:∀(af:Obj),cV (λk=>R k\/B k) ai { w with heap:=w.heap.setIfInBounds b af }:=λaf=>(ae.aQ.wN (x':=af) av.more).below
 refine hD ae.bV aE.1 aE.2 (dH nA) (v:=.tuple #[v,.int .i64 (e.born:Int)]) (w':={ w with heap:=w.heap.setIfInBounds b (.map m.toArray o) }) ?_ λab am=>⟨au _ (ac _) (λa6 I=>by rw[ag]at I;cases I;exact al),?_⟩
 ·simp[execOp,L3,ae.bV.aD J,ae.bV.aD U,aR]
 have ad:=ae.set (sv:=.a (.c .dead)) (v:=.tuple #[v,.int .i64 (e.born:Int)]) trivial am;have aM:aD (full ab) (.tmp d1)=some (.tuple [v,.int .i64 (e.born:Int)].toArray):=hr am.this;refine hD ad.bV az.1 az.2 (dH lM) (v:=.int .i64 (e.born:Int)) (w':={ w with heap:=w.heap.setIfInBounds b (.map m.toArray o) }) (Qq ad.bV L4 aM rfl _) λZ ao=>⟨au _ (ac _) (λa6 I=>by rw[ag]at I;cases I;exact al),?_⟩
 have C:=ad.set (sv:=.a (.c .dead)) (v:=.int .i64 (e.born:Int)) trivial ao;have be:aD (full Z) (.tmp d2)=some (.int .i64 (e.born:Int)):=hr ao.this;obtain⟨br,aY,bw,aH,rfl⟩:=C.aD (st:=⟨(d2,b7.a (.c .dead))::(d1,b7.a (.c .dead))::st.L,st.H⟩) bl rfl;rw[ag]at aH;cases aH;obtain⟨vy,a1,a7⟩:=C.aD (st:=⟨(d2,b7.a (.c .dead))::(d1,b7.a (.c .dead))::st.L,st.H⟩) aA a0;have A:dZ B ai gv e8 vy:=dZ.vh bc a4 a2 a7;obtain⟨aI,aV⟩:=bf vy A;obtain⟨bq,bp,⟨bx,bs,bt,ap,rfl,_⟩,bk,a3⟩:=C.oU (b':=.mp gk gv (ez gk gv l z e8) none) ar;rw[ag]at ap;cases ap;have M:({ w with heap:=w.heap.setIfInBounds b (.map m.toArray o) }:World).heap[b]?=some (.map m.toArray o):=by simp[ca]
 have aW:(Instr.entryStore t (.map (some b)) (.int .i64 (e.born:Int)) vy).run X.P { w with heap:=w.heap.setIfInBounds b (.map m.toArray o) }=.ok () { w with heap:=w.heap.setIfInBounds b (.map (m.modify j λe=>{ e with val:=vy }).toArray o) }:=by
  unfold Instr.entryStore;simp only[Sem.run_bind,MapKept.run_getObj_map M,Result.andThen_ok,asInt,asIntOf,Sem.run_pure,aU];rw[MapKept.run_setObj_map _ M]
  simp[Array.setIfInBounds_setIfInBounds]
 refine Bf C.bV aF.1 aF.2 (w':={ w with heap:=w.heap.setIfInBounds b (.map (m.modify j λe=>{ e with val:=vy }).toArray o) }) ?_ λN aX=>⟨aK _ (ac _),?_⟩
 ·simp[execOp,L5,C.bV.aD aY,C.bV.aD be,C.bV.aD a1,aW]
 obtain⟨H',r⟩:=a3 _ N _ ⟨b,_,o,ag,rfl,aI,aV,λ_ h=>by cases h⟩ (C.aQ.wN bk) aX;exact bg N _ H' r
end
end
section
inductive sM where
  |t (i m:Nat)
  |m (i:Nat)
  |s (i:Nat)
  |k (i:Nat)
  |u (i:Nat) (m:qY)
  |w (i p e:Nat)
  |c (i:Nat) (ps:eh)
  |g (i:Nat)
  |z (id:Nat)
  |f
def ui:List sM->Nat
  |[]=>0
  |.z _::r=>ui r
  |.f::r=>ui r
  |.w _ _ _::r=>ui r+3+1+1
  |_::r=>ui r+1
def Gp(al:Bool)(m:Nat)(H:bC):bC:=match m with
  |1=>[]
  |3=>match al with
    |true=>H
    |false=>nK H
  |_=>H
def z1(al:Bool)(m:Nat)(H:cW):cW:=match m with
  |1=>[]
  |3=>H.filter (rD al)
  |_=>H
theorem Gq{al:Bool}{m:Nat}{l:bC}(h:bE env B w l H):bE env B w (Gp al m l) (z1 al m H)/\(z1 al m H).Sublist H:=by
  unfold Gp z1
  split
  · exact⟨rfl,List.nil_sublist _⟩
  · cases al with
    |true=>exact⟨by
        have e:H.filter (rD true)=H:=List.filter_eq_self.2 λ_ _=>rfl
        show bE env B w l (H.filter (rD true));rw[e];exact h,List.filter_sublist⟩
    |false=>exact⟨h.hE,List.filter_sublist⟩
  grind
def L7(X:bx)(n:Nat)(st:aP)(a e d:Oper):Option (Bool×aP×bG):=match a,e,d with
  |⟨some d1,.mapEntry t u x,_,_,_,none⟩,⟨some d2,.extract (.tmp f) 1,_,_,_,none⟩,⟨none,.entryStore i j (.tmp h) y,_,_,_,none⟩=>match blt d1 n&&(blt d2 n&&(beq f d1&&(beq h d2&&beq i t))),X.a1.find t,bu X st.L u,bu X st.L x with
    |true,some ⟨⟨.map e3 fB,_,_,_⟩,_⟩,some (true,.c (.dv id)),some (g,fx)=>match bh st.H id,X.a1.find fB,bu X ((d2,b7.a (.c .dead))::(d1,b7.a (.c .dead))::st.L) j,bu X ((d2,b7.a (.c .dead))::(d1,b7.a (.c .dead))::st.L) y with
      |some (.mp gk gv l _),some _,some (true,.c (.dv b)),some (g2,dW)=>match dec gk fx.cells,dec gv dW.cells,beq b id&&(zW X e3 gk&&(mn gk fx&&mn gv dW))with
        |some (c,z,[]),some (cC,e8,[]),true=>some (g&&(c&&(g2&&cC)),⟨(d2,.a (.c .dead))::(d1,.a (.c .dead))::st.L,qr id (.mp gk gv (ez gk gv l z e8) none) st.H⟩,[d2,d1,id])
        |_,_,_=>none
      |_,_,_,_=>none
    |_,_,_,_=>none
  |_,_,_=>none
theorem agr{i l j:Oper}{c:Bool}(b:X.a1.ok X.P)(h:L7 X n st i l j=some (c,st',V))(aa:c=true){ops:Array Oper}{ks:bG}(ae:bO X R W aC n ks env B ai H st a w){G:World->Prop}(m:∀b9,cV (λk=>R k\/B k) ai b9->G b9){KK:Act->World->Prop}(D:∀aS w' H',bO X R W aC n ks env B ai H' st' aS w'->KK aS w') :
    fa X.P ops i (λv b9=>G b9/\fa X.P ops l (λr o=>G o/\fa X.P ops j (λs q=>G q/\KK s q) r o) v b9) a w:=by
  unfold L7 at h
  split at h
  · rename_i d1 t u x _ _ _ d2 F _ _ _ J K I y _ _ _
    split at h
    · rename_i ag bj hu ak
      simp only[and_eq_true]at ag;obtain⟨nA,lM,d,e,f⟩:=ag;have d:=eq_of_beq_eq_true d;have e:=eq_of_beq_eq_true e;have f:=eq_of_beq_eq_true f;subst d;subst e;subst f
      split at h
      · rename_i ao he E aA
        split at h
        · rename_i nQ ub ab
          simp only[and_eq_true]at ab;obtain⟨g,p,A,C⟩:=ab;have g:=eq_of_beq_eq_true g;subst g;cases h;simp only[and_eq_true]at aa;obtain⟨v0,z,_⟩:=TP b (Cn b p) bj rfl he ao ae;exact TQ b (Cn b p) rfl ⟨rfl,rfl⟩ nA rfl ⟨rfl,rfl⟩ lM rfl ⟨rfl,rfl⟩ bj rfl he hu ak aa.1 nQ aa.2.1 A ao E aA aa.2.2.1 ub aa.2.2.2 C ae z (λb9 h _=>m b9 h) m D
        · cases h
      · cases h
    · cases h
  · cases h
def Cz(X:bx)(n:Nat)(st:aP)(k a h j i:Oper):Option (Bool×aP×bG):=match k,a.guard,a.dst,h,j,i with
  |⟨some d,.lookup t (.tmp lY) (.tmp fx) false,_,_,_,none⟩,none,some jN,⟨some d1,.mapEntry p (.tmp b) (.tmp e),_,_,_,none⟩,⟨some d2,.extract (.tmp m) 1,_,_,_,none⟩,⟨none,.entryStore q (.tmp f) (.tmp o) y,_,_,_,none⟩=>
    match (blt d n&&(blt jN n&&(blt d1 n&&blt d2 n)))&&((beq b lY&&(beq e fx&&(beq f lY&&(beq m d1&&(beq o d2&&(beq p t&&beq q t))))))&&((!beq lY d&&(!beq lY jN&&(!beq lY d1&&(!beq lY d2&&(!beq fx d&&!beq fx jN)))))&&(pQ a.op&&!n5 a.op))),X.a1.find t,bu X st.L (.tmp lY),bu X st.L (.tmp fx)with
    |true,some ⟨⟨.map e3 fB,_,_,_⟩,_⟩,some (true,.c (.dv id)),some (g,sJ)=>match bh st.H id,X.a1.find fB with
      |some (.mp gk gv l _),some dC=>match dec gk sJ.cells,zW X e3 gk&&(mn gk sJ&&Co gv dC.ti.zero)with
        |some (c,z,[]),true=>match pX gv ((cX gk gv l z).getD gv.zero)with
          |some sa=>match wT X ⟨(d,.a sa)::st.L,st.H⟩ a.op with
            |some (uS,sp)=>match bu X ((d2,b7.a (.c .dead))::(d1,b7.a (.c .dead))::(jN,.a sp)::(d,.a sa)::st.L) y with
              |some (g2,dW)=>match dec gv dW.cells,mn gv dW with
                |some (cC,e8,[]),true=>some (g&&(c&&(uS&&(g2&&cC))),⟨(d2,.a (.c .dead))::(d1,.a (.c .dead))::(jN,.a sp)::(d,.a sa)::st.L,qr id (.mp gk gv (ez gk gv l z e8) none) st.H⟩,[d2,d1,jN,d,id])
                |_,_=>none
              |none=>none
            |none=>none
          |none=>none
        |_,_=>none
      |_,_=>none
    |_,_,_,_=>none
  |_,_,_,_,_,_=>none
def L8(ops:Array Oper)(E:bG)(listed:Array Bool)(i p e:Nat):Bool:=
  (pR ops E listed i&&pR ops E (listed.setIfInBounds i true) p&&((xI ops i).all λj=>!listed.getD j true&&zg ops i (xI ops i) j) &&
    (range ops.size).all λj=>j==i || listed.getD j true || j==e || j==e+1 || (xI ops i).elem j) &&
  (((Region.ready .any ops ((listed.setIfInBounds i true).setIfInBounds p true)==[e])&&(Region.ready .any ops (((listed.setIfInBounds i true).setIfInBounds p true).setIfInBounds e true)==[e+1])&&(Region.ready .any ops ((((listed.setIfInBounds i true).setIfInBounds p true).setIfInBounds e true).setIfInBounds (e+1) true)==[e+2])) &&
   (!E.elem i&&!E.elem p&&!E.elem e&&!E.elem (e+1)&&!E.elem (e+2))&&(!beq p e&&!beq p (e+1)&&blt (e+1) listed.size))
def TZ(ops:Array Oper)(E:bG)(listed:Array Bool)(i:Nat):Bool:=(range ops.size).all λj=>j==i || listed.getD j true || E.elem j || E.elem (j+nI) ||
  (match ops[j]? with
  |some o=>o.after.any λe=>Region.binds .any e&&(e.on==i || E.elem (e.on+nI))
  |none=>true)
theorem T0:(l.setIfInBounds j true).getD j true=true:=by
  rcases Nat.lt_or_ge j l.size with aW|aW
  · simp[aW]
  grind
theorem T1{E:bG}(h:tD E (l.setIfInBounds j true)=false):tD E l=false:=by
  unfold tD at h ⊢;rw[List.any_eq_false]at h ⊢;intro e he ag;refine h e he ?_;rw[and_eq_true]at ag ⊢;refine⟨ag.1,?_⟩;obtain⟨q,c⟩:∃q,q=e-nI:=⟨_,rfl⟩
  have b:=ag.2;rw[<- c]at b ⊢
  by_cases a:j=q
  · rw[a];exact T0
  · rw[getD_set_ne true a]
    exact b
theorem T2{E:bG}(a:E.elem (j+nI)=true)(ao:l.getD j true=true):tD E l=true:=by
  unfold tD;rw[List.any_eq_true];refine⟨j+nI,by simpa using a,?_⟩;rw[and_eq_true];exact⟨Nat.ble_eq_true_of_le (Nat.le_add_left _ _),by rw[Nat.add_sub_cancel];exact ao⟩
theorem gN.ags{ops:Array Oper}{Q:Exit->Act->World->Prop}{E:bG}{G F:World->Prop}{g:Oper}{v:Value}(hi:ops[i]?=some g)(I:∀(j:Nat) (o:Oper) cs b,ops[j]?=some o->o.op≠.select cs b)(K:BN E i=true):∀(fuel:Nat) (listed:Array Bool) (a:Act) (w:World),
      (∀j c,ops[j]?=some c->j≠i->listed.getD j true=false->(∀e∈c.after,Region.binds .any e=true->e.on≠i)->g.apart ops c=true/\(E.elem j=true\/E.elem (j+nI)=true\/∃e∈c.after,Region.binds .any e=true/\E.elem (e.on+nI)=true)) ->
      i∈Region.ready .any ops listed->YieldsIf P ops F g v a->F w->(fz E listed i=true->G w) ->
      gN P ops Q (λj l w=>(fz E l j=true->G w)/\F w) fuel (listed.setIfInBounds i true) (a.put g.dst v) w->gN P ops Q (λj l w=>(fz E l j=true->G w)/\F w) (fuel+1) listed a w:=by
  have A:∀ {l:Array Bool} {j:Nat},fz E l j=true->fz E (l.setIfInBounds i true) j=true:=Kv K;intro fuel
  induction fuel with
  |zero=>
    intro listed a w _ f aA n u H;refine⟨λh=>(by rw[h]at f;cases f),λj s=>?_⟩
    by_cases d:j=i
    · subst d;exact⟨g,hi,Fi aA n ⟨⟨u,n⟩,H⟩⟩
    · have:=ready_mono s d
      rw[H.1]at this;cases this
  |succ fuel S=>
    intro listed a w D f aA n u H;refine⟨λh=>(by rw[h]at f;cases f),λj s=>?_⟩
    by_cases d:j=i
    · subst d;exact⟨g,hi,Fi aA n ⟨⟨u,n⟩,H⟩⟩
    · obtain⟨L,M,B⟩:=H.2 j (ready_mono s d)
      obtain⟨C,c,t,V⟩:=mem_ready.1 s;have N:L=c:=Option.some.inj (M.symm.trans t);rw[N]at B;have O:∀e∈c.after,Region.binds .any e=true->e.on≠i:=λe he ag heq=>by
        have p:=V e he ag;have J:=(mem_ready.1 f).1;rw[heq]at p
        rcases Nat.lt_or_ge i listed.size with aW|aW
        · simp[aW]at J p;rw[J]at p;cases p
        · simp[Array.getElem?_eq_none aW]at p
      obtain⟨kK,R⟩:=D j c t d C O;have X:=fa.RI kK (λcs b=>I i g cs b hi) (λcs b=>I j c cs b t) aA B;refine⟨c,t,X.mono λaS w' m=>⟨⟨λq=>m.2.1.1 (A q),m.2.1.2⟩,?_⟩⟩;refine S (listed.setIfInBounds j true) aS w' (λk ok ab W y U=>?_) (ready_mono f (Ne.symm d)) m.1 m.2.1.2 (λq=>?_) ?_
      · refine D k ok ab W ?_ U
        by_cases z:j=k
        · subst z;exact C
        · rw[getD_set_ne true z]at y;exact y
      · have r:tD E (listed.setIfInBounds j true)=false:=by
          unfold fz at q;rw[and_eq_true,not_eq_true']at q;exact q.2
        rcases R with aI|aI|⟨e,he,ag,aI⟩
        · refine m.2.1.1 (A ?_)
          unfold fz;rw[aI,T1 r]
          rfl
        · rw[T2 aI T0]at r
          cases r
        · have ao:listed.getD e.on true=true:=by
            grind
          have T:=T1 r;rw[T2 aI ao]at T
          grind
      · rw[Array.setIfInBounds_comm _ _ d]
        exact m.2.2
def Gs(ops:Array Oper)(E:bG)(i m:Nat)(aK:hU):Bool:=match m with
  |0=>pR ops E aK.listed i&&zi ops E aK.listed aK.pre i&&nJ (λo=>pQ o&&!n5 o) ops i
  |1=>pR ops E aK.listed i&&zi ops E aK.listed aK.pre i&&nJ pQ ops i&&aK.lR
  |3=>pR ops E aK.listed i&&zh ops E (xI ops i) aK.listed i&&nJ pQ ops i&&aK.early&&aK.pre
  |5=>pR ops E aK.listed i&&TZ ops E aK.listed i&&nJ (λo=>pQ o&&!n5 o) ops i&&aK.pre
  |_=>false
def hU.next(aK:hU)(i:Nat):hU:=⟨aK.listed.setIfInBounds i true,aK.early,aK.pre,aK.lR,aK.all⟩
section
variable {X:bx} {aT:Type}
def gw(X:bx)(n:Nat)(T:List (bA X))(ops:List Oper)(E:bG):List sM->hU->gu->bG->ed->aP->(hU->gu->bG->ed->aP->Option aT)->Option aT
  |[],aK,G,V,A,st,k=>k aK G V A st
  |.t i m::r,aK,G,V,A,st,k=>match nth ops i,Gs ops.toArray E i m aK with
    |some o,true=>match o.guard,o.dst with
      |none,some d=>match vt X (ey ops) [] G ⟨st.L,Gp aK.all m st.H⟩ o.op,blt d n with
        |some (c,sa),true=>gw X n T ops E r (aK.next i) (pd (ey ops) d G) (d::V) (c::A) ⟨(d,.a sa)::st.L,st.H⟩ k
        |_,_=>none
      |some (j,want),some d=>match nth (ey ops) j with
        |some (some s)=>match kY st.L s want with
          |some g=>match vt X (ey ops) (vr (ey ops) G 8 j want) G ⟨st.L,Gp aK.all m st.H⟩ o.op,blt d n,beq s d with
            |some (c,sa),true,false=>gw X n T ops E r (aK.next i) ((d,j,want)::pd (ey ops) d G) (d::V) (ew g c::A) ⟨(d,.may g sa)::st.L,st.H⟩ k
            |_,_,_=>none
          |none=>none
        |_=>none
      |_,none=>none
    |_,_=>none
  |.m i::r,aK,G,V,A,st,k=>match nth ops i,Gs ops.toArray E i 0 aK with
    |some o,true=>match o.guard,o.dst,EY st.L o.op with
      |none,some d,some xs=>match blt d n with
        |true=>gw X n T ops E r (aK.next i) (pd (ey ops) d G) (d::V) A ⟨(d,.cE xs)::st.L,st.H⟩ k
        |false=>none
      |_,_,_=>none
    |_,_=>none
  |.s i::r,aK,_,V,A,st,k=>match nth ops i,Region.ready .any ops.toArray aK.listed==[i],fz E aK.listed i with
    |some o,true,false=>match o.guard with
      |none=>match xD X n st o with
        |some (c,st',W)=>gw X n T ops E r ⟨aK.listed.setIfInBounds i true,false,false,aK.lR,aK.all⟩ [] (W++V) (c::A) st' k
        |none=>match kO X n (ey ops) st o with
          |.ok c st'=>gw X n T ops E r ⟨aK.listed.setIfInBounds i true,false,false,aK.lR,aK.all⟩ [] (xB X st.L o++V) (c::A) st' k
          |.stop=>none
      |some _=>none
    |_,_,_=>none
  |.k i::r,aK,_,V,A,st,k=>match nth ops i,Region.ready .any ops.toArray aK.listed==[i],aK.pre with
    |some o,true,true=>match o.guard with
      |none=>match o.dst,zR X st o.op with
        |some d,some (c,sa)=>match blt d n with
          |true=>gw X n T ops E r ⟨aK.listed.setIfInBounds i true,false,true,false,aK.all⟩ [] (d::V) (c::A) ⟨(d,.a sa)::st.L,st.H⟩ k
          |false=>none
        |_,none=>match cond aK.all (y8 o.op&&uV o st.H) (Bv o.op&&ry o st.H),kO X n (ey ops) st o with
          |true,.ok c st'=>gw X n T ops E r ⟨aK.listed.setIfInBounds i true,false,true,aK.lR,aK.all⟩ [] (xB X st.L o++V) (c::A) st' k
          |_,_=>none
        |none,some _=>none
      |some _=>none
    |_,_,_=>none
  |.u i m::r,aK,_,V,A,st,k=>match nth ops i,Region.ready .any ops.toArray aK.listed==[i],fz E aK.listed i with
    |some o,true,false=>match xE X n st m o with
      |some (c,st',W)=>gw X n T ops E r ⟨aK.listed.setIfInBounds i true,false,false,aK.lR,aK.all⟩ [] (W++V) (c::A) st' k
      |none=>none
    |_,_,_=>none
  |.w i p e::r,aK,_,V,A,st,k=>match nth ops i,nth ops p,nth ops e,nth ops (e+1),nth ops (e+2),L8 ops.toArray E aK.listed i p e with
    |some u,some t,some h,some q,some l,true=>match Cz X n st u t h q l with
      |some (c,st',W)=>gw X n T ops E r ⟨((((aK.listed.setIfInBounds i true).setIfInBounds p true).setIfInBounds e true).setIfInBounds (e+1) true).setIfInBounds (e+2) true,false,false,aK.lR,aK.all⟩ [] (W++V) (c::A) st' k
      |none=>none
    |_,_,_,_,_,_=>none
  |.c i ps::r,aK,_,V,A,st,k=>match nth ops i,Region.ready .any ops.toArray aK.listed==[i],!fz E aK.listed i || (aK.pre&&(rM st.H ps || (!aK.all&&zH st.H ps)))with
    |some o,true,true=>xF X n T ps V A st (λb f a st'=>gw X n T ops E r ⟨aK.listed.setIfInBounds i true,false,aK.pre&&(rM st.H ps || (!aK.all&&zH st.H ps)),false,aK.all⟩ b f a st' k) o
    |_,_,_=>none
  |.g i::r,aK,G,V,A,st,k=>match nth ops i,Region.ready .any ops.toArray aK.listed==[i],fz E aK.listed i with
    |some o,true,false=>zX X n T (ey ops) G V A st (λb f a st'=>gw X n T ops E r ⟨aK.listed.setIfInBounds i true,false,false,false,aK.all⟩ b f a st' k) o
    |_,_,_=>none
  |.z id::r,aK,_,V,A,st,k=>match da id st with
    |some st'=>gw X n T ops E r ⟨aK.listed,false,aK.pre&&!aK.all,false,aK.all⟩ [] V A st' k
    |none=>none
  |.f::r,aK,G,V,A,st,k=>match E.isEmpty || aK.pre with
    |true=>gw X n T ops E r ⟨aK.listed,true,true,true,aK.all⟩ G V A st k
    |false=>none
variable {M:Bool} {n:Nat} {T:List (bA X)} {st0 st st':aP} {Q:Exit->aP->Prop} {ops:List Oper} {o:Oper} {r:aT} {V:bG} {A:ed} {E:bG} {aK:hU} {fuel i:Nat}
theorem ka{k:hU->gu->bG->ed->aP->Option aT}(a:∀aK G V A st,k aK G V A st=some r->∀c∈A,c=true):∀ {is:List sM} {aK:hU} {G:gu} {V:bG} {A:ed} {st:aP},gw X n T ops E is aK G V A st k=some r->∀c∈A,c=true
  |[],aK,G,V,A,st,h=>by
    unfold gw at h;exact a _ _ _ _ _ h
  |.t i m::is,aK,G,V,A,st,h=>by
    unfold gw at h
    split at h
    · split at h
      · split at h
        · exact λc aa=>ka a h c (mem_cons_of_mem _ aa)
        · cases h
      · split at h
        · split at h
          · split at h
            · exact λc aa=>ka a h c (mem_cons_of_mem _ aa)
            · cases h
          · cases h
        · cases h
      · cases h
    · cases h
  |.m i::is,aK,G,V,A,st,h=>by
    unfold gw at h
    split at h
    · split at h
      · split at h
        · exact ka a h
        · cases h
      · cases h
    · cases h
  |.s i::is,aK,G,V,A,st,h=>by
    unfold gw at h
    split at h
    · split at h
      · split at h
        · exact λc aa=>ka a h c (mem_cons_of_mem _ aa)
        · split at h
          · exact λc aa=>ka a h c (mem_cons_of_mem _ aa)
          · cases h
      · cases h
    · cases h
  |.k i::is,aK,G,V,A,st,h=>by
    unfold gw at h
    split at h
    · split at h
      · split at h
        · split at h
          · exact λc aa=>ka a h c (mem_cons_of_mem _ aa)
          · cases h
        · split at h
          · exact λc aa=>ka a h c (mem_cons_of_mem _ aa)
          · cases h
        · cases h
      · cases h
    · cases h
  |.u i m::is,aK,G,V,A,st,h=>by
    unfold gw at h
    split at h
    · split at h
      · exact λc aa=>ka a h c (mem_cons_of_mem _ aa)
      · cases h
    · cases h
  |.w i p e::is,aK,G,V,A,st,h=>by
    unfold gw at h
    split at h
    · split at h
      · exact λc aa=>ka a h c (mem_cons_of_mem _ aa)
      · cases h
    · cases h
  |.c i ps::is,aK,G,V,A,st,h=>by
    unfold gw at h
    split at h
    · exact(vw (di.refl (V:=V) st) h).1
    · cases h
  |.g i::is,aK,G,V,A,st,h=>by
    unfold gw at h
    split at h
    · exact TG h
    · cases h
  |.z id::is,aK,G,V,A,st,h=>by
    unfold gw at h
    split at h
    · exact ka a h
    · cases h
  |.f::is,aK,G,V,A,st,h=>by
    unfold gw at h
    split at h
    · exact ka a h
    · cases h
theorem T3(d:X.a1.ok X.P){ks:bG}{C:cW}{i h:bC}{c:Bool}{G:gu}{ps:List (Nat×Bool)}{sa:bn}(ae:bO X R W aC n ks env B ai H ⟨L,i⟩ a w)(e:bE env B ai h C)(cA:C.Sublist H)(f:eK (ey ops) G L)(an:∀p∈ps,p0 (ey ops) L p)(b:vt X (ey ops) ps G ⟨L,h⟩ o.op=some (c,sa))(aa:c=true) :
    ∃v,dN env B ai sa v/\∀w',(n5 o.op=true->bK (λk=>R k\/B k) ai C w')->(execOp a.eval o).run X.P w'=.ok (.value v) w':=by
  have g:bO X R W aC n [] env B ai C ⟨L,h⟩ { tmps:=a.tmps,defers:=aC.d } w:=⟨ae.size,rfl,ae.has,e,ae.aQ.fb (by simpa using cA.trans (sublist_append_left _ _)),ae.sub,ae.new,ae.dB,ae.base,ae.eg⟩
  obtain⟨v,J,U⟩:=Tl d g f an b aa;refine⟨v,J,λw' hw=>?_⟩
  have:=U w' (by simpa using hw)
  exact this
theorem Gt(am:X.a1.ok X.P){m:Nat}{sv:b7}{p:Nat->Prop}{q:World}{cL:cW}{F:World->Prop}{ks:bG}{M:Exit->Act->World->Prop}(hi:nth ops i=some o)(bj:Gs ops.toArray E i m aK=true)(ad:o.dst=some d)(az:blt d n=true)(ae:bO X R W aC n ks env B ai H st a w)(b:mX R aK p q cL F B ai H)(v:Value)(ag:eI env B ai sv v)(aA:∀T:World->Prop,(∀w',T w'->n5 o.op=true->bK (λk=>R k\/B k) ai (z1 aK.all m H) w')->YieldsIf X.P ops.toArray T o v a)(S:∀aS,bO X R W aC n ks env B ai H ⟨(d,sv)::st.L,st.H⟩ aS w->mX R (aK.next i) p q cL F B ai H->gN X.P ops.toArray M (λj l w=>(fz E l j=true->bK (λk=>R k\/p k) q cL w)/\F w) fuel (aK.next i).listed aS w) :
    gN X.P ops.toArray M (λj l w=>(fz E l j=true->bK (λk=>R k\/p k) q cL w)/\F w) (fuel+1) aK.listed a w:=by
  have c:=mm hi;have s:F w:=b.F ae;have O:=ae.set (sv:=sv) ag (show c5 n (kf ks aC) ((d,v)::full a) (a.put o.dst v) by rw[ad];exact ae.bV.put d v (dH az));have af:mX R (aK.next i) p q cL F B ai H:=⟨b.early,b.pre,b.da,b.oX⟩
  have go:=S _ O af;unfold Gs at bj
  split at bj
  · simp only[nJ,c,and_eq_true,not_eq_true']at bj
    obtain⟨⟨f,A⟩,D,t⟩:=bj;obtain⟨oi,C⟩:=Fo A;exact zj (E.elem i) v c f id oi (aA _ λw' _ ao=>by rw[t]at ao;cases ao) (λhe=>b.T (C he) ae) s go
  · simp only[nJ,c,and_eq_true]at bj
    obtain⟨⟨⟨f,A⟩,D⟩,aj⟩:=bj;obtain⟨oi,C⟩:=Fo A;refine zj (E.elem i) v c f id oi (aA _ λw' y _=>?_) (λhe=>b.T (C he) ae) s go;have g:=y.2;rw[b.da aj]at g;refine⟨g,λk ab=>?_,(λ_ h=>by cases h),List.Pairwise.nil⟩;have ah:=ae.aQ.base k ab;have Y:=ae.aQ.below.block k ab;have G:=g.block k ab;rw[<- Y,Array.getElem?_eq_getElem ah]at G;exact(Array.getElem?_eq_some_iff.1 G).1
  · simp only[nJ,c,and_eq_true]at bj
    obtain⟨⟨⟨⟨f,r⟩,D⟩,Q⟩,z⟩:=bj;refine zj true v c f (λ_=>rfl) (λ_=>r) (aA _ λw' y _=>?_) (λ_=>b.T z ae) s go;have g:=y.1 rfl;obtain⟨V,Z,aa⟩:=b.early Q;rw[V,Z,aa]at g;exact g
  · simp only[nJ,c,and_eq_true,not_eq_true']at bj
    obtain⟨⟨⟨f,r⟩,D,t⟩,z⟩:=bj;simp only[pR,and_eq_true]at f;obtain⟨⟨⟨N,al⟩,ak⟩,P⟩:=f;refine gN.ags c (Region.noSelect_spec al) N _ _ _ _ (λj ac u K L I=>⟨Region.free_spec c ak j ac u K L I,?_⟩) (by simpa using P) (aA F λw' _ ao=>by rw[t]at ao;cases ao) s (λ_=>b.T z ae) go;unfold TZ at r;rw[List.all_eq_true]at r;have J:=r j (List.mem_range.2 (Array.getElem?_eq_some_iff.1 u).1);simp only[or_eq_true,u,Array.any_eq_true]at J
    rcases J with(((J|J)|J)|J)|⟨e,he,J⟩
    · exact absurd (by simpa using J) K
    · rw[L]at J;cases J
    · exact .inl J
    · exact .inr (.inl J)
    · rw[and_eq_true,or_eq_true]at J
      rcases J.2 with U|U
      · exact absurd (by simpa using U) (I _ (Array.getElem_mem he) J.1)
      · exact .inr (.inr ⟨_,Array.getElem_mem he,J.1,U⟩)
  · cases bj
theorem T4{H:bC}{pre al:Bool}(h:(pre&&(rM H ps || (!al&&zH H ps)))=true):pre=true/\∀c,rD al c=true->xo H ps c=true:=by
  grind [xo,rD]
theorem CA{pre':Bool}{kp:bm->Bool}(hi:nth ops i=some o)(an:vo X n o kp st st')(s:pre'=true->aK.pre=true/\∀c,rD aK.all c=true->kp c=true)(C:(!fz E aK.listed i || pre')=true)(h:jh X M n ops E fuel ⟨aK.listed.setIfInBounds i true,false,pre',false,aK.all⟩ st' Q):sy X M n ops E fuel aK st Q i:=by
  intro R W aC g m cL F ks env B ai H a w v ae l;refine⟨o,mm hi,an R W aC ks env B ai H a w ae _ _ λaS w' env' B' j H' d q b z=>?_⟩;have f:mX R ⟨aK.listed.setIfInBounds i true,false,pre',false,aK.all⟩ g m cL F B' j H':=⟨λh=>(by cases h),λh=>by
    have r:pre'=true:=h;obtain⟨t,u⟩:=s r;obtain⟨e,g2,p,y⟩:=l.pre t;exact⟨λc aa=>⟨z c (e c aa).1 (u c (e c aa).2),(e c aa).2⟩,g2,λk ab=>q k (p k ab),y.trans ⟨b.os,b.tape,b.output,b.size,λk ab=>b.block k (ab.imp id (p k))⟩⟩,λh=>(by cases h),λw hw=>l.oX w (b.trans ⟨hw.os,hw.tape,hw.output,hw.size,λk ab=>hw.block k (ab.imp id (q k))⟩)⟩
  refine⟨⟨λA=>f.T ?_ d,f.F d⟩,h R W aC g m cL F ks env' B' j H' aS w' v d f⟩
  grind
theorem agw(hi:nth ops i=some o)(an:∀(R:Nat->Prop) (W:World) (aC:fe) (ks:bG) (env:Nat->Loc) (B:Nat->Prop) (ai:World) (H:cW) (a:Act) (w:World),bO X R W aC n ks env B ai H st a w->∀(KK:Act->World->Prop),(∀aS w' env' B' b H',bO X R W aC n ks env' B' b H' st' aS w'->(∀k,B k->B' k)->cV (λk=>R k\/B k) ai b->KK aS w')->fa X.P ops.toArray o KK a w)(m:fz E aK.listed i=false)(h:jh X M n ops E fuel ⟨aK.listed.setIfInBounds i true,false,false,false,aK.all⟩ st' Q):sy X M n ops E fuel aK st Q i:=by
  intro R W aC d f cL F ks env B ai H a w j ae l;refine⟨o,mm hi,an R W aC ks env B ai H a w ae _ λaS w' env' B' b H' c p q=>?_⟩;have g:mX R ⟨aK.listed.setIfInBounds i true,false,false,false,aK.all⟩ d f cL F B' b H':=⟨λh=>(by cases h),λh=>(by cases h),λh=>(by cases h),λw hw=>l.oX w (q.trans ⟨hw.os,hw.tape,hw.output,hw.size,λk ab=>hw.block k (ab.imp id (p k))⟩)⟩
  exact⟨⟨λe=>(by rw[m]at e;cases e),g.F c⟩,h R W aC d f cL F ks env' B' b H' aS w' j c g⟩
theorem vC(a:(Region.ready .any ops.toArray aK.listed==[i])=true)(h:sy X M n ops E fuel aK st Q i):jh X M n ops E (fuel+1) aK st Q:=KE (beq_iff_eq.1 a) (zo h KD)
theorem jq.T5{sa:bn}(an:jq X st o sa)(b:o.guard=none/\o.dst=some d)(az:blt d n=true):vo X n o (λ_=>true) st ⟨(d,.a sa)::st.L,st.H⟩:=by
  intro R W aC ks env B ai H a w ae KK l e;obtain⟨v,J,U⟩:=an ae;exact hD ae.bV b.1 b.2 (dH az) (U w λ_=>ae.aQ) λaS c=>e aS w env B ai H (ae.set (sv:=.a sa) J c) (λ_ h=>h) (cV.refl _ _) λ_ h _=>h
theorem ard(D:X.a1.ok X.P){m p o:Oper}{c:Bool}{K:bG}(J:nth ops i=some m)(U:nth ops (i+1)=some p)(ah:nth ops (i+2)=some o)(s:(Region.ready .any ops.toArray aK.listed==[i]&&(Region.ready .any ops.toArray (aK.listed.setIfInBounds i true)==[i+1]&&Region.ready .any ops.toArray ((aK.listed.setIfInBounds i true).setIfInBounds (i+1) true)==[i+2]))=true)(z:(fz E aK.listed i || (fz E (aK.listed.setIfInBounds i true) (i+1) || fz E ((aK.listed.setIfInBounds i true).setIfInBounds (i+1) true) (i+2)))=false)(ak:L7 X n st m p o=some (c,st',K))(aa:c=true)(h:jh X M n ops E fuel ⟨((aK.listed.setIfInBounds i true).setIfInBounds (i+1) true).setIfInBounds (i+2) true,false,false,aK.lR,aK.all⟩ st' Q):jh X M n ops E (fuel+3) aK st Q:=by
  intro R W aC u y cL F ks env B ai H a w I ae v;simp only[and_eq_true,beq_iff_eq]at s;obtain⟨q,r,t⟩:=s;simp only[Bool.or_eq_false_iff]at z;obtain⟨S,T,V⟩:=z;have f:=agr (ops:=ops.toArray) D ak aa ae (G:=F) (λb9 ab=>v.oX b9 ab) (KK:=λaS w'=>gN X.P ops.toArray (λe a w=>e=.normal/\∃st',Q e st'/\me X R W aC M n st' a w) (λj l w=>(fz E l j=true->bK (λk=>R k\/u k) y cL w)/\F w) fuel (((aK.listed.setIfInBounds i true).setIfInBounds (i+1) true).setIfInBounds (i+2) true) aS w') (λaS w' H' L=>h R W aC u y cL F ks env B ai H' aS w' I L v.lost);refine⟨λb=>(by rw[q]at b;cases b),λk ab=>?_⟩;rw[q]at ab;have g:k=i:=by simpa using ab
  subst g;refine⟨m,mm J,f.mono λad b9 ⟨O,f⟩=>⟨⟨λd=>(by rw[S]at d;cases d),O⟩,?_⟩⟩;refine⟨λb=>(by rw[r]at b;cases b),λN A=>?_⟩;rw[r]at A;have g:N=k+1:=by simpa using A
  subst g;refine⟨p,mm U,f.mono λZ af ⟨g2,f⟩=>⟨⟨λd=>(by rw[T]at d;cases d),g2⟩,?_⟩⟩;refine⟨λb=>(by rw[t]at b;cases b),λY C=>?_⟩;rw[t]at C;have g:Y=k+2:=by simpa using C
  subst g;exact⟨o,mm ah,f.mono λac ag ⟨P,f⟩=>⟨⟨λd=>(by rw[V]at d;cases d),P⟩,f⟩⟩
structure agx(X:bx)(n:Nat)(st:aP)(lu j9 aY br b3:Oper)(c:Bool)(st':aP)(W:bG) where
  d:Nat
  jN:Nat
  d1:Nat
  d2:Nat
  lY:Nat
  fx:Nat
  t:TypeId
  e3:TypeId
  fB:TypeId
  id:Nat
  bB:cm
  dC:cm
  gk:aZ
  gv:aZ
  l:List (gk.D×gv.D)
  iW:Option (List MapEntry×Nat)
  z:gk.D
  g:Bool
  T6:Bool
  uS:Bool
  g2:Bool
  cC:Bool
  sJ:bn
  sa:bn
  sp:bn
  dW:bn
  e8:gv.D
  y:Operand
  agy:lu.op=.lookup t (.tmp lY) (.tmp fx) false
  cR:lu.guard=none/\lu.dst=some d
  nT:j9.guard=none/\j9.dst=some jN
  L3:aY.op=.mapEntry t (.tmp lY) (.tmp fx)
  J:aY.guard=none/\aY.dst=some d1
  L4:br.op=.extract (.tmp d1) 1
  U:br.guard=none/\br.dst=some d2
  L5:b3.op=.entryStore t (.tmp lY) (.tmp d2) y
  ah:b3.guard=none/\b3.dst=none
  az:blt d n=true
  agz:blt jN n=true
  nA:blt d1 n=true
  lM:blt d2 n=true
  Gu:lY≠d/\lY≠jN/\lY≠d1/\lY≠d2
  T7:fx≠d/\fx≠jN
  pu:pQ j9.op=true/\n5 j9.op=false
  bj:X.a1.find t=some bB
  c6:bB.ti.desc=.map e3 fB
  he:X.a1.find fB=some dC
  hu:bu X st.L (.tmp lY)=some (true,.c (.dv id))
  ak:bu X st.L (.tmp fx)=some (g,sJ)
  ao:bh st.H id=some (.mp gk gv l iW)
  nQ:dec gk sJ.cells=some (T6,z,[])
  ab:zW X e3 gk=true
  T8:mn gk sJ=true
  bw:Co gv dC.ti.zero=true
  mo:pX gv ((cX gk gv l z).getD gv.zero)=some sa
  kK:wT X ⟨(d,.a sa)::st.L,st.H⟩ j9.op=some (uS,sp)
  aA:bu X ((d2,b7.a (.c .dead))::(d1,b7.a (.c .dead))::(jN,.a sp)::(d,.a sa)::st.L) y=some (g2,dW)
  ub:dec gv dW.cells=some (cC,e8,[])
  agA:mn gv dW=true
  aa:c=(g&&(T6&&(uS&&(g2&&cC))))
  cY:st'=⟨(d2,.a (.c .dead))::(d1,.a (.c .dead))::(jN,.a sp)::(d,.a sa)::st.L,qr id (.mp gk gv (ez gk gv l z e8) none) st.H⟩
  ck:W=[d2,d1,jN,d,id]
theorem T9{p o j m k:Oper}{c:Bool}{l:bG}(ak:Cz X n st p o j m k=some (c,st',l)):Nonempty (agx X n st p o j m k c st' l):=by
  unfold Cz at ak
  split at ak
  · rename_i d t lY fx _ _ _ jN d1 N I J _ _ _ d2 L _ _ _ O K M y _ _ _ A z
    split at ak
    · rename_i ag bj hu q
      simp only[and_eq_true,not_eq_true']at ag;obtain⟨⟨la,w,D,F⟩,⟨e,f,g,h,i,a,b⟩,⟨G,H,r,E,s,u⟩,C,v⟩:=ag;have e:=eq_of_beq_eq_true e;have f:=eq_of_beq_eq_true f;have g:=eq_of_beq_eq_true g;have h:=eq_of_beq_eq_true h;have i:=eq_of_beq_eq_true i;have a:=eq_of_beq_eq_true a;have b:=eq_of_beq_eq_true b;subst e;subst f;subst g;subst h;subst i;subst a;subst b
      split at ak
      · rename_i ao he
        split at ak
        · rename_i nQ ab
          simp only[and_eq_true]at ab
          split at ak
          · rename_i mo
            split at ak
            · rename_i kK
              split at ak
              · rename_i aA
                split at ak
                · rename_i ub B
                  cases ak;exact⟨⟨d,jN,_,_,_,_,_,_,_,_,_,_,_,_,_,_,_,_,_,_,_,_,_,_,_,_,_,_,rfl,⟨rfl,rfl⟩,⟨A,z⟩,rfl,⟨rfl,rfl⟩,rfl,⟨rfl,rfl⟩,rfl,⟨rfl,rfl⟩,la,w,D,F,⟨ne_of_beq_eq_false G,ne_of_beq_eq_false H,ne_of_beq_eq_false r,ne_of_beq_eq_false E⟩,⟨ne_of_beq_eq_false s,ne_of_beq_eq_false u⟩,⟨C,v⟩,bj,rfl,he,hu,q,ao,nQ,ab.1,ab.2.1,ab.2.2,mo,kK,aA,ub,B,rfl,rfl,rfl⟩⟩
                grind
              grind
            · grind
          · grind
        · grind
      · grind
    · grind
  · grind
theorem agF{j h b g f:Oper}{c:Bool}{a:bG}(ak:Cz X n st j h b g f=some (c,st',a)):di a st st':=by
  obtain⟨I⟩:=T9 ak;have key:∀(s:aP) (V:bG),s=⟨(I.d2,.a (.c .dead))::(I.d1,.a (.c .dead))::(I.jN,.a I.sp)::(I.d,.a I.sa)::st.L,qr I.id (.mp I.gk I.gv (ez I.gk I.gv I.l I.z I.e8) none) st.H⟩->V=[I.d2,I.d1,I.jN,I.d,I.id]->di V st s:=λs V d i=>by
    subst d;subst i;exact⟨(cy.cons (cy.cons (cy.cons (cy.cons (V:=[I.id]) (cy.refl _))))),(ln (V:=[I.id]) (lp _ _)).more λq e=>(gY (gY (gY (gY e).2).2).2).2⟩
  exact key _ _ I.cY I.ck
theorem gN.Ua{ops:Array Oper}{Q:Exit->Act->World->Prop}{S S':Nat->Array Bool->World->Prop}{e:Nat}(d:∀j l w,j≠e->j≠e+1->S j l w->S' j l w):∀(fuel:Nat) (listed:Array Bool) (a:Act) (w:World),listed.getD e true=true->listed.getD (e+1) true=true->gN P ops Q S fuel listed a w->gN P ops Q S' fuel listed a w
  |0,_,_,_,_,_,h=>h
  |fuel+1,listed,_,_,J,U,h=>⟨h.1,λj g=>by
    obtain⟨o,i,ak⟩:=h.2 j g;have hu:=(mem_ready.1 g).1;have c:∀q,listed.getD q true=true->j≠q:=λq b k=>by
      grind
    have ab:∀q,listed.getD q true=true->(listed.setIfInBounds j true).getD q true=true:=λq b=>by rw[getD_set_ne true (c q b)];exact b
    exact⟨o,i,ak.mono λaS w' f=>⟨d _ _ _ (c e J) (c (e+1) U) f.1,gN.Ua d fuel _ aS w' (ab e J) (ab (e+1) U) f.2⟩⟩⟩
theorem z6{v:b7}(h:s≠d):bu X ((d,v)::L) (.tmp s)=bu X L (.tmp s):=by
  grind [bu,cO]
theorem agG{ops:List Oper}{Q:Exit->Act->World->Prop}{S:Nat->Array Bool->World->Prop}{e fuel:Nat}{f i g:Oper}(J:nth ops e=some f)(U:nth ops (e+1)=some i)(ah:nth ops (e+2)=some g)(n:Region.ready .any ops.toArray l=[e])(o:Region.ready .any ops.toArray (l.setIfInBounds e true)=[e+1])(r:Region.ready .any ops.toArray ((l.setIfInBounds e true).setIfInBounds (e+1) true)=[e+2])(h:fa P ops.toArray f (λp b9=>S e l b9/\fa P ops.toArray i (λm j=>S (e+1) (l.setIfInBounds e true) j/\fa P ops.toArray g (λt s=>S (e+2) ((l.setIfInBounds e true).setIfInBounds (e+1) true) s/\gN P ops.toArray Q S fuel (((l.setIfInBounds e true).setIfInBounds (e+1) true).setIfInBounds (e+2) true) t s) m j) p b9) a w):gN P ops.toArray Q S (fuel+3) l a w:=by
  refine⟨λb=>(by rw[n]at b;cases b),λk ab=>?_⟩;rw[n]at ab;have v:k=e:=by simpa using ab
  subst v;refine⟨f,mm J,h.mono λp b9 ⟨u,h⟩=>⟨u,?_⟩⟩;refine⟨λb=>(by rw[o]at b;cases b),λq c=>?_⟩;rw[o]at c;have d:q=k+1:=by simpa using c
  subst d;refine⟨i,mm U,h.mono λm j ⟨g2,h⟩=>⟨g2,?_⟩⟩;refine⟨λb=>(by rw[r]at b;cases b),λq c=>?_⟩;rw[r]at c;have d:q=k+2:=by simpa using c
  subst d;exact⟨g,mm ah,h⟩
theorem agH(k:Nat):¬(k+2=k\/k+2=k+1):=by omega
theorem agI{e:Nat}(h:e<l.size):(((l.setIfInBounds e true).setIfInBounds (e+1) true).setIfInBounds (e+2) true).getD e true=true:=by
  rw[getD_set_ne true (by omega),getD_set_ne true (by omega)]
  simp[h]
theorem agJ{e:Nat}(h:e+1<l.size):(((l.setIfInBounds e true).setIfInBounds (e+1) true).setIfInBounds (e+2) true).getD (e+1) true=true:=by
  rw[getD_set_ne true (by omega)]
  simp[h]
set_option maxHeartbeats 1000000 in
theorem agK(D:X.a1.ok X.P){u af aD aG aE:Oper}{c:Bool}{a6:bG}{p e:Nat}(ap:nth ops i=some u)(aq:nth ops p=some af)(J:nth ops e=some aD)(U:nth ops (e+1)=some aG)(ah:nth ops (e+2)=some aE)(Y:L8 ops.toArray E aK.listed i p e=true)(ak:Cz X n st u af aD aG aE=some (c,st',a6))(aa:c=true)(h:jh X M n ops E fuel ⟨((((aK.listed.setIfInBounds i true).setIfInBounds p true).setIfInBounds e true).setIfInBounds (e+1) true).setIfInBounds (e+2) true,false,false,aK.lR,aK.all⟩ st' Q):jh X M n ops E (fuel+3+1+1) aK st Q:=by
  intro R W aC o r cL F ks env B ai H a w a5 ae K;obtain⟨I⟩:=T9 ak;have aI:=I.aa.symm.trans aa;simp only[and_eq_true]at aI;obtain⟨aM,aJ,be,aT,aR⟩:=aI;unfold L8 at Y;rw[and_eq_true]at Y;obtain⟨aL,aN⟩:=Y;simp only[and_eq_true]at aL aN;obtain⟨⟨⟨aj,am⟩,aQ⟩,ba⟩:=aL;obtain⟨⟨⟨⟨aA,aB⟩,aF⟩,⟨⟨⟨⟨ar,au⟩,av⟩,aw⟩,ax⟩⟩,⟨⟨y,A⟩,C⟩⟩:=aN;simp only[beq_iff_eq]at aA aB aF;simp only[not_eq_true']at ar au av aw ax y A;have y:=ne_of_beq_eq_false y;have A:=ne_of_beq_eq_false A;have C:=dH C;have aO:F w:=K.F ae;have v:∀ {l:Array Bool} {j:Nat},E.elem j=false->fz E l j=false:=λ{l j} m=>by unfold fz;rw[m];rfl
  have L:=Cn D I.ab;obtain⟨v0,ay,bd⟩:=TP (z:=I.z) D L I.bj I.c6 I.he I.ao ae;have bg:dN env B ai I.sa v0:=(bd (TB I.bw)).sa I.mo;obtain⟨bm,a8,b,ag,rfl⟩:=ae.aD I.hu rfl;obtain⟨vx,aH,bc⟩:=ae.aD I.ak aM;rw[dZ.key L.ua L.eq.key (dZ.vh I.nQ aJ I.T8 bc)]at aH
  let t:World->Prop:=λb9=>∀b,env I.id=.blk b->(Instr.lookup I.t (.map (some b)) (.agg (I.gk.cJ I.z).toArray) false).run X.P b9=.ok v0 b9
  have aU:∀b9,t b9->(execOp a.eval u).run X.P b9=.ok (.value v0) b9:=λb9 g=>by
    simp[execOp,I.agy,ae.bV.aD a8,ae.bV.aD aH,g b ag]
  -- the state xI the lookup and the new value
  have ad:=ae.set (sv:=.a I.sa) bg (show c5 n (kf ks aC) ((I.d,v0)::full a) (a.put u.dst v0) by rw[I.cR.2];exact ae.bV.put I.d v0 (dH I.az));obtain⟨V,aV,aW⟩:=y7 D I.kK be ad;have bb:=ad.set (sv:=.a I.sp) aV (show c5 n (kf ks aC) ((I.jN,V)::full (a.put u.dst v0)) ((a.put u.dst v0).put af.dst V) by rw[I.nT.2];exact ad.bV.put I.jN V (dH I.agz))
  -- stronger: the lookup may come xI the entry
  refine gN.KF (S':=λj l w=>((fz E l j=true->bK (λk=>R k\/o k) r cL w)/\F w)/\(j=e\/j=e+1->t w)) (λ_ _ _ h=>h.1) _ _ _ _ ?_;have bo:=aj;simp only[pR,and_eq_true]at aj am;obtain⟨⟨⟨aX,aP⟩,aY⟩,aZ⟩:=aj;obtain⟨⟨⟨a0,_⟩,a1⟩,a2⟩:=am;have al:∀ {q:Nat},BN E q=true->∀(j:Nat) (l:Array Bool) (w:World),(((fz E (l.setIfInBounds q true) j=true->bK (λk=>R k\/o k) r cL w)/\F w)/\(j=e\/j=e+1->t w))->(((fz E l j=true->bK (λk=>R k\/o k) r cL w)/\F w)/\(j=e\/j=e+1->t w)):=λa4 j l w d=>⟨⟨λhe=>d.1.1 (Kv a4 he),d.1.2⟩,d.2⟩
  have az:∀j∈xI ops.toArray i,aK.listed.getD j true=false/\zg ops.toArray i (xI ops.toArray i) j=true:=λj m=>by
    have:=List.all_eq_true.1 aQ j m
    simpa using this
  refine gN.first (T:=λw=>t w/\F w) (mm ap) (Region.noSelect_spec aP) (xI ops.toArray i) (λj m=>RM (az j m).2) (al aX) _ _ _ _ (λj m=>(az j m).1) ?_ (by simpa using aZ) (.inl ⟨by simp[Region.wanted,I.cR.1],λb9 g=>aU b9 g.1⟩) ⟨ay,aO⟩ ?_ (λl b9 g=>⟨⟨λhe=>(by rw[v ar]at he;cases he),g.2⟩,λ_=>g.1⟩)
  · intro j ac N O P Z
    refine⟨Region.free_spec (mm ap) aY j ac N O P Z,?_⟩
    have:=List.all_eq_true.1 ba j (List.mem_range.2 (Array.getElem?_eq_some_iff.1 N).1)
    simp only[or_eq_true,beq_iff_eq]at this
    rcases this with(((g1|g1)|g1)|g1)|g1
    · exact absurd g1 O
    · rw[P]at g1;cases g1
    · exact .inr λl b9 _ d=>⟨d.2 (.inl g1),d.1.2⟩
    · exact .inr λl b9 _ d=>⟨d.2 (.inr g1),d.1.2⟩
    · exact .inl (by simpa using g1)
  refine gN.first (T:=F) (mm aq) (Region.noSelect_spec aP) [] (λ_ h=>by cases h) (al a0) _ _ _ _ (λ_ h=>by cases h) ?_ (by simpa using a2) (.inl ⟨by simp[Region.wanted,I.nT.1],λb9 _=>aW b9 λh=>by rw[I.pu.2]at h;cases h⟩) aO ?_ (λl b9 g=>⟨⟨λhe=>(by rw[v au]at he;cases he),g⟩,λhe=>he.elim (λq=>absurd q y) (λq=>absurd q A)⟩)
  · intro j ac N O P Z
    exact⟨Region.free_spec (mm aq) a1 j ac N O P Z,.inr λl b9 _ d=>d.1.2⟩
  -- the entry
  have an:bu X ((I.jN,b7.a I.sp)::(I.d,b7.a I.sa)::st.L) (.tmp I.lY)=some (true,.c (.dv I.id)):=by rw[z6 I.Gu.2.1,z6 I.Gu.1];exact I.hu
  have bh:bu X ((I.jN,b7.a I.sp)::(I.d,b7.a I.sa)::st.L) (.tmp I.fx)=some (I.g,I.sJ):=by rw[z6 I.T7.2,z6 I.T7.1];exact I.ak
  have bi:bu X ((I.d2,b7.a (.c .dead))::(I.d1,b7.a (.c .dead))::(I.jN,b7.a I.sp)::(I.d,b7.a I.sa)::st.L) (.tmp I.lY)=some (true,.c (.dv I.id)):=by rw[z6 I.Gu.2.2.2,z6 I.Gu.2.2.1];exact an
  have s:=TQ (st:=⟨(I.jN,b7.a I.sp)::(I.d,b7.a I.sa)::st.L,st.H⟩) (ops:=ops.toArray) D L I.L3 I.J I.nA I.L4 I.U I.lM I.L5 I.ah I.bj I.c6 I.he an bh aM I.nQ aJ I.T8 I.ao bi I.aA aT I.ub aR I.agA bb ay (G:=λb9=>F b9/\t b9) (G3:=F) (λb9 ab ao=>⟨K.oX b9 ab,ao⟩) (λb9 ab=>K.oX b9 ab)
    (KK:=λaS w'=>gN X.P ops.toArray (λe a w=>e=.normal/\∃st',Q e st'/\me X R W aC M n st' a w) (λj l w=>((fz E l j=true->bK (λk=>R k\/o k) r cL w)/\F w)/\(j=e\/j=e+1->t w)) fuel (((((aK.listed.setIfInBounds i true).setIfInBounds p true).setIfInBounds e true).setIfInBounds (e+1) true).setIfInBounds (e+2) true) aS w') (λaS w' H' a7=>by
      have a3:bO X R W aC n ks env B ai H' st' aS w':=by rw[I.cY];exact a7
      have bf:gN X.P ops.toArray (λe a w=>e=.normal/\∃st',Q e st'/\me X R W aC M n st' a w) (λj l w=>(fz E l j=true->bK (λk=>R k\/o k) r cL w)/\F w) fuel (((((aK.listed.setIfInBounds i true).setIfInBounds p true).setIfInBounds e true).setIfInBounds (e+1) true).setIfInBounds (e+2) true) aS w':=h R W aC o r cL F ks env B ai H' aS w' a5 a3 K.lost;refine gN.Ua (e:=e) (S:=λj l w=>(fz E l j=true->bK (λk=>R k\/o k) r cL w)/\F w) (λj l w J U d=>⟨d,λh=>h.elim (λq=>absurd q J) (λq=>absurd q U)⟩) _ _ _ _ ?_ ?_ bf
      · exact agI (by simpa using Nat.lt_of_succ_lt C)
      · exact agJ (by simpa using C))
  exact agG J U ah aA aB aF (s.mono λbl b9 ⟨g1,s⟩=>⟨⟨⟨λf=>(by rw[v av]at f;cases f),g1.1⟩,λ_=>g1.2⟩,s.mono λbj bn ⟨g2,s⟩=>⟨⟨⟨λf=>(by rw[v aw]at f;cases f),g2.1⟩,λ_=>g2.2⟩,s.mono λbk bp ⟨a9,s⟩=>⟨⟨⟨λf=>(by rw[v ax]at f;cases f),a9⟩,λf=>(agH e f).elim⟩,s⟩⟩⟩)
theorem my(t:X.a1.ok X.P){k:hU->gu->bG->ed->aP->Option aT}{r:aT}{c0:Nat}(u:∀aK G V A st,k aK G V A st=some r->∀c∈A,c=true)(ab:∀ds' am ao aq st',eK (ey ops) am st'.L->di ao st0 st'->k ds' am ao aq st'=some r->jh X M n ops E c0 ds' st' Q):∀ {is:List sM} {aK:hU} {G:gu} {V:bG} {A:ed} {st:aP},eK (ey ops) G st.L->di V st0 st->gw X n T ops E is aK G V A st k=some r->jh X M n ops E (c0+ui is) aK st Q
  |[],aK,G,V,A,st,y,f,h=>by
    unfold gw at h;exact ab _ _ _ _ _ y f h
  |.t i m::is,aK,G,V,A,st,y,f,h=>by
    have one:∀ {d:Nat} {sv:b7},di (d::V) st0 ⟨(d,sv)::st.L,st.H⟩:=λ{d sv}=>⟨cy.cons f.1,f.2.more λq ac=>(gY ac).2⟩
    unfold gw at h
    split at h
    · rename_i o hi bj
      split at h
      · rename_i d C D
        split at h
        · rename_i c sa b az
          have aa:=ka u h c mem_cons_self;have N:=my (is:=is) t u ab (y.drop d _) one h;intro R W aC P Y cL F ks env B ai H a w O ae S;obtain⟨v,ag,al⟩:∃v,dN env B ai sa v/\∀w',(n5 o.op=true->bK (λk=>R k\/B k) ai (z1 aK.all m H) w')->(execOp a.eval o).run X.P w'=.ok (.value v) w':=T3 t ae (Gq ae.heap).1 (Gq ae.heap).2 y (λ_ h=>by cases h) b aa;exact Gt (sv:=.a sa) t hi bj D az ae S v ag (λT ad=>.inl ⟨by simp[Region.wanted,C],λw' af=>al w' (ad w' af)⟩) λaS K L=>N R W aC P Y cL F ks env B ai H aS w O K L
        · cases h
      · rename_i j want d C D
        split at h
        · rename_i s ak
          split at h
          · rename_i g aj
            split at h
            · rename_i c sa b az ap
              have aa:=ka u h _ mem_cons_self;have ar:s≠d:=ne_of_beq_eq_false ap;have aA:eK (ey ops) ((d,j,want)::pd (ey ops) d G) ((d,.may g sa)::st.L):=λe he=>by
                rcases List.mem_cons.1 he with rfl|he
                · exact⟨s,g,sa,ak,by rw[F1 ar];exact aj,by rw[cO,if_pos rfl]⟩
                · exact y.drop d _ e he
              have N:=my (is:=is) t u ab aA one h;intro R W aC P Y cL F ks env B ai H a w O ae S;have hw:=LH (l:=ops) ae C ak aj;cases g with
              |true=>
                obtain⟨v,ag,al⟩:∃v,dN env B ai sa v/\∀w',(n5 o.op=true->bK (λk=>R k\/B k) ai (z1 aK.all m H) w')->(execOp a.eval o).run X.P w'=.ok (.value v) w':=T3 t ae (Gq ae.heap).1 (Gq ae.heap).2 y (F2 y ⟨s,ak,aj⟩) b (Ce aa rfl);exact Gt (sv:=.may true sa) t hi bj D az ae S v ⟨λ_=>ag,λh=>by cases h⟩ (λT ad=>.inl ⟨hw,λw' af=>al w' (ad w' af)⟩) λaS K L=>N R W aC P Y cL F ks env B ai H aS w O K L
              |false=>exact Gt (sv:=.may false sa) t hi bj D az ae S undef ⟨(λh=>by cases h),λ_=>rfl⟩ (λT ad=>.inr ⟨hw,rfl⟩) λaS K L=>N R W aC P Y cL F ks env B ai H aS w O K L
            · cases h
          · cases h
        · cases h
      · cases h
    · cases h
  |.m i::is,aK,G,V,A,st,y,f,h=>by
    unfold gw at h
    split at h
    · rename_i o hi bj
      split at h
      · rename_i d xs C D ax
        split at h
        · rename_i az
          have one:di (d::V) st0 ⟨(d,.cE xs)::st.L,st.H⟩:=⟨cy.cons f.1,f.2.more λq ac=>(gY ac).2⟩
          have N:=my (is:=is) t u ab (y.drop d _) one h;intro R W aC P Y cL F ks env B ai H a w O ae S;obtain⟨v,J,U⟩:=Kd ae ax;exact Gt (sv:=.cE xs) t hi bj D az ae S v J (λT ad=>.inl ⟨by simp[Region.wanted,C],λw' af=>U w'⟩) λaS K L=>N R W aC P Y cL F ks env B ai H aS w O K L
        · cases h
      · cases h
    · cases h
  |.s i::is,aK,G,V,A,st,y,f,h=>by
    unfold gw at h
    split at h
    · rename_i o hi z I
      split at h
      · rename_i C
        split at h
        · rename_i c st' W b
          have aa:=ka u h c mem_cons_self;exact vC z (FF hi (LL t b aa) I rfl (my (is:=is) t u ab eK.nil (f.trans (LM b)) h))
        · split at h
          · rename_i c st' b
            have aa:=ka u h c mem_cons_self;exact vC z (RS t hi I b aa rfl (my (is:=is) t u ab eK.nil (f.trans (zT C b)) h))
          · cases h
      · cases h
    · cases h
  |.k i::is,aK,G,V,A,st,y,f,h=>by
    unfold gw at h
    split at h
    · rename_i o hi z an
      split at h
      · rename_i C
        split at h
        · rename_i d c sa D b
          split at h
          · rename_i az
            have one:di (d::V) st0 ⟨(d,.a sa)::st.L,st.H⟩:=⟨cy.cons f.1,f.2.more λq ac=>(gY ac).2⟩
            have aa:=ka u h c mem_cons_self;refine vC z (CA (pre':=true) (kp:=λ_=>true) hi (jq.T5 (λae=>FZ t b aa ae) ⟨C,D⟩ az) (λ_=>⟨an,λ_ _=>rfl⟩) (by simp) ?_);exact my (is:=is) t u ab eK.nil one h
          · cases h
        · split at h
          · rename_i c st' Z b
            have aa:=ka u h c mem_cons_self;cases j2:aK.all with
            |true=>
              rw[j2,cond_true]at Z;refine vC z (RU t hi (by rw[an,Bool.true_and];exact Z) b aa rfl ?_);exact my (is:=is) t u ab eK.nil (f.trans (zT C b)) h
            |false=>
              rw[j2,cond_false]at Z;simp only[and_eq_true]at Z;refine vC z (RT t hi (by rw[an,Z.1,Z.2,j2];rfl) b aa rfl ?_);exact my (is:=is) t u ab eK.nil (f.trans (zT C b)) h
          · cases h
        · cases h
      · cases h
    · cases h
  |.u i m::is,aK,G,V,A,st,y,f,h=>by
    unfold gw at h
    split at h
    · rename_i o hi z I
      split at h
      · rename_i c st' W b
        have aa:=ka u h c mem_cons_self;exact vC z (FF hi (LQ t b aa) I rfl (my (is:=is) t u ab eK.nil (f.trans (LR b)) h))
      · cases h
    · cases h
  |.w i p e::is,aK,G,V,A,st,y,f,h=>by
    unfold gw at h
    split at h
    · rename_i aJ aI aD aG aE cR nT J U ah z
      split at h
      · rename_i c st' aF b
        have aa:=ka u h c mem_cons_self;exact agK t cR nT J U ah z b aa (my (is:=is) t u ab eK.nil (f.trans (agF b)) h)
      · cases h
    · cases h
  |.c i ps::is,aK,G,V,A,st,y,f,h=>by
    unfold gw at h
    split at h
    · rename_i o hi z I
      obtain⟨_,aH,V2,J,U,ah⟩:=vw f h;exact vC z (CA hi J T4 I (my (is:=is) t u ab eK.nil U ah))
    · cases h
  |.g i::is,aK,G,V,A,st,y,f,h=>by
    unfold gw at h
    split at h
    · rename_i o hi z I
      obtain⟨d,g,sa,am,aB,au,av,ay⟩:=TH y f h;exact vC z (agw hi ay I (my (is:=is) t u ab aB au av))
    · cases h
  |.z id::is,aK,G,V,A,st,y,f,h=>by
    unfold gw at h
    split at h
    · rename_i st' b
      have aw:di [] st st':=by
        unfold da at b
        split at b
        · cases b;exact⟨lU _ _ _,kX _ _ _⟩
        · cases b
      exact acr id b (my (is:=is) t u ab eK.nil (f.trans aw) h)
    · cases h
  |.f::is,aK,G,V,A,st,y,f,h=>by
    unfold gw at h
    split at h
    · rename_i b
      exact acp b (my (is:=is) t u ab y f h)
    · cases h
inductive uk where
  |f (l:List sM)
  |b (l:List sM) (i j:Nat) (ps j7:eh) (um uo:Option qY) (x y:uk)
  |s (l:List sM) (j:Nat) (ks:bR) (t:uk)
  |t (l:List sM) (i j k:Nat) (ps j7 rs:eh) (um uo mk:Option qY) (x y z:uk)
def nj:uk->Nat
  |.f l=>ui l
  |.b l _ _ _ _ _ _ x _=>nj x+1+ui l
  |.s l _ _ t=>nj t+ui l
  |.t l _ _ _ _ _ _ _ _ _ x _ _=>nj x+1+ui l
def Gy{aT:Type}(z:Int):bR->(Int->Option aT)->Option aT
  |[],_=>none
  |k::ks,f=>cond (decide (z=k)) (f k) (Gy z ks f)
theorem Uk{aT:Type}{z:Int}{f:Int->Option aT}{r:aT}:∀ {ks:bR},Gy z ks f=some r->f z=some r
  |[],h=>by cases h
  |k::ks,h=>by
    unfold Gy at h;cases az:decide (z=k)with
    |true=>
      grind
    |false=>
      rw[az,cond_false]at h;exact Uk h
def Gz(j:Nat)(v:b7):cS->cS
  |[]=>[]
  |(k,u)::r=>match beq j k with
    |true=>(k,v)::r
    |false=>(k,u)::Gz j v r
theorem Ul{v:b7}:∀ {L:cS},bh L j=some v->Gz j v L=L
  |[],_=>rfl
  |(k,u)::r,h=>by
    unfold bh at h;unfold Gz
    split at h
    · grind
    · rename_i ag
      rw[ag,Ul h]
open Classical in
noncomputable def fX{aT:Type}(a b:Option aT):Option aT:=if a=b then a else none
noncomputable def arh{aT:Type}(a:Option aT):Option aT:=fX a a
theorem lZ{aT:Type}(a:Option aT):fX a a=a:=if_pos rfl
noncomputable def hP{aT:Type}(a:Option aT):Option aT:=fX a a
theorem jO{aT:Type}(a:Option aT):hP a=a:=lZ a
theorem Md{aT:Type}{a b:Option aT}{r:aT}(h:fX a b=some r):a=some r/\b=some r:=by
  grind [fX]
def CD(ops:List Oper)(k:bG->aP->Option aT):hU->gu->bG->ed->aP->Option aT:=λaK _ V A st=>match Region.ready .any ops.toArray aK.listed with
  |[]=>ar (rQ A true) (k V st)
  |_=>none
theorem z7{β:Type}{c:Bool}{a:Option α}{f:α->Option β}:Option.bind a (λr=>ar c (f r))=ar c (Option.bind a f):=by
  cases c with
  |true=>rfl
  |false=>
    cases a with
    |none=>rfl
    |some x=>rfl
theorem z8{a:Bool}{k:Option α}:ar (a&&b) k=ar a (ar b k):=by cases a<;>rfl
theorem k3{k:Option α}:ar true k=k:=rfl
theorem ow{k:Option α}:ar false k=none:=rfl
theorem ox{c:Bool}:ar c (none:Option α)=none:=by cases c<;>rfl
theorem oy{a:Bool}{k y:Option α}(J:a=true->k=y)(U:a=false->none=y):ar a k=y:=by
  cases a with
  |true=>exact J rfl
  |false=>exact U rfl
theorem Aa{aT:Type}{x y:Option aT}(h:x=y):fX x y=x:=by rw[h];exact lZ _
def xN(X:bx)(n:Nat)(T:List (bA X))(ops:List Oper)(E:bG)(i:Nat)(ps:eh)(m:Option qY)(o:Oper)(aK:hU)(V:bG)(A:ed)(st:aP)(k:hU->gu->bG->ed->aP->Option aT):Option aT:=match o.guard with
  |none=>match fz E aK.listed i,aK.pre with
    |false,_=>match (match m with|some m=>xE X n st m o|none=>xD X n st o)with
      |some (c,st',W)=>k ⟨aK.listed.setIfInBounds i true,false,false,aK.lR,aK.all⟩ [] (W++V) (c::A) st'
      |none=>match kO X n (ey ops) st o with
        |.ok c st'=>k ⟨aK.listed.setIfInBounds i true,false,false,aK.lR,aK.all⟩ [] (xB X st.L o++V) (c::A) st'
        |.stop=>xF X n T ps V A st (λb e a st'=>k ⟨aK.listed.setIfInBounds i true,false,false,false,aK.all⟩ b e a st') o
    |true,true=>match o.dst,zR X st o.op with
      |some d,some (c,sa)=>match blt d n with
        |true=>k ⟨aK.listed.setIfInBounds i true,false,true,false,aK.all⟩ [] (d::V) (c::A) ⟨(d,.a sa)::st.L,st.H⟩
        |false=>none
      |_,none=>match cond aK.all (y8 o.op&&uV o st.H) (Bv o.op&&ry o st.H),kO X n (ey ops) st o with
        |true,.ok c st'=>k ⟨aK.listed.setIfInBounds i true,false,true,aK.lR,aK.all⟩ [] (xB X st.L o++V) (c::A) st'
        |_,.stop=>match rM st.H ps || (!aK.all&&zH st.H ps)with
          |true=>xF X n T ps V A st (λb e a st'=>k ⟨aK.listed.setIfInBounds i true,false,true,false,aK.all⟩ b e a st') o
          |false=>none
        |_,_=>none
      |none,some _=>none
    |true,false=>none
  |some _=>none
noncomputable def sO(X:bx)(n:Nat)(T:List (bA X))(ops:List Oper)(E:bG):uk->hU->gu->bG->ed->aP->(bG->aP->Option aT)->Option aT
  |.f l,aK,G,V,A,st,k=>gw X n T ops E l aK G V A st (CD ops k)
  |.s l j ks t,aK,G,V,A,st,k=>gw X n T ops E l aK G V A st λaK _ V A st=>match bh st.L j with
    |some (.a (.c (.val (.int rF z))))=>ar (rQ A true) (Gy z ks λq=>sO X n T ops E t aK [] V [] ⟨Gz j (.a (.c (.val (.int rF q)))) st.L,st.H⟩ k)
    |_=>none
  |.t l i j q ps c h d e f x y z,aK,G,V,A,st,k=>gw X n T ops E l aK G V A st λaK _ V A st=>match nth ops i,nth ops j,nth ops q,Region.ready .any ops.toArray aK.listed==[i,j,q],beq (nj x) (nj y)&&beq (nj x) (nj z)with
    |some b,some a,some g,true,true=>ar (rQ A true) (fX (xN X n T ops E i ps d b aK V [] st λaK G V A st=>sO X n T ops E x aK G V A st k) (fX (xN X n T ops E j c e a aK V [] st λaK G V A st=>sO X n T ops E y aK G V A st k) (xN X n T ops E q h f g aK V [] st λaK G V A st=>sO X n T ops E z aK G V A st k)))
    |_,_,_,_,_=>none
  |.b l i j ps c d e x y,aK,G,V,A,st,k=>gw X n T ops E l aK G V A st λaK _ V A st=>match nth ops i,nth ops j,Region.ready .any ops.toArray aK.listed==[i,j],beq (nj x) (nj y)with
    |some b,some a,true,true=>ar (rQ A true) (fX (xN X n T ops E i ps d b aK V [] st λaK G V A st=>sO X n T ops E x aK G V A st k) (xN X n T ops E j c e a aK V [] st λaK G V A st=>sO X n T ops E y aK G V A st k))
    |_,_,_,_=>none
theorem CE{m:Option qY}(f:X.a1.ok X.P){k:hU->gu->bG->ed->aP->Option aT}{r:aT}{c0:Nat}(e:∀aK G V A st,k aK G V A st=some r->∀c∈A,c=true)(ab:∀ds' l p u st',eK (ey ops) l st'.L->di p st0 st'->k ds' l p u st'=some r->jh X M n ops E c0 ds' st' Q)(hi:nth ops i=some o)(b:di V st0 st)(h:xN X n T ops E i ps m o aK V A st k=some r):sy X M n ops E c0 aK st Q i:=by
  unfold xN at h
  split at h
  · rename_i j
    split at h
    · rename_i g
      split at h
      · rename_i c st' W a
        cases m with
        |some m=>exact FF hi (LQ f a (e _ _ _ _ _ h c mem_cons_self)) g rfl (ab _ _ _ _ _ eK.nil (b.trans (LR a)) h)
        |none=>exact FF hi (LL f a (e _ _ _ _ _ h c mem_cons_self)) g rfl (ab _ _ _ _ _ eK.nil (b.trans (LM a)) h)
      · split at h
        · rename_i c st' a
          exact RS f hi g a (e _ _ _ _ _ h c mem_cons_self) rfl (ab _ _ _ _ _ eK.nil (b.trans (zT j a)) h)
        grind [vw,CA,eK.nil]
    · rename_i g s
      split at h
      · rename_i d c sa v a
        split at h
        · rename_i az
          have one:di (d::V) st0 ⟨(d,.a sa)::st.L,st.H⟩:=⟨cy.cons b.1,b.2.more λq t=>(gY t).2⟩
          exact CA (pre':=true) (kp:=λ_=>true) hi (jq.T5 (λae=>FZ f a (e _ _ _ _ _ h c mem_cons_self) ae) ⟨j,v⟩ az) (λ_=>⟨s,λ_ _=>rfl⟩) (by simp) (ab _ _ _ _ _ eK.nil one h)
        grind
      · split at h
        · rename_i c st' z a
          have aa:=e _ _ _ _ _ h c mem_cons_self;have bc:=ab _ _ _ _ _ eK.nil (b.trans (zT j a)) h
          grind [RU,RT]
        · split at h
          · rename_i w
            obtain⟨_,y,V2,J,U,ah⟩:=vw b h;exact CA (pre':=true) hi J (λ_=>T4 (by rw[s,w];rfl)) (by simp) (ab _ _ _ _ _ eK.nil U ah)
          grind
        grind
      grind
    · grind
  · grind
theorem CF{k:bG->aP->Option aT}:∀ {t:uk} {aK:hU} {G:gu} {V:bG} {A:ed} {st:aP},sO X n T ops E t aK G V A st k=some r->∀c∈A,c=true
  |.f l,aK,G,V,A,st,h=>ka (λaK G V A st h=>by
      unfold CD at h
      split at h
      · exact(nR (e7 h).1).1
      · cases h) h
  |.b l i j ps a b d x y,aK,G,V,A,st,h=>ka (λaK G V A st h=>by
      split at h
      · exact(nR (e7 h).1).1
      · cases h) h
  |.t l i j q ps a f b d e x y z,aK,G,V,A,st,h=>ka (λaK G V A st h=>by
      split at h
      · exact(nR (e7 h).1).1
      · cases h) h
  |.s l j ks t,aK,G,V,A,st,h=>ka (λaK G V A st h=>by
      split at h
      · exact(nR (e7 h).1).1
      · cases h) h
theorem xO(c:X.a1.ok X.P){k:bG->aP->Option aT}{r:aT}(ab:∀g st',di g st0 st'->k g st'=some r->Q .normal st'):∀ {t:uk} {aK:hU} {G:gu} {V:bG} {A:ed} {st:aP},eK (ey ops) G st.L->di V st0 st->sO X n T ops E t aK G V A st k=some r->jh X M n ops E (nj t) aK st Q
  |.f l,aK,G,V,A,st,b,a,h=>by
    have:=my (c0:=0) (is:=l) (Q:=Q) (M:=M) (st0:=st0) c (k:=CD ops k) (r:=r) (λaK G V A st h=>by
      unfold CD at h
      split at h
      · exact(nR (e7 h).1).1
      · cases h) (λaK G V A st b a h=>by
      unfold CD at h
      split at h
      · rename_i e
        grind [Kx,e7]
      · cases h) b a h
    rwa [zero_add]at this
  |.s l j ks t,aK,G,V,A,st,b,a,h=>by
    refine my (c0:=nj t) (is:=l) c (k:=_) (r:=r) (λaK G V A st h=>?_) (λaK G V A st b a h=>?_) b a h
    · split at h
      · exact(nR (e7 h).1).1
      grind
    · split at h
      · rename_i rF z ao
        have U:=Uk (e7 h).2;rw[Ul ao]at U;exact xO c ab eK.nil a U
      · cases h
  |.t l i j q ps s C u v w x y z,aK,G,V,A,st,b,a,h=>by
    refine my (c0:=nj x+1) (is:=l) c (k:=_) (r:=r) (λaK G V A st h=>?_) (λaK G V A st b a h=>?_) b a h
    · split at h
      · exact(nR (e7 h).1).1
      grind
    · split at h
      · rename_i p o B hi d m f aa
        obtain⟨J,U⟩:=Md (e7 h).2;obtain⟨U,ah⟩:=Md U;rw[and_eq_true]at aa;refine KE (beq_iff_eq.1 f) (zo (CE c (λ_ _ _ _ _ h=>CF h) (λaK G V A st b a h=>xO c ab b a h) hi a J) (zo (CE c (λ_ _ _ _ _ h=>CF h) (λaK G V A st b a h=>?_) d a U) (zo (CE c (λ_ _ _ _ _ h=>CF h) (λaK G V A st b a h=>?_) m a ah) KD)))
        · rw[eq_of_beq_eq_true aa.1]
          exact xO c ab b a h
        · rw[eq_of_beq_eq_true aa.2]
          exact xO c ab b a h
      grind
  |.b l i j ps s u v x y,aK,G,V,A,st,b,a,h=>by
    refine my (c0:=nj x+1) (is:=l) c (k:=_) (r:=r) (λaK G V A st h=>?_) (λaK G V A st b a h=>?_) b a h
    · split at h
      · exact(nR (e7 h).1).1
      grind
    · split at h
      · rename_i p o hi d f aa
        obtain⟨J,U⟩:=Md (e7 h).2;refine KE (beq_iff_eq.1 f) (zo (CE c (λ_ _ _ _ _ h=>CF h) (λaK G V A st b a h=>xO c ab b a h) hi a J) (zo (CE c (λ_ _ _ _ _ h=>CF h) (λaK G V A st b a h=>?_) d a U) KD));rw[eq_of_beq_eq_true aa];exact xO c ab b a h
      · cases h
end
end
def CG{β:Type}(b:β->(Nat->Prop)->World->Prop):Prop:=∀l C W a,b l C W->cV C W a->b l C a
structure Grow(B C cP:Nat->Prop)(W c9:World):Prop where
 eb:cV (λk=>B k\/(k<W.heap.size/\¬C k)) W c9
 new:∀k,cP k->C k\/W.heap.size<=k\/B k
structure xP(C b8 dR:Nat->Prop)(W:World):Prop where
 sub:∀k,b8 k->dR k
 new:∀k,dR k->b8 k\/(¬C k/\∃cs e cg,W.heap[k]?=some (.cells cs e cg))
def CH{β:Type}(c:β->(Nat->Prop)->(Nat->Prop)->World->Prop):Prop:=∀l C a W b,c l C a W->cV C W b->c l C a b
def Mf{α:Type}(P:Program)(g:Nat)(lb:bQ)(B:Nat->Prop)(ai:World)(j:cW)(l:List α)(enc:(Nat->Prop)->World->α->bQ->Prop):Prop:=
 ∀(id:Nat) (d:List α->(Nat->Prop)->(Nat->Prop)->World->Prop) (i:Unit->(Nat->Prop)->World->Prop) (W:World),cV B ai W->(∀k,B k->k<ai.heap.size)->CH d->CG i->(∀r C a W,d r C a W->∀k,C k->k<W.heap.size)->(∀r C W,i r C W->∀k,C k->k<W.heap.size)->(∀r C a W,d r C a W->∀k,a k->C k) ->
  (∀x rest C a h f vs,d (x::rest) C a f->xP C a h f->enc h f x vs->YieldAt Fence.wide 1 P id vs.toArray f λe c=>
   (e=.returned (.bool true)/\∃b,d rest b h c/\Grow h C b f c)\/(e=.returned (.bool false)/\∃b,i () b c/\Grow h C b f c)) ->
  ∀C,d l C B W->bK C W j W->CallsIn Fence.wide 1 P g (#[.func (.yield id) #[] #[]]++lb.toArray) W λe c=>(∃v,e=.returned v)/\∃b,(∃a,d [] b a c)\/i () b c
def Un{α:Type}(B:Nat->Prop)(I:List α->(Nat->Prop)->(Nat->Prop)->World->Prop)(c:Code->(Nat->Prop)->World->Prop)(rest:List α)(C:Nat->Prop)(W:World):Exit->Act->World->Prop
 |.normal,_,a=>∃b,I rest b B a/\Grow B C b W a
 |.ret,_,a=>∃b,c .ret b a/\Grow B C b W a
 |.exit id,_,a=>∃b,c (.exit id) b a/\Grow B C b W a
 |_,_,_=>False
theorem vD{C:Nat->Prop}{k:Nat}{o:Obj}(h:¬C k):cV C W (W.putObj k o):=⟨rfl,rfl,rfl,by simp,λq a=>World.putObj_heap_other λe=>h (e ▸ a)⟩
theorem Uo{g:Operand}{ps:Array Tmp}{Q:Exit->Act->World->Prop}{gf:Nat}{lb:bQ}{ad:cW}{l:List α}{enc:(Nat->Prop)->World->α->bQ->Prop}(ay:a.eval g=.func (.func gf) #[] lb.toArray)(aQ:∀args w,(callFunc gf args).run P w=.ok (.enter gf args) w)(aU:Mf P gf lb B ai ad l enc)(au:cV B ai w)(ap:∀k,B k->k<ai.heap.size)(aN:∀f W x vs,enc f W x vs->vs.length=ps.size)(a2:∀f W A x vs,cV f W A->enc f W x vs->enc f A x vs)(I:List α->(Nat->Prop)->(Nat->Prop)->World->Prop)(L:Code->(Nat->Prop)->World->Prop)(T:CH I)(O:CG L)(am:∀r C d W,I r C d W->∀k,C k->k<W.heap.size)(af:∀r C d W,I r C d W->∀k,d k->C k)(aw:∀r C W,L r C W->∀k,C k->k<W.heap.size)(ie:Nat->Prop)(al:I l ie B w)(R:bK ie w ad w)(aB:∀(id:Nat) (x:α) (rest:List α) (vs:bQ) (C d f:Nat->Prop) (W:World) (o:Obj),id<W.heap.size->¬C id->¬f id->I (x::rest) C d W->xP C d f W->enc f W x vs ->
   assign.wpIn (Fence.wide.inRound id) 1 P (Exit.then (λaG b9=>b9.heap[id]?=W.heap[id]?/\body.wpIn (Fence.wide.inRound id) 1 P (Un f I L rest C (W.putObj id o)) aG (b9.putObj id o)) (λ_ _ _=>False)) { tmps:=(ps.zip vs.toArray).foldl (λt (p,v)=>t.setIfInBounds p v) a.tmps,defers:=[] } W)(aP:∀(D:Nat) (C d:Nat->Prop) (W:World),w.heap.size<=D->¬C D->I [] C d W->W.heap[D]?=some (.deferred (some []))->Q .normal { a with defers:={ target:=.collected D,args:=#[] }::a.defers } W)(aR:∀(D:Nat) (c:Code) (C:Nat->Prop) (W:World),w.heap.size<=D->¬C D->L c C W->W.heap[D]?=some (.deferred (some []))->c.wpIn Fence.wide 2 P Q { a with defers:={ target:=.collected D,args:=#[] }::a.defers } W) :
  (Code.rangeFunc g ps assign body).wpIn Fence.wide 2 P Q a w:=by
 refine wpIn_rangeFunc ?_;intro fn aJ;have aS:Fence.wide.round=none:=rfl;rw[aS];obtain⟨rec,u⟩:∃rec:LoopState->Option Code->Loop,rec=λst aC=>{ state:=st,pending:=aC,fn,tmps:=a.tmps,params:=ps,assign,body,defers:=w.heap.size }:=⟨_,rfl⟩
 obtain⟨n,M⟩:∃n,(w.alloc (.deferred (some []))).alloc (.loop (rec .ready none))=n:=⟨_,rfl⟩
 have aV:n.heap[w.heap.size+1]?=some (.loop (rec .ready none)):=by
  rw[<- M];have:=World.alloc_heap_new (w.alloc (.deferred (some []))) (.loop (rec .ready none));rwa [World.size_alloc]at this
 have aD:n.heap[w.heap.size]?=some (.deferred (some [])):=by
  rw[<- M];exact(Below.heap_alloc _ _ _ (by simp)).trans (World.alloc_heap_new w _)
 have aI:n.heap.size=w.heap.size+2:=by rw[<- M];simp
 have ae:∀ {C:Nat->Prop},(∀k,C k->k<w.heap.size)->cV C w n:=λ{C} cA=>by
  rw[<- M];exact⟨rfl,rfl,rfl,by simp;omega,λk ab=>by
   have:=cA k ab
   exact(Below.heap_alloc _ _ _ (by simp;omega)).trans (Below.heap_alloc _ _ _ this)⟩
 have aX:∀k,B k->k<w.heap.size:=λk ab=>lt_of_lt_of_le (ap k ab) au.size
 have X:=am _ _ _ _ al;have aE:I l ie B n:=T _ _ _ _ _ al (ae X);have aF:bK (λk=>ie k\/k=w.heap.size\/k=w.heap.size+1) n ad n:=by
  refine⟨cV.refl _ _,λk ab=>?_,λc aa=>?_,R.apart⟩
  ·rw[aI]
   rcases ab with ab|ab|ab
   ·grind
   ·omega
   ·omega
  ·refine((R.ok c aa).eb λb ag=>(ae (C:=λk=>c.has k) λk ab=>((R.ok c aa).lt ab).2).block b ag).base λb ag h=>?_
   have J:=(R.ok c aa).lt ag
   rcases h with h|h|h
   ·grind
   ·omega
   ·omega
 let D:=w.heap.size
 let id:=w.heap.size+1
 let aH:List α->(Nat->Prop)->(Nat->Prop)->World->Prop:=λr C d W=>∃ie,(∀k,C k↔ie k\/k=D\/k=id)/\¬ie D/\¬ie id/\I r ie d W/\W.heap[id]?=some (.loop (rec .ready none))/\W.heap[D]?=some (.deferred (some []))
 let aL:Unit->(Nat->Prop)->World->Prop:=λ_ C W=>∃ie c,(∀k,C k↔ie k\/k=D\/k=id)/\¬ie D/\¬ie id/\L c ie W/\W.heap[id]?=some (.loop (rec .done (some c)))/\W.heap[D]?=some (.deferred (some []))
 have ar:∀ {C ie:Nat->Prop} {W A:World},(∀k,C k↔ie k\/k=D\/k=id)->cV C W A->cV ie W A:=λcA h=>⟨h.os,h.tape,h.output,h.size,λk ab=>h.block k ((cA k).2 (.inl ab))⟩
 refine⟨w.heap.size+1,[{ target:=.collected w.heap.size,args:=#[] }],n,{ target:=.fn (.func gf) lb.toArray,args:=#[.func (.yield (w.heap.size+1)) #[] #[]] },n,gf,
  #[.func (.yield (w.heap.size+1)) #[] #[]]++lb.toArray,n,?_,?_,?_,?_,λ_=>by omega,?_⟩
 ·rw[<- M,u];exact run_enterLoop_outer _ _ _ _ _
 ·simp only[resolve,ay]
  simp[go_sem]
 ·intro f' a3
  exact trivial
 ·simp[invoke,go_sem,aQ]
 ·refine(aU id aH aL n (au.trans (ae aX)) ap ?_ ?_ ?_ ?_ ?_ ?_ (λk=>ie k\/k=D\/k=id) ⟨ie,λk=>Iff.rfl,λh=>by have:=X _ h;simp only[D]at this;omega,λh=>by have:=X _ h;simp only[id]at this;omega,aE,aV,aD⟩ aF).mono ?_
  ·rintro r C d W A ⟨j,cA,J,U,ah,y,q⟩ ab
   exact⟨j,cA,J,U,T _ _ _ _ _ ah (ar cA ab),(ab.block _ ((cA _).2 (.inr (.inr rfl)))).trans y,(ab.block _ ((cA _).2 (.inr (.inl rfl)))).trans q⟩
  ·rintro r C W A ⟨j,c,cA,J,U,ah,y,q⟩ ab
   exact⟨j,c,cA,J,U,O _ _ _ _ ah (ar cA ab),(ab.block _ ((cA _).2 (.inr (.inr rfl)))).trans y,(ab.block _ ((cA _).2 (.inr (.inl rfl)))).trans q⟩
  ·rintro r C d W ⟨j,cA,J,U,ah,y,q⟩ k ab
   rcases (cA k).1 ab with h|h|h
   ·exact am _ _ _ _ ah k h
   ·subst h;exact(Array.getElem?_eq_some_iff.1 q).1
   ·subst h;exact(Array.getElem?_eq_some_iff.1 y).1
  ·rintro r C W ⟨j,c,cA,J,U,ah,y,q⟩ k ab
   rcases (cA k).1 ab with h|h|h
   ·exact aw _ _ _ ah k h
   ·subst h;exact(Array.getElem?_eq_some_iff.1 q).1
   ·subst h;exact(Array.getElem?_eq_some_iff.1 y).1
  ·rintro r C d W ⟨j,cA,J,U,ah,y,q⟩ k ab
   exact(cA k).2 (.inl (af _ _ _ _ ah k ab))
  ·rintro x rest C d f W vs ⟨j,cA,Y,F,hi,ao,ab⟩ V av
   have S:id<W.heap.size:=(Array.getElem?_eq_some_iff.1 ao).1;have aA:=run_yield (P:=P) (args:=vs.toArray) ao (by rw[u];simp[aN _ _ x vs av]);rw[u]at aA;have ax:¬f id:=λh=>by
    rcases V.new id h with h|⟨h,_⟩
    ·exact F (af _ _ _ _ hi id h)
    ·exact h ((cA id).2 (.inr (.inr rfl)))
   have az:xP j d f W:=⟨V.sub,λk ab=>(V.new k ab).imp_right λ⟨h,U⟩=>⟨λaW=>h ((cA k).2 (.inl aW)),U⟩⟩
   refine⟨fn,_,assign,body,aA,roundIn_of_wpIn aJ (wpIn_mono (aB id x rest vs j d f W (.loop { rec .ready none with state:=.busy }) S F ax hi az av) ?_)⟩
   clear aA
   rintro aK a0 a1 q;cases aK with
   |normal=>?_
   |_=>exact False.elim q
   refine⟨_,run_beginRound (q.1.trans ao) (by rw[u]),?_⟩;have aO:(W.putObj id (.loop { rec .ready none with state:=.busy })).heap[id]?=some (.loop { rec .ready none with state:=.busy }):=World.putObj_heap_same S;have aM:(W.putObj id (.loop { rec .ready none with state:=.busy })).heap[D]?=some (.deferred (some [])):=(World.putObj_heap_other (by simp only[D,id];omega)).trans ab;have Z:∀k,f k->k≠id/\k≠D:=λk ab=>by
    rcases V.new k ab with h|⟨h,_⟩
    ·have:=af _ _ _ _ hi k h
     exact⟨λe=>F (e ▸ this),λe=>Y (e ▸ this)⟩
    grind
   refine wpIn_mono q.2 ?_;have ac:∀ {s:Nat->Prop} {z:World},Grow f j s (W.putObj id (.loop { rec .ready none with state:=.busy })) z->∀(jump:Option Code),
     (Instr.endRound id jump).run P z=.ok (.bool jump.isNone) (z.putObj id (.loop (rec (if jump.isNone then .ready else .done) jump))) /\
     (z.putObj id (.loop (rec (if jump.isNone then .ready else .done) jump))).heap[id]?=some (.loop (rec (if jump.isNone then .ready else .done) jump)) /\
     (z.putObj id (.loop (rec (if jump.isNone then .ready else .done) jump))).heap[D]?=some (.deferred (some []))/\¬s D/\¬s id/\Grow f C (λk=>s k\/k=D\/k=id) W (z.putObj id (.loop (rec (if jump.isNone then .ready else .done) jump))):=λ{s z} m jump=>by
    have hid:id<(W.putObj id (.loop { rec .ready none with state:=.busy })).heap.size/\¬j id:=⟨by simpa using S,F⟩
    have aj:D<(W.putObj id (.loop { rec .ready none with state:=.busy })).heap.size/\¬j D:=⟨by simp only[D,id]at S ⊢;simp;omega,Y⟩
    have ak:=(m.eb.block id (.inr hid)).trans aO;have aT:=(m.eb.block D (.inr aj)).trans aM;have he:=run_endRound (P:=P) jump ak;rw[u]at he ⊢;refine⟨he,World.putObj_heap_same (Array.getElem?_eq_some_iff.1 ak).1,(World.putObj_heap_other (by simp only[D,id];omega)).trans aT,λh=>?_,λh=>?_,⟨⟨?_,?_,?_,?_,λk ab=>?_⟩,λk ab=>?_⟩⟩
    ·rcases m.new _ h with aW|aW|aW
     ·exact Y aW
     ·have:=aj.1;omega
     ·exact(Z _ aW).2 rfl
    ·rcases m.new _ h with aW|aW|aW
     ·exact F aW
     ·have:=hid.1;omega
     ·exact(Z _ aW).1 rfl
    ·exact m.eb.os
    ·exact m.eb.tape
    ·exact m.eb.output
    ·have:=m.eb.size;simpa using this
    ·have aq:k≠id:=by
      rcases ab with ab|ab
      ·exact(Z k ab).1
      ·exact λe=>ab.2 ((cA k).2 (.inr (.inr e)))
     refine(World.putObj_heap_other aq).trans ((m.eb.block k ?_).trans (World.putObj_heap_other aq))
     rcases ab with ab|ab
     ·exact .inl ab
     ·exact .inr ⟨by simpa using ab.1,λh=>ab.2 ((cA k).2 (.inl h))⟩
    ·rcases ab with ab|ab
     ·rcases m.new k ab with aW|aW|aW
      ·exact .inl ((cA k).2 (.inl aW))
      ·exact .inr (.inl (by simpa using aW))
      ·exact .inr (.inr aW)
     ·exact .inl ((cA k).2 (.inr ab))
   rintro e aZ z an;cases e with
   |normal=>
    obtain⟨s,G,m⟩:=an;obtain⟨H,E,N,nA,lM,K⟩:=ac m none;exact⟨_,_,H,.inl ⟨rfl,_,⟨s,λk=>Iff.rfl,nA,lM,T _ _ _ _ _ G (vD lM),E,N⟩,K⟩⟩
   |ret=>
    obtain⟨s,G,m⟩:=an;obtain⟨H,E,N,nA,lM,K⟩:=ac m (some .ret);exact⟨_,_,H,.inr ⟨rfl,_,⟨s,.ret,λk=>Iff.rfl,nA,lM,O _ _ _ _ G (vD lM),E,N⟩,K⟩⟩
   |exit i=>
    obtain⟨s,G,m⟩:=an;obtain⟨H,E,N,nA,lM,K⟩:=ac m (some (.exit i));exact⟨_,_,H,.inr ⟨rfl,_,⟨s,.exit i,λk=>Iff.rfl,nA,lM,O _ _ _ _ G (vD lM),E,N⟩,K⟩⟩
   |goto t=>exact an.elim
   |panic aY=>exact an.elim
   |outgrown=>exact an.elim
  ·rintro e a4 ⟨⟨v,rfl⟩,s,(⟨d,j,cA,J,U,hi,ao,ab⟩|⟨j,c,cA,J,U,hi,ao,ab⟩)⟩
   ·exact⟨none,_,by have:=run_endLoop (P:=P) ao (by rw[u];simp);rw[u]at this;exact this,aP _ j d _ (le_refl _) J (T _ _ _ _ _ hi (vD U)) ((World.putObj_heap_other (by simp only[id];omega)).trans ab)⟩
   ·exact⟨some c,_,by have:=run_endLoop (P:=P) ao (by rw[u];simp);rw[u]at this;exact this,aR _ c j _ (le_refl _) J (O _ _ _ _ hi (vD U)) ((World.putObj_heap_other (by simp only[id];omega)).trans ab)⟩
theorem ag2{g:Operand}{ps:Array Tmp}{Q:Exit->Act->World->Prop}{gf:Nat}{lb:bQ}{j:cW}{l:List α}{enc:(Nat->Prop)->World->α->bQ->Prop}(H:a.eval g=.func (.func gf) #[] lb.toArray)(S:∀args w,(callFunc gf args).run P w=.ok (.enter gf args) w)(Y:Mf P gf lb B ai j l enc)(O:cV B ai w)(M:∀k,B k->k<ai.heap.size)(s:∀b W x vs,enc b W x vs->vs.length=ps.size)(n:∀b W m x vs,cV b W m->enc b W x vs->enc b m x vs)(I:List α->(Nat->Prop)->(Nat->Prop)->World->Prop)(f:Code->(Nat->Prop)->World->Prop)(q:CH I)(A:CG f)(L:∀r C d W,I r C d W->∀k,C k->k<W.heap.size)(V:∀r C d W,I r C d W->∀k,d k->C k)(F:∀r C W,f r C W->∀k,C k->k<W.heap.size)(ie:Nat->Prop)(G:I l ie B w)(E:bK ie w j w)(z:bQ->Act)(J:∀(id:Nat) (x:α) (vs:bQ) (W:World) (K:Act->World->Prop),vs.length=ps.size->K (z vs) W ->
   assign.wpIn (Fence.wide.inRound id) 1 P (Exit.then K (λ_ _ _=>False)) { tmps:=(ps.zip vs.toArray).foldl (λt (p,v)=>t.setIfInBounds p v) a.tmps,defers:=[] } W)(X:∀(id:Nat) (x:α) (rest:List α) (vs:bQ) (C d b:Nat->Prop) (W:World),I (x::rest) C d W->xP C d b W->enc b W x vs->body.wpIn (Fence.wide.inRound id) 1 P (Un b I f rest C W) (z vs) W)(R:∀(D:Nat) (C d:Nat->Prop) (W:World),w.heap.size<=D->¬C D->I [] C d W->W.heap[D]?=some (.deferred (some []))->Q .normal { a with defers:={ target:=.collected D,args:=#[] }::a.defers } W)(T:∀(D:Nat) (c:Code) (C:Nat->Prop) (W:World),w.heap.size<=D->¬C D->f c C W->W.heap[D]?=some (.deferred (some []))->c.wpIn Fence.wide 2 P Q { a with defers:={ target:=.collected D,args:=#[] }::a.defers } W) :
  (Code.rangeFunc g ps assign body).wpIn Fence.wide 2 P Q a w:=Uo H S Y O M s n I f q A L V F ie G E (λid x rest vs C d b W o hid cA i hi u y=>by
  refine J id x vs W _ (s _ _ x vs y) ⟨rfl,?_⟩;have N:∀k,b k->k≠id:=λk ab e=>i (e ▸ ab)
  exact X _ x rest vs C d b _ (q _ _ _ _ _ hi (vD cA)) ⟨u.sub,λk ab=>(u.new k ab).imp_right λ⟨h,cs,e,cg,U⟩=>⟨h,cs,e,cg,(World.putObj_heap_other (N k ab)).trans U⟩⟩ (n _ _ _ _ _ (vD λh=>i h) y)) R T
section
theorem bE.split:∀ {l l':bC} {H:cW},bE env B w (l++l') H->∃H1 H2,H=H1++H2/\bE env B w l H1/\bE env B w l' H2
 |[],_,H,h=>⟨[],H,rfl,rfl,h⟩
 |(_,_)::l,_,_,⟨c,H',e,J,U⟩=>by
  obtain⟨H1,H2,a,d,b⟩:=bE.split U;exact⟨c::H1,H2,by rw[e,a];rfl,⟨c,H1,rfl,J,d⟩,b⟩
def xV{α:Type}(X:bx)(gf:FuncId)(gH:dY)(an:bC)(l:List α)(c:α->dT):Prop:=
 ∀(B:Nat->Prop) (w:World) (lb:bQ) (env:Nat->Loc) (a:cW),(∀k,B k->k<w.heap.size)->zc X B w->fv env B w gH lb->bE env B w an a->Mf X.P gf lb B w a l (λb W x vs=>dx (λ_=>.no) b W (c x) vs)
def mB(R B:Nat->Prop)(H:cW)(ks:bG)(k:Nat):Prop:=R k\/B k\/∃c∈H++ks.map dj,c.has k
section
variable {X:bx} {R:Nat->Prop} {W:World} {aC:fe} {n:Nat} {ks:bG} {env:Nat->Loc} {B:Nat->Prop} {ai:World} {H:cW} {st:aP} {a:Act} {w:World}
theorem bO.Ml{f:World}(h:bO X R W aC n ks env B ai H st a w)(ab:cV (mB R B H ks) w f):bO X R W aC n ks env B ai H st a f:=
 ⟨h.size,h.defs,h.has,h.heap,⟨h.aQ.below.trans ⟨ab.os,ab.tape,ab.output,ab.size,λk d=>ab.block k (d.elim .inl λh=>.inr (.inl h))⟩,λk d=>lt_of_lt_of_le (h.aQ.base k d) ab.size,λc aa=>(h.aQ.ok c aa).eb λb e=>ab.block b (.inr (.inr ⟨c,aa,e⟩)),h.aQ.apart⟩,h.sub,h.new,h.dB,h.base,h.eg⟩
theorem bO.now(h:bO X R W aC n ks env B ai H st a w):bO X R W aC n ks env B w H st a w:=by
 have b:gm B ai B w:=⟨λ_ h=>h,λk ab=>h.aQ.below.block k (.inr ab)⟩
 refine⟨h.size,h.defs,λs sv c=>?_,h.heap.up b,⟨cV.refl _ _,h.aQ.base,h.aQ.ok,h.aQ.apart⟩,h.sub,λk ab=>(h.new k ab).imp_right λJ=>⟨J.1,J.2.eb (h.aQ.below.block k (.inr ab))⟩,h.dB,h.base.trans ⟨h.aQ.below.os,h.aQ.below.tape,h.aQ.below.output,h.aQ.below.size,λk ab=>h.aQ.below.block k (.inl ab)⟩,λi x ak=>(h.eg i x ak).up b⟩;obtain⟨v,J,U⟩:=h.has s sv c;exact⟨v,J,U.up b⟩
theorem bO.Ur{d:Nat->Prop}(h:bO X R W aC n ks env B w H st a w)(f:∀k,d k->B k\/(¬mB R B H ks k/\tt w k)):bO X R W aC n ks env (λk=>B k\/d k) w H st a w:=by
 have g:gm B w (λk=>B k\/d k) w:=⟨λ_ h=>.inl h,λk ab=>rfl⟩
 have m:∀k,d k->k<w.heap.size:=λk ab=>by
  rcases f k ab with J|⟨_,cs,e,o,U⟩
  ·exact h.aQ.base k (.inr J)
  grind
 refine⟨h.size,h.defs,λs sv j=>?_,h.heap.up g,⟨cV.refl _ _,λk ab=>?_,λc aa=>(h.aQ.ok c aa).base λb ag ab=>?_,h.aQ.apart⟩,λk ab=>.inl (h.sub k ab),λk ab=>?_,h.dB,h.base,λi x ak=>(h.eg i x ak).up g⟩
 ·obtain⟨v,J,U⟩:=h.has s sv j
  exact⟨v,J,U.up g⟩
 ·rcases ab with ab|ab|ab
  ·exact h.aQ.base k (.inl ab)
  ·exact h.aQ.base k (.inr ab)
  grind
 ·have p:=((h.aQ.ok c aa).lt ag).1
  rcases ab with ab|ab|ab
  ·grind
  ·grind
  ·rcases f b ab with J|⟨J,_⟩
   ·grind
   ·exact J (.inr (.inr ⟨c,aa,ag⟩))
 ·rcases ab with ab|ab
  ·exact h.new k ab
  ·rcases f k ab with J|⟨J,U⟩
   ·exact h.new k J
   ·exact .inr ⟨λl=>J (.inl l),U⟩
theorem bO.GB(h:bO X R W aC n ks env B ai H st a w):∀k,mB R B H ks k->k<w.heap.size:=λk ab=>by
 rcases ab with ab|ab|⟨c,aa,e⟩
 ·exact h.aQ.base k (.inl ab)
 ·exact h.aQ.base k (.inr ab)
 ·exact((h.aQ.ok c aa).lt e).2
end
def hA(X:bx)(M:Bool)(n:Nat)(st st':aP):Prop:=∀R W aC a w,me X R W aC M n st a w->me X R W aC M n st' a w
theorem cj.m{M:Bool}(h:cj X n st st'):hA X M n st st':=λR W aC a w ae=>h _ _ _ _ _ _ ae
theorem hA.refl{M:Bool}(st:aP):hA X M n st st:=λ_ _ _ _ _ h=>h
theorem hA.trans{M:Bool}{a b c:aP}(h:hA X M n a b)(k:hA X M n b c):hA X M n a c:=λR W aC x w ae=>k _ _ _ _ _ (h _ _ _ _ _ ae)
theorem bO.put{id:Nat}(h:bO X R W aC n [] env B ai H st a w)(hid:R id)(ag:¬aC.b id)(j:id<W.heap.size)(o:Obj):bO X R (W.putObj id o) aC n [] env B (ai.putObj id o) H st a (w.putObj id o):=by
 have l:∀k,B k->k≠id:=λk ab e=>by
  subst e
  rcases h.new _ ab with J|J
  ·grind
  grind
 have f:=lt_of_lt_of_le j h.base.size;have m:=lt_of_lt_of_le f h.aQ.below.size;have g:gm B ai B (ai.putObj id o):=⟨λ_ h=>h,λk ab=>World.putObj_heap_other (l k ab)⟩
 have key:∀ {v d:World} (k:Nat),id<v.heap.size->id<d.heap.size->d.heap[k]?=v.heap[k]?->(d.putObj id o).heap[k]?=(v.putObj id o).heap[k]?:=λ{v d} k J U ah=>by
  grind [id,World.putObj_heap_same,World.putObj_heap_other]
 refine⟨h.size,h.defs,λs sv p=>?_,h.heap.up g,⟨⟨h.aQ.below.os,h.aQ.below.tape,h.aQ.below.output,by simpa using h.aQ.below.size,λk ab=>key k f m (h.aQ.below.block k ab)⟩,λk ab=>by simpa using h.aQ.base k ab,λc aa=>(h.aQ.ok c aa).eb λb e=>World.putObj_heap_other λq=>((h.aQ.ok c aa).lt e).1 (.inl (q ▸ hid)),h.aQ.apart⟩,h.sub,λk ab=>(h.new k ab).imp_right λJ=>⟨J.1,J.2.eb (World.putObj_heap_other (l k ab))⟩,h.dB,⟨h.base.os,h.base.tape,h.base.output,by simpa using h.base.size,λk ab=>key k j f (h.base.block k ab)⟩,λi x ak=>(h.eg i x ak).up g⟩;obtain⟨v,J,U⟩:=h.has s sv p;exact⟨v,J,U.up g⟩
theorem ag4{M:Bool}{id:Nat}{c:Code}{ms:List (Nat×Nat)}{H:bC}{P:aP->Prop}(h:mY n c ms)(g:nL n (ms.map (·.1))=true)(nT:P ⟨tH ms L,H⟩):hf X M n (some id) c ⟨L,H⟩ (λe s=>e=.normal/\P s):=λR W aC a w ⟨ks,env,B,ai,f,d,ae⟩=>by
 have b:=Has.cZ (ms:=ms) (L:=L) (tmps:=a.tmps) (n:=n) (env:=env) (B:=B) (w:=ai) ⟨ae.size,ae.has⟩ g;exact mY.ok (l:=id) h ⟨_,⟨rfl,nT⟩,ks,env,B,ai,f,d,b.size,ae.defs,b.has,ae.heap,ae.aQ,ae.sub,ae.new,ae.dB,ae.base,ae.eg⟩
theorem Us{β:Type}{Q:Exit->aP->Prop}{g:Operand}{pl:bG}{gf:FuncId}{fn:Func}{gH:dY}{mA:α->dT}{l:List α}{an e9:bC}(aV : bu X st.L g = some (b, .c (.fn gf gH)))(ag : b = true)(gL : X.P.funcs[gf]? = some fn)(sP : (fn.name == "runtime.NumGoroutine") = false)(p6 : fn.body.isNone = false)(hg : xV X gf gH an l mA)(hlen : ∀ x, (mA x).length = pl.length)(hN : nL n pl = true)(bc : ble n h1 = true)(gX:β->bC)(bP:List α->β->Prop)(mC:Exit->bC->Prop)(iv:β)(aM:bP l iv)(cY:st.H=an++e9)(dE:∀ {env:Nat->Loc} {B:Nat->Prop} {w:World} {H:cW},bE env B w e9 H->∃H' Y,H.Perm (H'++Y)/\bE env B w (gX iv) H')(rS:∀id x rest y,bP (x::rest) y->hf X false n (some id) assign ⟨vf pl (mA x) (gg (hv n) st.L),gX y⟩ (λgI kx=>gI=.normal/\hf X false n (some id) body kx (λe s=>(e=.normal/\∃oz,bP rest oz/\∃dJ,hA X false n s ⟨dJ,gX oz⟩)\/(e≠.normal/\Fu e=true/\∃aW,mC e aW/\∃dJ,hA X false n s ⟨dJ,aW⟩))))(oo:∀y,bP [] y->Q .normal ⟨gg (hv n) st.L,gX y⟩)(p4:∀e aW,mC e aW->Q e ⟨gg (hv n) st.L,aW⟩):hf X true n none (.rangeFunc g pl.toArray assign body) st Q:=by
 intro R W aC a w iY;obtain⟨ks,env,B,ai,oZ,bM,fw⟩:=iY;have CL:=fw.heap;rw[cY]at CL;obtain⟨O,H2,Mn,ia,hR⟩:=bE.split (l:=an) CL;obtain⟨H,Y,zI,qN⟩:=dE hR;subst Mn;have ae:bO X R W aC n ks env B ai (O++H) ⟨st.L,an++gX iv⟩ a w:=by
  refine⟨fw.size,fw.defs,fw.has,ia.append qN,?_,fw.sub,fw.new,fw.dB,fw.base,fw.eg⟩;have aq:((O++H2)++ks.map dj).Perm (((O++H)++ks.map dj)++Y):=by
   refine((zI.append_left O).append_right _).trans ?_;simp only[append_assoc];exact((List.perm_append_comm).append_left H).append_left O
  exact(fw.aQ.perm aq).fb (sublist_append_left _ _)
 obtain⟨gv,dK,lb,rfl,dr⟩:=fw.aD aV ag;have iY:=ae.R2;have uq:gm B ai B w:=⟨λ_ h=>h,λk ab=>ae.aQ.below.block k (.inr ab)⟩
 have xT:∀k,B k->k<w.heap.size:=λk ab=>ae.aQ.base k (.inr ab)
 have xQ:=hg B w lb env O xT (λi x ak=>(ae.eg i x ak).up uq) (dr.up uq) (ia.up uq);have ari:∀k,R k\/B k->k<w.heap.size:=λk ab=>ae.aQ.base k ab
 have arj:∀k∈ks,k<w.heap.size:=λk ab=>((ae.aQ.ok (dj k) (List.mem_append_right _ (List.mem_map.2 ⟨k,ab,rfl⟩))).lt rfl).2
 have ij:=Nat.le_of_ble_eq_true bc;have tC:(H++ks.map dj).Sublist ((O++H)++ks.map dj):=by
  rw[append_assoc];exact List.sublist_append_right _ _
 have Mo:bK (mB (λk=>R k\/B k) B H ks) w O w:=by
  have kK:=ae.aQ.apart;rw[append_assoc,pairwise_append]at kK;refine⟨cV.refl _ _,λk ab=>?_,λc aa=>?_,kK.1⟩
  ·rcases ab with ab|ab|⟨c,aa,e⟩
   ·grind
   ·grind
   ·exact((ae.aQ.ok c (tC.subset aa)).lt e).2
  ·have gM:=ae.aQ.ok c (mem_append_left _ (mem_append_left _ aa))
   refine gM.base λb ag ab=>?_
   rcases ab with ab|ab|⟨c',eD,e⟩
   ·exact(gM.lt ag).1 ab
   ·exact(gM.lt ag).1 (.inr ab)
   ·exact kK.2.2 c aa c' eD b ag e
 let mP:=gg (hv n) st.L
 let oA:Nat->Prop:=λk=>R k\/B k
 let In:bC->(Nat->Prop)->(Nat->Prop)->World->Prop:=λh C b8 c9=>∃env' B' cD H',bO X oA w ⟨B,om n env,aC.d⟩ n ks env' B' cD H' ⟨mP,h⟩ a c9/\C=mB oA B' H' ks/\∀k,b8 k->B' k
 let I:List α->(Nat->Prop)->(Nat->Prop)->World->Prop:=λr C b8 c9=>∃y,bP r y/\In (gX y) C b8 c9
 let mz:Code->(Nat->Prop)->World->Prop:=λc C c9=>∃e aW b8,R1 e=some c/\mC e aW/\In aW C b8 c9
 have CM:∀h C b8 bT nV,In h C b8 bT->cV C bT nV->In h C b8 nV:=by
  rintro h C b8 bT nV ⟨env',B',cD,H',J,rfl,U⟩ ab;exact⟨env',B',cD,H',J.Ml ab,rfl,U⟩
 have CN:∀ {B':Nat->Prop} {cD:World} {env':Nat->Loc},(∀k,B k->B' k)->(∀k,B k->cD.heap[k]?=w.heap[k]?)->(∀id l,om n env id l->env' id=l)->∀s sv,bh mP s=some sv->∃v,a.tmps[s]?=some v/\eI env' B' cD sv v:=by
  intro B' cD env' cG hw he s sv aj;obtain⟨u,J,rfl⟩:=xb aj;obtain⟨v,U,ah⟩:=iY.has s u J;exact⟨v,U,eI.db (RW (λid l aw aI bb=>he id l ⟨aw,aI,bb⟩) ij) (ah.up ⟨cG,hw⟩)⟩
 have CO:∀ {h:bC} {C b8:Nat->Prop} {bT:World} (k:Nat),w.heap.size<=k->¬C k->bT.heap[k]?=some (.deferred (some []))->In h C b8 bT->me X R W aC true n ⟨mP,h⟩ { a with defers:={ target:=.collected k,args:=#[] }::a.defers } bT:=by
  rintro h C b8 bT k ab vE az ⟨env',B',cD,H',J,rfl,_⟩;refine⟨k::ks,env',B',cD,H',⟨(λh=>by cases h),bM.2⟩,ae.acs ?_⟩;have jf:(dj k::(H'++ks.map dj)).Perm (H'++(k::ks).map dj):=by
   rw[List.map_cons];exact List.perm_middle.symm
  have ea:bK (λq=>(R q\/B q)\/B' q) cD (dj k::(H'++ks.map dj)) bT:=by
   refine⟨J.aQ.below,J.aQ.base,λc aa=>?_,List.Pairwise.cons (λc aa q aH bk=>?_) J.aQ.apart⟩
   ·rcases List.mem_cons.1 aa with rfl|aa
    ·exact⟨λaq=>vE (aq.elim .inl λh=>.inr (.inl h)),az⟩
    ·exact J.aQ.ok c aa
   ·have:k=q:=Option.some.inj aH
    subst this;exact vE (.inr (.inr ⟨c,aa,bk⟩))
  refine⟨J.size,congrArg (List.cons (wQ k)) J.defs,J.has,J.heap,ea.perm jf,J.sub,J.new,J.dB,J.base,J.eg⟩
 have ds:∀(c:Code) (m:Nat) (Q:Exit->Act->World->Prop) a w,c.wpIn Fence.wide m X.P Q a w↔c.wpIn Fence.wide 0 X.P Q a w:=λc m Q a w=>wpIn_wide.trans wpIn_wide.symm
 have CP:∀(id:Nat) (c:Code) (m:Nat) (Q:Exit->Act->World->Prop) a w,c.wpIn (Fence.wide.inRound id) 0 X.P Q a w->c.wpIn (Fence.wide.inRound id) m X.P Q a w:=λid c m Q a w h=>by
  intro b k cs tQ ag av;exact h b k cs tQ ag (λ_ h=>by cases h)
 refine(ds _ 2 _ _ _).1 ?_;have Mp:∀vs:bQ,(pl.toArray.zip vs.toArray).foldl (λt (p,v)=>t.setIfInBounds p v) a.tmps=(pl.zip vs).foldl (λt (p,v)=>t.setIfInBounds p v) a.tmps:=λx=>by
  rw[<- Array.foldl_toList,Array.toList_zip]
 refine Uo (gf:=gf) (lb:=lb) (ae.bV.aD dK) (λargs w=>QG gL sP p6) xQ (cV.refl _ _) xT (λdR nV x vs h=>by have:=dx.length h;rw[hlen x]at this;simpa using this) (λdR nV lv x vs ab h=>dx.up ⟨λ_ h=>h,λk aq=>ab.block k aq⟩ h)
  I mz ?_ ?_ ?_ ?_ ?_ (mB oA B H ks) ?_ Mo ?_ ?_ ?_
 ·rintro r C b8 bT nV ⟨y,aA,J⟩ ab
  exact⟨y,aA,CM _ _ _ _ _ J ab⟩
 ·rintro c C bT nV ⟨e,aW,b8,he,oB,J⟩ ab
  exact⟨e,aW,b8,he,oB,CM _ _ _ _ _ J ab⟩
 ·rintro r C b8 bT ⟨y,aA,env',B',cD,H',J,rfl,_⟩
  exact J.GB
 ·rintro r C b8 bT ⟨y,aA,env',B',cD,H',J,rfl,U⟩ k ab
  exact .inr (.inl (U k ab))
 ·rintro c C bT ⟨e,aW,b8,he,oB,env',B',cD,H',J,rfl,_⟩
  exact J.GB
 ·exact⟨iv,aM,env,B,w,H,⟨iY.size,iY.defs,CN (λ_ h=>h) (λ_ _=>rfl) (λ_ _ h=>h.2.1),qN.up uq,iY.aQ.fb tC,iY.sub,iY.new,iY.dB,iY.base,iY.eg⟩,rfl,λ_ h=>h⟩
 ·rintro id x rest vs C b8 dR W o hid Ut Mi ⟨y,aA,sQ,c7,b9,H1,aM,rfl,q2⟩ nU p5
  rw[Mp];obtain⟨fP,Af⟩:∃fP:Nat->Prop,fP=λk=>c7 k\/dR k:=⟨_,rfl⟩
  have CQ:bO X oA w ⟨B,om n env,aC.d⟩ n ks sQ fP W H1 ⟨mP,gX y⟩ a W:=by
   rw[Af];exact aM.now.Ur λk ab=>(nU.new k ab).imp (λh=>q2 k h) λ⟨h,U⟩=>⟨h,U⟩
  have pN:∀k,mB oA fP H1 ks k->mB oA c7 H1 ks k\/dR k:=λk ab=>by
   rcases ab with ab|ab|ab
   ·exact .inl (.inl ab)
   ·rw[Af]at ab
    exact ab.imp (λh=>.inr (.inl h)) λh=>h
   ·exact .inl (.inr (.inr ab))
  have Ag:∀k,dR k->fP k:=λk ab=>by rw[Af];exact .inr ab
  have Uu:¬mB oA fP H1 ks id:=λh=>(pN id h).elim Ut Mi
  clear aM
  have ark:bK (λk=>oA k\/fP k) W H1 W:=CQ.aQ.fb (sublist_append_left _ _);have ag5:Has n sQ fP W mP a.tmps:=⟨ae.size,λs sv aj=>by
   obtain⟨v,U,ah⟩:=CQ.has s sv aj;exact⟨v,U,ah.up ⟨λ_ h=>h,λk ab=>CQ.aQ.below.block k (.inr ab)⟩⟩⟩
  have ag6:=CQ.round (Has.par ag5 hN ((dx.any p5).up ⟨Ag,λ_ _=>rfl⟩));have Mq:ga W H1 id:=⟨hid,λc aa e=>Ut (.inr (.inr ⟨c,mem_append_left _ aa,e⟩))⟩
  have ag7:=rS id x rest y aA _ _ _ _ _ ⟨[],sQ,fP,W,H1,⟨λ_=>rfl,λh=>by cases h⟩,ag6⟩;refine wpIn_mono (CP _ _ 1 _ _ _ ag7) ?_;rintro gQ a5 ag1 ⟨arl,⟨rfl,ag8⟩,arn,ag9,aha,aro,ahb,Uv,aI⟩;have ahc:=Uv.1 rfl;subst ahc;refine⟨(aI.aQ.below.block id (.inl Mq)).trans (aI.base.block id Mq),?_⟩;have xt:=(CQ.Ml (vD (W:=W) (o:=o) Uu)).now;have xu:=aI.put Mq (λh=>Uu (.inr (.inl h))) hid o;have ahd:ga W H1=ga (W.putObj id o) H1:=funext λk=>by simp[ga]
  rw[ahd]at xu;obtain⟨bT,xR⟩:∃bT,bT=W.putObj id o:=⟨_,rfl⟩
  rw[<- xR]at xt xu ⊢;have J:bO X oA w ⟨B,om n env,aC.d⟩ n ks sQ fP bT H1 ⟨mP,gX y⟩ a bT:=xt;have fc:bK (λk=>oA k\/fP k) bT H1 bT:=J.aQ.fb (sublist_append_left _ _);have Uw:gm fP bT fP bT:=⟨λ_ h=>h,λk ab=>J.aQ.below.block k (.inr ab)⟩
  have ahe:∀k,B k->bT.heap[k]?=w.heap[k]?:=λk ab=>(J.aQ.below.block k (.inl (.inr ab))).trans (J.base.block k (.inr ab))
  have Mr:=ag8 _ _ _ _ _ ⟨[],ag9,aha,_,ahb,Uv,xu⟩;refine wpIn_mono (CP _ _ 1 _ _ _ Mr) ?_;rintro e a3 lv ⟨s,aj,U⟩;have j1:∀k,oA k\/fP k->ga bT H1 k:=λk ab=>⟨fc.base k ab,λc aa e=>((fc.ok c aa).lt e).1 ab⟩
  have key:∀aW dJ,hA X false n s ⟨dJ,aW⟩->∃cP,In aW cP dR lv/\Grow dR (mB oA c7 H1 ks) cP bT lv:=by
   intro aW dJ hw;obtain⟨ahf,GC,vF,nS,Ah,GD,ah⟩:=hw _ _ _ _ _ U
   have:=GD.1 rfl
   subst this;have ml:∀k,ga bT H1 k->lv.heap[k]?=bT.heap[k]?:=λk ab=>(ah.aQ.below.block k (.inl ab)).trans (ah.base.block k ab)
   have aw:=J.acu ah (L:=mP) (CN (λk ab=>ah.sub k (J.sub k ab)) (λk ab=>(ah.base.block k (j1 k (.inl (.inr ab)))).trans (ahe k ab)) (λid l an=>(ah.dB id l ⟨(J.dB id l an).1,(J.dB id l an).2.1,(J.dB id l an).2.2⟩).2.1));have lx:=ah.aQ;simp only[map_nil,append_nil]at lx;refine⟨_,⟨GC,vF,nS,Ah,aw,rfl,λk ab=>ah.sub k (Ag k ab)⟩,⟨⟨ah.aQ.below.os.trans ah.base.os,ah.aQ.below.tape.trans ah.base.tape,ah.aQ.below.output.trans ah.base.output,le_trans ah.base.size ah.aQ.below.size,λk ab=>?_⟩,λk ab=>?_⟩⟩
   ·rcases ab with ab|⟨ji,jj⟩
    ·grind
    ·exact ml k ⟨ji,λc aa e=>jj (.inr (.inr ⟨c,mem_append_left _ aa,e⟩))⟩
   ·by_cases bg:bT.heap.size<=k
    ·grind
    ·have ju:mB oA fP H1 ks k->mB oA c7 H1 ks k\/bT.heap.size<=k\/dR k:=λh=>(pN k h).imp_right .inr
     apply ju
     have Ms:k<bT.heap.size:=by omega
     by_cases ji:mB oA fP H1 ks k
     ·grind
     ·exfalso
      have vG:ga bT H1 k:=⟨Ms,λc aa e=>ji (.inr (.inr ⟨c,mem_append_left _ aa,e⟩))⟩
      rcases ab with ab|ab|⟨c,aa,e⟩
      ·exact ji (.inl ab)
      ·rcases ah.new k ab with aI|aI
       ·exact ji (.inr (.inl aI))
       ·grind
      ·rcases List.mem_append.1 aa with aa|aa
       ·exact((lx.ok c aa).lt e).1 (.inl vG)
       ·exact ji (.inr (.inr ⟨c,List.mem_append_right _ aa,e⟩))
  rcases aj with⟨rfl,oz,h6,dJ,hw⟩|⟨cQ,hex,aW,oB,dJ,hw⟩
  ·obtain⟨cP,aI,bb⟩:=key _ _ hw
   exact⟨cP,⟨oz,h6,aI⟩,bb⟩
  ·obtain⟨cP,aI,bb⟩:=key _ _ hw
   cases e with
   |normal=>exact absurd rfl cQ
   |ret=>exact⟨cP,⟨.ret,aW,_,rfl,oB,aI⟩,bb⟩
   |exit i=>exact⟨cP,⟨.exit i,aW,_,rfl,oB,aI⟩,bb⟩
   |goto t=>cases hex
   |panic c=>cases hex
   |outgrown=>cases hex
 ·rintro k C b8 bT ab cA ⟨y,aA,J⟩ az
  exact⟨_,oo y aA,CO k ab cA az J⟩
 ·rintro k c C bT ab cA ⟨e,aW,b8,he,oB,J⟩ az
  have CR:=CO k ab cA az J;have aq:=p4 e aW oB;cases e with
  |ret=>cases he;exact wpIn_ret ⟨_,aq,CR⟩
  |exit id=>cases he;exact(ds _ 2 _ _ _).2 (JE ⟨_,aq,CR⟩)
  |normal=>cases he
  |goto t=>cases he
  |panic c=>cases he
  |outgrown=>cases he
theorem ahg{β:Type}{Q:Exit->aP->Prop}{g:Operand}{pl:bG}{gf:FuncId}{fn:Func}{gH:dY}{mA:α->dT}{l:List α}{ms:List (Nat×Nat)}{an e9:bC}(aV : bu X st.L g = some (b, .c (.fn gf gH)))(ag : b = true)(gL : X.P.funcs[gf]? = some fn)(sP : (fn.name == "runtime.NumGoroutine") = false)(p6 : fn.body.isNone = false)(hg : xV X gf gH an l mA)(hlen : ∀ x, (mA x).length = pl.length)(hN : nL n pl = true)(q3 : mY n assign ms)(oa : nL n (ms.map (·.1)) = true)(bc : ble n h1 = true)(gX:β->bC)(bP:List α->β->Prop)(mC:Exit->bC->Prop)(iv:β)(aM:bP l iv)(cY:st.H=an++e9)(dE:∀ {env:Nat->Loc} {B:Nat->Prop} {w:World} {H:cW},bE env B w e9 H->∃H' Y,H.Perm (H'++Y)/\bE env B w (gX iv) H')(rS:∀id x rest y,bP (x::rest) y->hf X false n (some id) body ⟨tH ms (vf pl (mA x) (gg (hv n) st.L)),gX y⟩ (λe s=>(e=.normal/\∃oz,bP rest oz/\∃dJ,hA X false n s ⟨dJ,gX oz⟩)\/(e≠.normal/\Fu e=true/\∃aW,mC e aW/\∃dJ,hA X false n s ⟨dJ,aW⟩)))(oo:∀y,bP [] y->Q .normal ⟨gg (hv n) st.L,gX y⟩)(p4:∀e aW,mC e aW->Q e ⟨gg (hv n) st.L,aW⟩):hf X true n none (.rangeFunc g pl.toArray assign body) st Q:=Us aV ag gL sP p6 hg hlen hN bc gX bP mC iv aM cY dE (λid x rest y aA=>ag4 q3 oa (rS id x rest y aA)) oo p4
end
section
structure hl(X:bx)(M:Bool)(n:Nat)(rr:Option Nat)(aT:Type) where
 In:aT->aP->Act->World->Prop
 frame:∀ {c:Code} {st:aP} {Q:Exit->aP->Prop} {r:aT} {a:Act} {w:World},hf X M n rr c st Q->In r st a w->ma rr X.P c (λe a w=>∃s,Q e s/\In r s a w) a w
 step:∀ {ops:List Oper} {o:Oper} {st st':aP} {r:aT} {a:Act} {w:World},LW X n ops o st st'->In r st a w->∀ {KK:Act->World->Prop},(∀a w,In r st' a w->KK a w)->fa X.P ops.toArray o KK a w
 fb:∀ {st st':aP} {r:aT} {a:Act} {w:World},hA X M n st st'->In r st a w->In r st' a w
 Ai:∀ {st:aP} {r:aT} {a:Act} {w:World},In r st a w->∃R W aC ks env B ai H,bO X R W aC n ks env B ai H st a w
variable {X:bx} {M:Bool} {n:Nat} {rr:Option Nat} {aT:Type}
def hl.GF(R:Nat->Prop)(W:World)(aC:fe)(f:aT):hl X M n rr aT where
 In r st a w:=r=f/\me X R W aC M n st a w
 frame h hi:=wpIn_mono (h R W aC _ _ hi.2) λ_ _ _ ⟨s,J,U⟩=>⟨s,J,hi.1,U⟩
 step h hi KK ch:=by
  obtain⟨b,ks,env,B,ai,H,c,ae⟩:=hi;exact h R W aC ks env B ai H _ _ ae _ λaS w' env' B' e H' d=>ch _ _ ⟨b,ks,env',B',e,H',c,d⟩
 fb h hi:=⟨hi.1,h _ _ _ _ _ hi.2⟩
 Ai hi:=by
  obtain⟨_,ks,env,B,ai,H,_,ae⟩:=hi;exact⟨_,_,_,_,_,_,_,_,ae⟩
def hl.const{b:Type}(Γ:hl X M n rr aT)(r:aT)(d0:b):hl X M n rr b where
 In d st a w:=d=d0/\Γ.In r st a w
 frame h hi:=wpIn_mono (Γ.frame h hi.2) λ_ _ _ ⟨s,J,U⟩=>⟨s,J,hi.1,U⟩
 step h hi KK ch:=Γ.step h hi.2 λa w h=>ch a w ⟨hi.1,h⟩
 fb h hi:=⟨hi.1,Γ.fb h hi.2⟩
 Ai hi:=Γ.Ai hi.2
def iJ(Γ:hl X M n rr aT)(c:Code)(r:aT)(st:aP)(Q:Exit->aP->aT->Prop):Prop:=∀a w,Γ.In r st a w->ma rr X.P c (λe a w=>∃s b,Q e s b/\Γ.In b s a w) a w
section
variable {Γ:hl X M n rr aT} {c fp cC:Code} {r:aT} {st st':aP} {Q rz:Exit->aP->aT->Prop}
theorem xW{Q:Exit->aP->Prop}(h:hf X M n rr c st Q):iJ Γ c r st (λe s b=>Q e s/\b=r):=λa w hi=>wpIn_mono (Γ.frame h hi) λ_ _ _ ⟨s,J,U⟩=>⟨s,r,⟨J,rfl⟩,U⟩
theorem l0(h:iJ Γ c r st Q)(d:∀e s b,Q e s b->rz e s b):iJ Γ c r st rz:=λa w hi=>wpIn_mono (h a w hi) λ_ _ _ ⟨s,b,J,U⟩=>⟨s,b,d _ _ _ J,U⟩
theorem GG{b:Type}{d0:b}{Q:Exit->aP->b->Prop}(h:iJ (Γ.const r d0) c d0 st Q):iJ Γ c r st (λe s f=>f=r/\Q e s d0):=λa w hi=>wpIn_mono (h a w ⟨rfl,hi⟩) λ_ _ _ ⟨s,d,J,U,ah⟩=>⟨s,r,⟨rfl,U ▸ J⟩,ah⟩
theorem Aj(hw:hA X M n st st')(h:iJ Γ c r st' Q):iJ Γ c r st Q:=λa w hi=>h a w (Γ.fb hw hi)
def ahh(Γ:hl X M n rr aT)(c:Code)(Q:Exit->aP->aT->Prop):Exit->aP->aT->Prop
 |.normal,st,r=>iJ Γ c r st Q
 |e,st,r=>Q e st r
theorem Mt(h:iJ Γ fp r st (ahh Γ cC Q)):iJ Γ (.seq fp cC) r st Q:=λa w hi=>by
 refine wpIn_seq (wpIn_mono (h a w hi) ?_);rintro e a w ⟨s,b,J,U⟩;cases e with
 |normal=>exact J a w U
 |_=>exact⟨s,b,J,U⟩
theorem ahi{g:Bool}(ak:bu X st.L x=some (g,.c (.val (.bool b))))(d:g=true)(J:b=true->iJ Γ fp r st Q)(c:b=false->iJ Γ cC r st Q):iJ Γ (.cond x fp cC) r st Q:=λa w hi=>by
 obtain⟨R,W,aC,ks,env,B,ai,H,ae⟩:=Γ.Ai hi;obtain⟨v,U,ah⟩:=ae.aD ak d;rw[show v=_ from ah]at U;exact Qv ae.sym U (λag=>J ag a w hi) (λag=>c ag a w hi)
def Ux(id:Nat)(Q:Exit->aP->aT->Prop):Exit->aP->aT->Prop
 |.exit a,st,r=>match beq a id with
  |true=>Q .normal st r
  |false=>Q (.exit a) st r
 |e,st,r=>Q e st r
theorem ahj{id:Nat}(h:iJ Γ c r st (Ux id Q)):iJ Γ (.block id c) r st Q:=λa w hi=>by
 refine Qu (wpIn_mono (h a w hi) ?_);rintro e a w ⟨s,b,J,U⟩;cases e with
 |exit d=>
  grind [Ux,eq_of_beq_eq_true,Exit.inBlock,id,ne_of_beq_eq_false]
 |_=>exact⟨s,b,J,U⟩
def ahk(Q:Exit->aP->aT->Prop):Exit->aP->aT->Prop
 |.goto _,_,_=>False
 |e,st,r=>Q e st r
theorem ahl(h:iJ Γ c r st (ahk Q)):iJ Γ (.scope c) r st Q:=λa w hi=>by
 refine aeh (wpIn_mono (h a w hi) ?_);rintro e a w ⟨s,b,J,U⟩;cases e with
 |goto l=>exact J.elim
 |_=>exact⟨s,b,J,U⟩
def ahm{α:Type}(M:Bool)(n:Nat)(X:bx)(I:α->aP)(bP:α->aT->Prop)(m:α->Nat)(x:α)(Q:Exit->aP->aT->Prop):Exit->aP->aT->Prop
 |.normal,st,r=>∃y,bP y r/\m y<m x/\hA X M n st (I y)
 |e,st,r=>Q e st r
theorem Mu(I:α->aP)(bP:α->aT->Prop)(m:α->Nat)(b:α)(h:bP b r)(hw:hA X M n st (I b))(i:∀x r,bP x r->iJ Γ c r (I x) (ahm M n X I bP m x Q)):iJ Γ (.loop c) r st Q:=λa w hi=>by
 refine Qw (λx a w=>∃r,bP x r/\Γ.In r (I x) a w) m b ⟨r,h,Γ.fb hw hi⟩ λx a w ⟨r,f,hi⟩=>wpIn_mono (i x r f a w hi) ?_
 rintro e a w ⟨s,d,J,U⟩;cases e with
 |normal=>
  obtain⟨y,ah,j,g⟩:=J;exact⟨y,⟨d,ah,Γ.fb g U⟩,j⟩
 |_=>exact⟨s,d,J,U⟩
theorem GH{c:Code}{st:aP}{Q:Exit->aP->aT->Prop}{r:aT}(h:∀R W aC,iJ (hl.GF (X:=X) (M:=M) (n:=n) (rr:=rr) R W aC r) c r st Q):hf X M n rr c st (λe s=>Q e s r):=λR W aC a w ae=>by
 refine wpIn_mono (h R W aC a w ⟨rfl,ae⟩) ?_;rintro e a w ⟨s,b,J,rfl,U⟩;exact⟨s,J,U⟩
end
theorem ahn(u:X.a1.ok X.P){f:FuncId}{fn:Func}{c:Code}{h:bC}{Q:b7->bC->Prop}{res:List ResultVar}(aF:X.P.funcs[f]?=some fn)(ag:fn.body=some c)(aR:fn.ntmps=n)(ao:ble args.length n=true)(bc:ble n lJ=true)(r:fn.results=res.toArray)(z:hf X true n none c ⟨rA 0 args,h⟩ (λe st=>(e=.ret\/e=.normal)/\∃st',hA X true n st st'/\∃c sv,tA X st' res=some (c,sv)/\c=true/\Q sv st'.H)):AC X f args h Q:=by
 intro B ai env vs H W q bl A g;have E:=bl.length;have hle:vs.length<=n:=by rw[E];exact Nat.le_of_ble_eq_true ao
 refine(callsIn_wide (n:=0)).1 (callsIn_of_wp_marks aF ag trivial ?_);have m:gm B ai B W:=⟨λ_ h=>h,λk ab=>g.below.block k ab⟩
 have D:∀k,B k->ga W H k:=λk ab=>⟨g.base k ab,λc aa e=>((g.ok c aa).lt e).1 ab⟩
 have p:=JG (fn:=fn) aR hle _ rfl (vs:=vs);have ae:bO X (ga W H) W ⟨B,λid l=>((lJ<=id/\∃b,l=.blk b)\/h1<=id)/\env id=l,[]⟩ n [] env B W H ⟨rA 0 args,h⟩ { tmps:=vs.toArray++Array.replicate (fn.ntmps-vs.toArray.size) undef,defers:=[] } W:=by
  refine⟨p.size,rfl,λs sv G=>?_,A.up m,?_,λ_ h=>h,λ_ h=>.inl h,λid l an=>⟨le_trans (Nat.le_of_ble_eq_true bc) (an.1.elim (λh=>h.1) (λh=>le_trans (by decide) h)),an.2,an.1.imp (λh=>h.2) (λh=>h)⟩,cV.refl _ _,λi x ak=>(q i x ak).up m⟩
  ·obtain⟨_,v,J,U⟩:=E5 bl G
   rw[Nat.sub_zero]at J;refine⟨v,?_,U.up m⟩
   grind
  ·have J:=g.rest
   simp only[map_nil,append_nil];exact⟨cV.refl _ _,λk ab=>ab.elim (λh=>h.1) (λh=>g.base k h),λc aa=>(J.ok c aa).base λb ag ab=>ab.elim (λh=>((J.ok c aa).lt ag).1 h) (λh=>((J.ok c aa).lt ag).1 (D b h)),J.apart⟩
 refine wpIn_mono (z _ _ _ _ _ ⟨[],env,B,W,H,⟨(λh=>by cases h),λ_ id l (an:((lJ<=id/\∃b,l=.blk b)\/h1<=id)/\env id=l)=>an.1.elim (λh=>h.1) (λh=>le_trans (by decide) h)⟩,ae⟩) ?_;rintro e a w ⟨st,⟨he,st',hw,c,sv,I,aa,C⟩,U⟩;obtain⟨ks,env',B',j,H',L,d⟩:=hw _ _ _ _ _ U;have F:bO X (ga W H) W ⟨B,λid l=>((lJ<=id/\∃b,l=.blk b)\/h1<=id)/\env id=l,[]⟩ n [] env' B' j H' st' { tmps:=a.tmps,defers:=[] } w:=
  ⟨d.size,rfl,d.has,d.heap,by simpa using d.aQ.fb (sublist_append_left _ _),d.sub,d.new,d.dB,d.base,d.eg⟩
 obtain⟨v,ah,t⟩:=Ry u F r I aa;have K:Sym n (ks.map wQ) (full a) (λk=>ga W H k\/B' k) j (ks.map (λk=>bm.obj k (.deferred (some [])))++H') a w:=⟨by have cY:=d.bV;simpa [kf] using cY,d.aQ.perm List.perm_append_comm⟩
 have key:=QE (fn:=fn) (R:=tz X env B H W Q) ks K (λw hw=>t w (by simpa using hw)) λw hw=>⟨env',B',j,H',sv,st'.H,C,d.sub,d.new,d.base,ah,d.heap,hw,λid l o y=>(d.dB id l ⟨o,y⟩).2.1⟩
 rcases he with rfl|rfl
 ·exact key
 ·exact key
end
end Go.Proofs.YtijeenjclhajhaaGreatDoor
