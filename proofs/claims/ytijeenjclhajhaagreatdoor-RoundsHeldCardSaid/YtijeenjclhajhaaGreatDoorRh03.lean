/- Part 3 of 6 of the proof. -/
import Derived.Test.YtijeenjclhajhaaGreatDoorRh02
import Derived.Maps.RangeRun
import Derived.RangeFuncNested
set_option linter.all false
set_option maxRecDepth 100000
namespace Go.Proofs.YtijeenjclhajhaaGreatDoor
open _root_.Bool (and_eq_true not_eq_true' or_eq_true)
open _root_.Nat (add_assoc add_comm beq beq_refl ble blt eq_of_beq_eq_true le_refl lt_of_lt_of_le lt_of_succ_lt_succ lt_or_ge ne_of_beq_eq_false zero_add)
open _root_.List (append_assoc append_nil cons_append length_map length_set map_append mem_append_left mem_append_right mem_cons_of_mem mem_cons_self pairwise_append range replicate set_set toArray)
open Go.RowKit
def bs.free:bs->Bool
 |.val _=>true
 |.str _=>true
 |.gb _ _ _=>true
 |.par _ _=>true
 |.bJ _ _ _=>true
 |.fn _ cs=>tG cs
 |_=>false
def tT:dT->Bool
 |[]=>true
 |c::r=>match c.free with
  |true=>tT r
  |false=>false
def bp.free:bp->Bool
 |.c x=>x.free
 |.agg cs=>tT cs
 |.arr _ _=>true
def na:ej->Bool
 |[]=>true
 |c::r=>match c.free with
  |true=>na r
  |false=>false
def b8.free:b8->Bool
 |.a x=>x.free
 |.may _ x=>x.free
 |.cY xs=>na xs
def cC.free:cC->Bool
 |.cells _ cs=>tT cs
 |.row _ _ _ _=>true
 |.mp _ _ _ _=>true
 |.hl _ _ _=>true
 |.cf _ _ _ _ _ none=>true
 |_=>false
theorem Sh{id:Nat}:∀ {cs:eB},tG cs=true->wI id cs=false
 |[],_=>rfl
 |.id _::_,h=>by cases h
 |.fr _ _::cs,h=>Sh (cs:=cs) h
theorem Si{cy:bX}:∀ {cs:eB},tG cs=true->rp cy cs=false
 |[],_=>rfl
 |.id _::_,h=>by cases h
 |.fr _ _::cs,h=>Si (cs:=cs) h
theorem Sj{id:Nat}{g:aV}{x:g.D}:∀ {cs:eB},tG cs=true->va id g x cs=cs
 |[],_=>rfl
 |.id _::_,h=>by cases h
 |.fr _ _::cs,h=>by
  show fE.fr _ _::va id g x cs=_;rw[Sj (cs:=cs) h]
structure Fix(f:bs->bs):Prop where
 fix:∀c,c.free=true->f c=c
theorem KU(id:Nat)(z:bs):Fix λc=>c.sub id z:=⟨λc h=>by
 cases c with
 |fn f cs=>simp only[bs.sub];rw[Sh h]
 |_=>first|rfl|cases h⟩
theorem KV(cy:bX):Fix λc=>c.kill cy:=⟨λc h=>by
 cases c with
 |fn f cs=>simp only[bs.kill];rw[Si h]
 |_=>first|rfl|cases h⟩
theorem KW(id:Nat)(g:aV)(x:g.D):Fix λc=>c.fe id g x:=⟨λc h=>by
 cases c with
 |fn f cs=>simp only[bs.fe];rw[Sj h]
 |_=>first|rfl|cases h⟩
def xl(f:bs->bs):dT->dT
 |[]=>[]
 |c::r=>f c::xl f r
theorem tU{f:bs->bs}(aC:Fix f):∀ {cs:dT},tT cs=true->xl f cs=cs
 |[],_=>rfl
 |c::r,h=>by
  unfold tT at h
  split at h
  ·rename_i e
   show f c::xl f r=_;rw[aC.fix c e,tU aC h]
  ·cases h
theorem KX(id:Nat)(z:bs):∀cs:dT,tp id z cs=xl (λc=>c.sub id z) cs
 |[]=>rfl
 |c::r=>by
  show c.sub id z::tp id z r=_;rw[KX id z r];rfl
theorem KY(cy:bX):∀cs:dT,ss cy cs=xl (λc=>c.kill cy) cs
 |[]=>rfl
 |c::r=>by
  show c.kill cy::ss cy r=_;rw[KY cy r];rfl
theorem KZ(id:Nat)(g:aV)(x:g.D):∀cs:dT,ze id g x cs=xl (λc=>c.fe id g x) cs
 |[]=>rfl
 |c::r=>by
  show c.fe id g x::ze id g x r=_;rw[KZ id g x r];rfl
theorem K0{id:Nat}{z:bs}{x:bp}(h:x.free=true):x.sub id z=x:=by
 cases x with
 |c x=>simp only[bp.sub];rw[(KU id z).fix x h]
 |agg cs=>simp only[bp.sub];rw[KX,tU (KU id z) h]
 |arr g l=>rfl
theorem K1{cy:bX}{x:bp}(h:x.free=true):x.kill cy=x:=by
 cases x with
 |c x=>simp only[bp.kill];rw[(KV cy).fix x h]
 |agg cs=>simp only[bp.kill];rw[KY,tU (KV cy) h]
 |arr g l=>rfl
theorem K2{id:Nat}{g:aV}{y:g.D}{x:bp}(h:x.free=true):x.fe id g y=x:=by
 cases x with
 |c x=>simp only[bp.fe];rw[(KW id g y).fix x h]
 |agg cs=>simp only[bp.fe];rw[KZ,tU (KW id g y) h]
 |arr g l=>rfl
theorem Sk{id:Nat}{z:bs}:∀ {xs:ej},na xs=true->Bb id z xs=xs
 |[],_=>rfl
 |c::r,h=>by
  unfold na at h
  split at h
  ·rename_i e
   show c.sub id z::Bb id z r=_;rw[K0 e,Sk h]
  ·cases h
theorem Sl{cy:bX}:∀ {xs:ej},na xs=true->wR cy xs=xs
 |[],_=>rfl
 |c::r,h=>by
  unfold na at h
  split at h
  ·rename_i e
   show c.kill cy::wR cy r=_;rw[K1 e,Sl h]
  ·cases h
theorem Sm{id:Nat}{g:aV}{y:g.D}:∀ {xs:ej},na xs=true->BL id g y xs=xs
 |[],_=>rfl
 |c::r,h=>by
  unfold na at h
  split at h
  ·rename_i e
   show c.fe id g y::BL id g y r=_;rw[K2 e,Sm h]
  ·cases h
theorem aew{id:Nat}{z:bs}{v:b8}(h:v.free=true):v.sub id z=v:=by
 cases v with
 |a x=>simp only[b8.sub];rw[K0 h]
 |may g x=>simp only[b8.sub];rw[K0 h]
 |cY xs=>simp only[b8.sub];rw[Sk h]
theorem aex{cy:bX}{v:b8}(h:v.free=true):v.kill cy=v:=by
 cases v with
 |a x=>simp only[b8.kill];rw[K1 h]
 |may g x=>simp only[b8.kill];rw[K1 h]
 |cY xs=>simp only[b8.kill];rw[Sl h]
theorem aey{id:Nat}{g:aV}{y:g.D}{v:b8}(h:v.free=true):v.fe id g y=v:=by
 cases v with
 |a x=>simp only[b8.fe];rw[K2 h]
 |may g x=>simp only[b8.fe];rw[K2 h]
 |cY xs=>simp only[b8.fe];rw[Sm h]
theorem aez{id:Nat}{z:bs}{b:cC}(h:b.free=true):b.sub id z=b:=by
 cases b with
 |cells t cs=>simp only[cC.sub];rw[KX,tU (KU id z) h]
 |cf T T' g l c q=>rcases q with _|⟨i,_|d⟩<;>first|rfl|cases h
 |_=>first|rfl|cases h
theorem aeA{cy:bX}{b:cC}(h:b.free=true):b.kill cy=b:=by
 cases b with
 |cells t cs=>simp only[cC.kill];rw[KY,tU (KV cy) h]
 |cf T T' g l c q=>rcases q with _|⟨i,_|d⟩<;>first|rfl|cases h
 |_=>first|rfl|cases h
theorem aeB{id:Nat}{g:aV}{y:g.D}{b:cC}(h:b.free=true):b.fe id g y=b:=by
 cases b with
 |cells t cs=>simp only[cC.fe];rw[KZ,tU (KW id g y) h]
 |_=>first|rfl|cases h
def fP(q:Nat):bX->Bool
 |[]=>false
 |k::r=>match beq k q with
  |true=>true
  |false=>fP q r
theorem rH{q:Nat}:∀ {l r:bX},fP q (l++r)=false↔fP q l=false/\fP q r=false
 |[],r=>by simp[fP]
 |k::l,r=>by
  show(match beq k q with|true=>true|false=>fP q (l++r))=false↔(match beq k q with|true=>true|false=>fP q l)=false/\_;cases beq k q with
  |true=>simp
  |false=>exact rH
theorem hj{q k:Nat}{r:bX}(h:fP q (k::r)=false):q≠k/\fP q r=false:=by
 unfold fP at h
 split at h
 ·cases h
 ·rename_i e
  exact⟨(λa=>by rw[a,beq_refl]at e;cases e),h⟩
def cB{α:Type}(a:α->Bool)(V:bX)(L ea:List (Nat×α)):Prop:=∀q v,fP q V=false->bj ea q=some v->∃u,bj L q=some u/\(a u=true->v=u)
theorem cB.refl{α:Type}{a:α->Bool}{V:bX}(L:List (Nat×α)):cB a V L L:=λ_ v _ h=>⟨v,h,λ_=>rfl⟩
theorem cB.trans{α:Type}{a:α->Bool}{V V2:bX}{L b c:List (Nat×α)}(h:cB a V L b)(k:cB a V2 b c):cB a (V2++V) L c:=λq v f ah=>by
 obtain⟨I,J⟩:=rH.1 f;obtain⟨u,ag,g⟩:=k q v I ah;obtain⟨i,e,d⟩:=h q u J ag;exact⟨i,e,λaC=>by have:=d aC;subst this;exact g aC⟩
theorem cB.more{α:Type}{b:α->Bool}{V V2:bX}{L a:List (Nat×α)}(h:cB b V L a)(c:∀q,fP q V2=false->fP q V=false):cB b V2 L a:=λq v d ah=>h q v (c q d) ah
theorem cB.cons{α:Type}{a:α->Bool}{V:bX}{L ea:List (Nat×α)}{d:Nat}{v:α}(h:cB a V L ea):cB a (d::V) L ((d,v)::ea):=λq u b ah=>by
 obtain⟨I,J⟩:=hj b;rw[cX,if_neg I]at ah;exact h q u J ah
theorem cB.append{α:Type}{a:α->Bool}{V:bX}{L ea:List (Nat×α)}(h:cB a V L ea):∀ {J:List (Nat×α)} {aq:bX},J.map (·.1)=aq->cB a (aq++V) L (J++ea)
 |[],_,rfl=>h
 |(k,v)::r,_,rfl=>cB.cons (cB.append h rfl)
theorem cB.map{α:Type}{a:α->Bool}{V:bX}{L ea:List (Nat×α)}{f:α->α}(aC:∀v,a v=true->f v=v)(h:∀q v,bj ea q=some v->∃u,bj L q=some u/\v=f u):cB a V L ea:=λq v _ ah=>by
 obtain⟨u,I,J⟩:=h q v ah;exact⟨u,I,λhu=>by rw[J,aC u hu]⟩
abbrev zD:=cB b8.free
abbrev nM:=cB cC.free
theorem l0(id:Nat)(z:bs)(L:c6){V:bX}:zD V L (gu id z L):=cB.map (f:=λv=>v.sub id z) (λ_ h=>aew h) λ_ _ h=>rf h
theorem aeC(cy:bX)(L:c6){V:bX}:zD V L (pG cy L):=cB.map (f:=λv=>v.kill cy) (λ_ h=>aex h) λ_ _ h=>J4 h
theorem aeD(id:Nat)(g:aV)(x:g.D)(L:c6){V:bX}:zD V L (w0 id g x L):=cB.map (f:=λv=>v.fe id g x) (λ_ h=>aey h) λ_ _ h=>Kj h
theorem k5(id:Nat)(z:bs){V:bX}:∀H:bC,nM V H (eE id z H)
 |[]=>cB.refl []
 |(k,b)::r=>λq v c ah=>by
  unfold eE at ah
  split at ah
  ·rename_i e
   have aa:=eq_of_beq_eq_true e;obtain⟨u,I,J⟩:=k5 id z r q v c ah;have d:q≠k:=λa=>by
    subst a;rw[aa]at ah;exact K3 ah
   exact⟨u,by rw[cX,if_neg d];exact I,J⟩
  ·rw[cX]at ah ⊢
   split at ah
   ·rename_i e
    cases ah;rw[if_pos e];exact⟨b,rfl,λaC=>aez aC⟩
   ·rename_i e
    rw[if_neg e];exact k5 id z r q v c ah
where K3 {id:Nat} {z:bs} {v:cC}:∀ {H:bC},bj (eE id z H) id=some v->False
 |[],h=>by cases h
 |(k,b)::r,h=>by
  unfold eE at h
  split at h
  ·exact K3 h
  ·rename_i e
   rw[cX,if_neg (λa=>by rw[a,beq_refl]at e;cases e)]at h;exact K3 h
theorem lv{id:Nat}{b:cC}{V:bX}(d:fP id V=true):∀ {H:bC},nM V H (e8 id b H)
 |[]=>cB.refl []
 |(k,b')::r=>λq v a ah=>by
  have c:q≠id:=λe=>by rw[e,d]at a;cases a
  unfold e8 at ah
  split at ah
  ·rename_i e
   have aa:=eq_of_beq_eq_true e;rw[cX,if_neg (by rw[aa];exact c)]at ah;exact⟨v,by rw[cX,if_neg (by rw[aa];exact c)];exact ah,λ_=>rfl⟩
  ·rw[cX]at ah ⊢
   split at ah
   ·rename_i e
    rw[if_pos e];exact⟨b',rfl,λ_=>by cases ah;rfl⟩
   ·rename_i e
    rw[if_neg e];exact lv d q v a ah
section
set_option linter.unusedSectionVars false
section
variable {B:Nat->Prop} {w:World} {T':TypeId} {g:aV}
theorem bN.Sn:bN B w (.aI g) ([]:List g.D) [.slice none 0 0]:=⟨none,0,[],rfl,le_refl _,Nat.zero_le _,rfl,Reads.nil _ _ _,λ_ _ h=>absurd h (Nat.lt_irrefl 0)⟩
theorem ec.hole:∀ {l:List (Bool×List g.D)} {ys:bY} {a6:List hk} {i:Nat},ec B w T' g l ys a6->i<l.length ->
    ∃v fC,ys[i]?=some v/\ec B w T' g (l.set i (false,[])) (ys.set i (.slice none 0 0)) fC /\
      (((l.getD i (false,[])).1=true/\∃A k xs,v=.slice A (l.getD i (false,[])).2.length k/\Flat (bN B w g) (l.getD i (false,[])).2 xs/\a6.Perm (⟨A,k,T',g.size,(l.getD i (false,[])).2.length,xs⟩::fC)) \/
       ((l.getD i (false,[])).1=false/\a6=fC/\bN B w (.aI g) (l.getD i (false,[])).2 [v]))
  |[],_,_,_,_,h=>by simp at h
  |(true,d)::l,_,_,0,⟨v,a,e,A,k,xs,fC,c,b,aC,bg⟩,_=>by
    subst e;exact⟨v,fC,rfl,⟨_,a,rfl,bN.Sn,bg⟩,.inl ⟨rfl,A,k,xs,c,aC,by rw[b];exact List.Perm.refl _⟩⟩
  |(false,d)::l,_,a6,0,⟨v,a,e,aC,bg⟩,_=>by
    subst e;exact⟨v,a6,rfl,⟨_,a,rfl,bN.Sn,bg⟩,.inr ⟨rfl,rfl,aC⟩⟩
  |(true,d)::l,_,_,i+1,⟨v,a,e,A,k,xs,j,c,b,aC,bg⟩,h=>by
    subst e;obtain⟨u,fC,I,J,ag⟩:=ec.hole bg (lt_of_succ_lt_succ h);refine⟨u,_::fC,I,⟨v,_,rfl,A,k,xs,fC,c,rfl,aC,J⟩,ag.imp (λ⟨f,dG,eT,hx,aE,bb,cr⟩=>⟨f,dG,eT,hx,aE,bb,?_⟩) λ⟨f,aE,bb⟩=>⟨f,?_,bb⟩⟩
    · rw[b]
      exact(List.Perm.cons _ cr).trans (List.Perm.swap _ _ _)
    · rw[b,aE]
  |(false,d)::l,_,_,i+1,⟨v,a,e,aC,bg⟩,h=>by
    subst e;obtain⟨u,fC,I,J,ag⟩:=ec.hole bg (lt_of_succ_lt_succ h);exact⟨u,fC,I,⟨v,_,rfl,aC,J⟩,ag⟩
theorem ec.fill{a:List g.D}{A:Option Addr}{k:Nat}{xs:bY}(c:Flat (bN B w g) a xs):∀ {l:List (Bool×List g.D)} {ys:bY} {a6:List hk} {i:Nat},ec B w T' g (l.set i (false,[])) ys a6->i<l.length ->
    ∃fC,fC.Perm (⟨A,k,T',g.size,a.length,xs⟩::a6)/\ec B w T' g (l.set i (true,a)) (ys.set i (.slice A a.length k)) fC
  |[],_,_,_,_,h=>by simp at h
  |_::l,_,a6,0,⟨v,b,e,_,bg⟩,_=>by
    subst e;exact⟨_,List.Perm.refl _,_,b,rfl,A,k,xs,a6,rfl,rfl,c,bg⟩
  |(true,n)::l,_,_,i+1,⟨v,b,e,m,k0,d,o,f,j,aC,bg⟩,h=>by
    subst e;obtain⟨fC,I,J⟩:=ec.fill c (A:=A) (k:=k) bg (lt_of_succ_lt_succ h);refine⟨_::fC,?_,v,_,rfl,m,k0,d,fC,f,rfl,aC,J⟩;rw[j];exact(List.Perm.cons _ I).trans (List.Perm.swap _ _ _)
  |(false,n)::l,_,_,i+1,⟨v,b,e,aC,bg⟩,h=>by
    subst e;obtain⟨fC,I,J⟩:=ec.fill c (A:=A) (k:=k) bg (lt_of_succ_lt_succ h);exact⟨fC,I,v,_,rfl,aC,J⟩
theorem ec.K5{c:List g.D}{u:Value}(b:bN B w (.aI g) c [u]):∀ {l:List (Bool×List g.D)} {ys:bY} {a6:List hk} {i:Nat},ec B w T' g (l.set i (false,[])) ys a6->i<l.length ->
    ec B w T' g (l.set i (false,c)) (ys.set i u) a6
  |[],_,_,_,_,h=>by simp at h
  |_::l,_,a6,0,⟨v,a,e,_,bg⟩,_=>by
    subst e;exact⟨_,a,rfl,b,bg⟩
  |(true,n)::l,_,_,i+1,⟨v,a,e,m,k0,d,f,j,k,aC,bg⟩,h=>by
    subst e;exact⟨v,_,rfl,m,k0,d,f,j,k,aC,ec.K5 b bg (lt_of_succ_lt_succ h)⟩
  |(false,n)::l,_,_,i+1,⟨v,a,e,aC,bg⟩,h=>by
    subst e;exact⟨v,_,rfl,aC,ec.K5 b bg (lt_of_succ_lt_succ h)⟩
theorem ec.map{l:List (List g.D)}:∀ {l:List (List g.D)} {ys:bY},Flat (bN B w (.aI g)) l ys->ec B w T' g (l.map λx=>(false,x)) ys []
  |[],_,h=>⟨h,rfl⟩
  |x::l,_,⟨a,b,e,I,J⟩=>by
    have ah:=bN.length I
    match a,ah with
    |[v],_=>exact⟨v,b,e,I,ec.map (l:=l) J⟩
theorem ec.So:∀k:Nat,∃a6,ec B w T' g (replicate k (true,[])) (replicate k (.slice none 0 0)) a6/\∀r∈a6,r=⟨none,0,T',g.size,0,[]⟩
  |0=>⟨[],⟨rfl,rfl⟩,λ_ h=>by cases h⟩
  |k+1=>by
    obtain⟨a6,I,J⟩:=ec.So k;refine⟨_::a6,⟨_,_,rfl,none,0,[],a6,rfl,rfl,rfl,I⟩,λr ax=>?_⟩
    rcases List.mem_cons.1 ax with rfl|ax
    · rfl
    · exact J r ax
end
theorem B3{id d:Nat}{z:bs}{b:cC}(a:id≠d):∀ {l:bC},bj l id=some b->bj (eE d z l) id=some (b.sub d z)
  |[],h=>by cases h
  |(k,b')::l,h=>by
    rw[cX]at h;unfold eE
    split at h
    · rename_i e
      subst e;cases h
      have:beq id d=false:=by
        cases ab:beq id d with
        |false=>rfl
        |true=>exact absurd (eq_of_beq_eq_true ab) a
      rw[this,cX,if_pos rfl]
    · rename_i e
      split
      · exact B3 a h
      · rw[cX,if_neg e]
        exact B3 a h
section
variable {X:bz} {R:Nat->Prop} {W:World} {aD:fk} {n:Nat} {aq:bX} {env:Nat->Loc} {B:Nat->Prop} {ai:World} {H:cI} {st:aQ} {a aU:Act} {w:World} {d:Nat} {o:Oper}
theorem List.Sp{α:Type}{l:List α}{i:Nat}{v:α}(h:l[i]?=some v):l.set i v=l:=by
  obtain⟨a,rfl⟩:=List.getElem?_eq_some_iff.1 h;exact List.set_getElem_self a
theorem bM.Sq(h:bM X R W aD n aq env B ai H st a w)(az:blt d n=true)(l:Loc):∃H2,H2.Sublist H/\bM X R W aD n aq (lP env d l) B ai H2 ⟨gu d .dead st.L,eE d .dead st.H⟩ a w:=by
  obtain⟨H2,I,J⟩:=h.heap.del (z:=.dead) (ku) (λ_ _=>trivial);refine⟨H2,I,h.size,h.defs,λs u b=>?_,J,h.aT.fq (I.append_right _),h.sub,h.new,wM h.dP (λq ak=>by have I:=(h.dP _ _ ak).1;have J:=dS az;omega),h.base,h.eu⟩;obtain⟨f,g,rfl⟩:=rf b;obtain⟨e,ag,c⟩:=h.has s f g;exact⟨e,ag,e7.sub (z:=.dead) (ku) (λ_ _=>trivial) c⟩
theorem bT.same{B:Nat->Prop}{ai w:World}{H:cI}(h:bT B ai H w){c c':bo}(U:c∈H)(i:c'∈H){b:Nat}(ab:c.has b)(e:c'.has b):c=c':=by
  have key:∀ {H:cI},H.Pairwise bo.off->c∈H->c'∈H->c=c':=by
    intro H
    induction H with
    |nil=>intro _ h;cases h
    |cons x r g=>
      intro ak I J;obtain⟨ag,f⟩:=List.pairwise_cons.1 ak
      rcases List.mem_cons.1 I with d|aF
      · rcases List.mem_cons.1 J with a|a7
        · rw[d,a]
        · subst d;exact absurd e (ag _ a7 b ab)
      · rcases List.mem_cons.1 J with a|a7
        · subst a;exact absurd ab (ag _ aF b e)
        · exact g f aF a7
  exact key h.apart U i
theorem ne_of_beq_false{a b:Nat}(h:beq a b=false):a≠b:=λe=>by subst e;rw[beq_refl]at h;cases h
def xm:Option (Nat×Option Nat)->Nat->Bool
  |none,_=>true
  |some (j,_),i=>decide (j=i)
theorem ec.aeE{T':TypeId}{g:aV}{l:List (Bool×List g.D)}{ys a:bY}{a6:List hk}{h:Option (Nat×Option Nat)}{i:Nat}(bg:ec B w T' g (Qc l h) ys a6)(b:Ba env l.length ys a h)(c:xm h i=true)(hi:i<l.length) :
    ∃zs fC,ec B w T' g (l.set i (false,[])) zs fC/\(∀u,a.set i u=zs.set i u)/\a.length=l.length/\∃d,a6.Perm d/\fC.Sublist d:=by
  match h,bg,b,c with
  |none,bg,b,_=>
    subst b;obtain⟨v,fC,I,J,ag⟩:=ec.hole (show ec B w T' g l a a6 from bg) hi;refine⟨_,fC,J,λu=>by rw[set_set],ec.length (show ec B w T' g l a a6 from bg),?_⟩
    rcases ag with⟨_,A,k,xs,_,_,ak⟩|⟨_,e,_⟩
    · exact⟨_,ak,List.sublist_cons_self _ _⟩
    · exact⟨fC,by rw[e],List.Sublist.refl _⟩
  |some (j,f),bg,⟨_,v,I,_⟩,c=>
    have e:=of_decide_eq_true c;subst e;have ah:=ec.length (show ec B w T' g (l.set j (false,[])) ys a6 from bg);rw[length_set]at ah;exact⟨ys,a6,bg,λu=>by rw[I,set_set],by rw[I,length_set,ah],a6,List.Perm.refl _,List.Sublist.refl _⟩
theorem bM.Sr(h:bM X R W aD n aq env B ai H st a w){id:Nat}{b b':cC}(m:bj st.H id=some b):∃c d e,e1 env B ai id b c/\H=d++c::e/\∀c' aU w',e1 env B ai id b' c'->bT (λk=>R k\/B k) ai (d++c'::(e++aq.map dB)) w'->dh n (j9 aq aD) (full a) aU->bM X R W aD n aq env B ai (d++c'::e) ⟨st.L,e8 id b' st.H⟩ aU w':=by
  obtain⟨c,K,I,⟨d,e,g,rfl⟩,ag⟩:=h.heap.put m;refine⟨c,d,e,I,g,λc' aU w' ab j f=>⟨f.size,f.defs,λs u hu=>?_,ag b' c' ab,by rw[append_assoc,cons_append];exact j,h.sub,h.new,h.dP,h.base,h.eu⟩⟩;obtain⟨o,l,i⟩:=h.has s u hu;exact⟨o,f.same l,i⟩
theorem bT.aeF{B:Nat->Prop}{ai w:World}{H:cI}(h:bT B ai H w):bT B ai (.tree []::H) w:=
  ⟨h.below,h.base,λc U=>by
    rcases List.mem_cons.1 U with rfl|U
    · exact⟨(λ_ h=>by cases h),List.Pairwise.nil⟩
    · exact h.ok c U,List.Pairwise.cons (λc U b ab=>by obtain⟨_,h,_⟩:=ab;cases h) h.apart⟩
theorem bT.Ss{B:Nat->Prop}{ai w:World}{X Y:cI}{r:hk}(h:bT B ai (X++r.eQ::Y) w):bT B ai (X++.tree [r]::Y) w:=
  ((((h.perm sf).aeF).perm (List.Perm.swap _ _ _)).Jf).perm sf.symm
theorem bT.St{B:Nat->Prop}{ai w:World}{H:cI}{r:hk}:∀ {a6:List hk},bT B ai (.tree [r]::H) w->(∀s∈a6,∃e a,s=⟨none,0,e,a,0,[]⟩)->bT B ai (.tree (r::a6)::H) w
  |[],h,_=>h
  |s::a6,h,b=>by
    obtain⟨e,a,rfl⟩:=b _ mem_cons_self;have d:=bT.St h λs c=>b s (mem_cons_of_mem _ c)
    have J:bT B ai (.tree (⟨none,0,e,a,0,[]⟩::r::a6)::H) w:=(d.uP e a).Jf;exact bT.A3 (X:=[]) J ⟨_,List.Perm.swap _ _ _,List.Sublist.refl _⟩
theorem Su(s:X.aY.ok X.P){t T T':TypeId}{bB:cv}{x:Operand}{id d2 i j:Nat}{g:aV}{l:List (Bool×List g.D)}{cap:Option Nat}{q:Bool}(h:o.op=.load t x)(bg:X.aY.find t=some bB)(M:mN bB.aK.desc=false)(an:bx X st.L x=some (q,.c (.fg id 1 i 0)))(z:q=true)(u:bj st.H id=some (.cf T T' g l cap (some (j,some d2))))(F:decide (i=j)=true):jG X st o (.c (.aI d2)):=by
  intro R W aD n aq env B ai H a b6 ad;have e:=of_decide_eq_true F;subst e;obtain⟨vx,I,b,c,m,he,rfl⟩:=ad.aJ an z;obtain⟨eQ,K,⟨A,k,ys,y,a6,p,rfl,L,⟨hi,v,r,az⟩,_⟩,aC⟩:=ad.heap.gQ u;rw[he]at p;cases p;obtain⟨d,c',f,G,rfl⟩:=az d2 rfl;have E:=ec.length (show ec B ai T' g (l.set i (false,[])) ys a6 from L);refine⟨.slice d f c',⟨d,c',f,G,rfl⟩,λw C=>?_⟩;have D:gq w (λk=>R k\/B k) T 1 (some ⟨b,0,none⟩) c l.length y:=((C (by rw[h];rfl)).ok _ aC.more.mem).1 _ mem_cons_self;have J:w.cell? ⟨b,i * 1+0,none⟩=some (.slice d f c'):=by
    rw[D.cells rfl _ (by omega),r]
    simp[E,hi]
  exact yR ad.bW h (cb.get s bg).aK M I J
theorem bM.storeT(L:X.aY.ok X.P)(ad:bM X R W aD n aq env B ai H st a w){t T T':TypeId}{bB:cv}{x y:Operand}{id i b f k':Nat}{g:aV}{l:List (Bool×List g.D)}{cap:Option Nat}{h:Option (Nat×Option Nat)}{d:Option Addr}(G:o.op=.store t x y)(N:o.guard=none/\o.dst=none)(bg:X.aY.find t=some bB)(S:beq bB.aK.size 1=true)(an:Go.Proofs.YtijeenjclhajhaaGreatDoor.aJ (full a) x=some (.pointer (some ⟨b,i * 1+0,none⟩))){c m:Nat}(he:env id=.row (some ⟨b,0,none⟩) c m)(aG:Go.Proofs.YtijeenjclhajhaaGreatDoor.aJ (full a) y=some (.slice d f k'))(M:bj st.H id=some (.cf T T' g l cap h))(O:xm h i=true)(hi:i<l.length){b':cC}{ae:List Oper}{KK:Act->World->Prop}(ab:(∀q,cap=some q->c=q)->∀zs a6,ec B ai T' g (l.set i (false,[])) zs a6->e1 env B ai id b' (.tree (⟨some ⟨b,0,none⟩,c,T,1,l.length,zs.set i (.slice d f k')⟩::a6)))(Q:∀aU w' H',bM X R W aD n aq env B ai H' ⟨st.L,e8 id b' st.H⟩ aU w'->KK aU w'):fj X.P ae.toArray o KK a w:=by
  obtain⟨eQ,z,C,⟨A,k,ys,j,a6,s,rfl,af,ah,Y⟩,P,ac⟩:=ad.Sr (b':=b') M;rw[he]at s;cases s;obtain⟨zs,fC,I,Z,aj,aa⟩:=ec.aeE af ah O hi
  let p:hk:=⟨some ⟨b,0,none⟩,c,T,1,l.length,j⟩
  have v:=ad.aT;rw[P,append_assoc,cons_append]at v;have J:bT (λk=>R k\/B k) ai (z++.tree (p::fC)::(C++aq.map dB)) w:=by
    obtain⟨V,ak,K⟩:=aa;exact v.A3 ⟨p::V,List.Perm.cons _ ak,K.cons_cons _⟩
  have bE:Sym n (j9 aq aD) (full a) (λk=>R k\/B k) ai (p.eQ::(z++.tree fC::(C++aq.map dB))) a w:=⟨ad.bW,J.Er⟩
  have ag:=(cb.get L bg).aK;have U:=eq_of_beq_eq_true S;refine EG bE G N ag an aG (by rw[U];rfl) (by intro u hu;simp[Value.cells]at hu;subst hu;rfl) (yK) (by show i * 1+0+1<=l.length * 1;omega) λaU w' E=>?_
  have e:j.take (i * 1+0)++(Value.slice d f k').cells.toList++j.drop (i * 1+0+(Value.slice d f k').cells.toList.length)=zs.set i (.slice d f k'):=by
    rw[<- Z,List.set_eq_take_append_cons_drop,if_pos (by omega)]
    simp[Value.cells]
  have D:=E.aT;rw[e]at D;have F:=bT.PJ (r:=⟨some ⟨b,0,none⟩,c,T,1,l.length,zs.set i (.slice d f k')⟩) D;exact Q aU w' _ (ac _ aU w' (ab Y zs fC I) F E.st)
theorem Sw(r:X.aY.ok X.P){t T T':TypeId}{bB:cv}{x y:Operand}{id d i:Nat}{g:aV}{l:List (Bool×List g.D)}{cap:Option Nat}{h:Option (Nat×Option Nat)}{p g2:Bool}(q:o.op=.store t x y)(u:o.guard=none/\o.dst=none)(bg:X.aY.find t=some bB)(E:beq bB.aK.size 1=true)(an:bx X st.L x=some (p,.c (.fg id 1 i 0)))(F:p=true)(aG:bx X st.L y=some (g2,.c (.aI d)))(D:g2=true)(e:bj st.H id=some (.cf T T' g l cap h))(v:xm h i=true)(hi:decide (i<l.length)=true):hA X n o st ⟨st.L,e8 id (.cf T T' g l cap (some (i,some d))) st.H⟩:=by
  intro R W aD aq env B ai H a w ad KK S C;have f:=of_decide_eq_true hi;obtain⟨vx,I,b,c,m,he,rfl⟩:=ad.aJ an F;obtain⟨vy,J,z,cK,N,M,rfl⟩:=ad.aJ aG D;have L:m=l.length:=by
    obtain⟨eQ,K,⟨A,k,ys,P,a6,j,_⟩,_⟩:=ad.heap.gQ e;rw[he]at j;cases j
    rfl
  subst L;exact ad.storeT (b':=.cf T T' g l cap (some (i,some d))) r q u bg E I he J e v f (λG zs a6 bF=>⟨_,c,zs,_,a6,he,rfl,bF,⟨f,_,rfl,λQ O=>by cases O;exact⟨z,cK,N,M,rfl⟩⟩,G⟩) λaU w' H' s=>C aU w' env H' s
theorem aeI(r:X.aY.ok X.P){t T T':TypeId}{bB:cv}{x y:Operand}{id i:Nat}{g:aV}{l:List (Bool×List g.D)}{d:List g.D}{cap xi:Option Nat}{h:Option (Nat×Option Nat)}{p g2:Bool}(q:o.op=.store t x y)(u:o.guard=none/\o.dst=none)(bg:X.aY.find t=some bB)(F:beq bB.aK.size 1=true)(an:bx X st.L x=some (p,.c (.fg id 1 i 0)))(G:p=true)(aG:bx X st.L y=some (g2,.c (.bJ g d xi)))(E:g2=true)(e:bj st.H id=some (.cf T T' g l cap h))(z:xm h i=true)(hi:decide (i<l.length)=true):hA X n o st ⟨st.L,e8 id (.cf T T' g (l.set i (false,d)) cap none) st.H⟩:=by
  intro R W aD aq env B ai H a w ad KK V D;have f:=of_decide_eq_true hi;obtain⟨vx,I,b,c,m,he,rfl⟩:=ad.aJ an G;obtain⟨vy,M,C,cK,O,rfl,v,J,U,P,Q⟩:=ad.aJ aG E;have N:m=l.length:=by
    obtain⟨eQ,K,⟨A,k,ys,S,a6,j,_⟩,_⟩:=ad.heap.gQ e;rw[he]at j;cases j
    rfl
  subst N;exact ad.storeT (b':=.cf T T' g (l.set i (false,d)) cap none) r q u bg F I he M e z f (λL zs a6 bF=>⟨_,c,_,_,a6,by rw[length_set];exact he,by rw[length_set],ec.K5 ⟨C,cK,O,rfl,v,J,P,Q⟩ bF f,rfl,L⟩) λaU w' H' s=>D aU w' env H' s
theorem aeJ{T T':TypeId}{id i:Nat}{g:aV}{l:List (Bool×List g.D)}{cap:Option Nat}(az:blt d n=true)(o:bj st.H id=some (.cf T T' g l cap none))(G:beq d id=false)(hi:decide (i<l.length)=true)(r:(l.getD i (false,[])).1=true)
    : bP X n st ⟨gu d .dead st.L,(d,.row T' g (l.getD i (false,[])).2 none)::e8 id (.cf T T' g l cap (some (i,some d))) (eE d .dead st.H)⟩:=λR W aD M a w ⟨aq,env,B,ai,H,E,ad⟩=>by
  have q:=of_decide_eq_true hi;have m:id≠d:=λe=>ne_of_beq_false G e.symm
  obtain⟨c0,ac,⟨A,k,ys,F,a6,he,rfl,S,U,I⟩,z⟩:=ad.heap.gQ o;have aa:=U;subst aa;obtain⟨b,rfl⟩:=gq.at ((ad.aT.ok _ z.more.mem).1 _ mem_cons_self) (by show 0<l.length;omega);obtain⟨v,fC,D,C,Y⟩:=ec.hole (show ec B ai T' g l F a6 from S) q
  rcases Y with⟨_,dG,eT,hx,rfl,gH,kz⟩|⟨K6,_⟩
  · obtain⟨H2,J,f⟩:=ad.Sq az (.row dG eT (l.getD i (false,[])).2.length)
    obtain⟨fD,af,K,⟨O,P,V,rfl⟩,L⟩:=f.heap.put (B3 m o);subst V;obtain⟨ae,aj,ah,j,ab,y,rfl,_⟩:=K;rw[ku id m,he]at y;cases y;have u:=ad.aT.same (c:=.tree (⟨some ⟨b,0,none⟩,k,T,1,l.length,j⟩::ab)) (mem_append_left _ (J.subset (by simp))) z.more.mem ⟨_,mem_cons_self,rfl⟩ ⟨_,mem_cons_self,rfl⟩;simp only[bo.tree.injEq,List.cons.injEq,hk.mk.injEq,true_and]at u;obtain⟨rfl,rfl⟩:=u
    let p:hk:=⟨dG,eT,T',g.size,(l.getD i (false,[])).2.length,hx⟩
    let t:hk:=⟨some ⟨b,0,none⟩,k,T,1,l.length,j⟩
    have s:=f.aT;rw[append_assoc,cons_append]at s;have N:=s.A3 ⟨p::t::fC,(List.Perm.cons _ kz).trans (List.Perm.swap _ _ _),List.Sublist.refl _⟩;have Q:=N.Er;refine⟨aq,_,B,ai,p.eQ::(O++.tree (t::fC)::P),E,f.size,f.defs,f.has,⟨_,_,rfl,⟨dG,eT,hx,fx,rfl,gH,λ_ h=>by cases h⟩,L _ _ ⟨_,k,j.set i (.slice none 0 0),j,fC,by rw[ku id m];exact he,rfl,C,⟨q,.slice dG (l.getD i (false,[])).2.length eT,?_,λag Z=>by cases Z;exact⟨dG,eT,_,fx,rfl⟩⟩,I⟩⟩,by rw[cons_append,append_assoc,cons_append];exact Q,f.sub,f.new,f.dP,f.base,f.eu⟩;rw[set_set];exact(List.Sp D).symm
  · rw[K6]at r;cases r
theorem aeL{T T':TypeId}{id i d:Nat}{g:aV}{l:List (Bool×List g.D)}{f:List g.D}{cap xi:Option Nat}(r:bj st.H id=some (.cf T T' g l cap (some (i,some d))))(N:bj st.H d=some (.row T' g f xi))(V:beq d id=false) :
    bP X n st ⟨gu d .dead st.L,e8 id (.cf T T' g (l.set i (true,f)) cap none) (eE d .dead st.H)⟩:=λR W aD M a w ⟨aq,env,B,ai,H,S,h⟩=>by
  have aw:id≠d:=λe=>ne_of_beq_false V e.symm
  obtain⟨c0,ay,⟨A,k,ys,aF,a6,he,rfl,au,⟨U,v,O,al⟩,ad⟩,K⟩:=h.heap.gQ r;obtain⟨fD,Y,Z,⟨y,C,ae,ar,rfl,ac,_⟩,t,ah⟩:=h.heap.take N;obtain⟨aE,c',aG,j,rfl⟩:=al d rfl;rw[ar]at j;cases j;obtain⟨b,rfl⟩:=gq.at ((h.aT.ok _ K.more.mem).1 _ mem_cons_self) (by show 0<l.length;omega);obtain⟨H2,F,P,_⟩:=ah env .dead (λ_ _=>rfl) (λ_ _=>trivial);have m:=B3 (z:=.dead) aw r;rw[show(cC.cf T T' g l cap (some (i,some d))).sub d .dead=.cf T T' g l cap (some (i,none)) by simp only[cC.sub,beq_refl]]at m;obtain⟨aI,aC,ax,⟨G,I,av,rfl⟩,af⟩:=P.put m;subst av;obtain⟨aA,aH,az,o,c,q,rfl,aB,_⟩:=ax;rw[he]at q;cases q;have ao:bo.tree (⟨some ⟨b,0,none⟩,k,T,1,l.length,o⟩::c)∈H:=by
    rw[t]
    have:=F.subset (a:=bo.tree (⟨some ⟨b,0,none⟩,k,T,1,l.length,o⟩::c)) (by simp)
    simp only[List.mem_append,List.mem_cons]at this ⊢;exact this.imp (λh=>h) .inr
  have J:=h.aT.same (mem_append_left _ ao) K.more.mem ⟨_,mem_cons_self,rfl⟩ ⟨_,mem_cons_self,rfl⟩;simp only[bo.tree.injEq,List.cons.injEq,hk.mk.injEq,true_and]at J;obtain⟨rfl,rfl⟩:=J;obtain⟨fC,ap,L⟩:=ec.fill ac (show ec B ai T' g (l.set i (false,[])) ys c from au) U
  let p:hk:=⟨y,C,T',g.size,f.length,ae⟩
  let E:hk:=⟨some ⟨b,0,none⟩,k,T,1,l.length,ys.set i (.slice y f.length C)⟩
  have D:=h.aT;rw[t]at D;have aa:bT (λk=>R k\/B k) ai (p.eQ::(G++.tree (E::c)::(I++aq.map dB))) w:=by
    have ak:(Y++p.eQ::Z++aq.map dB).Perm (p.eQ::(Y++Z++aq.map dB)):=by
      simp only[append_assoc,cons_append];exact List.perm_middle
    have:=(D.perm ak).fq (((F.append_right (aq.map dB))).cons_cons _)
    rw[append_assoc,cons_append,O]at this;exact this
  have aj:=aa.PJ.A3 ⟨_,(List.Perm.swap _ _ _).trans (List.Perm.cons _ ap.symm),List.Sublist.refl _⟩;refine⟨aq,env,B,ai,G++.tree (E::fC)::I,S,h.size,h.defs,λs u hu=>?_,af _ _ ⟨_,k,_,_,fC,by rw[length_set];exact he,by rw[length_set],L,rfl,ad⟩,by rw[append_assoc,cons_append];exact aj,h.sub,h.new,h.dP,h.base,h.eu⟩;obtain⟨am,an,rfl⟩:=rf hu;obtain⟨ab,ag,Q⟩:=h.has s am an;exact⟨ab,ag,e7.sub (z:=.dead) (λ_ _=>rfl) (λ_ _=>trivial) Q⟩
theorem aeN{T:TypeId}(T':TypeId){id:Nat}{g:aV}{l:List (List g.D)}{cap:Option Nat}(e:bj st.H id=some (.row T (.aI g) l cap)) :
    bP X n st ⟨st.L,e8 id (.cf T T' g (l.map λx=>(false,x)) cap none) st.H⟩:=λR W aD M a w ⟨aq,env,B,ai,H,d,h⟩=>by
  obtain⟨c0,m,o,⟨A,k,xs,he,rfl,aC,i⟩,f,j⟩:=h.Sr (b':=.cf T T' g (l.map λx=>(false,x)) cap none) e;have b:=h.aT;rw[f,append_assoc,cons_append]at b;have c:=bT.Ss (r:=⟨A,k,T,1,l.length,xs⟩) b;exact⟨aq,env,B,ai,_,d,j (.tree [⟨A,k,T,1,l.length,xs⟩]) a w ⟨A,k,xs,xs,[],by rw[length_map];exact he,by rw[length_map],ec.map (l:=l) aC,rfl,i⟩ c h.bW⟩
theorem gq.reads{w:World}{B:Nat->Prop}{e:TypeId}{size c n:Nat}{A:Option Addr}{xs:bY}(a:gq w B e size A c n xs):Reads w A n size xs:=by
  refine⟨a.1,λba=>?_⟩;obtain⟨g,I⟩:=a.at ba;refine⟨g,0,I,λj u hu=>?_⟩;rw[zero_add,a.cells I j (by have:=(List.getElem?_eq_some_iff.1 hu).1;rw[a.1]at this;exact this)];exact hu
theorem ec.flat{B B':Nat->Prop}{w:World}{T':TypeId}{g:aV}:∀ {l:List (Bool×List g.D)} {ys:bY} {a6:List hk},ec B' w T' g l ys a6->(∀r∈a6,r.ok B w/\∀b,r.has b->B' b)->Flat (bN B' w (.aI g)) (l.map (·.2)) ys
  |[],_,_,⟨e,_⟩,_=>e
  |(true,j)::l,_,_,⟨v,d,e,A,k,xs,fC,f,i,aC,bg⟩,a=>by
    subst i;obtain⟨I,J⟩:=a _ mem_cons_self;have c:=I;exact⟨[v],d,e,⟨A,k,xs,by rw[f],c.le.1,c.le.2,aC,c.reads,λb p _ e=>J b (by show A.map _=_;rw[e];rfl)⟩,ec.flat bg λr h=>a r (mem_cons_of_mem _ h)⟩
  |(false,j)::l,_,_,⟨v,d,e,aC,bg⟩,a=>⟨[v],d,e,aC,ec.flat bg a⟩
theorem aeO{T T':TypeId}{id:Nat}{g:aV}{l:List (Bool×List g.D)}{cap:Option Nat}(K:bj st.H id=some (.cf T T' g l cap none)) :
    bP X n st ⟨gu id (.bJ (.aI g) (l.map (·.2)) cap) st.L,eE id (.bJ (.aI g) (l.map (·.2)) cap) st.H⟩:=λR W aD M a w ⟨aq,env,B,ai,H,au,h⟩=>by
  obtain⟨c0,aM,aH,aJ⟩:=h.heap.gQ K;have S:=(aJ.more (H2:=aq.map dB)).mem;have z:gP B ai (λq=>B q\/c0.has q) w:=⟨λq ao=>.inl ao,λq ao=>h.aT.below.block q (.inr ao)⟩
  obtain⟨c,Y,Z,ab,J,ag⟩:=(h.heap.up z).take K;have P:c∈H++aq.map dB:=by rw[J];simp
  have aa:c=c0:=by
    obtain⟨A,k,ys,d,a6,he,y,D,E,_⟩:=aH;obtain⟨aN,aP,aB,aQ,aL,Q,L,ac,ae,_⟩:=ab;rw[he]at Q;cases Q
    match ad:A with
    |some p=>
      subst y;subst L;exact h.aT.same P S ⟨_,mem_cons_self,rfl⟩ ⟨_,mem_cons_self,rfl⟩
    |none=>
      have f:gq w (λk=>R k\/B k) T 1 none k l.length d:=by
        subst y;exact(h.aT.ok _ S).1 _ mem_cons_self
      have ah:l.length=0:=by
        by_cases ah:l.length=0
        · exact ah
        · obtain⟨b,ab⟩:=f.at (by omega)
          cases ab
      have aI:l=[]:=List.length_eq_zero_iff.1 ah;subst aI;have ar:=E;have af:=ae;obtain⟨aj,al⟩:=(show ec B ai T' g [] ys a6 from D)
      obtain⟨am,av⟩:=(show ec _ w T' g [] aB aL from ac)
      subst ar af aj al am av;rw[y,L]
  subst aa;obtain⟨A,k,ys,d,a6,he,rfl,D,E,aA⟩:=ab;have aK:=E;subst aK;have t:=h.aT.ok _ P;have f:=t.1 _ mem_cons_self;have O:∀q,bo.has (.tree (⟨A,k,T,1,l.length,d⟩::a6)) q->¬(R q\/B q)/\q<w.heap.size:=λq ao=>t.lt ao
  have aw:=ec.flat (show ec _ w T' g l d a6 from D) λr I=>⟨t.1 r (mem_cons_of_mem _ I),λb ab=>.inr ⟨r,mem_cons_of_mem _ I,ab⟩⟩
  have V:∀v,dN env (λq=>B q\/bo.has (.tree (⟨A,k,T,1,l.length,d⟩::a6)) q) w (.aI id) v->dN env (λq=>B q\/bo.has (.tree (⟨A,k,T,1,l.length,d⟩::a6)) q) w (.bJ (.aI g) (l.map (·.2)) cap) v:=by
    rintro v ⟨aO,c',m,N,rfl⟩;rw[he]at N;cases N;exact⟨A,k,d,by rw[length_map],by rw[length_map];exact f.le.1,f.le.2,aA,aw,by rw[length_map];exact⟨f.reads,λb p _ e=>.inr ⟨_,mem_cons_self,by show A.map _=_;rw[e];rfl⟩⟩⟩
  obtain⟨H2,G,ap,_⟩:=ag env (.bJ (.aI g) (l.map (·.2)) cap) (λ_ _=>rfl) V;have C:=h.aT.apart;rw[J,append_assoc,cons_append]at C;refine⟨aq,env,_,w,H2,au,h.size,h.defs,λs u hu=>?_,ap,?_,λq ao=>.inl (h.sub q ao),λq ao=>?_,h.dP,h.base.trans ⟨h.aT.below.os,h.aT.below.tape,h.aT.below.output,h.aT.below.size,λq ao=>h.aT.below.block q (.inl ao)⟩,λi x an=>(h.eu i x an).up z⟩
  · obtain⟨aF,aG,rfl⟩:=rf hu
    obtain⟨az,j,b1⟩:=h.has s aF aG;exact⟨az,j,e7.sub (λ_ _=>rfl) V (b1.up z)⟩
  · have o:bT (λk=>R k\/B k) ai (H2++aq.map dB) w:=by
      have j:=h.aT;rw[J]at j;have ak:(Y++bo.tree (⟨A,k,T,1,l.length,d⟩::a6)::Z++aq.map dB).Perm (bo.tree (⟨A,k,T,1,l.length,d⟩::a6)::(Y++Z++aq.map dB)):=by
        simp only[append_assoc,cons_append];exact List.perm_middle
      exact(j.perm ak).fq (((G.append_right _)).cons _)
    refine⟨ds.refl _ _,λq ao=>?_,λc U=>(o.ok c U).base λb ab c2=>?_,o.apart⟩
    · rcases ao with ao|ao|ao
      · exact h.aT.base q (.inl ao)
      · exact h.aT.base q (.inr ao)
      · exact(O q ao).2
    · rcases c2 with c2|c2|c2
      · exact((o.ok c U).lt ab).1 (.inl c2)
      · exact((o.ok c U).lt ab).1 (.inr c2)
      · have aE:c∈Y++(Z++aq.map dB):=by
          rcases List.mem_append.1 U with U|U
          · have:=G.subset U
            rcases List.mem_append.1 this with b1|b1
            · exact mem_append_left _ b1
            · exact mem_append_right _ (mem_append_left _ b1)
          · exact mem_append_right _ (mem_append_right _ U)
        rw[pairwise_append,List.pairwise_cons]at C;obtain⟨_,⟨ax,_⟩,aC⟩:=C
        rcases List.mem_append.1 aE with b1|b1
        · exact aC c b1 _ mem_cons_self b ab c2
        · exact ax c b1 b c2 ab
  · rcases ao with ao|ao
    · exact(h.new q ao).imp_right λF=>⟨F.1,F.2.et (h.aT.below.block q (.inr ao))⟩
    · exact .inr ⟨λay=>(O q ao).1 (.inl ay),t.cells rfl ao⟩
theorem aeP{T T':TypeId}{id:Nat}{g:aV}{l:List (Bool×List g.D)}{cap:Option Nat}(v:bj st.H id=some (.cf T T' g l cap none)) :
    bP X n st ⟨st.L,e8 id (.row T (.aI g) (l.map (·.2)) cap) st.H⟩:=λR W aD M a w ⟨aq,env,B,ai,H,ac,h⟩=>by
  obtain⟨c0,aA,au,aw⟩:=h.heap.gQ v;have L:=(aw.more (H2:=aq.map dB)).mem;obtain⟨A,k,ys,e,a6,he,rfl,J,ax,al⟩:=au;have ay:=ax;subst ay
  let m:hk:=⟨A,k,T,1,l.length,e⟩
  have j:gP B ai (λq=>B q\/bo.has (.tree a6) q) w:=⟨λq ao=>.inl ao,λq ao=>h.aT.below.block q (.inr ao)⟩
  obtain⟨c,K,ab,⟨F,G,z,rfl⟩,ar⟩:=(h.heap.up j).put v;have E:c∈H++aq.map dB:=by rw[z];simp
  have N:c=.tree (⟨A,k,T,1,l.length,e⟩::a6):=by
    obtain⟨aB,aC,ap,aE,az,I,y,O,P,_⟩:=ab;rw[he]at I;cases I
    match ad:A with
    |some p=>
      subst y;exact h.aT.same E L ⟨_,mem_cons_self,rfl⟩ ⟨_,mem_cons_self,rfl⟩
    |none=>
      have am:gq w (λk=>R k\/B k) T 1 none k l.length e:=(h.aT.ok _ L).1 _ mem_cons_self;have ah:l.length=0:=by
        by_cases ah:l.length=0
        · exact ah
        · obtain⟨b,ab⟩:=am.at (by omega)
          cases ab
      have av:l=[]:=List.length_eq_zero_iff.1 ah;subst av;have Q:=P;obtain⟨S,V⟩:=(show ec B ai T' g [] e a6 from J)
      obtain⟨Y,ae⟩:=(show ec _ w T' g [] ap az from O)
      subst Q S V Y ae;rw[y]
  subst N;have o:=h.aT.ok _ E;have D:∀q,bo.has (.tree a6) q->¬(R q\/B q)/\q<w.heap.size:=λq ⟨r,d,ao⟩=>o.lt ⟨r,mem_cons_of_mem _ d,ao⟩
  have ag:=ec.flat (B':=λq=>B q\/bo.has (.tree a6) q) ((ec.up j (show ec B ai T' g l e a6 from J))) λr d=>⟨o.1 r (mem_cons_of_mem _ d),λb ab=>.inr ⟨r,d,ab⟩⟩
  have C:=h.aT;rw[z,append_assoc,cons_append]at C;have f:bT (λk=>R k\/B k) ai (.tree a6::(F++m.eQ::(G++aq.map dB))) w:=by
    refine(C.Er).perm ?_;refine(List.Perm.cons _ sf).trans ((List.Perm.swap _ _ _).trans (List.Perm.cons _ sf.symm))
  have af:=ar (.row T (.aI g) (l.map (·.2)) cap) m.eQ ⟨A,k,e,by rw[length_map];exact he,by rw[length_map];rfl,ag,al⟩;refine⟨aq,env,_,w,F++m.eQ::G,ac,h.size,h.defs,λs u hu=>?_,af,?_,λq ao=>.inl (h.sub q ao),λq ao=>?_,h.dP,h.base.trans ⟨h.aT.below.os,h.aT.below.tape,h.aT.below.output,h.aT.below.size,λq ao=>h.aT.below.block q (.inl ao)⟩,λi x an=>(h.eu i x an).up j⟩
  · obtain⟨ak,Z,aa⟩:=h.has s u hu
    exact⟨ak,Z,aa.up j⟩
  · rw[append_assoc,cons_append]
    refine⟨ds.refl _ _,λq ao=>?_,λc U=>(f.ok c (mem_cons_of_mem _ U)).base λb ab c2=>?_,(List.pairwise_cons.1 f.apart).2⟩
    · rcases ao with ao|ao|ao
      · exact h.aT.base q (.inl ao)
      · exact h.aT.base q (.inr ao)
      · exact(D q ao).2
    · rcases c2 with c2|c2|c2
      · exact((f.ok c (mem_cons_of_mem _ U)).lt ab).1 (.inl c2)
      · exact((f.ok c (mem_cons_of_mem _ U)).lt ab).1 (.inr c2)
      · exact(List.pairwise_cons.1 f.apart).1 c U b c2 ab
  · rcases ao with ao|ao
    · exact(h.new q ao).imp_right λt=>⟨t.1,t.2.et (h.aT.below.block q (.inr ao))⟩
    · exact .inr ⟨λaj=>(D q ao).1 (.inl aj),by
        obtain⟨r,d,ab⟩:=ao;exact o.cells rfl ⟨r,mem_cons_of_mem _ d,ab⟩⟩
end
inductive zF where
  |close (id d:Nat)
  |SA (id:Nat) (T':TypeId)
  |dV (id:Nat)
  |fr (id:Nat)
  |op (id s d:Nat)
  |La (id s d:Nat) (k:IntKind) (c:Int)
  |di (i j:Nat)
def zF.zG:zF->bX
  |.close id d=>[id,d]
  |.SA id _=>[id]
  |.dV _=>[]
  |.fr id=>[id]
  |.op id _ d=>[id,d]
  |.La id _ d _ _=>[id,d]
  |.di i j=>[i,j]
def zH(n:Nat)(st:aQ)(id d i:Nat):Option (Bool×aQ):=match blt d n,bj st.H id,beq d id with
  |true,some (.cf T T' g l cap none),false=>some (decide (i<l.length)&&(l.getD i (false,[])).1,⟨gu d .dead st.L,(d,.row T' g (l.getD i (false,[])).2 none)::e8 id (.cf T T' g l cap (some (i,some d))) (eE d .dead st.H)⟩)
  |_,_,_=>none
def B5(n:Nat)(st:aQ):zF->Option (Bool×aQ)
  |.close id d=>match bj st.H id,bj st.H d,beq d id with
    |some (.cf T T' g l cap (some (i,some e))),some (.row a g2 b _),false=>match beq e d,beq a T',decEq g2 g with
      |true,true,isTrue h=>some (true,⟨gu d .dead st.L,e8 id (.cf T T' g (l.set i (true,qA h b)) cap none) (eE d .dead st.H)⟩)
      |_,_,_=>none
    |_,_,_=>none
  |.SA id T'=>match bj st.H id with
    |some (.row T (.aI g) l cap)=>some (true,⟨st.L,e8 id (.cf T T' g (l.map λx=>(false,x)) cap none) st.H⟩)
    |_=>none
  |.dV id=>match bj st.H id with
    |some (.cf _ _ g l cap none)=>some (true,⟨gu id (.bJ (.aI g) (l.map (·.2)) cap) st.L,eE id (.bJ (.aI g) (l.map (·.2)) cap) st.H⟩)
    |_=>none
  |.fr id=>match bj st.H id with
    |some (.cf T _ g l cap none)=>some (true,⟨st.L,e8 id (.row T (.aI g) (l.map (·.2)) cap) st.H⟩)
    |_=>none
  |.op id s d=>match bj st.L s with
    |some (.a (.c (.val (.int _ z))))=>zH n st id d z.toNat
    |_=>none
  |.La id s d k c=>match bj st.L s with
    |some (.a (.c (.val (.int _ z))))=>zH n st id d (k.wrap (z-c)).toNat
    |_=>none
  |.di i j=>match blt j n with
    |true=>some (true,⟨gC (kC i j) st.L,pP (kC i j) st.H⟩)
    |false=>none
section
variable {X:bz} {n:Nat} {st st':aQ} {d:Nat} {o:Oper}
theorem SB{id i:Nat}{c:Bool}(h:zH n st id d i=some (c,st'))(U:c=true):bP X n st st':=by
  unfold zH at h
  split at h
  · rename_i I J ag
    cases h;simp only[and_eq_true]at U;exact aeJ I J ag U.1 U.2
  · cases h
theorem aeQ{i j:Nat}(b:blt j n=true):bP X n st ⟨gC (kC i j) st.L,pP (kC i j) st.H⟩:=λ_ _ _ _ _ _ ⟨aq,env,B,ai,H,e,ad⟩=>by
  obtain⟨H',I,J⟩:=bG.dp (E9) ad.heap;refine⟨aq,lP env j (env i),B,ai,H',e,ad.size,ad.defs,λs sv c=>?_,J,ad.aT.fq (I.append_right _),ad.sub,ad.new,wM ad.dP (λq ak=>by have I:=(ad.dP _ _ ak).1;have J:=dS b;omega),ad.base,ad.eu⟩;obtain⟨u,ag,rfl⟩:=w3 c;obtain⟨v,d,a⟩:=ad.has s u ag;exact⟨v,d,e7.dp E9 a⟩
theorem aeR{x:zF}{c:Bool}(h:B5 n st x=some (c,st'))(U:c=true):bP X n st st':=by
  unfold B5 at h
  split at h
  · split at h
    · rename_i I J ag
      split at h
      · rename_i d a e _
        cases h;subst d;have f:=eq_of_beq_eq_true a;have g:=eq_of_beq_eq_true e;subst f;subst g;exact aeL I J ag
      · cases h
    · cases h
  · split at h
    · rename_i I
      cases h;exact aeN _ I
    · cases h
  · split at h
    · rename_i I
      cases h;exact aeO I
    · cases h
  · split at h
    · rename_i I
      cases h;exact aeP I
    · cases h
  · split at h
    · exact SB h U
    · cases h
  · split at h
    · exact SB h U
    · cases h
  · split at h
    · rename_i b
      cases h;exact aeQ b
    · cases h
end
end
inductive nc where
 |dV (id:Nat)
 |cg (id:Nat) (g:aV)
 |nil (s id:Nat) (t:TypeId) (g:aV)
 |tJ (k p id:Nat) (t:TypeId) (g:aV)
 |tO (id:Nat)
 |t (x:zF)
def zI(n:Nat):nc->aQ->Option (Bool×aQ)
 |.dV id,st=>match Go.Proofs.YtijeenjclhajhaaGreatDoor.dV id st with
  |some st'=>some (true,st')
  |none=>none
 |.cg id g,st=>match bj st.H id with
  |some (.cells _ cs)=>match dec g cs with
   |some (c,x,[])=>some (c,⟨w0 id g x st.L,oZ id g x st.H⟩)
   |_=>none
  |_=>none
 |.nil s id t g,st=>match blt id n,bj st.L s with
  |true,some (.a (.c (.val v)))=>match isNil v with
   |true=>some (true,⟨(s,.c (.aI id))::gu id .dead st.L,(id,.row t g [] none)::eE id .dead st.H⟩)
   |false=>none
  |_,_=>none
 |.tJ k p id t g,st=>match blt id n with
  |true=>some (true,⟨gu id .dead st.L,(id,.row t g [] none)::kD k p id (eE id .dead st.H)⟩)
  |false=>none
 |.tO id,st=>match Go.Proofs.YtijeenjclhajhaaGreatDoor.tO id st with
  |some st'=>some (true,st')
  |none=>none
 |.t x,st=>B5 n st x
theorem SC{X:bz}{n:Nat}{x:nc}{st st':aQ}{c:Bool}(h:zI n x st=some (c,st'))(U:c=true):bP X n st st':=by
 unfold zI at h
 split at h
 ·split at h
  ·rename_i e;cases h;exact bP.dV e
  ·cases h
 ·split at h
  ·rename_i e
   split at h
   ·rename_i a;cases h;exact bP.cg _ _ e a U
   ·cases h
  ·cases h
 ·split at h
  ·rename_i e a
   split at h
   ·rename_i b
    cases h;rw[RV b]at a;exact bP.nil _ _ _ _ e a
   ·cases h
  ·cases h
 ·split at h
  ·rename_i e;cases h;exact bP.tJ _ _ _ _ _ e
  ·cases h
 ·split at h
  ·rename_i e;cases h;exact bP.tO e
  ·cases h
 ·exact aeR h U
def nc.zG:nc->bX
 |.nil s id _ _=>[s,id]
 |.tJ k _ id _ _=>[k,id]
 |.t x=>x.zG
 |_=>[]
theorem aeS{a b:Nat}(h:a≠b):beq b a=false:=by
 cases e:beq b a with
 |false=>rfl
 |true=>exact absurd (eq_of_beq_eq_true e).symm h
theorem lx(a:Nat)(r:bX):fP a (a::r)=true:=by
 unfold fP;rw[beq_refl]
theorem Lb{id:Nat}{g:aV}{x:g.D}{V:bX}:∀H:bC,nM V H (oZ id g x H)
 |[]=>cB.refl []
 |(k,b)::r=>λq v a ah=>by
  unfold oZ at ah
  split at ah
  ·rename_i e
   have aa:=eq_of_beq_eq_true e;obtain⟨u,I,J⟩:=Lb r q v a ah
   by_cases c:q=k
   ·subst c
    subst aa;exact(Lc ah).elim
   ·exact⟨u,by rw[cX,if_neg c];exact I,J⟩
  ·rw[cX]at ah ⊢
   split at ah
   ·rename_i e
    cases ah;rw[if_pos e];exact⟨b,rfl,λaC=>aeB aC⟩
   ·rename_i e
    rw[if_neg e];exact Lb r q v a ah
where Lc {id:Nat} {g:aV} {x:g.D} {v:cC}:∀ {H:bC},bj (oZ id g x H) id=some v->False
 |[],h=>by cases h
 |(k,b)::r,h=>by
  unfold oZ at h
  split at h
  ·exact Lc h
  ·rename_i e
   rw[cX,if_neg (λd=>by rw[d,beq_refl]at e;cases e)]at h;exact Lc h
theorem Ld{k p id:Nat}{V:bX}(d:fP k V=true):∀H:bC,nM V H (kD k p id H)
 |[]=>cB.refl []
 |(j,b)::r=>λq v a ah=>by
  have f:q≠k:=λe=>by rw[e,d]at a;cases a
  unfold kD at ah
  split at ah
  ·cases ah
  ·rename_i c
   cases c
   split at ah
   ·rename_i e
    have aa:=eq_of_beq_eq_true e;subst aa;rw[cX,if_neg f]at ah;exact⟨v,by rw[cX,if_neg f];exact ah,λ_=>rfl⟩
   ·rw[cX]at ah ⊢
    split at ah
    ·rename_i e
     rw[if_pos e];exact⟨_,rfl,λ_=>by cases ah;rfl⟩
    ·rename_i e
     rw[if_neg e];exact Ld d r q v a ah
  ·rename_i c
   cases c;rw[cX]at ah ⊢
   split at ah
   ·rename_i e
    rw[if_pos e];exact⟨_,rfl,λ_=>by cases ah;rfl⟩
   ·rename_i e
    rw[if_neg e];exact Ld d r q v a ah
theorem sM{q k:Nat}{r:bX}:fP q (k::r)=false↔q≠k/\fP q r=false:=⟨hj,λ⟨I,J⟩=>by
 unfold fP;rw[aeS I];exact J⟩
theorem aeT{q a b:Nat}(h:fP q [a,b]=false):fP q (b::([a]++[]))=false:=by
 obtain⟨I,J⟩:=sM.1 h;obtain⟨ag,c⟩:=sM.1 J;exact sM.2 ⟨ag,sM.2 ⟨I,rfl⟩⟩
theorem aeU{k p id:Nat}{z:bs}{b:cC}(H:bC):nM [k,id] H ((id,b)::kD k p id (eE id z H)):=
 (((k5 id z H).trans (Ld (k:=k) (p:=p) (id:=id) (lx k []) _)).cons (d:=id) (v:=b)).more λ_ h=>aeT h
def dt(V:bX)(st st':aQ):Prop:=zD V st.L st'.L/\nM V st.H st'.H
theorem dt.refl{V:bX}(st:aQ):dt V st st:=⟨cB.refl _,cB.refl _⟩
theorem dt.trans{V V2:bX}{a b c:aQ}(h:dt V a b)(k:dt V2 b c):dt (V2++V) a c:=⟨h.1.trans k.1,h.2.trans k.2⟩
theorem dt.more{V V2:bX}{a b:aQ}(h:dt V a b)(c:∀q,fP q V2=false->fP q V=false):dt V2 a b:=⟨h.1.more c,h.2.more c⟩
theorem SD{n:Nat}{st st':aQ}{id d i:Nat}{c:Bool}(h:zH n st id d i=some (c,st')):dt [id,d] st st':=by
 unfold zH at h
 split at h
 ·cases h
  refine⟨l0 _ _ _,?_⟩;refine cB.more (cB.cons (cB.trans (V:=[]) (V2:=[id]) (k5 _ _ _) (lv (lx _ _)))) λq a=>?_
  obtain⟨I,J⟩:=hj a;obtain⟨ag,_⟩:=hj J;show(match beq d q with|true=>true|false=>match beq id q with|true=>true|false=>false)=false
  split
  ·rename_i e;exact absurd (eq_of_beq_eq_true e).symm ag
  ·split
   ·rename_i e;exact absurd (eq_of_beq_eq_true e).symm I
   ·rfl
 ·cases h
theorem SE{bQ:iK}:∀ {cs:eB},tG cs=true->sA bQ cs=some cs
 |[],_=>rfl
 |.id _::_,h=>by cases h
 |.fr _ _::cs,h=>by
  unfold sA;rw[SE (cs:=cs) h]
theorem Le(bQ:iK):Fix λc=>c.dp bQ:=⟨λc h=>by
 cases c with
 |fn f cs=>simp only[bs.dp];rw[SE h]
 |_=>first|rfl|cases h⟩
theorem Lf(bQ:iK):∀cs:dT,vb bQ cs=xl (λc=>c.dp bQ) cs
 |[]=>rfl
 |c::r=>by
  show c.dp bQ::vb bQ r=_;rw[Lf bQ r];rfl
theorem Lg{bQ:iK}{x:bp}(h:x.free=true):x.dp bQ=x:=by
 cases x with
 |c x=>simp only[bp.dp];rw[(Le bQ).fix x h]
 |agg cs=>simp only[bp.dp];rw[Lf,tU (Le bQ) h]
 |arr g l=>rfl
theorem SF{bQ:iK}:∀ {xs:ej},na xs=true->w2 bQ xs=xs
 |[],_=>rfl
 |c::r,h=>by
  unfold na at h
  split at h
  ·rename_i e
   show c.dp bQ::w2 bQ r=_;rw[Lg e,SF h]
  ·cases h
theorem aeV{bQ:iK}{v:b8}(h:v.free=true):v.dp bQ=v:=by
 cases v with
 |a x=>simp only[b8.dp];rw[Lg h]
 |may g x=>simp only[b8.dp];rw[Lg h]
 |cY xs=>simp only[b8.dp];rw[SF h]
theorem aeW{bQ:iK}{b:cC}(h:b.free=true):b.dp bQ=b:=by
 cases b with
 |cells t cs=>simp only[cC.dp];rw[Lf,tU (Le bQ) h]
 |cf T T' g l c q=>rcases q with _|⟨i,_|d⟩<;>first|rfl|cases h
 |_=>first|rfl|cases h
theorem aeX(bQ:iK)(L:c6){V:bX}:zD V L (gC bQ L):=cB.map (f:=λv=>v.dp bQ) (λ_ h=>aeV h) λ_ _ h=>w3 h
theorem FK(i j:Nat):∀H:bC,nM [i,j] H (pP (kC i j) H)
 |[]=>cB.refl []
 |(k,b)::r=>λq v c ah=>by
  obtain⟨I,J⟩:=hj c;obtain⟨ag,_⟩:=hj J;unfold pP at ah
  by_cases d:beq k i=true
  ·have e:=eq_of_beq_eq_true d
   have a:kC i j b.qw k=some j:=by unfold kC;rw[d]
   rw[a]at ah;rw[cX,if_neg ag]at ah;rw[cX,if_neg (by rw[e];exact I)];exact FK i j r q v c ah
  ·have g:beq k i=false:=by simpa only[Bool.not_eq_true] using d
   by_cases f:beq k j=true
   ·have e:=eq_of_beq_eq_true f
    have a:kC i j b.qw k=none:=by unfold kC;rw[g,f]
    rw[a]at ah;rw[cX,if_neg (by rw[e];exact ag)];exact FK i j r q v c ah
   ·have h:beq k j=false:=by simpa only[Bool.not_eq_true] using f
    have a:kC i j b.qw k=some k:=by unfold kC;rw[g,h]
    rw[a]at ah;rw[cX]at ah ⊢
    split at ah
    ·rename_i e
     cases ah;rw[if_pos e];exact⟨b,rfl,λaC=>aeW aC⟩
    ·rename_i e
     rw[if_neg e];exact FK i j r q v c ah
theorem aeZ{n:Nat}{st st':aQ}{x:zF}{c:Bool}(h:B5 n st x=some (c,st')):dt x.zG st st':=by
 unfold B5 at h
 split at h
 ·split at h
  ·split at h
   ·cases h
    exact⟨l0 _ _ _,cB.more (cB.trans (V:=[]) (V2:=[_]) (k5 _ _ _) (lv (lx _ _))) λq a=>by
     have I:=(hj a).1;show(match beq _ q with|true=>true|false=>false)=false
     split
     ·rename_i e;exact absurd (eq_of_beq_eq_true e).symm I
     ·rfl⟩
   ·cases h
  ·cases h
 ·split at h
  ·cases h
   exact⟨cB.refl _,lv (lx _ _)⟩
  ·cases h
 ·split at h
  ·cases h
   exact⟨l0 _ _ _,k5 _ _ _⟩
  ·cases h
 ·split at h
  ·cases h
   exact⟨cB.refl _,lv (lx _ _)⟩
  ·cases h
 ·split at h
  ·exact SD h
  ·cases h
 ·split at h
  ·exact SD h
  ·cases h
 ·split at h
  ·cases h
   exact⟨aeX _ _,FK _ _ _⟩
  ·cases h
theorem SH{n:Nat}{x:nc}{st st':aQ}{c:Bool}(h:zI n x st=some (c,st')):dt x.zG st st':=by
 unfold zI at h
 split at h
 ·split at h
  ·rename_i e
   cases h;unfold Go.Proofs.YtijeenjclhajhaaGreatDoor.dV at e
   split at e
   ·cases e;exact⟨l0 _ _ _,k5 _ _ _⟩
   ·cases e
  ·cases h
 ·split at h
  ·split at h
   ·cases h;exact⟨aeD _ _ _ _,Lb _⟩
   ·cases h
  ·cases h
 ·split at h
  ·split at h
   ·cases h
    exact⟨cB.cons (l0 _ _ _),(cB.cons (k5 _ _ _)).more λq a=>by obtain⟨I,J⟩:=hj a;exact J⟩
   ·cases h
  ·cases h
 ·split at h
  ·cases h
   exact⟨l0 _ _ _,aeU _⟩
  ·cases h
 ·split at h
  ·rename_i e
   cases h;unfold Go.Proofs.YtijeenjclhajhaaGreatDoor.tO at e
   split at e
   ·cases e;exact⟨l0 _ _ _,k5 _ _ _⟩
   ·cases e
  ·cases h
 ·exact aeZ h
def zJ(X:bz)(t:TypeId)(g:aV):Bool:=match X.aY.find t with
 |some ⟨⟨.struct _,_,_,_⟩,_⟩=>g.key&&(mq X.P X.aY 12 t g&&!(X.P.eqGuardType X.P.depth t))
 |_=>false
theorem ae0{X:bz}(a:X.aY.ok X.P){t:TypeId}{g:aV}(h:zJ X t g=true):vi X.P t g:=by
 unfold zJ at h
 split at h
 ·rename_i aC
  simp only[and_eq_true,not_eq_true']at h;exact vi.of a h.1 aC rfl h.2.1 h.2.2
 ·cases h
def Lh(X:bz)(e:TypeId):Option (cv×aV):=match X.aY.find e with
 |some bB=>match bB.g with
  |some g=>some (bB,g)
  |none=>none
 |none=>none
def FL(X:bz)(L:c6)(t:TypeId)(u v:Operand):Option (Bool×Bool):=match bx X L u,bx X L v,X.aY.find t with
 |some (a,.agg cs),some (g2,.agg aL),some bB=>match bB.g with
  |some g=>match dec g cs,dec g aL,zJ X t g with
   |some (fD,x,[]),some (cK,y,[]),true=>some (a&&(g2&&(fD&&cK)),g.beq x y)
   |_,_,_=>none
  |none=>none
 |_,_,_=>none
def zK(X:bz)(st:aQ):Op->Option (Bool×bp)
 |.binOp .eql t u v _=>match FL X st.L t u v with
  |some (c,b)=>some (c,.c (.val (.bool b)))
  |none=>none
 |.binOp .neq t u v _=>match FL X st.L t u v with
  |some (c,b)=>some (c,.c (.val (.bool (!b))))
  |none=>none
 |.load t x=>match bx X st.L x,X.aY.find t with
  |some (a,.c (.fg id 1 i 0)),some bB=>match bj st.H id,mN bB.aK.desc with
   |some (.cW _ _ _ _ _ j d2),false=>some (a&&beq i j,.c (.aI d2))
   |some (.cf _ _ _ _ _ (some (j,some d2))),false=>some (a&&decide (i=j),.c (.aI d2))
   |_,_=>none
  |_,_=>none
 |.slice t u (some x) none none=>match X.aY.find t,bx X st.L u,bx X st.L x with
  |some ⟨⟨.slice e,_,_,_⟩,_⟩,some (a,.c (.aI id)),some (g2,.c (.val (.int _ z)))=>match X.aY.find e,bj st.H id with
   |some dQ,some (.row _ g l _)=>match beq g.size dQ.aK.size with
    |true=>some (a&&(g2&&(decide (0<=z)&&decide (z<=(l.length:Int)))),.c (.jS id g.size z.toNat))
    |false=>none
   |_,_=>none
  |_,_,_=>none
 |.call ⟨.builtin .cap,⟨[u]⟩,⟨[t]⟩⟩=>match X.aY.find t,bx X st.L u with
  |some ⟨⟨.slice _,_,_,_⟩,_⟩,some (a,.c (.aI id))=>some (a,.c (.j7 id))
  |_,_=>none
 |_=>none
theorem SI{X:bz}(f:X.aY.ok X.P){L:c6}{t:TypeId}{u v:Operand}{c b:Bool}(h:FL X L t u v=some (c,b))(U:c=true):∃a g2 fD cK cs aL g x y,bx X L u=some (a,.agg cs)/\bx X L v=some (g2,.agg aL)/\vi X.P t g/\dec g cs=some (fD,x,[])/\dec g aL=some (cK,y,[])/\a=true/\g2=true/\fD=true/\cK=true/\b=g.beq x y:=by
 unfold FL at h
 split at h
 ·rename_i hu e bg
  split at h
  ·split at h
   ·rename_i d i j
    cases h;simp only[and_eq_true]at U;exact⟨_,_,_,_,_,_,_,_,_,hu,e,ae0 f j,d,i,U.1,U.2.1,U.2.2.1,U.2.2.2,rfl⟩
   ·cases h
  ·cases h
 ·cases h
theorem FM{X:bz}{st:aQ}(d:X.aY.ok X.P){o:Oper}{c:Bool}{sa:bp}(h:zK X st o.op=some (c,sa))(U:c=true):jG X st o sa:=by
 unfold zK at h
 split at h
 ·rename_i b
  split at h
  ·rename_i e
   cases h;obtain⟨l,g2,fD,cK,cs,aL,g,x,y,hu,f,j,an,aG,I,J,ag,i,rfl⟩:=SI d e U;exact adX j b hu I f J an ag aG i
  ·cases h
 ·rename_i b
  split at h
  ·rename_i e
   cases h;obtain⟨l,g2,fD,cK,cs,aL,g,x,y,hu,f,j,an,aG,I,J,ag,i,rfl⟩:=SI d e U;exact adY j b hu I f J an ag aG i
  ·cases h
 ·rename_i b
  split at h
  ·rename_i an bg
   split at h
   ·rename_i ah bm
    cases h;simp only[and_eq_true]at U
    have:=eq_of_beq_eq_true U.2
    subst this;intro R W aD n aq env B ai H a b6 ad;exact adV d b bg bm an U.1 ah ad
   ·rename_i ah bm
    cases h;simp only[and_eq_true]at U;exact Su d b bg bm an U.1 ah U.2
   ·cases h
  ·cases h
 ·rename_i b
  split at h
  ·rename_i bg hu an
   split at h
   ·rename_i he ah
    split at h
    ·rename_i k
     cases h;rw[and_eq_true,and_eq_true]at U;exact aes d b bg rfl he hu U.1 an U.2.1 ah k U.2.2
    ·cases h
   ·cases h
  ·cases h
 ·rename_i b
  split at h
  ·rename_i bg hu
   cases h;exact aeu d b bg rfl hu U
  ·cases h
 ·cases h
section
def dK(g c:Bool):Bool:=match c with
 |true=>true
 |false=>!g
theorem B6{g c:Bool}(h:dK g c=true)(a:g=true):c=true:=by
 cases c with
 |true=>rfl
 |false=>rw[a]at h;cases h
abbrev gJ:=List (Nat×Nat×Bool)
def k6(L:c6)(s:Nat)(want:Bool):Option Bool:=match bj L s,want with
 |some (.a (.c (.val (.bool b)))),true=>some b
 |some (.a (.c (.val (.bool b)))),false=>some (!b)
 |some (.may g (.c (.val (.bool b)))),true=>some (g&&b)
 |some (.may g (.c (.val (.bool b)))),false=>some (g&&!b)
 |_,_=>none
def Li:Bool->Bool->Bool
 |true,true=>true
 |false,false=>true
 |_,_=>false
theorem ae1:∀ {a b:Bool},Li a b=true->a=b
 |true,true,_=>rfl
 |false,false,_=>rfl
def B7(j:Nat)(w:Bool):List (Nat×Bool)->Bool
 |[]=>false
 |p::r=>match beq p.1 j,Li p.2 w with
  |true,true=>true
  |_,_=>B7 j w r
def B8(s:Nat):gJ->Option (Nat×Bool)
 |[]=>none
 |e::G=>match beq e.1 s with
  |true=>some e.2
  |false=>B8 s G
def B9(cP:List (Option Nat))(j s:Nat):Bool:=match nth cP j with
 |some (some q)=>beq q s
 |_=>false
def pb(cP:List (Option Nat))(d:Nat):gJ->gJ
 |[]=>[]
 |e::G=>match beq e.1 d,B9 cP e.2.1 d with
  |false,false=>e::pb cP d G
  |_,_=>pb cP d G
def xq(cP:List (Option Nat))(G:gJ):Nat->Nat->Bool->List (Nat×Bool)
 |0,j,w=>[(j,w)]
 |k+1,j,w=>(j,w)::match nth cP j with
  |some (some s)=>match B8 s G with
   |some p=>xq cP G k p.1 p.2
   |none=>[]
  |_=>[]
def nf(aB:List (Nat×Bool)):gJ->c6->c6
 |[],L=>L
 |e::G,L=>match B7 e.2.1 e.2.2 aB,bj L e.1 with
  |true,some (.may _ x)=>(e.1,.a x)::nf aB G L
  |_,_=>nf aB G L
def zL(cP:List (Option Nat))(s:Nat)(w:Bool)(aB:List (Nat×Bool)):gJ->List (Nat×Bool)
 |[]=>aB
 |e::G=>match B9 cP e.2.1 s,Li e.2.2 w with
  |true,true=>(e.2.1,w)::zL cP s w aB G
  |_,_=>zL cP s w aB G
def Lj(G:gJ)(aB:List (Nat×Bool))(L:c6)(s:Nat):Option (Bool×Bool):=match bj L s with
 |some (.a (.c (.val (.bool b))))=>some (true,b)
 |some (.may g (.c (.val (.bool b))))=>match B8 s G with
  |some p=>match B7 p.1 p.2 aB with
   |true=>some (true,b)
   |false=>some (g,b)
  |none=>some (g,b)
 |_=>none
def vq(X:bz)(cP:List (Option Nat))(aB:List (Nat×Bool))(G:gJ)(st:aQ):Op->Option (Bool×bp)
 |.pick (.tmp s) u v=>match Lj G aB st.L s with
  |some (c,b)=>match bx X (nf (zL cP s true aB G) G st.L) u,bx X (nf (zL cP s false aB G) G st.L) v with
   |some (a,x),some (gv,y)=>match Bg b x y with
    |some r=>some (c&&(dK b a&&dK (!b) gv),r)
    |none=>none
   |_,_=>none
  |none=>none
 |op=>match wJ X ⟨nf aB G st.L,st.H⟩ op with
  |some r=>some r
  |none=>zK X ⟨nf aB G st.L,st.H⟩ op
section
variable {X:bz} {R:Nat->Prop} {W:World} {aD:fk} {n:Nat} {aq:bX} {env:Nat->Loc} {B:Nat->Prop} {ai:World} {H:cI} {st:aQ} {a:Act} {w:World} {cP:List (Option Nat)} {G:gJ} {aB:List (Nat×Bool)}
def fa(cP:List (Option Nat))(G:gJ)(L:c6):Prop:=∀e∈G,∃s g x,nth cP e.2.1=some (some s)/\k6 L s e.2.2=some g/\bj L e.1=some (.may g x)
def pV(cP:List (Option Nat))(L:c6)(p:Nat×Bool):Prop:=∃s,nth cP p.1=some (some s)/\k6 L s p.2=some true
theorem FN{j:Nat}{w:Bool}:∀ {aB:List (Nat×Bool)},B7 j w aB=true->(j,w)∈aB
 |[],h=>by cases h
 |p::r,h=>by
  unfold B7 at h
  split at h
  ·rename_i I J
   rw[<- eq_of_beq_eq_true I,<- ae1 J];exact mem_cons_self
  ·exact mem_cons_of_mem _ (FN h)
theorem Lk{s:Nat}{p:Nat×Bool}:∀ {G:gJ},B8 s G=some p->(s,p)∈G
 |[],h=>by cases h
 |e::G,h=>by
  unfold B8 at h
  split at h
  ·rename_i I
   cases h;rw[<- eq_of_beq_eq_true I];exact mem_cons_self
  ·exact mem_cons_of_mem _ (Lk h)
theorem Ll{d:Nat}{e:Nat×Nat×Bool}:∀ {G:gJ},e∈pb cP d G->e∈G/\e.1≠d/\B9 cP e.2.1 d=false
 |[],h=>by cases h
 |q::G,h=>by
  unfold pb at h
  split at h
  ·rename_i I J
   rcases List.mem_cons.1 h with rfl|h
   ·exact⟨mem_cons_self,ne_of_beq_eq_false I,J⟩
   ·obtain⟨ag,a⟩:=Ll h
    exact⟨mem_cons_of_mem _ ag,a⟩
  ·obtain⟨ag,a⟩:=Ll h
   exact⟨mem_cons_of_mem _ ag,a⟩
theorem FO{L:c6}{d s:Nat}{sv:b8}{w:Bool}(h:s≠d):k6 ((d,sv)::L) s w=k6 L s w:=by
 unfold k6;rw[cX,if_neg h]
theorem fa.drop{L:c6}(h:fa cP G L)(d:Nat)(sv:b8):fa cP (pb cP d G) ((d,sv)::L):=λe he=>by
 obtain⟨I,J,ag⟩:=Ll he;obtain⟨s,g,x,a,c,b⟩:=h e I;have f:s≠d:=λi=>by
  unfold B9 at ag;rw[a,i]at ag
  simp at ag
 exact⟨s,g,x,a,by rw[FO f];exact c,by rw[cX,if_neg J];exact b⟩
theorem fa.nil{L:c6}:fa cP [] L:=λ_ h=>by cases h
theorem ae2{L:c6}{s:Nat}{g w:Bool}{x:bp}(ag:bj L s=some (.may g x))(a:k6 L s w=some true):g=true:=by
 unfold k6 at a
 split at a
 ·rename_i e;rw[ag]at e;cases e
 ·rename_i e;rw[ag]at e;cases e
 ·rename_i e
  rw[ag]at e;cases e;simp only[Option.some.injEq,and_eq_true]at a;exact a.1
 ·rename_i e
  rw[ag]at e;cases e;simp only[Option.some.injEq,and_eq_true]at a;exact a.1
 ·cases a
theorem FP{L:c6}(b:fa cP G L):∀ {k j:Nat} {w:Bool},pV cP L (j,w)->∀p∈xq cP G k j w,pV cP L p
 |0,j,w,h,p,ak=>by rw[List.mem_singleton.1 ak];exact h
 |k+1,j,w,h,p,ak=>by
  rcases List.mem_cons.1 ak with rfl|ak
  ·exact h
  ·split at ak
   ·rename_i s e
    split at ak
    ·rename_i q f
     obtain⟨i,g,x,I,J,ag⟩:=b _ (Lk f);refine FP b ?_ p ak;obtain⟨l,a,c⟩:=h;rw[e]at a;cases a;have d:g=true:=by
      exact ae2 ag c
     exact⟨i,I,by rw[J,d]⟩
    ·cases ak
   ·cases ak
theorem ae3{L:c6}(o:fa cP G L)(ak:∀p∈aB,pV cP L p){b:Array Value}(h:∀s sv,bj L s=some sv->∃v,b[s]?=some v/\e7 env B ai sv v):∀s sv,bj (nf aB G L) s=some sv->∃v,b[s]?=some v/\e7 env B ai sv v:=by
 have key:∀a,(∀e∈a,e∈G)->∀s sv,bj (nf aB a L) s=some sv->∃v,b[s]?=some v/\e7 env B ai sv v:=by
  intro a
  induction a with
  |nil=>exact λ_=>h
  |cons e a n=>
   intro i s sv ah;have c:=n λe he=>i e (mem_cons_of_mem _ he)
   unfold nf at ah
   split at ah
   ·rename_i g x I J
    rw[cX]at ah
    split at ah
    ·rename_i l
     cases ah;obtain⟨u,r,t,ag,m,f⟩:=o e (i e mem_cons_self);obtain⟨w,d,j⟩:=ak _ (FN I);rw[ag]at d;cases d;rw[m]at j;cases j;rw[J]at f;cases f;obtain⟨v,k,q⟩:=h _ _ J;rw[<- l]at k;exact⟨v,k,q.1 rfl⟩
    ·exact c s sv ah
   ·exact c s sv ah
 exact key G λ_ h=>h
theorem ae4{L:c6}(m:fa cP G L)(ak:∀p∈aB,pV cP L p):∀s sv,bj (nf aB G L) s=some sv->bj L s=some sv\/∃x,sv=.a x/\bj L s=some (.may true x):=by
 have key:∀a,(∀e∈a,e∈G)->∀s sv,bj (nf aB a L) s=some sv->bj L s=some sv\/∃x,sv=.a x/\bj L s=some (.may true x):=by
  intro a
  induction a with
  |nil=>exact λ_ s sv h=>.inl h
  |cons e a l=>
   intro f s sv ah;have b:=l λe he=>f e (mem_cons_of_mem _ he)
   unfold nf at ah
   split at ah
   ·rename_i g x I J
    rw[cX]at ah
    split at ah
    ·rename_i j
     cases ah;obtain⟨q,n,o,ag,k,d⟩:=m e (f e mem_cons_self);obtain⟨r,c,i⟩:=ak _ (FN I);rw[ag]at c;cases c;rw[k]at i;cases i;rw[J]at d;cases d;exact .inr ⟨x,rfl,by rw[j];exact J⟩
    ·exact b s sv ah
   ·exact b s sv ah
 exact key G λ_ h=>h
theorem bM.view(ad:bM X R W aD n aq env B ai H st a w)(b:fa cP G st.L)(ak:∀p∈aB,pV cP st.L p):bM X R W aD n aq env B ai H ⟨nf aB G st.L,st.H⟩ a w:=
 ⟨ad.size,ad.defs,ae3 b ak ad.has,ad.heap,ad.aT,ad.sub,ad.new,ad.dP,ad.base,ad.eu⟩
theorem FQ{L:c6}{s:Nat}{c:Bool}(ak:∀p∈aB,pV cP L p)(a:k6 L s c=some true):∀(G:gJ),∀p∈zL cP s c aB G,pV cP L p
 |[],p,h=>ak p h
 |e::G,p,h=>by
  unfold zL at h
  split at h
  ·rename_i I _
   rcases List.mem_cons.1 h with rfl|h
   ·unfold B9 at I
    split at I
    ·rename_i q b
     rw[eq_of_beq_eq_true I]at b;exact⟨s,b,a⟩
    ·cases I
   ·exact FQ ak a G p h
  ·exact FQ ak a G p h
theorem ae5{s:Nat}{i b:Bool}(ad:bM X R W aD n aq env B ai H st a w)(m:fa cP G st.L)(ak:∀p∈aB,pV cP st.L p)(h:Lj G aB st.L s=some (i,b))(U:i=true):aJ (full a) (.tmp s)=some (.bool b)/\k6 st.L s true=some b/\k6 st.L s false=some (!b):=by
 unfold Lj at h
 split at h
 ·rename_i cL e
  cases h;obtain⟨v,I,J⟩:=ad.has _ _ e;rw[show v=_ from J]at I;exact⟨hs I,by unfold k6;rw[e],by unfold k6;rw[e]⟩
 ·rename_i g cL e
  have key:g=true->cL=b->aJ (full a) (.tmp s)=some (.bool b)/\k6 st.L s true=some b/\k6 st.L s false=some (!b):=λj ab=>by
   subst ab;subst j;obtain⟨v,I,J⟩:=ad.has _ _ e;rw[show v=_ from J.1 rfl]at I;exact⟨hs I,by unfold k6;rw[e];rfl,by unfold k6;rw[e];rfl⟩
  split at h
  ·rename_i q k
   split at h
   ·rename_i cQ
    cases h;refine key ?_ rfl;obtain⟨t,o,r,ag,l,d⟩:=m _ (Lk k);obtain⟨u,c,f⟩:=ak _ (FN cQ);rw[ag]at c;cases c;rw[l]at f;cases f;rw[e]at d;cases d
    rfl
   ·cases h;exact key U rfl
  ·cases h;exact key U rfl
 ·cases h
theorem SJ{b:Bool}{x y r:bp}{vx vy:Value}(ak:Bg b x y=some r)(an:b=true->eb env B ai x vx)(aG:b=false->eb env B ai y vy):eb env B ai r (if b then vx else vy):=by
 unfold Bg at ak
 split at ak
 ·split at ak
  ·rename_i aa
   have a:=of_decide_eq_true aa;subst a;cases ak;cases b
   ·exact aG rfl
   ·exact an rfl
  ·cases ak
 ·cases ak
  cases b
  ·exact aG rfl
  ·exact an rfl
 ·cases ak
  cases b
  ·exact aG rfl
  ·exact an rfl
 ·cases ak
theorem SK(l:X.aY.ok X.P)(ad:bM X R W aD n aq env B ai H st a w)(f:fa cP G st.L)(ak:∀p∈aB,pV cP st.L p){o:Oper}{c:Bool}{sa:bp}(h:vq X cP aB G st o.op=some (c,sa))(U:c=true):∃v,eb env B ai sa v/\∀w',(n6 o.op=true->bT (λk=>R k\/B k) ai (H++aq.map dB) w')->(execOp a.eval o).run X.P w'=.ok (.value v) w':=by
 unfold vq at h
 split at h
 ·rename_i s u v j
  split at h
  ·rename_i F b t
   split at h
   ·rename_i E x gv y z A
    split at h
    ·rename_i r m
     cases h;simp only[and_eq_true]at U;obtain⟨q,C,D⟩:=U;obtain⟨I,J,ag⟩:=ae5 ad f ak t q;cases b with
     |true=>
      have d:=ad.view f (FQ ak J G);obtain⟨vx,i,g⟩:=d.aJ z (B6 C rfl);exact⟨vx,SJ (vy:=vx) m (λ_=>g) (λh=>by cases h),λw' _=>PN ad.bW j I rfl i w'⟩
     |false=>
      have d:=ad.view f (FQ ak ag G);obtain⟨vy,i,g⟩:=d.aJ A (B6 D rfl);exact⟨vy,SJ (vx:=vy) m (λh=>by cases h) (λ_=>g),λw' _=>PO ad.bW j I rfl i w'⟩
    ·cases h
   ·cases h
  ·cases h
 ·have d:=ad.view f ak
  split at h
  ·rename_i e
   cases h;obtain⟨v,I,J⟩:=yV l e U d;exact⟨v,I,J⟩
  ·obtain⟨v,I,J⟩:=FM l h U d
   exact⟨v,I,J⟩
theorem SL(b:X.aY.ok X.P)(ad:bM X R W aD n aq env B ai H st a w)(d:fa cP G st.L)(ak:∀p∈aB,pV cP st.L p){o:Oper}{c:Bool}{sa:bp}(h:vq X cP aB G st o.op=some (c,sa))(U:c=true):∃v,eb env B ai sa v/\(execOp a.eval o).run X.P w=.ok (.value v) w:=by
 obtain⟨v,I,J⟩:=SK b ad d ak h U;exact⟨v,I,J w λ_=>ad.aT⟩
theorem Ln{l:List Oper}{o:Oper}(ad:bM X R W aD n aq env B ai H st a w){j s:Nat}{want g:Bool}(e:o.guard=some (j,want))(i:nth (eN l) j=some (some s))(c:k6 st.L s want=some g):Region.wanted o (yielded l.toArray a.tmps)=g:=by
 obtain⟨p,k,m⟩:=y0 i;have f:(l.toArray[j]?).bind (·.dst)=some s:=by simp[k,<- m]
 unfold k6 at c
 split at c
 ·rename_i b d
  cases c;obtain⟨v,I,J⟩:=ad.has _ _ d;rw[show v=_ from J]at I;rw[oL ad.sym e f (hs I)];cases g<;>rfl
 ·rename_i b d
  cases c;obtain⟨v,I,J⟩:=ad.has _ _ d;rw[show v=_ from J]at I;rw[oL ad.sym e f (hs I)];cases b<;>rfl
 ·rename_i h b d
  cases c;obtain⟨v,I,J,ag⟩:=ad.has _ _ d;cases h with
  |true=>
   rw[show v=_ from J rfl]at I;rw[oL ad.sym e f (hs I)];cases b<;>rfl
  |false=>
   rw[ag rfl]at I;rw[yM ad.sym e f (hs I)]
   rfl
 ·rename_i h b d
  cases c;obtain⟨v,I,J,ag⟩:=ad.has _ _ d;cases h with
  |true=>
   rw[show v=_ from J rfl]at I;rw[oL ad.sym e f (hs I)];cases b<;>rfl
  |false=>
   rw[ag rfl]at I;rw[yM ad.sym e f (hs I)]
   rfl
 ·cases c
end
def SM:Option Nat->bX
 |some d=>[d]
 |none=>[]
def Cb(X:bz)(L:c6):Op->bX
 |.store _ u _=>match bx X L u with
  |some (_,.c (.ptr id _))=>[id]
  |some (_,.c (.fg id _ _ _))=>[id]
  |_=>[]
 |.call ⟨.builtin .append,⟨[u,_]⟩,_⟩=>match bx X L u with
  |some (_,.c (.aI id))=>[id]
  |_=>[]
 |_=>[]
theorem FR{n:Nat}{st st':aQ}{d:Nat}{t:TypeId}{g:aV}{l:List g.D}{cap:Option Nat}(h:newRow n st d t g l cap=some st'):dt [d] st st':=by
 unfold newRow at h
 split at h
 ·cases h
  exact⟨cB.cons (l0 _ _ _),cB.cons (k5 _ _ _)⟩
 ·cases h
theorem SN{X:bz}{n:Nat}{st st':aQ}{t:TypeId}{d:Nat}{cs:dT}{c:Bool}(h:uX X n st t d cs=some (c,st')):dt [d] st st':=by
 unfold uX at h
 split at h
 ·cases h
  exact⟨cB.cons (l0 _ _ _),cB.cons (k5 _ _ _)⟩
 ·cases h
theorem ae6{X:bz}{n:Nat}{st st':aQ}{t:TypeId}{N d:Nat}{aB:List (Nat×Operand)}{c:Bool}(h:Bn X n st t N aB d=some (c,st')):dt [d] st st':=by
 unfold Bn at h
 split at h
 ·split at h
  ·split at h
   ·split at h
    ·split at h
     ·rename_i e;cases h;exact FR e
     ·cases h
    ·cases h
   ·cases h
  ·cases h
 ·cases h
theorem ae7{X:bz}{n:Nat}{st st':aQ}{t:TypeId}{d:Nat}{x y:bp}{c:Bool}(h:Bq X n st t x y d=some (c,st')):dt [d] st st':=by
 unfold Bq at h
 split at h
 ·split at h
  ·split at h
   ·split at h
    ·rename_i e;cases h;exact FR e
    ·cases h
   ·cases h
  ·cases h
 ·cases h
theorem ae8{X:bz}{st st':aQ}{t:TypeId}{x y:bp}{c:Bool}(h:Bl X st t x y=some (c,st')):(∃id o,x=.c (.ptr id o)/\dt [id] st st')\/∃id a i o,x=.c (.fg id a i o)/\dt [id] st st':=by
 unfold Bl at h
 split at h
 ·split at h
  ·split at h
   ·split at h
    ·cases h
     exact .inl ⟨_,_,rfl,cB.refl _,lv (lx _ _)⟩
    ·cases h
   ·cases h
  ·split at h
   ·split at h
    ·split at h
     ·split at h
      ·cases h
       exact .inr ⟨_,_,_,_,rfl,cB.refl _,lv (lx _ _)⟩
      ·cases h
     ·cases h
    ·cases h
   ·cases h
  ·cases h
 ·cases h
theorem ae9{X:bz}{n:Nat}{st st':aQ}{t:TypeId}{x y:bp}{d:Nat}{c:Bool}(h:Br X n st t x y d=some (c,st')):dt [d] st st'\/∃id,x=.c (.aI id)/\dt [d,id] st st':=by
 unfold Br at h
 split at h
 ·split at h
  ·split at h
   ·split at h
    ·split at h
     ·cases h
      refine .inr ⟨_,rfl,cB.cons (l0 _ _ _),(cB.cons (V:=[]) (k5 _ _ _)).more λq a=>?_⟩;exact(hj a).2
     ·cases h
    ·cases h
   ·split at h
    ·split at h
     ·rename_i e;cases h;exact .inl (FR e)
     ·cases h
    ·cases h
   ·split at h
    ·split at h
     ·rename_i e;cases h;exact .inl (FR e)
     ·cases h
    ·cases h
   ·cases h
  ·cases h
 ·cases h
theorem afa{X:bz}{n:Nat}{st st':aQ}{op:Op}{d:Option Nat}{c:Bool}(h:yZ X n st d op=some (c,st')):dt (SM d++Cb X st.L op) st st':=by
 unfold yZ at h
 split at h
 ·split at h
  ·exact SN h
  ·cases h
 ·split at h
  ·split at h
   ·rename_i e;cases h;exact SN e
   ·cases h
  ·cases h
 ·split at h
  ·rename_i a g
   split at h
   ·rename_i e
    cases h
    rcases ae8 e with⟨id,o,rfl,aa⟩|⟨id,cV,i,o,rfl,aa⟩
    ·simp only[Cb,a];exact aa
    ·simp only[Cb,a];exact aa
   ·cases h
  ·cases h
 ·split at h
  ·exact ae6 h
  ·cases h
 ·split at h
  ·split at h
   ·rename_i e;cases h;exact ae7 e
   ·cases h
  ·cases h
 ·split at h
  ·rename_i hu f
   split at h
   ·rename_i e
    cases h
    rcases ae9 e with aa|⟨id,rfl,aa⟩
    ·exact aa.more λq b=>(rH.1 b).1
    ·simp only[Cb,hu];exact aa
   ·cases h
  ·cases h
 ·cases h
def xr(X:bz)(L:c6)(o:Oper):bX:=SM o.dst++Cb X L o.op
theorem zM{X:bz}{n:Nat}{cP:List (Option Nat)}{st st':aQ}{o:Oper}{c:Bool}(a:o.guard=none)(h:kX X n cP st o=.ok c st'):dt (xr X st.L o) st st':=by
 obtain⟨L,H⟩:=st;simp only[kX,a]at h;have one:∀ {d:Nat} {sv:b8},o.dst=some d->dt (xr X L o) ⟨L,H⟩ ⟨(d,sv)::L,H⟩:=λ{d sv} az=>by
  refine dt.more (V:=[d]) ⟨cB.cons (cB.refl _),cB.refl _⟩ λq b=>?_
  have:=(rH.1 b).1
  rw[az]at this;exact this
 split at h
 ·split at h
  ·rename_i d az
   split at h
   ·cases h;exact one az
   ·cases h
  ·cases h
 ·split at h
  ·split at h
   ·rename_i d az
    split at h
    ·cases h;exact one az
    ·cases h
   ·cases h
  ·split at h
   ·rename_i e
    cases h;exact afa e
   ·cases h
theorem Lo{id:Nat}:∀H:bC,nM [id] H (oe id H)
 |[]=>cB.refl []
 |(k,b)::r=>λq v a ah=>by
  have c:=(hj a).1;unfold oe at ah
  split at ah
  ·rename_i e
   have aa:=eq_of_beq_eq_true e;exact⟨v,by rw[cX,if_neg (by rw[aa];exact c)];exact ah,λ_=>rfl⟩
  ·rw[cX]at ah ⊢
   split at ah
   ·rename_i e;rw[if_pos e];exact⟨_,rfl,λ_=>by cases ah;rfl⟩
   ·rename_i e;rw[if_neg e];exact Lo r q v a ah
theorem Lp{cy aq:bX}{V:bX}:∀H:bC,nM V H (jj cy aq H)
 |[]=>cB.refl []
 |(k,b)::r=>λq v a ah=>by
  unfold jj at ah
  split at ah
  ·rename_i e
   obtain⟨u,I,J⟩:=Lp r q v a ah
   by_cases c:q=k
   ·subst c
    exact(Lq e ah).elim
   ·exact⟨u,by rw[cX,if_neg c];exact I,J⟩
  ·rw[cX]at ah ⊢
   split at ah
   ·rename_i e;cases ah;rw[if_pos e];exact⟨b,rfl,λaC=>aeA aC⟩
   ·rename_i e;rw[if_neg e];exact Lp r q v a ah
where Lq {cy aq:bX} {k:Nat} (aa:cy.elem k=true) {v:cC}:∀ {H:bC},bj (jj cy aq H) k=some v->False
 |[],h=>by cases h
 |(j,b)::r,h=>by
  unfold jj at h
  split at h
  ·exact Lq aa h
  ·rename_i e
   rw[cX,if_neg (λd=>by subst d;exact absurd aa (by simp_all))]at h;exact Lq aa h
theorem SO{aB:ev}{i j:Nat}(h:bj aB i=some j){q:Nat}(d:fP q (ml aB)=false):q≠j:=by
 induction aB with
 |nil=>cases h
 |cons p r e=>
  obtain⟨a,b⟩:=p;rw[cX]at h;have c:fP q (b::ml r)=false:=d
  split at h
  ·cases h;exact(hj c).1
  ·exact e h (hj c).2
theorem SP{aB e:ev}:∀ {is:bX} {H h H1:bC},o9 aB e is H=some (h,H1)->nM (ml aB) H H1
 |[],H,h,H1,ak=>by cases ak;exact cB.refl _
 |i::is,H,h,H1,ak=>by
  unfold o9 at ak
  split at ak
  ·rename_i j c
   split at ak
   ·split at ak
    ·rename_i b g f ab d
     cases ak;have I:=SP d;refine((Lo H).trans I).more λq a=>rH.2 ⟨a,sM.2 ⟨SO c a,rfl⟩⟩
    ·cases ak
   ·cases ak
  ·cases ak
theorem SQ{aB:ev}:∀ {h a:bC},sr aB h=some a->∀q,fP q (ml aB)=false->fP q (a.map (·.1))=false
 |[],a,e,q,c=>by cases e;rfl
 |(i,b)::r,a,e,q,c=>by
  unfold sr at e
  split at e
  ·rename_i j k g d ab f
   cases e;exact sM.2 ⟨SO d c,SQ f q c⟩
  ·cases e
theorem afb{X:bz}{n:Nat}{e:bI X}{aB:ev}{st st':aQ}{d:Nat}{args:ej}{p:zA X e}{r:e.aX}(ak:vm X n e aB st.H args=some p)(h:after X e aB st d p r=some st'):dt (d::ml aB) st st':=by
 unfold after at h
 split at h
 ·rename_i i g f b
  have aa:=SQ b
  split at h
  ·cases h
   refine⟨(cB.cons (V:=[]) (cB.refl _)).more λq a=>sM.2 ⟨(hj a).1,rfl⟩,(cB.append (V:=[]) (cB.refl _) rfl).more λq a=>rH.2 ⟨aa q (hj a).2,rfl⟩⟩
  ·cases h
   have I:nM (ml aB) st.H p.H1:=by
    unfold vm at ak
    split at ak
    ·rename_i c
     split at ak
     ·split at ak
      ·cases ak;exact SP c
      ·cases ak
     ·cases ak
    ·cases ak
   refine⟨(cB.cons (V:=[]) (aeC _ _)).more λq a=>sM.2 ⟨(hj a).1,rfl⟩,?_⟩;refine(cB.append (I.trans (Lp (V:=[]) _)) rfl).more λq a=>?_
   have J:=(hj a).2;exact rH.2 ⟨aa q J,rH.2 ⟨rfl,J⟩⟩
 ·cases h
end
section
def Cc(X:bz)(n:Nat)(st:aQ)(d:Nat):Op->Option (Bool×aQ)
 |.index t u x=>match X.aY.find t with
  |some ⟨⟨.string,_,_,_⟩,_⟩=>match bx X st.L u,bx X st.L x with
   |some (g,.c (.str s)),some (g2,.c (.val (.int _ z)))=>some (g&&(g2&&aW z s.length),⟨(d,.c (.val (.int .u8 ((s.getD z.toNat 0).toNat:Int))))::st.L,st.H⟩)
   |_,_=>none
  |some ⟨⟨.array m e,_,_,_⟩,_⟩=>match Lh X e,bx X st.L u,bx X st.L x with
   |some (dQ,g),some (b,q),some (g2,.c (.val (.int _ z)))=>match Fo g m q,beq g.size dQ.aK.size,decEq (mN dQ.aK.desc) g.tN,g.tN || beq g.size 1 with
    |some (c,l),true,isTrue _,true=>match pR g (l.getD z.toNat g.zero)with
     |some sa=>some (b&&(g2&&(c&&(aW z m&&aW z l.length))),⟨(d,.a sa)::st.L,st.H⟩)
     |none=>none
    |_,_,_,_=>none
   |_,_,_=>none
  |_=>none
 |.slice t u lo hi none=>match X.aY.find t,bx X st.L u with
  |some ⟨⟨.string,_,_,_⟩,_⟩,some (g,.c (.str s))=>match lo,hi with
   |some x,none=>match bx X st.L x with
    |some (g2,.c (.val (.int _ z)))=>some (g&&(g2&&(decide (0<=z)&&decide (z<=(s.length:Int)))),⟨(d,.c (.str (s.drop z.toNat)))::st.L,st.H⟩)
    |_=>none
   |none,some x=>match bx X st.L x with
    |some (g2,.c (.val (.int _ z)))=>some (g&&(g2&&(decide (0<=z)&&decide (z<=(s.length:Int)))),⟨(d,.c (.str (s.take z.toNat)))::st.L,st.H⟩)
    |_=>none
   |some x,some y=>match bx X st.L x,bx X st.L y with
    |some (g2,.c (.val (.int _ z))),some (j,.c (.val (.int _ o)))=>some (g&&(g2&&(j&&(decide (0<=z)&&(decide (z<=o)&&decide (o<=(s.length:Int)))))),⟨(d,.c (.str ((s.take o.toNat).drop z.toNat)))::st.L,st.H⟩)
    |_,_=>none
   |none,none=>none
  |_,_=>none
 |.slice t u none (some y) (some v)=>match X.aY.find t,bx X st.L u,bx X st.L y,bx X st.L v with
  |some ⟨⟨.slice e,_,_,_⟩,_⟩,some (b,.c (.aI id)),some (g2,.c (.val (.int _ z))),some (j,.c (.j7 r))=>match X.aY.find e,bj st.H id,beq r id,blt d n&&blt id iG with
   |some _,some (.row T g l cap),true,true=>some (b&&(g2&&(j&&(decide (0<=z)&&decide (z<=(l.length:Int))))),⟨(d,.c (.aI id))::gu id .dead st.L,(id,.row T g (l.take z.toNat) cap)::eE id .dead st.H⟩)
   |_,_,_,_=>none
  |_,_,_,_=>none
 |.call ⟨.builtin .append,⟨[x,y]⟩,⟨[t,k]⟩⟩=>match beq k t,X.aY.find t,bx X st.L x,bx X st.L y with
  |true,some ⟨⟨.slice e,_,_,_⟩,_⟩,some (b,.c (.aI id)),some (g2,ei)=>match X.aY.find e,bj st.H id with
   |some ⟨⟨_,f,i,_⟩,some _⟩,some (.hl h g l)=>match beq h e,beq g.size f,nz st g ei,blt id iG with
    |true,true,some a,true=>some (b&&(g2&&dA i (l.length+a.length)),⟨(d,.c (.aI id))::gu id .dead st.L,(id,.hl e g (l++a))::eE id .dead st.H⟩)
    |_,_,_,_=>none
   |_,_=>none
  |true,some ⟨⟨.slice e,_,_,_⟩,_⟩,some (b,.c (.bJ g l (some c))),some (g2,ei)=>match X.aY.find e with
   |some ⟨⟨_,f,i,_⟩,some _⟩=>match beq g.size f,nz st g ei with
    |true,some a=>some (b&&(g2&&(dA i (l.length+a.length)&&decide (c=l.length))),⟨(d,.c (.aI d))::gu d .dead st.L,(d,.hl e g (l++a))::eE d .dead st.H⟩)
    |_,_=>none
   |_=>none
  |_,_,_,_=>none
 |.call ⟨.builtin .copy,⟨[x,y]⟩,⟨[t,k]⟩⟩=>match beq k t,X.aY.find t,bx X st.L x,bx X st.L y with
  |true,some ⟨⟨.slice e,_,_,_⟩,_⟩,some (b,.c (.aI id)),some (g2,ei)=>match X.aY.find e,bj st.H id with
   |some ⟨⟨_,f,i,_⟩,some _⟩,some (.row h g l cap)=>match beq h e,beq g.size f,nz st g ei with
    |true,true,some a=>some (b&&(g2&&beq a.length l.length),⟨(d,.c (.val (.int .i64 (l.length:Int))))::st.L,e8 id (.row e g a cap) st.H⟩)
    |_,_,_=>none
   |_,_=>none
  |true,some ⟨⟨.slice e,_,_,_⟩,_⟩,some (b,.c (.jS id s p)),some (g2,ei)=>match X.aY.find e,bj st.H id with
   |some ⟨⟨_,f,i,_⟩,some _⟩,some (.row h g l cap)=>match beq h e,beq g.size f,beq s f,nz st g ei,blt 0 f with
    |true,true,true,some a,true=>some (b&&(g2&&decide (p+a.length<=l.length)),⟨(d,.c (.val (.int .i64 (a.length:Int))))::st.L,e8 id (.row e g (l.take p++a++l.drop (p+a.length)) cap) st.H⟩)
    |_,_,_,_,_=>none
   |_,_=>none
  |_,_,_,_=>none
 |_=>none
def Cd(X:bz)(st:aQ):Op->Option (Bool×aQ)
 |.store t x y=>match X.aY.find t,bx X st.L x,bx X st.L y with
  |some bB,some (a,.c (.fg id 1 i 0)),some (g2,.c (.aI d))=>match bj st.H id,bj st.H d,beq bB.aK.size 1 with
   |some (.row T (.aI g) l cap),some (.row _ _ _ _),true=>some (a&&(g2&&decide (i<l.length)),⟨st.L,e8 id (.cW false T g l cap i d) st.H⟩)
   |some (.row T (.ie g) l cap),some (.row _ _ b (some q)),true=>some (a&&(g2&&(decide (i<l.length)&&beq q b.length)),⟨st.L,e8 id (.cW true T g l cap i d) st.H⟩)
   |some (.cf T T' g l cap h),_,true=>some (a&&(g2&&(xm h i&&decide (i<l.length))),⟨st.L,e8 id (.cf T T' g l cap (some (i,some d))) st.H⟩)
   |_,_,_=>none
  |_,_,_=>none
 |_=>none
section
variable {X:bz} {n:Nat} {st st':aQ} {o:Oper} {d:Nat}
theorem afd{e:TypeId}{bB:cv}{g:aV}(h:Lh X e=some (bB,g)):X.aY.find e=some bB/\bB.g=some g:=by
 unfold Lh at h
 split at h
 ·rename_i I
  split at h
  ·rename_i J;cases h;exact⟨I,J⟩
  ·cases h
 ·cases h
theorem afe(b:X.aY.ok X.P){c:Bool}(h:Cd X st o.op=some (c,st'))(U:c=true)(d:o.guard=none/\o.dst=none):hA X n o st st':=by
 unfold Cd at h
 split at h
 ·rename_i a
  split at h
  ·rename_i bg an aG
   split at h
   ·rename_i I J ag
    cases h;simp only[and_eq_true]at U;exact aei b a d bg ag an U.1 aG U.2.1 I J U.2.2
   ·rename_i I J ag
    cases h;simp only[and_eq_true]at U;exact aek b a d bg ag an U.1 aG U.2.1 I J U.2.2.1 U.2.2.2
   ·rename_i I ag
    cases h;simp only[and_eq_true]at U;exact Sw b a d bg ag an U.1 aG U.2.1 I U.2.2.1 U.2.2.2
   ·cases h
  ·cases h
 ·cases h
theorem aff{c:Bool}{op:Op}(h:Cd X st op=some (c,st')):∃id,dt [id] st st'/\(∃t x y a i,op=.store t x y/\bx X st.L x=some (a,.c (.fg id 1 i 0))):=by
 unfold Cd at h
 split at h
 ·split at h
  ·rename_i bg an aG
   split at h
   ·cases h
    exact⟨_,⟨cB.refl _,lv (lx _ _)⟩,_,_,_,_,_,rfl,an⟩
   ·cases h
    exact⟨_,⟨cB.refl _,lv (lx _ _)⟩,_,_,_,_,_,rfl,an⟩
   ·cases h
    exact⟨_,⟨cB.refl _,lv (lx _ _)⟩,_,_,_,_,_,rfl,an⟩
   ·cases h
  ·cases h
 ·cases h
theorem afg(b:X.aY.ok X.P){c:Bool}(h:Cc X n st d o.op=some (c,st'))(U:c=true)(e:o.guard=none/\o.dst=some d)(az:blt d n=true):hA X n o st st':=by
 unfold Cc at h
 split at h
 ·rename_i a
  split at h
  ·rename_i bg
   split at h
   ·rename_i hu an
    cases h;simp only[and_eq_true]at U;exact aeg b a e az bg rfl hu U.1 an U.2.1 U.2.2
   ·cases h
  ·rename_i bg
   split at h
   ·rename_i he hu an
    obtain⟨k,l⟩:=afd he
    split at h
    ·rename_i ag I J _ g
     split at h
     ·rename_i i
      cases h;simp only[and_eq_true]at U;exact aen _ _ _ b a e az bg rfl k J ag g hu U.1 an U.2.1 I U.2.2.1 U.2.2.2.1 U.2.2.2.2 i
     ·cases h
    ·cases h
   ·cases h
  ·cases h
 ·rename_i a
  split at h
  ·rename_i bg hu
   split at h
   ·split at h
    ·rename_i an
     cases h;simp only[and_eq_true]at U;exact aeo b a e az bg rfl hu U.1 an U.2.1 U.2.2.1 U.2.2.2
    ·cases h
   ·split at h
    ·rename_i an
     cases h;simp only[and_eq_true]at U;exact aep b a e az bg rfl hu U.1 an U.2.1 U.2.2.1 U.2.2.2
    ·cases h
   ·split at h
    ·rename_i an aG
     cases h;simp only[and_eq_true]at U;exact aeq b a e az bg rfl hu U.1 an U.2.1 aG U.2.2.1 U.2.2.2.1 U.2.2.2.2.1 U.2.2.2.2.2
    ·cases h
   ·cases h
  ·cases h
 ·rename_i a
  split at h
  ·rename_i bg hu aG j
   split at h
   ·rename_i he ah hid ba
    cases h
    have:=eq_of_beq_eq_true hid
    subst this;rw[and_eq_true,and_eq_true,and_eq_true]at U;exact aev b a e ba bg rfl he hu U.1 aG U.2.1 j U.2.2.1 ah U.2.2.2
   ·cases h
  ·cases h
 ·rename_i a
  split at h
  ·rename_i f bg an aG
   have:=eq_of_beq_eq_true f
   subst this
   split at h
   ·rename_i he ah
    split at h
    ·rename_i I J ag g
     have:=eq_of_beq_eq_true I
     subst this;cases h;simp only[and_eq_true]at U;exact adU b a e (by rw[az,g];rfl) bg rfl he an U.1 aG U.2.1 ah J ag U.2.2
    ·cases h
   ·cases h
  ·rename_i f bg an aG
   have:=eq_of_beq_eq_true f
   subst this
   split at h
   ·rename_i he
    split at h
    ·rename_i J ag
     cases h;simp only[and_eq_true]at U;exact aer b a e az bg rfl he an U.1 aG U.2.1 J ag U.2.2.1 U.2.2.2
    ·cases h
   ·cases h
  ·cases h
 ·rename_i a
  split at h
  ·rename_i f bg an aG
   have:=eq_of_beq_eq_true f
   subst this
   split at h
   ·rename_i he ah
    split at h
    ·rename_i I J ag
     have:=eq_of_beq_eq_true I
     subst this;cases h;simp only[and_eq_true]at U;exact ad2 b a e az bg rfl he an U.1 aG U.2.1 ah J ag U.2.2
    ·cases h
   ·cases h
  ·rename_i f bg an aG
   have:=eq_of_beq_eq_true f
   subst this
   split at h
   ·rename_i he ah
    split at h
    ·rename_i I J g ag i
     have:=eq_of_beq_eq_true I
     subst this;cases h;simp only[and_eq_true]at U;exact aet b a e az bg rfl he an U.1 aG U.2.1 ah J g ag i U.2.2
    ·cases h
   ·cases h
  ·cases h
 ·cases h
def xt(X:bz)(st:aQ)(d:Nat):Op->bX
 |.call ⟨.builtin _,⟨[x,_]⟩,_⟩=>match bx X st.L x with
  |some (_,.c (.aI id))=>[d,id]
  |some (_,.c (.jS id _ _))=>[d,id]
  |_=>[d]
 |.slice _ u none (some _) (some _)=>match bx X st.L u with
  |some (_,.c (.aI id))=>[d,id]
  |_=>[d]
 |_=>[d]
def SR(X:bz)(st:aQ):Op->bX
 |.store _ x _=>match bx X st.L x with
  |some (_,.c (.fg id _ _ _))=>[id]
  |_=>[]
 |_=>[]
theorem qC{sv:b8}:dt [d] st ⟨(d,sv)::st.L,st.H⟩:=⟨cB.cons (V:=[]) (cB.refl _),(cB.refl _)⟩
theorem afh{c:Bool}{op:Op}(h:Cc X n st d op=some (c,st')):dt (xt X st d op) st st':=by
 unfold Cc at h
 split at h
 ·split at h
  ·split at h
   ·cases h;exact qC
   ·cases h
  ·split at h
   ·split at h
    ·split at h
     ·cases h;exact qC
     ·cases h
    ·cases h
   ·cases h
  ·cases h
 ·split at h
  ·split at h
   ·split at h
    ·cases h;exact qC
    ·cases h
   ·split at h
    ·cases h;exact qC
    ·cases h
   ·split at h
    ·cases h;exact qC
    ·cases h
   ·cases h
  ·cases h
 ·split at h
  ·rename_i bg hu aG f
   split at h
   ·cases h
    unfold xt;simp only[hu];exact⟨cB.cons (l0 _ _ _),(cB.cons (k5 _ _ _)).more λq a=>(hj a).2⟩
   ·cases h
  ·cases h
 ·split at h
  ·rename_i b bg an aG
   split at h
   ·split at h
    ·cases h
     unfold xt;simp only[an];exact⟨cB.cons (l0 _ _ _),(cB.cons (k5 _ _ _)).more λq a=>(hj a).2⟩
    ·cases h
   ·cases h
  ·rename_i b bg an aG
   split at h
   ·split at h
    ·cases h
     unfold xt;simp only[an];exact⟨cB.cons (l0 _ _ _),cB.cons (k5 _ _ _)⟩
    ·cases h
   ·cases h
  ·cases h
 ·split at h
  ·rename_i b bg an aG
   split at h
   ·split at h
    ·cases h
     unfold xt;simp only[an];exact⟨(cB.cons (V:=[]) (cB.refl _)).more λq a=>by
      obtain⟨I,_⟩:=hj a;unfold fP
      split
      ·rename_i e;exact absurd (eq_of_beq_eq_true e).symm I
      ·rfl,lv (by unfold fP;split<;>first|rfl|(exact lx _ _))⟩
    ·cases h
   ·cases h
  ·rename_i b bg an aG
   split at h
   ·split at h
    ·cases h
     unfold xt;simp only[an];exact⟨(cB.cons (V:=[]) (cB.refl _)).more λq a=>by
      obtain⟨I,_⟩:=hj a;unfold fP
      split
      ·rename_i e;exact absurd (eq_of_beq_eq_true e).symm I
      ·rfl,lv (by unfold fP;split<;>first|rfl|(exact lx _ _))⟩
    ·cases h
   ·cases h
  ·cases h
 ·cases h
def xu(X:bz)(n:Nat)(st:aQ)(o:Oper):Option (Bool×aQ×bX):=match o.guard with
 |none=>match o.dst with
  |some d=>match blt d n with
   |true=>match zK X st o.op with
    |some (c,sa)=>some (c,⟨(d,.a sa)::st.L,st.H⟩,[d])
    |none=>match Cc X n st d o.op with
     |some (c,st')=>some (c,st',xt X st d o.op)
     |none=>none
   |false=>none
  |none=>match Cd X st o.op with
   |some (c,st')=>some (c,st',SR X st o.op)
   |none=>none
 |some _=>none
theorem jG.sN{sa:bp}(ak:jG X st o sa)(b:o.guard=none/\o.dst=some d)(az:blt d n=true):hA X n o st ⟨(d,.a sa)::st.L,st.H⟩:=by
 intro R W aD aq env B ai H a w ad KK l e;obtain⟨v,I,J⟩:=ak ad;exact hM ad.bW b.1 b.2 (dS az) (J w λ_=>ad.aT) λaU c=>e aU w env H (ad.set I c)
theorem Lr(b:X.aY.ok X.P){c:Bool}{V:bX}(h:xu X n st o=some (c,st',V))(U:c=true):hA X n o st st':=by
 unfold xu at h
 split at h
 ·rename_i a
  split at h
  ·rename_i d az
   split at h
   ·rename_i ab
    split at h
    ·rename_i e
     cases h;exact jG.sN (λad=>FM b e U ad) ⟨a,az⟩ ab
    ·split at h
     ·rename_i e
      cases h;exact afg b e U ⟨a,az⟩ ab
     ·cases h
   ·cases h
  ·rename_i az
   split at h
   ·rename_i e
    cases h;exact afe b e U ⟨a,az⟩
   ·cases h
 ·cases h
theorem Ls{c:Bool}{V:bX}(h:xu X n st o=some (c,st',V)):dt V st st':=by
 unfold xu at h
 split at h
 ·split at h
  ·split at h
   ·split at h
    ·cases h;exact qC
    ·split at h
     ·rename_i e
      cases h;exact afh e
     ·cases h
   ·cases h
  ·split at h
   ·rename_i e
    cases h;obtain⟨id,I,t,x,y,b,i,a,J⟩:=aff e;unfold SR;rw[a];simp only[J];exact I
   ·cases h
 ·cases h
end
end
section
set_option linter.unusedSectionVars false
theorem afi{P:Program}{aY:cb}(av:aY.ok P)(e:Bool)(m:Nat):∀(k:Nat) (t:TypeId) (g:aV) (x:g.D) (w:World),g.key=true->mq P aY k t g=true->(Instr.checkKey e (m+k) t (rC aY t (g.c1 x))).run P w=.ok () w:=by
 intro k
 induction k with
 |zero=>intro t g x w _ h;cases h
 |succ k bD=>
  intro t g x w aa h;unfold mq at h;cases aC:aY.find t with
  |none=>simp[aC]at h
  |some bB=>
   rw[aC]at h;dsimp only at h;have hS:=(cb.get av aC).aK.1;unfold rC;rw[aC];dsimp only
   split at h
   ·rename_i jW az
    rw[az]at hS ⊢;cases g with
    |int eT=>
     unfold Instr.checkKey
     simp[run_underlying hS,Result.andThen]
    |_=>cases h
   ·rename_i az
    rw[az]at hS ⊢;cases g with
    |bool=>
     unfold Instr.checkKey
     simp[run_underlying hS,Result.andThen]
    |_=>cases h
   ·rename_i az
    rw[az]at hS ⊢;cases g with
    |str=>
     unfold Instr.checkKey
     simp[run_underlying hS,Result.andThen]
    |_=>cases h
   ·rename_i du az
    rw[az]at hS ⊢;simp only[and_eq_true,not_eq_true']at h;show(Instr.checkKey e (m+k+1) t (.agg (g.c1 x).toArray)).run P w=_;rw[Instr.checkKey];simp only[Sem.run_bind,run_underlying hS,Result.andThen_ok];rw[<- Array.forIn_toList];have J:=h.2.2
    clear hS az h
    obtain⟨xs,sE⟩:∃xs:Array Value,xs=(g.c1 x).toArray:=⟨_,rfl⟩
    rw[<- sE];have an:xs.toList.drop 0=g.c1 x:=by rw[sE];simp
    clear sE
    obtain⟨off,SS⟩:∃off:Nat,off=0:=⟨_,rfl⟩
    rw[<- SS]at J an
    clear SS
    generalize du.toList=L at J
    induction L generalizing off g with
    |nil=>simp[k4]at J
    |cons f L BR=>
     cases L with
     |nil=>
      have aR : (decide (f.name ≠ "_") && (beq f.offset off && mq P aY k f.type g)) = true := by
       cases g<;>exact J
      simp only[and_eq_true,decide_eq_true_eq]at aR;obtain⟨ba,bh,he⟩:=aR;have bh:=eq_of_beq_eq_true bh;simp only[List.forIn_cons,List.forIn_nil,Sem.run_bind,ba,ne_eq,not_false_eq_true,if_true,bh,zr av aa he (by rw[an,append_nil]),Result.andThen_ok,bD _ _ _ _ aa he,Sem.run_pure]
     |cons f2 L=>
      cases g with
      |pair g ag=>
       have aR : (decide (f.name ≠ "_") && (beq f.offset off && (mq P aY k f.type g && k4 (mq P aY k) (off + g.size) (f2 :: L) ag))) = true := J
       simp only[and_eq_true,decide_eq_true_eq]at aR;obtain⟨ba,bh,he,ax⟩:=aR;have bh:=eq_of_beq_eq_true bh;simp only[aV.key,and_eq_true]at aa;have o5:xs.toList.drop off=g.c1 x.1++ag.c1 x.2:=an;have pN:=BR ag x.2 aa.2 (off+g.size) (by rw[<- List.drop_drop,o5,<- zq x.1 aa.1,List.drop_left]) ax;rw[List.forIn_cons];simp only[Sem.run_bind,ba,ne_eq,not_false_eq_true,if_true,bh,zr av aa.1 he o5,Result.andThen_ok,bD _ _ _ _ aa.1 he,Sem.run_pure];exact pN
      |int _=>simp[k4]at J
      |bool=>simp[k4]at J
      |str=>simp[k4]at J
      |aI _=>simp[k4]at J
      |ie _=>simp[k4]at J
      |unit=>simp[k4]at J
      |fn=>simp[k4]at J
   ·cases h
structure qD(P:Program)(t:TypeId)(g:aV):Prop where
 eq:vi P t g
 zN:∀(e:Bool) (x:g.D) (w:World),(Instr.checkKey e 10000 t (.agg (g.c1 x).toArray)).run P w=.ok () w
 str:∃du,P.underlying t=some (.struct du)
 sO:∃a b,g=.pair a b
theorem qD.of{P:Program}{aY:cb}(c:aY.ok P){t:TypeId}{bB:cv}{a b:aV}{du:Array Field}(aa:(aV.pair a b).key=true)(aC:aY.find t=some bB)(az:bB.aK.desc=.struct du)(h:mq P aY 12 t (.pair a b)=true)(d:P.eqGuardType P.depth t=false):qD P t (.pair a b):=by
 refine⟨.of c aa aC az h d,λe x w=>?_,⟨du,?_⟩,⟨_,_,rfl⟩⟩
 ·have:=afi c e 9988 12 t (.pair a b) x w aa h
  unfold rC at this;rw[aC]at this;dsimp only at this;rw[az]at this;exact this
 ·have:=(cb.get c aC).aK.1
  rw[az]at this;exact this
section
variable {P:Program} {B:Nat->Prop} {w:World} {gk gv:aV} {t:TypeId}
theorem ez.key{g:aV}(c:∃a b,g=.pair a b)(aa:g.key=true){x:g.D}{v:Value}(h:ez B w g x v):v=.agg (g.c1 x).toArray:=by
 obtain⟨a,b,rfl⟩:=c;obtain⟨vs,e,I⟩:=h;rw[e,bN.c1 aa I]
theorem ez.Lt{g:aV}(c:∃a b,g=.pair a b)(aa:g.key=true)(x:g.D):ez B w g x (.agg (g.c1 x).toArray):=by
 obtain⟨a,b,rfl⟩:=c;exact⟨_,rfl,Lu aa x⟩
where Lu:∀ {g:aV} (aa:g.key=true) (x:g.D),bN B w g x (g.c1 x)
 |.int _,_,_=>rfl
 |.bool,_,_=>rfl
 |.str,_,_=>rfl
 |.aI _,h,_=>by cases h
 |.ie _,h,_=>by cases h
 |.unit,h,_=>by cases h
 |.fn,h,_=>by cases h
 |.pair g h,aa,x=>by
  simp only[aV.key,and_eq_true]at aa;exact⟨_,_,rfl,Lu aa.1 x.1,Lu aa.2 x.2⟩
theorem SU{g:aV}{x y:g.D}(aa:g.key=true):g.beq x y=g.beq y x:=by
 cases I:g.beq x y with
 |true=>exact((beq_iff y x aa).2 ((beq_iff x y aa).1 I).symm).symm
 |false=>
  cases J:g.beq y x with
  |true=>rw[(beq_iff x y aa).2 ((beq_iff y x aa).1 J).symm]at I;cases I
  |false=>rfl
theorem FT(a:qD P t gk)(x y:gk.D)(b6:World):(Op.equal t (.agg (gk.c1 x).toArray) (.agg (gk.c1 y).toArray)).run P b6=.ok (gk.beq x y) b6:=a.eq.eq x y b6
theorem gd.Ce(a:qD P t gk){z:gk.D}(b6:World):∀ {l:List (gk.D×gv.D)} {b:List MapEntry} (i:Nat),gd B w gk gv l b ->
  (de gk gv l z=none/\(Instr.findAsking t (.agg (gk.c1 z).toArray) b i).run P b6=.ok none b6)\/∃x j v,de gk gv l z=some x/\(Instr.findAsking t (.agg (gk.c1 z).toArray) b i).run P b6=.ok (some (i+j,v)) b6/\ez B w gv x v/\j<b.length
 |[],_,i,h=>by rw[show _=[] from h];exact .inl ⟨rfl,rfl⟩
 |x::l,_,i,⟨e,r,he,I,J,ag⟩=>by
  subst he;have aa:=ez.key a.sO a.eq.key I;unfold Instr.findAsking de;rw[aa];simp only[Sem.run_bind,FT a z x.1 b6,Result.andThen_ok];rw[SU (y:=x.1) a.eq.key];cases ab:gk.beq x.1 z with
  |true=>exact .inr ⟨x.2,0,e.val,rfl,rfl,J,by simp⟩
  |false=>
   rcases gd.Ce a b6 (i+1) ag with⟨ar,aF⟩|⟨y,j,v,ar,aF,a7,b1⟩
   ·exact .inl ⟨ar,by simpa using aF⟩
   ·exact .inr ⟨y,j+1,v,ar,by simpa [add_assoc,add_comm 1 j] using aF,a7,by simpa using b1⟩
theorem gd.zO(a:qD P t gk){z:gk.D}{fO:gv.D}{vv:Value}(b6:World)(c:ez B w gv fO vv):∀ {l:List (gk.D×gv.D)} {b:List MapEntry} (i:Nat),gd B w gk gv l b ->
  ((Instr.findAsking t (.agg (gk.c1 z).toArray) b i).run P b6=.ok none b6/\eS gk gv l z fO=l++[(z,fO)]) \/
  ∃j v e,(Instr.findAsking t (.agg (gk.c1 z).toArray) b i).run P b6=.ok (some (i+j,v)) b6/\b[j]?=some e/\e.key=.agg (gk.c1 z).toArray/\gd B w gk gv (eS gk gv l z fO) (b.modify j λe=>{ e with key:=.agg (gk.c1 z).toArray,val:=vv })
 |[],_,i,h=>by rw[show _=[] from h];exact .inl ⟨rfl,rfl⟩
 |x::l,_,i,⟨e,r,he,I,J,ag⟩=>by
  subst he;have aa:=ez.key a.sO a.eq.key I;unfold Instr.findAsking eS;rw[aa];simp only[Sem.run_bind,FT a z x.1 b6,Result.andThen_ok];rw[SU (y:=x.1) a.eq.key];cases ab:gk.beq x.1 z with
  |true=>
   have bF:=(beq_iff x.1 z a.eq.key).1 ab;refine .inr ⟨0,e.val,e,rfl,rfl,by rw[aa,bF],{ e with key:=.agg (gk.c1 z).toArray,val:=vv },r,rfl,?_,c,ag⟩;rw[bF];exact ez.Lt a.sO a.eq.key z
  |false=>
   rcases gd.zO a b6 c (i+1) ag with⟨ar,aF⟩|⟨j,v,cm,ar,aF,a7,b1⟩
   ·exact .inl ⟨by simpa using ar,by show x::eS gk gv l z fO=_;rw[aF];rfl⟩
   ·exact .inr ⟨j+1,v,cm,by simpa [add_assoc,add_comm 1 j] using ar,by simpa using aF,a7,e,_,rfl,I,J,b1⟩
theorem sP{du:Array Field}(hu:P.underlying t=some (.struct du)){k:Value}{a:List MapEntry}{r:Option (Nat×Value)}{b6:World}(h:(Instr.findAsking t k a 0).run P b6=.ok r b6):(Instr.findKey t k a).run P b6=.ok r b6:=by
 unfold Instr.findKey;simp only[Sem.run_bind,run_underlying hu,Result.andThen_ok];cases a with
 |nil=>exact h
 |cons e a=>
  have:Instr.findNow (.struct du) k (e::a) 0=none:=by
   rfl
  exact h
theorem FU:∀ {g:aV},g.key=true->∀(x:g.D) (n:Nat),∀v∈g.c1 x,Instr.sameBits n v v=true
 |.int _,_,x,n,v,aH=>by
  rw[List.mem_singleton.1 aH];cases n<;>simp[Instr.sameBits]
 |.bool,_,x,n,v,aH=>by
  rw[List.mem_singleton.1 aH];cases n<;>simp[Instr.sameBits]
 |.str,_,x,n,v,aH=>by
  rw[List.mem_singleton.1 aH];have ab:(toArray (show dU from x)==toArray (show dU from x))=true:=beq_self_eq_true _;cases n with
  |zero=>exact ab
  |succ n=>exact ab
 |.aI _,h,_,_,_,_=>by cases h
 |.ie _,h,_,_,_,_=>by cases h
 |.unit,h,_,_,_,_=>by cases h
 |.fn,h,_,_,_,_=>by cases h
 |.pair g h,aa,x,n,v,aH=>by
  simp only[aV.key,and_eq_true]at aa
  rcases List.mem_append.1 aH with aH|aH
  ·exact FU aa.1 x.1 n v aH
  ·exact FU aa.2 x.2 n v aH
theorem SV{vs:bY}(h:∀n,∀v∈vs,Instr.sameBits n v v=true):Instr.sameBits 10000 (.agg vs.toArray) (.agg vs.toArray)=true:=by
 unfold Instr.sameBits;simp only[beq_self_eq_true,Bool.true_and,List.all_eq_true];rintro⟨a,b⟩ k3
 have:a=b/\a∈vs:=by
  clear h
  induction vs with
  |nil=>cases k3
  |cons v vs c=>
   simp only[List.zip_cons_cons,List.mem_cons,Prod.mk.injEq]at k3
   rcases k3 with⟨rfl,rfl⟩|k3
   ·exact⟨rfl,mem_cons_self⟩
   ·obtain⟨d,e⟩:=c k3
    exact⟨d,mem_cons_of_mem _ e⟩
 obtain⟨rfl,f⟩:=this;exact h _ _ f
end
section
variable {X:bz} {n:Nat} {st:aQ} {o:Oper} {d:Nat}
theorem afj(h:X.aY.ok X.P){t fi fV:TypeId}{bB dQ:cv}{gk gv:aV}{u x:Operand}{id:Nat}{l:List (gk.D×gv.D)}{jl:Option (List MapEntry×Nat)}{z:gk.D}{g c:Bool}{fS sa:bp}(e:qD X.P fi gk)(p:o.op=.lookup t u x false)(i:o.guard=none/\o.dst=some d)(az:blt d n=true)(bg:X.aY.find t=some bB)(dm:bB.aK.desc=.map fi fV)(he:X.aY.find fV=some dQ)(bF:∀B w,ez B w gv gv.zero dQ.aK.zero)(hu:bx X st.L u=some (true,.c (.dI id)))(an:bx X st.L x=some (g,fS))(r:g=true)(nO:dec gk fS.cells=some (c,z,[]))(U:c=true)(O:mo gk fS=true)(s:bj st.H id=some (.mp gk gv l jl))(mY:pR gv ((de gk gv l z).getD gv.zero)=some sa)
  : hA X n o st ⟨(d,.a sa)::st.L,st.H⟩:=by
 intro R W aD aq env B ai H a w ad KK S A;obtain⟨Q,I,b,ab,rfl⟩:=ad.aJ hu rfl;obtain⟨vx,J,ag⟩:=ad.aJ an r;have F:=ez.key e.sO e.eq.key (ez.vf nO U O ag);rw[F]at J;obtain⟨eQ,K,⟨b',P,clock,m,rfl,L,c7,_⟩,D⟩:=ad.heap.gQ s;rw[ab]at m;cases m;have E:=(ad.aT.ok _ D.more.mem).2;have f:=(cb.get h bg).aK.1;rw[dm]at f;obtain⟨du,k⟩:=e.str;have G:=bK.se (cb.get h he).aK w;have M:∃v,(Instr.lookup t (.map (some b)) (.agg (gk.c1 z).toArray) false).run X.P w=.ok v w/\ez B ai gv ((de gk gv l z).getD gv.zero) v:=by
  unfold Instr.lookup;simp only[Sem.run_bind,run_underlying f,Result.andThen_ok,MapKept.run_getObj_map E,e.zN,Sem.run_pure]
  rcases L.Ce e w 0 with⟨ar,aF⟩|⟨y,j,v,ar,aF,a7,_⟩
  ·refine⟨dQ.aK.zero,?_,by rw[ar];exact bF _ _⟩
   simp[sP k aF,G,Result.andThen]
  ·refine⟨v,?_,by rw[ar];exact a7⟩
   simp[sP k aF,Result.andThen]
 obtain⟨v,C,N⟩:=M;refine(hM ad.bW i.1 i.2 (dS az) (v:=v) (w':=w) ?_ λaU q=>?_)
 ·simp[execOp,p,ad.bW.aJ I,ad.bW.aJ J,C]
 ·exact A aU _ env H (ad.set (N.sa mY) q)
theorem afk(T:X.aY.ok X.P){t fi fV:TypeId}{bB:cv}{gk gv:aV}{u x y:Operand}{id:Nat}{l:List (gk.D×gv.D)}{jl:Option (List MapEntry×Nat)}{z:gk.D}{g g2 c cK:Bool}{fS ei:bp}{fO:gv.D}(d:qD X.P fi gk)(N:o.op=.mapUpdate t u x y)(C:o.guard=none/\o.dst=none)(bg:X.aY.find t=some bB)(dm:bB.aK.desc=.map fi fV)(hu:bx X st.L u=some (true,.c (.dI id)))(an:bx X st.L x=some (g,fS))(Q:g=true)(nO:dec gk fS.cells=some (c,z,[]))(U:c=true)(au:mo gk fS=true)(aG:bx X st.L y=some (g2,ei))(Z:g2=true)(V:bj st.H id=some (.mp gk gv l jl))(ap:dec gv ei.cells=some (cK,fO,[]))(aj:cK=true)(ac:mo gv ei=true)
  : hA X n o st ⟨st.L,e8 id (.mp gk gv (eS gk gv l z fO) none) st.H⟩:=by
 intro R W aD aq env B ai H a w ad KK aw Y;obtain⟨av,I,b,ab,rfl⟩:=ad.aJ hu rfl;obtain⟨vx,J,ag⟩:=ad.aJ an Q;have af:=ez.key d.sO d.eq.key (ez.vf nO U au ag);rw[af]at J;obtain⟨vy,S,O⟩:=ad.aJ aG Z;have L:=ez.vf ap aj ac O;obtain⟨eQ,K,⟨b',m,clock,E,rfl,G,c7,_⟩,F,ae⟩:=ad.oS (b':=.mp gk gv (eS gk gv l z fO) none) V;rw[ab]at E;cases E;have r:=(ad.aT.ok _ F.mem).2;have s:=(cb.get T bg).aK.1;rw[dm]at s;obtain⟨du,D⟩:=d.str;have am:∃i k,(Instr.mapUpdate t (.map (some b)) (.agg (gk.c1 z).toArray) vy).run X.P w=.ok () { w with heap:=w.heap.setIfInBounds b (.map i.toArray k) }/\gd B ai gk gv (eS gk gv l z fO) i/\n5 i k:=by
  unfold Instr.mapUpdate;simp only[Sem.run_bind,run_underlying s,Result.andThen_ok,MapKept.run_getObj_map r,d.zN]
  rcases G.zO d w L (z:=z) 0 with⟨a7,b1⟩|⟨j,v,e,a7,b1,dn,al⟩
  ·refine⟨m++[MapEntry.mk (.agg (gk.c1 z).toArray) vy clock],clock+1,?_,?_,?_⟩
   ·simp only[sP D a7,Result.andThen_ok,MapKept.run_setObj_map _ r]
    simp
   ·rw[b1]
    exact gd.snoc (ez.Lt d.sO d.eq.key z) L G
   ·refine⟨?_,?_⟩
    ·rw[map_append,pairwise_append]
     exact⟨c7.1,by simp,λp ak q A=>by simp at A;subst A;exact c7.2 p ak⟩
    ·intro p ak
     rw[map_append,List.mem_append]at ak
     rcases ak with ak|ak
     ·exact Nat.lt_succ_of_lt (c7.2 p ak)
     ·simp at ak;omega
  ·refine⟨m.modify j λe=>{ e with key:=.agg (gk.c1 z).toArray,val:=vy },clock,?_,al,?_⟩
   ·rw[zero_add]at a7
    have ao:(Instr.keyThatStays (((m.toArray[j]?).map (·.key)).getD (.agg (gk.c1 z).toArray)) (.agg (gk.c1 z).toArray)).run X.P w=.ok (.agg (gk.c1 z).toArray) w:=by
     have:((m.toArray[j]?).map (·.key)).getD (.agg (gk.c1 z).toArray)=.agg (gk.c1 z).toArray:=by simp[b1,dn]
     rw[this];unfold Instr.keyThatStays;rw[SV λn=>FU d.eq.key z n]
     rfl
    simp only[sP D a7,Result.andThen_ok,Sem.run_bind,ao,MapKept.run_setObj_map _ r]
    simp
   ·rw[n5,zm (f:=λe=>{ e with key:=.agg (gk.c1 z).toArray,val:=vy }) (λ_=>rfl)]
    exact c7
 obtain⟨i,k,aa,M,ar⟩:=am;refine(A1 ad.bW C.1 C.2 (w':={ w with heap:=w.heap.setIfInBounds b (.map i.toArray k) }) ?_ λaU P=>?_)
 ·simp[execOp,N,ad.bW.aJ I,ad.bW.aJ J,ad.bW.aJ S,aa]
 ·obtain⟨H',ah⟩:=ae _ aU _ ⟨b,i,k,ab,rfl,M,ar,λ_ h=>by cases h⟩ (ad.aT.wF F) P
  exact Y aU _ env H' (ah)
end
end
section
set_option linter.unusedSectionVars false
section
variable {X:bz} {R:Nat->Prop} {W:World} {aD:fk} {n:Nat} {aq:bX} {env:Nat->Loc} {B:Nat->Prop} {ai:World} {H:cI} {st:aQ} {a aU:Act} {w:World} {d:Nat} {o:Oper}
theorem afl(Y:X.aY.ok X.P){t T T':TypeId}{bB:cv}{x:Operand}{id i:Nat}{g:aV}{l:List (Bool×List g.D)}{cap:Option Nat}{M:Bool}(U:o.op=.load t x)(E:o.guard=none/\o.dst=some d)(az:blt d n=true)(bg:X.aY.find t=some bB)(av:mN bB.aK.desc=false)(an:bx X st.L x=some (M,.c (.fg id 1 i 0)))(ab:M=true)(D:bj st.H id=some (.cf T T' g l cap none))(Z:beq d id=false)(hi:decide (i<l.length)=true)(J:(l.getD i (false,[])).1=true)
  : hA X n o st ⟨(d,.c (.aI d))::gu d .dead st.L,(d,.row T' g (l.getD i (false,[])).2 none)::e8 id (.cf T T' g l cap (some (i,some d))) (eE d .dead st.H)⟩:=by
 intro R W aD aq env B ai H a w ad KK aK aa;have F:=of_decide_eq_true hi;have z:id≠d:=λe=>ne_of_beq_false Z e.symm
 obtain⟨vx,I,b,c,m,he,rfl⟩:=ad.aJ an ab;obtain⟨c0,aC,⟨A,k,ys,y,a6,G,rfl,P,au,ae⟩,Q⟩:=ad.heap.gQ D;rw[he]at G;cases G;have aA:=au;subst aA;obtain⟨v,fC,C,S,ax⟩:=ec.hole (show ec B ai T' g l y a6 from P) F
 rcases ax with⟨_,dG,eT,hx,rfl,gH,kz⟩|⟨K6,_⟩
 ·have aH:=ec.length (show ec B ai T' g l y a6 from P)
  have ar:w.cell? ⟨b,i * 1+0,none⟩=some (.slice dG (l.getD i (false,[])).2.length eT):=by
   have ah:gq w (λk=>R k\/B k) T 1 (some ⟨b,0,none⟩) c l.length y:=(ad.aT.ok _ Q.more.mem).1 _ mem_cons_self;rw[ah.cells rfl _ (by omega)]
   simpa using C
  refine hM ad.bW E.1 E.2 (dS az) (w':=w) (yR ad.bW U (cb.get Y bg).aK av I ar) λaU j=>?_
  obtain⟨H2,af,f⟩:=ad.Sq az (.row dG eT (l.getD i (false,[])).2.length);obtain⟨fD,aF,aj,⟨am,ao,aw,rfl⟩,ak⟩:=f.heap.put (B3 z D);subst aw;obtain⟨aE,aJ,aI,r,aB,O,rfl,_⟩:=aj;rw[ku id z,he]at O;cases O;have N:=ad.aT.same (c:=.tree (⟨some ⟨b,0,none⟩,c,T,1,l.length,r⟩::aB)) (mem_append_left _ (af.subset (by simp))) Q.more.mem ⟨_,mem_cons_self,rfl⟩ ⟨_,mem_cons_self,rfl⟩;simp only[bo.tree.injEq,List.cons.injEq,hk.mk.injEq,true_and]at N;obtain⟨rfl,rfl⟩:=N
  let p:hk:=⟨dG,eT,T',g.size,(l.getD i (false,[])).2.length,hx⟩
  let L:hk:=⟨some ⟨b,0,none⟩,c,T,1,l.length,r⟩
  have K:=f.aT;rw[append_assoc,cons_append]at K;have al:=K.A3 ⟨p::L::fC,(List.Perm.cons _ kz).trans (List.Perm.swap _ _ _),List.Sublist.refl _⟩;have ap:=al.Er;refine aa aU w _ (p.eQ::(am++.tree (L::fC)::ao)) ⟨j.size,j.defs,λs u q=>?_,⟨_,_,rfl,⟨dG,eT,hx,fx,rfl,gH,λ_ h=>by cases h⟩,ak _ _ ⟨_,c,r.set i (.slice none 0 0),r,fC,by rw[ku id z];exact he,rfl,S,⟨F,.slice dG (l.getD i (false,[])).2.length eT,?_,λaG ay=>by cases ay;exact⟨dG,eT,_,fx,rfl⟩⟩,ae⟩⟩,by rw[cons_append,append_assoc,cons_append];exact ap,f.sub,f.new,f.dP,f.base,f.eu⟩
  ·rw[cX]at q
   split at q
   ·rename_i e;subst e;cases q;exact⟨_,j.this,_,_,_,fx,rfl⟩
   ·rename_i e
    obtain⟨ac,ag,V⟩:=f.has s u q;exact⟨ac,j.other e ag,V⟩
  ·rw[set_set]
   exact(List.Sp C).symm
 ·rw[K6]at J;cases J
theorem afm(T':TypeId)(i:aV)(h:X.aY.ok X.P){t e:TypeId}{bB dQ:cv}{x y:Operand}{k k':IntKind}{b f:Int}{A g2:Bool}{T:aV}(E:o.op=.makeSlice t x y)(l:o.guard=none/\o.dst=some d)(az:blt d n=true)(bg:X.aY.find t=some bB)(dm:bB.aK.desc=.slice e)(he:X.aY.find e=some dQ)(Z:dQ.g=some (.aI T))(an:bx X st.L x=some (A,.c (.val (.int k b))))(P:A=true)(aG:bx X st.L y=some (g2,.c (.val (.int k' f))))(N:g2=true)(U:(decide (0<=b)&&decide (b<=f)&&gR dQ.aK.bytes f)=true)
  : hA X n o st ⟨(d,.c (.aI d))::gu d .dead st.L,(d,.cf e T' i (replicate b.toNat (true,[])) (some f.toNat) none)::eE d .dead st.H⟩:=by
 intro R W aD aq env B ai H a w ad KK aa M;obtain⟨vx,D,V⟩:=ad.aJ an P;obtain⟨vy,C,S⟩:=ad.aJ aG N;simp only[and_eq_true,decide_eq_true_eq]at U;obtain⟨⟨fm,jT⟩,jU⟩:=U;obtain⟨jU,tt⟩:=(Qf (by omega)).1 jU;rw[show vx=_ from V]at D;rw[show vy=_ from S]at C;obtain⟨I,J,ag⟩:=(cb.get h he).g _ Z;have j:=(cb.get h bg).aK.1;rw[dm]at j;have u:=I.symm;have Y:dQ.aK.zero.cells.toList=[.slice none 0 0]:=J;obtain⟨p,cW⟩:=QH ad.aT j (cb.get h he).aK (z:=[.slice none 0 0]) (by rw[<- Y]) (by rw[u];rfl) (by omega) (k:=k) (k':=k') (m:=b.toNat) (c:=f.toNat) (by omega) (by
  have:((dQ.aK.bytes * f.toNat:Nat):Int)=(dQ.aK.bytes:Int) * f:=by rw[Int.natCast_mul,Int.toNat_of_nonneg (by omega)]
  omega) (by omega)
 rw[Int.toNat_of_nonneg fm,Int.toNat_of_nonneg (by omega)]at p;refine hM ad.bW l.1 l.2 (dS az) (v:=.slice (some ⟨w.heap.size,0,none⟩) b.toNat f.toNat) (w':=w.alloc (.cells (ff [.slice none 0 0] f.toNat).toArray e)) (by simp[execOp,E,ad.bW.aJ D,ad.bW.aJ C,p]) λaU F=>?_
 obtain⟨a6,Q,ba⟩:=ec.So (T':=T') b.toNat;have G:ff [Value.slice none 0 0] b.toNat=replicate b.toNat (.slice none 0 0):=by
  unfold ff
  induction b.toNat with
  |zero=>rfl
  |succ k L=>rw[List.replicate_succ,List.flatten_cons,L,List.replicate_succ];rfl
 rw[u,G]at cW;have g:=bT.St (bT.Ss (X:=[]) (r:=⟨some ⟨w.heap.size,0,none⟩,f.toNat,e,1,b.toNat,replicate b.toNat (.slice none 0 0)⟩) cW) λs g=>⟨_,_,ba s g⟩
 obtain⟨H',_,O⟩:=ad.oR az (blk:=.cf e T' i (replicate b.toNat (true,[])) (some f.toNat) none) (sv:=.c (.aI d)) g ⟨_,f.toNat,_,_,a6,by rw[List.length_replicate];exact fx,by rw[List.length_replicate],Q,rfl,λq K=>by cases K;rfl⟩ ⟨_,_,_,fx,rfl⟩ F;exact M _ _ _ _ O
end
inductive qE where
 |Lv
 |st
 |mk
 |pc (gk gv:aV)
 |Cf
 |FV
 |FW
 |SX (l:List (Int×Nat))
 |SY
 |uQ
 |ng
 |SZ
 |S0
def zP(X:bz)(t:TypeId):aV->Bool
 |.pair a b=>zJ X t (.pair a b)
 |_=>false
theorem Cg{X:bz}(c:X.aY.ok X.P){t:TypeId}{g:aV}(h:zP X t g=true):qD X.P t g:=by
 cases g with
 |pair a b=>
  have J:zJ X t (.pair a b)=true:=h;unfold zJ at J
  split at J
  ·rename_i aC
   simp only[and_eq_true,not_eq_true']at J;exact qD.of c J.1 aC rfl J.2.1 J.2.2
  ·cases J
 |_=>cases h
def Ch:aV->Value->Bool
 |.int k,.int k' z=>decide (k'=k)&&decide (z=0)
 |.bool,.bool b=>!b
 |_,_=>false
theorem S1{g:aV}{v:Value}(h:Ch g v=true):∀B w,ez B w g g.zero v:=by
 intro B w;cases g with
 |int k=>
  cases v with
  |int k' z=>
   unfold Ch at h;rw[and_eq_true,decide_eq_true_eq,decide_eq_true_eq]at h;rw[h.1,h.2];exact(rfl:[Value.int k 0]=[Value.int k 0])
  |_=>cases h
 |bool=>
  cases v with
  |bool b=>
   cases b with
   |true=>cases h
   |false=>exact(rfl:[Value.bool false]=[Value.bool false])
  |_=>cases h
 |_=>cases h
def FX(gv:aV)(dQ:cv):Bool:=match gv,dQ.aK.zero with
 |.fn,.nilFunc=>true
 |.pair a b,.agg _=>decide (dQ.g=some (.pair a b))
 |.int k,.int k' z=>decide (k'=k)&&decide (z=0)
 |.bool,.bool b=>!b
 |_,_=>false
theorem S2{P:Program}{fV:TypeId}{dQ:cv}{gv:aV}(c:cv.ok P fV dQ)(h:FX gv dQ=true):∀B w,ez B w gv gv.zero dQ.aK.zero:=by
 intro B w;unfold FX at h
 split at h
 ·rename_i bF
  rw[bF];exact(rfl:[Value.nilFunc]=[Value.nilFunc])
 ·rename_i a b _ bF
  obtain⟨_,J,_⟩:=c.g _ (of_decide_eq_true h);rw[bF]at J;refine⟨_,bF,?_⟩;have ag:=bN.ff (B:=B) (w:=w) (aV.pair a b);rw[<- J]at ag;exact ag
 ·rename_i bF
  rw[and_eq_true,decide_eq_true_eq,decide_eq_true_eq]at h;rw[bF,h.1,h.2];exact(rfl:[Value.int _ 0]=[Value.int _ 0])
 ·rename_i b bF
  rw[bF];cases b with
  |true=>cases h
  |false=>exact(rfl:[Value.bool false]=[Value.bool false])
 ·cases h
def S3:List (Int×Nat)->Int->Option Nat
 |[],_=>none
 |(k,f)::r,z=>cond (decide (z=k)) (some f) (S3 r z)
def rK(f:Nat):Option (Option Nat)->Bool
 |some (some h)=>beq h f
 |_=>false
theorem afo{f:Nat}{o:Option (Option Nat)}(h:rK f o=true):o=some (some f):=by
 unfold rK at h
 split at h
 ·rw[eq_of_beq_eq_true h]
 ·cases h
theorem afp{X:bz}{n:Nat}{st:aQ}{o:Oper}{d:Nat}(j:X.aY.ok X.P)(gk gv:aV){t fi fV:TypeId}{bB:cv}{u:Operand}{k:IntKind}{z:Int}{g:Bool}(c:o.op=.makeMap t (some u))(b:o.guard=none/\o.dst=some d)(az:blt d n=true)(bg:X.aY.find t=some bB)(dm:bB.aK.desc=.map fi fV)(hu:bx X st.L u=some (g,.c (.val (.int k z))))(i:g=true) :
  hA X n o st ⟨(d,.c (.dI d))::gu d .dead st.L,(d,.mp gk gv [] none)::eE d .dead st.H⟩:=by
 intro R W aD aq env B ai H a w ad KK p m;obtain⟨v,I,J⟩:=ad.aJ hu i;rw[show v=_ from J]at I;have e:=ad.bW.aJ I;have bm:asIntOf (Value.int k z)=pure (k,z):=rfl;have l:X.P.underlying t=some (.map fi fV):=by rw[<- dm];exact(cb.get j bg).aK.1
 refine(hM ad.bW b.1 b.2 (dS az) (v:=.map (some w.heap.size)) (w':=w.alloc (.map #[] 0)) (by simp[execOp,c,e,Instr.makeMap,newObj,underlying,asInt,bm,l,Sem.run]) λaU f=>?_);obtain⟨H',_,ag⟩:=ad.oR az (blk:=.mp gk gv [] none) (sv:=.c (.dI d)) (ad.aT.alloc (.map #[] 0)) ⟨_,[],0,fx,rfl,rfl,⟨List.Pairwise.nil,λ_ h=>by cases h⟩,λ_ h=>by cases h⟩ ⟨_,fx,rfl⟩ f;exact m aU _ _ H' (ag)
theorem afq{X:bz}{n:Nat}{st:aQ}{o:Oper}{d:Nat}(r:X.aY.ok X.P){t fi fV:TypeId}{bB:cv}{gk gv:aV}{u:Operand}{id:Nat}{l:List (gk.D×gv.D)}{jl:Option (List MapEntry×Nat)}(p:o.op=.range t u)(i:o.guard=none/\o.dst=some d)(az:blt d n=true)(bg:X.aY.find t=some bB)(dm:bB.aK.desc=.map fi fV)(hu:bx X st.L u=some (true,.c (.dI id)))(y:bj st.H id=some (.mp gk gv l jl))(ah:l.isEmpty=true)(A:beq id d=false) :
  hA X n o st ⟨(d,.c (.ptr d 0))::gu d .dead st.L,(d,.h8 id)::eE d .dead (e8 id (.mp gk gv [] none) st.H)⟩:=by
 intro R W aD aq env B ai H a w ad KK L C;cases l with
 |cons x l=>cases ah
 |nil=>
  obtain⟨J,I,b,ab,rfl⟩:=ad.aJ hu rfl;obtain⟨c,K,⟨b',f,clock,k,rfl,F,c7,_⟩,m,G⟩:=ad.heap.put y;rw[ab]at k;cases k;have E:=(ad.aT.ok _ m.more.mem).2;have e:=(cb.get r bg).aK.1;rw[dm]at e;have s:K (.obj b (.map f.toArray clock))=H:=by obtain⟨X,Y,e,z⟩:=m;rw[z,e]
  have j:=G (.mp gk gv [] none) (.obj b (.map f.toArray clock)) ⟨b,f,clock,ab,rfl,F,c7,λ_ h=>by cases h⟩;rw[s]at j;have g:bM X R W aD n aq env B ai H ⟨st.L,e8 id (.mp gk gv [] none) st.H⟩ a w:=⟨ad.size,ad.defs,ad.has,j,ad.aT,ad.sub,ad.new,ad.dP,ad.base,ad.eu⟩
  have D:(Instr.range t (.map (some b))).run X.P w=.ok (.pointer (some ⟨w.heap.size,0,none⟩)) (w.alloc (.mapIter (some b) clock #[] clock)):=by
   simp[Instr.range,run_underlying e,MapKept.run_getObj_map E,newObj,Sem.run,Result.andThen]
  refine(hM g.bW i.1 i.2 (dS az) (v:=.pointer (some ⟨w.heap.size,0,none⟩)) (w':=w.alloc (.mapIter (some b) clock #[] clock)) (by simp[execOp,p,ad.bW.aJ I,D]) λaU q=>?_);obtain⟨H',_,ag⟩:=g.oR az (blk:=.h8 id) (sv:=.c (.ptr d 0)) (g.aT.alloc _) ⟨_,b,clock,fx,by rw[ku id (ne_of_beq_eq_false A)];exact ab,rfl⟩ ⟨_,fx,rfl⟩ q;exact C aU _ _ H' ag
theorem afr{X:bz}{n:Nat}{st:aQ}{o:Oper}{d:Nat}{gk gv:aV}{u:Operand}{h id:Nat}{jl:Option (List MapEntry×Nat)}(l:o.op=.next u false)(f:o.guard=none/\o.dst=some d)(az:blt d n=true)(hu:bx X st.L u=some (true,.c (.ptr id 0)))(z:bj st.H id=some (.h8 h))(r:bj st.H h=some (.mp gk gv [] jl)):hA X n o st ⟨(d,.cY [.c (.val (.bool false))])::st.L,st.H⟩:=by
 intro R W aD aq env B ai H a w ad KK L s;obtain⟨J,I,b,ab,rfl⟩:=ad.aJ hu rfl;obtain⟨cK,E,⟨m,G,clock,A,rfl,C,_⟩,D⟩:=ad.heap.gQ r;have j:=(ad.aT.ok _ D.more.mem).2;obtain⟨c,K,⟨b',F,q,g,i,rfl⟩,t⟩:=ad.heap.gQ z;rw[ab]at g;cases g;rw[A]at i;cases i;have y:=(ad.aT.ok _ t.more.mem).2;have k:=C;subst k
 rcases run_next_at (P:=X.P) w o.type b m q q #[] #[] clock y j (λx an=>by simp at an) (le_refl _)with⟨_,dr⟩|⟨e,he,_⟩
 ·refine(hM ad.bW f.1 f.2 (dS az) (v:=.tuple #[.bool false]) (w':=w) (by simp[execOp,l,ad.bW.aJ I,dr]) λaU p=>?_)
  exact s aU _ _ _ (ad.set ⟨[.bool false],rfl,.bool false,[],rfl,rfl,rfl⟩ p)
 ·simp[leftOf]at he
theorem gd.len{B:Nat->Prop}{w:World}{gk gv:aV}:∀ {l:List (gk.D×gv.D)} {a:List MapEntry},gd B w gk gv l a->a.length=l.length
 |[],_,h=>by rw[show _=[] from h];rfl
 |_::_,_,⟨_,_,e,_,_,h⟩=>by rw[e,List.length_cons,List.length_cons,gd.len h]
theorem afs{X:bz}{n:Nat}{st:aQ}{o:Oper}{d:Nat}(j:X.aY.ok X.P){t fi fV:TypeId}{bB:cv}{gk gv:aV}{u:Operand}{id:Nat}{l:List (gk.D×gv.D)}{jl:Option (List MapEntry×Nat)}(h:o.op=.call { callee:=.builtin .len,args:=#[u],argTypes:=#[t] })(f:o.guard=none/\o.dst=some d)(az:blt d n=true)(bg:X.aY.find t=some bB)(dm:bB.aK.desc=.map fi fV)(hu:bx X st.L u=some (true,.c (.dI id)))(k:bj st.H id=some (.mp gk gv l jl)):hA X n o st ⟨(d,.c (.val (.int .i64 (l.length:Int))))::st.L,st.H⟩:=by
 intro R W aD aq env B ai H a w ad KK z m;obtain⟨y,I,b,ab,rfl⟩:=ad.aJ hu rfl;obtain⟨c,K,⟨b',s,clock,g,rfl,r,c7,_⟩,p⟩:=ad.heap.gQ k;rw[ab]at g;cases g;have q:=(ad.aT.ok _ p.more.mem).2;have e:=(cb.get j bg).aK.1;rw[dm]at e;refine(hM ad.bW f.1 f.2 (dS az) (v:=.int .i64 (l.length:Int)) (w':=w) ?_ λaU i=>?_)
 ·simp[execOp,h,resolve,invoke,builtin,Builtin.len_,ad.bW.aJ I,run_underlying e,MapKept.run_getObj_map q,goInt,r.len]
 ·exact m aU _ env H (ad.set rfl i)
theorem aft(A:Option Addr)(s c:Nat):kr A 0 s c=A:=by
 unfold kr
 split
 ·rfl
 ·cases A with
  |none=>rfl
  |some a=>simp[Addr.add]
theorem afu{X:bz}{n:Nat}{st:aQ}{o:Oper}{d:Nat}(j:X.aY.ok X.P){t e:TypeId}{x y:Operand}{p g2:Bool}{ei:bp}{id f ac:Nat}{Y g:aV}{l b:List g.D}{cap:Option Nat}{bB:cv}{aL:TypeDesc}{ae:Value}(E:o.op=.call ⟨.builtin .copy,⟨[x,y]⟩,⟨[t,t]⟩⟩)(N:o.guard=none/\o.dst=some d)(az:blt d n=true)(bg:X.aY.find t=some bB)(dm:bB.aK.desc=.slice e)(he:X.aY.find e=some ⟨⟨aL,f,ac,ae⟩,some Y⟩)(an:bx X st.L x=some (p,.c (.aI id)))(F:p=true)(aG:bx X st.L y=some (g2,ei))(V:g2=true)(M:bj st.H id=some (.row e g l cap))(Q:beq g.size f=true)(ag:nz st g ei=some b)(aj:blt 0 f=true)(U:decide (b.length<=l.length)=true):hA X n o st ⟨(d,.c (.val (.int .i64 (b.length:Int))))::st.L,e8 id (.row e g (b++l.drop b.length) cap) st.H⟩:=by
 intro R W aD aq env B ai H a w h KK lo P;obtain⟨vx,ab,af⟩:=h.aJ an F;obtain⟨vy,aa,ad⟩:=h.aJ aG V;obtain⟨T,L,I,J⟩:=n4 (cb.get j bg).aK (cb.get j he).aK;have s:=eq_of_beq_eq_true Q;have am:=of_decide_eq_true U;obtain⟨al,cK,u,rfl,v,q⟩:=tu h ag ad;obtain⟨A,c,m,z,rfl⟩:=af;obtain⟨eQ,K,⟨ak,k',xs,C,rfl,O,Z⟩,k,ah⟩:=h.oS (b':=.row e g (b++l.drop b.length) cap) M;rw[z]at C;cases C;rw[s]at k q;have r:(b++l.drop b.length).length=l.length:=by
  simp only[List.length_append,List.length_drop];omega
 have G:aJ (full a) x=some (.slice (kr A 0 f c) (l.length-0) (c-0)):=by
  rw[aft];exact ab
 refine P0 h.sym E N az L I dm J G aa k q (Flat.jH (λ_ _=>bN.jH) v) (dS aj) (by omega) λaU w' bE=>?_
 have D:=Flat.part (i:=0) (λ_ _=>bN.length) O v;obtain⟨H',S⟩:=ah (.row A c e g.size l.length (xs.take (0 * f)++u++xs.drop (0 * f+u.length))) a w' ⟨A,c,_,by rw[r];exact z,by rw[r],by simpa using D,Z⟩ (by rw[s];exact bE.aT) h.bW;exact P aU w' _ H' (S.set rfl bE.st)
def Ci(X:bz)(n:Nat)(st:aQ):qE->Oper->Option (Bool×aQ×bX)
 |.pc gk gv,⟨some d,.makeMap _ none,_,_,_,none⟩=>match blt d n with
  |true=>some (true,⟨(d,.c (.dI d))::gu d .dead st.L,(d,.mp gk gv [] none)::eE d .dead st.H⟩,[d])
  |false=>none
 |.pc gk gv,⟨some d,.makeMap t (some u),_,_,_,none⟩=>match blt d n,X.aY.find t,bx X st.L u with
  |true,some ⟨⟨.map _ _,_,_,_⟩,_⟩,some (g,.c (.val (.int _ _)))=>some (g,⟨(d,.c (.dI d))::gu d .dead st.L,(d,.mp gk gv [] none)::eE d .dead st.H⟩,[d])
  |_,_,_=>none
 |.Cf,⟨some d,.lookup t u x false,_,_,_,none⟩=>match blt d n,X.aY.find t,bx X st.L u,bx X st.L x with
  |true,some ⟨⟨.map fi fV,_,_,_⟩,_⟩,some (true,.c (.dI id)),some (g,fS)=>match bj st.H id,X.aY.find fV with
   |some (.mp gk gv l _),some dQ=>match dec gk fS.cells,zP X fi gk&&(mo gk fS&&Ch gv dQ.aK.zero)with
    |some (c,z,[]),true=>match pR gv ((de gk gv l z).getD gv.zero)with
     |some sa=>some (g&&c,⟨(d,.a sa)::st.L,st.H⟩,[d])
     |none=>none
    |_,_=>none
   |_,_=>none
  |_,_,_,_=>none
 |.FV,⟨none,.mapUpdate t u x y,_,_,_,none⟩=>match X.aY.find t,bx X st.L u,bx X st.L x,bx X st.L y with
  |some ⟨⟨.map fi _,_,_,_⟩,_⟩,some (true,.c (.dI id)),some (g,fS),some (g2,ei)=>match bj st.H id with
   |some (.mp gk gv l _)=>match dec gk fS.cells,dec gv ei.cells,zP X fi gk&&(mo gk fS&&mo gv ei)with
    |some (c,z,[]),some (cK,fO,[]),true=>some (g&&(c&&(g2&&cK)),⟨st.L,e8 id (.mp gk gv (eS gk gv l z fO) none) st.H⟩,[id])
    |_,_,_=>none
   |_=>none
  |_,_,_,_=>none
 |.FW,⟨some d,.lookup t u x true,_,_,_,none⟩=>match blt d n,X.aY.find t,bx X st.L u,bx X st.L x with
  |true,some ⟨⟨.map fi fV,_,_,_⟩,_⟩,some (true,.c (.dI id)),some (g,.c (.val (.int k z)))=>match bj st.H id,X.aY.find fi,X.aY.find fV with
   |some (.mp (.int k') gv l _),some ⟨⟨.int a,_,_,_⟩,_⟩,some dQ=>match decEq k' k,decEq a k,FX gv dQ,pR gv ((de (.int k') gv l z).getD gv.zero)with
    |isTrue _,isTrue _,true,some sa=>some (g,⟨(d,.cY [sa,.c (.val (.bool (de (.int k') gv l z).isSome))])::st.L,st.H⟩,[d])
    |_,_,_,_=>none
   |_,_,_=>none
  |_,_,_,_=>none
 |.SX du,⟨some d,.lookup t u x false,_,_,_,none⟩=>match blt d n,X.aY.find t,bx X st.L u,bx X st.L x with
  |true,some ⟨⟨.map fi fV,_,_,_⟩,_⟩,some (true,.c (.dI id)),some (g,.c (.val (.int k z)))=>match bj st.H id,X.aY.find fi,X.aY.find fV,S3 du z with
   |some (.mp (.int k') .fn l _),some ⟨⟨.int a,_,_,_⟩,_⟩,some dQ,some f=>match decEq k' k,decEq a k,FX .fn dQ with
    |isTrue _,isTrue _,true=>some (g&&rK f (de (.int k') .fn l z),⟨(d,.a (.c (.fn f [])))::st.L,st.H⟩,[d])
    |_,_,_=>none
   |_,_,_,_=>none
  |_,_,_,_=>none
 |.ng,⟨none,.insert t u x y,_,_,_,none⟩=>match X.aY.find t,bx X st.L u,bx X st.L x,bx X st.L y with
  |some ⟨⟨.map fi _,_,_,_⟩,_⟩,some (true,.c (.dI id)),some (g,.c (.val (.int k z))),some (g2,ei)=>match bj st.H id,X.aY.find fi with
   |some (.mp (.int k') gv l _),some ⟨⟨.int a,_,_,_⟩,_⟩=>match decEq k' k,decEq a k,dec gv ei.cells,mo gv ei with
    |isTrue _,isTrue _,some (cK,fO,[]),true=>some (g&&(g2&&cK),⟨st.L,e8 id (.mp (.int k') gv (eS (.int k') gv l z fO) none) st.H⟩,[id])
    |_,_,_,_=>none
   |_,_=>none
  |_,_,_,_=>none
 |.SZ,⟨some d,.range t u,_,_,_,none⟩=>match blt d n,X.aY.find t,bx X st.L u with
  |true,some ⟨⟨.map _ _,_,_,_⟩,_⟩,some (true,.c (.dI id))=>match beq id d,bj st.H id with
   |false,some (.mp gk gv l _)=>some (l.isEmpty,⟨(d,.c (.ptr d 0))::gu d .dead st.L,(d,.h8 id)::eE d .dead (e8 id (.mp gk gv [] none) st.H)⟩,[d,id])
   |_,_=>none
  |_,_,_=>none
 |.S0,⟨some d,.next u false,_,_,_,none⟩=>match blt d n,bx X st.L u with
  |true,some (true,.c (.ptr id 0))=>match bj st.H id with
   |some (.h8 j)=>match bj st.H j with
    |some (.mp _ _ [] _)=>some (true,⟨(d,.cY [.c (.val (.bool false))])::st.L,st.H⟩,[d])
    |_=>none
   |_=>none
  |_,_=>none
 |.SY,⟨some d,.call ⟨.builtin .len,⟨[u]⟩,⟨[t]⟩⟩,_,_,_,none⟩=>match blt d n,X.aY.find t,bx X st.L u with
  |true,some ⟨⟨.map _ _,_,_,_⟩,_⟩,some (true,.c (.dI id))=>match bj st.H id with
   |some (.mp _ _ l _)=>some (true,⟨(d,.c (.val (.int .i64 (l.length:Int))))::st.L,st.H⟩,[d])
   |_=>none
  |_,_,_=>none
 |.uQ,⟨some d,.call ⟨.builtin .copy,⟨[x,y]⟩,⟨[t,o]⟩⟩,_,_,_,none⟩=>match blt d n,beq o t,X.aY.find t,bx X st.L x,bx X st.L y with
  |true,true,some ⟨⟨.slice e,_,_,_⟩,_⟩,some (m,.c (.aI id)),some (g2,ei)=>match X.aY.find e,bj st.H id with
   |some ⟨⟨_,h,_,_⟩,some _⟩,some (.row i g l cap)=>match beq i e,beq g.size h,nz st g ei,blt 0 h with
    |true,true,some b,true=>some (m&&(g2&&decide (b.length<=l.length)),⟨(d,.c (.val (.int .i64 (b.length:Int))))::st.L,e8 id (.row e g (b++l.drop b.length) cap) st.H⟩,[d,id])
    |_,_,_,_=>none
   |_,_=>none
  |_,_,_,_,_=>none
 |_,_=>none
section
variable {X:bz} {n:Nat} {st st':aQ} {o:Oper}
theorem afw(a:X.aY.ok X.P){m:qE}{c:Bool}{V:bX}(h:Ci X n st m o=some (c,st',V))(U:c=true):hA X n o st st':=by
 unfold Ci at h
 split at h
 ·split at h
  ·rename_i az
   cases h;exact aee _ _ rfl ⟨rfl,rfl⟩ az
  ·cases h
 ·split at h
  ·rename_i az bg hu
   cases h;exact afp a _ _ rfl ⟨rfl,rfl⟩ az bg rfl hu U
  ·cases h
 ·split at h
  ·rename_i az bg hu an
   split at h
   ·rename_i ah he
    split at h
    ·rename_i nO aa
     simp only[and_eq_true]at aa
     split at h
     ·rename_i mY
      cases h;rw[and_eq_true]at U;exact afj a (Cg a aa.1) rfl ⟨rfl,rfl⟩ az bg rfl he (S1 aa.2.2) hu an U.1 nO U.2 aa.2.1 ah mY
     ·cases h
    ·cases h
   ·cases h
  ·cases h
 ·split at h
  ·rename_i bg hu an aG
   split at h
   ·rename_i ah
    split at h
    ·rename_i nO tW aa
     simp only[and_eq_true]at aa;cases h;simp only[and_eq_true]at U;exact afk a (Cg a aa.1) rfl ⟨rfl,rfl⟩ bg rfl hu an U.1 nO U.2.1 aa.2.1 aG U.2.2.1 ah tW U.2.2.2 aa.2.2
    ·cases h
   ·cases h
  ·cases h
 ·split at h
  ·rename_i az bg hu an
   split at h
   ·rename_i ah aa he
    split at h
    ·rename_i d b _ _ _ bF mY
     subst d;subst b;cases h;exact ad1 a rfl ⟨rfl,rfl⟩ az bg rfl aa rfl he (S2 (cb.get a he) bF) hu an U ah mY
    ·cases h
   ·cases h
  ·cases h
 ·split at h
  ·rename_i az bg hu an
   split at h
   ·rename_i ah aa he _
    split at h
    ·rename_i d b _ _ bF
     subst d;subst b;cases h;rw[and_eq_true]at U;exact aef a rfl ⟨rfl,rfl⟩ az bg rfl aa rfl he (S2 (cb.get a he) bF) hu an U.1 ah (by rw[afo U.2];rfl)
    ·cases h
   ·cases h
  ·cases h
 ·split at h
  ·rename_i bg hu an aG
   split at h
   ·rename_i ah aa
    split at h
    ·rename_i d b _ _ _ _ tW f
     subst d;subst b;cases h;simp only[and_eq_true]at U;exact aeh a rfl ⟨rfl,rfl⟩ bg rfl aa rfl hu an U.1 aG U.2.1 ah tW U.2.2 f
    ·cases h
   ·cases h
  ·cases h
 ·split at h
  ·rename_i az bg hu
   split at h
   ·rename_i j ah
    cases h;exact afq a rfl ⟨rfl,rfl⟩ az bg rfl hu ah U j
   ·cases h
  ·cases h
 ·split at h
  ·rename_i az hu
   split at h
   ·rename_i hi
    split at h
    ·rename_i ah
     cases h;exact afr rfl ⟨rfl,rfl⟩ az hu hi ah
    ·cases h
   ·cases h
  ·cases h
 ·split at h
  ·rename_i az bg hu
   split at h
   ·rename_i ah
    cases h;exact afs a rfl ⟨rfl,rfl⟩ az bg rfl hu ah
   ·cases h
  ·cases h
 ·split at h
  ·rename_i az k bg an aG
   split at h
   ·rename_i he ah
    split at h
    ·rename_i J ag g e
     have b:=eq_of_beq_eq_true J;have i:=eq_of_beq_eq_true k;subst b;subst i;cases h;simp only[and_eq_true]at U;exact afu a rfl ⟨rfl,rfl⟩ az bg rfl he an U.1 aG U.2.1 ah ag g e U.2.2
    ·cases h
   ·cases h
  ·cases h
 ·cases h
theorem afx{m:qE}{c:Bool}{V:bX}(h:Ci X n st m o=some (c,st',V)):dt V st st':=by
 unfold Ci at h
 split at h
 ·split at h
  ·cases h
   exact⟨cB.cons (l0 _ _ _),cB.cons (V:=[]) (k5 _ _ _)⟩
  ·cases h
 ·split at h
  ·cases h
   exact⟨cB.cons (l0 _ _ _),cB.cons (V:=[]) (k5 _ _ _)⟩
  ·cases h
 ·split at h
  ·split at h
   ·split at h
    ·split at h
     ·cases h;exact qC
     ·cases h
    ·cases h
   ·cases h
  ·cases h
 ·split at h
  ·split at h
   ·split at h
    ·cases h;exact⟨cB.refl _,lv (lx _ _)⟩
    ·cases h
   ·cases h
  ·cases h
 ·split at h
  ·split at h
   ·split at h
    ·cases h;exact qC
    ·cases h
   ·cases h
  ·cases h
 ·split at h
  ·split at h
   ·split at h
    ·cases h;exact qC
    ·cases h
   ·cases h
  ·cases h
 ·split at h
  ·split at h
   ·split at h
    ·cases h;exact⟨cB.refl _,lv (lx _ _)⟩
    ·cases h
   ·cases h
  ·cases h
 ·split at h
  ·split at h
   ·cases h
    exact⟨cB.cons (l0 _ _ _),cB.cons (cB.trans (V2:=[]) (lv (lx _ _)) (k5 _ _ _))⟩
   ·cases h
  ·cases h
 ·split at h
  ·split at h
   ·split at h
    ·cases h;exact qC
    ·cases h
   ·cases h
  ·cases h
 ·split at h
  ·split at h
   ·cases h;exact qC
   ·cases h
  ·cases h
 ·split at h
  ·split at h
   ·split at h
    ·cases h
     exact⟨cB.cons (cB.refl _),(lv (lx _ _)).more λq a=>(hj a).2⟩
    ·cases h
   ·cases h
  ·cases h
 ·cases h
end
section
variable {X:bz} {n:Nat} {st st':aQ} {d:Nat} {o:Oper}
def xw(X:bz)(n:Nat)(st:aQ):qE->Oper->Option (Bool×aQ×bX)
 |.Lv,⟨some d,.load t x,_,_,_,none⟩=>match blt d n,X.aY.find t,bx X st.L x with
  |true,some bB,some (a,.c (.fg id 1 i 0))=>match mN bB.aK.desc,beq d id,bj st.H id with
   |false,false,some (.cf T T' g l cap none)=>some (a&&(decide (i<l.length)&&(l.getD i (false,[])).1),⟨(d,.c (.aI d))::gu d .dead st.L,(d,.row T' g (l.getD i (false,[])).2 none)::e8 id (.cf T T' g l cap (some (i,some d))) (eE d .dead st.H)⟩,[d,id])
   |false,_,some (.cf _ _ _ _ _ (some (j,some d2)))=>some (a&&decide (i=j),⟨(d,.c (.aI d2))::st.L,st.H⟩,[d])
   |_,_,_=>none
  |_,_,_=>none
 |.st,⟨none,.store t x y,_,_,_,none⟩=>match X.aY.find t,bx X st.L x,bx X st.L y with
  |some bB,some (a,.c (.fg id 1 i 0)),some (g2,.c (.aI d))=>match beq bB.aK.size 1,bj st.H id with
   |true,some (.cf T T' g l cap h)=>some (a&&(g2&&(xm h i&&decide (i<l.length))),⟨st.L,e8 id (.cf T T' g l cap (some (i,some d))) st.H⟩,[id])
   |_,_=>none
  |some bB,some (a,.c (.fg id 1 i 0)),some (g2,.c (.bJ g' f _))=>match beq bB.aK.size 1,bj st.H id with
   |true,some (.cf T T' g l cap h)=>match decEq g' g with
    |isTrue e=>some (a&&(g2&&(xm h i&&decide (i<l.length))),⟨st.L,e8 id (.cf T T' g (l.set i (false,qA e f)) cap none) st.H⟩,[id])
    |isFalse _=>none
   |_,_=>none
  |_,_,_=>none
 |.mk,⟨some d,.makeSlice t x y,_,_,_,none⟩=>match blt d n,X.aY.find t,bx X st.L x,bx X st.L y with
  |true,some ⟨⟨.slice e,_,_,_⟩,_⟩,some (a,.c (.val (.int _ c))),some (g2,.c (.val (.int _ b)))=>match X.aY.find e with
   |some ⟨⟨.slice T',_,k,_⟩,some (.aI g)⟩=>some (a&&(g2&&(decide (0<=c)&&decide (c<=b)&&gR k b)),⟨(d,.c (.aI d))::gu d .dead st.L,(d,.cf e T' g (replicate c.toNat (true,[])) (some b.toNat) none)::eE d .dead st.H⟩,[d])
   |_=>none
  |_,_,_,_=>none
 |m,o=>Ci X n st m o
theorem Lx(a:X.aY.ok X.P){m:qE}{c:Bool}{V:bX}(h:xw X n st m o=some (c,st',V))(U:c=true):hA X n o st st':=by
 unfold xw at h
 split at h
 ·split at h
  ·rename_i az bg an
   split at h
   ·rename_i bm ba ah
    cases h;simp only[and_eq_true]at U;exact afl a rfl ⟨rfl,rfl⟩ az bg bm an U.1 ah ba U.2.1 U.2.2
   ·rename_i bm ah
    cases h;simp only[and_eq_true]at U;exact jG.sN (Su a rfl bg bm an U.1 ah U.2) ⟨rfl,rfl⟩ az
   ·cases h
  ·cases h
 ·split at h
  ·rename_i bg an aG
   split at h
   ·rename_i b ah
    cases h;simp only[and_eq_true]at U;exact Sw a rfl ⟨rfl,rfl⟩ bg b an U.1 aG U.2.1 ah U.2.2.1 U.2.2.2
   ·cases h
  ·rename_i bg an aG
   split at h
   ·rename_i b ah
    split at h
    ·rename_i e _
     subst e;cases h;simp only[and_eq_true]at U;exact aeI a rfl ⟨rfl,rfl⟩ bg b an U.1 aG U.2.1 ah U.2.2.1 U.2.2.2
    ·cases h
   ·cases h
  ·cases h
 ·split at h
  ·rename_i az bg an aG
   split at h
   ·rename_i he
    cases h;rw[and_eq_true,and_eq_true]at U;exact afm _ _ a rfl ⟨rfl,rfl⟩ az bg rfl he rfl an U.1 aG U.2.1 U.2.2
   ·cases h
  ·cases h
 ·exact afw a h U
theorem Ly{m:qE}{c:Bool}{V:bX}(h:xw X n st m o=some (c,st',V)):dt V st st':=by
 unfold xw at h
 split at h
 ·split at h
  ·split at h
   ·cases h
    exact⟨cB.cons (l0 _ _ _),cB.cons (cB.trans (V2:=[_]) (k5 _ _ _) (lv (lx _ _)))⟩
   ·cases h
    exact qC
   ·cases h
  ·cases h
 ·split at h
  ·split at h
   ·cases h;exact⟨cB.refl _,lv (lx _ _)⟩
   ·cases h
  ·split at h
   ·split at h
    ·cases h;exact⟨cB.refl _,lv (lx _ _)⟩
    ·cases h
   ·cases h
  ·cases h
 ·split at h
  ·split at h
   ·cases h
    exact⟨cB.cons (l0 _ _ _),cB.cons (k5 _ _ _)⟩
   ·cases h
  ·cases h
 ·exact afx h
end
end
section
def rL:eD->Bool->Bool
 |[],x=>x
 |c::r,x=>rL r (c&&x)
theorem nP:∀ {A:eD} {x:Bool},rL A x=true->(∀c∈A,c=true)/\x=true
 |[],_,h=>⟨(λ_ h=>by cases h),h⟩
 |c::r,x,h=>by
  obtain⟨I,J⟩:=nP (A:=r) h;simp only[and_eq_true]at J;refine⟨λd az=>?_,J.2⟩
  rcases List.mem_cons.1 az with rfl|az
  ·exact J.1
  ·exact I d az
inductive In where
 |n (k:Nat)
 |w (x:nc)
 |c (aB:ev)
 |y
 |t (m:qE)
 |f (j:Nat) (aq:bZ)
abbrev l3(aX:Type):=Option (Nat->ej->Option aX->Option aX->Option aX)
def Cj:Option b8->Option Nat
 |some (.a (.c (.val (.func (.yield l) ⟨[]⟩ ⟨[]⟩))))=>some l
 |_=>none
def tX(L:c6):Operand->Option (FuncId×ej×ej)
 |.func f=>some (f,[],[])
 |.tmp s=>match bj L s with
  |some (.a (.c (.fn f ids)))=>some (f,[],qq ids)
  |some (.a (.c (.jR f id)))=>some (f,[.c (.ptr id 0)],[])
  |_=>none
 |_=>none
def takeN{α:Type}:Nat->List α->List α
 |0,_=>[]
 |_,[]=>[]
 |k+1,x::l=>x::takeN k l
def FY{α:Type}:Nat->List α->List α
 |0,l=>l
 |_,[]=>[]
 |k+1,_::l=>FY k l
section
variable {X:bz} {aX:Type}
def Ck(X:bz)(n:Nat)(f:FuncId)(aB:ev)(d:Nat)(st:aQ)(args:ej)(k:aQ->Option aX):List (bI X)->Option aX
 |[]=>none
 |e::T=>match beq e.f f with
  |true=>match vm X n e aB st.H args with
   |some p=>(e.m p.d).bind λr=>match after X e aB st d p r with
    |some st'=>k st'
    |none=>none
   |none=>Ck X n f aB d st args k T
  |false=>Ck X n f aB d st args k T
abbrev qF(aX:Type):=gJ->bX->eD->aQ->Option aX
def xx(X:bz)(n:Nat)(T:List (bI X))(aB:ev)(V:bX)(A:eD)(st:aQ)(k:qF aX):Oper->Option aX
 |⟨some d,.call ⟨.value u,⟨xs⟩,_⟩,_,_,_,none⟩=>match blt d n,tX st.L u,oU X st.L xs with
  |true,some (f,pre,post),some (c,args)=>ay (rL (c::A) true) (Ck X n f aB d st (pre++(args++post)) (λst'=>k [] (d::(ml aB++V)) [] st') T)
  |_,_,_=>none
 |_=>none
def Cl(X:bz)(n:Nat)(f:FuncId)(d:Nat)(g:Bool)(st:aQ)(args:ej)(k:bp->Option aX):List (bI X)->Option aX
 |[]=>none
 |e::T=>match beq e.f f with
  |true=>match vm X n e [] st.H args with
   |some p=>(cond g (e.m p.d) (some e.mv)).bind λr=>match after X e [] st d p r,(e.out p.d r).2 with
    |some ⟨(_,.a sa)::_,_⟩,[]=>k sa
    |_,_=>none
   |none=>Cl X n f d g st args k T
  |false=>Cl X n f d g st args k T
def zQ(X:bz)(n:Nat)(T:List (bI X))(cP:List (Option Nat))(G:gJ)(V:bX)(A:eD)(st:aQ)(k:qF aX):Oper->Option aX
 |⟨some d,.call ⟨.value u,⟨xs⟩,_⟩,_,_,_,some (j,want)⟩=>match nth cP j with
  |some (some s)=>match k6 st.L s want with
   |some g=>match blt d n,beq s d,tX (nf (xq cP G 8 j want) G st.L) u,oU X (nf (xq cP G 8 j want) G st.L) xs with
    |true,false,some (f,pre,post),some (c,args)=>ay (rL (dK g c::A) true) (Cl X n f d g st (pre++(args++post)) (λsa=>k ((d,j,want)::pb cP d G) (d::V) [] ⟨(d,.may g sa)::st.L,st.H⟩) T)
    |_,_,_,_=>none
   |none=>none
  |_=>none
 |_=>none
def Cm(X:bz)(n:Nat)(T:List (bI X))(cP:List (Option Nat))(G:gJ)(V:bX)(A:eD)(st:aQ)(o:Oper)(k:qF aX):Option aX:=match o.guard with
 |none=>match vq X cP [] G st o.op with
  |some (c,sa)=>match o.dst with
   |some d=>match blt d n with
    |true=>k (pb cP d G) (d::V) (c::A) ⟨(d,.a sa)::st.L,st.H⟩
    |false=>none
   |none=>none
  |none=>match xu X n st o with
   |some (c,st',W)=>k [] (W++V) (c::A) st'
   |none=>match kX X n cP st o with
    |.ok c st'=>k [] (xr X st.L o++V) (c::A) st'
    |.stop=>xx X n T [] V A st k o
 |some (j,want)=>match nth cP j with
  |some (some s)=>match k6 st.L s want with
   |some g=>match vq X cP (xq cP G 8 j want) G st o.op with
    |some (c,sa)=>match o.dst with
     |some d=>match blt d n,beq s d with
      |true,false=>k ((d,j,want)::pb cP d G) (d::V) (dK g c::A) ⟨(d,.may g sa)::st.L,st.H⟩
      |_,_=>none
     |none=>none
    |none=>zQ X n T cP G V A st k o
   |none=>none
  |_=>none
def Cn(X:bz)(n:Nat)(T:List (bI X))(cP:List (Option Nat)):List Oper->gJ->bX->eD->aQ->qF aX->Option aX
 |[],G,V,A,st,k=>k G V A st
 |o::l,G,V,A,st,k=>Cm X n T cP G V A st o λb c a st'=>Cn X n T cP l b c a st' k
def Lz(X:bz)(n:Nat)(cq:l3 aX)(st:aQ)(A:eD)(o:Oper)(k:Nat->aQ->Option aX):Option aX:=match cq,o with
 |some em,⟨some d,.call ⟨.value (.tmp s),⟨xs⟩,_⟩,_,_,_,none⟩=>match blt d n,Cj (bj st.L s),oU X st.L xs with
  |true,some l,some (c,args)=>ay (rL (c::A) true) (em l args (k d ⟨(d,.c (.val (.bool false)))::st.L,st.H⟩) (k d ⟨(d,.c (.val (.bool true)))::st.L,st.H⟩))
  |_,_,_=>none
 |_,_=>none
def FZ{aX:Type}(z:Int):bZ->(Int->Option aX)->Option aX
 |[],_=>none
 |q::a,f=>cond (decide (z=q)) (f q) (FZ z a f)
def ly(X:bz)(n:Nat)(T:List (bI X))(cq:l3 aX)(cP:List (Option Nat)):List In->List Oper->gJ->bX->eD->aQ->(bX->aQ->Option aX)->Option aX
 |[],ops,G,V,A,st,k=>Cn X n T cP ops G V A st λ_ b a st'=>ay (rL a true) (k b st')
 |.n m::is,ops,G,V,A,st,k=>Cn X n T cP (takeN m ops) G V A st λe b a st'=>ly X n T cq cP is (FY m ops) e b a st' k
 |.w x::is,ops,_,V,A,st,k=>match zI n x st with
  |some (c,st')=>ly X n T cq cP is ops [] (x.zG++V) (c::A) st' k
  |none=>none
 |.c aB::is,o::ops,_,V,A,st,k=>xx X n T aB V A st (λe b a st'=>ly X n T cq cP is ops e b a st' k) o
 |.c _::_,[],_,_,_,_,_=>none
 |.y::is,o::ops,_,V,A,st,k=>Lz X n cq st A o λd st'=>ly X n T cq cP is ops [] (d::V) [] st' k
 |.t m::is,o::ops,_,V,A,st,k=>match xw X n st m o with
  |some (c,st',W)=>ly X n T cq cP is ops [] (W++V) (c::A) st' k
  |none=>none
 |.f j aq::is,ops,_,V,A,st,k=>match bj st.L j with
  |some (.a (.c (.val (.int qw z))))=>ay (rL A true) (FZ z aq λq=>ly X n T cq cP is ops [] (j::V) [] ⟨(j,.a (.c (.val (.int qw q))))::st.L,st.H⟩ k)
  |_=>none
 |.y::_,[],_,_,_,_,_=>none
 |.t _::_,[],_,_,_,_,_=>none
variable {M:Bool} {n:Nat} {rr:Option Nat} {T:List (bI X)} {fG st st':aQ} {Q:Exit->aQ->Prop} {ops l rest:List Oper} {o:Oper} {r:aX} {V:bX} {A:eD}
def F0(k:qF aX)(r:aX):Prop:=∀G V A st,k G V A st=some r->∀c∈A,c=true
theorem LA{f:FuncId}{xs:eA}{pre post args:ej}{aB:ev}{d:Nat}{c:Bool}{k:aQ->Option aX}(g:Callee X st o f xs pre post)(a:o.guard=none/\o.dst=some d)(az:blt d n=true)(b:oU X st.L xs=some (c,args))(U:c=true):∀ {T:List (bI X)},Ck X n f aB d st (pre++(args++post)) k T=some r->∃st',vn X n o (xf st.H aB) st st'/\dt (d::ml aB) st st'/\k st'=some r
 |[],h=>by cases h
 |e::T,h=>by
  unfold Ck at h
  split at h
  ·rename_i aC
   have j:=eq_of_beq_eq_true aC;subst j
   split at h
   ·rename_i p ak
    obtain⟨q,i,h⟩:=ct h
    split at h
    ·rename_i l bm
     exact⟨l,Sb e aB g a az (.of b U) ak i bm,afb ak bm,h⟩
    ·cases h
   ·exact LA g a az b U h
  ·exact LA g a az b U h
theorem S4{u:Operand}{xs:eA}{b:Array TypeId}{f:FuncId}{pre post:ej}(a:o.op=.call { callee:=.value u,args:=xs.toArray,argTypes:=b })(h:tX st.L u=some (f,pre,post)):Callee X st o f xs pre post:=by
 refine⟨b,?_⟩;unfold tX at h
 split at h
 ·cases h;exact .inl ⟨a,rfl,rfl⟩
 ·split at h
  ·rename_i e;cases h;exact .inr (.inl ⟨_,_,a,e,rfl,rfl⟩)
  ·rename_i e;cases h;exact .inr (.inr ⟨_,_,a,e,rfl,rfl⟩)
  ·cases h
 ·cases h
theorem vt{aB:ev}{k:qF aX}(g:dt V fG st)(h:xx X n T aB V A st k o=some r):(∀c∈A,c=true)/\∃st' e,vn X n o (xf st.H aB) st st'/\dt e fG st'/\k [] e [] st'=some r:=by
 unfold xx at h
 split at h
 ·rename_i d u xs i t p a
  split at h
  ·rename_i f pre post c args az j l
   obtain⟨U,h⟩:=e3 h;have b:=(nP U).1;obtain⟨st',I,J,ag⟩:=LA (o:=⟨some d,.call ⟨.value u,⟨xs⟩,i⟩,t,p,a,none⟩) (S4 rfl j) ⟨rfl,rfl⟩ az l (b c mem_cons_self) h;exact⟨λc U=>b c (mem_cons_of_mem _ U),st',_,I,by have:=g.trans J;exact this,ag⟩
  ·cases h
 ·cases h
theorem LB{f:FuncId}{d:Nat}{g:Bool}{args:ej}{k:bp->Option aX}{r:aX}:∀ {T:List (bI X)},Cl X n f d g st args k T=some r->∃(e:bI X) (p:zA X e) (q:e.aX) (sa:bp),e.f=f/\vm X n e [] st.H args=some p/\(g=true->e.m p.d=some q)/\after X e [] st d p q=some ⟨(d,.a sa)::st.L,st.H⟩/\k sa=some r
 |[],h=>by cases h
 |e::T,h=>by
  unfold Cl at h
  split at h
  ·rename_i aC
   split at h
   ·rename_i p ak
    obtain⟨q,a,h⟩:=ct h
    split at h
    ·rename_i d2 sa b H2 bm j
     refine⟨e,p,q,sa,eq_of_beq_eq_true aC,ak,λc=>by rw[c]at a;exact a,?_,h⟩;have I:H2=st.H/\b=st.L/\d2=d:=by
      unfold vm at ak
      split at ak
      ·rename_i l I H1 t v u
       split at ak
       ·split at ak
        ·cases ak
         unfold after at bm;rw[j]at bm
         split at bm
         ·rename_i s o m i
          cases i;cases bm;exact⟨rfl,rfl,rfl⟩
         ·cases bm
        ·cases ak
       ·cases ak
      ·cases ak
     obtain⟨rfl,rfl,rfl⟩:=I;exact bm
    ·cases h
   ·exact LB h
  ·exact LB h
theorem S5{G:gJ}{k:qF aX}(h:zQ X n T (eN ops) G V A st k o=some r):∀c∈A,c=true:=by
 unfold zQ at h
 split at h
 ·split at h
  ·split at h
   ·split at h
    ·obtain⟨U,h⟩:=e3 h
     exact λc a=>(nP U).1 c (mem_cons_of_mem _ a)
    ·cases h
   ·cases h
  ·cases h
 ·cases h
theorem afy{cP:List (Option Nat)}{G:gJ}{aB:List (Nat×Bool)}{u:Operand}{c:FuncId×ej×ej}(m:fa cP G st.L)(ak:∀p∈aB,pV cP st.L p)(h:tX (nf aB G st.L) u=some c) :
  ∃g:aQ,g.H=st.H/\tX g.L u=some c/\(∀ {R W aD aq env B ai H a w},bM X R W aD n aq env B ai H st a w->bM X R W aD n aq env B ai H g a w)/\(∀ {R W aD aq env B ai H a w},bM X R W aD n aq env B ai H g a w->bM X R W aD n aq env B ai H st a w) /\
   ∀ {d:Nat} {sa:bp} {R W aD aq env B ai H a w},bM X R W aD n aq env B ai H ⟨(d,.a sa)::g.L,g.H⟩ a w->bM X R W aD n aq env B ai H ⟨(d,.a sa)::st.L,st.H⟩ a w:=by
 cases u with
 |tmp s=>
  unfold tX at h;dsimp only at h;cases ah:bj (nf aB G st.L) s with
  |none=>rw[ah]at h;cases h
  |some sv=>
   rcases ae4 m ak s sv ah with I|⟨x,rfl,I⟩
   ·exact⟨st,rfl,by unfold tX;dsimp only;rw[I];rw[ah]at h;exact h,λh=>h,λh=>h,λh=>h⟩
   ·have key:∀ {L:c6} {R W aD aq env B ai H a w},(∀q,q≠s->bj L q=bj ((s,b8.a x)::L) q)->bM X R W aD n aq env B ai H ⟨(s,.a x)::L,st.H⟩ a w->bj L s=some (.may true x)->bM X R W aD n aq env B ai H ⟨L,st.H⟩ a w:=λ{L} _ _ _ _ _ _ _ _ _ _ _ ad l=>⟨ad.size,ad.defs,λq sv b=>by
     by_cases e:q=s
     ·subst e
      rw[l]at b;cases b;obtain⟨v,j,i⟩:=ad.has q (.a x) (by rw[cX,if_pos rfl]);exact⟨v,j,λ_=>i,λh=>by cases h⟩
     ·exact ad.has q sv (by rw[cX,if_neg e];exact b),ad.heap,ad.aT,ad.sub,ad.new,ad.dP,ad.base,ad.eu⟩
    refine⟨⟨(s,.a x)::st.L,st.H⟩,rfl,?_,λad=>⟨ad.size,ad.defs,λq sv b=>?_,ad.heap,ad.aT,ad.sub,ad.new,ad.dP,ad.base,ad.eu⟩,λad=>key (λq b=>by rw[cX,if_neg b]) ad I,λ{d sa} _ _ _ _ _ _ _ _ _ _ ad=>⟨ad.size,ad.defs,λq sv b=>?_,ad.heap,ad.aT,ad.sub,ad.new,ad.dP,ad.base,ad.eu⟩⟩
    ·unfold tX
     dsimp only;rw[cX,if_pos rfl];rw[ah]at h;exact h
    ·rw[cX]at b
     split at b
     ·rename_i e
      subst e;cases b;obtain⟨v,j,i⟩:=ad.has _ _ I;exact⟨v,j,i.1 rfl⟩
     ·exact ad.has q sv b
    ·rw[cX]at b
     split at b
     ·rename_i e
      subst e;cases b;exact ad.has _ _ (by rw[cX,if_pos rfl])
     ·rename_i e
      by_cases k:q=s
      ·subst k
       rw[I]at b;cases b;obtain⟨v,j,i⟩:=ad.has q (.a x) (by rw[cX,if_neg e,cX,if_pos rfl]);exact⟨v,j,λ_=>i,λh=>by cases h⟩
      ·exact ad.has q sv (by rw[cX,if_neg e,cX,if_neg k];exact b)
 |func f=>exact⟨st,rfl,h,λh=>h,λh=>h,λh=>h⟩
 |_=>cases h
theorem afz{e:bI X}{a:aQ}{d:Nat}{p:zA X e}{q:e.aX}{sa:bp}(g:a.H=st.H)(bm:after X e [] st d p q=some ⟨(d,.a sa)::st.L,st.H⟩):after X e [] a d p q=some ⟨(d,.a sa)::a.L,a.H⟩:=by
 unfold after at bm ⊢
 split at bm
 ·rename_i i h j k
  dsimp only at bm ⊢;have ag:=Option.some.inj bm;have f:=congrArg aQ.L ag;have c:h++st.H=st.H:=congrArg aQ.H ag;rw[g,c];have b:i=b8.a sa:=by
   have:=(List.cons.inj f).1
   exact(Prod.mk.inj this).2
  rw[b]
 ·cases bm
theorem S6{G:gJ}{k:qF aX}(l:fa (eN ops) G st.L)(E:dt V fG st)(h:zQ X n T (eN ops) G V A st k o=some r):∃(d:Nat) (g:Bool) (sa:bp) (M:gJ),fa (eN ops) M ((d,.may g sa)::st.L)/\dt (d::V) fG ⟨(d,.may g sa)::st.L,st.H⟩/\k M (d::V) [] ⟨(d,.may g sa)::st.L,st.H⟩=some r /\
  ∀(R:Nat->Prop) (W:World) (aD:fk) (aq:bX) (env:Nat->Loc) (B:Nat->Prop) (ai:World) (H:cI) (a:Act) (w:World),bM X R W aD n aq env B ai H st a w->∀(KK:Act->World->Prop),
   (∀aU w' env' B' z H',bM X R W aD n aq env' B' z H' ⟨(d,.may g sa)::st.L,st.H⟩ aU w'->(∀k,B k->B' k)->ds (λk=>R k\/B k) ai z->KK aU w')->fj X.P ops.toArray o KK a w:=by
 unfold zQ at h
 split at h
 ·rename_i d u xs L ty N F j want
  split at h
  ·rename_i s m
   split at h
   ·rename_i g t
    split at h
    ·rename_i f pre post c args az P aj am
     obtain⟨U,h⟩:=e3 h;have ac:=(nP U).1;obtain⟨e,au,q,sa,aC,ak,y,bm,aa⟩:=LB h;subst aC;have ab:=ne_of_beq_eq_false P;have ap:fa (eN ops) ((d,j,want)::pb (eN ops) d G) ((d,.may g sa)::st.L):=λe he=>by
      rcases List.mem_cons.1 he with rfl|he
      ·exact⟨s,g,sa,m,by rw[FO ab];exact t,by rw[cX,if_pos rfl]⟩
      ·exact l.drop d _ e he
     refine⟨d,g,sa,_,ap,⟨cB.cons E.1,E.2.more λq y=>(hj y).2⟩,aa,?_⟩;intro R W aD aq env B ai H a w ad KK K;have hw:=Ln (o:=⟨some d,.call ⟨.value u,⟨xs⟩,L⟩,ty,N,F,some (j,want)⟩) ad rfl m t;have put:∀v,dh n (j9 aq aD) ((d,v)::full a) (a.put (some d) v):=λv=>ad.bW.put d v (dS az)
     cases g with
     |false=>exact .inr ⟨hw,K _ _ _ _ _ _ (ad.set ⟨(λh=>by cases h),λ_=>rfl⟩ (put undef)) (λ_ h=>h) (ds.refl _ _)⟩
     |true=>
      have D:∀p∈xq (eN ops) G 8 j want,pV (eN ops) st.L p:=FP l ⟨s,m,t⟩;obtain⟨ae,O,Q,ao,S,Y⟩:=afy (n:=n) l D aj;have Z:Fz X n ae xs args:=λ_ _ _ _ _ _ _ _ _ _ ad=>u4 ((S ad).view l D) am (B6 (ac _ mem_cons_self) rfl)
      have I:=Sb (o:=⟨some d,.call ⟨.value u,⟨xs⟩,L⟩,ty,N,F,none⟩) e [] (S4 rfl Q) ⟨rfl,rfl⟩ az Z (by rw[O];exact ak) (y rfl) (afz O bm) R W aD aq env B ai H a w (ao ad) KK ops λaU w' env' B' z H' ag af ah _=>by
       have b:=Y ag;have ar:=b.has d (.a sa) (by rw[cX,if_pos rfl]);obtain⟨v,an,al⟩:=ar;refine K _ _ _ _ _ _ ⟨b.size,b.defs,λq sv i=>?_,b.heap,b.aT,b.sub,b.new,b.dP,b.base,b.eu⟩ af ah
       by_cases C:q=d
       ·subst C
        rw[cX,if_pos rfl]at i;cases i;exact⟨v,an,λ_=>al,λh=>by cases h⟩
       ·exact b.has q sv (by rw[cX,if_neg C]at i ⊢;exact i)
      rcases I with⟨_,J⟩|⟨J,_⟩
      ·exact .inl ⟨hw,J⟩
      ·simp[Region.wanted]at J
    ·cases h
   ·cases h
  ·cases h
 ·cases h
theorem afE{G:gJ}{k:qF aX}(aa:F0 k r)(h:Cm X n T (eN ops) G V A st o k=some r):∀c∈A,c=true:=by
 unfold Cm at h
 split at h
 ·split at h
  ·split at h
   ·split at h
    ·exact λc U=>aa _ _ _ _ h c (mem_cons_of_mem _ U)
    ·cases h
   ·cases h
  ·split at h
   ·exact λc U=>aa _ _ _ _ h c (mem_cons_of_mem _ U)
   ·split at h
    ·exact λc U=>aa _ _ _ _ h c (mem_cons_of_mem _ U)
    ·exact(vt (dt.refl st) h).1
 ·split at h
  ·split at h
   ·split at h
    ·split at h
     ·split at h
      ·exact λc U=>aa _ _ _ _ h c (mem_cons_of_mem _ U)
      ·cases h
     ·cases h
    ·exact S5 h
   ·cases h
  ·cases h
theorem F2{k:qF aX}(aa:F0 k r):∀ {l:List Oper} {G:gJ} {V:bX} {A:eD} {st:aQ},Cn X n T (eN ops) l G V A st k=some r->∀c∈A,c=true
 |[],G,V,A,st,h=>aa _ _ _ _ h
 |o::l,G,V,A,st,h=>afE (λ_ _ _ _ a=>F2 aa a) h
def LC(X:bz)(n:Nat)(ops:List Oper)(o:Oper)(st st':aQ):Prop:=∀(R:Nat->Prop) (W:World) (aD:fk) (aq:bX) (env:Nat->Loc) (B:Nat->Prop) (ai:World) (H:cI) (a:Act) (w:World),bM X R W aD n aq env B ai H st a w->∀(KK:Act->World->Prop),
 (∀aU w' env' B' b H',bM X R W aD n aq env' B' b H' st' aU w'->KK aU w')->fj X.P ops.toArray o KK a w
theorem vn.F3{b:bo->Bool}(h:vn X n o b st st'):LC X n ops o st st':=λR W aD aq env B ai H a w ad KK c=>h R W aD aq env B ai H a w ad KK ops λaU w' env' B' e H' d _ _ _=>c aU w' env' B' e H' d
structure F5(X:bz)(n:Nat)(ops:List Oper)(Z:List Oper->aX->aQ->Prop):Prop where
 step:∀ {o rest r st st'},LC X n ops o st st'->Z rest r st'->Z (o::rest) r st
 fq:∀ {l r st st'},bP X n st st'->Z l r st'->Z l r st
def F6(X:bz)(n:Nat)(ops:List Oper)(o:Oper)(st:aQ):Prop:=∀ {R:Nat->Prop} {W:World} {aD:fk} {aq:bX} {env:Nat->Loc} {B:Nat->Prop} {ai:World} {H:cI} {a:Act} {w:World},bM X R W aD n aq env B ai H st a w->Region.wanted o (yielded ops.toArray a.tmps)=true
theorem F6.none{ops:List Oper}{o:Oper}{st:aQ}(h:o.guard=none):F6 X n ops o st:=λ_=>by simp[Region.wanted,h]
def S8(X:bz)(n:Nat)(ops:List Oper)(cq:l3 aX)(Z:List Oper->aX->aQ->Prop):Prop:=∀em,cq=some em->∀ {l:Nat} {args:ej} {f t:Option aX} {r:aX},em l args f t=some r->∃pW a,f=some pW/\t=some a/\∀ {o:Oper} {rest:List Oper} {st:aQ} {d s:Nat} {xs:eA} {b:Array TypeId} {c:Bool},o.op=.call { callee:=.value (.tmp s),args:=xs.toArray,argTypes:=b }->F6 X n ops o st/\o.dst=some d->blt d n=true->Cj (bj st.L s)=some l->oU X st.L xs=some (c,args)->c=true ->
 Z rest pW ⟨(d,.c (.val (.bool false)))::st.L,st.H⟩->Z rest a ⟨(d,.c (.val (.bool true)))::st.L,st.H⟩->Z (o::rest) r st
variable {Z:List Oper->aX->aQ->Prop}
theorem afF(p:X.aY.ok X.P)(i:F5 X n ops Z){G:gJ}(l:fa (eN ops) G st.L)(f:dt V fG st){k:qF aX}(u:F0 k r)(h:Cm X n T (eN ops) G V A st o k=some r)(aa:∀F K O st',fa (eN ops) F st'.L->dt K fG st'->k F K O st'=some r->Z rest r st'):Z (o::rest) r st:=by
 have one:∀ {d:Nat} {sv:b8},dt (d::V) fG ⟨(d,sv)::st.L,st.H⟩:=λ{d sv}=>⟨cB.cons f.1,f.2.more λq N=>(hj N).2⟩
 unfold Cm at h
 split at h
 ·rename_i t
  split at h
  ·rename_i c sa y
   split at h
   ·rename_i d E
    split at h
    ·rename_i az
     have U:=u _ _ _ _ h c mem_cons_self;refine i.step (st':=⟨(d,.a sa)::st.L,st.H⟩) ?_ (aa _ _ _ _ (l.drop d _) one h);intro R W aD aq env B ai H a w ad KK b;obtain⟨v,I,J⟩:=SL p ad l (λ_ h=>by cases h) y U;exact hM ad.bW t E (dS az) J λaU M=>b aU w env B ai H (ad.set I M)
    ·cases h
   ·cases h
  ·split at h
   ·rename_i c m W e
    have U:=u _ _ _ _ h c mem_cons_self;exact i.step (Lr p e U).c.F3 (aa _ _ _ m fa.nil (f.trans (Ls e)) h)
   ·split at h
    ·rename_i c m e
     have U:=u _ _ _ _ h c mem_cons_self;refine i.step ?_ (aa _ _ _ m fa.nil (f.trans (zM t e)) h);intro R W aD aq env B ai H a w ad KK b;exact sq p e U ad λaU w' env' H' _ D=>b aU w' env' B ai H' D
    ·obtain⟨_,m,V2,I,J,ag⟩:=vt f h
     exact i.step I.F3 (aa _ _ _ m fa.nil J ag)
 ·rename_i j want t
  split at h
  ·rename_i s z
   split at h
   ·rename_i g C
    split at h
    ·rename_i c sa y
     split at h
     ·rename_i d E
      split at h
      ·rename_i az L
       have U:=u _ _ _ _ h _ mem_cons_self;have S:=ne_of_beq_eq_false L;have ae:fa (eN ops) ((d,j,want)::pb (eN ops) d G) ((d,.may g sa)::st.L):=λe he=>by
        rcases List.mem_cons.1 he with rfl|he
        ·exact⟨s,g,sa,z,by rw[FO S];exact C,by rw[cX,if_pos rfl]⟩
        ·exact l.drop d _ e he
       refine i.step (st':=⟨(d,.may g sa)::st.L,st.H⟩) ?_ (aa _ _ _ _ ae one h);intro R W aD aq env B ai H a w ad KK b;have put:∀v,dh n (j9 aq aD) ((d,v)::full a) (a.put o.dst v):=λv=>by rw[E];exact ad.bW.put d v (dS az)
       have hw:=Ln ad t z C;cases g with
       |true=>
        obtain⟨v,I,J⟩:=SL p ad l (FP l ⟨s,z,C⟩) y (B6 U rfl);exact .inl ⟨hw,.inl ⟨v,w,J,b _ _ _ _ _ _ (ad.set ⟨λ_=>I,λh=>by cases h⟩ (put v))⟩⟩
       |false=>exact .inr ⟨hw,b _ _ _ _ _ _ (ad.set ⟨(λh=>by cases h),λ_=>rfl⟩ (put undef))⟩
      ·cases h
     ·cases h
    ·obtain⟨d,g2,sa,F,ac,P,Y,ab⟩:=S6 l f h
     exact i.step (λR W aD aq env B ai H a w ad KK b=>ab R W aD aq env B ai H a w ad KK λaU w' env' B' Q H' D _ _=>b aU w' env' B' Q H' D) (aa _ _ _ _ ac P Y)
   ·cases h
  ·cases h
theorem LD(f:X.aY.ok X.P)(i:F5 X n ops Z){k:qF aX}{r:aX}(j:F0 k r):∀ {l rest:List Oper} {G:gJ} {V:bX} {A:eD} {st:aQ},fa (eN ops) G st.L->dt V fG st->Cn X n T (eN ops) l G V A st k=some r->(∀d e g st',fa (eN ops) d st'.L->dt e fG st'->k d e g st'=some r->Z rest r st')->Z (l++rest) r st
 |[],rest,G,V,A,st,c,a,h,aa=>aa G V A st c a h
 |o::l,rest,G,V,A,st,c,a,h,aa=>afF f i c a (λ_ _ _ _ b=>F2 j b) h λd e g st' p m b=>LD f i j p m b aa
theorem take_drop:∀(m:Nat) (l:List Oper),takeN m l++FY m l=l
 |0,_=>rfl
 |_+1,[]=>rfl
 |m+1,x::l=>by
  show x::(takeN m l++FY m l)=_;rw[take_drop m l]
theorem S9{cq:l3 aX}{k:Nat->aQ->Option aX}(h:Lz X n cq st A o k=some r):(∀c∈A,c=true)/\∃em l d s xs b c args,cq=some em/\o.op=.call { callee:=.value (.tmp s),args:=xs.toArray,argTypes:=b }/\(o.guard=none/\o.dst=some d)/\blt d n=true/\Cj (bj st.L s)=some l/\oU X st.L xs=some (c,args)/\c=true/\em l args (k d ⟨(d,.c (.val (.bool false)))::st.L,st.H⟩) (k d ⟨(d,.c (.val (.bool true)))::st.L,st.H⟩)=some r:=by
 unfold Lz at h
 split at h
 ·split at h
  ·rename_i az aG bm
   obtain⟨U,h⟩:=e3 h;have a:=(nP U).1;exact⟨λc U=>a c (mem_cons_of_mem _ U),_,_,_,_,_,_,_,_,rfl,rfl,⟨rfl,rfl⟩,az,aG,bm,a _ mem_cons_self,h⟩
  ·cases h
 ·cases h
variable {cq:l3 aX}
theorem Ta{z:Int}{f:Int->Option aX}{r:aX}:∀ {aq:bZ},FZ z aq f=some r->f z=some r
 |[],h=>by cases h
 |q::a,h=>by
  unfold FZ at h
  by_cases e:z=q
  ·subst e
   rw[decide_eq_true rfl]at h;exact h
  ·rw[decide_eq_false e]at h
   exact Ta h
theorem bP.again{j:Nat}{sv:b8}(h:bj st.L j=some sv):bP X n st ⟨(j,sv)::st.L,st.H⟩:=λ_ _ _ _ _ _ ⟨aq,env,B,ai,H,b,ad⟩=>by
 refine⟨aq,env,B,ai,H,b,⟨ad.size,ad.defs,λs u a=>?_,ad.heap,ad.aT,ad.sub,ad.new,ad.dP,ad.base,ad.eu⟩⟩;rw[cX]at a
 split at a
 ·rename_i e
  subst e;cases a;exact ad.has _ _ h
 ·exact ad.has s u a
theorem zR{k:bX->aQ->Option aX}{r:aX}:∀ {is:List In} {l:List Oper} {G:gJ} {V:bX} {A:eD} {st:aQ},ly X n T cq (eN ops) is l G V A st k=some r->∀c∈A,c=true
 |[],l,G,V,A,st,h=>F2 (λ_ _ _ _ a=>(nP (e3 a).1).1) h
 |.n m::is,l,G,V,A,st,h=>F2 (λ_ _ _ _ a=>zR a) h
 |.w x::is,l,G,V,A,st,h=>by
  unfold ly at h
  split at h
  ·exact λc U=>zR h c (mem_cons_of_mem _ U)
  ·cases h
 |.c aB::is,o::l,G,V,A,st,h=>by
  unfold ly at h;exact(vt (dt.refl st) h).1
 |.c _::_,[],G,V,A,st,h=>by cases h
 |.y::is,o::l,G,V,A,st,h=>by
  unfold ly at h;exact(S9 h).1
 |.y::_,[],G,V,A,st,h=>by cases h
 |.f j aq::is,l,G,V,A,st,h=>by
  unfold ly at h
  split at h
  ·exact(nP (e3 h).1).1
  ·cases h
 |.t _::_,[],G,V,A,st,h=>by cases h
 |.t m::is,o::l,G,V,A,st,h=>by
  unfold ly at h
  split at h
  ·exact λc U=>zR h c (mem_cons_of_mem _ U)
  ·cases h
theorem vu(g:X.aY.ok X.P)(b:F5 X n ops Z)(bE:S8 X n ops cq Z){k:bX->aQ->Option aX}:∀ {is:List In} {l:List Oper} {G:gJ} {V:bX} {A:eD} {st:aQ} {r:aX},fa (eN ops) G st.L->dt V fG st->ly X n T cq (eN ops) is l G V A st k=some r->(∀p st' w,dt p fG st'->k p st'=some w->Z [] w st')->Z l r st
 |[],l,G,V,A,st,r,f,a,h,aa=>by
  have:=LD g b (λ_ _ _ _ i=>(nP (e3 i).1).1) f a h λE p D st' _ u i=>aa p st' _ u (e3 i).2
  rwa [append_nil]at this
 |.n m::is,l,G,V,A,st,r,f,a,h,aa=>by
  rw[<- take_drop m l];exact LD g b (λ_ _ _ _ i=>zR i) f a h λE p D st' F u i=>vu g b bE F u i aa
 |.w x::is,l,G,V,A,st,r,f,a,h,aa=>by
  unfold ly at h
  split at h
  ·rename_i c y e
   have U:=zR h c mem_cons_self;exact b.fq (SC e U) (vu g b bE fa.nil (a.trans (SH e)) h aa)
  ·cases h
 |.c aB::is,o::l,G,V,A,st,r,f,a,h,aa=>by
  unfold ly at h;obtain⟨_,K,V2,I,J,ag⟩:=vt a h;exact b.step I.F3 (vu g b bE fa.nil J ag aa)
 |.c _::_,[],G,V,A,st,r,f,a,h,aa=>by cases h
 |.y::is,o::l,G,V,A,st,r,f,a,h,aa=>by
  unfold ly at h;obtain⟨_,em,l',d,s,xs,H,c,args,C,B,v,az,aG,bm,U,h⟩:=S9 h;obtain⟨pW,L,aC,bg,bF⟩:=bE em C h;have one:∀ {sv:b8},dt (d::V) fG ⟨(d,sv)::st.L,st.H⟩:=λ{sv}=>⟨cB.cons a.1,a.2.more λq t=>(hj t).2⟩
  exact bF B ⟨F6.none v.1,v.2⟩ az aG bm U (vu g b bE fa.nil one aC aa) (vu g b bE fa.nil one bg aa)
 |.y::_,[],G,V,A,st,r,f,a,h,aa=>by cases h
 |.f j aq::is,l,G,V,A,st,r,f,a,h,aa=>by
  unfold ly at h
  split at h
  ·rename_i qw z e
   have one:∀ {sv:b8},dt (j::V) fG ⟨(j,sv)::st.L,st.H⟩:=λ{sv}=>⟨cB.cons a.1,a.2.more λq t=>(hj t).2⟩
   exact b.fq (bP.again e) (vu g b bE fa.nil one (Ta (e3 h).2) aa)
  ·cases h
 |.t _::_,[],G,V,A,st,r,f,a,h,aa=>by cases h
 |.t m::is,o::l,G,V,A,st,r,f,a,h,aa=>by
  unfold ly at h
  split at h
  ·rename_i c y W e
   exact b.step (Lx g e (zR h c mem_cons_self)).c.F3 (vu g b bE fa.nil (a.trans (Ly e)) h aa)
  ·cases h
end
def lz:bX->c6->c6
 |[],_=>[]
 |s::r,L=>match bj L s with
  |some v=>match v.free with
   |true=>(s,v)::lz r L
   |false=>lz r L
  |none=>lz r L
def h4:bX->bC->bC
 |[],_=>[]
 |s::r,H=>match bj H s with
  |some v=>match v.free with
   |true=>(s,v)::h4 r H
   |false=>h4 r H
  |none=>h4 r H
def Tb{α:Type}(L:List (Nat×α))(s:Nat):Bool:=match bj L s with
 |some _=>true
 |none=>false
def zS{α:Type}(V aq:bX)(L:List (Nat×α)):List (Nat×α)->Bool
 |[]=>true
 |p::r=>match fP p.1 V,fP p.1 aq,Tb L p.1 with
  |false,false,true=>zS V aq L r
  |_,_,_=>false
def eP{α:Type}:List (Nat×α)->bX
 |[]=>[]
 |p::r=>p.1::eP r
def eG.ids(a:eG):bX:=eP a.L++eP a.H
def eG.S(a:eG)(st:aQ)(d:a.D):aQ:=⟨(o8 a.L (ou a.T d)).1++lz a.tQ st.L,(kH a.H (o8 a.L (ou a.T d)).2).1++h4 a.nL st.H⟩
def eG.get(a:eG)(st:aQ)(V:bX)(st':aQ):Option a.D:=
 match zS V (eP a.L) st'.L (lz a.tQ st.L),zS V (eP a.H) st'.H (h4 a.nL st.H),rq (eP a.H++eP (h4 a.nL st.H))with
 |true,true,true=>match u2 st'.H (eP a.H)with
  |some h=>match xb (T:=[]) a.H h ()with
   |some u=>match Fv a.L st'.L u with
    |some u=>some (rD a.T u)
    |none=>none
   |none=>none
  |none=>none
 |_,_,_=>none
theorem Cp{s:Nat}{v:b8}:∀ {aq:bX} {L:c6},bj (lz aq L) s=some v->(s,v)∈lz aq L/\bj L s=some v/\v.free=true
 |[],_,h=>by cases h
 |k::r,L,h=>by
  unfold lz at h ⊢
  split at h
  ·rename_i u e
   split at h
   ·rename_i aC
    rw[cX]at h
    split at h
    ·rename_i a;cases h;exact⟨by rw[a];exact mem_cons_self,by rw[a];exact e,aC⟩
    ·obtain⟨I,J⟩:=Cp h;exact⟨mem_cons_of_mem _ I,J⟩
   ·exact Cp h
  ·exact Cp h
theorem xy{p:Nat×b8}:∀ {aq:bX} {L:c6},p∈lz aq L->bj L p.1=some p.2/\p.2.free=true
 |[],_,h=>by cases h
 |k::r,L,h=>by
  unfold lz at h
  split at h
  ·rename_i u e
   split at h
   ·rename_i aC
    rcases List.mem_cons.1 h with rfl|h
    ·exact⟨e,aC⟩
    ·exact xy h
   ·exact xy h
  ·exact xy h
theorem rN{p:Nat×cC}:∀ {aq:bX} {L:bC},p∈h4 aq L->bj L p.1=some p.2/\p.2.free=true
 |[],_,h=>by cases h
 |k::r,L,h=>by
  unfold h4 at h
  split at h
  ·rename_i u e
   split at h
   ·rename_i aC
    rcases List.mem_cons.1 h with rfl|h
    ·exact⟨e,aC⟩
    ·exact rN h
   ·exact rN h
  ·exact rN h
theorem afH{p:Nat×b8}{aq:bX}{L:c6}(h:p∈lz aq L):bj (lz aq L) p.1=some p.2:=by
 obtain⟨I,J⟩:=xy h
 induction aq with
 |nil=>cases h
 |cons k r a=>
  unfold lz at h ⊢
  split at h
  ·rename_i u e
   split at h
   ·rename_i aC
    rw[cX]
    split
    ·rename_i b;rw[<- b,I]at e;cases e;rfl
    ·rename_i b
     rcases List.mem_cons.1 h with rfl|h
     ·exact absurd rfl b
     ·exact a h
   ·exact a h
  ·exact a h
theorem afI{p:Nat×cC}{aq:bX}{L:bC}(h:p∈h4 aq L):bj (h4 aq L) p.1=some p.2:=by
 obtain⟨I,J⟩:=rN h
 induction aq with
 |nil=>cases h
 |cons k r a=>
  unfold h4 at h ⊢
  split at h
  ·rename_i u e
   split at h
   ·rename_i aC
    rw[cX]
    split
    ·rename_i b;rw[<- b,I]at e;cases e;rfl
    ·rename_i b
     rcases List.mem_cons.1 h with rfl|h
     ·exact absurd rfl b
     ·exact a h
   ·exact a h
  ·exact a h
theorem Cq{α:Type}{V aq:bX}{L:List (Nat×α)}{p:Nat×α}:∀ {K:List (Nat×α)},zS V aq L K=true->p∈K->fP p.1 V=false/\fP p.1 aq=false/\∃v,bj L p.1=some v
 |[],_,h=>by cases h
 |q::r,h,hm=>by
  unfold zS at h
  split at h
  ·rename_i I J ag
   rcases List.mem_cons.1 hm with rfl|hm
   ·refine⟨I,J,?_⟩
    unfold Tb at ag
    split at ag
    ·rename_i v e;exact⟨v,e⟩
    ·cases ag
   ·exact Cq h hm
  ·cases h
theorem LG{α:Type}{q:Nat}:∀ {L ea:List (Nat×α)},fP q (eP L)=false->bj (L++ea) q=bj ea q
 |[],_,_=>rfl
 |p::r,ea,h=>by
  obtain⟨I,J⟩:=hj h;rw[cons_append,cX,if_neg I];exact LG J
theorem F7{α:Type}{q:Nat}{v:α}:∀ {L ea:List (Nat×α)},bj (L++ea) q=some v->bj L q=some v\/fP q (eP L)=false/\bj ea q=some v
 |[],_,h=>.inr ⟨rfl,h⟩
 |p::r,ea,h=>by
  rw[cons_append,cX]at h;rw[cX]
  split at h
  ·rename_i e;rw[if_pos e];exact .inl h
  ·rename_i e
   rw[if_neg e]
   rcases F7 h with h|⟨I,J⟩
   ·exact .inl h
   ·exact .inr ⟨sM.2 ⟨e,I⟩,J⟩
theorem LH:∀(l:List (Nat×mu)) {T:List Type} (u:dy (zz l T)),eP (o8 l u).1=eP l
 |[],_,_=>rfl
 |p::r,_,u=>by
  show p.1::eP _=p.1::eP _;rw[LH r]
theorem LI:∀(l:List (Nat×gX)) {T:List Type} (u:dy (ov l T)),eP (kH l u).1=eP l
 |[],_,_=>rfl
 |p::r,_,u=>by
  show p.1::eP _=p.1::eP _;rw[LI r]
theorem Cr:∀ {aq:bX} {h a:bC},u2 h aq=some a->eP a=aq
 |[],_,_,e=>by cases e;rfl
 |k::aq,h,a,e=>by
  unfold u2 at e
  split at e
  ·rename_i I J
   split at e
   ·cases e
    show k::eP _=_;rw[Cr J]
   ·cases e
  ·cases e
theorem LJ{α:Type}{q:Nat}:∀ {L:List (Nat×α)},fP q (eP L)=false->bj L q=none
 |[],_=>rfl
 |p::r,h=>by
  obtain⟨I,J⟩:=hj h;rw[cX,if_neg I];exact LJ J
theorem F8{h:bC}{K:bC}:∀ {I:bC},od h I->(∀p∈K,bj h p.1=some p.2)->rq (eP I++eP K)=true->od h (I++K):=by
 have base:∀K:bC,(∀p∈K,bj h p.1=some p.2)->rq (eP K)=true->od h K:=by
  intro K
  induction K with
  |nil=>exact λ_ _=>.nil
  |cons p r c=>
   intro aa ba;have a:(!(eP r).elem p.1&&rq (eP r))=true:=ba;simp only[and_eq_true,not_eq_true']at a;exact .cons (aa p mem_cons_self) (LK a.1) (c (λq g=>aa q (mem_cons_of_mem _ g)) a.2)
 intro f
 induction f with
 |nil=>exact λaa ba=>base K aa ba
 |cons i pM j c=>
  rename_i k b r;intro aa ba;have a:(!(eP r++eP K).elem k&&rq (eP r++eP K))=true:=ba;simp only[and_eq_true,not_eq_true']at a;refine .cons i ?_ (c aa a.2);refine LK ?_
  have:∀l:bC,eP (l++K)=eP l++eP K:=by
   intro l
   induction l with
   |nil=>rfl
   |cons p l c=>show p.1::eP (l++K)=_;rw[c];rfl
  show(eP (r++K)).elem k=false;rw[this];exact a.1
where LK {q:Nat}:∀ {L:bC},(eP L).elem q=false->bj L q=none
 |[],_=>rfl
 |p::r,h=>by
  have d:(p.1::eP r).elem q=false:=h;rw[List.elem_cons]at d
  split at d
  ·cases d
  ·rename_i e
   rw[cX,if_neg (by simpa using e)];exact LK d
def k7(a:eG)(st b:aQ):Prop:=(∀p∈lz a.tQ st.L,fP p.1 (eP a.L)=false->bj b.L p.1=some p.2)/\∀p∈h4 a.nL st.H,fP p.1 (eP a.H)=false->bj b.H p.1=some p.2
theorem k7.self(a:eG)(st:aQ):k7 a st st:=⟨λp ak _=>(xy ak).1,λp ak _=>(rN ak).1⟩
theorem k7.step(a:eG)(st:aQ)(d:a.D):k7 a st (a.S st d):=⟨λp ak aa=>by
 show bj (_++_) p.1=_;rw[LG (by rw[LH];exact aa)];exact afH ak,λp ak aa=>by
 show bj (_++_) p.1=_;rw[LG (by rw[LI];exact aa)];exact afI ak⟩
theorem eG.jL{X:bz}{n:Nat}{b:eG}{st A st':aQ}{V:bX}{d:b.D}(hw:k7 b st A)(y:dt V A st')(h:b.get st V st'=some d):bP X n st' (b.S st d):=by
 unfold eG.get at h
 split at h
 ·rename_i T Q U
  split at h
  ·rename_i F z
   split at h
   ·rename_i u E
    split at h
    ·rename_i C m
     cases h;obtain⟨I,J⟩:=xc E;obtain⟨ag,L⟩:=Fw m;have G:∀p∈lz b.tQ st.L,bj st'.L p.1=some p.2:=λp ak=>by
      obtain⟨o,g2,v,i⟩:=Cq T ak;obtain⟨u,j,r⟩:=y.1 p.1 v o i;rw[hw.1 p ak g2]at j;cases j;rw[i,r (xy ak).2]
     have Y:∀p∈h4 b.nL st.H,bj st'.H p.1=some p.2:=λp ak=>by
      obtain⟨o,g2,v,i⟩:=Cq Q ak;obtain⟨u,j,r⟩:=y.2 p.1 v o i;rw[hw.2 p ak g2]at j;cases j;rw[i,r (rN ak).2]
     rintro R W aD M a w ⟨aq,env,B,ai,H,O,ad⟩;have S:=F8 (y1 z) Y (by rw[Cr z];exact U);obtain⟨H',f⟩:=ad.fq (st':=⟨[],F++h4 b.nL st.H⟩) .nil S;refine⟨aq,env,B,ai,H',O,f.size,f.defs,λq sv K=>?_,?_,f.aT,f.sub,f.new,f.dP,f.base,f.eu⟩
     ·have g:bj ((o8 b.L (ou b.T (rD b.T C))).1++lz b.tQ st.L) q=some sv:=K
      rw[w9]at g
      rcases F7 g with g|⟨_,g⟩
      ·obtain⟨x,k,D⟩:=L q sv g
       obtain⟨v,N,P⟩:=ad.has q x k;exact⟨v,N,D _ _ _ _ P⟩
      ·obtain⟨k,_⟩:=Cp g
       exact ad.has q sv (G _ k)
     ·show bG env B ai ((kH b.H (o8 b.L (ou b.T (rD b.T C))).2).1++h4 b.nL st.H) H'
      rw[w9,ag];obtain⟨H1,H2,e,t,s⟩:=bG.split f.heap;rw[e];exact(J _ _ _ _ t).append s
    ·cases h
   ·cases h
  ·cases h
 ·cases h
where bG.split {env:Nat->Loc} {B:Nat->Prop} {w:World}:∀ {l l':bC} {H:cI},bG env B w (l++l') H->∃H1 H2,H=H1++H2/\bG env B w l H1/\bG env B w l' H2
 |[],_,H,h=>⟨[],H,rfl,rfl,h⟩
 |_::_,_,_,⟨c,H',e,I,J⟩=>by
  obtain⟨H1,H2,m,t,s⟩:=bG.split J;exact⟨c::H1,H2,by rw[e,m];rfl,⟨c,H1,rfl,I,t⟩,s⟩
theorem eG.aq(a:eG)(st:aQ)(d:a.D):dt a.ids st (a.S st d):=by
 refine⟨λq v b ah=>?_,λq v b ah=>?_⟩
 ·rcases F7 (show bj (_++_) q=some v from ah)with h|⟨_,h⟩
  ·have:=LJ (L:=(o8 a.L (ou a.T d)).1) (q:=q) (by rw[LH];exact(rH.1 b).1)
   rw[this]at h;cases h
  ·obtain⟨I,J,ag⟩:=Cp h
   exact⟨v,J,λ_=>rfl⟩
 ·rcases F7 (show bj (_++_) q=some v from ah)with h|⟨_,h⟩
  ·have:=LJ (L:=(kH a.H (o8 a.L (ou a.T d)).2).1) (by rw[LI];exact(rH.1 b).2)
   rw[this]at h;cases h
  ·exact⟨v,F9 h,λ_=>rfl⟩
where F9 {s:Nat} {v:cC}:∀ {aq:bX} {L:bC},bj (h4 aq L) s=some v->bj L s=some v
 |[],_,h=>by cases h
 |k::r,L,h=>by
  unfold h4 at h
  split at h
  ·rename_i u e
   split at h
   ·rw[cX]at h
    split at h
    ·rename_i c;cases h;rw[c];exact e
    ·exact F9 h
   ·exact F9 h
  ·exact F9 h
end
section
section
variable {X:bz} {n:Nat} {st:aQ} {o:Oper} {d:Nat}
end
end
section
theorem afK{a:List MapEntry}{j:Nat}{e:MapEntry}(d:(a.map (·.born)).Pairwise (· < ·))(c:a[j]?=some e):a.toArray.findIdx? (λx=>(x.born:Int)==(e.born:Int))=some j:=by
 rw[List.findIdx?_toArray];obtain⟨b,he⟩:=List.getElem?_eq_some_iff.1 c;rw[List.findIdx?_eq_some_iff_getElem];refine⟨b,by rw[he];simp,λk aa=>?_⟩;have I:=List.pairwise_iff_getElem.1 d k j (by simp;omega) (by simpa using b) aa;simp only[List.getElem_map]at I;rw[he]at I;simp only[beq_iff_eq];omega
theorem Tc{a:List MapEntry}{k v:Value}:∀(j:Nat),(a.modify j λe=>{ e with key:=k }).modify j (λe=>{ e with val:=v })=a.modify j λe=>{ e with key:=k,val:=v }:=by
 induction a with
 |nil=>intro j;simp
 |cons e a b=>
  intro j;cases j with
  |zero=>simp
  |succ j=>simp only[List.modify_succ_cons,b j]
theorem afL{a:List MapEntry}{e:MapEntry}{f:MapEntry->MapEntry}:(a++[e]).modify a.length f=a++[f e]:=by
 induction a with
 |nil=>simp
 |cons x a b=>simp[b]
theorem gd.Td{P:Program}{t:TypeId}{B:Nat->Prop}{w:World}{gk gv:aV}(a:qD P t gk){z:gk.D}{vv:Value}{c:Nat}(b6:World):∀ {l:List (gk.D×gv.D)} {b:List MapEntry} (i:Nat),gd B w gk gv l b->(Instr.findAsking t (.agg (gk.c1 z).toArray) b i).run P b6=.ok none b6 ->
  (Instr.findAsking t (.agg (gk.c1 z).toArray) (b++[MapEntry.mk (.agg (gk.c1 z).toArray) vv c]) i).run P b6=.ok (some (i+b.length,vv)) b6
 |[],_,i,h,_=>by
  rw[show _=[] from h];show(Instr.findAsking t _ [MapEntry.mk (.agg (gk.c1 z).toArray) vv c] i).run P b6=_;unfold Instr.findAsking;simp only[Sem.run_bind,FT a z z b6,Result.andThen_ok,(beq_iff z z a.eq.key).2 rfl]
  simp
 |x::l,_,i,⟨e,r,he,I,J,ag⟩,aC=>by
  subst he;have aa:=ez.key a.sO a.eq.key I;show(Instr.findAsking t _ (e::(r++[MapEntry.mk (.agg (gk.c1 z).toArray) vv c])) i).run P b6=_;unfold Instr.findAsking at aC ⊢;rw[aa]at aC ⊢;simp only[Sem.run_bind,FT a z x.1 b6,Result.andThen_ok]at aC ⊢;cases ab:gk.beq z x.1 with
  |true=>rw[ab]at aC;simp at aC
  |false=>
   rw[ab]at aC
   have:=gd.Td a b6 (i+1) ag (by simpa using aC) (vv:=vv) (c:=c)
   simpa [add_assoc,add_comm 1] using this
section
variable {X:bz} {n:Nat} {st:aQ}
theorem Te(e:X.aY.ok X.P){t fi fV:TypeId}{bB dQ:cv}{gk gv:aV}{id:Nat}{l:List (gk.D×gv.D)}{jl:Option (List MapEntry×Nat)}{z:gk.D}(c:qD X.P fi gk)(bg:X.aY.find t=some bB)(dm:bB.aK.desc=.map fi fV)(he:X.aY.find fV=some dQ)(h:bj st.H id=some (.mp gk gv l jl)){R:Nat->Prop}{W:World}{aD:fk}{aq:bX}{env:Nat->Loc}{B:Nat->Prop}{ai:World}{H:cI}{a:Act}{w:World}(ad:bM X R W aD n aq env B ai H st a w) :
  ∃v0,(∀b,env id=.blk b->(Instr.lookup t (.map (some b)) (.agg (gk.c1 z).toArray) false).run X.P w=.ok v0 w)/\((∀B w,ez B w gv gv.zero dQ.aK.zero)->ez B ai gv ((de gk gv l z).getD gv.zero) v0):=by
 obtain⟨eQ,K,⟨b,r,clock,ab,rfl,o,c7,_⟩,i⟩:=ad.heap.gQ h;have k:=(ad.aT.ok _ i.more.mem).2;have d:=(cb.get e bg).aK.1;rw[dm]at d;obtain⟨du,f⟩:=c.str;have m:=bK.se (cb.get e he).aK w;have p:∃v,(Instr.lookup t (.map (some b)) (.agg (gk.c1 z).toArray) false).run X.P w=.ok v w/\((∀B w,ez B w gv gv.zero dQ.aK.zero)->ez B ai gv ((de gk gv l z).getD gv.zero) v):=by
  unfold Instr.lookup;simp only[Sem.run_bind,run_underlying d,Result.andThen_ok,MapKept.run_getObj_map k,c.zN,Sem.run_pure]
  rcases o.Ce c w 0 with⟨ar,aF⟩|⟨y,j,v,ar,aF,a7,_⟩
  ·refine⟨dQ.aK.zero,?_,λbF=>by rw[ar];exact bF _ _⟩
   simp[sP f aF,m,Result.andThen]
  ·refine⟨v,?_,λ_=>by rw[ar];exact a7⟩
   simp[sP f aF,Result.andThen]
 obtain⟨v,I,J⟩:=p;exact⟨v,λq g=>by rw[ab]at g;cases g;exact I,J⟩
theorem Tf(ax:X.aY.ok X.P){ops:Array Oper}{Y Z aa:Oper}{d1 d2:Nat}{t fi fV:TypeId}{bB dQ:cv}{gk gv:aV}{u x aL y:Operand}{id:Nat}{l:List (gk.D×gv.D)}{jl:Option (List MapEntry×Nat)}{z:gk.D}{g g2 c cK:Bool}{fS ei:bp}{fO:gv.D}(m:qD X.P fi gk)(LL:Y.op=.mapEntry t u x)(aF:Y.guard=none/\Y.dst=some d1)(nw:blt d1 n=true)(LM:Z.op=.extract (.tmp d1) 1)(aK:Z.guard=none/\Z.dst=some d2)(lR:blt d2 n=true)(LN:aa.op=.entryStore t aL (.tmp d2) y)(aI:aa.guard=none/\aa.dst=none)(bg:X.aY.find t=some bB)(dm:bB.aK.desc=.map fi fV)(he:X.aY.find fV=some dQ)(hu:bx X st.L u=some (true,.c (.dI id)))(an:bx X st.L x=some (g,fS))(aS:g=true)(nO:dec gk fS.cells=some (c,z,[]))(U:c=true)(bm:mo gk fS=true)(ay:bj st.H id=some (.mp gk gv l jl))(bs:bx X ((d2,b8.a (.c .dead))::(d1,b8.a (.c .dead))::st.L) aL=some (true,.c (.dI id)))(aG:bx X ((d2,b8.a (.c .dead))::(d1,b8.a (.c .dead))::st.L) y=some (g2,ei))(a6:g2=true)(bi:dec gv ei.cells=some (cK,fO,[]))(bc:cK=true)(a8:mo gv ei=true){R:Nat->Prop}{W:World}{aD:fk}{aq:bX}{env:Nat->Loc}{B:Nat->Prop}{ai:World}{H:cI}{a:Act}{w:World}(ad:bM X R W aD n aq env B ai H st a w){v0:Value}(bk:∀b,env id=.blk b->(Instr.lookup t (.map (some b)) (.agg (gk.c1 z).toArray) false).run X.P w=.ok v0 w){G am:World->Prop}(az:∀b6,ds (λk=>R k\/B k) ai b6->(∀b,env id=.blk b->(Instr.lookup t (.map (some b)) (.agg (gk.c1 z).toArray) false).run X.P b6=.ok v0 b6)->G b6)(br:∀b6,ds (λk=>R k\/B k) ai b6->am b6){KK:Act->World->Prop}(bn:∀aU w' H',bM X R W aD n aq env B ai H' ⟨(d2,.a (.c .dead))::(d1,.a (.c .dead))::st.L,e8 id (.mp gk gv (eS gk gv l z fO) none) st.H⟩ aU w'->KK aU w') :
  fj X.P ops Y (λaw b6=>G b6/\fj X.P ops Z (λae aE=>G aE/\fj X.P ops aa (λT aH=>am aH/\KK T aH) ae aE) aw b6) a w:=by
 obtain⟨bE,I,b,ab,rfl⟩:=ad.aJ hu rfl;obtain⟨vx,J,ag⟩:=ad.aJ an aS;have bb:=ez.key m.sO m.eq.key (ez.vf nO U bm ag);rw[bb]at J;obtain⟨eQ,K,⟨b',i,clock,aA,rfl,E,c7,_⟩,aB⟩:=ad.heap.gQ ay;rw[ab]at aA;cases aA;have L:=(ad.aT.ok _ aB.more.mem).2;have V:=(cb.get ax bg).aK.1;rw[dm]at V;obtain⟨du,ac⟩:=m.str;have aC:=bK.se (cb.get ax he).aK w;have cQ:=(Array.getElem?_eq_some_iff.1 L).1;have Q:=bk b ab
 -- what the first operation leaves
 have be:∃(o:List MapEntry) (s j:Nat) (e:MapEntry) (v:Value),(Instr.mapEntry t (.map (some b)) (.agg (gk.c1 z).toArray)).run X.P w=.ok (.tuple #[v,.int .i64 (e.born:Int)]) { w with heap:=w.heap.setIfInBounds b (.map o.toArray s) }/\o[j]?=some e/\(o.map (·.born)).Pairwise (· < ·)/\(Instr.lookup t (.map (some b)) (.agg (gk.c1 z).toArray) false).run X.P { w with heap:=w.heap.setIfInBounds b (.map o.toArray s) }=.ok v0 { w with heap:=w.heap.setIfInBounds b (.map o.toArray s) } /\
   ∀vy,ez B ai gv fO vy->gd B ai gk gv (eS gk gv l z fO) (o.modify j λe=>{ e with val:=vy })/\n5 (o.modify j λe=>{ e with val:=vy }) s:=by
  unfold Instr.mapEntry;simp only[Sem.run_bind,run_underlying V,Result.andThen_ok,MapKept.run_getObj_map L,m.zN]
  rcases E.Ce m w (z:=z) 0 with⟨a7,b1⟩|⟨q,j,v,a7,b1,dn,iW⟩
  ·refine⟨i++[MapEntry.mk (.agg (gk.c1 z).toArray) dQ.aK.zero clock],clock+1,i.length,MapEntry.mk (.agg (gk.c1 z).toArray) dQ.aK.zero clock,dQ.aK.zero,?_,by simp,?_,?_,λvy D=>⟨?_,?_⟩⟩
   ·simp only[sP ac b1,Result.andThen_ok,Sem.run_bind,aC,MapKept.run_setObj_map _ L]
    simp[goInt]
   ·rw[map_append,pairwise_append]
    exact⟨c7.1,by simp,λp ak q A=>by simp at A;subst A;exact c7.2 p ak⟩
   ·have fm:v0=dQ.aK.zero:=by
     unfold Instr.lookup at Q;simp only[Sem.run_bind,run_underlying V,Result.andThen_ok,MapKept.run_getObj_map L,m.zN,Sem.run_pure]at Q
     simp[sP ac b1,aC,Result.andThen]at Q
     exact Q.symm
    have S:({ w with heap:=w.heap.setIfInBounds b (.map (i++[MapEntry.mk (.agg (gk.c1 z).toArray) dQ.aK.zero clock]).toArray (clock+1)) }:World).heap[b]?=some (.map (i++[MapEntry.mk (.agg (gk.c1 z).toArray) dQ.aK.zero clock]).toArray (clock+1)):=by simp[cQ]
    have aT:(Instr.findAsking fi (.agg (gk.c1 z).toArray) i 0).run X.P { w with heap:=w.heap.setIfInBounds b (.map (i++[MapEntry.mk (.agg (gk.c1 z).toArray) dQ.aK.zero clock]).toArray (clock+1)) }=.ok none { w with heap:=w.heap.setIfInBounds b (.map (i++[MapEntry.mk (.agg (gk.c1 z).toArray) dQ.aK.zero clock]).toArray (clock+1)) }:=by
     rcases E.Ce m { w with heap:=w.heap.setIfInBounds b (.map (i++[MapEntry.mk (.agg (gk.c1 z).toArray) dQ.aK.zero clock]).toArray (clock+1)) } 0 with⟨_,r⟩|⟨q,j,v,r,_⟩
     ·exact r
     ·rw[a7]at r;cases r
    have aO:=E.Td m _ 0 aT (vv:=dQ.aK.zero) (c:=clock);rw[fm];unfold Instr.lookup;simp only[Sem.run_bind,run_underlying V,Result.andThen_ok,MapKept.run_getObj_map S,m.zN,Sem.run_pure];have aW:=sP ac aO;simp only[aW,Result.andThen_ok]
    simp
   ·rw[afL]
    rcases E.zO m w D 0 with⟨_,d⟩|⟨zT,v2,cm,d,_⟩
    ·rw[d]
     exact gd.snoc (ez.Lt m.sO m.eq.key z) D E
    ·rw[b1]at d
     cases d
   ·rw[n5,zm (f:=λe=>{ e with val:=vy }) (λ_=>rfl)]
    refine⟨?_,?_⟩
    ·rw[map_append,pairwise_append]
     exact⟨c7.1,by simp,λp ak q A=>by simp at A;subst A;exact c7.2 p ak⟩
    ·intro p ak
     rw[map_append,List.mem_append]at ak
     rcases ak with ak|ak
     ·exact Nat.lt_succ_of_lt (c7.2 p ak)
     ·simp at ak;omega
  ·-- the entry is there
   obtain⟨M,F⟩:∃M,i[j]?=some M:=⟨_,List.getElem?_eq_getElem iW⟩
   have aX:∀vy,ez B ai gv fO vy->M.key=.agg (gk.c1 z).toArray/\gd B ai gk gv (eS gk gv l z fO) (i.modify j λe=>{ e with key:=.agg (gk.c1 z).toArray,val:=vy }):=λvy D=>by
    rcases E.zO m w D 0 with⟨d,_⟩|⟨zT,v2,cm,d,r,rM,afP⟩
    ·rw[b1]at d
     cases d
    ·rw[b1]at d
     have O:zT=j:=by
      have:=Result.ok.inj d
      have N:=Option.some.inj this.1;have ao:=(Prod.mk.inj N).1;omega
     subst O;rw[F]at r;cases r;exact⟨rM,afP⟩
   refine⟨i.modify j λe=>{ e with key:=.agg (gk.c1 z).toArray },clock,j,{ M with key:=.agg (gk.c1 z).toArray },v,?_,?_,?_,?_,λvy D=>⟨?_,?_⟩⟩
   ·have al:M.key=.agg (gk.c1 z).toArray:=by
     rcases E.zO m w dn (z:=z) 0 with⟨d,_⟩|⟨zT,v2,cm,d,r,rM,_⟩
     ·rw[b1]at d
      cases d
     ·rw[b1]at d
      have O:zT=j:=by
       have:=Result.ok.inj d
       have N:=Option.some.inj this.1;have ao:=(Prod.mk.inj N).1;omega
      subst O;rw[F]at r;cases r;exact rM
    rw[zero_add]at b1;have bh:(Instr.keyThatStays (((i.toArray[j]?).map (·.key)).getD (.agg (gk.c1 z).toArray)) (.agg (gk.c1 z).toArray)).run X.P w=.ok (.agg (gk.c1 z).toArray) w:=by
     have:((i.toArray[j]?).map (·.key)).getD (.agg (gk.c1 z).toArray)=.agg (gk.c1 z).toArray:=by simp[F,al]
     rw[this];unfold Instr.keyThatStays;rw[SV λn=>FU m.eq.key z n]
     rfl
    simp only[sP ac b1,Result.andThen_ok,Sem.run_bind,bh,MapKept.run_setObj_map _ L]
    simp[goInt,F]
   ·simp[F]
   ·rw[zm (f:=λe=>{ e with key:=.agg (gk.c1 z).toArray }) (λ_=>rfl)]
    exact c7.1
   ·have al:M.key=.agg (gk.c1 z).toArray:=by
     rcases E.zO m w dn (z:=z) 0 with⟨d,_⟩|⟨zT,v2,cm,d,r,rM,_⟩
     ·rw[b1]at d
      cases d
     ·rw[b1]at d
      have O:zT=j:=by
       have:=Result.ok.inj d
       have N:=Option.some.inj this.1;have ao:=(Prod.mk.inj N).1;omega
      subst O;rw[F]at r;cases r;exact rM
    have aQ:(i.modify j λe=>{ e with key:=.agg (gk.c1 z).toArray })=i:=by
     apply List.ext_getElem?
     intro q;rw[List.getElem?_modify]
     by_cases A:j=q
     ·subst A
      rw[F]
      simp[<- al]
     ·simp[A]
    rw[aQ];have bf:({ w with heap:=w.heap.setIfInBounds b (.map i.toArray clock) }:World)=w:=by
     have:w.heap.setIfInBounds b (.map i.toArray clock)=w.heap:=by
      apply Array.ext_getElem?
      intro q
      by_cases A:q=b
      ·subst A
       rw[L]
       simp[cQ]
      ·rw[Array.getElem?_setIfInBounds_ne (Ne.symm A)]
     rw[this]
    rw[bf];exact Q
   ·rw[Tc]
    exact(aX vy D).2
   ·rw[Tc,n5,zm (f:=λe=>{ e with key:=.agg (gk.c1 z).toArray,val:=vy }) (λ_=>rfl)]
    exact c7
 obtain⟨o,s,j,e,v,aY,aP,aZ,ap,bl⟩:=be;have a0:=afK aZ aP;have af:∀(aj:Obj),ds (λk=>R k\/B k) ai { w with heap:=w.heap.setIfInBounds b aj }:=λaj=>(ad.aT.wF (x':=aj) aB.more).below
 refine hM ad.bW aF.1 aF.2 (dS nw) (v:=.tuple #[v,.int .i64 (e.born:Int)]) (w':={ w with heap:=w.heap.setIfInBounds b (.map o.toArray s) }) ?_ λaw ar=>⟨az _ (af _) (λa5 P=>by rw[ab]at P;cases P;exact ap),?_⟩
 ·simp[execOp,LL,ad.bW.aJ I,ad.bW.aJ J,aY]
 have ah:=ad.set (sv:=.a (.c .dead)) trivial ar;have aR:=hs ar.this;refine hM ah.bW aK.1 aK.2 (dS lR) (w':={ w with heap:=w.heap.setIfInBounds b (.map o.toArray s) }) (PQ ah.bW LM aR rfl _) λae au=>⟨az _ (af _) (λa5 P=>by rw[ab]at P;cases P;exact ap),?_⟩
 have C:=ah.set (sv:=.a (.c .dead)) trivial au;have bt:aJ (full ae) (.tmp d2)=some (.int .i64 (e.born:Int)):=hs au.this;obtain⟨bw,a4,bC,aM,rfl⟩:=C.aJ bs rfl;rw[ab]at aM;cases aM;obtain⟨vy,a9,bd⟩:=C.aJ aG a6;have D:=ez.vf bi bc a8 bd;obtain⟨aN,a1⟩:=bl vy D;obtain⟨bv,bu,⟨bD,bz,bA,av,rfl,_⟩,bq,ba⟩:=C.oS (b':=.mp gk gv (eS gk gv l z fO) none) ay;rw[ab]at av;cases av;have S:({ w with heap:=w.heap.setIfInBounds b (.map o.toArray s) }:World).heap[b]?=some (.map o.toArray s):=by simp[cQ]
 have a2:(Instr.entryStore t (.map (some b)) (.int .i64 (e.born:Int)) vy).run X.P { w with heap:=w.heap.setIfInBounds b (.map o.toArray s) }=.ok () { w with heap:=w.heap.setIfInBounds b (.map (o.modify j λe=>{ e with val:=vy }).toArray s) }:=by
  unfold Instr.entryStore;simp only[Sem.run_bind,MapKept.run_getObj_map S,Result.andThen_ok,asInt,asIntOf,Sem.run_pure,a0];rw[MapKept.run_setObj_map _ S]
  simp[Array.setIfInBounds_setIfInBounds]
 refine A1 C.bW aI.1 aI.2 (w':={ w with heap:=w.heap.setIfInBounds b (.map (o.modify j λe=>{ e with val:=vy }).toArray s) }) ?_ λT a3=>⟨br _ (af _),?_⟩
 ·simp[execOp,LN,C.bW.aJ a4,C.bW.aJ bt,C.bW.aJ a9,a2]
 obtain⟨H',d⟩:=ba _ T _ ⟨b,_,s,ab,rfl,aN,a1,λ_ h=>by cases h⟩ (C.aT.wF bq) a3;exact bn T _ H' d
end
end
section
inductive sR where
  |t (i m:Nat)
  |m (i:Nat)
  |s (i:Nat)
  |k (i:Nat)
  |u (i:Nat) (m:qE)
  |w (i p e:Nat)
  |c (i:Nat) (aB:ev)
  |g (i:Nat)
  |z (id:Nat)
  |f
def ud:List sR->Nat
  |[]=>0
  |.z _::r=>ud r
  |.f::r=>ud r
  |.w _ _ _::r=>ud r+3+1+1
  |_::r=>ud r+1
def Gb(al:Bool)(m:Nat)(H:bC):bC:=match m with
  |1=>[]
  |3=>match al with
    |true=>H
    |false=>nH H
  |_=>H
def zU(al:Bool)(m:Nat)(H:cI):cI:=match m with
  |1=>[]
  |3=>H.filter (sy al)
  |_=>H
theorem Gc{al:Bool}{m:Nat}{env:Nat->Loc}{B:Nat->Prop}{w:World}{l:bC}{H:cI}(h:bG env B w l H):bG env B w (Gb al m l) (zU al m H)/\(zU al m H).Sublist H:=by
  unfold Gb zU
  split
  · exact⟨rfl,List.nil_sublist _⟩
  · cases al with
    |true=>exact⟨by
        have e:H.filter (sy true)=H:=List.filter_eq_self.2 λ_ _=>rfl
        rw[e];exact h,List.filter_sublist⟩
    |false=>exact⟨h.hN,List.filter_sublist⟩
  · exact⟨h,List.Sublist.refl _⟩
def LO(X:bz)(n:Nat)(st:aQ)(b d e:Oper):Option (Bool×aQ×bX):=match b,d,e with
  |⟨some d1,.mapEntry t u x,_,_,_,none⟩,⟨some d2,.extract (.tmp f) 1,_,_,_,none⟩,⟨none,.entryStore i j (.tmp h) y,_,_,_,none⟩=>match blt d1 n&&(blt d2 n&&(beq f d1&&(beq h d2&&beq i t))),X.aY.find t,bx X st.L u,bx X st.L x with
    |true,some ⟨⟨.map fi fV,_,_,_⟩,_⟩,some (true,.c (.dI id)),some (g,fS)=>match bj st.H id,X.aY.find fV,bx X ((d2,b8.a (.c .dead))::(d1,b8.a (.c .dead))::st.L) j,bx X ((d2,b8.a (.c .dead))::(d1,b8.a (.c .dead))::st.L) y with
      |some (.mp gk gv l _),some _,some (true,.c (.dI a)),some (g2,ei)=>match dec gk fS.cells,dec gv ei.cells,beq a id&&(zP X fi gk&&(mo gk fS&&mo gv ei))with
        |some (c,z,[]),some (cK,fO,[]),true=>some (g&&(c&&(g2&&cK)),⟨(d2,.a (.c .dead))::(d1,.a (.c .dead))::st.L,e8 id (.mp gk gv (eS gk gv l z fO) none) st.H⟩,[d2,d1,id])
        |_,_,_=>none
      |_,_,_,_=>none
    |_,_,_,_=>none
  |_,_,_=>none
theorem afX{X:bz}{n:Nat}{st st':aQ}{i j l:Oper}{c:Bool}{V:bX}(b:X.aY.ok X.P)(h:LO X n st i j l=some (c,st',V))(U:c=true){ops:Array Oper}{R:Nat->Prop}{W:World}{aD:fk}{aq:bX}{env:Nat->Loc}{B:Nat->Prop}{ai:World}{H:cI}{a:Act}{w:World}(ad:bM X R W aD n aq env B ai H st a w){G:World->Prop}(m:∀b6,ds (λk=>R k\/B k) ai b6->G b6){KK:Act->World->Prop}(D:∀aU w' H',bM X R W aD n aq env B ai H' st' aU w'->KK aU w') :
    fj X.P ops i (λv b6=>G b6/\fj X.P ops j (λr p=>G p/\fj X.P ops l (λs q=>G q/\KK s q) r p) v b6) a w:=by
  unfold LO at h
  split at h
  · rename_i d1 t u x _ _ _ d2 F _ _ _ J K I y _ _ _
    split at h
    · rename_i ab bg hu an
      simp only[and_eq_true]at ab;obtain⟨nw,lR,d,e,f⟩:=ab;have d:=eq_of_beq_eq_true d;have e:=eq_of_beq_eq_true e;have f:=eq_of_beq_eq_true f;subst d;subst e;subst f
      split at h
      · rename_i ah he E aG
        split at h
        · rename_i nO tW aa
          simp only[and_eq_true]at aa;obtain⟨g,o,A,C⟩:=aa;have g:=eq_of_beq_eq_true g;subst g;cases h;simp only[and_eq_true]at U;obtain⟨v0,z,_⟩:=Te b (Cg b o) bg rfl he ah ad;exact Tf b (Cg b o) rfl ⟨rfl,rfl⟩ nw rfl ⟨rfl,rfl⟩ lR rfl ⟨rfl,rfl⟩ bg rfl he hu an U.1 nO U.2.1 A ah E aG U.2.2.1 tW U.2.2.2 C ad z (λb6 h _=>m b6 h) m D
        · cases h
      · cases h
    · cases h
  · cases h
def Ct(X:bz)(n:Nat)(st:aQ)(k a h i j:Oper):Option (Bool×aQ×bX):=match k,a.guard,a.dst,h,i,j with
  |⟨some d,.lookup t (.tmp l4) (.tmp fS) false,_,_,_,none⟩,none,some j2,⟨some d1,.mapEntry p (.tmp b) (.tmp e),_,_,_,none⟩,⟨some d2,.extract (.tmp m) 1,_,_,_,none⟩,⟨none,.entryStore q (.tmp f) (.tmp o) y,_,_,_,none⟩=>
    match (blt d n&&(blt j2 n&&(blt d1 n&&blt d2 n)))&&((beq b l4&&(beq e fS&&(beq f l4&&(beq m d1&&(beq o d2&&(beq p t&&beq q t))))))&&((!beq l4 d&&(!beq l4 j2&&(!beq l4 d1&&(!beq l4 d2&&(!beq fS d&&!beq fS j2)))))&&(pK a.op&&!n6 a.op))),X.aY.find t,bx X st.L (.tmp l4),bx X st.L (.tmp fS)with
    |true,some ⟨⟨.map fi fV,_,_,_⟩,_⟩,some (true,.c (.dI id)),some (g,sN)=>match bj st.H id,X.aY.find fV with
      |some (.mp gk gv l _),some dQ=>match dec gk sN.cells,zP X fi gk&&(mo gk sN&&Ch gv dQ.aK.zero)with
        |some (c,z,[]),true=>match pR gv ((de gk gv l z).getD gv.zero)with
          |some sa=>match wJ X ⟨(d,.a sa)::st.L,st.H⟩ a.op with
            |some (uQ,sp)=>match bx X ((d2,b8.a (.c .dead))::(d1,b8.a (.c .dead))::(j2,.a sp)::(d,.a sa)::st.L) y with
              |some (g2,ei)=>match dec gv ei.cells,mo gv ei with
                |some (cK,fO,[]),true=>some (g&&(c&&(uQ&&(g2&&cK))),⟨(d2,.a (.c .dead))::(d1,.a (.c .dead))::(j2,.a sp)::(d,.a sa)::st.L,e8 id (.mp gk gv (eS gk gv l z fO) none) st.H⟩,[d2,d1,j2,d,id])
                |_,_=>none
              |none=>none
            |none=>none
          |none=>none
        |_,_=>none
      |_,_=>none
    |_,_,_,_=>none
  |_,_,_,_,_,_=>none
def LP(ops:Array Oper)(E:bX)(listed:Array Bool)(i p e:Nat):Bool:=
  (pL ops E listed i&&pL ops E (listed.setIfInBounds i true) p&&((xG ops i).all λj=>!listed.getD j true&&y5 ops i (xG ops i) j) &&
    (range ops.size).all λj=>j==i || listed.getD j true || j==e || j==e+1 || (xG ops i).elem j) &&
  (((Region.ready .any ops ((listed.setIfInBounds i true).setIfInBounds p true)==[e])&&(Region.ready .any ops (((listed.setIfInBounds i true).setIfInBounds p true).setIfInBounds e true)==[e+1])&&(Region.ready .any ops ((((listed.setIfInBounds i true).setIfInBounds p true).setIfInBounds e true).setIfInBounds (e+1) true)==[e+2])) &&
   (!E.elem i&&!E.elem p&&!E.elem e&&!E.elem (e+1)&&!E.elem (e+2))&&(!beq p e&&!beq p (e+1)&&blt (e+1) listed.size))
def Tq(ops:Array Oper)(E:bX)(listed:Array Bool)(i:Nat):Bool:=(range ops.size).all λj=>j==i || listed.getD j true || E.elem j || E.elem (j+nF) ||
  (match ops[j]? with
  |some o=>o.after.any λe=>Region.binds .any e&&(e.on==i || E.elem (e.on+nF))
  |none=>true)
theorem Tr{l:Array Bool}{j:Nat}:(l.setIfInBounds j true).getD j true=true:=by
  rcases lt_or_ge j l.size with aR|aR
  · simp[aR]
  · simp[aR]
theorem Ts{E:bX}{l:Array Bool}{j:Nat}(h:tA E (l.setIfInBounds j true)=false):tA E l=false:=by
  unfold tA at h ⊢;rw[List.any_eq_false]at h ⊢;intro e he ab;refine h e he ?_;rw[and_eq_true]at ab ⊢;refine⟨ab.1,?_⟩;obtain⟨q,c⟩:∃q,q=e-nF:=⟨_,rfl⟩
  have b:=ab.2;rw[<- c]at b ⊢
  by_cases a:j=q
  · rw[a];exact Tr
  · rw[getD_set_ne true a]
    exact b
theorem Tt{E:bX}{l:Array Bool}{j:Nat}(a:E.elem (j+nF)=true)(ah:l.getD j true=true):tA E l=true:=by
  unfold tA;rw[List.any_eq_true];refine⟨j+nF,by simpa using a,?_⟩;rw[and_eq_true];exact⟨Nat.ble_eq_true_of_le (Nat.le_add_left _ _),by rw[Nat.add_sub_cancel];exact ah⟩
theorem ho.afY{P:Program}{ops:Array Oper}{Q:Exit->Act->World->Prop}{E:bX}{G F:World->Prop}{i:Nat}{m:Oper}{v:Value}(hi:ops[i]?=some m)(y:∀(j:Nat) (o:Oper) cs b,ops[j]?=some o->o.op≠.select cs b)(M:BF E i=true):∀(fuel:Nat) (listed:Array Bool) (a:Act) (w:World),
      (∀j c,ops[j]?=some c->j≠i->listed.getD j true=false->(∀e∈c.after,Region.binds .any e=true->e.on≠i)->m.apart ops c=true/\(E.elem j=true\/E.elem (j+nF)=true\/∃e∈c.after,Region.binds .any e=true/\E.elem (e.on+nF)=true)) ->
      i∈Region.ready .any ops listed->YieldsIf P ops F m v a->F w->(fL E listed i=true->G w) ->
      ho P ops Q (λj l w=>(fL E l j=true->G w)/\F w) fuel (listed.setIfInBounds i true) (a.put m.dst v) w->ho P ops Q (λj l w=>(fL E l j=true->G w)/\F w) (fuel+1) listed a w:=by
  have B:∀ {l:Array Bool} {j:Nat},fL E l j=true->fL E (l.setIfInBounds i true) j=true:=Kc M;intro fuel
  induction fuel with
  |zero=>
    intro listed a w _ f aG p u H;refine⟨λh=>(by rw[h]at f;cases f),λj s=>?_⟩
    by_cases d:j=i
    · subst d;exact⟨m,hi,E2 aG p ⟨⟨u,p⟩,H⟩⟩
    · have:=ready_mono s d
      rw[H.1]at this;cases this
  |succ fuel T=>
    intro listed a w K f aG p u H;refine⟨λh=>(by rw[h]at f;cases f),λj s=>?_⟩
    by_cases d:j=i
    · subst d;exact⟨m,hi,E2 aG p ⟨⟨u,p⟩,H⟩⟩
    · obtain⟨X,O,D⟩:=H.2 j (ready_mono s d)
      obtain⟨J,c,t,I⟩:=mem_ready.1 s;have R:=Option.some.inj (O.symm.trans t);rw[R]at D;have N:∀e∈c.after,Region.binds .any e=true->e.on≠i:=λe he ab heq=>by
        have g:=I e he ab;have L:=(mem_ready.1 f).1;rw[heq]at g
        rcases lt_or_ge i listed.size with aR|aR
        · simp[aR]at L g;rw[L]at g;cases g
        · simp[Array.getElem?_eq_none aR]at g
      obtain⟨kR,S⟩:=K j c t d J N;have V:=fj.Q5 kR (λcs b=>y i m cs b hi) (λcs b=>y j c cs b t) aG D;refine⟨c,t,V.mono λaU w' n=>⟨⟨λq=>n.2.1.1 (B q),n.2.1.2⟩,?_⟩⟩;refine T (listed.setIfInBounds j true) aU w' (λk ok aa W z U=>?_) (ready_mono f (Ne.symm d)) n.1 n.2.1.2 (λq=>?_) ?_
      · refine K k ok aa W ?_ U
        by_cases A:j=k
        · subst A;exact J
        · rw[getD_set_ne true A]at z;exact z
      · have r:tA E (listed.setIfInBounds j true)=false:=by
          unfold fL at q;rw[and_eq_true,not_eq_true']at q;exact q.2
        rcases S with aF|aF|⟨e,he,ab,aF⟩
        · refine n.2.1.1 (B ?_)
          unfold fL;rw[aF,Ts r]
          rfl
        · rw[Tt aF Tr]at r
          cases r
        · have ah:listed.getD e.on true=true:=by
            have g:=I e he ab
            rcases lt_or_ge e.on listed.size with aR|aR
            · simpa [aR] using g
            · simp[aR]
          have C:=Ts r;rw[Tt aF ah]at C;cases C
      · rw[Array.setIfInBounds_comm _ _ d]
        exact n.2.2
def Ge(ops:Array Oper)(E:bX)(i m:Nat)(aL:h2):Bool:=match m with
  |0=>pL ops E aL.listed i&&y7 ops E aL.listed aL.pre i&&nG (λo=>pK o&&!n6 o) ops i
  |1=>pL ops E aL.listed i&&y7 ops E aL.listed aL.pre i&&nG pK ops i&&aL.lq
  |3=>pL ops E aL.listed i&&y6 ops E (xG ops i) aL.listed i&&nG pK ops i&&aL.early&&aL.pre
  |5=>pL ops E aL.listed i&&Tq ops E aL.listed i&&nG (λo=>pK o&&!n6 o) ops i&&aL.pre
  |_=>false
def h2.next(aL:h2)(i:Nat):h2:=⟨aL.listed.setIfInBounds i true,aL.early,aL.pre,aL.lq,aL.all⟩
section
variable {X:bz} {aX:Type}
def gK(X:bz)(n:Nat)(T:List (bI X))(ops:List Oper)(E:bX):List sR->h2->gJ->bX->eD->aQ->(h2->gJ->bX->eD->aQ->Option aX)->Option aX
  |[],aL,G,V,A,st,k=>k aL G V A st
  |.t i m::r,aL,G,V,A,st,k=>match nth ops i,Ge ops.toArray E i m aL with
    |some o,true=>match o.guard,o.dst with
      |none,some d=>match vq X (eN ops) [] G ⟨st.L,Gb aL.all m st.H⟩ o.op,blt d n with
        |some (c,sa),true=>gK X n T ops E r (aL.next i) (pb (eN ops) d G) (d::V) (c::A) ⟨(d,.a sa)::st.L,st.H⟩ k
        |_,_=>none
      |some (j,want),some d=>match nth (eN ops) j with
        |some (some s)=>match k6 st.L s want with
          |some g=>match vq X (eN ops) (xq (eN ops) G 8 j want) G ⟨st.L,Gb aL.all m st.H⟩ o.op,blt d n,beq s d with
            |some (c,sa),true,false=>gK X n T ops E r (aL.next i) ((d,j,want)::pb (eN ops) d G) (d::V) (dK g c::A) ⟨(d,.may g sa)::st.L,st.H⟩ k
            |_,_,_=>none
          |none=>none
        |_=>none
      |_,none=>none
    |_,_=>none
  |.m i::r,aL,G,V,A,st,k=>match nth ops i,Ge ops.toArray E i 0 aL with
    |some o,true=>match o.guard,o.dst,EN st.L o.op with
      |none,some d,some xs=>match blt d n with
        |true=>gK X n T ops E r (aL.next i) (pb (eN ops) d G) (d::V) A ⟨(d,.cY xs)::st.L,st.H⟩ k
        |false=>none
      |_,_,_=>none
    |_,_=>none
  |.s i::r,aL,_,V,A,st,k=>match nth ops i,Region.ready .any ops.toArray aL.listed==[i],fL E aL.listed i with
    |some o,true,false=>match o.guard with
      |none=>match xu X n st o with
        |some (c,st',W)=>gK X n T ops E r ⟨aL.listed.setIfInBounds i true,false,false,aL.lq,aL.all⟩ [] (W++V) (c::A) st' k
        |none=>match kX X n (eN ops) st o with
          |.ok c st'=>gK X n T ops E r ⟨aL.listed.setIfInBounds i true,false,false,aL.lq,aL.all⟩ [] (xr X st.L o++V) (c::A) st' k
          |.stop=>none
      |some _=>none
    |_,_,_=>none
  |.k i::r,aL,_,V,A,st,k=>match nth ops i,Region.ready .any ops.toArray aL.listed==[i],aL.pre with
    |some o,true,true=>match o.guard with
      |none=>match o.dst,zK X st o.op with
        |some d,some (c,sa)=>match blt d n with
          |true=>gK X n T ops E r ⟨aL.listed.setIfInBounds i true,false,true,false,aL.all⟩ [] (d::V) (c::A) ⟨(d,.a sa)::st.L,st.H⟩ k
          |false=>none
        |_,none=>match cond aL.all (yW o.op&&uV o st.H) (Bk o.op&&ri o st.H),kX X n (eN ops) st o with
          |true,.ok c st'=>gK X n T ops E r ⟨aL.listed.setIfInBounds i true,false,true,aL.lq,aL.all⟩ [] (xr X st.L o++V) (c::A) st' k
          |_,_=>none
        |none,some _=>none
      |some _=>none
    |_,_,_=>none
  |.u i m::r,aL,_,V,A,st,k=>match nth ops i,Region.ready .any ops.toArray aL.listed==[i],fL E aL.listed i with
    |some o,true,false=>match xw X n st m o with
      |some (c,st',W)=>gK X n T ops E r ⟨aL.listed.setIfInBounds i true,false,false,aL.lq,aL.all⟩ [] (W++V) (c::A) st' k
      |none=>none
    |_,_,_=>none
  |.w i p e::r,aL,_,V,A,st,k=>match nth ops i,nth ops p,nth ops e,nth ops (e+1),nth ops (e+2),LP ops.toArray E aL.listed i p e with
    |some u,some t,some h,some l,some q,true=>match Ct X n st u t h l q with
      |some (c,st',W)=>gK X n T ops E r ⟨((((aL.listed.setIfInBounds i true).setIfInBounds p true).setIfInBounds e true).setIfInBounds (e+1) true).setIfInBounds (e+2) true,false,false,aL.lq,aL.all⟩ [] (W++V) (c::A) st' k
      |none=>none
    |_,_,_,_,_,_=>none
  |.c i aB::r,aL,_,V,A,st,k=>match nth ops i,Region.ready .any ops.toArray aL.listed==[i],!fL E aL.listed i || (aL.pre&&(rE st.H aB || (!aL.all&&zB st.H aB)))with
    |some o,true,true=>xx X n T aB V A st (λb f a st'=>gK X n T ops E r ⟨aL.listed.setIfInBounds i true,false,aL.pre&&(rE st.H aB || (!aL.all&&zB st.H aB)),false,aL.all⟩ b f a st' k) o
    |_,_,_=>none
  |.g i::r,aL,G,V,A,st,k=>match nth ops i,Region.ready .any ops.toArray aL.listed==[i],fL E aL.listed i with
    |some o,true,false=>zQ X n T (eN ops) G V A st (λb f a st'=>gK X n T ops E r ⟨aL.listed.setIfInBounds i true,false,false,false,aL.all⟩ b f a st' k) o
    |_,_,_=>none
  |.z id::r,aL,_,V,A,st,k=>match dV id st with
    |some st'=>gK X n T ops E r ⟨aL.listed,false,aL.pre&&!aL.all,false,aL.all⟩ [] V A st' k
    |none=>none
  |.f::r,aL,G,V,A,st,k=>match E.isEmpty || aL.pre with
    |true=>gK X n T ops E r ⟨aL.listed,true,true,true,aL.all⟩ G V A st k
    |false=>none
variable {M:Bool} {n:Nat} {T:List (bI X)} {fG st st':aQ} {Q:Exit->aQ->Prop} {ops:List Oper} {o:Oper} {r:aX} {V:bX} {A:eD} {E:bX} {aL:h2} {fuel i:Nat}
theorem km{k:h2->gJ->bX->eD->aQ->Option aX}(a:∀aL G V A st,k aL G V A st=some r->∀c∈A,c=true):∀ {is:List sR} {aL:h2} {G:gJ} {V:bX} {A:eD} {st:aQ},gK X n T ops E is aL G V A st k=some r->∀c∈A,c=true
  |[],aL,G,V,A,st,h=>by
    unfold gK at h;exact a _ _ _ _ _ h
  |.t i m::is,aL,G,V,A,st,h=>by
    unfold gK at h
    split at h
    · split at h
      · split at h
        · exact λc U=>km a h c (mem_cons_of_mem _ U)
        · cases h
      · split at h
        · split at h
          · split at h
            · exact λc U=>km a h c (mem_cons_of_mem _ U)
            · cases h
          · cases h
        · cases h
      · cases h
    · cases h
  |.m i::is,aL,G,V,A,st,h=>by
    unfold gK at h
    split at h
    · split at h
      · split at h
        · exact km a h
        · cases h
      · cases h
    · cases h
  |.s i::is,aL,G,V,A,st,h=>by
    unfold gK at h
    split at h
    · split at h
      · split at h
        · exact λc U=>km a h c (mem_cons_of_mem _ U)
        · split at h
          · exact λc U=>km a h c (mem_cons_of_mem _ U)
          · cases h
      · cases h
    · cases h
  |.k i::is,aL,G,V,A,st,h=>by
    unfold gK at h
    split at h
    · split at h
      · split at h
        · split at h
          · exact λc U=>km a h c (mem_cons_of_mem _ U)
          · cases h
        · split at h
          · exact λc U=>km a h c (mem_cons_of_mem _ U)
          · cases h
        · cases h
      · cases h
    · cases h
  |.u i m::is,aL,G,V,A,st,h=>by
    unfold gK at h
    split at h
    · split at h
      · exact λc U=>km a h c (mem_cons_of_mem _ U)
      · cases h
    · cases h
  |.w i p e::is,aL,G,V,A,st,h=>by
    unfold gK at h
    split at h
    · split at h
      · exact λc U=>km a h c (mem_cons_of_mem _ U)
      · cases h
    · cases h
  |.c i aB::is,aL,G,V,A,st,h=>by
    unfold gK at h
    split at h
    · exact(vt (dt.refl st) h).1
    · cases h
  |.g i::is,aL,G,V,A,st,h=>by
    unfold gK at h
    split at h
    · exact S5 h
    · cases h
  |.z id::is,aL,G,V,A,st,h=>by
    unfold gK at h
    split at h
    · exact km a h
    · cases h
  |.f::is,aL,G,V,A,st,h=>by
    unfold gK at h
    split at h
    · exact km a h
    · cases h
theorem Tu(d:X.aY.ok X.P){R:Nat->Prop}{W:World}{aD:fk}{aq:bX}{env:Nat->Loc}{B:Nat->Prop}{ai:World}{H C:cI}{L:c6}{i h:bC}{a:Act}{w:World}{c:Bool}{G:gJ}{aB:List (Nat×Bool)}{sa:bp}(ad:bM X R W aD n aq env B ai H ⟨L,i⟩ a w)(e:bG env B ai h C)(cF:C.Sublist H)(f:fa (eN ops) G L)(ak:∀p∈aB,pV (eN ops) L p)(b:vq X (eN ops) aB G ⟨L,h⟩ o.op=some (c,sa))(U:c=true) :
    ∃v,eb env B ai sa v/\∀w',(n6 o.op=true->bT (λk=>R k\/B k) ai C w')->(execOp a.eval o).run X.P w'=.ok (.value v) w':=by
  have g:bM X R W aD n [] env B ai C ⟨L,h⟩ { tmps:=a.tmps,defers:=aD.d } w:=⟨ad.size,rfl,ad.has,e,ad.aT.fq (by simpa using cF.trans (List.sublist_append_left _ _)),ad.sub,ad.new,ad.dP,ad.base,ad.eu⟩
  obtain⟨v,I,J⟩:=SK d g f ak b U;refine⟨v,I,λw' hw=>?_⟩
  have:=J w' (by simpa using hw)
  exact this
theorem Gf(an:X.aY.ok X.P){m d:Nat}{sv:b8}{R:Nat->Prop}{W:World}{aD:fk}{p:Nat->Prop}{q:World}{cN:cI}{F:World->Prop}{aq:bX}{env:Nat->Loc}{B:Nat->Prop}{ai:World}{H:cI}{a:Act}{w:World}{N:Exit->Act->World->Prop}(hi:nth ops i=some o)(bg:Ge ops.toArray E i m aL=true)(ae:o.dst=some d)(az:blt d n=true)(ad:bM X R W aD n aq env B ai H st a w)(b:lU R aL p q cN F B ai H)(v:Value)(aj:e7 env B ai sv v)(aG:∀T:World->Prop,(∀w',T w'->n6 o.op=true->bT (λk=>R k\/B k) ai (zU aL.all m H) w')->YieldsIf X.P ops.toArray T o v a)(Q:∀aU,bM X R W aD n aq env B ai H ⟨(d,sv)::st.L,st.H⟩ aU w->lU R (aL.next i) p q cN F B ai H->ho X.P ops.toArray N (λj l w=>(fL E l j=true->bT (λk=>R k\/p k) q cN w)/\F w) fuel (aL.next i).listed aU w) :
    ho X.P ops.toArray N (λj l w=>(fL E l j=true->bT (λk=>R k\/p k) q cN w)/\F w) (fuel+1) aL.listed a w:=by
  have c:=lV hi;have s:=b.F ad;have P:=ad.set aj (show dh n (j9 aq aD) ((d,v)::full a) (a.put o.dst v) by rw[ae];exact ad.bW.put d v (dS az));have af:lU R (aL.next i) p q cN F B ai H:=⟨b.early,b.pre,b.dV,b.oi⟩
  have go:=Q _ P af;unfold Ge at bg
  split at bg
  · simp only[nG,c,and_eq_true,not_eq_true']at bg
    obtain⟨⟨f,z⟩,C,t⟩:=bg;obtain⟨pM,D⟩:=E7 z;exact y8 (E.elem i) v c f id pM (aG _ λw' _ ah=>by rw[t]at ah;cases ah) (λhe=>b.T (D he) ad) s go
  · simp only[nG,c,and_eq_true]at bg
    obtain⟨⟨⟨f,z⟩,C⟩,al⟩:=bg;obtain⟨pM,D⟩:=E7 z;refine y8 (E.elem i) v c f id pM (aG _ λw' A _=>?_) (λhe=>b.T (D he) ad) s go;have g:=A.2;rw[b.dV al]at g;refine⟨g,λk aa=>?_,(λ_ h=>by cases h),List.Pairwise.nil⟩;have ag:=ad.aT.base k aa;have Y:=ad.aT.below.block k aa;have G:=g.block k aa;rw[<- Y,Array.getElem?_eq_getElem ag]at G;exact(Array.getElem?_eq_some_iff.1 G).1
  · simp only[nG,c,and_eq_true]at bg
    obtain⟨⟨⟨⟨f,r⟩,C⟩,U⟩,y⟩:=bg;refine y8 true v c f (λ_=>rfl) (λ_=>r) (aG _ λw' A _=>?_) (λ_=>b.T y ad) s go;have g:=A.1 rfl;obtain⟨V,Z,ab⟩:=b.early U;rw[V,Z,ab]at g;exact g
  · simp only[nG,c,and_eq_true,not_eq_true']at bg
    obtain⟨⟨⟨f,r⟩,C,t⟩,y⟩:=bg;simp only[pL,and_eq_true]at f;obtain⟨⟨⟨O,am⟩,ak⟩,S⟩:=f;refine ho.afY c (Region.noSelect_spec am) O _ _ _ _ (λj ac u L M K=>⟨Region.free_spec c ak j ac u L M K,?_⟩) (by simpa using S) (aG F λw' _ ah=>by rw[t]at ah;cases ah) s (λ_=>b.T y ad) go;unfold Tq at r;rw[List.all_eq_true]at r;have I:=r j (List.mem_range.2 (Array.getElem?_eq_some_iff.1 u).1);simp only[or_eq_true,u,Array.any_eq_true]at I
    rcases I with(((I|I)|I)|I)|⟨e,he,I⟩
    · exact absurd (by simpa using I) L
    · rw[M]at I;cases I
    · exact .inl I
    · exact .inr (.inl I)
    · rw[and_eq_true,or_eq_true]at I
      rcases I.2 with J|J
      · exact absurd (by simpa using J) (K _ (Array.getElem_mem he) I.1)
      · exact .inr (.inr ⟨_,Array.getElem_mem he,I.1,J⟩)
  · cases bg
theorem Tv{H:bC}{aB:ev}{pre al:Bool}(h:(pre&&(rE H aB || (!al&&zB H aB)))=true):pre=true/\∀c,sy al c=true->xf H aB c=true:=by
  rw[and_eq_true,or_eq_true,and_eq_true]at h;refine⟨h.1,λc U=>?_⟩;unfold xf
  rcases h.2 with I|I
  · rw[I];rfl
  · unfold sy at U
    have J:al=false:=by simpa using I.1
    rw[J,Bool.false_or]at U;rw[U,I.2]
    simp
theorem Cu{pre':Bool}{g:bo->Bool}(hi:nth ops i=some o)(ak:vn X n o g st st')(t:pre'=true->aL.pre=true/\∀c,sy aL.all c=true->g c=true)(q:(!fL E aL.listed i || pre')=true)(h:jb X M n ops E fuel ⟨aL.listed.setIfInBounds i true,false,pre',false,aL.all⟩ st' Q):rv X M n ops E fuel aL st Q i:=by
  intro R W aD j p cN F aq env B ai H a w z ad m;refine⟨o,lV hi,ak R W aD aq env B ai H a w ad _ _ λaU w' env' B' l H' d s b D=>?_⟩;have e:lU R ⟨aL.listed.setIfInBounds i true,false,pre',false,aL.all⟩ j p cN F B' l H':=⟨λh=>(by cases h),λh=>by
    have u:pre'=true:=h;obtain⟨y,v⟩:=t u;obtain⟨f,g2,r,C⟩:=m.pre y;exact⟨λc U=>⟨D c (f c U).1 (v c (f c U).2),(f c U).2⟩,g2,λk aa=>s k (r k aa),C.trans ⟨b.os,b.tape,b.output,b.size,λk aa=>b.block k (aa.imp id (r k))⟩⟩,λh=>(by cases h),λw hw=>m.oi w (b.trans ⟨hw.os,hw.tape,hw.output,hw.size,λk aa=>hw.block k (aa.imp id (s k))⟩)⟩
  refine⟨⟨λA=>e.T ?_ d,e.F d⟩,h R W aD j p cN F aq env' B' l H' aU w' z d e⟩;rw[A]at q;exact q
theorem af1(hi:nth ops i=some o)(ak:∀(R:Nat->Prop) (W:World) (aD:fk) (aq:bX) (env:Nat->Loc) (B:Nat->Prop) (ai:World) (H:cI) (a:Act) (w:World),bM X R W aD n aq env B ai H st a w->∀(KK:Act->World->Prop),(∀aU w' env' B' b H',bM X R W aD n aq env' B' b H' st' aU w'->(∀k,B k->B' k)->ds (λk=>R k\/B k) ai b->KK aU w')->fj X.P ops.toArray o KK a w)(m:fL E aL.listed i=false)(h:jb X M n ops E fuel ⟨aL.listed.setIfInBounds i true,false,false,false,aL.all⟩ st' Q):rv X M n ops E fuel aL st Q i:=by
  intro R W aD d f cN F aq env B ai H a w j ad l;refine⟨o,lV hi,ak R W aD aq env B ai H a w ad _ λaU w' env' B' b H' c p q=>?_⟩;have g:lU R ⟨aL.listed.setIfInBounds i true,false,false,false,aL.all⟩ d f cN F B' b H':=⟨λh=>(by cases h),λh=>(by cases h),λh=>(by cases h),λw hw=>l.oi w (q.trans ⟨hw.os,hw.tape,hw.output,hw.size,λk aa=>hw.block k (aa.imp id (p k))⟩)⟩
  exact⟨⟨λe=>(by rw[m]at e;cases e),g.F c⟩,h R W aD d f cN F aq env' B' b H' aU w' j c g⟩
theorem vz(a:(Region.ready .any ops.toArray aL.listed==[i])=true)(h:rv X M n ops E fuel aL st Q i):jb X M n ops E (fuel+1) aL st Q:=wZ (beq_iff_eq.1 a) (qv h wY)
theorem jG.Tw{sa:bp}{d:Nat}(ak:jG X st o sa)(b:o.guard=none/\o.dst=some d)(az:blt d n=true):vn X n o (λ_=>true) st ⟨(d,.a sa)::st.L,st.H⟩:=by
  intro R W aD aq env B ai H a w ad KK l e;obtain⟨v,I,J⟩:=ak ad;exact hM ad.bW b.1 b.2 (dS az) (J w λ_=>ad.aT) λaU c=>e aU w env B ai H (ad.set I c) (λ_ h=>h) (ds.refl _ _) λ_ h _=>h
theorem ao4(v:X.aY.ok X.P){g j l:Oper}{c:Bool}{y:bX}(I:nth ops i=some g)(J:nth ops (i+1)=some j)(ag:nth ops (i+2)=some l)(o:(Region.ready .any ops.toArray aL.listed==[i]&&(Region.ready .any ops.toArray (aL.listed.setIfInBounds i true)==[i+1]&&Region.ready .any ops.toArray ((aL.listed.setIfInBounds i true).setIfInBounds (i+1) true)==[i+2]))=true)(s:(fL E aL.listed i || (fL E (aL.listed.setIfInBounds i true) (i+1) || fL E ((aL.listed.setIfInBounds i true).setIfInBounds (i+1) true) (i+2)))=false)(an:LO X n st g j l=some (c,st',y))(U:c=true)(h:jb X M n ops E fuel ⟨((aL.listed.setIfInBounds i true).setIfInBounds (i+1) true).setIfInBounds (i+2) true,false,false,aL.lq,aL.all⟩ st' Q):jb X M n ops E (fuel+3) aL st Q:=by
  intro R W aD C D cN F aq env B ai H a w z ad r;simp only[and_eq_true,beq_iff_eq]at o;obtain⟨m,p,q⟩:=o;simp only[Bool.or_eq_false_iff]at s;obtain⟨O,P,S⟩:=s;have e:=afX (ops:=ops.toArray) v an U ad (λb6 aa=>r.oi b6 aa) (λaU w' H' A=>h R W aD C D cN F aq env B ai H' aU w' z A r.lost);refine⟨λb=>(by rw[m]at b;cases b),λk aa=>?_⟩;rw[m]at aa;have f:k=i:=by simpa using aa
  subst f;refine⟨g,lV I,e.mono λY b6 ⟨K,e⟩=>⟨⟨λd=>(by rw[O]at d;cases d),K⟩,?_⟩⟩;refine⟨λb=>(by rw[p]at b;cases b),λG t=>?_⟩;rw[p]at t;have f:G=k+1:=by simpa using t
  subst f;refine⟨j,lV J,e.mono λT Z ⟨g2,e⟩=>⟨⟨λd=>(by rw[P]at d;cases d),g2⟩,?_⟩⟩;refine⟨λb=>(by rw[q]at b;cases b),λN u=>?_⟩;rw[q]at u;have f:N=k+2:=by simpa using u
  subst f;exact⟨l,lV ag,e.mono λV ab ⟨L,e⟩=>⟨⟨λd=>(by rw[S]at d;cases d),L⟩,e⟩⟩
structure af2(X:bz)(n:Nat)(st:aQ)(lB kl bc bw ch:Oper)(c:Bool)(st':aQ)(W:bX) where
  d:Nat
  j2:Nat
  d1:Nat
  d2:Nat
  l4:Nat
  fS:Nat
  t:TypeId
  fi:TypeId
  fV:TypeId
  id:Nat
  bB:cv
  dQ:cv
  gk:aV
  gv:aV
  l:List (gk.D×gv.D)
  jl:Option (List MapEntry×Nat)
  z:gk.D
  g:Bool
  Tx:Bool
  uQ:Bool
  g2:Bool
  cK:Bool
  sN:bp
  sa:bp
  sp:bp
  ei:bp
  fO:gv.D
  y:Operand
  af3:lB.op=.lookup t (.tmp l4) (.tmp fS) false
  dH:lB.guard=none/\lB.dst=some d
  pY:kl.guard=none/\kl.dst=some j2
  LL:bc.op=.mapEntry t (.tmp l4) (.tmp fS)
  I:bc.guard=none/\bc.dst=some d1
  LM:bw.op=.extract (.tmp d1) 1
  J:bw.guard=none/\bw.dst=some d2
  LN:ch.op=.entryStore t (.tmp l4) (.tmp d2) y
  ag:ch.guard=none/\ch.dst=none
  az:blt d n=true
  af4:blt j2 n=true
  nw:blt d1 n=true
  lR:blt d2 n=true
  Gg:l4≠d/\l4≠j2/\l4≠d1/\l4≠d2
  Ty:fS≠d/\fS≠j2
  pu:pK kl.op=true/\n6 kl.op=false
  bg:X.aY.find t=some bB
  dm:bB.aK.desc=.map fi fV
  he:X.aY.find fV=some dQ
  hu:bx X st.L (.tmp l4)=some (true,.c (.dI id))
  an:bx X st.L (.tmp fS)=some (g,sN)
  ah:bj st.H id=some (.mp gk gv l jl)
  nO:dec gk sN.cells=some (Tx,z,[])
  aa:zP X fi gk=true
  Tz:mo gk sN=true
  bF:Ch gv dQ.aK.zero=true
  mY:pR gv ((de gk gv l z).getD gv.zero)=some sa
  kR:wJ X ⟨(d,.a sa)::st.L,st.H⟩ kl.op=some (uQ,sp)
  aG:bx X ((d2,b8.a (.c .dead))::(d1,b8.a (.c .dead))::(j2,.a sp)::(d,.a sa)::st.L) y=some (g2,ei)
  tW:dec gv ei.cells=some (cK,fO,[])
  af5:mo gv ei=true
  U:c=(g&&(Tx&&(uQ&&(g2&&cK))))
  c7:st'=⟨(d2,.a (.c .dead))::(d1,.a (.c .dead))::(j2,.a sp)::(d,.a sa)::st.L,e8 id (.mp gk gv (eS gk gv l z fO) none) st.H⟩
  ca:W=[d2,d1,j2,d,id]
theorem TA{p o k l m:Oper}{c:Bool}{j:bX}(an:Ct X n st p o k l m=some (c,st',j)):Nonempty (af2 X n st p o k l m c st' j):=by
  unfold Ct at an
  split at an
  · rename_i d t l4 fS _ _ _ j2 d1 N I J _ _ _ d2 L _ _ _ O K M y _ _ _ C B
    split at an
    · rename_i ab bg hu q
      simp only[and_eq_true,not_eq_true']at ab;obtain⟨⟨cH,w,z,A⟩,⟨e,f,h,g,i,a,b⟩,⟨G,H,r,s,u,v⟩,F,E⟩:=ab;have e:=eq_of_beq_eq_true e;have f:=eq_of_beq_eq_true f;have h:=eq_of_beq_eq_true h;have g:=eq_of_beq_eq_true g;have i:=eq_of_beq_eq_true i;have a:=eq_of_beq_eq_true a;have b:=eq_of_beq_eq_true b;subst e;subst f;subst h;subst g;subst i;subst a;subst b
      split at an
      · rename_i ah he
        split at an
        · rename_i nO aa
          simp only[and_eq_true]at aa
          split at an
          · rename_i mY
            split at an
            · rename_i kR
              split at an
              · rename_i aG
                split at an
                · rename_i tW D
                  cases an;exact⟨⟨d,j2,_,_,_,_,_,_,_,_,_,_,_,_,_,_,_,_,_,_,_,_,_,_,_,_,_,_,rfl,⟨rfl,rfl⟩,⟨C,B⟩,rfl,⟨rfl,rfl⟩,rfl,⟨rfl,rfl⟩,rfl,⟨rfl,rfl⟩,cH,w,z,A,⟨ne_of_beq_eq_false G,ne_of_beq_eq_false H,ne_of_beq_eq_false r,ne_of_beq_eq_false s⟩,⟨ne_of_beq_eq_false u,ne_of_beq_eq_false v⟩,⟨F,E⟩,bg,rfl,he,hu,q,ah,nO,aa.1,aa.2.1,aa.2.2,mY,kR,aG,tW,D,rfl,rfl,rfl⟩⟩
                · cases an
              · cases an
            · cases an
          · cases an
        · cases an
      · cases an
    · cases an
  · cases an
theorem agb{i h e f g:Oper}{c:Bool}{a:bX}(an:Ct X n st i h e f g=some (c,st',a)):dt a st st':=by
  obtain⟨a6⟩:=TA an;have key:∀(s:aQ) (V:bX),s=⟨(a6.d2,.a (.c .dead))::(a6.d1,.a (.c .dead))::(a6.j2,.a a6.sp)::(a6.d,.a a6.sa)::st.L,e8 a6.id (.mp a6.gk a6.gv (eS a6.gk a6.gv a6.l a6.z a6.fO) none) st.H⟩->V=[a6.d2,a6.d1,a6.j2,a6.d,a6.id]->dt V st s:=λs V b j=>by
    subst b;subst j;exact⟨(cB.cons (cB.cons (cB.cons (cB.cons (cB.refl _))))),(lv (lx _ _)).more λq d=>(hj (hj (hj (hj d).2).2).2).2⟩
  exact key _ _ a6.c7 a6.ca
theorem ho.TB{P:Program}{ops:Array Oper}{Q:Exit->Act->World->Prop}{S S':Nat->Array Bool->World->Prop}{e:Nat}(d:∀j l w,j≠e->j≠e+1->S j l w->S' j l w):∀(fuel:Nat) (listed:Array Bool) (a:Act) (w:World),listed.getD e true=true->listed.getD (e+1) true=true->ho P ops Q S fuel listed a w->ho P ops Q S' fuel listed a w
  |0,_,_,_,_,_,h=>h
  |fuel+1,listed,_,_,I,J,h=>⟨h.1,λj f=>by
    obtain⟨o,i,an⟩:=h.2 j f;have hu:=(mem_ready.1 f).1;have c:∀q,listed.getD q true=true->j≠q:=λq b g=>by
      subst g
      rcases lt_or_ge j listed.size with aR|aR
      · simp[aR]at hu b;rw[hu]at b;cases b
      · simp[Array.getElem?_eq_none aR]at hu
    have aa:∀q,listed.getD q true=true->(listed.setIfInBounds j true).getD q true=true:=λq b=>by rw[getD_set_ne true (c q b)];exact b
    exact⟨o,i,an.mono λaU w' aR=>⟨d _ _ _ (c e I) (c (e+1) J) aR.1,ho.TB d fuel _ aU w' (aa e I) (aa (e+1) J) aR.2⟩⟩⟩
theorem zV{L:c6}{s d:Nat}{v:b8}(h:s≠d):bx X ((d,v)::L) (.tmp s)=bx X L (.tmp s):=by
  unfold bx;simp only[cX,if_neg h]
theorem agd{P:Program}{ops:List Oper}{Q:Exit->Act->World->Prop}{S:Nat->Array Bool->World->Prop}{e fuel:Nat}{f g i:Oper}{l:Array Bool}{a:Act}{w:World}(I:nth ops e=some f)(J:nth ops (e+1)=some g)(ag:nth ops (e+2)=some i)(o:Region.ready .any ops.toArray l=[e])(p:Region.ready .any ops.toArray (l.setIfInBounds e true)=[e+1])(r:Region.ready .any ops.toArray ((l.setIfInBounds e true).setIfInBounds (e+1) true)=[e+2])(h:fj P ops.toArray f (λn b6=>S e l b6/\fj P ops.toArray g (λm j=>S (e+1) (l.setIfInBounds e true) j/\fj P ops.toArray i (λt s=>S (e+2) ((l.setIfInBounds e true).setIfInBounds (e+1) true) s/\ho P ops.toArray Q S fuel (((l.setIfInBounds e true).setIfInBounds (e+1) true).setIfInBounds (e+2) true) t s) m j) n b6) a w):ho P ops.toArray Q S (fuel+3) l a w:=by
  refine⟨λb=>(by rw[o]at b;cases b),λk aa=>?_⟩;rw[o]at aa;have v:k=e:=by simpa using aa
  subst v;refine⟨f,lV I,h.mono λn b6 ⟨u,h⟩=>⟨u,?_⟩⟩;refine⟨λb=>(by rw[p]at b;cases b),λq c=>?_⟩;rw[p]at c;have d:q=k+1:=by simpa using c
  subst d;refine⟨g,lV J,h.mono λm j ⟨g2,h⟩=>⟨g2,?_⟩⟩;refine⟨λb=>(by rw[r]at b;cases b),λq c=>?_⟩;rw[r]at c;have d:q=k+2:=by simpa using c
  subst d;exact⟨i,lV ag,h⟩
theorem age(k:Nat):¬(k+2=k\/k+2=k+1):=by omega
theorem agf{l:Array Bool}{e:Nat}(h:e<l.size):(((l.setIfInBounds e true).setIfInBounds (e+1) true).setIfInBounds (e+2) true).getD e true=true:=by
  simp[h]
theorem agh{l:Array Bool}{e:Nat}(h:e+1<l.size):(((l.setIfInBounds e true).setIfInBounds (e+1) true).setIfInBounds (e+2) true).getD (e+1) true=true:=by
  simp[h]
set_option maxHeartbeats 1000000 in
theorem agi(C:X.aY.ok X.P){s ac ay aB aC:Oper}{c:Bool}{a2:bX}{p e:Nat}(ak:nth ops i=some s)(al:nth ops p=some ac)(I:nth ops e=some ay)(J:nth ops (e+1)=some aB)(ag:nth ops (e+2)=some aC)(S:LP ops.toArray E aL.listed i p e=true)(an:Ct X n st s ac ay aB aC=some (c,st',a2))(U:c=true)(h:jb X M n ops E fuel ⟨((((aL.listed.setIfInBounds i true).setIfInBounds p true).setIfInBounds e true).setIfInBounds (e+1) true).setIfInBounds (e+2) true,false,false,aL.lq,aL.all⟩ st' Q):jb X M n ops E (fuel+3+1+1) aL st Q:=by
  intro R W aD u v cN F aq env B ai H a w a3 ad K;obtain⟨a6⟩:=TA an;have aF:=a6.U.symm.trans U;simp only[and_eq_true]at aF;obtain⟨aI,aE,bc,aO,aP⟩:=aF;unfold LP at S;rw[and_eq_true]at S;obtain⟨aH,aJ⟩:=S;simp only[and_eq_true]at aH aJ;obtain⟨⟨⟨aM,af⟩,bg⟩,a8⟩:=aH;obtain⟨⟨⟨⟨ax,az⟩,aA⟩,⟨⟨⟨⟨am,ao⟩,ap⟩,ar⟩,au⟩⟩,⟨⟨y,z⟩,A⟩⟩:=aJ;simp only[beq_iff_eq]at ax az aA;simp only[not_eq_true']at am ao ap ar au y z;have y:=ne_of_beq_eq_false y;have z:=ne_of_beq_eq_false z;have A:=dS A;have aK:=K.F ad;have t:∀ {l:Array Bool} {j:Nat},E.elem j=false->fL E l j=false:=λ{l j} m=>by unfold fL;rw[m];rfl
  have D:=Cg C a6.aa;obtain⟨v0,av,bb⟩:=Te C D a6.bg a6.dm a6.he a6.ah ad;have bf:eb env B ai a6.sa v0:=(bb (S1 a6.bF)).sa a6.mY;obtain⟨bm,a5,b,ab,rfl⟩:=ad.aJ a6.hu rfl;obtain⟨vx,aG,ba⟩:=ad.aJ a6.an aI;rw[ez.key D.sO D.eq.key (ez.vf a6.nO aE a6.Tz ba)]at aG
  let r:World->Prop:=λb6=>∀b,env a6.id=.blk b->(Instr.lookup a6.t (.map (some b)) (.agg (a6.gk.c1 a6.z).toArray) false).run X.P b6=.ok v0 b6
  have aQ:∀b6,r b6->(execOp a.eval s).run X.P b6=.ok (.value v0) b6:=λb6 g=>by
    simp[execOp,a6.af3,ad.bW.aJ a5,ad.bW.aJ aG,g b ab]
  -- the state xG the lookup and the new value
  have Y:=ad.set (sv:=.a a6.sa) bf (show dh n (j9 aq aD) ((a6.d,v0)::full a) (a.put s.dst v0) by rw[a6.dH.2];exact ad.bW.put a6.d v0 (dS a6.az));obtain⟨P,aR,aS⟩:=yV C a6.kR bc Y;have a9:=Y.set (sv:=.a a6.sp) aR (show dh n (j9 aq aD) ((a6.j2,P)::full (a.put s.dst v0)) ((a.put s.dst v0).put ac.dst P) by rw[a6.pY.2];exact Y.bW.put a6.j2 P (dS a6.af4))
  -- stronger: the lookup may come xG the entry
  refine ho.Ki (S':=λj l w=>((fL E l j=true->bT (λk=>R k\/u k) v cN w)/\F w)/\(j=e\/j=e+1->r w)) (λ_ _ _ h=>h.1) _ _ _ _ ?_;simp only[pL,and_eq_true]at aM af;obtain⟨⟨⟨aT,aN⟩,aV⟩,aW⟩:=aM;obtain⟨⟨⟨aX,_⟩,aY⟩,aZ⟩:=af;have ae:∀ {q:Nat},BF E q=true->∀(j:Nat) (l:Array Bool) (w:World),(((fL E (l.setIfInBounds q true) j=true->bT (λk=>R k\/u k) v cN w)/\F w)/\(j=e\/j=e+1->r w))->(((fL E l j=true->bT (λk=>R k\/u k) v cN w)/\F w)/\(j=e\/j=e+1->r w)):=λa1 j l w d=>⟨⟨λhe=>d.1.1 (Kc a1 he),d.1.2⟩,d.2⟩
  have aw:∀j∈xG ops.toArray i,aL.listed.getD j true=false/\y5 ops.toArray i (xG ops.toArray i) j=true:=λj m=>by
    have:=List.all_eq_true.1 bg j m
    simpa using this
  refine ho.first (T:=λw=>r w/\F w) (lV ak) (Region.noSelect_spec aN) (xG ops.toArray i) (λj m=>Q9 (aw j m).2) (ae aT) _ _ _ _ (λj m=>(aw j m).1) ?_ (by simpa using aW) (.inl ⟨by simp[Region.wanted,a6.dH.1],λb6 g=>aQ b6 g.1⟩) ⟨av,aK⟩ ?_ (λl b6 g=>⟨⟨λhe=>(by rw[t am]at he;cases he),g.2⟩,λ_=>g.1⟩)
  · intro j V N L O Z
    refine⟨Region.free_spec (lV ak) aV j V N L O Z,?_⟩
    have:=List.all_eq_true.1 a8 j (List.mem_range.2 (Array.getElem?_eq_some_iff.1 N).1)
    simp only[or_eq_true,beq_iff_eq]at this
    rcases this with(((g1|g1)|g1)|g1)|g1
    · exact absurd g1 L
    · rw[O]at g1;cases g1
    · exact .inr λl b6 _ d=>⟨d.2 (.inl g1),d.1.2⟩
    · exact .inr λl b6 _ d=>⟨d.2 (.inr g1),d.1.2⟩
    · exact .inl (by simpa using g1)
  refine ho.first (lV al) (Region.noSelect_spec aN) [] (λ_ h=>by cases h) (ae aX) _ _ _ _ (λ_ h=>by cases h) ?_ (by simpa using aZ) (.inl ⟨by simp[Region.wanted,a6.pY.1],λb6 _=>aS b6 λh=>by rw[a6.pu.2]at h;cases h⟩) aK ?_ (λl b6 g=>⟨⟨λhe=>(by rw[t ao]at he;cases he),g⟩,λhe=>he.elim (λq=>absurd q y) (λq=>absurd q z)⟩)
  · intro j V N L O Z
    exact⟨Region.free_spec (lV al) aY j V N L O Z,.inr λl b6 _ d=>d.1.2⟩
  -- the entry
  have aj:bx X ((a6.j2,b8.a a6.sp)::(a6.d,b8.a a6.sa)::st.L) (.tmp a6.l4)=some (true,.c (.dI a6.id)):=by rw[zV a6.Gg.2.1,zV a6.Gg.1];exact a6.hu
  have be:bx X ((a6.j2,b8.a a6.sp)::(a6.d,b8.a a6.sa)::st.L) (.tmp a6.fS)=some (a6.g,a6.sN):=by rw[zV a6.Ty.2,zV a6.Ty.1];exact a6.an
  have bh:bx X ((a6.d2,b8.a (.c .dead))::(a6.d1,b8.a (.c .dead))::(a6.j2,b8.a a6.sp)::(a6.d,b8.a a6.sa)::st.L) (.tmp a6.l4)=some (true,.c (.dI a6.id)):=by rw[zV a6.Gg.2.2.2,zV a6.Gg.2.2.1];exact aj
  have o:=Tf (st:=⟨(a6.j2,b8.a a6.sp)::(a6.d,b8.a a6.sa)::st.L,st.H⟩) (ops:=ops.toArray) C D a6.LL a6.I a6.nw a6.LM a6.J a6.lR a6.LN a6.ag a6.bg a6.dm a6.he aj be aI a6.nO aE a6.Tz a6.ah bh a6.aG aO a6.tW aP a6.af5 a9 av (G:=λb6=>F b6/\r b6) (λb6 aa ah=>⟨K.oi b6 aa,ah⟩) (λb6 aa=>K.oi b6 aa)
    (KK:=λaU w'=>ho X.P ops.toArray (λe a w=>e=.normal/\∃st',Q e st'/\mO X R W aD M n st' a w) (λj l w=>((fL E l j=true->bT (λk=>R k\/u k) v cN w)/\F w)/\(j=e\/j=e+1->r w)) fuel (((((aL.listed.setIfInBounds i true).setIfInBounds p true).setIfInBounds e true).setIfInBounds (e+1) true).setIfInBounds (e+2) true) aU w') (λaU w' H' a4=>by
      have a0:bM X R W aD n aq env B ai H' st' aU w':=by rw[a6.c7];exact a4
      have bd:=h R W aD u v cN F aq env B ai H' aU w' a3 a0 K.lost;refine ho.TB (λj l w I J d=>⟨d,λh=>h.elim (λq=>absurd q I) (λq=>absurd q J)⟩) _ _ _ _ ?_ ?_ bd
      · exact agf (by simpa using Nat.lt_of_succ_lt A)
      · exact agh (by simpa using A))
  exact agd I J ag ax az aA (o.mono λbk b6 ⟨g1,o⟩=>⟨⟨⟨λf=>(by rw[t ap]at f;cases f),g1.1⟩,λ_=>g1.2⟩,o.mono λbi bl ⟨g2,o⟩=>⟨⟨⟨λf=>(by rw[t ar]at f;cases f),g2.1⟩,λ_=>g2.2⟩,o.mono λbj bn ⟨a7,o⟩=>⟨⟨⟨λf=>(by rw[t au]at f;cases f),a7⟩,λf=>(age e f).elim⟩,o⟩⟩⟩)
theorem mx(l:X.aY.ok X.P){k:h2->gJ->bX->eD->aQ->Option aX}{r:aX}{c0:Nat}(t:∀aL G V A st,k aL G V A st=some r->∀c∈A,c=true)(aa:∀ds' al an ap st',fa (eN ops) al st'.L->dt an fG st'->k ds' al an ap st'=some r->jb X M n ops E c0 ds' st' Q):∀ {is:List sR} {aL:h2} {G:gJ} {V:bX} {A:eD} {st:aQ},fa (eN ops) G st.L->dt V fG st->gK X n T ops E is aL G V A st k=some r->jb X M n ops E (c0+ud is) aL st Q
  |[],aL,G,V,A,st,u,f,h=>by
    unfold gK at h;exact aa _ _ _ _ _ u f h
  |.t i m::is,aL,G,V,A,st,u,f,h=>by
    have one:∀ {d:Nat} {sv:b8},dt (d::V) fG ⟨(d,sv)::st.L,st.H⟩:=λ{d sv}=>⟨cB.cons f.1,f.2.more λq ab=>(hj ab).2⟩
    unfold gK at h
    split at h
    · rename_i o hi bg
      split at h
      · rename_i d z C
        split at h
        · rename_i c sa b az
          have U:=km t h c mem_cons_self;have N:=mx (is:=is) l t aa (u.drop d _) one h;intro R W aD P Y cN F aq env B ai H a w O ad S;obtain⟨v,af,ak⟩:∃v,eb env B ai sa v/\∀w',(n6 o.op=true->bT (λk=>R k\/B k) ai (zU aL.all m H) w')->(execOp a.eval o).run X.P w'=.ok (.value v) w':=Tu l ad (Gc ad.heap).1 (Gc ad.heap).2 u (λ_ h=>by cases h) b U;exact Gf (sv:=.a sa) l hi bg C az ad S v af (λT ac=>.inl ⟨by simp[Region.wanted,z],λw' ae=>ak w' (ac w' ae)⟩) λaU K L=>N R W aD P Y cN F aq env B ai H aU w O K L
        · cases h
      · rename_i j want d z C
        split at h
        · rename_i s ah
          split at h
          · rename_i g aj
            split at h
            · rename_i c sa b az ao
              have U:=km t h _ mem_cons_self;have au:=ne_of_beq_eq_false ao;have aC:fa (eN ops) ((d,j,want)::pb (eN ops) d G) ((d,.may g sa)::st.L):=λe he=>by
                rcases List.mem_cons.1 he with rfl|he
                · exact⟨s,g,sa,ah,by rw[FO au];exact aj,by rw[cX,if_pos rfl]⟩
                · exact u.drop d _ e he
              have N:=mx l t aa aC one h;intro R W aD P Y cN F aq env B ai H a w O ad S;have hw:=Ln ad z ah aj;cases g with
              |true=>
                obtain⟨v,af,ak⟩:∃v,eb env B ai sa v/\∀w',(n6 o.op=true->bT (λk=>R k\/B k) ai (zU aL.all m H) w')->(execOp a.eval o).run X.P w'=.ok (.value v) w':=Tu l ad (Gc ad.heap).1 (Gc ad.heap).2 u (FP u ⟨s,ah,aj⟩) b (B6 U rfl);exact Gf (sv:=.may true sa) l hi bg C az ad S v ⟨λ_=>af,λh=>by cases h⟩ (λT ac=>.inl ⟨hw,λw' ae=>ak w' (ac w' ae)⟩) λaU K L=>N R W aD P Y cN F aq env B ai H aU w O K L
              |false=>exact Gf (sv:=.may false sa) l hi bg C az ad S undef ⟨(λh=>by cases h),λ_=>rfl⟩ (λT ac=>.inr ⟨hw,rfl⟩) λaU K L=>N R W aD P Y cN F aq env B ai H aU w O K L
            · cases h
          · cases h
        · cases h
      · cases h
    · cases h
  |.m i::is,aL,G,V,A,st,u,f,h=>by
    unfold gK at h
    split at h
    · rename_i o hi bg
      split at h
      · rename_i d xs z C ax
        split at h
        · rename_i az
          have one:dt (d::V) fG ⟨(d,.cY xs)::st.L,st.H⟩:=⟨cB.cons f.1,f.2.more λq ab=>(hj ab).2⟩
          have N:=mx (is:=is) l t aa (u.drop d _) one h;intro R W aD P Y cN F aq env B ai H a w O ad S;obtain⟨v,I,J⟩:=JW ad ax;exact Gf l hi bg C az ad S v I (λT ac=>.inl ⟨by simp[Region.wanted,z],λw' ae=>J w'⟩) λaU K L=>N R W aD P Y cN F aq env B ai H aU w O K L
        · cases h
      · cases h
    · cases h
  |.s i::is,aL,G,V,A,st,u,f,h=>by
    unfold gK at h
    split at h
    · rename_i o hi y D
      split at h
      · rename_i z
        split at h
        · rename_i c st' W b
          have U:=km t h c mem_cons_self;exact vz y (Fp hi (Lr l b U) D rfl (mx l t aa fa.nil (f.trans (Ls b)) h))
        · split at h
          · rename_i c st' b
            have U:=km t h c mem_cons_self;exact vz y (zd l hi D b U rfl (mx l t aa fa.nil (f.trans (zM z b)) h))
          · cases h
      · cases h
    · cases h
  |.k i::is,aL,G,V,A,st,u,f,h=>by
    unfold gK at h
    split at h
    · rename_i o hi y am
      split at h
      · rename_i z
        split at h
        · rename_i d c sa C b
          split at h
          · rename_i az
            have one:dt (d::V) fG ⟨(d,.a sa)::st.L,st.H⟩:=⟨cB.cons f.1,f.2.more λq ab=>(hj ab).2⟩
            have U:=km t h c mem_cons_self;refine vz y (Cu (pre':=true) hi (jG.Tw (λad=>FM l b U ad) ⟨z,C⟩ az) (λ_=>⟨am,λ_ _=>rfl⟩) (by simp) ?_);exact mx l t aa fa.nil one h
          · cases h
        · split at h
          · rename_i c st' Z b
            have U:=km t h c mem_cons_self;cases jJ:aL.all with
            |true=>
              rw[jJ,cond_true]at Z;refine vz y (Rg l hi (by rw[am,Bool.true_and];exact Z) b U rfl ?_);exact mx (is:=is) l t aa fa.nil (f.trans (zM z b)) h
            |false=>
              rw[jJ,cond_false]at Z;simp only[and_eq_true]at Z;refine vz y (Rf l hi (by rw[am,Z.1,Z.2,jJ];rfl) b U rfl ?_);exact mx (is:=is) l t aa fa.nil (f.trans (zM z b)) h
          · cases h
        · cases h
      · cases h
    · cases h
  |.u i m::is,aL,G,V,A,st,u,f,h=>by
    unfold gK at h
    split at h
    · rename_i o hi y D
      split at h
      · rename_i c st' W b
        have U:=km t h c mem_cons_self;exact vz y (Fp hi (Lx l b U) D rfl (mx l t aa fa.nil (f.trans (Ly b)) h))
      · cases h
    · cases h
  |.w i p e::is,aL,G,V,A,st,u,f,h=>by
    unfold gK at h
    split at h
    · rename_i aK aJ aF aG aH dH pY I J ag y
      split at h
      · rename_i c st' aE b
        have U:=km t h c mem_cons_self;exact agi l dH pY I J ag y b U (mx l t aa fa.nil (f.trans (agb b)) h)
      · cases h
    · cases h
  |.c i aB::is,aL,G,V,A,st,u,f,h=>by
    unfold gK at h
    split at h
    · rename_i o hi y D
      obtain⟨_,aI,V2,I,J,ag⟩:=vt f h;exact vz y (Cu hi I Tv D (mx l t aa fa.nil J ag))
    · cases h
  |.g i::is,aL,G,V,A,st,u,f,h=>by
    unfold gK at h
    split at h
    · rename_i o hi y D
      obtain⟨d,g,sa,al,aA,ar,aw,ay⟩:=S6 u f h;exact vz y (af1 hi ay D (mx l t aa aA ar aw))
    · cases h
  |.z id::is,aL,G,V,A,st,u,f,h=>by
    unfold gK at h
    split at h
    · rename_i st' b
      have av:dt [] st st':=by
        unfold dV at b
        split at b
        · cases b;exact⟨l0 _ _ _,k5 _ _ _⟩
        · cases b
      exact abV id b (mx (is:=is) l t aa fa.nil (f.trans av) h)
    · cases h
  |.f::is,aL,G,V,A,st,u,f,h=>by
    unfold gK at h
    split at h
    · rename_i b
      exact abT b (mx (is:=is) l t aa u f h)
    · cases h
inductive ue where
  |f (l:List sR)
  |b (l:List sR) (i j:Nat) (aB kj:ev) (uf ug:Option qE) (x y:ue)
  |s (l:List sR) (j:Nat) (aq:bZ) (t:ue)
  |t (l:List sR) (i j k:Nat) (aB kj rs:ev) (uf ug mk:Option qE) (x y z:ue)
def nR:ue->Nat
  |.f l=>ud l
  |.b l _ _ _ _ _ _ x _=>nR x+1+ud l
  |.s l _ _ t=>nR t+ud l
  |.t l _ _ _ _ _ _ _ _ _ x _ _=>nR x+1+ud l
def Gk{aX:Type}(z:Int):bZ->(Int->Option aX)->Option aX
  |[],_=>none
  |k::aq,f=>cond (decide (z=k)) (f k) (Gk z aq f)
theorem TL{aX:Type}{z:Int}{f:Int->Option aX}{r:aX}:∀ {aq:bZ},Gk z aq f=some r->f z=some r
  |[],h=>by cases h
  |k::aq,h=>by
    unfold Gk at h;cases az:decide (z=k)with
    |true=>
      rw[az,cond_true]at h;rw[of_decide_eq_true az];exact h
    |false=>
      rw[az,cond_false]at h;exact TL h
def Gl(j:Nat)(v:b8):c6->c6
  |[]=>[]
  |(k,u)::r=>match beq j k with
    |true=>(k,v)::r
    |false=>(k,u)::Gl j v r
theorem TM{j:Nat}{v:b8}:∀ {L:c6},bj L j=some v->Gl j v L=L
  |[],_=>rfl
  |(k,u)::r,h=>by
    unfold bj at h;unfold Gl
    split at h
    · rename_i ab
      cases h;rw[ab]
    · rename_i ab
      rw[ab,TM h]
open Classical in
noncomputable def iy{aX:Type}(a b:Option aX):Option aX:=if a=b then a else none
noncomputable def gY{aX:Type}(a:Option aX):Option aX:=iy a a
theorem ox{aX:Type}(a:Option aX):iy a a=a:=if_pos rfl
theorem LV{aX:Type}{a b:Option aX}{r:aX}(h:iy a b=some r):a=some r/\b=some r:=by
  unfold iy at h
  split at h
  · rename_i e
    exact⟨h,e ▸ h⟩
  · cases h
def Gm(ops:List Oper)(k:bX->aQ->Option aX):h2->gJ->bX->eD->aQ->Option aX:=λaL _ V A st=>match Region.ready .any ops.toArray aL.listed with
  |[]=>ay (rL A true) (k V st)
  |_=>none
theorem TN{α β:Type}{c:Bool}{a:Option α}{f:α->Option β}:Option.bind a (λr=>ay c (f r))=ay c (Option.bind a f):=by
  cases c with
  |true=>rfl
  |false=>
    cases a with
    |none=>rfl
    |some x=>rfl
theorem TO{α:Type}{a b:Bool}{k:Option α}:ay (a&&b) k=ay a (ay b k):=by cases a<;>rfl
theorem Cx{α:Type}{k:Option α}:ay true k=k:=rfl
theorem LW{α:Type}{k:Option α}:ay false k=none:=rfl
theorem LX{α:Type}{c:Bool}:ay c (none:Option α)=none:=by cases c<;>rfl
theorem LY{α:Type}{a:Bool}{k y:Option α}(I:a=true->k=y)(J:a=false->none=y):ay a k=y:=by
  cases a with
  |true=>exact I rfl
  |false=>exact J rfl
theorem TP{aX:Type}{x y:Option aX}(h:x=y):iy x y=x:=by rw[h];exact ox _
def xD(X:bz)(n:Nat)(T:List (bI X))(ops:List Oper)(E:bX)(i:Nat)(aB:ev)(m:Option qE)(o:Oper)(aL:h2)(V:bX)(A:eD)(st:aQ)(k:h2->gJ->bX->eD->aQ->Option aX):Option aX:=match o.guard with
  |none=>match fL E aL.listed i,aL.pre with
    |false,_=>match (match m with|some m=>xw X n st m o|none=>xu X n st o)with
      |some (c,st',W)=>k ⟨aL.listed.setIfInBounds i true,false,false,aL.lq,aL.all⟩ [] (W++V) (c::A) st'
      |none=>match kX X n (eN ops) st o with
        |.ok c st'=>k ⟨aL.listed.setIfInBounds i true,false,false,aL.lq,aL.all⟩ [] (xr X st.L o++V) (c::A) st'
        |.stop=>xx X n T aB V A st (λb e a st'=>k ⟨aL.listed.setIfInBounds i true,false,false,false,aL.all⟩ b e a st') o
    |true,true=>match o.dst,zK X st o.op with
      |some d,some (c,sa)=>match blt d n with
        |true=>k ⟨aL.listed.setIfInBounds i true,false,true,false,aL.all⟩ [] (d::V) (c::A) ⟨(d,.a sa)::st.L,st.H⟩
        |false=>none
      |_,none=>match cond aL.all (yW o.op&&uV o st.H) (Bk o.op&&ri o st.H),kX X n (eN ops) st o with
        |true,.ok c st'=>k ⟨aL.listed.setIfInBounds i true,false,true,aL.lq,aL.all⟩ [] (xr X st.L o++V) (c::A) st'
        |_,.stop=>match rE st.H aB || (!aL.all&&zB st.H aB)with
          |true=>xx X n T aB V A st (λb e a st'=>k ⟨aL.listed.setIfInBounds i true,false,true,false,aL.all⟩ b e a st') o
          |false=>none
        |_,_=>none
      |none,some _=>none
    |true,false=>none
  |some _=>none
noncomputable def sS(X:bz)(n:Nat)(T:List (bI X))(ops:List Oper)(E:bX):ue->h2->gJ->bX->eD->aQ->(bX->aQ->Option aX)->Option aX
  |.f l,aL,G,V,A,st,k=>gK X n T ops E l aL G V A st (Gm ops k)
  |.s l j aq t,aL,G,V,A,st,k=>gK X n T ops E l aL G V A st λaL _ V A st=>match bj st.L j with
    |some (.a (.c (.val (.int qw z))))=>ay (rL A true) (Gk z aq λq=>sS X n T ops E t aL [] V [] ⟨Gl j (.a (.c (.val (.int qw q)))) st.L,st.H⟩ k)
    |_=>none
  |.t l i j q aB c h d e f x y z,aL,G,V,A,st,k=>gK X n T ops E l aL G V A st λaL _ V A st=>match nth ops i,nth ops j,nth ops q,Region.ready .any ops.toArray aL.listed==[i,j,q],beq (nR x) (nR y)&&beq (nR x) (nR z)with
    |some b,some a,some g,true,true=>ay (rL A true) (iy (xD X n T ops E i aB d b aL V [] st λaL G V A st=>sS X n T ops E x aL G V A st k) (iy (xD X n T ops E j c e a aL V [] st λaL G V A st=>sS X n T ops E y aL G V A st k) (xD X n T ops E q h f g aL V [] st λaL G V A st=>sS X n T ops E z aL G V A st k)))
    |_,_,_,_,_=>none
  |.b l i j aB c d e x y,aL,G,V,A,st,k=>gK X n T ops E l aL G V A st λaL _ V A st=>match nth ops i,nth ops j,Region.ready .any ops.toArray aL.listed==[i,j],beq (nR x) (nR y)with
    |some b,some a,true,true=>ay (rL A true) (iy (xD X n T ops E i aB d b aL V [] st λaL G V A st=>sS X n T ops E x aL G V A st k) (xD X n T ops E j c e a aL V [] st λaL G V A st=>sS X n T ops E y aL G V A st k))
    |_,_,_,_=>none
theorem Cy{aB:ev}{m:Option qE}(e:X.aY.ok X.P){k:h2->gJ->bX->eD->aQ->Option aX}{r:aX}{c0:Nat}(g:∀aL G V A st,k aL G V A st=some r->∀c∈A,c=true)(aa:∀ds' s t v st',fa (eN ops) s st'.L->dt t fG st'->k ds' s t v st'=some r->jb X M n ops E c0 ds' st' Q)(hi:nth ops i=some o)(b:dt V fG st)(h:xD X n T ops E i aB m o aL V A st k=some r):rv X M n ops E c0 aL st Q i:=by
  unfold xD at h
  split at h
  · rename_i p
    split at h
    · rename_i j
      split at h
      · rename_i c st' W a
        cases m with
        |some m=>exact Fp hi (Lx e a (g _ _ _ _ _ h c mem_cons_self)) j rfl (aa _ _ _ _ _ fa.nil (b.trans (Ly a)) h)
        |none=>exact Fp hi (Lr e a (g _ _ _ _ _ h c mem_cons_self)) j rfl (aa _ _ _ _ _ fa.nil (b.trans (Ls a)) h)
      · split at h
        · rename_i c st' a
          exact zd e hi j a (g _ _ _ _ _ h c mem_cons_self) rfl (aa _ _ _ _ _ fa.nil (b.trans (zM p a)) h)
        · obtain⟨_,y,V2,I,J,ag⟩:=vt b h
          exact Cu (pre':=false) hi I (λh=>by cases h) (by rw[j];rfl) (aa _ _ _ _ _ fa.nil J ag)
    · rename_i j l
      split at h
      · rename_i d c sa w a
        split at h
        · rename_i az
          have one:dt (d::V) fG ⟨(d,.a sa)::st.L,st.H⟩:=⟨cB.cons b.1,b.2.more λq u=>(hj u).2⟩
          exact Cu (pre':=true) hi (jG.Tw (λad=>FM e a (g _ _ _ _ _ h c mem_cons_self) ad) ⟨p,w⟩ az) (λ_=>⟨l,λ_ _=>rfl⟩) (by simp) (aa _ _ _ _ _ fa.nil one h)
        · cases h
      · split at h
        · rename_i c st' f a
          have U:=g _ _ _ _ _ h c mem_cons_self;have ba:=aa _ _ _ _ _ fa.nil (b.trans (zM p a)) h;cases jJ:aL.all with
          |true=>
            rw[jJ,cond_true]at f;exact Rg e hi (by rw[l,Bool.true_and];exact f) a U rfl ba
          |false=>
            rw[jJ,cond_false]at f;simp only[and_eq_true]at f;exact Rf e hi (by rw[l,f.1,f.2,jJ];rfl) a U rfl ba
        · split at h
          · rename_i z
            obtain⟨_,y,V2,I,J,ag⟩:=vt b h;exact Cu (pre':=true) hi I (λ_=>Tv (by rw[l,z];rfl)) (by simp) (aa _ _ _ _ _ fa.nil J ag)
          · cases h
        · cases h
      · cases h
    · cases h
  · cases h
theorem Cz{k:bX->aQ->Option aX}:∀ {t:ue} {aL:h2} {G:gJ} {V:bX} {A:eD} {st:aQ},sS X n T ops E t aL G V A st k=some r->∀c∈A,c=true
  |.f l,aL,G,V,A,st,h=>km (λaL G V A st h=>by
      unfold Gm at h
      split at h
      · exact(nP (e3 h).1).1
      · cases h) h
  |.b l i j aB a b d x y,aL,G,V,A,st,h=>km (λaL G V A st h=>by
      split at h
      · exact(nP (e3 h).1).1
      · cases h) h
  |.t l i j q aB a f b d e x y z,aL,G,V,A,st,h=>km (λaL G V A st h=>by
      split at h
      · exact(nP (e3 h).1).1
      · cases h) h
  |.s l j aq t,aL,G,V,A,st,h=>km (λaL G V A st h=>by
      split at h
      · exact(nP (e3 h).1).1
      · cases h) h
theorem xE(c:X.aY.ok X.P){k:bX->aQ->Option aX}{r:aX}(aa:∀g st',dt g fG st'->k g st'=some r->Q .normal st'):∀ {t:ue} {aL:h2} {G:gJ} {V:bX} {A:eD} {st:aQ},fa (eN ops) G st.L->dt V fG st->sS X n T ops E t aL G V A st k=some r->jb X M n ops E (nR t) aL st Q
  |.f l,aL,G,V,A,st,b,a,h=>by
    have:=mx (M:=M) c (λaL G V A st h=>by
      unfold Gm at h
      split at h
      · exact(nP (e3 h).1).1
      · cases h) (λaL G V A st b a h=>by
      unfold Gm at h
      split at h
      · rename_i e
        exact tC e (aa V st a (e3 h).2)
      · cases h) b a h
    rwa [zero_add]at this
  |.s l j aq t,aL,G,V,A,st,b,a,h=>by
    refine mx (is:=l) c (k:=_) (r:=r) (λaL G V A st h=>?_) (λaL G V A st b a h=>?_) b a h
    · split at h
      · exact(nP (e3 h).1).1
      · cases h
    · split at h
      · rename_i qw z ah
        have J:=TL (e3 h).2;rw[TM ah]at J;exact xE c aa fa.nil a J
      · cases h
  |.t l i j q aB s C u v w x y z,aL,G,V,A,st,b,a,h=>by
    refine mx (c0:=nR x+1) (is:=l) c (k:=_) (r:=r) (λaL G V A st h=>?_) (λaL G V A st b a h=>?_) b a h
    · split at h
      · exact(nP (e3 h).1).1
      · cases h
    · split at h
      · rename_i p o B hi d m f U
        obtain⟨I,J⟩:=LV (e3 h).2;obtain⟨J,ag⟩:=LV J;rw[and_eq_true]at U;refine wZ (beq_iff_eq.1 f) (qv (Cy c (λ_ _ _ _ _ h=>Cz h) (λaL G V A st b a h=>xE c aa b a h) hi a I) (qv (Cy c (λ_ _ _ _ _ h=>Cz h) (λaL G V A st b a h=>?_) d a J) (qv (Cy c (λ_ _ _ _ _ h=>Cz h) (λaL G V A st b a h=>?_) m a ag) wY)))
        · rw[eq_of_beq_eq_true U.1]
          exact xE c aa b a h
        · rw[eq_of_beq_eq_true U.2]
          exact xE c aa b a h
      · cases h
  |.b l i j aB s u v x y,aL,G,V,A,st,b,a,h=>by
    refine mx (c0:=nR x+1) (is:=l) c (k:=_) (r:=r) (λaL G V A st h=>?_) (λaL G V A st b a h=>?_) b a h
    · split at h
      · exact(nP (e3 h).1).1
      · cases h
    · split at h
      · rename_i p o hi d f U
        obtain⟨I,J⟩:=LV (e3 h).2;refine wZ (beq_iff_eq.1 f) (qv (Cy c (λ_ _ _ _ _ h=>Cz h) (λaL G V A st b a h=>xE c aa b a h) hi a I) (qv (Cy c (λ_ _ _ _ _ h=>Cz h) (λaL G V A st b a h=>?_) d a J) wY));rw[eq_of_beq_eq_true U];exact xE c aa b a h
      · cases h
end
end
def CA{β:Type}(b:β->(Nat->Prop)->World->Prop):Prop:=∀l C W a,b l C W->ds C W a->b l C a
structure Grow(B C c4:Nat->Prop)(W dk:World):Prop where
 et:ds (λk=>B k\/(k<W.heap.size/\¬C k)) W dk
 new:∀k,c4 k->C k\/W.heap.size<=k\/B k
structure xF(C b4 ef:Nat->Prop)(W:World):Prop where
 sub:∀k,b4 k->ef k
 new:∀k,ef k->b4 k\/(¬C k/\∃cs e dY,W.heap[k]?=some (.cells cs e dY))
def CB{β:Type}(c:β->(Nat->Prop)->(Nat->Prop)->World->Prop):Prop:=∀l C a W b,c l C a W->ds C W b->c l C a b
def L0{α:Type}(P:Program)(g:Nat)(m:bY)(B:Nat->Prop)(ai:World)(j:cI)(l:List α)(enc:(Nat->Prop)->World->α->bY->Prop):Prop:=
 ∀(id:Nat) (d:List α->(Nat->Prop)->(Nat->Prop)->World->Prop) (i:Unit->(Nat->Prop)->World->Prop) (W:World),ds B ai W->(∀k,B k->k<ai.heap.size)->CB d->CA i->(∀r C a W,d r C a W->∀k,C k->k<W.heap.size)->(∀r C W,i r C W->∀k,C k->k<W.heap.size)->(∀r C a W,d r C a W->∀k,a k->C k) ->
  (∀x rest C a h f vs,d (x::rest) C a f->xF C a h f->enc h f x vs->YieldAt Fence.wide 1 P id vs.toArray f λe c=>
   (e=.returned (.bool true)/\∃b,d rest b h c/\Grow h C b f c)\/(e=.returned (.bool false)/\∃b,i () b c/\Grow h C b f c)) ->
  ∀C,d l C B W->bT C W j W->CallsIn Fence.wide 1 P g (#[.func (.yield id) #[] #[]]++m.toArray) W λe c=>(∃v,e=.returned v)/\∃b,(∃a,d [] b a c)\/i () b c
def TR{α:Type}(B:Nat->Prop)(a6:List α->(Nat->Prop)->(Nat->Prop)->World->Prop)(c:Code->(Nat->Prop)->World->Prop)(rest:List α)(C:Nat->Prop)(W:World):Exit->Act->World->Prop
 |.normal,_,b=>∃a,a6 rest a B b/\Grow B C a W b
 |.ret,_,b=>∃a,c .ret a b/\Grow B C a W b
 |.exit id,_,b=>∃a,c (.exit id) a b/\Grow B C a W b
 |_,_,_=>False
theorem vA{C:Nat->Prop}{W:World}{k:Nat}{o:Obj}(h:¬C k):ds C W (W.putObj k o):=⟨rfl,rfl,rfl,by simp,λq a=>World.putObj_heap_other λe=>h (e ▸ a)⟩
theorem TS{α:Type}{P:Program}{g:Operand}{aB:Array Tmp}{assign body:Code}{Q:Exit->Act->World->Prop}{a:Act}{w:World}{E:Nat}{S:bY}{B:Nat->Prop}{ai:World}{af:cI}{l:List α}{enc:(Nat->Prop)->World->α->bY->Prop}(az:a.eval g=.func (.func E) #[] S.toArray)(aV:∀args w,(callFunc E args).run P w=.ok (.enter E args) w)(aW:L0 P E S B ai af l enc)(av:ds B ai w)(aq:∀k,B k->k<ai.heap.size)(aO:∀f W x vs,enc f W x vs->vs.length=aB.size)(a3:∀f W A x vs,ds f W A->enc f W x vs->enc f A x vs)(a6:List α->(Nat->Prop)->(Nat->Prop)->World->Prop)(L:Code->(Nat->Prop)->World->Prop)(T:CB a6)(X:CA L)(ap:∀r C d W,a6 r C d W->∀k,C k->k<W.heap.size)(al:∀r C d W,a6 r C d W->∀k,d k->C k)(ax:∀r C W,L r C W->∀k,C k->k<W.heap.size)(iO:Nat->Prop)(ao:a6 l iO B w)(Y:bT iO w af w)(aA:∀(id:Nat) (x:α) (rest:List α) (vs:bY) (C d f:Nat->Prop) (W:World) (o:Obj),id<W.heap.size->¬C id->¬f id->a6 (x::rest) C d W->xF C d f W->enc f W x vs ->
   assign.wpIn (Fence.wide.inRound id) 1 P (Exit.then (λaI b6=>b6.heap[id]?=W.heap[id]?/\body.wpIn (Fence.wide.inRound id) 1 P (TR f a6 L rest C (W.putObj id o)) aI (b6.putObj id o)) (λ_ _ _=>False)) { tmps:=(aB.zip vs.toArray).foldl (λt (p,v)=>t.setIfInBounds p v) a.tmps,defers:=[] } W)(aS:∀(D:Nat) (C d:Nat->Prop) (W:World),w.heap.size<=D->¬C D->a6 [] C d W->W.heap[D]?=some (.deferred (some []))->Q .normal { a with defers:={ target:=.collected D,args:=#[] }::a.defers } W)(aT:∀(D:Nat) (c:Code) (C:Nat->Prop) (W:World),w.heap.size<=D->¬C D->L c C W->W.heap[D]?=some (.deferred (some []))->c.wpIn Fence.wide 2 P Q { a with defers:={ target:=.collected D,args:=#[] }::a.defers } W) :
  (Code.rangeFunc g aB assign body).wpIn Fence.wide 2 P Q a w:=by
 refine wpIn_rangeFunc ?_;intro fn aL;have a7:Fence.wide.round=none:=rfl;obtain⟨rec,u⟩:∃rec:LoopState->Option Code->Loop,rec=λst aC=>{ state:=st,pending:=aC,fn,tmps:=a.tmps,params:=aB,assign,body,defers:=w.heap.size }:=⟨_,rfl⟩
 obtain⟨q,N⟩:∃q,(w.alloc (.deferred (some []))).alloc (.loop (rec .ready none))=q:=⟨_,rfl⟩
 have aX:q.heap[w.heap.size+1]?=some (.loop (rec .ready none)):=by
  rw[<- N];have:=World.alloc_heap_new (w.alloc (.deferred (some []))) (.loop (rec .ready none));rwa [World.size_alloc]at this
 have aD:q.heap[w.heap.size]?=some (.deferred (some [])):=by
  rw[<- N];exact(Below.heap_alloc _ _ _ (by simp)).trans (World.alloc_heap_new w _)
 have aJ:q.heap.size=w.heap.size+2:=by rw[<- N];simp
 have aj:∀ {C:Nat->Prop},(∀k,C k->k<w.heap.size)->ds C w q:=λ{C} cF=>by
  rw[<- N];exact⟨rfl,rfl,rfl,by simp;omega,λk aa=>by
   have:=cF k aa
   exact(Below.heap_alloc _ _ _ (by simp;omega)).trans (Below.heap_alloc _ _ _ this)⟩
 have aY:∀k,B k->k<w.heap.size:=λk aa=>lt_of_lt_of_le (aq k aa) av.size
 have R:=ap _ _ _ _ ao;have aE:=T _ _ _ _ _ ao (aj R);have aF:bT (λk=>iO k\/k=w.heap.size\/k=w.heap.size+1) q af q:=by
  refine⟨ds.refl _ _,λk aa=>?_,λc U=>?_,Y.apart⟩
  ·rw[aJ]
   rcases aa with aa|aa|aa
   ·have:=R k aa
    omega
   ·omega
   ·omega
  ·refine((Y.ok c U).et λb ab=>(aj λk aa=>((Y.ok c U).lt aa).2).block b ab).base λb ab h=>?_
   have I:=(Y.ok c U).lt ab
   rcases h with h|h|h
   ·exact I.1 h
   ·omega
   ·omega
 let D:=w.heap.size
 let id:=w.heap.size+1
 let aK:List α->(Nat->Prop)->(Nat->Prop)->World->Prop:=λr C d W=>∃iO,(∀k,C k↔iO k\/k=D\/k=id)/\¬iO D/\¬iO id/\a6 r iO d W/\W.heap[id]?=some (.loop (rec .ready none))/\W.heap[D]?=some (.deferred (some []))
 let aM:Unit->(Nat->Prop)->World->Prop:=λ_ C W=>∃iO c,(∀k,C k↔iO k\/k=D\/k=id)/\¬iO D/\¬iO id/\L c iO W/\W.heap[id]?=some (.loop (rec .done (some c)))/\W.heap[D]?=some (.deferred (some []))
 have au:∀ {C iO:Nat->Prop} {W A:World},(∀k,C k↔iO k\/k=D\/k=id)->ds C W A->ds iO W A:=λcF h=>⟨h.os,h.tape,h.output,h.size,λk aa=>h.block k ((cF k).2 (.inl aa))⟩
 refine⟨w.heap.size+1,[{ target:=.collected w.heap.size,args:=#[] }],q,{ target:=.fn (.func E) S.toArray,args:=#[.func (.yield (w.heap.size+1)) #[] #[]] },q,E,
  #[.func (.yield (w.heap.size+1)) #[] #[]]++S.toArray,q,?_,?_,?_,?_,λ_=>by omega,?_⟩
 ·rw[<- N,u];exact run_enterLoop_outer _ _ _ _ _
 ·simp only[resolve,az]
  simp[go_sem]
 ·intro f' a4
  exact trivial
 ·simp[invoke,go_sem,aV]
 ·refine(aW id aK aM q (av.trans (aj aY)) aq ?_ ?_ ?_ ?_ ?_ ?_ (λk=>iO k\/k=D\/k=id) ⟨iO,λk=>Iff.rfl,λh=>by have:=R _ h;simp only[D]at this;omega,λh=>by have:=R _ h;simp only[id]at this;omega,aE,aX,aD⟩ aF).mono ?_
  ·rintro r C d W A ⟨j,cF,I,J,ag,y,n⟩ aa
   exact⟨j,cF,I,J,T _ _ _ _ _ ag (au cF aa),(aa.block _ ((cF _).2 (.inr (.inr rfl)))).trans y,(aa.block _ ((cF _).2 (.inr (.inl rfl)))).trans n⟩
  ·rintro r C W A ⟨j,c,cF,I,J,ag,y,n⟩ aa
   exact⟨j,c,cF,I,J,X _ _ _ _ ag (au cF aa),(aa.block _ ((cF _).2 (.inr (.inr rfl)))).trans y,(aa.block _ ((cF _).2 (.inr (.inl rfl)))).trans n⟩
  ·rintro r C d W ⟨j,cF,I,J,ag,y,n⟩ k aa
   rcases (cF k).1 aa with h|h|h
   ·exact ap _ _ _ _ ag k h
   ·subst h;exact(Array.getElem?_eq_some_iff.1 n).1
   ·subst h;exact(Array.getElem?_eq_some_iff.1 y).1
  ·rintro r C W ⟨j,c,cF,I,J,ag,y,n⟩ k aa
   rcases (cF k).1 aa with h|h|h
   ·exact ax _ _ _ ag k h
   ·subst h;exact(Array.getElem?_eq_some_iff.1 n).1
   ·subst h;exact(Array.getElem?_eq_some_iff.1 y).1
  ·rintro r C d W ⟨j,cF,I,J,ag,y,n⟩ k aa
   exact(cF k).2 (.inl (al _ _ _ _ ag k aa))
  ·rintro x rest C d f W vs ⟨j,cF,ac,F,hi,ah,aa⟩ V aw
   have Z:=(Array.getElem?_eq_some_iff.1 ah).1;have aG:=run_yield (P:=P) (args:=vs.toArray) ah (by rw[u];simp[aO _ _ x vs aw]);rw[u]at aG;have ay:¬f id:=λh=>by
    rcases V.new id h with h|⟨h,_⟩
    ·exact F (al _ _ _ _ hi id h)
    ·exact h ((cF id).2 (.inr (.inr rfl)))
   have aH:xF j d f W:=⟨V.sub,λk aa=>(V.new k aa).imp_right λ⟨h,J⟩=>⟨λaR=>h ((cF k).2 (.inl aR)),J⟩⟩
   refine⟨fn,_,assign,body,aG,roundIn_of_wpIn aL (wpIn_mono (aA id x rest vs j d f W (.loop { rec .ready none with state:=.busy }) Z F ay hi aH aw) ?_)⟩;rintro aN a1 a2 n;cases aN with
   |normal=>?_
   |_=>exact False.elim n
   refine⟨_,run_beginRound (n.1.trans ah) (by rw[u]),?_⟩;have aQ:(W.putObj id (.loop { rec .ready none with state:=.busy })).heap[id]?=some (.loop { rec .ready none with state:=.busy }):=World.putObj_heap_same Z;have aP:(W.putObj id (.loop { rec .ready none with state:=.busy })).heap[D]?=some (.deferred (some [])):=(World.putObj_heap_other (by simp only[D,id];omega)).trans aa;have ad:∀k,f k->k≠id/\k≠D:=λk aa=>by
    rcases V.new k aa with h|⟨h,_⟩
    ·have:=al _ _ _ _ hi k h
     exact⟨λe=>F (e ▸ this),λe=>ac (e ▸ this)⟩
    ·exact⟨λe=>h ((cF k).2 (.inr (.inr e))),λe=>h ((cF k).2 (.inr (.inl e)))⟩
   refine wpIn_mono n.2 ?_;have ae:∀ {s:Nat->Prop} {z:World},Grow f j s (W.putObj id (.loop { rec .ready none with state:=.busy })) z->∀(jump:Option Code),
     (Instr.endRound id jump).run P z=.ok (.bool jump.isNone) (z.putObj id (.loop (rec (if jump.isNone then .ready else .done) jump))) /\
     (z.putObj id (.loop (rec (if jump.isNone then .ready else .done) jump))).heap[id]?=some (.loop (rec (if jump.isNone then .ready else .done) jump)) /\
     (z.putObj id (.loop (rec (if jump.isNone then .ready else .done) jump))).heap[D]?=some (.deferred (some []))/\¬s D/\¬s id/\Grow f C (λk=>s k\/k=D\/k=id) W (z.putObj id (.loop (rec (if jump.isNone then .ready else .done) jump))):=λ{s z} m jump=>by
    have hid:id<(W.putObj id (.loop { rec .ready none with state:=.busy })).heap.size/\¬j id:=⟨by simpa using Z,F⟩
    have am:D<(W.putObj id (.loop { rec .ready none with state:=.busy })).heap.size/\¬j D:=⟨by simp only[D,id]at Z ⊢;simp;omega,ac⟩
    have an:=(m.et.block id (.inr hid)).trans aQ;have aU:=(m.et.block D (.inr am)).trans aP;have he:=run_endRound (P:=P) jump an;rw[u]at he ⊢;refine⟨he,World.putObj_heap_same (Array.getElem?_eq_some_iff.1 an).1,(World.putObj_heap_other (by simp only[D,id];omega)).trans aU,λh=>?_,λh=>?_,⟨⟨?_,?_,?_,?_,λk aa=>?_⟩,λk aa=>?_⟩⟩
    ·rcases m.new _ h with aR|aR|aR
     ·exact ac aR
     ·have:=am.1;omega
     ·exact(ad _ aR).2 rfl
    ·rcases m.new _ h with aR|aR|aR
     ·exact F aR
     ·have:=hid.1;omega
     ·exact(ad _ aR).1 rfl
    ·exact m.et.os
    ·exact m.et.tape
    ·exact m.et.output
    ·have:=m.et.size;simpa using this
    ·have ar:k≠id:=by
      rcases aa with aa|aa
      ·exact(ad k aa).1
      ·exact λe=>aa.2 ((cF k).2 (.inr (.inr e)))
     refine(World.putObj_heap_other ar).trans ((m.et.block k ?_).trans (World.putObj_heap_other ar))
     rcases aa with aa|aa
     ·exact .inl aa
     ·exact .inr ⟨by simpa using aa.1,λh=>aa.2 ((cF k).2 (.inl h))⟩
    ·rcases aa with aa|aa
     ·rcases m.new k aa with aR|aR|aR
      ·exact .inl ((cF k).2 (.inl aR))
      ·exact .inr (.inl (by simpa using aR))
      ·exact .inr (.inr aR)
     ·exact .inl ((cF k).2 (.inr aa))
   rintro e a0 z ak;cases e with
   |normal=>
    obtain⟨s,G,m⟩:=ak;obtain⟨H,O,M,nw,lR,K⟩:=ae m none;exact⟨_,_,H,.inl ⟨rfl,_,⟨s,λk=>Iff.rfl,nw,lR,T _ _ _ _ _ G (vA lR),O,M⟩,K⟩⟩
   |ret=>
    obtain⟨s,G,m⟩:=ak;obtain⟨H,O,M,nw,lR,K⟩:=ae m (some .ret);exact⟨_,_,H,.inr ⟨rfl,_,⟨s,.ret,λk=>Iff.rfl,nw,lR,X _ _ _ _ G (vA lR),O,M⟩,K⟩⟩
   |exit i=>
    obtain⟨s,G,m⟩:=ak;obtain⟨H,O,M,nw,lR,K⟩:=ae m (some (.exit i));exact⟨_,_,H,.inr ⟨rfl,_,⟨s,.exit i,λk=>Iff.rfl,nw,lR,X _ _ _ _ G (vA lR),O,M⟩,K⟩⟩
   |goto t=>exact ak.elim
   |panic aZ=>exact ak.elim
   |outgrown=>exact ak.elim
  ·rintro e a5 ⟨⟨v,rfl⟩,s,(⟨d,j,cF,I,J,hi,ah,aa⟩|⟨j,c,cF,I,J,hi,ah,aa⟩)⟩
   ·exact⟨none,_,by have:=run_endLoop (P:=P) ah (by rw[u];simp);rw[u]at this;exact this,aS _ j d _ (le_refl _) I (T _ _ _ _ _ hi (vA J)) ((World.putObj_heap_other (by simp only[id];omega)).trans aa)⟩
   ·exact⟨some c,_,by have:=run_endLoop (P:=P) ah (by rw[u];simp);rw[u]at this;exact this,aT _ c j _ (le_refl _) I (X _ _ _ _ hi (vA J)) ((World.putObj_heap_other (by simp only[id];omega)).trans aa)⟩
theorem agA{α:Type}{P:Program}{g:Operand}{aB:Array Tmp}{assign body:Code}{Q:Exit->Act->World->Prop}{a:Act}{w:World}{i:Nat}{s:bY}{B:Nat->Prop}{ai:World}{m:cI}{l:List α}{enc:(Nat->Prop)->World->α->bY->Prop}(H:a.eval g=.func (.func i) #[] s.toArray)(U:∀args w,(callFunc i args).run P w=.ok (.enter i args) w)(X:L0 P i s B ai m l enc)(O:ds B ai w)(M:∀k,B k->k<ai.heap.size)(y:∀b W x vs,enc b W x vs->vs.length=aB.size)(n:∀b W q x vs,ds b W q->enc b W x vs->enc b q x vs)(a6:List α->(Nat->Prop)->(Nat->Prop)->World->Prop)(f:Code->(Nat->Prop)->World->Prop)(u:CB a6)(Y:CA f)(L:∀r C d W,a6 r C d W->∀k,C k->k<W.heap.size)(T:∀r C d W,a6 r C d W->∀k,d k->C k)(F:∀r C W,f r C W->∀k,C k->k<W.heap.size)(iO:Nat->Prop)(G:a6 l iO B w)(Z:bT iO w m w)(E:bY->Act)(I:∀(id:Nat) (x:α) (vs:bY) (W:World) (K:Act->World->Prop),vs.length=aB.size->K (E vs) W ->
   assign.wpIn (Fence.wide.inRound id) 1 P (Exit.then K (λ_ _ _=>False)) { tmps:=(aB.zip vs.toArray).foldl (λt (p,v)=>t.setIfInBounds p v) a.tmps,defers:=[] } W)(V:∀(id:Nat) (x:α) (rest:List α) (vs:bY) (C d b:Nat->Prop) (W:World),a6 (x::rest) C d W->xF C d b W->enc b W x vs->body.wpIn (Fence.wide.inRound id) 1 P (TR b a6 f rest C W) (E vs) W)(R:∀(D:Nat) (C d:Nat->Prop) (W:World),w.heap.size<=D->¬C D->a6 [] C d W->W.heap[D]?=some (.deferred (some []))->Q .normal { a with defers:={ target:=.collected D,args:=#[] }::a.defers } W)(S:∀(D:Nat) (c:Code) (C:Nat->Prop) (W:World),w.heap.size<=D->¬C D->f c C W->W.heap[D]?=some (.deferred (some []))->c.wpIn Fence.wide 2 P Q { a with defers:={ target:=.collected D,args:=#[] }::a.defers } W) :
  (Code.rangeFunc g aB assign body).wpIn Fence.wide 2 P Q a w:=TS H U X O M y n a6 f u Y L T F iO G Z (λid x rest vs C d b W o hid cF j hi z A=>by
  refine I id x vs W _ (y _ _ x vs A) ⟨rfl,?_⟩;have N:∀k,b k->k≠id:=λk aa e=>j (e ▸ aa)
  exact V _ x rest vs C d b _ (u _ _ _ _ _ hi (vA cF)) ⟨z.sub,λk aa=>(z.new k aa).imp_right λ⟨h,cs,e,dY,J⟩=>⟨h,cs,e,dY,(World.putObj_heap_other (N k aa)).trans J⟩⟩ (n _ _ _ _ _ (vA λh=>j h) A)) R S
section
theorem bG.split{env:Nat->Loc}{B:Nat->Prop}{w:World}:∀ {l l':bC} {H:cI},bG env B w (l++l') H->∃H1 H2,H=H1++H2/\bG env B w l H1/\bG env B w l' H2
 |[],_,H,h=>⟨[],H,rfl,rfl,h⟩
 |(_,_)::l,_,_,⟨c,H',e,I,J⟩=>by
  obtain⟨H1,H2,a,d,b⟩:=bG.split J;exact⟨c::H1,H2,by rw[e,a];rfl,⟨c,H1,rfl,I,d⟩,b⟩
def xL{α:Type}(X:bz)(d:FuncId)(gV:eB)(ak:bC)(l:List α)(e:α->ej):Prop:=
 ∀(B:Nat->Prop) (w:World) (b:bY) (env:Nat->Loc) (a:cI),(∀k,B k->k<w.heap.size)->y2 X B w->fF env B w gV b->bG env B w ak a->L0 X.P d b B w a l (λc W x vs=>dO (λ_=>.no) c W (e x) vs)
def mA(R B:Nat->Prop)(H:cI)(aq:bX)(k:Nat):Prop:=R k\/B k\/∃c∈H++aq.map dB,c.has k
section
variable {X:bz} {R:Nat->Prop} {W:World} {aD:fk} {n:Nat} {aq:bX} {env:Nat->Loc} {B:Nat->Prop} {ai:World} {H:cI} {st:aQ} {a:Act} {w:World}
theorem bM.L5{f:World}(h:bM X R W aD n aq env B ai H st a w)(aa:ds (mA R B H aq) w f):bM X R W aD n aq env B ai H st a f:=
 ⟨h.size,h.defs,h.has,h.heap,⟨h.aT.below.trans ⟨aa.os,aa.tape,aa.output,aa.size,λk d=>aa.block k (d.elim .inl λh=>.inr (.inl h))⟩,λk d=>lt_of_lt_of_le (h.aT.base k d) aa.size,λc U=>(h.aT.ok c U).et λb e=>aa.block b (.inr (.inr ⟨c,U,e⟩)),h.aT.apart⟩,h.sub,h.new,h.dP,h.base,h.eu⟩
theorem bM.now(h:bM X R W aD n aq env B ai H st a w):bM X R W aD n aq env B w H st a w:=by
 have b:gP B ai B w:=⟨λ_ h=>h,λk aa=>h.aT.below.block k (.inr aa)⟩
 refine⟨h.size,h.defs,λs sv c=>?_,h.heap.up b,⟨ds.refl _ _,h.aT.base,h.aT.ok,h.aT.apart⟩,h.sub,λk aa=>(h.new k aa).imp_right λI=>⟨I.1,I.2.et (h.aT.below.block k (.inr aa))⟩,h.dP,h.base.trans ⟨h.aT.below.os,h.aT.below.tape,h.aT.below.output,h.aT.below.size,λk aa=>h.aT.below.block k (.inl aa)⟩,λi x an=>(h.eu i x an).up b⟩;obtain⟨v,I,J⟩:=h.has s sv c;exact⟨v,I,J.up b⟩
theorem bM.TV{d:Nat->Prop}(h:bM X R W aD n aq env B w H st a w)(f:∀k,d k->B k\/(¬mA R B H aq k/\tq w k)):bM X R W aD n aq env (λk=>B k\/d k) w H st a w:=by
 have g:gP B w (λk=>B k\/d k) w:=⟨λ_ h=>.inl h,λk aa=>rfl⟩
 have o:∀k,d k->k<w.heap.size:=λk aa=>by
  rcases f k aa with I|⟨_,cs,e,p,J⟩
  ·exact h.aT.base k (.inr I)
  ·exact(Array.getElem?_eq_some_iff.1 J).1
 refine⟨h.size,h.defs,λs sv l=>?_,h.heap.up g,⟨ds.refl _ _,λk aa=>?_,λc U=>(h.aT.ok c U).base λb ab aa=>?_,h.aT.apart⟩,λk aa=>.inl (h.sub k aa),λk aa=>?_,h.dP,h.base,λi x an=>(h.eu i x an).up g⟩
 ·obtain⟨v,I,J⟩:=h.has s sv l
  exact⟨v,I,J.up g⟩
 ·rcases aa with aa|aa|aa
  ·exact h.aT.base k (.inl aa)
  ·exact h.aT.base k (.inr aa)
  ·exact o k aa
 ·have j:=((h.aT.ok c U).lt ab).1
  rcases aa with aa|aa|aa
  ·exact j (.inl aa)
  ·exact j (.inr aa)
  ·rcases f b aa with I|⟨I,_⟩
   ·exact j (.inr I)
   ·exact I (.inr (.inr ⟨c,U,ab⟩))
 ·rcases aa with aa|aa
  ·exact h.new k aa
  ·rcases f k aa with I|⟨I,J⟩
   ·exact h.new k I
   ·exact .inr ⟨λm=>I (.inl m),J⟩
theorem bM.Gq(h:bM X R W aD n aq env B ai H st a w):∀k,mA R B H aq k->k<w.heap.size:=λk aa=>by
 rcases aa with aa|aa|⟨c,U,e⟩
 ·exact h.aT.base k (.inl aa)
 ·exact h.aT.base k (.inr aa)
 ·exact((h.aT.ok c U).lt e).2
end
def hL(X:bz)(M:Bool)(n:Nat)(st st':aQ):Prop:=∀R W aD a w,mO X R W aD M n st a w->mO X R W aD M n st' a w
theorem bP.m{X:bz}{M:Bool}{n:Nat}{st st':aQ}(h:bP X n st st'):hL X M n st st':=λR W aD a w ad=>h _ _ _ _ _ _ ad
theorem hL.refl{X:bz}{M:Bool}{n:Nat}(st:aQ):hL X M n st st:=λ_ _ _ _ _ h=>h
theorem hL.trans{X:bz}{M:Bool}{n:Nat}{a b c:aQ}(h:hL X M n a b)(k:hL X M n b c):hL X M n a c:=λR W aD x w ad=>k _ _ _ _ _ (h _ _ _ _ _ ad)
theorem bM.put{X:bz}{R:Nat->Prop}{W:World}{aD:fk}{n:Nat}{env:Nat->Loc}{B:Nat->Prop}{ai:World}{H:cI}{st:aQ}{a:Act}{w:World}{id:Nat}(h:bM X R W aD n [] env B ai H st a w)(hid:R id)(ab:¬aD.b id)(j:id<W.heap.size)(o:Obj):bM X R (W.putObj id o) aD n [] env B (ai.putObj id o) H st a (w.putObj id o):=by
 have l:∀k,B k->k≠id:=λk aa e=>by
  subst e
  rcases h.new _ aa with I|I
  ·exact ab I
  ·exact I.1 hid
 have f:=lt_of_lt_of_le j h.base.size;have q:=lt_of_lt_of_le f h.aT.below.size;have g:gP B ai B (ai.putObj id o):=⟨λ_ h=>h,λk aa=>World.putObj_heap_other (l k aa)⟩
 have key:∀ {v d:World} (k:Nat),id<v.heap.size->id<d.heap.size->d.heap[k]?=v.heap[k]?->(d.putObj id o).heap[k]?=(v.putObj id o).heap[k]?:=λ{v d} k I J ag=>by
  by_cases e:k=id
  ·subst e
   rw[World.putObj_heap_same I,World.putObj_heap_same J]
  ·rw[World.putObj_heap_other e,World.putObj_heap_other e,ag]
 refine⟨h.size,h.defs,λs sv m=>?_,h.heap.up g,⟨⟨h.aT.below.os,h.aT.below.tape,h.aT.below.output,by simpa using h.aT.below.size,λk aa=>key k f q (h.aT.below.block k aa)⟩,λk aa=>by simpa using h.aT.base k aa,λc U=>(h.aT.ok c U).et λb e=>World.putObj_heap_other λp=>((h.aT.ok c U).lt e).1 (.inl (p ▸ hid)),h.aT.apart⟩,h.sub,λk aa=>(h.new k aa).imp_right λI=>⟨I.1,I.2.et (World.putObj_heap_other (l k aa))⟩,h.dP,⟨h.base.os,h.base.tape,h.base.output,by simpa using h.base.size,λk aa=>key k j f (h.base.block k aa)⟩,λi x an=>(h.eu i x an).up g⟩;obtain⟨v,I,J⟩:=h.has s sv m;exact⟨v,I,J.up g⟩
theorem agC{X:bz}{M:Bool}{n id:Nat}{c:Code}{ms:List (Nat×Nat)}{L:c6}{H:bC}{P:aQ->Prop}(h:mX n c ms)(g:nJ n (ms.map (·.1))=true)(pY:P ⟨tH ms L,H⟩):hd X M n (some id) c ⟨L,H⟩ (λe s=>e=.normal/\P s):=λR W aD a w ⟨aq,env,B,ai,f,d,ad⟩=>by
 have b:=Has.di ⟨ad.size,ad.has⟩ g;exact mX.ok h ⟨_,⟨rfl,pY⟩,aq,env,B,ai,f,d,b.size,ad.defs,b.has,ad.heap,ad.aT,ad.sub,ad.new,ad.dP,ad.base,ad.eu⟩
theorem TW{α β:Type}{X:bz}{n:Nat}{st:aQ}{Q:Exit->aQ->Prop}{g:Operand}{pl:bX}{assign body:Code}{iz:FuncId}{fn:Func}{gV:eB}{mz:α->ej}{l:List α}{b:Bool}{ak fA:bC}(aP : bx X st.L g = some (b, .c (.fn iz gV)))(ab : b = true)(gO : X.P.funcs[iz]? = some fn)(pd : (fn.name == "runtime.NumGoroutine") = false)(p1 : fn.body.isNone = false)(hh : xL X iz gV ak l mz)(hlen : ∀ x, (mz x).length = pl.length)(ig : nJ n pl = true)(ba : ble n iG = true)(hz:β->bC)(bQ:List α->β->Prop)(mB:Exit->bC->Prop)(iP:β)(aO:bQ l iP)(c7:st.H=ak++fA)(dF:∀ {env:Nat->Loc} {B:Nat->Prop} {w:World} {H:cI},bG env B w fA H->∃H' Y,H.Perm (H'++Y)/\bG env B w (hz iP) H')(rP:∀id x rest y,bQ (x::rest) y->hd X false n (some id) assign ⟨vc pl (mz x) (gC (hH n) st.L),hz y⟩ (λh0 kI=>h0=.normal/\hd X false n (some id) body kI (λe s=>(e=.normal/\∃oy,bQ rest oy/\∃ea,hL X false n s ⟨ea,hz oy⟩)\/(e≠.normal/\Fa e=true/\∃aR,mB e aR/\∃ea,hL X false n s ⟨ea,aR⟩))))(oq:∀y,bQ [] y->Q .normal ⟨gC (hH n) st.L,hz y⟩)(pZ:∀e aR,mB e aR->Q e ⟨gC (hH n) st.L,aR⟩):hd X true n none (.rangeFunc g pl.toArray assign body) st Q:=by
 intro R W aD a w jq;obtain⟨aq,env,B,ai,oY,bL,fM⟩:=jq;have CF:=fM.heap;rw[c7]at CF;obtain⟨O,H2,L7,ji,iD⟩:=bG.split CF;obtain⟨H,Y,zC,sz⟩:=dF iD;subst L7;have ad:bM X R W aD n aq env B ai (O++H) ⟨st.L,ak++hz iP⟩ a w:=by
  refine⟨fM.size,fM.defs,fM.has,ji.append sz,?_,fM.sub,fM.new,fM.dP,fM.base,fM.eu⟩;have ao:((O++H2)++aq.map dB).Perm (((O++H)++aq.map dB)++Y):=by
   refine((zC.append_left O).append_right _).trans ?_;simp only[append_assoc];exact((List.perm_append_comm).append_left H).append_left O
  exact(fM.aT.perm ao).fq (List.sublist_append_left _ _)
 obtain⟨gv,ee,hE,rfl,dM⟩:=fM.aJ aP ab;have jq:=ad.Rs;have ui:gP B ai B w:=⟨λ_ h=>h,λk aa=>ad.aT.below.block k (.inr aa)⟩
 have xK:∀k,B k->k<w.heap.size:=λk aa=>ad.aT.base k (.inr aa)
 have xH:=hh B w hE env O xK (λi x an=>(ad.eu i x an).up ui) (dM.up ui) (ji.up ui);have ir:=Nat.le_of_ble_eq_true ba;have tz:(H++aq.map dB).Sublist ((O++H)++aq.map dB):=by
  rw[append_assoc];exact List.sublist_append_right _ _
 have L8:bT (mA (λk=>R k\/B k) B H aq) w O w:=by
  have kR:=ad.aT.apart;rw[append_assoc,pairwise_append]at kR;refine⟨ds.refl _ _,λk aa=>?_,λc U=>?_,kR.1⟩
  ·rcases aa with aa|aa|⟨c,U,e⟩
   ·exact ad.aT.base k aa
   ·exact ad.aT.base k (.inr aa)
   ·exact((ad.aT.ok c (tz.subset U)).lt e).2
  ·have hQ:=ad.aT.ok c (mem_append_left _ (mem_append_left _ U))
   refine hQ.base λb ab aa=>?_
   rcases aa with aa|aa|⟨c',eh,e⟩
   ·exact(hQ.lt ab).1 aa
   ·exact(hQ.lt ab).1 (.inr aa)
   ·exact kR.2.2 c U c' eh b ab e
 let n3:=gC (hH n) st.L
 let qJ:Nat->Prop:=λk=>R k\/B k
 let In:bC->(Nat->Prop)->(Nat->Prop)->World->Prop:=λh C b4 dk=>∃env' B' cG H',bM X qJ w ⟨B,o0 n env,aD.d⟩ n aq env' B' cG H' ⟨n3,h⟩ a dk/\C=mA qJ B' H' aq/\∀k,b4 k->B' k
 let a6:List α->(Nat->Prop)->(Nat->Prop)->World->Prop:=λr C b4 dk=>∃y,bQ r y/\In (hz y) C b4 dk
 let my:Code->(Nat->Prop)->World->Prop:=λc C dk=>∃e aR b4,Rr e=some c/\mB e aR/\In aR C b4 dk
 have CG:∀h C b4 b0 nT,In h C b4 b0->ds C b0 nT->In h C b4 nT:=by
  rintro h C b4 b0 nT ⟨env',B',cG,H',I,rfl,J⟩ aa;exact⟨env',B',cG,H',I.L5 aa,rfl,J⟩
 have CH:∀ {B':Nat->Prop} {cG:World} {env':Nat->Loc},(∀k,B k->B' k)->(∀k,B k->cG.heap[k]?=w.heap[k]?)->(∀id l,o0 n env id l->env' id=l)->∀s sv,bj n3 s=some sv->∃v,a.tmps[s]?=some v/\e7 env' B' cG sv v:=by
  intro B' cG env' c2 hw he s sv aj;obtain⟨u,I,rfl⟩:=w3 aj;obtain⟨v,J,ag⟩:=jq.has s u I;exact⟨v,J,e7.dp (Ro (λid l ar aF a7=>he id l ⟨ar,aF,a7⟩) ir) (ag.up ⟨c2,hw⟩)⟩
 have CI:∀ {h:bC} {C b4:Nat->Prop} {b0:World} (k:Nat),w.heap.size<=k->¬C k->b0.heap[k]?=some (.deferred (some []))->In h C b4 b0->mO X R W aD true n ⟨n3,h⟩ { a with defers:={ target:=.collected k,args:=#[] }::a.defers } b0:=by
  rintro h C b4 b0 k aa vB az ⟨env',B',cG,H',I,rfl,_⟩;refine⟨k::aq,env',B',cG,H',⟨(λh=>by cases h),bL.2⟩,ad.abX ?_⟩;have kz:(dB k::(H'++aq.map dB)).Perm (H'++(k::aq).map dB):=by
   exact List.perm_middle.symm
  have er:bT (λq=>(R q\/B q)\/B' q) cG (dB k::(H'++aq.map dB)) b0:=by
   refine⟨I.aT.below,I.aT.base,λc U=>?_,List.Pairwise.cons (λc U q aE bb=>?_) I.aT.apart⟩
   ·rcases List.mem_cons.1 U with rfl|U
    ·exact⟨λao=>vB (ao.elim .inl λh=>.inr (.inl h)),az⟩
    ·exact I.aT.ok c U
   ·have:k=q:=Option.some.inj aE
    subst this;exact vB (.inr (.inr ⟨c,U,bb⟩))
  refine⟨I.size,congrArg (List.cons (wH k)) I.defs,I.has,I.heap,er.perm kz,I.sub,I.new,I.dP,I.base,I.eu⟩
 have dD:∀(c:Code) (m:Nat) (Q:Exit->Act->World->Prop) a w,c.wpIn Fence.wide m X.P Q a w↔c.wpIn Fence.wide 0 X.P Q a w:=λc m Q a w=>wpIn_wide.trans wpIn_wide.symm
 have CJ:∀(id:Nat) (c:Code) (m:Nat) (Q:Exit->Act->World->Prop) a w,c.wpIn (Fence.wide.inRound id) 0 X.P Q a w->c.wpIn (Fence.wide.inRound id) m X.P Q a w:=λid c m Q a w h=>by
  intro b k cs zv ab ax;exact h b k cs zv ab (λ_ h=>by cases h)
 refine(dD _ 2 _ _ _).1 ?_;have L9:∀vs:bY,(pl.toArray.zip vs.toArray).foldl (λt (p,v)=>t.setIfInBounds p v) a.tmps=(pl.zip vs).foldl (λt (p,v)=>t.setIfInBounds p v) a.tmps:=λx=>by
  rw[<- Array.foldl_toList,Array.toList_zip]
 refine TS (ad.bW.aJ ee) (λargs w=>P4 gO pd p1) xH (ds.refl _ _) xK (λef nT x vs h=>by have:=dO.length h;rw[hlen x]at this;simpa using this) (λef nT lE x vs aa h=>dO.up ⟨λ_ h=>h,λk ao=>aa.block k ao⟩ h)
  a6 my ?_ ?_ ?_ ?_ ?_ (mA qJ B H aq) ?_ L8 ?_ ?_ ?_
 ·rintro r C b4 b0 nT ⟨y,aG,I⟩ aa
  exact⟨y,aG,CG _ _ _ _ _ I aa⟩
 ·rintro c C b0 nT ⟨e,aR,b4,he,oz,I⟩ aa
  exact⟨e,aR,b4,he,oz,CG _ _ _ _ _ I aa⟩
 ·rintro r C b4 b0 ⟨y,aG,env',B',cG,H',I,rfl,_⟩
  exact I.Gq
 ·rintro r C b4 b0 ⟨y,aG,env',B',cG,H',I,rfl,J⟩ k aa
  exact .inr (.inl (J k aa))
 ·rintro c C b0 ⟨e,aR,b4,he,oz,env',B',cG,H',I,rfl,_⟩
  exact I.Gq
 ·exact⟨iP,aO,env,B,w,H,⟨jq.size,jq.defs,CH (λ_ h=>h) (λ_ _=>rfl) (λ_ _ h=>h.2.1),sz.up ui,jq.aT.fq tz,jq.sub,jq.new,jq.dP,jq.base,jq.eu⟩,rfl,λ_ h=>h⟩
 ·rintro id x rest vs C b4 ef W o hid TX L2 ⟨y,aG,uj,c5,b6,H1,aO,rfl,qH⟩ nS p0
  rw[L9];obtain⟨gZ,z6⟩:∃gZ:Nat->Prop,gZ=λk=>c5 k\/ef k:=⟨_,rfl⟩
  have Gr:bM X qJ w ⟨B,o0 n env,aD.d⟩ n aq uj gZ W H1 ⟨n3,hz y⟩ a W:=by
   rw[z6];exact aO.now.TV λk aa=>(nS.new k aa).imp (λh=>qH k h) λ⟨h,J⟩=>⟨h,J⟩
  have pH:∀k,mA qJ gZ H1 aq k->mA qJ c5 H1 aq k\/ef k:=λk aa=>by
   rcases aa with aa|aa|aa
   ·exact .inl (.inl aa)
   ·rw[z6]at aa
    exact aa.imp (λh=>.inr (.inl h)) λh=>h
   ·exact .inl (.inr (.inr aa))
  have xM:∀k,ef k->gZ k:=λk aa=>by rw[z6];exact .inr aa
  have TY:¬mA qJ gZ H1 aq id:=λh=>(pH id h).elim TX L2
  have agD:Has n uj gZ W n3 a.tmps:=⟨ad.size,λs sv aj=>by
   obtain⟨v,J,ag⟩:=Gr.has s sv aj;exact⟨v,J,ag.up ⟨λ_ h=>h,λk aa=>Gr.aT.below.block k (.inr aa)⟩⟩⟩
  have agE:=Gr.round (Has.par agD ig ((dO.any p0).up ⟨xM,λ_ _=>rfl⟩));have Ma:hc W H1 id:=⟨hid,λc U e=>TX (.inr (.inr ⟨c,mem_append_left _ U,e⟩))⟩
  have agF:=rP id x rest y aG _ _ _ _ _ ⟨[],uj,gZ,W,H1,⟨λ_=>rfl,λh=>by cases h⟩,agE⟩;refine wpIn_mono (CJ _ _ 1 _ _ _ agF) ?_;rintro hf a5 agz ⟨ao5,⟨rfl,agG⟩,ao6,agH,agI,ao7,agJ,TZ,aF⟩;have agK:=TZ.1 rfl;subst agK;refine⟨(aF.aT.below.block id (.inl Ma)).trans (aF.base.block id Ma),?_⟩;have xj:=(Gr.L5 (vA (o:=o) TY)).now;have xk:=aF.put Ma (λh=>TY (.inr (.inl h))) hid o;have agL:hc W H1=hc (W.putObj id o) H1:=funext λk=>by simp[hc]
  rw[agL]at xk;obtain⟨b0,xI⟩:∃b0,b0=W.putObj id o:=⟨_,rfl⟩
  rw[<- xI]at xj xk ⊢;have I:=xj;have fJ:=I.aT.fq (List.sublist_append_left _ _);have agM:∀k,B k->b0.heap[k]?=w.heap[k]?:=λk aa=>(I.aT.below.block k (.inl (.inr aa))).trans (I.base.block k (.inr aa))
  have Mb:=agG _ _ _ _ _ ⟨[],agH,agI,_,agJ,TZ,xk⟩;refine wpIn_mono (CJ _ _ 1 _ _ _ Mb) ?_;rintro e a3 lE ⟨s,aj,J⟩;have jz:∀k,qJ k\/gZ k->hc b0 H1 k:=λk aa=>⟨fJ.base k aa,λc U e=>((fJ.ok c U).lt e).1 aa⟩
  have key:∀aR ea,hL X false n s ⟨ea,aR⟩->∃c4,In aR c4 ef lE/\Grow ef (mA qJ c5 H1 aq) c4 b0 lE:=by
   intro aR ea hw;obtain⟨agN,Gs,vC,nQ,Gt,Gu,ag⟩:=hw _ _ _ _ _ J
   have:=Gu.1 rfl
   subst this;have lS:∀k,hc b0 H1 k->lE.heap[k]?=b0.heap[k]?:=λk aa=>(ag.aT.below.block k (.inl aa)).trans (ag.base.block k aa)
   have ar:=I.abY ag (CH (λk aa=>ag.sub k (I.sub k aa)) (λk aa=>(ag.base.block k (jz k (.inl (.inr aa)))).trans (agM k aa)) (λid l ak=>(ag.dP id l ⟨(I.dP id l ak).1,(I.dP id l ak).2.1,(I.dP id l ak).2.2⟩).2.1));have lF:=ag.aT;simp only[List.map_nil,append_nil]at lF;refine⟨_,⟨Gs,vC,nQ,Gt,ar,rfl,λk aa=>ag.sub k (xM k aa)⟩,⟨⟨ag.aT.below.os.trans ag.base.os,ag.aT.below.tape.trans ag.base.tape,ag.aT.below.output.trans ag.base.output,Nat.le_trans ag.base.size ag.aT.below.size,λk aa=>?_⟩,λk aa=>?_⟩⟩
   ·rcases aa with aa|⟨hg,jm⟩
    ·exact lS k (jz k (.inr (xM k aa)))
    ·exact lS k ⟨hg,λc U e=>jm (.inr (.inr ⟨c,mem_append_left _ U,e⟩))⟩
   ·by_cases bk:b0.heap.size<=k
    ·exact .inr (.inl bk)
    ·have jk:mA qJ gZ H1 aq k->mA qJ c5 H1 aq k\/b0.heap.size<=k\/ef k:=λh=>(pH k h).imp_right .inr
     apply jk
     have Mc:k<b0.heap.size:=by omega
     by_cases hg:mA qJ gZ H1 aq k
     ·exact hg
     ·exfalso
      have xN:hc b0 H1 k:=⟨Mc,λc U e=>hg (.inr (.inr ⟨c,mem_append_left _ U,e⟩))⟩
      rcases aa with aa|aa|⟨c,U,e⟩
      ·exact hg (.inl aa)
      ·rcases ag.new k aa with aF|aF
       ·exact hg (.inr (.inl aF))
       ·exact aF.1 xN
      ·rcases List.mem_append.1 U with U|U
       ·exact((lF.ok c U).lt e).1 (.inl xN)
       ·exact hg (.inr (.inr ⟨c,mem_append_right _ U,e⟩))
  rcases aj with⟨rfl,oy,iu,ea,hw⟩|⟨cz,hex,aR,oz,ea,hw⟩
  ·obtain⟨c4,aF,a7⟩:=key _ _ hw
   exact⟨c4,⟨oy,iu,aF⟩,a7⟩
  ·obtain⟨c4,aF,a7⟩:=key _ _ hw
   cases e with
   |normal=>exact absurd rfl cz
   |ret=>exact⟨c4,⟨.ret,aR,_,rfl,oz,aF⟩,a7⟩
   |exit i=>exact⟨c4,⟨.exit i,aR,_,rfl,oz,aF⟩,a7⟩
   |goto t=>cases hex
   |panic c=>cases hex
   |outgrown=>cases hex
 ·rintro k C b4 b0 aa cF ⟨y,aG,I⟩ az
  exact⟨_,oq y aG,CI k aa cF az I⟩
 ·rintro k c C b0 aa cF ⟨e,aR,b4,he,oz,I⟩ az
  have CK:=CI k aa cF az I;have ao:=pZ e aR oz;cases e with
  |ret=>cases he;exact wpIn_ret ⟨_,ao,CK⟩
  |exit id=>cases he;exact(dD _ 2 _ _ _).2 (Jm ⟨_,ao,CK⟩)
  |normal=>cases he
  |goto t=>cases he
  |panic c=>cases he
  |outgrown=>cases he
theorem agO{α β:Type}{X:bz}{n:Nat}{st:aQ}{Q:Exit->aQ->Prop}{g:Operand}{pl:bX}{assign body:Code}{iz:FuncId}{fn:Func}{gV:eB}{mz:α->ej}{l:List α}{b:Bool}{ms:List (Nat×Nat)}{ak fA:bC}(aP : bx X st.L g = some (b, .c (.fn iz gV)))(ab : b = true)(gO : X.P.funcs[iz]? = some fn)(pd : (fn.name == "runtime.NumGoroutine") = false)(p1 : fn.body.isNone = false)(hh : xL X iz gV ak l mz)(hlen : ∀ x, (mz x).length = pl.length)(ig : nJ n pl = true)(qI : mX n assign ms)(ob : nJ n (ms.map (·.1)) = true)(ba : ble n iG = true)(hz:β->bC)(bQ:List α->β->Prop)(mB:Exit->bC->Prop)(iP:β)(aO:bQ l iP)(c7:st.H=ak++fA)(dF:∀ {env:Nat->Loc} {B:Nat->Prop} {w:World} {H:cI},bG env B w fA H->∃H' Y,H.Perm (H'++Y)/\bG env B w (hz iP) H')(rP:∀id x rest y,bQ (x::rest) y->hd X false n (some id) body ⟨tH ms (vc pl (mz x) (gC (hH n) st.L)),hz y⟩ (λe s=>(e=.normal/\∃oy,bQ rest oy/\∃ea,hL X false n s ⟨ea,hz oy⟩)\/(e≠.normal/\Fa e=true/\∃aR,mB e aR/\∃ea,hL X false n s ⟨ea,aR⟩)))(oq:∀y,bQ [] y->Q .normal ⟨gC (hH n) st.L,hz y⟩)(pZ:∀e aR,mB e aR->Q e ⟨gC (hH n) st.L,aR⟩):hd X true n none (.rangeFunc g pl.toArray assign body) st Q:=TW aP ab gO pd p1 hh hlen ig ba hz bQ mB iP aO c7 dF (λid x rest y aG=>agC qI ob (rP id x rest y aG)) oq pZ
end
end Go.Proofs.YtijeenjclhajhaaGreatDoor
