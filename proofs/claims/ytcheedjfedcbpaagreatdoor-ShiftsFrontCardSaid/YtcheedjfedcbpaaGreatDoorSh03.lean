/- Part 3 of 6 of the proof. -/
import Derived.Test.YtcheedjfedcbpaaGreatDoorSh02
import Derived.Maps.RangeRun
set_option linter.unusedSimpArgs false
set_option linter.unusedVariables false
set_option maxRecDepth 100000
namespace Go.Proofs.YtcheedjfedcbpaaGreatDoor
open Go.RowKit
def ba.free:ba->Bool
 | .val _=>true
 | .str _=>true
 | .fF _ _ _=>true
 | .par _ _=>true
 | .bn _ _ _=>true
 | .fn _ cs=>qH cs
 | _=>false
def qV:List ba->Bool
 | []=>true
 | c :: r=>match c.free with
  | true=>qV r
  | false=>false
def bf.free:bf->Bool
 | .c x=>x.free
 | .agg cs=>qV cs
 | .arr _ _=>true
def ld:List bf->Bool
 | []=>true
 | c :: r=>match c.free with
  | true=>ld r
  | false=>false
def b0.free:b0->Bool
 | .a x=>x.free
 | .may _ x=>x.free
 | .da xs=>ld xs
def ct.free:ct->Bool
 | .cells _ cs=>qV cs
 | .row _ _ _ _=>true
 | .mp _ _ _ _=>true
 | .fk _ _ _=>true
 | .b5 _ _ _ _ _ none=>true
 | _=>false
theorem MZ{id:Nat}:∀ {cs:List e6},qH cs=true->s0 id cs=false
 | [],_=>rfl
 | .id _ :: _,h=>by cases h
 | .eS _ _ :: cs,h=>MZ (cs:=cs) h
theorem M0{js:List Nat}:∀ {cs:List e6},qH cs=true->oS js cs=false
 | [],_=>rfl
 | .id _ :: _,h=>by cases h
 | .eS _ _ :: cs,h=>M0 (cs:=cs) h
theorem M1{id:Nat} {g:aQ} {x:g.D}:∀ {cs:List e6},qH cs=true->rZ id g x cs=cs
 | [],_=>rfl
 | .id _ :: _,h=>by cases h
 | .eS _ _ :: cs,h=>by
  show e6.eS _ _ :: rZ id g x cs=_;rw[M1 (cs:=cs) h]
structure Fix(f:ba->ba):Prop where
 fix:∀ c,c.free=true->f c=c
theorem F5(id:Nat) (z:ba):Fix fun c=>c.sub id z:=⟨fun c h=>by
 cases c with
 | fn f cs=>simp only[ba.sub]; rw[MZ h]
 | _=>first | rfl | cases h⟩
theorem F6(js:List Nat):Fix fun c=>c.kill js:=⟨fun c h=>by
 cases c with
 | fn f cs=>simp only[ba.kill]; rw[M0 h]
 | _=>first | rfl | cases h⟩
theorem F7(id:Nat) (g:aQ) (x:g.D):Fix fun c=>c.eC id g x:=⟨fun c h=>by
 cases c with
 | fn f cs=>simp only[ba.eC]; rw[M1 h]
 | _=>first | rfl | cases h⟩
def tH(f:ba->ba):List ba->List ba
 | []=>[]
 | c :: r=>f c :: tH f r
theorem qW{f:ba->ba} (aA:Fix f):∀ {cs:List ba},qV cs=true->tH f cs=cs
 | [],_=>rfl
 | c :: r,h=>by
  unfold qV at h
  split at h
  ·rename_i e
   show f c :: tH f r=_;rw[aA.fix c e,qW aA h]
  ·cases h
theorem F8(id:Nat) (z:ba):∀ cs:List ba,qq id z cs=tH (fun c=>c.sub id z) cs
 | []=>rfl
 | c :: r=>by
  show c.sub id z :: qq id z r=_;rw[F8 id z r]; rfl
theorem F9(js:List Nat):∀ cs:List ba,pJ js cs=tH (fun c=>c.kill js) cs
 | []=>rfl
 | c :: r=>by
  show c.kill js :: pJ js r=_;rw[F9 js r]; rfl
theorem Ga(id:Nat) (g:aQ) (x:g.D):∀ cs:List ba,vF id g x cs=tH (fun c=>c.eC id g x) cs
 | []=>rfl
 | c :: r=>by
  show c.eC id g x :: vF id g x r=_;rw[Ga id g x r]; rfl
theorem Gb{id:Nat} {z:ba} {x:bf} (h:x.free=true):x.sub id z=x:=by
 cases x with
 | c x=>simp only[bf.sub]; rw[(F5 id z).fix x h]
 | agg cs=>simp only[bf.sub]; rw[F8,qW (F5 id z) h]
 | arr g l=>rfl
theorem Gc{js:List Nat} {x:bf} (h:x.free=true):x.kill js=x:=by
 cases x with
 | c x=>simp only[bf.kill]; rw[(F6 js).fix x h]
 | agg cs=>simp only[bf.kill]; rw[F9,qW (F6 js) h]
 | arr g l=>rfl
theorem Gd{id:Nat} {g:aQ} {y:g.D} {x:bf} (h:x.free=true):x.eC id g y=x:=by
 cases x with
 | c x=>simp only[bf.eC]; rw[(F7 id g y).fix x h]
 | agg cs=>simp only[bf.eC]; rw[Ga,qW (F7 id g y) h]
 | arr g l=>rfl
theorem M3{id:Nat} {z:ba}:∀ {xs:List bf},ld xs=true->xx id z xs=xs
 | [],_=>rfl
 | c :: r,h=>by
  unfold ld at h
  split at h
  ·rename_i e
   show c.sub id z :: xx id z r=_;rw[Gb e,M3 h]
  ·cases h
theorem M4{js:List Nat}:∀ {xs:List bf},ld xs=true->te js xs=xs
 | [],_=>rfl
 | c :: r,h=>by
  unfold ld at h
  split at h
  ·rename_i e
   show c.kill js :: te js r=_;rw[Gc e,M4 h]
  ·cases h
theorem M5{id:Nat} {g:aQ} {y:g.D}:∀ {xs:List bf},ld xs=true->x4 id g y xs=xs
 | [],_=>rfl
 | c :: r,h=>by
  unfold ld at h
  split at h
  ·rename_i e
   show c.eC id g y :: x4 id g y r=_;rw[Gd e,M5 h]
  ·cases h
theorem Y1{id:Nat} {z:ba} {v:b0} (h:v.free=true):v.sub id z=v:=by
 cases v with
 | a x=>simp only[b0.sub]; rw[Gb h]
 | may g x=>simp only[b0.sub]; rw[Gb h]
 | da xs=>simp only[b0.sub]; rw[M3 h]
theorem Y2{js:List Nat} {v:b0} (h:v.free=true):v.kill js=v:=by
 cases v with
 | a x=>simp only[b0.kill]; rw[Gc h]
 | may g x=>simp only[b0.kill]; rw[Gc h]
 | da xs=>simp only[b0.kill]; rw[M4 h]
theorem Y3{id:Nat} {g:aQ} {y:g.D} {v:b0} (h:v.free=true):v.eC id g y=v:=by
 cases v with
 | a x=>simp only[b0.eC]; rw[Gd h]
 | may g x=>simp only[b0.eC]; rw[Gd h]
 | da xs=>simp only[b0.eC]; rw[M5 h]
theorem Y4{id:Nat} {z:ba} {b:ct} (h:b.free=true):b.sub id z=b:=by
 cases b with
 | cells t cs=>simp only[ct.sub]; rw[F8,qW (F5 id z) h]
 | b5 T T' g l c q=>rcases q with _ | ⟨i,_ | d⟩<;>first | rfl | cases h
 | _=>first | rfl | cases h
theorem Y5{js:List Nat} {b:ct} (h:b.free=true):b.kill js=b:=by
 cases b with
 | cells t cs=>simp only[ct.kill]; rw[F9,qW (F6 js) h]
 | b5 T T' g l c q=>rcases q with _ | ⟨i,_ | d⟩<;>first | rfl | cases h
 | _=>first | rfl | cases h
theorem Y6{id:Nat} {g:aQ} {y:g.D} {b:ct} (h:b.free=true):b.eC id g y=b:=by
 cases b with
 | cells t cs=>simp only[ct.eC]; rw[Ga,qW (F7 id g y) h]
 | _=>first | rfl | cases h
def ey(q:Nat):List Nat->Bool
 | []=>false
 | k :: r=>match Nat.beq k q with
  | true=>true
  | false=>ey q r
theorem o9{q:Nat}:∀ {l r:List Nat},ey q (l++r)=false ↔ ey q l=false/\ey q r=false
 | [],r=>by simp[ey]
 | k :: l,r=>by
  show(match Nat.beq k q with | true=>true | false=>ey q (l++r))=false ↔ (match Nat.beq k q with | true=>true | false=>ey q l)=false/\_;cases Nat.beq k q with
  | true=>simp
  | false=>exact o9
theorem e4{q k:Nat} {r:List Nat} (h:ey q (k :: r)=false):q≠k/\ey q r=false:=by
 unfold ey at h
 split at h
 ·cases h
 ·rename_i e
  exact⟨(fun cm=>by rw[cm,Nat.beq_refl]at e; cases e),h⟩
def bR{α:Type} (dB:α->Bool) (V:List Nat) (L dL:List (Nat×α)):Prop:=∀ q v,ey q V=false->aU dL q=some v->∃ u,aU L q=some u/\(dB u=true->v=u)
theorem bR.refl{α:Type} {dB:α->Bool} {V:List Nat} (L:List (Nat×α)):bR dB V L L:=fun _ v _ h=>⟨v,h,fun _=>rfl⟩
theorem bR.trans{α:Type} {dB:α->Bool} {V V2:List Nat} {L yn BM:List (Nat×α)} (h:bR dB V L yn) (k:bR dB V2 yn BM):bR dB (V2++V) L BM:=fun q v ao ad=>by
 obtain⟨J,U⟩:=o9.1 ao;obtain⟨u,ah,au⟩:=k q v J ad;obtain⟨mf,aF,aY⟩:=h q u U ah;exact⟨mf,aF,fun aA=>by have:=aY aA; subst this; exact au aA⟩
theorem bR.more{α:Type} {dB:α->Bool} {V V2:List Nat} {L yn:List (Nat×α)} (h:bR dB V L yn) (aB:∀ q,ey q V2=false->ey q V=false):bR dB V2 L yn:=fun q v ao ad=>h q v (aB q ao) ad
theorem bR.cons{α:Type} {dB:α->Bool} {V:List Nat} {L dL:List (Nat×α)} {d:Nat} {v:α} (h:bR dB V L dL):bR dB (d :: V) L ((d,v) :: dL):=fun q u ao ad=>by
 obtain⟨J,U⟩:=e4 ao;rw[cl,if_neg J]at ad;exact h q u U ad
theorem bR.append{α:Type} {dB:α->Bool} {V:List Nat} {L dL:List (Nat×α)} (h:bR dB V L dL):∀ {U:List (Nat×α)} {ks:List Nat},U.map (·.1)=ks->bR dB (ks++V) L (U++dL)
 | [],_,rfl=>h
 | (k,v) :: r,_,rfl=>bR.cons (V:=r.map (·.1)++V) (bR.append h rfl)
theorem bR.map{α:Type} {dB:α->Bool} {V:List Nat} {L dL:List (Nat×α)} {f:α->α} (aA:∀ v,dB v=true->f v=v) (h:∀ q v,aU dL q=some v->∃ u,aU L q=some u/\v=f u):bR dB V L dL:=fun q v _ ad=>by
 obtain⟨u,J,U⟩:=h q v ad;exact⟨u,J,fun hu=>by rw[U,aA u hu]⟩
theorem bR.less{α:Type} {dB:α->Bool} {V:List Nat} {L dL:List (Nat×α)} (h:∀ q v,aU dL q=some v->aU L q=some v):bR dB V L dL:=fun q v _ ad=>⟨v,h q v ad,fun _=>rfl⟩
abbrev vV:=bR b0.free
abbrev jW:=bR ct.free
theorem iw(id:Nat) (z:ba) (L:cL) {V:List Nat}:vV V L (eJ id z L):=bR.map (f:=fun v=>v.sub id z) (fun _ h=>Y1 h) fun _ _ h=>l2 h
theorem Y7(js:List Nat) (L:cL) {V:List Nat}:vV V L (qD js L):=bR.map (f:=fun v=>v.kill js) (fun _ h=>Y2 h) fun _ _ h=>E9 h
theorem Y8(id:Nat) (g:aQ) (x:g.D) (L:cL) {V:List Nat}:vV V L (ti id g x L):=bR.map (f:=fun v=>v.eC id g x) (fun _ h=>Y3 h) fun _ _ h=>Fs h
theorem h4(id:Nat) (z:ba) {V:List Nat}:∀ H:bx,jW V H (dq id z H)
 | []=>bR.refl []
 | (k,b) :: r=>fun q v ao ad=>by
  unfold dq at ad
  split at ad
  ·rename_i e
   have ab:=Nat.eq_of_beq_eq_true e;obtain⟨u,J,U⟩:=h4 id z (V:=V) r q v ao ad;have cu:q≠k:=fun cm=>by
    subst cm;rw[ab]at ad;exact Ge ad
   exact⟨u,by rw[cl,if_neg cu]; exact J,U⟩
  ·rw[cl]at ad ⊢
   split at ad
   ·rename_i e
    cases ad;rw[if_pos e];exact⟨b,rfl,fun aA=>Y4 aA⟩
   ·rename_i e
    rw[if_neg e];exact h4 id z r q v ao ad
where Ge {id:Nat} {z:ba} {v:ct}:∀ {H:bx},aU (dq id z H) id=some v->False
 | [],h=>by cases h
 | (k,b) :: r,h=>by
  unfold dq at h
  split at h
  ·exact Ge h
  ·rename_i e
   rw[cl,if_neg (fun cm=>by rw[cm,Nat.beq_refl]at e; cases e)]at h;exact Ge h
theorem ix{id:Nat} {b:ct} {V:List Nat} (iQ:ey id V=true):∀ {H:bx},jW V H (ef id b H)
 | []=>bR.refl []
 | (k,b') :: r=>fun q v ao ad=>by
  have cu:q≠id:=fun e=>by rw[e,iQ]at ao; cases ao
  unfold ef at ad
  split at ad
  ·rename_i e
   have ab:=Nat.eq_of_beq_eq_true e;rw[cl,if_neg (by rw[ab]; exact cu)]at ad;exact⟨v,by rw[cl,if_neg (by rw[ab]; exact cu)]; exact ad,fun _=>rfl⟩
  ·rw[cl]at ad ⊢
   split at ad
   ·rename_i e
    rw[if_pos e];exact⟨b',rfl,fun _=>by cases ad; rfl⟩
   ·rename_i e
    rw[if_neg e];exact ix iQ q v ao ad
section
set_option linter.unusedSectionVars false
section
variable {B:Nat->Prop} {w:World} {T':TypeId} {g:aQ}
theorem bz.M6:bz B w (.an g) ([]:List g.D) [.slice none 0 0]:=⟨none,0,[],rfl,Nat.le_refl _,Nat.zero_le _,rfl,Reads.nil _ _ _,fun _ _ h=>absurd h (Nat.lt_irrefl 0)⟩
theorem dC.hole:∀ {l:List (Bool×List g.D)} {ys:List Value} {I:List fV} {i:Nat},dC B w T' g l ys I->i < l.length ->
    ∃ v eE,ys[i]?=some v/\dC B w T' g (l.set i (false,[])) (ys.set i (.slice none 0 0)) eE /\
      (((l.getD i (false,[])).1=true/\∃ A k xs,v=.slice A (l.getD i (false,[])).2.length k/\Flat (bz B w g) (l.getD i (false,[])).2 xs/\I.Perm (⟨A,k,T',g.size,(l.getD i (false,[])).2.length,xs⟩ :: eE)) \/
       ((l.getD i (false,[])).1=false/\I=eE/\bz B w (.an g) (l.getD i (false,[])).2 [v]))
  | [],_,_,_,_,h=>by simp at h
  | (true,li) :: l,_,_,0,⟨v,eU,e,A,k,xs,eE,aB,gM,aA,aV⟩,_=>by
    subst e;exact⟨v,eE,rfl,⟨_,eU,rfl,bz.M6,aV⟩,.inl ⟨rfl,A,k,xs,aB,aA,by rw[gM]; exact List.Perm.refl _⟩⟩
  | (false,li) :: l,_,I,0,⟨v,eU,e,aA,aV⟩,_=>by
    subst e;exact⟨v,I,rfl,⟨_,eU,rfl,bz.M6,aV⟩,.inr ⟨rfl,rfl,aA⟩⟩
  | (true,li) :: l,_,_,i+1,⟨v,eU,e,A,k,xs,Gf,aB,gM,aA,aV⟩,h=>by
    subst e;obtain⟨u,eE,J,U,ah⟩:=dC.hole aV (Nat.lt_of_succ_lt_succ h);refine⟨u,_ :: eE,J,⟨v,_,rfl,A,k,xs,eE,aB,rfl,aA,U⟩,ah.imp (fun⟨f,cY,ek,fZ,aC,aW,cB⟩=>⟨f,cY,ek,fZ,aC,aW,?_⟩) fun⟨f,aC,aW⟩=>⟨f,?_,aW⟩⟩
    · rw[gM]
      exact(List.Perm.cons _ cB).trans (List.Perm.swap _ _ _)
    · rw[gM,aC]
  | (false,li) :: l,_,_,i+1,⟨v,eU,e,aA,aV⟩,h=>by
    subst e;obtain⟨u,eE,J,U,ah⟩:=dC.hole aV (Nat.lt_of_succ_lt_succ h);exact⟨u,eE,J,⟨v,_,rfl,aA,U⟩,ah⟩
theorem dC.fill{bw:List g.D} {A:Option Addr} {k:Nat} {xs:List Value} (iC:Flat (bz B w g) bw xs):∀ {l:List (Bool×List g.D)} {ys:List Value} {I:List fV} {i:Nat},dC B w T' g (l.set i (false,[])) ys I->i < l.length ->
    ∃ eE,eE.Perm (⟨A,k,T',g.size,bw.length,xs⟩ :: I)/\dC B w T' g (l.set i (true,bw)) (ys.set i (.slice A bw.length k)) eE
  | [],_,_,_,_,h=>by simp at h
  | _ :: l,_,I,0,⟨v,eU,e,_,aV⟩,_=>by
    subst e;exact⟨_,List.Perm.refl _,_,eU,rfl,A,k,xs,I,rfl,rfl,iC,aV⟩
  | (true,li) :: l,_,_,i+1,⟨v,eU,e,Gg,Gh,xL,Gf,aB,gM,aA,aV⟩,h=>by
    subst e;obtain⟨eE,J,U⟩:=dC.fill iC (A:=A) (k:=k) aV (Nat.lt_of_succ_lt_succ h);refine⟨_ :: eE,?_,v,_,rfl,Gg,Gh,xL,eE,aB,rfl,aA,U⟩;rw[gM];exact(List.Perm.cons _ J).trans (List.Perm.swap _ _ _)
  | (false,li) :: l,_,_,i+1,⟨v,eU,e,aA,aV⟩,h=>by
    subst e;obtain⟨eE,J,U⟩:=dC.fill iC (A:=A) (k:=k) aV (Nat.lt_of_succ_lt_succ h);exact⟨eE,J,v,_,rfl,aA,U⟩
theorem dC.Gi{bw:List g.D} {u:Value} (iC:bz B w (.an g) bw [u]):∀ {l:List (Bool×List g.D)} {ys:List Value} {I:List fV} {i:Nat},dC B w T' g (l.set i (false,[])) ys I->i < l.length ->
    dC B w T' g (l.set i (false,bw)) (ys.set i u) I
  | [],_,_,_,_,h=>by simp at h
  | _ :: l,_,I,0,⟨v,eU,e,_,aV⟩,_=>by
    subst e;exact⟨_,eU,rfl,iC,aV⟩
  | (true,li) :: l,_,_,i+1,⟨v,eU,e,Gg,Gh,xL,Gf,aB,gM,aA,aV⟩,h=>by
    subst e;exact⟨v,_,rfl,Gg,Gh,xL,Gf,aB,gM,aA,dC.Gi iC aV (Nat.lt_of_succ_lt_succ h)⟩
  | (false,li) :: l,_,_,i+1,⟨v,eU,e,aA,aV⟩,h=>by
    subst e;exact⟨v,_,rfl,aA,dC.Gi iC aV (Nat.lt_of_succ_lt_succ h)⟩
theorem dC.map{l:List (List g.D)}:∀ {l:List (List g.D)} {ys:List Value},Flat (bz B w (.an g)) l ys->dC B w T' g (l.map fun x=>(false,x)) ys []
  | [],_,h=>⟨h,rfl⟩
  | x :: l,_,⟨v1,v2,e,J,U⟩=>by
    have ad:=bz.length J
    match v1,ad with
    | [v],_=>exact⟨v,v2,e,J,dC.map (l:=l) U⟩
theorem dC.M7:∀ k:Nat,∃ I,dC B w T' g (List.replicate k (true,[])) (List.replicate k (.slice none 0 0)) I/\∀ r∈I,r=⟨none,0,T',g.size,0,[]⟩
  | 0=>⟨[],⟨rfl,rfl⟩,fun _ h=>by cases h⟩
  | k+1=>by
    obtain⟨I,J,U⟩:=dC.M7 k;refine⟨_ :: I,⟨_,_,rfl,none,0,[],I,rfl,rfl,rfl,J⟩,fun r az=>?_⟩
    rcases List.mem_cons.1 az with rfl | az
    · rfl
    · exact U r az
end
theorem yo{id d:Nat} {z:ba} {b:ct} (cu:id≠d):∀ {l:bx},aU l id=some b->aU (dq d z l) id=some (b.sub d z)
  | [],h=>by cases h
  | (k,b') :: l,h=>by
    rw[cl]at h;unfold dq
    split at h
    · rename_i e
      subst e;cases h
      have:Nat.beq id d=false:=by
        cases ae:Nat.beq id d with
        | false=>rfl
        | true=>exact absurd (Nat.eq_of_beq_eq_true ae) cu
      rw[this,cl,if_pos rfl]
    · rename_i e
      split
      · exact yo cu h
      · rw[cl,if_neg e]
        exact yo cu h
section
variable {X:br} {R:Nat->Prop} {W:World} {aG:eX} {n:Nat} {ks:List Nat} {env:Nat->Loc} {B:Nat->Prop} {ai:World} {H:List bb} {st:aM} {a aS:Act} {w:World} {d:Nat} {o:Oper}
theorem List.M8 {α:Type} {l:List α} {i:Nat} {v:α} (h:l[i]?=some v):l.set i v=l:=by
  obtain⟨a8,rfl⟩:=List.getElem?_eq_some_iff.1 h;exact List.set_getElem_self a8
theorem bH.M9(h:bH X R W aG n ks env B ai H st a w) (av:Nat.blt d n=true) (l:Loc):∃ H2,H2.Sublist H/\bH X R W aG n ks (iE env d l) B ai H2 ⟨eJ d .dead st.L,dq d .dead st.H⟩ a w:=by
  obtain⟨H2,J,U⟩:=h.heap.del (z:=.dead) (h1 (env:=env) (id:=d) (l:=l)) (fun _ _=>trivial);refine⟨H2,J,h.size,h.defs,fun s u ak=>?_,U,h.aJ.ep (J.append_right _),h.sub,h.new,pH h.df (fun q aq=>by have J:=(h.df _ _ aq).1; have U:=du av; omega),h.base,h.dQ⟩;obtain⟨hz,hA,rfl⟩:=l2 ak;obtain⟨eF,ah,au⟩:=h.has s hz hA;exact⟨eF,ah,ei.sub (z:=.dead) (h1 (env:=env)) (fun _ _=>trivial) au⟩
theorem bF.same{B:Nat->Prop} {ai w:World} {H:List bb} (h:bF B ai H w) {c c':bb} (aa:c∈H) (er:c'∈H) {b:Nat} (ae:c.has b) (dm:c'.has b):c=c':=by
  have key:∀ {H:List bb},H.Pairwise bb.off->c∈H->c'∈H->c=c':=by
    intro H
    induction H with
    | nil=>intro _ h; cases h
    | cons x r bA=>
      intro aq J U;obtain⟨ah,au⟩:=List.pairwise_cons.1 aq
      rcases List.mem_cons.1 J with aC | aF
      · rcases List.mem_cons.1 U with aW | aY
        · rw[aC,aW]
        · subst aC; exact absurd dm (ah _ aY b ae)
      · rcases List.mem_cons.1 U with aW | aY
        · subst aW; exact absurd ae (ah _ aF b dm)
        · exact bA au aF aY
  exact key h.apart aa er
theorem ne_of_beq_false{a b:Nat} (h:Nat.beq a b=false):a≠b:=fun e=>by subst e; rw[Nat.beq_refl]at h; cases h
def tI:Option (Nat×Option Nat)->Nat->Bool
  | none,_=>true
  | some (j,_),i=>decide (j=i)
theorem dC.Y9{T':TypeId} {g:aQ} {l:List (Bool×List g.D)} {ys cT:List Value} {I:List fV} {h:Option (Nat×Option Nat)} {i:Nat} (aV:dC B w T' g (Le l h) ys I) (aB:xw env l.length ys cT h) (a6:tI h i=true) (hi:i < l.length) :
    ∃ zs eE,dC B w T' g (l.set i (false,[])) zs eE/\(∀ u,cT.set i u=zs.set i u)/\cT.length=l.length/\∃ eB,I.Perm eB/\eE.Sublist eB:=by
  match h,aV,aB,a6 with
  | none,aV,aB,_=>
    subst aB;obtain⟨v,eE,J,U,ah⟩:=dC.hole (show dC B w T' g l cT I from aV) hi;refine⟨_,eE,U,fun u=>by rw[List.set_set],dC.length (show dC B w T' g l cT I from aV),?_⟩
    rcases ah with⟨_,A,k,xs,_,_,aq⟩ | ⟨_,e,_⟩
    · exact⟨_,aq,List.sublist_cons_self _ _⟩
    · exact⟨eE,by rw[e],List.Sublist.refl _⟩
  | some (j,Lf),aV,⟨_,v,J,_⟩,a6=>
    have e:j=i:=of_decide_eq_true a6;subst e;have ad:=dC.length (show dC B w T' g (l.set j (false,[])) ys I from aV);rw[List.length_set]at ad;exact⟨ys,I,aV,fun u=>by rw[J,List.set_set],by rw[J,List.length_set,ad],I,List.Perm.refl _,List.Sublist.refl _⟩
theorem bH.Na(h:bH X R W aG n ks env B ai H st a w) {id:Nat} {b b':ct} (bO:aU st.H id=some b):∃ c jf jg,ej env B ai id b c/\H=jf++c :: jg/\∀ c' aS w',ej env B ai id b' c'->bF (fun k=>R k\/B k) ai (jf++c' :: (jg++ks.map c3)) w'->cW n (jK ks aG) (gl a) aS->bH X R W aG n ks env B ai (jf++c' :: jg) ⟨st.L,ef id b' st.H⟩ aS w':=by
  obtain⟨c,K,J,⟨jf,jg,aC,rfl⟩,ah⟩:=h.heap.put bO;refine⟨c,jf,jg,J,aC,fun c' aS w' ae ak aI=>⟨aI.size,aI.defs,fun s u hu=>?_,ah b' c' ae,by rw[List.append_assoc,List.cons_append]; exact ak,h.sub,h.new,h.df,h.base,h.dQ⟩⟩;obtain⟨eF,au,aF⟩:=h.has s u hu;exact⟨eF,aI.same au,aF⟩
theorem bF.Za{B:Nat->Prop} {ai w:World} {H:List bb} (h:bF B ai H w):bF B ai (.tree [] :: H) w:=
  ⟨h.below,h.base,fun c aa=>by
    rcases List.mem_cons.1 aa with rfl | aa
    · exact⟨(fun _ h=>by cases h),List.Pairwise.nil⟩
    · exact h.ok c aa,List.Pairwise.cons (fun c aa b ae=>by obtain⟨_,h,_⟩:=ae; cases h) h.apart⟩
theorem bF.Nb{B:Nat->Prop} {ai w:World} {X Y:List bb} {r:fV} (h:bF B ai (X++r.dk :: Y) w):bF B ai (X++.tree [r] :: Y) w:=
  ((((h.perm px).Za).perm (List.Perm.swap _ _ _)).Eg).perm px.symm
theorem bF.Nc{B:Nat->Prop} {ai w:World} {H:List bb} {r:fV}:∀ {I:List fV},bF B ai (.tree [r] :: H) w->(∀ s∈I,∃ e cA,s=⟨none,0,e,cA,0,[]⟩)->bF B ai (.tree (r :: I) :: H) w
  | [],h,_=>h
  | s :: I,h,gM=>by
    obtain⟨e,cA,rfl⟩:=gM _ List.mem_cons_self;have bA:=bF.Nc (I:=I) h fun s ak=>gM s (List.mem_cons_of_mem _ ak)
    have U:bF B ai (.tree (⟨none,0,e,cA,0,[]⟩ :: r :: I) :: H) w:=(bA.pD e cA).Eg;exact bF.xp (X:=[]) U ⟨_,List.Perm.swap _ _ _,List.Sublist.refl _⟩
theorem Nd(ar:X.tt.ok X.P) {t T T':TypeId} {bj:bh} {x:Operand} {id d2 i j:Nat} {g:aQ} {l:List (Bool×List g.D)} {cap:Option Nat} {g1:Bool} (ax:o.op=.load t x)
    (aV:X.tt.find t=some bj) (k9:jn bj.bk.desc=false) (aj:bm X st.L x=some (g1,.c (.dZ id 1 i 0))) (cR:g1=true) (bO:aU st.H id=some (.b5 T T' g l cap (some (j,some d2)))) (mO:decide (i=j)=true):gT X st o (.c (.an d2)):=by
  intro R W aG n ks env B ai H a bZ ag;have e:i=j:=of_decide_eq_true mO;subst e;obtain⟨vx,J,b,c,m,he,rfl⟩:=ag.aD aj cR;obtain⟨dk,K,⟨A,k,ys,cT,I,cI,rfl,jX,⟨hi,v,aB,av⟩,_⟩,aA⟩:=ag.heap.fE bO;rw[he]at cI;cases cI;obtain⟨b9,c',dO,k5,rfl⟩:=av d2 rfl;have pa:=dC.length (show dC B ai T' g (l.set i (false,[])) ys I from jX);rw[List.length_set]at pa;refine⟨.slice b9 dO c',⟨b9,c',dO,k5,rfl⟩,fun w dN=>?_⟩;have eW:ew w (fun k=>R k\/B k) T 1 (some ⟨b,0,none⟩) c l.length cT:=((dN (by rw[ax]; rfl)).ok _ aA.more.mem).1 _ List.mem_cons_self;have ir:w.cell? ⟨b,i * 1+0,none⟩=some (.slice b9 dO c'):=by
    rw[eW.cells rfl _ (by omega),aB]
    simp[List.getElem?_set,pa,hi]
  exact rJ ag.bL ax (bV.get ar aV).bk k9 J ir
theorem bH.storeT(ar:X.tt.ok X.P) (ag:bH X R W aG n ks env B ai H st a w) {t T T':TypeId} {bj:bh} {x y:Operand} {id i b dO k':Nat} {g:aQ} {l:List (Bool×List g.D)} {cap:Option Nat} {h:Option (Nat×Option Nat)} {cY:Option Addr} (ax:o.op=.store t x y) (a6:o.guard=none/\o.dst=none)
    (aV:X.tt.find t=some bj) (cQ:Nat.beq bj.bk.size 1=true) (aj:Go.Proofs.YtcheedjfedcbpaaGreatDoor.aD (gl a) x=some (.pointer (some ⟨b,i * 1+0,none⟩))) {c m:Nat} (he:env id=.row (some ⟨b,0,none⟩) c m) (aT:Go.Proofs.YtcheedjfedcbpaaGreatDoor.aD (gl a) y=some (.slice cY dO k'))
    (bO:aU st.H id=some (.b5 T T' g l cap h)) (cn:tI h i=true) (hi:i < l.length) {b':ct} {hb:List Oper} {KK:Act->World->Prop}
    (ae:(∀ q,cap=some q->c=q)->∀ zs I,dC B ai T' g (l.set i (false,[])) zs I->ej env B ai id b' (.tree (⟨some ⟨b,0,none⟩,c,T,1,l.length,zs.set i (.slice cY dO k')⟩ :: I)))
    (dt:∀ aS w' H',bH X R W aG n ks env B ai H' ⟨st.L,ef id b' st.H⟩ aS w'->KK aS w'):eR X.P hb.toArray o KK a w:=by
  obtain⟨dk,jf,jg,⟨A,k,ys,cT,I,cI,rfl,jX,kl,fc⟩,ds,kh⟩:=ag.Na (b':=b') bO;rw[he]at cI;cases cI;obtain⟨zs,eE,Zb,fX,pa,gF⟩:=dC.Y9 jX kl cn hi
  let fC:fV:=⟨some ⟨b,0,none⟩,c,T,1,l.length,cT⟩
  have dN:=ag.aJ;rw[ds,List.append_assoc,List.cons_append]at dN;have Zc:bF (fun k=>R k\/B k) ai (jf++.tree (fC :: eE) :: (jg++ks.map c3)) w:=by
    obtain⟨eB,aq,ak⟩:=gF;exact dN.xp ⟨fC :: eB,List.Perm.cons _ aq,ak.cons_cons _⟩
  have cr:Sym n (jK ks aG) (gl a) (fun k=>R k\/B k) ai (fC.dk :: (jf++.tree eE :: (jg++ks.map c3))) a w:=⟨ag.bL,Zc.AB⟩
  have mD:=(bV.get ar aV).bk;have e5:=Nat.eq_of_beq_eq_true cQ;refine A1 (v:=.slice cY dO k') cr ax a6 mD aj aT (by rw[e5]; rfl) (by intro u hu; simp[Value.cells]at hu; subst hu; rfl) (u5 (c:=fC.dk)) (by show i * 1+0+1<=l.length * 1; omega) fun aS w' Nf=>?_
  have e:cT.take (i * 1+0)++(Value.slice cY dO k').cells.toList++cT.drop (i * 1+0+(Value.slice cY dO k').cells.toList.length)=zs.set i (.slice cY dO k'):=by
    rw[<- fX,List.set_eq_take_append_cons_drop,if_pos (by omega)]
    simp[Value.cells]
  have l1:=Nf.aJ;rw[e]at l1;have Zd:=bF.KN (r:=⟨some ⟨b,0,none⟩,c,T,1,l.length,zs.set i (.slice cY dO k')⟩) l1;exact dt aS w' _ (kh _ aS w' (ae fc zs eE Zb) Zd Nf.st)
theorem Ng(ar:X.tt.ok X.P) {t T T':TypeId} {bj:bh} {x y:Operand} {id d i:Nat} {g:aQ} {l:List (Bool×List g.D)} {cap:Option Nat} {h:Option (Nat×Option Nat)} {g1 g2:Bool} (ax:o.op=.store t x y) (a6:o.guard=none/\o.dst=none)
    (aV:X.tt.find t=some bj) (cQ:Nat.beq bj.bk.size 1=true) (aj:bm X st.L x=some (g1,.c (.dZ id 1 i 0))) (cR:g1=true) (aT:bm X st.L y=some (g2,.c (.an d))) (dp:g2=true) (bO:aU st.H id=some (.b5 T T' g l cap h)) (cn:tI h i=true)
    (hi:decide (i < l.length)=true):fg X n o st ⟨st.L,ef id (.b5 T T' g l cap (some (i,some d))) st.H⟩:=by
  intro R W aG ks env B ai H a w ag KK hb dt;have a8:=of_decide_eq_true hi;obtain⟨vx,J,b,c,m,he,rfl⟩:=ag.aD aj cR;obtain⟨vy,fp,cY,cF,m2,k5,rfl⟩:=ag.aD aT dp;have hm:m=l.length:=by
    obtain⟨dk,K,⟨A,k,ys,cT,I,cI,_⟩,_⟩:=ag.heap.fE bO;rw[he]at cI;cases cI
    rfl
  subst hm;exact ag.storeT (b':=.b5 T T' g l cap (some (i,some d))) ar ax a6 aV cQ J he fp bO cn a8 (fun fc zs I bG=>⟨_,c,zs,_,I,he,rfl,bG,⟨a8,_,rfl,fun fG tJ=>by cases tJ; exact⟨cY,cF,m2,k5,rfl⟩⟩,fc⟩) fun aS w' H' cf=>dt aS w' env H' cf
theorem Ze(ar:X.tt.ok X.P) {t T T':TypeId} {bj:bh} {x y:Operand} {id i:Nat} {g:aQ} {l:List (Bool×List g.D)} {bw:List g.D} {cap yl:Option Nat} {h:Option (Nat×Option Nat)} {g1 g2:Bool} (ax:o.op=.store t x y) (a6:o.guard=none/\o.dst=none)
    (aV:X.tt.find t=some bj) (cQ:Nat.beq bj.bk.size 1=true) (aj:bm X st.L x=some (g1,.c (.dZ id 1 i 0))) (cR:g1=true) (aT:bm X st.L y=some (g2,.c (.bn g bw yl))) (dp:g2=true) (bO:aU st.H id=some (.b5 T T' g l cap h)) (cn:tI h i=true)
    (hi:decide (i < l.length)=true):fg X n o st ⟨st.L,ef id (.b5 T T' g (l.set i (false,bw)) cap none) st.H⟩:=by
  intro R W aG ks env B ai H a w ag KK hb dt;have a8:=of_decide_eq_true hi;obtain⟨vx,J,b,c,m,he,rfl⟩:=ag.aD aj cR;obtain⟨vy,fp,cY,cF,fZ,rfl,cV,dU,gb,hL,mH⟩:=ag.aD aT dp;have hm:m=l.length:=by
    obtain⟨dk,K,⟨A,k,ys,cT,I,cI,_⟩,_⟩:=ag.heap.fE bO;rw[he]at cI;cases cI
    rfl
  subst hm;exact ag.storeT (b':=.b5 T T' g (l.set i (false,bw)) cap none) ar ax a6 aV cQ J he fp bO cn a8 (fun fc zs I bG=>⟨_,c,_,_,I,by rw[List.length_set]; exact he,by rw[List.length_set],dC.Gi (u:=.slice cY bw.length cF) ⟨cY,cF,fZ,rfl,cV,dU,hL,mH⟩ bG a8,rfl,fc⟩) fun aS w' H' cf=>dt aS w' env H' cf
theorem Zf{T T':TypeId} {id i:Nat} {g:aQ} {l:List (Bool×List g.D)} {cap:Option Nat} (av:Nat.blt d n=true) (bO:aU st.H id=some (.b5 T T' g l cap none)) (cu:Nat.beq d id=false)
    (hi:decide (i < l.length)=true) (cv:(l.getD i (false,[])).1=true)
    : dh X n st ⟨eJ d .dead st.L,(d,.row T' g (l.getD i (false,[])).2 none) :: ef id (.b5 T T' g l cap (some (i,some d))) (dq d .dead st.H)⟩:=fun R W aG M a w ⟨ks,env,B,ai,H,bJ,ag⟩=>by
  have a8:=of_decide_eq_true hi;have qX:id≠d:=fun e=>ne_of_beq_false cu e.symm
  obtain⟨c0,BN,⟨A,k,ys,cT,I,he,rfl,jX,kl,fc⟩,mN⟩:=ag.heap.fE bO;have qY:cT=ys:=kl;subst qY;obtain⟨b,rfl⟩:=ew.at ((ag.aJ.ok _ mN.more.mem).1 _ List.mem_cons_self) (by show 0 < l.length; omega);obtain⟨v,eE,aB,yp,qL⟩:=dC.hole (show dC B ai T' g l cT I from jX) a8
  rcases qL with⟨_,cY,ek,fZ,rfl,iC,oU⟩ | ⟨yq,_⟩
  · obtain⟨H2,gF,fJ⟩:=ag.M9 av (.row cY ek (l.getD i (false,[])).2.length)
    obtain⟨fs,Zg,ho,⟨jf,jg,sd,rfl⟩,kh⟩:=fJ.heap.put (yo (z:=.dead) qX bO);subst sd;obtain⟨Gj,jN,tK,nF,tL,lE,rfl,_⟩:=ho;rw[h1 id qX,he]at lE;cases lE;have k4:=ag.aJ.same (c:=.tree (⟨some ⟨b,0,none⟩,k,T,1,l.length,nF⟩ :: tL)) (List.mem_append_left _ (gF.subset (by simp))) mN.more.mem (b:=b) ⟨_,List.mem_cons_self,rfl⟩ ⟨_,List.mem_cons_self,rfl⟩;simp only[bb.tree.injEq,List.cons.injEq,fV.mk.injEq,true_and,and_true]at k4;obtain⟨rfl,rfl⟩:=k4
    let p:fV:=⟨cY,ek,T',g.size,(l.getD i (false,[])).2.length,fZ⟩
    let fC:fV:=⟨some ⟨b,0,none⟩,k,T,1,l.length,nF⟩
    have dN:=fJ.aJ;rw[List.append_assoc,List.cons_append]at dN;have h8:bF (fun k=>R k\/B k) ai (jf++.tree (p :: fC :: eE) :: (jg++ks.map c3)) w:=dN.xp ⟨p :: fC :: eE,(List.Perm.cons _ oU).trans (List.Perm.swap _ _ _),List.Sublist.refl _⟩;have l1:=h8.AB;refine⟨ks,_,B,ai,p.dk :: (jf++.tree (fC :: eE) :: jg),bJ,fJ.size,fJ.defs,fJ.has,⟨_,_,rfl,⟨cY,ek,fZ,eG,rfl,iC,fun _ h=>by cases h⟩,kh _ _ ⟨_,k,nF.set i (.slice none 0 0),nF,eE,by rw[h1 id qX]; exact he,rfl,yp,⟨a8,.slice cY (l.getD i (false,[])).2.length ek,?_,fun fG tJ=>by cases tJ; exact⟨cY,ek,_,eG,rfl⟩⟩,fc⟩⟩,by rw[List.cons_append,List.append_assoc,List.cons_append]; exact l1,fJ.sub,fJ.new,fJ.df,fJ.base,fJ.dQ⟩;rw[List.set_set];exact(List.M8 aB).symm
  · rw[yq]at cv; cases cv
theorem Zh{T T':TypeId} {id i d:Nat} {g:aQ} {l:List (Bool×List g.D)} {bw:List g.D} {cap yl:Option Nat} (bO:aU st.H id=some (.b5 T T' g l cap (some (i,some d)))) (BL:aU st.H d=some (.row T' g bw yl)) (cu:Nat.beq d id=false) :
    dh X n st ⟨eJ d .dead st.L,ef id (.b5 T T' g (l.set i (true,bw)) cap none) (dq d .dead st.H)⟩:=fun R W aG M a w ⟨ks,env,B,ai,H,bJ,h⟩=>by
  have qX:id≠d:=fun e=>ne_of_beq_false cu e.symm
  obtain⟨c0,BN,⟨A,k,ys,cT,I,he,rfl,jX,⟨a8,v,aB,la⟩,fc⟩,mN⟩:=h.heap.fE bO;obtain⟨fs,Y,Z,⟨cY,ek,fZ,k5,rfl,iC,_⟩,ds,pC⟩:=h.heap.take BL;obtain⟨b9,c',dO,vt,rfl⟩:=la d rfl;rw[k5]at vt;cases vt;obtain⟨b,rfl⟩:=ew.at ((h.aJ.ok _ mN.more.mem).1 _ List.mem_cons_self) (by show 0 < l.length; omega);obtain⟨H2,gF,Zi,_⟩:=pC env .dead (fun _ _=>rfl) (fun _ _=>trivial);have Nh:=yo (z:=.dead) qX bO;rw[show(ct.b5 T T' g l cap (some (i,some d))).sub d .dead=.b5 T T' g l cap (some (i,none)) by simp only[ct.sub,Nat.beq_refl]]at Nh;obtain⟨se,aiO,vD,⟨jf,jg,sd,rfl⟩,kh⟩:=Zi.put Nh;subst sd;obtain⟨YJ,lK,aiP,Gk,yr,Ni,rfl,aiQ,_⟩:=vD;rw[he]at Ni;cases Ni;have hs:bb.tree (⟨some ⟨b,0,none⟩,k,T,1,l.length,Gk⟩ :: yr)∈H:=by
    rw[ds]
    have:=gF.subset (a:=bb.tree (⟨some ⟨b,0,none⟩,k,T,1,l.length,Gk⟩ :: yr)) (by simp)
    simp only[List.mem_append,List.mem_cons]at this ⊢;exact this.imp (fun h=>h) .inr
  have k4:=h.aJ.same (c:=.tree (⟨some ⟨b,0,none⟩,k,T,1,l.length,Gk⟩ :: yr)) (List.mem_append_left _ hs) mN.more.mem (b:=b) ⟨_,List.mem_cons_self,rfl⟩ ⟨_,List.mem_cons_self,rfl⟩;simp only[bb.tree.injEq,List.cons.injEq,fV.mk.injEq,true_and,and_true]at k4;obtain⟨rfl,rfl⟩:=k4;obtain⟨eE,oU,yp⟩:=dC.fill iC (A:=cY) (k:=ek) (show dC B ai T' g (l.set i (false,[])) ys yr from jX) a8
  let p:fV:=⟨cY,ek,T',g.size,bw.length,fZ⟩
  let fC:fV:=⟨some ⟨b,0,none⟩,k,T,1,l.length,ys.set i (.slice cY bw.length ek)⟩
  have dN:=h.aJ;rw[ds]at dN;have e5:bF (fun k=>R k\/B k) ai (p.dk :: (jf++.tree (fC :: yr) :: (jg++ks.map c3))) w:=by
    have aq:(Y++p.dk :: Z++ks.map c3).Perm (p.dk :: (Y++Z++ks.map c3)):=by
      simp only[List.append_assoc,List.cons_append];exact List.perm_middle
    have:=(dN.perm aq).ep (((gF.append_right (ks.map c3))).cons_cons _)
    rw[List.append_assoc,List.cons_append,aB]at this;exact this
  have h8:bF (fun k=>R k\/B k) ai (jf++.tree (fC :: eE) :: (jg++ks.map c3)) w:=e5.KN.xp ⟨_,(List.Perm.swap _ _ _).trans (List.Perm.cons _ oU.symm),List.Sublist.refl _⟩;refine⟨ks,env,B,ai,jf++.tree (fC :: eE) :: jg,bJ,h.size,h.defs,fun s u hu=>?_,kh _ _ ⟨_,k,_,_,eE,by rw[List.length_set]; exact he,by rw[List.length_set],yp,rfl,fc⟩,by rw[List.append_assoc,List.cons_append]; exact h8,h.sub,h.new,h.df,h.base,h.dQ⟩;obtain⟨hz,hA,rfl⟩:=l2 hu;obtain⟨eF,ah,au⟩:=h.has s hz hA;exact⟨eF,ah,ei.sub (z:=.dead) (fun _ _=>rfl) (fun _ _=>trivial) au⟩
theorem Zj{T:TypeId} (T':TypeId) {id:Nat} {g:aQ} {l:List (List g.D)} {cap:Option Nat} (bO:aU st.H id=some (.row T (.an g) l cap)) :
    dh X n st ⟨st.L,ef id (.b5 T T' g (l.map fun x=>(false,x)) cap none) st.H⟩:=fun R W aG M a w ⟨ks,env,B,ai,H,bJ,h⟩=>by
  obtain⟨c0,jf,jg,⟨A,k,xs,he,rfl,aA,fc⟩,ds,kh⟩:=h.Na (b':=.b5 T T' g (l.map fun x=>(false,x)) cap none) bO;have dN:=h.aJ;rw[ds,List.append_assoc,List.cons_append]at dN;have ak:=bF.Nb (r:=⟨A,k,T,1,l.length,xs⟩) dN;exact⟨ks,env,B,ai,_,bJ,kh (.tree [⟨A,k,T,1,l.length,xs⟩]) a w ⟨A,k,xs,xs,[],by rw[List.length_map]; exact he,by rw[List.length_map],dC.map (l:=l) aA,rfl,fc⟩ ak h.bL⟩
theorem ew.reads{w:World} {B:Nat->Prop} {e:TypeId} {size c n:Nat} {A:Option Addr} {xs:List Value} (a6:ew w B e size A c n xs):Reads w A n size xs:=by
  refine⟨a6.1,fun a7=>?_⟩;obtain⟨g,J⟩:=a6.at a7;refine⟨g,0,J,fun j u hu=>?_⟩;rw[Nat.zero_add,a6.cells J j (by have:=(List.getElem?_eq_some_iff.1 hu).1; rw[a6.1]at this; exact this)];exact hu
theorem dC.flat{B B':Nat->Prop} {w:World} {T':TypeId} {g:aQ}:∀ {l:List (Bool×List g.D)} {ys:List Value} {I:List fV},dC B' w T' g l ys I->(∀ r∈I,r.ok B w/\∀ b,r.has b->B' b)->Flat (bz B' w (.an g)) (l.map (·.2)) ys
  | [],_,_,⟨e,_⟩,_=>e
  | (true,li) :: l,_,_,⟨v,eU,e,A,k,xs,eE,aB,gM,aA,aV⟩,fP=>by
    subst gM;obtain⟨J,U⟩:=fP _ List.mem_cons_self;have a6:ew w B T' g.size A k li.length xs:=J;exact⟨[v],eU,e,⟨A,k,xs,by rw[aB],a6.le.1,a6.le.2,aA,a6.reads,fun b p _ e=>U b (by show A.map _=_; rw[e]; rfl)⟩,dC.flat aV fun r az=>fP r (List.mem_cons_of_mem _ az)⟩
  | (false,li) :: l,_,_,⟨v,eU,e,aA,aV⟩,fP=>⟨[v],eU,e,aA,dC.flat aV fP⟩
theorem Zk{T T':TypeId} {id:Nat} {g:aQ} {l:List (Bool×List g.D)} {cap:Option Nat} (bO:aU st.H id=some (.b5 T T' g l cap none)) :
    dh X n st ⟨eJ id (.bn (.an g) (l.map (·.2)) cap) st.L,dq id (.bn (.an g) (l.map (·.2)) cap) st.H⟩:=fun R W aG M a w ⟨ks,env,B,ai,H,bJ,h⟩=>by
  obtain⟨c0,BN,kW,mN⟩:=h.heap.fE bO;have qm:=(mN.more (H2:=ks.map c3)).mem;have c8:ft B ai (fun q=>B q\/c0.has q) w:=⟨fun q ao=>.inl ao,fun q ao=>h.aJ.below.block q (.inr ao)⟩
  obtain⟨c,Y,Z,ae,U,ah⟩:=(h.heap.up c8).take bO;have hs:c∈H++ks.map c3:=by rw[U]; simp
  have A2:c=c0:=by
    obtain⟨A,k,ys,cT,I,he,aC,jX,kl,_⟩:=kW;obtain⟨Gj,jN,tK,nF,tL,lE,aW,Gl,Gm,_⟩:=ae;rw[he]at lE;cases lE
    match ag:A with
    | some p=>
      subst aC;subst aW;exact h.aJ.same hs qm (b:=p.block) ⟨_,List.mem_cons_self,rfl⟩ ⟨_,List.mem_cons_self,rfl⟩
    | none=>
      have eW:ew w (fun k=>R k\/B k) T 1 none k l.length cT:=by
        subst aC;exact(h.aJ.ok _ qm).1 _ List.mem_cons_self
      have ad:l.length=0:=by
        by_cases ad:l.length=0
        · exact ad
        · obtain⟨b,ae⟩:=eW.at (by omega)
          cases ae
      have gG:l=[]:=List.length_eq_zero_iff.1 ad;subst gG;have ay:cT=ys:=kl;have a2:nF=tK:=Gm;obtain⟨a3,a4⟩:=(show dC B ai T' g [] ys I from jX)
      obtain⟨a5,b6⟩:=(show dC _ w T' g [] tK tL from Gl)
      subst ay a2 a3 a4 a5 b6;rw[aC,aW]
  subst A2;obtain⟨A,k,ys,cT,I,he,rfl,jX,kl,fc⟩:=ae;have qY:cT=ys:=kl;subst qY;have sf:=h.aJ.ok _ hs;have eW:ew w (fun k=>R k\/B k) T 1 A k l.length cT:=sf.1 _ List.mem_cons_self;have fN:∀ q,bb.has (.tree (⟨A,k,T,1,l.length,cT⟩ :: I)) q->¬ (R q\/B q)/\q < w.heap.size:=fun q ao=>sf.lt ao
  have cv:=dC.flat (B:=fun k=>R k\/B k) (show dC _ w T' g l cT I from jX) fun r az=>⟨sf.1 r (List.mem_cons_of_mem _ az),fun b ae=>.inr ⟨r,List.mem_cons_of_mem _ az,ae⟩⟩
  have rO:∀ v,dv env (fun q=>B q\/bb.has (.tree (⟨A,k,T,1,l.length,cT⟩ :: I)) q) w (.an id) v->dv env (fun q=>B q\/bb.has (.tree (⟨A,k,T,1,l.length,cT⟩ :: I)) q) w (.bn (.an g) (l.map (·.2)) cap) v:=by
    rintro v ⟨b9,c',m,cI,rfl⟩;rw[he]at cI;cases cI;exact⟨A,k,cT,by rw[List.length_map],by rw[List.length_map]; exact eW.le.1,eW.le.2,fc,cv,by rw[List.length_map]; exact⟨eW.reads,fun b p _ e=>.inr ⟨_,List.mem_cons_self,by show A.map _=_; rw[e]; rfl⟩⟩⟩
  obtain⟨H2,au,aF,_⟩:=ah env (.bn (.an g) (l.map (·.2)) cap) (fun _ _=>rfl) rO;have jO:=h.aJ.apart;rw[U,List.append_assoc,List.cons_append]at jO;refine⟨ks,env,_,w,H2,bJ,h.size,h.defs,fun s u hu=>?_,aF,?_,fun q ao=>.inl (h.sub q ao),fun q ao=>?_,h.df,h.base.trans ⟨h.aJ.below.os,h.aJ.below.tape,h.aJ.below.output,h.aJ.below.size,fun q ao=>h.aJ.below.block q (.inl ao)⟩,fun i x aj=>(h.dQ i x aj).up c8⟩
  · obtain⟨hz,hA,rfl⟩:=l2 hu
    obtain⟨eF,aY,bK⟩:=h.has s hz hA;exact⟨eF,aY,ei.sub (fun _ _=>rfl) rO (bK.up c8)⟩
  · have ak:bF (fun k=>R k\/B k) ai (H2++ks.map c3) w:=by
      have aY:=h.aJ;rw[U]at aY;have aq:(Y++bb.tree (⟨A,k,T,1,l.length,cT⟩ :: I) :: Z++ks.map c3).Perm (bb.tree (⟨A,k,T,1,l.length,cT⟩ :: I) :: (Y++Z++ks.map c3)):=by
        simp only[List.append_assoc,List.cons_append];exact List.perm_middle
      exact(aY.perm aq).ep (((au.append_right _)).cons _)
    refine⟨c6.refl _ _,fun q ao=>?_,fun c aa=>(ak.ok c aa).base fun b ae bT=>?_,ak.apart⟩
    · rcases ao with ao | ao | ao
      · exact h.aJ.base q (.inl ao)
      · exact h.aJ.base q (.inr ao)
      · exact(fN q ao).2
    · rcases bT with bT | bT | bT
      · exact((ak.ok c aa).lt ae).1 (.inl bT)
      · exact((ak.ok c aa).lt ae).1 (.inr bT)
      · have h9:c∈Y++(Z++ks.map c3):=by
          rcases List.mem_append.1 aa with aa | aa
          · have:=au.subset aa
            rcases List.mem_append.1 this with bK | bK
            · exact List.mem_append_left _ bK
            · exact List.mem_append_right _ (List.mem_append_left _ bK)
          · exact List.mem_append_right _ (List.mem_append_right _ aa)
        rw[List.pairwise_append,List.pairwise_cons]at jO;obtain⟨_,⟨c7,_⟩,hN⟩:=jO
        rcases List.mem_append.1 h9 with bK | bK
        · exact hN c bK _ List.mem_cons_self b ae bT
        · exact c7 c bK b bT ae
  · rcases ao with ao | ao
    · exact(h.new q ao).imp_right fun aO=>⟨aO.1,aO.2.dP (h.aJ.below.block q (.inr ao))⟩
    · exact .inr ⟨fun dT=>(fN q ao).1 (.inl dT),sf.cells rfl ao⟩
theorem Zl{T T':TypeId} {id:Nat} {g:aQ} {l:List (Bool×List g.D)} {cap:Option Nat} (bO:aU st.H id=some (.b5 T T' g l cap none)) :
    dh X n st ⟨st.L,ef id (.row T (.an g) (l.map (·.2)) cap) st.H⟩:=fun R W aG M a w ⟨ks,env,B,ai,H,bJ,h⟩=>by
  obtain⟨c0,BN,kW,mN⟩:=h.heap.fE bO;have qm:=(mN.more (H2:=ks.map c3)).mem;obtain⟨A,k,ys,cT,I,he,rfl,jX,kl,fc⟩:=kW;have qY:cT=ys:=kl;subst qY
  let fC:fV:=⟨A,k,T,1,l.length,cT⟩
  have c8:ft B ai (fun q=>B q\/bb.has (.tree I) q) w:=⟨fun q ao=>.inl ao,fun q ao=>h.aJ.below.block q (.inr ao)⟩
  obtain⟨c,K,ae,⟨jf,jg,ds,rfl⟩,kh⟩:=(h.heap.up c8).put bO;have hs:c∈H++ks.map c3:=by rw[ds]; simp
  have A2:c=.tree (⟨A,k,T,1,l.length,cT⟩ :: I):=by
    obtain⟨Gj,jN,tK,nF,tL,lE,aW,Gl,Gm,_⟩:=ae;rw[he]at lE;cases lE
    match ag:A with
    | some p=>
      subst aW;exact h.aJ.same hs qm (b:=p.block) ⟨_,List.mem_cons_self,rfl⟩ ⟨_,List.mem_cons_self,rfl⟩
    | none=>
      have eW:ew w (fun k=>R k\/B k) T 1 none k l.length cT:=(h.aJ.ok _ qm).1 _ List.mem_cons_self;have ad:l.length=0:=by
        by_cases ad:l.length=0
        · exact ad
        · obtain⟨b,ae⟩:=eW.at (by omega)
          cases ae
      have gG:l=[]:=List.length_eq_zero_iff.1 ad;subst gG;have a2:nF=tK:=Gm;obtain⟨a3,a4⟩:=(show dC B ai T' g [] cT I from jX)
      obtain⟨a5,b6⟩:=(show dC _ w T' g [] tK tL from Gl)
      subst a2 a3 a4 a5 b6;rw[aW]
  subst A2;have sf:=h.aJ.ok _ hs;have fN:∀ q,bb.has (.tree I) q->¬ (R q\/B q)/\q < w.heap.size:=fun q ⟨r,az,ao⟩=>sf.lt ⟨r,List.mem_cons_of_mem _ az,ao⟩
  have cv:=dC.flat (B:=fun k=>R k\/B k) (B':=fun q=>B q\/bb.has (.tree I) q) (w:=w) ((dC.up c8 (show dC B ai T' g l cT I from jX))) fun r az=>⟨sf.1 r (List.mem_cons_of_mem _ az),fun b ae=>.inr ⟨r,az,ae⟩⟩
  have dN:=h.aJ;rw[ds,List.append_assoc,List.cons_append]at dN;have e5:bF (fun k=>R k\/B k) ai (.tree I :: (jf++fC.dk :: (jg++ks.map c3))) w:=by
    refine(dN.AB (r:=fC)).perm ?_;refine(List.Perm.cons _ px).trans ((List.Perm.swap _ _ _).trans (List.Perm.cons _ px.symm))
  have cn:=kh (.row T (.an g) (l.map (·.2)) cap) fC.dk ⟨A,k,cT,by rw[List.length_map]; exact he,by rw[List.length_map]; rfl,cv,fc⟩;refine⟨ks,env,_,w,jf++fC.dk :: jg,bJ,h.size,h.defs,fun s u hu=>?_,cn,?_,fun q ao=>.inl (h.sub q ao),fun q ao=>?_,h.df,h.base.trans ⟨h.aJ.below.os,h.aJ.below.tape,h.aJ.below.output,h.aJ.below.size,fun q ao=>h.aJ.below.block q (.inl ao)⟩,fun i x aj=>(h.dQ i x aj).up c8⟩
  · obtain⟨eF,aY,bK⟩:=h.has s u hu
    exact⟨eF,aY,bK.up c8⟩
  · rw[List.append_assoc,List.cons_append]
    refine⟨c6.refl _ _,fun q ao=>?_,fun c aa=>(e5.ok c (List.mem_cons_of_mem _ aa)).base fun b ae bT=>?_,(List.pairwise_cons.1 e5.apart).2⟩
    · rcases ao with ao | ao | ao
      · exact h.aJ.base q (.inl ao)
      · exact h.aJ.base q (.inr ao)
      · exact(fN q ao).2
    · rcases bT with bT | bT | bT
      · exact((e5.ok c (List.mem_cons_of_mem _ aa)).lt ae).1 (.inl bT)
      · exact((e5.ok c (List.mem_cons_of_mem _ aa)).lt ae).1 (.inr bT)
      · exact(List.pairwise_cons.1 e5.apart).1 c aa b bT ae
  · rcases ao with ao | ao
    · exact(h.new q ao).imp_right fun aO=>⟨aO.1,aO.2.dP (h.aJ.below.block q (.inr ao))⟩
    · exact .inr ⟨fun dT=>(fN q ao).1 (.inl dT),by
        obtain⟨r,az,ae⟩:=ao;exact sf.cells rfl ⟨r,List.mem_cons_of_mem _ az,ae⟩⟩
end
inductive vW where
  | close (id d:Nat)
  | Nj (id:Nat) (T':TypeId)
  | di (id:Nat)
  | eS (id:Nat)
  | op (id s d:Nat)
  | Gn (id s d:Nat) (k:IntKind) (c:Int)
  | cU (i j:Nat)
def vW.vX:vW->List Nat
  | .close id d=>[id,d]
  | .Nj id _=>[id]
  | .di _=>[]
  | .eS id=>[id]
  | .op id _ d=>[id,d]
  | .Gn id _ d _ _=>[id,d]
  | .cU i j=>[i,j]
def vY(n:Nat) (st:aM) (id d i:Nat):Option (Bool×aM):=match Nat.blt d n,aU st.H id,Nat.beq d id with
  | true,some (.b5 T T' g l cap none),false=>some (decide (i < l.length)&&(l.getD i (false,[])).1,⟨eJ d .dead st.L,(d,.row T' g (l.getD i (false,[])).2 none) :: ef id (.b5 T T' g l cap (some (i,some d))) (dq d .dead st.H)⟩)
  | _,_,_=>none
def yt(n:Nat) (st:aM):vW->Option (Bool×aM)
  | .close id d=>match aU st.H id,aU st.H d,Nat.beq d id with
    | some (.b5 T T' g l cap (some (i,some fG))),some (.row yk g2 bw _),false=>match Nat.beq fG d,Nat.beq yk T',decEq g2 g with
      | true,true,isTrue h=>some (true,⟨eJ d .dead st.L,ef id (.b5 T T' g (l.set i (true,ob h bw)) cap none) (dq d .dead st.H)⟩)
      | _,_,_=>none
    | _,_,_=>none
  | .Nj id T'=>match aU st.H id with
    | some (.row T (.an g) l cap)=>some (true,⟨st.L,ef id (.b5 T T' g (l.map fun x=>(false,x)) cap none) st.H⟩)
    | _=>none
  | .di id=>match aU st.H id with
    | some (.b5 _ _ g l cap none)=>some (true,⟨eJ id (.bn (.an g) (l.map (·.2)) cap) st.L,dq id (.bn (.an g) (l.map (·.2)) cap) st.H⟩)
    | _=>none
  | .eS id=>match aU st.H id with
    | some (.b5 T _ g l cap none)=>some (true,⟨st.L,ef id (.row T (.an g) (l.map (·.2)) cap) st.H⟩)
    | _=>none
  | .op id s d=>match aU st.L s with
    | some (.a (.c (.val (.int _ z))))=>vY n st id d z.toNat
    | _=>none
  | .Gn id s d k c=>match aU st.L s with
    | some (.a (.c (.val (.int _ z))))=>vY n st id d (k.wrap (z - c)).toNat
    | _=>none
  | .cU i j=>match Nat.blt j n with
    | true=>some (true,⟨fu (jc i j) st.L,nA (jc i j) st.H⟩)
    | false=>none
section
variable {X:br} {n:Nat} {st st':aM} {d:Nat} {o:Oper}
theorem Nk{id i:Nat} {c:Bool} (h:vY n st id d i=some (c,st')) (aa:c=true):dh X n st st':=by
  unfold vY at h
  split at h
  · rename_i J U ah
    cases h;simp only[Bool.and_eq_true]at aa;exact Zf J U ah aa.1 aa.2
  · cases h
theorem Zm{i j:Nat} (aR:Nat.blt j n=true):dh X n st ⟨fu (jc i j) st.L,nA (jc i j) st.H⟩:=fun _ _ _ _ _ _ ⟨ks,env,B,ai,H,bJ,ag⟩=>by
  obtain⟨H',J,U⟩:=bu.cZ (Bn (i:=i) (j:=j)) ag.heap;refine⟨ks,iE env j (env i),B,ai,H',bJ,ag.size,ag.defs,fun s sv ak=>?_,U,ag.aJ.ep (J.append_right _),ag.sub,ag.new,pH ag.df (fun q aq=>by have J:=(ag.df _ _ aq).1; have U:=du aR; omega),ag.base,ag.dQ⟩;obtain⟨u,ah,rfl⟩:=tl ak;obtain⟨v,au,aF⟩:=ag.has s u ah;exact⟨v,au,ei.cZ Bn aF⟩
theorem Zn{x:vW} {c:Bool} (h:yt n st x=some (c,st')) (aa:c=true):dh X n st st':=by
  unfold yt at h
  split at h
  · split at h
    · rename_i J U ah
      split at h
      · rename_i aL aC aW _
        cases h;subst aL;have cV:=Nat.eq_of_beq_eq_true aC;have dU:=Nat.eq_of_beq_eq_true aW;subst cV;subst dU;exact Zh J U ah
      · cases h
    · cases h
  · split at h
    · rename_i J
      cases h;exact Zj _ J
    · cases h
  · split at h
    · rename_i J
      cases h;exact Zk J
    · cases h
  · split at h
    · rename_i J
      cases h;exact Zl J
    · cases h
  · split at h
    · exact Nk h aa
    · cases h
  · split at h
    · exact Nk h aa
    · cases h
  · split at h
    · rename_i aR
      cases h;exact Zm aR
    · cases h
end
end
inductive lf where
 | di (id:Nat)
 | ca (id:Nat) (g:aQ)
 | nil (s id:Nat) (t:TypeId) (g:aQ)
 | r2 (k p id:Nat) (t:TypeId) (g:aQ)
 | qM (id:Nat)
 | By (id:Nat)
 | tv (s id:Nat) (t:TypeId)
 | Bz (k p id:Nat) (t:TypeId)
 | arr (s:Nat) (g:aQ) (m:Nat)
 | vN (s:Nat)
 | pick (ks ak:List Nat)
 | conv (s:Nat) (x:jU)
 | Bt (id:Nat)
 | data (s:Nat) (g:aQ)
 | Bu (id:Nat) (g:aQ)
 | t (x:vW)
def vZ(n:Nat):lf->aM->Option (Bool×aM)
 | .di id,st=>match Go.Proofs.YtcheedjfedcbpaaGreatDoor.di id st with
  | some st'=>some (true,st')
  | none=>none
 | .ca id g,st=>match aU st.H id with
  | some (.cells _ cs)=>match dec g cs with
   | some (c,x,[])=>some (c,⟨ti id g x st.L,mR id g x st.H⟩)
   | _=>none
  | _=>none
 | .nil s id t g,st=>match Nat.blt id n,aU st.L s with
  | true,some (.a (.c (.val v)))=>match isNil v with
   | true=>some (true,⟨(s,.c (.an id)) :: eJ id .dead st.L,(id,.row t g [] none) :: dq id .dead st.H⟩)
   | false=>none
  | _,_=>none
 | .r2 k p id t g,st=>match Nat.blt id n with
  | true=>some (true,⟨eJ id .dead st.L,(id,.row t g [] none) :: jd k p id (dq id .dead st.H)⟩)
  | false=>none
 | .qM id,st=>match Go.Proofs.YtcheedjfedcbpaaGreatDoor.qM id st with
  | some st'=>some (true,st')
  | none=>none
 | .By id,st=>match aU st.H id with
  | some (.row t g l _)=>some (true,⟨st.L,ef id (.fk t g l) st.H⟩)
  | _=>none
 | .tv s id t,st=>match Nat.blt id n,aU st.L s with
  | true,some (.a (.c (.bn g l (some c))))=>some (Nat.beq c l.length,⟨(s,.c (.an id)) :: eJ id .dead st.L,(id,.fk t g l) :: dq id .dead st.H⟩)
  | _,_=>none
 | .Bz k p id t,st=>match Nat.blt id n,Nat.beq k id,aU st.H k with
  | true,false,some (.cells _ cs)=>match cs[p]? with
   | some (.bn g l (some c))=>some (Nat.beq c l.length,⟨eJ id .dead st.L,(id,.fk t g l) :: pQ k p (.an id) (dq id .dead st.H)⟩)
   | _=>none
  | _,_,_=>none
 | .arr s g m,st=>match Nat.blt s n,aU st.L s,aU st.H s with
  | true,some (.a (.c (.ptr q 0))),some (.cells t cs)=>match Nat.beq q s,Nat.ble m 140737488355328,pP g m cs with
   | true,true,some (c,l,[])=>some (c,⟨(s,.c (.dZ s g.size 0 0)) :: eJ s .dead st.L,(s,.row t g l (some m)) :: dq s .dead st.H⟩)
   | _,_,_=>none
  | _,_,_=>none
 | .vN s,st=>match aU st.L s with
  | some (.a (.c (.dZ id _ 0 0)))=>match aU st.H id with
   | some (.row _ g l _)=>some (true,⟨(s,.c (.par g l)) :: eJ id .dead st.L,dq id .dead st.H⟩)
   | _=>none
  | _=>none
 | .pick ks ak,st=>match vm st.L ks,qB st.H ak with
  | some dL,some H'=>some (true,⟨dL,H'⟩)
  | _,_=>none
 | .conv s x,st=>match aU st.L s with
  | some sv=>match x.get (T:=[]) sv ()with
   | some u=>some (true,⟨(s,(x.S u).1) :: st.L,st.H⟩)
   | none=>none
  | none=>none
 | .Bt id,st=>some (true,⟨st.L,r4 id st.H⟩)
 | .data s g,st=>match aU st.L s with
  | some (.a (.agg cs))=>match dec g cs with
   | some (c,x,[])=>match kC g x 0 g.size with
    | some hI=>some (c,⟨(s,.a (.agg hI)) :: st.L,st.H⟩)
    | none=>none
   | _=>none
  | _=>none
 | .Bu id g,st=>match aU st.H id with
  | some (.cells t cs)=>match dec g cs with
   | some (c,x,[])=>match kC g x 0 g.size with
    | some hI=>some (c,⟨st.L,ef id (.cells t hI) st.H⟩)
    | none=>none
   | _=>none
  | _=>none
 | .t x,st=>yt n st x
theorem Nl{X:br} {n:Nat} {x:lf} {st st':aM} {c:Bool} (h:vZ n x st=some (c,st')) (aa:c=true):dh X n st st':=by
 unfold vZ at h
 split at h
 ·split at h
  ·rename_i e; cases h; exact dh.di e
  ·cases h
 ·split at h
  ·rename_i e
   split at h
   ·rename_i aW; cases h; exact dh.ca _ _ e aW aa
   ·cases h
  ·cases h
 ·split at h
  ·rename_i e aW
   split at h
   ·rename_i cB
    cases h;rw[Mw cB]at aW;exact dh.nil _ _ _ _ e aW
   ·cases h
  ·cases h
 ·split at h
  ·rename_i e; cases h; exact dh.r2 _ _ _ _ _ e
  ·cases h
 ·split at h
  ·rename_i e; cases h; exact dh.qM e
  ·cases h
 ·split at h
  ·rename_i e; cases h; exact dh.By _ e
  ·cases h
 ·split at h
  ·rename_i aC aW
   cases h;exact dh.tv _ _ _ aC aW (Nat.eq_of_beq_eq_true aa)
  ·cases h
 ·split at h
  ·rename_i aC aW cB
   split at h
   ·rename_i gH
    cases h;exact dh.Bz _ _ _ _ aC aW cB gH (Nat.eq_of_beq_eq_true aa)
   ·cases h
  ·cases h
 ·split at h
  ·rename_i aC aW cB
   split at h
   ·rename_i gH gj tu
    cases h;rw[Nat.eq_of_beq_eq_true gH]at aW;exact dh.arr _ _ _ _ aC aW cB tu aa (Nat.le_of_ble_eq_true gj)
   ·cases h
  ·cases h
 ·split at h
  ·rename_i aC
   split at h
   ·rename_i aW
    cases h;exact dh.vN _ aC aW
   ·cases h
  ·cases h
 ·split at h
  ·rename_i aC aW; cases h; exact dh.pick _ _ aC aW
  ·cases h
 ·split at h
  ·rename_i aC
   split at h
   ·rename_i aW
    cases h;exact dh.conv _ aC (jU.ij aW).2
   ·cases h
  ·cases h
 ·cases h
  exact dh.Bt _ rfl
 ·split at h
  ·rename_i aC
   split at h
   ·rename_i aW
    split at h
    ·rename_i cB
     cases h;exact dh.data _ _ aC aW aa cB
    ·cases h
   ·cases h
  ·cases h
 ·split at h
  ·rename_i aC
   split at h
   ·rename_i aW
    split at h
    ·rename_i cB
     cases h;exact dh.Bu _ _ aC aW aa cB
    ·cases h
   ·cases h
  ·cases h
 ·exact Zn h aa
def lf.vX:lf->List Nat
 | .nil s id _ _=>[s,id]
 | .r2 k _ id _ _=>[k,id]
 | .By id=>[id]
 | .tv s id _=>[s,id]
 | .Bz k _ id _=>[k,id]
 | .arr s _ _=>[s]
 | .vN s=>[s]
 | .conv s _=>[s]
 | .Bt id=>[id]
 | .data s _=>[s]
 | .Bu id _=>[id]
 | .t x=>x.vX
 | _=>[]
theorem Zo{a b:Nat} (h:a≠b):Nat.beq b a=false:=by
 cases e:Nat.beq b a with
 | false=>rfl
 | true=>exact absurd (Nat.eq_of_beq_eq_true e).symm h
theorem h5(a:Nat) (r:List Nat):ey a (a :: r)=true:=by
 unfold ey;rw[Nat.beq_refl]
theorem Gp{id:Nat} {g:aQ} {x:g.D} {V:List Nat}:∀ H:bx,jW V H (mR id g x H)
 | []=>bR.refl []
 | (k,b) :: r=>fun q v ao ad=>by
  unfold mR at ad
  split at ad
  ·rename_i e
   have ab:=Nat.eq_of_beq_eq_true e;obtain⟨u,J,U⟩:=Gp r q v ao ad
   by_cases cu:q=k
   ·subst cu
    subst ab;exact(Gq ad).elim
   ·exact⟨u,by rw[cl,if_neg cu]; exact J,U⟩
  ·rw[cl]at ad ⊢
   split at ad
   ·rename_i e
    cases ad;rw[if_pos e];exact⟨b,rfl,fun aA=>Y6 aA⟩
   ·rename_i e
    rw[if_neg e];exact Gp r q v ao ad
where Gq {id:Nat} {g:aQ} {x:g.D} {v:ct}:∀ {H:bx},aU (mR id g x H) id=some v->False
 | [],h=>by cases h
 | (k,b) :: r,h=>by
  unfold mR at h
  split at h
  ·exact Gq h
  ·rename_i e
   rw[cl,if_neg (fun cm=>by rw[cm,Nat.beq_refl]at e; cases e)]at h;exact Gq h
theorem Gr{k p id:Nat} {V:List Nat} (iQ:ey k V=true):∀ H:bx,jW V H (jd k p id H)
 | []=>bR.refl []
 | (j,b) :: r=>fun q v ao ad=>by
  have cu:q≠k:=fun e=>by rw[e,iQ]at ao; cases ao
  unfold jd at ad
  split at ad
  ·cases ad
  ·rename_i gE
   cases gE
   split at ad
   ·rename_i e
    have ab:=Nat.eq_of_beq_eq_true e;subst ab;rw[cl,if_neg cu]at ad;exact⟨v,by rw[cl,if_neg cu]; exact ad,fun _=>rfl⟩
   ·rw[cl]at ad ⊢
    split at ad
    ·rename_i e
     rw[if_pos e];exact⟨_,rfl,fun _=>by cases ad; rfl⟩
    ·rename_i e
     rw[if_neg e];exact Gr iQ r q v ao ad
  ·rename_i gE
   cases gE;rw[cl]at ad ⊢
   split at ad
   ·rename_i e
    rw[if_pos e];exact⟨_,rfl,fun _=>by cases ad; rfl⟩
   ·rename_i e
    rw[if_neg e];exact Gr iQ r q v ao ad
theorem Zp{L:cL}:∀ {ks:List Nat} {dL:cL},vm L ks=some dL->∀ q v,aU dL q=some v->aU L q=some v:=fun h q v ao=>(E4 h).look q v ao
theorem Zq{h aO:bx} (ak:kf h aO):∀ q b,aU aO q=some b->aU h q=some b:=by
 induction ak with
 | nil=>intro q b h; cases h
 | cons ab _ _ bA=>
  intro q b h;rw[cl]at h
  split at h
  ·rename_i e; cases h; rw[e]; exact ab
  ·exact bA q b h
theorem Gs{id:Nat} {V:List Nat} (iQ:ey id V=true):∀ H:bx,jW V H (r4 id H)
 | []=>bR.refl []
 | (j,b) :: r=>fun q v ao ad=>by
  have cu:q≠id:=fun e=>by rw[e,iQ]at ao; cases ao
  unfold r4 at ad
  split at ad
  ·cases ad
  ·rename_i gE
   cases gE
   split at ad
   ·rename_i e
    have ab:=Nat.eq_of_beq_eq_true e;subst ab;rw[cl,if_neg cu]at ad;exact⟨v,by rw[cl,if_neg cu]; exact ad,fun _=>rfl⟩
   ·rw[cl]at ad ⊢
    split at ad
    ·rename_i e
     rw[if_pos e];exact⟨_,rfl,fun _=>by cases ad; rfl⟩
    ·rename_i e
     rw[if_neg e];exact Gs iQ r q v ao ad
  ·rename_i gE
   cases gE;rw[cl]at ad ⊢
   split at ad
   ·rename_i e
    rw[if_pos e];exact⟨_,rfl,fun _=>by cases ad; rfl⟩
   ·rename_i e
    rw[if_neg e];exact Gs iQ r q v ao ad
theorem Nn{k p:Nat} {c:ba} {V:List Nat} (iQ:ey k V=true):∀ H:bx,jW V H (pQ k p c H)
 | []=>bR.refl []
 | (j,b) :: r=>fun q v ao ad=>by
  have cu:q≠k:=fun e=>by rw[e,iQ]at ao; cases ao
  unfold pQ at ad
  split at ad
  ·rename_i e
   have ab:=Nat.eq_of_beq_eq_true e;subst ab;rw[cl,if_neg cu]at ad;exact⟨v,by rw[cl,if_neg cu]; exact ad,fun _=>rfl⟩
  ·rw[cl]at ad ⊢
   split at ad
   ·rename_i e
    rw[if_pos e];exact⟨_,rfl,fun _=>by cases ad; rfl⟩
   ·rename_i e
    rw[if_neg e];exact Nn iQ r q v ao ad
theorem pT{q k:Nat} {r:List Nat}:ey q (k :: r)=false ↔ q≠k/\ey q r=false:=⟨e4,fun⟨J,U⟩=>by
 unfold ey;rw[Zo J];exact U⟩
theorem No{q a b:Nat} (h:ey q [a,b]=false):ey q (b :: ([a]++[]))=false:=by
 obtain⟨J,U⟩:=pT.1 h;obtain⟨ah,au⟩:=pT.1 U;exact pT.2 ⟨ah,pT.2 ⟨J,rfl⟩⟩
theorem Zr{k p id:Nat} {z:ba} {b:ct} (H:bx):jW [k,id] H ((id,b) :: jd k p id (dq id z H)):=
 (((h4 id z (V:=[]) H).trans (Gr (k:=k) (p:=p) (id:=id) (h5 k []) _)).cons (d:=id) (v:=b)).more fun _ h=>No h
theorem Zs{k p id:Nat} {z c:ba} {b:ct} (H:bx):jW [k,id] H ((id,b) :: pQ k p c (dq id z H)):=
 (((h4 id z (V:=[]) H).trans (Nn (k:=k) (p:=p) (c:=c) (h5 k []) _)).cons (d:=id) (v:=b)).more fun _ h=>No h
def cN(V:List Nat) (st st':aM):Prop:=vV V st.L st'.L/\jW V st.H st'.H
theorem cN.refl{V:List Nat} (st:aM):cN V st st:=⟨bR.refl _,bR.refl _⟩
theorem cN.trans{V V2:List Nat} {a b c:aM} (h:cN V a b) (k:cN V2 b c):cN (V2++V) a c:=⟨h.1.trans k.1,h.2.trans k.2⟩
theorem cN.more{V V2:List Nat} {a b:aM} (h:cN V a b) (aB:∀ q,ey q V2=false->ey q V=false):cN V2 a b:=⟨h.1.more aB,h.2.more aB⟩
theorem Np{n:Nat} {st st':aM} {id d i:Nat} {c:Bool} (h:vY n st id d i=some (c,st')):cN [id,d] st st':=by
 unfold vY at h
 split at h
 ·cases h
  refine⟨iw _ _ _,?_⟩;refine bR.more (bR.cons (bR.trans (V:=[]) (V2:=[id]) (h4 _ _ _) (ix (h5 _ _)))) fun q ao=>?_
  obtain⟨J,U⟩:=e4 ao;obtain⟨ah,_⟩:=e4 U;show(match Nat.beq d q with | true=>true | false=>match Nat.beq id q with | true=>true | false=>false)=false
  split
  ·rename_i e; exact absurd (Nat.eq_of_beq_eq_true e).symm ah
  ·split
   ·rename_i e; exact absurd (Nat.eq_of_beq_eq_true e).symm J
   ·rfl
 ·cases h
theorem Nq{bP:hD}:∀ {cs:List e6},qH cs=true->pN bP cs=some cs
 | [],_=>rfl
 | .id _ :: _,h=>by cases h
 | .eS _ _ :: cs,h=>by
  unfold pN;rw[Nq (cs:=cs) h]
theorem Gt(bP:hD):Fix fun c=>c.cZ bP:=⟨fun c h=>by
 cases c with
 | fn f cs=>simp only[ba.cZ]; rw[Nq h]
 | _=>first | rfl | cases h⟩
theorem Gu(bP:hD):∀ cs:List ba,r0 bP cs=tH (fun c=>c.cZ bP) cs
 | []=>rfl
 | c :: r=>by
  show c.cZ bP :: r0 bP r=_;rw[Gu bP r]; rfl
theorem Gv{bP:hD} {x:bf} (h:x.free=true):x.cZ bP=x:=by
 cases x with
 | c x=>simp only[bf.cZ]; rw[(Gt bP).fix x h]
 | agg cs=>simp only[bf.cZ]; rw[Gu,qW (Gt bP) h]
 | arr g l=>rfl
theorem Nr{bP:hD}:∀ {xs:List bf},ld xs=true->tk bP xs=xs
 | [],_=>rfl
 | c :: r,h=>by
  unfold ld at h
  split at h
  ·rename_i e
   show c.cZ bP :: tk bP r=_;rw[Gv e,Nr h]
  ·cases h
theorem Zt{bP:hD} {v:b0} (h:v.free=true):v.cZ bP=v:=by
 cases v with
 | a x=>simp only[b0.cZ]; rw[Gv h]
 | may g x=>simp only[b0.cZ]; rw[Gv h]
 | da xs=>simp only[b0.cZ]; rw[Nr h]
theorem Zu{bP:hD} {b:ct} (h:b.free=true):b.cZ bP=b:=by
 cases b with
 | cells t cs=>simp only[ct.cZ]; rw[Gu,qW (Gt bP) h]
 | b5 T T' g l c q=>rcases q with _ | ⟨i,_ | d⟩<;>first | rfl | cases h
 | _=>first | rfl | cases h
theorem Zv(bP:hD) (L:cL) {V:List Nat}:vV V L (fu bP L):=bR.map (f:=fun v=>v.cZ bP) (fun _ h=>Zt h) fun _ _ h=>tl h
theorem BO(i j:Nat):∀ H:bx,jW [i,j] H (nA (jc i j) H)
 | []=>bR.refl []
 | (k,b) :: r=>fun q v ao ad=>by
  obtain⟨J,U⟩:=e4 ao;obtain⟨ah,_⟩:=e4 U;unfold nA at ad
  by_cases aC:Nat.beq k i=true
  ·have e:=Nat.eq_of_beq_eq_true aC
   have hm:jc i j b.n7 k=some j:=by unfold jc; rw[aC]
   rw[hm]at ad;dsimp only at ad;rw[cl,if_neg ah]at ad;rw[cl,if_neg (by rw[e]; exact J)];exact BO i j r q v ao ad
  ·have Gw:Nat.beq k i=false:=by simpa only[Bool.not_eq_true] using aC
   by_cases aW:Nat.beq k j=true
   ·have e:=Nat.eq_of_beq_eq_true aW
    have hm:jc i j b.n7 k=none:=by unfold jc; rw[Gw,aW]
    rw[hm]at ad;dsimp only at ad;rw[cl,if_neg (by rw[e]; exact ah)];exact BO i j r q v ao ad
   ·have Zw:Nat.beq k j=false:=by simpa only[Bool.not_eq_true] using aW
    have hm:jc i j b.n7 k=some k:=by unfold jc; rw[Gw,Zw]
    rw[hm]at ad;dsimp only at ad;rw[cl]at ad ⊢
    split at ad
    ·rename_i e
     cases ad;rw[if_pos e];exact⟨b,rfl,fun aA=>Zu aA⟩
    ·rename_i e
     rw[if_neg e];exact BO i j r q v ao ad
theorem Zx{n:Nat} {st st':aM} {x:vW} {c:Bool} (h:yt n st x=some (c,st')):cN x.vX st st':=by
 unfold yt at h
 split at h
 ·split at h
  ·split at h
   ·cases h
    exact⟨iw _ _ _,bR.more (bR.trans (V:=[]) (V2:=[_]) (h4 _ _ _) (ix (h5 _ _))) fun q ao=>by
     have J:=(e4 ao).1;show(match Nat.beq _ q with | true=>true | false=>false)=false
     split
     ·rename_i e; exact absurd (Nat.eq_of_beq_eq_true e).symm J
     ·rfl⟩
   ·cases h
  ·cases h
 ·split at h
  ·cases h
   exact⟨bR.refl _,ix (h5 _ _)⟩
  ·cases h
 ·split at h
  ·cases h
   exact⟨iw _ _ _,h4 _ _ _⟩
  ·cases h
 ·split at h
  ·cases h
   exact⟨bR.refl _,ix (h5 _ _)⟩
  ·cases h
 ·split at h
  ·exact Np h
  ·cases h
 ·split at h
  ·exact Np h
  ·cases h
 ·split at h
  ·cases h
   exact⟨Zv _ _,BO _ _ _⟩
  ·cases h
theorem Ns{n:Nat} {x:lf} {st st':aM} {c:Bool} (h:vZ n x st=some (c,st')):cN x.vX st st':=by
 unfold vZ at h
 split at h
 ·split at h
  ·rename_i e
   cases h;unfold Go.Proofs.YtcheedjfedcbpaaGreatDoor.di at e
   split at e
   ·cases e; exact⟨iw _ _ _,h4 _ _ _⟩
   ·cases e
  ·cases h
 ·split at h
  ·split at h
   ·cases h; exact⟨Y8 _ _ _ _,Gp _⟩
   ·cases h
  ·cases h
 ·split at h
  ·split at h
   ·cases h
    exact⟨bR.cons (iw _ _ _),(bR.cons (V:=[]) (h4 _ _ _)).more fun q ao=>by obtain⟨J,U⟩:=e4 ao; exact U⟩
   ·cases h
  ·cases h
 ·split at h
  ·cases h
   exact⟨iw _ _ _,Zr _⟩
  ·cases h
 ·split at h
  ·rename_i e
   cases h;unfold Go.Proofs.YtcheedjfedcbpaaGreatDoor.qM at e
   split at e
   ·cases e; exact⟨iw _ _ _,h4 _ _ _⟩
   ·cases e
  ·cases h
 ·split at h
  ·cases h; exact⟨bR.refl _,ix (h5 _ _)⟩
  ·cases h
 ·split at h
  ·cases h
   exact⟨bR.cons (iw _ _ _),(bR.cons (V:=[]) (h4 _ _ _)).more fun q ao=>by obtain⟨J,U⟩:=e4 ao; exact U⟩
  ·cases h
 ·split at h
  ·split at h
   ·cases h
    exact⟨iw _ _ _,Zs _⟩
   ·cases h
  ·cases h
 ·split at h
  ·split at h
   ·cases h
    exact⟨bR.cons (iw _ _ _),bR.cons (h4 _ _ _)⟩
   ·cases h
  ·cases h
 ·split at h
  ·split at h
   ·cases h
    exact⟨bR.cons (iw _ _ _),h4 _ _ _⟩
   ·cases h
  ·cases h
 ·split at h
  ·rename_i aC aW
   cases h;exact⟨bR.less (Zp aC),bR.less (Zq (tc aW))⟩
  ·cases h
 ·split at h
  ·split at h
   ·cases h
    exact⟨bR.cons (bR.refl _),bR.refl _⟩
   ·cases h
  ·cases h
 ·cases h
  exact⟨bR.refl _,Gs (h5 _ _) _⟩
 ·split at h
  ·split at h
   ·split at h
    ·cases h
     exact⟨bR.cons (bR.refl _),bR.refl _⟩
    ·cases h
   ·cases h
  ·cases h
 ·split at h
  ·split at h
   ·split at h
    ·cases h
     exact⟨bR.refl _,ix (h5 _ _)⟩
    ·cases h
   ·cases h
  ·cases h
 ·exact Zx h
def v7(X:br) (t:TypeId) (g:aQ):Bool:=match X.tt.find t with
 | some ⟨⟨.struct _,_,_,_⟩,_⟩=>g.key&&(kF X.P X.tt 12 t g&&!(X.P.eqGuardType X.P.depth t))
 | _=>false
theorem Zy{X:br} (ar:X.tt.ok X.P) {t:TypeId} {g:aQ} (h:v7 X t g=true):r5 X.P t g:=by
 unfold v7 at h
 split at h
 ·rename_i aA
  simp only[Bool.and_eq_true,Bool.not_eq_true']at h;exact r5.of ar h.1 aA rfl h.2.1 h.2.2
 ·cases h
def Gx(X:br) (e:TypeId):Option (bh×aQ):=match X.tt.find e with
 | some bj=>match bj.g with
  | some g=>some (bj,g)
  | none=>none
 | none=>none
def BP(X:br) (L:cL) (t:TypeId) (u v:Operand):Option (Bool×Bool):=match bm X L u,bm X L v,X.tt.find t with
 | some (g1,.agg cs),some (g2,.agg aE),some bj=>match bj.g with
  | some g=>match dec g cs,dec g aE,v7 X t g with
   | some (fs,x,[]),some (cF,y,[]),true=>some (g1&&(g2&&(fs&&cF)),g.beq x y)
   | _,_,_=>none
  | none=>none
 | _,_,_=>none
def v8(X:br) (st:aM):Op->Option (Bool×bf)
 | .binOp .eql t u v _=>match BP X st.L t u v with
  | some (c,b)=>some (c,.c (.val (.bool b)))
  | none=>none
 | .binOp .neq t u v _=>match BP X st.L t u v with
  | some (c,b)=>some (c,.c (.val (.bool (!b))))
  | none=>none
 | .load t x=>match bm X st.L x,X.tt.find t with
  | some (g1,.c (.dZ id 1 i 0)),some bj=>match aU st.H id,jn bj.bk.desc with
   | some (.cC _ _ _ _ _ j d2),false=>some (g1&&Nat.beq i j,.c (.an d2))
   | some (.b5 _ _ _ _ _ (some (j,some d2))),false=>some (g1&&decide (i=j),.c (.an d2))
   | _,_=>none
  | _,_=>none
 | .slice t u (some x) none none=>match X.tt.find t,bm X st.L u,bm X st.L x with
  | some ⟨⟨.slice e,_,_,_⟩,_⟩,some (g1,.c (.an id)),some (g2,.c (.val (.int _ z)))=>match X.tt.find e,aU st.H id with
   | some dr,some (.row _ g l _)=>match Nat.beq g.size dr.bk.size with
    | true=>some (g1&&(g2&&(decide (0<=z)&&decide (z<=(l.length:Int)))),.c (.iB id g.size z.toNat))
    | false=>none
   | _,_=>none
  | _,_,_=>none
 | .call ⟨.builtin .cap,⟨[u]⟩,⟨[t]⟩⟩=>match X.tt.find t,bm X st.L u with
  | some ⟨⟨.slice _,_,_,_⟩,_⟩,some (g1,.c (.an id))=>some (g1,.c (.iK id))
  | _,_=>none
 | _=>none
theorem Nt{X:br} (ar:X.tt.ok X.P) {L:cL} {t:TypeId} {u v:Operand} {c b:Bool} (h:BP X L t u v=some (c,b)) (aa:c=true):∃ g1 g2 fs cF cs aE g x y,bm X L u=some (g1,.agg cs)/\bm X L v=some (g2,.agg aE)/\r5 X.P t g/\dec g cs=some (fs,x,[])/\dec g aE=some (cF,y,[])/\g1=true/\g2=true/\fs=true/\cF=true/\b=g.beq x y:=by
 unfold BP at h
 split at h
 ·rename_i hu aB aV
  split at h
  ·split at h
   ·rename_i aC aW cB
    cases h;simp only[Bool.and_eq_true]at aa;exact⟨_,_,_,_,_,_,_,_,_,hu,aB,Zy ar cB,aC,aW,aa.1,aa.2.1,aa.2.2.1,aa.2.2.2,rfl⟩
   ·cases h
  ·cases h
 ·cases h
theorem BQ{X:br} {st:aM} (ar:X.tt.ok X.P) {o:Oper} {c:Bool} {bq:bf} (h:v8 X st o.op=some (c,bq)) (aa:c=true):gT X st o bq:=by
 unfold v8 at h
 split at h
 ·rename_i ax
  split at h
  ·rename_i e
   cases h;obtain⟨g1,g2,fs,cF,cs,aE,g,x,y,hu,aB,bS,aj,aT,J,U,ah,au,rfl⟩:=Nt ar e aa;exact Ya bS ax hu J aB U aj ah aT au
  ·cases h
 ·rename_i ax
  split at h
  ·rename_i e
   cases h;obtain⟨g1,g2,fs,cF,cs,aE,g,x,y,hu,aB,bS,aj,aT,J,U,ah,au,rfl⟩:=Nt ar e aa;exact Yb bS ax hu J aB U aj ah aT au
  ·cases h
 ·rename_i ax
  split at h
  ·rename_i aj aV
   split at h
   ·rename_i ad bo
    cases h;simp only[Bool.and_eq_true]at aa
    have:=Nat.eq_of_beq_eq_true aa.2
    subst this;intro R W aG n ks env B ai H a bZ ag;exact X8 ar ax aV bo aj aa.1 ad ag
   ·rename_i ad bo
    cases h;simp only[Bool.and_eq_true]at aa;exact Nd ar ax aV bo aj aa.1 ad aa.2
   ·cases h
  ·cases h
 ·rename_i ax
  split at h
  ·rename_i aV hu aj
   split at h
   ·rename_i he ad
    split at h
    ·rename_i ak
     cases h;rw[Bool.and_eq_true,Bool.and_eq_true]at aa;exact YX ar ax aV rfl he hu aa.1 aj aa.2.1 ad ak aa.2.2
    ·cases h
   ·cases h
  ·cases h
 ·rename_i ax
  split at h
  ·rename_i aV hu
   cases h;exact YZ ar ax aV rfl hu aa
  ·cases h
 ·cases h
section
def ez(g c:Bool):Bool:=match c with
 | true=>true
 | false=>!g
theorem yu{g c:Bool} (h:ez g c=true) (aL:g=true):c=true:=by
 cases c with
 | true=>rfl
 | false=>rw[aL]at h; cases h
abbrev e7:=List (Nat×Nat×Bool)
def iy(L:cL) (s:Nat) (want:Bool):Option Bool:=match aU L s,want with
 | some (.a (.c (.val (.bool b)))),true=>some b
 | some (.a (.c (.val (.bool b)))),false=>some (!b)
 | some (.may g (.c (.val (.bool b)))),true=>some (g&&b)
 | some (.may g (.c (.val (.bool b)))),false=>some (g&&!b)
 | _,_=>none
def Gy:Bool->Bool->Bool
 | true,true=>true
 | false,false=>true
 | _,_=>false
theorem Zz:∀ {a b:Bool},Gy a b=true->a=b
 | true,true,_=>rfl
 | false,false,_=>rfl
def yv(j:Nat) (w:Bool):List (Nat×Bool)->Bool
 | []=>false
 | p :: r=>match Nat.beq p.1 j,Gy p.2 w with
  | true,true=>true
  | _,_=>yv j w r
def yw(s:Nat):e7->Option (Nat×Bool)
 | []=>none
 | e :: G=>match Nat.beq e.1 s with
  | true=>some e.2
  | false=>yw s G
def yx(cz:List (Option Nat)) (j s:Nat):Bool:=match nth cz j with
 | some (some q)=>Nat.beq q s
 | _=>false
def iU(cz:List (Option Nat)) (d:Nat):e7->e7
 | []=>[]
 | e :: G=>match Nat.beq e.1 d,yx cz e.2.1 d with
  | false,false=>e :: iU cz d G
  | _,_=>iU cz d G
def mg(cz:List (Option Nat)) (G:e7):Nat->Nat->Bool->List (Nat×Bool)
 | 0,j,w=>[(j,w)]
 | k+1,j,w=>(j,w) :: match nth cz j with
  | some (some s)=>match yw s G with
   | some p=>mg cz G k p.1 p.2
   | none=>[]
  | _=>[]
def hc(ps:List (Nat×Bool)):e7->cL->cL
 | [],L=>L
 | e :: G,L=>match yv e.2.1 e.2.2 ps,aU L e.1 with
  | true,some (.may _ x)=>(e.1,.a x) :: hc ps G L
  | _,_=>hc ps G L
def wa(cz:List (Option Nat)) (s:Nat) (w:Bool) (ps:List (Nat×Bool)):e7->List (Nat×Bool)
 | []=>ps
 | e :: G=>match yx cz e.2.1 s,Gy e.2.2 w with
  | true,true=>(e.2.1,w) :: wa cz s w ps G
  | _,_=>wa cz s w ps G
def Gz(G:e7) (ps:List (Nat×Bool)) (L:cL) (s:Nat):Option (Bool×Bool):=match aU L s with
 | some (.a (.c (.val (.bool b))))=>some (true,b)
 | some (.may g (.c (.val (.bool b))))=>match yw s G with
  | some p=>match yv p.1 p.2 ps with
   | true=>some (true,b)
   | false=>some (g,b)
  | none=>some (g,b)
 | _=>none
def sg(X:br) (cz:List (Option Nat)) (ps:List (Nat×Bool)) (G:e7) (st:aM):Op->Option (Bool×bf)
 | .pick (.tmp s) u v=>match Gz G ps st.L s with
  | some (gc,b)=>match bm X (hc (wa cz s true ps G) G st.L) u,bm X (hc (wa cz s false ps G) G st.L) v with
   | some (xC,x),some (aZ,y)=>match xB b x y with
    | some r=>some (gc&&(ez b xC&&ez (!b) aZ),r)
    | none=>none
   | _,_=>none
  | none=>none
 | op=>match s6 X ⟨hc ps G st.L,st.H⟩ op with
  | some r=>some r
  | none=>v8 X ⟨hc ps G st.L,st.H⟩ op
section
variable {X:br} {R:Nat->Prop} {W:World} {aG:eX} {n:Nat} {ks:List Nat} {env:Nat->Loc} {B:Nat->Prop} {ai:World} {H:List bb} {st:aM} {a:Act} {w:World} {cz:List (Option Nat)} {G:e7} {ps:List (Nat×Bool)}
def dS(cz:List (Option Nat)) (G:e7) (L:cL):Prop:=∀ e∈G,∃ s g x,nth cz e.2.1=some (some s)/\iy L s e.2.2=some g/\aU L e.1=some (.may g x)
def lg(cz:List (Option Nat)) (L:cL) (p:Nat×Bool):Prop:=∃ s,nth cz p.1=some (some s)/\iy L s p.2=some true
theorem yy{j:Nat} {w:Bool}:∀ {ps:List (Nat×Bool)},yv j w ps=true->(j,w)∈ps
 | [],h=>by cases h
 | p :: r,h=>by
  unfold yv at h
  split at h
  ·rename_i J U
   rw[<- Nat.eq_of_beq_eq_true J,<- Zz U];exact List.mem_cons_self
  ·exact List.mem_cons_of_mem _ (yy h)
theorem GA{s:Nat} {p:Nat×Bool}:∀ {G:e7},yw s G=some p->(s,p)∈G
 | [],h=>by cases h
 | e :: G,h=>by
  unfold yw at h
  split at h
  ·rename_i J
   cases h;rw[<- Nat.eq_of_beq_eq_true J];exact List.mem_cons_self
  ·exact List.mem_cons_of_mem _ (GA h)
theorem GB{d:Nat} {e:Nat×Nat×Bool}:∀ {G:e7},e∈iU cz d G->e∈G/\e.1≠d/\yx cz e.2.1 d=false
 | [],h=>by cases h
 | q :: G,h=>by
  unfold iU at h
  split at h
  ·rename_i J U
   rcases List.mem_cons.1 h with rfl | h
   ·exact⟨List.mem_cons_self,Nat.ne_of_beq_eq_false J,U⟩
   ·obtain⟨ah,au⟩:=GB h
    exact⟨List.mem_cons_of_mem _ ah,au⟩
  ·obtain⟨ah,au⟩:=GB h
   exact⟨List.mem_cons_of_mem _ ah,au⟩
theorem wb{L:cL} {d s:Nat} {sv:b0} {w:Bool} (h:s≠d):iy ((d,sv) :: L) s w=iy L s w:=by
 unfold iy;rw[cl,if_neg h]
theorem dS.drop{L:cL} (h:dS cz G L) (d:Nat) (sv:b0):dS cz (iU cz d G) ((d,sv) :: L):=fun e he=>by
 obtain⟨J,U,ah⟩:=GB he;obtain⟨s,g,x,au,aF,aY⟩:=h e J;have ak:s≠d:=fun cm=>by
  unfold yx at ah;rw[au,cm]at ah
  simp at ah
 exact⟨s,g,x,au,by rw[wb ak]; exact aF,by rw[cl,if_neg U]; exact aY⟩
theorem dS.nil{L:cL}:dS cz [] L:=fun _ h=>by cases h
theorem ZA{L:cL} {s:Nat} {g w:Bool} {x:bf} (ah:aU L s=some (.may g x)) (aF:iy L s w=some true):g=true:=by
 unfold iy at aF
 split at aF
 ·rename_i e; rw[ah]at e; cases e
 ·rename_i e; rw[ah]at e; cases e
 ·rename_i e
  rw[ah]at e;cases e;simp only[Option.some.injEq,Bool.and_eq_true]at aF;exact aF.1
 ·rename_i e
  rw[ah]at e;cases e;simp only[Option.some.injEq,Bool.and_eq_true]at aF;exact aF.1
 ·cases aF
theorem yz{L:cL} (b1:dS cz G L):∀ {k j:Nat} {w:Bool},lg cz L (j,w)->∀ p∈mg cz G k j w,lg cz L p
 | 0,j,w,h,p,aq=>by rw[List.mem_singleton.1 aq]; exact h
 | k+1,j,w,h,p,aq=>by
  unfold mg at aq
  rcases List.mem_cons.1 aq with rfl | aq
  ·exact h
  ·split at aq
   ·rename_i s ak
    split at aq
    ·rename_i q ao
     obtain⟨s1,g,x,J,U,ah⟩:=b1 _ (GA ao);refine yz b1 ?_ p aq;obtain⟨s2,au,aF⟩:=h;rw[ak]at au;cases au;have aL:g=true:=by
      exact ZA ah aF
     exact⟨s1,J,by rw[U,aL]⟩
    ·cases aq
   ·cases aq
theorem ZB{L:cL} (b1:dS cz G L) (aq:∀ p∈ps,lg cz L p) {GC:Array Value} (h:∀ s sv,aU L s=some sv->∃ v,GC[s]?=some v/\ei env B ai sv v):∀ s sv,aU (hc ps G L) s=some sv->∃ v,GC[s]?=some v/\ei env B ai sv v:=by
 have key:∀ eH,(∀ e∈eH,e∈G)->∀ s sv,aU (hc ps eH L) s=some sv->∃ v,GC[s]?=some v/\ei env B ai sv v:=by
  intro eH
  induction eH with
  | nil=>exact fun _=>h
  | cons e eH bA=>
   intro ak s sv ad;have sh:=bA fun e he=>ak e (List.mem_cons_of_mem _ he)
   unfold hc at ad
   split at ad
   ·rename_i g x J U
    rw[cl]at ad
    split at ad
    ·rename_i aC
     cases ad;obtain⟨s1,g1,nu,ah,au,aF⟩:=b1 e (ak e List.mem_cons_self);obtain⟨s2,aY,bK⟩:=aq _ (yy J);dsimp only at aY;rw[ah]at aY;cases aY;rw[au]at bK;cases bK;rw[U]at aF;cases aF;obtain⟨v,c7,hN⟩:=h _ _ U;rw[<- aC]at c7;exact⟨v,c7,hN.1 rfl⟩
    ·exact sh s sv ad
   ·exact sh s sv ad
 exact key G fun _ h=>h
theorem ZC{L:cL} (b1:dS cz G L) (aq:∀ p∈ps,lg cz L p):∀ s sv,aU (hc ps G L) s=some sv->aU L s=some sv\/∃ x,sv=.a x/\aU L s=some (.may true x):=by
 have key:∀ eH,(∀ e∈eH,e∈G)->∀ s sv,aU (hc ps eH L) s=some sv->aU L s=some sv\/∃ x,sv=.a x/\aU L s=some (.may true x):=by
  intro eH
  induction eH with
  | nil=>exact fun _ s sv h=>.inl h
  | cons e eH bA=>
   intro ak s sv ad;have sh:=bA fun e he=>ak e (List.mem_cons_of_mem _ he)
   unfold hc at ad
   split at ad
   ·rename_i g x J U
    rw[cl]at ad
    split at ad
    ·rename_i aC
     cases ad;obtain⟨s1,g1,nu,ah,au,aF⟩:=b1 e (ak e List.mem_cons_self);obtain⟨s2,aY,bK⟩:=aq _ (yy J);dsimp only at aY;rw[ah]at aY;cases aY;rw[au]at bK;cases bK;rw[U]at aF;cases aF;exact .inr ⟨x,rfl,by rw[aC]; exact U⟩
    ·exact sh s sv ad
   ·exact sh s sv ad
 exact key G fun _ h=>h
theorem Nu{L:cL} (b1:dS cz G L) (aq:∀ p∈ps,lg cz L p):∀ s sv,aU L s=some sv->aU (hc ps G L) s=some sv\/∃ x,sv=.may true x/\aU (hc ps G L) s=some (.a x):=by
 have key:∀ eH,(∀ e∈eH,e∈G)->∀ s sv,aU L s=some sv->aU (hc ps eH L) s=some sv\/∃ x,sv=.may true x/\aU (hc ps eH L) s=some (.a x):=by
  intro eH
  induction eH with
  | nil=>exact fun _ s sv h=>.inl h
  | cons e eH bA=>
   intro ak s sv ad;have sh:=bA fun e he=>ak e (List.mem_cons_of_mem _ he)
   unfold hc
   split
   ·rename_i g x J U
    rw[cl]
    split
    ·rename_i aC
     obtain⟨s1,g1,nu,ah,au,aF⟩:=b1 e (ak e List.mem_cons_self);obtain⟨s2,aY,bK⟩:=aq _ (yy J);dsimp only at aY;rw[ah]at aY;cases aY;rw[au]at bK;cases bK;rw[U]at aF;cases aF;rw[aC,U]at ad;cases ad;exact .inr ⟨x,rfl,rfl⟩
    ·exact sh s sv ad
   ·exact sh s sv ad
 exact key G fun _ h=>h
theorem bH.ZD(ag:bH X R W aG n ks env B ai H ⟨hc ps G st.L,st.H⟩ a w) (b1:dS cz G st.L) (aq:∀ p∈ps,lg cz st.L p):bH X R W aG n ks env B ai H st a w:=
 ⟨ag.size,ag.defs,fun s sv ak=>by
  rcases Nu b1 aq s sv ak with h | ⟨x,rfl,h⟩
  ·exact ag.has s sv h
  ·obtain⟨v,J,U⟩:=ag.has s _ h
   exact⟨v,J,fun _=>U,fun h=>by cases h⟩,ag.heap,ag.aJ,ag.sub,ag.new,ag.df,ag.base,ag.dQ⟩
theorem bH.view(ag:bH X R W aG n ks env B ai H st a w) (b1:dS cz G st.L) (aq:∀ p∈ps,lg cz st.L p):bH X R W aG n ks env B ai H ⟨hc ps G st.L,st.H⟩ a w:=
 ⟨ag.size,ag.defs,ZB b1 aq ag.has,ag.heap,ag.aJ,ag.sub,ag.new,ag.df,ag.base,ag.dQ⟩
theorem BR{L:cL} {s:Nat} {wt:Bool} (aq:∀ p∈ps,lg cz L p) (aB:iy L s wt=some true):∀ (G:e7),∀ p∈wa cz s wt ps G,lg cz L p
 | [],p,h=>aq p h
 | e :: G,p,h=>by
  unfold wa at h
  split at h
  ·rename_i J _
   rcases List.mem_cons.1 h with rfl | h
   ·unfold yx at J
    split at J
    ·rename_i q ao
     rw[Nat.eq_of_beq_eq_true J]at ao;exact⟨s,ao,aB⟩
    ·cases J
   ·exact BR aq aB G p h
  ·exact BR aq aB G p h
theorem ZE{s:Nat} {gc b:Bool} (ag:bH X R W aG n ks env B ai H st a w) (b1:dS cz G st.L) (aq:∀ p∈ps,lg cz st.L p) (h:Gz G ps st.L s=some (gc,b)) (aa:gc=true):aD (gl a) (.tmp s)=some (.bool b)/\iy st.L s true=some b/\iy st.L s false=some (!b):=by
 unfold Gz at h
 split at h
 ·rename_i oO e
  cases h;obtain⟨v,J,U⟩:=ag.has _ _ e;rw[show v=_ from U]at J;exact⟨h0 J,by unfold iy; rw[e],by unfold iy; rw[e]⟩
 ·rename_i g oO e
  have key:g=true->oO=b->aD (gl a) (.tmp s)=some (.bool b)/\iy st.L s true=some b/\iy st.L s false=some (!b):=fun aL ae=>by
   subst ae;subst aL;obtain⟨v,J,U⟩:=ag.has _ _ e;rw[show v=_ from U.1 rfl]at J;exact⟨h0 J,by unfold iy; rw[e]; rfl,by unfold iy; rw[e]; rfl⟩
  split at h
  ·rename_i q ao
   split at h
   ·rename_i hl
    cases h;refine key ?_ rfl;obtain⟨s1,g1,nu,ah,au,aF⟩:=b1 _ (GA ao);obtain⟨s2,aY,bK⟩:=aq _ (yy hl);dsimp only at aY ah au aF bK;rw[ah]at aY;cases aY;rw[au]at bK;cases bK;rw[e]at aF;cases aF
    rfl
   ·cases h; exact key aa rfl
  ·cases h; exact key aa rfl
 ·cases h
theorem Nv{b:Bool} {x y r:bf} {vx vy:Value} (aq:xB b x y=some r) (aj:b=true->dI env B ai x vx) (aT:b=false->dI env B ai y vy):dI env B ai r (if b then vx else vy):=by
 unfold xB at aq
 split at aq
 ·split at aq
  ·rename_i ab
   have oQ:=of_decide_eq_true ab;subst oQ;cases aq;cases b
   ·exact aT rfl
   ·exact aj rfl
  ·cases aq
 ·cases aq
  cases b
  ·exact aT rfl
  ·exact aj rfl
 ·cases aq
  cases b
  ·exact aT rfl
  ·exact aj rfl
 ·cases aq
theorem Nw(ar:X.tt.ok X.P) (ag:bH X R W aG n ks env B ai H st a w) (b1:dS cz G st.L) (aq:∀ p∈ps,lg cz st.L p) {o:Oper} {c:Bool} {bq:bf} (h:sg X cz ps G st o.op=some (c,bq)) (aa:c=true):∃ v,dI env B ai bq v/\∀ w',(oP o.op=true->bF (fun k=>R k\/B k) ai (H++ks.map c3) w')->(execOp a.eval o).run X.P w'=.ok (.value v) w':=by
 unfold sg at h
 split at h
 ·rename_i s u v ax
  split at h
  ·rename_i gc b aC
   split at h
   ·rename_i xC x aZ y aW cB
    split at h
    ·rename_i r gH
     cases h;simp only[Bool.and_eq_true]at aa;obtain⟨EP,ho,kW⟩:=aa;obtain⟨J,U,ah⟩:=ZE ag b1 aq aC EP;cases b with
     | true=>
      have cf:=ag.view b1 (BR aq U G);obtain⟨vx,au,aF⟩:=cf.aD aW (yu ho rfl);exact⟨vx,Nv (vx:=vx) (vy:=vx) gH (fun _=>aF) (fun h=>by cases h),fun w' _=>KR ag.bL ax J rfl au w'⟩
     | false=>
      have cf:=ag.view b1 (BR aq ah G);obtain⟨vy,au,aF⟩:=cf.aD cB (yu kW rfl);exact⟨vy,Nv (vx:=vy) (vy:=vy) gH (fun h=>by cases h) (fun _=>aF),fun w' _=>KS ag.bL ax J rfl au w'⟩
    ·cases h
   ·cases h
  ·cases h
 ·have cf:=ag.view b1 aq
  split at h
  ·rename_i e
   cases h;obtain⟨v,J,U⟩:=AY (st:=⟨hc ps G st.L,st.H⟩) ar e aa cf;exact⟨v,J,U⟩
  ·obtain⟨v,J,U⟩:=BQ (st:=⟨hc ps G st.L,st.H⟩) ar h aa cf
   exact⟨v,J,U⟩
theorem Nx(ar:X.tt.ok X.P) (ag:bH X R W aG n ks env B ai H st a w) (b1:dS cz G st.L) (aq:∀ p∈ps,lg cz st.L p) {o:Oper} {c:Bool} {bq:bf} (h:sg X cz ps G st o.op=some (c,bq)) (aa:c=true):∃ v,dI env B ai bq v/\(execOp a.eval o).run X.P w=.ok (.value v) w:=by
 obtain⟨v,J,U⟩:=Nw ar ag b1 aq h aa;exact⟨v,J,U w fun _=>ag.aJ⟩
theorem yA{l:List Oper} {o:Oper} (ag:bH X R W aG n ks env B ai H st a w) {j s:Nat} {want g:Bool} (dA:o.guard=some (j,want)) (aR:nth (et l) j=some (some s)) (aL:iy st.L s want=some g):Region.wanted o (yielded l.toArray a.tmps)=g:=by
 obtain⟨ev,hP,rR⟩:=E2 aR;have l3:(l.toArray[j]?).bind (·.dst)=some s:=by simp[hP,<- rR]
 unfold iy at aL
 split at aL
 ·rename_i b bO
  cases aL;obtain⟨v,J,U⟩:=ag.has _ _ bO;rw[show v=_ from U]at J;rw[rB ag.sym dA l3 (h0 J)];cases g<;>rfl
 ·rename_i b bO
  cases aL;obtain⟨v,J,U⟩:=ag.has _ _ bO;rw[show v=_ from U]at J;rw[rB ag.sym dA l3 (h0 J)];cases b<;>rfl
 ·rename_i g0 b bO
  cases aL;obtain⟨v,J,U,ah⟩:=ag.has _ _ bO;cases g0 with
  | true=>
   rw[show v=_ from U rfl]at J;rw[rB ag.sym dA l3 (h0 J)];cases b<;>rfl
  | false=>
   rw[ah rfl]at J;rw[AF ag.sym dA l3 (h0 J)]
   rfl
 ·rename_i g0 b bO
  cases aL;obtain⟨v,J,U,ah⟩:=ag.has _ _ bO;cases g0 with
  | true=>
   rw[show v=_ from U rfl]at J;rw[rB ag.sym dA l3 (h0 J)];cases b<;>rfl
  | false=>
   rw[ah rfl]at J;rw[AF ag.sym dA l3 (h0 J)]
   rfl
 ·cases aL
end
def Ny:Option Nat->List Nat
 | some d=>[d]
 | none=>[]
def yB(X:br) (L:cL):Op->List Nat
 | .store _ u _=>match bm X L u with
  | some (_,.c (.ptr id _))=>[id]
  | some (_,.c (.dZ id _ _ _))=>[id]
  | _=>[]
 | .call ⟨.builtin .append,⟨[u,_]⟩,_⟩=>match bm X L u with
  | some (_,.c (.an id))=>[id]
  | _=>[]
 | _=>[]
theorem BS{n:Nat} {st st':aM} {d:Nat} {t:TypeId} {g:aQ} {l:List g.D} {cap:Option Nat} (h:newRow n st d t g l cap=some st'):cN [d] st st':=by
 unfold newRow at h
 split at h
 ·cases h
  exact⟨bR.cons (iw _ _ _),bR.cons (h4 _ _ _)⟩
 ·cases h
theorem Nz{X:br} {n:Nat} {st st':aM} {t:TypeId} {d:Nat} {cs:List ba} {c:Bool} (h:rN X n st t d cs=some (c,st')):cN [d] st st':=by
 unfold rN at h
 split at h
 ·cases h
  exact⟨bR.cons (iw _ _ _),bR.cons (h4 _ _ _)⟩
 ·cases h
theorem ZF{X:br} {n:Nat} {st st':aM} {t:TypeId} {N d:Nat} {ps:List (Nat×Operand)} {c:Bool} (h:xH X n st t N ps d=some (c,st')):cN [d] st st':=by
 unfold xH at h
 split at h
 ·split at h
  ·split at h
   ·split at h
    ·split at h
     ·rename_i e; cases h; exact BS e
     ·cases h
    ·cases h
   ·cases h
  ·cases h
 ·cases h
theorem ZG{X:br} {n:Nat} {st st':aM} {t:TypeId} {d:Nat} {x y:bf} {c:Bool} (h:xJ X n st t x y d=some (c,st')):cN [d] st st':=by
 unfold xJ at h
 split at h
 ·split at h
  ·split at h
   ·split at h
    ·rename_i e; cases h; exact BS e
    ·cases h
   ·cases h
  ·cases h
 ·cases h
theorem ZH{X:br} {st st':aM} {t:TypeId} {x y:bf} {c:Bool} (h:xE X st t x y=some (c,st')):(∃ id o,x=.c (.ptr id o)/\cN [id] st st')\/∃ id cA i o,x=.c (.dZ id cA i o)/\cN [id] st st':=by
 unfold xE at h
 split at h
 ·split at h
  ·split at h
   ·split at h
    ·cases h
     exact .inl ⟨_,_,rfl,bR.refl _,ix (h5 _ _)⟩
    ·cases h
   ·cases h
  ·split at h
   ·split at h
    ·split at h
     ·split at h
      ·cases h
       exact .inr ⟨_,_,_,_,rfl,bR.refl _,ix (h5 _ _)⟩
      ·cases h
     ·cases h
    ·cases h
   ·cases h
  ·cases h
 ·cases h
theorem ZI{X:br} {n:Nat} {st st':aM} {t:TypeId} {x y:bf} {d:Nat} {c:Bool} (h:xK X n st t x y d=some (c,st')):cN [d] st st'\/∃ id,x=.c (.an id)/\cN [d,id] st st':=by
 unfold xK at h
 split at h
 ·split at h
  ·split at h
   ·split at h
    ·split at h
     ·cases h
      refine .inr ⟨_,rfl,bR.cons (iw _ _ _),(bR.cons (V:=[]) (h4 _ _ _)).more fun q ao=>?_⟩;exact(e4 ao).2
     ·cases h
    ·cases h
   ·split at h
    ·split at h
     ·rename_i e; cases h; exact .inl (BS e)
     ·cases h
    ·cases h
   ·split at h
    ·split at h
     ·rename_i e; cases h; exact .inl (BS e)
     ·cases h
    ·cases h
   ·cases h
  ·cases h
 ·cases h
theorem ZJ{X:br} {n:Nat} {st st':aM} {op:Op} {d:Option Nat} {c:Bool} (h:xM X n st d op=some (c,st')):cN (Ny d++yB X st.L op) st st':=by
 unfold xM at h
 split at h
 ·split at h
  ·exact Nz h
  ·cases h
 ·split at h
  ·split at h
   ·rename_i e; cases h; exact Nz e
   ·cases h
  ·cases h
 ·split at h
  ·rename_i aC aW
   split at h
   ·rename_i e
    cases h
    rcases ZH e with⟨id,o,rfl,ab⟩ | ⟨id,cA,i,o,rfl,ab⟩
    ·simp only[yB,aC]; exact ab
    ·simp only[yB,aC]; exact ab
   ·cases h
  ·cases h
 ·split at h
  ·exact ZF h
  ·cases h
 ·split at h
  ·split at h
   ·rename_i e; cases h; exact ZG e
   ·cases h
  ·cases h
 ·split at h
  ·rename_i hu aB
   split at h
   ·rename_i e
    cases h
    rcases ZI e with ab | ⟨id,rfl,ab⟩
    ·exact ab.more fun q ao=>(o9.1 ao).1
    ·simp only[yB,hu]; exact ab
   ·cases h
  ·cases h
 ·cases h
def tM(X:br) (L:cL) (o:Oper):List Nat:=Ny o.dst++yB X L o.op
theorem wc{X:br} {n:Nat} {cz:List (Option Nat)} {st st':aM} {o:Oper} {c:Bool} (aL:o.guard=none) (h:n3 X n cz st o=.ok c st'):cN (tM X st.L o) st st':=by
 obtain⟨L,H⟩:=st;simp only[n3,aL]at h;have one:∀ {d:Nat} {sv:b0},o.dst=some d->cN (tM X L o) ⟨L,H⟩ ⟨(d,sv) :: L,H⟩:=fun {d sv} av=>by
  refine cN.more (V:=[d]) ⟨bR.cons (bR.refl _),bR.refl _⟩ fun q ao=>?_
  have:=(o9.1 ao).1
  rw[av]at this;exact this
 split at h
 ·split at h
  ·rename_i d av
   split at h
   ·cases h; exact one av
   ·cases h
  ·cases h
 ·split at h
  ·split at h
   ·rename_i d av
    split at h
    ·cases h; exact one av
    ·cases h
   ·cases h
  ·split at h
   ·rename_i e
    cases h;exact ZJ e
   ·cases h
theorem GD{id:Nat}:∀ H:bx,jW [id] H (l9 id H)
 | []=>bR.refl []
 | (k,b) :: r=>fun q v ao ad=>by
  have cu:=(e4 ao).1;unfold l9 at ad
  split at ad
  ·rename_i e
   have ab:=Nat.eq_of_beq_eq_true e;exact⟨v,by rw[cl,if_neg (by rw[ab]; exact cu)]; exact ad,fun _=>rfl⟩
  ·rw[cl]at ad ⊢
   split at ad
   ·rename_i e; rw[if_pos e]; exact⟨_,rfl,fun _=>by cases ad; rfl⟩
   ·rename_i e; rw[if_neg e]; exact GD r q v ao ad
theorem GF{js ks:List Nat} {V:List Nat}:∀ H:bx,jW V H (iP js ks H)
 | []=>bR.refl []
 | (k,b) :: r=>fun q v ao ad=>by
  unfold iP at ad
  split at ad
  ·rename_i e
   obtain⟨u,J,U⟩:=GF r q v ao ad
   by_cases cu:q=k
   ·subst cu
    exact(GG e ad).elim
   ·exact⟨u,by rw[cl,if_neg cu]; exact J,U⟩
  ·rw[cl]at ad ⊢
   split at ad
   ·rename_i e; cases ad; rw[if_pos e]; exact⟨b,rfl,fun aA=>Y5 aA⟩
   ·rename_i e; rw[if_neg e]; exact GF r q v ao ad
where GG {js ks:List Nat} {k:Nat} (ab:js.elem k=true) {v:ct}:∀ {H:bx},aU (iP js ks H) k=some v->False
 | [],h=>by cases h
 | (j,b) :: r,h=>by
  unfold iP at h
  split at h
  ·exact GG ab h
  ·rename_i e
   rw[cl,if_neg (fun cm=>by subst cm; exact absurd ab (by simp_all))]at h;exact GG ab h
theorem NA{ps:eg} {i j:Nat} (h:aU ps i=some j) {q:Nat} (ao:ey q (kg ps)=false):q≠j:=by
 induction ps with
 | nil=>cases h
 | cons p r bA=>
  obtain⟨a,b⟩:=p;rw[cl]at h;have mh:ey q (b :: kg r)=false:=ao
  split at h
  ·cases h; exact(e4 mh).1
  ·exact bA h (e4 mh).2
theorem NB{ps iS:eg}:∀ {is:List Nat} {H h H1:bx},oe ps iS is H=some (h,H1)->jW (kg ps) H H1
 | [],H,h,H1,aq=>by cases aq; exact bR.refl _
 | i :: is,H,h,H1,aq=>by
  unfold oe at aq
  split at aq
  ·rename_i j aR
   split at aq
   ·split at aq
    ·rename_i b aN FV ae az
     cases aq;have J:=NB az;refine((GD H).trans J).more fun q ao=>o9.2 ⟨ao,pT.2 ⟨NA aR ao,rfl⟩⟩
    ·cases aq
   ·cases aq
  ·cases aq
theorem NC{ps:eg}:∀ {h aO:bx},td ps h=some aO->∀ q,ey q (kg ps)=false->ey q (aO.map (·.1))=false
 | [],aO,e,q,ao=>by cases e; rfl
 | (i,b) :: r,aO,e,q,ao=>by
  unfold td at e
  split at e
  ·rename_i j jt a1 aR ae az
   cases e;exact pT.2 ⟨NA aR ao,NC az q ao⟩
  ·cases e
theorem ZK{X:br} {n:Nat} {e:bI X} {ps:eg} {st st':aM} {d:Nat} {args:List bf} {p:vR X e} {r:e.aP} (aq:sb X n e ps st.H args=some p) (h:after X e ps st d p r=some st'):cN (d :: kg ps) st st':=by
 unfold after at h
 split at h
 ·rename_i k2 nw aC aW
  have ab:=NC aW
  split at h
  ·cases h
   refine⟨(bR.cons (V:=[]) (bR.refl _)).more fun q ao=>pT.2 ⟨(e4 ao).1,rfl⟩,(bR.append (V:=[]) (bR.refl _) rfl).more fun q ao=>o9.2 ⟨ab q (e4 ao).2,rfl⟩⟩
  ·cases h
   have J:jW (kg ps) st.H p.H1:=by
    unfold sb at aq
    split at aq
    ·rename_i lJ
     split at aq
     ·split at aq
      ·cases aq; exact NB lJ
      ·cases aq
     ·cases aq
    ·cases aq
   refine⟨(bR.cons (V:=[]) (Y7 _ _)).more fun q ao=>pT.2 ⟨(e4 ao).1,rfl⟩,?_⟩;refine(bR.append (J.trans (GF (V:=[]) _)) rfl).more fun q ao=>?_
   have U:=(e4 ao).2;exact o9.2 ⟨ab q U,o9.2 ⟨rfl,U⟩⟩
 ·cases h
end
section
def yC(X:br) (n:Nat) (st:aM) (d:Nat):Op->Option (Bool×aM)
 | .range t u=>match X.tt.find t,bm X st.L u with
  | some ⟨⟨.string,_,_,_⟩,_⟩,some (g,.c (.str s))=>some (g,⟨(d,.c (.ptr d 0)) :: eJ d .dead st.L,(d,.hq ⟨s.toArray⟩ 0) :: dq d .dead st.H⟩)
  | _,_=>none
 | .index t u x=>match X.tt.find t with
  | some ⟨⟨.string,_,_,_⟩,_⟩=>match bm X st.L u,bm X st.L x with
   | some (g,.c (.str s)),some (g2,.c (.val (.int _ z)))=>some (g&&(g2&&bl z s.length),⟨(d,.c (.val (.int .u8 ((s.getD z.toNat 0).toNat:Int)))) :: st.L,st.H⟩)
   | _,_=>none
  | some ⟨⟨.array m e,_,_,_⟩,_⟩=>match Gx X e,bm X st.L u,bm X st.L x with
   | some (dr,g),some (g1,qU),some (g2,.c (.val (.int _ z)))=>match Bv g m qU,Nat.beq g.size dr.bk.size,decEq (jn dr.bk.desc) g.mT,g.mT || Nat.beq g.size 1 with
    | some (c,l),true,isTrue _,true=>match nB g (l.getD z.toNat g.zero)with
     | some bq=>some (g1&&(g2&&(c&&(bl z m&&bl z l.length))),⟨(d,.a bq) :: st.L,st.H⟩)
     | none=>none
    | _,_,_,_=>none
   | _,_,_=>none
  | _=>none
 | .convert t bQ u=>match X.tt.find t,X.tt.find bQ,bm X st.L u with
  | some ⟨⟨.slice e,_,_,_⟩,_⟩,some ⟨⟨.string,_,_,_⟩,_⟩,some (g,qU)=>match X.tt.find e,kZ st (.int .u8) qU with
   | some ⟨⟨.int .u8,_,_,_⟩,_⟩,some l=>some (g&&Bw l,⟨(d,.c (.str (r7 l))) :: st.L,st.H⟩)
   | _,_=>none
  | _,_,_=>none
 | .slice t u lo hi none=>match X.tt.find t,bm X st.L u with
  | some ⟨⟨.string,_,_,_⟩,_⟩,some (g,.c (.str s))=>match lo,hi with
   | some x,none=>match bm X st.L x with
    | some (g2,.c (.val (.int _ z)))=>some (g&&(g2&&(decide (0<=z)&&decide (z<=(s.length:Int)))),⟨(d,.c (.str (s.drop z.toNat))) :: st.L,st.H⟩)
    | _=>none
   | none,some x=>match bm X st.L x with
    | some (g2,.c (.val (.int _ z)))=>some (g&&(g2&&(decide (0<=z)&&decide (z<=(s.length:Int)))),⟨(d,.c (.str (s.take z.toNat))) :: st.L,st.H⟩)
    | _=>none
   | some x,some y=>match bm X st.L x,bm X st.L y with
    | some (g2,.c (.val (.int _ z))),some (g3,.c (.val (.int _ z2)))=>some (g&&(g2&&(g3&&(decide (0<=z)&&(decide (z<=z2)&&decide (z2<=(s.length:Int)))))),⟨(d,.c (.str ((s.take z2.toNat).drop z.toNat))) :: st.L,st.H⟩)
    | _,_=>none
   | none,none=>none
  | _,_=>none
 | .slice t u none (some y) (some v)=>match X.tt.find t,bm X st.L u,bm X st.L y,bm X st.L v with
  | some ⟨⟨.slice e,_,_,_⟩,_⟩,some (g1,.c (.an id)),some (g2,.c (.val (.int _ z))),some (g3,.c (.iK ZL))=>match X.tt.find e,aU st.H id,Nat.beq ZL id,Nat.blt d n&&Nat.blt id hZ with
   | some _,some (.row T g l cap),true,true=>some (g1&&(g2&&(g3&&(decide (0<=z)&&decide (z<=(l.length:Int))))),⟨(d,.c (.an id)) :: eJ id .dead st.L,(id,.row T g (l.take z.toNat) cap) :: dq id .dead st.H⟩)
   | _,_,_,_=>none
  | _,_,_,_=>none
 | .load t x=>match X.tt.find t,bm X st.L x with
  | some ⟨⟨.array m e,cA,b,jM⟩,qk⟩,some (g1,.c (.dZ id _ 0 0))=>match aU st.H id with
   | some (.row _ g l _)=>match Nat.beq cA (m * g.size)with
    | true=>some (g1&&decide (l.length=m),⟨(d,.a (.arr g l)) :: st.L,st.H⟩)
    | false=>none
   | _=>none
  | some ⟨⟨.array m e,cA,b,jM⟩,qk⟩,some (g1,.c (.par g l))=>match Nat.beq cA (m * g.size)with
   | true=>some (g1&&decide (l.length=m),⟨(d,.a (.arr g l)) :: st.L,st.H⟩)
   | false=>none
  | _,_=>none
 | .call ⟨.builtin .append,⟨[x,y]⟩,⟨[t,t2]⟩⟩=>match Nat.beq t2 t,X.tt.find t,bm X st.L x,bm X st.L y with
  | true,some ⟨⟨.slice e,_,_,_⟩,_⟩,some (g1,.c (.an id)),some (g2,dH)=>match X.tt.find e,aU st.H id with
   | some ⟨⟨_,cA,gJ,_⟩,some _⟩,some (.fk cm g l)=>match Nat.beq cm e,Nat.beq g.size cA,kZ st g dH,Nat.blt id hZ with
    | true,true,some bw,true=>some (g1&&(g2&&en gJ (l.length+bw.length)),⟨(d,.c (.an id)) :: eJ id .dead st.L,(id,.fk e g (l++bw)) :: dq id .dead st.H⟩)
    | _,_,_,_=>none
   | _,_=>none
  | true,some ⟨⟨.slice e,_,_,_⟩,_⟩,some (g1,.c (.bn g l (some c))),some (g2,dH)=>match X.tt.find e with
   | some ⟨⟨_,cA,gJ,_⟩,some _⟩=>match Nat.beq g.size cA,kZ st g dH with
    | true,some bw=>some (g1&&(g2&&(en gJ (l.length+bw.length)&&decide (c=l.length))),⟨(d,.c (.an d)) :: eJ d .dead st.L,(d,.fk e g (l++bw)) :: dq d .dead st.H⟩)
    | _,_=>none
   | _=>none
  | _,_,_,_=>none
 | .call ⟨.builtin .copy,⟨[x,y]⟩,⟨[t,t2]⟩⟩=>match Nat.beq t2 t,X.tt.find t,bm X st.L x,bm X st.L y with
  | true,some ⟨⟨.slice e,_,_,_⟩,_⟩,some (g1,.c (.an id)),some (g2,dH)=>match X.tt.find e,aU st.H id with
   | some ⟨⟨_,cA,gJ,_⟩,some _⟩,some (.row cm g l cap)=>match Nat.beq cm e,Nat.beq g.size cA,kZ st g dH with
    | true,true,some bw=>some (g1&&(g2&&Nat.beq bw.length l.length),⟨(d,.c (.val (.int .i64 (l.length:Int)))) :: st.L,ef id (.row e g bw cap) st.H⟩)
    | _,_,_=>none
   | _,_=>none
  | true,some ⟨⟨.slice e,_,_,_⟩,_⟩,some (g1,.c (.iB id s p)),some (g2,dH)=>match X.tt.find e,aU st.H id with
   | some ⟨⟨_,cA,gJ,_⟩,some _⟩,some (.row cm g l cap)=>match Nat.beq cm e,Nat.beq g.size cA,Nat.beq s cA,kZ st g dH,Nat.blt 0 cA with
    | true,true,true,some bw,true=>some (g1&&(g2&&decide (p+bw.length<=l.length)),⟨(d,.c (.val (.int .i64 (bw.length:Int)))) :: st.L,ef id (.row e g (l.take p++bw++l.drop (p+bw.length)) cap) st.H⟩)
    | _,_,_,_,_=>none
   | _,_=>none
  | _,_,_,_=>none
 | _=>none
def yD(X:br) (st:aM):Op->Option (Bool×aM)
 | .store t x y=>match X.tt.find t,bm X st.L x,bm X st.L y with
  | some bj,some (g1,.c (.dZ id 1 i 0)),some (g2,.c (.an d))=>match aU st.H id,aU st.H d,Nat.beq bj.bk.size 1 with
   | some (.row T (.an g) l cap),some (.row _ _ _ _),true=>some (g1&&(g2&&decide (i < l.length)),⟨st.L,ef id (.cC false T g l cap i d) st.H⟩)
   | some (.row T (.gI g) l cap),some (.row _ _ bw (some q)),true=>some (g1&&(g2&&(decide (i < l.length)&&Nat.beq q bw.length)),⟨st.L,ef id (.cC true T g l cap i d) st.H⟩)
   | some (.b5 T T' g l cap h),_,true=>some (g1&&(g2&&(tI h i&&decide (i < l.length))),⟨st.L,ef id (.b5 T T' g l cap (some (i,some d))) st.H⟩)
   | _,_,_=>none
  | _,_,_=>none
 | _=>none
section
variable {X:br} {n:Nat} {st st':aM} {o:Oper} {d:Nat}
theorem ZM{e:TypeId} {bj:bh} {g:aQ} (h:Gx X e=some (bj,g)):X.tt.find e=some bj/\bj.g=some g:=by
 unfold Gx at h
 split at h
 ·rename_i J
  split at h
  ·rename_i U; cases h; exact⟨J,U⟩
  ·cases h
 ·cases h
theorem ZN(ar:X.tt.ok X.P) {c:Bool} (h:yD X st o.op=some (c,st')) (aa:c=true) (a6:o.guard=none/\o.dst=none):fg X n o st st':=by
 unfold yD at h
 split at h
 ·rename_i ax
  split at h
  ·rename_i aV aj aT
   split at h
   ·rename_i J U ah
    cases h;simp only[Bool.and_eq_true]at aa;exact YF ar ax a6 aV ah aj aa.1 aT aa.2.1 J U aa.2.2
   ·rename_i J U ah
    cases h;simp only[Bool.and_eq_true]at aa;exact YH ar ax a6 aV ah aj aa.1 aT aa.2.1 J U aa.2.2.1 aa.2.2.2
   ·rename_i J ah
    cases h;simp only[Bool.and_eq_true]at aa;exact Ng ar ax a6 aV ah aj aa.1 aT aa.2.1 J aa.2.2.1 aa.2.2.2
   ·cases h
  ·cases h
 ·cases h
theorem ZO{c:Bool} {op:Op} (h:yD X st op=some (c,st')):∃ id,cN [id] st st'/\(∃ t x y g1 i,op=.store t x y/\bm X st.L x=some (g1,.c (.dZ id 1 i 0))):=by
 unfold yD at h
 split at h
 ·split at h
  ·rename_i aV aj aT
   split at h
   ·cases h
    exact⟨_,⟨bR.refl _,ix (h5 _ _)⟩,_,_,_,_,_,rfl,aj⟩
   ·cases h
    exact⟨_,⟨bR.refl _,ix (h5 _ _)⟩,_,_,_,_,_,rfl,aj⟩
   ·cases h
    exact⟨_,⟨bR.refl _,ix (h5 _ _)⟩,_,_,_,_,_,rfl,aj⟩
   ·cases h
  ·cases h
 ·cases h
theorem ZP(ar:X.tt.ok X.P) {c:Bool} (h:yC X n st d o.op=some (c,st')) (aa:c=true) (a6:o.guard=none/\o.dst=some d) (av:Nat.blt d n=true):fg X n o st st':=by
 unfold yC at h
 split at h
 ·rename_i ax
  split at h
  ·rename_i aV hu
   cases h;exact YU ar ax a6 av aV rfl hu aa
  ·cases h
 ·rename_i ax
  split at h
  ·rename_i aV
   split at h
   ·rename_i hu aj
    cases h;simp only[Bool.and_eq_true]at aa;exact Yz ar ax a6 av aV rfl hu aa.1 aj aa.2.1 aa.2.2
   ·cases h
  ·rename_i aV
   split at h
   ·rename_i he hu aj
    obtain⟨lE,k5⟩:=ZM he
    split at h
    ·rename_i ah J U _ au
     split at h
     ·rename_i aF
      cases h;simp only[Bool.and_eq_true]at aa;exact YK _ _ _ ar ax a6 av aV rfl lE U ah au hu aa.1 aj aa.2.1 J aa.2.2.1 aa.2.2.2.1 aa.2.2.2.2 aF
     ·cases h
    ·cases h
   ·cases h
  ·cases h
 ·rename_i ax
  split at h
  ·rename_i aV xN hu
   split at h
   ·rename_i he ak
    cases h;simp only[Bool.and_eq_true]at aa;exact YN ar ax a6 av aV rfl xN rfl he rfl hu aa.1 ak aa.2
   ·cases h
  ·cases h
 ·rename_i ax
  split at h
  ·rename_i aV hu
   split at h
   ·split at h
    ·rename_i aj
     cases h;simp only[Bool.and_eq_true]at aa;exact YP ar ax a6 av aV rfl hu aa.1 aj aa.2.1 aa.2.2.1 aa.2.2.2
    ·cases h
   ·split at h
    ·rename_i aj
     cases h;simp only[Bool.and_eq_true]at aa;exact YQ ar ax a6 av aV rfl hu aa.1 aj aa.2.1 aa.2.2.1 aa.2.2.2
    ·cases h
   ·split at h
    ·rename_i aj aT
     cases h;simp only[Bool.and_eq_true]at aa;exact YR ar ax a6 av aV rfl hu aa.1 aj aa.2.1 aT aa.2.2.1 aa.2.2.2.1 aa.2.2.2.2.1 aa.2.2.2.2.2
    ·cases h
   ·cases h
  ·cases h
 ·rename_i ax
  split at h
  ·rename_i aV hu aT aB
   split at h
   ·rename_i he ad hid a7
    cases h
    have:=Nat.eq_of_beq_eq_true hid
    subst this;rw[Bool.and_eq_true,Bool.and_eq_true,Bool.and_eq_true]at aa;exact Y0 ar ax a6 a7 aV rfl he hu aa.1 aT aa.2.1 aB aa.2.2.1 ad aa.2.2.2
   ·cases h
  ·cases h
 ·rename_i ax
  split at h
  ·rename_i aV aj
   split at h
   ·rename_i ad
    split at h
    ·rename_i cQ
     cases h;simp only[Bool.and_eq_true]at aa;exact YL ar ax a6 av aV rfl aj aa.1 ad cQ aa.2
    ·cases h
   ·cases h
  ·rename_i aV aj
   split at h
   ·rename_i cQ
    cases h;simp only[Bool.and_eq_true]at aa;exact YM ar ax a6 av aV rfl aj aa.1 cQ aa.2
   ·cases h
  ·cases h
 ·rename_i ax
  split at h
  ·rename_i aN aV aj aT
   have:=Nat.eq_of_beq_eq_true aN
   subst this
   split at h
   ·rename_i he ad
    split at h
    ·rename_i J U ah au
     have:=Nat.eq_of_beq_eq_true J
     subst this;cases h;simp only[Bool.and_eq_true]at aa;exact X7 ar ax a6 (by rw[av,au]; rfl) aV rfl he aj aa.1 aT aa.2.1 ad U ah aa.2.2
    ·cases h
   ·cases h
  ·rename_i aN aV aj aT
   have:=Nat.eq_of_beq_eq_true aN
   subst this
   split at h
   ·rename_i he
    split at h
    ·rename_i U ah
     cases h;simp only[Bool.and_eq_true]at aa;exact YS ar ax a6 av aV rfl he aj aa.1 aT aa.2.1 U ah aa.2.2.1 aa.2.2.2
    ·cases h
   ·cases h
  ·cases h
 ·rename_i ax
  split at h
  ·rename_i aN aV aj aT
   have:=Nat.eq_of_beq_eq_true aN
   subst this
   split at h
   ·rename_i he ad
    split at h
    ·rename_i J U ah
     have:=Nat.eq_of_beq_eq_true J
     subst this;cases h;simp only[Bool.and_eq_true]at aa;exact Yk ar ax a6 av aV rfl he aj aa.1 aT aa.2.1 ad U ah aa.2.2
    ·cases h
   ·cases h
  ·rename_i aN aV aj aT
   have:=Nat.eq_of_beq_eq_true aN
   subst this
   split at h
   ·rename_i he ad
    split at h
    ·rename_i J U au ah aF
     have:=Nat.eq_of_beq_eq_true J
     subst this;cases h;simp only[Bool.and_eq_true]at aa;exact YY ar ax a6 av aV rfl he aj aa.1 aT aa.2.1 ad U au ah aF aa.2.2
    ·cases h
   ·cases h
  ·cases h
 ·cases h
def tN(X:br) (st:aM) (d:Nat):Op->List Nat
 | .call ⟨.builtin _,⟨[x,_]⟩,_⟩=>match bm X st.L x with
  | some (_,.c (.an id))=>[d,id]
  | some (_,.c (.iB id _ _))=>[d,id]
  | _=>[d]
 | .slice _ u none (some _) (some _)=>match bm X st.L u with
  | some (_,.c (.an id))=>[d,id]
  | _=>[d]
 | _=>[d]
def ND(X:br) (st:aM):Op->List Nat
 | .store _ x _=>match bm X st.L x with
  | some (_,.c (.dZ id _ _ _))=>[id]
  | _=>[]
 | _=>[]
theorem jY{sv:b0}:cN [d] st ⟨(d,sv) :: st.L,st.H⟩:=⟨bR.cons (V:=[]) (bR.refl _),(bR.refl _)⟩
theorem ZQ{c:Bool} {op:Op} (h:yC X n st d op=some (c,st')):cN (tN X st d op) st st':=by
 unfold yC at h
 split at h
 ·split at h
  ·cases h
   exact⟨bR.cons (iw _ _ _),bR.cons (V:=[]) (h4 _ _ _)⟩
  ·cases h
 ·split at h
  ·split at h
   ·cases h; exact jY
   ·cases h
  ·split at h
   ·split at h
    ·split at h
     ·cases h; exact jY
     ·cases h
    ·cases h
   ·cases h
  ·cases h
 ·split at h
  ·split at h
   ·cases h; exact jY
   ·cases h
  ·cases h
 ·split at h
  ·split at h
   ·split at h
    ·cases h; exact jY
    ·cases h
   ·split at h
    ·cases h; exact jY
    ·cases h
   ·split at h
    ·cases h; exact jY
    ·cases h
   ·cases h
  ·cases h
 ·split at h
  ·rename_i aV hu aT aB
   split at h
   ·cases h
    unfold tN;simp only[hu];exact⟨bR.cons (iw _ _ _),(bR.cons (V:=[]) (h4 _ _ _)).more fun q ao=>(e4 ao).2⟩
   ·cases h
  ·cases h
 ·split at h
  ·split at h
   ·split at h
    ·cases h; exact jY
    ·cases h
   ·cases h
  ·split at h
   ·cases h; exact jY
   ·cases h
  ·cases h
 ·split at h
  ·rename_i aN aV aj aT
   split at h
   ·split at h
    ·cases h
     unfold tN;simp only[aj];exact⟨bR.cons (iw _ _ _),(bR.cons (V:=[]) (h4 _ _ _)).more fun q ao=>(e4 ao).2⟩
    ·cases h
   ·cases h
  ·rename_i aN aV aj aT
   split at h
   ·split at h
    ·cases h
     unfold tN;simp only[aj];exact⟨bR.cons (iw _ _ _),bR.cons (V:=[]) (h4 _ _ _)⟩
    ·cases h
   ·cases h
  ·cases h
 ·split at h
  ·rename_i aN aV aj aT
   split at h
   ·split at h
    ·cases h
     unfold tN;simp only[aj];exact⟨(bR.cons (V:=[]) (bR.refl _)).more fun q ao=>by
      obtain⟨J,_⟩:=e4 ao;unfold ey
      split
      ·rename_i e; exact absurd (Nat.eq_of_beq_eq_true e).symm J
      ·rfl,ix (by unfold ey; split<;>first | rfl | (exact h5 _ _))⟩
    ·cases h
   ·cases h
  ·rename_i aN aV aj aT
   split at h
   ·split at h
    ·cases h
     unfold tN;simp only[aj];exact⟨(bR.cons (V:=[]) (bR.refl _)).more fun q ao=>by
      obtain⟨J,_⟩:=e4 ao;unfold ey
      split
      ·rename_i e; exact absurd (Nat.eq_of_beq_eq_true e).symm J
      ·rfl,ix (by unfold ey; split<;>first | rfl | (exact h5 _ _))⟩
    ·cases h
   ·cases h
  ·cases h
 ·cases h
def tO(X:br) (n:Nat) (st:aM) (o:Oper):Option (Bool×aM×List Nat):=match o.guard with
 | none=>match o.dst with
  | some d=>match Nat.blt d n with
   | true=>match v8 X st o.op with
    | some (c,bq)=>some (c,⟨(d,.a bq) :: st.L,st.H⟩,[d])
    | none=>match yC X n st d o.op with
     | some (c,st')=>some (c,st',tN X st d o.op)
     | none=>none
   | false=>none
  | none=>match yD X st o.op with
   | some (c,st')=>some (c,st',ND X st o.op)
   | none=>none
 | some _=>none
theorem gT.nG{bq:bf} (aq:gT X st o bq) (a6:o.guard=none/\o.dst=some d) (av:Nat.blt d n=true):fg X n o st ⟨(d,.a bq) :: st.L,st.H⟩:=by
 intro R W aG ks env B ai H a w ag KK l bS;obtain⟨v,J,U⟩:=aq ag;exact fU ag.bL a6.1 a6.2 (du av) (U w fun _=>ag.aJ) fun aS aI=>bS aS w env H (ag.set (sv:=.a bq) J aI)
theorem GH(ar:X.tt.ok X.P) {c:Bool} {V:List Nat} (h:tO X n st o=some (c,st',V)) (aa:c=true):fg X n o st st':=by
 unfold tO at h
 split at h
 ·rename_i aL
  split at h
  ·rename_i d av
   split at h
   ·rename_i ae
    split at h
    ·rename_i e
     cases h;exact gT.nG (fun ag=>BQ ar e aa ag) ⟨aL,av⟩ ae
    ·split at h
     ·rename_i e
      cases h;exact ZP ar e aa ⟨aL,av⟩ ae
     ·cases h
   ·cases h
  ·rename_i av
   split at h
   ·rename_i e
    cases h;exact ZN ar e aa ⟨aL,av⟩
   ·cases h
 ·cases h
theorem GI{c:Bool} {V:List Nat} (h:tO X n st o=some (c,st',V)):cN V st st':=by
 unfold tO at h
 split at h
 ·split at h
  ·split at h
   ·split at h
    ·cases h; exact jY
    ·split at h
     ·rename_i e
      cases h;exact ZQ e
     ·cases h
   ·cases h
  ·split at h
   ·rename_i e
    cases h;obtain⟨id,J,t,x,y,g1,i,ax,U⟩:=ZO e;unfold ND;rw[ax];simp only[U];exact J
   ·cases h
 ·cases h
end
end
section
set_option linter.unusedSectionVars false
theorem ZR{P:Program} {tt:bV} (ar:tt.ok P) (e:Bool) (m:Nat):∀ (k:Nat) (t:TypeId) (g:aQ) (x:g.D) (w:World),g.key=true->kF P tt k t g=true->(Instr.checkKey e (m+k) t (oZ tt t (g.cG x))).run P w=.ok () w:=by
 intro k
 induction k with
 | zero=>intro t g x w _ h; cases h
 | succ k bA=>
  intro t g x w ab h;unfold kF at h;cases aA:tt.find t with
  | none=>simp[aA]at h
  | some bj=>
   rw[aA]at h;dsimp only at h;have gY:=(bV.get ar aA).bk.1;unfold oZ;rw[aA];dsimp only
   split at h
   ·rename_i jN av
    rw[av]at gY ⊢;cases g with
    | int ek=>
     show(Instr.checkKey e (m+k+1) t (.int ek x)).run P w=_;unfold Instr.checkKey
     simp[run_underlying gY,Result.andThen]
    | _=>cases h
   ·rename_i av
    rw[av]at gY ⊢;cases g with
    | bool=>
     show(Instr.checkKey e (m+k+1) t (.bool x)).run P w=_;unfold Instr.checkKey
     simp[run_underlying gY,Result.andThen]
    | _=>cases h
   ·rename_i av
    rw[av]at gY ⊢;cases g with
    | str=>
     show(Instr.checkKey e (m+k+1) t (eP x)).run P w=_;unfold Instr.checkKey
     simp[run_underlying gY,Result.andThen]
    | _=>cases h
   ·rename_i cX av
    rw[av]at gY ⊢;simp only[Bool.and_eq_true,Bool.not_eq_true']at h;show(Instr.checkKey e (m+k+1) t (.agg (g.cG x).toArray)).run P w=_;rw[Instr.checkKey];simp only[Sem.run_bind,run_underlying gY,Result.andThen_ok];rw[<- Array.forIn_toList];have U:=h.2.2
    clear gY av h
    obtain⟨xs,pO⟩:∃ xs:Array Value,xs=(g.cG x).toArray:=⟨_,rfl⟩
    rw[<- pO];have aj:xs.toList.drop 0=g.cG x:=by rw[pO]; simp
    clear pO
    obtain⟨off,NF⟩:∃ off:Nat,off=0:=⟨_,rfl⟩
    rw[<- NF]at U aj
    clear NF
    generalize cX.toList=L at U
    induction L generalizing off g with
    | nil=>simp[jz]at U
    | cons f L x7=>
     cases L with
     | nil=>
      have aO : (decide (f.name ≠ "_") && (Nat.beq f.offset off && kF P tt k f.type g)) = true := by
       cases g<;>exact U
      simp only[Bool.and_eq_true,decide_eq_true_eq]at aO;obtain⟨a7,a6,he⟩:=aO;have a6:=Nat.eq_of_beq_eq_true a6;simp only[List.forIn_cons,List.forIn_nil,Sem.run_bind,a7,ne_eq,not_false_eq_true,if_true,a6,vK ar ab he (r:=[]) (by rw[aj,List.append_nil]),Result.andThen_ok,bA _ _ _ _ ab he,Sem.run_pure]
     | cons f2 L=>
      cases g with
      | pair g ah=>
       have aO : (decide (f.name ≠ "_") && (Nat.beq f.offset off && (kF P tt k f.type g && jz (kF P tt k) (off + g.size) (f2 :: L) ah))) = true := U
       simp only[Bool.and_eq_true,decide_eq_true_eq]at aO;obtain⟨a7,a6,he,az⟩:=aO;have a6:=Nat.eq_of_beq_eq_true a6;simp only[aQ.key,Bool.and_eq_true]at ab;have jS:xs.toList.drop off=g.cG x.1++ah.cG x.2:=aj;have o0:=x7 ah x.2 ab.2 (off+g.size) (by rw[<- List.drop_drop,jS,<- vJ x.1 ab.1,List.drop_left]) az;rw[List.forIn_cons];simp only[Sem.run_bind,a7,ne_eq,not_false_eq_true,if_true,a6,vK ar ab.1 he jS,Result.andThen_ok,bA _ _ _ _ ab.1 he,Sem.run_pure];exact o0
      | int _=>simp[jz]at U
      | bool=>simp[jz]at U
      | str=>simp[jz]at U
      | an _=>simp[jz]at U
      | gI _=>simp[jz]at U
      | unit=>simp[jz]at U
      | fn=>simp[jz]at U
   ·cases h
structure oh(P:Program) (t:TypeId) (g:aQ):Prop where
 eq:r5 P t g
 we:∀ (e:Bool) (x:g.D) (w:World),(Instr.checkKey e 10000 t (.agg (g.cG x).toArray)).run P w=.ok () w
 str:∃ cX,P.underlying t=some (.struct cX)
 pU:∃ a b,g=.pair a b
theorem oh.of{P:Program} {tt:bV} (ar:tt.ok P) {t:TypeId} {bj:bh} {a b:aQ} {cX:Array Field} (ab:(aQ.pair a b).key=true) (aA:tt.find t=some bj) (av:bj.bk.desc=.struct cX) (h:kF P tt 12 t (.pair a b)=true) (aL:P.eqGuardType P.depth t=false):oh P t (.pair a b):=by
 refine⟨.of ar ab aA av h aL,fun e x w=>?_,⟨cX,?_⟩,⟨_,_,rfl⟩⟩
 ·have:=ZR ar e 9988 12 t (.pair a b) x w ab h
  unfold oZ at this;rw[aA]at this;dsimp only at this;rw[av]at this;exact this
 ·have:=(bV.get ar aA).bk.1
  rw[av]at this;exact this
section
variable {P:Program} {B:Nat->Prop} {w:World} {gk aZ:aQ} {t:TypeId}
theorem ea.key{g:aQ} (aL:∃ a b,g=.pair a b) (ab:g.key=true) {x:g.D} {v:Value} (h:ea B w g x v):v=.agg (g.cG x).toArray:=by
 obtain⟨a,b,rfl⟩:=aL;obtain⟨vs,e,J⟩:=h;rw[e,bz.cG ab J]
theorem ea.GJ{g:aQ} (aL:∃ a b,g=.pair a b) (ab:g.key=true) (x:g.D):ea B w g x (.agg (g.cG x).toArray):=by
 obtain⟨a,b,rfl⟩:=aL;exact⟨_,rfl,GK ab x⟩
where GK:∀ {g:aQ} (ab:g.key=true) (x:g.D),bz B w g x (g.cG x)
 | .int _,_,_=>rfl
 | .bool,_,_=>rfl
 | .str,_,_=>rfl
 | .an _,h,_=>by cases h
 | .gI _,h,_=>by cases h
 | .unit,h,_=>by cases h
 | .fn,h,_=>by cases h
 | .pair g h,ab,x=>by
  simp only[aQ.key,Bool.and_eq_true]at ab;exact⟨_,_,rfl,GK ab.1 x.1,GK ab.2 x.2⟩
theorem NG{g:aQ} {x y:g.D} (ab:g.key=true):g.beq x y=g.beq y x:=by
 cases J:g.beq x y with
 | true=>exact((beq_iff y x ab).2 ((beq_iff x y ab).1 J).symm).symm
 | false=>
  cases U:g.beq y x with
  | true=>rw[(beq_iff x y ab).2 ((beq_iff y x ab).1 U).symm]at J; cases J
  | false=>rfl
theorem BT(bS:oh P t gk) (x y:gk.D) (bZ:World):(Op.equal t (.agg (gk.cG x).toArray) (.agg (gk.cG y).toArray)).run P bZ=.ok (gk.beq x y) bZ:=bS.eq.eq x y bZ
theorem fW.yE(bS:oh P t gk) {z:gk.D} (bZ:World):∀ {l:List (gk.D×aZ.D)} {es:List MapEntry} (i:Nat),fW B w gk aZ l es ->
  (cJ gk aZ l z=none/\(Instr.findAsking t (.agg (gk.cG z).toArray) es i).run P bZ=.ok none bZ)\/∃ x j v,cJ gk aZ l z=some x/\(Instr.findAsking t (.agg (gk.cG z).toArray) es i).run P bZ=.ok (some (i+j,v)) bZ/\ea B w aZ x v/\j < es.length
 | [],_,i,h=>by rw[show _=[] from h]; exact .inl ⟨rfl,rfl⟩
 | x :: l,_,i,⟨e,r,he,J,U,ah⟩=>by
  subst he;have ab:=ea.key bS.pU bS.eq.key J;unfold Instr.findAsking cJ;rw[ab];simp only[Sem.run_bind,BT bS z x.1 bZ,Result.andThen_ok];rw[NG (x:=z) (y:=x.1) bS.eq.key];cases ae:gk.beq x.1 z with
  | true=>exact .inr ⟨x.2,0,e.val,rfl,rfl,U,by simp⟩
  | false=>
   rcases fW.yE bS bZ (i+1) ah with⟨au,aF⟩ | ⟨y,j,v,au,aF,aY,bK⟩
   ·exact .inl ⟨au,by simpa using aF⟩
   ·exact .inr ⟨y,j+1,v,au,by simpa [Nat.add_assoc,Nat.add_comm 1 j] using aF,aY,by simpa using bK⟩
theorem fW.wg(bS:oh P t gk) {z:gk.D} {eK:aZ.D} {vv:Value} (bZ:World) (aB:ea B w aZ eK vv):∀ {l:List (gk.D×aZ.D)} {es:List MapEntry} (i:Nat),fW B w gk aZ l es ->
  ((Instr.findAsking t (.agg (gk.cG z).toArray) es i).run P bZ=.ok none bZ/\eD gk aZ l z eK=l++[(z,eK)]) \/
  ∃ j v e,(Instr.findAsking t (.agg (gk.cG z).toArray) es i).run P bZ=.ok (some (i+j,v)) bZ/\es[j]?=some e/\e.key=.agg (gk.cG z).toArray/\fW B w gk aZ (eD gk aZ l z eK) (es.modify j fun e=>{ e with key:=.agg (gk.cG z).toArray,val:=vv })
 | [],_,i,h=>by rw[show _=[] from h]; exact .inl ⟨rfl,rfl⟩
 | x :: l,_,i,⟨e,r,he,J,U,ah⟩=>by
  subst he;have ab:=ea.key bS.pU bS.eq.key J;unfold Instr.findAsking eD;rw[ab];simp only[Sem.run_bind,BT bS z x.1 bZ,Result.andThen_ok];rw[NG (x:=z) (y:=x.1) bS.eq.key];cases ae:gk.beq x.1 z with
  | true=>
   have bG:=(beq_iff x.1 z bS.eq.key).1 ae;refine .inr ⟨0,e.val,e,rfl,rfl,by rw[ab,bG],{ e with key:=.agg (gk.cG z).toArray,val:=vv },r,rfl,?_,aB,ah⟩;show ea B w gk x.1 (.agg (gk.cG z).toArray);rw[bG];exact ea.GJ bS.pU bS.eq.key z
  | false=>
   rcases fW.wg bS bZ aB (i+1) ah with⟨au,aF⟩ | ⟨j,v,cm,au,aF,aY,bK⟩
   ·exact .inl ⟨by simpa using au,by show x :: eD gk aZ l z eK=_; rw[aF]; rfl⟩
   ·exact .inr ⟨j+1,v,cm,by simpa [Nat.add_assoc,Nat.add_comm 1 j] using au,by simpa using aF,aY,e,_,rfl,J,U,bK⟩
theorem pV{cX:Array Field} (hu:P.underlying t=some (.struct cX)) {k:Value} {es:List MapEntry} {r:Option (Nat×Value)} {bZ:World} (h:(Instr.findAsking t k es 0).run P bZ=.ok r bZ):(Instr.findKey t k es).run P bZ=.ok r bZ:=by
 unfold Instr.findKey;simp only[Sem.run_bind,run_underlying hu,Result.andThen_ok];cases es with
 | nil=>exact h
 | cons e es=>
  have:Instr.findNow (.struct cX) k (e :: es) 0=none:=by
   unfold Instr.findNow Instr.sameNow
   rfl
  rw[this];exact h
theorem BU:∀ {g:aQ},g.key=true->∀ (x:g.D) (n:Nat),∀ v∈g.cG x,Instr.sameBits n v v=true
 | .int _,_,x,n,v,aB=>by
  rw[List.mem_singleton.1 aB];cases n<;>simp[Instr.sameBits]
 | .bool,_,x,n,v,aB=>by
  rw[List.mem_singleton.1 aB];cases n<;>simp[Instr.sameBits]
 | .str,_,x,n,v,aB=>by
  rw[List.mem_singleton.1 aB];have ae:(List.toArray (show List UInt8 from x) == List.toArray (show List UInt8 from x))=true:=beq_self_eq_true _;cases n with
  | zero=>exact ae
  | succ n=>exact ae
 | .an _,h,_,_,_,_=>by cases h
 | .gI _,h,_,_,_,_=>by cases h
 | .unit,h,_,_,_,_=>by cases h
 | .fn,h,_,_,_,_=>by cases h
 | .pair g h,ab,x,n,v,aB=>by
  simp only[aQ.key,Bool.and_eq_true]at ab
  rcases List.mem_append.1 aB with aB | aB
  ·exact BU ab.1 x.1 n v aB
  ·exact BU ab.2 x.2 n v aB
theorem NH{vs:List Value} (h:∀ n,∀ v∈vs,Instr.sameBits n v v=true):Instr.sameBits 10000 (.agg vs.toArray) (.agg vs.toArray)=true:=by
 rw[show(10000:Nat)=9999+1 from rfl];unfold Instr.sameBits;simp only[beq_self_eq_true,Bool.true_and,List.all_eq_true];rintro⟨a,b⟩ oi
 have:a=b/\a∈vs:=by
  clear h
  induction vs with
  | nil=>cases oi
  | cons v vs bA=>
   simp only[List.zip_cons_cons,List.mem_cons,Prod.mk.injEq]at oi
   rcases oi with⟨rfl,rfl⟩ | oi
   ·exact⟨rfl,List.mem_cons_self⟩
   ·obtain⟨cV,dU⟩:=bA oi
    exact⟨cV,List.mem_cons_of_mem _ dU⟩
 obtain⟨rfl,hm⟩:=this;exact h _ _ hm
end
section
variable {X:br} {n:Nat} {st:aM} {o:Oper} {d:Nat}
theorem ZS(ar:X.tt.ok X.P) {t fa fv:TypeId} {bj dr:bh} {gk aZ:aQ} {u x:Operand} {id:Nat} {l:List (gk.D×aZ.D)} {jA:Option (List MapEntry×Nat)} {z:gk.D} {g c:Bool} {e2 bq:bf} (bS:oh X.P fa gk) (ax:o.op=.lookup t u x false) (a6:o.guard=none/\o.dst=some d) (av:Nat.blt d n=true)
  (aV:X.tt.find t=some bj) (cP:bj.bk.desc=.map fa fv) (he:X.tt.find fv=some dr) (bG:∀ B w,ea B w aZ aZ.zero dr.bk.zero)
  (hu:bm X st.L u=some (true,.c (.cp id))) (aj:bm X st.L x=some (g,e2)) (aL:g=true) (jZ:dec gk e2.cells=some (c,z,[])) (aa:c=true) (si:kk gk e2=true) (bO:aU st.H id=some (.mp gk aZ l jA)) (iH:nB aZ ((cJ gk aZ l z).getD aZ.zero)=some bq)
  : fg X n o st ⟨(d,.a bq) :: st.L,st.H⟩:=by
 intro R W aG ks env B ai H a w ag KK hb dt;obtain⟨hM,J,b,ae,rfl⟩:=ag.aD hu rfl;obtain⟨vx,U,ah⟩:=ag.aD aj aL;have gW:=ea.key bS.pU bS.eq.key (ea.tq jZ aa si ah);rw[gW]at U;obtain⟨dk,K,⟨b',es,clock,dm,rfl,hR,dn,_⟩,dV⟩:=ag.heap.fE bO;rw[ae]at dm;cases dm;have ha:=(ag.aJ.ok _ dV.more.mem).2;have aC:=(bV.get ar aV).bk.1;rw[cP]at aC;obtain⟨cX,cB⟩:=bS.str;have gj:=bC.pw (bV.get ar he).bk w;have nC:∃ v,(Instr.lookup t (.map (some b)) (.agg (gk.cG z).toArray) false).run X.P w=.ok v w/\ea B ai aZ ((cJ gk aZ l z).getD aZ.zero) v:=by
  unfold Instr.lookup;simp only[Sem.run_bind,run_underlying aC,Result.andThen_ok,MapKept.run_getObj_map ha,bS.we,Sem.run_pure]
  rcases hR.yE bS w (z:=z) 0 with⟨au,aF⟩ | ⟨y,j,v,au,aF,aY,_⟩
  ·refine⟨dr.bk.zero,?_,by rw[au]; exact bG _ _⟩
   simp[pV cB aF,gj,Result.andThen]
  ·refine⟨v,?_,by rw[au]; exact aY⟩
   simp[pV cB aF,Result.andThen]
 obtain⟨v,dE,la⟩:=nC;refine(fU ag.bL a6.1 a6.2 (du av) (v:=v) (w':=w) ?_ fun aS aI=>?_)
 ·simp[execOp,ax,ag.bL.aD J,ag.bL.aD U,dE]
 ·exact dt aS _ env H (ag.set (sv:=.a bq) (la.bq iH) aI)
theorem ZT(ar:X.tt.ok X.P) {t fa fv:TypeId} {bj:bh} {gk aZ:aQ} {u x y:Operand} {id:Nat} {l:List (gk.D×aZ.D)} {jA:Option (List MapEntry×Nat)} {z:gk.D} {g g2 c cF:Bool} {e2 dH:bf} {eK:aZ.D} (bS:oh X.P fa gk) (ax:o.op=.mapUpdate t u x y) (a6:o.guard=none/\o.dst=none)
  (aV:X.tt.find t=some bj) (cP:bj.bk.desc=.map fa fv)
  (hu:bm X st.L u=some (true,.c (.cp id))) (aj:bm X st.L x=some (g,e2)) (aL:g=true) (jZ:dec gk e2.cells=some (c,z,[])) (aa:c=true) (si:kk gk e2=true) (aT:bm X st.L y=some (g2,dH)) (dp:g2=true) (bO:aU st.H id=some (.mp gk aZ l jA))
  (jr:dec aZ dH.cells=some (cF,eK,[])) (iu:cF=true) (dN:kk aZ dH=true)
  : fg X n o st ⟨st.L,ef id (.mp gk aZ (eD gk aZ l z eK) none) st.H⟩:=by
 intro R W aG ks env B ai H a w ag KK hb dt;obtain⟨hM,J,b,ae,rfl⟩:=ag.aD hu rfl;obtain⟨vx,U,ah⟩:=ag.aD aj aL;have gW:=ea.key bS.pU bS.eq.key (ea.tq jZ aa si ah);rw[gW]at U;obtain⟨vy,au,aF⟩:=ag.aD aT dp;have la:ea B ai aZ eK vy:=ea.tq jr iu dN aF;obtain⟨dk,K,⟨b',es,clock,dm,rfl,hR,dn,_⟩,dV,fX⟩:=ag.lD (b':=.mp gk aZ (eD gk aZ l z eK) none) bO;rw[ae]at dm;cases dm;have ha:=(ag.aJ.ok _ dV.mem).2;have aC:=(bV.get ar aV).bk.1;rw[cP]at aC;obtain⟨cX,cB⟩:=bS.str;have nC:∃ nE o7,(Instr.mapUpdate t (.map (some b)) (.agg (gk.cG z).toArray) vy).run X.P w=.ok () { w with heap:=w.heap.setIfInBounds b (.map nE.toArray o7) }/\fW B ai gk aZ (eD gk aZ l z eK) nE/\Stamped nE o7:=by
  unfold Instr.mapUpdate;simp only[Sem.run_bind,run_underlying aC,Result.andThen_ok,MapKept.run_getObj_map ha,bS.we]
  rcases hR.wg bS w la (z:=z) 0 with⟨aY,bK⟩ | ⟨j,v,e,aY,bK,c7,hN⟩
  ·refine⟨es++[MapEntry.mk (.agg (gk.cG z).toArray) vy clock],clock+1,?_,?_,?_⟩
   ·simp only[pV cB aY,Result.andThen_ok,MapKept.run_setObj_map _ ha]
    simp
   ·rw[bK]
    exact fW.snoc (gk:=gk) (x:=(z,eK)) (e:=MapEntry.mk (.agg (gk.cG z).toArray) vy clock) (ea.GJ bS.pU bS.eq.key z) la hR
   ·refine⟨?_,?_⟩
    ·rw[List.map_append,List.pairwise_append]
     exact⟨dn.1,by simp,fun p aq q ao=>by simp at ao; subst ao; exact dn.2 p aq⟩
    ·intro p aq
     rw[List.map_append,List.mem_append]at aq
     rcases aq with aq | aq
     ·exact Nat.lt_succ_of_lt (dn.2 p aq)
     ·simp at aq; omega
  ·refine⟨es.modify j fun e=>{ e with key:=.agg (gk.cG z).toArray,val:=vy },clock,?_,hN,?_⟩
   ·rw[Nat.zero_add]at aY
    have lz:(Instr.keyThatStays (((es.toArray[j]?).map (·.key)).getD (.agg (gk.cG z).toArray)) (.agg (gk.cG z).toArray)).run X.P w=.ok (.agg (gk.cG z).toArray) w:=by
     have:((es.toArray[j]?).map (·.key)).getD (.agg (gk.cG z).toArray)=.agg (gk.cG z).toArray:=by simp[bK,c7]
     rw[this];unfold Instr.keyThatStays;rw[NH fun n=>BU bS.eq.key z n]
     rfl
    simp only[pV cB aY,Result.andThen_ok,Sem.run_bind,lz,MapKept.run_setObj_map _ ha]
    simp
   ·rw[Stamped,x5 (f:=fun e=>{ e with key:=.agg (gk.cG z).toArray,val:=vy }) (fun _=>rfl)]
    exact dn
 obtain⟨nE,o7,dE,F2,F3⟩:=nC;refine(AA ag.bL a6.1 a6.2 (w':={ w with heap:=w.heap.setIfInBounds b (.map nE.toArray o7) }) ?_ fun aS aI=>?_)
 ·simp[execOp,ax,ag.bL.aD J,ag.bL.aD U,ag.bL.aD au,dE]
 ·obtain⟨H',gZ⟩:=fX _ aS _ ⟨b,nE,o7,ae,rfl,F2,F3,fun _ h=>by cases h⟩ (ag.aJ.u9 dV) aI
  exact dt aS _ env H' (gZ)
end
end
section
set_option linter.unusedSectionVars false
section
variable {X:br} {R:Nat->Prop} {W:World} {aG:eX} {n:Nat} {ks:List Nat} {env:Nat->Loc} {B:Nat->Prop} {ai:World} {H:List bb} {st:aM} {a aS:Act} {w:World} {d:Nat} {o:Oper}
theorem ZU(ar:X.tt.ok X.P) {t T T':TypeId} {bj:bh} {x:Operand} {id i:Nat} {g:aQ} {l:List (Bool×List g.D)} {cap:Option Nat} {g1:Bool} (ax:o.op=.load t x) (a6:o.guard=none/\o.dst=some d) (av:Nat.blt d n=true)
  (aV:X.tt.find t=some bj) (k9:jn bj.bk.desc=false) (aj:bm X st.L x=some (g1,.c (.dZ id 1 i 0))) (cR:g1=true) (bO:aU st.H id=some (.b5 T T' g l cap none)) (cu:Nat.beq d id=false)
  (hi:decide (i < l.length)=true) (cv:(l.getD i (false,[])).1=true)
  : fg X n o st ⟨(d,.c (.an d)) :: eJ d .dead st.L,(d,.row T' g (l.getD i (false,[])).2 none) :: ef id (.b5 T T' g l cap (some (i,some d))) (dq d .dead st.H)⟩:=by
 intro R W aG ks env B ai H a w ag KK hb dt;have a8:=of_decide_eq_true hi;have qX:id≠d:=fun e=>ne_of_beq_false cu e.symm
 obtain⟨vx,J,b,c,m,he,rfl⟩:=ag.aD aj cR;obtain⟨c0,BN,⟨A,k,ys,cT,I,cI,rfl,jX,kl,fc⟩,mN⟩:=ag.heap.fE bO;rw[he]at cI;cases cI;have qY:cT=ys:=kl;subst qY;obtain⟨v,eE,aB,yp,qL⟩:=dC.hole (show dC B ai T' g l cT I from jX) a8
 rcases qL with⟨_,cY,ek,fZ,rfl,iC,oU⟩ | ⟨yq,_⟩
 ·have pa:=dC.length (show dC B ai T' g l cT I from jX)
  have ir:w.cell? ⟨b,i * 1+0,none⟩=some (.slice cY (l.getD i (false,[])).2.length ek):=by
   have eW:ew w (fun k=>R k\/B k) T 1 (some ⟨b,0,none⟩) c l.length cT:=(ag.aJ.ok _ mN.more.mem).1 _ List.mem_cons_self;rw[eW.cells rfl _ (by omega)]
   simpa using aB
  refine fU ag.bL a6.1 a6.2 (du av) (v:=.slice cY (l.getD i (false,[])).2.length ek) (w':=w) (rJ ag.bL ax (bV.get ar aV).bk k9 J ir) fun aS aI=>?_
  obtain⟨H2,gF,fJ⟩:=ag.M9 av (.row cY ek (l.getD i (false,[])).2.length);obtain⟨fs,Zg,ho,⟨jf,jg,sd,rfl⟩,kh⟩:=fJ.heap.put (yo (z:=.dead) qX bO);subst sd;obtain⟨Gj,jN,tK,nF,tL,lE,rfl,_⟩:=ho;rw[h1 id qX,he]at lE;cases lE;have k4:=ag.aJ.same (c:=.tree (⟨some ⟨b,0,none⟩,c,T,1,l.length,nF⟩ :: tL)) (List.mem_append_left _ (gF.subset (by simp))) mN.more.mem (b:=b) ⟨_,List.mem_cons_self,rfl⟩ ⟨_,List.mem_cons_self,rfl⟩;simp only[bb.tree.injEq,List.cons.injEq,fV.mk.injEq,true_and,and_true]at k4;obtain⟨rfl,rfl⟩:=k4
  let p:fV:=⟨cY,ek,T',g.size,(l.getD i (false,[])).2.length,fZ⟩
  let fC:fV:=⟨some ⟨b,0,none⟩,c,T,1,l.length,nF⟩
  have dN:=fJ.aJ;rw[List.append_assoc,List.cons_append]at dN;have h8:bF (fun k=>R k\/B k) ai (jf++.tree (p :: fC :: eE) :: (jg++ks.map c3)) w:=dN.xp ⟨p :: fC :: eE,(List.Perm.cons _ oU).trans (List.Perm.swap _ _ _),List.Sublist.refl _⟩;have l1:=h8.AB;refine dt aS w _ (p.dk :: (jf++.tree (fC :: eE) :: jg)) ⟨aI.size,aI.defs,fun s u ak=>?_,⟨_,_,rfl,⟨cY,ek,fZ,eG,rfl,iC,fun _ h=>by cases h⟩,kh _ _ ⟨_,c,nF.set i (.slice none 0 0),nF,eE,by rw[h1 id qX]; exact he,rfl,yp,⟨a8,.slice cY (l.getD i (false,[])).2.length ek,?_,fun fG tJ=>by cases tJ; exact⟨cY,ek,_,eG,rfl⟩⟩,fc⟩⟩,by rw[List.cons_append,List.append_assoc,List.cons_append]; exact l1,fJ.sub,fJ.new,fJ.df,fJ.base,fJ.dQ⟩
  ·rw[cl]at ak
   split at ak
   ·rename_i e; subst e; cases ak; exact⟨_,aI.this,_,_,_,eG,rfl⟩
   ·rename_i e
    obtain⟨eF,ah,au⟩:=fJ.has s u ak;exact⟨eF,aI.other e ah,au⟩
  ·rw[List.set_set]
   exact(List.M8 aB).symm
 ·rw[yq]at cv; cases cv
theorem NI(ar:X.tt.ok X.P) {t T T':TypeId} {bj:bh} {x:Operand} {id i:Nat} {g:aQ} {l:List (Bool×List g.D)} {cap:Option Nat} {g1:Bool} (ax:o.op=.load t x)
  (aV:X.tt.find t=some bj) (k9:jn bj.bk.desc=false) (aj:bm X st.L x=some (g1,.c (.dZ id 1 i 0))) (cR:g1=true) (bO:aU st.H id=some (.b5 T T' g l cap none)) (hi:decide (i < l.length)=true) (cv:(!(l.getD i (false,[])).1)=true):gT X st o (.c (.bn g (l.getD i (false,[])).2 none)):=by
 intro R W aG n ks env B ai H a bZ ag;have a8:=of_decide_eq_true hi;obtain⟨vx,J,b,c,m,he,rfl⟩:=ag.aD aj cR;obtain⟨dk,K,⟨A,k,ys,cT,I,cI,rfl,jX,kl,_⟩,aA⟩:=ag.heap.fE bO;rw[he]at cI;cases cI;have qY:cT=ys:=kl;subst qY;obtain⟨v,eE,aB,_,qL⟩:=dC.hole (show dC B ai T' g l cT I from jX) a8;have pa:=dC.length (show dC B ai T' g l cT I from jX)
 rcases qL with⟨yq,_⟩ | ⟨_,_,cY,cF,fZ,aW,cV,dU,gb,hL⟩
 ·rw[yq]at cv; cases cv
 ·simp only[List.cons.injEq,and_true]at aW
  subst aW;refine⟨_,⟨cY,cF,fZ,rfl,cV,dU,(fun _ h=>by cases h),gb,hL⟩,fun w dN=>?_⟩;have eW:ew w (fun k=>R k\/B k) T 1 (some ⟨b,0,none⟩) c l.length cT:=((dN (by rw[ax]; rfl)).ok _ aA.more.mem).1 _ List.mem_cons_self;have ir:w.cell? ⟨b,i * 1+0,none⟩=some (.slice cY (l.getD i (false,[])).2.length cF):=by
   rw[eW.cells rfl _ (by omega)]
   simpa using aB
  exact rJ ag.bL ax (bV.get ar aV).bk k9 J ir
theorem ZV(T':TypeId) (GL:aQ) (ar:X.tt.ok X.P) {t e:TypeId} {bj dr:bh} {x y:Operand} {k k':IntKind} {h2 hr:Int} {g1 g2:Bool} {kc:aQ} (ax:o.op=.makeSlice t x y) (a6:o.guard=none/\o.dst=some d) (av:Nat.blt d n=true)
  (aV:X.tt.find t=some bj) (cP:bj.bk.desc=.slice e) (he:X.tt.find e=some dr) (pA:dr.g=some (.an kc)) (aj:bm X st.L x=some (g1,.c (.val (.int k h2)))) (cR:g1=true) (aT:bm X st.L y=some (g2,.c (.val (.int k' hr)))) (dp:g2=true)
  (aa:(decide (0<=h2)&&decide (h2<=hr)&&gw dr.bk.bytes hr)=true)
  : fg X n o st ⟨(d,.c (.an d)) :: eJ d .dead st.L,(d,.b5 e T' GL (List.replicate h2.toNat (true,[])) (some hr.toNat) none) :: dq d .dead st.H⟩:=by
 intro R W aG ks env B ai H a w ag KK hb dt;obtain⟨vx,gW,kD⟩:=ag.aD aj cR;obtain⟨vy,fp,iO⟩:=ag.aD aT dp;simp only[Bool.and_eq_true,decide_eq_true_eq]at aa;obtain⟨⟨qt,qu⟩,l4⟩:=aa;obtain⟨l4,E0⟩:=(Lh (by omega)).1 l4;rw[show vx=_ from kD]at gW;rw[show vy=_ from iO]at fp;obtain⟨J,U,ah⟩:=(bV.get ar he).g _ pA;have aC:=(bV.get ar aV).bk.1;rw[cP]at aC;have e5:dr.bk.size=1:=J.symm;have nY:dr.bk.zero.cells.toList=[.slice none 0 0]:=U;obtain⟨dE,cC⟩:=LJ ag.aJ aC (bV.get ar he).bk (z:=[.slice none 0 0]) (by rw[<- nY]) (by rw[e5]; rfl) (by omega) (k:=k) (k':=k') (m:=h2.toNat) (c:=hr.toNat) (by omega) (by
  have:((dr.bk.bytes * hr.toNat:Nat):Int)=(dr.bk.bytes:Int) * hr:=by rw[Int.natCast_mul,Int.toNat_of_nonneg (by omega)]
  omega) (by omega)
 rw[Int.toNat_of_nonneg qt,Int.toNat_of_nonneg (by omega)]at dE;refine fU ag.bL a6.1 a6.2 (du av) (v:=.slice (some ⟨w.heap.size,0,none⟩) h2.toNat hr.toNat) (w':=w.alloc (.cells (eh [.slice none 0 0] hr.toNat).toArray e)) (by simp[execOp,ax,ag.bL.aD gW,ag.bL.aD fp,dE]) fun aS aI=>?_
 obtain⟨I,gM,a7⟩:=dC.M7 (B:=B) (w:=ai) (T':=T') (g:=GL) h2.toNat;have ZW:eh [Value.slice none 0 0] h2.toNat=List.replicate h2.toNat (.slice none 0 0):=by
  unfold eh
  induction h2.toNat with
  | zero=>rfl
  | succ k bA=>rw[List.replicate_succ,List.flatten_cons,bA,List.replicate_succ]; rfl
 rw[e5,ZW]at cC;have ak:=bF.Nc (bF.Nb (X:=[]) (r:=⟨some ⟨w.heap.size,0,none⟩,hr.toNat,e,1,h2.toNat,List.replicate h2.toNat (.slice none 0 0)⟩) cC) fun s ak=>⟨_,_,a7 s ak⟩
 obtain⟨H',_,c7⟩:=ag.mK (d:=d) av (l:=.row (some ⟨w.heap.size,0,none⟩) hr.toNat h2.toNat) (blk:=.b5 e T' GL (List.replicate h2.toNat (true,[])) (some hr.toNat) none) (sv:=.c (.an d)) ak ⟨_,hr.toNat,_,_,I,by rw[List.length_replicate]; exact eG,by rw[List.length_replicate],gM,rfl,fun q ao=>by cases ao; rfl⟩ ⟨_,_,_,eG,rfl⟩ aI;exact dt _ _ _ _ c7
end
inductive oj where
 | GM
 | ZX
 | st
 | mk
 | mV (gk aZ:aQ)
 | yF
 | BV
 | ZY
 | ZZ
 | BW
 | NJ (l:List (Int×Nat))
 | NK
 | rG
 | lh
 | NL
 | NM
 | Z0 (m:Nat)
 | Z1
 | eY (g:aQ) (p m s:Nat)
 | e2 (g:aQ) (p m s:Nat)
def wh(X:br) (t:TypeId):aQ->Bool
 | .pair a b=>v7 X t (.pair a b)
 | _=>false
theorem yG{X:br} (ar:X.tt.ok X.P) {t:TypeId} {g:aQ} (h:wh X t g=true):oh X.P t g:=by
 cases g with
 | pair a b=>
  have U:v7 X t (.pair a b)=true:=h;unfold v7 at U
  split at U
  ·rename_i aA
   simp only[Bool.and_eq_true,Bool.not_eq_true']at U;exact oh.of ar U.1 aA rfl U.2.1 U.2.2
  ·cases U
 | _=>cases h
def yH:aQ->Value->Bool
 | .int k,.int k' z=>decide (k'=k)&&decide (z=0)
 | .bool,.bool b=>!b
 | _,_=>false
theorem NN{g:aQ} {v:Value} (h:yH g v=true):∀ B w,ea B w g g.zero v:=by
 intro B w;cases g with
 | int k=>
  cases v with
  | int k' z=>
   unfold yH at h;rw[Bool.and_eq_true,decide_eq_true_eq,decide_eq_true_eq]at h;rw[h.1,h.2];exact(rfl:[Value.int k 0]=[Value.int k 0])
  | _=>cases h
 | bool=>
  cases v with
  | bool b=>
   cases b with
   | true=>cases h
   | false=>exact(rfl:[Value.bool false]=[Value.bool false])
  | _=>cases h
 | _=>cases h
def yI(aZ:aQ) (dr:bh):Bool:=match aZ,dr.bk.zero with
 | .fn,.nilFunc=>true
 | .pair a b,.agg _=>decide (dr.g=some (.pair a b))
 | .int k,.int k' z=>decide (k'=k)&&decide (z=0)
 | .bool,.bool b=>!b
 | _,_=>false
theorem GN{P:Program} {fv:TypeId} {dr:bh} {aZ:aQ} (a6:bh.ok P fv dr) (h:yI aZ dr=true):∀ B w,ea B w aZ aZ.zero dr.bk.zero:=by
 intro B w;unfold yI at h
 split at h
 ·rename_i bG
  rw[bG];exact(rfl:[Value.nilFunc]=[Value.nilFunc])
 ·rename_i a b _ bG
  obtain⟨_,U,_⟩:=a6.g _ (of_decide_eq_true h);rw[bG]at U;refine⟨_,bG,?_⟩;have ah:=bz.eh (B:=B) (w:=w) (aQ.pair a b);rw[<- U]at ah;exact ah
 ·rename_i bG
  rw[Bool.and_eq_true,decide_eq_true_eq,decide_eq_true_eq]at h;rw[bG,h.1,h.2];exact(rfl:[Value.int _ 0]=[Value.int _ 0])
 ·rename_i b bG
  rw[bG];cases b with
  | true=>cases h
  | false=>exact(rfl:[Value.bool false]=[Value.bool false])
 ·cases h
def NO:List (Int×Nat)->Int->Option Nat
 | [],_=>none
 | (k,f) :: r,z=>cond (decide (z=k)) (some f) (NO r z)
def pb(f:Nat):Option (Option Nat)->Bool
 | some (some h)=>Nat.beq h f
 | _=>false
theorem Z2{f:Nat} {o:Option (Option Nat)} (h:pb f o=true):o=some (some f):=by
 unfold pb at h
 split at h
 ·rw[Nat.eq_of_beq_eq_true h]
 ·cases h
theorem Z3{X:br} {n:Nat} {st:aM} {o:Oper} {d:Nat} (ar:X.tt.ok X.P) (gk aZ:aQ) {t fa fv:TypeId} {bj:bh} {u:Operand} {k:IntKind} {z:Int} {g:Bool} (ax:o.op=.makeMap t (some u)) (a6:o.guard=none/\o.dst=some d) (av:Nat.blt d n=true) (aV:X.tt.find t=some bj) (cP:bj.bk.desc=.map fa fv) (hu:bm X st.L u=some (g,.c (.val (.int k z)))) (aL:g=true) :
  fg X n o st ⟨(d,.c (.cp d)) :: eJ d .dead st.L,(d,.mp gk aZ [] none) :: dq d .dead st.H⟩:=by
 intro R W aG ks env B ai H a w ag KK hb dt;obtain⟨v,J,U⟩:=ag.aD hu aL;rw[show v=_ from U]at J;have e:=ag.bL.aD J;have bo:asIntOf (Value.int k z)=pure (k,z):=rfl;have bE:X.P.underlying t=some (.map fa fv):=by rw[<- cP]; exact(bV.get ar aV).bk.1
 refine(fU ag.bL a6.1 a6.2 (du av) (v:=.map (some w.heap.size)) (w':=w.alloc (.map #[] 0)) (by simp[execOp,ax,e,Instr.makeMap,newObj,underlying,asInt,bo,bE,Sem.run]) fun aS aI=>?_);obtain⟨H',_,ah⟩:=ag.mK (d:=d) av (l:=.blk w.heap.size) (blk:=.mp gk aZ [] none) (sv:=.c (.cp d)) (ag.aJ.alloc (.map #[] 0)) ⟨_,[],0,eG,rfl,rfl,⟨List.Pairwise.nil,fun _ h=>by cases h⟩,fun _ h=>by cases h⟩ ⟨_,eG,rfl⟩ aI;exact dt aS _ _ H' (ah)
theorem Z4{X:br} {n:Nat} {st:aM} {o:Oper} {d:Nat} (ar:X.tt.ok X.P) {t fa fv:TypeId} {bj:bh} {gk aZ:aQ} {u:Operand} {id:Nat} {l:List (gk.D×aZ.D)} {jA:Option (List MapEntry×Nat)} (ax:o.op=.range t u) (a6:o.guard=none/\o.dst=some d) (av:Nat.blt d n=true)
  (aV:X.tt.find t=some bj) (cP:bj.bk.desc=.map fa fv) (hu:bm X st.L u=some (true,.c (.cp id))) (bO:aU st.H id=some (.mp gk aZ l jA)) (ad:l.isEmpty=true) (cu:Nat.beq id d=false) :
  fg X n o st ⟨(d,.c (.ptr d 0)) :: eJ d .dead st.L,(d,.gS id) :: dq d .dead (ef id (.mp gk aZ [] none) st.H)⟩:=by
 intro R W aG ks env B ai H a w ag KK hb dt;cases l with
 | cons x l=>cases ad
 | nil=>
  obtain⟨hM,J,b,ae,rfl⟩:=ag.aD hu rfl;obtain⟨c,K,⟨b',es,clock,dm,rfl,hR,dn,_⟩,dV,kh⟩:=ag.heap.put bO;rw[ae]at dm;cases dm;have ha:=(ag.aJ.ok _ dV.more.mem).2;have aC:=(bV.get ar aV).bk.1;rw[cP]at aC;have bS:K (.obj b (.map es.toArray clock))=H:=by obtain⟨X,Y,aC,aW⟩:=dV; rw[aW,aC]
  have ds:=kh (.mp gk aZ [] none) (.obj b (.map es.toArray clock)) ⟨b,es,clock,ae,rfl,hR,dn,fun _ h=>by cases h⟩;rw[bS]at ds;have fJ:bH X R W aG n ks env B ai H ⟨st.L,ef id (.mp gk aZ [] none) st.H⟩ a w:=⟨ag.size,ag.defs,ag.has,ds,ag.aJ,ag.sub,ag.new,ag.df,ag.base,ag.dQ⟩
  have dE:(Instr.range t (.map (some b))).run X.P w=.ok (.pointer (some ⟨w.heap.size,0,none⟩)) (w.alloc (.mapIter (some b) clock #[] clock)):=by
   simp[Instr.range,run_underlying aC,MapKept.run_getObj_map ha,newObj,Sem.run,Result.andThen]
  refine(fU fJ.bL a6.1 a6.2 (du av) (v:=.pointer (some ⟨w.heap.size,0,none⟩)) (w':=w.alloc (.mapIter (some b) clock #[] clock)) (by simp[execOp,ax,ag.bL.aD J,dE]) fun aS aI=>?_);obtain⟨H',_,ah⟩:=fJ.mK (d:=d) av (l:=.blk w.heap.size) (blk:=.gS id) (sv:=.c (.ptr d 0)) (fJ.aJ.alloc _) ⟨_,b,clock,eG,by rw[h1 id (Nat.ne_of_beq_eq_false cu)]; exact ae,rfl⟩ ⟨_,eG,rfl⟩ aI;exact dt aS _ _ H' ah
theorem Z5{X:br} {n:Nat} {st:aM} {o:Oper} {d:Nat} {gk aZ:aQ} {u:Operand} {eT id:Nat} {jA:Option (List MapEntry×Nat)} (ax:o.op=.next u false) (a6:o.guard=none/\o.dst=some d) (av:Nat.blt d n=true)
  (hu:bm X st.L u=some (true,.c (.ptr id 0))) (mi:aU st.H id=some (.gS eT)) (bO:aU st.H eT=some (.mp gk aZ [] jA)):fg X n o st ⟨(d,.da [.c (.val (.bool false))]) :: st.L,st.H⟩:=by
 intro R W aG ks env B ai H a w ag KK hb dt;obtain⟨hM,J,b,ae,rfl⟩:=ag.aD hu rfl;obtain⟨cF,MS,⟨m,es,clock,hm,rfl,hR,_⟩,GO⟩:=ag.heap.fE bO;have Z6:=(ag.aJ.ok _ GO.more.mem).2;obtain⟨c,K,⟨b',dO,q,dm,ht,rfl⟩,dV⟩:=ag.heap.fE mi;rw[ae]at dm;cases dm;rw[hm]at ht;cases ht;have ha:=(ag.aJ.ok _ dV.more.mem).2;have GP:es=[]:=hR;subst GP
 rcases run_next_at (P:=X.P) w o.type b m q q #[] #[] clock ha Z6 (fun x aj=>by simp at aj) (Nat.le_refl _)with⟨_,dE⟩ | ⟨e,he,_⟩
 ·refine(fU ag.bL a6.1 a6.2 (du av) (v:=.tuple #[.bool false]) (w':=w) (by simp[execOp,ax,ag.bL.aD J,dE]) fun aS aI=>?_)
  exact dt aS _ _ _ (ag.set (sv:=.da [.c (.val (.bool false))]) ⟨[.bool false],rfl,.bool false,[],rfl,rfl,rfl⟩ aI)
 ·simp[leftOf]at he
theorem fW.len{B:Nat->Prop} {w:World} {gk aZ:aQ}:∀ {l:List (gk.D×aZ.D)} {es:List MapEntry},fW B w gk aZ l es->es.length=l.length
 | [],_,h=>by rw[show _=[] from h]; rfl
 | _ :: _,_,⟨_,_,e,_,_,h⟩=>by rw[e,List.length_cons,List.length_cons,fW.len h]
theorem Z7{X:br} {n:Nat} {st:aM} {o:Oper} {d:Nat} (ar:X.tt.ok X.P) {t fa fv:TypeId} {bj:bh} {gk aZ:aQ} {u:Operand} {id:Nat} {l:List (gk.D×aZ.D)} {jA:Option (List MapEntry×Nat)} (ax:o.op=.call { callee:=.builtin .len,args:=#[u],argTypes:=#[t] }) (a6:o.guard=none/\o.dst=some d) (av:Nat.blt d n=true)
  (aV:X.tt.find t=some bj) (cP:bj.bk.desc=.map fa fv) (hu:bm X st.L u=some (true,.c (.cp id))) (bO:aU st.H id=some (.mp gk aZ l jA)):fg X n o st ⟨(d,.c (.val (.int .i64 (l.length:Int)))) :: st.L,st.H⟩:=by
 intro R W aG ks env B ai H a w ag KK hb dt;obtain⟨hM,J,b,ae,rfl⟩:=ag.aD hu rfl;obtain⟨c,K,⟨b',es,clock,dm,rfl,hR,dn,_⟩,dV⟩:=ag.heap.fE bO;rw[ae]at dm;cases dm;have ha:=(ag.aJ.ok _ dV.more.mem).2;have aC:=(bV.get ar aV).bk.1;rw[cP]at aC;refine(fU ag.bL a6.1 a6.2 (du av) (v:=.int .i64 (l.length:Int)) (w':=w) ?_ fun aS aI=>?_)
 ·simp[execOp,ax,resolve,invoke,builtin,Builtin.len_,ag.bL.aD J,run_underlying aC,MapKept.run_getObj_map ha,goInt,hR.len]
 ·exact dt aS _ env H (ag.set (sv:=.c (.val (.int .i64 (l.length:Int)))) rfl aI)
theorem Z8{X:br} {n:Nat} {st:aM} {o:Oper} {d:Nat} (ar:X.tt.ok X.P) {t T e:TypeId} {bj:bh} {x:Operand} {id m:Nat} {g:aQ} {l:List g.D} {cap:Option Nat} {g1:Bool} (ax:o.op=.load t x) (a6:o.guard=none/\o.dst=some d) (av:Nat.blt d n=true)
  (aV:X.tt.find t=some bj) (cP:bj.bk.desc=.array m e) (aj:bm X st.L x=some (g1,.c (.gD id 0))) (cR:g1=true) (bO:aU st.H id=some (.row T g l cap)) (cQ:Nat.beq bj.bk.size (m * g.size)=true) (ad:decide (l.length=m)=true)
  : fg X n o st ⟨(d,.a (.arr g l)) :: st.L,st.H⟩:=by
 intro R W aG ks env B ai H a w ag KK hb dt;obtain⟨vx,J,b,c,q,he,rfl⟩:=ag.aD aj cR;obtain⟨dk,K,⟨A,k,xs,cI,rfl,cv,_⟩,aA⟩:=ag.heap.fE bO;rw[he]at cI;cases cI;have eW:ew w (fun k=>R k\/B k) T g.size (some ⟨b,0,none⟩) c l.length xs:=ag.aJ.ok _ aA.more.mem;have hlen:=bz.jq cv;have gG:=of_decide_eq_true ad;refine(fU ag.bL a6.1 a6.2 (du av) (v:=.agg xs.toArray) (w':=w) (s3 ag.bL ax (bV.get ar aV).bk (by rw[cP]; rfl) J (by rw[hlen,gG,Nat.eq_of_beq_eq_true cQ]) fun j v aR=>?_) fun aS aI=>?_)
 ·rw[show 0+j=j by omega,eW.cells rfl _ (by rw[<- hlen]; exact(List.getElem?_eq_some_iff.1 aR).1)]
  exact aR
 ·exact dt aS _ env H (ag.set (sv:=.a (.arr g l)) ⟨xs,rfl,cv⟩ aI)
theorem Z9(A:Option Addr) (s c:Nat):iY A 0 s c=A:=by
 unfold iY
 split
 ·rfl
 ·cases A with
  | none=>rfl
  | some a=>simp[Addr.add]
theorem aaa{X:br} {n:Nat} {st:aM} {o:Oper} {d:Nat} (ar:X.tt.ok X.P) {t e:TypeId} {x y:Operand} {g1 g2:Bool} {dH:bf} {id cA gJ:Nat} {ge g:aQ} {l bw:List g.D} {cap:Option Nat} {bj:bh} {aE:TypeDesc} {jM:Value} (ax:o.op=.call ⟨.builtin .copy,⟨[x,y]⟩,⟨[t,t]⟩⟩) (a6:o.guard=none/\o.dst=some d) (av:Nat.blt d n=true)
  (aV:X.tt.find t=some bj) (cP:bj.bk.desc=.slice e) (he:X.tt.find e=some ⟨⟨aE,cA,gJ,jM⟩,some ge⟩) (aj:bm X st.L x=some (g1,.c (.an id))) (aL:g1=true) (aT:bm X st.L y=some (g2,dH)) (fm:g2=true)
  (bO:aU st.H id=some (.row e g l cap)) (cQ:Nat.beq g.size cA=true) (l8:kZ st g dH=some bw) (kV:Nat.blt 0 cA=true) (aa:decide (bw.length<=l.length)=true):fg X n o st ⟨(d,.c (.val (.int .i64 (bw.length:Int)))) :: st.L,ef id (.row e g (bw++l.drop bw.length) cap) st.H⟩:=by
 intro R W aG ks env B ai H a w h KK lo dt;obtain⟨vx,gW,kD⟩:=h.aD aj aL;obtain⟨vy,fp,iO⟩:=h.aD aT fm;obtain⟨T,bE,J,au⟩:=mG (bV.get ar aV).bk (bV.get ar he).bk;have fM:=Nat.eq_of_beq_eq_true cQ;have lH:=of_decide_eq_true aa;obtain⟨cY,cF,fZ,rfl,iF,gm⟩:=qz h l8 iO;obtain⟨A,c,m,iG,rfl⟩:=kD;obtain⟨dk,K,⟨b9,k',xs,mM,rfl,cv,fc⟩,dV,nv⟩:=h.lD (b':=.row e g (bw++l.drop bw.length) cap) bO;rw[iG]at mM;cases mM;rw[fM]at dV gm;have hlen:(bw++l.drop bw.length).length=l.length:=by
  simp only[List.length_append,List.length_drop];omega
 have aab:aD (gl a) x=some (.slice (iY A 0 cA c) (l.length - 0) (c - 0)):=by
  rw[Z9];exact gW
 refine K2 h.sym ax a6 av bE J cP au aab fp dV gm (Flat.iD (fun _ _=>bz.iD) iF) (du kV) (by omega) fun aS w' cr=>?_
 have vU:=Flat.part (i:=0) (fun _ _=>bz.length) cv iF;rw[fM]at vU;simp only[List.take_zero,List.nil_append,Nat.zero_add]at vU;obtain⟨H',c7⟩:=nv (.row A c e g.size l.length (xs.take (0 * cA)++fZ++xs.drop (0 * cA+fZ.length))) a w' ⟨A,c,_,by rw[hlen]; exact iG,by rw[hlen],by simpa using vU,fc⟩ (by rw[fM]; exact cr.aJ) h.bL;exact dt aS w' _ H' (c7.set rfl cr.st)
def yJ:Nat->List Value->Bool
 | 0,[]=>true
 | m+1,.bool false :: r=>yJ m r
 | _,_=>false
theorem NP:∀ {m:Nat} {l:List Value},yJ m l=true->l=List.replicate m (.bool false)
 | 0,[],_=>rfl
 | m+1,[],h=>by cases h
 | 0,_ :: _,h=>by simp[yJ]at h
 | m+1,v :: r,h=>by
  unfold yJ at h
  split at h
  ·rename_i J _
   cases J
  ·rename_i dO cw J U
   cases J;cases U;rw[NP h,List.replicate_succ]
  ·cases h
def yK(X:br) (n:Nat) (st:aM):oj->Oper->Option (Bool×aM×List Nat)
 | .mV gk aZ,⟨some d,.makeMap _ none,_,_,_,none⟩=>match Nat.blt d n with
  | true=>some (true,⟨(d,.c (.cp d)) :: eJ d .dead st.L,(d,.mp gk aZ [] none) :: dq d .dead st.H⟩,[d])
  | false=>none
 | .mV gk aZ,⟨some d,.makeMap t (some u),_,_,_,none⟩=>match Nat.blt d n,X.tt.find t,bm X st.L u with
  | true,some ⟨⟨.map _ _,_,_,_⟩,_⟩,some (g,.c (.val (.int _ _)))=>some (g,⟨(d,.c (.cp d)) :: eJ d .dead st.L,(d,.mp gk aZ [] none) :: dq d .dead st.H⟩,[d])
  | _,_,_=>none
 | .yF,⟨some d,.lookup t u x false,_,_,_,none⟩=>match Nat.blt d n,X.tt.find t,bm X st.L u,bm X st.L x with
  | true,some ⟨⟨.map fa fv,_,_,_⟩,_⟩,some (true,.c (.cp id)),some (g,e2)=>match aU st.H id,X.tt.find fv with
   | some (.mp gk aZ l _),some dr=>match dec gk e2.cells,wh X fa gk&&(kk gk e2&&yH aZ dr.bk.zero)with
    | some (c,z,[]),true=>match nB aZ ((cJ gk aZ l z).getD aZ.zero)with
     | some bq=>some (g&&c,⟨(d,.a bq) :: st.L,st.H⟩,[d])
     | none=>none
    | _,_=>none
   | _,_=>none
  | _,_,_,_=>none
 | .BV,⟨none,.mapUpdate t u x y,_,_,_,none⟩=>match X.tt.find t,bm X st.L u,bm X st.L x,bm X st.L y with
  | some ⟨⟨.map fa _,_,_,_⟩,_⟩,some (true,.c (.cp id)),some (g,e2),some (g2,dH)=>match aU st.H id with
   | some (.mp gk aZ l _)=>match dec gk e2.cells,dec aZ dH.cells,wh X fa gk&&(kk gk e2&&kk aZ dH)with
    | some (c,z,[]),some (cF,eK,[]),true=>some (g&&(c&&(g2&&cF)),⟨st.L,ef id (.mp gk aZ (eD gk aZ l z eK) none) st.H⟩,[id])
    | _,_,_=>none
   | _=>none
  | _,_,_,_=>none
 | .ZZ,⟨some d,.lookup t u x false,_,_,_,none⟩=>match Nat.blt d n,X.tt.find t,bm X st.L u,bm X st.L x with
  | true,some ⟨⟨.map fa fv,_,_,_⟩,_⟩,some (true,.c (.cp id)),some (g,.c (.val (.int k z)))=>match aU st.H id,X.tt.find fa,X.tt.find fv with
   | some (.mp (.int k') aZ l _),some ⟨⟨.int ek,_,_,_⟩,_⟩,some dr=>match decEq k' k,decEq ek k,yI aZ dr,nB aZ ((cJ (.int k') aZ l z).getD aZ.zero)with
    | isTrue _,isTrue _,true,some bq=>some (g,⟨(d,.a bq) :: st.L,st.H⟩,[d])
    | _,_,_,_=>none
   | _,_,_=>none
  | _,_,_,_=>none
 | .BW,⟨some d,.lookup t u x true,_,_,_,none⟩=>match Nat.blt d n,X.tt.find t,bm X st.L u,bm X st.L x with
  | true,some ⟨⟨.map fa fv,_,_,_⟩,_⟩,some (true,.c (.cp id)),some (g,.c (.val (.int k z)))=>match aU st.H id,X.tt.find fa,X.tt.find fv with
   | some (.mp (.int k') aZ l _),some ⟨⟨.int ek,_,_,_⟩,_⟩,some dr=>match decEq k' k,decEq ek k,yI aZ dr,nB aZ ((cJ (.int k') aZ l z).getD aZ.zero)with
    | isTrue _,isTrue _,true,some bq=>some (g,⟨(d,.da [bq,.c (.val (.bool (cJ (.int k') aZ l z).isSome))]) :: st.L,st.H⟩,[d])
    | _,_,_,_=>none
   | _,_,_=>none
  | _,_,_,_=>none
 | .NJ cX,⟨some d,.lookup t u x false,_,_,_,none⟩=>match Nat.blt d n,X.tt.find t,bm X st.L u,bm X st.L x with
  | true,some ⟨⟨.map fa fv,_,_,_⟩,_⟩,some (true,.c (.cp id)),some (g,.c (.val (.int k z)))=>match aU st.H id,X.tt.find fa,X.tt.find fv,NO cX z with
   | some (.mp (.int k') .fn l _),some ⟨⟨.int ek,_,_,_⟩,_⟩,some dr,some f=>match decEq k' k,decEq ek k,yI .fn dr with
    | isTrue _,isTrue _,true=>some (g&&pb f (cJ (.int k') .fn l z),⟨(d,.a (.c (.fn f []))) :: st.L,st.H⟩,[d])
    | _,_,_=>none
   | _,_,_,_=>none
  | _,_,_,_=>none
 | .lh,⟨none,.insert t u x y,_,_,_,none⟩=>match X.tt.find t,bm X st.L u,bm X st.L x,bm X st.L y with
  | some ⟨⟨.map fa _,_,_,_⟩,_⟩,some (true,.c (.cp id)),some (g,.c (.val (.int k z))),some (g2,dH)=>match aU st.H id,X.tt.find fa with
   | some (.mp (.int k') aZ l _),some ⟨⟨.int ek,_,_,_⟩,_⟩=>match decEq k' k,decEq ek k,dec aZ dH.cells,kk aZ dH with
    | isTrue _,isTrue _,some (cF,eK,[]),true=>some (g&&(g2&&cF),⟨st.L,ef id (.mp (.int k') aZ (eD (.int k') aZ l z eK) none) st.H⟩,[id])
    | _,_,_,_=>none
   | _,_=>none
  | _,_,_,_=>none
 | .NL,⟨some d,.range t u,_,_,_,none⟩=>match Nat.blt d n,X.tt.find t,bm X st.L u with
  | true,some ⟨⟨.map _ _,_,_,_⟩,_⟩,some (true,.c (.cp id))=>match Nat.beq id d,aU st.H id with
   | false,some (.mp gk aZ l _)=>some (l.isEmpty,⟨(d,.c (.ptr d 0)) :: eJ d .dead st.L,(d,.gS id) :: dq d .dead (ef id (.mp gk aZ [] none) st.H)⟩,[d,id])
   | _,_=>none
  | _,_,_=>none
 | .NM,⟨some d,.next u false,_,_,_,none⟩=>match Nat.blt d n,bm X st.L u with
  | true,some (true,.c (.ptr id 0))=>match aU st.H id with
   | some (.gS eT)=>match aU st.H eT with
    | some (.mp _ _ [] _)=>some (true,⟨(d,.da [.c (.val (.bool false))]) :: st.L,st.H⟩,[d])
    | _=>none
   | _=>none
  | _,_=>none
 | .NK,⟨some d,.call ⟨.builtin .len,⟨[u]⟩,⟨[t]⟩⟩,_,_,_,none⟩=>match Nat.blt d n,X.tt.find t,bm X st.L u with
  | true,some ⟨⟨.map _ _,_,_,_⟩,_⟩,some (true,.c (.cp id))=>match aU st.H id with
   | some (.mp _ _ l _)=>some (true,⟨(d,.c (.val (.int .i64 (l.length:Int)))) :: st.L,st.H⟩,[d])
   | _=>none
  | _,_,_=>none
 | .rG,⟨some d,.call ⟨.builtin .copy,⟨[x,y]⟩,⟨[t,t2]⟩⟩,_,_,_,none⟩=>match Nat.blt d n,Nat.beq t2 t,X.tt.find t,bm X st.L x,bm X st.L y with
  | true,true,some ⟨⟨.slice e,_,_,_⟩,_⟩,some (g1,.c (.an id)),some (g2,dH)=>match X.tt.find e,aU st.H id with
   | some ⟨⟨_,cA,_,_⟩,some _⟩,some (.row cm g l cap)=>match Nat.beq cm e,Nat.beq g.size cA,kZ st g dH,Nat.blt 0 cA with
    | true,true,some bw,true=>some (g1&&(g2&&decide (bw.length<=l.length)),⟨(d,.c (.val (.int .i64 (bw.length:Int)))) :: st.L,ef id (.row e g (bw++l.drop bw.length) cap) st.H⟩,[d,id])
    | _,_,_,_=>none
   | _,_=>none
  | _,_,_,_,_=>none
 | .Z0 m,⟨some d,.alloc t,_,_,_,none⟩=>match Nat.blt d n,X.tt.find t with
  | true,some ⟨⟨_,_,_,.agg cs⟩,_⟩=>match yJ m cs.toList,Nat.ble m 140737488355328 with
   | true,true=>some (true,⟨(d,.c (.gD d 0)) :: eJ d .dead st.L,(d,.row t .bool (List.replicate m false) (some m)) :: dq d .dead st.H⟩,[d])
   | _,_=>none
  | _,_=>none
 | .Z1,⟨some d,.load t x,_,_,_,none⟩=>match Nat.blt d n,X.tt.find t,bm X st.L x with
  | true,some ⟨⟨.array m _,cA,_,_⟩,_⟩,some (g1,.c (.gD id 0))=>match aU st.H id with
   | some (.row _ g l _)=>match Nat.beq cA (m * g.size)with
    | true=>some (g1&&decide (l.length=m),⟨(d,.a (.arr g l)) :: st.L,st.H⟩,[d])
    | false=>none
   | _=>none
  | _,_,_=>none
 | .eY g p m s,⟨some d,.load t x,_,_,_,none⟩=>match Nat.blt d n,X.tt.find t,bm X st.L x,aU st.L s with
  | true,some bj,some (g1,.c (.ptr id q)),some (.a (.c (.val (.int _ z))))=>match aU st.H id,Nat.beq g.size bj.bk.size&&(g.mT || Nat.beq g.size 1),decEq (jn bj.bk.desc) g.mT with
   | some (.cells _ cs),true,isTrue _=>match pP g m (cs.drop p)with
    | some (c,l,_)=>match nB g (l.getD z.toNat g.zero)with
     | some bq=>some (g1&&(Nat.beq q (p+z.toNat * g.size)&&(c&&bl z m)),⟨(d,.a bq) :: st.L,st.H⟩,[d])
     | none=>none
    | none=>none
   | _,_,_=>none
  | _,_,_,_=>none
 | .e2 g p m s,⟨none,.store t x y,_,_,_,none⟩=>match X.tt.find t,bm X st.L x,bm X st.L y,aU st.L s with
  | some bj,some (g1,.c (.ptr id q)),some (g2,dH),some (.a (.c (.val (.int _ z))))=>match aU st.H id,Nat.blt 0 g.size&&(Nat.beq g.size bj.bk.size&&(kk g dH&&l5 dH.cells))with
   | some (.cells T cs),true=>match pP g m (cs.drop p),dec g dH.cells with
    | some (c,l,cw),some (cF,eK,[])=>match x9 g (py z.toNat eK 0 l)with
     | some hI=>some (g1&&(g2&&(Nat.beq q (p+z.toNat * g.size)&&(c&&(cF&&bl z m)))),⟨st.L,ef id (.cells T (cs.take p++(hI++cw))) st.H⟩,[id])
     | none=>none
    | _,_=>none
   | _,_=>none
  | _,_,_,_=>none
 | _,_=>none
section
variable {X:br} {n:Nat} {st st':aM} {o:Oper}
theorem aac(ar:X.tt.ok X.P) {m:oj} {c:Bool} {V:List Nat} (h:yK X n st m o=some (c,st',V)) (aa:c=true):fg X n o st st':=by
 unfold yK at h
 split at h
 ·split at h
  ·rename_i av
   cases h;exact Yy _ _ rfl ⟨rfl,rfl⟩ av
  ·cases h
 ·split at h
  ·rename_i av aV hu
   cases h;exact Z3 ar _ _ rfl ⟨rfl,rfl⟩ av aV rfl hu aa
  ·cases h
 ·split at h
  ·rename_i av aV hu aj
   split at h
   ·rename_i ad he
    split at h
    ·rename_i jZ ab
     simp only[Bool.and_eq_true]at ab
     split at h
     ·rename_i iH
      cases h;rw[Bool.and_eq_true]at aa;exact ZS ar (yG ar ab.1) rfl ⟨rfl,rfl⟩ av aV rfl he (NN ab.2.2) hu aj aa.1 jZ aa.2 ab.2.1 ad iH
     ·cases h
    ·cases h
   ·cases h
  ·cases h
 ·split at h
  ·rename_i aV hu aj aT
   split at h
   ·rename_i ad
    split at h
    ·rename_i jZ nD ab
     simp only[Bool.and_eq_true]at ab;cases h;simp only[Bool.and_eq_true]at aa;exact ZT ar (yG ar ab.1) rfl ⟨rfl,rfl⟩ aV rfl hu aj aa.1 jZ aa.2.1 ab.2.1 aT aa.2.2.1 ad nD aa.2.2.2 ab.2.2
    ·cases h
   ·cases h
  ·cases h
 ·split at h
  ·rename_i av aV hu aj
   split at h
   ·rename_i ad ab he
    split at h
    ·rename_i aC aW _ _ _ bG iH
     subst aC;subst aW;cases h;exact MP ar rfl ⟨rfl,rfl⟩ av aV rfl ab rfl he (GN (bV.get ar he) bG) hu aj aa ad iH
    ·cases h
   ·cases h
  ·cases h
 ·split at h
  ·rename_i av aV hu aj
   split at h
   ·rename_i ad ab he
    split at h
    ·rename_i aC aW _ _ _ bG iH
     subst aC;subst aW;cases h;exact Yj ar rfl ⟨rfl,rfl⟩ av aV rfl ab rfl he (GN (bV.get ar he) bG) hu aj aa ad iH
    ·cases h
   ·cases h
  ·cases h
 ·split at h
  ·rename_i av aV hu aj
   split at h
   ·rename_i ad ab he _
    split at h
    ·rename_i aC aW _ _ bG
     subst aC;subst aW;cases h;rw[Bool.and_eq_true]at aa;exact MP ar rfl ⟨rfl,rfl⟩ av aV rfl ab rfl he (GN (bV.get ar he) bG) hu aj aa.1 ad (by rw[Z2 aa.2]; rfl)
    ·cases h
   ·cases h
  ·cases h
 ·split at h
  ·rename_i aV hu aj aT
   split at h
   ·rename_i ad ab
    split at h
    ·rename_i aC aW _ _ _ _ nD ak
     subst aC;subst aW;cases h;simp only[Bool.and_eq_true]at aa;exact YE ar rfl ⟨rfl,rfl⟩ aV rfl ab rfl hu aj aa.1 aT aa.2.1 ad nD aa.2.2 ak
    ·cases h
   ·cases h
  ·cases h
 ·split at h
  ·rename_i av aV hu
   split at h
   ·rename_i cu ad
    cases h;exact Z4 ar rfl ⟨rfl,rfl⟩ av aV rfl hu ad aa cu
   ·cases h
  ·cases h
 ·split at h
  ·rename_i av hu
   split at h
   ·rename_i hi
    split at h
    ·rename_i ad
     cases h;exact Z5 rfl ⟨rfl,rfl⟩ av hu hi ad
    ·cases h
   ·cases h
  ·cases h
 ·split at h
  ·rename_i av aV hu
   split at h
   ·rename_i ad
    cases h;exact Z7 ar rfl ⟨rfl,rfl⟩ av aV rfl hu ad
   ·cases h
  ·cases h
 ·split at h
  ·rename_i av tP aV aj aT
   split at h
   ·rename_i he ad
    split at h
    ·rename_i U ah au aF
     have aW:=Nat.eq_of_beq_eq_true U;have cB:=Nat.eq_of_beq_eq_true tP;subst aW;subst cB;cases h;simp only[Bool.and_eq_true]at aa;exact aaa ar rfl ⟨rfl,rfl⟩ av aV rfl he aj aa.1 aT aa.2.1 ad ah au aF aa.2.2
    ·cases h
   ·cases h
  ·cases h
 ·split at h
  ·rename_i av aV
   split at h
   ·rename_i bG hm
    cases h;exact YT .bool _ false (.bool false) ar rfl ⟨rfl,rfl⟩ av aV (NP bG) (fun _ _=>rfl) hm
   ·cases h
  ·cases h
 ·split at h
  ·rename_i av aV aj
   split at h
   ·rename_i ad
    split at h
    ·rename_i ak
     cases h;rw[Bool.and_eq_true]at aa;exact Z8 ar rfl ⟨rfl,rfl⟩ av aV rfl aj aa.1 ad ak aa.2
    ·cases h
   ·cases h
  ·cases h
 ·split at h
  ·rename_i av aV aj ak
   split at h
   ·rename_i k9 ad aL _
    split at h
    ·rename_i jZ
     split at h
     ·rename_i iH
      cases h;simp only[Bool.and_eq_true]at aa aL;have ao:=Nat.eq_of_beq_eq_true aa.2.1;subst ao;exact gT.nG (Yc _ _ _ _ ar rfl aV aL.1 k9 (by simpa [Bool.or_eq_true] using aL.2) aj aa.1 ad jZ aa.2.2.1 aa.2.2.2 iH) ⟨rfl,rfl⟩ av
     ·cases h
    ·cases h
   ·cases h
  ·cases h
 ·split at h
  ·rename_i aV aj aT ak
   split at h
   ·rename_i ad aL
    split at h
    ·rename_i jZ nD
     split at h
     ·rename_i a7
      cases h;simp only[Bool.and_eq_true]at aa aL;have ao:=Nat.eq_of_beq_eq_true aa.2.2.1;subst ao;exact YA _ _ _ _ aL.1 ar rfl ⟨rfl,rfl⟩ aV aL.2.1 aj aa.1 aT aa.2.1 ad jZ aa.2.2.2.1 aa.2.2.2.2.2 nD aa.2.2.2.2.1 aL.2.2.1 aL.2.2.2 a7
     ·cases h
    ·cases h
   ·cases h
  ·cases h
 ·cases h
theorem aad{m:oj} {c:Bool} {V:List Nat} (h:yK X n st m o=some (c,st',V)):cN V st st':=by
 unfold yK at h
 split at h
 ·split at h
  ·cases h
   exact⟨bR.cons (iw _ _ _),bR.cons (V:=[]) (h4 _ _ _)⟩
  ·cases h
 ·split at h
  ·cases h
   exact⟨bR.cons (iw _ _ _),bR.cons (V:=[]) (h4 _ _ _)⟩
  ·cases h
 ·split at h
  ·split at h
   ·split at h
    ·split at h
     ·cases h; exact jY
     ·cases h
    ·cases h
   ·cases h
  ·cases h
 ·split at h
  ·split at h
   ·split at h
    ·cases h; exact⟨bR.refl _,ix (h5 _ _)⟩
    ·cases h
   ·cases h
  ·cases h
 ·split at h
  ·split at h
   ·split at h
    ·cases h; exact jY
    ·cases h
   ·cases h
  ·cases h
 ·split at h
  ·split at h
   ·split at h
    ·cases h; exact jY
    ·cases h
   ·cases h
  ·cases h
 ·split at h
  ·split at h
   ·split at h
    ·cases h; exact jY
    ·cases h
   ·cases h
  ·cases h
 ·split at h
  ·split at h
   ·split at h
    ·cases h; exact⟨bR.refl _,ix (h5 _ _)⟩
    ·cases h
   ·cases h
  ·cases h
 ·split at h
  ·split at h
   ·cases h
    exact⟨bR.cons (iw _ _ _),bR.cons (bR.trans (V:=[_]) (V2:=[]) (ix (h5 _ _)) (h4 _ _ _))⟩
   ·cases h
  ·cases h
 ·split at h
  ·split at h
   ·split at h
    ·cases h; exact jY
    ·cases h
   ·cases h
  ·cases h
 ·split at h
  ·split at h
   ·cases h; exact jY
   ·cases h
  ·cases h
 ·split at h
  ·split at h
   ·split at h
    ·cases h
     exact⟨bR.cons (bR.refl _),(ix (h5 _ _)).more fun q ao=>(e4 ao).2⟩
    ·cases h
   ·cases h
  ·cases h
 ·split at h
  ·split at h
   ·cases h
    exact⟨bR.cons (iw _ _ _),bR.cons (V:=[]) (h4 _ _ _)⟩
   ·cases h
  ·cases h
 ·split at h
  ·split at h
   ·split at h
    ·cases h; exact jY
    ·cases h
   ·cases h
  ·cases h
 ·split at h
  ·split at h
   ·split at h
    ·split at h
     ·cases h; exact jY
     ·cases h
    ·cases h
   ·cases h
  ·cases h
 ·split at h
  ·split at h
   ·split at h
    ·split at h
     ·cases h; exact⟨bR.refl _,ix (h5 _ _)⟩
     ·cases h
    ·cases h
   ·cases h
  ·cases h
 ·cases h
end
section
variable {X:br} {n:Nat} {st st':aM} {d:Nat} {o:Oper}
def tQ(X:br) (n:Nat) (st:aM):oj->Oper->Option (Bool×aM×List Nat)
 | .GM,⟨some d,.load t x,_,_,_,none⟩=>match Nat.blt d n,X.tt.find t,bm X st.L x with
  | true,some bj,some (g1,.c (.dZ id 1 i 0))=>match jn bj.bk.desc,Nat.beq d id,aU st.H id with
   | false,false,some (.b5 T T' g l cap none)=>some (g1&&(decide (i < l.length)&&(l.getD i (false,[])).1),⟨(d,.c (.an d)) :: eJ d .dead st.L,(d,.row T' g (l.getD i (false,[])).2 none) :: ef id (.b5 T T' g l cap (some (i,some d))) (dq d .dead st.H)⟩,[d,id])
   | false,_,some (.b5 _ _ _ _ _ (some (j,some d2)))=>some (g1&&decide (i=j),⟨(d,.c (.an d2)) :: st.L,st.H⟩,[d])
   | _,_,_=>none
  | _,_,_=>none
 | .ZX,⟨some d,.load t x,_,_,_,none⟩=>match Nat.blt d n,X.tt.find t,bm X st.L x with
  | true,some bj,some (g1,.c (.dZ id 1 i 0))=>match jn bj.bk.desc,aU st.H id with
   | false,some (.b5 _ _ g l _ none)=>some (g1&&(decide (i < l.length)&&!(l.getD i (false,[])).1),⟨(d,.c (.bn g (l.getD i (false,[])).2 none)) :: st.L,st.H⟩,[d])
   | _,_=>none
  | _,_,_=>none
 | .st,⟨none,.store t x y,_,_,_,none⟩=>match X.tt.find t,bm X st.L x,bm X st.L y with
  | some bj,some (g1,.c (.dZ id 1 i 0)),some (g2,.c (.an d))=>match Nat.beq bj.bk.size 1,aU st.H id with
   | true,some (.b5 T T' g l cap h)=>some (g1&&(g2&&(tI h i&&decide (i < l.length))),⟨st.L,ef id (.b5 T T' g l cap (some (i,some d))) st.H⟩,[id])
   | _,_=>none
  | some bj,some (g1,.c (.dZ id 1 i 0)),some (g2,.c (.bn g' bw _))=>match Nat.beq bj.bk.size 1,aU st.H id with
   | true,some (.b5 T T' g l cap h)=>match decEq g' g with
    | isTrue e=>some (g1&&(g2&&(tI h i&&decide (i < l.length))),⟨st.L,ef id (.b5 T T' g (l.set i (false,ob e bw)) cap none) st.H⟩,[id])
    | isFalse _=>none
   | _,_=>none
  | _,_,_=>none
 | .mk,⟨some d,.makeSlice t x y,_,_,_,none⟩=>match Nat.blt d n,X.tt.find t,bm X st.L x,bm X st.L y with
  | true,some ⟨⟨.slice e,_,_,_⟩,_⟩,some (g1,.c (.val (.int _ h2))),some (g2,.c (.val (.int _ hr)))=>match X.tt.find e with
   | some ⟨⟨.slice T',_,gJ,_⟩,some (.an g)⟩=>some (g1&&(g2&&(decide (0<=h2)&&decide (h2<=hr)&&gw gJ hr)),⟨(d,.c (.an d)) :: eJ d .dead st.L,(d,.b5 e T' g (List.replicate h2.toNat (true,[])) (some hr.toNat) none) :: dq d .dead st.H⟩,[d])
   | _=>none
  | _,_,_,_=>none
 | .ZY,⟨some d,.binOp .add _ u v _,_,_,_,none⟩=>match Nat.blt d n,bm X st.L u,bm X st.L v with
  | true,some (g1,.c (.val (.int .i64 x))),some (g2,.c (.val (.int .i64 y)))=>some (g1&&g2,⟨(d,.c (.val (.int .i64 (IntKind.i64.wrap (x+y))))) :: st.L,st.H⟩,[d])
  | _,_,_=>none
 | m,o=>yK X n st m o
theorem GQ(ar:X.tt.ok X.P) {m:oj} {c:Bool} {V:List Nat} (h:tQ X n st m o=some (c,st',V)) (aa:c=true):fg X n o st st':=by
 unfold tQ at h
 split at h
 ·split at h
  ·rename_i av aV aj
   split at h
   ·rename_i bo a7 ad
    cases h;simp only[Bool.and_eq_true]at aa;exact ZU ar rfl ⟨rfl,rfl⟩ av aV bo aj aa.1 ad a7 aa.2.1 aa.2.2
   ·rename_i bo ad
    cases h;simp only[Bool.and_eq_true]at aa;exact gT.nG (Nd ar rfl aV bo aj aa.1 ad aa.2) ⟨rfl,rfl⟩ av
   ·cases h
  ·cases h
 ·split at h
  ·rename_i av aV aj
   split at h
   ·rename_i bo ad
    cases h;simp only[Bool.and_eq_true]at aa;exact gT.nG (NI ar rfl aV bo aj aa.1 ad aa.2.1 aa.2.2) ⟨rfl,rfl⟩ av
   ·cases h
  ·cases h
 ·split at h
  ·rename_i aV aj aT
   split at h
   ·rename_i ak ad
    cases h;simp only[Bool.and_eq_true]at aa;exact Ng ar rfl ⟨rfl,rfl⟩ aV ak aj aa.1 aT aa.2.1 ad aa.2.2.1 aa.2.2.2
   ·cases h
  ·rename_i aV aj aT
   split at h
   ·rename_i ak ad
    split at h
    ·rename_i e _
     subst e;cases h;simp only[Bool.and_eq_true]at aa;exact Ze ar rfl ⟨rfl,rfl⟩ aV ak aj aa.1 aT aa.2.1 ad aa.2.2.1 aa.2.2.2
    ·cases h
   ·cases h
  ·cases h
 ·split at h
  ·rename_i av aV aj aT
   split at h
   ·rename_i he
    cases h;rw[Bool.and_eq_true,Bool.and_eq_true]at aa;exact ZV _ _ ar rfl ⟨rfl,rfl⟩ av aV rfl he rfl aj aa.1 aT aa.2.1 aa.2.2
   ·cases h
  ·cases h
 ·split at h
  ·rename_i av aj aT
   cases h;simp only[Bool.and_eq_true]at aa;refine gT.nG (fun {R W aG Yl ks env B ai H a bZ} ag=>?_) ⟨rfl,rfl⟩ av;obtain⟨v,aB,J⟩:=ag.aD aj aa.1;obtain⟨v2,fY,U⟩:=ag.aD aT aa.2;rw[show v=_ from J]at aB;rw[show v2=_ from U]at fY;exact⟨_,rfl,fun w _=>KU ag.bL rfl aB fY rfl w⟩
  ·cases h
 ·exact aac ar h aa
theorem GR{m:oj} {c:Bool} {V:List Nat} (h:tQ X n st m o=some (c,st',V)):cN V st st':=by
 unfold tQ at h
 split at h
 ·split at h
  ·split at h
   ·cases h
    exact⟨bR.cons (iw _ _ _),bR.cons (bR.trans (V:=[]) (V2:=[_]) (h4 _ _ _) (ix (h5 _ _)))⟩
   ·cases h
    exact jY
   ·cases h
  ·cases h
 ·split at h
  ·split at h
   ·cases h; exact jY
   ·cases h
  ·cases h
 ·split at h
  ·split at h
   ·cases h; exact⟨bR.refl _,ix (h5 _ _)⟩
   ·cases h
  ·split at h
   ·split at h
    ·cases h; exact⟨bR.refl _,ix (h5 _ _)⟩
    ·cases h
   ·cases h
  ·cases h
 ·split at h
  ·split at h
   ·cases h
    exact⟨bR.cons (iw _ _ _),bR.cons (V:=[]) (h4 _ _ _)⟩
   ·cases h
  ·cases h
 ·split at h
  ·cases h; exact jY
  ·cases h
 ·exact aad h
end
end
section
def mj:List Bool->Bool->Bool
  | [],x=>x
  | c :: r,x=>mj r (c&&x)
theorem jB:∀ {A:List Bool} {x:Bool},mj A x=true->(∀ c∈A,c=true)/\x=true
  | [],_,h=>⟨(fun _ h=>by cases h),h⟩
  | c :: r,x,h=>by
    obtain⟨J,U⟩:=jB (A:=r) h;simp only[Bool.and_eq_true]at U;refine⟨fun d av=>?_,U.2⟩
    rcases List.mem_cons.1 av with rfl | av
    · exact U.1
    · exact J d av
inductive In where
  | n (k:Nat)
  | w (x:lf)
  | c (ps:eg)
  | y
  | x
  | t (m:oj)
  | f (j:Nat) (ks:List Int)
  | GS (j:Nat)
  | wi
abbrev jh (aP:Type):=Option (Nat->List bf->Option aP->Option aP->Option aP)
def tR:Option b0->Option Nat
  | some (.a (.c (.val (.func (.yield l) ⟨[]⟩ ⟨[]⟩))))=>some l
  | _=>none
def qZ(L:cL):Operand->Option (FuncId×List bf×List bf)
  | .func f=>some (f,[],[])
  | .tmp s=>match aU L s with
    | some (.a (.c (.fn f ids)))=>some (f,[],oV ids)
    | some (.a (.c (.iA f id)))=>some (f,[.c (.ptr id 0)],[])
    | _=>none
  | _=>none
def takeN{α:Type}:Nat->List α->List α
  | 0,_=>[]
  | _,[]=>[]
  | k+1,x :: l=>x :: takeN k l
def BX{α:Type}:Nat->List α->List α
  | 0,l=>l
  | _,[]=>[]
  | k+1,_ :: l=>BX k l
section
variable {X:br} {aP:Type}
def yL(X:br) (n:Nat) (f:FuncId) (ps:eg) (d:Nat) (st:aM) (args:List bf) (k:aM->Option aP):List (bI X)->Option aP
  | []=>none
  | e :: T=>match Nat.beq e.f f with
    | true=>match sb X n e ps st.H args with
      | some p=>(e.m p.d).bind fun r=>match after X e ps st d p r with
        | some st'=>k st'
        | none=>none
      | none=>yL X n f ps d st args k T
    | false=>yL X n f ps d st args k T
abbrev om (aP:Type):=e7->List Nat->List Bool->aM->Option aP
def tS(X:br) (n:Nat) (T:List (bI X)) (ps:eg) (V:List Nat) (A:List Bool) (st:aM) (k:om aP):Oper->Option aP
  | ⟨some d,.call ⟨.value u,⟨xs⟩,_⟩,_,_,_,none⟩=>match Nat.blt d n,qZ st.L u,n4 X st.L xs with
    | true,some (f,pre,post),some (c,args)=>aw (mj (c :: A) true) (yL X n f ps d st (pre++(args++post)) (fun st'=>k [] (d :: (kg ps++V)) [] st') T)
    | _,_,_=>none
  | _=>none
def yM(X:br) (n:Nat) (f:FuncId) (d:Nat) (g:Bool) (st:aM) (args:List bf) (k:bf->Option aP):List (bI X)->Option aP
  | []=>none
  | e :: T=>match Nat.beq e.f f with
    | true=>match sb X n e [] st.H args with
      | some p=>(cond g (e.m p.d) (some e.od)).bind fun r=>match after X e [] st d p r,(e.out p.d r).2 with
        | some ⟨(_,.a bq) :: _,_⟩,[]=>k bq
        | _,_=>none
      | none=>yM X n f d g st args k T
    | false=>yM X n f d g st args k T
def wj(X:br) (n:Nat) (T:List (bI X)) (cz:List (Option Nat)) (G:e7) (V:List Nat) (A:List Bool) (st:aM) (k:om aP):Oper->Option aP
  | ⟨some d,.call ⟨.value u,⟨xs⟩,_⟩,_,_,_,some (j,want)⟩=>match nth cz j with
    | some (some s)=>match iy st.L s want with
      | some g=>match Nat.blt d n,Nat.beq s d,qZ (hc (mg cz G 8 j want) G st.L) u,n4 X (hc (mg cz G 8 j want) G st.L) xs with
        | true,false,some (f,pre,post),some (c,args)=>aw (mj (ez g c :: A) true) (yM X n f d g st (pre++(args++post)) (fun bq=>k ((d,j,want) :: iU cz d G) (d :: V) [] ⟨(d,.may g bq) :: st.L,st.H⟩) T)
        | _,_,_,_=>none
      | none=>none
    | _=>none
  | _=>none
def yN(X:br) (n:Nat) (T:List (bI X)) (cz:List (Option Nat)) (G:e7) (V:List Nat) (A:List Bool) (st:aM) (o:Oper) (k:om aP):Option aP:=match o.guard with
  | none=>match sg X cz [] G st o.op with
    | some (c,bq)=>match o.dst with
      | some d=>match Nat.blt d n with
        | true=>k (iU cz d G) (d :: V) (c :: A) ⟨(d,.a bq) :: st.L,st.H⟩
        | false=>none
      | none=>none
    | none=>match tO X n st o with
      | some (c,st',W)=>k [] (W++V) (c :: A) st'
      | none=>match n3 X n cz st o with
        | .ok c st'=>k [] (tM X st.L o++V) (c :: A) st'
        | .stop=>tS X n T [] V A st k o
  | some (j,want)=>match nth cz j with
    | some (some s)=>match iy st.L s want with
      | some g=>match sg X cz (mg cz G 8 j want) G st o.op with
        | some (c,bq)=>match o.dst with
          | some d=>match Nat.blt d n,Nat.beq s d with
            | true,false=>k ((d,j,want) :: iU cz d G) (d :: V) (ez g c :: A) ⟨(d,.may g bq) :: st.L,st.H⟩
            | _,_=>none
          | none=>none
        | none=>wj X n T cz G V A st k o
      | none=>none
    | _=>none
def yO(X:br) (n:Nat) (T:List (bI X)) (cz:List (Option Nat)):List Oper->e7->List Nat->List Bool->aM->om aP->Option aP
  | [],G,V,A,st,k=>k G V A st
  | o :: l,G,V,A,st,k=>yN X n T cz G V A st o fun eH fh b9 st'=>yO X n T cz l eH fh b9 st' k
def GU(X:br) (n:Nat) (b3:jh aP) (st:aM) (A:List Bool) (o:Oper) (k:Nat->aM->Option aP):Option aP:=match b3,o with
  | some em,⟨some d,.call ⟨.value (.tmp s),⟨xs⟩,_⟩,_,_,_,none⟩=>match Nat.blt d n,tR (aU st.L s),n4 X st.L xs with
    | true,some l,some (c,args)=>aw (mj (c :: A) true) (em l args (k d ⟨(d,.c (.val (.bool false))) :: st.L,st.H⟩) (k d ⟨(d,.c (.val (.bool true))) :: st.L,st.H⟩))
    | _,_,_=>none
  | _,_=>none
def yP(X:br) (n:Nat) (b3:jh aP) (cz:List (Option Nat)) (G:e7) (st:aM) (A:List Bool) (o:Oper) (k:e7->Nat->aM->Option aP):Option aP:=match b3,o with
  | some em,⟨some d,.call ⟨.value (.tmp s),⟨xs⟩,_⟩,_,_,_,some (j,want)⟩=>match nth cz j with
    | some (some ji)=>match iy st.L ji want with
      | some true=>match Nat.blt d n,Nat.beq ji d,tR (aU (hc (mg cz G 8 j want) G st.L) s),n4 X (hc (mg cz G 8 j want) G st.L) xs with
        | true,false,some l,some (c,args)=>aw (mj (c :: A) true) (em l args (k ((d,j,want) :: iU cz d G) d ⟨(d,.may true (.c (.val (.bool false)))) :: st.L,st.H⟩) (k ((d,j,want) :: iU cz d G) d ⟨(d,.may true (.c (.val (.bool true)))) :: st.L,st.H⟩))
        | _,_,_,_=>none
      | some false=>match Nat.blt d n,Nat.beq ji d with
        | true,false=>aw (mj A true) (k ((d,j,want) :: iU cz d G) d ⟨(d,.may false (.c (.val (.bool false)))) :: st.L,st.H⟩)
        | _,_=>none
      | none=>none
    | _=>none
  | _,_=>none
def GV{aP:Type} (X:br) (n:Nat) (st:aM) (A:List Bool) (o:Oper) (k:List Nat->aM->Option aP):Option aP:=match o with
  | ⟨some d,.next x true,_,_,_,none⟩=>match Nat.blt d n,bm X st.L x with
    | true,some (g,.c (.ptr id 0))=>match aU st.H id with
      | some (.hq S p)=>aw (mj (g :: A) true) (cond (decide (p < S.size)) (k [d,id] ⟨(d,.da [.c (.val (.bool true)),.c (.val (.int .i64 (p:Int))),.c (.val (.int .i32 (Utf8.decode S p).1))]) :: st.L,ef id (.hq S (p+(Utf8.decode S p).2)) st.H⟩) (k [d,id] ⟨(d,.da [.c (.val (.bool false))]) :: st.L,st.H⟩))
      | _=>none
    | _,_=>none
  | _=>none
def BY{aP:Type} (z:Int):List Int->(Int->Option aP)->Option aP
  | [],_=>none
  | q :: iS,f=>cond (decide (z=q)) (f q) (BY z iS f)
def hv(X:br) (n:Nat) (T:List (bI X)) (b3:jh aP) (cz:List (Option Nat)):List In->List Oper->e7->List Nat->List Bool->aM->(List Nat->aM->Option aP)->Option aP
  | [],ops,G,V,A,st,k=>yO X n T cz ops G V A st fun _ fh b9 st'=>aw (mj b9 true) (k fh st')
  | .n m :: is,ops,G,V,A,st,k=>yO X n T cz (takeN m ops) G V A st fun eH fh b9 st'=>hv X n T b3 cz is (BX m ops) eH fh b9 st' k
  | .w x :: is,ops,_,V,A,st,k=>match vZ n x st with
    | some (c,st')=>hv X n T b3 cz is ops [] (x.vX++V) (c :: A) st' k
    | none=>none
  | .c ps :: is,o :: ops,_,V,A,st,k=>tS X n T ps V A st (fun eH fh b9 st'=>hv X n T b3 cz is ops eH fh b9 st' k) o
  | .c _ :: _,[],_,_,_,_,_=>none
  | .y :: is,o :: ops,_,V,A,st,k=>GU X n b3 st A o fun d st'=>hv X n T b3 cz is ops [] (d :: V) [] st' k
  | .x :: is,o :: ops,_,V,A,st,k=>GV X n st A o fun W st'=>hv X n T b3 cz is ops [] (W++V) [] st' k
  | .t m :: is,o :: ops,_,V,A,st,k=>match tQ X n st m o with
    | some (c,st',W)=>hv X n T b3 cz is ops [] (W++V) (c :: A) st' k
    | none=>none
  | .f j ks :: is,ops,_,V,A,st,k=>match aU st.L j with
    | some (.a (.c (.val (.int n7 z))))=>aw (mj A true) (BY z ks fun q=>hv X n T b3 cz is ops [] (j :: V) [] ⟨(j,.a (.c (.val (.int n7 q)))) :: st.L,st.H⟩ k)
    | _=>none
  | .GS j :: is,ops,_,V,A,st,k=>match aU st.L j with
    | some (.a (.c (.val (.bool b))))=>aw (mj A true) (cond b (hv X n T b3 cz is ops [] (j :: V) [] ⟨(j,.a (.c (.val (.bool true)))) :: st.L,st.H⟩ k) (hv X n T b3 cz is ops [] (j :: V) [] ⟨(j,.a (.c (.val (.bool false)))) :: st.L,st.H⟩ k))
    | _=>none
  | .wi :: is,o :: ops,G,V,A,st,k=>yP X n b3 cz G st A o fun eH d st'=>hv X n T b3 cz is ops eH (d :: V) [] st' k
  | .wi :: _,[],_,_,_,_,_=>none
  | .x :: _,[],_,_,_,_,_=>none
  | .y :: _,[],_,_,_,_,_=>none
  | .t _ :: _,[],_,_,_,_,_=>none
variable {M:Bool} {n:Nat} {rr:Option Nat} {T:List (bI X)} {st0 st st':aM} {Q:Exit->aM->Prop} {ops l rest:List Oper} {o:Oper} {r:aP} {V:List Nat} {A:List Bool}
def BZ(k:om aP) (r:aP):Prop:=∀ G V A st,k G V A st=some r->∀ c∈A,c=true
theorem GW{f:FuncId} {xs:List Operand} {pre post args:List bf} {ps:eg} {d:Nat} {c:Bool} {k:aM->Option aP} (tE:Callee X st o f xs pre post) (a6:o.guard=none/\o.dst=some d) (av:Nat.blt d n=true) (qS:n4 X st.L xs=some (c,args)) (aa:c=true):∀ {T:List (bI X)},yL X n f ps d st (pre++(args++post)) k T=some r->∃ st',qP X n o (tD st.H ps) st st'/\cN (d :: kg ps) st st'/\k st'=some r
  | [],h=>by cases h
  | e :: T,h=>by
    unfold yL at h
    split at h
    · rename_i aA
      have kA:=Nat.eq_of_beq_eq_true aA;subst kA
      split at h
      · rename_i p aq
        obtain⟨q,ao,h⟩:=hQ h
        split at h
        · rename_i fI bo
          exact⟨fI,MM e ps tE a6 av (.of qS aa) aq ao bo,ZK aq bo,h⟩
        · cases h
      · exact GW tE a6 av qS aa h
    · exact GW tE a6 av qS aa h
theorem NQ{u:Operand} {xs:List Operand} {fr:Array TypeId} {f:FuncId} {pre post:List bf} (ax:o.op=.call { callee:=.value u,args:=xs.toArray,argTypes:=fr }) (h:qZ st.L u=some (f,pre,post)):Callee X st o f xs pre post:=by
  refine⟨fr,?_⟩;unfold qZ at h
  split at h
  · cases h; exact .inl ⟨ax,rfl,rfl⟩
  · split at h
    · rename_i e; cases h; exact .inr (.inl ⟨_,_,ax,e,rfl,rfl⟩)
    · rename_i e; cases h; exact .inr (.inr ⟨_,_,ax,e,rfl,rfl⟩)
    · cases h
  · cases h
theorem sj{ps:eg} {k:om aP} (aN:cN V st0 st) (h:tS X n T ps V A st k o=some r):(∀ c∈A,c=true)/\∃ st' fh,qP X n o (tD st.H ps) st st'/\cN fh st0 st'/\k [] fh [] st'=some r:=by
  unfold tS at h
  split at h
  · rename_i d u xs fr t p a
    split at h
    · rename_i f pre post c args av lH qS
      obtain⟨aa,h⟩:=gK h;have er:=(jB aa).1;obtain⟨st',J,U,ah⟩:=GW (o:=⟨some d,.call ⟨.value u,⟨xs⟩,fr⟩,t,p,a,none⟩) (NQ rfl lH) ⟨rfl,rfl⟩ av qS (er c List.mem_cons_self) h;exact⟨fun c aa=>er c (List.mem_cons_of_mem _ aa),st',_,J,by have:=aN.trans U; exact this,ah⟩
    · cases h
  · cases h
theorem GX{f:FuncId} {d:Nat} {g:Bool} {args:List bf} {k:bf->Option aP} {r:aP}:∀ {T:List (bI X)},yM X n f d g st args k T=some r->∃ (e:bI X) (p:vR X e) (q:e.aP) (bq:bf),e.f=f/\sb X n e [] st.H args=some p/\(g=true->e.m p.d=some q)/\after X e [] st d p q=some ⟨(d,.a bq) :: st.L,st.H⟩/\k bq=some r
  | [],h=>by cases h
  | e :: T,h=>by
    unfold yM at h
    split at h
    · rename_i aA
      split at h
      · rename_i p aq
        obtain⟨q,ao,h⟩:=hQ h
        split at h
        · rename_i d2 bq BM H2 bo a6
          refine⟨e,p,q,bq,Nat.eq_of_beq_eq_true aA,aq,fun aL=>by rw[aL]at ao; exact ao,?_,h⟩;have J:H2=st.H/\BM=st.L/\d2=d:=by
            unfold sb at aq
            split at aq
            · rename_i FW J H1 jL MN lJ
              split at aq
              · split at aq
                · cases aq
                  have ds:H1=st.H:=by
                    cases NR:e.eL with
                    | nil=>rw[NR]at lJ; cases lJ; rfl
                    | cons q _=>rw[NR]at lJ; cases lJ
                  unfold after at bo;rw[a6]at bo
                  split at bo
                  · rename_i k2 nw aC aW
                    cases aW;cases bo;exact⟨rfl,rfl,rfl⟩
                  · cases bo
                · cases aq
              · cases aq
            · cases aq
          obtain⟨rfl,rfl,rfl⟩:=J;exact bo
        · cases h
      · exact GX h
    · exact GX h
theorem NS{G:e7} {k:om aP} (h:wj X n T (et ops) G V A st k o=some r):∀ c∈A,c=true:=by
  unfold wj at h
  split at h
  · split at h
    · split at h
      · split at h
        · obtain⟨aa,h⟩:=gK h
          exact fun c hm=>(jB aa).1 c (List.mem_cons_of_mem _ hm)
        · cases h
      · cases h
    · cases h
  · cases h
theorem aae{cz:List (Option Nat)} {G:e7} {ps:List (Nat×Bool)} {u:Operand} {c:FuncId×List bf×List bf} (b1:dS cz G st.L) (aq:∀ p∈ps,lg cz st.L p) (h:qZ (hc ps G st.L) u=some c) :
    ∃ fI:aM,fI.H=st.H/\qZ fI.L u=some c/\(∀ {R W aG ks env B ai H a w},bH X R W aG n ks env B ai H st a w->bH X R W aG n ks env B ai H fI a w)/\(∀ {R W aG ks env B ai H a w},bH X R W aG n ks env B ai H fI a w->bH X R W aG n ks env B ai H st a w) /\
      ∀ {d:Nat} {bq:bf} {R W aG ks env B ai H a w},bH X R W aG n ks env B ai H ⟨(d,.a bq) :: fI.L,fI.H⟩ a w->bH X R W aG n ks env B ai H ⟨(d,.a bq) :: st.L,st.H⟩ a w:=by
  cases u with
  | tmp s=>
    unfold qZ at h;dsimp only at h;cases ad:aU (hc ps G st.L) s with
    | none=>rw[ad]at h; cases h
    | some sv=>
      rcases ZC b1 aq s sv ad with J | ⟨x,rfl,J⟩
      · exact⟨st,rfl,by unfold qZ; dsimp only; rw[J]; rw[ad]at h; exact h,fun h=>h,fun h=>h,fun h=>h⟩
      · have key:∀ {L:cL} {R W aG ks env B ai H a w},(∀ q,q≠s->aU L q=aU ((s,b0.a x) :: L) q)->bH X R W aG n ks env B ai H ⟨(s,.a x) :: L,st.H⟩ a w->aU L s=some (.may true x)->bH X R W aG n ks env B ai H ⟨L,st.H⟩ a w:=fun {L} _ _ _ _ _ _ _ _ _ _ _ ag ak=>⟨ag.size,ag.defs,fun q sv ao=>by
          by_cases e:q=s
          · subst e
            rw[ak]at ao;cases ao;obtain⟨v,jx,fY⟩:=ag.has q (.a x) (by rw[cl,if_pos rfl]);exact⟨v,jx,fun _=>fY,fun h=>by cases h⟩
          · exact ag.has q sv (by rw[cl,if_neg e]; exact ao),ag.heap,ag.aJ,ag.sub,ag.new,ag.df,ag.base,ag.dQ⟩
        refine⟨⟨(s,.a x) :: st.L,st.H⟩,rfl,?_,fun ag=>⟨ag.size,ag.defs,fun q sv ao=>?_,ag.heap,ag.aJ,ag.sub,ag.new,ag.df,ag.base,ag.dQ⟩,fun ag=>key (fun q ao=>by rw[cl,if_neg ao]) ag J,fun {d bq} _ _ _ _ _ _ _ _ _ _ ag=>⟨ag.size,ag.defs,fun q sv ao=>?_,ag.heap,ag.aJ,ag.sub,ag.new,ag.df,ag.base,ag.dQ⟩⟩
        · unfold qZ
          dsimp only;rw[cl,if_pos rfl];rw[ad]at h;exact h
        · rw[cl]at ao
          split at ao
          · rename_i e
            subst e;cases ao;obtain⟨v,jx,fY⟩:=ag.has _ _ J;exact⟨v,jx,fY.1 rfl⟩
          · exact ag.has q sv ao
        · rw[cl]at ao
          split at ao
          · rename_i e
            subst e;cases ao;exact ag.has _ _ (by rw[cl,if_pos rfl])
          · rename_i e
            by_cases aW:q=s
            · subst aW
              rw[J]at ao;cases ao;obtain⟨v,jx,fY⟩:=ag.has q (.a x) (by rw[cl,if_neg e,cl,if_pos rfl]);exact⟨v,jx,fun _=>fY,fun h=>by cases h⟩
            · exact ag.has q sv (by rw[cl,if_neg e,cl,if_neg aW]; exact ao)
  | func f=>exact⟨st,rfl,h,fun h=>h,fun h=>h,fun h=>h⟩
  | _=>cases h
theorem aaf{e:bI X} {fI:aM} {d:Nat} {p:vR X e} {q:e.aP} {bq:bf} (ds:fI.H=st.H) (bo:after X e [] st d p q=some ⟨(d,.a bq) :: st.L,st.H⟩):after X e [] fI d p q=some ⟨(d,.a bq) :: fI.L,fI.H⟩:=by
  unfold after at bo ⊢
  split at bo
  · rename_i k2 nw aC aW
    dsimp only at bo ⊢;have ah:=Option.some.inj bo;have au:(d,k2) :: st.L=(d,b0.a bq) :: st.L:=congrArg aM.L ah;have aF:nw++st.H=st.H:=congrArg aM.H ah;rw[ds,aF];have aY:k2=b0.a bq:=by
      have:=(List.cons.inj au).1
      exact(Prod.mk.inj this).2
    rw[aY]
  · cases bo
theorem NT{G:e7} {k:om aP} (b1:dS (et ops) G st.L) (aN:cN V st0 st) (h:wj X n T (et ops) G V A st k o=some r):∃ (d:Nat) (g:Bool) (bq:bf) (eH:e7),dS (et ops) eH ((d,.may g bq) :: st.L)/\cN (d :: V) st0 ⟨(d,.may g bq) :: st.L,st.H⟩/\k eH (d :: V) [] ⟨(d,.may g bq) :: st.L,st.H⟩=some r /\
    ∀ (R:Nat->Prop) (W:World) (aG:eX) (ks:List Nat) (env:Nat->Loc) (B:Nat->Prop) (ai:World) (H:List bb) (a:Act) (w:World),bH X R W aG n ks env B ai H st a w->∀ (KK:Act->World->Prop),
      (∀ aS w' env' B' cD H',bH X R W aG n ks env' B' cD H' ⟨(d,.may g bq) :: st.L,st.H⟩ aS w'->(∀ k,B k->B' k)->c6 (fun k=>R k\/B k) ai cD->KK aS w')->eR X.P ops.toArray o KK a w:=by
  unfold wj at h
  split at h
  · rename_i d u xs fr ty po af j want
    split at h
    · rename_i s aR
      split at h
      · rename_i g aL
        split at h
        · rename_i f pre post c args av q0 lH qS
          obtain⟨aa,h⟩:=gK h;have er:=(jB aa).1;obtain⟨e,pp,q,bq,aA,aq,ao,bo,ab⟩:=GX h;subst aA;have cu:s≠d:=Nat.ne_of_beq_eq_false q0;have mW:dS (et ops) ((d,j,want) :: iU (et ops) d G) ((d,.may g bq) :: st.L):=fun e he=>by
            rcases List.mem_cons.1 he with rfl | he
            · exact⟨s,g,bq,aR,by rw[wb cu]; exact aL,by rw[cl,if_pos rfl]⟩
            · exact b1.drop d _ e he
          refine⟨d,g,bq,_,mW,⟨bR.cons aN.1,aN.2.more fun q ao=>(e4 ao).2⟩,ab,?_⟩;intro R W aG ks env B ai H a w ag KK bS;have hw:=yA (l:=ops) (o:=⟨some d,.call ⟨.value u,⟨xs⟩,fr⟩,ty,po,af,some (j,want)⟩) ag rfl aR aL;have put:∀ v,cW n (jK ks aG) ((d,v) :: gl a) (a.put (some d) v):=fun v=>ag.bL.put d v (du av)
          cases g with
          | false=>exact .inr ⟨hw,bS _ _ _ _ _ _ (ag.set (sv:=.may false bq) ⟨(fun h=>by cases h),fun _=>rfl⟩ (put undef)) (fun _ h=>h) (c6.refl _ _)⟩
          | true=>
            have sk:∀ p∈mg (et ops) G 8 j want,lg (et ops) st.L p:=yz b1 ⟨s,aR,aL⟩;obtain⟨fI,sd,aag,oo,aah,aai⟩:=aae (X:=X) (n:=n) b1 sk lH;have aaj:BH X n fI xs args:=fun _ _ _ _ _ _ _ _ _ _ ag=>xS ((aah ag).view b1 sk) qS (yu (er _ List.mem_cons_self) rfl)
            have J:=MM (o:=⟨some d,.call ⟨.value u,⟨xs⟩,fr⟩,ty,po,af,none⟩) e [] (NQ rfl aag) ⟨rfl,rfl⟩ av aaj (by rw[sd]; exact aq) (ao rfl) (aaf sd bo) R W aG ks env B ai H a w (oo ag) KK ops fun aS w' env' B' cD H' fJ gF jy _=>by
              have cf:=aai fJ;have tJ:=cf.has d (.a bq) (by rw[cl,if_pos rfl]);obtain⟨v,jx,fY⟩:=tJ;refine bS _ _ _ _ _ _ ⟨cf.size,cf.defs,fun q sv ak=>?_,cf.heap,cf.aJ,cf.sub,cf.new,cf.df,cf.base,cf.dQ⟩ gF jy
              by_cases B0:q=d
              · subst B0
                rw[cl,if_pos rfl]at ak;cases ak;exact⟨v,jx,fun _=>fY,fun h=>by cases h⟩
              · exact cf.has q sv (by rw[cl,if_neg B0]at ak ⊢; exact ak)
            rcases J with⟨_,U⟩ | ⟨U,_⟩
            · exact .inl ⟨hw,U⟩
            · simp[Region.wanted]at U
        · cases h
      · cases h
    · cases h
  · cases h
theorem aak{G:e7} {k:om aP} (ab:BZ k r) (h:yN X n T (et ops) G V A st o k=some r):∀ c∈A,c=true:=by
  unfold yN at h
  split at h
  · split at h
    · split at h
      · split at h
        · exact fun c aa=>ab _ _ _ _ h c (List.mem_cons_of_mem _ aa)
        · cases h
      · cases h
    · split at h
      · exact fun c aa=>ab _ _ _ _ h c (List.mem_cons_of_mem _ aa)
      · split at h
        · exact fun c aa=>ab _ _ _ _ h c (List.mem_cons_of_mem _ aa)
        · exact(sj (cN.refl (V:=V) st) h).1
  · split at h
    · split at h
      · split at h
        · split at h
          · split at h
            · exact fun c aa=>ab _ _ _ _ h c (List.mem_cons_of_mem _ aa)
            · cases h
          · cases h
        · exact NS h
      · cases h
    · cases h
theorem B1{k:om aP} (ab:BZ k r):∀ {l:List Oper} {G:e7} {V:List Nat} {A:List Bool} {st:aM},yO X n T (et ops) l G V A st k=some r->∀ c∈A,c=true
  | [],G,V,A,st,h=>ab _ _ _ _ h
  | o :: l,G,V,A,st,h=>aak (fun _ _ _ _ aO=>B1 ab aO) h
def yQ(X:br) (n:Nat) (ops:List Oper) (o:Oper) (st st':aM):Prop:=∀ (R:Nat->Prop) (W:World) (aG:eX) (ks:List Nat) (env:Nat->Loc) (B:Nat->Prop) (ai:World) (H:List bb) (a:Act) (w:World),bH X R W aG n ks env B ai H st a w->∀ (KK:Act->World->Prop),
  (∀ aS w' env' B' cD H',bH X R W aG n ks env' B' cD H' st' aS w'->KK aS w')->eR X.P ops.toArray o KK a w
theorem qP.wk{kp:bb->Bool} (h:qP X n o kp st st'):yQ X n ops o st st':=fun R W aG ks env B ai H a w ag KK bS=>h R W aG ks env B ai H a w ag KK ops fun aS w' env' B' cD H' cf _ _ _=>bS aS w' env' B' cD H' cf
structure B2(X:br) (n:Nat) (ops:List Oper) (Z:List Oper->aP->aM->Prop):Prop where
  step:∀ {o rest r st st'},yQ X n ops o st st'->Z rest r st'->Z (o :: rest) r st
  ep:∀ {l r st st'},dh X n st st'->Z l r st'->Z l r st
def B3(X:br) (n:Nat) (ops:List Oper) (o:Oper) (st:aM):Prop:=∀ {R:Nat->Prop} {W:World} {aG:eX} {ks:List Nat} {env:Nat->Loc} {B:Nat->Prop} {ai:World} {H:List bb} {a:Act} {w:World},bH X R W aG n ks env B ai H st a w->Region.wanted o (yielded ops.toArray a.tmps)=true
theorem B3.none{ops:List Oper} {o:Oper} {st:aM} (h:o.guard=none):B3 X n ops o st:=fun _=>by simp[Region.wanted,h]
def NU(X:br) (n:Nat) (ops:List Oper) (b3:jh aP) (Z:List Oper->aP->aM->Prop):Prop:=∀ em,b3=some em->∀ {l:Nat} {args:List bf} {f t:Option aP} {r:aP},em l args f t=some r->∃ mX rt,f=some mX/\t=some rt/\∀ {o:Oper} {rest:List Oper} {st:aM} {d s:Nat} {xs:List Operand} {fr:Array TypeId} {c:Bool},o.op=.call { callee:=.value (.tmp s),args:=xs.toArray,argTypes:=fr }->B3 X n ops o st/\o.dst=some d->Nat.blt d n=true->tR (aU st.L s)=some l->n4 X st.L xs=some (c,args)->c=true ->
  Z rest mX ⟨(d,.c (.val (.bool false))) :: st.L,st.H⟩->Z rest rt ⟨(d,.c (.val (.bool true))) :: st.L,st.H⟩->Z (o :: rest) r st
variable {Z:List Oper->aP->aM->Prop}
theorem aal(ar:X.tt.ok X.P) (fT:B2 X n ops Z) {G:e7} (b1:dS (et ops) G st.L) (aN:cN V st0 st) {k:om aP} (eu:BZ k r) (h:yN X n T (et ops) G V A st o k=some r) (ab:∀ eH fh b9 st',dS (et ops) eH st'.L->cN fh st0 st'->k eH fh b9 st'=some r->Z rest r st'):Z (o :: rest) r st:=by
  have one:∀ {d:Nat} {sv:b0},cN (d :: V) st0 ⟨(d,sv) :: st.L,st.H⟩:=fun {d sv}=>⟨bR.cons aN.1,aN.2.more fun q ao=>(e4 ao).2⟩
  unfold yN at h
  split at h
  · rename_i dA
    split at h
    · rename_i c bq aC
      split at h
      · rename_i d dX
        split at h
        · rename_i av
          have aa:=eu _ _ _ _ h c List.mem_cons_self;refine fT.step (st':=⟨(d,.a bq) :: st.L,st.H⟩) ?_ (ab _ _ _ _ (b1.drop d _) one h);intro R W aG ks env B ai H a w ag KK bS;obtain⟨v,J,U⟩:=Nx ar ag b1 (fun _ h=>by cases h) aC aa;exact fU ag.bL dA dX (du av) U fun aS aI=>bS aS w env B ai H (ag.set (sv:=.a bq) J aI)
        · cases h
      · cases h
    · split at h
      · rename_i c fI W e
        have aa:=eu _ _ _ _ h c List.mem_cons_self;exact fT.step (GH ar e aa).c.wk (ab _ _ _ fI dS.nil (aN.trans (GI e)) h)
      · split at h
        · rename_i c fI e
          have aa:=eu _ _ _ _ h c List.mem_cons_self;refine fT.step ?_ (ab _ _ _ fI dS.nil (aN.trans (wc dA e)) h);intro R W aG ks env B ai H a w ag KK bS;exact A5 ar e aa ag fun aS w' env' H' _ cf=>bS aS w' env' B ai H' cf
        · obtain⟨_,fI,V2,J,U,ah⟩:=sj aN h
          exact fT.step J.wk (ab _ _ _ fI dS.nil U ah)
  · rename_i j want dA
    split at h
    · rename_i s aR
      split at h
      · rename_i g aL
        split at h
        · rename_i c bq aC
          split at h
          · rename_i d dX
            split at h
            · rename_i av q0
              have aa:=eu _ _ _ _ h _ List.mem_cons_self;have cu:s≠d:=Nat.ne_of_beq_eq_false q0;have mW:dS (et ops) ((d,j,want) :: iU (et ops) d G) ((d,.may g bq) :: st.L):=fun e he=>by
                rcases List.mem_cons.1 he with rfl | he
                · exact⟨s,g,bq,aR,by rw[wb cu]; exact aL,by rw[cl,if_pos rfl]⟩
                · exact b1.drop d _ e he
              refine fT.step (st':=⟨(d,.may g bq) :: st.L,st.H⟩) ?_ (ab _ _ _ _ mW one h);intro R W aG ks env B ai H a w ag KK bS;have put:∀ v,cW n (jK ks aG) ((d,v) :: gl a) (a.put o.dst v):=fun v=>by rw[dX]; exact ag.bL.put d v (du av)
              have hw:=yA ag dA aR aL;cases g with
              | true=>
                obtain⟨v,J,U⟩:=Nx ar ag b1 (yz b1 ⟨s,aR,aL⟩) aC (yu aa rfl);exact .inl ⟨hw,.inl ⟨v,w,U,bS _ _ _ _ _ _ (ag.set (sv:=.may true bq) ⟨fun _=>J,fun h=>by cases h⟩ (put v))⟩⟩
              | false=>exact .inr ⟨hw,bS _ _ _ _ _ _ (ag.set (sv:=.may false bq) ⟨(fun h=>by cases h),fun _=>rfl⟩ (put undef))⟩
            · cases h
          · cases h
        · obtain⟨d,g2,bq,eH,ny,cV,dU,gb⟩:=NT b1 aN h
          exact fT.step (fun R W aG ks env B ai H a w ag KK bS=>gb R W aG ks env B ai H a w ag KK fun aS w' env' B' cD H' cf _ _=>bS aS w' env' B' cD H' cf) (ab _ _ _ _ ny cV dU)
      · cases h
    · cases h
theorem GY(ar:X.tt.ok X.P) (fT:B2 X n ops Z) {k:om aP} {r:aP} (eu:BZ k r):∀ {l rest:List Oper} {G:e7} {V:List Nat} {A:List Bool} {st:aM},dS (et ops) G st.L->cN V st0 st->yO X n T (et ops) l G V A st k=some r->(∀ eH fh b9 st',dS (et ops) eH st'.L->cN fh st0 st'->k eH fh b9 st'=some r->Z rest r st')->Z (l++rest) r st
  | [],rest,G,V,A,st,b1,aN,h,ab=>ab G V A st b1 aN h
  | o :: l,rest,G,V,A,st,b1,aN,h,ab=>aal ar fT b1 aN (fun _ _ _ _ aO=>B1 eu aO) h fun eH fh b9 st' mW o8 aO=>GY ar fT eu mW o8 aO ab
theorem take_drop:∀ (m:Nat) (l:List Oper),takeN m l++BX m l=l
  | 0,_=>rfl
  | _+1,[]=>rfl
  | m+1,x :: l=>by
    show x :: (takeN m l++BX m l)=_;rw[take_drop m l]
theorem NV{b3:jh aP} {k:Nat->aM->Option aP} (h:GU X n b3 st A o k=some r):(∀ c∈A,c=true)/\∃ em l d s xs fr c args,b3=some em/\o.op=.call { callee:=.value (.tmp s),args:=xs.toArray,argTypes:=fr }/\(o.guard=none/\o.dst=some d)/\Nat.blt d n=true/\tR (aU st.L s)=some l/\n4 X st.L xs=some (c,args)/\c=true/\em l args (k d ⟨(d,.c (.val (.bool false))) :: st.L,st.H⟩) (k d ⟨(d,.c (.val (.bool true))) :: st.L,st.H⟩)=some r:=by
  unfold GU at h
  split at h
  · split at h
    · rename_i av aT bo
      obtain⟨aa,h⟩:=gK h;have er:=(jB aa).1;exact⟨fun c aa=>er c (List.mem_cons_of_mem _ aa),_,_,_,_,_,_,_,_,rfl,rfl,⟨rfl,rfl⟩,av,aT,bo,er _ List.mem_cons_self,h⟩
    · cases h
  · cases h
theorem NW{b3:jh aP} {cz:List (Option Nat)} {G:e7} {k:e7->Nat->aM->Option aP} (h:yP X n b3 cz G st A o k=some r):∀ c∈A,c=true:=by
  unfold yP at h
  split at h
  · split at h
    · split at h
      · split at h
        · exact fun c aa=>(jB (gK h).1).1 c (List.mem_cons_of_mem _ aa)
        · cases h
      · split at h
        · exact(jB (gK h).1).1
        · cases h
      · cases h
    · cases h
  · cases h
theorem aam{b3:jh aP} {cz:List (Option Nat)} {G:e7} {k:e7->Nat->aM->Option aP} (h:yP X n b3 cz G st A o k=some r):(∀ c∈A,c=true)/\∃ (d j:Nat) (want:Bool) (ji:Nat),o.guard=some (j,want)/\o.dst=some d/\nth cz j=some (some ji)/\ji≠d/\Nat.blt d n=true /\
    ((iy st.L ji want=some true/\∃ em l s xs fr c args,b3=some em/\o.op=.call { callee:=.value (.tmp s),args:=xs.toArray,argTypes:=fr }/\tR (aU (hc (mg cz G 8 j want) G st.L) s)=some l/\n4 X (hc (mg cz G 8 j want) G st.L) xs=some (c,args)/\c=true /\
      em l args (k ((d,j,want) :: iU cz d G) d ⟨(d,.may true (.c (.val (.bool false)))) :: st.L,st.H⟩) (k ((d,j,want) :: iU cz d G) d ⟨(d,.may true (.c (.val (.bool true)))) :: st.L,st.H⟩)=some r) \/
     (iy st.L ji want=some false/\k ((d,j,want) :: iU cz d G) d ⟨(d,.may false (.c (.val (.bool false)))) :: st.L,st.H⟩=some r)):=by
  refine⟨NW h,?_⟩;unfold yP at h
  split at h
  · split at h
    · rename_i aR
      split at h
      · rename_i aL
        split at h
        · rename_i av q0 aT bo
          obtain⟨aa,h⟩:=gK h;exact⟨_,_,_,_,rfl,rfl,aR,Nat.ne_of_beq_eq_false q0,av,.inl ⟨aL,_,_,_,_,_,_,_,rfl,rfl,aT,bo,(jB aa).1 _ List.mem_cons_self,h⟩⟩
        · cases h
      · rename_i aL
        split at h
        · rename_i av q0
          exact⟨_,_,_,_,rfl,rfl,aR,Nat.ne_of_beq_eq_false q0,av,.inr ⟨aL,(gK h).2⟩⟩
        · cases h
      · cases h
    · cases h
  · cases h
theorem NX{k:List Nat->aM->Option aP} (aN:cN V st0 st) (h:GV X n st A o k=some r):(∀ c∈A,c=true)/\∃ W fI,yQ X n ops o st fI/\cN (W++V) st0 fI/\k W fI=some r:=by
  unfold GV at h
  split at h
  · split at h
    · rename_i av aj
      split at h
      · rename_i ad
        obtain⟨aa,h⟩:=gK h;have er:=(jB aa).1;have fe:∀ {d id:Nat} {sv:b0} {b:ct},cN [d,id] st ⟨(d,sv) :: st.L,ef id b st.H⟩:=fun {d id sv b}=>⟨(bR.cons (V:=[]) (bR.refl _)).more fun q ao=>by
            obtain⟨J,_⟩:=e4 ao;unfold ey
            split
            · rename_i e; exact absurd (Nat.eq_of_beq_eq_true e).symm J
            · rfl,ix (by unfold ey; split<;>first | rfl | (exact h5 _ _))⟩
        have aan:∀ {d id:Nat} {sv:b0},cN [d,id] st ⟨(d,sv) :: st.L,st.H⟩:=fun {d id sv}=>⟨(bR.cons (V:=[]) (bR.refl _)).more fun q ao=>by
            obtain⟨J,_⟩:=e4 ao;unfold ey
            split
            · rename_i e; exact absurd (Nat.eq_of_beq_eq_true e).symm J
            · rfl,bR.refl _⟩
        refine⟨fun c aa=>er c (List.mem_cons_of_mem _ aa),?_⟩;rename_i d _ _ _ id _ S p _;cases aq:decide (p < S.size)with
        | true=>
          rw[aq]at h;exact⟨_,_,(YV rfl ⟨rfl,rfl⟩ av aj (er _ List.mem_cons_self) ad (of_decide_eq_true aq)).c.wk,aN.trans fe,h⟩
        | false=>
          rw[aq]at h;exact⟨_,_,(YW rfl ⟨rfl,rfl⟩ av aj (er _ List.mem_cons_self) ad (of_decide_eq_false aq)).c.wk,aN.trans aan,h⟩
      · cases h
    · cases h
  · cases h
variable {b3:jh aP}
theorem NY{z:Int} {f:Int->Option aP} {r:aP}:∀ {ks:List Int},BY z ks f=some r->f z=some r
  | [],h=>by cases h
  | q :: iS,h=>by
    unfold BY at h
    by_cases e:z=q
    · subst e
      rw[decide_eq_true rfl]at h;exact h
    · rw[decide_eq_false e]at h
      exact NY h
theorem dh.again{j:Nat} {sv:b0} (h:aU st.L j=some sv):dh X n st ⟨(j,sv) :: st.L,st.H⟩:=fun _ _ _ _ _ _ ⟨ks,env,B,ai,H,bJ,ag⟩=>by
  refine⟨ks,env,B,ai,H,bJ,⟨ag.size,ag.defs,fun s u ak=>?_,ag.heap,ag.aJ,ag.sub,ag.new,ag.df,ag.base,ag.dQ⟩⟩;rw[cl]at ak
  split at ak
  · rename_i e
    subst e;cases ak;exact ag.has _ _ h
  · exact ag.has s u ak
theorem wm{k:List Nat->aM->Option aP} {r:aP}:∀ {is:List In} {l:List Oper} {G:e7} {V:List Nat} {A:List Bool} {st:aM},hv X n T b3 (et ops) is l G V A st k=some r->∀ c∈A,c=true
  | [],l,G,V,A,st,h=>B1 (fun _ _ _ _ aO=>(jB (gK aO).1).1) h
  | .n m :: is,l,G,V,A,st,h=>B1 (fun _ _ _ _ aO=>wm aO) h
  | .w x :: is,l,G,V,A,st,h=>by
    unfold hv at h
    split at h
    · exact fun c aa=>wm h c (List.mem_cons_of_mem _ aa)
    · cases h
  | .c ps :: is,o :: l,G,V,A,st,h=>by
    unfold hv at h;exact(sj (cN.refl (V:=V) st) h).1
  | .c _ :: _,[],G,V,A,st,h=>by cases h
  | .y :: is,o :: l,G,V,A,st,h=>by
    unfold hv at h;exact(NV h).1
  | .y :: _,[],G,V,A,st,h=>by cases h
  | .x :: is,o :: l,G,V,A,st,h=>by
    unfold hv at h;exact(NX (ops:=ops) (cN.refl (V:=V) st) h).1
  | .GS j :: is,l,G,V,A,st,h=>by
    unfold hv at h
    split at h
    · exact(jB (gK h).1).1
    · cases h
  | .wi :: is,o :: l,G,V,A,st,h=>by
    unfold hv at h;exact NW h
  | .wi :: _,[],G,V,A,st,h=>by cases h
  | .f j ks :: is,l,G,V,A,st,h=>by
    unfold hv at h
    split at h
    · exact(jB (gK h).1).1
    · cases h
  | .x :: _,[],G,V,A,st,h=>by cases h
  | .t _ :: _,[],G,V,A,st,h=>by cases h
  | .t m :: is,o :: l,G,V,A,st,h=>by
    unfold hv at h
    split at h
    · exact fun c aa=>wm h c (List.mem_cons_of_mem _ aa)
    · cases h
theorem aao{cz:List (Option Nat)} {G:e7} {ps:List (Nat×Bool)} {d:Nat} {x:bf} (b1:dS cz G st.L) (sk:∀ p∈ps,lg cz st.L p):dh X n ⟨(d,.a x) :: hc ps G st.L,st.H⟩ ⟨(d,.may true x) :: st.L,st.H⟩:=fun _ _ _ _ _ _ ⟨ks,env,B,ai,H,bJ,ag⟩=>⟨ks,env,B,ai,H,bJ,⟨ag.size,ag.defs,fun q sv ak=>by
  rw[cl]at ak
  split at ak
  · rename_i e
    subst e;cases ak;obtain⟨v,jx,fY⟩:=ag.has q (.a x) (by rw[cl,if_pos rfl]);exact⟨v,jx,fun _=>fY,fun h=>by cases h⟩
  · rename_i e
    rcases Nu b1 sk q sv ak with h | ⟨y,rfl,h⟩
    · exact ag.has q sv (by rw[cl,if_neg e]; exact h)
    · obtain⟨v,jx,fY⟩:=ag.has q (.a y) (by rw[cl,if_neg e]; exact h)
      exact⟨v,jx,fun _=>fY,fun h=>by cases h⟩,ag.heap,ag.aJ,ag.sub,ag.new,ag.df,ag.base,ag.dQ⟩⟩
theorem aap{j ji d:Nat} {want:Bool} {x:bf} (dA:o.guard=some (j,want)) (dX:o.dst=some d) (aR:nth (et ops) j=some (some ji)) (aL:iy st.L ji want=some false) (av:Nat.blt d n=true):yQ X n ops o st ⟨(d,.may false x) :: st.L,st.H⟩:=by
  intro R W aG ks env B ai H a w ag KK bS;have hw:=yA (l:=ops) ag dA aR aL;exact .inr ⟨hw,by rw[dX]; exact bS _ _ _ _ _ _ (ag.set (sv:=.may false x) ⟨(fun h=>by cases h),fun _=>rfl⟩ (ag.bL.put d undef (du av)))⟩
theorem mY(ar:X.tt.ok X.P) (fT:B2 X n ops Z) (cr:NU X n ops b3 Z) {k:List Nat->aM->Option aP}:∀ {is:List In} {l:List Oper} {G:e7} {V:List Nat} {A:List Bool} {st:aM} {r:aP},dS (et ops) G st.L->cN V st0 st->hv X n T b3 (et ops) is l G V A st k=some r->(∀ fh st' cw,cN fh st0 st'->k fh st'=some cw->Z [] cw st')->Z l r st
  | [],l,G,V,A,st,r,b1,aN,h,ab=>by
    have:=GY (rest:=[]) ar fT (fun _ _ _ _ aO=>(jB (gK aO).1).1) b1 aN h fun eH fh b9 st' _ o8 aO=>ab fh st' _ o8 (gK aO).2
    rwa [List.append_nil]at this
  | .n m :: is,l,G,V,A,st,r,b1,aN,h,ab=>by
    rw[<- take_drop m l];exact GY ar fT (fun _ _ _ _ aO=>wm aO) b1 aN h fun eH fh b9 st' mW o8 aO=>mY ar fT cr mW o8 aO ab
  | .w x :: is,l,G,V,A,st,r,b1,aN,h,ab=>by
    unfold hv at h
    split at h
    · rename_i c B4 e
      have aa:=wm h c List.mem_cons_self;exact fT.ep (Nl e aa) (mY ar fT cr dS.nil (aN.trans (Ns e)) h ab)
    · cases h
  | .c ps :: is,o :: l,G,V,A,st,r,b1,aN,h,ab=>by
    unfold hv at h;obtain⟨_,fI,V2,J,U,ah⟩:=sj aN h;exact fT.step J.wk (mY ar fT cr dS.nil U ah ab)
  | .c _ :: _,[],G,V,A,st,r,b1,aN,h,ab=>by cases h
  | .y :: is,o :: l,G,V,A,st,r,b1,aN,h,ab=>by
    unfold hv at h;obtain⟨_,em,l',d,s,xs,fr,c,args,GZ,ax,a6,av,aT,bo,aa,h⟩:=NV h;obtain⟨mX,rt,aA,aV,bG⟩:=cr em GZ h;have one:∀ {sv:b0},cN (d :: V) st0 ⟨(d,sv) :: st.L,st.H⟩:=fun {sv}=>⟨bR.cons aN.1,aN.2.more fun q ao=>(e4 ao).2⟩
    exact bG ax ⟨B3.none a6.1,a6.2⟩ av aT bo aa (mY ar fT cr dS.nil one aA ab) (mY ar fT cr dS.nil one aV ab)
  | .y :: _,[],G,V,A,st,r,b1,aN,h,ab=>by cases h
  | .GS j :: is,l,G,V,A,st,r,b1,aN,h,ab=>by
    unfold hv at h
    split at h
    · rename_i b e
      have one:∀ {sv:b0},cN (j :: V) st0 ⟨(j,sv) :: st.L,st.H⟩:=fun {sv}=>⟨bR.cons aN.1,aN.2.more fun q ao=>(e4 ao).2⟩
      have U:=(gK h).2;cases b with
      | true=>exact fT.ep (dh.again e) (mY ar fT cr dS.nil one U ab)
      | false=>exact fT.ep (dh.again e) (mY ar fT cr dS.nil one U ab)
    · cases h
  | .wi :: _,[],G,V,A,st,r,b1,aN,h,ab=>by cases h
  | .wi :: is,o :: l,G,V,A,st,r,b1,aN,h,ab=>by
    unfold hv at h;obtain⟨_,d,j,want,ji,dA,dX,aR,cu,av,h⟩:=aam h;have one:∀ {sv:b0},cN (d :: V) st0 ⟨(d,sv) :: st.L,st.H⟩:=fun {sv}=>⟨bR.cons aN.1,aN.2.more fun q ao=>(e4 ao).2⟩
    rcases h with⟨aL,em,l',s,xs,fr,c,args,GZ,ax,aT,bo,aa,h⟩ | ⟨aL,h⟩
    · have sk:∀ p∈mg (et ops) G 8 j want,lg (et ops) st.L p:=yz b1 ⟨ji,aR,aL⟩
      obtain⟨mX,rt,aA,aV,bG⟩:=cr em GZ h;have mW:∀ {x:bf},dS (et ops) ((d,j,want) :: iU (et ops) d G) ((d,.may true x) :: st.L):=fun {x} e he=>by
        rcases List.mem_cons.1 he with rfl | he
        · exact⟨ji,true,x,aR,by rw[wb cu]; exact aL,by rw[cl,if_pos rfl]⟩
        · exact b1.drop d _ e he
      have back:∀ {x:bf},dh X n ⟨(d,.a x) :: hc (mg (et ops) G 8 j want) G st.L,st.H⟩ ⟨(d,.may true x) :: st.L,st.H⟩:=fun {x}=>aao b1 sk
      refine fT.ep (st':=⟨hc (mg (et ops) G 8 j want) G st.L,st.H⟩) (fun _ _ _ _ _ _ ⟨ks,env,B,ai,H,bJ,ag⟩=>⟨ks,env,B,ai,H,bJ,ag.view b1 sk⟩) ?_;exact bG ax ⟨fun ag=>yA (l:=ops) (ag.ZD b1 sk) dA aR aL,dX⟩ av aT bo aa (fT.ep back (mY ar fT cr mW one aA ab)) (fT.ep back (mY ar fT cr mW one aV ab))
    · have mW:∀ {x:bf},dS (et ops) ((d,j,want) :: iU (et ops) d G) ((d,.may false x) :: st.L):=fun {x} e he=>by
        rcases List.mem_cons.1 he with rfl | he
        · exact⟨ji,false,x,aR,by rw[wb cu]; exact aL,by rw[cl,if_pos rfl]⟩
        · exact b1.drop d _ e he
      refine fT.step ?_ (mY ar fT cr (mW (x:=.c (.val (.bool false)))) one h ab);exact aap dA dX aR aL av
  | .f j ks :: is,l,G,V,A,st,r,b1,aN,h,ab=>by
    unfold hv at h
    split at h
    · rename_i n7 z e
      have one:∀ {sv:b0},cN (j :: V) st0 ⟨(j,sv) :: st.L,st.H⟩:=fun {sv}=>⟨bR.cons aN.1,aN.2.more fun q ao=>(e4 ao).2⟩
      exact fT.ep (dh.again e) (mY ar fT cr dS.nil one (NY (gK h).2) ab)
    · cases h
  | .x :: _,[],G,V,A,st,r,b1,aN,h,ab=>by cases h
  | .x :: is,o :: l,G,V,A,st,r,b1,aN,h,ab=>by
    unfold hv at h;obtain⟨_,W,fI,J,U,ah⟩:=NX aN h;exact fT.step J (mY ar fT cr dS.nil U ah ab)
  | .t _ :: _,[],G,V,A,st,r,b1,aN,h,ab=>by cases h
  | .t m :: is,o :: l,G,V,A,st,r,b1,aN,h,ab=>by
    unfold hv at h
    split at h
    · rename_i c B4 W e
      exact fT.step (GQ ar e (wm h c List.mem_cons_self)).c.wk (mY ar fT cr dS.nil (aN.trans (GR e)) h ab)
    · cases h
end
def j0:List Nat->cL->cL
  | [],_=>[]
  | s :: r,L=>match aU L s with
    | some v=>match v.free with
      | true=>(s,v) :: j0 r L
      | false=>j0 r L
    | none=>j0 r L
def gd:List Nat->bx->bx
  | [],_=>[]
  | s :: r,H=>match aU H s with
    | some v=>match v.free with
      | true=>(s,v) :: gd r H
      | false=>gd r H
    | none=>gd r H
def NZ{α:Type} (L:List (Nat×α)) (s:Nat):Bool:=match aU L s with
  | some _=>true
  | none=>false
def wo{α:Type} (V ks:List Nat) (L:List (Nat×α)):List (Nat×α)->Bool
  | []=>true
  | p :: r=>match ey p.1 V,ey p.1 ks,NZ L p.1 with
    | false,false,true=>wo V ks L r
    | _,_,_=>false
def ee{α:Type}:List (Nat×α)->List Nat
  | []=>[]
  | p :: r=>p.1 :: ee r
def ed.ids(bs:ed):List Nat:=ee bs.L++ee bs.H
def ed.S(bs:ed) (st:aM) (d:bs.D):aM:=⟨(mU bs.L (mc bs.T d)).1++j0 bs.qO st.L,(je bs.H (mU bs.L (mc bs.T d)).2).1++gd bs.jV st.H⟩
def ed.get(bs:ed) (st:aM) (V:List Nat) (st':aM):Option bs.D:=
  match wo V (ee bs.L) st'.L (j0 bs.qO st.L),wo V (ee bs.H) st'.H (gd bs.jV st.H),oT (ee bs.H++ee (gd bs.jV st.H))with
  | true,true,true=>match qB st'.H (ee bs.H)with
    | some h=>match tz (T:=[]) bs.H h ()with
      | some u=>match BD bs.L st'.L u with
        | some u=>some (o1 bs.T u)
        | none=>none
      | none=>none
    | none=>none
  | _,_,_=>none
theorem yR{s:Nat} {v:b0}:∀ {ks:List Nat} {L:cL},aU (j0 ks L) s=some v->(s,v)∈j0 ks L/\aU L s=some v/\v.free=true
  | [],_,h=>by cases h
  | k :: r,L,h=>by
    unfold j0 at h ⊢
    split at h
    · rename_i u e
      split at h
      · rename_i aA
        rw[cl]at h
        split at h
        · rename_i aW; cases h; exact⟨by rw[aW]; exact List.mem_cons_self,by rw[aW]; exact e,aA⟩
        · obtain⟨J,U⟩:=yR h; exact⟨List.mem_cons_of_mem _ J,U⟩
      · exact yR h
    · exact yR h
theorem tT{p:Nat×b0}:∀ {ks:List Nat} {L:cL},p∈j0 ks L->aU L p.1=some p.2/\p.2.free=true
  | [],_,h=>by cases h
  | k :: r,L,h=>by
    unfold j0 at h
    split at h
    · rename_i u e
      split at h
      · rename_i aA
        rcases List.mem_cons.1 h with rfl | h
        · exact⟨e,aA⟩
        · exact tT h
      · exact tT h
    · exact tT h
theorem oq{p:Nat×ct}:∀ {ks:List Nat} {L:bx},p∈gd ks L->aU L p.1=some p.2/\p.2.free=true
  | [],_,h=>by cases h
  | k :: r,L,h=>by
    unfold gd at h
    split at h
    · rename_i u e
      split at h
      · rename_i aA
        rcases List.mem_cons.1 h with rfl | h
        · exact⟨e,aA⟩
        · exact oq h
      · exact oq h
    · exact oq h
theorem aaq{p:Nat×b0} {ks:List Nat} {L:cL} (h:p∈j0 ks L):aU (j0 ks L) p.1=some p.2:=by
  obtain⟨J,U⟩:=tT h
  induction ks with
  | nil=>cases h
  | cons k r bA=>
    unfold j0 at h ⊢
    split at h
    · rename_i u e
      split at h
      · rename_i aA
        rw[cl]
        split
        · rename_i aW; rw[<- aW,J]at e; cases e; rfl
        · rename_i aW
          rcases List.mem_cons.1 h with rfl | h
          · exact absurd rfl aW
          · exact bA h
      · exact bA h
    · exact bA h
theorem aar{p:Nat×ct} {ks:List Nat} {L:bx} (h:p∈gd ks L):aU (gd ks L) p.1=some p.2:=by
  obtain⟨J,U⟩:=oq h
  induction ks with
  | nil=>cases h
  | cons k r bA=>
    unfold gd at h ⊢
    split at h
    · rename_i u e
      split at h
      · rename_i aA
        rw[cl]
        split
        · rename_i aW; rw[<- aW,J]at e; cases e; rfl
        · rename_i aW
          rcases List.mem_cons.1 h with rfl | h
          · exact absurd rfl aW
          · exact bA h
      · exact bA h
    · exact bA h
theorem yS{α:Type} {V ks:List Nat} {L:List (Nat×α)} {p:Nat×α}:∀ {K:List (Nat×α)},wo V ks L K=true->p∈K->ey p.1 V=false/\ey p.1 ks=false/\∃ v,aU L p.1=some v
  | [],_,h=>by cases h
  | q :: r,h,hm=>by
    unfold wo at h
    split at h
    · rename_i J U ah
      rcases List.mem_cons.1 hm with rfl | hm
      · refine⟨J,U,?_⟩
        unfold NZ at ah
        split at ah
        · rename_i v e; exact⟨v,e⟩
        · cases ah
      · exact yS h hm
    · cases h
theorem G0{α:Type} {q:Nat}:∀ {L dL:List (Nat×α)},ey q (ee L)=false->aU (L++dL) q=aU dL q
  | [],_,_=>rfl
  | p :: r,dL,h=>by
    obtain⟨J,U⟩:=e4 h;rw[List.cons_append,cl,if_neg J];exact G0 U
theorem B5{α:Type} {q:Nat} {v:α}:∀ {L dL:List (Nat×α)},aU (L++dL) q=some v->aU L q=some v\/ey q (ee L)=false/\aU dL q=some v
  | [],_,h=>.inr ⟨rfl,h⟩
  | p :: r,dL,h=>by
    rw[List.cons_append,cl]at h;rw[cl]
    split at h
    · rename_i e; rw[if_pos e]; exact .inl h
    · rename_i e
      rw[if_neg e]
      rcases B5 h with h | ⟨J,U⟩
      · exact .inl h
      · exact .inr ⟨pT.2 ⟨e,J⟩,U⟩
theorem G1:∀ (l:List (Nat×jU)) {T:List Type} (u:dc (vQ l T)),ee (mU l u).1=ee l
  | [],_,_=>rfl
  | p :: r,_,u=>by
    show p.1 :: ee _=p.1 :: ee _;rw[G1 r]
theorem G2:∀ (l:List (Nat×h3)) {T:List Type} (u:dc (me l T)),ee (je l u).1=ee l
  | [],_,_=>rfl
  | p :: r,_,u=>by
    show p.1 :: ee _=p.1 :: ee _;rw[G2 r]
theorem yT:∀ {ks:List Nat} {h aO:bx},qB h ks=some aO->ee aO=ks
  | [],_,_,e=>by cases e; rfl
  | k :: ks,h,aO,e=>by
    unfold qB at e
    split at e
    · rename_i J U
      split at e
      · cases e
        show k :: ee _=_;rw[yT U]
      · cases e
    · cases e
theorem G4{α:Type} {q:Nat}:∀ {L:List (Nat×α)},ey q (ee L)=false->aU L q=none
  | [],_=>rfl
  | p :: r,h=>by
    obtain⟨J,U⟩:=e4 h;rw[cl,if_neg J];exact G4 U
theorem B6{h:bx} {K:bx}:∀ {J:bx},kf h J->(∀ p∈K,aU h p.1=some p.2)->oT (ee J++ee K)=true->kf h (J++K):=by
  have base:∀ K:bx,(∀ p∈K,aU h p.1=some p.2)->oT (ee K)=true->kf h K:=by
    intro K
    induction K with
    | nil=>exact fun _ _=>.nil
    | cons p r bA=>
      intro ab a7;have hn:(!(ee r).elem p.1&&oT (ee r))=true:=a7;simp only[Bool.and_eq_true,Bool.not_eq_true']at hn;exact .cons (ab p List.mem_cons_self) (G5 hn.1) (bA (fun q ao=>ab q (List.mem_cons_of_mem _ ao)) hn.2)
  intro ak
  induction ak with
  | nil=>exact fun ab a7=>base K ab a7
  | cons iT qT az bA=>
    rename_i k b r;intro ab a7;have hn:(!(ee r++ee K).elem k&&oT (ee r++ee K))=true:=a7;simp only[Bool.and_eq_true,Bool.not_eq_true']at hn;refine .cons iT ?_ (bA ab hn.2);refine G5 ?_
    have:∀ l:bx,ee (l++K)=ee l++ee K:=by
      intro l
      induction l with
      | nil=>rfl
      | cons p l bA=>show p.1 :: ee (l++K)=_; rw[bA]; rfl
    show(ee (r++K)).elem k=false;rw[this];exact hn.1
where G5 {q:Nat}:∀ {L:bx},(ee L).elem q=false->aU L q=none
  | [],_=>rfl
  | p :: r,h=>by
    have aO:(p.1 :: ee r).elem q=false:=h;rw[List.elem_cons]at aO
    split at aO
    · cases aO
    · rename_i e
      rw[cl,if_neg (by simpa using e)];exact G5 aO
def jC(bs:ed) (st q1:aM):Prop:=(∀ p∈j0 bs.qO st.L,ey p.1 (ee bs.L)=false->aU q1.L p.1=some p.2)/\∀ p∈gd bs.jV st.H,ey p.1 (ee bs.H)=false->aU q1.H p.1=some p.2
theorem jC.self(bs:ed) (st:aM):jC bs st st:=⟨fun p aq _=>(tT aq).1,fun p aq _=>(oq aq).1⟩
theorem jC.step(bs:ed) (st:aM) (d:bs.D):jC bs st (bs.S st d):=⟨fun p aq ab=>by
  show aU (_++_) p.1=_;rw[G0 (by rw[G1]; exact ab)];exact aaq aq,fun p aq ab=>by
  show aU (_++_) p.1=_;rw[G0 (by rw[G2]; exact ab)];exact aar aq⟩
theorem ed.ij{X:br} {n:Nat} {bs:ed} {st q1 st':aM} {V:List Nat} {d:bs.D} (hw:jC bs st q1) (ak:cN V q1 st') (h:bs.get st V st'=some d):dh X n st' (bs.S st d):=by
  unfold ed.get at h
  split at h
  · rename_i jN ek lK
    split at h
    · rename_i aN gE
      split at h
      · rename_i u aC
        split at h
        · rename_i mf aW
          cases h;obtain⟨J,U⟩:=tA aC;obtain⟨ah,au⟩:=BE aW;have aas:∀ p∈j0 bs.qO st.L,aU st'.L p.1=some p.2:=fun p aq=>by
            obtain⟨g1,g2,v,g3⟩:=yS jN aq;obtain⟨u,g4,g5⟩:=ak.1 p.1 v g1 g3;rw[hw.1 p aq g2]at g4;cases g4;rw[g3,g5 (tT aq).2]
          have tU:∀ p∈gd bs.jV st.H,aU st'.H p.1=some p.2:=fun p aq=>by
            obtain⟨g1,g2,v,g3⟩:=yS ek aq;obtain⟨u,g4,g5⟩:=ak.2 p.1 v g1 g3;rw[hw.2 p aq g2]at g4;cases g4;rw[g3,g5 (oq aq).2]
          rintro R W aG M a w ⟨ks,env,B,ai,H,bJ,ag⟩;have gF:kf st'.H (aN++gd bs.jV st.H):=B6 (tc gE) tU (by rw[yT gE]; exact lK);obtain⟨H',cf⟩:=ag.ep (st':=⟨[],aN++gd bs.jV st.H⟩) .nil gF;refine⟨ks,env,B,ai,H',bJ,cf.size,cf.defs,fun q sv ao=>?_,?_,cf.aJ,cf.sub,cf.new,cf.df,cf.base,cf.dQ⟩
          · have mh:aU ((mU bs.L (mc bs.T (o1 bs.T mf))).1++j0 bs.qO st.L) q=some sv:=ao
            rw[tw]at mh
            rcases B5 mh with mh | ⟨_,mh⟩
            · obtain⟨x,aF,aY⟩:=au q sv mh
              obtain⟨v,bK,c7⟩:=ag.has q x aF;exact⟨v,bK,aY _ _ _ _ c7⟩
            · obtain⟨aF,_⟩:=yR mh
              exact ag.has q sv (aas _ aF)
          · show bu env B ai ((je bs.H (mU bs.L (mc bs.T (o1 bs.T mf))).2).1++gd bs.jV st.H) H'
            rw[tw,ah];obtain⟨H1,H2,e,hO,hp⟩:=bu.split (l:=aN) cf.heap;rw[e];exact(U _ _ _ _ hO).append hp
        · cases h
      · cases h
    · cases h
  · cases h
where bu.split {env:Nat->Loc} {B:Nat->Prop} {w:World}:∀ {l l':bx} {H:List bb},bu env B w (l++l') H->∃ H1 H2,H=H1++H2/\bu env B w l H1/\bu env B w l' H2
  | [],_,H,h=>⟨[],H,rfl,rfl,h⟩
  | _ :: _,_,_,⟨c,H',e,J,U⟩=>by
    obtain⟨H1,H2,aW,hO,hp⟩:=bu.split U;exact⟨c :: H1,H2,by rw[e,aW]; rfl,⟨c,H1,rfl,J,hO⟩,hp⟩
theorem ed.ks(bs:ed) (st:aM) (d:bs.D):cN bs.ids st (bs.S st d):=by
  refine⟨fun q v ao ad=>?_,fun q v ao ad=>?_⟩
  · rcases B5 (show aU (_++_) q=some v from ad)with h | ⟨_,h⟩
    · have:=G4 (L:=(mU bs.L (mc bs.T d)).1) (q:=q) (by rw[G1]; exact(o9.1 ao).1)
      rw[this]at h;cases h
    · obtain⟨J,U,ah⟩:=yR h
      exact⟨v,U,fun _=>rfl⟩
  · rcases B5 (show aU (_++_) q=some v from ad)with h | ⟨_,h⟩
    · have:=G4 (L:=(je bs.H (mU bs.L (mc bs.T d)).2).1) (q:=q) (by rw[G2]; exact(o9.1 ao).2)
      rw[this]at h;cases h
    · exact⟨v,B7 h,fun _=>rfl⟩
where B7 {s:Nat} {v:ct}:∀ {ks:List Nat} {L:bx},aU (gd ks L) s=some v->aU L s=some v
  | [],_,h=>by cases h
  | k :: r,L,h=>by
    unfold gd at h
    split at h
    · rename_i u e
      split at h
      · rw[cl]at h
        split at h
        · rename_i aW; cases h; rw[aW]; exact e
        · exact B7 h
      · exact B7 h
    · exact B7 h
end
section
def N0(X:br) (L:cL) (t:TypeId) (N:Nat) (ps:List (Nat×Operand)):Option (Bool×bf):=
 match X.tt.find t with
 | some ⟨⟨.slice e,_,_,_⟩,_⟩=>match X.tt.find e with
  | some ⟨bj,some g⟩=>match Nat.ble (N * bj.size) 16777216,Nat.beq ps.length N,xF X L bj.size ps 0 with
   | true,true,some (c,cs)=>match xG g N cs with
    | some (c',l)=>some (c&&c',.c (.bn g l (some N)))
    | none=>none
   | _,_,_=>none
  | _=>none
 | _=>none
def G6(X:br) (L:cL):Op->Option (Bool×bf)
 | .buildSlice t N ps=>N0 X L t N ps.toList
 | _=>none
section
variable {X:br} {n:Nat} {st:aM} {o:Oper} {d:Nat}
theorem aat(ar:X.tt.ok X.P) {c:Bool} {bq:bf} (dA:o.guard=none) (dX:o.dst=some d) (av:Nat.blt d n=true) (ae:G6 X st.L o.op=some (c,bq)) (aa:c=true):qP X n o (fun _=>true) st ⟨(d,.a bq) :: st.L,st.H⟩:=by
 intro R W aG ks env B ai H a w h KK lo bS;cases ax:o.op with
 | buildSlice t N ps=>
 rw[ax]at ae;unfold G6 N0 at ae;dsimp only at ae
 split at ae
 ·rename_i e s1 s2 EZ s4 aA
  split at ae
  ·rename_i bj g cP
   split at ae
   ·rename_i fs cs hle gx hpc
    split at ae
    ·rename_i cF l hdn
     cases ae;simp only[Bool.and_eq_true]at aa;obtain⟨cR,dp,ib⟩:=(bV.get ar cP).g g rfl;have n2:=(bV.get ar cP).bk;dsimp only at cR dp n2;obtain⟨vs,J,U,ah⟩:=EX h hpc aa.1;obtain⟨au,v1,v2,aF,aY⟩:=EW ah hdn aa.2;have mL:vs.length=N:=by
      have:=congrArg List.length J
      simp only[List.length_map,List.length_zipIdx]at this;rw[<- this];exact Nat.eq_of_beq_eq_true gx
     have s9:(vs.flatMap fun v=>v.cells.toList).length=N * bj.size:=by
      rw[<- mL]
      clear J ah aF mL
      induction vs with
      | nil=>simp
      | cons v vs bA=>rw[List.flatMap_cons,List.length_append,bA (fun u hu=>U u (List.mem_cons_of_mem _ hu)),List.length_cons,Nat.add_mul,Nat.one_mul,Array.length_toList,U v (by simp),Nat.add_comm]
     have fY:v2=[]:=by
      have aC:=congrArg List.length aF;rw[List.length_append,bz.jq aY,au,s9,cR]at aC;exact List.eq_nil_of_length_eq_zero (by omega)
     subst fY;rw[List.append_nil]at aF;have dE:=LI (w:=w) (N:=N) (vs:=vs) (bV.get ar aA).bk.1 n2 (z:=g.eh) dp (by rw[<- bz.length (bz.eh (B:=B) (w:=ai) g)]at cR; exact cR) (by rw[<- cR]; exact ib) mL (Nat.le_of_ble_eq_true hle) U;have jL:ps.map (fun p=>(p.1,a.eval p.2))=((vs.zipIdx.map fun p=>(p.2,p.1)).toArray):=by
      rw[<- J,<- List.map_toArray]
     have aau:N<=maxLen:=by
      have:=Nat.le_of_ble_eq_true hle
      have bK:N<=N * bj.size:=Nat.le_mul_of_pos_right _ (by rw[<- cR]; exact ib);exact Nat.le_trans (Nat.le_trans bK this) (by decide)
     have cC:=bF.AL (size:=g.size) (m:=N) (h.aJ.xo (vs.flatMap fun v=>v.cells.toList) e) (by rw[s9,cR]) (by
      have:=Nat.le_of_ble_eq_true hle
      have bK:N<=N * bj.size:=Nat.le_mul_of_pos_right _ (by rw[<- cR]; exact ib);omega)
     refine fU h.bL dA dX (du av) (v:=.slice (some ⟨w.heap.size,0,none⟩) N N) (w':=w.alloc (.cells (vs.flatMap fun v=>v.cells.toList).toArray e)) (by
      simp only[execOp,ax];rw[jL]
      simp[dE]) fun aS aI=>?_
     have dn:=cC.ep (List.sublist_cons_self _ _);have c8:ft B ai (fun q=>B q\/q=w.heap.size) (w.alloc (.cells (vs.flatMap fun v=>v.cells.toList).toArray e)):=⟨fun q ao=>.inl ao,fun q ao=>cC.below.block q (.inr ao)⟩
     have a8:∀ q,R q\/B q->q < w.heap.size:=fun q ao=>h.aJ.base q ao
     have cQ:w.heap.size < (w.alloc (.cells (vs.flatMap fun v=>v.cells.toList).toArray e)).heap.size:=by simp
     refine bS aS _ env (fun q=>B q\/q=w.heap.size) (w.alloc (.cells (vs.flatMap fun v=>v.cells.toList).toArray e)) H ⟨aI.size,aI.defs,fun s u ak=>?_,h.heap.up c8,?_,fun q ao=>.inl (h.sub q ao),fun q ao=>?_,h.df,h.base.trans ⟨cC.below.os,cC.below.tape,cC.below.output,cC.below.size,fun q ao=>cC.below.block q (.inl ao)⟩,fun i x aj=>(h.dQ i x aj).up c8⟩ (fun q ao=>.inl ao) cC.below (fun _ aa _=>aa)
     ·rw[cl]at ak
      split at ak
      ·rename_i e; subst e; cases ak
       refine⟨_,aI.this,?_⟩;have hm:=Reads.AN cC List.mem_cons_self;rw[<- au]at hm ⊢;exact⟨some ⟨w.heap.size,0,none⟩,l.length,_,rfl,Nat.le_refl _,by rw[au]; exact aau,fun k ab=>by cases ab; rfl,Flat.mono (fun _ _ aA=>bz.up c8 aA) (by rw[aF]at *; exact aY),hm,fun b p _ e=>.inr (by cases e; rfl)⟩
      ·rename_i cu
       obtain⟨eF,bK,c7⟩:=h.has s u ak;exact⟨eF,aI.other cu bK,c7.up c8⟩
     ·refine⟨c6.refl _ _,fun q ao=>?_,fun c aa=>(dn.ok c aa).base fun b ae bT=>?_,dn.apart⟩
      ·rcases ao with ao | ao | ao
       ·exact Nat.lt_trans (a8 q (.inl ao)) cQ
       ·exact Nat.lt_trans (a8 q (.inr ao)) cQ
       ·rw[ao]; exact cQ
      ·rcases bT with bT | bT | bT
       ·exact((dn.ok c aa).lt ae).1 (.inl bT)
       ·exact((dn.ok c aa).lt ae).1 (.inr bT)
       ·have:=((h.aJ.ok c aa).lt ae).2
        rw[bT]at this;exact Nat.lt_irrefl _ this
     ·rcases ao with ao | ao
      ·exact(h.new q ao).imp_right fun aO=>⟨aO.1,aO.2.dP (cC.below.block q (.inr ao))⟩
      ·exact .inr ⟨fun dT=>Nat.lt_irrefl _ (by have:=a8 q (.inl dT); rw[ao]at this; exact this),(cC.ok _ List.mem_cons_self).cells rfl (by rw[ao]; rfl)⟩
    ·cases ae
   ·cases ae
  ·cases ae
 ·cases ae
 | _=>rw[ax]at ae; cases ae
end
end
section
theorem aav{es:List MapEntry} {j:Nat} {e:MapEntry} (ak:(es.map (·.born)).Pairwise (· < ·)) (aR:es[j]?=some e):es.toArray.findIdx? (fun x=>(x.born:Int) == (e.born:Int))=some j:=by
 rw[List.findIdx?_toArray];obtain⟨a8,he⟩:=List.getElem?_eq_some_iff.1 aR;rw[List.findIdx?_eq_some_iff_getElem];refine⟨a8,by rw[he]; simp,fun k ab=>?_⟩;have J:=List.pairwise_iff_getElem.1 ak k j (by simp; omega) (by simpa using a8) ab;simp only[List.getElem_map]at J;rw[he]at J;simp only[beq_iff_eq];omega
theorem N1{es:List MapEntry} {k v:Value}:∀ (j:Nat),(es.modify j fun e=>{ e with key:=k }).modify j (fun e=>{ e with val:=v })=es.modify j fun e=>{ e with key:=k,val:=v }:=by
 induction es with
 | nil=>intro j; simp
 | cons e es bA=>
  intro j;cases j with
  | zero=>simp
  | succ j=>simp only[List.modify_succ_cons,bA j]
theorem aaw{es:List MapEntry} {e:MapEntry} {f:MapEntry->MapEntry}:(es++[e]).modify es.length f=es++[f e]:=by
 induction es with
 | nil=>simp
 | cons x es bA=>simp[bA]
theorem fW.N2{P:Program} {t:TypeId} {B:Nat->Prop} {w:World} {gk aZ:aQ} (bS:oh P t gk) {z:gk.D} {vv:Value} {c:Nat} (bZ:World):∀ {l:List (gk.D×aZ.D)} {es:List MapEntry} (i:Nat),fW B w gk aZ l es->(Instr.findAsking t (.agg (gk.cG z).toArray) es i).run P bZ=.ok none bZ ->
  (Instr.findAsking t (.agg (gk.cG z).toArray) (es++[MapEntry.mk (.agg (gk.cG z).toArray) vv c]) i).run P bZ=.ok (some (i+es.length,vv)) bZ
 | [],_,i,h,_=>by
  rw[show _=[] from h];show(Instr.findAsking t _ [MapEntry.mk (.agg (gk.cG z).toArray) vv c] i).run P bZ=_;unfold Instr.findAsking;simp only[Sem.run_bind,BT bS z z bZ,Result.andThen_ok,(beq_iff z z bS.eq.key).2 rfl]
  simp
 | x :: l,_,i,⟨e,r,he,J,U,ah⟩,aA=>by
  subst he;have ab:=ea.key bS.pU bS.eq.key J;show(Instr.findAsking t _ (e :: (r++[MapEntry.mk (.agg (gk.cG z).toArray) vv c])) i).run P bZ=_;unfold Instr.findAsking at aA ⊢;rw[ab]at aA ⊢;simp only[Sem.run_bind,BT bS z x.1 bZ,Result.andThen_ok]at aA ⊢;cases ae:gk.beq z x.1 with
  | true=>rw[ae]at aA; simp at aA
  | false=>
   rw[ae]at aA
   have:=fW.N2 bS bZ (i+1) ah (by simpa using aA) (vv:=vv) (c:=c)
   simpa [Nat.add_assoc,Nat.add_comm 1] using this
section
variable {X:br} {n:Nat} {st:aM}
theorem N3(ar:X.tt.ok X.P) {t fa fv:TypeId} {bj dr:bh} {gk aZ:aQ} {id:Nat} {l:List (gk.D×aZ.D)} {jA:Option (List MapEntry×Nat)} {z:gk.D} (bS:oh X.P fa gk) (aV:X.tt.find t=some bj) (cP:bj.bk.desc=.map fa fv) (he:X.tt.find fv=some dr) (bO:aU st.H id=some (.mp gk aZ l jA))
  {R:Nat->Prop} {W:World} {aG:eX} {ks:List Nat} {env:Nat->Loc} {B:Nat->Prop} {ai:World} {H:List bb} {a:Act} {w:World} (ag:bH X R W aG n ks env B ai H st a w) :
  ∃ v0,(∀ b,env id=.blk b->(Instr.lookup t (.map (some b)) (.agg (gk.cG z).toArray) false).run X.P w=.ok v0 w)/\((∀ B w,ea B w aZ aZ.zero dr.bk.zero)->ea B ai aZ ((cJ gk aZ l z).getD aZ.zero) v0):=by
 obtain⟨dk,K,⟨b,es,clock,ae,rfl,hR,dn,_⟩,dV⟩:=ag.heap.fE bO;have ha:=(ag.aJ.ok _ dV.more.mem).2;have aC:=(bV.get ar aV).bk.1;rw[cP]at aC;obtain⟨cX,cB⟩:=bS.str;have gj:=bC.pw (bV.get ar he).bk w;have nC:∃ v,(Instr.lookup t (.map (some b)) (.agg (gk.cG z).toArray) false).run X.P w=.ok v w/\((∀ B w,ea B w aZ aZ.zero dr.bk.zero)->ea B ai aZ ((cJ gk aZ l z).getD aZ.zero) v):=by
  unfold Instr.lookup;simp only[Sem.run_bind,run_underlying aC,Result.andThen_ok,MapKept.run_getObj_map ha,bS.we,Sem.run_pure]
  rcases hR.yE bS w (z:=z) 0 with⟨au,aF⟩ | ⟨y,j,v,au,aF,aY,_⟩
  ·refine⟨dr.bk.zero,?_,fun bG=>by rw[au]; exact bG _ _⟩
   simp[pV cB aF,gj,Result.andThen]
  ·refine⟨v,?_,fun _=>by rw[au]; exact aY⟩
   simp[pV cB aF,Result.andThen]
 obtain⟨v,J,U⟩:=nC;exact⟨v,fun jt ia=>by rw[ae]at ia; cases ia; exact J,U⟩
theorem N4(ar:X.tt.ok X.P) {ops:Array Oper} {aX ch cg:Oper} {d1 d2:Nat} {t fa fv:TypeId} {bj dr:bh} {gk aZ:aQ} {u x tV y:Operand} {id:Nat} {l:List (gk.D×aZ.D)} {jA:Option (List MapEntry×Nat)} {z:gk.D} {g g2 c cF:Bool} {e2 dH:bf} {eK:aZ.D} (bS:oh X.P fa gk)
  (G7:aX.op=.mapEntry t u x) (AG:aX.guard=none/\aX.dst=some d1) (lA:Nat.blt d1 n=true) (G8:ch.op=.extract (.tmp d1) 1) (AH:ch.guard=none/\ch.dst=some d2) (ke:Nat.blt d2 n=true) (G9:cg.op=.entryStore t tV (.tmp d2) y) (AI:cg.guard=none/\cg.dst=none)
  (aV:X.tt.find t=some bj) (cP:bj.bk.desc=.map fa fv) (he:X.tt.find fv=some dr)
  (hu:bm X st.L u=some (true,.c (.cp id))) (aj:bm X st.L x=some (g,e2)) (aL:g=true) (jZ:dec gk e2.cells=some (c,z,[])) (aa:c=true) (si:kk gk e2=true) (bO:aU st.H id=some (.mp gk aZ l jA))
  (tF:bm X ((d2,b0.a (.c .dead)) :: (d1,b0.a (.c .dead)) :: st.L) tV=some (true,.c (.cp id))) (aT:bm X ((d2,b0.a (.c .dead)) :: (d1,b0.a (.c .dead)) :: st.L) y=some (g2,dH)) (dp:g2=true) (jr:dec aZ dH.cells=some (cF,eK,[])) (iu:cF=true) (dN:kk aZ dH=true)
  {R:Nat->Prop} {W:World} {aG:eX} {ks:List Nat} {env:Nat->Loc} {B:Nat->Prop} {ai:World} {H:List bb} {a:Act} {w:World} (ag:bH X R W aG n ks env B ai H st a w) {v0:Value} (wq:∀ b,env id=.blk b->(Instr.lookup t (.map (some b)) (.agg (gk.cG z).toArray) false).run X.P w=.ok v0 w) {G G3:World->Prop} (b1:∀ bZ,c6 (fun k=>R k\/B k) ai bZ->(∀ b,env id=.blk b->(Instr.lookup t (.map (some b)) (.agg (gk.cG z).toArray) false).run X.P bZ=.ok v0 bZ)->G bZ) (aax:∀ bZ,c6 (fun k=>R k\/B k) ai bZ->G3 bZ) {KK:Act->World->Prop}
  (sl:∀ aS w' H',bH X R W aG n ks env B ai H' ⟨(d2,.a (.c .dead)) :: (d1,.a (.c .dead)) :: st.L,ef id (.mp gk aZ (eD gk aZ l z eK) none) st.H⟩ aS w'->KK aS w') :
  eR X.P ops aX (fun ay bZ=>G bZ/\eR X.P ops ch (fun a2 hB=>G hB/\eR X.P ops cg (fun a3 lL=>G3 lL/\KK a3 lL) a2 hB) ay bZ) a w:=by
 obtain⟨hM,J,b,ae,rfl⟩:=ag.aD hu rfl;obtain⟨vx,U,ah⟩:=ag.aD aj aL;have gW:=ea.key bS.pU bS.eq.key (ea.tq jZ aa si ah);rw[gW]at U;obtain⟨dk,K,⟨b',es,clock,dm,rfl,hR,dn,_⟩,dV⟩:=ag.heap.fE bO;rw[ae]at dm;cases dm;have ha:=(ag.aJ.ok _ dV.more.mem).2;have aC:=(bV.get ar aV).bk.1;rw[cP]at aC;obtain⟨cX,cB⟩:=bS.str;have gj:=bC.pw (bV.get ar he).bk w;have hl:b < w.heap.size:=(Array.getElem?_eq_some_iff.1 ha).1;have pc:=wq b ae
 -- what the first operation leaves
 have nC:∃ (ml:List MapEntry) (nH j:Nat) (e:MapEntry) (v:Value),(Instr.mapEntry t (.map (some b)) (.agg (gk.cG z).toArray)).run X.P w=.ok (.tuple #[v,.int .i64 (e.born:Int)]) { w with heap:=w.heap.setIfInBounds b (.map ml.toArray nH) }/\ml[j]?=some e/\(ml.map (·.born)).Pairwise (· < ·)/\(Instr.lookup t (.map (some b)) (.agg (gk.cG z).toArray) false).run X.P { w with heap:=w.heap.setIfInBounds b (.map ml.toArray nH) }=.ok v0 { w with heap:=w.heap.setIfInBounds b (.map ml.toArray nH) } /\
   ∀ vy,ea B ai aZ eK vy->fW B ai gk aZ (eD gk aZ l z eK) (ml.modify j fun e=>{ e with val:=vy })/\Stamped (ml.modify j fun e=>{ e with val:=vy }) nH:=by
  unfold Instr.mapEntry;simp only[Sem.run_bind,run_underlying aC,Result.andThen_ok,MapKept.run_getObj_map ha,bS.we]
  rcases hR.yE bS w (z:=z) 0 with⟨aY,bK⟩ | ⟨q,j,v,aY,bK,c7,hN⟩
  ·refine⟨es++[MapEntry.mk (.agg (gk.cG z).toArray) dr.bk.zero clock],clock+1,es.length,MapEntry.mk (.agg (gk.cG z).toArray) dr.bk.zero clock,dr.bk.zero,?_,by simp,?_,?_,fun vy fp=>⟨?_,?_⟩⟩
   ·simp only[pV cB bK,Result.andThen_ok,Sem.run_bind,gj,MapKept.run_setObj_map _ ha]
    simp[goInt]
   ·rw[List.map_append,List.pairwise_append]
    exact⟨dn.1,by simp,fun p aq q ao=>by simp at ao; subst ao; exact dn.2 p aq⟩
   ·have qt:v0=dr.bk.zero:=by
     unfold Instr.lookup at pc;simp only[Sem.run_bind,run_underlying aC,Result.andThen_ok,MapKept.run_getObj_map ha,bS.we,Sem.run_pure]at pc
     simp[pV cB bK,gj,Result.andThen]at pc
     exact pc.symm
    have B8:({ w with heap:=w.heap.setIfInBounds b (.map (es++[MapEntry.mk (.agg (gk.cG z).toArray) dr.bk.zero clock]).toArray (clock+1)) }:World).heap[b]?=some (.map (es++[MapEntry.mk (.agg (gk.cG z).toArray) dr.bk.zero clock]).toArray (clock+1)):=by simp[hl]
    have aay:(Instr.findAsking fa (.agg (gk.cG z).toArray) es 0).run X.P { w with heap:=w.heap.setIfInBounds b (.map (es++[MapEntry.mk (.agg (gk.cG z).toArray) dr.bk.zero clock]).toArray (clock+1)) }=.ok none { w with heap:=w.heap.setIfInBounds b (.map (es++[MapEntry.mk (.agg (gk.cG z).toArray) dr.bk.zero clock]).toArray (clock+1)) }:=by
     rcases hR.yE bS { w with heap:=w.heap.setIfInBounds b (.map (es++[MapEntry.mk (.agg (gk.cG z).toArray) dr.bk.zero clock]).toArray (clock+1)) } (z:=z) 0 with⟨_,mm⟩ | ⟨q,j,v,mm,_⟩
     ·exact mm
     ·rw[aY]at mm; cases mm
    have EO:=hR.N2 bS _ 0 aay (vv:=dr.bk.zero) (c:=clock);rw[qt];unfold Instr.lookup;simp only[Sem.run_bind,run_underlying aC,Result.andThen_ok,MapKept.run_getObj_map B8,bS.we,Sem.run_pure];have aaz:=pV cB EO;simp only[aaz,Result.andThen_ok]
    simp
   ·rw[aaw]
    rcases hR.wg bS w fp (z:=z) 0 with⟨_,gZ⟩ | ⟨sZ,v2,cm,gZ,_⟩
    ·rw[gZ]
     exact fW.snoc (gk:=gk) (x:=(z,eK)) (e:=MapEntry.mk (.agg (gk.cG z).toArray) vy clock) (ea.GJ bS.pU bS.eq.key z) fp hR
    ·rw[bK]at gZ
     cases gZ
   ·rw[Stamped,x5 (f:=fun e=>{ e with val:=vy }) (fun _=>rfl)]
    refine⟨?_,?_⟩
    ·rw[List.map_append,List.pairwise_append]
     exact⟨dn.1,by simp,fun p aq q ao=>by simp at ao; subst ao; exact dn.2 p aq⟩
    ·intro p aq
     rw[List.map_append,List.mem_append]at aq
     rcases aq with aq | aq
     ·exact Nat.lt_succ_of_lt (dn.2 p aq)
     ·simp at aq; omega
  ·-- the entry is there
   obtain⟨gE,pW⟩:∃ gE,es[j]?=some gE:=⟨_,List.getElem?_eq_getElem hN⟩
   have aaA:∀ vy,ea B ai aZ eK vy->gE.key=.agg (gk.cG z).toArray/\fW B ai gk aZ (eD gk aZ l z eK) (es.modify j fun e=>{ e with key:=.agg (gk.cG z).toArray,val:=vy }):=fun vy fp=>by
    rcases hR.wg bS w fp (z:=z) 0 with⟨gZ,_⟩ | ⟨sZ,v2,cm,gZ,mm,oo,aaB⟩
    ·rw[bK]at gZ
     cases gZ
    ·rw[bK]at gZ
     have aR:sZ=j:=by
      have:=Result.ok.inj gZ
      have yU:=Option.some.inj this.1;have N5:=(Prod.mk.inj yU).1;omega
     subst aR;rw[pW]at mm;cases mm;exact⟨oo,aaB⟩
   refine⟨es.modify j fun e=>{ e with key:=.agg (gk.cG z).toArray },clock,j,{ gE with key:=.agg (gk.cG z).toArray },v,?_,?_,?_,?_,fun vy fp=>⟨?_,?_⟩⟩
   ·have Ha:gE.key=.agg (gk.cG z).toArray:=by
     rcases hR.wg bS w c7 (z:=z) 0 with⟨gZ,_⟩ | ⟨sZ,v2,cm,gZ,mm,oo,_⟩
     ·rw[bK]at gZ
      cases gZ
     ·rw[bK]at gZ
      have aR:sZ=j:=by
       have:=Result.ok.inj gZ
       have yU:=Option.some.inj this.1;have N5:=(Prod.mk.inj yU).1;omega
      subst aR;rw[pW]at mm;cases mm;exact oo
    rw[Nat.zero_add]at bK;have lz:(Instr.keyThatStays (((es.toArray[j]?).map (·.key)).getD (.agg (gk.cG z).toArray)) (.agg (gk.cG z).toArray)).run X.P w=.ok (.agg (gk.cG z).toArray) w:=by
     have:((es.toArray[j]?).map (·.key)).getD (.agg (gk.cG z).toArray)=.agg (gk.cG z).toArray:=by simp[pW,Ha]
     rw[this];unfold Instr.keyThatStays;rw[NH fun n=>BU bS.eq.key z n]
     rfl
    simp only[pV cB bK,Result.andThen_ok,Sem.run_bind,lz,MapKept.run_setObj_map _ ha]
    simp[goInt,pW]
   ·simp[pW]
   ·rw[x5 (f:=fun e=>{ e with key:=.agg (gk.cG z).toArray }) (fun _=>rfl)]
    exact dn.1
   ·have Ha:gE.key=.agg (gk.cG z).toArray:=by
     rcases hR.wg bS w c7 (z:=z) 0 with⟨gZ,_⟩ | ⟨sZ,v2,cm,gZ,mm,oo,_⟩
     ·rw[bK]at gZ
      cases gZ
     ·rw[bK]at gZ
      have aR:sZ=j:=by
       have:=Result.ok.inj gZ
       have yU:=Option.some.inj this.1;have N5:=(Prod.mk.inj yU).1;omega
      subst aR;rw[pW]at mm;cases mm;exact oo
    have GP:(es.modify j fun e=>{ e with key:=.agg (gk.cG z).toArray })=es:=by
     apply List.ext_getElem?
     intro q;rw[List.getElem?_modify]
     by_cases ao:j=q
     ·subst ao
      rw[pW]
      simp[<- Ha]
     ·simp[ao]
    rw[GP];have mZ:({ w with heap:=w.heap.setIfInBounds b (.map es.toArray clock) }:World)=w:=by
     have:w.heap.setIfInBounds b (.map es.toArray clock)=w.heap:=by
      apply Array.ext_getElem?
      intro q
      by_cases ao:q=b
      ·subst ao
       rw[ha]
       simp[hl]
      ·rw[Array.getElem?_setIfInBounds_ne (Ne.symm ao)]
     rw[this]
    rw[mZ];exact pc
   ·rw[N1]
    exact(aaA vy fp).2
   ·rw[N1,Stamped,x5 (f:=fun e=>{ e with key:=.agg (gk.cG z).toArray,val:=vy }) (fun _=>rfl)]
    exact dn
 obtain⟨ml,nH,j,e,v,aaC,aaD,aaE,N6,tW⟩:=nC;have aaF:=aav aaE aaD;have e5:∀ (Hb:Obj),c6 (fun k=>R k\/B k) ai { w with heap:=w.heap.setIfInBounds b Hb }:=fun Hb=>(ag.aJ.u9 (x':=Hb) dV.more).below
 refine fU ag.bL AG.1 AG.2 (du lA) (v:=.tuple #[v,.int .i64 (e.born:Int)]) (w':={ w with heap:=w.heap.setIfInBounds b (.map ml.toArray nH) }) ?_ fun ay N7=>⟨b1 _ (e5 _) (fun jt ia=>by rw[ae]at ia; cases ia; exact N6),?_⟩
 ·simp[execOp,G7,ag.bL.aD J,ag.bL.aD U,aaC]
 have eM:=ag.set (sv:=.a (.c .dead)) (v:=.tuple #[v,.int .i64 (e.born:Int)]) trivial N7;have N8:aD (gl ay) (.tmp d1)=some (.tuple [v,.int .i64 (e.born:Int)].toArray):=h0 N7.this;refine fU eM.bL AH.1 AH.2 (du ke) (v:=.int .i64 (e.born:Int)) (w':={ w with heap:=w.heap.setIfInBounds b (.map ml.toArray nH) }) (KT eM.bL G8 N8 rfl _) fun a2 N9=>⟨b1 _ (e5 _) (fun jt ia=>by rw[ae]at ia; cases ia; exact N6),?_⟩
 have fJ:=eM.set (sv:=.a (.c .dead)) (v:=.int .i64 (e.born:Int)) trivial N9;have tP:aD (gl a2) (.tmp d2)=some (.int .i64 (e.born:Int)):=h0 N9.this;obtain⟨aiR,cV,Oa,vD,rfl⟩:=fJ.aD (st:=⟨(d2,b0.a (.c .dead)) :: (d1,b0.a (.c .dead)) :: st.L,st.H⟩) tF rfl;rw[ae]at vD;cases vD;obtain⟨vy,dU,gb⟩:=fJ.aD (st:=⟨(d2,b0.a (.c .dead)) :: (d1,b0.a (.c .dead)) :: st.L,st.H⟩) aT dp;have fp:ea B ai aZ eK vy:=ea.tq jr iu dN gb;obtain⟨B9,aaG⟩:=tW vy fp;obtain⟨YI,MS,⟨Ob,aiS,aiT,Oc,rfl,_⟩,GO,fX⟩:=fJ.lD (b':=.mp gk aZ (eD gk aZ l z eK) none) bO;rw[ae]at Oc;cases Oc;have B8:({ w with heap:=w.heap.setIfInBounds b (.map ml.toArray nH) }:World).heap[b]?=some (.map ml.toArray nH):=by simp[hl]
 have aaH:(Instr.entryStore t (.map (some b)) (.int .i64 (e.born:Int)) vy).run X.P { w with heap:=w.heap.setIfInBounds b (.map ml.toArray nH) }=.ok () { w with heap:=w.heap.setIfInBounds b (.map (ml.modify j fun e=>{ e with val:=vy }).toArray nH) }:=by
  unfold Instr.entryStore;simp only[Sem.run_bind,MapKept.run_getObj_map B8,Result.andThen_ok,asInt,asIntOf,Sem.run_pure,aaF];rw[MapKept.run_setObj_map _ B8]
  simp[Array.setIfInBounds_setIfInBounds]
 refine AA fJ.bL AI.1 AI.2 (w':={ w with heap:=w.heap.setIfInBounds b (.map (ml.modify j fun e=>{ e with val:=vy }).toArray nH) }) ?_ fun a3 aaI=>⟨aax _ (e5 _),?_⟩
 ·simp[execOp,G9,fJ.bL.aD cV,fJ.bL.aD tP,fJ.bL.aD dU,aaH]
 obtain⟨H',gZ⟩:=fX _ a3 _ ⟨b,_,nH,ae,rfl,B9,aaG,fun _ h=>by cases h⟩ (fJ.aJ.u9 GO) aaI;exact sl a3 _ H' gZ
end
end
end Go.Proofs.YtcheedjfedcbpaaGreatDoor
