/- Part 4 of 6 of the proof. -/
import Derived.Test.YtldjgdggcodgeaaGreatPl3
import Derived.RangeFuncNested
set_option linter.unusedSimpArgs false
set_option linter.unusedVariables false
set_option maxRecDepth 100000
namespace Go.Proofs.YtldjgdggcodgeaaGreat
open Go.RowKit
section
inductive DI where
  | t (i m:Nat)
  | m (i:Nat)
  | s (i:Nat)
  | k (i:Nat)
  | e (i:Nat)
  | q (i:Nat)
  | u (i:Nat) (m:Tm)
  | v (i:Nat)
  | w (i p e:Nat)
  | c (i:Nat) (ps:Ps)
  | g (i:Nat)
  | z (id:Nat)
  | f
def cntD:List DI->Nat
  | []=>0
  | .z _ :: r=>cntD r
  | .f :: r=>cntD r
  | .v _ :: r=>cntD r+3
  | .w _ _ _ :: r=>cntD r+3+1+1
  | _ :: r=>cntD r+1
def dPart(al:Bool) (m:Nat) (H:Hp):Hp:=match m with
  | 1=>[]
  | 3=>match al with
    | true=>H
    | false=>celH H
  | _=>H
def dC(al:Bool) (m:Nat) (H:List Ck):List Ck:=match m with
  | 1=>[]
  | 3=>H.filter (kf al)
  | _=>H
theorem dC_ok{al:Bool} {m:Nat} {env:Nat->Loc} {B:Nat->Prop} {w:World} {l:Hp} {H:List Ck} (h:HR env B w l H):HR env B w (dPart al m l) (dC al m H)/\(dC al m H).Sublist H:=by
  unfold dPart dC
  split
  · exact⟨rfl,List.nil_sublist _⟩
  · cases al with
    | true=>exact⟨by
        have e:H.filter (kf true)=H:=List.filter_eq_self.2 fun _ _=>rfl
        show HR env B w l (H.filter (kf true));rw[e]; exact h,List.filter_sublist⟩
    | false=>exact⟨h.cel,List.filter_sublist⟩
  · exact⟨h,List.Sublist.refl _⟩
def xldf(X:Cx) (st:ASt):Op->Option (Bool×SA)
  | .load t x=>match X.tt.find t,ae X st.L x with
    | some te,some (g1,.c (.elt id 1 i 0))=>match qt te.ti.desc,lk st.H id with
      | false,some (.mrow _ _ g l _ none)=>some (g1&&(decide (i < l.length)&&!(l.getD i (false,[])).1),.c (.lst g (l.getD i (false,[])).2 none))
      | _,_=>none
    | _,_=>none
  | _=>none
def xent(X:Cx) (n:Nat) (st:ASt) (o1 o2 o3:Oper):Option (Bool×ASt×List Nat):=match o1,o2,o3 with
  | ⟨some d1,.mapEntry t u x,_,_,_,none⟩,⟨some d2,.extract (.tmp s1) 1,_,_,_,none⟩,⟨none,.entryStore t3 u3 (.tmp s2) y,_,_,_,none⟩=>match Nat.blt d1 n&&(Nat.blt d2 n&&(Nat.beq s1 d1&&(Nat.beq s2 d2&&Nat.beq t3 t))),X.tt.find t,ae X st.L u,ae X st.L x with
    | true,some ⟨⟨.map kt et,_,_,_⟩,_⟩,some (true,.c (.mref id)),some (g,sx)=>match lk st.H id,X.tt.find et,ae X ((d2,SV.a (.c .dead)) :: (d1,SV.a (.c .dead)) :: st.L) u3,ae X ((d2,SV.a (.c .dead)) :: (d1,SV.a (.c .dead)) :: st.L) y with
      | some (.mp gk gv l _),some _,some (true,.c (.mref id3)),some (g2,sy)=>match dec gk sx.cells,dec gv sy.cells,Nat.beq id3 id&&(skeyB X kt gk&&(xa gk sx&&xa gv sy))with
        | some (c,z,[]),some (c2,xv,[]),true=>some (g&&(c&&(g2&&c2)),⟨(d2,.a (.c .dead)) :: (d1,.a (.c .dead)) :: st.L,zX id (.mp gk gv (mset gk gv l z xv) none) st.H⟩,[d2,d1,id])
        | _,_,_=>none
      | _,_,_,_=>none
    | _,_,_,_=>none
  | _,_,_=>none
theorem xent_ok{X:Cx} {n:Nat} {st st':ASt} {o1 o2 o3:Oper} {c:Bool} {V:List Nat} (hX:X.tt.ok X.P) (h:xent X n st o1 o2 o3=some (c,st',V)) (hc:c=true) {ops:Array Oper}
    {R:Nat->Prop} {W:World} {Bi:Bk} {ks:List Nat} {env:Nat->Loc} {B:Nat->Prop} {w0:World} {H:List Ck} {a:Act} {w:World} (hA:AI X R W Bi n ks env B w0 H st a w) {G:World->Prop} (hG:∀ w1,KO (fun k=>R k\/B k) w0 w1->G w1) {KK:Act->World->Prop}
    (hK3:∀ a' w' H',AI X R W Bi n ks env B w0 H' st' a' w'->KK a' w') :
    XO X.P ops o1 (fun a1 w1=>G w1/\XO X.P ops o2 (fun a2 w2=>G w2/\XO X.P ops o3 (fun a3 w3=>G w3/\KK a3 w3) a2 w2) a1 w1) a w:=by
  unfold xent at h
  split at h
  · rename_i d1 t u x _ _ _ d2 s1 _ _ _ t3 u3 s2 y _ _ _
    split at h
    · rename_i hb ht hu hx
      simp only[Bool.and_eq_true]at hb;obtain⟨hd1,hd2,e1,e2,e3⟩:=hb;have e1:=Nat.eq_of_beq_eq_true e1;have e2:=Nat.eq_of_beq_eq_true e2;have e3:=Nat.eq_of_beq_eq_true e3;subst e1;subst e2;subst e3
      split at h
      · rename_i hl he hu3 hy
        split at h
        · rename_i hdx hdy hk
          simp only[Bool.and_eq_true]at hk;obtain⟨e4,hk1,hk2,hk3⟩:=hk;have e4:=Nat.eq_of_beq_eq_true e4;subst e4;cases h;simp only[Bool.and_eq_true]at hc;obtain⟨v0,q1,_⟩:=x_look hX (skeyB_ok hX hk1) ht rfl he hl hA;exact x_entry3 hX (skeyB_ok hX hk1) rfl ⟨rfl,rfl⟩ hd1 rfl ⟨rfl,rfl⟩ hd2 rfl ⟨rfl,rfl⟩ ht rfl he hu hx hc.1 hdx hc.2.1 hk2 hl hu3 hy hc.2.2.1 hdy hc.2.2.2 hk3 hA q1 (fun w1 h _=>hG w1 h) hG hK3
        · cases h
      · cases h
    · cases h
  · cases h
theorem xent_ks{X:Cx} {n:Nat} {st st':ASt} {o1 o2 o3:Oper} {c:Bool} {V:List Nat} (h:xent X n st o1 o2 o3=some (c,st',V)):KS V st st':=by
  unfold xent at h
  split at h
  · split at h
    · split at h
      · split at h
        · cases h
          exact⟨(Kp.cons (Kp.cons (V:=[]) (Kp.refl _))).more fun q hq=>by
            obtain⟨h1,hq⟩:=zA hq;obtain⟨h2,hq⟩:=zA hq;unfold inN
            split
            · rename_i e; exact absurd (Nat.eq_of_beq_eq_true e).symm h1
            · unfold inN
              split
              · rename_i e; exact absurd (Nat.eq_of_beq_eq_true e).symm h2
              · rfl,(qm (V:=[_]) (in1 _ _)).more fun q hq=>(zA (zA hq).2).2⟩
        · cases h
      · cases h
    · cases h
  · cases h
def xinc(X:Cx) (n:Nat) (st:ASt) (oL oP o1 o2 o3:Oper):Option (Bool×ASt×List Nat):=match oL,oP.guard,oP.dst,o1,o2,o3 with
  | ⟨some d,.lookup t (.tmp su) (.tmp sx) false,_,_,_,none⟩,none,some dp,⟨some d1,.mapEntry t1 (.tmp su1) (.tmp sx1),_,_,_,none⟩,⟨some d2,.extract (.tmp s1) 1,_,_,_,none⟩,⟨none,.entryStore t3 (.tmp su3) (.tmp s2) y,_,_,_,none⟩=>
    match (Nat.blt d n&&(Nat.blt dp n&&(Nat.blt d1 n&&Nat.blt d2 n)))&&((Nat.beq su1 su&&(Nat.beq sx1 sx&&(Nat.beq su3 su&&(Nat.beq s1 d1&&(Nat.beq s2 d2&&(Nat.beq t1 t&&Nat.beq t3 t))))))&&((!Nat.beq su d&&(!Nat.beq su dp&&(!Nat.beq su d1&&(!Nat.beq su d2&&(!Nat.beq sx d&&!Nat.beq sx dp)))))&&(isPure oP.op&&!isLoad oP.op))),X.tt.find t,ae X st.L (.tmp su),ae X st.L (.tmp sx)with
    | true,some ⟨⟨.map kt et,_,_,_⟩,_⟩,some (true,.c (.mref id)),some (g,sk)=>match lk st.H id,X.tt.find et with
      | some (.mp gk gv l _),some ee=>match dec gk sk.cells,skeyB X kt gk&&(xa gk sk&&zeroB gv ee.ti.zero)with
        | some (c,z,[]),true=>match vSA gv ((mget gk gv l z).getD gv.zero)with
          | some sa=>match apure X ⟨(d,.a sa) :: st.L,st.H⟩ oP.op with
            | some (cp,sp)=>match ae X ((d2,SV.a (.c .dead)) :: (d1,SV.a (.c .dead)) :: (dp,.a sp) :: (d,.a sa) :: st.L) y with
              | some (g2,sy)=>match dec gv sy.cells,xa gv sy with
                | some (c2,xv,[]),true=>some (g&&(c&&(cp&&(g2&&c2))),⟨(d2,.a (.c .dead)) :: (d1,.a (.c .dead)) :: (dp,.a sp) :: (d,.a sa) :: st.L,zX id (.mp gk gv (mset gk gv l z xv) none) st.H⟩,[d2,d1,dp,d,id])
                | _,_=>none
              | none=>none
            | none=>none
          | none=>none
        | _,_=>none
      | _,_=>none
    | _,_,_,_=>none
  | _,_,_,_,_,_=>none
def incOk(ops:Array Oper) (E:List Nat) (listed:Array Bool) (i p e:Nat):Bool:=
  (baseOk ops E listed i&&baseOk ops E (listed.setIfInBounds i true) p&&((xq ops i).all fun j=>!listed.getD j true&&bindB ops i (xq ops i) j) &&
    (List.range ops.size).all fun j=>j == i || listed.getD j true || j == e || j == e+1 || (xq ops i).elem j) &&
  (((Region.ready .any ops ((listed.setIfInBounds i true).setIfInBounds p true) == [e])&&(Region.ready .any ops (((listed.setIfInBounds i true).setIfInBounds p true).setIfInBounds e true) == [e+1])&&(Region.ready .any ops ((((listed.setIfInBounds i true).setIfInBounds p true).setIfInBounds e true).setIfInBounds (e+1) true) == [e+2])) &&
   (!E.elem i&&!E.elem p&&!E.elem e&&!E.elem (e+1)&&!E.elem (e+2))&&(!Nat.beq p e&&!Nat.beq p (e+1)&&Nat.blt (e+1) listed.size))
def takeOk(ops:Array Oper) (E:List Nat) (i m:Nat) (ds:DS):Bool:=match m with
  | 0=>baseOk ops E ds.listed i&&needOk ops E ds.listed ds.pre i&&kindAt (fun o=>isPure o&&!isLoad o) ops i
  | 1=>baseOk ops E ds.listed i&&needOk ops E ds.listed ds.pre i&&kindAt isPure ops i&&ds.nocall
  | 3=>baseOk ops E ds.listed i&&restIn ops E (xq ops i) ds.listed i&&kindAt isPure ops i&&ds.early&&ds.pre
  | _=>false
def DS.next(ds:DS) (i:Nat):DS:=⟨ds.listed.setIfInBounds i true,ds.early,ds.pre,ds.nocall,ds.all⟩
section
variable {X:Cx} {ρ:Type}
def evD(X:Cx) (n:Nat) (T:List (CT X)) (ops:List Oper) (E:List Nat):List DI->DS->Gd->List Nat->List Bool->ASt->(DS->Gd->List Nat->List Bool->ASt->Option ρ)->Option ρ
  | [],ds,G,V,A,st,k=>k ds G V A st
  | .t i m :: r,ds,G,V,A,st,k=>match nth ops i,takeOk ops.toArray E i m ds with
    | some o,true=>match o.guard,o.dst with
      | none,some d=>match apureG X (zm ops) [] G ⟨st.L,dPart ds.all m st.H⟩ o.op,Nat.blt d n with
        | some (c,sa),true=>evD X n T ops E r (ds.next i) (qT (zm ops) d G) (d :: V) (c :: A) ⟨(d,.a sa) :: st.L,st.H⟩ k
        | _,_=>none
      | some (j,want),some d=>match nth (zm ops) j with
        | some (some s)=>match qq st.L s want with
          | some g=>match apureG X (zm ops) (anc (zm ops) G 8 j want) G ⟨st.L,dPart ds.all m st.H⟩ o.op,Nat.blt d n,Nat.beq s d with
            | some (c,sa),true,false=>evD X n T ops E r (ds.next i) ((d,j,want) :: qT (zm ops) d G) (d :: V) (qn g c :: A) ⟨(d,.may g sa) :: st.L,st.H⟩ k
            | _,_,_=>none
          | none=>none
        | _=>none
      | _,none=>none
    | _,_=>none
  | .m i :: r,ds,G,V,A,st,k=>match nth ops i,takeOk ops.toArray E i 0 ds with
    | some o,true=>match o.guard,o.dst,tupMv st.L o.op with
      | none,some d,some xs=>match Nat.blt d n with
        | true=>evD X n T ops E r (ds.next i) (qT (zm ops) d G) (d :: V) A ⟨(d,.tup xs) :: st.L,st.H⟩ k
        | false=>none
      | _,_,_=>none
    | _,_=>none
  | .s i :: r,ds,_,V,A,st,k=>match nth ops i,Region.ready .any ops.toArray ds.listed == [i],qo E ds.listed i with
    | some o,true,false=>match o.guard with
      | none=>match xstep X n st o with
        | some (c,st',W)=>evD X n T ops E r ⟨ds.listed.setIfInBounds i true,false,false,ds.nocall,ds.all⟩ [] (W++V) (c :: A) st' k
        | none=>match astep X n (zm ops) st o with
          | .ok c st'=>evD X n T ops E r ⟨ds.listed.setIfInBounds i true,false,false,ds.nocall,ds.all⟩ [] (touchO X st.L o++V) (c :: A) st' k
          | .stop=>none
      | some _=>none
    | _,_,_=>none
  | .k i :: r,ds,_,V,A,st,k=>match nth ops i,Region.ready .any ops.toArray ds.listed == [i],ds.pre with
    | some o,true,true=>match o.guard with
      | none=>match o.dst,xpure X st o.op with
        | some d,some (c,sa)=>match Nat.blt d n with
          | true=>evD X n T ops E r ⟨ds.listed.setIfInBounds i true,false,true,false,ds.all⟩ [] (d :: V) (c :: A) ⟨(d,.a sa) :: st.L,st.H⟩ k
          | false=>none
        | _,none=>match cond ds.all (kindNew o.op&&noKeyD o st.H) (kindKeep o.op&&keepD o st.H),astep X n (zm ops) st o with
          | true,.ok c st'=>evD X n T ops E r ⟨ds.listed.setIfInBounds i true,false,true,ds.nocall,ds.all⟩ [] (touchO X st.L o++V) (c :: A) st' k
          | _,_=>none
        | none,some _=>none
      | some _=>none
    | _,_,_=>none
  | .q i :: r,ds,G,V,A,st,k=>match nth ops i,takeOk ops.toArray E i 3 ds with
    | some o,true=>match o.guard,o.dst,xldf X ⟨st.L,dPart ds.all 3 st.H⟩ o.op with
      | none,some d,some (c,sa)=>match Nat.blt d n with
        | true=>evD X n T ops E r (ds.next i) (qT (zm ops) d G) (d :: V) (c :: A) ⟨(d,.a sa) :: st.L,st.H⟩ k
        | false=>none
      | _,_,_=>none
    | _,_=>none
  | .u i m :: r,ds,_,V,A,st,k=>match nth ops i,Region.ready .any ops.toArray ds.listed == [i],qo E ds.listed i with
    | some o,true,false=>match tstep X n st m o with
      | some (c,st',W)=>evD X n T ops E r ⟨ds.listed.setIfInBounds i true,false,false,ds.nocall,ds.all⟩ [] (W++V) (c :: A) st' k
      | none=>none
    | _,_,_=>none
  | .v i :: r,ds,_,V,A,st,k=>match nth ops i,nth ops (i+1),nth ops (i+2),Region.ready .any ops.toArray ds.listed == [i]&&(Region.ready .any ops.toArray (ds.listed.setIfInBounds i true) == [i+1]&&Region.ready .any ops.toArray ((ds.listed.setIfInBounds i true).setIfInBounds (i+1) true) == [i+2]),qo E ds.listed i || (qo E (ds.listed.setIfInBounds i true) (i+1) || qo E ((ds.listed.setIfInBounds i true).setIfInBounds (i+1) true) (i+2))with
    | some o1,some o2,some o3,true,false=>match xent X n st o1 o2 o3 with
      | some (c,st',W)=>evD X n T ops E r ⟨((ds.listed.setIfInBounds i true).setIfInBounds (i+1) true).setIfInBounds (i+2) true,false,false,ds.nocall,ds.all⟩ [] (W++V) (c :: A) st' k
      | none=>none
    | _,_,_,_,_=>none
  | .w i p e :: r,ds,_,V,A,st,k=>match nth ops i,nth ops p,nth ops e,nth ops (e+1),nth ops (e+2),incOk ops.toArray E ds.listed i p e with
    | some oL,some oP,some o1,some o2,some o3,true=>match xinc X n st oL oP o1 o2 o3 with
      | some (c,st',W)=>evD X n T ops E r ⟨((((ds.listed.setIfInBounds i true).setIfInBounds p true).setIfInBounds e true).setIfInBounds (e+1) true).setIfInBounds (e+2) true,false,false,ds.nocall,ds.all⟩ [] (W++V) (c :: A) st' k
      | none=>none
    | _,_,_,_,_,_=>none
  | .e i :: r,ds,_,V,A,st,k=>match nth ops i,Region.ready .any ops.toArray ds.listed == [i],!qo E ds.listed i || ds.pre with
    | some o,true,true=>match o.guard,o.dst,xfrz X st.L o.op with
      | none,some d,some (c,sa)=>match Nat.blt d n with
        | true=>evD X n T ops E r ⟨ds.listed.setIfInBounds i true,false,ds.pre,false,ds.all⟩ [] (d :: V) (c :: A) ⟨(d,.a sa) :: st.L,st.H⟩ k
        | false=>none
      | _,_,_=>none
    | _,_,_=>none
  | .c i ps :: r,ds,_,V,A,st,k=>match nth ops i,Region.ready .any ops.toArray ds.listed == [i],!qo E ds.listed i || (ds.pre&&(allNew st.H ps || (!ds.all&&rowsPs st.H ps)))with
    | some o,true,true=>evC X n T ps V A st (fun G' V' A' st'=>evD X n T ops E r ⟨ds.listed.setIfInBounds i true,false,ds.pre&&(allNew st.H ps || (!ds.all&&rowsPs st.H ps)),false,ds.all⟩ G' V' A' st' k) o
    | _,_,_=>none
  | .g i :: r,ds,G,V,A,st,k=>match nth ops i,Region.ready .any ops.toArray ds.listed == [i],qo E ds.listed i with
    | some o,true,false=>evGC X n T (zm ops) G V A st (fun G' V' A' st'=>evD X n T ops E r ⟨ds.listed.setIfInBounds i true,false,false,false,ds.all⟩ G' V' A' st' k) o
    | _,_,_=>none
  | .z id :: r,ds,_,V,A,st,k=>match frz id st with
    | some st'=>evD X n T ops E r ⟨ds.listed,false,ds.pre&&!ds.all,false,ds.all⟩ [] V A st' k
    | none=>none
  | .f :: r,ds,G,V,A,st,k=>match E.isEmpty || ds.pre with
    | true=>evD X n T ops E r ⟨ds.listed,true,true,true,ds.all⟩ G V A st k
    | false=>none
variable {M:Bool} {n:Nat} {T:List (CT X)} {st0 st st':ASt} {Q:Exit->ASt->Prop} {ops:List Oper} {o:Oper} {r:ρ} {V:List Nat} {A:List Bool} {E:List Nat} {ds:DS} {fuel i:Nat}
theorem qB{k:DS->Gd->List Nat->List Bool->ASt->Option ρ} (hkA:∀ ds G V A st,k ds G V A st=some r->∀ c∈A,c=true):∀ {is:List DI} {ds:DS} {G:Gd} {V:List Nat} {A:List Bool} {st:ASt},evD X n T ops E is ds G V A st k=some r->∀ c∈A,c=true
  | [],ds,G,V,A,st,h=>by
    unfold evD at h;exact hkA _ _ _ _ _ h
  | .t i m :: is,ds,G,V,A,st,h=>by
    unfold evD at h
    split at h
    · split at h
      · split at h
        · exact fun c hc=>qB hkA h c (List.mem_cons_of_mem _ hc)
        · cases h
      · split at h
        · split at h
          · split at h
            · exact fun c hc=>qB hkA h c (List.mem_cons_of_mem _ hc)
            · cases h
          · cases h
        · cases h
      · cases h
    · cases h
  | .m i :: is,ds,G,V,A,st,h=>by
    unfold evD at h
    split at h
    · split at h
      · split at h
        · exact qB hkA h
        · cases h
      · cases h
    · cases h
  | .s i :: is,ds,G,V,A,st,h=>by
    unfold evD at h
    split at h
    · split at h
      · split at h
        · exact fun c hc=>qB hkA h c (List.mem_cons_of_mem _ hc)
        · split at h
          · exact fun c hc=>qB hkA h c (List.mem_cons_of_mem _ hc)
          · cases h
      · cases h
    · cases h
  | .k i :: is,ds,G,V,A,st,h=>by
    unfold evD at h
    split at h
    · split at h
      · split at h
        · split at h
          · exact fun c hc=>qB hkA h c (List.mem_cons_of_mem _ hc)
          · cases h
        · split at h
          · exact fun c hc=>qB hkA h c (List.mem_cons_of_mem _ hc)
          · cases h
        · cases h
      · cases h
    · cases h
  | .q i :: is,ds,G,V,A,st,h=>by
    unfold evD at h
    split at h
    · split at h
      · split at h
        · exact fun c hc=>qB hkA h c (List.mem_cons_of_mem _ hc)
        · cases h
      · cases h
    · cases h
  | .u i m :: is,ds,G,V,A,st,h=>by
    unfold evD at h
    split at h
    · split at h
      · exact fun c hc=>qB hkA h c (List.mem_cons_of_mem _ hc)
      · cases h
    · cases h
  | .v i :: is,ds,G,V,A,st,h=>by
    unfold evD at h
    split at h
    · split at h
      · exact fun c hc=>qB hkA h c (List.mem_cons_of_mem _ hc)
      · cases h
    · cases h
  | .w i p e :: is,ds,G,V,A,st,h=>by
    unfold evD at h
    split at h
    · split at h
      · exact fun c hc=>qB hkA h c (List.mem_cons_of_mem _ hc)
      · cases h
    · cases h
  | .e i :: is,ds,G,V,A,st,h=>by
    unfold evD at h
    split at h
    · split at h
      · split at h
        · exact fun c hc=>qB hkA h c (List.mem_cons_of_mem _ hc)
        · cases h
      · cases h
    · cases h
  | .c i ps :: is,ds,G,V,A,st,h=>by
    unfold evD at h
    split at h
    · exact(evC_ok (KS.refl (V:=V) st) h).1
    · cases h
  | .g i :: is,ds,G,V,A,st,h=>by
    unfold evD at h
    split at h
    · exact evGC_A h
    · cases h
  | .z id :: is,ds,G,V,A,st,h=>by
    unfold evD at h
    split at h
    · exact qB hkA h
    · cases h
  | .f :: is,ds,G,V,A,st,h=>by
    unfold evD at h
    split at h
    · exact qB hkA h
    · cases h
theorem partG(hX:X.tt.ok X.P) {R:Nat->Prop} {W:World} {Bi:Bk} {ks:List Nat} {env:Nat->Loc} {B:Nat->Prop} {w0:World} {H C:List Ck} {L:Sl} {HH h:Hp} {a:Act} {w:World} {c:Bool} {G:Gd} {ps:List (Nat×Bool)} {sa:SA} (hA:AI X R W Bi n ks env B w0 H ⟨L,HH⟩ a w) (hh:HR env B w0 h C) (hC:C.Sublist H) (hG:GInv (zm ops) G L) (hp:∀ p∈ps,PT (zm ops) L p) (hs:apureG X (zm ops) ps G ⟨L,h⟩ o.op=some (c,sa)) (hc:c=true) :
    ∃ v,SaR env B w0 sa v/\∀ w',(isLoad o.op=true->SH (fun k=>R k\/B k) w0 C w')->(execOp a.eval o).run X.P w'=.ok (.value v) w':=by
  have hA1:AI X R W Bi n [] env B w0 C ⟨L,h⟩ { tmps:=a.tmps,defers:=Bi.d } w:=⟨hA.size,rfl,hA.has,hh,hA.sh.weak (by simpa using hC.trans (List.sublist_append_left _ _)),hA.sub,hA.new,hA.pin,hA.base,hA.glob⟩
  obtain⟨v,h1,h2⟩:=apureG_all hX hA1 hG hp hs hc;refine⟨v,h1,fun w' hw=>?_⟩
  have:=h2 w' (by simpa using hw)
  exact this
theorem partP{R:Nat->Prop} {W:World} {Bi:Bk} {ks:List Nat} {env:Nat->Loc} {B:Nat->Prop} {w0:World} {H C:List Ck} {L:Sl} {HH h:Hp} {a:Act} {w:World} {sa:SA} (hA:AI X R W Bi n ks env B w0 H ⟨L,HH⟩ a w) (hh:HR env B w0 h C) (hC:C.Sublist H) (hp:PureOk X ⟨L,h⟩ o sa) :
    ∃ v,SaR env B w0 sa v/\∀ w',(isLoad o.op=true->SH (fun k=>R k\/B k) w0 C w')->(execOp a.eval o).run X.P w'=.ok (.value v) w':=by
  have hA1:AI X R W Bi n [] env B w0 C ⟨L,h⟩ { tmps:=a.tmps,defers:=Bi.d } w:=⟨hA.size,rfl,hA.has,hh,hA.sh.weak (by simpa using hC.trans (List.sublist_append_left _ _)),hA.sub,hA.new,hA.pin,hA.base,hA.glob⟩
  obtain⟨v,h1,h2⟩:=hp hA1;refine⟨v,h1,fun w' hw=>?_⟩
  have:=h2 w' (by simpa using hw)
  exact this
theorem xldf_ok(hX:X.tt.ok X.P) {c:Bool} {sa:SA} (h:xldf X st o.op=some (c,sa)) (hc:c=true):PureOk X st o sa:=by
  unfold xldf at h
  split at h
  · rename_i t x hop
    split at h
    · rename_i te g1 id i ht hx
      split at h
      · rename_i T T' g l cap ha hl
        cases h;simp only[Bool.and_eq_true]at hc;exact pk_loadF hX hop ht ha hx hc.1 hl hc.2.1 hc.2.2
      · cases h
    · cases h
  · cases h
theorem takeG(hX:X.tt.ok X.P) {m d:Nat} {sv:SV} {R:Nat->Prop} {W:World} {Bi:Bk} {B0:Nat->Prop} {w00:World} {CS:List Ck} {F:World->Prop} {ks:List Nat} {env:Nat->Loc} {B:Nat->Prop} {w0:World} {H:List Ck} {a:Act} {w:World} {QQ:Exit->Act->World->Prop} (hi:nth ops i=some o) (ht:takeOk ops.toArray E i m ds=true) (hdst:o.dst=some d) (hd:Nat.blt d n=true)
    (hA:AI X R W Bi n ks env B w0 H st a w) (hD:DInv R ds B0 w00 CS F B w0 H) (v:Value) (hV:VR env B w0 sv v)
    (hy:∀ T:World->Prop,(∀ w',T w'->isLoad o.op=true->SH (fun k=>R k\/B k) w0 (dC ds.all m H) w')->YieldsIf X.P ops.toArray T o v a)
    (hIH:∀ a',AI X R W Bi n ks env B w0 H ⟨(d,sv) :: st.L,st.H⟩ a' w->DInv R (ds.next i) B0 w00 CS F B w0 H->wpAnyJ X.P ops.toArray QQ (fun j l w=>(qo E l j=true->SH (fun k=>R k\/B0 k) w00 CS w)/\F w) fuel (ds.next i).listed a' w) :
    wpAnyJ X.P ops.toArray QQ (fun j l w=>(qo E l j=true->SH (fun k=>R k\/B0 k) w00 CS w)/\F w) (fuel+1) ds.listed a w:=by
  have hio:=qh hi;have hFw:F w:=hD.F hA;have hA3:=hA.set (sv:=sv) hV (show St n (dfs ks Bi) ((d,v) :: qL a) (a.put o.dst v) by rw[hdst]; exact hA.stt.put d v (zk hd));have hD':DInv R (ds.next i) B0 w00 CS F B w0 H:=⟨hD.early,hD.pre,hD.frz,hD.frz'⟩
  have go:=hIH _ hA3 hD';unfold takeOk at ht
  split at ht
  · simp only[kindAt,hio,Bool.and_eq_true,Bool.not_eq_true']at ht
    obtain⟨⟨hbase,hneed⟩,hpure,hload⟩:=ht;obtain⟨hn1,hn2⟩:=need_cases hneed;exact ad_tail (E.elem i) v hio hbase id hn1 (hy _ fun w' _ hl=>by rw[hload]at hl; cases hl) (fun he=>hD.T (hn2 he) hA) hFw go
  · simp only[kindAt,hio,Bool.and_eq_true]at ht
    obtain⟨⟨⟨hbase,hneed⟩,hpure⟩,hnc⟩:=ht;obtain⟨hn1,hn2⟩:=need_cases hneed;refine ad_tail (E.elem i) v hio hbase id hn1 (hy _ fun w' hw' _=>?_) (fun he=>hD.T (hn2 he) hA) hFw go;have hw2:=hw'.2;rw[hD.frz hnc]at hw2;refine⟨hw2,fun k hk=>?_,(fun _ h=>by cases h),List.Pairwise.nil⟩;have h3:=hA.sh.base k hk;have h4:=hA.sh.below.block k hk;have h5:=hw2.block k hk;rw[<- h4,Array.getElem?_eq_getElem h3]at h5;exact(Array.getElem?_eq_some_iff.1 h5).1
  · simp only[kindAt,hio,Bool.and_eq_true]at ht
    obtain⟨⟨⟨⟨hbase,hrest⟩,hpure⟩,hearly⟩,hpre⟩:=ht;refine ad_tail true v hio hbase (fun _=>rfl) (fun _=>hrest) (hy _ fun w' hw' _=>?_) (fun _=>hD.T hpre hA) hFw go;have hw2:=hw'.1 rfl;obtain⟨e1,e2,e3⟩:=hD.early hearly;rw[e1,e2,e3]at hw2;exact hw2
  · cases ht
theorem kpc_pre{H:Hp} {ps:Ps} {pre al:Bool} (h:(pre&&(allNew H ps || (!al&&rowsPs H ps)))=true):pre=true/\∀ c,kf al c=true->kpC H ps c=true:=by
  rw[Bool.and_eq_true,Bool.or_eq_true,Bool.and_eq_true]at h;refine⟨h.1,fun c hc=>?_⟩;unfold kpC
  rcases h.2 with h1 | h1
  · rw[h1]; rfl
  · unfold kf at hc
    have h2:al=false:=by simpa using h1.1
    rw[h2,Bool.false_or]at hc;rw[hc,h1.2]
    simp
theorem ado_sc{pre':Bool} {kp:Ck->Bool} (hi:nth ops i=some o) (hp:StepC X n o kp st st') (hpr:pre'=true->ds.pre=true/\∀ c,kf ds.all c=true->kp c=true) (hE:(!qo E ds.listed i || pre')=true) (h:AD X M n ops E fuel ⟨ds.listed.setIfInBounds i true,false,pre',false,ds.all⟩ st' Q):ADo X M n ops E fuel ds st Q i:=by
  intro R W Bi B0 w00 CS F ks env B w0 H a w hM hA hD;refine⟨o,qh hi,hp R W Bi ks env B w0 H a w hA _ _ fun a' w' env' B' w0' H' hA' hsub hKO hkeep=>?_⟩;have hD':DInv R ⟨ds.listed.setIfInBounds i true,false,pre',false,ds.all⟩ B0 w00 CS F B' w0' H':=⟨fun h=>(by cases h),fun h=>by
    have h':pre'=true:=h;obtain⟨h'1,h'2⟩:=hpr h';obtain⟨g1,g2,g3,g4⟩:=hD.pre h'1;exact⟨fun c hc=>⟨hkeep c (g1 c hc).1 (h'2 c (g1 c hc).2),(g1 c hc).2⟩,g2,fun k hk=>hsub k (g3 k hk),g4.trans ⟨hKO.os,hKO.tape,hKO.output,hKO.size,fun k hk=>hKO.block k (hk.imp id (g3 k))⟩⟩,fun h=>(by cases h),fun w hw=>hD.frz' w (hKO.trans ⟨hw.os,hw.tape,hw.output,hw.size,fun k hk=>hw.block k (hk.imp id (hsub k))⟩)⟩
  refine⟨⟨fun hh=>hD'.T ?_ hA',hD'.F hA'⟩,h R W Bi B0 w00 CS F ks env' B' w0' H' a' w' hM hA' hD'⟩;rw[hh]at hE;exact hE
theorem ado_sg(hi:nth ops i=some o) (hp:∀ (R:Nat->Prop) (W:World) (Bi:Bk) (ks:List Nat) (env:Nat->Loc) (B:Nat->Prop) (w0:World) (H:List Ck) (a:Act) (w:World),AI X R W Bi n ks env B w0 H st a w->∀ (KK:Act->World->Prop),(∀ a' w' env' B' w0' H',AI X R W Bi n ks env' B' w0' H' st' a' w'->(∀ k,B k->B' k)->KO (fun k=>R k\/B k) w0 w0'->KK a' w')->XO X.P ops.toArray o KK a w) (hE:qo E ds.listed i=false) (h:AD X M n ops E fuel ⟨ds.listed.setIfInBounds i true,false,false,false,ds.all⟩ st' Q):ADo X M n ops E fuel ds st Q i:=by
  intro R W Bi B0 w00 CS F ks env B w0 H a w hM hA hD;refine⟨o,qh hi,hp R W Bi ks env B w0 H a w hA _ fun a' w' env' B' w0' H' hA' hsub hKO=>?_⟩;have hD':DInv R ⟨ds.listed.setIfInBounds i true,false,false,false,ds.all⟩ B0 w00 CS F B' w0' H':=⟨fun h=>(by cases h),fun h=>(by cases h),fun h=>(by cases h),fun w hw=>hD.frz' w (hKO.trans ⟨hw.os,hw.tape,hw.output,hw.size,fun k hk=>hw.block k (hk.imp id (hsub k))⟩)⟩
  exact⟨⟨fun hh=>(by rw[hE]at hh; cases hh),hD'.F hA'⟩,h R W Bi B0 w00 CS F ks env' B' w0' H' a' w' hM hA' hD'⟩
theorem ad_solo(hr:(Region.ready .any ops.toArray ds.listed == [i])=true) (h:ADo X M n ops E fuel ds st Q i):AD X M n ops E (fuel+1) ds st Q:=ad_ready (beq_iff_eq.1 hr) (ads_cons h ads_nil)
theorem PureOk.scK{sa:SA} {d:Nat} (hp:PureOk X st o sa) (ho:o.guard=none/\o.dst=some d) (hd:Nat.blt d n=true):StepC X n o (fun _=>true) st ⟨(d,.a sa) :: st.L,st.H⟩:=by
  intro R W Bi ks env B w0 H a w hA KK l hK;obtain⟨v,h1,h2⟩:=hp hA;exact zJ hA.stt ho.1 ho.2 (zk hd) (h2 w fun _=>hA.sh) fun a' hS=>hK a' w env B w0 H (hA.set (sv:=.a sa) h1 hS) (fun _ h=>h) (KO.refl _ _) fun _ h _=>h
theorem ad_ent(hX:X.tt.ok X.P) {o1 o2 o3:Oper} {c:Bool} {W1:List Nat} (h1:nth ops i=some o1) (h2:nth ops (i+1)=some o2) (h3:nth ops (i+2)=some o3)
    (hr:(Region.ready .any ops.toArray ds.listed == [i]&&(Region.ready .any ops.toArray (ds.listed.setIfInBounds i true) == [i+1]&&Region.ready .any ops.toArray ((ds.listed.setIfInBounds i true).setIfInBounds (i+1) true) == [i+2]))=true)
    (hm:(qo E ds.listed i || (qo E (ds.listed.setIfInBounds i true) (i+1) || qo E ((ds.listed.setIfInBounds i true).setIfInBounds (i+1) true) (i+2)))=false) (hx:xent X n st o1 o2 o3=some (c,st',W1)) (hc:c=true)
    (h:AD X M n ops E fuel ⟨((ds.listed.setIfInBounds i true).setIfInBounds (i+1) true).setIfInBounds (i+2) true,false,false,ds.nocall,ds.all⟩ st' Q):AD X M n ops E (fuel+3) ds st Q:=by
  intro R W Bi B0 w00 CS F ks env B w0 H a w hM hA hD;simp only[Bool.and_eq_true,beq_iff_eq]at hr;obtain⟨r1,r2,r3⟩:=hr;simp only[Bool.or_eq_false_iff]at hm;obtain⟨m1,m2,m3⟩:=hm;have hkey:=xent_ok (ops:=ops.toArray) hX hx hc hA (G:=F) (fun w1 hk=>hD.frz' w1 hk) (KK:=fun a' w'=>wpAnyJ X.P ops.toArray (fun e a w=>e=.normal/\∃ st',Q e st'/\AR X R W Bi M n st' a w) (fun j l w=>(qo E l j=true->SH (fun k=>R k\/B0 k) w00 CS w)/\F w) fuel (((ds.listed.setIfInBounds i true).setIfInBounds (i+1) true).setIfInBounds (i+2) true) a' w') (fun a' w' H' hA'=>h R W Bi B0 w00 CS F ks env B w0 H' a' w' hM hA' hD.lost);refine⟨fun h0=>(by rw[r1]at h0; cases h0),fun k hk=>?_⟩;rw[r1]at hk;have hki:k=i:=by simpa using hk
  subst hki;refine⟨o1,qh h1,hkey.mono fun a1 w1 ⟨g1,hkey⟩=>⟨⟨fun hh=>(by rw[m1]at hh; cases hh),g1⟩,?_⟩⟩;refine⟨fun h0=>(by rw[r2]at h0; cases h0),fun k2 hk2=>?_⟩;rw[r2]at hk2;have hki:k2=k+1:=by simpa using hk2
  subst hki;refine⟨o2,qh h2,hkey.mono fun a2 w2 ⟨g2,hkey⟩=>⟨⟨fun hh=>(by rw[m2]at hh; cases hh),g2⟩,?_⟩⟩;refine⟨fun h0=>(by rw[r3]at h0; cases h0),fun k3 hk3=>?_⟩;rw[r3]at hk3;have hki:k3=k+2:=by simpa using hk3
  subst hki;exact⟨o3,qh h3,hkey.mono fun a3 w3 ⟨g3,hkey⟩=>⟨⟨fun hh=>(by rw[m3]at hh; cases hh),g3⟩,hkey⟩⟩
structure IncS(X:Cx) (n:Nat) (st:ASt) (oL oP o1 o2 o3:Oper) (c:Bool) (st':ASt) (W:List Nat) where
  d:Nat
  dp:Nat
  d1:Nat
  d2:Nat
  su:Nat
  sx:Nat
  t:TypeId
  kt:TypeId
  et:TypeId
  id:Nat
  te:TE
  ee:TE
  gk:GTy
  gv:GTy
  l:List (gk.D×gv.D)
  om:Option (List MapEntry×Nat)
  z:gk.D
  g:Bool
  cz:Bool
  cp:Bool
  g2:Bool
  c2:Bool
  sk:SA
  sa:SA
  sp:SA
  sy:SA
  xv:gv.D
  y:Operand
  hopL:oL.op=.lookup t (.tmp su) (.tmp sx) false
  hL:oL.guard=none/\oL.dst=some d
  hP:oP.guard=none/\oP.dst=some dp
  hop1:o1.op=.mapEntry t (.tmp su) (.tmp sx)
  h1:o1.guard=none/\o1.dst=some d1
  hop2:o2.op=.extract (.tmp d1) 1
  h2:o2.guard=none/\o2.dst=some d2
  hop3:o3.op=.entryStore t (.tmp su) (.tmp d2) y
  h3:o3.guard=none/\o3.dst=none
  hd:Nat.blt d n=true
  hdp:Nat.blt dp n=true
  hd1:Nat.blt d1 n=true
  hd2:Nat.blt d2 n=true
  nu:su≠d/\su≠dp/\su≠d1/\su≠d2
  nx:sx≠d/\sx≠dp
  pu:isPure oP.op=true/\isLoad oP.op=false
  ht:X.tt.find t=some te
  hte:te.ti.desc=.map kt et
  he:X.tt.find et=some ee
  hu:ae X st.L (.tmp su)=some (true,.c (.mref id))
  hx:ae X st.L (.tmp sx)=some (g,sk)
  hl:lk st.H id=some (.mp gk gv l om)
  hdx:dec gk sk.cells=some (cz,z,[])
  hk:skeyB X kt gk=true
  hsk:xa gk sk=true
  hz:zeroB gv ee.ti.zero=true
  hsa:vSA gv ((mget gk gv l z).getD gv.zero)=some sa
  hap:apure X ⟨(d,.a sa) :: st.L,st.H⟩ oP.op=some (cp,sp)
  hy:ae X ((d2,SV.a (.c .dead)) :: (d1,SV.a (.c .dead)) :: (dp,.a sp) :: (d,.a sa) :: st.L) y=some (g2,sy)
  hdy:dec gv sy.cells=some (c2,xv,[])
  hsy:xa gv sy=true
  hc:c=(g&&(cz&&(cp&&(g2&&c2))))
  hst:st'=⟨(d2,.a (.c .dead)) :: (d1,.a (.c .dead)) :: (dp,.a sp) :: (d,.a sa) :: st.L,zX id (.mp gk gv (mset gk gv l z xv) none) st.H⟩
  hW:W=[d2,d1,dp,d,id]
theorem xinc_spec{oL oP o1 o2 o3:Oper} {c:Bool} {W1:List Nat} (hx:xinc X n st oL oP o1 o2 o3=some (c,st',W1)):Nonempty (IncS X n st oL oP o1 o2 o3 c st' W1):=by
  unfold xinc at hx
  split at hx
  · rename_i d t su sx _ _ _ dp d1 t1 su1 sx1 _ _ _ d2 s1 _ _ _ t3 su3 s2 y _ _ _ hgP hdP
    split at hx
    · rename_i hb ht hu hxk
      simp only[Bool.and_eq_true,Bool.not_eq_true']at hb;obtain⟨⟨b1,b2,b3,b4⟩,⟨q1,q2,q3,q4,q5,q6,q7⟩,⟨n1,n2,n3,n4,n5,n6⟩,p1,p2⟩:=hb;have q1:=Nat.eq_of_beq_eq_true q1;have q2:=Nat.eq_of_beq_eq_true q2;have q3:=Nat.eq_of_beq_eq_true q3;have q4:=Nat.eq_of_beq_eq_true q4;have q5:=Nat.eq_of_beq_eq_true q5;have q6:=Nat.eq_of_beq_eq_true q6;have q7:=Nat.eq_of_beq_eq_true q7;subst q1; subst q2; subst q3; subst q4; subst q5; subst q6; subst q7
      split at hx
      · rename_i hl he
        split at hx
        · rename_i hdx hk
          simp only[Bool.and_eq_true]at hk
          split at hx
          · rename_i hsa
            split at hx
            · rename_i hap
              split at hx
              · rename_i hy
                split at hx
                · rename_i hdy hshy
                  cases hx;exact⟨⟨d,dp,_,_,_,_,_,_,_,_,_,_,_,_,_,_,_,_,_,_,_,_,_,_,_,_,_,_,rfl,⟨rfl,rfl⟩,⟨hgP,hdP⟩,rfl,⟨rfl,rfl⟩,rfl,⟨rfl,rfl⟩,rfl,⟨rfl,rfl⟩,b1,b2,b3,b4,⟨Nat.ne_of_beq_eq_false n1,Nat.ne_of_beq_eq_false n2,Nat.ne_of_beq_eq_false n3,Nat.ne_of_beq_eq_false n4⟩,⟨Nat.ne_of_beq_eq_false n5,Nat.ne_of_beq_eq_false n6⟩,⟨p1,p2⟩,ht,rfl,he,hu,hxk,hl,hdx,hk.1,hk.2.1,hk.2.2,hsa,hap,hy,hdy,hshy,rfl,rfl,rfl⟩⟩
                · cases hx
              · cases hx
            · cases hx
          · cases hx
        · cases hx
      · cases hx
    · cases hx
  · cases hx
theorem xinc_ks{oL oP o1 o2 o3:Oper} {c:Bool} {W1:List Nat} (hx:xinc X n st oL oP o1 o2 o3=some (c,st',W1)):KS W1 st st':=by
  obtain⟨I⟩:=xinc_spec hx;have key:∀ (s:ASt) (V:List Nat),s=⟨(I.d2,.a (.c .dead)) :: (I.d1,.a (.c .dead)) :: (I.dp,.a I.sp) :: (I.d,.a I.sa) :: st.L,zX I.id (.mp I.gk I.gv (mset I.gk I.gv I.l I.z I.xv) none) st.H⟩->V=[I.d2,I.d1,I.dp,I.d,I.id]->KS V st s:=fun s V hs hV=>by
    subst hs;subst hV;exact⟨(Kp.cons (Kp.cons (Kp.cons (Kp.cons (V:=[I.id]) (Kp.refl _))))),(qm (V:=[I.id]) (in1 _ _)).more fun q hq=>(zA (zA (zA (zA hq).2).2).2).2⟩
  exact key _ _ I.hst I.hW
theorem wpAnyJ.past{P:Program} {ops:Array Oper} {Q:Exit->Act->World->Prop} {S S':Nat->Array Bool->World->Prop} {e:Nat} (hS:∀ j l w,j≠e->j≠e+1->S j l w->S' j l w):∀ (fuel:Nat) (listed:Array Bool) (a:Act) (w:World),listed.getD e true=true->listed.getD (e+1) true=true->wpAnyJ P ops Q S fuel listed a w->wpAnyJ P ops Q S' fuel listed a w
  | 0,_,_,_,_,_,h=>h
  | fuel+1,listed,_,_,h1,h2,h=>⟨h.1,fun j hj=>by
    obtain⟨o,ho,hx⟩:=h.2 j hj;have hu:=(mem_ready.1 hj).1;have hne:∀ q,listed.getD q true=true->j≠q:=fun q hq hjq=>by
      subst hjq
      rcases Nat.lt_or_ge j listed.size with h' | h'
      · simp[h']at hu hq; rw[hu]at hq; cases hq
      · simp[Array.getElem?_eq_none h']at hu
    have hk:∀ q,listed.getD q true=true->(listed.setIfInBounds j true).getD q true=true:=fun q hq=>by rw[getD_set_ne true (hne q hq)]; exact hq
    exact⟨o,ho,hx.mono fun a' w' h'=>⟨hS _ _ _ (hne e h1) (hne (e+1) h2) h'.1,wpAnyJ.past hS fuel _ a' w' (hk e h1) (hk (e+1) h2) h'.2⟩⟩⟩
theorem ae_skip{L:Sl} {s d:Nat} {v:SV} (h:s≠d):ae X ((d,v) :: L) (.tmp s)=ae X L (.tmp s):=by
  unfold ae;simp only[zu,if_neg h]
theorem wp_three{P:Program} {ops:List Oper} {Q:Exit->Act->World->Prop} {S:Nat->Array Bool->World->Prop} {e fuel:Nat} {o1 o2 o3:Oper} {l:Array Bool} {a:Act} {w:World} (h1:nth ops e=some o1) (h2:nth ops (e+1)=some o2) (h3:nth ops (e+2)=some o3)
    (r1:Region.ready .any ops.toArray l=[e]) (r2:Region.ready .any ops.toArray (l.setIfInBounds e true)=[e+1]) (r3:Region.ready .any ops.toArray ((l.setIfInBounds e true).setIfInBounds (e+1) true)=[e+2])
    (h:XO P ops.toArray o1 (fun a1 w1=>S e l w1/\XO P ops.toArray o2 (fun a2 w2=>S (e+1) (l.setIfInBounds e true) w2/\XO P ops.toArray o3 (fun a3 w3=>S (e+2) ((l.setIfInBounds e true).setIfInBounds (e+1) true) w3/\wpAnyJ P ops.toArray Q S fuel (((l.setIfInBounds e true).setIfInBounds (e+1) true).setIfInBounds (e+2) true) a3 w3) a2 w2) a1 w1) a w):wpAnyJ P ops.toArray Q S (fuel+3) l a w:=by
  refine⟨fun h0=>(by rw[r1]at h0; cases h0),fun k hk=>?_⟩;rw[r1]at hk;have hki:k=e:=by simpa using hk
  subst hki;refine⟨o1,qh h1,h.mono fun a1 w1 ⟨g1,h⟩=>⟨g1,?_⟩⟩;refine⟨fun h0=>(by rw[r2]at h0; cases h0),fun q hq=>?_⟩;rw[r2]at hq;have hqi:q=k+1:=by simpa using hq
  subst hqi;refine⟨o2,qh h2,h.mono fun a2 w2 ⟨g2,h⟩=>⟨g2,?_⟩⟩;refine⟨fun h0=>(by rw[r3]at h0; cases h0),fun q hq=>?_⟩;rw[r3]at hq;have hqi:q=k+2:=by simpa using hq
  subst hqi;exact⟨o3,qh h3,h⟩
theorem no2(k:Nat):¬ (k+2=k\/k+2=k+1):=by omega
theorem set3a{l:Array Bool} {e:Nat} (h:e < l.size):(((l.setIfInBounds e true).setIfInBounds (e+1) true).setIfInBounds (e+2) true).getD e true=true:=by
  rw[getD_set_ne true (by omega),getD_set_ne true (by omega)]
  simp[h]
theorem set3b{l:Array Bool} {e:Nat} (h:e+1 < l.size):(((l.setIfInBounds e true).setIfInBounds (e+1) true).setIfInBounds (e+2) true).getD (e+1) true=true:=by
  rw[getD_set_ne true (by omega)]
  simp[h]
set_option maxHeartbeats 1000000 in
theorem ad_inc(hX:X.tt.ok X.P) {oL oP o1 o2 o3:Oper} {c:Bool} {W1:List Nat} {p e:Nat} (hiL:nth ops i=some oL) (hiP:nth ops p=some oP) (h1:nth ops e=some o1) (h2:nth ops (e+1)=some o2) (h3:nth ops (e+2)=some o3)
    (hr:incOk ops.toArray E ds.listed i p e=true) (hx:xinc X n st oL oP o1 o2 o3=some (c,st',W1)) (hc:c=true)
    (h:AD X M n ops E fuel ⟨((((ds.listed.setIfInBounds i true).setIfInBounds p true).setIfInBounds e true).setIfInBounds (e+1) true).setIfInBounds (e+2) true,false,false,ds.nocall,ds.all⟩ st' Q):AD X M n ops E (fuel+3+1+1) ds st Q:=by
  intro R W Bi B0 w00 CS F ks env B w0 H a w hM hA hD;obtain⟨I⟩:=xinc_spec hx;have hc':=I.hc.symm.trans hc;simp only[Bool.and_eq_true]at hc';obtain⟨k1,k2,k3,k4,k5⟩:=hc';unfold incOk at hr;rw[Bool.and_eq_true]at hr;obtain⟨hr1,hr2⟩:=hr;simp only[Bool.and_eq_true]at hr1 hr2;obtain⟨⟨⟨hbi,hbp⟩,hDl⟩,hall⟩:=hr1;obtain⟨⟨⟨⟨r1,r2⟩,r3⟩,⟨⟨⟨⟨ei,ep⟩,ee1⟩,ee2⟩,ee3⟩⟩,⟨⟨np1,np2⟩,nsz⟩⟩:=hr2;simp only[beq_iff_eq]at r1 r2 r3;simp only[Bool.not_eq_true']at ei ep ee1 ee2 ee3 np1 np2;have np1:=Nat.ne_of_beq_eq_false np1;have np2:=Nat.ne_of_beq_eq_false np2;have nsz:=zk nsz;have hFw:F w:=hD.F hA;have hmu:∀ {l:Array Bool} {j:Nat},E.elem j=false->qo E l j=false:=fun {l j} hj=>by unfold qo; rw[hj]; rfl
  have hK:=skeyB_ok hX I.hk;obtain⟨v0,hlook,hvd⟩:=x_look (z:=I.z) hX hK I.ht I.hte I.he I.hl hA;have hv0:SaR env B w0 I.sa v0:=(hvd (zeroB_ok I.hz)).sa I.hsa;obtain⟨vu,q1,b,hb,rfl⟩:=hA.ev I.hu rfl;obtain⟨vx,q2,q3⟩:=hA.ev I.hx k1;rw[VD.key hK.pr hK.eq.key (VD.ofSA I.hdx k2 I.hsk q3)]at q2
  let Lk:World->Prop:=fun w1=>∀ b,env I.id=.blk b->(Instr.lookup I.t (.map (some b)) (.agg (I.gk.vals I.z).toArray) false).run X.P w1=.ok v0 w1
  have hrunL:∀ w1,Lk w1->(execOp a.eval oL).run X.P w1=.ok (.value v0) w1:=fun w1 hw1=>by
    simp[execOp,I.hopL,hA.stt.ev q1,hA.stt.ev q2,hw1 b hb]
  -- the state xq the lookup and the new value
  have hA1:=hA.set (sv:=.a I.sa) hv0 (show St n (dfs ks Bi) ((I.d,v0) :: qL a) (a.put oL.dst v0) by rw[I.hL.2]; exact hA.stt.put I.d v0 (zk I.hd));obtain⟨vp,hvp,hrunP⟩:=apure_ok hX I.hap k3 hA1;have hA2:=hA1.set (sv:=.a I.sp) hvp (show St n (dfs ks Bi) ((I.dp,vp) :: qL (a.put oL.dst v0)) ((a.put oL.dst v0).put oP.dst vp) by rw[I.hP.2]; exact hA1.stt.put I.dp vp (zk I.hdp))
  -- stronger: the lookup may come xq the entry
  refine wpAnyJ.strong (S':=fun j l w=>((qo E l j=true->SH (fun k=>R k\/B0 k) w00 CS w)/\F w)/\(j=e\/j=e+1->Lk w)) (fun _ _ _ h=>h.1) _ _ _ _ ?_;have hbase:=hbi;simp only[baseOk,Bool.and_eq_true]at hbi hbp;obtain⟨⟨⟨hnbi,hnosel⟩,hfreei⟩,hreadyi⟩:=hbi;obtain⟨⟨⟨hnbp,_⟩,hfreep⟩,hreadyp⟩:=hbp;have hmon:∀ {q:Nat},noBar E q=true->∀ (j:Nat) (l:Array Bool) (w:World),(((qo E (l.setIfInBounds q true) j=true->SH (fun k=>R k\/B0 k) w00 CS w)/\F w)/\(j=e\/j=e+1->Lk w))->(((qo E l j=true->SH (fun k=>R k\/B0 k) w00 CS w)/\F w)/\(j=e\/j=e+1->Lk w)):=fun hq j l w hS=>⟨⟨fun he=>hS.1.1 (must_set hq he),hS.1.2⟩,hS.2⟩
  have hDl':∀ j∈xq ops.toArray i,ds.listed.getD j true=false/\bindB ops.toArray i (xq ops.toArray i) j=true:=fun j hj=>by
    have:=List.all_eq_true.1 hDl j hj
    simpa using this
  refine wpAnyJ.first (T:=fun w=>Lk w/\F w) (qh hiL) (Region.noSelect_spec hnosel) (xq ops.toArray i) (fun j hj=>bindB_ok (hDl' j hj).2) (hmon hnbi) _ _ _ _ (fun j hj=>(hDl' j hj).1) ?_ (by simpa using hreadyi) (.inl ⟨by simp[Region.wanted,I.hL.1],fun w1 hw1=>hrunL w1 hw1.1⟩) ⟨hlook,hFw⟩ ?_ (fun l w1 hw1=>⟨⟨fun he=>(by rw[hmu ei]at he; cases he),hw1.2⟩,fun _=>hw1.1⟩)
  · intro j oj hoj hji hun hno
    refine⟨Region.free_spec (qh hiL) hfreei j oj hoj hji hun hno,?_⟩
    have:=List.all_eq_true.1 hall j (List.mem_range.2 (Array.getElem?_eq_some_iff.1 hoj).1)
    simp only[Bool.or_eq_true,beq_iff_eq]at this
    rcases this with(((g1 | g1) | g1) | g1) | g1
    · exact absurd g1 hji
    · rw[hun]at g1; cases g1
    · exact .inr fun l w1 _ hS=>⟨hS.2 (.inl g1),hS.1.2⟩
    · exact .inr fun l w1 _ hS=>⟨hS.2 (.inr g1),hS.1.2⟩
    · exact .inl (by simpa using g1)
  refine wpAnyJ.first (T:=F) (qh hiP) (Region.noSelect_spec hnosel) [] (fun _ h=>by cases h) (hmon hnbp) _ _ _ _ (fun _ h=>by cases h) ?_ (by simpa using hreadyp) (.inl ⟨by simp[Region.wanted,I.hP.1],fun w1 _=>hrunP w1 fun h=>by rw[I.pu.2]at h; cases h⟩) hFw ?_ (fun l w1 hw1=>⟨⟨fun he=>(by rw[hmu ep]at he; cases he),hw1⟩,fun he=>he.elim (fun q=>absurd q np1) (fun q=>absurd q np2)⟩)
  · intro j oj hoj hji hun hno
    exact⟨Region.free_spec (qh hiP) hfreep j oj hoj hji hun hno,.inr fun l w1 _ hS=>hS.1.2⟩
  -- the entry
  have hu2:ae X ((I.dp,SV.a I.sp) :: (I.d,SV.a I.sa) :: st.L) (.tmp I.su)=some (true,.c (.mref I.id)):=by rw[ae_skip I.nu.2.1,ae_skip I.nu.1]; exact I.hu
  have hx2:ae X ((I.dp,SV.a I.sp) :: (I.d,SV.a I.sa) :: st.L) (.tmp I.sx)=some (I.g,I.sk):=by rw[ae_skip I.nx.2,ae_skip I.nx.1]; exact I.hx
  have hu3:ae X ((I.d2,SV.a (.c .dead)) :: (I.d1,SV.a (.c .dead)) :: (I.dp,SV.a I.sp) :: (I.d,SV.a I.sa) :: st.L) (.tmp I.su)=some (true,.c (.mref I.id)):=by rw[ae_skip I.nu.2.2.2,ae_skip I.nu.2.2.1]; exact hu2
  have hkey:=x_entry3 (st:=⟨(I.dp,SV.a I.sp) :: (I.d,SV.a I.sa) :: st.L,st.H⟩) (ops:=ops.toArray) hX hK I.hop1 I.h1 I.hd1 I.hop2 I.h2 I.hd2 I.hop3 I.h3 I.ht I.hte I.he hu2 hx2 k1 I.hdx k2 I.hsk I.hl hu3 I.hy k4 I.hdy k5 I.hsy hA2 hlook (G:=fun w1=>F w1/\Lk w1) (G3:=F) (fun w1 hk hl=>⟨hD.frz' w1 hk,hl⟩) (fun w1 hk=>hD.frz' w1 hk)
    (KK:=fun a' w'=>wpAnyJ X.P ops.toArray (fun e a w=>e=.normal/\∃ st',Q e st'/\AR X R W Bi M n st' a w) (fun j l w=>((qo E l j=true->SH (fun k=>R k\/B0 k) w00 CS w)/\F w)/\(j=e\/j=e+1->Lk w)) fuel (((((ds.listed.setIfInBounds i true).setIfInBounds p true).setIfInBounds e true).setIfInBounds (e+1) true).setIfInBounds (e+2) true) a' w') (fun a' w' H' hA'=>by
      have hA5:AI X R W Bi n ks env B w0 H' st' a' w':=by rw[I.hst]; exact hA'
      have hrest:wpAnyJ X.P ops.toArray (fun e a w=>e=.normal/\∃ st',Q e st'/\AR X R W Bi M n st' a w) (fun j l w=>(qo E l j=true->SH (fun k=>R k\/B0 k) w00 CS w)/\F w) fuel (((((ds.listed.setIfInBounds i true).setIfInBounds p true).setIfInBounds e true).setIfInBounds (e+1) true).setIfInBounds (e+2) true) a' w':=h R W Bi B0 w00 CS F ks env B w0 H' a' w' hM hA5 hD.lost;refine wpAnyJ.past (e:=e) (S:=fun j l w=>(qo E l j=true->SH (fun k=>R k\/B0 k) w00 CS w)/\F w) (fun j l w h1 h2 hS=>⟨hS,fun h=>h.elim (fun q=>absurd q h1) (fun q=>absurd q h2)⟩) _ _ _ _ ?_ ?_ hrest
      · exact set3a (by simpa using Nat.lt_of_succ_lt nsz)
      · exact set3b (by simpa using nsz))
  exact wp_three h1 h2 h3 r1 r2 r3 (hkey.mono fun a1 w1 ⟨g1,hkey⟩=>⟨⟨⟨fun hh=>(by rw[hmu ee1]at hh; cases hh),g1.1⟩,fun _=>g1.2⟩,hkey.mono fun a2 w2 ⟨g2,hkey⟩=>⟨⟨⟨fun hh=>(by rw[hmu ee2]at hh; cases hh),g2.1⟩,fun _=>g2.2⟩,hkey.mono fun a3 w3 ⟨g3,hkey⟩=>⟨⟨⟨fun hh=>(by rw[hmu ee3]at hh; cases hh),g3⟩,fun hh=>(no2 e hh).elim⟩,hkey⟩⟩⟩)
theorem qG(hX:X.tt.ok X.P) {k:DS->Gd->List Nat->List Bool->ASt->Option ρ} {r:ρ} {c0:Nat} (hkA:∀ ds G V A st,k ds G V A st=some r->∀ c∈A,c=true) (hk:∀ ds' G' V' A' st',GInv (zm ops) G' st'.L->KS V' st0 st'->k ds' G' V' A' st'=some r->AD X M n ops E c0 ds' st' Q):∀ {is:List DI} {ds:DS} {G:Gd} {V:List Nat} {A:List Bool} {st:ASt},GInv (zm ops) G st.L->KS V st0 st->evD X n T ops E is ds G V A st k=some r->AD X M n ops E (c0+cntD is) ds st Q
  | [],ds,G,V,A,st,hG,h0,h=>by
    unfold evD at h;exact hk _ _ _ _ _ hG h0 h
  | .t i m :: is,ds,G,V,A,st,hG,h0,h=>by
    have one:∀ {d:Nat} {sv:SV},KS (d :: V) st0 ⟨(d,sv) :: st.L,st.H⟩:=fun {d sv}=>⟨Kp.cons h0.1,h0.2.more fun q hq=>(zA hq).2⟩
    unfold evD at h
    split at h
    · rename_i o hi ht
      split at h
      · rename_i d hgd hdst
        split at h
        · rename_i c sa e1 hd
          have hc:=qB hkA h c List.mem_cons_self;have ih:=qG (is:=is) hX hkA hk (hG.drop d _) one h;intro R W Bi B0 w00 CS F ks env B w0 H a w hM hA hD;obtain⟨v,hv,hrun⟩:∃ v,SaR env B w0 sa v/\∀ w',(isLoad o.op=true->SH (fun k=>R k\/B k) w0 (dC ds.all m H) w')->(execOp a.eval o).run X.P w'=.ok (.value v) w':=partG hX hA (dC_ok hA.heap).1 (dC_ok hA.heap).2 hG (fun _ h=>by cases h) e1 hc;exact takeG (sv:=.a sa) hX hi ht hdst hd hA hD v hv (fun T hT=>.inl ⟨by simp[Region.wanted,hgd],fun w' hw'=>hrun w' (hT w' hw')⟩) fun a' hA' hD'=>ih R W Bi B0 w00 CS F ks env B w0 H a' w hM hA' hD'
        · cases h
      · rename_i j want d hgd hdst
        split at h
        · rename_i s hj
          split at h
          · rename_i g hg
            split at h
            · rename_i c sa e1 hd hsd
              have hc:=qB hkA h _ List.mem_cons_self;have hne:s≠d:=Nat.ne_of_beq_eq_false hsd;have hG':GInv (zm ops) ((d,j,want) :: qT (zm ops) d G) ((d,.may g sa) :: st.L):=fun e he=>by
                rcases List.mem_cons.1 he with rfl | he
                · exact⟨s,g,sa,hj,by rw[xr hne]; exact hg,by rw[zu,if_pos rfl]⟩
                · exact hG.drop d _ e he
              have ih:=qG (is:=is) hX hkA hk hG' one h;intro R W Bi B0 w00 CS F ks env B w0 H a w hM hA hD;have hw:=wanted_gval (l:=ops) hA hgd hj hg;cases g with
              | true=>
                obtain⟨v,hv,hrun⟩:∃ v,SaR env B w0 sa v/\∀ w',(isLoad o.op=true->SH (fun k=>R k\/B k) w0 (dC ds.all m H) w')->(execOp a.eval o).run X.P w'=.ok (.value v) w':=partG hX hA (dC_ok hA.heap).1 (dC_ok hA.heap).2 hG (anc_true hG ⟨s,hj,hg⟩) e1 (impB_ok hc rfl);exact takeG (sv:=.may true sa) hX hi ht hdst hd hA hD v ⟨fun _=>hv,fun h=>by cases h⟩ (fun T hT=>.inl ⟨hw,fun w' hw'=>hrun w' (hT w' hw')⟩) fun a' hA' hD'=>ih R W Bi B0 w00 CS F ks env B w0 H a' w hM hA' hD'
              | false=>exact takeG (sv:=.may false sa) hX hi ht hdst hd hA hD undef ⟨(fun h=>by cases h),fun _=>rfl⟩ (fun T hT=>.inr ⟨hw,rfl⟩) fun a' hA' hD'=>ih R W Bi B0 w00 CS F ks env B w0 H a' w hM hA' hD'
            · cases h
          · cases h
        · cases h
      · cases h
    · cases h
  | .m i :: is,ds,G,V,A,st,hG,h0,h=>by
    unfold evD at h
    split at h
    · rename_i o hi ht
      split at h
      · rename_i d xs hgd hdst hm
        split at h
        · rename_i hd
          have one:KS (d :: V) st0 ⟨(d,.tup xs) :: st.L,st.H⟩:=⟨Kp.cons h0.1,h0.2.more fun q hq=>(zA hq).2⟩
          have ih:=qG (is:=is) hX hkA hk (hG.drop d _) one h;intro R W Bi B0 w00 CS F ks env B w0 H a w hM hA hD;obtain⟨v,h1,h2⟩:=tupMv_ok hA hm;exact takeG (sv:=.tup xs) hX hi ht hdst hd hA hD v h1 (fun T hT=>.inl ⟨by simp[Region.wanted,hgd],fun w' hw'=>h2 w'⟩) fun a' hA' hD'=>ih R W Bi B0 w00 CS F ks env B w0 H a' w hM hA' hD'
        · cases h
      · cases h
    · cases h
  | .s i :: is,ds,G,V,A,st,hG,h0,h=>by
    unfold evD at h
    split at h
    · rename_i o hi hr hE
      split at h
      · rename_i hgd
        split at h
        · rename_i c st' W e1
          have hc:=qB hkA h c List.mem_cons_self;exact ad_solo hr (ado_sk hi (xstep_ok hX e1 hc) hE rfl (qG (is:=is) hX hkA hk GInv.nil (h0.trans (xstep_ks e1)) h))
        · split at h
          · rename_i c st' e1
            have hc:=qB hkA h c List.mem_cons_self;exact ad_solo hr (ado_step hX hi hE e1 hc rfl (qG (is:=is) hX hkA hk GInv.nil (h0.trans (astep_ks hgd e1)) h))
          · cases h
      · cases h
    · cases h
  | .k i :: is,ds,G,V,A,st,hG,h0,h=>by
    unfold evD at h
    split at h
    · rename_i o hi hr hpre
      split at h
      · rename_i hgd
        split at h
        · rename_i d c sa hdst e1
          split at h
          · rename_i hd
            have one:KS (d :: V) st0 ⟨(d,.a sa) :: st.L,st.H⟩:=⟨Kp.cons h0.1,h0.2.more fun q hq=>(zA hq).2⟩
            have hc:=qB hkA h c List.mem_cons_self;refine ad_solo hr (ado_sc (pre':=true) (kp:=fun _=>true) hi (PureOk.scK (fun hA=>xpure_ok hX e1 hc hA) ⟨hgd,hdst⟩ hd) (fun _=>⟨hpre,fun _ _=>rfl⟩) (by simp) ?_);exact qG (is:=is) hX hkA hk GInv.nil one h
          · cases h
        · split at h
          · rename_i c st' hkk e1
            have hc:=qB hkA h c List.mem_cons_self;cases hal:ds.all with
            | true=>
              rw[hal,cond_true]at hkk;refine ad_solo hr (ado_keepA hX hi (by rw[hpre,Bool.true_and]; exact hkk) e1 hc rfl ?_);exact qG (is:=is) hX hkA hk GInv.nil (h0.trans (astep_ks hgd e1)) h
            | false=>
              rw[hal,cond_false]at hkk;simp only[Bool.and_eq_true]at hkk;refine ad_solo hr (ado_keep hX hi (by rw[hpre,hkk.1,hkk.2,hal]; rfl) e1 hc rfl ?_);exact qG (is:=is) hX hkA hk GInv.nil (h0.trans (astep_ks hgd e1)) h
          · cases h
        · cases h
      · cases h
    · cases h
  | .q i :: is,ds,G,V,A,st,hG,h0,h=>by
    unfold evD at h
    split at h
    · rename_i o hi ht
      split at h
      · rename_i d c sa hgd hdst e1
        split at h
        · rename_i hd
          have one:KS (d :: V) st0 ⟨(d,.a sa) :: st.L,st.H⟩:=⟨Kp.cons h0.1,h0.2.more fun q hq=>(zA hq).2⟩
          have hc:=qB hkA h c List.mem_cons_self;have ih:=qG (is:=is) hX hkA hk (hG.drop d _) one h;intro R W Bi B0 w00 CS F ks env B w0 H a w hM hA hD;obtain⟨v,hv,hrun⟩:=partP (o:=o) hA (dC_ok hA.heap).1 (dC_ok hA.heap).2 (xldf_ok hX e1 hc);exact takeG (sv:=.a sa) hX hi ht hdst hd hA hD v hv (fun T hT=>.inl ⟨by simp[Region.wanted,hgd],fun w' hw'=>hrun w' (hT w' hw')⟩) fun a' hA' hD'=>ih R W Bi B0 w00 CS F ks env B w0 H a' w hM hA' hD'
        · cases h
      · cases h
    · cases h
  | .u i m :: is,ds,G,V,A,st,hG,h0,h=>by
    unfold evD at h
    split at h
    · rename_i o hi hr hE
      split at h
      · rename_i c st' W e1
        have hc:=qB hkA h c List.mem_cons_self;exact ad_solo hr (ado_sk hi (tstep_ok hX e1 hc) hE rfl (qG (is:=is) hX hkA hk GInv.nil (h0.trans (tstep_ks e1)) h))
      · cases h
    · cases h
  | .v i :: is,ds,G,V,A,st,hG,h0,h=>by
    unfold evD at h
    split at h
    · rename_i o1 o2 o3 h1 h2 h3 hr hm
      split at h
      · rename_i c st' W1 e1
        have hc:=qB hkA h c List.mem_cons_self;exact ad_ent hX h1 h2 h3 hr hm e1 hc (qG (is:=is) hX hkA hk GInv.nil (h0.trans (xent_ks e1)) h)
      · cases h
    · cases h
  | .w i p e :: is,ds,G,V,A,st,hG,h0,h=>by
    unfold evD at h
    split at h
    · rename_i oL oP o1 o2 o3 hL hP h1 h2 h3 hr
      split at h
      · rename_i c st' W1 e1
        have hc:=qB hkA h c List.mem_cons_self;exact ad_inc hX hL hP h1 h2 h3 hr e1 hc (qG (is:=is) hX hkA hk GInv.nil (h0.trans (xinc_ks e1)) h)
      · cases h
    · cases h
  | .e i :: is,ds,G,V,A,st,hG,h0,h=>by
    unfold evD at h
    split at h
    · rename_i o hi hr hE
      split at h
      · rename_i d c sa hgd hdst e1
        split at h
        · rename_i hd
          have one:KS (d :: V) st0 ⟨(d,.a sa) :: st.L,st.H⟩:=⟨Kp.cons h0.1,h0.2.more fun q hq=>(zA hq).2⟩
          have hc:=qB hkA h c List.mem_cons_self;exact ad_solo hr (ado_sc (pre':=ds.pre) hi (xfrz_ok hX hgd hdst hd e1 hc) (fun hp=>⟨hp,fun _ _=>rfl⟩) hE (qG (is:=is) hX hkA hk GInv.nil one h))
        · cases h
      · cases h
    · cases h
  | .c i ps :: is,ds,G,V,A,st,hG,h0,h=>by
    unfold evD at h
    split at h
    · rename_i o hi hr hE
      obtain⟨_,st2,V2,h1,h2,h3⟩:=evC_ok h0 h;exact ad_solo hr (ado_sc hi h1 kpc_pre hE (qG (is:=is) hX hkA hk GInv.nil h2 h3))
    · cases h
  | .g i :: is,ds,G,V,A,st,hG,h0,h=>by
    unfold evD at h
    split at h
    · rename_i o hi hr hE
      obtain⟨d,g,sa,G',q0,q1,q2,q3⟩:=evGC_ok hG h0 h;exact ad_solo hr (ado_sg hi q3 hE (qG (is:=is) hX hkA hk q0 q1 q2))
    · cases h
  | .z id :: is,ds,G,V,A,st,hG,h0,h=>by
    unfold evD at h
    split at h
    · rename_i st' e1
      have hks:KS [] st st':=by
        unfold frz at e1
        split at e1
        · cases e1; exact⟨qf _ _ _,qu _ _ _⟩
        · cases e1
      exact ad_frz id e1 (qG (is:=is) hX hkA hk GInv.nil (h0.trans hks) h)
    · cases h
  | .f :: is,ds,G,V,A,st,hG,h0,h=>by
    unfold evD at h
    split at h
    · rename_i e1
      exact ad_fresh e1 (qG (is:=is) hX hkA hk hG h0 h)
    · cases h
inductive DT where
  | f (l:List DI)
  | b (l:List DI) (i j:Nat) (ps qs:Ps) (x y:DT)
def cntT:DT->Nat
  | .f l=>cntD l
  | .b l _ _ _ _ x _=>cntT x+1+cntD l
open Classical in
noncomputable def bth {ρ:Type} (a b:Option ρ):Option ρ:=if a=b then a else none
theorem qC{ρ:Type} (a:Option ρ):bth a a=a:=if_pos rfl
theorem bth_ok{ρ:Type} {a b:Option ρ} {r:ρ} (h:bth a b=some r):a=some r/\b=some r:=by
  unfold bth at h
  split at h
  · rename_i e
    exact⟨h,e ▸ h⟩
  · cases h
def finD(ops:List Oper) (k:List Nat->ASt->Option ρ):DS->Gd->List Nat->List Bool->ASt->Option ρ:=fun ds _ V A st=>match Region.ready .any ops.toArray ds.listed with
  | []=>gd (conjR A true) (k V st)
  | _=>none
theorem xw{α β:Type} {c:Bool} {a:Option α} {f:α->Option β}:Option.bind a (fun r=>gd c (f r))=gd c (Option.bind a f):=by
  cases c with
  | true=>rfl
  | false=>
    cases a with
    | none=>rfl
    | some x=>rfl
theorem gd_and{α:Type} {a b:Bool} {k:Option α}:gd (a&&b) k=gd a (gd b k):=by cases a<;>rfl
theorem zl{α:Type} {k:Option α}:gd true k=k:=rfl
theorem zn{α:Type} {k:Option α}:gd false k=none:=rfl
theorem zD{α:Type} {c:Bool}:gd c (none:Option α)=none:=by cases c<;>rfl
theorem zE{α:Type} {a:Bool} {k y:Option α} (h1:a=true->k=y) (h2:a=false->none=y):gd a k=y:=by
  cases a with
  | true=>exact h1 rfl
  | false=>exact h2 rfl
theorem bth_eq{ρ:Type} {x y:Option ρ} (h:x=y):bth x y=x:=by rw[h]; exact qC _
def evOne(X:Cx) (n:Nat) (T:List (CT X)) (ops:List Oper) (E:List Nat) (i:Nat) (ps:Ps) (o:Oper) (ds:DS) (V:List Nat) (A:List Bool) (st:ASt) (k:DS->Gd->List Nat->List Bool->ASt->Option ρ):Option ρ:=match o.guard with
  | none=>match qo E ds.listed i,ds.pre with
    | false,_=>match xstep X n st o with
      | some (c,st',W)=>k ⟨ds.listed.setIfInBounds i true,false,false,ds.nocall,ds.all⟩ [] (W++V) (c :: A) st'
      | none=>match astep X n (zm ops) st o with
        | .ok c st'=>k ⟨ds.listed.setIfInBounds i true,false,false,ds.nocall,ds.all⟩ [] (touchO X st.L o++V) (c :: A) st'
        | .stop=>evC X n T ps V A st (fun G' V' A' st'=>k ⟨ds.listed.setIfInBounds i true,false,false,false,ds.all⟩ G' V' A' st') o
    | true,true=>match o.dst,xpure X st o.op with
      | some d,some (c,sa)=>match Nat.blt d n with
        | true=>k ⟨ds.listed.setIfInBounds i true,false,true,false,ds.all⟩ [] (d :: V) (c :: A) ⟨(d,.a sa) :: st.L,st.H⟩
        | false=>none
      | _,none=>match cond ds.all (kindNew o.op&&noKeyD o st.H) (kindKeep o.op&&keepD o st.H),astep X n (zm ops) st o with
        | true,.ok c st'=>k ⟨ds.listed.setIfInBounds i true,false,true,ds.nocall,ds.all⟩ [] (touchO X st.L o++V) (c :: A) st'
        | _,.stop=>match allNew st.H ps || (!ds.all&&rowsPs st.H ps)with
          | true=>evC X n T ps V A st (fun G' V' A' st'=>k ⟨ds.listed.setIfInBounds i true,false,true,false,ds.all⟩ G' V' A' st') o
          | false=>none
        | _,_=>none
      | none,some _=>none
    | true,false=>none
  | some _=>none
noncomputable def evT (X:Cx) (n:Nat) (T:List (CT X)) (ops:List Oper) (E:List Nat):DT->DS->Gd->List Nat->List Bool->ASt->(List Nat->ASt->Option ρ)->Option ρ
  | .f l,ds,G,V,A,st,k=>evD X n T ops E l ds G V A st (finD ops k)
  | .b l i j ps qs x y,ds,G,V,A,st,k=>evD X n T ops E l ds G V A st fun ds _ V A st=>match nth ops i,nth ops j,Region.ready .any ops.toArray ds.listed == [i,j],Nat.beq (cntT x) (cntT y)with
    | some oi,some oj,true,true=>gd (conjR A true) (bth (evOne X n T ops E i ps oi ds V [] st fun ds G V A st=>evT X n T ops E x ds G V A st k) (evOne X n T ops E j qs oj ds V [] st fun ds G V A st=>evT X n T ops E y ds G V A st k))
    | _,_,_,_=>none
theorem evOne_ok{ps:Ps} (hX:X.tt.ok X.P) {k:DS->Gd->List Nat->List Bool->ASt->Option ρ} {r:ρ} {c0:Nat} (hkA:∀ ds G V A st,k ds G V A st=some r->∀ c∈A,c=true) (hk:∀ ds' G' V' A' st',GInv (zm ops) G' st'.L->KS V' st0 st'->k ds' G' V' A' st'=some r->AD X M n ops E c0 ds' st' Q) (hi:nth ops i=some o) (h0:KS V st0 st) (h:evOne X n T ops E i ps o ds V A st k=some r):ADo X M n ops E c0 ds st Q i:=by
  unfold evOne at h
  split at h
  · rename_i hgd
    split at h
    · rename_i hE
      split at h
      · rename_i c st' W e1
        exact ado_sk hi (xstep_ok hX e1 (hkA _ _ _ _ _ h c List.mem_cons_self)) hE rfl (hk _ _ _ _ _ GInv.nil (h0.trans (xstep_ks e1)) h)
      · split at h
        · rename_i c st' e1
          exact ado_step hX hi hE e1 (hkA _ _ _ _ _ h c List.mem_cons_self) rfl (hk _ _ _ _ _ GInv.nil (h0.trans (astep_ks hgd e1)) h)
        · obtain⟨_,st2,V2,h1,h2,h3⟩:=evC_ok h0 h
          exact ado_sc (pre':=false) hi h1 (fun h=>by cases h) (by rw[hE]; rfl) (hk _ _ _ _ _ GInv.nil h2 h3)
    · rename_i hE hpre
      split at h
      · rename_i d c sa hdst e1
        split at h
        · rename_i hd
          have one:KS (d :: V) st0 ⟨(d,.a sa) :: st.L,st.H⟩:=⟨Kp.cons h0.1,h0.2.more fun q hq=>(zA hq).2⟩
          exact ado_sc (pre':=true) (kp:=fun _=>true) hi (PureOk.scK (fun hA=>xpure_ok hX e1 (hkA _ _ _ _ _ h c List.mem_cons_self) hA) ⟨hgd,hdst⟩ hd) (fun _=>⟨hpre,fun _ _=>rfl⟩) (by simp) (hk _ _ _ _ _ GInv.nil one h)
        · cases h
      · split at h
        · rename_i c st' hkk e1
          have hc:=hkA _ _ _ _ _ h c List.mem_cons_self;have hn:=hk _ _ _ _ _ GInv.nil (h0.trans (astep_ks hgd e1)) h;cases hal:ds.all with
          | true=>
            rw[hal,cond_true]at hkk;exact ado_keepA hX hi (by rw[hpre,Bool.true_and]; exact hkk) e1 hc rfl hn
          | false=>
            rw[hal,cond_false]at hkk;simp only[Bool.and_eq_true]at hkk;exact ado_keep hX hi (by rw[hpre,hkk.1,hkk.2,hal]; rfl) e1 hc rfl hn
        · split at h
          · rename_i hps
            obtain⟨_,st2,V2,h1,h2,h3⟩:=evC_ok h0 h;exact ado_sc (pre':=true) hi h1 (fun _=>kpc_pre (by rw[hpre,hps]; rfl)) (by simp) (hk _ _ _ _ _ GInv.nil h2 h3)
          · cases h
        · cases h
      · cases h
    · cases h
  · cases h
theorem evT_A{k:List Nat->ASt->Option ρ}:∀ {t:DT} {ds:DS} {G:Gd} {V:List Nat} {A:List Bool} {st:ASt},evT X n T ops E t ds G V A st k=some r->∀ c∈A,c=true
  | .f l,ds,G,V,A,st,h=>qB (fun ds G V A st h=>by
      unfold finD at h
      split at h
      · exact(zZ (zI h).1).1
      · cases h) h
  | .b l i j ps qs x y,ds,G,V,A,st,h=>qB (fun ds G V A st h=>by
      split at h
      · exact(zZ (zI h).1).1
      · cases h) h
theorem evT_ok(hX:X.tt.ok X.P) {k:List Nat->ASt->Option ρ} {r:ρ} (hk:∀ V' st',KS V' st0 st'->k V' st'=some r->Q .normal st'):∀ {t:DT} {ds:DS} {G:Gd} {V:List Nat} {A:List Bool} {st:ASt},GInv (zm ops) G st.L->KS V st0 st->evT X n T ops E t ds G V A st k=some r->AD X M n ops E (cntT t) ds st Q
  | .f l,ds,G,V,A,st,hG,h0,h=>by
    have:=qG (c0:=0) (is:=l) (Q:=Q) (M:=M) (st0:=st0) hX (k:=finD ops k) (r:=r) (fun ds G V A st h=>by
      unfold finD at h
      split at h
      · exact(zZ (zI h).1).1
      · cases h) (fun ds G V A st hG h0 h=>by
      unfold finD at h
      split at h
      · rename_i e
        exact ad_done e (hk V st h0 (zI h).2)
      · cases h) hG h0 h
    rwa [Nat.zero_add]at this
  | .b l i j ps qs x y,ds,G,V,A,st,hG,h0,h=>by
    refine qG (c0:=cntT x+1) (is:=l) hX (k:=_) (r:=r) (fun ds G V A st h=>?_) (fun ds G V A st hG h0 h=>?_) hG h0 h
    · split at h
      · exact(zZ (zI h).1).1
      · cases h
    · split at h
      · rename_i oi oj hi hj hr hc
        obtain⟨h1,h2⟩:=bth_ok (zI h).2;refine ad_ready (beq_iff_eq.1 hr) (ads_cons (evOne_ok hX (fun _ _ _ _ _ h=>evT_A h) (fun ds G V A st hG h0 h=>evT_ok hX hk hG h0 h) hi h0 h1) (ads_cons (evOne_ok hX (fun _ _ _ _ _ h=>evT_A h) (fun ds G V A st hG h0 h=>?_) hj h0 h2) ads_nil));rw[Nat.eq_of_beq_eq_true hc];exact evT_ok hX hk hG h0 h
      · cases h
end
end

def StabE{β:Type} (J:β->(Nat->Prop)->World->Prop):Prop:=∀ l C W W',J l C W->KO C W W'->J l C W'
structure Grow(B C C':Nat->Prop) (W W':World):Prop where
 keep:KO (fun k=>B k\/(k < W.heap.size/\¬ C k)) W W'
 new:∀ k,C' k->C k\/W.heap.size<=k\/B k
structure Adopt(C Bc B2:Nat->Prop) (W:World):Prop where
 sub:∀ k,Bc k->B2 k
 new:∀ k,B2 k->Bc k\/(¬ C k/\∃ cs e fr,W.heap[k]?=some (.cells cs e fr))
def StabJ{β:Type} (J:β->(Nat->Prop)->(Nat->Prop)->World->Prop):Prop:=∀ l C Bc W W',J l C Bc W->KO C W W'->J l C Bc W'
def SeqE{α:Type} (P:Program) (g:Nat) (lb:List Value) (B:Nat->Prop) (w0:World) (l:List α) (enc:(Nat->Prop)->World->α->List Value->Prop):Prop:=
 ∀ (id:Nat) (J:List α->(Nat->Prop)->(Nat->Prop)->World->Prop) (Jx:Unit->(Nat->Prop)->World->Prop) (W:World),KO B w0 W->(∀ k,B k->k < w0.heap.size)->StabJ J->StabE Jx->(∀ r C Bc W,J r C Bc W->∀ k,C k->k < W.heap.size)->(∀ r C W,Jx r C W->∀ k,C k->k < W.heap.size)->(∀ r C Bc W,J r C Bc W->∀ k,Bc k->C k) ->
  (∀ x rest C Bc B2 W1 vs,J (x :: rest) C Bc W1->Adopt C Bc B2 W1->enc B2 W1 x vs->YieldAt Fence.wide 1 P id vs.toArray W1 fun e W'=>
   (e=.returned (.bool true)/\∃ C',J rest C' B2 W'/\Grow B2 C C' W1 W')\/(e=.returned (.bool false)/\∃ C',Jx () C' W'/\Grow B2 C C' W1 W')) ->
  ∀ C,J l C B W->CallsIn Fence.wide 1 P g (#[.func (.yield id) #[] #[]]++lb.toArray) W fun e W'=>(∃ v,e=.returned v)/\∃ C',(∃ Bc,J [] C' Bc W')\/Jx () C' W'
def postE{α:Type} (B:Nat->Prop) (I:List α->(Nat->Prop)->(Nat->Prop)->World->Prop) (Ix:Code->(Nat->Prop)->World->Prop) (rest:List α) (C:Nat->Prop) (W:World):Exit->Act->World->Prop
 | .normal,_,W'=>∃ C',I rest C' B W'/\Grow B C C' W W'
 | .ret,_,W'=>∃ C',Ix .ret C' W'/\Grow B C C' W W'
 | .exit id,_,W'=>∃ C',Ix (.exit id) C' W'/\Grow B C C' W W'
 | _,_,_=>False
theorem ko_put{C:Nat->Prop} {W:World} {k:Nat} {o:Obj} (h:¬ C k):KO C W (W.putObj k o):=⟨rfl,rfl,rfl,by simp,fun q hq=>World.putObj_heap_other fun e=>h (e ▸ hq)⟩
theorem wpIn_rangeE{α:Type} {P:Program} {g:Operand} {ps:Array Tmp} {assign body:Code} {Q:Exit->Act->World->Prop} {a:Act} {w:World} {gf:Nat} {lb:List Value} {B:Nat->Prop} {w0:World} {l:List α} {enc:(Nat->Prop)->World->α->List Value->Prop}
  (hg:a.eval g=.func (.func gf) #[] lb.toArray) (eg:∀ args w,(callFunc gf args).run P w=.ok (.enter gf args) w)
  (hseq:SeqE P gf lb B w0 l enc) (hb0:KO B w0 w) (hB:∀ k,B k->k < w0.heap.size) (hps:∀ B2 W x vs,enc B2 W x vs->vs.length=ps.size) (hup:∀ B2 W W' x vs,KO B2 W W'->enc B2 W x vs->enc B2 W' x vs)
  (I:List α->(Nat->Prop)->(Nat->Prop)->World->Prop) (Ix:Code->(Nat->Prop)->World->Prop) (hI:StabJ I) (hIx:StabE Ix) (hlt:∀ r C Bc W,I r C Bc W->∀ k,C k->k < W.heap.size) (hbc:∀ r C Bc W,I r C Bc W->∀ k,Bc k->C k) (hltx:∀ r C W,Ix r C W->∀ k,C k->k < W.heap.size) (C0:Nat->Prop) (h0:I l C0 B w)
  (a₁:List Value->Act)
  (hassign:∀ (id:Nat) (x:α) (vs:List Value) (W:World) (K:Act->World->Prop),vs.length=ps.size->K (a₁ vs) W ->
   assign.wpIn (Fence.wide.inRound id) 1 P (Exit.then K (fun _ _ _=>False)) { tmps:=(ps.zip vs.toArray).foldl (fun t (p,v)=>t.setIfInBounds p v) a.tmps,defers:=[] } W)
  (hbody:∀ (id:Nat) (x:α) (rest:List α) (vs:List Value) (C Bc B2:Nat->Prop) (W:World),I (x :: rest) C Bc W->Adopt C Bc B2 W->enc B2 W x vs->body.wpIn (Fence.wide.inRound id) 1 P (postE B2 I Ix rest C W) (a₁ vs) W)
  (hdone:∀ (D:Nat) (C Bc:Nat->Prop) (W:World),w.heap.size<=D->¬ C D->I [] C Bc W->W.heap[D]?=some (.deferred (some []))->Q .normal { a with defers:={ target:=.collected D,args:=#[] } :: a.defers } W)
  (hstop:∀ (D:Nat) (c:Code) (C:Nat->Prop) (W:World),w.heap.size<=D->¬ C D->Ix c C W->W.heap[D]?=some (.deferred (some []))->c.wpIn Fence.wide 2 P Q { a with defers:={ target:=.collected D,args:=#[] } :: a.defers } W) :
  (Code.rangeFunc g ps assign body).wpIn Fence.wide 2 P Q a w:=by
 refine wpIn_rangeFunc ?_;intro fn hfn;have hro:Fence.wide.round=none:=rfl;rw[hro];obtain⟨rec,hrec⟩:∃ rec:LoopState->Option Code->Loop,rec=fun st pe=>{ state:=st,pending:=pe,fn,tmps:=a.tmps,params:=ps,assign,body,defers:=w.heap.size }:=⟨_,rfl⟩
 obtain⟨W1,hW1⟩:∃ W1,(w.alloc (.deferred (some []))).alloc (.loop (rec .ready none))=W1:=⟨_,rfl⟩
 have hL1:W1.heap[w.heap.size+1]?=some (.loop (rec .ready none)):=by
  rw[<- hW1]; have:=World.alloc_heap_new (w.alloc (.deferred (some []))) (.loop (rec .ready none)); rwa [World.size_alloc]at this
 have hK1:W1.heap[w.heap.size]?=some (.deferred (some [])):=by
  rw[<- hW1]; exact(Below.heap_alloc _ _ _ (by simp)).trans (World.alloc_heap_new w _)
 have hs1:W1.heap.size=w.heap.size+2:=by rw[<- hW1]; simp
 have hko:∀ {C:Nat->Prop},(∀ k,C k->k < w.heap.size)->KO C w W1:=fun {C} hC=>by
  rw[<- hW1];exact⟨rfl,rfl,rfl,by simp; omega,fun k hk=>by
   have:=hC k hk
   exact(Below.heap_alloc _ _ _ (by simp; omega)).trans (Below.heap_alloc _ _ _ this)⟩
 have hBw:∀ k,B k->k < w.heap.size:=fun k hk=>Nat.lt_of_lt_of_le (hB k hk) hb0.size
 have hC0:=hlt _ _ _ _ h0;have hI1:I l C0 B W1:=hI _ _ _ _ _ h0 (hko hC0)
 let D:=w.heap.size
 let id:=w.heap.size+1
 let J:List α->(Nat->Prop)->(Nat->Prop)->World->Prop:=fun r C Bc W=>∃ C0,(∀ k,C k ↔ C0 k\/k=D\/k=id)/\¬ C0 D/\¬ C0 id/\I r C0 Bc W/\W.heap[id]?=some (.loop (rec .ready none))/\W.heap[D]?=some (.deferred (some []))
 let Jx:Unit->(Nat->Prop)->World->Prop:=fun _ C W=>∃ C0 c,(∀ k,C k ↔ C0 k\/k=D\/k=id)/\¬ C0 D/\¬ C0 id/\Ix c C0 W/\W.heap[id]?=some (.loop (rec .done (some c)))/\W.heap[D]?=some (.deferred (some []))
 have hsub:∀ {C C0:Nat->Prop} {W W':World},(∀ k,C k ↔ C0 k\/k=D\/k=id)->KO C W W'->KO C0 W W':=fun hC h=>⟨h.os,h.tape,h.output,h.size,fun k hk=>h.block k ((hC k).2 (.inl hk))⟩
 refine⟨w.heap.size+1,[{ target:=.collected w.heap.size,args:=#[] }],W1,{ target:=.fn (.func gf) lb.toArray,args:=#[.func (.yield (w.heap.size+1)) #[] #[]] },W1,gf,
  #[.func (.yield (w.heap.size+1)) #[] #[]]++lb.toArray,W1,?_,?_,?_,?_,fun _=>by omega,?_⟩
 ·rw[<- hW1,hrec]; exact run_enterLoop_outer _ _ _ _ _
 ·simp only[resolve,hg]
  simp[go_sem]
 ·intro f' hf'
  exact trivial
 ·simp[invoke,go_sem,eg]
 ·refine(hseq id J Jx W1 (hb0.trans (hko hBw)) hB ?_ ?_ ?_ ?_ ?_ ?_ (fun k=>C0 k\/k=D\/k=id) ⟨C0,fun k=>Iff.rfl,fun h=>by have:=hC0 _ h; simp only[D]at this; omega,fun h=>by have:=hC0 _ h; simp only[id]at this; omega,hI1,hL1,hK1⟩).mono ?_
  ·rintro r C Bc W W' ⟨C1,hC,h1,h2,h3,h4,h5⟩ hk
   exact⟨C1,hC,h1,h2,hI _ _ _ _ _ h3 (hsub hC hk),(hk.block _ ((hC _).2 (.inr (.inr rfl)))).trans h4,(hk.block _ ((hC _).2 (.inr (.inl rfl)))).trans h5⟩
  ·rintro r C W W' ⟨C1,c,hC,h1,h2,h3,h4,h5⟩ hk
   exact⟨C1,c,hC,h1,h2,hIx _ _ _ _ h3 (hsub hC hk),(hk.block _ ((hC _).2 (.inr (.inr rfl)))).trans h4,(hk.block _ ((hC _).2 (.inr (.inl rfl)))).trans h5⟩
  ·rintro r C Bc W ⟨C1,hC,h1,h2,h3,h4,h5⟩ k hk
   rcases (hC k).1 hk with h | h | h
   ·exact hlt _ _ _ _ h3 k h
   ·subst h; exact(Array.getElem?_eq_some_iff.1 h5).1
   ·subst h; exact(Array.getElem?_eq_some_iff.1 h4).1
  ·rintro r C W ⟨C1,c,hC,h1,h2,h3,h4,h5⟩ k hk
   rcases (hC k).1 hk with h | h | h
   ·exact hltx _ _ _ h3 k h
   ·subst h; exact(Array.getElem?_eq_some_iff.1 h5).1
   ·subst h; exact(Array.getElem?_eq_some_iff.1 h4).1
  ·rintro r C Bc W ⟨C1,hC,h1,h2,h3,h4,h5⟩ k hk
   exact(hC k).2 (.inl (hbc _ _ _ _ h3 k hk))
  ·rintro x rest C Bc B2 W vs ⟨C1,hC,hcD,hcI,hi,hl,hk⟩ had henc
   have hlt1:id < W.heap.size:=(Array.getElem?_eq_some_iff.1 hl).1;have hy:=run_yield (P:=P) (args:=vs.toArray) hl (by rw[hrec]; simp[hps _ _ x vs henc]);rw[hrec]at hy;refine⟨fn,_,assign,body,hy,roundIn_of_wpIn hfn (hassign _ x vs W _ (hps _ _ x vs henc) ?_)⟩
   clear hy
   refine⟨_,run_beginRound hl (by rw[hrec]),?_⟩;have hl2:(W.putObj id (.loop { rec .ready none with state:=.busy })).heap[id]?=some (.loop { rec .ready none with state:=.busy }):=World.putObj_heap_same hlt1;have hk2:(W.putObj id (.loop { rec .ready none with state:=.busy })).heap[D]?=some (.deferred (some [])):=(World.putObj_heap_other (by simp only[D,id]; omega)).trans hk;have hBid:∀ k,B2 k->k≠id/\k≠D:=fun k hk=>by
    rcases had.new k hk with h | ⟨h,_⟩
    ·have:=hbc _ _ _ _ hi k h
     exact⟨fun e=>hcI (e ▸ this),fun e=>hcD (e ▸ this)⟩
    ·exact⟨fun e=>h ((hC k).2 (.inr (.inr e))),fun e=>h ((hC k).2 (.inr (.inl e)))⟩
   have had':Adopt C1 Bc B2 (W.putObj id (.loop { rec .ready none with state:=.busy })):=⟨had.sub,fun k hk=>(had.new k hk).imp_right fun⟨h,cs,e,fr,h2⟩=>⟨fun h'=>h ((hC k).2 (.inl h')),cs,e,fr,(World.putObj_heap_other (hBid k hk).1).trans h2⟩⟩
   have hiW:=hI _ _ _ _ _ hi (ko_put (W:=W) (o:=.loop { rec .ready none with state:=.busy }) hcI);refine wpIn_mono (hbody _ x rest vs C1 Bc B2 _ hiW had' (hup _ _ _ _ _ (ko_put fun h=>(hBid _ h).1 rfl) henc)) ?_;have hKg:∀ {C':Nat->Prop} {W3:World},Grow B2 C1 C' (W.putObj id (.loop { rec .ready none with state:=.busy })) W3->∀ (jump:Option Code),
     (Instr.endRound id jump).run P W3=.ok (.bool jump.isNone) (W3.putObj id (.loop (rec (if jump.isNone then .ready else .done) jump))) /\
     (W3.putObj id (.loop (rec (if jump.isNone then .ready else .done) jump))).heap[id]?=some (.loop (rec (if jump.isNone then .ready else .done) jump)) /\
     (W3.putObj id (.loop (rec (if jump.isNone then .ready else .done) jump))).heap[D]?=some (.deferred (some []))/\¬ C' D/\¬ C' id/\Grow B2 C (fun k=>C' k\/k=D\/k=id) W (W3.putObj id (.loop (rec (if jump.isNone then .ready else .done) jump))):=fun {C' W3} hgr jump=>by
    have hid:id < (W.putObj id (.loop { rec .ready none with state:=.busy })).heap.size/\¬ C1 id:=⟨by simpa using hlt1,hcI⟩
    have hDD:D < (W.putObj id (.loop { rec .ready none with state:=.busy })).heap.size/\¬ C1 D:=⟨by simp only[D,id]at hlt1 ⊢; simp; omega,hcD⟩
    have hl3:=(hgr.keep.block id (.inr hid)).trans hl2;have hk3:=(hgr.keep.block D (.inr hDD)).trans hk2;have he:=run_endRound (P:=P) jump hl3;rw[hrec]at he ⊢;refine⟨he,World.putObj_heap_same (Array.getElem?_eq_some_iff.1 hl3).1,(World.putObj_heap_other (by simp only[D,id]; omega)).trans hk3,fun h=>?_,fun h=>?_,⟨⟨?_,?_,?_,?_,fun k hk=>?_⟩,fun k hk=>?_⟩⟩
    ·rcases hgr.new _ h with h' | h' | h'
     ·exact hcD h'
     ·have:=hDD.1; omega
     ·exact(hBid _ h').2 rfl
    ·rcases hgr.new _ h with h' | h' | h'
     ·exact hcI h'
     ·have:=hid.1; omega
     ·exact(hBid _ h').1 rfl
    ·exact hgr.keep.os
    ·exact hgr.keep.tape
    ·exact hgr.keep.output
    ·have:=hgr.keep.size; simpa using this
    ·have hne:k≠id:=by
      rcases hk with hk | hk
      ·exact(hBid k hk).1
      ·exact fun e=>hk.2 ((hC k).2 (.inr (.inr e)))
     refine(World.putObj_heap_other hne).trans ((hgr.keep.block k ?_).trans (World.putObj_heap_other hne))
     rcases hk with hk | hk
     ·exact .inl hk
     ·exact .inr ⟨by simpa using hk.1,fun h=>hk.2 ((hC k).2 (.inl h))⟩
    ·rcases hk with hk | hk
     ·rcases hgr.new k hk with h' | h' | h'
      ·exact .inl ((hC k).2 (.inl h'))
      ·exact .inr (.inl (by simpa using h'))
      ·exact .inr (.inr h')
     ·exact .inl ((hC k).2 (.inr hk))
   rintro e a3 W3 hp;cases e with
   | normal=>
    obtain⟨C',hi3,hgr⟩:=hp;obtain⟨hr,hl4,hk4,hd1,hd2,hg2⟩:=hKg hgr none;exact⟨_,_,hr,.inl ⟨rfl,_,⟨C',fun k=>Iff.rfl,hd1,hd2,hI _ _ _ _ _ hi3 (ko_put hd2),hl4,hk4⟩,hg2⟩⟩
   | ret=>
    obtain⟨C',hi3,hgr⟩:=hp;obtain⟨hr,hl4,hk4,hd1,hd2,hg2⟩:=hKg hgr (some .ret);exact⟨_,_,hr,.inr ⟨rfl,_,⟨C',.ret,fun k=>Iff.rfl,hd1,hd2,hIx _ _ _ _ hi3 (ko_put hd2),hl4,hk4⟩,hg2⟩⟩
   | exit i=>
    obtain⟨C',hi3,hgr⟩:=hp;obtain⟨hr,hl4,hk4,hd1,hd2,hg2⟩:=hKg hgr (some (.exit i));exact⟨_,_,hr,.inr ⟨rfl,_,⟨C',.exit i,fun k=>Iff.rfl,hd1,hd2,hIx _ _ _ _ hi3 (ko_put hd2),hl4,hk4⟩,hg2⟩⟩
   | goto t=>exact hp.elim
   | panic ch=>exact hp.elim
   | outgrown=>exact hp.elim
  ·rintro e W2 ⟨⟨v,rfl⟩,C',(⟨Bc,C1,hC,h1,h2,hi,hl,hk⟩ | ⟨C1,c,hC,h1,h2,hi,hl,hk⟩)⟩
   ·exact⟨none,_,by have:=run_endLoop (P:=P) hl (by rw[hrec]; simp); rw[hrec]at this; exact this,hdone _ C1 Bc _ (Nat.le_refl _) h1 (hI _ _ _ _ _ hi (ko_put h2)) ((World.putObj_heap_other (by simp only[D,id]; omega)).trans hk)⟩
   ·exact⟨some c,_,by have:=run_endLoop (P:=P) hl (by rw[hrec]; simp); rw[hrec]at this; exact this,hstop _ c C1 _ (Nat.le_refl _) h1 (hIx _ _ _ _ hi (ko_put h2)) ((World.putObj_heap_other (by simp only[D,id]; omega)).trans hk)⟩

section
def AItE{α:Type} (X:Cx) (gf:FuncId) (caps:List Cap) (l:List α) (sas:α->List SA):Prop:=
 ∀ (B:Nat->Prop) (w:World) (lb:List Value),(∀ k,B k->k < w.heap.size)->GlobOk X B w->ptrs (fun _=>.no) B w caps lb->SeqE X.P gf lb B w l (fun B2 W x vs=>SasR (fun _=>.no) B2 W (sas x) vs)
def Foot(R B:Nat->Prop) (H:List Ck) (ks:List Nat) (k:Nat):Prop:=R k\/B k\/∃ c∈H++ks.map qW,c.has k
section
variable {X:Cx} {R:Nat->Prop} {W:World} {Bi:Bk} {n:Nat} {ks:List Nat} {env:Nat->Loc} {B:Nat->Prop} {w0:World} {H:List Ck} {st:ASt} {a:Act} {w:World}
theorem AI.foot{W':World} (h:AI X R W Bi n ks env B w0 H st a w) (hk:KO (Foot R B H ks) w W'):AI X R W Bi n ks env B w0 H st a W':=
 ⟨h.size,h.defs,h.has,h.heap,⟨h.sh.below.trans ⟨hk.os,hk.tape,hk.output,hk.size,fun k hq=>hk.block k (hq.elim .inl fun h=>.inr (.inl h))⟩,fun k hq=>Nat.lt_of_lt_of_le (h.sh.base k hq) hk.size,fun c hc=>(h.sh.ok c hc).keep fun b e=>hk.block b (.inr (.inr ⟨c,hc,e⟩)),h.sh.apart⟩,h.sub,h.new,h.pin,h.base,h.glob⟩
theorem AI.now(h:AI X R W Bi n ks env B w0 H st a w):AI X R W Bi n ks env B w H st a w:=by
 have hup:Up B w0 B w:=⟨fun _ h=>h,fun k hk=>h.sh.below.block k (.inr hk)⟩
 refine⟨h.size,h.defs,fun s sv hs=>?_,h.heap.up hup,⟨KO.refl _ _,h.sh.base,h.sh.ok,h.sh.apart⟩,h.sub,fun k hk=>(h.new k hk).imp_right fun h1=>⟨h1.1,h1.2.keep (h.sh.below.block k (.inr hk))⟩,h.pin,h.base.trans ⟨h.sh.below.os,h.sh.below.tape,h.sh.below.output,h.sh.below.size,fun k hk=>h.sh.below.block k (.inl hk)⟩,fun i x hx=>(h.glob i x hx).up hup⟩;obtain⟨v,h1,h2⟩:=h.has s sv hs;exact⟨v,h1,h2.up hup⟩
theorem AI.adopt{B2:Nat->Prop} (h:AI X R W Bi n ks env B w H st a w) (hB:∀ k,B2 k->B k\/(¬ Foot R B H ks k/\IsC w k)):AI X R W Bi n ks env (fun k=>B k\/B2 k) w H st a w:=by
 have hup:Up B w (fun k=>B k\/B2 k) w:=⟨fun _ h=>.inl h,fun k hk=>rfl⟩
 have hlt:∀ k,B2 k->k < w.heap.size:=fun k hk=>by
  rcases hB k hk with h1 | ⟨_,cs,e,fr,h2⟩
  ·exact h.sh.base k (.inr h1)
  ·exact(Array.getElem?_eq_some_iff.1 h2).1
 refine⟨h.size,h.defs,fun s sv hs=>?_,h.heap.up hup,⟨KO.refl _ _,fun k hk=>?_,fun c hc=>(h.sh.ok c hc).base fun b hb hk=>?_,h.sh.apart⟩,fun k hk=>.inl (h.sub k hk),fun k hk=>?_,h.pin,h.base,fun i x hx=>(h.glob i x hx).up hup⟩
 ·obtain⟨v,h1,h2⟩:=h.has s sv hs
  exact⟨v,h1,h2.up hup⟩
 ·rcases hk with hk | hk | hk
  ·exact h.sh.base k (.inl hk)
  ·exact h.sh.base k (.inr hk)
  ·exact hlt k hk
 ·have hno:=((h.sh.ok c hc).lt hb).1
  rcases hk with hk | hk | hk
  ·exact hno (.inl hk)
  ·exact hno (.inr hk)
  ·rcases hB b hk with h1 | ⟨h1,_⟩
   ·exact hno (.inr h1)
   ·exact h1 (.inr (.inr ⟨c,hc,hb⟩))
 ·rcases hk with hk | hk
  ·exact h.new k hk
  ·rcases hB k hk with h1 | ⟨h1,h2⟩
   ·exact h.new k h1
   ·exact .inr ⟨fun hr=>h1 (.inl hr),h2⟩
theorem AI.foot_lt(h:AI X R W Bi n ks env B w0 H st a w):∀ k,Foot R B H ks k->k < w.heap.size:=fun k hk=>by
 rcases hk with hk | hk | ⟨c,hc,e⟩
 ·exact h.sh.base k (.inl hk)
 ·exact h.sh.base k (.inr hk)
 ·exact((h.sh.ok c hc).lt e).2
end
def Wm(X:Cx) (M:Bool) (n:Nat) (st st':ASt):Prop:=∀ R W Bi a w,AR X R W Bi M n st a w->AR X R W Bi M n st' a w
theorem Wk.m{X:Cx} {M:Bool} {n:Nat} {st st':ASt} (h:Wk X n st st'):Wm X M n st st':=fun R W Bi a w hA=>h _ _ _ _ _ _ hA
theorem Wm.refl{X:Cx} {M:Bool} {n:Nat} (st:ASt):Wm X M n st st:=fun _ _ _ _ _ h=>h
theorem Wm.trans{X:Cx} {M:Bool} {n:Nat} {a b c:ASt} (h:Wm X M n a b) (k:Wm X M n b c):Wm X M n a c:=fun R W Bi x w hA=>k _ _ _ _ _ (h _ _ _ _ _ hA)
theorem ax_rangeE{α β:Type} {X:Cx} {n:Nat} {st:ASt} {Q:Exit->ASt->Prop} {g:Operand} {pl:List Nat} {assign body:Code} {gf:FuncId} {fn:Func} {caps:List Cap} {sas:α->List SA} {l:List α} {b:Bool} {ms:List (Nat×Nat)}
  (hg : ae X st.L g = some (b, .c (.fn gf caps))) (hb : b = true) (hfz : capsFz caps = true) (hfn : X.P.funcs[gf]? = some fn) (hnm : (fn.name == "runtime.NumGoroutine") = false) (hbd : fn.body.isNone = false) (hit : AItE X gf caps l sas) (hlen : ∀ x, (sas x).length = pl.length) (hpl : allLt n pl = true) (hasg : Asg n assign ms) (hms : allLt n (ms.map (·.1)) = true) (hn : Nat.ble n zP = true)
  (Hv:β->Hp) (φ:List α->β->Prop) (ψ:Exit->Hp->Prop) (y0:β) (h0:φ l y0) (hH:Wm X true n st ⟨st.L,Hv y0⟩)
  (hbody:∀ id x rest y,φ (x :: rest) y->AX X false n (some id) body ⟨mvS ms (parL pl (sas x) (reL (pinRe n) st.L)),Hv y⟩ (fun e s=>(e=.normal/\∃ y',φ rest y'/\∃ L',Wm X false n s ⟨L',Hv y'⟩)\/(e≠.normal/\exitB e=true/\∃ h',ψ e h'/\∃ L',Wm X false n s ⟨L',h'⟩)))
  (hdone:∀ y,φ [] y->Q .normal ⟨reL (pinRe n) st.L,Hv y⟩)
  (hstop:∀ e h',ψ e h'->Q e ⟨reL (pinRe n) st.L,h'⟩):AX X true n none (.rangeFunc g pl.toArray assign body) st Q:=by
 intro R W Bi a w hA0;obtain⟨ks,env,B,w0,H,hM,hA⟩:=hH R W Bi a w hA0
 clear hA0
 obtain⟨gv,hg1,lb,rfl,hg2⟩:=hA.ev (st:=⟨st.L,Hv y0⟩) hg hb;have hA0:=hA.rebase;have hupw:Up B w0 B w:=⟨fun _ h=>h,fun k hk=>hA.sh.below.block k (.inr hk)⟩
 have hBw:∀ k,B k->k < w.heap.size:=fun k hk=>hA.sh.base k (.inr hk)
 have hseq:=hit B w lb hBw (fun i x hx=>(hA.glob i x hx).up hupw) ((hg2.up hupw).fzAny hfz);have hRN:∀ k,R k\/B k->k < w.heap.size:=fun k hk=>hA.sh.base k hk
 have hksN:∀ k∈ks,k < w.heap.size:=fun k hk=>((hA.sh.ok (qW k) (List.mem_append_right _ (List.mem_map.2 ⟨k,hk,rfl⟩))).lt rfl).2
 have hn':=Nat.le_of_ble_eq_true hn
 let L0:=reL (pinRe n) st.L
 let R1:Nat->Prop:=fun k=>R k\/B k
 let In:Hp->(Nat->Prop)->(Nat->Prop)->World->Prop:=fun h C Bc W'=>∃ env' B' w0' H',AI X R1 w ⟨B,pinsOf n env,Bi.d⟩ n ks env' B' w0' H' ⟨L0,h⟩ a W'/\C=Foot R1 B' H' ks/\∀ k,Bc k->B' k
 let I:List α->(Nat->Prop)->(Nat->Prop)->World->Prop:=fun r C Bc W'=>∃ y,φ r y/\In (Hv y) C Bc W'
 let Ix:Code->(Nat->Prop)->World->Prop:=fun c C W'=>∃ e h' Bc,exitC e=some c/\ψ e h'/\In h' C Bc W'
 have hstI:∀ h C Bc W1 W2,In h C Bc W1->KO C W1 W2->In h C Bc W2:=by
  rintro h C Bc W1 W2 ⟨env',B',w0',H',h1,rfl,h2⟩ hk;exact⟨env',B',w0',H',h1.foot hk,rfl,h2⟩
 have hLp:∀ {B':Nat->Prop} {w0':World} {env':Nat->Loc},(∀ k,B k->B' k)->(∀ k,B k->w0'.heap[k]?=w.heap[k]?)->(∀ id l,pinsOf n env id l->env' id=l)->∀ s sv,lk L0 s=some sv->∃ v,a.tmps[s]?=some v/\VR env' B' w0' sv v:=by
  intro B' w0' env' hB hw he s sv hs;obtain⟨u,h1,rfl⟩:=lk_reL hs;obtain⟨v,h2,h3⟩:=hA0.has s u h1;exact⟨v,h2,VR.re (pinRe_ok (fun id l h4 h5 h6=>he id l ⟨h4,h5,h6⟩) hn') (h3.up ⟨hB,hw⟩)⟩
 have hback:∀ {h:Hp} {C Bc:Nat->Prop} {W1:World} (k:Nat),w.heap.size<=k->¬ C k->W1.heap[k]?=some (.deferred (some []))->In h C Bc W1->AR X R W Bi true n ⟨L0,h⟩ { a with defers:={ target:=.collected k,args:=#[] } :: a.defers } W1:=by
  rintro h C Bc W1 k hk hCk hd ⟨env',B',w0',H',h1,rfl,_⟩;refine⟨k :: ks,env',B',w0',H',⟨(fun h=>by cases h),hM.2⟩,hA.unbase ?_⟩;have hperm:(qW k :: (H'++ks.map qW)).Perm (H'++(k :: ks).map qW):=by
   rw[List.map_cons];exact List.perm_middle.symm
  have hsh:SH (fun q=>(R q\/B q)\/B' q) w0' (qW k :: (H'++ks.map qW)) W1:=by
   refine⟨h1.sh.below,h1.sh.base,fun c hc=>?_,List.Pairwise.cons (fun c hc q e1 e2=>?_) h1.sh.apart⟩
   ·rcases List.mem_cons.1 hc with rfl | hc
    ·exact⟨fun hq=>hCk (hq.elim .inl fun h=>.inr (.inl h)),hd⟩
    ·exact h1.sh.ok c hc
   ·have:k=q:=Option.some.inj e1
    subst this;exact hCk (.inr (.inr ⟨c,hc,e2⟩))
  refine⟨h1.size,congrArg (List.cons (markOf k)) h1.defs,h1.has,h1.heap,hsh.perm hperm,h1.sub,h1.new,h1.pin,h1.base,h1.glob⟩
 have hup:∀ (c:Code) (m:Nat) (Q:Exit->Act->World->Prop) a w,c.wpIn Fence.wide m X.P Q a w ↔ c.wpIn Fence.wide 0 X.P Q a w:=fun c m Q a w=>wpIn_wide.trans wpIn_wide.symm
 have hupr:∀ (id:Nat) (c:Code) (m:Nat) (Q:Exit->Act->World->Prop) a w,c.wpIn (Fence.wide.inRound id) 0 X.P Q a w->c.wpIn (Fence.wide.inRound id) m X.P Q a w:=fun id c m Q a w h=>by
  intro b k cs hro hb hr;exact h b k cs hro hb (fun _ h=>by cases h)
 refine(hup _ 2 _ _ _).1 ?_;have hpar:∀ vs:List Value,(pl.toArray.zip vs.toArray).foldl (fun t (p,v)=>t.setIfInBounds p v) a.tmps=(pl.zip vs).foldl (fun t (p,v)=>t.setIfInBounds p v) a.tmps:=fun x=>by
  rw[<- Array.foldl_toList,Array.toList_zip]
 refine wpIn_rangeE (gf:=gf) (lb:=lb) (hA.stt.ev hg1) (fun args w=>run_callFunc hfn hnm hbd) hseq (KO.refl _ _) hBw (fun B2 W2 x vs h=>by have:=SasR.length h; rw[hlen x]at this; simpa using this) (fun B2 W2 W3 x vs hk h=>SasR.up ⟨fun _ h=>h,fun k hq=>hk.block k hq⟩ h)
  I Ix ?_ ?_ ?_ ?_ ?_ (Foot R1 B H ks) ?_ (fun vs=>{ tmps:=mvT ms ((pl.zip vs).foldl (fun t (p,v)=>t.setIfInBounds p v) a.tmps),defers:=[] }) ?_ ?_ ?_ ?_
 ·rintro r C Bc W1 W2 ⟨y,hy,h1⟩ hk
  exact⟨y,hy,hstI _ _ _ _ _ h1 hk⟩
 ·rintro c C W1 W2 ⟨e,h',Bc,he,hψ,h1⟩ hk
  exact⟨e,h',Bc,he,hψ,hstI _ _ _ _ _ h1 hk⟩
 ·rintro r C Bc W1 ⟨y,hy,env',B',w0',H',h1,rfl,_⟩
  exact h1.foot_lt
 ·rintro r C Bc W1 ⟨y,hy,env',B',w0',H',h1,rfl,h2⟩ k hk
  exact .inr (.inl (h2 k hk))
 ·rintro c C W1 ⟨e,h',Bc,he,hψ,env',B',w0',H',h1,rfl,_⟩
  exact h1.foot_lt
 ·exact⟨y0,h0,env,B,w,H,⟨hA0.size,hA0.defs,hLp (fun _ h=>h) (fun _ _=>rfl) (fun _ _ h=>h.2.1),hA0.heap,hA0.sh,hA0.sub,hA0.new,hA0.pin,hA0.base,hA0.glob⟩,rfl,fun _ h=>h⟩
 ·intro id x vs W1 K hvl hK
  rw[hpar];exact hupr _ _ _ _ _ _ (Asg.ok (l:=id) hasg hK)
 ·rintro id x rest vs C Bc B2 W1 ⟨y,hy,env1,B0,w1,H1,h0,rfl,hbc⟩ had henc
  obtain⟨B1,hB1d⟩:∃ B1:Nat->Prop,B1=fun k=>B0 k\/B2 k:=⟨_,rfl⟩
  have h1:AI X R1 w ⟨B,pinsOf n env,Bi.d⟩ n ks env1 B1 W1 H1 ⟨L0,Hv y⟩ a W1:=by
   rw[hB1d];exact h0.now.adopt fun k hk=>(had.new k hk).imp (fun h=>hbc k h) fun⟨h,h2⟩=>⟨h,h2⟩
  have hf1:∀ k,Foot R1 B1 H1 ks k->Foot R1 B0 H1 ks k\/B2 k:=fun k hk=>by
   rcases hk with hk | hk | hk
   ·exact .inl (.inl hk)
   ·rw[hB1d]at hk
    exact hk.imp (fun h=>.inr (.inl h)) fun h=>h
   ·exact .inl (.inr (.inr hk))
  have hB2s:∀ k,B2 k->B1 k:=fun k hk=>by rw[hB1d]; exact .inr hk
  clear h0
  have hs1:SH (fun k=>R1 k\/B1 k) W1 H1 W1:=h1.sh.weak (List.sublist_append_left _ _);have hup1:Up B1 W1 B1 W1:=⟨fun _ h=>h,fun k hk=>h1.sh.below.block k (.inr hk)⟩
  have hB1:∀ k,B k->W1.heap[k]?=w.heap[k]?:=fun k hk=>(h1.sh.below.block k (.inl (.inr hk))).trans (h1.base.block k (.inr hk))
  have hasL:Has n env1 B1 W1 L0 a.tmps:=⟨hA.size,fun s sv hs=>by
   obtain⟨v,h2,h3⟩:=h1.has s sv hs;exact⟨v,h2,h3.up hup1⟩⟩
  have hr:=h1.round (Has.mv (Has.par hasL hpl ((SasR.any henc).up ⟨hB2s,fun _ _=>rfl⟩)) hms);have hxb:=hbody id x rest y hy _ _ _ _ _ ⟨[],env1,B1,W1,H1,⟨fun _=>rfl,fun h=>by cases h⟩,hr⟩;refine wpIn_mono (hupr _ _ 1 _ _ _ hxb) ?_;rintro e a3 W3 ⟨s,hs,h2⟩;have hRest:∀ k,R1 k\/B1 k->Rest W1 H1 k:=fun k hk=>⟨hs1.base k hk,fun c hc e=>((hs1.ok c hc).lt e).1 hk⟩
  have key:∀ h' L',Wm X false n s ⟨L',h'⟩->∃ C',In h' C' B2 W3/\Grow B2 (Foot R1 B0 H1 ks) C' W1 W3:=by
   intro h' L' hw;obtain⟨ks3,env3,B3,w3,H3,hM3,h3⟩:=hw _ _ _ _ _ h2
   have:=hM3.1 rfl
   subst this;have hsame:∀ k,Rest W1 H1 k->W3.heap[k]?=W1.heap[k]?:=fun k hk=>(h3.sh.below.block k (.inl hk)).trans (h3.base.block k hk)
   have h4:=h1.rounded h3 (L:=L0) (hLp (fun k hk=>h3.sub k (h1.sub k hk)) (fun k hk=>(h3.base.block k (hRest k (.inl (.inr hk)))).trans (hB1 k hk)) (fun id l hp=>(h3.pin id l ⟨(h1.pin id l hp).1,(h1.pin id l hp).2.1,(h1.pin id l hp).2.2⟩).2.1));have hsh3:=h3.sh;simp only[List.map_nil,List.append_nil]at hsh3;refine⟨_,⟨env3,B3,w3,H3,h4,rfl,fun k hk=>h3.sub k (hB2s k hk)⟩,⟨⟨h3.sh.below.os.trans h3.base.os,h3.sh.below.tape.trans h3.base.tape,h3.sh.below.output.trans h3.base.output,Nat.le_trans h3.base.size h3.sh.below.size,fun k hk=>?_⟩,fun k hk=>?_⟩⟩
   ·rcases hk with hk | ⟨hk1,hk2⟩
    ·exact hsame k (hRest k (.inr (hB2s k hk)))
    ·exact hsame k ⟨hk1,fun c hc e=>hk2 (.inr (.inr ⟨c,List.mem_append_left _ hc,e⟩))⟩
   ·by_cases hlt:W1.heap.size<=k
    ·exact .inr (.inl hlt)
    ·have hgo:Foot R1 B1 H1 ks k->Foot R1 B0 H1 ks k\/W1.heap.size<=k\/B2 k:=fun h=>(hf1 k h).imp_right .inr
     apply hgo
     have hlt':k < W1.heap.size:=by omega
     by_cases hk1:Foot R1 B1 H1 ks k
     ·exact hk1
     ·exfalso
      have hre:Rest W1 H1 k:=⟨hlt',fun c hc e=>hk1 (.inr (.inr ⟨c,List.mem_append_left _ hc,e⟩))⟩
      rcases hk with hk | hk | ⟨c,hc,e⟩
      ·exact hk1 (.inl hk)
      ·rcases h3.new k hk with h5 | h5
       ·exact hk1 (.inr (.inl h5))
       ·exact h5.1 hre
      ·rcases List.mem_append.1 hc with hc | hc
       ·exact((hsh3.ok c hc).lt e).1 (.inl hre)
       ·exact hk1 (.inr (.inr ⟨c,List.mem_append_right _ hc,e⟩))
  rcases hs with⟨rfl,y',hy',L',hw⟩ | ⟨hne,hex,h',hψ,L',hw⟩
  ·obtain⟨C',h5,h6⟩:=key _ _ hw
   exact⟨C',⟨y',hy',h5⟩,h6⟩
  ·obtain⟨C',h5,h6⟩:=key _ _ hw
   cases e with
   | normal=>exact absurd rfl hne
   | ret=>exact⟨C',⟨.ret,h',_,rfl,hψ,h5⟩,h6⟩
   | exit i=>exact⟨C',⟨.exit i,h',_,rfl,hψ,h5⟩,h6⟩
   | goto t=>cases hex
   | panic c=>cases hex
   | outgrown=>cases hex
 ·rintro k C Bc W1 hk hC ⟨y,hy,h1⟩ hd
  exact⟨_,hdone y hy,hback k hk hC hd h1⟩
 ·rintro k c C W1 hk hC ⟨e,h',Bc,he,hψ,h1⟩ hd
  have hAR:=hback k hk hC hd h1;have hq:=hstop e h' hψ;cases e with
  | ret=>cases he; exact wpIn_ret ⟨_,hq,hAR⟩
  | exit id=>cases he; exact(hup _ 2 _ _ _).2 (c_exit ⟨_,hq,hAR⟩)
  | normal=>cases he
  | goto t=>cases he
  | panic c=>cases he
  | outgrown=>cases he
end

section
structure Cn(X:Cx) (M:Bool) (n:Nat) (rr:Option Nat) (ρ:Type) where
 In:ρ->ASt->Act->World->Prop
 frame:∀ {c:Code} {st:ASt} {Q:Exit->ASt->Prop} {r:ρ} {a:Act} {w:World},AX X M n rr c st Q->In r st a w->XC rr X.P c (fun e a w=>∃ s,Q e s/\In r s a w) a w
 step:∀ {ops:List Oper} {o:Oper} {st st':ASt} {r:ρ} {a:Act} {w:World},StepO X n ops o st st'->In r st a w->∀ {KK:Act->World->Prop},(∀ a w,In r st' a w->KK a w)->XO X.P ops.toArray o KK a w
 weak:∀ {st st':ASt} {r:ρ} {a:Act} {w:World},Wm X M n st st'->In r st a w->In r st' a w
 ai:∀ {st:ASt} {r:ρ} {a:Act} {w:World},In r st a w->∃ R W Bi ks env B w0 H,AI X R W Bi n ks env B w0 H st a w
variable {X:Cx} {M:Bool} {n:Nat} {rr:Option Nat} {ρ:Type}
def Cn.ar(R:Nat->Prop) (W:World) (Bi:Bk) (r0:ρ):Cn X M n rr ρ where
 In r st a w:=r=r0/\AR X R W Bi M n st a w
 frame h hi:=wpIn_mono (h R W Bi _ _ hi.2) fun _ _ _ ⟨s,h1,h2⟩=>⟨s,h1,hi.1,h2⟩
 step h hi KK hK:=by
  obtain⟨h0,ks,env,B,w0,H,hM,hA⟩:=hi;exact h R W Bi ks env B w0 H _ _ hA _ fun a' w' env' B' w0' H' hA'=>hK _ _ ⟨h0,ks,env',B',w0',H',hM,hA'⟩
 weak h hi:=⟨hi.1,h _ _ _ _ _ hi.2⟩
 ai hi:=by
  obtain⟨_,ks,env,B,w0,H,_,hA⟩:=hi;exact⟨_,_,_,_,_,_,_,_,hA⟩
def Cn.const{σ:Type} (Γ:Cn X M n rr ρ) (r:ρ) (d0:σ):Cn X M n rr σ where
 In d st a w:=d=d0/\Γ.In r st a w
 frame h hi:=wpIn_mono (Γ.frame h hi.2) fun _ _ _ ⟨s,h1,h2⟩=>⟨s,h1,hi.1,h2⟩
 step h hi KK hK:=Γ.step h hi.2 fun a w h=>hK a w ⟨hi.1,h⟩
 weak h hi:=⟨hi.1,Γ.weak h hi.2⟩
 ai hi:=Γ.ai hi.2
def GX(Γ:Cn X M n rr ρ) (c:Code) (r:ρ) (st:ASt) (Q:Exit->ASt->ρ->Prop):Prop:=∀ a w,Γ.In r st a w->XC rr X.P c (fun e a w=>∃ s r',Q e s r'/\Γ.In r' s a w) a w
section
variable {Γ:Cn X M n rr ρ} {c c1 c2:Code} {r:ρ} {st st':ASt} {Q Q':Exit->ASt->ρ->Prop}
theorem gx_ax{Q:Exit->ASt->Prop} (h:AX X M n rr c st Q):GX Γ c r st (fun e s r'=>Q e s/\r'=r):=fun a w hi=>wpIn_mono (Γ.frame h hi) fun _ _ _ ⟨s,h1,h2⟩=>⟨s,r,⟨h1,rfl⟩,h2⟩
theorem qi(h:GX Γ c r st Q) (hq:∀ e s r',Q e s r'->Q' e s r'):GX Γ c r st Q':=fun a w hi=>wpIn_mono (h a w hi) fun _ _ _ ⟨s,r',h1,h2⟩=>⟨s,r',hq _ _ _ h1,h2⟩
theorem gx_const{σ:Type} {d0:σ} {Q:Exit->ASt->σ->Prop} (h:GX (Γ.const r d0) c d0 st Q):GX Γ c r st (fun e s r'=>r'=r/\Q e s d0):=fun a w hi=>wpIn_mono (h a w ⟨rfl,hi⟩) fun _ _ _ ⟨s,d,h1,h2,h3⟩=>⟨s,r,⟨rfl,h2 ▸ h1⟩,h3⟩
theorem gx_weak(hw:Wm X M n st st') (h:GX Γ c r st' Q):GX Γ c r st Q:=fun a w hi=>h a w (Γ.weak hw hi)
def thenG(Γ:Cn X M n rr ρ) (c:Code) (Q:Exit->ASt->ρ->Prop):Exit->ASt->ρ->Prop
 | .normal,st,r=>GX Γ c r st Q
 | e,st,r=>Q e st r
theorem gx_seq(h:GX Γ c1 r st (thenG Γ c2 Q)):GX Γ (.seq c1 c2) r st Q:=fun a w hi=>by
 refine wpIn_seq (wpIn_mono (h a w hi) ?_);rintro e a w ⟨s,r',h1,h2⟩;cases e with
 | normal=>exact h1 a w h2
 | _=>exact⟨s,r',h1,h2⟩
theorem gx_cond{x:Operand} {g b:Bool} (hx:ae X st.L x=some (g,.c (.val (.bool b)))) (hg:g=true) (h1:b=true->GX Γ c1 r st Q) (h0:b=false->GX Γ c2 r st Q):GX Γ (.cond x c1 c2) r st Q:=fun a w hi=>by
 obtain⟨R,W,Bi,ks,env,B,w0,H,hA⟩:=Γ.ai hi;obtain⟨v,h2,h3⟩:=hA.ev hx hg;rw[show v=_ from h3]at h2;exact c_cond hA.sym h2 (fun hb=>h1 hb a w hi) (fun hb=>h0 hb a w hi)
def blockG(id:Nat) (Q:Exit->ASt->ρ->Prop):Exit->ASt->ρ->Prop
 | .exit id',st,r=>match Nat.beq id' id with
  | true=>Q .normal st r
  | false=>Q (.exit id') st r
 | e,st,r=>Q e st r
theorem gx_block{id:Nat} (h:GX Γ c r st (blockG id Q)):GX Γ (.block id c) r st Q:=fun a w hi=>by
 refine c_block (wpIn_mono (h a w hi) ?_);rintro e a w ⟨s,r',h1,h2⟩;cases e with
 | exit id'=>
  simp only[blockG]at h1
  split at h1
  ·rename_i hb
   have:=Nat.eq_of_beq_eq_true hb
   subst this;simp only[Exit.inBlock,if_true];exact⟨s,r',h1,h2⟩
  ·rename_i hb
   have hne:id'≠id:=Nat.ne_of_beq_eq_false hb;simp only[Exit.inBlock,if_neg hne];exact⟨s,r',h1,h2⟩
 | _=>exact⟨s,r',h1,h2⟩
def scopeG(Q:Exit->ASt->ρ->Prop):Exit->ASt->ρ->Prop
 | .goto _,_,_=>False
 | e,st,r=>Q e st r
theorem gx_scope(h:GX Γ c r st (scopeG Q)):GX Γ (.scope c) r st Q:=fun a w hi=>by
 refine wpIn_scope (wpIn_mono (h a w hi) ?_);rintro e a w ⟨s,r',h1,h2⟩;cases e with
 | goto l=>exact h1.elim
 | _=>exact⟨s,r',h1,h2⟩
def loopG{α:Type} (M:Bool) (n:Nat) (X:Cx) (I:α->ASt) (φ:α->ρ->Prop) (m:α->Nat) (x:α) (Q:Exit->ASt->ρ->Prop):Exit->ASt->ρ->Prop
 | .normal,st,r=>∃ y,φ y r/\m y < m x/\Wm X M n st (I y)
 | e,st,r=>Q e st r
theorem gx_loop{α:Type} (I:α->ASt) (φ:α->ρ->Prop) (m:α->Nat) (x0:α) (h0:φ x0 r) (hw:Wm X M n st (I x0)) (hr:∀ x r,φ x r->GX Γ c r (I x) (loopG M n X I φ m x Q)):GX Γ (.loop c) r st Q:=fun a w hi=>by
 refine c_loop (fun x a w=>∃ r,φ x r/\Γ.In r (I x) a w) m x0 ⟨r,h0,Γ.weak hw hi⟩ fun x a w ⟨r,hφ,hi⟩=>wpIn_mono (hr x r hφ a w hi) ?_
 rintro e a w ⟨s,r',h1,h2⟩;cases e with
 | normal=>
  obtain⟨y,h3,h4,h5⟩:=h1;exact⟨y,⟨r',h3,Γ.weak h5 h2⟩,h4⟩
 | _=>exact⟨s,r',h1,h2⟩
theorem ax_gx{c:Code} {st:ASt} {Q:Exit->ASt->ρ->Prop} {r:ρ} (h:∀ R W Bi,GX (Cn.ar (X:=X) (M:=M) (n:=n) (rr:=rr) R W Bi r) c r st Q):AX X M n rr c st (fun e s=>Q e s r):=fun R W Bi a w hA=>by
 refine wpIn_mono (h R W Bi a w ⟨rfl,hA⟩) ?_;rintro e a w ⟨s,r',h1,rfl,h2⟩;exact⟨s,h1,h2⟩
end
theorem ac_bodyE(hX:X.tt.ok X.P) {f:FuncId} {fn:Func} {c:Code} {args:List SA} {h:Hp} {Q:SV->Hp->Prop} {res:List ResultVar} (hf:X.P.funcs[f]?=some fn) (hb:fn.body=some c) (hN:fn.ntmps=n) (hl:Nat.ble args.length n=true) (hn:Nat.ble n zU=true) (hr:fn.results=res.toArray)
  (hB:AX X true n none c ⟨argL 0 args,h⟩ (fun e st=>(e=.ret\/e=.normal)/\∃ st',Wm X true n st st'/\∃ c sv,ares X st' res=some (c,sv)/\c=true/\Q sv st'.H)):AC X f args h Q:=by
 intro B w0 env vs H W hg ha hh hs;have hlen:=ha.length;have hle:vs.length<=n:=by rw[hlen]; exact Nat.le_of_ble_eq_true hl
 refine(callsIn_wide (n:=0)).1 (callsIn_of_wp_marks hf hb trivial ?_);have hup:Up B w0 B W:=⟨fun _ h=>h,fun k hk=>hs.below.block k hk⟩
 have hsub:∀ k,B k->Rest W H k:=fun k hk=>⟨hs.base k hk,fun c hc e=>((hs.ok c hc).lt e).1 hk⟩
 have hS:=st_start (fn:=fn) hN hle _ rfl (vs:=vs);have hA:AI X (Rest W H) W ⟨B,fun id l=>((zU<=id/\∃ b,l=.blk b)\/zP<=id)/\env id=l,[]⟩ n [] env B W H ⟨argL 0 args,h⟩ { tmps:=vs.toArray++Array.replicate (fn.ntmps - vs.toArray.size) undef,defers:=[] } W:=by
  refine⟨hS.size,rfl,fun s sv hsv=>?_,hh.up hup,?_,fun _ h=>h,fun _ h=>.inl h,fun id l hp=>⟨Nat.le_trans (Nat.le_of_ble_eq_true hn) (hp.1.elim (fun h=>h.1) (fun h=>Nat.le_trans (by decide) h)),hp.2,hp.1.imp (fun h=>h.2) (fun h=>h)⟩,KO.refl _ _,fun i x hx=>(hg i x hx).up hup⟩
  ·obtain⟨_,v,h1,h2⟩:=argL_ok ha hsv
   rw[Nat.sub_zero]at h1;refine⟨v,?_,h2.up hup⟩;have hlt:s < vs.length:=(List.getElem?_eq_some_iff.1 h1).1;show(vs.toArray++_)[s]?=some v;rw[Array.getElem?_append_left (by simpa using hlt)]
   simpa using h1
  ·have h1:=hs.rest
   simp only[List.map_nil,List.append_nil];exact⟨KO.refl _ _,fun k hk=>hk.elim (fun h=>h.1) (fun h=>hs.base k h),fun c hc=>(h1.ok c hc).base fun b hb hk=>hk.elim (fun h=>((h1.ok c hc).lt hb).1 h) (fun h=>((h1.ok c hc).lt hb).1 (hsub b h)),h1.apart⟩
 refine wpIn_mono (hB _ _ _ _ _ ⟨[],env,B,W,H,⟨(fun h=>by cases h),fun _ id l (hp:((zU<=id/\∃ b,l=.blk b)\/zP<=id)/\env id=l)=>hp.1.elim (fun h=>h.1) (fun h=>Nat.le_trans (by decide) h)⟩,hA⟩) ?_;rintro e a w ⟨st,⟨he,st',hw,c,sv,hres,hc,hQ⟩,h2⟩;obtain⟨ks,env',B',w0',H',hM,hA'⟩:=hw _ _ _ _ _ h2;have hA0:AI X (Rest W H) W ⟨B,fun id l=>((zU<=id/\∃ b,l=.blk b)\/zP<=id)/\env id=l,[]⟩ n [] env' B' w0' H' st' { tmps:=a.tmps,defers:=[] } w:=
  ⟨hA'.size,rfl,hA'.has,hA'.heap,by simpa using hA'.sh.weak (List.sublist_append_left _ _),hA'.sub,hA'.new,hA'.pin,hA'.base,hA'.glob⟩
 obtain⟨v,h3,h4⟩:=ares_ok hX hA0 hr hres hc;have hsym:Sym n (ks.map markOf) (qL a) (fun k=>Rest W H k\/B' k) w0' (ks.map (fun k=>Ck.obj k (.deferred (some [])))++H') a w:=⟨by have hst:=hA'.stt; simpa [dfs] using hst,hA'.sh.perm List.perm_append_comm⟩
 have key:=f_retM (fn:=fn) (R:=ACpost X env B H W Q) ks hsym (fun w hw=>h4 w (by simpa using hw)) fun w hw=>⟨env',B',w0',H',sv,st'.H,hQ,hA'.sub,hA'.new,hA'.base,h3,hA'.heap,hw,fun id l h5 h6=>(hA'.pin id l ⟨h5,h6⟩).2.1⟩
 rcases he with rfl | rfl
 ·exact key
 ·exact key
end

section
inductive Sc where
 | d
 | r (l:List In)
 | t (l:List Wi)
 | o (E:List Nat) (l:List DI) (w:List Wi)
 | oa (E:List Nat) (l:List DI) (w:List Wi)
 | s (a b:Sc)
 | j (σ:Sh) (a b:Sc)
 | jj (σ:Sh) (a b:Sc)
 | c (a b:Sc)
 | l (σ:Sh) (a:Sc)
 | lx (id:Nat) (σ τ:Sh) (a:Sc)
 | lxx (id:Nat) (σ τ:Sh) (a:Sc)
 | b (a:Sc)
 | rf (mv:List (Nat×Nat)) (σ:Sh) (a:Sc)
 | p (w:List Wi) (a:Sc)
 | ob (w0:List Wi) (E:List Nat) (t:DT) (w:List Wi) (al:Bool)
def Sc.fst:Sc->Sc
 | .s x _=>x
 | .j _ x _=>x
 | .jj _ x _=>x
 | .c x _=>x
 | .l _ x=>x
 | .lx _ _ _ x=>x
 | .lxx _ _ _ x=>x
 | .b x=>x
 | .rf _ _ x=>x
 | _=>.d
def Sc.snd:Sc->Sc
 | .s _ x=>x
 | .j _ _ x=>x
 | .jj _ _ x=>x
 | .c _ x=>x
 | _=>.d
def Sc.ins:Sc->List In
 | .r x=>x
 | _=>[]
def Sc.wis:Sc->List Wi
 | .t x=>x
 | _=>[]
def Sc.pre:Sc->List Wi
 | .p w _=>w
 | .ob w _ _ _ _=>w
 | _=>[]
def Sc.dal:Sc->Bool
 | .oa _ _ _=>true
 | .p _ (.oa _ _ _)=>true
 | .ob _ _ _ _ al=>al
 | _=>false
def Sc.drw:Sc->List Nat×DT×List Wi
 | .o x y z=>(x,.f y,z)
 | .oa x y z=>(x,.f y,z)
 | .p _ (.o x y z)=>(x,.f y,z)
 | .p _ (.oa x y z)=>(x,.f y,z)
 | .ob _ x y z _=>(x,y,z)
 | _=>([],.f [],[])
def wks{ρ:Type} (n:Nat):List Wi->List Nat->ASt->(List Nat->ASt->Option ρ)->Option ρ
 | [],V,st,k=>k V st
 | x :: l,V,st,k=>match wki n x st with
  | some (c,st')=>gd c (wks n l (x.touch++V) st' k)
  | none=>none
theorem wks_ok{X:Cx} {ρ:Type} {n:Nat} {k:List Nat->ASt->Option ρ} {r:ρ} {st0:ASt}:∀ {l:List Wi} {V:List Nat} {st:ASt},KS V st0 st->wks n l V st k=some r->∃ V' st',Wk X n st st'/\KS V' st0 st'/\k V' st'=some r
 | [],V,st,h0,h=>⟨V,st,Wk.refl _,h0,h⟩
 | x :: l,V,st,h0,h=>by
  unfold wks at h
  split at h
  ·rename_i c st1 e
   obtain⟨hc,h⟩:=zI h;obtain⟨V',st',h1,h2,h3⟩:=wks_ok (X:=X) (h0.trans (wki_ks e)) h;exact⟨V',st',(wki_ok e hc).trans h1,h2,h3⟩
  ·cases h
def fV{α:Type} (v:Value) (k:Value->α):α:=match v with
 | .int q z=>k (.int q z)
 | .bool b=>k (.bool b)
 | .slice a m c=>k (.slice a m c)
 | v=>k v
def fCaps{α:Type}:List Cap->(List Cap->α)->α
 | [],k=>k []
 | .id i :: r,k=>fCaps r fun r=>k (.id i :: r)
 | .fz g x :: r,k=>fCaps r fun r=>k (.fz g x :: r)
def fC{α:Type} (c:SC) (k:SC->α):α:=match c with
 | .val v=>fV v fun v=>k (.val v)
 | .str s=>k (.str s)
 | .dead=>k .dead
 | .ptr i o=>k (.ptr i o)
 | .elt i s j o=>k (.elt i s j o)
 | .pel g x o=>k (.pel g x o)
 | .par g l=>k (.par g l)
 | .sl i=>k (.sl i)
 | .lst g l c=>k (.lst g l c)
 | .fn f ids=>fCaps ids fun ids=>k (.fn f ids)
 | .mref i=>k (.mref i)
 | .bfn f i=>k (.bfn f i)
 | .nel i o=>k (.nel i o)
 | .slp i s o=>k (.slp i s o)
 | .cpo i=>k (.cpo i)
 | .slf b i=>k (.slf b i)
def fCs{α:Type}:List SC->(List SC->α)->α
 | [],k=>k []
 | c :: r,k=>fC c fun c=>fCs r fun r=>k (c :: r)
def fA{α:Type} (x:SA) (k:SA->α):α:=match x with
 | .c c=>fC c fun c=>k (.c c)
 | .agg cs=>fCs cs fun cs=>k (.agg cs)
 | .arr g l=>k (.arr g l)
def fAs{α:Type}:List SA->(List SA->α)->α
 | [],k=>k []
 | c :: r,k=>fA c fun c=>fAs r fun r=>k (c :: r)
def fSV{α:Type} (v:SV) (k:SV->α):α:=match v with
 | .a x=>fA x fun x=>k (.a x)
 | .may g x=>fA x fun x=>k (.may g x)
 | .tup xs=>fAs xs fun xs=>k (.tup xs)
def fL{α:Type}:Sl->(Sl->α)->α
 | [],k=>k []
 | (s,v) :: r,k=>fSV v fun v=>fL r fun r=>k ((s,v) :: r)
def fB{α:Type} (b:Blk) (k:Blk->α):α:=match b with
 | .cells t cs=>fCs cs fun cs=>k (.cells t cs)
 | .row t g l c=>k (.row t g l c)
 | .lrow t g l=>k (.lrow t g l)
 | .mp g h l o=>k (.mp g h l o)
 | .mrow t u g l c h=>k (.mrow t u g l c h)
 | b=>k b
def fH{α:Type}:Hp->(Hp->α)->α
 | [],k=>k []
 | (s,v) :: r,k=>fB v fun v=>fH r fun r=>k ((s,v) :: r)
def fSt{α:Type} (st:ASt) (k:ASt->α):α:=fL st.L fun L=>fH st.H fun H=>k ⟨L,H⟩
theorem fV_eq{α:Type} (v:Value) (k:Value->α):fV v k=k v:=by cases v<;>rfl
theorem fCaps_eq{α:Type}:∀ (l:List Cap) (k:List Cap->α),fCaps l k=k l
 | [],_=>rfl
 | .id i :: r,k=>fCaps_eq r _
 | .fz g x :: r,k=>fCaps_eq r _
theorem fC_eq{α:Type} (c:SC) (k:SC->α):fC c k=k c:=by
 cases c with
 | val v=>exact fV_eq v (fun v=>k (.val v))
 | fn f ids=>exact fCaps_eq ids (fun ids=>k (.fn f ids))
 | _=>rfl
theorem fCs_eq{α:Type}:∀ (l:List SC) (k:List SC->α),fCs l k=k l
 | [],_=>rfl
 | c :: r,k=>(fC_eq c _).trans (fCs_eq r _)
theorem fA_eq{α:Type} (x:SA) (k:SA->α):fA x k=k x:=by
 cases x with
 | c c=>exact fC_eq c (fun c=>k (.c c))
 | agg cs=>exact fCs_eq cs (fun cs=>k (.agg cs))
 | arr g l=>rfl
theorem fAs_eq{α:Type}:∀ (l:List SA) (k:List SA->α),fAs l k=k l
 | [],_=>rfl
 | c :: r,k=>(fA_eq c _).trans (fAs_eq r _)
theorem fSV_eq{α:Type} (v:SV) (k:SV->α):fSV v k=k v:=by
 cases v with
 | a x=>exact fA_eq x (fun x=>k (.a x))
 | may g x=>exact fA_eq x (fun x=>k (.may g x))
 | tup xs=>exact fAs_eq xs (fun xs=>k (.tup xs))
theorem fL_eq{α:Type}:∀ (l:Sl) (k:Sl->α),fL l k=k l
 | [],_=>rfl
 | (s,v) :: r,k=>(fSV_eq v _).trans (fL_eq r _)
theorem fB_eq{α:Type} (b:Blk) (k:Blk->α):fB b k=k b:=by
 cases b with
 | cells t cs=>exact fCs_eq cs (fun cs=>k (.cells t cs))
 | _=>rfl
theorem fH_eq{α:Type}:∀ (l:Hp) (k:Hp->α),fH l k=k l
 | [],_=>rfl
 | (s,v) :: r,k=>(fB_eq v _).trans (fH_eq r _)
theorem fSt_eq{α:Type} (st:ASt) (k:ASt->α):fSt st k=k st:=(fL_eq _ _).trans (fH_eq _ _)
def zc{δ ρ:Type} (step:δ->(δ->Option ρ)->Option ρ):Nat->δ->Option ρ
 | 0,_=>none
 | n+1,d=>step d (zc step n)
abbrev Kont (ρ:Type):=Exit->List Nat->ASt->Option ρ
abbrev Evr:={σ:Type}->Yo σ->Sc->ASt->Kont σ->Option σ
def evSeq{ρ:Type} (yo:Yo ρ) (sc:Sc) (a b:Evr) (st:ASt) (k:Kont ρ):Option ρ:=match sc with
 | .j σ x y=>(a none x st fun e V st'=>match e with
  | .normal=>σ.get st V st'
  | _=>none).bind fun d=>b yo y (σ.S st d) fun e V s=>k e (V++σ.ids) s
 | .jj σ x y=>(a none x st fun e V st'=>match e with
  | .normal=>match σ.get st V st' with
   | some d=>some (.inl d)
   | none=>none
  | e=>match k e V st' with
   | some r=>some (.inr r)
   | none=>none).bind fun(o:σ.D⊕ρ)=>sm o (fun d=>b yo y (σ.S st d) fun e V s=>k e (V++σ.ids) s) (fun r=>some r)
 | sc=>a yo sc.fst st fun e V st'=>match e with
  | .normal=>b yo sc.snd st' fun e V2 s=>k e (V2++V) s
  | e=>k e V st'
def subN:List Nat->List Nat->Bool
 | [],_=>true
 | k :: r,l=>match inN k l with
  | true=>subN r l
  | false=>false
def okX(σ τ:Sh):Bool:=match subN τ.kL σ.kL,subN τ.kH σ.kH,disj τ.kL (zO σ.L),disj τ.kH (zO σ.H)with
 | true,true,true,true=>true
 | _,_,_,_=>false
where disj:List Nat->List Nat->Bool
 | [],_=>true
 | k :: r,l=>match inN k l with
  | true=>false
  | false=>disj r l
def goO{δ ρ:Type} (o:Option δ) (f:δ->Option ρ):Option ρ:=match o with
 | some d=>f d
 | none=>none
theorem goO_some{δ ρ:Type} {o:Option δ} {f:δ->Option ρ} {r:ρ} (h:goO o f=some r):∃ d,o=some d/\f d=some r:=by
 unfold goO at h
 split at h
 ·exact⟨_,rfl,h⟩
 ·cases h
def evLoop{ρ:Type} (N:Nat) (yo:Yo ρ) (sc:Sc) (a:Evr) (st:ASt) (k:Kont ρ):Option ρ:=match sc with
 | .l σ x=>goO (σ.get st [] st) (zc (fun d rec=>a yo x (σ.S st d) fun e V st'=>match e with
  | .normal=>goO (σ.get st V st') rec
  | e=>k e (V++σ.ids) st') N)
 | .lx id σ τ x=>(goO (σ.get st [] st) (zc (fun d rec=>a none x (σ.S st d) fun e V st'=>match e with
  | .normal=>goO (σ.get st V st') rec
  | .exit i=>match Nat.beq i id,okX σ τ with
   | true,true=>τ.get st V st'
   | _,_=>none
  | _=>none) N)).bind fun d=>k (.exit id) τ.ids (τ.S st d)
 | .lxx id σ τ x=>(goO (σ.get st [] st) (zc (fun d rec=>a none x (σ.S st d) fun e V st'=>match e with
  | .normal=>goO (σ.get st V st') rec
  | .exit i=>match Nat.beq i id,okX σ τ with
   | true,true=>match τ.get st V st' with
    | some d=>some (.inl d)
    | none=>none
   | false,_=>match k (.exit i) (V++σ.ids) st' with
    | some r=>some (.inr r)
    | none=>none
   | _,_=>none
  | e=>match k e (V++σ.ids) st' with
   | some r=>some (.inr r)
   | none=>none) N)).bind fun(o:τ.D⊕ρ)=>sm o (fun d=>k (.exit id) τ.ids (τ.S st d)) (fun r=>some r)
 | _=>none
structure IT(X:Cx) where
 f:FuncId
 fn:Func
 C:List CapS
 E:List AS
 m:HL (capsLT C [])->Option (List (HL (asLT E [])))
 hf:X.P.funcs[f]?=some fn
 hn : (fn.name == "runtime.NumGoroutine") = false
 hb:fn.body.isNone=false
 hz:∀ d:HL (capsLT C []),capsFz (capsS C d).1=true
 ok:∀ d l,m d=some l->AItE X f (capsS C d).1 l (fun x=>(asS E x).1)
def rangeL{α δ ρ:Type} (step:α->δ->(δ->Option ρ)->Option ρ):List α->δ->(δ->Option ρ)->Option ρ
 | [],d,k=>k d
 | x :: l,d,k=>step x d fun d'=>rangeL step l d' k
def itT{X:Cx} {ρ:Type} (f:FuncId) (caps:List Cap) (K:(E:List AS)->List (HL (asLT E []))->Option ρ):List (IT X)->Option ρ
 | []=>none
 | e :: r=>match Nat.beq e.f f,capsGet (T:=[]) e.C caps ()with
  | true,some d=>(e.m d).bind fun l=>K e.E l
  | _,_=>itT f caps K r
def mvs:List (Nat×Nat)->ASt->ASt
 | [],st=>st
 | p :: l,st=>mvs l ⟨reL (mvId p.1 p.2) st.L,reH (mvId p.1 p.2) st.H⟩
def mvV:List (Nat×Nat)->List Nat
 | []=>[]
 | p :: l=>mvV l++[p.2,p.1]
def mvOk:List (Nat×Nat)->Bool
 | []=>true
 | p :: l=>match Nat.blt p.2 zU with
  | true=>mvOk l
  | false=>false
def asgC(n:Nat):Code->Option (List (Nat×Nat))
 | .region _ ⟨ops⟩ false=>asgO n ops
 | .skip=>some []
 | _=>none
def noL(σ:Sh):Bool:=match σ.L,σ.kL with
 | [],[]=>true
 | _,_=>false
def stepR{ρ:Type} (n:Nat) (σ:Sh) (ms:List (Nat×Nat)) (pl mv:List Nat) (E:List AS) (st:ASt) (a:Evr) (x:Sc) (k:Kont ρ) (e:HL (asLT E [])) (y:σ.D) (kk:σ.D->Option ρ):Option ρ:=
 a none x ⟨mvS ms (parL pl (asS E e).1 (reL (pinRe n) st.L)),(σ.S st y).H⟩ fun e V s=>match e with
  | .normal=>goO (σ.get st V s) kk
  | .ret=>k .ret ((V++σ.ids)++mv) ⟨reL (pinRe n) st.L,s.H⟩
  | .exit i=>k (.exit i) ((V++σ.ids)++mv) ⟨reL (pinRe n) st.L,s.H⟩
  | _=>none
def evRange{ρ:Type} (X:Cx) (n:Nat) (TI:List (IT X)) (m:Bool) (g:Operand) (pl:List Nat) (asg:Code) (a:Evr) (sc:Sc) (st0:ASt) (k:Kont ρ):Option ρ:=match sc with
 | .rf mv σ x=>match m,mvOk mv,noL σ,Nat.ble n zP with
  | true,true,true,true=>match ae X (mvs mv st0).L g,asgC n asg with
   | some (c,.c (.fn f caps)),some ms=>gd c (itT f caps (fun E l=>match Nat.beq E.length pl.length,allLt n pl,allLt n (ms.map (·.1))with
    | true,true,true=>goO (σ.get (mvs mv st0) [] (mvs mv st0)) fun y0=>rangeL (stepR n σ ms pl (mvV mv) E (mvs mv st0) a x k) l y0 fun y=>k .normal (σ.ids++mvV mv) ⟨reL (pinRe n) (mvs mv st0).L,(σ.S (mvs mv st0) y).H⟩
    | _,_,_=>none) TI)
   | _,_=>none
  | _,_,_,_=>none
 | _=>none
noncomputable def evc (X:Cx) (N n:Nat) (T:List (CT X)) (TI:List (IT X)):Bool->Code->{ρ:Type}->Yo ρ->Sc->ASt->Kont ρ->Option ρ
 | _,.skip,_,_,sc,st,k=>wks n sc.wis [] st fun V st'=>k .normal V st'
 | _,.exit id,_,_,sc,st,k=>wks n sc.wis [] st fun V st'=>k (.exit id) V st'
 | _,.ret,_,_,sc,st,k=>wks n sc.wis [] st fun V st'=>k .ret V st'
 | _,.label _,_,_,_,st,k=>k .normal [] st
 | _,.region _ ops true,_,_,sc,st,k=>fSt st fun st=>wks n sc.pre [] st fun V0 st=>fSt st fun st=>match Nat.beq ops.toList.length (cntT sc.drw.2.1)with
  | true=>evT X n T ops.toList sc.drw.1 sc.drw.2.1 ⟨Array.replicate (cntT sc.drw.2.1) false,true,true,true,sc.dal⟩ [] V0 [] st fun V st'=>wks n sc.drw.2.2 V st' fun V st'=>k .normal V st'
  | false=>none
 | _,.region _ ops false,_,yo,sc,st,k=>fSt st fun st=>evL X n T yo (zm ops.toList) sc.ins ops.toList [] [] [] st fun V st'=>k .normal V st'
 | m,.seq a b,_,yo,sc,st,k=>evSeq yo sc (fun yo sc st k=>evc X N n T TI m a yo sc st k) (fun yo sc st k=>evc X N n T TI m b yo sc st k) st k
 | m,.cond x a b,_,yo,sc,st,k=>match ae X st.L x with
  | some (g,.c (.val (.bool q)))=>gd g (cond q (evc X N n T TI m a yo sc.fst st k) (evc X N n T TI m b yo sc.snd st k))
  | _=>none
 | m,.block id a,_,yo,sc,st,k=>evc X N n T TI m a yo sc.fst st fun e V st'=>match e with
  | .exit i=>match Nat.beq i id with
   | true=>k .normal V st'
   | false=>k (.exit i) V st'
  | e=>k e V st'
 | m,.scope a,_,yo,sc,st,k=>evc X N n T TI m a yo sc.fst st fun e V st'=>match e with
  | .goto _=>none
  | e=>k e V st'
 | m,.loop a,_,yo,sc,st,k=>fSt st fun st=>evLoop N yo sc (fun yo sc st k=>evc X N n T TI m a yo sc st k) st k
 | m,.rangeFunc g ps asg body,_,_,sc,st,k=>fSt st fun st=>evRange X n TI m g ps.toList asg (fun yo sc st k=>evc X N n T TI false body yo sc st k) sc st k
 | _,_,_,_,_,_,_=>none
section
variable {X:Cx} {M:Bool} {N n:Nat} {rr:Option Nat} {T:List (CT X)} {TI:List (IT X)}
def evQ(X:Cx) (M:Bool) (n:Nat) {ρ:Type} (st:ASt) (k:Kont ρ):Exit->ASt->ρ->Prop:=fun e s r=>∃ V s',Wm X M n s s'/\KS V st s'/\k e V s'=some r
def YG{ρ:Type} (Γ:Cn X M n rr ρ) (yo:Yo ρ):Prop:=∀ (ops:List Oper) (Q:Exit->Act->World->Prop),YOk X n ops yo (fun l r st=>∀ a w,Γ.In r st a w->XL rr X.P ops.toArray Q l a w)
theorem YG.none{ρ:Type} {Γ:Cn X M n rr ρ}:YG Γ none:=fun _ _ _ h=>by cases h
def EvOk(X:Cx) (M:Bool) (n:Nat) (rr:Option Nat) (c:Code) (f:Evr):Prop:=
 ∀ (ρ:Type) (Γ:Cn X M n rr ρ) (yo:Yo ρ),YG Γ yo->∀ (sc:Sc) (st:ASt) (k:Kont ρ) (r:ρ),f yo sc st k=some r->GX Γ c r st (evQ X M n st k)
theorem evSeq_ok{ρ:Type} {Γ:Cn X M n rr ρ} {yo:Yo ρ} (hy:YG Γ yo) {c1 c2:Code} {a b:Evr} (ha:EvOk X M n rr c1 a) (hb:EvOk X M n rr c2 b) {sc:Sc} {st:ASt} {k:Kont ρ} {r:ρ} (h:evSeq yo sc a b st k=some r):GX Γ (.seq c1 c2) r st (evQ X M n st k):=by
 unfold evSeq at h
 split at h
 ·rename_i σ x y
  obtain⟨d,h1,h2⟩:=bd h;refine gx_seq (qi (gx_const (d0:=d) (ha _ (Γ.const r d) none YG.none _ _ _ _ h1)) fun e s r' ⟨hr,V,s',hw,hks,hs⟩=>?_);subst hr;cases e with
  | normal=>exact gx_weak (hw.trans (Sh.get_ok (Was.self σ st) hks hs).m) (qi (hb _ Γ yo hy _ _ _ _ h2) fun e s r2 ⟨V2,s2,hw2,hks2,hs2⟩=>⟨_,s2,hw2,(Sh.ks σ st d).trans hks2,hs2⟩)
  | _=>cases hs
 ·rename_i σ x y
  obtain⟨o,h1,h2⟩:=bd h;refine gx_seq (qi (gx_const (d0:=o) (ha _ (Γ.const r o) none YG.none _ _ _ _ h1)) fun e s r' ⟨hr,V,s',hw,hks,hs⟩=>?_);subst hr;cases e with
  | normal=>
   simp only at hs
   split at hs
   ·rename_i d hd
    cases hs;exact gx_weak (hw.trans (Sh.get_ok (Was.self σ st) hks hd).m) (qi (hb _ Γ yo hy _ _ _ _ h2) fun e s r2 ⟨V2,s2,hw2,hks2,hs2⟩=>⟨_,s2,hw2,(Sh.ks σ st d).trans hks2,hs2⟩)
   ·cases hs
  | _=>
   simp only at hs
   split at hs
   ·rename_i q hq
    cases hs;cases h2;exact⟨V,s',hw,hks,hq⟩
   ·cases hs
 ·refine gx_seq (qi (ha _ Γ yo hy _ _ _ _ h) fun e s r' ⟨V,s',hw,hks,hs⟩=>?_)
  cases e with
  | normal=>exact gx_weak hw (qi (hb _ Γ yo hy _ _ _ _ hs) fun e s r2 ⟨V2,s2,hw2,hks2,hs2⟩=>⟨_,s2,hw2,hks.trans hks2,hs2⟩)
  | _=>exact⟨V,s',hw,hks,hs⟩
theorem subN_mem{q:Nat} {l:List Nat}:∀ {ks:List Nat},subN ks l=true->q∈ks->inN q l=true
 | [],_,h=>by cases h
 | k :: r,h,hm=>by
  unfold subN at h
  split at h
  ·rename_i h1
   rcases List.mem_cons.1 hm with rfl | hm
   ·exact h1
   ·exact subN_mem h hm
  ·cases h
theorem disj_mem{q:Nat} {l:List Nat}:∀ {ks:List Nat},okX.disj ks l=true->q∈ks->inN q l=false
 | [],_,h=>by cases h
 | k :: r,h,hm=>by
  unfold okX.disj at h
  split at h
  ·cases h
  ·rename_i h1
   rcases List.mem_cons.1 hm with rfl | hm
   ·exact h1
   ·exact disj_mem h hm
theorem inN_mem{q:Nat}:∀ {l:List Nat},inN q l=true->q∈l
 | [],h=>by cases h
 | k :: r,h=>by
  unfold inN at h
  split at h
  ·rename_i e
   rw[Nat.eq_of_beq_eq_true e];exact List.mem_cons_self
  ·exact List.mem_cons_of_mem _ (inN_mem h)
theorem keepL_key{p:Nat×SV}:∀ {ks:List Nat} {L:Sl},p∈xp ks L->p.1∈ks
 | [],_,h=>by cases h
 | k :: r,L,h=>by
  unfold xp at h
  split at h
  ·split at h
   ·rcases List.mem_cons.1 h with rfl | h
    ·exact List.mem_cons_self
    ·exact List.mem_cons_of_mem _ (keepL_key h)
   ·exact List.mem_cons_of_mem _ (keepL_key h)
  ·exact List.mem_cons_of_mem _ (keepL_key h)
theorem keepH_key{p:Nat×Blk}:∀ {ks:List Nat} {L:Hp},p∈qz ks L->p.1∈ks
 | [],_,h=>by cases h
 | k :: r,L,h=>by
  unfold qz at h
  split at h
  ·split at h
   ·rcases List.mem_cons.1 h with rfl | h
    ·exact List.mem_cons_self
    ·exact List.mem_cons_of_mem _ (keepH_key h)
   ·exact List.mem_cons_of_mem _ (keepH_key h)
  ·exact List.mem_cons_of_mem _ (keepH_key h)
theorem mem_keepL{q:Nat} {v:SV}:∀ {ks:List Nat} {L:Sl},q∈ks->lk L q=some v->v.free=true->(q,v)∈xp ks L
 | [],_,h,_,_=>by cases h
 | k :: r,L,h,hl,hf=>by
  unfold xp
  rcases List.mem_cons.1 h with rfl | h
  ·simp only[hl,hf]; exact List.mem_cons_self
  ·have:=mem_keepL h hl hf
   split
   ·split
    ·exact List.mem_cons_of_mem _ this
    ·exact this
   ·exact this
theorem mem_keepH{q:Nat} {v:Blk}:∀ {ks:List Nat} {L:Hp},q∈ks->lk L q=some v->v.free=true->(q,v)∈qz ks L
 | [],_,h,_,_=>by cases h
 | k :: r,L,h,hl,hf=>by
  unfold qz
  rcases List.mem_cons.1 h with rfl | h
  ·simp only[hl,hf]; exact List.mem_cons_self
  ·have:=mem_keepH h hl hf
   split
   ·split
    ·exact List.mem_cons_of_mem _ this
    ·exact this
   ·exact this
theorem Was.out{σ τ:Sh} (hx:okX σ τ=true) (st:ASt) (d:σ.D):Was τ st (σ.S st d):=by
 unfold okX at hx
 split at hx
 ·rename_i h1 h2 h3 h4
  refine⟨fun p hp _=>?_,fun p hp _=>?_⟩
  ·have hk:=keepL_key hp
   obtain⟨e1,e2⟩:=keepL_mem hp;exact(Was.step σ st d).1 p (mem_keepL (inN_mem (subN_mem h1 hk)) e1 e2) (disj_mem h3 hk)
  ·have hk:=keepH_key hp
   obtain⟨e1,e2⟩:=qr hp;exact(Was.step σ st d).2 p (mem_keepH (inN_mem (subN_mem h2 hk)) e1 e2) (disj_mem h4 hk)
 ·cases hx
theorem evLoop_ok{ρ:Type} {Γ:Cn X M n rr ρ} {yo:Yo ρ} (hy:YG Γ yo) {c:Code} {a:Evr} (ha:EvOk X M n rr c a) {sc:Sc} {st:ASt} {k:Kont ρ} {r:ρ} (h:evLoop N yo sc a st k=some r):GX Γ (.loop c) r st (evQ X M n st k):=by
 unfold evLoop at h
 split at h
 ·rename_i σ x
  obtain⟨d,h1,h2⟩:=goO_some h;refine gx_loop (fun(y:Nat×σ.D)=>σ.S st y.2) (fun y r=>zc _ y.1 y.2=some r) (fun y=>y.1) (N,d) h2 (Sh.get_ok (Was.self σ st) (KS.refl (V:=[]) st) h1).m fun y r hy'=>?_
  obtain⟨m,d2⟩:=y;cases m with
  | zero=>cases hy'
  | succ m=>
   refine qi (ha _ Γ yo hy _ _ _ _ hy') fun e s r' ⟨V,s',hw,hks,hs⟩=>?_
   cases e with
   | normal=>
    obtain⟨d3,h3,h4⟩:=goO_some hs;exact⟨(m,d3),h4,Nat.lt_succ_self _,hw.trans (Sh.get_ok (Was.step σ st d2) hks h3).m⟩
   | _=>exact⟨_,s',hw,(Sh.ks σ st d2).trans hks,hs⟩
 ·rename_i id σ τ x
  obtain⟨o,h,h5⟩:=bd h;obtain⟨d,h1,h2⟩:=goO_some h;refine gx_loop (fun(y:Nat×σ.D)=>σ.S st y.2) (fun y r'=>zc _ y.1 y.2=some o/\r'=r) (fun y=>y.1) (N,d) ⟨h2,rfl⟩ (Sh.get_ok (Was.self σ st) (KS.refl (V:=[]) st) h1).m fun y r' hy'=>?_
  obtain⟨m,d2⟩:=y;obtain⟨hy',rfl⟩:=hy';cases m with
  | zero=>cases hy'
  | succ m=>
   refine qi (gx_const (d0:=o) (ha _ (Γ.const r' o) none YG.none _ _ _ _ hy')) fun e s r2 ⟨hr,V,s',hw,hks,hs⟩=>?_
   subst hr;cases e with
   | normal=>
    obtain⟨d3,h3,h4⟩:=goO_some hs;exact⟨(m,d3),⟨h4,rfl⟩,Nat.lt_succ_self _,hw.trans (Sh.get_ok (Was.step σ st d2) hks h3).m⟩
   | exit i=>
    simp only at hs
    split at hs
    ·rename_i hi hx
     have:=Nat.eq_of_beq_eq_true hi
     subst this;exact⟨_,_,hw.trans (Sh.get_ok (Was.out hx st d2) hks hs).m,Sh.ks τ st o,h5⟩
    ·cases hs
   | _=>cases hs
 ·rename_i id σ τ x
  obtain⟨o,h,h5⟩:=bd h;obtain⟨d,h1,h2⟩:=goO_some h;refine gx_loop (fun(y:Nat×σ.D)=>σ.S st y.2) (fun y r'=>zc _ y.1 y.2=some o/\r'=r) (fun y=>y.1) (N,d) ⟨h2,rfl⟩ (Sh.get_ok (Was.self σ st) (KS.refl (V:=[]) st) h1).m fun y r' hy'=>?_
  obtain⟨m,d2⟩:=y;obtain⟨hy',rfl⟩:=hy';cases m with
  | zero=>cases hy'
  | succ m=>
   refine qi (gx_const (d0:=o) (ha _ (Γ.const r' o) none YG.none _ _ _ _ hy')) fun e s r2 ⟨hr,V,s',hw,hks,hs⟩=>?_
   subst hr;have key:∀ e',(match k e' (V++σ.ids) s' with
     | some r=>some (Sum.inr r)
     | none=>(none:Option (τ.D⊕ρ)))=some o->evQ X M n st k e' s r2:=fun e' hs=>by
    split at hs
    ·rename_i q hq
     cases hs;cases h5;exact⟨_,s',hw,(Sh.ks σ st d2).trans hks,hq⟩
    ·cases hs
   cases e with
   | normal=>
    obtain⟨d3,h3,h4⟩:=goO_some hs;exact⟨(m,d3),⟨h4,rfl⟩,Nat.lt_succ_self _,hw.trans (Sh.get_ok (Was.step σ st d2) hks h3).m⟩
   | exit i=>
    simp only at hs
    split at hs
    ·rename_i hi hx
     have:=Nat.eq_of_beq_eq_true hi
     subst this
     split at hs
     ·rename_i d4 hd4
      cases hs;exact⟨_,_,hw.trans (Sh.get_ok (Was.out hx st d2) hks hd4).m,Sh.ks τ st d4,h5⟩
     ·cases hs
    ·exact key _ hs
    ·cases hs
   | _=>exact key _ hs
 ·cases h
theorem Wm.mv{i j:Nat} (hj:Nat.blt j zU=true) {st:ASt}:Wm X true n st ⟨reL (mvId i j) st.L,reH (mvId i j) st.H⟩:=by
 rintro R W Bi a w ⟨ks,env,B,w0,H,hM,hA⟩;obtain⟨H',h1,h2⟩:=HR.re (mvId_ok (i:=i) (j:=j)) hA.heap;refine⟨ks,upd env j (env i),B,w0,H',hM,hA.size,hA.defs,fun s sv hs=>?_,h2,hA.sh.weak (h1.append_right _),hA.sub,hA.new,pin_upd hA.pin (fun q hp=>by have h1:=hM.2 rfl _ _ hp; have h2:=zk hj; omega),hA.base,hA.glob⟩;obtain⟨u,h3,rfl⟩:=lk_reL hs;obtain⟨v,h4,h5⟩:=hA.has s u h3;exact⟨v,h4,VR.re mvId_ok h5⟩
theorem mvs_ok:∀ {l:List (Nat×Nat)} {st:ASt},mvOk l=true->Wm X true n st (mvs l st)
 | [],st,_=>Wm.refl st
 | p :: l,st,h=>by
  unfold mvOk at h
  split at h
  ·rename_i h1
   exact(Wm.mv h1).trans (mvs_ok h)
  ·cases h
theorem asgC_ok{c:Code} {ms:List (Nat×Nat)} (h:asgC n c=some ms):Asg n c ms:=by
 unfold asgC at h
 split at h
 ·exact Asg.region h
 ·cases h; exact Asg.skip
 ·cases h
theorem asS_length:∀ {A:List AS} {T:List Type} (d:HL (asLT A T)),(asS A d).1.length=A.length
 | [],_,_=>rfl
 | x :: A,T,d=>by
  unfold asS;rw[List.length_cons,List.length_cons,asS_length]
theorem capsRe_free{φ:Re}:∀ {cs:List Cap},capsFz cs=true->capsRe φ cs=some cs
 | [],_=>rfl
 | .id _ :: _,h=>by cases h
 | .fz g x :: cs,h=>by
  unfold capsRe;rw[capsRe_free (cs:=cs) h]
theorem sc_re_free{φ:Re} {c:SC} (h:c.free=true):c.re φ=c:=by
 cases c with
 | fn f cs=>simp only[SC.re]; rw[capsRe_free h]
 | _=>first | rfl | cases h
theorem reCs_free{φ:Re}:∀ {cs:List SC},scFree cs=true->reCs φ cs=cs
 | [],_=>rfl
 | c :: r,h=>by
  unfold scFree at h
  split at h
  ·rename_i e
   show c.re φ :: reCs φ r=_;rw[sc_re_free e,reCs_free h]
  ·cases h
theorem sa_re_free{φ:Re} {x:SA} (h:x.free=true):x.re φ=x:=by
 cases x with
 | c x=>simp only[SA.re]; rw[sc_re_free h]
 | agg cs=>simp only[SA.re]; rw[reCs_free h]
 | arr g l=>rfl
theorem reAs_free{φ:Re}:∀ {xs:List SA},qN xs=true->reAs φ xs=xs
 | [],_=>rfl
 | c :: r,h=>by
  unfold qN at h
  split at h
  ·rename_i e
   show c.re φ :: reAs φ r=_;rw[sa_re_free e,reAs_free h]
  ·cases h
theorem sv_re_free{φ:Re} {v:SV} (h:v.free=true):v.re φ=v:=by
 cases v with
 | a x=>simp only[SV.re]; rw[sa_re_free h]
 | may g x=>simp only[SV.re]; rw[sa_re_free h]
 | tup xs=>simp only[SV.re]; rw[reAs_free h]
theorem blk_re_free{φ:Re} {b:Blk} (h:b.free=true):b.re φ=b:=by
 cases b with
 | cells t cs=>simp only[Blk.re]; rw[reCs_free h]
 | mrow T T' g l c q=>rcases q with _ | ⟨i,_ | d⟩<;>first | rfl | cases h
 | _=>first | rfl | cases h
theorem kl_re(φ:Re) (L:Sl) {V:List Nat}:KL V L (reL φ L):=Kp.map (f:=fun v=>v.re φ) (fun _ h=>sv_re_free h) fun _ _ h=>lk_reL h
theorem kh_mv(i j:Nat):∀ H:Hp,KH [j,i] H (reH (mvId i j) H)
 | []=>Kp.refl []
 | (k,b) :: r=>fun q v hq hl=>by
  obtain⟨h1,h2⟩:=zA hq;obtain⟨h2,_⟩:=zA h2;have ih:=kh_mv i j r q v hq;unfold reH at hl;rw[zu];have hφ:mvId i j b.kd k=match Nat.beq k i with
   | true=>some j
   | false=>match Nat.beq k j with
    | true=>none
    | false=>some k:=rfl
  cases e1:Nat.beq k i with
  | true=>
   rw[hφ,e1]at hl;dsimp only at hl;rw[zu,if_neg h1]at hl
   have:=Nat.eq_of_beq_eq_true e1
   rw[if_neg (by omega)];exact ih hl
  | false=>
   cases e2:Nat.beq k j with
   | true=>
    rw[hφ,e1,e2]at hl;dsimp only at hl
    have:=Nat.eq_of_beq_eq_true e2
    rw[if_neg (by omega)];exact ih hl
   | false=>
    rw[hφ,e1,e2]at hl;dsimp only at hl;rw[zu]at hl
    split at hl
    ·rename_i e
     cases hl;rw[if_pos e];exact⟨b,rfl,fun hf=>blk_re_free hf⟩
    ·rename_i e
     rw[if_neg e];exact ih hl
theorem mv_ks:∀ (l:List (Nat×Nat)) (st:ASt),KS (mvV l) st (mvs l st)
 | [],st=>KS.refl st
 | p :: l,st=>by
  have h1:KS [p.2,p.1] st ⟨reL (mvId p.1 p.2) st.L,reH (mvId p.1 p.2) st.H⟩:=⟨kl_re _ _,kh_mv _ _ _⟩
  exact h1.trans (mv_ks l _)
theorem Sh.get_okH{X:Cx} {n:Nat} {σ:Sh} {st st':ASt} {h0:Hp} {V:List Nat} {d:σ.D} (hw:∀ p∈qz σ.kH st.H,inN p.1 (zO σ.H)=false->lk h0 p.1=some p.2) (hs:KH V h0 st'.H) (h:σ.get st V st'=some d):Wk X n st' ⟨st'.L,(σ.S st d).H⟩:=by
 unfold Sh.get at h
 split at h
 ·rename_i k1 k2 k3
  split at h
  ·rename_i h0 e0
   split at h
   ·rename_i u e1
    split at h
    ·rename_i u2 e2
     cases h;obtain⟨h1,h2⟩:=hpGet_ok e1;obtain⟨h3,h4⟩:=slGet_ok e2;have hkH:∀ p∈qz σ.kH st.H,lk st'.H p.1=some p.2:=fun p hp=>by
      obtain⟨g1,g2,v,g3⟩:=okK_mem k2 hp;obtain⟨u,g4,g5⟩:=hs p.1 v g1 g3;rw[hw p hp g2]at g4;cases g4;rw[g3,g5 (qr hp).2]
     rintro R W Bi M a w ⟨ks,env,B,w0,H,hM,hA⟩;have hsub:SubH st'.H (h0++qz σ.kH st.H):=subH_app (pickH_ok e0) hkH (by rw[keys_pick e0]; exact k3);obtain⟨H',hA'⟩:=hA.weak (st':=⟨[],h0++qz σ.kH st.H⟩) .nil hsub;refine⟨ks,env,B,w0,H',hM,hA'.size,hA'.defs,hA.has,?_,hA'.sh,hA'.sub,hA'.new,hA'.pin,hA'.base,hA'.glob⟩;show HR env B w0 ((hpS σ.H (slS σ.L (ofT σ.T (toT σ.T u2))).2).1++qz σ.kH st.H) H';rw[ofT_toT,h3];obtain⟨H1,H2,e,p1,p2⟩:=Sh.get_ok.HR.split (l:=h0) hA'.heap;rw[e];exact(h2 _ _ _ _ p1).append p2
    ·cases h
   ·cases h
  ·cases h
 ·cases h
theorem itT_some{ρ:Type} {f:FuncId} {caps:List Cap} {K:(E:List AS)->List (HL (asLT E []))->Option ρ} {r:ρ}:∀ {TI:List (IT X)},itT f caps K TI=some r->∃ e:IT X,e.f=f/\∃ l,AItE X f caps l (fun x=>(asS e.E x).1)/\capsFz caps=true/\K e.E l=some r
 | [],h=>by cases h
 | e :: TI,h=>by
  unfold itT at h
  split at h
  ·rename_i d hf hd
   obtain⟨l,h1,h2⟩:=bd h;have hf':=Nat.eq_of_beq_eq_true hf;have hc:=capsGet_ok hd
   have:=e.ok d l h1
   have hz:=e.hz d;rw[hc]at this hz;exact⟨e,hf',l,hf' ▸ this,hz,h2⟩
  ·exact itT_some h
theorem evRange_ok(hM:M=true) (hrr:rr=none) {ρ:Type} {Γ:Cn X M n rr ρ} {g:Operand} {pl:List Nat} {asg body:Code} {m:Bool} {a:Evr} (ha:∀ id,EvOk X false n (some id) body a) {sc:Sc} {st:ASt} {k:Kont ρ} {r:ρ} (h:evRange X n TI m g pl asg a sc st k=some r):GX Γ (.rangeFunc g pl.toArray asg body) r st (evQ X M n st k):=by
 subst hM;subst hrr;unfold evRange at h
 split at h
 ·rename_i mv σ x
  split at h
  ·rename_i hmv hnL hn
   split at h
   ·rename_i c f caps ms hg hasg
    obtain⟨hc,h⟩:=zI h;obtain⟨e,hef,l,hit,hfz,h⟩:=itT_some h;dsimp only at h
    split at h
    ·rename_i hE hpl hms
     obtain⟨y0,hy0,hrl⟩:=goO_some h;have hE':=Nat.eq_of_beq_eq_true hE;subst hef;have hkl:∀ {V:List Nat} {h':Hp},KH V (mvs mv st).H h'->KS (V++mvV mv) st ⟨reL (pinRe n) (mvs mv st).L,h'⟩:=fun {V h'} hk=>(mv_ks mv st).trans ⟨kl_re _ _,hk⟩
     refine gx_weak (mvs_ok hmv) (qi (gx_ax (ax_rangeE (Q:=fun e s=>evQ X true n st k e s r) hg hc hfz e.hf e.hn e.hb hit (fun x=>by rw[asS_length]; exact hE') hpl (asgC_ok hasg) hms hn (fun y=>(σ.S (mvs mv st) y).H) (fun l y=>rangeL (stepR n σ ms pl (mvV mv) e.E (mvs mv st) a x k) l y (fun y=>k .normal (σ.ids++mvV mv) ⟨reL (pinRe n) (mvs mv st).L,(σ.S (mvs mv st) y).H⟩)=some r) (fun e h'=>∃ V,KS V st ⟨reL (pinRe n) (mvs mv st).L,h'⟩/\k e V ⟨reL (pinRe n) (mvs mv st).L,h'⟩=some r) y0 hrl ?_ ?_ ?_ ?_)) fun e s r' ⟨h1,h2⟩=>by rw[h2]; exact h1)
     ·exact(Sh.get_okH (h0:=(mvs mv st).H) (fun p hp _=>(qr hp).1) (Kp.refl _) hy0).m
     ·intro id q rest y hq
      have hq':stepR n σ ms pl (mvV mv) e.E (mvs mv st) a x k q y (fun d'=>rangeL (stepR n σ ms pl (mvV mv) e.E (mvs mv st) a x k) rest d' (fun y=>k .normal (σ.ids++mvV mv) ⟨reL (pinRe n) (mvs mv st).L,(σ.S (mvs mv st) y).H⟩))=some r:=hq;unfold stepR at hq';refine ax_mono (ax_gx (r:=r) fun R W Bi=>ha id _ _ none YG.none _ _ _ _ hq') fun e2 s ⟨V,s',hw,hks,hs⟩=>?_
      cases e2 with
      | normal=>
       obtain⟨d2,h3,h4⟩:=goO_some hs;exact .inl ⟨rfl,d2,h4,_,hw.trans (Sh.get_okH (Was.step σ (mvs mv st) y).2 hks.2 h3).m⟩
      | ret=>exact .inr ⟨(fun h=>by cases h),rfl,s'.H,⟨_,hkl ((Sh.ks σ (mvs mv st) y).2.trans hks.2),hs⟩,s'.L,hw⟩
      | exit i=>exact .inr ⟨(fun h=>by cases h),rfl,s'.H,⟨_,hkl ((Sh.ks σ (mvs mv st) y).2.trans hks.2),hs⟩,s'.L,hw⟩
      | _=>cases hs
     ·intro y hy
      exact⟨_,_,Wm.refl _,hkl (Sh.ks σ (mvs mv st) y).2,hy⟩
     ·rintro e2 h' ⟨V,h3,h4⟩
      exact⟨V,_,Wm.refl _,h3,h4⟩
    ·cases h
   ·cases h
  ·cases h
 ·cases h
theorem evc_ok(hX:X.tt.ok X.P) (hm:X.P.follows .mixedOrders=true):∀ (c:Code) (m M:Bool) (rr:Option Nat),(m=true->M=true/\rr=none)->EvOk X M n rr c (fun yo sc st k=>evc X N n T TI m c yo sc st k)
 | .skip,m,M,rr,_=>fun ρ Γ yo hy sc st k r h=>by
  obtain⟨V,s',hw,hks,hs⟩:=wks_ok (X:=X) (KS.refl (V:=[]) st) (show wks n sc.wis [] st (fun V st'=>k .normal V st')=some r by cases m<;>exact h);exact qi (gx_ax (ax_skip (Q:=fun e s=>evQ X M n st k e s r) ⟨V,s',hw.m,hks,hs⟩)) fun e s r' ⟨h1,h2⟩=>h2 ▸ h1
 | .exit id,m,M,rr,_=>fun ρ Γ yo hy sc st k r h=>by
  obtain⟨V,s',hw,hks,hs⟩:=wks_ok (X:=X) (KS.refl (V:=[]) st) (show wks n sc.wis [] st (fun V st'=>k (.exit id) V st')=some r by cases m<;>exact h);exact qi (gx_ax (ax_exit (Q:=fun e s=>evQ X M n st k e s r) ⟨V,s',hw.m,hks,hs⟩)) fun e s r' ⟨h1,h2⟩=>h2 ▸ h1
 | .ret,m,M,rr,_=>fun ρ Γ yo hy sc st k r h=>by
  obtain⟨V,s',hw,hks,hs⟩:=wks_ok (X:=X) (KS.refl (V:=[]) st) (show wks n sc.wis [] st (fun V st'=>k .ret V st')=some r by cases m<;>exact h);exact qi (gx_ax (ax_ret (Q:=fun e s=>evQ X M n st k e s r) ⟨V,s',hw.m,hks,hs⟩)) fun e s r' ⟨h1,h2⟩=>h2 ▸ h1
 | .label l,m,M,rr,_=>fun ρ Γ yo hy sc st k r h=>by
  exact qi (gx_ax (ax_label (Q:=fun e s=>evQ X M n st k e s r) ⟨[],st,Wm.refl _,KS.refl st,by cases m<;>exact h⟩)) fun e s r' ⟨h1,h2⟩=>h2 ▸ h1
 | .region id ops false,m,M,rr,_=>fun ρ Γ yo hy sc st k r h=>by
  have h':evL X n T yo (zm ops.toList) sc.ins ops.toList [] [] [] st (fun V st'=>k .normal V st')=some r:=by cases m<;>exact(fSt_eq st _).symm.trans h
  intro a w hi;have hZ:ZOk X n ops.toList (fun l r s0=>∀ a w,Γ.In r s0 a w->XL rr X.P ops.toList.toArray (fun e a w=>∃ s r',evQ X M n st k e s r'/\Γ.In r' s a w) l a w):=⟨fun hs hr a w hi=>xl_cons (Γ.step hs hi fun a w h=>hr a w h),fun hw hr a w hi=>hr a w (Γ.weak hw.m hi)⟩
  have:=c_region (id:=id) (xg (st0:=st) (T:=T) (is:=sc.ins) (V:=[]) (A:=[]) hX hZ (hy _ _) GInv.nil (KS.refl (V:=[]) st) h' (fun V s' r' hks hs a w hi=>x_end ⟨s',r',⟨V,s',Wm.refl _,hks,hs⟩,hi⟩) a w hi)
  exact this
 | .region id ops true,m,M,rr,_=>fun ρ Γ yo hy sc st k r h=>by
  have h':wks n sc.pre [] st (fun V0 st=>fSt st fun st=>match Nat.beq ops.toList.length (cntT sc.drw.2.1)with
   | true=>evT X n T ops.toList sc.drw.1 sc.drw.2.1 ⟨Array.replicate (cntT sc.drw.2.1) false,true,true,true,sc.dal⟩ [] V0 [] st fun V st'=>wks n sc.drw.2.2 V st' fun V st'=>k .normal V st'
   | false=>none)=some r:=by cases m<;>exact(fSt_eq st _).symm.trans h
  obtain⟨V0,st1,hw0,h0,h'⟩:=wks_ok (X:=X) (KS.refl (V:=[]) st) h';rw[fSt_eq]at h'
  split at h'
  ·rename_i e
   have hl:=Nat.eq_of_beq_eq_true e
   have:=ax_draw (X:=X) (M:=M) (n:=n) (st:=st1) (Q:=fun e s=>evQ X M n st k e s r) (ops:=ops.toList) (id:=id) (r:=rr) sc.drw.1 hm hl (evT_ok (t:=sc.drw.2.1) hX (k:=fun V st'=>wks n sc.drw.2.2 V st' fun V st'=>k .normal V st') (fun V st' hks hs=>by
    obtain⟨V2,s2,hw,hks2,hs2⟩:=wks_ok (X:=X) hks hs;exact⟨V2,s2,hw.m,hks2,hs2⟩) GInv.nil h0 h')
   exact gx_weak hw0.m (qi (gx_ax this) fun e s r' ⟨h1,h2⟩=>h2 ▸ h1)
  ·cases h'
 | .seq a b,m,M,rr,hmm=>fun ρ Γ yo hy sc st k r h=>evSeq_ok hy (evc_ok hX hm a m M rr hmm) (evc_ok hX hm b m M rr hmm) (show evSeq yo sc (fun yo sc st k=>evc X N n T TI m a yo sc st k) (fun yo sc st k=>evc X N n T TI m b yo sc st k) st k=some r by cases m<;>exact h)
 | .cond x a b,m,M,rr,hmm=>fun ρ Γ yo hy sc st k r h=>by
  have h':(match ae X st.L x with
   | some (g,.c (.val (.bool q)))=>gd g (cond q (evc X N n T TI m a yo sc.fst st k) (evc X N n T TI m b yo sc.snd st k))
   | _=>none)=some r:=by cases m<;>exact h
  split at h'
  ·rename_i g q hx
   obtain⟨hg,h'⟩:=zI h';exact gx_cond hx hg (fun hq=>evc_ok hX hm a m M rr hmm _ Γ yo hy _ _ _ _ (cond_t hq h')) (fun hq=>evc_ok hX hm b m M rr hmm _ Γ yo hy _ _ _ _ (cond_f hq h'))
  ·cases h'
 | .block id a,m,M,rr,hmm=>fun ρ Γ yo hy sc st k r h=>by
  have h':(evc X N n T TI m a yo sc.fst st fun e V st'=>match e with
   | .exit i=>match Nat.beq i id with
    | true=>k .normal V st'
    | false=>k (.exit i) V st'
   | e=>k e V st')=some r:=by cases m<;>exact h
  refine gx_block (qi (evc_ok hX hm a m M rr hmm _ Γ yo hy _ _ _ _ h') fun e s r' ⟨V,s',hw,hks,hs⟩=>?_);cases e with
  | exit i=>
   show match Nat.beq i id with | true=>evQ X M n st k .normal s r' | false=>evQ X M n st k (.exit i) s r'
   simp only at hs
   split at hs
   ·exact⟨V,s',hw,hks,hs⟩
   ·exact⟨V,s',hw,hks,hs⟩
  | _=>exact⟨V,s',hw,hks,hs⟩
 | .scope a,m,M,rr,hmm=>fun ρ Γ yo hy sc st k r h=>by
  have h':(evc X N n T TI m a yo sc.fst st fun e V st'=>match e with
   | .goto _=>none
   | e=>k e V st')=some r:=by cases m<;>exact h
  refine gx_scope (qi (evc_ok hX hm a m M rr hmm _ Γ yo hy _ _ _ _ h') fun e s r' ⟨V,s',hw,hks,hs⟩=>?_);cases e with
  | goto l=>cases hs
  | _=>exact⟨V,s',hw,hks,hs⟩
 | .loop a,m,M,rr,hmm=>fun ρ Γ yo hy sc st k r h=>evLoop_ok hy (evc_ok hX hm a m M rr hmm) (show evLoop N yo sc (fun yo sc st k=>evc X N n T TI m a yo sc st k) st k=some r by cases m<;>exact(fSt_eq st _).symm.trans h)
 | .rangeFunc g ps asg body,m,M,rr,hmm=>fun ρ Γ yo hy sc st k r h=>by
  have h':evRange X n TI m g ps.toList asg (fun yo sc st k=>evc X N n T TI false body yo sc st k) sc st k=some r:=by cases m<;>exact(fSt_eq st _).symm.trans h
  cases m with
  | false=>
   unfold evRange at h'
   split at h'
   ·cases h'
   ·cases h'
  | true=>
   obtain⟨h1,h2⟩:=hmm rfl;exact evRange_ok h1 h2 (fun id=>evc_ok hX hm body false false (some id) (fun h=>by cases h)) h'
 | .goto _,m,_,_,_=>fun _ _ _ _ _ _ _ _ h=>by cases m<;>cases h
 | .refuse _,m,_,_,_=>fun _ _ _ _ _ _ _ _ h=>by cases m<;>cases h
structure Rs where
 R:VS
 H:List (Nat×BS):=[]
 k:List Nat:=[]
abbrev Rs.ty (R:Rs):Type:=TupT (R.R.LT (hpLT R.H []))
def Rs.out(R:Rs) (H0:Hp) (r:R.ty):SV×Hp:=((R.R.S (ofT _ r)).1,(hpS R.H (R.R.S (ofT _ r)).2).1++qz R.k H0)
def Rs.get(R:Rs) (H0:Hp) (V:List Nat) (H:Hp) (sv:SV):Option R.ty:=
 match okK V (zO R.H) H (qz R.k H0),nodupB (zO R.H++zO (qz R.k H0))with
 | true,true=>match pickH H (zO R.H)with
  | some h=>match hpGet (T:=[]) R.H h ()with
   | some u=>match R.R.get sv u with
    | some u=>some (toT _ u)
    | none=>none
   | none=>none
  | none=>none
 | _,_=>none
theorem Rs.get_ok{R:Rs} {st0 st:ASt} {V:List Nat} {sv:SV} {r:R.ty} (hs:KS V st0 st) (h:R.get st0.H V st.H sv=some r):∃ hh,VI sv (R.out st0.H r).1/\SubH st.H hh/\∀ env B w H,HR env B w hh H->HR env B w (R.out st0.H r).2 H:=by
 unfold Rs.get at h
 split at h
 ·rename_i k2 k3
  split at h
  ·rename_i h0 e0
   split at h
   ·rename_i u e1
    split at h
    ·rename_i u2 e2
     cases h;obtain⟨h1,h2⟩:=hpGet_ok e1;obtain⟨h3,h4⟩:=VS.get_ok e2;have hkH:∀ p∈qz R.k st0.H,lk st.H p.1=some p.2:=fun p hp=>by
      obtain⟨g1,g2,v,g3⟩:=okK_mem k2 hp;obtain⟨u,g4,g5⟩:=hs.2 p.1 v g1 g3;rw[(qr hp).1]at g4;cases g4;rw[g3,g5 (qr hp).2]
     refine⟨h0++qz R.k st0.H,?_,subH_app (pickH_ok e0) hkH (by rw[keys_pick e0]; exact k3),fun env B w H hh=>?_⟩
     ·show VI sv (R.R.S (ofT _ (toT _ u2))).1
      rw[ofT_toT];exact h4
     ·show HR env B w ((hpS R.H (R.R.S (ofT _ (toT _ u2))).2).1++qz R.k st0.H) H
      rw[ofT_toT,h3];obtain⟨H1,H2,e,p1,p2⟩:=Sh.get_ok.HR.split (l:=h0) hh;rw[e];exact(h2 _ _ _ _ p1).append p2
    ·cases h
   ·cases h
  ·cases h
 ·cases h
noncomputable def evFin (X:Cx) (res:List ResultVar) (R:Rs) (H0:Hp):Kont R.ty
 | .goto _,_,_=>none
 | .exit _,_,_=>none
 | .panic _,_,_=>none
 | .outgrown,_,_=>none
 | _,V,st=>match ares X st res with
  | some (c,sv)=>gd c (R.get H0 V st.H sv)
  | none=>none
abbrev argT (A:List AS) (HA:List (Nat×BS)):Type:=HL (asLT A (hpLT HA []))
def inS(A:List AS) (HA:List (Nat×BS)) (d:argT A HA):List SA×Hp:=((asS A d).1,(hpS HA (asS A d).2).1)
noncomputable def evF (X:Cx) (N n:Nat) (T:List (CT X)) (TI:List (IT X)) (c:Code) (sc:Sc) (res:List ResultVar) (A:List AS) (HA:List (Nat×BS)) (R:Rs) (d:argT A HA):Option R.ty:=
 evc X N n T TI true c none sc ⟨argL 0 (inS A HA d).1,(inS A HA d).2⟩ (evFin X res R (inS A HA d).2)
theorem AC.monoI{f:FuncId} {args:List SA} {h:Hp} {Q Q2:SV->Hp->Prop} (hC:AC X f args h Q) (hq:∀ sv h',Q sv h'->∃ sv2 h2 hs,VI sv sv2/\SubH h' hs/\(∀ env B w H,HR env B w hs H->HR env B w h2 H)/\Q2 sv2 h2):AC X f args h Q2:=fun B w0 env vs H W hg ha hh hs=>by
 refine Ret.mono (hC B w0 env vs H W hg ha hh hs) fun v w' ⟨env',B',w0',H',sv,h',h1,h2,h3,h4,h5,h6,h7,h8⟩=>?_
 obtain⟨sv2,hp2,hsb,q1,q2,q3,q4⟩:=hq sv h' h1;obtain⟨H2,Y,p1,p2⟩:=q2.sel h6;exact⟨env',B',w0',H2,sv2,hp2,q4,h2,h3,h4,q1 _ _ _ _ h5,q3 _ _ _ _ p2,(h7.perm p1).weak (List.sublist_append_left _ _),h8⟩
theorem ev_ac(N:Nat) (hX:X.tt.ok X.P) (hm:X.P.follows .mixedOrders=true) {f:FuncId} {fn:Func} {c:Code} {A:List AS} {HA:List (Nat×BS)} {R:Rs} (T:List (CT X)) (TI:List (IT X)) (sc:Sc) {res:List ResultVar} (hf:X.P.funcs[f]?=some fn) (hb:fn.body=some c) (hN:fn.ntmps=n) (hl:Nat.ble A.length n=true) (hn:Nat.ble n zU=true) (hr:fn.results=res.toArray)
  {d:argT A HA} {r:R.ty} (h:evF X N n T TI c sc res A HA R d=some r):AC X f (inS A HA d).1 (inS A HA d).2 (fun sv h=>sv=(R.out (inS A HA d).2 r).1/\h=(R.out (inS A HA d).2 r).2):=by
 refine AC.monoI (ac_bodyE (Q:=fun sv h'=>∃ hs,VI sv (R.out (inS A HA d).2 r).1/\SubH h' hs/\∀ env B w H,HR env B w hs H->HR env B w (R.out (inS A HA d).2 r).2 H) hX hf hb hN (by show Nat.ble (asS A d).1.length n=true; rw[asS_length]; exact hl) hn hr (ax_mono (ax_gx (r:=r) fun R0 W0 Bi0=>evc_ok hX hm c true true none (fun _=>⟨rfl,rfl⟩) _ _ none YG.none _ _ _ _ (show evc X N n T TI true c none sc _ _=some r from h)) fun e s ⟨V,s',hw,hks,hs⟩=>?_)) fun sv h' ⟨hs,q1,q2,q3⟩=>⟨_,_,hs,q1,q2,q3,rfl,rfl⟩
 have key:(match ares X s' res with
  | some (c,sv)=>gd c (R.get (inS A HA d).2 V s'.H sv)
  | none=>none)=some r->∃ st',Wm X true n s st'/\∃ c sv,ares X st' res=some (c,sv)/\c=true/\∃ hs,VI sv (R.out (inS A HA d).2 r).1/\SubH st'.H hs/\∀ env B w H,HR env B w hs H->HR env B w (R.out (inS A HA d).2 r).2 H:=fun hk=>by
  split at hk
  ·rename_i c sv e1
   obtain⟨hc,hk⟩:=zI hk;exact⟨s',hw,c,sv,e1,hc,Rs.get_ok hks hk⟩
  ·cases hk
 cases e with
 | ret=>exact⟨.inl rfl,key hs⟩
 | normal=>exact⟨.inr rfl,key hs⟩
 | _=>cases hs
def zS (N : Nat) (hX : X.tt.ok X.P) (hm : X.P.follows .mixedOrders = true) {fn : Func} {c : Code} (A : List AS) (HA : List (Nat × BS)) (R : Rs) (T : List (CT X)) (TI : List (IT X)) (sc : Sc) (res : List ResultVar) (f : FuncId) (df : R.ty) (m : argT A HA → Option R.ty) (hf : X.P.funcs[f]? = some fn) (hg : (fn.name == "runtime.NumGoroutine") = false) (hb : fn.body = some c) (hN : fn.ntmps = n) (hl : Nat.ble A.length n = true) (hn : Nat.ble n zU = true) (hr : fn.results = res.toArray)
  (h:∀ d,evF X N n T TI c sc res A HA R d=m d):CT X:=
 { f:=f,fn:=fn,A:=A,HA:=HA,ρ:=R.ty,df:=df,m:=m,out:=fun d r=>R.out (inS A HA d).2 r,hf:=hf,hn:=hg,hb:=by rw[hb]; rfl,ok:=fun d r he=>ev_ac N hX hm T TI sc hf hb hN hl hn hr ((h d).trans he) }
def ctE2 (N : Nat) (hX : X.tt.ok X.P) (hm : X.P.follows .mixedOrders = true) {fn : Func} {c : Code} (A : List AS) (HA : List (Nat × BS)) (R : Rs) (T : List (CT X)) (TI : List (IT X)) (sc : Sc) (res : List ResultVar) (f : FuncId) (df : R.ty) (m m' : argT A HA → Option R.ty) (heq : ∀ d, m d = m' d) (hf : X.P.funcs[f]? = some fn) (hg : (fn.name == "runtime.NumGoroutine") = false) (hb : fn.body = some c) (hN : fn.ntmps = n) (hl : Nat.ble A.length n = true) (hn : Nat.ble n zU = true) (hr : fn.results = res.toArray)
  (h:∀ d,evF X N n T TI c sc res A HA R d=m d):CT X:=
 { f:=f,fn:=fn,A:=A,HA:=HA,ρ:=R.ty,df:=df,m:=m',out:=fun d r=>R.out (inS A HA d).2 r,hf:=hf,hn:=hg,hb:=by rw[hb]; rfl,ok:=fun d r he=>ev_ac N hX hm T TI sc hf hb hN hl hn hr ((h d).trans ((heq d).trans he)) }
end
end

theorem loopF_inv{δ ρ:Type} {step:δ->(δ->Option ρ)->Option ρ} (I:Nat->δ->Prop) (post:ρ->Prop)
  (h:∀ k d rec,I k d->(∀ k' d',k' < k->I k' d'->∃ r,rec d'=some r/\post r)->∃ r,step d rec=some r/\post r):∀ n k d,k < n->I k d->∃ r,zc step n d=some r/\post r
 | 0,_,_,hk,_=>by omega
 | n+1,k,d,hk,hI=>h k d _ hI fun k' d' hk' hI'=>loopF_inv I post h n k' d' (by omega) hI'
theorem zg{δ ρ:Type} {step:δ->(δ->Option ρ)->Option ρ} (I:Nat->δ->Prop) (r:ρ)
  (h:∀ k d rec,I k d->(∀ k' d',k' < k->I k' d'->rec d'=some r)->step d rec=some r) (n k:Nat) (d:δ) (hk:k < n) (hI:I k d):zc step n d=some r:=by
 obtain⟨r',h1,rfl⟩:=loopF_inv I (fun x=>x=r) (fun k d rec hI hr=>⟨r,h k d rec hI (fun k' d' hk' hI'=>by obtain⟨_,h1,rfl⟩:=hr k' d' hk' hI'; exact h1),rfl⟩) n k d hk hI;exact h1
theorem qk{α:Type} {c:Bool} {x:Option α} (h:c=true):gd c x=x:=by rw[h]; rfl

section
set_option linter.unusedSimpArgs false
set_option linter.unusedVariables false
open Go.RowKit
abbrev zo:GTy:=.pair (.int .u8) (.int .i64)
abbrev zb:Type:=Int×Int
abbrev kd3:GTy:=.pair (.int .u8) (.pair (.int .u8) (.sl (.int .u8)))
abbrev Kt3:Type:=Int×(Int×(List Int))
abbrev zL:GTy:=.pair (.int .u8) (.sl zo)
abbrev zB:Type:=Int×(List zb)
abbrev qU:GTy:=.pair zo (.pair .bool (.int .u8))
abbrev qa:Type:=zb×(Bool×Int)
abbrev kd7:GTy:=.pair (.sl zo) (.sl zo)
abbrev Kt7:Type:=(List zb)×(List zb)
abbrev zG:GTy:=.pair (.int .u8) (.pair (.int .u8) (.pair (.int .i64) (.pair (.int .i64) .bool)))
abbrev zi:Type:=Int×(Int×(Int×(Int×Bool)))
abbrev zK:GTy:=.pair zo (.pair zo (.int .i64))
abbrev zQ:Type:=zb×(zb×Int)
abbrev kd10:GTy:=.pair (.int .i64) (.pair .bool (.sl qU))
abbrev Kt10:Type:=Int×(Bool×(List qa))
abbrev zr:GTy:=.pair .bool (.pair (.int .i64) kd10)
abbrev zd:Type:=Bool×(Int×Kt10)
abbrev zh:GTy:=.pair (.int .u8) (.pair .bool (.pair (.sl zo) (.sl qU)))
abbrev zj:Type:=Int×(Bool×((List zb)×(List qa)))
abbrev kd13:GTy:=.pair (.sl (.sl zh)) (.pair (.sl zK) kd7)
abbrev Kt13:Type:=(List (List zj))×((List zQ)×Kt7)
abbrev kd15:GTy:=.pair (.sl zL) (.pair (.sl zr) (.pair kd13 (.int .u8)))
abbrev qx:Type:=(List zB)×((List zd)×(Kt13×Int))
end

section
set_option linter.unusedSimpArgs false
set_option linter.unusedVariables false
open Go.RowKit
def xn(N:Nat) (a0:zi):Option (Int):=
  cond (cond (cond (cond (decide (a0.1 < (1:Int))) true (decide ((8:Int) < a0.1))) true (decide (a0.2.1 < (1:Int)))) true (decide ((6:Int) < a0.2.1))) (some (1:Int)) (cond (!(decide (a0.1=(8:Int)))) (cond (cond (cond (!(decide (a0.2.2.1=(0:Int)))) true (!(decide (a0.2.2.2.1=(0:Int))))) true a0.2.2.2.2) (some (1:Int)) (some (0:Int))) (gd ((qn (!(cond (cond (decide (a0.2.2.1 < (1:Int))) true (decide ((4:Int) < a0.2.2.1))) true (decide (a0.2.2.2.1 < (1:Int))))) (zq ((4:Int) - a0.2.2.1)))&&(true)) <|
  cond (cond (cond (cond (decide (a0.2.2.1 < (1:Int))) true (decide ((4:Int) < a0.2.2.1))) true (decide (a0.2.2.2.1 < (1:Int)))) true (decide (((4:Int) - a0.2.2.1) < a0.2.2.2.1))) (some (1:Int)) (some (0:Int))))
noncomputable def ct_stcheck (N:Nat):CT cx:=zS N za (by kernel_rfl) [.dat zG] [] ⟨.a (.c (.int .i64)),[],[]⟩ [] [] (.s (.r [.n 2,.w (.frzC 1 zG)]) .d) [.tmp 2] 78 0 (fun d=>xn N d.1) Tryz.func78 rfl rfl Tryz.ntmps78 rfl rfl rfl (fun d=>by kernel_rfl)
def m_stneeds(N:Nat) (a0:zi):Option (Int):=
  Option.bind (xn N a0) fun r1=>
  cond (!(decide (r1=(0:Int)))) (some (0:Int)) (cond (decide (a0.1=(3:Int))) (some (0:Int)) (Option.bind (cond (decide (a0.1=(4:Int))) (some (decide (a0.1=(4:Int)))) (some (decide (a0.1=(5:Int))))) fun o2=>
  cond o2 (some (2:Int)) (cond (decide (a0.1=(8:Int))) (gd ((zq (a0.2.2.1+a0.2.2.2.1))&&(true)) <|
  some (a0.2.2.1+a0.2.2.2.1)) (some (1:Int)))))
noncomputable def ct_stneeds (N:Nat):CT cx:=zS N za (by kernel_rfl) [.dat zG] [] ⟨.a (.c (.int .i64)),[],[]⟩ [ct_stcheck N] [] (.s (.r [.n 2,.w (.frzC 1 zG)]) (.s .d (.s (.s .d (.b (.s .d (.c .d (.j ⟨[(10,.a (.c .bool))],[],[1,7],[]⟩ .d .d))))) .d))) [.tmp 2] 40 0 (fun d=>m_stneeds N d.1) Tryz.func40 rfl rfl Tryz.ntmps40 rfl rfl rfl (fun d=>by kernel_rfl)
def m_stmakes(N:Nat) (a0:zi):Option (Int):=
  Option.bind (xn N a0) fun r1=>
  cond (!(decide (r1=(0:Int)))) (some (0:Int)) (cond (decide (a0.1=(8:Int))) (gd ((zq (a0.2.2.1+a0.2.2.2.1))&&(true)) <|
  some (a0.2.2.1+a0.2.2.2.1)) (some (1:Int)))
noncomputable def ct_stmakes (N:Nat):CT cx:=zS N za (by kernel_rfl) [.dat zG] [] ⟨.a (.c (.int .i64)),[],[]⟩ [ct_stcheck N] [] (.s (.r [.n 2,.w (.frzC 1 zG)]) .d) [.tmp 2] 41 0 (fun d=>m_stmakes N d.1) Tryz.func41 rfl rfl Tryz.ntmps41 rfl rfl rfl (fun d=>by kernel_rfl)
def m_pcount_L1(N:Nat) (a0:(List zi)) (a1:Int):Nat->(Int×Int)->Option (Int):=zc fun d1 rec1=>
  cond (decide (d1.2 < (a0.length:Int))) (gd ((ze d1.2 a0.length)&&(true)) <|
  cond (decide ((a0.getD d1.2.toNat zG.zero).2.1=a1)) (gd ((zq (d1.1+(1:Int)))&&(true)) <|
  gd ((zq (d1.2+(1:Int)))&&(true)) <|
  rec1 ((d1.1+(1:Int)),(d1.2+(1:Int)))) (gd ((zq (d1.2+(1:Int)))&&(true)) <|
  rec1 (d1.1,(d1.2+(1:Int))))) (some d1.1)
def m_pcount(N:Nat) (a0:(List zi)) (a1:Int):Option (Int):=
  Option.bind (m_pcount_L1 N a0 a1 N ((0:Int),(0:Int))) fun o1=>
  some o1
noncomputable def ct_pcount (N:Nat):CT cx:=zS N za (by kernel_rfl) [.c (.lst zG),.c (.int .u8)] [] ⟨.a (.c (.int .i64)),[],[]⟩ [] [] (.s .d (.s .d (.s (.s .d (.b (.lx 0 ⟨[(5,.a (.c (.int .i64))),(10,.a (.c (.int .i64)))],[],[1,8,9],[]⟩ ⟨[(5,.a (.c (.int .i64)))],[],[],[]⟩ (.s .d (.s .d (.s (.b (.s (.r [.n 4,.w (.frzC 7 zG)]) .d)) .d)))))) .d))) [.tmp 4] 21 0 (fun d=>m_pcount N d.1 d.2.1) Tryz.func21 rfl rfl Tryz.ntmps21 rfl rfl rfl (fun d=>by kernel_rfl)
def m_chfirst_L1(N:Nat) (a0:(List zi)):Nat->(Int×Int)->Option (Int):=zc fun d1 rec1=>
  cond (decide (d1.2 < (a0.length:Int))) (gd ((ze d1.2 a0.length)&&(true)) <|
  gd ((zq (d1.2+(1:Int)))&&(true)) <|
  rec1 ((if (a0.getD d1.2.toNat zG.zero).2.1 < d1.1 then(a0.getD d1.2.toNat zG.zero).2.1 else d1.1),(d1.2+(1:Int)))) (some d1.1)
def m_chfirst(N:Nat) (a0:(List zi)):Option (Int):=
  cond (decide ((a0.length:Int)=(0:Int))) (some (0:Int)) (gd ((ze (0:Int) a0.length)&&(true)) <|
  Option.bind (m_chfirst_L1 N a0 N ((a0.getD (0:Int).toNat zG.zero).2.1,(0:Int))) fun o1=>
  some o1)
noncomputable def ct_chfirst (N:Nat):CT cx:=zS N za (by kernel_rfl) [.c (.lst zG)] [] ⟨.a (.c (.int .u8)),[],[]⟩ [] [] (.s .d (.s .d (.s .d (.s (.s .d (.b (.lx 0 ⟨[(3,.a (.c (.int .u8))),(15,.a (.c (.int .i64)))],[],[13,14],[]⟩ ⟨[(3,.a (.c (.int .u8)))],[],[],[]⟩ (.s .d (.s .d (.s (.b (.s (.r [.n 4,.w (.frzC 5 zG)]) .d)) .d)))))) .d)))) [.tmp 2] 10 0 (fun d=>m_chfirst N d.1) Tryz.func10 rfl rfl Tryz.ntmps10 rfl rfl rfl (fun d=>by kernel_rfl)
end

section
theorem AI.anew{X:Cx} {R0 C C' Bc B':Nat->Prop} {W1 w0 w W':World} {n:Nat} {ks:List Nat} {env:Nat->Loc} {H:List Ck} {st:ASt} {a:Act} (h:AI X (fun k=>R0 k\/C k) W1 ⟨Bc,fun _ _=>False,[]⟩ n ks env B' w0 H st a w) (hg:Grow B' C C' w W') (hC:∀ k,C' k->k < W'.heap.size) {d:Nat} (hd:Nat.blt d n=true) (v:Value) :
  AI X (fun k=>R0 k\/C' k) W' ⟨B',fun _ _=>False,[]⟩ n ks env B' W' H ⟨(d,.c (.val v)) :: st.L,st.H⟩ (a.put (some d) v) W':=by
 have hS:=h.stt.put d v (zk hd);have hlt:∀ k,(R0 k\/C k)\/B' k->k < w.heap.size:=fun k hk=>h.sh.base k hk
 have hsame:∀ k,B' k->W'.heap[k]?=w.heap[k]?:=fun k hk=>hg.keep.block k (.inl hk)
 have hup:Up B' w0 B' W':=⟨fun _ h=>h,fun k hk=>(hsame k hk).trans (h.sh.below.block k (.inr hk))⟩
 have hno:∀ b,b < w.heap.size->¬ ((R0 b\/C b)\/B' b)->¬ (R0 b\/C' b):=fun b hb hn hr=>by
  rcases hr with hr | hr
  ·exact hn (.inl (.inl hr))
  ·rcases hg.new b hr with h1 | h1 | h1
   ·exact hn (.inl (.inr h1))
   ·omega
   ·exact hn (.inr h1)
 refine⟨hS.size,hS.defs,fun s sv hs=>?_,h.heap.up hup,⟨KO.refl _ _,fun k hk=>?_,fun c hc=>?_,h.sh.apart⟩,fun _ h=>h,fun _ h=>.inl h,fun _ _ h=>h.elim,KO.refl _ _,fun i x hx=>(h.glob i x hx).up hup⟩
 ·rw[zu]at hs
  split at hs
  ·rename_i e; subst e; cases hs; exact⟨v,hS.this,rfl⟩
  ·rename_i e
   obtain⟨u,h1,h2⟩:=h.has s sv hs;exact⟨u,hS.other e h1,h2.up hup⟩
 ·rcases hk with(hk | hk) | hk
  ·exact Nat.lt_of_lt_of_le (hlt k (.inl (.inl hk))) hg.keep.size
  ·exact hC k hk
  ·exact Nat.lt_of_lt_of_le (hlt k (.inr hk)) hg.keep.size
 ·have hok:=h.sh.ok c hc
  have hk2:=hok.keep (w':=W') fun b hb=>hg.keep.block b (.inr ⟨(hok.lt hb).2,fun hcb=>(hok.lt hb).1 (.inl (.inr hcb))⟩)
  exact hk2.base fun b hb hr=>by
   rcases hr with hr | hr
   ·exact hno b (hok.lt hb).2 (hok.lt hb).1 hr
   ·exact(hok.lt hb).1 (.inr hr)
section
variable {X:Cx} {n:Nat} {α:Type}
def Cn.it(W0:World) (J:List α->(Nat->Prop)->(Nat->Prop)->World->Prop) (Jx:Unit->(Nat->Prop)->World->Prop):Cn X true n none (List α) where
 In r st a w:=∃ C W1 Bc,(J r C Bc W1\/(r=[]/\Jx () C W1))/\AR X (fun k=>k < W0.heap.size\/C k) W1 ⟨Bc,fun _ _=>False,[]⟩ true n st a w
 frame h hi:=by
  obtain⟨C,W1,Bc,h1,h3⟩:=hi;exact wpIn_mono (h _ _ _ _ _ h3) fun _ _ _ ⟨s,h4,h5⟩=>⟨s,h4,C,W1,Bc,h1,h5⟩
 step h hi KK hK:=by
  obtain⟨C,W1,Bc,h1,ks,env,B',w0,H,hM,hA⟩:=hi;exact h _ _ _ _ _ _ _ _ _ _ hA _ fun a' w' env' B' w0' H' hA'=>hK _ _ ⟨C,W1,Bc,h1,ks,env',B',w0',H',hM,hA'⟩
 weak h hi:=by
  obtain⟨C,W1,Bc,h1,h3⟩:=hi;exact⟨C,W1,Bc,h1,h _ _ _ _ _ h3⟩
 ai hi:=by
  obtain⟨C,W1,Bc,h1,ks,env,B',w0,H,hM,hA⟩:=hi;exact⟨_,_,_,_,_,_,_,_,hA⟩
def handM{α:Type} (b:Bool) (x:α) (f t:Option (List α)):Option (List α):=match b,f,t with
 | true,some [],some l=>some (x :: l)
 | _,_,_=>none
def emitE(E:List AS) (id l:Nat) (args:List SA) (f t:Option (List (HL (asLT E [])))):Option (List (HL (asLT E []))):=match qN args,asGet (T:=[]) E args ()with
 | true,some x=>handM (Nat.beq l id) x f t
 | _,_=>none
theorem YieldAt.zero{P:Program} {l:Nat} {args:Array Value} {W:World} {R:Ending->World->Prop} (h:YieldAt Fence.wide 1 P l args W R):YieldAt Fence.wide 0 P l args W R:=by
 obtain⟨fn,tmps,assign,body,h1,h2,h3⟩:=h;exact⟨fn,tmps,assign,body,h1,h2,fun c cs _=>h3 c cs (room_wide _)⟩
theorem yieldv{sv:Option SV} {l:Nat} (h:isYield sv=some l):sv=some (.a (.c (.val (.func (.yield l) #[] #[])))):=by
 unfold isYield at h
 split at h
 ·cases h; rfl
 ·cases h
theorem SasR.no{env:Nat->Loc} {B:Nat->Prop} {w:World}:∀ {xs:List SA} {vs:List Value},qN xs=true->SasR env B w xs vs->SasR (fun _=>.no) B w xs vs
 | [],_,_,h=>h
 | .c x :: xs,_,hf,⟨v,r,e,h1,h2⟩=>by
  unfold qN at hf
  split at hf
  ·rename_i hx
   refine⟨v,r,e,?_,SasR.no hf h2⟩;have hx':x.free=true:=hx;cases x with
   | fn f cs=>
    obtain⟨vs,e,hp⟩:=h1;exact⟨vs,e,hp.fzAny hx'⟩
   | _=>first | exact h1 | cases hx'
  ·cases hf
 | .agg cs :: xs,_,hf,⟨v,r,e,⟨vs,e2,h1⟩,h2⟩=>by
  unfold qN at hf
  split at hf
  ·rename_i hx
   refine⟨v,r,e,⟨vs,e2,?_⟩,SasR.no hf h2⟩;have hx':scFree cs=true:=hx
   clear hx e e2 h2
   induction cs generalizing vs with
   | nil=>exact h1
   | cons x cs ih=>
    obtain⟨v,r,e,h3,h4⟩:=h1;unfold scFree at hx'
    split at hx'
    ·rename_i hx2
     refine⟨v,r,e,?_,ih _ h4 hx'⟩;cases x with
     | fn f cs=>
      obtain⟨vs,e,hp⟩:=h3;exact⟨vs,e,hp.fzAny hx2⟩
     | _=>first | exact h3 | cases hx2
    ·cases hx'
  ·cases hf
 | .arr g l :: xs,_,hf,⟨v,r,e,h1,h2⟩=>by
  unfold qN at hf
  split at hf
  ·exact⟨v,r,e,h1,SasR.no hf h2⟩
  ·cases hf
structure Cons(X:Cx) (E:List AS) (id:Nat) (J:List (HL (asLT E []))->(Nat->Prop)->(Nat->Prop)->World->Prop) (Jx:Unit->(Nat->Prop)->World->Prop):Prop where
 sj:StabJ J
 sx:StabE Jx
 lt:∀ r C Bc W,J r C Bc W->∀ k,C k->k < W.heap.size
 ltx:∀ r C W,Jx r C W->∀ k,C k->k < W.heap.size
 take:∀ x rest C Bc B2 W1 vs,J (x :: rest) C Bc W1->Adopt C Bc B2 W1->SasR (fun _=>.no) B2 W1 (asS E x).1 vs->YieldAt Fence.wide 1 X.P id vs.toArray W1 fun e W'=>
   (e=.returned (.bool true)/\∃ C',J rest C' B2 W'/\Grow B2 C C' W1 W')\/(e=.returned (.bool false)/\∃ C',Jx () C' W'/\Grow B2 C C' W1 W')
theorem yg_it(hX:X.tt.ok X.P) {E:List AS} {id:Nat} {W0:World} {J:List (HL (asLT E []))->(Nat->Prop)->(Nat->Prop)->World->Prop} {Jx:Unit->(Nat->Prop)->World->Prop} (hc:Cons X E id J Jx):YG (Γ:=Cn.it (X:=X) (n:=n) W0 J Jx) (some (emitE E id)):=by
 rintro ops Q em hem l args f t r hr;cases hem;unfold emitE at hr
 split at hr
 ·rename_i x hfree hget
  unfold handM at hr
  split at hr
  ·rename_i rt hl
   cases hr;have hl':=Nat.eq_of_beq_eq_true hl;subst hl';refine⟨_,_,rfl,rfl,?_⟩;intro o rest st d s us ts c hop ho hd hy hus hc2 hzf hzt a w hi;obtain⟨C,W1,Bc,hj,ks,env,B',w0,H,hM,hA⟩:=hi
   rcases hj with hj | ⟨hj,_⟩
   ·obtain⟨vs,h1,h2⟩:=aes_ok hA hus hc2
    obtain⟨fv,h3,h4⟩:=hA.has _ _ (yieldv hy);rw[show fv=_ from h4]at h3;have hup:Up B' w0 B' w:=⟨fun _ h=>h,fun k hk=>hA.sh.below.block k (.inr hk)⟩
    have hg:=(asGet_ok hget).2;have henc:SasR (fun _=>.no) B' w (asS E x).1 vs:=hg _ _ _ _ (SasR.no hfree (h2.up hup));have hKC:KO C W1 w:=⟨(hA.sh.below.os).trans hA.base.os,(hA.sh.below.tape).trans hA.base.tape,(hA.sh.below.output).trans hA.base.output,Nat.le_trans hA.base.size hA.sh.below.size,fun k hk=>(hA.sh.below.block k (.inl (.inr hk))).trans (hA.base.block k (.inr hk))⟩
    have hJ:=hc.sj _ _ _ _ _ hj hKC;have had:Adopt C Bc B' w:=⟨hA.sub,fun k hk=>(hA.new k hk).imp_right fun⟨h5,h6⟩=>⟨fun h=>h5 (.inr h),h6.keep (hA.sh.below.block k (.inr hk))⟩⟩
    obtain⟨fn,tmps,assign,body,hyy,hRound⟩:=YieldAt.zero (hc.take _ _ _ _ _ _ _ hJ had henc);have hw:Region.wanted o (yielded ops.toArray a.tmps)=true:=ho.1 hA;show(if Region.wanted o (yielded ops.toArray a.tmps)then _ else _);rw[if_pos hw];refine⟨fun _ _=>trivial,?_⟩;have hrun:(execOp a.eval o).run X.P w=.ok (.round l fn tmps assign body) w:=by
     have e1:=hA.stt.ev (x:=.tmp s) (zt h3);have e2:(us.toArray.map a.eval)=vs.toArray:=evs_map hA.stt h1;simp only[execOp,hop,resolve,e1]
     simp[Deferred.ofValue,invoke,e2,hyy,go_sem]
    show Oper.uponIn _ _ _ _ _ _ _ ((o.semAt none a.eval).run X.P w);rw[Oper.semAt_none,hrun];refine⟨(fun h=>by cases h),RoundIn.mono hRound ?_⟩;intro e w2 hq;rw[ho.2]
    rcases hq with⟨rfl,C',hJ',hG⟩ | ⟨rfl,C',hJ',hG⟩
    ·exact hzt _ _ ⟨C',w2,B',.inl hJ',ks,env,B',w2,H,⟨hM.1,fun _ _ _ h=>h.elim⟩,AI.anew hA hG (hc.lt _ _ _ _ hJ') hd _⟩
    ·exact hzf _ _ ⟨C',w2,B',.inr ⟨rfl,hJ'⟩,ks,env,B',w2,H,⟨hM.1,fun _ _ _ h=>h.elim⟩,AI.anew hA hG (hc.ltx _ _ _ hJ') hd _⟩
   ·cases hj
  ·cases hr
 ·cases hr
def finI{α:Type}:Kont (List α)
 | .normal,_,_=>some []
 | .ret,_,_=>some []
 | _,_,_=>none
theorem it_bodyE(hX:X.tt.ok X.P) (hm:X.P.follows .mixedOrders=true) {N:Nat} {T:List (CT X)} {TI:List (IT X)} {f:FuncId} {fn:Func} {c:Code} {sc:Sc} {caps:List Cap} {E:List AS} {l:List (HL (asLT E []))} (hf:X.P.funcs[f]?=some fn) (hb:fn.body=some c) (hN:fn.ntmps=n) (hl:Nat.ble (ptrAs caps).length (n - 1)=true) (hn:Nat.blt 0 n=true) (hr:fn.results=#[])
  (h:∀ id,evc X N n T TI true c (some (emitE E id)) sc ⟨argL 0 (.c (.val (.func (.yield id) #[] #[])) :: ptrAs caps),[]⟩ finI=some l):AItE X f caps l (fun x=>(asS E x).1):=by
 intro B w0 lb hB hg hlb id J Jx W hKB _ hsj hsx hlt hltx _ htake C hJ;have hup:Up B w0 B W:=⟨fun _ h=>h,fun k hk=>hKB.block k hk⟩
 have ha:SasR (fun _=>.no) B W (.c (.val (.func (.yield id) #[] #[])) :: ptrAs caps) (.func (.yield id) #[] #[] :: lb):=⟨_,_,rfl,rfl,(ptrs_sas hlb).up hup⟩
 have hlen:=ha.length;have hle:(Value.func (.yield id) #[] #[] :: lb).length<=n:=by
  rw[hlen,List.length_cons];have h1:=Nat.le_of_ble_eq_true hl;have h2:=zk hn;omega
 have hS:=st_start (fn:=fn) hN hle _ rfl (vs:=.func (.yield id) #[] #[] :: lb);have e:#[Value.func (.yield id) #[] #[]]++lb.toArray=(Value.func (.yield id) #[] #[] :: lb).toArray:=by simp
 rw[e];refine CallsIn.mono (R:=fun e w'=>∃ v,e=.returned v/\∃ C',(∃ Bc,J [] C' Bc w')\/Jx () C' w') ((callsIn_wide (n:=1)).2 ((callsIn_wide (n:=0)).1 (callsIn_of_wp_marks hf hb trivial ?_))) (fun e w' ⟨v,h1,h2⟩=>⟨⟨v,h1⟩,h2⟩);have hA:AI X (fun k=>k < W.heap.size\/C k) W ⟨B,fun _ _=>False,[]⟩ n [] (fun _=>.no) B W [] ⟨argL 0 (.c (.val (.func (.yield id) #[] #[])) :: ptrAs caps),[]⟩ { tmps:=(Value.func (.yield id) #[] #[] :: lb).toArray++Array.replicate (fn.ntmps - (Value.func (.yield id) #[] #[] :: lb).toArray.size) undef,defers:=[] } W:=by
  refine⟨hS.size,rfl,fun s sv hs=>?_,rfl,⟨KO.refl _ _,fun k hk=>hk.elim (fun h=>h.elim (fun h=>h) (hlt _ _ _ _ hJ k)) (fun hb=>Nat.lt_of_lt_of_le (hB k hb) hKB.size),(fun c hc=>by cases hc),List.Pairwise.nil⟩,fun _ h=>h,fun _ h=>.inl h,fun _ _ h=>h.elim,KO.refl _ _,fun i x hx=>(hg i x hx).up hup⟩;obtain⟨_,v,h1,h2⟩:=argL_ok ha hs;rw[Nat.sub_zero]at h1;refine⟨v,?_,h2⟩;have hlt:s < (Value.func (.yield id) #[] #[] :: lb).length:=(List.getElem?_eq_some_iff.1 h1).1;show((Value.func (.yield id) #[] #[] :: lb).toArray++_)[s]?=some v;rw[Array.getElem?_append_left (by simpa using hlt)]
  simpa using h1
 refine wpIn_mono (evc_ok hX hm c true true none (fun _=>⟨rfl,rfl⟩) _ (Cn.it W J Jx) _ (yg_it hX ⟨hsj,hsx,hlt,hltx,htake⟩) sc _ finI l (h id) _ _ ⟨C,W,B,.inl hJ,[],_,_,_,_,⟨fun h=>(by cases h),fun _ _ _ h=>h.elim⟩,hA⟩) ?_;rintro e a w ⟨st,r',⟨V,s',hw,hks,hk⟩,hi⟩;obtain⟨C',W1,Bc,hj,ks,env',B',w0',H',hM,hA'⟩:=(Cn.it W J Jx).weak hw hi;have hr':r'=[]/\(e=.ret\/e=.normal):=by
  cases e<;>first | (cases hk; exact⟨rfl,.inr rfl⟩) | (cases hk; exact⟨rfl,.inl rfl⟩) | cases hk
 obtain⟨rfl,he⟩:=hr';have hsym:Sym n (ks.map markOf) (qL a) (fun k=>(k < W.heap.size\/C' k)\/B' k) w0' (ks.map (fun k=>Ck.obj k (.deferred (some [])))++H') a w:=⟨by have hst:=hA'.stt; simpa [dfs] using hst,hA'.sh.perm List.perm_append_comm⟩
 have hres:∀ w,(results fn a.tmps).run X.P w=.ok (.tuple #[]) w:=fun w=>by
  simp[results,hr,go_sem]
 have key:=f_retM (fn:=fn) (R:=fun _ w'=>∃ C',(∃ Bc,J [] C' Bc w')\/Jx () C' w') ks hsym (fun w hw=>hres w) fun w hw=>by
  have hKC:KO C' W1 w:=⟨hw.below.os.trans hA'.base.os,hw.below.tape.trans hA'.base.tape,hw.below.output.trans hA'.base.output,Nat.le_trans hA'.base.size hw.below.size,fun k hk=>(hw.below.block k (.inl (.inr hk))).trans (hA'.base.block k (.inr hk))⟩
  rcases hj with hj | ⟨_,hj⟩
  ·exact⟨C',.inl ⟨Bc,hsj _ _ _ _ _ hj hKC⟩⟩
  ·exact⟨C',.inr (hsx _ _ _ _ hj hKC)⟩
 rcases he with rfl | rfl
 ·exact key
 ·exact key
def itE (N : Nat) (hX : X.tt.ok X.P) (hm : X.P.follows .mixedOrders = true) {fn : Func} {c : Code} (C : List CapS) (E : List AS) (T : List (CT X)) (TI : List (IT X)) (sc : Sc) (f : FuncId) (m : Bool → HL (capsLT C []) → Option (List (HL (asLT E [])))) (hf : X.P.funcs[f]? = some fn) (hg : (fn.name == "runtime.NumGoroutine") = false) (hb : fn.body = some c) (hN : fn.ntmps = n) (hl : ∀ d : HL (capsLT C []), Nat.ble (ptrAs (capsS C d).1).length (n - 1) = true) (hn : Nat.blt 0 n = true) (hr : fn.results = #[])
  (hz:∀ d:HL (capsLT C []),capsFz (capsS C d).1=true)
  (h:∀ id d,evc X N n T TI true c (some (emitE E id)) sc ⟨argL 0 (.c (.val (.func (.yield id) #[] #[])) :: ptrAs (capsS C d).1),[]⟩ finI=m (Nat.beq id id) d):IT X:=
 { f:=f,fn:=fn,C:=C,E:=E,m:=m true,hf:=hf,hn:=hg,hb:=by rw[hb]; rfl,hz:=hz,ok:=fun d l he=>it_bodyE hX hm hf hb hN (hl d) hn hr fun id=>(h id d).trans (by rw[show Nat.beq id id=true from Nat.beq_refl id]; exact he) }
end
end

section
set_option linter.unusedSimpArgs false
set_option linter.unusedVariables false
open Go.RowKit
def m_rcpL(N:Nat) (a0:(List zj)):Option ((List zj)):=
  gd (((decide (0<=(a0.length:Int)))&&(decide ((a0.length:Int)<=(a0.length:Int)))&&(zH 56 (a0.length:Int)))&&(true)) <|
  gd ((Nat.beq a0.length (List.replicate (a0.length:Int).toNat (zh.zero:zj)).length)&&(true)) <|
  some a0
noncomputable def ct_rcpL (N:Nat):CT cx:=zS N za (by kernel_rfl) [.c (.lst zh)] [] ⟨.a (.c (.raw (.sl 6))),[(6,.row 51 zh)],[]⟩ [] [] (.d) [.tmp 2] 154 [] (fun d=>m_rcpL N d.1) Tryz.func154 rfl rfl Tryz.ntmps154 rfl rfl rfl (fun d=>by kernel_rfl)
def m_rcpI(N:Nat) (a0:(List zb)):Option ((List zb)×Nat):=
  gd (((decide (0<=(a0.length:Int)))&&(decide ((a0.length:Int)<=(a0.length:Int)))&&(zH 16 (a0.length:Int)))&&(true)) <|
  gd ((Nat.beq a0.length (List.replicate (a0.length:Int).toNat (zo.zero:zb)).length)&&(true)) <|
  some (a0,(a0.length:Int).toNat)
noncomputable def ct_rcpI (N:Nat):CT cx:=zS N za (by kernel_rfl) [.c (.lst zo)] [] ⟨.a (.c (.lstx zo)),[],[]⟩ [] [] (.s .d (.s .d (.s .d (.s .d (.t [.frz 6]))))) [.tmp 2] 111 ([],0) (fun d=>m_rcpI N d.1) Tryz.func111 rfl rfl Tryz.ntmps111 rfl rfl rfl (fun d=>by kernel_rfl)
def m_rcpP(N:Nat) (a0:(List qa)):Option ((List qa)×Nat):=
  gd (((decide (0<=(a0.length:Int)))&&(decide ((a0.length:Int)<=(a0.length:Int)))&&(zH 24 (a0.length:Int)))&&(true)) <|
  gd ((Nat.beq a0.length (List.replicate (a0.length:Int).toNat (qU.zero:qa)).length)&&(true)) <|
  some (a0,(a0.length:Int).toNat)
noncomputable def ct_rcpP (N:Nat):CT cx:=zS N za (by kernel_rfl) [.c (.lst qU)] [] ⟨.a (.c (.lstx qU)),[],[]⟩ [] [] (.s .d (.s .d (.s .d (.s .d (.t [.frz 6]))))) [.tmp 2] 112 ([],0) (fun d=>m_rcpP N d.1) Tryz.func112 rfl rfl Tryz.ntmps112 rfl rfl rfl (fun d=>by kernel_rfl)
def m_rcpT_L3(N:Nat) (a0:(List (List zj))) (v1_0:Int):Nat->(Int×(List (Bool×List zj)))->Option ((List (Bool×List zj))):=zc fun d3 rec3=>
  cond (decide (d3.1 < ((a0.getD v1_0.toNat []).length:Int))) (gd ((ze d3.1 (a0.getD v1_0.toNat []).length)&&(true)) <|
  gd (((decide (v1_0.toNat < d3.2.length))&&(d3.2.getD v1_0.toNat (false,[])).1)) <|
  gd ((ze v1_0 d3.2.length)&&((decide (v1_0.toNat=v1_0.toNat))&&(true))) <|
  Option.bind (m_rcpI N ((a0.getD v1_0.toNat []).getD d3.1.toNat zh.zero).2.2.1) fun r4=>
  gd ((ze d3.1 (d3.2.getD v1_0.toNat (false,[])).2.length)&&(((decide (d3.1.toNat < (d3.2.getD v1_0.toNat (false,[])).2.length))&&(true))&&(true))) <|
  gd ((ze v1_0 d3.2.length)&&((decide (v1_0.toNat=v1_0.toNat))&&(true))) <|
  Option.bind (m_rcpP N ((a0.getD v1_0.toNat []).getD d3.1.toNat zh.zero).2.2.2) fun r5=>
  gd ((ze d3.1 ((d3.2.getD v1_0.toNat (false,[])).2.set d3.1.toNat (((d3.2.getD v1_0.toNat (false,[])).2.getD d3.1.toNat zh.zero).1,(((d3.2.getD v1_0.toNat (false,[])).2.getD d3.1.toNat zh.zero).2.1,(r4.1,((d3.2.getD v1_0.toNat (false,[])).2.getD d3.1.toNat zh.zero).2.2.2)))).length)&&(((decide (d3.1.toNat < ((d3.2.getD v1_0.toNat (false,[])).2.set d3.1.toNat (((d3.2.getD v1_0.toNat (false,[])).2.getD d3.1.toNat zh.zero).1,(((d3.2.getD v1_0.toNat (false,[])).2.getD d3.1.toNat zh.zero).2.1,(r4.1,((d3.2.getD v1_0.toNat (false,[])).2.getD d3.1.toNat zh.zero).2.2.2)))).length))&&(true))&&(true))) <|
  gd ((zq (d3.1+(1:Int)))&&(true)) <|
  rec3 ((d3.1+(1:Int)),(d3.2.set v1_0.toNat (true,(((d3.2.getD v1_0.toNat (false,[])).2.set d3.1.toNat (((d3.2.getD v1_0.toNat (false,[])).2.getD d3.1.toNat zh.zero).1,(((d3.2.getD v1_0.toNat (false,[])).2.getD d3.1.toNat zh.zero).2.1,(r4.1,((d3.2.getD v1_0.toNat (false,[])).2.getD d3.1.toNat zh.zero).2.2.2)))).set d3.1.toNat ((((d3.2.getD v1_0.toNat (false,[])).2.set d3.1.toNat (((d3.2.getD v1_0.toNat (false,[])).2.getD d3.1.toNat zh.zero).1,(((d3.2.getD v1_0.toNat (false,[])).2.getD d3.1.toNat zh.zero).2.1,(r4.1,((d3.2.getD v1_0.toNat (false,[])).2.getD d3.1.toNat zh.zero).2.2.2)))).getD d3.1.toNat zh.zero).1,((((d3.2.getD v1_0.toNat (false,[])).2.set d3.1.toNat (((d3.2.getD v1_0.toNat (false,[])).2.getD d3.1.toNat zh.zero).1,(((d3.2.getD v1_0.toNat (false,[])).2.getD d3.1.toNat zh.zero).2.1,(r4.1,((d3.2.getD v1_0.toNat (false,[])).2.getD d3.1.toNat zh.zero).2.2.2)))).getD d3.1.toNat zh.zero).2.1,((((d3.2.getD v1_0.toNat (false,[])).2.set d3.1.toNat (((d3.2.getD v1_0.toNat (false,[])).2.getD d3.1.toNat zh.zero).1,(((d3.2.getD v1_0.toNat (false,[])).2.getD d3.1.toNat zh.zero).2.1,(r4.1,((d3.2.getD v1_0.toNat (false,[])).2.getD d3.1.toNat zh.zero).2.2.2)))).getD d3.1.toNat zh.zero).2.2.1,r5.1)))))))) (some d3.2)
def m_rcpT_L1(N:Nat) (a0:(List (List zj))):Nat->(Int×(List (Bool×List zj)))->Option ((List (Bool×List zj))):=zc fun d1 rec1=>
  cond (decide (d1.1 < (a0.length:Int))) (gd ((ze d1.1 a0.length)&&(true)) <|
  Option.bind (m_rcpL N (a0.getD d1.1.toNat [])) fun r2=>
  gd ((ze d1.1 d1.2.length)&&((decide (d1.1.toNat < d1.2.length))&&(true))) <|
  Option.bind (m_rcpT_L3 N a0 d1.1 N ((0:Int),(d1.2.set d1.1.toNat (true,r2)))) fun o3=>
  gd ((zq (d1.1+(1:Int)))&&(true)) <|
  rec1 ((d1.1+(1:Int)),o3)) (some d1.2)
def m_rcpT(N:Nat) (a0:(List (List zj))):Option ((List (Bool×List zj))):=
  gd (((decide (0<=(a0.length:Int)))&&(decide ((a0.length:Int)<=(a0.length:Int)))&&(zH 24 (a0.length:Int)))&&(true)) <|
  Option.bind (m_rcpT_L1 N a0 N ((0:Int),(List.replicate (a0.length:Int).toNat ((true,[]):Bool×List zj)))) fun o1=>
  some o1
noncomputable def ct_rcpT (N:Nat):CT cx:=zS N za (by kernel_rfl) [.c (.lst (.sl zh))] [] ⟨.a (.c (.raw (.sl 10))),[(10,.mrow 47 51 zh)],[]⟩ [ct_rcpL N,ct_rcpI N,ct_rcpP N] [] (.s .d (.s (.r [.n 2,.t .mk]) (.s (.s .d (.b (.lx 0 ⟨[(3,.a (.c (.raw (.sl 10)))),(13,.a (.c (.int .i64)))],[(10,.mrow 47 51 zh)],[11,12],[]⟩ ⟨[(3,.a (.c (.raw (.sl 10))))],[(10,.mrow 47 51 zh)],[],[]⟩ (.s .d (.s .d (.s (.b (.s .d (.s (.r [.n 3,.c [(6,21)],.n 1,.t .st]) (.s (.r [.n 3,.w (.t (.close 10 21))]) (.b (.lx 2 ⟨[(3,.a (.c (.raw (.sl 10)))),(25,.a (.c (.int .i64)))],[(10,.mrow 47 51 zh)],[4,11,12,13,23,24],[]⟩ ⟨[(3,.a (.c (.raw (.sl 10))))],[(10,.mrow 47 51 zh)],[11,12,13],[]⟩ (.s .d (.s .d (.s (.b (.s (.r [.n 6,.w (.frzC 7 zh)]) (.s (.p [.t (.op 10 4 33)] (.oa [4,5,6,7,1000010] [.t 0 0,.t 1 0,.t 2 0,.t 3 3,.t 4 0,.t 5 0,.t 6 1,.c 7 [],.t 8 0,.t 9 0,.s 10] [])) (.oa [4,5,6,7,1000010] [.t 0 0,.t 1 0,.t 2 0,.t 3 3,.t 4 0,.t 5 0,.t 6 1,.c 7 [],.t 8 0,.t 9 0,.s 10] [(.t (.close 10 33))])))) .d))))))))) .d)))))) .d))) [.tmp 2] 134 [] (fun d=>m_rcpT N d.1) Tryz.func134 rfl rfl Tryz.ntmps134 rfl rfl rfl (fun d=>by kernel_rfl)
end

section
set_option linter.unusedSimpArgs false
set_option linter.unusedVariables false
open Go.RowKit
def m_joinS_L1(N:Nat) (a0:(List (List zB))):Nat->(Int×Int)->Option (Int):=zc fun d1 rec1=>
  cond (decide (d1.2 < (a0.length:Int))) (gd ((ze d1.2 a0.length)&&(true)) <|
  gd ((zq (d1.1+((a0.getD d1.2.toNat []).length:Int)))&&(true)) <|
  gd ((zq (d1.2+(1:Int)))&&(true)) <|
  rec1 ((d1.1+((a0.getD d1.2.toNat []).length:Int)),(d1.2+(1:Int)))) (some d1.1)
def m_joinS_L2(N:Nat) (a0:(List (List zB))):Nat->(Int×Int×(List zB))->Option ((List zB)):=zc fun d2 rec2=>
  cond (decide (d2.2.1 < (a0.length:Int))) (gd ((ze d2.2.1 a0.length)&&(true)) <|
  gd (((decide (0<=d2.1))&&(decide (d2.1<=(d2.2.2.length:Int))))&&((decide (d2.1.toNat+(a0.getD d2.2.1.toNat []).length<=d2.2.2.length))&&((zq (d2.1+((a0.getD d2.2.1.toNat []).length:Int)))&&(true)))) <|
  gd ((zq (d2.2.1+(1:Int)))&&(true)) <|
  rec2 ((d2.1+((a0.getD d2.2.1.toNat []).length:Int)),(d2.2.1+(1:Int)),(d2.2.2.take d2.1.toNat++(a0.getD d2.2.1.toNat [])++d2.2.2.drop (d2.1.toNat+(a0.getD d2.2.1.toNat []).length)))) (some d2.2.2)
def m_joinS(N:Nat) (a0:(List (List zB))):Option ((List zB)):=
  Option.bind (m_joinS_L1 N a0 N ((0:Int),(0:Int))) fun o1=>
  gd (((decide (0<=o1))&&(decide (o1<=o1))&&(zH 32 o1))&&(true)) <|
  Option.bind (m_joinS_L2 N a0 N ((0:Int),(0:Int),(List.replicate o1.toNat (zL.zero:zB)))) fun o2=>
  some o2
noncomputable def ct_joinS (N:Nat):CT cx:=zS N za (by kernel_rfl) [.c (.lst (.sl zL))] [] ⟨.a (.c (.lst zL)),[],[]⟩ [] [] (.s .d (.s .d (.s (.s .d (.b (.lx 0 ⟨[(3,.a (.c (.int .i64))),(12,.a (.c (.int .i64)))],[],[0,10,11],[]⟩ ⟨[(3,.a (.c (.int .i64)))],[],[0],[]⟩ .d))) (.s .d (.s .d (.s (.s .d (.b (.lx 2 ⟨[(6,.a (.c (.raw (.sl 22)))),(7,.a (.c (.int .i64))),(25,.a (.c (.int .i64)))],[(22,.row 121 zL)],[23,24],[]⟩ ⟨[(6,.a (.c (.raw (.sl 22))))],[(22,.row 121 zL)],[],[]⟩ .d))) (.s .d (.t [.frz 22])))))))) [.tmp 2] 110 [] (fun d=>m_joinS N d.1) Tryz.func110 rfl rfl Tryz.ntmps110 rfl rfl rfl (fun d=>by kernel_rfl)
def m_joinI_L1(N:Nat) (a0:(List (List zb))):Nat->(Int×Int)->Option (Int):=zc fun d1 rec1=>
  cond (decide (d1.2 < (a0.length:Int))) (gd ((ze d1.2 a0.length)&&(true)) <|
  gd ((zq (d1.1+((a0.getD d1.2.toNat []).length:Int)))&&(true)) <|
  gd ((zq (d1.2+(1:Int)))&&(true)) <|
  rec1 ((d1.1+((a0.getD d1.2.toNat []).length:Int)),(d1.2+(1:Int)))) (some d1.1)
def m_joinI_L2(N:Nat) (a0:(List (List zb))):Nat->(Int×Int×(List zb))->Option ((List zb)):=zc fun d2 rec2=>
  cond (decide (d2.2.1 < (a0.length:Int))) (gd ((ze d2.2.1 a0.length)&&(true)) <|
  gd (((decide (0<=d2.1))&&(decide (d2.1<=(d2.2.2.length:Int))))&&((decide (d2.1.toNat+(a0.getD d2.2.1.toNat []).length<=d2.2.2.length))&&((zq (d2.1+((a0.getD d2.2.1.toNat []).length:Int)))&&(true)))) <|
  gd ((zq (d2.2.1+(1:Int)))&&(true)) <|
  rec2 ((d2.1+((a0.getD d2.2.1.toNat []).length:Int)),(d2.2.1+(1:Int)),(d2.2.2.take d2.1.toNat++(a0.getD d2.2.1.toNat [])++d2.2.2.drop (d2.1.toNat+(a0.getD d2.2.1.toNat []).length)))) (some d2.2.2)
def m_joinI(N:Nat) (a0:(List (List zb))):Option ((List zb)):=
  Option.bind (m_joinI_L1 N a0 N ((0:Int),(0:Int))) fun o1=>
  gd (((decide (0<=o1))&&(decide (o1<=o1))&&(zH 16 o1))&&(true)) <|
  Option.bind (m_joinI_L2 N a0 N ((0:Int),(0:Int),(List.replicate o1.toNat (zo.zero:zb)))) fun o2=>
  some o2
noncomputable def ct_joinI (N:Nat):CT cx:=zS N za (by kernel_rfl) [.c (.lst (.sl zo))] [] ⟨.a (.c (.lst zo)),[],[]⟩ [] [] (.s .d (.s .d (.s (.s .d (.b (.lx 0 ⟨[(3,.a (.c (.int .i64))),(12,.a (.c (.int .i64)))],[],[0,10,11],[]⟩ ⟨[(3,.a (.c (.int .i64)))],[],[0],[]⟩ .d))) (.s .d (.s .d (.s (.s .d (.b (.lx 2 ⟨[(6,.a (.c (.raw (.sl 22)))),(7,.a (.c (.int .i64))),(25,.a (.c (.int .i64)))],[(22,.row 30 zo)],[23,24],[]⟩ ⟨[(6,.a (.c (.raw (.sl 22))))],[(22,.row 30 zo)],[],[]⟩ .d))) (.s .d (.t [.frz 22])))))))) [.tmp 2] 121 [] (fun d=>m_joinI N d.1) Tryz.func121 rfl rfl Tryz.ntmps121 rfl rfl rfl (fun d=>by kernel_rfl)
def m_rheld_L1(N:Nat) (a0:(List zB)):Nat->(Int×(List (List zb)))->Option ((List (List zb))):=zc fun d1 rec1=>
  cond (decide (d1.1 < (a0.length:Int))) (gd ((ze d1.1 a0.length)&&(true)) <|
  gd ((ze d1.1 d1.2.length)&&(((decide (d1.1.toNat < d1.2.length))&&(true))&&(true))) <|
  gd ((zq (d1.1+(1:Int)))&&(true)) <|
  rec1 ((d1.1+(1:Int)),(d1.2.set d1.1.toNat (a0.getD d1.1.toNat zL.zero).2))) (some d1.2)
def m_rheld(N:Nat) (a0:(List zB)):Option ((List zb)):=
  gd (((decide (0<=(a0.length:Int)))&&(decide ((a0.length:Int)<=(a0.length:Int)))&&(zH 24 (a0.length:Int)))&&(true)) <|
  Option.bind (m_rheld_L1 N a0 N ((0:Int),(List.replicate (a0.length:Int).toNat ([]:(List zb))))) fun o1=>
  Option.bind (m_joinI N o1) fun r2=>
  some r2
noncomputable def ct_rheld (N:Nat):CT cx:=zS N za (by kernel_rfl) [.c (.lst zL)] [] ⟨.a (.c (.lst zo)),[],[]⟩ [ct_joinI N] [] (.s .d (.s .d (.s (.s .d (.b (.lx 0 ⟨[(3,.a (.c (.raw (.sl 8)))),(11,.a (.c (.int .i64)))],[(8,.row 39 (.sl zo))],[9,10],[]⟩ ⟨[(3,.a (.c (.raw (.sl 8))))],[(8,.row 39 (.sl zo))],[],[]⟩ (.s .d (.s .d (.s (.b (.s (.r [.n 6,.w (.frzC 5 zL)]) .d)) .d)))))) (.s (.r [.n 1,.w (.frz 8)]) .d)))) [.tmp 2] 87 [] (fun d=>m_rheld N d.1) Tryz.func87 rfl rfl Tryz.ntmps87 rfl rfl rfl (fun d=>by kernel_rfl)
def m_revP_L1(N:Nat) :Nat->(Int×Int×(List qa))->Option ((List qa)):=zc fun d1 rec1=>
  cond (decide (d1.1 < d1.2.1)) (gd ((ze d1.2.1 d1.2.2.length)&&((decide (d1.2.1.toNat < d1.2.2.length))&&((ze d1.1 d1.2.2.length)&&((decide (d1.1.toNat < d1.2.2.length))&&((ze d1.1 d1.2.2.length)&&(((decide (d1.1.toNat < d1.2.2.length))&&(true))&&((ze d1.2.1 (d1.2.2.set d1.1.toNat (d1.2.2.getD d1.2.1.toNat qU.zero)).length)&&(((decide (d1.2.1.toNat < (d1.2.2.set d1.1.toNat (d1.2.2.getD d1.2.1.toNat qU.zero)).length))&&(true))&&(true))))))))) <|
  gd ((zq (d1.1+(1:Int)))&&((zq (d1.2.1 - (1:Int)))&&(true))) <|
  rec1 ((d1.1+(1:Int)),(d1.2.1 - (1:Int)),((d1.2.2.set d1.1.toNat (d1.2.2.getD d1.2.1.toNat qU.zero)).set d1.2.1.toNat (d1.2.2.getD d1.1.toNat qU.zero)))) (some d1.2.2)
def m_revP(N:Nat) (a0:List qa):Option ((List qa)):=
  gd ((zq ((a0.length:Int) - (1:Int)))&&(true)) <|
  Option.bind (m_revP_L1 N N ((0:Int),((a0.length:Int) - (1:Int)),a0)) fun o1=>
  some o1
noncomputable def ct_revP (N:Nat):CT cx:=zS N za (by kernel_rfl) [.c (.raw (.sl 2000000))] [(2000000,.row 123 qU)] ⟨.tup [],[(2000000,.row 123 qU)],[]⟩ [] [] (.s .d (.b (.lx 0 ⟨[(0,.a (.c (.raw (.sl 2000000)))),(2,.a (.c (.int .i64))),(3,.a (.c (.int .i64)))],[(2000000,.row 123 qU)],[],[]⟩ ⟨[],[(2000000,.row 123 qU)],[],[]⟩ (.s .d (.s (.b (.oa [8,9,10,11] [.t 0 0,.t 1 0,.t 2 0,.t 3 0,.t 4 0,.t 5 0,.t 6 0,.t 7 3,.t 8 0,.t 9 0,.t 10 0,.t 11 3,.t 12 0,.s 13,.t 14 0,.s 15] [])) .d))))) [] 131 [] (fun d=>m_revP N d.1) Tryz.func131 rfl rfl Tryz.ntmps131 rfl rfl rfl (fun d=>by kernel_rfl)
def m_rpast_L3(N:Nat) (a0:(List zB)) (a1:Int) (v2_0:Int):Nat->(Int×(List qa))->Option ((List qa)):=zc fun d3 rec3=>
  cond (decide (d3.1 < ((a0.getD v2_0.toNat zL.zero).2.length:Int))) (gd ((ze d3.1 (a0.getD v2_0.toNat zL.zero).2.length)&&(true)) <|
  gd ((zV 24 (d3.2.length+[(((a0.getD v2_0.toNat zL.zero).2.getD d3.1.toNat zo.zero),((decide ((a0.getD v2_0.toNat zL.zero).1=(1:Int))),a1))].length))&&(true)) <|
  gd ((zq (d3.1+(1:Int)))&&(true)) <|
  rec3 ((d3.1+(1:Int)),(d3.2++[(((a0.getD v2_0.toNat zL.zero).2.getD d3.1.toNat zo.zero),((decide ((a0.getD v2_0.toNat zL.zero).1=(1:Int))),a1))]))) (some d3.2)
def m_rpast_L2(N:Nat) (a0:(List zB)) (a1:Int):Nat->(Int×(List qa))->Option ((List qa)):=zc fun d2 rec2=>
  cond (decide (d2.1 < (a0.length:Int))) (gd ((ze d2.1 a0.length)&&(true)) <|
  Option.bind (m_rpast_L3 N a0 a1 d2.1 N ((0:Int),d2.2)) fun o3=>
  gd ((zq (d2.1+(1:Int)))&&(true)) <|
  rec2 ((d2.1+(1:Int)),o3)) (some d2.2)
def m_rpast(N:Nat) (a0:(List zB)) (a1:Int):Option ((List qa)):=
  Option.bind (m_rheld N a0) fun r1=>
  gd (((decide ((0:Int)<=(r1.length:Int)))&&(zH 24 (r1.length:Int)))&&(true)) <|
  Option.bind (m_rpast_L2 N a0 a1 N ((0:Int),([]:List qa))) fun o2=>
  cond (!(decide (a1=(1:Int)))) (Option.bind (m_revP N o2) fun r4=>
  some r4) (some o2)
noncomputable def ct_rpast (N:Nat):CT cx:=zS N za (by kernel_rfl) [.c (.lst zL),.c (.int .u8)] [] ⟨.a (.c (.lst qU)),[],[]⟩ [ct_rheld N,ct_revP N] [] (.s .d (.s .d (.s .d (.s (.s .d (.b (.lx 0 ⟨[(6,.a (.c (.raw (.sl 15)))),(18,.a (.c (.int .i64)))],[(15,.row 123 qU)],[1,16,17],[]⟩ ⟨[(6,.a (.c (.raw (.sl 15))))],[(15,.row 123 qU)],[1],[]⟩ (.s .d (.s .d (.s (.b (.s (.r [.n 4,.w (.frzC 8 zL)]) (.s .d (.b (.lx 2 ⟨[(6,.a (.c (.raw (.sl 15)))),(25,.a (.c (.int .i64)))],[(15,.row 123 qU)],[1,8,16,17,18,23,24],[]⟩ ⟨[(6,.a (.c (.raw (.sl 15))))],[(15,.row 123 qU)],[1,16,17,18],[]⟩ (.s .d (.s .d (.s (.b (.s (.r [.n 4,.w (.frzC 10 zo)]) .d)) .d)))))))) .d)))))) (.s (.s .d (.c (.r [.n 1,.c [(2000000,15)]]) .d)) (.s .d (.t [.frz 15]))))))) [.tmp 4] 109 [] (fun d=>m_rpast N d.1 d.2.1) Tryz.func109 rfl rfl Tryz.ntmps109 rfl rfl rfl (fun d=>by kernel_rfl)
end

section
set_option linter.unusedSimpArgs false
set_option linter.unusedVariables false
open Go.RowKit
def m_ysided(N:Nat) (a0:Int):Option (Bool):=
  some (cond (decide (a0=(0:Int))) true (decide (a0=(1:Int))))
noncomputable def ct_ysided (N:Nat):CT cx:=zS N za (by kernel_rfl) [.c (.int .u8)] [] ⟨.a (.c .bool),[],[]⟩ [] [] (.d) [.tmp 2] 125 false (fun d=>m_ysided N d.1) Tryz.func125 rfl rfl Tryz.ntmps125 rfl rfl rfl (fun d=>by kernel_rfl)
def m_ynamed(N:Nat) (a0:zb):Option (Bool):=
  some (cond (cond (cond (decide ((1:Int)<=a0.1)) (decide (a0.1<=(6:Int))) false) (decide ((0:Int)<=a0.2)) false) (decide (a0.2 < (2048:Int))) false)
noncomputable def ct_ynamed (N:Nat):CT cx:=zS N za (by kernel_rfl) [.dat zo] [] ⟨.a (.c .bool),[],[]⟩ [] [] (.s (.r [.n 2,.w (.frzC 1 zo)]) .d) [.tmp 2] 120 false (fun d=>m_ynamed N d.1) Tryz.func120 rfl rfl Tryz.ntmps120 rfl rfl rfl (fun d=>by kernel_rfl)
def m_yvalid(N:Nat) (a0:qa):Option (Bool):=
  Option.bind (m_ynamed N a0.1) fun r1=>
  Option.bind (cond r1 (m_ysided N a0.2.2) (some false)) fun r2=>
  some (cond r1 r2 false)
noncomputable def ct_yvalid (N:Nat):CT cx:=zS N za (by kernel_rfl) [.dat qU] [] ⟨.a (.c .bool),[],[]⟩ [ct_ynamed N,ct_ysided N] [] (.s (.r [.n 2,.w (.frzC 1 qU)]) .d) [.tmp 2] 91 false (fun d=>m_yvalid N d.1) Tryz.func91 rfl rfl Tryz.ntmps91 rfl rfl rfl (fun d=>by kernel_rfl)
def xb(N:Nat) (a0:Int):Option (Bool):=
  some (cond (cond (!(decide ((Int.tmod a0 (2:Int))=(0:Int)))) (decide ((-13:Int)<=a0)) false) (decide (a0<=(179:Int))) false)
noncomputable def ct_yisplace (N:Nat):CT cx:=zS N za (by kernel_rfl) [.c (.int .i64)] [] ⟨.a (.c .bool),[],[]⟩ [] [] (.d) [.tmp 2] 90 false (fun d=>xb N d.1) Tryz.func90 rfl rfl Tryz.ntmps90 rfl rfl rfl (fun d=>by kernel_rfl)
def m_ycancel(N:Nat) (a0:qa) (a1:qa):Option (Bool):=
  Option.bind (m_ysided N a0.2.2) fun r1=>
  Option.bind (cond (!(!r1)) (m_ysided N a1.2.2) (some false)) fun r2=>
  cond (cond (cond (!r1) true (!r2)) true (decide (a0.2.2=a1.2.2))) (some false) (some (GTy.beq qU a0 (a1.1,(a1.2.1,a0.2.2))))
noncomputable def ct_ycancel (N:Nat):CT cx:=zS N za (by kernel_rfl) [.dat qU,.dat qU] [] ⟨.a (.c .bool),[],[]⟩ [ct_ysided N] [] (.s (.r [.n 3,.w (.frzC 2 qU)]) .d) [.tmp 4] 124 false (fun d=>m_ycancel N d.1 d.2.1) Tryz.func124 rfl rfl Tryz.ntmps124 rfl rfl rfl (fun d=>by kernel_rfl)
def m_ypush_L1(N:Nat) (a0:(List qa)):Nat->(Int×(List qa))->Option ((List qa)):=zc fun d1 rec1=>
  cond (decide (d1.1 < (a0.length:Int))) (gd ((ze d1.1 a0.length)&&(true)) <|
  gd ((qn (decide ((0:Int) < (d1.2.length:Int))) (zq ((d1.2.length:Int) - (1:Int))))&&((qn (decide ((0:Int) < (d1.2.length:Int))) (ze ((d1.2.length:Int) - (1:Int)) d1.2.length))&&((qn (decide ((0:Int) < (d1.2.length:Int))) (decide (((d1.2.length:Int) - (1:Int)).toNat < d1.2.length)))&&(true)))) <|
  Option.bind (cond (decide ((0:Int) < (d1.2.length:Int))) (m_ycancel N (d1.2.getD ((d1.2.length:Int) - (1:Int)).toNat qU.zero) (a0.getD d1.1.toNat qU.zero)) (some false)) fun r2=>
  cond (cond (decide ((0:Int) < (d1.2.length:Int))) r2 false) (gd ((zq ((d1.2.length:Int) - (1:Int)))&&(((decide (0<=((d1.2.length:Int) - (1:Int))))&&(decide (((d1.2.length:Int) - (1:Int))<=(d1.2.length:Int))))&&(true))) <|
  gd ((zq (d1.1+(1:Int)))&&(true)) <|
  rec1 ((d1.1+(1:Int)),(d1.2.take ((d1.2.length:Int) - (1:Int)).toNat))) (gd ((zV 24 (d1.2.length+[(a0.getD d1.1.toNat qU.zero)].length))&&(true)) <|
  gd ((zq (d1.1+(1:Int)))&&(true)) <|
  rec1 ((d1.1+(1:Int)),(d1.2++[(a0.getD d1.1.toNat qU.zero)])))) (some d1.2)
def m_ypush(N:Nat) (a0:(List qa)) (a1:List qa):Option ((List qa)):=
  Option.bind (m_ypush_L1 N a0 N ((0:Int),a1)) fun o1=>
  some o1
noncomputable def ct_ypush (N:Nat):CT cx:=zS N za (by kernel_rfl) [.c (.raw (.sl 1000000)),.c (.lst qU)] [(1000000,.row 123 qU)] ⟨.a (.c (.raw (.sl 1000000))),[(1000000,.row 123 qU)],[]⟩ [ct_ycancel N] [] (.s .d (.s (.s .d (.b (.lx 0 ⟨[(0,.a (.c (.raw (.sl 1000000)))),(10,.a (.c (.int .i64)))],[(1000000,.row 123 qU)],[8,9],[]⟩ ⟨[(0,.a (.c (.raw (.sl 1000000))))],[(1000000,.row 123 qU)],[],[]⟩ (.s .d (.s .d (.s (.b (.s (.r [.n 4,.w (.frzC 6 qU)]) (.s .d (.s (.oa [8] [.t 0 0,.t 1 0,.t 2 0,.t 3 0,.t 4 0,.t 5 0,.t 6 0,.t 7 3,.t 8 1,.g 9,.t 10 0] []) .d)))) .d)))))) .d)) [.tmp 4] 92 [] (fun d=>m_ypush N d.1 d.2.1) Tryz.func92 rfl rfl Tryz.ntmps92 rfl rfl rfl (fun d=>by kernel_rfl)
def xm(N:Nat) (a0:(List qa)):Option ((List qa)×Nat):=
  gd (((decide (0<=(a0.length:Int)))&&(decide ((a0.length:Int)<=(a0.length:Int)))&&(zH 24 (a0.length:Int)))&&(true)) <|
  gd ((Nat.beq a0.length (List.replicate (a0.length:Int).toNat (qU.zero:qa)).length)&&(true)) <|
  some (a0,(a0.length:Int).toNat)
noncomputable def ct_ycopied (N:Nat):CT cx:=zS N za (by kernel_rfl) [.c (.lst qU)] [] ⟨.a (.c (.lstx qU)),[],[]⟩ [] [] (.s .d (.s .d (.s .d (.s .d (.t [.frz 6]))))) [.tmp 2] 93 ([],0) (fun d=>xm N d.1) Tryz.func93 rfl rfl Tryz.ntmps93 rfl rfl rfl (fun d=>by kernel_rfl)
def m_ycheck_L2(N:Nat) (a0:zd):Nat->Int->Option ((Unit)⊕(Int)):=zc fun d2 rec2=>
  cond (decide (d2 < (a0.2.2.2.2.length:Int))) (gd ((ze d2 a0.2.2.2.2.length)&&(true)) <|
  Option.bind (m_yvalid N (a0.2.2.2.2.getD d2.toNat qU.zero)) fun r3=>
  gd ((qn ((!(!r3))&&(decide ((0:Int) < d2))) (zq (d2 - (1:Int))))&&((qn ((!(!r3))&&(decide ((0:Int) < d2))) (ze (d2 - (1:Int)) a0.2.2.2.2.length))&&(true))) <|
  Option.bind (cond ((!(!r3))&&(decide ((0:Int) < d2))) (m_ycancel N (a0.2.2.2.2.getD (d2 - (1:Int)).toNat qU.zero) (a0.2.2.2.2.getD d2.toNat qU.zero)) (some false)) fun r4=>
  cond (cond (!r3) true (cond (decide ((0:Int) < d2)) r4 false)) (some (.inr (1:Int))) (gd ((zq (d2+(1:Int)))&&(true)) <|
  rec2 (d2+(1:Int)))) (some (.inl ()))
def m_ycheck(N:Nat) (a0:zd):Option (Int):=
  cond (cond (decide (a0.2.2.1 < (0:Int))) true (decide ((2048:Int) < a0.2.2.1))) (some (1:Int)) (cond (!a0.1) (cond (cond (cond (!(decide (a0.2.1=(0:Int)))) true a0.2.2.2.1) true (decide ((0:Int) < (a0.2.2.2.2.length:Int)))) (some (1:Int)) (some (0:Int))) (Option.bind (xb N a0.2.1) fun r1=>
  cond (cond (!r1) true (decide ((4096:Int) < (a0.2.2.2.2.length:Int)))) (some (1:Int)) (Option.bind (m_ycheck_L2 N a0 N (0:Int)) fun(o2:(Unit)⊕(Int))=>
  sm o2 (fun o2=>
  some (0:Int)) (fun q=>some q))))
noncomputable def ct_ycheck (N:Nat):CT cx:=zS N za (by kernel_rfl) [.dat zr] [] ⟨.a (.c (.int .i64)),[],[]⟩ [ct_yisplace N,ct_yvalid N,ct_ycancel N] [] (.s (.r [.n 2,.w (.frzC 1 zr)]) (.s .d (.s .d (.s .d (.s (.s .d (.b (.lxx 0 ⟨[(42,.a (.c (.int .i64)))],[],[1,40,41],[]⟩ ⟨[],[],[],[]⟩ (.s .d (.s .d (.s (.b (.s (.r [.n 6,.w (.frzC 4 qU)]) (.s (.o [] [.t 0 1,.c 1 [],.f,.t 2 0,.t 3 0,.t 4 0,.t 5 0,.t 6 0,.t 7 0,.t 8 1,.t 9 0,.t 10 0,.t 11 0,.t 12 1,.t 13 1,.g 14,.t 15 0,.t 16 0] []) .d))) .d)))))) .d))))) [.tmp 2] 89 0 (fun d=>m_ycheck N d.1) Tryz.func89 rfl rfl Tryz.ntmps89 rfl rfl rfl (fun d=>by kernel_rfl)
def m_yreduce(N:Nat) (a0:(List qa)):Option ((List qa)×Nat):=
  gd (((decide ((0:Int)<=(a0.length:Int)))&&(zH 24 (a0.length:Int)))&&(true)) <|
  Option.bind (m_ypush N a0 ([]:List qa)) fun r1=>
  Option.bind (xm N r1) fun r2=>
  some (r2.1,r2.2)
noncomputable def ct_yreduce (N:Nat):CT cx:=zS N za (by kernel_rfl) [.c (.lst qU)] [] ⟨.a (.c (.lstx qU)),[],[]⟩ [ct_ypush N,ct_ycopied N] [] (.s .d (.s (.r [.n 4,.c [(1000000,5)],.w (.frz 5)]) .d)) [.tmp 2] 153 ([],0) (fun d=>m_yreduce N d.1) Tryz.func153 rfl rfl Tryz.ntmps153 rfl rfl rfl (fun d=>by kernel_rfl)
def m_ygo_L3(N:Nat) (a2:(List qa)):Nat->Int->Option ((Unit)⊕(zd×Int)):=zc fun d3 rec3=>
  cond (decide (d3 < (a2.length:Int))) (gd ((ze d3 a2.length)&&(true)) <|
  Option.bind (m_yvalid N (a2.getD d3.toNat qU.zero)) fun r4=>
  cond (!r4) (some (.inr ((false,((0:Int),((0:Int),(false,([]:List qa))))),(1:Int)))) (gd ((zq (d3+(1:Int)))&&(true)) <|
  rec3 (d3+(1:Int)))) (some (.inl ()))
def m_ygo(N:Nat) (a0:zd) (a1:Int) (a2:(List qa)):Option (zd×Int):=
  Option.bind (m_ycheck N a0) fun r1=>
  cond (!(decide (r1=(0:Int)))) (some ((false,((0:Int),((0:Int),(false,([]:List qa))))),r1)) (Option.bind (xb N a1) fun r2=>
  cond (!r2) (some ((false,((0:Int),((0:Int),(false,([]:List qa))))),(1:Int))) (Option.bind (m_ygo_L3 N a2 N (0:Int)) fun(o3:(Unit)⊕(zd×Int))=>
  sm o3 (fun o3=>
  cond (!a0.1) (some ((false,((0:Int),((0:Int),(false,([]:List qa))))),(12:Int))) (gd ((zq ((a0.2.2.2.2.length:Int)+(a2.length:Int)))&&(((decide ((0:Int)<=((a0.2.2.2.2.length:Int)+(a2.length:Int))))&&(zH 24 ((a0.2.2.2.2.length:Int)+(a2.length:Int))))&&(true))) <|
  gd ((zV 24 (([]:List qa).length+a0.2.2.2.2.length))&&(true)) <|
  Option.bind (m_ypush N a2 (([]:List qa)++a0.2.2.2.2)) fun r5=>
  cond (decide ((4096:Int) < (r5.length:Int))) (some ((false,((0:Int),((0:Int),(false,([]:List qa))))),(3:Int))) (Option.bind (xm N r5) fun r6=>
  some ((a0.1,(a1,(a0.2.2.1,(a0.2.2.2.1,r6.1)))),(0:Int))))) (fun q=>some q)))
noncomputable def ct_ygo (N:Nat):CT cx:=zS N za (by kernel_rfl) [.dat zr,.c (.int .i64),.c (.lst qU)] [] ⟨.tup [.dat zr,.c (.int .i64)],[],[]⟩ [ct_ycheck N,ct_yisplace N,ct_yvalid N,ct_ypush N,ct_ycopied N] [] (.s .d (.s .d (.s .d (.s (.s .d (.b (.lxx 0 ⟨[(3,.a (.c (.raw (.ptr 3 0)))),(6,.a (.c (.raw (.ptr 6 0)))),(24,.a (.c (.int .i64)))],[],[1,2,22,23],[3,6]⟩ ⟨[(3,.a (.c (.raw (.ptr 3 0)))),(6,.a (.c (.raw (.ptr 6 0))))],[],[1,2],[3,6]⟩ (.s .d (.s .d (.s (.b (.s (.r [.n 4,.w (.frzC 10 qU)]) .d)) .d)))))) (.s .d (.s .d (.s (.r [.n 5,.c [(1000000,43)]]) (.s .d (.s .d (.s (.r [.n 1,.w (.frz 43)]) .d)))))))))) [.cell 6 112,.tmp 7] 55 (zr.zero,0) (fun d=>m_ygo N d.1 d.2.1 d.2.2.1) Tryz.func55 rfl rfl Tryz.ntmps55 rfl rfl rfl (fun d=>by kernel_rfl)
def m_yenter(N:Nat) (a0:zd) (a1:Int):Option (zd×Int):=
  Option.bind (m_ycheck N a0) fun r1=>
  cond (!(decide (r1=(0:Int)))) (some ((false,((0:Int),((0:Int),(false,([]:List qa))))),r1)) (Option.bind (m_ysided N a1) fun r2=>
  cond (!r2) (some ((false,((0:Int),((0:Int),(false,([]:List qa))))),(1:Int))) (cond a0.1 (some ((false,((0:Int),((0:Int),(false,([]:List qa))))),(12:Int))) (cond (decide (a1=(1:Int))) (some ((true,((179:Int),(a0.2.2.1,(true,([]:List qa))))),(0:Int))) (some ((true,((-13:Int),(a0.2.2.1,(true,([]:List qa))))),(0:Int))))))
noncomputable def ct_yenter (N:Nat):CT cx:=zS N za (by kernel_rfl) [.dat zr,.c (.int .u8)] [] ⟨.tup [.dat zr,.c (.int .i64)],[],[]⟩ [ct_ycheck N,ct_ysided N] [] (.s (.r [.n 3,.w (.frzC 2 zr)]) .d) [.cell 4 112,.tmp 5] 107 (zr.zero,0) (fun d=>m_yenter N d.1 d.2.1) Tryz.func107 rfl rfl Tryz.ntmps107 rfl rfl rfl (fun d=>by kernel_rfl)
end

section
set_option linter.unusedSimpArgs false
set_option linter.unusedVariables false
open Go.RowKit
def m_ymake(N:Nat) (a0:zd):Option (zd×Kt10×Int):=
  Option.bind (m_ycheck N a0) fun r1=>
  cond (!(decide (r1=(0:Int)))) (some ((false,((0:Int),((0:Int),(false,([]:List qa))))),((0:Int),(false,([]:List qa))),r1)) (cond (!a0.1) (some ((false,((0:Int),((0:Int),(false,([]:List qa))))),((0:Int),(false,([]:List qa))),(12:Int))) (cond (decide (a0.2.2.1=(2048:Int))) (some ((false,((0:Int),((0:Int),(false,([]:List qa))))),((0:Int),(false,([]:List qa))),(3:Int))) (Option.bind (xm N a0.2.2.2.2) fun r2=>
  gd ((zq (a0.2.2.1+(1:Int)))&&(true)) <|
  some ((true,(a0.2.1,((a0.2.2.1+(1:Int)),(false,([]:List qa))))),(a0.2.2.1,(a0.2.2.2.1,r2.1)),(0:Int)))))
noncomputable def b_ymake (N:Nat) (a0:zd):Option (zd×Kt10×Int):=
  Option.bind (m_ycheck N a0) fun r1=>
  cond (!(decide (r1=(0:Int)))) (some ((false,((0:Int),((0:Int),(false,([]:List qa))))),((0:Int),(false,([]:List qa))),r1)) (cond (!a0.1) (some ((false,((0:Int),((0:Int),(false,([]:List qa))))),((0:Int),(false,([]:List qa))),(12:Int))) (cond (decide (a0.2.2.1=(2048:Int))) (some ((false,((0:Int),((0:Int),(false,([]:List qa))))),((0:Int),(false,([]:List qa))),(3:Int))) (bth (Option.bind (xm N a0.2.2.2.2) fun r2=>
  gd ((zq (a0.2.2.1+(1:Int)))&&(true)) <|
  some ((true,(a0.2.1,((a0.2.2.1+(1:Int)),(false,([]:List qa))))),(a0.2.2.1,(a0.2.2.2.1,r2.1)),(0:Int))) (Option.bind (xm N a0.2.2.2.2) fun r2=>
  gd ((zq (a0.2.2.1+(1:Int)))&&(true)) <|
  some ((true,(a0.2.1,((a0.2.2.1+(1:Int)),(false,([]:List qa))))),(a0.2.2.1,(a0.2.2.2.1,r2.1)),(0:Int))))))
theorem e_ymake:b_ymake=m_ymake:=by
 unfold b_ymake m_ymake
 first | rfl | (simp only[qC]; done) | (funext; simp (disch:=(simp only[gd_and,zl,xw]; first | done | first | rfl | (refine zE (fun h=>?_) (fun h=>?_); (focus (rw[h]; first | done | (simp only[zl]; first | done | first | rfl | (refine zE (fun h=>?_) (fun h=>?_); (focus (rw[h]; first | done | (simp only[zl]; first | done | first | rfl | (refine zE (fun h=>?_) (fun h=>?_); (focus (rw[h]; first | done | (simp only[zl]; first | done | rfl))); (focus (rw[h]; first | done | simp only[zn,zD])))))); (focus (rw[h]; first | done | simp only[zn,zD])))))); (focus (rw[h]; first | done | simp only[zn,zD]))))) only[bth_eq])
noncomputable def ct_ymake (N:Nat):CT cx:=ctE2 N za (by kernel_rfl) [.dat zr] [] ⟨.tup [.dat zr,.dat kd10,.c (.int .i64)],[],[]⟩ [ct_ycheck N,ct_ycopied N] [] (.s (.r [.n 4,.w (.frzC 1 zr)]) (.s .d (.s .d (.s .d (.s (.ob [] [] (.b [.t 0 0,.t 1 1,.t 2 0,.t 3 1,.t 4 0,.t 5 1] 6 8 [] [] (.f [.t 7 0,.s 8,.s 9]) (.f [.c 6 [],.t 7 0,.s 9])) [(.frzC 6 kd10)] false) (.s (.o [] [.t 0 0,.t 1 1,.t 2 0,.t 3 1,.t 4 0,.t 5 0,.t 6 1,.s 7,.s 8,.t 9 0] []) .d)))))) [.cell 2 112,.cell 3 127,.tmp 4] 56 (zr.zero,kd10.zero,0) (fun d=>b_ymake N d.1) (fun d=>m_ymake N d.1) (fun d=>(by rw[e_ymake]:b_ymake N d.1=m_ymake N d.1)) Tryz.func56 rfl rfl Tryz.ntmps56 rfl rfl rfl (fun d=>by kernel_rfl)
end

section
set_option linter.unusedSimpArgs false
set_option linter.unusedVariables false
open Go.RowKit
def m_joinST_L1(N:Nat) (a0:List (Bool×List zB)):Nat->(Int×Int×(List (Bool×List zB)))->Option (Int×(List (Bool×List zB))):=zc fun d1 rec1=>
  cond (decide (d1.2.1 < (a0.length:Int))) (gd ((ze d1.2.1 d1.2.2.length)&&(((decide (d1.2.1.toNat < d1.2.2.length))&&(d1.2.2.getD d1.2.1.toNat (false,[])).1)&&(true))) <|
  gd ((zq (d1.1+((d1.2.2.getD d1.2.1.toNat (false,[])).2.length:Int)))&&(true)) <|
  gd ((zq (d1.2.1+(1:Int)))&&(true)) <|
  rec1 ((d1.1+((d1.2.2.getD d1.2.1.toNat (false,[])).2.length:Int)),(d1.2.1+(1:Int)),(d1.2.2.set d1.2.1.toNat (true,(d1.2.2.getD d1.2.1.toNat (false,[])).2)))) (some (d1.1,d1.2.2))
def m_joinST_L2(N:Nat) (o1:Int×(List (Bool×List zB))):Nat->(Int×Int×(List zB)×(List (Bool×List zB)))->Option ((List zB)×(List (Bool×List zB))):=zc fun d2 rec2=>
  cond (decide (d2.2.1 < (o1.2.length:Int))) (gd ((ze d2.2.1 d2.2.2.2.length)&&(((decide (d2.2.1.toNat < d2.2.2.2.length))&&(d2.2.2.2.getD d2.2.1.toNat (false,[])).1)&&(true))) <|
  gd (((decide (0<=d2.1))&&(decide (d2.1<=(d2.2.2.1.length:Int))))&&((decide (d2.1.toNat+(d2.2.2.2.getD d2.2.1.toNat (false,[])).2.length<=d2.2.2.1.length))&&((zq (d2.1+((d2.2.2.2.getD d2.2.1.toNat (false,[])).2.length:Int)))&&(true)))) <|
  gd ((zq (d2.2.1+(1:Int)))&&(true)) <|
  rec2 ((d2.1+((d2.2.2.2.getD d2.2.1.toNat (false,[])).2.length:Int)),(d2.2.1+(1:Int)),(d2.2.2.1.take d2.1.toNat++(d2.2.2.2.getD d2.2.1.toNat (false,[])).2++d2.2.2.1.drop (d2.1.toNat+(d2.2.2.2.getD d2.2.1.toNat (false,[])).2.length)),(d2.2.2.2.set d2.2.1.toNat (true,(d2.2.2.2.getD d2.2.1.toNat (false,[])).2)))) (some (d2.2.2.1,d2.2.2.2))
def m_joinST(N:Nat) (a0:List (Bool×List zB)):Option ((List zB)×(List (Bool×List zB))):=
  Option.bind (m_joinST_L1 N a0 N ((0:Int),(0:Int),a0)) fun o1=>
  gd (((decide (0<=o1.1))&&(decide (o1.1<=o1.1))&&(zH 32 o1.1))&&(true)) <|
  Option.bind (m_joinST_L2 N o1 N ((0:Int),(0:Int),(List.replicate o1.1.toNat (zL.zero:zB)),o1.2)) fun o2=>
  some (o2.1,o2.2)
noncomputable def ct_joinST (N:Nat):CT cx:=zS N za (by kernel_rfl) [.c (.raw (.sl 2000000))] [(2000000,.mrow 70 121 zL)] ⟨.a (.c (.lst zL)),[(2000000,.mrow 70 121 zL)],[]⟩ [] [] (.s .d (.s .d (.s (.s .d (.b (.lx 0 ⟨[(0,.a (.c (.raw (.sl 2000000)))),(3,.a (.c (.int .i64))),(10,.a (.c (.raw (.sl 2000000)))),(12,.a (.c (.int .i64)))],[(2000000,.mrow 70 121 zL)],[11],[]⟩ ⟨[(0,.a (.c (.raw (.sl 2000000)))),(3,.a (.c (.int .i64)))],[(2000000,.mrow 70 121 zL)],[],[]⟩ (.s .d (.s .d (.s (.b (.s (.r [.n 1,.t .ld]) (.r [.n 5,.w (.t (.close 2000000 15))]))) .d)))))) (.s .d (.s .d (.s (.s .d (.b (.lx 2 ⟨[(6,.a (.c (.raw (.sl 22)))),(7,.a (.c (.int .i64))),(23,.a (.c (.raw (.sl 2000000)))),(25,.a (.c (.int .i64)))],[(22,.row 121 zL),(2000000,.mrow 70 121 zL)],[24],[]⟩ ⟨[(6,.a (.c (.raw (.sl 22))))],[(22,.row 121 zL),(2000000,.mrow 70 121 zL)],[],[]⟩ (.s .d (.s .d (.s (.b (.s (.r [.n 1,.t .ld]) (.r [.n 8,.w (.t (.close 2000000 28))]))) .d)))))) (.s .d (.t [.frz 22])))))))) [.tmp 2] 110 ([],[]) (fun d=>m_joinST N d.1) Tryz.func110 rfl rfl Tryz.ntmps110 rfl rfl rfl (fun d=>by kernel_rfl)
def m_rturned(N:Nat) (a0:Int):Option (Int):=
  cond (decide (a0=(0:Int))) (some (1:Int)) (some (0:Int))
noncomputable def ct_rturned (N:Nat):CT cx:=zS N za (by kernel_rfl) [.c (.int .u8)] [] ⟨.a (.c (.int .u8)),[],[]⟩ [] [] (.d) [.tmp 2] 106 0 (fun d=>m_rturned N d.1) Tryz.func106 rfl rfl Tryz.ntmps106 rfl rfl rfl (fun d=>by kernel_rfl)
def m_rend(N:Nat) (a0:Int):Option (Int):=
  cond (decide (a0=(0:Int))) (some (-13:Int)) (some (179:Int))
noncomputable def ct_rend (N:Nat):CT cx:=zS N za (by kernel_rfl) [.c (.int .u8)] [] ⟨.a (.c (.int .i64)),[],[]⟩ [] [] (.d) [.tmp 2] 108 0 (fun d=>m_rend N d.1) Tryz.func108 rfl rfl Tryz.ntmps108 rfl rfl rfl (fun d=>by kernel_rfl)
def xj(N:Nat) (a0:Int) (a1:Int) (a2:(List qa)) (a3:(List zi)) (a4:Int) (a5:List zd):Option (Int×(List zi)×Int×(List zd)):=
  gd ((ze (IntKind.wrap .u8 (a0 - (1:Int))) a5.length)&&((decide ((IntKind.wrap .u8 (a0 - (1:Int))).toNat < a5.length))&&(true))) <|
  Option.bind (m_ygo N (a5.getD (IntKind.wrap .u8 (a0 - (1:Int))).toNat zr.zero) a1 a2) fun r1=>
  cond (decide (r1.2=(0:Int))) (gd ((ze (IntKind.wrap .u8 (a0 - (1:Int))) a5.length)&&(((decide ((IntKind.wrap .u8 (a0 - (1:Int))).toNat < a5.length))&&(true))&&(true))) <|
  some (r1.2,a3,a4,(a5.set (IntKind.wrap .u8 (a0 - (1:Int))).toNat r1.1))) (some (r1.2,a3,a4,a5))
noncomputable def ct_rsmove (N:Nat):CT cx:=zS N za (by kernel_rfl) [.c (.raw (.ptr 1000000 0)),.c (.int .u8),.c (.int .i64),.c (.lst qU)] [(1000000,.cells 160 [.lst zG,.raw (.sl 2000000),.raw (.sl 2000001),.raw (.sl 2000002),.int .u8]),(2000001,.row 112 zr)] ⟨.a (.c (.int .i64)),[(1000000,.cells 160 [.lst zG,.raw (.sl 2000000),.raw (.sl 2000001),.raw (.sl 2000002),.int .u8]),(2000001,.row 112 zr)],[]⟩ [ct_ygo N] [] (.s .d (.s (.r [.n 17,.w (.frzC 9 zr)]) (.s (.s .d (.c (.o [4,5,6] [.t 0 0,.t 1 0,.t 2 0,.t 3 3,.t 4 0,.t 5 0,.t 6 1,.t 7 0,.s 8] []) .d)) .d))) [.tmp 8] 82 (0,[],0,[]) (fun d=>xj N d.1 d.2.1 d.2.2.1 d.2.2.2.1 d.2.2.2.2.1 d.2.2.2.2.2.1) Tryz.func82 rfl rfl Tryz.ntmps82 rfl rfl rfl (fun d=>by kernel_rfl)
def m_rsbegin(N:Nat) (a0:Int) (a1:(List zi)) (a2:Int) (a3:List (Bool×List zB)) (a4:List zd):Option (Int×(List zi)×Int×(List (Bool×List zB))×(List zd)):=
  Option.bind (m_rturned N a2) fun r1=>
  gd ((ze (IntKind.wrap .u8 (a0 - (1:Int))) a4.length)&&((decide ((IntKind.wrap .u8 (a0 - (1:Int))).toNat < a4.length))&&(true))) <|
  cond (!(a4.getD (IntKind.wrap .u8 (a0 - (1:Int))).toNat zr.zero).1) (Option.bind (m_yenter N (a4.getD (IntKind.wrap .u8 (a0 - (1:Int))).toNat zr.zero) r1) fun r2=>
  Option.bind (cond (decide (r2.2=(0:Int))) (gd ((ze (IntKind.wrap .u8 (a0 - (1:Int))) a4.length)&&(((decide ((IntKind.wrap .u8 (a0 - (1:Int))).toNat < a4.length))&&(true))&&(true))) <|
  some (a1,a2,(a4.set (IntKind.wrap .u8 (a0 - (1:Int))).toNat r2.1))) (some (a1,a2,a4))) fun o3=>
  some (r2.2,o3.1,o3.2.1,a3,o3.2.2)) (Option.bind (m_rend N r1) fun r4=>
  cond (decide ((a4.getD (IntKind.wrap .u8 (a0 - (1:Int))).toNat zr.zero).2.1=r4)) (some ((0:Int),a1,a2,a3,a4)) (Option.bind (m_rend N r1) fun r5=>
  Option.bind (m_joinST N a3) fun r6=>
  Option.bind (m_rpast N r6.1 r1) fun r7=>
  Option.bind (xj N a0 r5 r7 a1 a2 a4) fun r8=>
  some (r8.1,r8.2.1,r8.2.2.1,r6.2,r8.2.2.2)))
noncomputable def ct_rsbegin (N:Nat):CT cx:=zS N za (by kernel_rfl) [.c (.raw (.ptr 1000000 0)),.c (.int .u8)] [(1000000,.cells 160 [.lst zG,.raw (.sl 2000000),.raw (.sl 2000001),.raw (.sl 2000002),.int .u8]),(2000000,.mrow 70 121 zL),(2000001,.row 112 zr)] ⟨.a (.c (.int .i64)),[(1000000,.cells 160 [.lst zG,.raw (.sl 2000000),.raw (.sl 2000001),.raw (.sl 2000002),.int .u8]),(2000000,.mrow 70 121 zL),(2000001,.row 112 zr)],[]⟩ [ct_rturned N,ct_yenter N,ct_rend N,ct_joinST N,ct_rpast N,ct_rsmove N] [] (.s .d (.s .d (.s (.r [.n 10,.w (.frzC 6 zr)]) (.s (.s .d (.c (.s (.r [.n 9,.w (.frzC 7 zr)]) (.j ⟨[],[(1000000,.cells 160 [.lst zG,.raw (.sl 2000000),.raw (.sl 2000001),.raw (.sl 2000002),.int .u8]),(2000001,.row 112 zr)],[8],[2000000]⟩ (.s .d (.c (.o [4,5,6] [.t 0 0,.t 1 0,.t 2 0,.t 3 3,.t 4 0,.t 5 0,.t 6 1,.t 7 0,.s 8] []) .d)) .d)) .d)) (.s (.s (.o [] [.t 0 0,.t 1 1,.t 2 0,.c 3 [],.t 4 0] []) .d) (.s (.o [3,8,9,1000011] [.t 0 0,.t 1 0,.t 2 0,.t 4 0,.t 5 0,.t 6 0,.t 7 3,.t 9 0,.c 3 [],.c 8 [(2000000,2000000)],.c 10 [],.c 11 [(1000000,1000000),(2000000,2000000),(2000002,2000002),(2000001,2000001)],.t 12 0] []) .d)))))) [.tmp 4] 80 (0,[],0,[],[]) (fun d=>m_rsbegin N d.1 d.2.1 d.2.2.1 d.2.2.2.1 d.2.2.2.2.1) Tryz.func80 rfl rfl Tryz.ntmps80 rfl rfl rfl (fun d=>by kernel_rfl)
def m_lcount_L1(N:Nat) (a0:(List (List zj))):Nat->(Int×Int)->Option (Int):=zc fun d1 rec1=>
  cond (decide (d1.2 < (a0.length:Int))) (gd ((ze d1.2 a0.length)&&(true)) <|
  gd ((zq (d1.1+((a0.getD d1.2.toNat []).length:Int)))&&(true)) <|
  gd ((zq (d1.2+(1:Int)))&&(true)) <|
  rec1 ((d1.1+((a0.getD d1.2.toNat []).length:Int)),(d1.2+(1:Int)))) (some d1.1)
def m_lcount(N:Nat) (a0:(List (List zj))):Option (Int):=
  Option.bind (m_lcount_L1 N a0 N ((0:Int),(0:Int))) fun o1=>
  some o1
noncomputable def ct_lcount (N:Nat):CT cx:=zS N za (by kernel_rfl) [.c (.lst (.sl zh))] [] ⟨.a (.c (.int .i64)),[],[]⟩ [] [] (.s .d (.s .d (.s (.s .d (.b (.lx 0 ⟨[(3,.a (.c (.int .i64))),(8,.a (.c (.int .i64)))],[],[6,7],[]⟩ ⟨[(3,.a (.c (.int .i64)))],[],[],[]⟩ .d))) .d))) [.tmp 2] 49 0 (fun d=>m_lcount N d.1) Tryz.func49 rfl rfl Tryz.ntmps49 rfl rfl rfl (fun d=>by kernel_rfl)
def m_lcountT_L1(N:Nat) (a0:List (Bool×List zj)):Nat->(Int×Int×(List (Bool×List zj)))->Option (Int×(List (Bool×List zj))):=zc fun d1 rec1=>
  cond (decide (d1.2.1 < (a0.length:Int))) (gd ((ze d1.2.1 d1.2.2.length)&&(((decide (d1.2.1.toNat < d1.2.2.length))&&(d1.2.2.getD d1.2.1.toNat (false,[])).1)&&(true))) <|
  gd ((zq (d1.1+((d1.2.2.getD d1.2.1.toNat (false,[])).2.length:Int)))&&(true)) <|
  gd ((zq (d1.2.1+(1:Int)))&&(true)) <|
  rec1 ((d1.1+((d1.2.2.getD d1.2.1.toNat (false,[])).2.length:Int)),(d1.2.1+(1:Int)),(d1.2.2.set d1.2.1.toNat (true,(d1.2.2.getD d1.2.1.toNat (false,[])).2)))) (some (d1.1,d1.2.2))
def m_lcountT(N:Nat) (a0:List (Bool×List zj)):Option (Int×(List (Bool×List zj))):=
  Option.bind (m_lcountT_L1 N a0 N ((0:Int),(0:Int),a0)) fun o1=>
  some (o1.1,o1.2)
noncomputable def ct_lcountT (N:Nat):CT cx:=zS N za (by kernel_rfl) [.c (.raw (.sl 2000000))] [(2000000,.mrow 47 51 zh)] ⟨.a (.c (.int .i64)),[(2000000,.mrow 47 51 zh)],[]⟩ [] [] (.s .d (.s .d (.s (.s .d (.b (.lx 0 ⟨[(3,.a (.c (.int .i64))),(6,.a (.c (.raw (.sl 2000000)))),(8,.a (.c (.int .i64)))],[(2000000,.mrow 47 51 zh)],[7],[]⟩ ⟨[(3,.a (.c (.int .i64)))],[(2000000,.mrow 47 51 zh)],[],[]⟩ (.s .d (.s .d (.s (.b (.s (.r [.n 1,.t .ld]) (.r [.n 5,.w (.t (.close 2000000 11))]))) .d)))))) .d))) [.tmp 2] 49 (0,[]) (fun d=>m_lcountT N d.1) Tryz.func49 rfl rfl Tryz.ntmps49 rfl rfl rfl (fun d=>by kernel_rfl)
def qI(N:Nat) (a0:Int) (a1:Int) (a2:(List zb)) (a3:(List zi)) (a4:Int) (a5:List (Bool×List zj)) (a6:List zd):Option (zb×Int×(List zi)×Int×(List (Bool×List zj))×(List zd)):=
  Option.bind (m_lcountT N a5) fun r1=>
  cond (decide ((2048:Int)<=r1.1)) (some (((0:Int),(0:Int)),(3:Int),a3,a4,r1.2,a6)) (gd ((ze (IntKind.wrap .u8 (a0 - (1:Int))) a6.length)&&((decide ((IntKind.wrap .u8 (a0 - (1:Int))).toNat < a6.length))&&(true))) <|
  Option.bind (m_ymake N (a6.getD (IntKind.wrap .u8 (a0 - (1:Int))).toNat zr.zero)) fun r2=>
  cond (!(decide (r2.2.2=(0:Int)))) (some (((0:Int),(0:Int)),r2.2.2,a3,a4,r1.2,a6)) (gd ((ze (IntKind.wrap .u8 (a0 - (1:Int))) a6.length)&&(((decide ((IntKind.wrap .u8 (a0 - (1:Int))).toNat < a6.length))&&(true))&&(true))) <|
  Option.bind (m_rcpI N a2) fun r3=>
  Option.bind (m_rcpP N r2.2.1.2.2) fun r4=>
  gd (((decide ((IntKind.wrap .u8 (a0 - (1:Int))).toNat < r1.2.length))&&(r1.2.getD (IntKind.wrap .u8 (a0 - (1:Int))).toNat (false,[])).1)) <|
  gd ((ze (IntKind.wrap .u8 (a0 - (1:Int))) r1.2.length)&&(true)) <|
  gd ((decide ((IntKind.wrap .u8 (a0 - (1:Int))).toNat=(IntKind.wrap .u8 (a0 - (1:Int))).toNat))&&((zV 56 ((r1.2.getD (IntKind.wrap .u8 (a0 - (1:Int))).toNat (false,[])).2.length+[(a1,(r2.2.1.2.1,(r3.1,r4.1)))].length))&&((ze (IntKind.wrap .u8 (a0 - (1:Int))) r1.2.length)&&(((decide ((IntKind.wrap .u8 (a0 - (1:Int))).toNat=(IntKind.wrap .u8 (a0 - (1:Int))).toNat))&&(decide ((IntKind.wrap .u8 (a0 - (1:Int))).toNat < r1.2.length)))&&(true))))) <|
  some ((a0,r2.2.1.1),(0:Int),a3,a4,(r1.2.set (IntKind.wrap .u8 (a0 - (1:Int))).toNat (true,((r1.2.getD (IntKind.wrap .u8 (a0 - (1:Int))).toNat (false,[])).2++[(a1,(r2.2.1.2.1,(r3.1,r4.1)))]))),(a6.set (IntKind.wrap .u8 (a0 - (1:Int))).toNat r2.1))))
noncomputable def b_rsloop (N:Nat) (a0:Int) (a1:Int) (a2:(List zb)) (a3:(List zi)) (a4:Int) (a5:List (Bool×List zj)) (a6:List zd):Option (zb×Int×(List zi)×Int×(List (Bool×List zj))×(List zd)):=
  Option.bind (m_lcountT N a5) fun r1=>
  cond (decide ((2048:Int)<=r1.1)) (some (((0:Int),(0:Int)),(3:Int),a3,a4,r1.2,a6)) (gd ((ze (IntKind.wrap .u8 (a0 - (1:Int))) a6.length)&&((decide ((IntKind.wrap .u8 (a0 - (1:Int))).toNat < a6.length))&&(true))) <|
  Option.bind (m_ymake N (a6.getD (IntKind.wrap .u8 (a0 - (1:Int))).toNat zr.zero)) fun r2=>
  cond (!(decide (r2.2.2=(0:Int)))) (some (((0:Int),(0:Int)),r2.2.2,a3,a4,r1.2,a6)) (gd ((ze (IntKind.wrap .u8 (a0 - (1:Int))) a6.length)&&(((decide ((IntKind.wrap .u8 (a0 - (1:Int))).toNat < a6.length))&&(true))&&(true))) <|
  bth (Option.bind (m_rcpI N a2) fun r3=>
  bth (Option.bind (m_rcpP N r2.2.1.2.2) fun r4=>
  gd (((decide ((IntKind.wrap .u8 (a0 - (1:Int))).toNat < r1.2.length))&&(r1.2.getD (IntKind.wrap .u8 (a0 - (1:Int))).toNat (false,[])).1)) <|
  gd ((ze (IntKind.wrap .u8 (a0 - (1:Int))) r1.2.length)&&(true)) <|
  bth (gd ((decide ((IntKind.wrap .u8 (a0 - (1:Int))).toNat=(IntKind.wrap .u8 (a0 - (1:Int))).toNat))&&((zV 56 ((r1.2.getD (IntKind.wrap .u8 (a0 - (1:Int))).toNat (false,[])).2.length+[(a1,(r2.2.1.2.1,(r3.1,r4.1)))].length))&&((ze (IntKind.wrap .u8 (a0 - (1:Int))) r1.2.length)&&(((decide ((IntKind.wrap .u8 (a0 - (1:Int))).toNat=(IntKind.wrap .u8 (a0 - (1:Int))).toNat))&&(decide ((IntKind.wrap .u8 (a0 - (1:Int))).toNat < r1.2.length)))&&(true))))) <|
  some ((a0,r2.2.1.1),(0:Int),a3,a4,(r1.2.set (IntKind.wrap .u8 (a0 - (1:Int))).toNat (true,((r1.2.getD (IntKind.wrap .u8 (a0 - (1:Int))).toNat (false,[])).2++[(a1,(r2.2.1.2.1,(r3.1,r4.1)))]))),(a6.set (IntKind.wrap .u8 (a0 - (1:Int))).toNat r2.1))) (gd ((decide ((IntKind.wrap .u8 (a0 - (1:Int))).toNat=(IntKind.wrap .u8 (a0 - (1:Int))).toNat))&&((zV 56 ((r1.2.getD (IntKind.wrap .u8 (a0 - (1:Int))).toNat (false,[])).2.length+[(a1,(r2.2.1.2.1,(r3.1,r4.1)))].length))&&((ze (IntKind.wrap .u8 (a0 - (1:Int))) r1.2.length)&&(((decide ((IntKind.wrap .u8 (a0 - (1:Int))).toNat=(IntKind.wrap .u8 (a0 - (1:Int))).toNat))&&(decide ((IntKind.wrap .u8 (a0 - (1:Int))).toNat < r1.2.length)))&&(true))))) <|
  some ((a0,r2.2.1.1),(0:Int),a3,a4,(r1.2.set (IntKind.wrap .u8 (a0 - (1:Int))).toNat (true,((r1.2.getD (IntKind.wrap .u8 (a0 - (1:Int))).toNat (false,[])).2++[(a1,(r2.2.1.2.1,(r3.1,r4.1)))]))),(a6.set (IntKind.wrap .u8 (a0 - (1:Int))).toNat r2.1)))) (Option.bind (m_rcpP N r2.2.1.2.2) fun r4=>
  gd (((decide ((IntKind.wrap .u8 (a0 - (1:Int))).toNat < r1.2.length))&&(r1.2.getD (IntKind.wrap .u8 (a0 - (1:Int))).toNat (false,[])).1)) <|
  gd ((ze (IntKind.wrap .u8 (a0 - (1:Int))) r1.2.length)&&(true)) <|
  bth (gd ((decide ((IntKind.wrap .u8 (a0 - (1:Int))).toNat=(IntKind.wrap .u8 (a0 - (1:Int))).toNat))&&((zV 56 ((r1.2.getD (IntKind.wrap .u8 (a0 - (1:Int))).toNat (false,[])).2.length+[(a1,(r2.2.1.2.1,(r3.1,r4.1)))].length))&&((ze (IntKind.wrap .u8 (a0 - (1:Int))) r1.2.length)&&(((decide ((IntKind.wrap .u8 (a0 - (1:Int))).toNat=(IntKind.wrap .u8 (a0 - (1:Int))).toNat))&&(decide ((IntKind.wrap .u8 (a0 - (1:Int))).toNat < r1.2.length)))&&(true))))) <|
  some ((a0,r2.2.1.1),(0:Int),a3,a4,(r1.2.set (IntKind.wrap .u8 (a0 - (1:Int))).toNat (true,((r1.2.getD (IntKind.wrap .u8 (a0 - (1:Int))).toNat (false,[])).2++[(a1,(r2.2.1.2.1,(r3.1,r4.1)))]))),(a6.set (IntKind.wrap .u8 (a0 - (1:Int))).toNat r2.1))) (gd ((decide ((IntKind.wrap .u8 (a0 - (1:Int))).toNat=(IntKind.wrap .u8 (a0 - (1:Int))).toNat))&&((zV 56 ((r1.2.getD (IntKind.wrap .u8 (a0 - (1:Int))).toNat (false,[])).2.length+[(a1,(r2.2.1.2.1,(r3.1,r4.1)))].length))&&((ze (IntKind.wrap .u8 (a0 - (1:Int))) r1.2.length)&&(((decide ((IntKind.wrap .u8 (a0 - (1:Int))).toNat=(IntKind.wrap .u8 (a0 - (1:Int))).toNat))&&(decide ((IntKind.wrap .u8 (a0 - (1:Int))).toNat < r1.2.length)))&&(true))))) <|
  some ((a0,r2.2.1.1),(0:Int),a3,a4,(r1.2.set (IntKind.wrap .u8 (a0 - (1:Int))).toNat (true,((r1.2.getD (IntKind.wrap .u8 (a0 - (1:Int))).toNat (false,[])).2++[(a1,(r2.2.1.2.1,(r3.1,r4.1)))]))),(a6.set (IntKind.wrap .u8 (a0 - (1:Int))).toNat r2.1))))) (Option.bind (m_rcpI N a2) fun r3=>
  Option.bind (m_rcpP N r2.2.1.2.2) fun r4=>
  gd (((decide ((IntKind.wrap .u8 (a0 - (1:Int))).toNat < r1.2.length))&&(r1.2.getD (IntKind.wrap .u8 (a0 - (1:Int))).toNat (false,[])).1)) <|
  gd ((ze (IntKind.wrap .u8 (a0 - (1:Int))) r1.2.length)&&(true)) <|
  bth (gd ((decide ((IntKind.wrap .u8 (a0 - (1:Int))).toNat=(IntKind.wrap .u8 (a0 - (1:Int))).toNat))&&((zV 56 ((r1.2.getD (IntKind.wrap .u8 (a0 - (1:Int))).toNat (false,[])).2.length+[(a1,(r2.2.1.2.1,(r3.1,r4.1)))].length))&&((ze (IntKind.wrap .u8 (a0 - (1:Int))) r1.2.length)&&(((decide ((IntKind.wrap .u8 (a0 - (1:Int))).toNat=(IntKind.wrap .u8 (a0 - (1:Int))).toNat))&&(decide ((IntKind.wrap .u8 (a0 - (1:Int))).toNat < r1.2.length)))&&(true))))) <|
  some ((a0,r2.2.1.1),(0:Int),a3,a4,(r1.2.set (IntKind.wrap .u8 (a0 - (1:Int))).toNat (true,((r1.2.getD (IntKind.wrap .u8 (a0 - (1:Int))).toNat (false,[])).2++[(a1,(r2.2.1.2.1,(r3.1,r4.1)))]))),(a6.set (IntKind.wrap .u8 (a0 - (1:Int))).toNat r2.1))) (gd ((decide ((IntKind.wrap .u8 (a0 - (1:Int))).toNat=(IntKind.wrap .u8 (a0 - (1:Int))).toNat))&&((zV 56 ((r1.2.getD (IntKind.wrap .u8 (a0 - (1:Int))).toNat (false,[])).2.length+[(a1,(r2.2.1.2.1,(r3.1,r4.1)))].length))&&((ze (IntKind.wrap .u8 (a0 - (1:Int))) r1.2.length)&&(((decide ((IntKind.wrap .u8 (a0 - (1:Int))).toNat=(IntKind.wrap .u8 (a0 - (1:Int))).toNat))&&(decide ((IntKind.wrap .u8 (a0 - (1:Int))).toNat < r1.2.length)))&&(true))))) <|
  some ((a0,r2.2.1.1),(0:Int),a3,a4,(r1.2.set (IntKind.wrap .u8 (a0 - (1:Int))).toNat (true,((r1.2.getD (IntKind.wrap .u8 (a0 - (1:Int))).toNat (false,[])).2++[(a1,(r2.2.1.2.1,(r3.1,r4.1)))]))),(a6.set (IntKind.wrap .u8 (a0 - (1:Int))).toNat r2.1))))))
theorem e_rsloop:b_rsloop=qI:=by
 unfold b_rsloop qI
 first | rfl | (simp only[qC]; done) | (funext; simp (disch:=(simp only[gd_and,zl,xw]; first | done | first | rfl | (refine zE (fun h=>?_) (fun h=>?_); (focus (rw[h]; first | done | (simp only[zl]; first | done | first | rfl | (refine zE (fun h=>?_) (fun h=>?_); (focus (rw[h]; first | done | (simp only[zl]; first | done | first | rfl | (refine zE (fun h=>?_) (fun h=>?_); (focus (rw[h]; first | done | (simp only[zl]; first | done | rfl))); (focus (rw[h]; first | done | simp only[zn,zD])))))); (focus (rw[h]; first | done | simp only[zn,zD])))))); (focus (rw[h]; first | done | simp only[zn,zD]))))) only[bth_eq])
noncomputable def ct_rsloop (N:Nat):CT cx:=ctE2 N za (by kernel_rfl) [.c (.raw (.ptr 1000000 0)),.c (.int .u8),.c (.int .u8),.c (.lst zo)] [(1000000,.cells 160 [.lst zG,.raw (.sl 2000000),.raw (.sl 2000001),.raw (.sl 2000002),.int .u8]),(2000002,.mrow 47 51 zh),(2000001,.row 112 zr)] ⟨.tup [.dat zo,.c (.int .i64)],[(1000000,.cells 160 [.lst zG,.raw (.sl 2000000),.raw (.sl 2000001),.raw (.sl 2000002),.int .u8]),(2000002,.mrow 47 51 zh),(2000001,.row 112 zr)],[]⟩ [ct_lcountT N,ct_ymake N,ct_rcpI N,ct_rcpP N] [] (.s .d (.s (.s (.r [.n 4,.c [(2000000,2000002)]]) .d) (.s (.r [.n 18,.w (.frzC 10 zr),.w (.frzC 11 kd10)]) (.s .d (.s (.o [4,5,6] [.t 0 0,.t 1 0,.t 2 0,.t 3 3,.t 4 0,.t 5 0,.t 6 1,.t 7 0,.s 8] []) (.s (.ob [] [] (.b [.t 0 0,.t 1 0,.t 2 1,.t 3 0,.t 5 0,.t 6 1] 4 9 [] [] (.b [] 7 9 [] [] (.f [.t 8 0,.s 9,.s 10]) (.f [.c 7 [],.t 8 0,.s 10])) (.f [.c 4 [],.c 7 [],.t 8 0,.s 10])) [(.frzC 13 zh)] false) (.s (.ob [.t (.opw 2000002 1 68 .u8 1)] [4,5,6,7,8,9,10,11,12,13,14,15,16,1000018] (.b [.t 0 0,.t 1 0,.t 2 0,.t 3 3,.t 4 0,.t 5 0,.t 6 0,.t 7 0,.t 8 0,.t 9 3,.t 10 0,.t 11 0,.t 12 0,.t 14 1] 13 15 [] [] (.f [.k 15,.k 16,.t 17 0,.u 18 .st]) (.f [.f,.k 13,.k 16,.t 17 0,.u 18 .st])) [] false) (.s (.r [.n 6,.w (.t (.close 2000002 68))]) .d)))))))) [.cell 8 30,.tmp 9] 81 (zo.zero,0,[],0,[],[]) (fun d=>b_rsloop N d.1 d.2.1 d.2.2.1 d.2.2.2.1 d.2.2.2.2.1 d.2.2.2.2.2.1 d.2.2.2.2.2.2.1) (fun d=>qI N d.1 d.2.1 d.2.2.1 d.2.2.2.1 d.2.2.2.2.1 d.2.2.2.2.2.1 d.2.2.2.2.2.2.1) (fun d=>(by rw[e_rsloop]:b_rsloop N d.1 d.2.1 d.2.2.1 d.2.2.2.1 d.2.2.2.2.1 d.2.2.2.2.2.1 d.2.2.2.2.2.2.1=qI N d.1 d.2.1 d.2.2.1 d.2.2.2.1 d.2.2.2.2.1 d.2.2.2.2.2.1 d.2.2.2.2.2.2.1)) Tryz.func81 rfl rfl Tryz.ntmps81 rfl rfl rfl (fun d=>by kernel_rfl)
end

section
set_option linter.unusedSimpArgs false
set_option linter.unusedVariables false
open Go.RowKit
def m_clipL(N:Nat) (a0:(List zj)):Option ((List zj)×Nat):=
  gd (((decide (0<=(a0.length:Int)))&&(decide ((a0.length:Int)<=(a0.length:Int)))&&(decide ((a0.length:Int)<=(a0.length:Int))))&&(true)) <|
  some ((a0.take (a0.length:Int).toNat),(a0.length:Int).toNat)
noncomputable def ct_clipL (N:Nat):CT cx:=zS N za (by kernel_rfl) [.c (.lst zh)] [] ⟨.a (.c (.lstx zh)),[],[]⟩ [] [] (.d) [.tmp 2] 113 ([],0) (fun d=>m_clipL N d.1) Tryz.func113 rfl rfl Tryz.ntmps113 rfl rfl rfl (fun d=>by kernel_rfl)
def m_rswork_L2(N:Nat) (a6:List (Bool×List zj)):Nat->(Int×(List zQ)×(List zb)×(List zb)×(List zi)×Int×(List (List zj)))->Option ((List zQ)×(List zb)×(List zb)×(List zi)×Int×(List (List zj))):=zc fun d2 rec2=>
  cond (decide (d2.1 < (a6.length:Int))) (gd ((ze d2.1 d2.2.2.2.2.2.2.length)&&((decide (d2.1.toNat < d2.2.2.2.2.2.2.length))&&(true))) <|
  Option.bind (m_clipL N (d2.2.2.2.2.2.2.getD d2.1.toNat [])) fun r3=>
  gd ((ze d2.1 d2.2.2.2.2.2.2.length)&&(((decide (d2.1.toNat < d2.2.2.2.2.2.2.length))&&(true))&&(true))) <|
  gd ((zq (d2.1+(1:Int)))&&(true)) <|
  rec2 ((d2.1+(1:Int)),d2.2.1,d2.2.2.1,d2.2.2.2.1,d2.2.2.2.2.1,d2.2.2.2.2.2.1,(d2.2.2.2.2.2.2.set d2.1.toNat r3.1))) (some (d2.2.1,d2.2.2.1,d2.2.2.2.1,d2.2.2.2.2.1,d2.2.2.2.2.2.1,d2.2.2.2.2.2.2))
def m_rswork(N:Nat) (a0:(List zQ)) (a1:(List zb)) (a2:(List zb)) (a3:(List zB)) (a4:(List zi)) (a5:Int) (a6:List (Bool×List zj)) (a7:List zd):Option (qx):=
  Option.bind (m_rswork_L2 N a6 N ((0:Int),a0,a1,a2,a4,a5,(a6.map (·.2)))) fun o2=>
  Option.bind (m_rheld N a3) fun r4=>
  Option.bind (m_rturned N o2.2.2.2.2.1) fun r5=>
  some (a3,(a7,((o2.2.2.2.2.2,(o2.1,(r4,o2.2.2.1))),r5)))
noncomputable def ct_rswork (N:Nat):CT cx:=zS N za (by kernel_rfl) [.c (.raw (.ptr 1000000 0)),.agg [.raw (.sl 2000002),.lst zK,.lst zo,.lst zo],.c (.lst zL)] [(1000000,.cells 160 [.lst zG,.raw (.sl 2000000),.raw (.sl 2000001),.raw (.sl 2000002),.int .u8]),(2000002,.mrow 47 51 zh),(2000001,.row 112 zr)] ⟨.a (.dat kd15),[],[]⟩ [ct_clipL N,ct_rheld N,ct_rturned N] [] (.s .d (.s (.s (.r [.n 6,.w (.t (.fz 2000002))]) (.b (.lx 0 ⟨[(0,.a (.c (.raw (.ptr 1000000 0)))),(4,.a (.c (.raw (.ptr 4 0)))),(6,.a (.c (.raw (.ptr 6 0)))),(12,.a (.c (.raw (.sl 2000002)))),(14,.a (.c (.int .i64)))],[(4,.cells 41 [.raw (.sl 2000002),.lst zK,.lst zo,.lst zo]),(1000000,.cells 160 [.lst zG,.raw (.sl 2000000),.raw (.sl 2000001),.raw (.sl 2000002),.int .u8]),(2000002,.row 47 (.sl zh))],[2,13],[6,2000001]⟩ ⟨[(0,.a (.c (.raw (.ptr 1000000 0)))),(4,.a (.c (.raw (.ptr 4 0)))),(6,.a (.c (.raw (.ptr 6 0))))],[(4,.cells 41 [.raw (.sl 2000002),.lst zK,.lst zo,.lst zo]),(1000000,.cells 160 [.lst zG,.raw (.sl 2000000),.raw (.sl 2000001),.raw (.sl 2000002),.int .u8]),(2000002,.row 47 (.sl zh))],[2],[6,2000001]⟩ (.s .d (.s .d (.s (.b (.s .d (.o [4,5,6,1000008] [.t 0 0,.t 1 0,.t 2 0,.t 3 3,.t 4 0,.t 5 0,.c 6 [],.t 7 0,.s 8] []))) .d)))))) (.s .d (.s .d (.s (.o [5,6,7,8,9,10,1000012] [.t 0 0,.t 1 0,.t 2 0,.t 3 0,.t 4 3,.t 5 3,.t 6 0,.t 7 0,.t 8 0,.t 9 3,.c 10 [],.t 11 0,.s 12] []) (.t [.frz 2000001,.frz 2000002])))))) [.cell 6 74] 83 kd15.zero (fun d=>m_rswork N d.1 d.2.1 d.2.2.1 d.2.2.2.1 d.2.2.2.2.1 d.2.2.2.2.2.1 d.2.2.2.2.2.2.1 d.2.2.2.2.2.2.2.1) Tryz.func83 rfl rfl Tryz.ntmps83 rfl rfl rfl (fun d=>by kernel_rfl)
def m_lempty(N:Nat) :Option ((List (Bool×List zj))):=
  some (List.replicate (6:Int).toNat ((true,[]):Bool×List zj))
noncomputable def ct_lempty (N:Nat):CT cx:=zS N za (by kernel_rfl) [] [] ⟨.a (.c (.raw (.sl 1))),[(1,.mrow 47 51 zh)],[]⟩ [] [] (.s .d (.s (.r [.t .mk]) .d)) [.tmp 0] 105 [] (fun d=>m_lempty N ) Tryz.func105 rfl rfl Tryz.ntmps105 rfl rfl rfl (fun d=>by kernel_rfl)
def m_fempty(N:Nat) :Option ((List zQ)×(List zb)×(List zb)×(List (Bool×List zj))):=
  Option.bind (m_lempty N) fun r1=>
  some (([]:List zQ),([]:List zb),([]:List zb),r1)
noncomputable def ct_fempty (N:Nat):CT cx:=zS N za (by kernel_rfl) [] [] ⟨.a (.agg [.raw (.sl 1),.lst zK,.lst zo,.lst zo]),[(1,.mrow 47 51 zh)],[]⟩ [ct_lempty N] [] (.s .d (.s (.r [.c [(1,1)]]) .d)) [.cell 0 41] 79 ([],[],[],[]) (fun d=>m_fempty N ) Tryz.func79 rfl rfl Tryz.ntmps79 rfl rfl rfl (fun d=>by kernel_rfl)
def m_rcast_L3(N:Nat) (a0:Int) (a1:Int):Nat->(Int×(List zQ)×(List zb)×(List zb)×(List (Bool×List zB))×(List (Bool×List zj))×(List zd)×(List zi)×Int×(List zB))->Option (((List zQ)×(List zb)×(List zb)×(List (Bool×List zB))×(List (Bool×List zj))×(List zd)×(List zi)×Int×(List zB))⊕(qx×Int)):=zc fun d3 rec3=>
  cond (decide (d3.1 < ((List.replicate a1.toNat (zL.zero:zB)).length:Int))) (Option.bind (qI N a0 (0:Int) ([]:List zb) d3.2.2.2.2.2.2.2.1 d3.2.2.2.2.2.2.2.2.1 d3.2.2.2.2.2.1 d3.2.2.2.2.2.2.1) fun r4=>
  cond (!(decide (r4.2.1=(0:Int)))) (some (.inr ((([]:List zB),(([]:List zd),((([]:List (List zj)),(([]:List zQ),(([]:List zb),([]:List zb)))),(0:Int)))),r4.2.1))) (gd ((ze d3.1 d3.2.2.2.2.2.2.2.2.2.length)&&(((decide (d3.1.toNat < d3.2.2.2.2.2.2.2.2.2.length))&&(true))&&(true))) <|
  gd ((zq (d3.1+(1:Int)))&&(true)) <|
  rec3 ((d3.1+(1:Int)),d3.2.1,d3.2.2.1,d3.2.2.2.1,d3.2.2.2.2.1,r4.2.2.2.2.1,r4.2.2.2.2.2,r4.2.2.1,r4.2.2.2.1,(d3.2.2.2.2.2.2.2.2.2.set d3.1.toNat ((0:Int),[r4.1]))))) (some (.inl (d3.2.1,d3.2.2.1,d3.2.2.2.1,d3.2.2.2.2.1,d3.2.2.2.2.2.1,d3.2.2.2.2.2.2.1,d3.2.2.2.2.2.2.2.1,d3.2.2.2.2.2.2.2.2.1,d3.2.2.2.2.2.2.2.2.2)))
def m_rcast(N:Nat) (a0:Int) (a1:Int):Option (qx×Int):=
  cond (cond (cond (cond (decide (a0 < (1:Int))) true (decide ((6:Int) < a0))) true (decide (a1 < (1:Int)))) true (decide ((16:Int) < a1))) (some ((([]:List zB),(([]:List zd),((([]:List (List zj)),(([]:List zQ),(([]:List zb),([]:List zb)))),(0:Int)))),(1:Int))) (Option.bind (m_fempty N) fun r1=>
  Option.bind (m_rsbegin N a0 ([]:List zi) (1:Int) (([]:List (List zB)).map fun x=>(false,x)) (List.replicate (6:Int).toNat (zr.zero:zd))) fun r2=>
  cond (!(decide (r2.1=(0:Int)))) (some ((([]:List zB),(([]:List zd),((([]:List (List zj)),(([]:List zQ),(([]:List zb),([]:List zb)))),(0:Int)))),r2.1)) (gd (((decide (0<=a1))&&(decide (a1<=a1))&&(zH 32 a1))&&(true)) <|
  Option.bind (m_rcast_L3 N a0 a1 N ((0:Int),r1.1,r1.2.1,r1.2.2.1,r2.2.2.2.1,r1.2.2.2,r2.2.2.2.2,r2.2.1,r2.2.2.1,(List.replicate a1.toNat (zL.zero:zB)))) fun(o3:((List zQ)×(List zb)×(List zb)×(List (Bool×List zB))×(List (Bool×List zj))×(List zd)×(List zi)×Int×(List zB))⊕(qx×Int))=>
  sm o3 (fun o3=>
  Option.bind (xj N a0 (179:Int) ([]:List qa) o3.2.2.2.2.2.2.1 o3.2.2.2.2.2.2.2.1 o3.2.2.2.2.2.1) fun r5=>
  cond (!(decide (r5.1=(0:Int)))) (some ((([]:List zB),(([]:List zd),((([]:List (List zj)),(([]:List zQ),(([]:List zb),([]:List zb)))),(0:Int)))),r5.1)) (Option.bind (m_rswork N o3.1 o3.2.1 o3.2.2.1 o3.2.2.2.2.2.2.2.2 r5.2.1 r5.2.2.1 o3.2.2.2.2.1 r5.2.2.2) fun r6=>
  some (r6,(0:Int)))) (fun q=>some q)))
noncomputable def ct_rcast (N:Nat):CT cx:=zS N za (by kernel_rfl) [.c (.int .u8),.c (.int .i64)] [] ⟨.tup [.dat kd15,.c (.int .i64)],[],[]⟩ [ct_fempty N,ct_rsbegin N,ct_rsloop N,ct_rsmove N,ct_rswork N] [] (.s .d (.s .d (.s (.r [.c [(1,29)]]) (.s (.o [0,4] [.t 1 0,.t 2 3,.k 0,.t 3 0,.k 4,.t 5 0] []) (.s (.s (.r [.n 2,.w (.nilC 34 0 14 46 zG),.w (.frz 14),.w (.nilC 34 1 15 70 (.sl zL)),.w (.t (.toM 15 121)),.c [(1000000,34),(2000002,29),(2000000,15),(2000001,30)]]) .d) (.s .d (.s (.s .d (.b (.lxx 0 ⟨[(4,.a (.c (.raw (.ptr 4 0)))),(6,.a (.c (.raw (.ptr 6 0)))),(7,.a (.c (.raw (.ptr 34 0)))),(9,.a (.c (.raw (.sl 43)))),(46,.a (.c (.int .i64)))],[(6,.cells 41 [.raw (.sl 29),.lst zK,.lst zo,.lst zo]),(15,.mrow 70 121 zL),(29,.mrow 47 51 zh),(30,.row 112 zr),(34,.cells 160 [.lst zG,.raw (.sl 15),.raw (.sl 30),.raw (.sl 29),.int .u8]),(43,.row 121 zL)],[0,45],[4]⟩ ⟨[(4,.a (.c (.raw (.ptr 4 0)))),(6,.a (.c (.raw (.ptr 6 0)))),(7,.a (.c (.raw (.ptr 34 0)))),(9,.a (.c (.raw (.sl 43))))],[(6,.cells 41 [.raw (.sl 29),.lst zK,.lst zo,.lst zo]),(15,.mrow 70 121 zL),(29,.mrow 47 51 zh),(30,.row 112 zr),(34,.cells 160 [.lst zG,.raw (.sl 15),.raw (.sl 30),.raw (.sl 29),.int .u8]),(43,.row 121 zL)],[0],[4]⟩ (.s .d (.s .d (.s (.b (.s .d (.s (.r [.n 2,.c [(1000000,34),(2000000,15),(2000002,29),(2000001,30)],.n 6,.w (.frzC 11 zo)]) (.s .d (.r [.n 6,.w (.frz 62)]))))) .d)))))) (.s (.s (.r [.n 2,.c [(1000000,34),(2000000,15),(2000002,29),(2000001,30)]]) .d) (.s (.r [.n 3,.w (.frz 43),.c [(1000000,34),(2000000,15),(2000002,29),(2000001,30)]]) .d))))))))) [.cell 4 74,.tmp 5] 46 (kd15.zero,0) (fun d=>m_rcast N d.1 d.2.1) Tryz.func46 rfl rfl Tryz.ntmps46 rfl rfl rfl (fun d=>by kernel_rfl)
end

section
set_option linter.unusedSimpArgs false
set_option linter.unusedVariables false
open Go.RowKit
def m_rheldR_L1(N:Nat) (a0:List zB):Nat->(Int×(List (List zb)))->Option ((List (List zb))):=zc fun d1 rec1=>
  cond (decide (d1.1 < (a0.length:Int))) (gd ((ze d1.1 a0.length)&&((decide (d1.1.toNat < a0.length))&&(true))) <|
  gd ((ze d1.1 d1.2.length)&&(((decide (d1.1.toNat < d1.2.length))&&(true))&&(true))) <|
  gd ((zq (d1.1+(1:Int)))&&(true)) <|
  rec1 ((d1.1+(1:Int)),(d1.2.set d1.1.toNat (a0.getD d1.1.toNat zL.zero).2))) (some d1.2)
def m_rheldR(N:Nat) (a0:List zB):Option ((List zb)):=
  gd (((decide (0<=(a0.length:Int)))&&(decide ((a0.length:Int)<=(a0.length:Int)))&&(zH 24 (a0.length:Int)))&&(true)) <|
  Option.bind (m_rheldR_L1 N a0 N ((0:Int),(List.replicate (a0.length:Int).toNat ([]:(List zb))))) fun o1=>
  Option.bind (m_joinI N o1) fun r2=>
  some r2
noncomputable def ct_rheldR (N:Nat):CT cx:=zS N za (by kernel_rfl) [.c (.raw (.sl 2000000))] [(2000000,.row 121 zL)] ⟨.a (.c (.lst zo)),[],[2000000]⟩ [ct_joinI N] [] (.s .d (.s .d (.s (.s .d (.b (.lx 0 ⟨[(3,.a (.c (.raw (.sl 8)))),(9,.a (.c (.raw (.sl 2000000)))),(11,.a (.c (.int .i64)))],[(8,.row 39 (.sl zo))],[10],[2000000]⟩ ⟨[(3,.a (.c (.raw (.sl 8))))],[(8,.row 39 (.sl zo))],[],[2000000]⟩ (.s .d (.s .d (.s (.b (.s (.r [.n 6,.w (.frzC 5 zL)]) .d)) .d)))))) (.s (.r [.n 1,.w (.frz 8)]) .d)))) [.tmp 2] 87 [] (fun d=>m_rheldR N d.1) Tryz.func87 rfl rfl Tryz.ntmps87 rfl rfl rfl (fun d=>by kernel_rfl)
def m_pastR_L3(N:Nat) (a0:Int) (a1:List zB) (v2_0:Int):Nat->(Int×(List qa))->Option ((List qa)):=zc fun d3 rec3=>
  cond (decide (d3.1 < ((a1.getD v2_0.toNat zL.zero).2.length:Int))) (gd ((ze d3.1 (a1.getD v2_0.toNat zL.zero).2.length)&&(true)) <|
  gd ((zV 24 (d3.2.length+[(((a1.getD v2_0.toNat zL.zero).2.getD d3.1.toNat zo.zero),((decide ((a1.getD v2_0.toNat zL.zero).1=(1:Int))),a0))].length))&&(true)) <|
  gd ((zq (d3.1+(1:Int)))&&(true)) <|
  rec3 ((d3.1+(1:Int)),(d3.2++[(((a1.getD v2_0.toNat zL.zero).2.getD d3.1.toNat zo.zero),((decide ((a1.getD v2_0.toNat zL.zero).1=(1:Int))),a0))]))) (some d3.2)
def m_pastR_L2(N:Nat) (a0:Int) (a1:List zB):Nat->(Int×(List qa))->Option ((List qa)):=zc fun d2 rec2=>
  cond (decide (d2.1 < (a1.length:Int))) (gd ((ze d2.1 a1.length)&&((decide (d2.1.toNat < a1.length))&&(true))) <|
  Option.bind (m_pastR_L3 N a0 a1 d2.1 N ((0:Int),d2.2)) fun o3=>
  gd ((zq (d2.1+(1:Int)))&&(true)) <|
  rec2 ((d2.1+(1:Int)),o3)) (some d2.2)
def m_pastR(N:Nat) (a0:Int) (a1:List zB):Option ((List qa)×(List zB)):=
  Option.bind (m_rheldR N a1) fun r1=>
  gd (((decide ((0:Int)<=(r1.length:Int)))&&(zH 24 (r1.length:Int)))&&(true)) <|
  Option.bind (m_pastR_L2 N a0 a1 N ((0:Int),([]:List qa))) fun o2=>
  cond (!(decide (a0=(1:Int)))) (Option.bind (m_revP N o2) fun r4=>
  some (r4,a1)) (some (o2,a1))
noncomputable def ct_pastR (N:Nat):CT cx:=zS N za (by kernel_rfl) [.c (.raw (.sl 2000000)),.c (.int .u8)] [(2000000,.row 121 zL)] ⟨.a (.c (.lst qU)),[(2000000,.row 121 zL)],[]⟩ [ct_rheldR N,ct_revP N] [] (.s .d (.s (.r [.n 1,.c [(2000000,2000000)]]) (.s .d (.s (.s .d (.b (.lx 0 ⟨[(6,.a (.c (.raw (.sl 15)))),(16,.a (.c (.raw (.sl 2000000)))),(18,.a (.c (.int .i64)))],[(15,.row 123 qU)],[1,17],[2000000]⟩ ⟨[(6,.a (.c (.raw (.sl 15))))],[(15,.row 123 qU)],[1],[2000000]⟩ (.s .d (.s .d (.s (.b (.s (.r [.n 4,.w (.frzC 8 zL)]) (.s .d (.b (.lx 2 ⟨[(6,.a (.c (.raw (.sl 15)))),(16,.a (.c (.raw (.sl 2000000)))),(25,.a (.c (.int .i64)))],[(15,.row 123 qU)],[1,8,17,18,23,24],[2000000]⟩ ⟨[(6,.a (.c (.raw (.sl 15)))),(16,.a (.c (.raw (.sl 2000000))))],[(15,.row 123 qU)],[1,17,18],[2000000]⟩ (.s .d (.s .d (.s (.b (.s (.r [.n 4,.w (.frzC 10 zo)]) .d)) .d)))))))) .d)))))) (.s (.s .d (.c (.r [.n 1,.c [(2000000,15)]]) .d)) (.s .d (.t [.frz 15]))))))) [.tmp 4] 109 ([],[]) (fun d=>m_pastR N d.1 d.2.1) Tryz.func109 rfl rfl Tryz.ntmps109 rfl rfl rfl (fun d=>by kernel_rfl)
end

section
set_option linter.unusedSimpArgs false
set_option linter.unusedVariables false
open Go.RowKit
def m_rover(N:Nat) (a0:Int) (a1:Int) (a2:(List zi)) (a3:Int) (a4:List (Bool×List zB)) (a5:List (Bool×List zj)) (a6:List zd):Option (Int×(List zi)×Int×(List (Bool×List zB))×(List (Bool×List zj))×(List zd)):=
  Option.bind (qI N a1 (0:Int) ([]:List zb) a2 a3 a5 a6) fun r1=>
  gd ((ze a0 a4.length)&&((decide (a0.toNat < a4.length))&&(true))) <|
  some (r1.2.1,r1.2.2.1,r1.2.2.2.1,(a4.set a0.toNat (true,[((0:Int),[r1.1])])),r1.2.2.2.2.1,r1.2.2.2.2.2)
noncomputable def ct_rover (N:Nat):CT cx:=zS N za (by kernel_rfl) [.c (.int .i64),.c (.raw (.ptr 1000000 0)),.c (.pel (.int .u8) 0)] [(1000000,.cells 157 [.raw (.ptr 1000001 0)]),(1000001,.cells 160 [.lst zG,.raw (.sl 2000000),.raw (.sl 2000001),.raw (.sl 2000002),.int .u8]),(2000000,.mrow 70 121 zL),(2000002,.mrow 47 51 zh),(2000001,.row 112 zr)] ⟨.a (.c (.int .i64)),[(1000000,.cells 157 [.raw (.ptr 1000001 0)]),(1000001,.cells 160 [.lst zG,.raw (.sl 2000000),.raw (.sl 2000001),.raw (.sl 2000002),.int .u8]),(2000000,.mrow 70 121 zL),(2000002,.mrow 47 51 zh),(2000001,.row 112 zr)],[]⟩ [ct_rsloop N] [] (.s .d (.s (.r [.n 2,.c [(1000000,1000001),(2000000,2000000),(2000002,2000002),(2000001,2000001)],.n 6,.w (.frzC 5 zo)]) (.s (.o [0,1,2,3,4,5,6,7,8,1000010] [.t 0 3,.t 1 0,.t 2 0,.t 3 3,.t 4 0,.t 5 1,.k 6,.t 7 0,.z 19,.k 8,.t 9 0,.u 10 .st] []) (.s (.r [.n 2,.w (.t (.close 2000000 21))]) .d)))) [.tmp 4] 165 (0,[],0,[],[],[]) (fun d=>m_rover N d.1 d.2.1 d.2.2.1 d.2.2.2.1 d.2.2.2.2.1 d.2.2.2.2.2.1 d.2.2.2.2.2.2.1) Tryz.func165 rfl rfl Tryz.ntmps165 rfl rfl rfl (fun d=>by kernel_rfl)
end

section
set_option linter.unusedSimpArgs false
set_option linter.unusedVariables false
open Go.RowKit
def m_rtuck(N:Nat) (a0:Int) (a1:Int) (a2:(List zi)) (a3:Int) (a4:List (Bool×List zB)) (a5:List (Bool×List zj)) (a6:List zd):Option (Int×(List zi)×Int×(List (Bool×List zB))×(List (Bool×List zj))×(List zd)):=
  Option.bind (qI N a1 (0:Int) ([]:List zb) a2 a3 a5 a6) fun r1=>
  gd (((decide (a0.toNat < a4.length))&&(a4.getD a0.toNat (false,[])).1)) <|
  gd ((ze a0 a4.length)&&((decide (a0.toNat=a0.toNat))&&((ze a0 a4.length)&&((decide (a0.toNat=a0.toNat))&&((ze (0:Int) (a4.getD a0.toNat (false,[])).2.length)&&((decide ((0:Int).toNat < (a4.getD a0.toNat (false,[])).2.length))&&(true))))))) <|
  Option.bind (m_joinI N [((a4.getD a0.toNat (false,[])).2.getD (0:Int).toNat zL.zero).2,[r1.1]]) fun r3=>
  gd ((ze (0:Int) (a4.getD a0.toNat (false,[])).2.length)&&(((decide ((0:Int).toNat < (a4.getD a0.toNat (false,[])).2.length))&&(true))&&(true))) <|
  some (r1.2.1,r1.2.2.1,r1.2.2.2.1,(a4.set a0.toNat (true,((a4.getD a0.toNat (false,[])).2.set (0:Int).toNat (((a4.getD a0.toNat (false,[])).2.getD (0:Int).toNat zL.zero).1,r3)))),r1.2.2.2.2.1,r1.2.2.2.2.2)
noncomputable def ct_rtuck (N:Nat):CT cx:=zS N za (by kernel_rfl) [.c (.int .i64),.c (.raw (.ptr 1000000 0)),.c (.pel (.int .u8) 0)] [(1000000,.cells 157 [.raw (.ptr 1000001 0)]),(1000001,.cells 160 [.lst zG,.raw (.sl 2000000),.raw (.sl 2000001),.raw (.sl 2000002),.int .u8]),(2000000,.mrow 70 121 zL),(2000002,.mrow 47 51 zh),(2000001,.row 112 zr)] ⟨.a (.c (.int .i64)),[(1000000,.cells 157 [.raw (.ptr 1000001 0)]),(1000001,.cells 160 [.lst zG,.raw (.sl 2000000),.raw (.sl 2000001),.raw (.sl 2000002),.int .u8]),(2000000,.mrow 70 121 zL),(2000002,.mrow 47 51 zh),(2000001,.row 112 zr)],[]⟩ [ct_rsloop N,ct_joinI N] [] (.s .d (.s (.r [.n 2,.c [(1000000,1000001),(2000000,2000000),(2000002,2000002),(2000001,2000001)],.n 6,.w (.frzC 5 zo)]) (.s (.p [.t (.op 2000000 0 19)] (.oa [4,7,8,9,10,11,12,13,14,15,16,17,18,19,20,1000023] [.t 0 3,.t 1 0,.t 2 0,.t 3 3,.t 4 0,.t 5 0,.t 6 3,.t 7 3,.t 8 0,.t 9 0,.t 10 3,.t 11 0,.t 12 0,.t 13 3,.t 14 0,.t 15 0,.t 16 3,.t 17 1,.e 18,.e 19,.c 20 [],.t 21 0,.t 22 0,.s 23] [])) (.s (.r [.n 2,.w (.t (.close 2000000 19))]) .d)))) [.tmp 4] 166 (0,[],0,[],[],[]) (fun d=>m_rtuck N d.1 d.2.1 d.2.2.1 d.2.2.2.1 d.2.2.2.2.1 d.2.2.2.2.2.1 d.2.2.2.2.2.2.1) Tryz.func166 rfl rfl Tryz.ntmps166 rfl rfl rfl (fun d=>by kernel_rfl)
def m_rknit_L1(N:Nat) (a0:Int) (a1:Int) (a4:List (Bool×List zB)):Nat->(Int×(List zB)×(List zi)×Int×(List (Bool×List zB))×Nat×(List zd)×(List (Bool×List zj)))->Option (((List zB)×(List zi)×Int×(List (Bool×List zB))×Nat×(List zd)×(List (Bool×List zj)))⊕(Int×(List zi)×Int×(List (Bool×List zB))×(List (Bool×List zj))×(List zd))):=zc fun d1 rec1=>
  cond (decide (d1.1 < ((a4.getD a0.toNat (false,[])).2.length:Int))) (Option.bind (cond (decide (d1.2.2.2.1=(0:Int))) (gd ((zq ((d1.2.1.length:Int) - (1:Int)))&&((zq (((d1.2.1.length:Int) - (1:Int)) - d1.1))&&(true))) <|
  some ((((d1.2.1.length:Int) - (1:Int)) - d1.1),d1.2.2.1,d1.2.2.2.1,d1.2.2.2.2.1,d1.2.2.2.2.2.1)) (some (d1.1,d1.2.2.1,d1.2.2.2.1,d1.2.2.2.2.1,d1.2.2.2.2.2.1))) fun o2=>
  gd ((ze o2.1 d1.2.1.length)&&((decide (o2.1.toNat < d1.2.1.length))&&((ze o2.1 d1.2.1.length)&&((decide (o2.1.toNat < d1.2.1.length))&&(true))))) <|
  Option.bind (qI N a1 (d1.2.1.getD o2.1.toNat zL.zero).1 (d1.2.1.getD o2.1.toNat zL.zero).2 o2.2.1 o2.2.2.1 d1.2.2.2.2.2.2.2 d1.2.2.2.2.2.2.1) fun r3=>
  cond (!(decide (r3.2.1=(0:Int)))) (some (.inr (r3.2.1,r3.2.2.1,r3.2.2.2.1,(o2.2.2.2.1.set o2.2.2.2.2 (true,d1.2.1)),r3.2.2.2.2.1,r3.2.2.2.2.2))) (gd ((ze o2.1 d1.2.1.length)&&(((decide (o2.1.toNat < d1.2.1.length))&&(true))&&(true))) <|
  gd ((zq (d1.1+(1:Int)))&&(true)) <|
  rec1 ((d1.1+(1:Int)),(d1.2.1.set o2.1.toNat ((d1.2.1.getD o2.1.toNat zL.zero).1,[r3.1])),r3.2.2.1,r3.2.2.2.1,o2.2.2.2.1,o2.2.2.2.2,r3.2.2.2.2.2,r3.2.2.2.2.1))) (some (.inl (d1.2.1,d1.2.2.1,d1.2.2.2.1,d1.2.2.2.2.1,d1.2.2.2.2.2.1,d1.2.2.2.2.2.2.1,d1.2.2.2.2.2.2.2)))
def m_rknit(N:Nat) (a0:Int) (a1:Int) (a2:(List zi)) (a3:Int) (a4:List (Bool×List zB)) (a5:List (Bool×List zj)) (a6:List zd):Option (Int×(List zi)×Int×(List (Bool×List zB))×(List (Bool×List zj))×(List zd)):=
  gd ((ze a0 a4.length)&&(((decide (a0.toNat < a4.length))&&(a4.getD a0.toNat (false,[])).1)&&(true))) <|
  Option.bind (m_rknit_L1 N a0 a1 a4 N ((0:Int),(a4.getD a0.toNat (false,[])).2,a2,a3,a4,a0.toNat,a6,a5)) fun(o1:((List zB)×(List zi)×Int×(List (Bool×List zB))×Nat×(List zd)×(List (Bool×List zj)))⊕(Int×(List zi)×Int×(List (Bool×List zB))×(List (Bool×List zj))×(List zd)))=>
  sm o1 (fun o1=>
  some ((0:Int),o1.2.1,o1.2.2.1,(o1.2.2.2.1.set o1.2.2.2.2.1 (true,o1.1)),o1.2.2.2.2.2.2,o1.2.2.2.2.2.1)) (fun q=>some q)
noncomputable def b_rknit_L1 (N:Nat) (a0:Int) (a1:Int) (a4:List (Bool×List zB)):Nat->(Int×(List zB)×(List zi)×Int×(List (Bool×List zB))×Nat×(List zd)×(List (Bool×List zj)))->Option (((List zB)×(List zi)×Int×(List (Bool×List zB))×Nat×(List zd)×(List (Bool×List zj)))⊕(Int×(List zi)×Int×(List (Bool×List zB))×(List (Bool×List zj))×(List zd))):=zc fun d1 rec1=>
  cond (decide (d1.1 < ((a4.getD a0.toNat (false,[])).2.length:Int))) (Option.bind (cond (decide (d1.2.2.2.1=(0:Int))) (gd ((zq ((d1.2.1.length:Int) - (1:Int)))&&((zq (((d1.2.1.length:Int) - (1:Int)) - d1.1))&&(true))) <|
  some ((((d1.2.1.length:Int) - (1:Int)) - d1.1),d1.2.2.1,d1.2.2.2.1,d1.2.2.2.2.1,d1.2.2.2.2.2.1)) (some (d1.1,d1.2.2.1,d1.2.2.2.1,d1.2.2.2.2.1,d1.2.2.2.2.2.1))) fun o2=>
  gd ((ze o2.1 d1.2.1.length)&&((decide (o2.1.toNat < d1.2.1.length))&&((ze o2.1 d1.2.1.length)&&((decide (o2.1.toNat < d1.2.1.length))&&(true))))) <|
  bth (Option.bind (qI N a1 (d1.2.1.getD o2.1.toNat zL.zero).1 (d1.2.1.getD o2.1.toNat zL.zero).2 o2.2.1 o2.2.2.1 d1.2.2.2.2.2.2.2 d1.2.2.2.2.2.2.1) fun r3=>
  cond (!(decide (r3.2.1=(0:Int)))) (some (.inr (r3.2.1,r3.2.2.1,r3.2.2.2.1,(o2.2.2.2.1.set o2.2.2.2.2 (true,d1.2.1)),r3.2.2.2.2.1,r3.2.2.2.2.2))) (gd ((ze o2.1 d1.2.1.length)&&(((decide (o2.1.toNat < d1.2.1.length))&&(true))&&(true))) <|
  gd ((zq (d1.1+(1:Int)))&&(true)) <|
  rec1 ((d1.1+(1:Int)),(d1.2.1.set o2.1.toNat ((d1.2.1.getD o2.1.toNat zL.zero).1,[r3.1])),r3.2.2.1,r3.2.2.2.1,o2.2.2.2.1,o2.2.2.2.2,r3.2.2.2.2.2,r3.2.2.2.2.1))) (Option.bind (qI N a1 (d1.2.1.getD o2.1.toNat zL.zero).1 (d1.2.1.getD o2.1.toNat zL.zero).2 o2.2.1 o2.2.2.1 d1.2.2.2.2.2.2.2 d1.2.2.2.2.2.2.1) fun r3=>
  cond (!(decide (r3.2.1=(0:Int)))) (some (.inr (r3.2.1,r3.2.2.1,r3.2.2.2.1,(o2.2.2.2.1.set o2.2.2.2.2 (true,d1.2.1)),r3.2.2.2.2.1,r3.2.2.2.2.2))) (gd ((ze o2.1 d1.2.1.length)&&(((decide (o2.1.toNat < d1.2.1.length))&&(true))&&(true))) <|
  gd ((zq (d1.1+(1:Int)))&&(true)) <|
  rec1 ((d1.1+(1:Int)),(d1.2.1.set o2.1.toNat ((d1.2.1.getD o2.1.toNat zL.zero).1,[r3.1])),r3.2.2.1,r3.2.2.2.1,o2.2.2.2.1,o2.2.2.2.2,r3.2.2.2.2.2,r3.2.2.2.2.1)))) (some (.inl (d1.2.1,d1.2.2.1,d1.2.2.2.1,d1.2.2.2.2.1,d1.2.2.2.2.2.1,d1.2.2.2.2.2.2.1,d1.2.2.2.2.2.2.2)))
noncomputable def b_rknit (N:Nat) (a0:Int) (a1:Int) (a2:(List zi)) (a3:Int) (a4:List (Bool×List zB)) (a5:List (Bool×List zj)) (a6:List zd):Option (Int×(List zi)×Int×(List (Bool×List zB))×(List (Bool×List zj))×(List zd)):=
  gd ((ze a0 a4.length)&&(((decide (a0.toNat < a4.length))&&(a4.getD a0.toNat (false,[])).1)&&(true))) <|
  Option.bind (b_rknit_L1 N a0 a1 a4 N ((0:Int),(a4.getD a0.toNat (false,[])).2,a2,a3,a4,a0.toNat,a6,a5)) fun(o1:((List zB)×(List zi)×Int×(List (Bool×List zB))×Nat×(List zd)×(List (Bool×List zj)))⊕(Int×(List zi)×Int×(List (Bool×List zB))×(List (Bool×List zj))×(List zd)))=>
  sm o1 (fun o1=>
  some ((0:Int),o1.2.1,o1.2.2.1,(o1.2.2.2.1.set o1.2.2.2.2.1 (true,o1.1)),o1.2.2.2.2.2.2,o1.2.2.2.2.2.1)) (fun q=>some q)
theorem e_rknit_L1:b_rknit_L1=m_rknit_L1:=by
 unfold b_rknit_L1 m_rknit_L1
 first | rfl | (simp only[qC]; done) | (funext; simp (disch:=(simp only[gd_and,zl,xw]; first | done | first | rfl | (refine zE (fun h=>?_) (fun h=>?_); (focus (rw[h]; first | done | (simp only[zl]; first | done | first | rfl | (refine zE (fun h=>?_) (fun h=>?_); (focus (rw[h]; first | done | (simp only[zl]; first | done | first | rfl | (refine zE (fun h=>?_) (fun h=>?_); (focus (rw[h]; first | done | (simp only[zl]; first | done | rfl))); (focus (rw[h]; first | done | simp only[zn,zD])))))); (focus (rw[h]; first | done | simp only[zn,zD])))))); (focus (rw[h]; first | done | simp only[zn,zD]))))) only[bth_eq])
theorem e_rknit:b_rknit=m_rknit:=by
 unfold b_rknit m_rknit
 first | (simp only[qC,e_rknit_L1]; done) | (funext; simp (disch:=(simp only[gd_and,zl,xw]; first | done | first | rfl | (refine zE (fun h=>?_) (fun h=>?_); (focus (rw[h]; first | done | (simp only[zl]; first | done | first | rfl | (refine zE (fun h=>?_) (fun h=>?_); (focus (rw[h]; first | done | (simp only[zl]; first | done | first | rfl | (refine zE (fun h=>?_) (fun h=>?_); (focus (rw[h]; first | done | (simp only[zl]; first | done | rfl))); (focus (rw[h]; first | done | simp only[zn,zD])))))); (focus (rw[h]; first | done | simp only[zn,zD])))))); (focus (rw[h]; first | done | simp only[zn,zD]))))) only[bth_eq,e_rknit_L1]) | rfl
noncomputable def ct_rknit (N:Nat):CT cx:=ctE2 N za (by kernel_rfl) [.c (.int .i64),.c (.raw (.ptr 1000000 0)),.c (.pel (.int .u8) 0)] [(1000000,.cells 157 [.raw (.ptr 1000001 0)]),(1000001,.cells 160 [.lst zG,.raw (.sl 2000000),.raw (.sl 2000001),.raw (.sl 2000002),.int .u8]),(2000000,.mrow 70 121 zL),(2000002,.mrow 47 51 zh),(2000001,.row 112 zr)] ⟨.a (.c (.int .i64)),[(1000000,.cells 157 [.raw (.ptr 1000001 0)]),(1000001,.cells 160 [.lst zG,.raw (.sl 2000000),.raw (.sl 2000001),.raw (.sl 2000002),.int .u8]),(2000000,.mrow 70 121 zL),(2000002,.mrow 47 51 zh),(2000001,.row 112 zr)],[]⟩ [ct_rsloop N] [] (.s .d (.s (.r [.n 6,.t .ld]) (.s (.s .d (.b (.lxx 0 ⟨[(1,.a (.c (.raw (.ptr 1000000 0)))),(5,.a (.c (.raw (.sl 15)))),(18,.a (.c (.int .i64)))],[(15,.row 121 zL),(1000000,.cells 157 [.raw (.ptr 1000001 0)]),(1000001,.cells 160 [.lst zG,.raw (.sl 2000000),.raw (.sl 2000001),.raw (.sl 2000002),.int .u8]),(2000000,.mrowh 70 121 zL (some 15)),(2000001,.row 112 zr),(2000002,.mrow 47 51 zh)],[2,17],[]⟩ ⟨[],[(15,.row 121 zL),(1000000,.cells 157 [.raw (.ptr 1000001 0)]),(1000001,.cells 160 [.lst zG,.raw (.sl 2000000),.raw (.sl 2000001),.raw (.sl 2000002),.int .u8]),(2000000,.mrowh 70 121 zL (some 15)),(2000001,.row 112 zr),(2000002,.mrow 47 51 zh)],[],[]⟩ (.s .d (.s .d (.s (.b (.s .d (.j ⟨[(1,.a (.c (.raw (.ptr 1000000 0)))),(5,.a (.c (.raw (.sl 15)))),(6,.a (.c (.int .i64)))],[(1000000,.cells 157 [.raw (.ptr 1000001 0)]),(1000001,.cells 160 [.lst zG,.raw (.sl 2000000),.raw (.sl 2000001),.raw (.sl 2000002),.int .u8]),(2000000,.mrowh 70 121 zL (some 15))],[2,17,18],[15,2000001,2000002]⟩ .d (.s (.ob [] [1,2,3,4,5,6,7,8,9,10,11,16,1000012,1000017] (.b [.t 0 3,.t 1 1,.t 2 0,.t 3 0,.t 4 0,.t 5 0,.t 6 3,.t 7 0,.t 8 0,.t 9 0,.t 10 0,.t 11 3] 12 16 [(1000000,1000001),(2000000,2000000),(2000002,2000002),(2000001,2000001)] [] (.f [.m 13,.t 14 0,.t 15 0,.s 16,.s 17,.t 18 0]) (.f [.c 12 [(1000000,1000001),(2000000,2000000),(2000002,2000002),(2000001,2000001)],.m 13,.t 14 0,.t 15 0,.s 17,.t 18 0])) [(.frzC 7 zo)] true) (.s (.s .d (.c (.s (.r [.n 2,.w (.t (.close 2000000 15))]) .d) .d)) (.r [.n 6,.w (.frz 53)])))))) .d)))))) (.s (.r [.n 1,.w (.t (.close 2000000 15))]) .d)))) [.tmp 4] 164 (0,[],0,[],[],[]) (fun d=>b_rknit N d.1 d.2.1 d.2.2.1 d.2.2.2.1 d.2.2.2.2.1 d.2.2.2.2.2.1 d.2.2.2.2.2.2.1) (fun d=>m_rknit N d.1 d.2.1 d.2.2.1 d.2.2.2.1 d.2.2.2.2.1 d.2.2.2.2.2.1 d.2.2.2.2.2.2.1) (fun d=>(by rw[e_rknit]:b_rknit N d.1 d.2.1 d.2.2.1 d.2.2.2.1 d.2.2.2.2.1 d.2.2.2.2.2.1 d.2.2.2.2.2.2.1=m_rknit N d.1 d.2.1 d.2.2.1 d.2.2.2.1 d.2.2.2.2.1 d.2.2.2.2.2.1 d.2.2.2.2.2.2.1)) Tryz.func164 rfl rfl Tryz.ntmps164 rfl rfl rfl (fun d=>by kernel_rfl)
end

section
set_option linter.unusedSimpArgs false
set_option linter.unusedVariables false
open Go.RowKit
def m_racts(N:Nat) (a0:Int):Option (Int×Int×Int×Int×Int×Int×Int×Int):=
  some (a0,a0,a0,a0,a0,a0,a0,a0)
noncomputable def ct_racts (N:Nat):CT cx:=zS N za (by kernel_rfl) [.c (.raw (.ptr 2000000 0)),.c (.int .u8)] [] ⟨.a (.agg [.raw (.val (.nilFunc)),.fn 164 [.id 2,.fz (.int .u8)],.fn 164 [.id 2,.fz (.int .u8)],.fn 165 [.id 2,.fz (.int .u8)],.fn 164 [.id 2,.fz (.int .u8)],.fn 164 [.id 2,.fz (.int .u8)],.fn 166 [.id 2,.fz (.int .u8)],.fn 163 [.id 2,.fz (.int .u8)],.fn 164 [.id 2,.fz (.int .u8)]]),[(2,.cells 157 [.raw (.ptr 2000000 0)])],[]⟩ [] [] (.s (.r [.n 3,.w (.frzC 3 (.int .u8))]) .d) [.cell 4 217] 142 (0,0,0,0,0,0,0,0) (fun d=>m_racts N d.1) Tryz.func142 rfl rfl Tryz.ntmps142 rfl rfl rfl (fun d=>by kernel_rfl)
end

section
set_option linter.unusedSimpArgs false
set_option linter.unusedVariables false
open Go.RowKit
def m_rslipm(N:Nat) (a0:Int) (a1:Int) (a2:(List zi)) (a3:Int) (a4:List (Bool×List zB)) (a5:List (Bool×List zj)) (a6:List zd):Option (Int×(List zi)×Int×(List (Bool×List zB))×(List (Bool×List zj))×(List zd)):=
  gd (((decide (a0.toNat < a4.length))&&(a4.getD a0.toNat (false,[])).1)) <|
  gd ((ze (IntKind.wrap .u8 (a1 - (1:Int))) a6.length)&&((ze a0 a4.length)&&(true))) <|
  gd ((decide ((IntKind.wrap .u8 (a1 - (1:Int))).toNat < a6.length))&&((decide (a0.toNat=a0.toNat))&&(true))) <|
  Option.bind (m_pastR N a3 (a4.getD a0.toNat (false,[])).2) fun r2=>
  Option.bind (xj N a1 (a6.getD (IntKind.wrap .u8 (a1 - (1:Int))).toNat zr.zero).2.1 r2.1 a2 a3 a6) fun r3=>
  some (r3.1,r3.2.1,r3.2.2.1,(a4.set a0.toNat (true,r2.2)),a5,r3.2.2.2)
noncomputable def b_rslipm (N:Nat) (a0:Int) (a1:Int) (a2:(List zi)) (a3:Int) (a4:List (Bool×List zB)) (a5:List (Bool×List zj)) (a6:List zd):Option (Int×(List zi)×Int×(List (Bool×List zB))×(List (Bool×List zj))×(List zd)):=
  gd (((decide (a0.toNat < a4.length))&&(a4.getD a0.toNat (false,[])).1)) <|
  gd ((ze (IntKind.wrap .u8 (a1 - (1:Int))) a6.length)&&((ze a0 a4.length)&&(true))) <|
  bth (gd ((decide ((IntKind.wrap .u8 (a1 - (1:Int))).toNat < a6.length))&&((decide (a0.toNat=a0.toNat))&&(true))) <|
  Option.bind (m_pastR N a3 (a4.getD a0.toNat (false,[])).2) fun r2=>
  Option.bind (xj N a1 (a6.getD (IntKind.wrap .u8 (a1 - (1:Int))).toNat zr.zero).2.1 r2.1 a2 a3 a6) fun r3=>
  some (r3.1,r3.2.1,r3.2.2.1,(a4.set a0.toNat (true,r2.2)),a5,r3.2.2.2)) (gd ((decide (a0.toNat=a0.toNat))&&(true)) <|
  bth (gd ((decide ((IntKind.wrap .u8 (a1 - (1:Int))).toNat < a6.length))&&(true)) <|
  Option.bind (m_pastR N a3 (a4.getD a0.toNat (false,[])).2) fun r2=>
  Option.bind (xj N a1 (a6.getD (IntKind.wrap .u8 (a1 - (1:Int))).toNat zr.zero).2.1 r2.1 a2 a3 a6) fun r3=>
  some (r3.1,r3.2.1,r3.2.2.1,(a4.set a0.toNat (true,r2.2)),a5,r3.2.2.2)) (Option.bind (m_pastR N a3 (a4.getD a0.toNat (false,[])).2) fun r2=>
  gd ((decide ((IntKind.wrap .u8 (a1 - (1:Int))).toNat < a6.length))&&(true)) <|
  Option.bind (xj N a1 (a6.getD (IntKind.wrap .u8 (a1 - (1:Int))).toNat zr.zero).2.1 r2.1 a2 a3 a6) fun r3=>
  some (r3.1,r3.2.1,r3.2.2.1,(a4.set a0.toNat (true,r2.2)),a5,r3.2.2.2)))
theorem e_rslipm:b_rslipm=m_rslipm:=by
 unfold b_rslipm m_rslipm
 first | rfl | (simp only[qC]; done) | (funext; simp (disch:=(simp only[gd_and,zl,xw]; first | done | first | rfl | (refine zE (fun h=>?_) (fun h=>?_); (focus (rw[h]; first | done | (simp only[zl]; first | done | first | rfl | (refine zE (fun h=>?_) (fun h=>?_); (focus (rw[h]; first | done | (simp only[zl]; first | done | first | rfl | (refine zE (fun h=>?_) (fun h=>?_); (focus (rw[h]; first | done | (simp only[zl]; first | done | rfl))); (focus (rw[h]; first | done | simp only[zn,zD])))))); (focus (rw[h]; first | done | simp only[zn,zD])))))); (focus (rw[h]; first | done | simp only[zn,zD]))))) only[bth_eq])
noncomputable def ct_rslipm (N:Nat):CT cx:=ctE2 N za (by kernel_rfl) [.c (.int .i64),.c (.raw (.ptr 1000000 0)),.c (.pel (.int .u8) 0)] [(1000000,.cells 157 [.raw (.ptr 1000001 0)]),(1000001,.cells 160 [.lst zG,.raw (.sl 2000000),.raw (.sl 2000001),.raw (.sl 2000002),.int .u8]),(2000000,.mrow 70 121 zL),(2000002,.mrow 47 51 zh),(2000001,.row 112 zr)] ⟨.a (.c (.int .i64)),[(1000000,.cells 157 [.raw (.ptr 1000001 0)]),(1000001,.cells 160 [.lst zG,.raw (.sl 2000000),.raw (.sl 2000001),.raw (.sl 2000002),.int .u8]),(2000000,.mrow 70 121 zL),(2000002,.mrow 47 51 zh),(2000001,.row 112 zr)],[]⟩ [ct_pastR N,ct_rsmove N] [] (.s .d (.s (.ob [.t (.op 2000000 0 22)] [1,2,3,4,5,6,7,8,9,10,11,12,13,14,15,16,17,18,19,20,21,22,1000023] (.b [.t 0 3,.t 1 1,.t 2 3,.t 3 0,.t 4 0,.t 5 3,.t 6 1,.t 7 0,.t 8 0,.t 9 0,.t 11 3,.t 12 0,.t 13 0,.t 14 3,.t 15 0,.t 16 0,.t 18 3,.t 19 0,.t 20 0,.t 21 3] 10 17 [] [] (.f [.f,.k 17,.c 22 [(2000000,22)],.c 23 [(1000000,1000001),(2000000,2000000),(2000002,2000002),(2000001,2000001)],.t 24 0]) (.b [.f] 10 22 [] [(2000000,22)] (.f [.c 22 [(2000000,22)],.c 23 [(1000000,1000001),(2000000,2000000),(2000002,2000002),(2000001,2000001)],.t 24 0]) (.f [.f,.k 10,.c 23 [(1000000,1000001),(2000000,2000000),(2000002,2000002),(2000001,2000001)],.t 24 0]))) [(.t (.close 2000000 22))] false) .d)) [.tmp 4] 163 (0,[],0,[],[],[]) (fun d=>b_rslipm N d.1 d.2.1 d.2.2.1 d.2.2.2.1 d.2.2.2.2.1 d.2.2.2.2.2.1 d.2.2.2.2.2.2.1) (fun d=>m_rslipm N d.1 d.2.1 d.2.2.1 d.2.2.2.1 d.2.2.2.2.1 d.2.2.2.2.2.1 d.2.2.2.2.2.2.1) (fun d=>(by rw[e_rslipm]:b_rslipm N d.1 d.2.1 d.2.2.1 d.2.2.2.1 d.2.2.2.2.1 d.2.2.2.2.2.1 d.2.2.2.2.2.2.1=m_rslipm N d.1 d.2.1 d.2.2.1 d.2.2.2.1 d.2.2.2.2.1 d.2.2.2.2.2.1 d.2.2.2.2.2.2.1)) Tryz.func163 rfl rfl Tryz.ntmps163 rfl rfl rfl (fun d=>by kernel_rfl)
def m_rfollow_L3(N:Nat) (a0:Int) (r1:Int×(List zi)×Int×(List (Bool×List zB))×(List zd)):Nat->(Int×Int×Int×Int×Int×Int×Int×Int×Int×(List zi)×Int×(List (Bool×List zB))×(List zd)×(List (Bool×List zj)))->Option (((List zi)×Int×(List (Bool×List zB))×(List zd)×(List (Bool×List zj)))⊕(Int×(List zi)×Int×(List (Bool×List zB))×(List (Bool×List zj))×(List zd))):=zc fun d3 rec3=>
  cond (decide (d3.1 < (r1.2.1.length:Int))) (Option.bind (cond (decide (d3.2.2.2.2.2.2.2.2.2.2.1=(0:Int))) (gd ((zq ((d3.2.2.2.2.2.2.2.2.2.1.length:Int) - (1:Int)))&&((zq (((d3.2.2.2.2.2.2.2.2.2.1.length:Int) - (1:Int)) - d3.1))&&(true))) <|
  some ((((d3.2.2.2.2.2.2.2.2.2.1.length:Int) - (1:Int)) - d3.1),d3.2.1,d3.2.2.1,d3.2.2.2.1,d3.2.2.2.2.1,d3.2.2.2.2.2.1,d3.2.2.2.2.2.2.1,d3.2.2.2.2.2.2.2.1,d3.2.2.2.2.2.2.2.2.1,d3.2.2.2.2.2.2.2.2.2.1,d3.2.2.2.2.2.2.2.2.2.2.1)) (some (d3.1,d3.2.1,d3.2.2.1,d3.2.2.2.1,d3.2.2.2.2.1,d3.2.2.2.2.2.1,d3.2.2.2.2.2.2.1,d3.2.2.2.2.2.2.2.1,d3.2.2.2.2.2.2.2.2.1,d3.2.2.2.2.2.2.2.2.2.1,d3.2.2.2.2.2.2.2.2.2.2.1))) fun o4=>
  gd ((ze o4.1 o4.2.2.2.2.2.2.2.2.2.1.length)&&(true)) <|
  Option.bind (gd ((ze o4.1 o4.2.2.2.2.2.2.2.2.2.1.length)&&(true)) <|
  cond (!(decide ((o4.2.2.2.2.2.2.2.2.2.1.getD o4.1.toNat zG.zero).2.1=a0))) (some ((7:Int),o4.2.1,o4.2.2.1,o4.2.2.2.1,o4.2.2.2.2.1,o4.2.2.2.2.2.1,o4.2.2.2.2.2.2.1,o4.2.2.2.2.2.2.2.1,o4.2.2.2.2.2.2.2.2.1,o4.2.2.2.2.2.2.2.2.2.1,o4.2.2.2.2.2.2.2.2.2.2)) (some ((o4.2.2.2.2.2.2.2.2.2.1.getD o4.1.toNat zG.zero).1,o4.2.1,o4.2.2.1,o4.2.2.2.1,o4.2.2.2.2.1,o4.2.2.2.2.2.1,o4.2.2.2.2.2.2.1,o4.2.2.2.2.2.2.2.1,o4.2.2.2.2.2.2.2.2.1,o4.2.2.2.2.2.2.2.2.2.1,o4.2.2.2.2.2.2.2.2.2.2))) fun o5=>
  Option.bind (cond (decide (o5.1=1)) (Option.bind (m_rknit N o4.1 o5.2.1 o5.2.2.2.2.2.2.2.2.2.1 o5.2.2.2.2.2.2.2.2.2.2 d3.2.2.2.2.2.2.2.2.2.2.2.1 d3.2.2.2.2.2.2.2.2.2.2.2.2.2 d3.2.2.2.2.2.2.2.2.2.2.2.2.1) fun r7=>
  some (r7.1,o5.2.1,o5.2.2.1,o5.2.2.2.1,o5.2.2.2.2.1,o5.2.2.2.2.2.1,o5.2.2.2.2.2.2.1,o5.2.2.2.2.2.2.2.1,o5.2.2.2.2.2.2.2.2.1,r7.2.1,r7.2.2.1,r7.2.2.2.1,r7.2.2.2.2.2,r7.2.2.2.2.1))
  (cond (decide (o5.1=2)) (Option.bind (m_rknit N o4.1 o5.2.2.1 o5.2.2.2.2.2.2.2.2.2.1 o5.2.2.2.2.2.2.2.2.2.2 d3.2.2.2.2.2.2.2.2.2.2.2.1 d3.2.2.2.2.2.2.2.2.2.2.2.2.2 d3.2.2.2.2.2.2.2.2.2.2.2.2.1) fun r8=>
  some (r8.1,o5.2.1,o5.2.2.1,o5.2.2.2.1,o5.2.2.2.2.1,o5.2.2.2.2.2.1,o5.2.2.2.2.2.2.1,o5.2.2.2.2.2.2.2.1,o5.2.2.2.2.2.2.2.2.1,r8.2.1,r8.2.2.1,r8.2.2.2.1,r8.2.2.2.2.2,r8.2.2.2.2.1))
  (cond (decide (o5.1=3)) (Option.bind (m_rover N o4.1 o5.2.2.2.1 o5.2.2.2.2.2.2.2.2.2.1 o5.2.2.2.2.2.2.2.2.2.2 d3.2.2.2.2.2.2.2.2.2.2.2.1 d3.2.2.2.2.2.2.2.2.2.2.2.2.2 d3.2.2.2.2.2.2.2.2.2.2.2.2.1) fun r9=>
  some (r9.1,o5.2.1,o5.2.2.1,o5.2.2.2.1,o5.2.2.2.2.1,o5.2.2.2.2.2.1,o5.2.2.2.2.2.2.1,o5.2.2.2.2.2.2.2.1,o5.2.2.2.2.2.2.2.2.1,r9.2.1,r9.2.2.1,r9.2.2.2.1,r9.2.2.2.2.2,r9.2.2.2.2.1))
  (cond (decide (o5.1=4)) (Option.bind (m_rknit N o4.1 o5.2.2.2.2.1 o5.2.2.2.2.2.2.2.2.2.1 o5.2.2.2.2.2.2.2.2.2.2 d3.2.2.2.2.2.2.2.2.2.2.2.1 d3.2.2.2.2.2.2.2.2.2.2.2.2.2 d3.2.2.2.2.2.2.2.2.2.2.2.2.1) fun r10=>
  some (r10.1,o5.2.1,o5.2.2.1,o5.2.2.2.1,o5.2.2.2.2.1,o5.2.2.2.2.2.1,o5.2.2.2.2.2.2.1,o5.2.2.2.2.2.2.2.1,o5.2.2.2.2.2.2.2.2.1,r10.2.1,r10.2.2.1,r10.2.2.2.1,r10.2.2.2.2.2,r10.2.2.2.2.1))
  (cond (decide (o5.1=5)) (Option.bind (m_rknit N o4.1 o5.2.2.2.2.2.1 o5.2.2.2.2.2.2.2.2.2.1 o5.2.2.2.2.2.2.2.2.2.2 d3.2.2.2.2.2.2.2.2.2.2.2.1 d3.2.2.2.2.2.2.2.2.2.2.2.2.2 d3.2.2.2.2.2.2.2.2.2.2.2.2.1) fun r11=>
  some (r11.1,o5.2.1,o5.2.2.1,o5.2.2.2.1,o5.2.2.2.2.1,o5.2.2.2.2.2.1,o5.2.2.2.2.2.2.1,o5.2.2.2.2.2.2.2.1,o5.2.2.2.2.2.2.2.2.1,r11.2.1,r11.2.2.1,r11.2.2.2.1,r11.2.2.2.2.2,r11.2.2.2.2.1))
  (cond (decide (o5.1=6)) (Option.bind (m_rtuck N o4.1 o5.2.2.2.2.2.2.1 o5.2.2.2.2.2.2.2.2.2.1 o5.2.2.2.2.2.2.2.2.2.2 d3.2.2.2.2.2.2.2.2.2.2.2.1 d3.2.2.2.2.2.2.2.2.2.2.2.2.2 d3.2.2.2.2.2.2.2.2.2.2.2.2.1) fun r12=>
  some (r12.1,o5.2.1,o5.2.2.1,o5.2.2.2.1,o5.2.2.2.2.1,o5.2.2.2.2.2.1,o5.2.2.2.2.2.2.1,o5.2.2.2.2.2.2.2.1,o5.2.2.2.2.2.2.2.2.1,r12.2.1,r12.2.2.1,r12.2.2.2.1,r12.2.2.2.2.2,r12.2.2.2.2.1))
  (cond (decide (o5.1=7)) (Option.bind (m_rslipm N o4.1 o5.2.2.2.2.2.2.2.1 o5.2.2.2.2.2.2.2.2.2.1 o5.2.2.2.2.2.2.2.2.2.2 d3.2.2.2.2.2.2.2.2.2.2.2.1 d3.2.2.2.2.2.2.2.2.2.2.2.2.2 d3.2.2.2.2.2.2.2.2.2.2.2.2.1) fun r13=>
  some (r13.1,o5.2.1,o5.2.2.1,o5.2.2.2.1,o5.2.2.2.2.1,o5.2.2.2.2.2.1,o5.2.2.2.2.2.2.1,o5.2.2.2.2.2.2.2.1,o5.2.2.2.2.2.2.2.2.1,r13.2.1,r13.2.2.1,r13.2.2.2.1,r13.2.2.2.2.2,r13.2.2.2.2.1))
  (cond (decide (o5.1=8)) (Option.bind (m_rknit N o4.1 o5.2.2.2.2.2.2.2.2.1 o5.2.2.2.2.2.2.2.2.2.1 o5.2.2.2.2.2.2.2.2.2.2 d3.2.2.2.2.2.2.2.2.2.2.2.1 d3.2.2.2.2.2.2.2.2.2.2.2.2.2 d3.2.2.2.2.2.2.2.2.2.2.2.2.1) fun r14=>
  some (r14.1,o5.2.1,o5.2.2.1,o5.2.2.2.1,o5.2.2.2.2.1,o5.2.2.2.2.2.1,o5.2.2.2.2.2.2.1,o5.2.2.2.2.2.2.2.1,o5.2.2.2.2.2.2.2.2.1,r14.2.1,r14.2.2.1,r14.2.2.2.1,r14.2.2.2.2.2,r14.2.2.2.2.1))
  (none))))))))) fun o6=>
  cond (!(decide (o6.1=(0:Int)))) (some (.inr (o6.1,o6.2.2.2.2.2.2.2.2.2.1,o6.2.2.2.2.2.2.2.2.2.2.1,o6.2.2.2.2.2.2.2.2.2.2.2.1,o6.2.2.2.2.2.2.2.2.2.2.2.2.2,o6.2.2.2.2.2.2.2.2.2.2.2.2.1))) (gd ((zq (d3.1+(1:Int)))&&(true)) <|
  rec3 ((d3.1+(1:Int)),o6.2.1,o6.2.2.1,o6.2.2.2.1,o6.2.2.2.2.1,o6.2.2.2.2.2.1,o6.2.2.2.2.2.2.1,o6.2.2.2.2.2.2.2.1,o6.2.2.2.2.2.2.2.2.1,o6.2.2.2.2.2.2.2.2.2.1,o6.2.2.2.2.2.2.2.2.2.2.1,o6.2.2.2.2.2.2.2.2.2.2.2.1,o6.2.2.2.2.2.2.2.2.2.2.2.2.1,o6.2.2.2.2.2.2.2.2.2.2.2.2.2))) (some (.inl (d3.2.2.2.2.2.2.2.2.2.1,d3.2.2.2.2.2.2.2.2.2.2.1,d3.2.2.2.2.2.2.2.2.2.2.2.1,d3.2.2.2.2.2.2.2.2.2.2.2.2.1,d3.2.2.2.2.2.2.2.2.2.2.2.2.2)))
def xo(N:Nat) (a0:Int) (a1:(List zi)) (a2:Int) (a3:List (Bool×List zB)) (a4:List (Bool×List zj)) (a5:List zd):Option (Int×(List zi)×Int×(List (Bool×List zB))×(List (Bool×List zj))×(List zd)):=
  Option.bind (m_rsbegin N a0 a1 a2 a3 a5) fun r1=>
  cond (!(decide (r1.1=(0:Int)))) (some (r1.1,r1.2.1,r1.2.2.1,r1.2.2.2.1,a4,r1.2.2.2.2)) (Option.bind (m_racts N a0) fun r2=>
  Option.bind (m_rfollow_L3 N a0 r1 N ((0:Int),r2.1,r2.2.1,r2.2.2.1,r2.2.2.2.1,r2.2.2.2.2.1,r2.2.2.2.2.2.1,r2.2.2.2.2.2.2.1,r2.2.2.2.2.2.2.2,r1.2.1,r1.2.2.1,r1.2.2.2.1,r1.2.2.2.2,a4)) fun(o3:((List zi)×Int×(List (Bool×List zB))×(List zd)×(List (Bool×List zj)))⊕(Int×(List zi)×Int×(List (Bool×List zB))×(List (Bool×List zj))×(List zd)))=>
  sm o3 (fun o3=>
  Option.bind (m_rend N o3.2.1) fun r15=>
  Option.bind (xj N a0 r15 ([]:List qa) o3.1 o3.2.1 o3.2.2.2.1) fun r16=>
  some (r16.1,r16.2.1,r16.2.2.1,o3.2.2.1,o3.2.2.2.2,r16.2.2.2)) (fun q=>some q))
noncomputable def ct_rfollow (N:Nat):CT cx:=zS N za (by kernel_rfl) [.c (.raw (.ptr 1000000 0)),.c (.int .u8)] [(1000000,.cells 160 [.lst zG,.raw (.sl 2000000),.raw (.sl 2000001),.raw (.sl 2000002),.int .u8]),(2000000,.mrow 70 121 zL),(2000002,.mrow 47 51 zh),(2000001,.row 112 zr)] ⟨.a (.c (.int .i64)),[(1000000,.cells 160 [.lst zG,.raw (.sl 2000000),.raw (.sl 2000001),.raw (.sl 2000002),.int .u8]),(2000000,.mrow 70 121 zL),(2000002,.mrow 47 51 zh),(2000001,.row 112 zr)],[]⟩ [ct_rsbegin N,ct_racts N,ct_rknit N,ct_rover N,ct_rtuck N,ct_rslipm N,ct_rend N,ct_rsmove N] [] (.s .d (.s (.s (.r [.n 2,.c [(1000000,1000000),(2000002,2000002),(2000000,2000000),(2000001,2000001)]]) .d) (.s (.r [.n 2,.c [(2000000,1000000),(2,18)]]) (.s (.s .d (.b (.lxx 0 ⟨[(0,.a (.c (.raw (.ptr 1000000 0)))),(6,.a (.c (.raw (.ptr 6 0)))),(24,.a (.c (.int .i64)))],[(6,.cells 217 [.raw (.val (.nilFunc)),.fn 164 [.id 18,.fz (.int .u8)],.fn 164 [.id 18,.fz (.int .u8)],.fn 165 [.id 18,.fz (.int .u8)],.fn 164 [.id 18,.fz (.int .u8)],.fn 164 [.id 18,.fz (.int .u8)],.fn 166 [.id 18,.fz (.int .u8)],.fn 163 [.id 18,.fz (.int .u8)],.fn 164 [.id 18,.fz (.int .u8)]]),(18,.cells 157 [.raw (.ptr 1000000 0)]),(1000000,.cells 160 [.lst zG,.raw (.sl 2000000),.raw (.sl 2000001),.raw (.sl 2000002),.int .u8]),(2000000,.mrow 70 121 zL),(2000001,.row 112 zr),(2000002,.mrow 47 51 zh)],[1,23],[]⟩ ⟨[(0,.a (.c (.raw (.ptr 1000000 0))))],[(1000000,.cells 160 [.lst zG,.raw (.sl 2000000),.raw (.sl 2000001),.raw (.sl 2000002),.int .u8]),(2000000,.mrow 70 121 zL),(2000001,.row 112 zr),(2000002,.mrow 47 51 zh)],[1],[]⟩ (.s .d (.s .d (.s (.b (.s .d (.j ⟨[(0,.a (.c (.raw (.ptr 1000000 0)))),(6,.a (.c (.raw (.ptr 6 0)))),(7,.a (.c (.int .i64)))],[(6,.cells 217 [.raw (.val (.nilFunc)),.fn 164 [.id 18,.fz (.int .u8)],.fn 164 [.id 18,.fz (.int .u8)],.fn 165 [.id 18,.fz (.int .u8)],.fn 164 [.id 18,.fz (.int .u8)],.fn 164 [.id 18,.fz (.int .u8)],.fn 166 [.id 18,.fz (.int .u8)],.fn 163 [.id 18,.fz (.int .u8)],.fn 164 [.id 18,.fz (.int .u8)]]),(18,.cells 157 [.raw (.ptr 1000000 0)]),(1000000,.cells 160 [.lst zG,.raw (.sl 2000000),.raw (.sl 2000001),.raw (.sl 2000002),.int .u8])],[1,23,24],[2000000,2000001,2000002]⟩ .d (.s .d (.j ⟨[(0,.a (.c (.raw (.ptr 1000000 0)))),(6,.a (.c (.raw (.ptr 6 0)))),(8,.a (.c (.int .u8)))],[(6,.cells 217 [.raw (.val (.nilFunc)),.fn 164 [.id 18,.fz (.int .u8)],.fn 164 [.id 18,.fz (.int .u8)],.fn 165 [.id 18,.fz (.int .u8)],.fn 164 [.id 18,.fz (.int .u8)],.fn 164 [.id 18,.fz (.int .u8)],.fn 166 [.id 18,.fz (.int .u8)],.fn 163 [.id 18,.fz (.int .u8)],.fn 164 [.id 18,.fz (.int .u8)]]),(18,.cells 157 [.raw (.ptr 1000000 0)]),(1000000,.cells 160 [.lst zG,.raw (.sl 2000000),.raw (.sl 2000001),.raw (.sl 2000002),.int .u8])],[1,7,23,24],[2000000,2000001,2000002]⟩ .d (.j ⟨[(0,.a (.c (.raw (.ptr 1000000 0)))),(6,.a (.c (.raw (.ptr 6 0)))),(9,.a (.c (.int .i64)))],[(6,.cells 217 [.raw (.val (.nilFunc)),.fn 164 [.id 18,.fz (.int .u8)],.fn 164 [.id 18,.fz (.int .u8)],.fn 165 [.id 18,.fz (.int .u8)],.fn 164 [.id 18,.fz (.int .u8)],.fn 164 [.id 18,.fz (.int .u8)],.fn 166 [.id 18,.fz (.int .u8)],.fn 163 [.id 18,.fz (.int .u8)],.fn 164 [.id 18,.fz (.int .u8)]]),(18,.cells 157 [.raw (.ptr 1000000 0)]),(1000000,.cells 160 [.lst zG,.raw (.sl 2000000),.raw (.sl 2000001),.raw (.sl 2000002),.int .u8]),(2000000,.mrow 70 121 zL),(2000001,.row 112 zr),(2000002,.mrow 47 51 zh)],[1,23,24],[]⟩ (.r [.f 8 [1,2,3,4,5,6,7,8],.n 4,.c [(1000000,18),(1000001,1000000),(2000000,2000000),(2000002,2000002),(2000001,2000001)]]) .d)))))) .d)))))) (.s (.r [.n 7,.c [(1000000,1000000),(2000000,2000000),(2000002,2000002),(2000001,2000001)]]) .d))))) [.tmp 4] 119 (0,[],0,[],[],[]) (fun d=>xo N d.1 d.2.1 d.2.2.1 d.2.2.2.1 d.2.2.2.2.1 d.2.2.2.2.2.1) Tryz.func119 rfl rfl Tryz.ntmps119 rfl rfl rfl (fun d=>by kernel_rfl)
end

section
set_option linter.unusedSimpArgs false
set_option linter.unusedVariables false
open Go.RowKit
def m_copiedS(N:Nat) (a0:(List zB)):Option ((List zB)):=
  gd (((decide (0<=(a0.length:Int)))&&(decide ((a0.length:Int)<=(a0.length:Int)))&&(zH 32 (a0.length:Int)))&&(true)) <|
  gd ((Nat.beq a0.length (List.replicate (a0.length:Int).toNat (zL.zero:zB)).length)&&(true)) <|
  some a0
noncomputable def ct_copiedS (N:Nat):CT cx:=zS N za (by kernel_rfl) [.c (.lst zL)] [] ⟨.a (.c (.raw (.sl 6))),[(6,.row 121 zL)],[]⟩ [] [] (.d) [.tmp 2] 132 [] (fun d=>m_copiedS N d.1) Tryz.func132 rfl rfl Tryz.ntmps132 rfl rfl rfl (fun d=>by kernel_rfl)
def m_copySl_L2(N:Nat) (a0:(List zB)):Nat->(Int×(List zB))->Option ((List zB)):=zc fun d2 rec2=>
  cond (decide (d2.1 < (a0.length:Int))) (gd ((ze d2.1 a0.length)&&(true)) <|
  Option.bind (m_rcpI N (a0.getD d2.1.toNat zL.zero).2) fun r3=>
  gd ((ze d2.1 d2.2.length)&&(((decide (d2.1.toNat < d2.2.length))&&(true))&&(true))) <|
  gd ((zq (d2.1+(1:Int)))&&(true)) <|
  rec2 ((d2.1+(1:Int)),(d2.2.set d2.1.toNat ((d2.2.getD d2.1.toNat zL.zero).1,r3.1)))) (some d2.2)
def m_copySl(N:Nat) (a0:(List zB)):Option ((List zB)):=
  Option.bind (m_copiedS N a0) fun r1=>
  Option.bind (m_copySl_L2 N a0 N ((0:Int),r1)) fun o2=>
  some o2
noncomputable def ct_copySl (N:Nat):CT cx:=zS N za (by kernel_rfl) [.c (.lst zL)] [] ⟨.a (.c (.raw (.sl 7))),[(7,.row 121 zL)],[]⟩ [ct_copiedS N,ct_rcpI N] [] (.s .d (.s (.r [.n 1,.c [(6,7)]]) (.s (.s .d (.b (.lx 0 ⟨[(3,.a (.c (.raw (.sl 7)))),(10,.a (.c (.int .i64)))],[(7,.row 121 zL)],[8,9],[]⟩ ⟨[(3,.a (.c (.raw (.sl 7))))],[(7,.row 121 zL)],[],[]⟩ (.s .d (.s .d (.s (.b (.s (.r [.n 6,.w (.frzC 5 zL)]) .d)) .d)))))) .d))) [.tmp 2] 114 [] (fun d=>m_copySl N d.1) Tryz.func114 rfl rfl Tryz.ntmps114 rfl rfl rfl (fun d=>by kernel_rfl)
def m_sbed(N:Nat) (a0:zi):Option (Int):=
  Option.bind (xn N a0) fun r1=>
  cond (cond (decide (r1=(0:Int))) (cond (decide (a0.1=(2:Int))) true (decide (a0.1=(5:Int)))) false) (some (1:Int)) (some (0:Int))
noncomputable def ct_sbed (N:Nat):CT cx:=zS N za (by kernel_rfl) [.dat zG] [] ⟨.a (.c (.int .u8)),[],[]⟩ [ct_stcheck N] [] (.s (.r [.n 2,.w (.frzC 1 zG)]) .d) [.tmp 2] 155 0 (fun d=>m_sbed N d.1) Tryz.func155 rfl rfl Tryz.ntmps155 rfl rfl rfl (fun d=>by kernel_rfl)
def m_joinSo_L1(N:Nat) (a0:(List (List zB))):Nat->(Int×Int)->Option (Int):=zc fun d1 rec1=>
  cond (decide (d1.2 < (a0.length:Int))) (gd ((ze d1.2 a0.length)&&(true)) <|
  gd ((zq (d1.1+((a0.getD d1.2.toNat []).length:Int)))&&(true)) <|
  gd ((zq (d1.2+(1:Int)))&&(true)) <|
  rec1 ((d1.1+((a0.getD d1.2.toNat []).length:Int)),(d1.2+(1:Int)))) (some d1.1)
def m_joinSo_L2(N:Nat) (a0:(List (List zB))):Nat->(Int×Int×(List zB))->Option ((List zB)):=zc fun d2 rec2=>
  cond (decide (d2.2.1 < (a0.length:Int))) (gd ((ze d2.2.1 a0.length)&&(true)) <|
  gd (((decide (0<=d2.1))&&(decide (d2.1<=(d2.2.2.length:Int))))&&((decide (d2.1.toNat+(a0.getD d2.2.1.toNat []).length<=d2.2.2.length))&&((zq (d2.1+((a0.getD d2.2.1.toNat []).length:Int)))&&(true)))) <|
  gd ((zq (d2.2.1+(1:Int)))&&(true)) <|
  rec2 ((d2.1+((a0.getD d2.2.1.toNat []).length:Int)),(d2.2.1+(1:Int)),(d2.2.2.take d2.1.toNat++(a0.getD d2.2.1.toNat [])++d2.2.2.drop (d2.1.toNat+(a0.getD d2.2.1.toNat []).length)))) (some d2.2.2)
def m_joinSo(N:Nat) (a0:(List (List zB))):Option ((List zB)):=
  Option.bind (m_joinSo_L1 N a0 N ((0:Int),(0:Int))) fun o1=>
  gd (((decide (0<=o1))&&(decide (o1<=o1))&&(zH 32 o1))&&(true)) <|
  Option.bind (m_joinSo_L2 N a0 N ((0:Int),(0:Int),(List.replicate o1.toNat (zL.zero:zB)))) fun o2=>
  some o2
noncomputable def ct_joinSo (N:Nat):CT cx:=zS N za (by kernel_rfl) [.c (.lst (.sl zL))] [] ⟨.a (.c (.raw (.sl 22))),[(22,.row 121 zL)],[]⟩ [] [] (.s .d (.s .d (.s (.s .d (.b (.lx 0 ⟨[(3,.a (.c (.int .i64))),(12,.a (.c (.int .i64)))],[],[0,10,11],[]⟩ ⟨[(3,.a (.c (.int .i64)))],[],[0],[]⟩ .d))) (.s .d (.s .d (.s (.s .d (.b (.lx 2 ⟨[(6,.a (.c (.raw (.sl 22)))),(7,.a (.c (.int .i64))),(25,.a (.c (.int .i64)))],[(22,.row 121 zL)],[23,24],[]⟩ ⟨[(6,.a (.c (.raw (.sl 22))))],[(22,.row 121 zL)],[],[]⟩ .d))) .d)))))) [.tmp 2] 110 [] (fun d=>m_joinSo N d.1) Tryz.func110 rfl rfl Tryz.ntmps110 rfl rfl rfl (fun d=>by kernel_rfl)
def m_rbrought_L6(N:Nat) (a1:zi) (o2:(List zB)):Nat->(Int×(List zB))->Option ((List zB)):=zc fun d6 rec6=>
  cond (decide (d6.1 < (o2.length:Int))) (Option.bind (m_sbed N a1) fun r7=>
  gd ((ze d6.1 d6.2.length)&&(((decide (d6.1.toNat < d6.2.length))&&(true))&&(true))) <|
  gd ((zq (d6.1+(1:Int)))&&(true)) <|
  rec6 ((d6.1+(1:Int)),(d6.2.set d6.1.toNat (r7,(d6.2.getD d6.1.toNat zL.zero).2)))) (some d6.2)
def m_rbrought(N:Nat) (a0:(List zB)) (a1:zi):Option ((List zB)):=
  Option.bind (m_copySl N a0) fun r1=>
  Option.bind (Option.bind (cond (decide (a1.1=(4:Int))) (some (decide (a1.1=(4:Int)))) (some (decide (a1.1=(5:Int))))) fun o3=>
  cond o3 (Option.bind (m_rheldR N r1) fun r4=>
  some [((0:Int),r4)]) (cond (decide (a1.1=(8:Int))) (gd (true) <|
  gd (((decide (0<=a1.2.2.1))&&(decide (a1.2.2.1<=(r1.length:Int))))&&(((decide (0<=a1.2.2.1))&&(decide (a1.2.2.1<=(r1.length:Int))))&&(true))) <|
  Option.bind (m_joinSo N [(r1.drop a1.2.2.1.toNat),(r1.take a1.2.2.1.toNat)]) fun r5=>
  some r5) (some r1))) fun o2=>
  Option.bind (m_rbrought_L6 N a1 o2 N ((0:Int),o2)) fun o6=>
  some o6
noncomputable def ct_rbrought (N:Nat):CT cx:=zS N za (by kernel_rfl) [.c (.lst zL),.dat zG] [] ⟨.a (.c (.raw (.sl 16))),[(16,.row 121 zL)],[]⟩ [ct_copySl N,ct_rheldR N,ct_joinSo N,ct_sbed N] [] (.s (.r [.n 2,.w (.frzC 3 zG)]) (.s (.r [.n 1,.c [(7,7)]]) (.j ⟨[(0,.a (.c (.raw (.sl 16))))],[(16,.row 121 zL)],[3],[]⟩ (.s .d (.b (.j ⟨[(0,.a (.c (.raw (.sl 7)))),(10,.a (.c .bool))],[],[3,4,9],[7]⟩ .d (.c (.r [.n 1,.c [(2000000,7)]]) (.s .d (.c (.p [.frz 7] (.o [] [.t 0 0,.t 1 0,.t 2 1,.t 3 0,.t 4 0,.t 5 0,.t 6 1,.t 7 0,.s 8,.z 27,.c 9 [(22,28)],.t 10 0] [(.t (.mv 28 16))])) (.t [.t (.mv 7 16)]))))))) (.s (.s .d (.b (.lx 1 ⟨[(0,.a (.c (.raw (.sl 16)))),(31,.a (.c (.int .i64)))],[(16,.row 121 zL)],[3,30],[]⟩ ⟨[(0,.a (.c (.raw (.sl 16))))],[(16,.row 121 zL)],[],[]⟩ .d))) .d)))) [.tmp 4] 137 [] (fun d=>m_rbrought N d.1 d.2.1) Tryz.func137 rfl rfl Tryz.ntmps137 rfl rfl rfl (fun d=>by kernel_rfl)
end

section
set_option linter.unusedSimpArgs false
set_option linter.unusedVariables false
open Go.RowKit
def m_p39ex(N:Nat) :Option ((List (List zi))):=
  some [[((1:Int),((1:Int),((0:Int),((0:Int),false)))),((2:Int),((2:Int),((0:Int),((0:Int),false)))),((1:Int),((1:Int),((0:Int),((0:Int),false))))],[((1:Int),((2:Int),((0:Int),((0:Int),false)))),((1:Int),((2:Int),((0:Int),((0:Int),false)))),((1:Int),((2:Int),((0:Int),((0:Int),false))))],[((2:Int),((1:Int),((0:Int),((0:Int),false)))),((1:Int),((1:Int),((0:Int),((0:Int),false)))),((1:Int),((1:Int),((0:Int),((0:Int),false))))]]
noncomputable def ct_p39ex (N:Nat):CT cx:=zS N za (by kernel_rfl) [] [] ⟨.a (.dat (.sl (.sl zG))),[],[]⟩ [] [] (.s .d (.s (.r [.n 3,.w (.frzC 1 zG)]) (.s (.r [.n 3,.w (.frzC 2 zG)]) (.s (.r [.n 12,.w (.frz 8),.w (.frz 12),.w (.frz 16)]) (.t [.frz 17]))))) [.cell 0 27] 22 [] (fun d=>m_p39ex N ) Tryz.func22 rfl rfl Tryz.ntmps22 rfl rfl rfl (fun d=>by kernel_rfl)
def m_chtotN_L1(N:Nat) (a0:(List zi)):Nat->(Int×Int)->Option (Int):=zc fun d1 rec1=>
  cond (decide (d1.2 < (a0.length:Int))) (gd ((ze d1.2 a0.length)&&(true)) <|
  Option.bind (m_stneeds N (a0.getD d1.2.toNat zG.zero)) fun r2=>
  gd ((zq (d1.1+r2))&&(true)) <|
  gd ((zq (d1.2+(1:Int)))&&(true)) <|
  rec1 ((d1.1+r2),(d1.2+(1:Int)))) (some d1.1)
def m_chtotN(N:Nat) (a0:(List zi)):Option (Int):=
  Option.bind (m_chtotN_L1 N a0 N ((0:Int),(0:Int))) fun o1=>
  some o1
noncomputable def ct_chtotN (N:Nat):CT cx:=zS N za (by kernel_rfl) [.c (.lst zG),.c (.fn 40 [])] [] ⟨.a (.c (.int .i64)),[],[]⟩ [ct_stneeds N] [] (.s .d (.s .d (.s (.s .d (.b (.lx 0 ⟨[(5,.a (.c (.int .i64))),(10,.a (.c (.int .i64)))],[],[1,8,9],[]⟩ ⟨[(5,.a (.c (.int .i64)))],[],[],[]⟩ (.s .d (.s .d (.s (.b (.s (.r [.n 4,.w (.frzC 7 zG)]) .d)) .d)))))) .d))) [.tmp 4] 39 0 (fun d=>m_chtotN N d.1) Tryz.func39 rfl rfl Tryz.ntmps39 rfl rfl rfl (fun d=>by kernel_rfl)
def m_chtotM_L1(N:Nat) (a0:(List zi)):Nat->(Int×Int)->Option (Int):=zc fun d1 rec1=>
  cond (decide (d1.2 < (a0.length:Int))) (gd ((ze d1.2 a0.length)&&(true)) <|
  Option.bind (m_stmakes N (a0.getD d1.2.toNat zG.zero)) fun r2=>
  gd ((zq (d1.1+r2))&&(true)) <|
  gd ((zq (d1.2+(1:Int)))&&(true)) <|
  rec1 ((d1.1+r2),(d1.2+(1:Int)))) (some d1.1)
def m_chtotM(N:Nat) (a0:(List zi)):Option (Int):=
  Option.bind (m_chtotM_L1 N a0 N ((0:Int),(0:Int))) fun o1=>
  some o1
noncomputable def ct_chtotM (N:Nat):CT cx:=zS N za (by kernel_rfl) [.c (.lst zG),.c (.fn 41 [])] [] ⟨.a (.c (.int .i64)),[],[]⟩ [ct_stmakes N] [] (.s .d (.s .d (.s (.s .d (.b (.lx 0 ⟨[(5,.a (.c (.int .i64))),(10,.a (.c (.int .i64)))],[],[1,8,9],[]⟩ ⟨[(5,.a (.c (.int .i64)))],[],[],[]⟩ (.s .d (.s .d (.s (.b (.s (.r [.n 4,.w (.frzC 7 zG)]) .d)) .d)))))) .d))) [.tmp 4] 39 0 (fun d=>m_chtotM N d.1) Tryz.func39 rfl rfl Tryz.ntmps39 rfl rfl rfl (fun d=>by kernel_rfl)
def qZ(N:Nat) (a0:(List zi)):Option (Int):=
  Option.bind (m_chtotN N a0) fun r1=>
  some r1
noncomputable def ct_chneeds (N:Nat):CT cx:=zS N za (by kernel_rfl) [.c (.lst zG)] [] ⟨.a (.c (.int .i64)),[],[]⟩ [ct_chtotN N] [] (.d) [.tmp 2] 18 0 (fun d=>qZ N d.1) Tryz.func18 rfl rfl Tryz.ntmps18 rfl rfl rfl (fun d=>by kernel_rfl)
def m_chmakes(N:Nat) (a0:(List zi)):Option (Int):=
  Option.bind (m_chtotM N a0) fun r1=>
  some r1
noncomputable def ct_chmakes (N:Nat):CT cx:=zS N za (by kernel_rfl) [.c (.lst zG)] [] ⟨.a (.c (.int .i64)),[],[]⟩ [ct_chtotM N] [] (.d) [.tmp 2] 19 0 (fun d=>m_chmakes N d.1) Tryz.func19 rfl rfl Tryz.ntmps19 rfl rfl rfl (fun d=>by kernel_rfl)
def m_chrow_L1(N:Nat) (a0:(List zi)):Nat->Int->Option ((Unit)⊕(Int)):=zc fun d1 rec1=>
  cond (decide (d1 < (a0.length:Int))) (gd ((ze d1 a0.length)&&(true)) <|
  Option.bind (xn N (a0.getD d1.toNat zG.zero)) fun r2=>
  cond (!(decide (r2=(0:Int)))) (some (.inr (1:Int))) (gd ((zq (d1+(1:Int)))&&(true)) <|
  rec1 (d1+(1:Int)))) (some (.inl ()))
def m_chrow(N:Nat) (a0:(List zi)):Option (Int):=
  cond (decide ((16:Int) < (a0.length:Int))) (some (3:Int)) (cond (decide ((a0.length:Int)=(0:Int))) (some (1:Int)) (Option.bind (m_chrow_L1 N a0 N (0:Int)) fun(o1:(Unit)⊕(Int))=>
  sm o1 (fun o1=>
  Option.bind (qZ N a0) fun r3=>
  Option.bind (m_chmakes N a0) fun r4=>
  cond (cond (cond (cond (decide (r3 < (1:Int))) true (decide ((16:Int) < r3))) true (decide (r4 < (1:Int)))) true (decide ((16:Int) < r4))) (some (5:Int)) (some (0:Int))) (fun q=>some q)))
noncomputable def ct_chrow (N:Nat):CT cx:=zS N za (by kernel_rfl) [.c (.lst zG)] [] ⟨.a (.c (.int .i64)),[],[]⟩ [ct_stcheck N,ct_chneeds N,ct_chmakes N] [] (.s .d (.s .d (.s .d (.s (.s .d (.b (.lxx 0 ⟨[(15,.a (.c (.int .i64)))],[],[0,13,14],[]⟩ ⟨[],[],[0],[]⟩ (.s .d (.s .d (.s (.b (.s (.r [.n 4,.w (.frzC 4 zG)]) .d)) .d)))))) .d)))) [.tmp 2] 94 0 (fun d=>m_chrow N d.1) Tryz.func94 rfl rfl Tryz.ntmps94 rfl rfl rfl (fun d=>by kernel_rfl)
def m_chrows_L1(N:Nat) (a0:(List (List zi))):Nat->Int->Option ((Unit)⊕(Int)):=zc fun d1 rec1=>
  cond (decide (d1 < (a0.length:Int))) (gd ((ze d1 a0.length)&&(true)) <|
  Option.bind (m_chrow N (a0.getD d1.toNat [])) fun r2=>
  cond (!(decide (r2=(0:Int)))) (some (.inr r2)) (gd ((zq (d1+(1:Int)))&&(true)) <|
  rec1 (d1+(1:Int)))) (some (.inl ()))
def m_chrows_L3(N:Nat) (a0:(List (List zi))):Nat->Int->Option ((Unit)⊕(Int)):=zc fun d3 rec3=>
  cond (decide (d3 < (a0.length:Int))) (gd ((ze d3 a0.length)&&((zq (d3 - (1:Int)))&&((ze (d3 - (1:Int)) a0.length)&&(true)))) <|
  Option.bind (qZ N (a0.getD d3.toNat [])) fun r4=>
  Option.bind (m_chmakes N (a0.getD (d3 - (1:Int)).toNat [])) fun r5=>
  cond (!(decide (r4=r5))) (some (.inr (14:Int))) (gd ((zq (d3+(1:Int)))&&(true)) <|
  rec3 (d3+(1:Int)))) (some (.inl ()))
def m_chrows(N:Nat) (a0:(List (List zi))):Option (Int):=
  cond (decide ((31:Int) < (a0.length:Int))) (some (3:Int)) (cond (decide ((Int.tmod (a0.length:Int) (2:Int))=(0:Int))) (some (1:Int)) (Option.bind (m_chrows_L1 N a0 N (0:Int)) fun(o1:(Unit)⊕(Int))=>
  sm o1 (fun o1=>
  Option.bind (m_chrows_L3 N a0 N (1:Int)) fun(o3:(Unit)⊕(Int))=>
  sm o3 (fun o3=>
  some (0:Int)) (fun q=>some q)) (fun q=>some q)))
noncomputable def ct_chrows (N:Nat):CT cx:=zS N za (by kernel_rfl) [.c (.lst (.sl zG))] [] ⟨.a (.c (.int .i64)),[],[]⟩ [ct_chrow N,ct_chneeds N,ct_chmakes N] [] (.s .d (.s .d (.s .d (.s (.s .d (.b (.lxx 0 ⟨[(16,.a (.c (.int .i64)))],[],[0,14,15],[]⟩ ⟨[],[],[0],[]⟩ .d))) (.s (.s .d (.b (.lxx 2 ⟨[(6,.a (.c (.int .i64)))],[],[0],[]⟩ ⟨[],[],[],[]⟩ (.s .d (.s (.b (.s (.o [] [.t 0 0,.t 1 0,.t 2 0,.t 3 1,.t 5 0,.t 6 0,.t 7 0,.t 8 0,.t 9 1,.c 4 [],.c 10 [],.t 11 0] []) .d)) .d))))) .d))))) [.tmp 2] 59 0 (fun d=>m_chrows N d.1) Tryz.func59 rfl rfl Tryz.ntmps59 rfl rfl rfl (fun d=>by kernel_rfl)
def m_stloads_L3(N:Nat) (a1:(List Int)):Nat->Int->Option ((Unit)⊕((List Int)×Int)):=zc fun d3 rec3=>
  cond (decide (d3 < (a1.length:Int))) (gd ((ze d3 a1.length)&&(true)) <|
  cond (cond (decide ((a1.getD d3.toNat 0) < (1:Int))) true (decide ((3:Int) < (a1.getD d3.toNat 0)))) (some (.inr (([]:List Int),(1:Int)))) (gd ((zq (d3+(1:Int)))&&(true)) <|
  rec3 (d3+(1:Int)))) (some (.inl ()))
def m_stloads_L5(N:Nat) (r4:Int):Nat->(Int×(List Int))->Option ((List Int)):=zc fun d5 rec5=>
  cond (decide (d5.1 < ((List.replicate r4.toNat (0:Int)).length:Int))) (gd ((ze d5.1 d5.2.length)&&(((decide (d5.1.toNat < d5.2.length))&&(true))&&(true))) <|
  gd ((zq (d5.1+(1:Int)))&&(true)) <|
  rec5 ((d5.1+(1:Int)),(d5.2.set d5.1.toNat (1:Int)))) (some d5.2)
def m_stloads(N:Nat) (a0:zi) (a1:(List Int)):Option ((List Int)×Int):=
  Option.bind (xn N a0) fun r1=>
  cond (!(decide (r1=(0:Int)))) (some (([]:List Int),(1:Int))) (Option.bind (m_stneeds N a0) fun r2=>
  cond (!(decide ((a1.length:Int)=r2))) (some (([]:List Int),(5:Int))) (Option.bind (m_stloads_L3 N a1 N (0:Int)) fun(o3:(Unit)⊕((List Int)×Int))=>
  sm o3 (fun o3=>
  Option.bind (m_stmakes N a0) fun r4=>
  gd (((decide (0<=r4))&&(decide (r4<=r4))&&(zH 8 r4))&&(true)) <|
  Option.bind (m_stloads_L5 N r4 N ((0:Int),(List.replicate r4.toNat (0:Int)))) fun o5=>
  Option.bind (cond (decide (a0.1=(4:Int))) (some (decide (a0.1=(4:Int)))) (some (decide (a0.1=(5:Int))))) fun o6=>
  cond o6 (gd ((ze (0:Int) a1.length)&&((ze (1:Int) a1.length)&&((zq ((a1.getD (0:Int).toNat 0)+(a1.getD (1:Int).toNat 0)))&&(true)))) <|
  cond (decide ((4:Int) < ((a1.getD (0:Int).toNat 0)+(a1.getD (1:Int).toNat 0)))) (some (([]:List Int),(9:Int))) (some (o5,(0:Int)))) (cond (decide (a0.1=(6:Int))) (gd ((ze (0:Int) a1.length)&&(true)) <|
  cond (decide ((a1.getD (0:Int).toNat 0)=(3:Int))) (some (([]:List Int),(9:Int))) (gd ((ze (0:Int) a1.length)&&((zq ((a1.getD (0:Int).toNat 0)+(1:Int)))&&((ze (0:Int) o5.length)&&(((decide ((0:Int).toNat < o5.length))&&(true))&&(true))))) <|
  some ((o5.set (0:Int).toNat ((a1.getD (0:Int).toNat 0)+(1:Int))),(0:Int)))) (cond (decide (a0.1=(7:Int))) (gd ((ze (0:Int) a1.length)&&((ze (0:Int) o5.length)&&(((decide ((0:Int).toNat < o5.length))&&(true))&&(true)))) <|
  some ((o5.set (0:Int).toNat (a1.getD (0:Int).toNat 0)),(0:Int))) (some (o5,(0:Int)))))) (fun q=>some q)))
noncomputable def ct_stloads (N:Nat):CT cx:=zS N za (by kernel_rfl) [.dat zG,.c (.lst (.int .i64))] [] ⟨.tup [.c (.lst (.int .i64)),.c (.int .i64)],[],[]⟩ [ct_stcheck N,ct_stneeds N,ct_stmakes N] [] (.s (.r [.n 3,.w (.frzC 2 zG)]) (.s .d (.s .d (.s (.s .d (.b (.lxx 0 ⟨[(20,.a (.c (.int .i64)))],[],[1,2,18,19],[]⟩ ⟨[],[],[1,2],[]⟩ .d))) (.s .d (.s (.s .d (.b (.lx 2 ⟨[(8,.a (.c (.raw (.sl 33)))),(36,.a (.c (.int .i64)))],[(33,.row 3 (.int .i64))],[1,2,35],[]⟩ ⟨[(8,.a (.c (.raw (.sl 33))))],[(33,.row 3 (.int .i64))],[1,2],[]⟩ .d))) (.s (.s .d (.b (.j ⟨[(8,.a (.c (.raw (.sl 33)))),(45,.a (.c .bool))],[],[1,44],[33]⟩ .d (.c (.s (.o [] [.t 0 0,.t 1 0,.t 2 1,.t 3 0,.t 4 0,.t 5 1,.t 6 0,.t 7 0] []) .d) .d)))) (.s .d (.t [.frz 33]))))))))) [.tmp 4,.tmp 5] 60 ([],0) (fun d=>m_stloads N d.1 d.2.1) Tryz.func60 rfl rfl Tryz.ntmps60 rfl rfl rfl (fun d=>by kernel_rfl)
def m_chloads_L3(N:Nat) (r2:Int):Nat->(Int×(List Int))->Option ((List Int)):=zc fun d3 rec3=>
  cond (decide (d3.1 < ((List.replicate r2.toNat (0:Int)).length:Int))) (gd ((ze d3.1 d3.2.length)&&(((decide (d3.1.toNat < d3.2.length))&&(true))&&(true))) <|
  gd ((zq (d3.1+(1:Int)))&&(true)) <|
  rec3 ((d3.1+(1:Int)),(d3.2.set d3.1.toNat (1:Int)))) (some d3.2)
def m_chloads_L6(N:Nat) (a0:(List (List zi))) (v4_0:Int) (v4_1:List (List Int)):Nat->(List Int)×Int×(List Int)->Option (((List Int))⊕(Int×(List (List Int)))):=zc fun d6 rec6=>
  cond (decide (d6.2.1 < ((a0.getD v4_0.toNat []).length:Int))) (gd ((ze d6.2.1 (a0.getD v4_0.toNat []).length)&&(true)) <|
  Option.bind (m_stneeds N ((a0.getD v4_0.toNat []).getD d6.2.1.toNat zG.zero)) fun r7=>
  gd (((decide (0<=r7))&&(decide (r7<=(d6.1.length:Int))))&&(true)) <|
  Option.bind (m_stloads N ((a0.getD v4_0.toNat []).getD d6.2.1.toNat zG.zero) (d6.1.take r7.toNat)) fun r8=>
  cond (!(decide (r8.2=(0:Int)))) (some (.inr (r8.2,v4_1))) (gd (((decide (0<=r7))&&(decide (r7<=(d6.1.length:Int))))&&(true)) <|
  gd ((zV 8 (d6.2.2.length+r8.1.length))&&(true)) <|
  gd ((zq (d6.2.1+(1:Int)))&&(true)) <|
  rec6 ((d6.1.drop r7.toNat),(d6.2.1+(1:Int)),(d6.2.2++r8.1)))) (some (.inl d6.2.2))
def m_chloads_L4(N:Nat) (a0:(List (List zi))):Nat->(Int×(List (List Int)))->Option (Int×(List (List Int))):=zc fun d4 rec4=>
  cond (decide (d4.1 < (a0.length:Int))) (gd ((ze d4.1 a0.length)&&(true)) <|
  gd ((ze d4.1 d4.2.length)&&((decide (d4.1.toNat < d4.2.length))&&(true))) <|
  Option.bind (m_chmakes N (a0.getD d4.1.toNat [])) fun r5=>
  gd (((decide ((0:Int)<=r5))&&(zH 8 r5))&&(true)) <|
  Option.bind (m_chloads_L6 N a0 d4.1 d4.2 N ((d4.2.getD d4.1.toNat []),(0:Int),([]:List Int))) fun(o6:((List Int))⊕(Int×(List (List Int))))=>
  sm o6 (fun o6=>
  gd ((zV 24 (d4.2.length+[o6].length))&&(true)) <|
  gd ((zq (d4.1+(1:Int)))&&(true)) <|
  rec4 ((d4.1+(1:Int)),(d4.2++[o6]))) (fun q=>some q)) (some ((0:Int),d4.2))
def m_chloads(N:Nat) (a0:(List (List zi))):Option ((List (List Int))×Int):=
  Option.bind (m_chrows N a0) fun r1=>
  cond (!(decide (r1=(0:Int)))) (some (([]:List (List Int)),r1)) (gd ((ze (0:Int) a0.length)&&(true)) <|
  Option.bind (qZ N (a0.getD (0:Int).toNat [])) fun r2=>
  gd (((decide (0<=r2))&&(decide (r2<=r2))&&(zH 8 r2))&&(true)) <|
  Option.bind (m_chloads_L3 N r2 N ((0:Int),(List.replicate r2.toNat (0:Int)))) fun o3=>
  gd ((zq ((1:Int)+(a0.length:Int)))&&(((decide ((1:Int)<=((1:Int)+(a0.length:Int))))&&(zH 24 ((1:Int)+(a0.length:Int))))&&(true))) <|
  gd ((ze (0:Int) (List.replicate (1:Int).toNat ([]:(List Int))).length)&&(((decide ((0:Int).toNat < (List.replicate (1:Int).toNat ([]:(List Int))).length))&&(true))&&(true))) <|
  Option.bind (m_chloads_L4 N a0 N ((0:Int),((List.replicate (1:Int).toNat ([]:(List Int))).set (0:Int).toNat o3))) fun o4=>
  cond (!(decide (o4.1=(0:Int)))) (some (([]:List (List Int)),o4.1)) (some (o4.2,(0:Int))))
noncomputable def ct_chloads (N:Nat):CT cx:=zS N za (by kernel_rfl) [.dat (.sl (.sl zG))] [] ⟨.tup [.c (.lst (.sl (.int .i64))),.c (.int .i64)],[],[]⟩ [ct_chrows N,ct_chneeds N,ct_chmakes N,ct_stneeds N,ct_stloads N] [] (.s (.r [.n 3,.w (.frzC 1 (.sl (.sl zG)))]) (.b (.s .d (.s .d (.s (.s .d (.b (.lx 0 ⟨[(5,.a (.c (.raw (.sl 29)))),(32,.a (.c (.int .i64)))],[(29,.row 3 (.int .i64))],[1,31],[]⟩ ⟨[(5,.a (.c (.raw (.sl 29))))],[(29,.row 3 (.int .i64))],[1],[]⟩ .d))) (.s .d (.s (.r [.n 3,.w (.frz 29)]) (.s .d (.s .d (.s (.s .d (.b (.lx 2 ⟨[(7,.a (.c (.raw (.sl 43)))),(50,.a (.c (.int .i64)))],[(43,.row 132 (.sl (.int .i64)))],[8,48,49],[]⟩ ⟨[(7,.a (.c (.raw (.sl 43)))),(8,.a (.c (.int .i64)))],[(43,.row 132 (.sl (.int .i64)))],[],[]⟩ (.s .d (.s .d (.s (.b (.s .d (.s .d (.s .d (.s (.s .d (.b (.lxx 4 ⟨[(7,.a (.c (.raw (.sl 43)))),(11,.a (.c (.lst (.int .i64)))),(12,.a (.c (.raw (.sl 61)))),(64,.a (.c (.int .i64)))],[(61,.row 3 (.int .i64))],[8,48,49,50,62,63],[43]⟩ ⟨[(7,.a (.c (.raw (.sl 43)))),(12,.a (.c (.raw (.sl 61))))],[(61,.row 3 (.int .i64))],[8,48,49,50],[43]⟩ (.s .d (.s .d (.s (.b (.s (.r [.n 4,.w (.frzC 14 zG)]) (.s .d (.s (.o [] [.t 0 1,.t 1 0,.t 2 0,.t 3 0,.c 4 [],.m 5,.t 6 0,.t 7 0,.t 8 0,.t 9 0] []) .d)))) .d)))))) (.r [.n 2,.w (.frz 61)])))))) .d)))))) (.s .d (.s .d (.t [.frz 43]))))))))))))) [.tmp 2,.tmp 3] 25 ([],0) (fun d=>m_chloads N d.1) Tryz.func25 rfl rfl Tryz.ntmps25 rfl rfl rfl (fun d=>by kernel_rfl)
def m_chcheck(N:Nat) (a0:(List (List zi))):Option (Int):=
  Option.bind (m_chloads N a0) fun r1=>
  some r1.2
noncomputable def ct_chcheck (N:Nat):CT cx:=zS N za (by kernel_rfl) [.dat (.sl (.sl zG))] [] ⟨.a (.c (.int .i64)),[],[]⟩ [ct_chloads N] [] (.s (.r [.n 2,.w (.frzC 1 (.sl (.sl zG)))]) .d) [.tmp 2] 11 0 (fun d=>m_chcheck N d.1) Tryz.func11 rfl rfl Tryz.ntmps11 rfl rfl rfl (fun d=>by kernel_rfl)
def m_pplain_L3(N:Nat) (a0:(List (List zi))) (v2_0:Int):Nat->Int->Option ((Unit)⊕((Unit)⊕(Bool))):=zc fun d3 rec3=>
  cond (decide (d3 < ((a0.getD v2_0.toNat []).length:Int))) (gd ((ze d3 (a0.getD v2_0.toNat []).length)&&(true)) <|
  cond (cond (!(decide (((a0.getD v2_0.toNat []).getD d3.toNat zG.zero).1=(1:Int)))) (!(decide (((a0.getD v2_0.toNat []).getD d3.toNat zG.zero).1=(2:Int)))) false) (some (.inr (.inr false))) (gd ((zq (d3+(1:Int)))&&(true)) <|
  rec3 (d3+(1:Int)))) (some (.inl ()))
def m_pplain_L2(N:Nat) (a0:(List (List zi))):Nat->Int->Option ((Unit)⊕(Bool)):=zc fun d2 rec2=>
  cond (decide (d2 < (a0.length:Int))) (gd ((ze d2 a0.length)&&(true)) <|
  Option.bind (m_pplain_L3 N a0 d2 N (0:Int)) fun(o3:(Unit)⊕((Unit)⊕(Bool)))=>
  sm o3 (fun o3=>
  gd ((zq (d2+(1:Int)))&&(true)) <|
  rec2 (d2+(1:Int))) (fun q=>some q)) (some (.inl ()))
def m_pplain(N:Nat) (a0:(List (List zi))):Option (Bool):=
  Option.bind (m_chcheck N a0) fun r1=>
  cond (!(decide (r1=(0:Int)))) (some false) (Option.bind (m_pplain_L2 N a0 N (0:Int)) fun(o2:(Unit)⊕(Bool))=>
  sm o2 (fun o2=>
  some true) (fun q=>some q))
noncomputable def ct_pplain (N:Nat):CT cx:=zS N za (by kernel_rfl) [.dat (.sl (.sl zG))] [] ⟨.a (.c .bool),[],[]⟩ [ct_chcheck N] [] (.s (.r [.n 2,.w (.frzC 1 (.sl (.sl zG)))]) (.s .d (.s (.s .d (.b (.lxx 0 ⟨[(13,.a (.c (.int .i64)))],[],[11,12],[]⟩ ⟨[],[],[],[]⟩ (.s .d (.s .d (.s (.b (.s .d (.s .d (.b (.lxx 2 ⟨[(19,.a (.c (.int .i64)))],[],[11,12,13,17,18],[]⟩ ⟨[],[],[11,12,13],[]⟩ (.s .d (.s .d (.s (.b (.s (.r [.n 4,.w (.frzC 6 zG)]) .d)) .d)))))))) .d)))))) .d))) [.tmp 2] 12 false (fun d=>m_pplain N d.1) Tryz.func12 rfl rfl Tryz.ntmps12 rfl rfl rfl (fun d=>by kernel_rfl)
def m_ploop_L4(N:Nat) (a0:(List (List zi))) (a1:Int) (a2:Int):Nat->(Int×Int)->Option (Int):=zc fun d4 rec4=>
  cond (decide (d4.2 < ((a0.take a1.toNat).length:Int))) (gd ((ze d4.2 (a0.take a1.toNat).length)&&(true)) <|
  Option.bind (m_pcount N ((a0.take a1.toNat).getD d4.2.toNat []) ((a0.getD a1.toNat []).getD a2.toNat zG.zero).2.1) fun r5=>
  gd ((zq (d4.1+r5))&&(true)) <|
  gd ((zq (d4.2+(1:Int)))&&(true)) <|
  rec4 ((d4.1+r5),(d4.2+(1:Int)))) (some d4.1)
def m_ploop(N:Nat) (a0:(List (List zi))) (a1:Int) (a2:Int):Option (zb×Int):=
  Option.bind (m_pplain N a0) fun r1=>
  gd ((qn (!(cond (cond (cond (!r1) true (decide (a1 < (0:Int)))) true (decide ((a0.length:Int)<=a1))) true (decide (a2 < (0:Int))))) (ze a1 a0.length))&&(true)) <|
  cond (cond (cond (cond (cond (!r1) true (decide (a1 < (0:Int)))) true (decide ((a0.length:Int)<=a1))) true (decide (a2 < (0:Int)))) true (decide (((a0.getD a1.toNat []).length:Int)<=a2))) (some (((0:Int),(0:Int)),(1:Int))) (gd ((ze a1 a0.length)&&((ze a2 (a0.getD a1.toNat []).length)&&(true))) <|
  Option.bind (gd ((ze (0:Int) a0.length)&&(true)) <|
  Option.bind (m_chfirst N (a0.getD (0:Int).toNat [])) fun r3=>
  cond (decide (((a0.getD a1.toNat []).getD a2.toNat zG.zero).2.1=r3)) (gd ((ze (0:Int) a0.length)&&(true)) <|
  some ((a0.getD (0:Int).toNat []).length:Int)) (some (0:Int))) fun o2=>
  gd (((decide (0<=a1))&&(decide (a1<=(a0.length:Int))))&&(true)) <|
  Option.bind (m_ploop_L4 N a0 a1 a2 N (o2,(0:Int))) fun o4=>
  cond (decide ((Int.tmod a1 (2:Int))=(0:Int))) (gd ((ze a1 a0.length)&&((zq (a2+(1:Int)))&&(((decide (0<=(a2+(1:Int))))&&(decide ((a2+(1:Int))<=((a0.getD a1.toNat []).length:Int))))&&(true)))) <|
  Option.bind (m_pcount N ((a0.getD a1.toNat []).drop (a2+(1:Int)).toNat) ((a0.getD a1.toNat []).getD a2.toNat zG.zero).2.1) fun r6=>
  gd ((zq (o4+r6))&&(true)) <|
  some ((((a0.getD a1.toNat []).getD a2.toNat zG.zero).2.1,(o4+r6)),(0:Int))) (gd ((ze a1 a0.length)&&(((decide (0<=a2))&&(decide (a2<=((a0.getD a1.toNat []).length:Int))))&&(true))) <|
  Option.bind (m_pcount N ((a0.getD a1.toNat []).take a2.toNat) ((a0.getD a1.toNat []).getD a2.toNat zG.zero).2.1) fun r7=>
  gd ((zq (o4+r7))&&(true)) <|
  some ((((a0.getD a1.toNat []).getD a2.toNat zG.zero).2.1,(o4+r7)),(0:Int))))
noncomputable def ct_ploop (N:Nat):CT cx:=zS N za (by kernel_rfl) [.dat (.sl (.sl zG)),.c (.int .i64),.c (.int .i64)] [] ⟨.tup [.dat zo,.c (.int .i64)],[],[]⟩ [ct_pplain N,ct_chfirst N,ct_pcount N] [] (.s (.r [.n 3,.w (.frzC 3 (.sl (.sl zG)))]) (.s .d (.s .d (.s .d (.j ⟨[(6,.a (.c (.raw (.ptr 6 0)))),(9,.a (.c (.int .i64)))],[],[1,2,3,8],[6]⟩ .d (.s (.s .d (.b (.lx 0 ⟨[(6,.a (.c (.raw (.ptr 6 0)))),(9,.a (.c (.int .i64))),(67,.a (.c (.int .i64)))],[],[1,2,3,8,65,66],[6]⟩ ⟨[(6,.a (.c (.raw (.ptr 6 0)))),(9,.a (.c (.int .i64)))],[],[1,2,3,8],[6]⟩ .d))) .d)))))) [.cell 6 30,.tmp 7] 7 (zo.zero,0) (fun d=>m_ploop N d.1 d.2.1 d.2.2.1) Tryz.func7 rfl rfl Tryz.ntmps7 rfl rfl rfl (fun d=>by kernel_rfl)
end

section
set_option linter.unusedSimpArgs false
set_option linter.unusedVariables false
open Go.RowKit
def m_cof39_L7(N:Nat) (a0:Kt3):Nat->(Int×Int×(List zi))->Option (Int×(List zi)):=zc fun d7 rec7=>
  gd ((zq (Int.tmod a0.1 (8:Int)))&&((zq ((1:Int)+(Int.tmod a0.1 (8:Int))))&&(true))) <|
  cond (decide (d7.2.1 < ((1:Int)+(Int.tmod a0.1 (8:Int))))) (cond (decide ((0:Int) < (a0.2.2.length:Int))) (gd ((decide ((a0.2.2.length:Int)≠0))&&((ze (Int.tmod d7.1 (a0.2.2.length:Int)) a0.2.2.length)&&(true))) <|
  Option.bind (cond (decide ((Int.tmod (a0.2.2.getD (Int.tmod d7.1 (a0.2.2.length:Int)).toNat 0) (2:Int))=(1:Int))) (some ((2:Int),(IntKind.wrap .u8 ((1:Int)+(Int.tmod (IntKind.wrap .u8 (Int.tdiv (a0.2.2.getD (Int.tmod d7.1 (a0.2.2.length:Int)).toNat 0) (2:Int))) (4:Int)))),(0:Int),(0:Int),false)) (some ((1:Int),(IntKind.wrap .u8 ((1:Int)+(Int.tmod (IntKind.wrap .u8 (Int.tdiv (a0.2.2.getD (Int.tmod d7.1 (a0.2.2.length:Int)).toNat 0) (2:Int))) (4:Int)))),(0:Int),(0:Int),false))) fun o8=>
  gd ((zq (d7.1+(1:Int)))&&(true)) <|
  gd ((zV 32 (d7.2.2.length+[o8].length))&&(true)) <|
  gd ((zq (d7.2.1+(1:Int)))&&(true)) <|
  rec7 ((d7.1+(1:Int)),(d7.2.1+(1:Int)),(d7.2.2++[o8]))) (gd ((zV 32 (d7.2.2.length+[((1:Int),((1:Int),((0:Int),((0:Int),false))))].length))&&(true)) <|
  gd ((zq (d7.2.1+(1:Int)))&&(true)) <|
  rec7 (d7.1,(d7.2.1+(1:Int)),(d7.2.2++[((1:Int),((1:Int),((0:Int),((0:Int),false))))])))) (some (d7.1,d7.2.2))
def m_cof39_L6(N:Nat) (a0:Kt3):Nat->(Int×Int×(List (List zi)))->Option ((List (List zi))):=zc fun d6 rec6=>
  gd ((zq (Int.tmod a0.2.1 (5:Int)))&&((zq ((2:Int) * (Int.tmod a0.2.1 (5:Int))))&&((zq ((1:Int)+((2:Int) * (Int.tmod a0.2.1 (5:Int)))))&&(true)))) <|
  cond (decide (d6.2.1 < ((1:Int)+((2:Int) * (Int.tmod a0.2.1 (5:Int)))))) (Option.bind (m_cof39_L7 N a0 N (d6.1,(0:Int),([]:List zi))) fun o7=>
  gd ((zV 24 (d6.2.2.length+[o7.2].length))&&(true)) <|
  gd ((zq (d6.2.1+(1:Int)))&&(true)) <|
  rec6 (o7.1,(d6.2.1+(1:Int)),(d6.2.2++[o7.2]))) (some d6.2.2)
def m_cof39(N:Nat) (a0:Kt3):Option ((List (List zi))):=
  Option.bind (m_cof39_L6 N a0 N ((0:Int),(0:Int),([]:List (List zi)))) fun o6=>
  some o6
noncomputable def ct_cof39 (N:Nat):CT cx:=zS N za (by kernel_rfl) [.dat kd3] [] ⟨.a (.dat (.sl (.sl zG))),[],[]⟩ [] [] (.s (.r [.n 2,.w (.frzC 1 kd3)]) (.s .d (.s .d (.s (.s (.r [.n 1,.w (.nilC 3 0 12 34 (.sl zG))]) (.b (.lx 0 ⟨[(2,.a (.c (.raw (.ptr 2 0)))),(3,.a (.c (.raw (.ptr 3 0)))),(4,.a (.c (.int .i64))),(5,.a (.c (.int .i64)))],[(2,.cells 27 [.raw (.val (.slice none 0 0))]),(3,.cells 27 [.raw (.sl 12)]),(12,.row 34 (.sl zG))],[1],[]⟩ ⟨[(2,.a (.c (.raw (.ptr 2 0)))),(3,.a (.c (.raw (.ptr 3 0))))],[(2,.cells 27 [.raw (.val (.slice none 0 0))]),(3,.cells 27 [.raw (.sl 12)]),(12,.row 34 (.sl zG))],[],[]⟩ (.s .d (.s (.b (.s (.r [.n 1,.w (.nil 6 6 46 zG)]) (.s (.s .d (.b (.lx 2 ⟨[(2,.a (.c (.raw (.ptr 2 0)))),(3,.a (.c (.raw (.ptr 3 0)))),(4,.a (.c (.int .i64))),(6,.a (.c (.raw (.sl 6)))),(7,.a (.c (.int .i64)))],[(2,.cells 27 [.raw (.val (.slice none 0 0))]),(3,.cells 27 [.raw (.sl 12)]),(6,.row 46 zG)],[1,5],[12]⟩ ⟨[(2,.a (.c (.raw (.ptr 2 0)))),(3,.a (.c (.raw (.ptr 3 0)))),(4,.a (.c (.int .i64))),(6,.a (.c (.raw (.sl 6))))],[(2,.cells 27 [.raw (.val (.slice none 0 0))]),(3,.cells 27 [.raw (.sl 12)]),(6,.row 46 zG)],[1,5],[12]⟩ (.s .d (.s (.b (.s .d (.s (.s .d (.c (.s (.o [] [.t 0 0,.t 1 1,.t 2 0,.t 3 0,.t 4 1,.t 5 0,.t 6 0,.t 7 0,.t 8 1,.t 9 0] []) (.s .d (.j ⟨[(2,.a (.c (.raw (.ptr 2 0)))),(3,.a (.c (.raw (.ptr 3 0)))),(6,.a (.c (.raw (.sl 6)))),(8,.a (.c (.raw (.ptr 8 0))))],[(3,.cells 27 [.raw (.sl 12)]),(8,.cells 46 [.int .u8,.int .u8,.int .i64,.int .i64,.bool])],[1,4,5,7],[2,6,12]⟩ .d .d))) .d)) .d))) .d))))) (.r [.n 3,.w (.frz 6)])))) .d))))) (.s .d (.t [.frz 12])))))) [.cell 2 27] 6 [] (fun d=>m_cof39 N d.1) Tryz.func6 rfl rfl Tryz.ntmps6 rfl rfl rfl (fun d=>by kernel_rfl)
end

section
set_option linter.unusedSimpArgs false
set_option linter.unusedVariables false
open Go.RowKit
def m_bwdI_L1(N:Nat) (b:Bool) (a0:(List (List zi))):Nat->Int->Option ((List (Int×(List zi)×Unit))):=zc fun d1 rec1=>
  cond (decide ((0:Int)<=d1)) (gd ((ze d1 a0.length)&&(true)) <|
  handM b (d1,(a0.getD d1.toNat []),()) (some [])
  (gd ((zq (d1 - (1:Int)))&&(true)) <|
  rec1 (d1 - (1:Int)))) (some [])
def m_bwdI(N:Nat) (b:Bool) (a0:(List (List zi))):Option (List (Int×(List zi)×Unit)):=
  gd ((zq ((a0.length:Int) - (1:Int)))&&(true)) <|
  m_bwdI_L1 N b a0 N ((a0.length:Int) - (1:Int))
noncomputable def it_bwdI (N:Nat):IT cx:=itE N za (by kernel_rfl) [.fz (.sl (.sl zG))] [.c (.int .i64),.c (.lst zG)] [] [] (.s .d (.b (.l ⟨[(3,.a (.c (.int .i64)))],[],[0,1],[]⟩ (.s .d (.s (.b (.s (.r [.n 6,.y]) .d)) .d))))) 61 (fun b d=>m_bwdI N b d.1) Tryz.func61 rfl rfl Tryz.ntmps61 (fun _=>rfl) rfl rfl (fun _=>rfl) (fun id d=>by kernel_rfl)
def m_bwd(N:Nat) (a0:(List (List zi))):Option ((List (List zi))):=
  some a0
noncomputable def ct_bwd (N:Nat):CT cx:=zS N za (by kernel_rfl) [.c (.lst (.sl zG))] [] ⟨.a (.c (.fn 61 [.fz (.sl (.sl zG))])),[],[]⟩ [] [] (.s (.r [.n 2,.w (.frzC 1 (.sl (.sl zG)))]) .d) [.tmp 2] 26 [] (fun d=>m_bwd N d.1) Tryz.func26 rfl rfl Tryz.ntmps26 rfl rfl rfl (fun d=>by kernel_rfl)
end
end Go.Proofs.YtldjgdggcodgeaaGreat
