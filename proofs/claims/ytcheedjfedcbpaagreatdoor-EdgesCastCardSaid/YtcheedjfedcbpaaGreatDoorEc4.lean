import Derived.Test.YtcheedjfedcbpaaGreatDoorEc3
import Derived.Shelf.Strings.Builder1
set_option linter.unusedSimpArgs false
set_option linter.unusedVariables false
set_option maxRecDepth 100000
namespace Go.Proofs.YtcheedjfedcbpaaGreatDoor
open Go.RowKit
section
inductive pB where
  | t (i m:Nat)
  | m (i:Nat)
  | s (i:Nat)
  | k (i:Nat)
  | e (i:Nat)
  | q (i:Nat)
  | u (i:Nat) (m:n2)
  | v (i:Nat)
  | w (i p e:Nat)
  | c (i:Nat) (ps:ee)
  | g (i:Nat)
  | z (id:Nat)
  | f
def pC:List pB->Nat
  | []=>0
  | .z _ :: r=>pC r
  | .f :: r=>pC r
  | .v _ :: r=>pC r+3
  | .w _ _ _ :: r=>pC r+3+1+1
  | _ :: r=>pC r+1
def yu(jS:Bool) (m:Nat) (H:bo):bo:=match m with
  | 1=>[]
  | 3=>match jS with
    | true=>H
    | false=>mI H
  | _=>H
def vK(jS:Bool) (m:Nat) (H:List bd):List bd:=match m with
  | 1=>[]
  | 3=>H.filter (oz jS)
  | _=>H
theorem vL{jS:Bool} {m:Nat} {env:Nat->Loc} {B:Nat->Prop} {w:World} {l:bo} {H:List bd} (h:bp env B w l H):bp env B w (yu jS m l) (vK jS m H)/\(vK jS m H).Sublist H:=by
  unfold yu vK
  split
  · exact⟨rfl,List.nil_sublist _⟩
  · cases jS with
    | true=>exact⟨by
        have e:H.filter (oz true)=H:=List.filter_eq_self.2 fun _ _=>rfl
        show bp env B w l (H.filter (oz true));rw[e]; exact h,List.filter_sublist⟩
    | false=>exact⟨h.gv,List.filter_sublist⟩
  · exact⟨h,List.Sublist.refl _⟩
def Gx(X:bl) (st:aK):Op->Option (Bool×bf)
  | .load t x=>match X.tt.find t,bj X st.L x with
    | some bg,some (g1,.c (.eg id 1 i 0))=>match jq bg.bh.desc,aS st.H id with
      | false,some (.b0 _ _ g l _ none)=>some (g1&&(decide (i < l.length)&&!(l.getD i (false,[])).1),.c (.a1 g (l.getD i (false,[])).2 none))
      | _,_=>none
    | _,_=>none
  | _=>none
def vM(X:bl) (n:Nat) (st:aK) (aU bD b9:Oper):Option (Bool×aK×List Nat):=match aU,bD,b9 with
  | ⟨some d1,.mapEntry t u x,_,_,_,none⟩,⟨some d2,.extract (.tmp s1) 1,_,_,_,none⟩,⟨none,.entryStore t3 tx (.tmp s2) y,_,_,_,none⟩=>match Nat.blt d1 n&&(Nat.blt d2 n&&(Nat.beq s1 d1&&(Nat.beq s2 d2&&Nat.beq t3 t))),X.tt.find t,bj X st.L u,bj X st.L x with
    | true,some ⟨⟨.map e6 ft,_,_,_⟩,_⟩,some (true,.c (.cr id)),some (g,fa)=>match aS st.H id,X.tt.find ft,bj X ((d2,bZ.a (.c .dead)) :: (d1,bZ.a (.c .dead)) :: st.L) tx,bj X ((d2,bZ.a (.c .dead)) :: (d1,bZ.a (.c .dead)) :: st.L) y with
      | some (.mp gk a8 l _),some _,some (true,.c (.cr aaM)),some (g2,dv)=>match dec gk fa.cells,dec a8 dv.cells,Nat.beq aaM id&&(vD X e6 gk&&(jU gk fa&&jU a8 dv))with
        | some (c,z,[]),some (cz,eB,[]),true=>some (g&&(c&&(g2&&cz)),⟨(d2,.a (.c .dead)) :: (d1,.a (.c .dead)) :: st.L,ek id (.mp gk a8 (eU gk a8 l z eB) none) st.H⟩,[d2,d1,id])
        | _,_,_=>none
      | _,_,_,_=>none
    | _,_,_,_=>none
  | _,_,_=>none
theorem aaN{X:bl} {n:Nat} {st st':aK} {aU bD b9:Oper} {c:Bool} {V:List Nat} (av:X.tt.ok X.P) (h:vM X n st aU bD b9=some (c,st',V)) (aa:c=true) {ops:Array Oper}
    {R:Nat->Prop} {W:World} {aD:e5} {ks:List Nat} {env:Nat->Loc} {B:Nat->Prop} {ak:World} {H:List bd} {a:Act} {w:World} (ad:bB X R W aD n ks env B ak H st a w) {G:World->Prop} (cb:∀ b7,da (fun k=>R k\/B k) ak b7->G b7) {KK:Act->World->Prop}
    (rY:∀ aQ w' H',bB X R W aD n ks env B ak H' st' aQ w'->KK aQ w') :
    e3 X.P ops aU (fun aj b7=>G b7/\e3 X.P ops bD (fun a2 hC=>G hC/\e3 X.P ops b9 (fun a3 lL=>G lL/\KK a3 lL) a2 hC) aj b7) a w:=by
  unfold vM at h
  split at h
  · rename_i d1 t u x _ _ _ d2 s1 _ _ _ t3 tx s2 y _ _ _
    split at h
    · rename_i ai aZ hu ao
      simp only[Bool.and_eq_true]at ai;obtain⟨lC,kg,aC,a7,cC⟩:=ai;have aC:=Nat.eq_of_beq_eq_true aC;have a7:=Nat.eq_of_beq_eq_true a7;have cC:=Nat.eq_of_beq_eq_true cC;subst aC;subst a7;subst cC
      split at h
      · rename_i ag he td aV
        split at h
        · rename_i j3 nr ab
          simp only[Bool.and_eq_true]at ab;obtain⟨gN,iu,j5,rP⟩:=ab;have gN:=Nat.eq_of_beq_eq_true gN;subst gN;cases h;simp only[Bool.and_eq_true]at aa;obtain⟨v0,dF,_⟩:=NB av (yd av iu) aZ rfl he ag ad;exact NC av (yd av iu) rfl ⟨rfl,rfl⟩ lC rfl ⟨rfl,rfl⟩ kg rfl ⟨rfl,rfl⟩ aZ rfl he hu ao aa.1 j3 aa.2.1 j5 ag td aV aa.2.2.1 nr aa.2.2.2 rP ad dF (fun b7 h _=>cb b7 h) cb rY
        · cases h
      · cases h
    · cases h
  · cases h
theorem aaO{X:bl} {n:Nat} {st st':aK} {aU bD b9:Oper} {c:Bool} {V:List Nat} (h:vM X n st aU bD b9=some (c,st',V)):cO V st st':=by
  unfold vM at h
  split at h
  · split at h
    · split at h
      · split at h
        · cases h
          exact⟨(bS.cons (bS.cons (V:=[]) (bS.refl _))).more fun q au=>by
            obtain⟨J,au⟩:=fb au;obtain⟨U,au⟩:=fb au;unfold eI
            split
            · rename_i e; exact absurd (Nat.eq_of_beq_eq_true e).symm J
            · unfold eI
              split
              · rename_i e; exact absurd (Nat.eq_of_beq_eq_true e).symm U
              · rfl,(iw (V:=[_]) (h3 _ _)).more fun q au=>(fb (fb au).2).2⟩
        · cases h
      · cases h
    · cases h
  · cases h
def yv(X:bl) (n:Nat) (st:aK) (j6 iZ aU bD b9:Oper):Option (Bool×aK×List Nat):=match j6,iZ.guard,iZ.dst,aU,bD,b9 with
  | ⟨some d,.lookup t (.tmp kq) (.tmp fa) false,_,_,_,none⟩,none,some iK,⟨some d1,.mapEntry t1 (.tmp NK) (.tmp NL),_,_,_,none⟩,⟨some d2,.extract (.tmp s1) 1,_,_,_,none⟩,⟨none,.entryStore t3 (.tmp NM) (.tmp s2) y,_,_,_,none⟩=>
    match (Nat.blt d n&&(Nat.blt iK n&&(Nat.blt d1 n&&Nat.blt d2 n)))&&((Nat.beq NK kq&&(Nat.beq NL fa&&(Nat.beq NM kq&&(Nat.beq s1 d1&&(Nat.beq s2 d2&&(Nat.beq t1 t&&Nat.beq t3 t))))))&&((!Nat.beq kq d&&(!Nat.beq kq iK&&(!Nat.beq kq d1&&(!Nat.beq kq d2&&(!Nat.beq fa d&&!Nat.beq fa iK)))))&&(xx iZ.op&&!o8 iZ.op))),X.tt.find t,bj X st.L (.tmp kq),bj X st.L (.tmp fa)with
    | true,some ⟨⟨.map e6 ft,_,_,_⟩,_⟩,some (true,.c (.cr id)),some (g,nt)=>match aS st.H id,X.tt.find ft with
      | some (.mp gk a8 l _),some dA=>match dec gk nt.cells,vD X e6 gk&&(jU gk nt&&ye a8 dA.bh.zero)with
        | some (c,z,[]),true=>match np a8 ((df gk a8 l z).getD a8.zero)with
          | some bm=>match sB X ⟨(d,.a bm) :: st.L,st.H⟩ iZ.op with
            | some (q7,sp)=>match bj X ((d2,bZ.a (.c .dead)) :: (d1,bZ.a (.c .dead)) :: (iK,.a sp) :: (d,.a bm) :: st.L) y with
              | some (g2,dv)=>match dec a8 dv.cells,jU a8 dv with
                | some (cz,eB,[]),true=>some (g&&(c&&(q7&&(g2&&cz))),⟨(d2,.a (.c .dead)) :: (d1,.a (.c .dead)) :: (iK,.a sp) :: (d,.a bm) :: st.L,ek id (.mp gk a8 (eU gk a8 l z eB) none) st.H⟩,[d2,d1,iK,d,id])
                | _,_=>none
              | none=>none
            | none=>none
          | none=>none
        | _,_=>none
      | _,_=>none
    | _,_,_,_=>none
  | _,_,_,_,_,_=>none
def Gy(ops:Array Oper) (E:List Nat) (listed:Array Bool) (i p e:Nat):Bool:=
  (rz ops E listed i&&rz ops E (listed.setIfInBounds i true) p&&((ya ops i).all fun j=>!listed.getD j true&&u0 ops i (ya ops i) j) &&
    (List.range ops.size).all fun j=>j == i || listed.getD j true || j == e || j == e+1 || (ya ops i).elem j) &&
  (((Region.ready .any ops ((listed.setIfInBounds i true).setIfInBounds p true) == [e])&&(Region.ready .any ops (((listed.setIfInBounds i true).setIfInBounds p true).setIfInBounds e true) == [e+1])&&(Region.ready .any ops ((((listed.setIfInBounds i true).setIfInBounds p true).setIfInBounds e true).setIfInBounds (e+1) true) == [e+2])) &&
   (!E.elem i&&!E.elem p&&!E.elem e&&!E.elem (e+1)&&!E.elem (e+2))&&(!Nat.beq p e&&!Nat.beq p (e+1)&&Nat.blt (e+1) listed.size))
def yw(ops:Array Oper) (E:List Nat) (i m:Nat) (aG:hD):Bool:=match m with
  | 0=>rz ops E aG.listed i&&AE ops E aG.listed aG.pre i&&u1 (fun o=>xx o&&!o8 o) ops i
  | 1=>rz ops E aG.listed i&&AE ops E aG.listed aG.pre i&&u1 xx ops i&&aG.jR
  | 3=>rz ops E aG.listed i&&xy ops E (ya ops i) aG.listed i&&u1 xx ops i&&aG.early&&aG.pre
  | _=>false
def hD.next(aG:hD) (i:Nat):hD:=⟨aG.listed.setIfInBounds i true,aG.early,aG.pre,aG.jR,aG.all⟩
section
variable {X:bl} {ba:Type}
def e7(X:bl) (n:Nat) (T:List (bu X)) (ops:List Oper) (E:List Nat):List pB->hD->fh->List Nat->List Bool->aK->(hD->fh->List Nat->List Bool->aK->Option ba)->Option ba
  | [],aG,G,V,A,st,k=>k aG G V A st
  | .t i m :: r,aG,G,V,A,st,k=>match nth ops i,yw ops.toArray E i m aG with
    | some o,true=>match o.guard,o.dst with
      | none,some d=>match rT X (ed ops) [] G ⟨st.L,yu aG.all m st.H⟩ o.op,Nat.blt d n with
        | some (c,bm),true=>e7 X n T ops E r (aG.next i) (iY (ed ops) d G) (d :: V) (c :: A) ⟨(d,.a bm) :: st.L,st.H⟩ k
        | _,_=>none
      | some (j,want),some d=>match nth (ed ops) j with
        | some (some s)=>match ix st.L s want with
          | some g=>match rT X (ed ops) (l9 (ed ops) G 8 j want) G ⟨st.L,yu aG.all m st.H⟩ o.op,Nat.blt d n,Nat.beq s d with
            | some (c,bm),true,false=>e7 X n T ops E r (aG.next i) ((d,j,want) :: iY (ed ops) d G) (d :: V) (dC g c :: A) ⟨(d,.may g bm) :: st.L,st.H⟩ k
            | _,_,_=>none
          | none=>none
        | _=>none
      | _,none=>none
    | _,_=>none
  | .m i :: r,aG,G,V,A,st,k=>match nth ops i,yw ops.toArray E i 0 aG with
    | some o,true=>match o.guard,o.dst,Ak st.L o.op with
      | none,some d,some xs=>match Nat.blt d n with
        | true=>e7 X n T ops E r (aG.next i) (iY (ed ops) d G) (d :: V) A ⟨(d,.cW xs) :: st.L,st.H⟩ k
        | false=>none
      | _,_,_=>none
    | _,_=>none
  | .s i :: r,aG,_,V,A,st,k=>match nth ops i,Region.ready .any ops.toArray aG.listed == [i],fz E aG.listed i with
    | some o,true,false=>match o.guard with
      | none=>match tn X n st o with
        | some (c,st',W)=>e7 X n T ops E r ⟨aG.listed.setIfInBounds i true,false,false,aG.jR,aG.all⟩ [] (W++V) (c :: A) st' k
        | none=>match ni X n (ed ops) st o with
          | .ok c st'=>e7 X n T ops E r ⟨aG.listed.setIfInBounds i true,false,false,aG.jR,aG.all⟩ [] (tl X st.L o++V) (c :: A) st' k
          | .stop=>none
      | some _=>none
    | _,_,_=>none
  | .k i :: r,aG,_,V,A,st,k=>match nth ops i,Region.ready .any ops.toArray aG.listed == [i],aG.pre with
    | some o,true,true=>match o.guard with
      | none=>match o.dst,vu X st o.op with
        | some d,some (c,bm)=>match Nat.blt d n with
          | true=>e7 X n T ops E r ⟨aG.listed.setIfInBounds i true,false,true,false,aG.all⟩ [] (d :: V) (c :: A) ⟨(d,.a bm) :: st.L,st.H⟩ k
          | false=>none
        | _,none=>match cond aG.all (uP o.op&&re o st.H) (Ad o.op&&pb o st.H),ni X n (ed ops) st o with
          | true,.ok c st'=>e7 X n T ops E r ⟨aG.listed.setIfInBounds i true,false,true,aG.jR,aG.all⟩ [] (tl X st.L o++V) (c :: A) st' k
          | _,_=>none
        | none,some _=>none
      | some _=>none
    | _,_,_=>none
  | .q i :: r,aG,G,V,A,st,k=>match nth ops i,yw ops.toArray E i 3 aG with
    | some o,true=>match o.guard,o.dst,Gx X ⟨st.L,yu aG.all 3 st.H⟩ o.op with
      | none,some d,some (c,bm)=>match Nat.blt d n with
        | true=>e7 X n T ops E r (aG.next i) (iY (ed ops) d G) (d :: V) (c :: A) ⟨(d,.a bm) :: st.L,st.H⟩ k
        | false=>none
      | _,_,_=>none
    | _,_=>none
  | .u i m :: r,aG,_,V,A,st,k=>match nth ops i,Region.ready .any ops.toArray aG.listed == [i],fz E aG.listed i with
    | some o,true,false=>match tr X n st m o with
      | some (c,st',W)=>e7 X n T ops E r ⟨aG.listed.setIfInBounds i true,false,false,aG.jR,aG.all⟩ [] (W++V) (c :: A) st' k
      | none=>none
    | _,_,_=>none
  | .v i :: r,aG,_,V,A,st,k=>match nth ops i,nth ops (i+1),nth ops (i+2),Region.ready .any ops.toArray aG.listed == [i]&&(Region.ready .any ops.toArray (aG.listed.setIfInBounds i true) == [i+1]&&Region.ready .any ops.toArray ((aG.listed.setIfInBounds i true).setIfInBounds (i+1) true) == [i+2]),fz E aG.listed i || (fz E (aG.listed.setIfInBounds i true) (i+1) || fz E ((aG.listed.setIfInBounds i true).setIfInBounds (i+1) true) (i+2))with
    | some aU,some bD,some b9,true,false=>match vM X n st aU bD b9 with
      | some (c,st',W)=>e7 X n T ops E r ⟨((aG.listed.setIfInBounds i true).setIfInBounds (i+1) true).setIfInBounds (i+2) true,false,false,aG.jR,aG.all⟩ [] (W++V) (c :: A) st' k
      | none=>none
    | _,_,_,_,_=>none
  | .w i p e :: r,aG,_,V,A,st,k=>match nth ops i,nth ops p,nth ops e,nth ops (e+1),nth ops (e+2),Gy ops.toArray E aG.listed i p e with
    | some j6,some iZ,some aU,some bD,some b9,true=>match yv X n st j6 iZ aU bD b9 with
      | some (c,st',W)=>e7 X n T ops E r ⟨((((aG.listed.setIfInBounds i true).setIfInBounds p true).setIfInBounds e true).setIfInBounds (e+1) true).setIfInBounds (e+2) true,false,false,aG.jR,aG.all⟩ [] (W++V) (c :: A) st' k
      | none=>none
    | _,_,_,_,_,_=>none
  | .e i :: r,aG,_,V,A,st,k=>match nth ops i,Region.ready .any ops.toArray aG.listed == [i],!fz E aG.listed i || aG.pre with
    | some o,true,true=>match o.guard,o.dst,Gr X st.L o.op with
      | none,some d,some (c,bm)=>match Nat.blt d n with
        | true=>e7 X n T ops E r ⟨aG.listed.setIfInBounds i true,false,aG.pre,false,aG.all⟩ [] (d :: V) (c :: A) ⟨(d,.a bm) :: st.L,st.H⟩ k
        | false=>none
      | _,_,_=>none
    | _,_,_=>none
  | .c i ps :: r,aG,_,V,A,st,k=>match nth ops i,Region.ready .any ops.toArray aG.listed == [i],!fz E aG.listed i || (aG.pre&&(oG st.H ps || (!aG.all&&vl st.H ps)))with
    | some o,true,true=>tu X n T ps V A st (fun eQ fo cj st'=>e7 X n T ops E r ⟨aG.listed.setIfInBounds i true,false,aG.pre&&(oG st.H ps || (!aG.all&&vl st.H ps)),false,aG.all⟩ eQ fo cj st' k) o
    | _,_,_=>none
  | .g i :: r,aG,G,V,A,st,k=>match nth ops i,Region.ready .any ops.toArray aG.listed == [i],fz E aG.listed i with
    | some o,true,false=>vF X n T (ed ops) G V A st (fun eQ fo cj st'=>e7 X n T ops E r ⟨aG.listed.setIfInBounds i true,false,false,false,aG.all⟩ eQ fo cj st' k) o
    | _,_,_=>none
  | .z id :: r,aG,_,V,A,st,k=>match c8 id st with
    | some st'=>e7 X n T ops E r ⟨aG.listed,false,aG.pre&&!aG.all,false,aG.all⟩ [] V A st' k
    | none=>none
  | .f :: r,aG,G,V,A,st,k=>match E.isEmpty || aG.pre with
    | true=>e7 X n T ops E r ⟨aG.listed,true,true,true,aG.all⟩ G V A st k
    | false=>none
variable {M:Bool} {n:Nat} {T:List (bu X)} {st0 st st':aK} {Q:Exit->aK->Prop} {ops:List Oper} {o:Oper} {r:ba} {V:List Nat} {A:List Bool} {E:List Nat} {aG:hD} {fuel i:Nat}
theorem hF{k:hD->fh->List Nat->List Bool->aK->Option ba} (eE:∀ aG G V A st,k aG G V A st=some r->∀ c∈A,c=true):∀ {is:List pB} {aG:hD} {G:fh} {V:List Nat} {A:List Bool} {st:aK},e7 X n T ops E is aG G V A st k=some r->∀ c∈A,c=true
  | [],aG,G,V,A,st,h=>by
    unfold e7 at h;exact eE _ _ _ _ _ h
  | .t i m :: is,aG,G,V,A,st,h=>by
    unfold e7 at h
    split at h
    · split at h
      · split at h
        · exact fun c aa=>hF eE h c (List.mem_cons_of_mem _ aa)
        · cases h
      · split at h
        · split at h
          · split at h
            · exact fun c aa=>hF eE h c (List.mem_cons_of_mem _ aa)
            · cases h
          · cases h
        · cases h
      · cases h
    · cases h
  | .m i :: is,aG,G,V,A,st,h=>by
    unfold e7 at h
    split at h
    · split at h
      · split at h
        · exact hF eE h
        · cases h
      · cases h
    · cases h
  | .s i :: is,aG,G,V,A,st,h=>by
    unfold e7 at h
    split at h
    · split at h
      · split at h
        · exact fun c aa=>hF eE h c (List.mem_cons_of_mem _ aa)
        · split at h
          · exact fun c aa=>hF eE h c (List.mem_cons_of_mem _ aa)
          · cases h
      · cases h
    · cases h
  | .k i :: is,aG,G,V,A,st,h=>by
    unfold e7 at h
    split at h
    · split at h
      · split at h
        · split at h
          · exact fun c aa=>hF eE h c (List.mem_cons_of_mem _ aa)
          · cases h
        · split at h
          · exact fun c aa=>hF eE h c (List.mem_cons_of_mem _ aa)
          · cases h
        · cases h
      · cases h
    · cases h
  | .q i :: is,aG,G,V,A,st,h=>by
    unfold e7 at h
    split at h
    · split at h
      · split at h
        · exact fun c aa=>hF eE h c (List.mem_cons_of_mem _ aa)
        · cases h
      · cases h
    · cases h
  | .u i m :: is,aG,G,V,A,st,h=>by
    unfold e7 at h
    split at h
    · split at h
      · exact fun c aa=>hF eE h c (List.mem_cons_of_mem _ aa)
      · cases h
    · cases h
  | .v i :: is,aG,G,V,A,st,h=>by
    unfold e7 at h
    split at h
    · split at h
      · exact fun c aa=>hF eE h c (List.mem_cons_of_mem _ aa)
      · cases h
    · cases h
  | .w i p e :: is,aG,G,V,A,st,h=>by
    unfold e7 at h
    split at h
    · split at h
      · exact fun c aa=>hF eE h c (List.mem_cons_of_mem _ aa)
      · cases h
    · cases h
  | .e i :: is,aG,G,V,A,st,h=>by
    unfold e7 at h
    split at h
    · split at h
      · split at h
        · exact fun c aa=>hF eE h c (List.mem_cons_of_mem _ aa)
        · cases h
      · cases h
    · cases h
  | .c i ps :: is,aG,G,V,A,st,h=>by
    unfold e7 at h
    split at h
    · exact(rW (cO.refl (V:=V) st) h).1
    · cases h
  | .g i :: is,aG,G,V,A,st,h=>by
    unfold e7 at h
    split at h
    · exact Nq h
    · cases h
  | .z id :: is,aG,G,V,A,st,h=>by
    unfold e7 at h
    split at h
    · exact hF eE h
    · cases h
  | .f :: is,aG,G,V,A,st,h=>by
    unfold e7 at h
    split at h
    · exact hF eE h
    · cases h
theorem NN(av:X.tt.ok X.P) {R:Nat->Prop} {W:World} {aD:e5} {ks:List Nat} {env:Nat->Loc} {B:Nat->Prop} {ak:World} {H C:List bd} {L:cJ} {rj h:bo} {a:Act} {w:World} {c:Bool} {G:fh} {ps:List (Nat×Bool)} {bm:bf} (ad:bB X R W aD n ks env B ak H ⟨L,rj⟩ a w) (cB:bp env B ak h C) (dt:C.Sublist H) (cb:ec (ed ops) G L) (ar:∀ p∈ps,ll (ed ops) L p) (al:rT X (ed ops) ps G ⟨L,h⟩ o.op=some (c,bm)) (aa:c=true) :
    ∃ v,dP env B ak bm v/\∀ w',(o8 o.op=true->bA (fun k=>R k\/B k) ak C w')->(execOp a.eval o).run X.P w'=.ok (.value v) w':=by
  have eV:bB X R W aD n [] env B ak C ⟨L,h⟩ { tmps:=a.tmps,defers:=aD.d } w:=⟨ad.size,rfl,ad.has,cB,ad.aJ.er (by simpa using dt.trans (List.sublist_append_left _ _)),ad.sub,ad.new,ad.dj,ad.base,ad.dT⟩
  obtain⟨v,J,U⟩:=M1 av eV cb ar al aa;refine⟨v,J,fun w' hw=>?_⟩
  have:=U w' (by simpa using hw)
  exact this
theorem aaP{R:Nat->Prop} {W:World} {aD:e5} {ks:List Nat} {env:Nat->Loc} {B:Nat->Prop} {ak:World} {H C:List bd} {L:cJ} {rj h:bo} {a:Act} {w:World} {bm:bf} (ad:bB X R W aD n ks env B ak H ⟨L,rj⟩ a w) (cB:bp env B ak h C) (dt:C.Sublist H) (ar:gU X ⟨L,h⟩ o bm) :
    ∃ v,dP env B ak bm v/\∀ w',(o8 o.op=true->bA (fun k=>R k\/B k) ak C w')->(execOp a.eval o).run X.P w'=.ok (.value v) w':=by
  have eV:bB X R W aD n [] env B ak C ⟨L,h⟩ { tmps:=a.tmps,defers:=aD.d } w:=⟨ad.size,rfl,ad.has,cB,ad.aJ.er (by simpa using dt.trans (List.sublist_append_left _ _)),ad.sub,ad.new,ad.dj,ad.base,ad.dT⟩
  obtain⟨v,J,U⟩:=ar eV;refine⟨v,J,fun w' hw=>?_⟩
  have:=U w' (by simpa using hw)
  exact this
theorem aaQ(av:X.tt.ok X.P) {c:Bool} {bm:bf} (h:Gx X st o.op=some (c,bm)) (aa:c=true):gU X st o bm:=by
  unfold Gx at h
  split at h
  · rename_i t x az
    split at h
    · rename_i bg g1 id i aZ ao
      split at h
      · rename_i T T' g l cap bq ag
        cases h;simp only[Bool.and_eq_true]at aa;exact Nd av az aZ bq ao aa.1 ag aa.2.1 aa.2.2
      · cases h
    · cases h
  · cases h
theorem yx(av:X.tt.ok X.P) {m d:Nat} {sv:bZ} {R:Nat->Prop} {W:World} {aD:e5} {dk:Nat->Prop} {dM:World} {cN:List bd} {F:World->Prop} {ks:List Nat} {env:Nat->Loc} {B:Nat->Prop} {ak:World} {H:List bd} {a:Act} {w:World} {u3:Exit->Act->World->Prop} (hi:nth ops i=some o) (aZ:yw ops.toArray E i m aG=true) (ef:o.dst=some d) (ax:Nat.blt d n=true)
    (ad:bB X R W aD n ks env B ak H st a w) (dL:la R aG dk dM cN F B ak H) (v:Value) (ir:ey env B ak sv v)
    (aV:∀ T:World->Prop,(∀ w',T w'->o8 o.op=true->bA (fun k=>R k\/B k) ak (vK aG.all m H) w')->YieldsIf X.P ops.toArray T o v a)
    (EN:∀ aQ,bB X R W aD n ks env B ak H ⟨(d,sv) :: st.L,st.H⟩ aQ w->la R (aG.next i) dk dM cN F B ak H->gJ X.P ops.toArray u3 (fun j l w=>(fz E l j=true->bA (fun k=>R k\/dk k) dM cN w)/\F w) fuel (aG.next i).listed aQ w) :
    gJ X.P ops.toArray u3 (fun j l w=>(fz E l j=true->bA (fun k=>R k\/dk k) dM cN w)/\F w) (fuel+1) aG.listed a w:=by
  have qg:=ld hi;have vN:F w:=dL.F ad;have aaR:=ad.set (sv:=sv) ir (show c9 n (jL ks aD) ((d,v) :: gi a) (a.put o.dst v) by rw[ef]; exact ad.bK.put d v (dB ax));have fX:la R (aG.next i) dk dM cN F B ak H:=⟨dL.early,dL.pre,dL.c8,dL.oA⟩
  have go:=EN _ aaR fX;unfold yw at aZ
  split at aZ
  · simp only[u1,qg,Bool.and_eq_true,Bool.not_eq_true']at aZ
    obtain⟨⟨q2,pk⟩,NO,aaS⟩:=aZ;obtain⟨qu,xM⟩:=Lx pk;exact EM (E.elem i) v qg q2 id qu (aV _ fun w' _ ag=>by rw[aaS]at ag; cases ag) (fun he=>dL.T (xM he) ad) vN go
  · simp only[u1,qg,Bool.and_eq_true]at aZ
    obtain⟨⟨⟨q2,pk⟩,NO⟩,oi⟩:=aZ;obtain⟨qu,xM⟩:=Lx pk;refine EM (E.elem i) v qg q2 id qu (aV _ fun w' nh _=>?_) (fun he=>dL.T (xM he) ad) vN go;have n6:=nh.2;rw[dL.c8 oi]at n6;refine⟨n6,fun k ab=>?_,(fun _ h=>by cases h),List.Pairwise.nil⟩;have ae:=ad.aJ.base k ab;have aw:=ad.aJ.below.block k ab;have aF:=n6.block k ab;rw[<- aw,Array.getElem?_eq_getElem ae]at aF;exact(Array.getElem?_eq_some_iff.1 aF).1
  · simp only[u1,qg,Bool.and_eq_true]at aZ
    obtain⟨⟨⟨⟨q2,sV⟩,NO⟩,aaT⟩,pD⟩:=aZ;refine EM true v qg q2 (fun _=>rfl) (fun _=>sV) (aV _ fun w' nh _=>?_) (fun _=>dL.T pD ad) vN go;have n6:=nh.1 rfl;obtain⟨aC,a7,cC⟩:=dL.early aaT;rw[aC,a7,cC]at n6;exact n6
  · cases aZ
theorem NP{H:bo} {ps:ee} {pre jS:Bool} (h:(pre&&(oG H ps || (!jS&&vl H ps)))=true):pre=true/\∀ c,oz jS c=true->tb H ps c=true:=by
  rw[Bool.and_eq_true,Bool.or_eq_true,Bool.and_eq_true]at h;refine⟨h.1,fun c aa=>?_⟩;unfold tb
  rcases h.2 with J | J
  · rw[J]; rfl
  · unfold oz at aa
    have U:jS=false:=by simpa using J.1
    rw[U,Bool.false_or]at aa;rw[aa,J.2]
    simp
theorem vO{pre':Bool} {kp:bd->Bool} (hi:nth ops i=some o) (ar:qq X n o kp st st') (aaU:pre'=true->aG.pre=true/\∀ c,oz aG.all c=true->kp c=true) (gn:(!fz E aG.listed i || pre')=true) (h:jg X M n ops E fuel ⟨aG.listed.setIfInBounds i true,false,pre',false,aG.all⟩ st' Q):pj X M n ops E fuel aG st Q i:=by
  intro R W aD dk dM cN F ks env B ak H a w b2 ad dL;refine⟨o,ld hi,ar R W aD ks env B ak H a w ad _ _ fun aQ w' env' B' cy H' bW gw jz kA=>?_⟩;have fX:la R ⟨aG.listed.setIfInBounds i true,false,pre',false,aG.all⟩ dk dM cN F B' cy H':=⟨fun h=>(by cases h),fun h=>by
    have aN:pre'=true:=h;obtain⟨aaV,aaW⟩:=aaU aN;obtain⟨g1,g2,g3,g4⟩:=dL.pre aaV;exact⟨fun c aa=>⟨kA c (g1 c aa).1 (aaW c (g1 c aa).2),(g1 c aa).2⟩,g2,fun k ab=>gw k (g3 k ab),g4.trans ⟨jz.os,jz.tape,jz.output,jz.size,fun k ab=>jz.block k (ab.imp id (g3 k))⟩⟩,fun h=>(by cases h),fun w hw=>dL.oA w (jz.trans ⟨hw.os,hw.tape,hw.output,hw.size,fun k ab=>hw.block k (ab.imp id (gw k))⟩)⟩
  refine⟨⟨fun cB=>fX.T ?_ bW,fX.F bW⟩,h R W aD dk dM cN F ks env' B' cy H' aQ w' b2 bW fX⟩;rw[cB]at gn;exact gn
theorem aaX(hi:nth ops i=some o) (ar:∀ (R:Nat->Prop) (W:World) (aD:e5) (ks:List Nat) (env:Nat->Loc) (B:Nat->Prop) (ak:World) (H:List bd) (a:Act) (w:World),bB X R W aD n ks env B ak H st a w->∀ (KK:Act->World->Prop),(∀ aQ w' env' B' cy H',bB X R W aD n ks env' B' cy H' st' aQ w'->(∀ k,B k->B' k)->da (fun k=>R k\/B k) ak cy->KK aQ w')->e3 X.P ops.toArray o KK a w) (gn:fz E aG.listed i=false) (h:jg X M n ops E fuel ⟨aG.listed.setIfInBounds i true,false,false,false,aG.all⟩ st' Q):pj X M n ops E fuel aG st Q i:=by
  intro R W aD dk dM cN F ks env B ak H a w b2 ad dL;refine⟨o,ld hi,ar R W aD ks env B ak H a w ad _ fun aQ w' env' B' cy H' bW gw jz=>?_⟩;have fX:la R ⟨aG.listed.setIfInBounds i true,false,false,false,aG.all⟩ dk dM cN F B' cy H':=⟨fun h=>(by cases h),fun h=>(by cases h),fun h=>(by cases h),fun w hw=>dL.oA w (jz.trans ⟨hw.os,hw.tape,hw.output,hw.size,fun k ab=>hw.block k (ab.imp id (gw k))⟩)⟩
  exact⟨⟨fun cB=>(by rw[gn]at cB; cases cB),fX.F bW⟩,h R W aD dk dM cN F ks env' B' cy H' aQ w' b2 bW fX⟩
theorem qD(aH:(Region.ready .any ops.toArray aG.listed == [i])=true) (h:pj X M n ops E fuel aG st Q i):jg X M n ops E (fuel+1) aG st Q:=EP (beq_iff_eq.1 aH) (u5 h EO)
theorem gU.NQ{bm:bf} {d:Nat} (ar:gU X st o bm) (bb:o.guard=none/\o.dst=some d) (ax:Nat.blt d n=true):qq X n o (fun _=>true) st ⟨(d,.a bm) :: st.L,st.H⟩:=by
  intro R W aD ks env B ak H a w ad KK l bT;obtain⟨v,J,U⟩:=ar ad;exact fT ad.bK bb.1 bb.2 (dB ax) (U w fun _=>ad.aJ) fun aQ aI=>bT aQ w env B ak H (ad.set (sv:=.a bm) J aI) (fun _ h=>h) (da.refl _ _) fun _ h _=>h
theorem aaY(av:X.tt.ok X.P) {aU bD b9:Oper} {c:Bool} {bN:List Nat} (J:nth ops i=some aU) (U:nth ops (i+1)=some bD) (ae:nth ops (i+2)=some b9)
    (aH:(Region.ready .any ops.toArray aG.listed == [i]&&(Region.ready .any ops.toArray (aG.listed.setIfInBounds i true) == [i+1]&&Region.ready .any ops.toArray ((aG.listed.setIfInBounds i true).setIfInBounds (i+1) true) == [i+2]))=true)
    (hm:(fz E aG.listed i || (fz E (aG.listed.setIfInBounds i true) (i+1) || fz E ((aG.listed.setIfInBounds i true).setIfInBounds (i+1) true) (i+2)))=false) (ao:vM X n st aU bD b9=some (c,st',bN)) (aa:c=true)
    (h:jg X M n ops E fuel ⟨((aG.listed.setIfInBounds i true).setIfInBounds (i+1) true).setIfInBounds (i+2) true,false,false,aG.jR,aG.all⟩ st' Q):jg X M n ops E (fuel+3) aG st Q:=by
  intro R W aD dk dM cN F ks env B ak H a w b2 ad dL;simp only[Bool.and_eq_true,beq_iff_eq]at aH;obtain⟨ay,aO,bs⟩:=aH;simp only[Bool.or_eq_false_iff]at hm;obtain⟨m1,m2,m3⟩:=hm;have mh:=aaN (ops:=ops.toArray) av ao aa ad (G:=F) (fun b7 ab=>dL.oA b7 ab) (KK:=fun aQ w'=>gJ X.P ops.toArray (fun e a w=>e=.normal/\∃ st',Q e st'/\kC X R W aD M n st' a w) (fun j l w=>(fz E l j=true->bA (fun k=>R k\/dk k) dM cN w)/\F w) fuel (((aG.listed.setIfInBounds i true).setIfInBounds (i+1) true).setIfInBounds (i+2) true) aQ w') (fun aQ w' H' bW=>h R W aD dk dM cN F ks env B ak H' aQ w' b2 bW dL.lost);refine⟨fun aP=>(by rw[ay]at aP; cases aP),fun k ab=>?_⟩;rw[ay]at ab;have oy:k=i:=by simpa using ab
  subst oy;refine⟨aU,ld J,mh.mono fun aj b7 ⟨g1,mh⟩=>⟨⟨fun cB=>(by rw[m1]at cB; cases cB),g1⟩,?_⟩⟩;refine⟨fun aP=>(by rw[aO]at aP; cases aP),fun eA j5=>?_⟩;rw[aO]at j5;have oy:eA=k+1:=by simpa using j5
  subst oy;refine⟨bD,ld U,mh.mono fun a2 hC ⟨g2,mh⟩=>⟨⟨fun cB=>(by rw[m2]at cB; cases cB),g2⟩,?_⟩⟩;refine⟨fun aP=>(by rw[bs]at aP; cases aP),fun lK rP=>?_⟩;rw[bs]at rP;have oy:lK=k+2:=by simpa using rP
  subst oy;exact⟨b9,ld ae,mh.mono fun a3 lL ⟨g3,mh⟩=>⟨⟨fun cB=>(by rw[m3]at cB; cases cB),g3⟩,mh⟩⟩
structure aaZ(X:bl) (n:Nat) (st:aK) (j6 iZ aU bD b9:Oper) (c:Bool) (st':aK) (W:List Nat) where
  d:Nat
  iK:Nat
  d1:Nat
  d2:Nat
  kq:Nat
  fa:Nat
  t:TypeId
  e6:TypeId
  ft:TypeId
  id:Nat
  bg:a6
  dA:a6
  gk:aR
  a8:aR
  l:List (gk.D×a8.D)
  iV:Option (List MapEntry×Nat)
  z:gk.D
  g:Bool
  NR:Bool
  q7:Bool
  g2:Bool
  cz:Bool
  nt:bf
  bm:bf
  sp:bf
  dv:bf
  eB:a8.D
  y:Operand
  aa0:j6.op=.lookup t (.tmp kq) (.tmp fa) false
  eF:j6.guard=none/\j6.dst=some d
  vP:iZ.guard=none/\iZ.dst=some iK
  Gs:aU.op=.mapEntry t (.tmp kq) (.tmp fa)
  J:aU.guard=none/\aU.dst=some d1
  Gt:bD.op=.extract (.tmp d1) 1
  U:bD.guard=none/\bD.dst=some d2
  Gu:b9.op=.entryStore t (.tmp kq) (.tmp d2) y
  ae:b9.guard=none/\b9.dst=none
  ax:Nat.blt d n=true
  aa1:Nat.blt iK n=true
  lC:Nat.blt d1 n=true
  kg:Nat.blt d2 n=true
  Bz:kq≠d/\kq≠iK/\kq≠d1/\kq≠d2
  NS:fa≠d/\fa≠iK
  pu:xx iZ.op=true/\o8 iZ.op=false
  aZ:X.tt.find t=some bg
  cK:bg.bh.desc=.map e6 ft
  he:X.tt.find ft=some dA
  hu:bj X st.L (.tmp kq)=some (true,.c (.cr id))
  ao:bj X st.L (.tmp fa)=some (g,nt)
  ag:aS st.H id=some (.mp gk a8 l iV)
  j3:dec gk nt.cells=some (NR,z,[])
  ab:vD X e6 gk=true
  NT:jU gk nt=true
  bP:ye a8 dA.bh.zero=true
  iI:np a8 ((df gk a8 l z).getD a8.zero)=some bm
  kX:sB X ⟨(d,.a bm) :: st.L,st.H⟩ iZ.op=some (q7,sp)
  aV:bj X ((d2,bZ.a (.c .dead)) :: (d1,bZ.a (.c .dead)) :: (iK,.a sp) :: (d,.a bm) :: st.L) y=some (g2,dv)
  nr:dec a8 dv.cells=some (cz,eB,[])
  aa2:jU a8 dv=true
  aa:c=(g&&(NR&&(q7&&(g2&&cz))))
  dZ:st'=⟨(d2,.a (.c .dead)) :: (d1,.a (.c .dead)) :: (iK,.a sp) :: (d,.a bm) :: st.L,ek id (.mp gk a8 (eU gk a8 l z eB) none) st.H⟩
  q6:W=[d2,d1,iK,d,id]
theorem NU{j6 iZ aU bD b9:Oper} {c:Bool} {bN:List Nat} (ao:yv X n st j6 iZ aU bD b9=some (c,st',bN)):Nonempty (aaZ X n st j6 iZ aU bD b9 c st' bN):=by
  unfold yv at ao
  split at ao
  · rename_i d t kq fa _ _ _ iK d1 t1 NK NL _ _ _ d2 s1 _ _ _ t3 NM s2 y _ _ _ hgP hdP
    split at ao
    · rename_i ai aZ hu aa3
      simp only[Bool.and_eq_true,Bool.not_eq_true']at ai;obtain⟨⟨sG,iP,yt,tC⟩,⟨dF,et,gp,hT,mD,vf,xI⟩,⟨A5,A6,aa4,aa5,aa6,aa7⟩,hY,hv⟩:=ai;have dF:=Nat.eq_of_beq_eq_true dF;have et:=Nat.eq_of_beq_eq_true et;have gp:=Nat.eq_of_beq_eq_true gp;have hT:=Nat.eq_of_beq_eq_true hT;have mD:=Nat.eq_of_beq_eq_true mD;have vf:=Nat.eq_of_beq_eq_true vf;have xI:=Nat.eq_of_beq_eq_true xI;subst dF; subst et; subst gp; subst hT; subst mD; subst vf; subst xI
      split at ao
      · rename_i ag he
        split at ao
        · rename_i j3 ab
          simp only[Bool.and_eq_true]at ab
          split at ao
          · rename_i iI
            split at ao
            · rename_i kX
              split at ao
              · rename_i aV
                split at ao
                · rename_i nr hshy
                  cases ao;exact⟨⟨d,iK,_,_,_,_,_,_,_,_,_,_,_,_,_,_,_,_,_,_,_,_,_,_,_,_,_,_,rfl,⟨rfl,rfl⟩,⟨hgP,hdP⟩,rfl,⟨rfl,rfl⟩,rfl,⟨rfl,rfl⟩,rfl,⟨rfl,rfl⟩,sG,iP,yt,tC,⟨Nat.ne_of_beq_eq_false A5,Nat.ne_of_beq_eq_false A6,Nat.ne_of_beq_eq_false aa4,Nat.ne_of_beq_eq_false aa5⟩,⟨Nat.ne_of_beq_eq_false aa6,Nat.ne_of_beq_eq_false aa7⟩,⟨hY,hv⟩,aZ,rfl,he,hu,aa3,ag,j3,ab.1,ab.2.1,ab.2.2,iI,kX,aV,nr,hshy,rfl,rfl,rfl⟩⟩
                · cases ao
              · cases ao
            · cases ao
          · cases ao
        · cases ao
      · cases ao
    · cases ao
  · cases ao
theorem aa8{j6 iZ aU bD b9:Oper} {c:Bool} {bN:List Nat} (ao:yv X n st j6 iZ aU bD b9=some (c,st',bN)):cO bN st st':=by
  obtain⟨I⟩:=NU ao;have key:∀ (s:aK) (V:List Nat),s=⟨(I.d2,.a (.c .dead)) :: (I.d1,.a (.c .dead)) :: (I.iK,.a I.sp) :: (I.d,.a I.bm) :: st.L,ek I.id (.mp I.gk I.a8 (eU I.gk I.a8 I.l I.z I.eB) none) st.H⟩->V=[I.d2,I.d1,I.iK,I.d,I.id]->cO V st s:=fun s V al ir=>by
    subst al;subst ir;exact⟨(bS.cons (bS.cons (bS.cons (bS.cons (V:=[I.id]) (bS.refl _))))),(iw (V:=[I.id]) (h3 _ _)).more fun q au=>(fb (fb (fb (fb au).2).2).2).2⟩
  exact key _ _ I.dZ I.q6
theorem gJ.NV{P:Program} {ops:Array Oper} {Q:Exit->Act->World->Prop} {S S':Nat->Array Bool->World->Prop} {e:Nat} (aI:∀ j l w,j≠e->j≠e+1->S j l w->S' j l w):∀ (fuel:Nat) (listed:Array Bool) (a:Act) (w:World),listed.getD e true=true->listed.getD (e+1) true=true->gJ P ops Q S fuel listed a w->gJ P ops Q S' fuel listed a w
  | 0,_,_,_,_,_,h=>h
  | fuel+1,listed,_,_,J,U,h=>⟨h.1,fun j aX=>by
    obtain⟨o,bb,ao⟩:=h.2 j aX;have hu:=(mem_ready.1 aX).1;have cL:∀ q,listed.getD q true=true->j≠q:=fun q au aa9=>by
      subst aa9
      rcases Nat.lt_or_ge j listed.size with aN | aN
      · simp[aN]at hu au; rw[hu]at au; cases au
      · simp[Array.getElem?_eq_none aN]at hu
    have ab:∀ q,listed.getD q true=true->(listed.setIfInBounds j true).getD q true=true:=fun q au=>by rw[getD_set_ne true (cL q au)]; exact au
    exact⟨o,bb,ao.mono fun aQ w' aN=>⟨aI _ _ _ (cL e J) (cL (e+1) U) aN.1,gJ.NV aI fuel _ aQ w' (ab e J) (ab (e+1) U) aN.2⟩⟩⟩
theorem vQ{L:cJ} {s d:Nat} {v:bZ} (h:s≠d):bj X ((d,v) :: L) (.tmp s)=bj X L (.tmp s):=by
  unfold bj;simp only[ct,if_neg h]
theorem aba{P:Program} {ops:List Oper} {Q:Exit->Act->World->Prop} {S:Nat->Array Bool->World->Prop} {e fuel:Nat} {aU bD b9:Oper} {l:Array Bool} {a:Act} {w:World} (J:nth ops e=some aU) (U:nth ops (e+1)=some bD) (ae:nth ops (e+2)=some b9)
    (ay:Region.ready .any ops.toArray l=[e]) (aO:Region.ready .any ops.toArray (l.setIfInBounds e true)=[e+1]) (bs:Region.ready .any ops.toArray ((l.setIfInBounds e true).setIfInBounds (e+1) true)=[e+2])
    (h:e3 P ops.toArray aU (fun aj b7=>S e l b7/\e3 P ops.toArray bD (fun a2 hC=>S (e+1) (l.setIfInBounds e true) hC/\e3 P ops.toArray b9 (fun a3 lL=>S (e+2) ((l.setIfInBounds e true).setIfInBounds (e+1) true) lL/\gJ P ops.toArray Q S fuel (((l.setIfInBounds e true).setIfInBounds (e+1) true).setIfInBounds (e+2) true) a3 lL) a2 hC) aj b7) a w):gJ P ops.toArray Q S (fuel+3) l a w:=by
  refine⟨fun aP=>(by rw[ay]at aP; cases aP),fun k ab=>?_⟩;rw[ay]at ab;have oy:k=e:=by simpa using ab
  subst oy;refine⟨aU,ld J,h.mono fun aj b7 ⟨g1,h⟩=>⟨g1,?_⟩⟩;refine⟨fun aP=>(by rw[aO]at aP; cases aP),fun q au=>?_⟩;rw[aO]at au;have Gz:q=k+1:=by simpa using au
  subst Gz;refine⟨bD,ld U,h.mono fun a2 hC ⟨g2,h⟩=>⟨g2,?_⟩⟩;refine⟨fun aP=>(by rw[bs]at aP; cases aP),fun q au=>?_⟩;rw[bs]at au;have Gz:q=k+2:=by simpa using au
  subst Gz;exact⟨b9,ld ae,h⟩
theorem abb(k:Nat):¬ (k+2=k\/k+2=k+1):=by omega
theorem abc{l:Array Bool} {e:Nat} (h:e < l.size):(((l.setIfInBounds e true).setIfInBounds (e+1) true).setIfInBounds (e+2) true).getD e true=true:=by
  rw[getD_set_ne true (by omega),getD_set_ne true (by omega)]
  simp[h]
theorem abd{l:Array Bool} {e:Nat} (h:e+1 < l.size):(((l.setIfInBounds e true).setIfInBounds (e+1) true).setIfInBounds (e+2) true).getD (e+1) true=true:=by
  rw[getD_set_ne true (by omega)]
  simp[h]
set_option maxHeartbeats 1000000 in
theorem abe(av:X.tt.ok X.P) {j6 iZ aU bD b9:Oper} {c:Bool} {bN:List Nat} {p e:Nat} (NW:nth ops i=some j6) (NX:nth ops p=some iZ) (J:nth ops e=some aU) (U:nth ops (e+1)=some bD) (ae:nth ops (e+2)=some b9)
    (aH:Gy ops.toArray E aG.listed i p e=true) (ao:yv X n st j6 iZ aU bD b9=some (c,st',bN)) (aa:c=true)
    (h:jg X M n ops E fuel ⟨((((aG.listed.setIfInBounds i true).setIfInBounds p true).setIfInBounds e true).setIfInBounds (e+1) true).setIfInBounds (e+2) true,false,false,aG.jR,aG.all⟩ st' Q):jg X M n ops E (fuel+3+1+1) aG st Q:=by
  intro R W aD dk dM cN F ks env B ak H a w b2 ad dL;obtain⟨I⟩:=NU ao;have eT:=I.aa.symm.trans aa;simp only[Bool.and_eq_true]at eT;obtain⟨jN,eA,lK,A7,GA⟩:=eT;unfold Gy at aH;rw[Bool.and_eq_true]at aH;obtain⟨kY,BA⟩:=aH;simp only[Bool.and_eq_true]at kY BA;obtain⟨⟨⟨GB,NY⟩,sO⟩,nf⟩:=kY;obtain⟨⟨⟨⟨ay,aO⟩,bs⟩,⟨⟨⟨⟨NZ,N0⟩,N1⟩,N2⟩,N3⟩⟩,⟨⟨BB,BC⟩,BD⟩⟩:=BA;simp only[beq_iff_eq]at ay aO bs;simp only[Bool.not_eq_true']at NZ N0 N1 N2 N3 BB BC;have BB:=Nat.ne_of_beq_eq_false BB;have BC:=Nat.ne_of_beq_eq_false BC;have BD:=dB BD;have vN:F w:=dL.F ad;have yy:∀ {l:Array Bool} {j:Nat},E.elem j=false->fz E l j=false:=fun {l j} aX=>by unfold fz; rw[aX]; rfl
  have bT:=yd av I.ab;obtain⟨v0,N4,jW⟩:=NB (z:=I.z) av bT I.aZ I.cK I.he I.ag ad;have vJ:dP env B ak I.bm v0:=(jW (Nj I.bP)).bm I.iI;obtain⟨hy,dF,b,ai,rfl⟩:=ad.aB I.hu rfl;obtain⟨vx,et,gp⟩:=ad.aB I.ao jN;rw[ea.key bT.pz bT.eq.key (ea.rI I.j3 eA I.NT gp)]at et
  let tD:World->Prop:=fun b7=>∀ b,env I.id=.blk b->(Instr.lookup I.t (.map (some b)) (.agg (I.gk.cH I.z).toArray) false).run X.P b7=.ok v0 b7
  have abf:∀ b7,tD b7->(execOp a.eval j6).run X.P b7=.ok (.value v0) b7:=fun b7 mg=>by
    simp[execOp,I.aa0,ad.bK.aB dF,ad.bK.aB et,mg b ai]
  -- the state ya the lookup and the new value
  have eV:=ad.set (sv:=.a I.bm) vJ (show c9 n (jL ks aD) ((I.d,v0) :: gi a) (a.put j6.dst v0) by rw[I.eF.2]; exact ad.bK.put I.d v0 (dB I.ax));obtain⟨GC,abg,abh⟩:=Ac av I.kX lK eV;have fN:=eV.set (sv:=.a I.sp) abg (show c9 n (jL ks aD) ((I.iK,GC) :: gi (a.put j6.dst v0)) ((a.put j6.dst v0).put iZ.dst GC) by rw[I.vP.2]; exact eV.bK.put I.iK GC (dB I.aa1))
  -- stronger: the lookup may come ya the entry
  refine gJ.ER (S':=fun j l w=>((fz E l j=true->bA (fun k=>R k\/dk k) dM cN w)/\F w)/\(j=e\/j=e+1->tD w)) (fun _ _ _ h=>h.1) _ _ _ _ ?_;have q2:=GB;simp only[rz,Bool.and_eq_true]at GB NY;obtain⟨⟨⟨abi,AF⟩,abj⟩,abk⟩:=GB;obtain⟨⟨⟨abl,_⟩,abm⟩,abn⟩:=NY;have xv:∀ {q:Nat},AD E q=true->∀ (j:Nat) (l:Array Bool) (w:World),(((fz E (l.setIfInBounds q true) j=true->bA (fun k=>R k\/dk k) dM cN w)/\F w)/\(j=e\/j=e+1->tD w))->(((fz E l j=true->bA (fun k=>R k\/dk k) dM cN w)/\F w)/\(j=e\/j=e+1->tD w)):=fun au j l w aI=>⟨⟨fun he=>aI.1.1 (Lu au he),aI.1.2⟩,aI.2⟩
  have N5:∀ j∈ya ops.toArray i,aG.listed.getD j true=false/\u0 ops.toArray i (ya ops.toArray i) j=true:=fun j aX=>by
    have:=List.all_eq_true.1 sO j aX
    simpa using this
  refine gJ.first (T:=fun w=>tD w/\F w) (ld NW) (Region.noSelect_spec AF) (ya ops.toArray i) (fun j aX=>Lv (N5 j aX).2) (xv abi) _ _ _ _ (fun j aX=>(N5 j aX).1) ?_ (by simpa using abk) (.inl ⟨by simp[Region.wanted,I.eF.1],fun b7 mg=>abf b7 mg.1⟩) ⟨N4,vN⟩ ?_ (fun l b7 mg=>⟨⟨fun he=>(by rw[yy NZ]at he; cases he),mg.2⟩,fun _=>mg.1⟩)
  · intro j fs ki jQ nT ib
    refine⟨Region.free_spec (ld NW) abj j fs ki jQ nT ib,?_⟩
    have:=List.all_eq_true.1 nf j (List.mem_range.2 (Array.getElem?_eq_some_iff.1 ki).1)
    simp only[Bool.or_eq_true,beq_iff_eq]at this
    rcases this with(((g1 | g1) | g1) | g1) | g1
    · exact absurd g1 jQ
    · rw[nT]at g1; cases g1
    · exact .inr fun l b7 _ aI=>⟨aI.2 (.inl g1),aI.1.2⟩
    · exact .inr fun l b7 _ aI=>⟨aI.2 (.inr g1),aI.1.2⟩
    · exact .inl (by simpa using g1)
  refine gJ.first (T:=F) (ld NX) (Region.noSelect_spec AF) [] (fun _ h=>by cases h) (xv abl) _ _ _ _ (fun _ h=>by cases h) ?_ (by simpa using abn) (.inl ⟨by simp[Region.wanted,I.vP.1],fun b7 _=>abh b7 fun h=>by rw[I.pu.2]at h; cases h⟩) vN ?_ (fun l b7 mg=>⟨⟨fun he=>(by rw[yy N0]at he; cases he),mg⟩,fun he=>he.elim (fun q=>absurd q BB) (fun q=>absurd q BC)⟩)
  · intro j fs ki jQ nT ib
    exact⟨Region.free_spec (ld NX) abm j fs ki jQ nT ib,.inr fun l b7 _ aI=>aI.1.2⟩
  -- the entry
  have xN:bj X ((I.iK,bZ.a I.sp) :: (I.d,bZ.a I.bm) :: st.L) (.tmp I.kq)=some (true,.c (.cr I.id)):=by rw[vQ I.Bz.2.1,vQ I.Bz.1]; exact I.hu
  have BE:bj X ((I.iK,bZ.a I.sp) :: (I.d,bZ.a I.bm) :: st.L) (.tmp I.fa)=some (I.g,I.nt):=by rw[vQ I.NS.2,vQ I.NS.1]; exact I.ao
  have td:bj X ((I.d2,bZ.a (.c .dead)) :: (I.d1,bZ.a (.c .dead)) :: (I.iK,bZ.a I.sp) :: (I.d,bZ.a I.bm) :: st.L) (.tmp I.kq)=some (true,.c (.cr I.id)):=by rw[vQ I.Bz.2.2.2,vQ I.Bz.2.2.1]; exact xN
  have mh:=NC (st:=⟨(I.iK,bZ.a I.sp) :: (I.d,bZ.a I.bm) :: st.L,st.H⟩) (ops:=ops.toArray) av bT I.Gs I.J I.lC I.Gt I.U I.kg I.Gu I.ae I.aZ I.cK I.he xN BE jN I.j3 eA I.NT I.ag td I.aV A7 I.nr GA I.aa2 fN N4 (G:=fun b7=>F b7/\tD b7) (G3:=F) (fun b7 ab ag=>⟨dL.oA b7 ab,ag⟩) (fun b7 ab=>dL.oA b7 ab)
    (KK:=fun aQ w'=>gJ X.P ops.toArray (fun e a w=>e=.normal/\∃ st',Q e st'/\kC X R W aD M n st' a w) (fun j l w=>((fz E l j=true->bA (fun k=>R k\/dk k) dM cN w)/\F w)/\(j=e\/j=e+1->tD w)) fuel (((((aG.listed.setIfInBounds i true).setIfInBounds p true).setIfInBounds e true).setIfInBounds (e+1) true).setIfInBounds (e+2) true) aQ w') (fun aQ w' H' bW=>by
      have abo:bB X R W aD n ks env B ak H' st' aQ w':=by rw[I.dZ]; exact bW
      have sV:gJ X.P ops.toArray (fun e a w=>e=.normal/\∃ st',Q e st'/\kC X R W aD M n st' a w) (fun j l w=>(fz E l j=true->bA (fun k=>R k\/dk k) dM cN w)/\F w) fuel (((((aG.listed.setIfInBounds i true).setIfInBounds p true).setIfInBounds e true).setIfInBounds (e+1) true).setIfInBounds (e+2) true) aQ w':=h R W aD dk dM cN F ks env B ak H' aQ w' b2 abo dL.lost;refine gJ.NV (e:=e) (S:=fun j l w=>(fz E l j=true->bA (fun k=>R k\/dk k) dM cN w)/\F w) (fun j l w J U aI=>⟨aI,fun h=>h.elim (fun q=>absurd q J) (fun q=>absurd q U)⟩) _ _ _ _ ?_ ?_ sV
      · exact abc (by simpa using Nat.lt_of_succ_lt BD)
      · exact abd (by simpa using BD))
  exact aba J U ae ay aO bs (mh.mono fun aj b7 ⟨g1,mh⟩=>⟨⟨⟨fun cB=>(by rw[yy N1]at cB; cases cB),g1.1⟩,fun _=>g1.2⟩,mh.mono fun a2 hC ⟨g2,mh⟩=>⟨⟨⟨fun cB=>(by rw[yy N2]at cB; cases cB),g2.1⟩,fun _=>g2.2⟩,mh.mono fun a3 lL ⟨g3,mh⟩=>⟨⟨⟨fun cB=>(by rw[yy N3]at cB; cases cB),g3⟩,fun cB=>(abb e cB).elim⟩,mh⟩⟩⟩)
theorem jE(av:X.tt.ok X.P) {k:hD->fh->List Nat->List Bool->aK->Option ba} {r:ba} {c0:Nat} (eE:∀ aG G V A st,k aG G V A st=some r->∀ c∈A,c=true) (ab:∀ u2 eQ fo cj st',ec (ed ops) eQ st'.L->cO fo st0 st'->k u2 eQ fo cj st'=some r->jg X M n ops E c0 u2 st' Q):∀ {is:List pB} {aG:hD} {G:fh} {V:List Nat} {A:List Bool} {st:aK},ec (ed ops) G st.L->cO V st0 st->e7 X n T ops E is aG G V A st k=some r->jg X M n ops E (c0+pC is) aG st Q
  | [],aG,G,V,A,st,cb,aP,h=>by
    unfold e7 at h;exact ab _ _ _ _ _ cb aP h
  | .t i m :: is,aG,G,V,A,st,cb,aP,h=>by
    have one:∀ {d:Nat} {sv:bZ},cO (d :: V) st0 ⟨(d,sv) :: st.L,st.H⟩:=fun {d sv}=>⟨bS.cons aP.1,aP.2.more fun q au=>(fb au).2⟩
    unfold e7 at h
    split at h
    · rename_i o hi aZ
      split at h
      · rename_i d dG ef
        split at h
        · rename_i c bm aC ax
          have aa:=hF eE h c List.mem_cons_self;have bx:=jE (is:=is) av eE ab (cb.drop d _) one h;intro R W aD dk dM cN F ks env B ak H a w b2 ad dL;obtain⟨v,aE,dw⟩:∃ v,dP env B ak bm v/\∀ w',(o8 o.op=true->bA (fun k=>R k\/B k) ak (vK aG.all m H) w')->(execOp a.eval o).run X.P w'=.ok (.value v) w':=NN av ad (vL ad.heap).1 (vL ad.heap).2 cb (fun _ h=>by cases h) aC aa;exact yx (sv:=.a bm) av hi aZ ef ax ad dL v aE (fun T ca=>.inl ⟨by simp[Region.wanted,dG],fun w' nh=>dw w' (ca w' nh)⟩) fun aQ bW fX=>bx R W aD dk dM cN F ks env B ak H aQ w b2 bW fX
        · cases h
      · rename_i j want d dG ef
        split at h
        · rename_i s aX
          split at h
          · rename_i g aM
            split at h
            · rename_i c bm aC ax qB
              have aa:=hF eE h _ List.mem_cons_self;have cL:s≠d:=Nat.ne_of_beq_eq_false qB;have mP:ec (ed ops) ((d,j,want) :: iY (ed ops) d G) ((d,.may g bm) :: st.L):=fun e he=>by
                rcases List.mem_cons.1 he with rfl | he
                · exact⟨s,g,bm,aX,by rw[vz cL]; exact aM,by rw[ct,if_pos rfl]⟩
                · exact cb.drop d _ e he
              have bx:=jE (is:=is) av eE ab mP one h;intro R W aD dk dM cN F ks env B ak H a w b2 ad dL;have hw:=x5 (l:=ops) ad dG aX aM;cases g with
              | true=>
                obtain⟨v,aE,dw⟩:∃ v,dP env B ak bm v/\∀ w',(o8 o.op=true->bA (fun k=>R k\/B k) ak (vK aG.all m H) w')->(execOp a.eval o).run X.P w'=.ok (.value v) w':=NN av ad (vL ad.heap).1 (vL ad.heap).2 cb (x4 cb ⟨s,aX,aM⟩) aC (xZ aa rfl);exact yx (sv:=.may true bm) av hi aZ ef ax ad dL v ⟨fun _=>aE,fun h=>by cases h⟩ (fun T ca=>.inl ⟨hw,fun w' nh=>dw w' (ca w' nh)⟩) fun aQ bW fX=>bx R W aD dk dM cN F ks env B ak H aQ w b2 bW fX
              | false=>exact yx (sv:=.may false bm) av hi aZ ef ax ad dL undef ⟨(fun h=>by cases h),fun _=>rfl⟩ (fun T ca=>.inr ⟨hw,rfl⟩) fun aQ bW fX=>bx R W aD dk dM cN F ks env B ak H aQ w b2 bW fX
            · cases h
          · cases h
        · cases h
      · cases h
    · cases h
  | .m i :: is,aG,G,V,A,st,cb,aP,h=>by
    unfold e7 at h
    split at h
    · rename_i o hi aZ
      split at h
      · rename_i d xs dG ef hm
        split at h
        · rename_i ax
          have one:cO (d :: V) st0 ⟨(d,.cW xs) :: st.L,st.H⟩:=⟨bS.cons aP.1,aP.2.more fun q au=>(fb au).2⟩
          have bx:=jE (is:=is) av eE ab (cb.drop d _) one h;intro R W aD dk dM cN F ks env B ak H a w b2 ad dL;obtain⟨v,J,U⟩:=K2 ad hm;exact yx (sv:=.cW xs) av hi aZ ef ax ad dL v J (fun T ca=>.inl ⟨by simp[Region.wanted,dG],fun w' nh=>U w'⟩) fun aQ bW fX=>bx R W aD dk dM cN F ks env B ak H aQ w b2 bW fX
        · cases h
      · cases h
    · cases h
  | .s i :: is,aG,G,V,A,st,cb,aP,h=>by
    unfold e7 at h
    split at h
    · rename_i o hi aH gn
      split at h
      · rename_i dG
        split at h
        · rename_i c st' W aC
          have aa:=hF eE h c List.mem_cons_self;exact qD aH (AU hi (F4 av aC aa) gn rfl (jE (is:=is) av eE ab ec.nil (aP.trans (F5 aC)) h))
        · split at h
          · rename_i c st' aC
            have aa:=hF eE h c List.mem_cons_self;exact qD aH (Ly av hi gn aC aa rfl (jE (is:=is) av eE ab ec.nil (aP.trans (vA dG aC)) h))
          · cases h
      · cases h
    · cases h
  | .k i :: is,aG,G,V,A,st,cb,aP,h=>by
    unfold e7 at h
    split at h
    · rename_i o hi aH pD
      split at h
      · rename_i dG
        split at h
        · rename_i d c bm ef aC
          split at h
          · rename_i ax
            have one:cO (d :: V) st0 ⟨(d,.a bm) :: st.L,st.H⟩:=⟨bS.cons aP.1,aP.2.more fun q au=>(fb au).2⟩
            have aa:=hF eE h c List.mem_cons_self;refine qD aH (vO (pre':=true) (kp:=fun _=>true) hi (gU.NQ (fun ad=>Bg av aC aa ad) ⟨dG,ef⟩ ax) (fun _=>⟨pD,fun _ _=>rfl⟩) (by simp) ?_);exact jE (is:=is) av eE ab ec.nil one h
          · cases h
        · split at h
          · rename_i c st' hkk aC
            have aa:=hF eE h c List.mem_cons_self;cases nm:aG.all with
            | true=>
              rw[nm,cond_true]at hkk;refine qD aH (LA av hi (by rw[pD,Bool.true_and]; exact hkk) aC aa rfl ?_);exact jE (is:=is) av eE ab ec.nil (aP.trans (vA dG aC)) h
            | false=>
              rw[nm,cond_false]at hkk;simp only[Bool.and_eq_true]at hkk;refine qD aH (Lz av hi (by rw[pD,hkk.1,hkk.2,nm]; rfl) aC aa rfl ?_);exact jE (is:=is) av eE ab ec.nil (aP.trans (vA dG aC)) h
          · cases h
        · cases h
      · cases h
    · cases h
  | .q i :: is,aG,G,V,A,st,cb,aP,h=>by
    unfold e7 at h
    split at h
    · rename_i o hi aZ
      split at h
      · rename_i d c bm dG ef aC
        split at h
        · rename_i ax
          have one:cO (d :: V) st0 ⟨(d,.a bm) :: st.L,st.H⟩:=⟨bS.cons aP.1,aP.2.more fun q au=>(fb au).2⟩
          have aa:=hF eE h c List.mem_cons_self;have bx:=jE (is:=is) av eE ab (cb.drop d _) one h;intro R W aD dk dM cN F ks env B ak H a w b2 ad dL;obtain⟨v,aE,dw⟩:=aaP (o:=o) ad (vL ad.heap).1 (vL ad.heap).2 (aaQ av aC aa);exact yx (sv:=.a bm) av hi aZ ef ax ad dL v aE (fun T ca=>.inl ⟨by simp[Region.wanted,dG],fun w' nh=>dw w' (ca w' nh)⟩) fun aQ bW fX=>bx R W aD dk dM cN F ks env B ak H aQ w b2 bW fX
        · cases h
      · cases h
    · cases h
  | .u i m :: is,aG,G,V,A,st,cb,aP,h=>by
    unfold e7 at h
    split at h
    · rename_i o hi aH gn
      split at h
      · rename_i c st' W aC
        have aa:=hF eE h c List.mem_cons_self;exact qD aH (AU hi (Gc av aC aa) gn rfl (jE (is:=is) av eE ab ec.nil (aP.trans (Gd aC)) h))
      · cases h
    · cases h
  | .v i :: is,aG,G,V,A,st,cb,aP,h=>by
    unfold e7 at h
    split at h
    · rename_i aU bD b9 J U ae aH hm
      split at h
      · rename_i c st' bN aC
        have aa:=hF eE h c List.mem_cons_self;exact aaY av J U ae aH hm aC aa (jE (is:=is) av eE ab ec.nil (aP.trans (aaO aC)) h)
      · cases h
    · cases h
  | .w i p e :: is,aG,G,V,A,st,cb,aP,h=>by
    unfold e7 at h
    split at h
    · rename_i j6 iZ aU bD b9 eF vP J U ae aH
      split at h
      · rename_i c st' bN aC
        have aa:=hF eE h c List.mem_cons_self;exact abe av eF vP J U ae aH aC aa (jE (is:=is) av eE ab ec.nil (aP.trans (aa8 aC)) h)
      · cases h
    · cases h
  | .e i :: is,aG,G,V,A,st,cb,aP,h=>by
    unfold e7 at h
    split at h
    · rename_i o hi aH gn
      split at h
      · rename_i d c bm dG ef aC
        split at h
        · rename_i ax
          have one:cO (d :: V) st0 ⟨(d,.a bm) :: st.L,st.H⟩:=⟨bS.cons aP.1,aP.2.more fun q au=>(fb au).2⟩
          have aa:=hF eE h c List.mem_cons_self;exact qD aH (vO (pre':=aG.pre) hi (aaw av dG ef ax aC aa) (fun ar=>⟨ar,fun _ _=>rfl⟩) gn (jE (is:=is) av eE ab ec.nil one h))
        · cases h
      · cases h
    · cases h
  | .c i ps :: is,aG,G,V,A,st,cb,aP,h=>by
    unfold e7 at h
    split at h
    · rename_i o hi aH gn
      obtain⟨_,fy,V2,J,U,ae⟩:=rW aP h;exact qD aH (vO hi J NP gn (jE (is:=is) av eE ab ec.nil U ae))
    · cases h
  | .g i :: is,aG,G,V,A,st,cb,aP,h=>by
    unfold e7 at h
    split at h
    · rename_i o hi aH gn
      obtain⟨d,g,bm,eQ,ph,dF,et,gp⟩:=Nr cb aP h;exact qD aH (aaX hi gp gn (jE (is:=is) av eE ab ph dF et))
    · cases h
  | .z id :: is,aG,G,V,A,st,cb,aP,h=>by
    unfold e7 at h
    split at h
    · rename_i st' aC
      have fg:cO [] st st':=by
        unfold c8 at aC
        split at aC
        · cases aC; exact⟨iv _ _ _,h2 _ _ _⟩
        · cases aC
      exact T5 id aC (jE (is:=is) av eE ab ec.nil (aP.trans fg) h)
    · cases h
  | .f :: is,aG,G,V,A,st,cb,aP,h=>by
    unfold e7 at h
    split at h
    · rename_i aC
      exact T4 aC (jE (is:=is) av eE ab cb aP h)
    · cases h
inductive qE where
  | f (l:List pB)
  | b (l:List pB) (i j:Nat) (ps iX:ee) (qF qG:Option n2) (x y:qE)
  | s (l:List pB) (j:Nat) (ks:List Int) (t:qE)
  | t (l:List pB) (i j k:Nat) (ps iX rs:ee) (qF qG mk:Option n2) (x y z:qE)
def lp:qE->Nat
  | .f l=>pC l
  | .b l _ _ _ _ _ _ x _=>lp x+1+pC l
  | .s l _ _ t=>lp t+pC l
  | .t l _ _ _ _ _ _ _ _ _ x _ _=>lp x+1+pC l
def BF{ba:Type} (z:Int):List Int->(Int->Option ba)->Option ba
  | [],_=>none
  | k :: ks,f=>cond (decide (z=k)) (f k) (BF z ks f)
theorem N6{ba:Type} {z:Int} {f:Int->Option ba} {r:ba}:∀ {ks:List Int},BF z ks f=some r->f z=some r
  | [],h=>by cases h
  | k :: ks,h=>by
    unfold BF at h;cases ax:decide (z=k)with
    | true=>
      rw[ax,cond_true]at h;rw[of_decide_eq_true ax];exact h
    | false=>
      rw[ax,cond_false]at h;exact N6 h
def BG(j:Nat) (v:bZ):cJ->cJ
  | []=>[]
  | (k,u) :: r=>match Nat.beq j k with
    | true=>(k,v) :: r
    | false=>(k,u) :: BG j v r
theorem N7{j:Nat} {v:bZ}:∀ {L:cJ},aS L j=some v->BG j v L=L
  | [],_=>rfl
  | (k,u) :: r,h=>by
    unfold aS at h;unfold BG
    split at h
    · rename_i ai
      cases h;rw[ai]
    · rename_i ai
      rw[ai,N7 h]
open Classical in
noncomputable def eu {ba:Type} (a b:Option ba):Option ba:=if a=b then a else none
theorem ha{ba:Type} (a:Option ba):eu a a=a:=if_pos rfl
theorem GD{ba:Type} {a b:Option ba} {r:ba} (h:eu a b=some r):a=some r/\b=some r:=by
  unfold eu at h
  split at h
  · rename_i e
    exact⟨h,e ▸ h⟩
  · cases h
def yz(ops:List Oper) (k:List Nat->aK->Option ba):hD->fh->List Nat->List Bool->aK->Option ba:=fun aG _ V A st=>match Region.ready .any ops.toArray aG.listed with
  | []=>an (mc A true) (k V st)
  | _=>none
theorem hf{α β:Type} {c:Bool} {a:Option α} {f:α->Option β}:Option.bind a (fun r=>an c (f r))=an c (Option.bind a f):=by
  cases c with
  | true=>rfl
  | false=>
    cases a with
    | none=>rfl
    | some x=>rfl
theorem hg{α:Type} {a b:Bool} {k:Option α}:an (a&&b) k=an a (an b k):=by cases a<;>rfl
theorem cn{α:Type} {k:Option α}:an true k=k:=rfl
theorem cT{α:Type} {k:Option α}:an false k=none:=rfl
theorem cU{α:Type} {c:Bool}:an c (none:Option α)=none:=by cases c<;>rfl
theorem cV{α:Type} {a:Bool} {k y:Option α} (J:a=true->k=y) (U:a=false->none=y):an a k=y:=by
  cases a with
  | true=>exact J rfl
  | false=>exact U rfl
theorem hh{ba:Type} {x y:Option ba} (h:x=y):eu x y=x:=by rw[h]; exact ha _
def tE(X:bl) (n:Nat) (T:List (bu X)) (ops:List Oper) (E:List Nat) (i:Nat) (ps:ee) (m:Option n2) (o:Oper) (aG:hD) (V:List Nat) (A:List Bool) (st:aK) (k:hD->fh->List Nat->List Bool->aK->Option ba):Option ba:=match o.guard with
  | none=>match fz E aG.listed i,aG.pre with
    | false,_=>match (match m with | some m=>tr X n st m o | none=>tn X n st o)with
      | some (c,st',W)=>k ⟨aG.listed.setIfInBounds i true,false,false,aG.jR,aG.all⟩ [] (W++V) (c :: A) st'
      | none=>match ni X n (ed ops) st o with
        | .ok c st'=>k ⟨aG.listed.setIfInBounds i true,false,false,aG.jR,aG.all⟩ [] (tl X st.L o++V) (c :: A) st'
        | .stop=>tu X n T ps V A st (fun eQ fo cj st'=>k ⟨aG.listed.setIfInBounds i true,false,false,false,aG.all⟩ eQ fo cj st') o
    | true,true=>match o.dst,vu X st o.op with
      | some d,some (c,bm)=>match Nat.blt d n with
        | true=>k ⟨aG.listed.setIfInBounds i true,false,true,false,aG.all⟩ [] (d :: V) (c :: A) ⟨(d,.a bm) :: st.L,st.H⟩
        | false=>none
      | _,none=>match cond aG.all (uP o.op&&re o st.H) (Ad o.op&&pb o st.H),ni X n (ed ops) st o with
        | true,.ok c st'=>k ⟨aG.listed.setIfInBounds i true,false,true,aG.jR,aG.all⟩ [] (tl X st.L o++V) (c :: A) st'
        | _,.stop=>match oG st.H ps || (!aG.all&&vl st.H ps)with
          | true=>tu X n T ps V A st (fun eQ fo cj st'=>k ⟨aG.listed.setIfInBounds i true,false,true,false,aG.all⟩ eQ fo cj st') o
          | false=>none
        | _,_=>none
      | none,some _=>none
    | true,false=>none
  | some _=>none
noncomputable def pE (X:bl) (n:Nat) (T:List (bu X)) (ops:List Oper) (E:List Nat):qE->hD->fh->List Nat->List Bool->aK->(List Nat->aK->Option ba)->Option ba
  | .f l,aG,G,V,A,st,k=>e7 X n T ops E l aG G V A st (yz ops k)
  | .s l j ks t,aG,G,V,A,st,k=>e7 X n T ops E l aG G V A st fun aG _ V A st=>match aS st.L j with
    | some (.a (.c (.val (.int nU z))))=>an (mc A true) (BF z ks fun q=>pE X n T ops E t aG [] V [] ⟨BG j (.a (.c (.val (.int nU q)))) st.L,st.H⟩ k)
    | _=>none
  | .t l i j q ps iX rs qF qG GF x y z,aG,G,V,A,st,k=>e7 X n T ops E l aG G V A st fun aG _ V A st=>match nth ops i,nth ops j,nth ops q,Region.ready .any ops.toArray aG.listed == [i,j,q],Nat.beq (lp x) (lp y)&&Nat.beq (lp x) (lp z)with
    | some h0,some fs,some N8,true,true=>an (mc A true) (eu (tE X n T ops E i ps qF h0 aG V [] st fun aG G V A st=>pE X n T ops E x aG G V A st k) (eu (tE X n T ops E j iX qG fs aG V [] st fun aG G V A st=>pE X n T ops E y aG G V A st k) (tE X n T ops E q rs GF N8 aG V [] st fun aG G V A st=>pE X n T ops E z aG G V A st k)))
    | _,_,_,_,_=>none
  | .b l i j ps iX qF qG x y,aG,G,V,A,st,k=>e7 X n T ops E l aG G V A st fun aG _ V A st=>match nth ops i,nth ops j,Region.ready .any ops.toArray aG.listed == [i,j],Nat.beq (lp x) (lp y)with
    | some h0,some fs,true,true=>an (mc A true) (eu (tE X n T ops E i ps qF h0 aG V [] st fun aG G V A st=>pE X n T ops E x aG G V A st k) (tE X n T ops E j iX qG fs aG V [] st fun aG G V A st=>pE X n T ops E y aG G V A st k))
    | _,_,_,_=>none
theorem yA{ps:ee} {m:Option n2} (av:X.tt.ok X.P) {k:hD->fh->List Nat->List Bool->aK->Option ba} {r:ba} {c0:Nat} (eE:∀ aG G V A st,k aG G V A st=some r->∀ c∈A,c=true) (ab:∀ u2 eQ fo cj st',ec (ed ops) eQ st'.L->cO fo st0 st'->k u2 eQ fo cj st'=some r->jg X M n ops E c0 u2 st' Q) (hi:nth ops i=some o) (aP:cO V st0 st) (h:tE X n T ops E i ps m o aG V A st k=some r):pj X M n ops E c0 aG st Q i:=by
  unfold tE at h
  split at h
  · rename_i dG
    split at h
    · rename_i gn
      split at h
      · rename_i c st' W aC
        cases m with
        | some m=>exact AU hi (Gc av aC (eE _ _ _ _ _ h c List.mem_cons_self)) gn rfl (ab _ _ _ _ _ ec.nil (aP.trans (Gd aC)) h)
        | none=>exact AU hi (F4 av aC (eE _ _ _ _ _ h c List.mem_cons_self)) gn rfl (ab _ _ _ _ _ ec.nil (aP.trans (F5 aC)) h)
      · split at h
        · rename_i c st' aC
          exact Ly av hi gn aC (eE _ _ _ _ _ h c List.mem_cons_self) rfl (ab _ _ _ _ _ ec.nil (aP.trans (vA dG aC)) h)
        · obtain⟨_,fy,V2,J,U,ae⟩:=rW aP h
          exact vO (pre':=false) hi J (fun h=>by cases h) (by rw[gn]; rfl) (ab _ _ _ _ _ ec.nil U ae)
    · rename_i gn pD
      split at h
      · rename_i d c bm ef aC
        split at h
        · rename_i ax
          have one:cO (d :: V) st0 ⟨(d,.a bm) :: st.L,st.H⟩:=⟨bS.cons aP.1,aP.2.more fun q au=>(fb au).2⟩
          exact vO (pre':=true) (kp:=fun _=>true) hi (gU.NQ (fun ad=>Bg av aC (eE _ _ _ _ _ h c List.mem_cons_self) ad) ⟨dG,ef⟩ ax) (fun _=>⟨pD,fun _ _=>rfl⟩) (by simp) (ab _ _ _ _ _ ec.nil one h)
        · cases h
      · split at h
        · rename_i c st' hkk aC
          have aa:=eE _ _ _ _ _ h c List.mem_cons_self;have bk:=ab _ _ _ _ _ ec.nil (aP.trans (vA dG aC)) h;cases nm:aG.all with
          | true=>
            rw[nm,cond_true]at hkk;exact LA av hi (by rw[pD,Bool.true_and]; exact hkk) aC aa rfl bk
          | false=>
            rw[nm,cond_false]at hkk;simp only[Bool.and_eq_true]at hkk;exact Lz av hi (by rw[pD,hkk.1,hkk.2,nm]; rfl) aC aa rfl bk
        · split at h
          · rename_i jx
            obtain⟨_,fy,V2,J,U,ae⟩:=rW aP h;exact vO (pre':=true) hi J (fun _=>NP (by rw[pD,jx]; rfl)) (by simp) (ab _ _ _ _ _ ec.nil U ae)
          · cases h
        · cases h
      · cases h
    · cases h
  · cases h
theorem yB{k:List Nat->aK->Option ba}:∀ {t:qE} {aG:hD} {G:fh} {V:List Nat} {A:List Bool} {st:aK},pE X n T ops E t aG G V A st k=some r->∀ c∈A,c=true
  | .f l,aG,G,V,A,st,h=>hF (fun aG G V A st h=>by
      unfold yz at h
      split at h
      · exact(jC (fH h).1).1
      · cases h) h
  | .b l i j ps iX qF qG x y,aG,G,V,A,st,h=>hF (fun aG G V A st h=>by
      split at h
      · exact(jC (fH h).1).1
      · cases h) h
  | .t l i j q ps iX rs qF qG GF x y z,aG,G,V,A,st,h=>hF (fun aG G V A st h=>by
      split at h
      · exact(jC (fH h).1).1
      · cases h) h
  | .s l j ks t,aG,G,V,A,st,h=>hF (fun aG G V A st h=>by
      split at h
      · exact(jC (fH h).1).1
      · cases h) h
theorem tF(av:X.tt.ok X.P) {k:List Nat->aK->Option ba} {r:ba} (ab:∀ fo st',cO fo st0 st'->k fo st'=some r->Q .normal st'):∀ {t:qE} {aG:hD} {G:fh} {V:List Nat} {A:List Bool} {st:aK},ec (ed ops) G st.L->cO V st0 st->pE X n T ops E t aG G V A st k=some r->jg X M n ops E (lp t) aG st Q
  | .f l,aG,G,V,A,st,cb,aP,h=>by
    have:=jE (c0:=0) (is:=l) (Q:=Q) (M:=M) (st0:=st0) av (k:=yz ops k) (r:=r) (fun aG G V A st h=>by
      unfold yz at h
      split at h
      · exact(jC (fH h).1).1
      · cases h) (fun aG G V A st cb aP h=>by
      unfold yz at h
      split at h
      · rename_i e
        exact T0 e (ab V st aP (fH h).2)
      · cases h) cb aP h
    rwa [Nat.zero_add]at this
  | .s l j ks t,aG,G,V,A,st,cb,aP,h=>by
    refine jE (c0:=lp t) (is:=l) av (k:=_) (r:=r) (fun aG G V A st h=>?_) (fun aG G V A st cb aP h=>?_) cb aP h
    · split at h
      · exact(jC (fH h).1).1
      · cases h
    · split at h
      · rename_i nU z ag
        have U:=N6 (fH h).2;rw[N7 ag]at U;exact tF av ab ec.nil aP U
      · cases h
  | .t l i j q ps iX rs qF qG GF x y z,aG,G,V,A,st,cb,aP,h=>by
    refine jE (c0:=lp x+1) (is:=l) av (k:=_) (r:=r) (fun aG G V A st h=>?_) (fun aG G V A st cb aP h=>?_) cb aP h
    · split at h
      · exact(jC (fH h).1).1
      · cases h
    · split at h
      · rename_i h0 fs N8 hi aX au aH aa
        obtain⟨J,U⟩:=GD (fH h).2;obtain⟨U,ae⟩:=GD U;rw[Bool.and_eq_true]at aa;refine EP (beq_iff_eq.1 aH) (u5 (yA av (fun _ _ _ _ _ h=>yB h) (fun aG G V A st cb aP h=>tF av ab cb aP h) hi aP J) (u5 (yA av (fun _ _ _ _ _ h=>yB h) (fun aG G V A st cb aP h=>?_) aX aP U) (u5 (yA av (fun _ _ _ _ _ h=>yB h) (fun aG G V A st cb aP h=>?_) au aP ae) EO)))
        · rw[Nat.eq_of_beq_eq_true aa.1]
          exact tF av ab cb aP h
        · rw[Nat.eq_of_beq_eq_true aa.2]
          exact tF av ab cb aP h
      · cases h
  | .b l i j ps iX qF qG x y,aG,G,V,A,st,cb,aP,h=>by
    refine jE (c0:=lp x+1) (is:=l) av (k:=_) (r:=r) (fun aG G V A st h=>?_) (fun aG G V A st cb aP h=>?_) cb aP h
    · split at h
      · exact(jC (fH h).1).1
      · cases h
    · split at h
      · rename_i h0 fs hi aX aH aa
        obtain⟨J,U⟩:=GD (fH h).2;refine EP (beq_iff_eq.1 aH) (u5 (yA av (fun _ _ _ _ _ h=>yB h) (fun aG G V A st cb aP h=>tF av ab cb aP h) hi aP J) (u5 (yA av (fun _ _ _ _ _ h=>yB h) (fun aG G V A st cb aP h=>?_) aX aP U) EO));rw[Nat.eq_of_beq_eq_true aa];exact tF av ab cb aP h
      · cases h
end
end
def yC{β:Type} (eJ:β->(Nat->Prop)->World->Prop):Prop:=∀ l C W dq,eJ l C W->da C W dq->eJ l C dq
structure Grow(B C cP:Nat->Prop) (W dq:World):Prop where
 dY:da (fun k=>B k\/(k < W.heap.size/\¬ C k)) W dq
 new:∀ k,cP k->C k\/W.heap.size<=k\/B k
structure tG(C b3 dS:Nat->Prop) (W:World):Prop where
 sub:∀ k,b3 k->dS k
 new:∀ k,dS k->b3 k\/(¬ C k/\∃ cs e dH,W.heap[k]?=some (.cells cs e dH))
def yD{β:Type} (eJ:β->(Nat->Prop)->(Nat->Prop)->World->Prop):Prop:=∀ l C b3 W dq,eJ l C b3 W->da C W dq->eJ l C b3 dq
def GG{α:Type} (P:Program) (g:Nat) (lb:List Value) (B:Nat->Prop) (ak:World) (O:List bd) (l:List α) (enc:(Nat->Prop)->World->α->List Value->Prop):Prop:=
 ∀ (id:Nat) (eJ:List α->(Nat->Prop)->(Nat->Prop)->World->Prop) (gr:Unit->(Nat->Prop)->World->Prop) (W:World),da B ak W->(∀ k,B k->k < ak.heap.size)->yD eJ->yC gr->(∀ r C b3 W,eJ r C b3 W->∀ k,C k->k < W.heap.size)->(∀ r C W,gr r C W->∀ k,C k->k < W.heap.size)->(∀ r C b3 W,eJ r C b3 W->∀ k,b3 k->C k) ->
  (∀ x rest C b3 dS bN vs,eJ (x :: rest) C b3 bN->tG C b3 dS bN->enc dS bN x vs->YieldAt Fence.wide 1 P id vs.toArray bN fun e dq=>
   (e=.returned (.bool true)/\∃ cP,eJ rest cP dS dq/\Grow dS C cP bN dq)\/(e=.returned (.bool false)/\∃ cP,gr () cP dq/\Grow dS C cP bN dq)) ->
  ∀ C,eJ l C B W->bA C W O W->CallsIn Fence.wide 1 P g (#[.func (.yield id) #[] #[]]++lb.toArray) W fun e dq=>(∃ v,e=.returned v)/\∃ cP,(∃ b3,eJ [] cP b3 dq)\/gr () cP dq
def N9{α:Type} (B:Nat->Prop) (I:List α->(Nat->Prop)->(Nat->Prop)->World->Prop) (kK:Code->(Nat->Prop)->World->Prop) (rest:List α) (C:Nat->Prop) (W:World):Exit->Act->World->Prop
 | .normal,_,dq=>∃ cP,I rest cP B dq/\Grow B C cP W dq
 | .ret,_,dq=>∃ cP,kK .ret cP dq/\Grow B C cP W dq
 | .exit id,_,dq=>∃ cP,kK (.exit id) cP dq/\Grow B C cP W dq
 | _,_,_=>False
theorem rZ{C:Nat->Prop} {W:World} {k:Nat} {o:Obj} (h:¬ C k):da C W (W.putObj k o):=⟨rfl,rfl,rfl,by simp,fun q au=>World.putObj_heap_other fun e=>h (e ▸ au)⟩
theorem Oa{α:Type} {P:Program} {g:Operand} {ps:Array Tmp} {assign body:Code} {Q:Exit->Act->World->Prop} {a:Act} {w:World} {gf:Nat} {lb:List Value} {B:Nat->Prop} {ak:World} {O:List bd} {l:List α} {enc:(Nat->Prop)->World->α->List Value->Prop}
  (aM:a.eval g=.func (.func gf) #[] lb.toArray) (GH:∀ args w,(callFunc gf args).run P w=.ok (.enter gf args) w)
  (tH:GG P gf lb B ak O l enc) (k1:da B ak w) (cI:∀ k,B k->k < ak.heap.size) (jx:∀ dS W x vs,enc dS W x vs->vs.length=ps.size) (c4:∀ dS W dq x vs,da dS W dq->enc dS W x vs->enc dS dq x vs)
  (I:List α->(Nat->Prop)->(Nat->Prop)->World->Prop) (kK:Code->(Nat->Prop)->World->Prop) (gQ:yD I) (vR:yC kK) (br:∀ r C b3 W,I r C b3 W->∀ k,C k->k < W.heap.size) (n7:∀ r C b3 W,I r C b3 W->∀ k,b3 k->C k) (yE:∀ r C W,kK r C W->∀ k,C k->k < W.heap.size) (ie:Nat->Prop) (aP:I l ie B w) (vS:bA ie w O w)
  (abp:∀ (id:Nat) (x:α) (rest:List α) (vs:List Value) (C b3 dS:Nat->Prop) (W:World) (o:Obj),id < W.heap.size->¬ C id->¬ dS id->I (x :: rest) C b3 W->tG C b3 dS W->enc dS W x vs ->
   assign.wpIn (Fence.wide.inRound id) 1 P (Exit.then (fun aj b7=>b7.heap[id]?=W.heap[id]?/\body.wpIn (Fence.wide.inRound id) 1 P (N9 dS I kK rest C (W.putObj id o)) aj (b7.putObj id o)) (fun _ _ _=>False)) { tmps:=(ps.zip vs.toArray).foldl (fun t (p,v)=>t.setIfInBounds p v) a.tmps,defers:=[] } W)
  (nw:∀ (D:Nat) (C b3:Nat->Prop) (W:World),w.heap.size<=D->¬ C D->I [] C b3 W->W.heap[D]?=some (.deferred (some []))->Q .normal { a with defers:={ target:=.collected D,args:=#[] } :: a.defers } W)
  (lM:∀ (D:Nat) (c:Code) (C:Nat->Prop) (W:World),w.heap.size<=D->¬ C D->kK c C W->W.heap[D]?=some (.deferred (some []))->c.wpIn Fence.wide 2 P Q { a with defers:={ target:=.collected D,args:=#[] } :: a.defers } W) :
  (Code.rangeFunc g ps assign body).wpIn Fence.wide 2 P Q a w:=by
 refine wpIn_rangeFunc ?_;intro fn fP;have sX:Fence.wide.round=none:=rfl;rw[sX];obtain⟨rec,c1⟩:∃ rec:LoopState->Option Code->Loop,rec=fun st abq=>{ state:=st,pending:=abq,fn,tmps:=a.tmps,params:=ps,assign,body,defers:=w.heap.size }:=⟨_,rfl⟩
 obtain⟨bN,tI⟩:∃ bN,(w.alloc (.deferred (some []))).alloc (.loop (rec .ready none))=bN:=⟨_,rfl⟩
 have abr:bN.heap[w.heap.size+1]?=some (.loop (rec .ready none)):=by
  rw[<- tI]; have:=World.alloc_heap_new (w.alloc (.deferred (some []))) (.loop (rec .ready none)); rwa [World.size_alloc]at this
 have abt:bN.heap[w.heap.size]?=some (.deferred (some [])):=by
  rw[<- tI]; exact(Below.heap_alloc _ _ _ (by simp)).trans (World.alloc_heap_new w _)
 have fk:bN.heap.size=w.heap.size+2:=by rw[<- tI]; simp
 have k7:∀ {C:Nat->Prop},(∀ k,C k->k < w.heap.size)->da C w bN:=fun {C} dt=>by
  rw[<- tI];exact⟨rfl,rfl,rfl,by simp; omega,fun k ab=>by
   have:=dt k ab
   exact(Below.heap_alloc _ _ _ (by simp; omega)).trans (Below.heap_alloc _ _ _ this)⟩
 have tJ:∀ k,B k->k < w.heap.size:=fun k ab=>Nat.lt_of_lt_of_le (cI k ab) k1.size
 have BH:=br _ _ _ _ aP;have abu:I l ie B bN:=gQ _ _ _ _ _ aP (k7 BH);have abv:bA (fun k=>ie k\/k=w.heap.size\/k=w.heap.size+1) bN O bN:=by
  refine⟨da.refl _ _,fun k ab=>?_,fun c aa=>?_,vS.apart⟩
  ·rw[fk]
   rcases ab with ab | ab | ab
   ·have:=BH k ab
    omega
   ·omega
   ·omega
  ·refine((vS.ok c aa).dY fun b ai=>(k7 (C:=fun k=>c.has k) fun k ab=>((vS.ok c aa).lt ab).2).block b ai).base fun b ai h=>?_
   have J:=(vS.ok c aa).lt ai
   rcases h with h | h | h
   ·exact J.1 h
   ·omega
   ·omega
 let D:=w.heap.size
 let id:=w.heap.size+1
 let eJ:List α->(Nat->Prop)->(Nat->Prop)->World->Prop:=fun r C b3 W=>∃ ie,(∀ k,C k ↔ ie k\/k=D\/k=id)/\¬ ie D/\¬ ie id/\I r ie b3 W/\W.heap[id]?=some (.loop (rec .ready none))/\W.heap[D]?=some (.deferred (some []))
 let gr:Unit->(Nat->Prop)->World->Prop:=fun _ C W=>∃ ie c,(∀ k,C k ↔ ie k\/k=D\/k=id)/\¬ ie D/\¬ ie id/\kK c ie W/\W.heap[id]?=some (.loop (rec .done (some c)))/\W.heap[D]?=some (.deferred (some []))
 have gw:∀ {C ie:Nat->Prop} {W dq:World},(∀ k,C k ↔ ie k\/k=D\/k=id)->da C W dq->da ie W dq:=fun dt h=>⟨h.os,h.tape,h.output,h.size,fun k ab=>h.block k ((dt k).2 (.inl ab))⟩
 refine⟨w.heap.size+1,[{ target:=.collected w.heap.size,args:=#[] }],bN,{ target:=.fn (.func gf) lb.toArray,args:=#[.func (.yield (w.heap.size+1)) #[] #[]] },bN,gf,
  #[.func (.yield (w.heap.size+1)) #[] #[]]++lb.toArray,bN,?_,?_,?_,?_,fun _=>by omega,?_⟩
 ·rw[<- tI,c1]; exact run_enterLoop_outer _ _ _ _ _
 ·simp only[resolve,aM]
  simp[go_sem]
 ·intro f' mZ
  exact trivial
 ·simp[invoke,go_sem,GH]
 ·refine(tH id eJ gr bN (k1.trans (k7 tJ)) cI ?_ ?_ ?_ ?_ ?_ ?_ (fun k=>ie k\/k=D\/k=id) ⟨ie,fun k=>Iff.rfl,fun h=>by have:=BH _ h; simp only[D]at this; omega,fun h=>by have:=BH _ h; simp only[id]at this; omega,abu,abr,abt⟩ abv).mono ?_
  ·rintro r C b3 W dq ⟨eX,dt,J,U,ae,aw,aF⟩ ab
   exact⟨eX,dt,J,U,gQ _ _ _ _ _ ae (gw dt ab),(ab.block _ ((dt _).2 (.inr (.inr rfl)))).trans aw,(ab.block _ ((dt _).2 (.inr (.inl rfl)))).trans aF⟩
  ·rintro r C W dq ⟨eX,c,dt,J,U,ae,aw,aF⟩ ab
   exact⟨eX,c,dt,J,U,vR _ _ _ _ ae (gw dt ab),(ab.block _ ((dt _).2 (.inr (.inr rfl)))).trans aw,(ab.block _ ((dt _).2 (.inr (.inl rfl)))).trans aF⟩
  ·rintro r C b3 W ⟨eX,dt,J,U,ae,aw,aF⟩ k ab
   rcases (dt k).1 ab with h | h | h
   ·exact br _ _ _ _ ae k h
   ·subst h; exact(Array.getElem?_eq_some_iff.1 aF).1
   ·subst h; exact(Array.getElem?_eq_some_iff.1 aw).1
  ·rintro r C W ⟨eX,c,dt,J,U,ae,aw,aF⟩ k ab
   rcases (dt k).1 ab with h | h | h
   ·exact yE _ _ _ ae k h
   ·subst h; exact(Array.getElem?_eq_some_iff.1 aF).1
   ·subst h; exact(Array.getElem?_eq_some_iff.1 aw).1
  ·rintro r C b3 W ⟨eX,dt,J,U,ae,aw,aF⟩ k ab
   exact(dt k).2 (.inl (n7 _ _ _ _ ae k ab))
  ·rintro x rest C b3 dS W vs ⟨eX,dt,GI,yF,hi,ag,ab⟩ lN nx
   have vT:id < W.heap.size:=(Array.getElem?_eq_some_iff.1 ag).1;have aV:=run_yield (P:=P) (args:=vs.toArray) ag (by rw[c1]; simp[jx _ _ x vs nx]);rw[c1]at aV;have GJ:¬ dS id:=fun h=>by
    rcases lN.new id h with h | ⟨h,_⟩
    ·exact yF (n7 _ _ _ _ hi id h)
    ·exact h ((dt id).2 (.inr (.inr rfl)))
   have abw:tG eX b3 dS W:=⟨lN.sub,fun k ab=>(lN.new k ab).imp_right fun⟨h,U⟩=>⟨fun aN=>h ((dt k).2 (.inl aN)),U⟩⟩
   refine⟨fn,_,assign,body,aV,roundIn_of_wpIn fP (wpIn_mono (abp id x rest vs eX b3 dS W (.loop { rec .ready none with state:=.busy }) vT yF GJ hi abw nx) ?_)⟩
   clear aV
   rintro gh a5 abx aF;cases gh with
   | normal=>?_
   | _=>exact False.elim aF
   refine⟨_,run_beginRound (aF.1.trans ag) (by rw[c1]),?_⟩;have sY:(W.putObj id (.loop { rec .ready none with state:=.busy })).heap[id]?=some (.loop { rec .ready none with state:=.busy }):=World.putObj_heap_same vT;have j5:(W.putObj id (.loop { rec .ready none with state:=.busy })).heap[D]?=some (.deferred (some [])):=(World.putObj_heap_other (by simp only[D,id]; omega)).trans ab;have GK:∀ k,dS k->k≠id/\k≠D:=fun k ab=>by
    rcases lN.new k ab with h | ⟨h,_⟩
    ·have:=n7 _ _ _ _ hi k h
     exact⟨fun e=>yF (e ▸ this),fun e=>GI (e ▸ this)⟩
    ·exact⟨fun e=>h ((dt k).2 (.inr (.inr e))),fun e=>h ((dt k).2 (.inr (.inl e)))⟩
   refine wpIn_mono aF.2 ?_;have GL:∀ {cP:Nat->Prop} {j7:World},Grow dS eX cP (W.putObj id (.loop { rec .ready none with state:=.busy })) j7->∀ (jump:Option Code),
     (Instr.endRound id jump).run P j7=.ok (.bool jump.isNone) (j7.putObj id (.loop (rec (if jump.isNone then .ready else .done) jump))) /\
     (j7.putObj id (.loop (rec (if jump.isNone then .ready else .done) jump))).heap[id]?=some (.loop (rec (if jump.isNone then .ready else .done) jump)) /\
     (j7.putObj id (.loop (rec (if jump.isNone then .ready else .done) jump))).heap[D]?=some (.deferred (some []))/\¬ cP D/\¬ cP id/\Grow dS C (fun k=>cP k\/k=D\/k=id) W (j7.putObj id (.loop (rec (if jump.isNone then .ready else .done) jump))):=fun {cP j7} j9 jump=>by
    have hid:id < (W.putObj id (.loop { rec .ready none with state:=.busy })).heap.size/\¬ eX id:=⟨by simpa using vT,yF⟩
    have Ob:D < (W.putObj id (.loop { rec .ready none with state:=.busy })).heap.size/\¬ eX D:=⟨by simp only[D,id]at vT ⊢; simp; omega,GI⟩
    have BI:=(j9.dY.block id (.inr hid)).trans sY;have rP:=(j9.dY.block D (.inr Ob)).trans j5;have he:=run_endRound (P:=P) jump BI;rw[c1]at he ⊢;refine⟨he,World.putObj_heap_same (Array.getElem?_eq_some_iff.1 BI).1,(World.putObj_heap_other (by simp only[D,id]; omega)).trans rP,fun h=>?_,fun h=>?_,⟨⟨?_,?_,?_,?_,fun k ab=>?_⟩,fun k ab=>?_⟩⟩
    ·rcases j9.new _ h with aN | aN | aN
     ·exact GI aN
     ·have:=Ob.1; omega
     ·exact(GK _ aN).2 rfl
    ·rcases j9.new _ h with aN | aN | aN
     ·exact yF aN
     ·have:=hid.1; omega
     ·exact(GK _ aN).1 rfl
    ·exact j9.dY.os
    ·exact j9.dY.tape
    ·exact j9.dY.output
    ·have:=j9.dY.size; simpa using this
    ·have cL:k≠id:=by
      rcases ab with ab | ab
      ·exact(GK k ab).1
      ·exact fun e=>ab.2 ((dt k).2 (.inr (.inr e)))
     refine(World.putObj_heap_other cL).trans ((j9.dY.block k ?_).trans (World.putObj_heap_other cL))
     rcases ab with ab | ab
     ·exact .inl ab
     ·exact .inr ⟨by simpa using ab.1,fun h=>ab.2 ((dt k).2 (.inl h))⟩
    ·rcases ab with ab | ab
     ·rcases j9.new k ab with aN | aN | aN
      ·exact .inl ((dt k).2 (.inl aN))
      ·exact .inr (.inl (by simpa using aN))
      ·exact .inr (.inr aN)
     ·exact .inl ((dt k).2 (.inr ab))
   rintro e a3 j7 ar;cases e with
   | normal=>
    obtain⟨cP,yG,j9⟩:=ar;obtain⟨aH,yH,yI,lC,kg,dy⟩:=GL j9 none;exact⟨_,_,aH,.inl ⟨rfl,_,⟨cP,fun k=>Iff.rfl,lC,kg,gQ _ _ _ _ _ yG (rZ kg),yH,yI⟩,dy⟩⟩
   | ret=>
    obtain⟨cP,yG,j9⟩:=ar;obtain⟨aH,yH,yI,lC,kg,dy⟩:=GL j9 (some .ret);exact⟨_,_,aH,.inr ⟨rfl,_,⟨cP,.ret,fun k=>Iff.rfl,lC,kg,vR _ _ _ _ yG (rZ kg),yH,yI⟩,dy⟩⟩
   | exit i=>
    obtain⟨cP,yG,j9⟩:=ar;obtain⟨aH,yH,yI,lC,kg,dy⟩:=GL j9 (some (.exit i));exact⟨_,_,aH,.inr ⟨rfl,_,⟨cP,.exit i,fun k=>Iff.rfl,lC,kg,vR _ _ _ _ yG (rZ kg),yH,yI⟩,dy⟩⟩
   | goto t=>exact ar.elim
   | panic Lf=>exact ar.elim
   | outgrown=>exact ar.elim
  ·rintro e lO ⟨⟨v,rfl⟩,cP,(⟨b3,eX,dt,J,U,hi,ag,ab⟩ | ⟨eX,c,dt,J,U,hi,ag,ab⟩)⟩
   ·exact⟨none,_,by have:=run_endLoop (P:=P) ag (by rw[c1]; simp); rw[c1]at this; exact this,nw _ eX b3 _ (Nat.le_refl _) J (gQ _ _ _ _ _ hi (rZ U)) ((World.putObj_heap_other (by simp only[D,id]; omega)).trans ab)⟩
   ·exact⟨some c,_,by have:=run_endLoop (P:=P) ag (by rw[c1]; simp); rw[c1]at this; exact this,lM _ c eX _ (Nat.le_refl _) J (vR _ _ _ _ hi (rZ U)) ((World.putObj_heap_other (by simp only[D,id]; omega)).trans ab)⟩
theorem aby{α:Type} {P:Program} {g:Operand} {ps:Array Tmp} {assign body:Code} {Q:Exit->Act->World->Prop} {a:Act} {w:World} {gf:Nat} {lb:List Value} {B:Nat->Prop} {ak:World} {O:List bd} {l:List α} {enc:(Nat->Prop)->World->α->List Value->Prop}
  (aM:a.eval g=.func (.func gf) #[] lb.toArray) (GH:∀ args w,(callFunc gf args).run P w=.ok (.enter gf args) w)
  (tH:GG P gf lb B ak O l enc) (k1:da B ak w) (cI:∀ k,B k->k < ak.heap.size) (jx:∀ dS W x vs,enc dS W x vs->vs.length=ps.size) (c4:∀ dS W dq x vs,da dS W dq->enc dS W x vs->enc dS dq x vs)
  (I:List α->(Nat->Prop)->(Nat->Prop)->World->Prop) (kK:Code->(Nat->Prop)->World->Prop) (gQ:yD I) (vR:yC kK) (br:∀ r C b3 W,I r C b3 W->∀ k,C k->k < W.heap.size) (n7:∀ r C b3 W,I r C b3 W->∀ k,b3 k->C k) (yE:∀ r C W,kK r C W->∀ k,C k->k < W.heap.size) (ie:Nat->Prop) (aP:I l ie B w) (vS:bA ie w O w)
  (rK:List Value->Act)
  (abz:∀ (id:Nat) (x:α) (vs:List Value) (W:World) (K:Act->World->Prop),vs.length=ps.size->K (rK vs) W ->
   assign.wpIn (Fence.wide.inRound id) 1 P (Exit.then K (fun _ _ _=>False)) { tmps:=(ps.zip vs.toArray).foldl (fun t (p,v)=>t.setIfInBounds p v) a.tmps,defers:=[] } W)
  (oK:∀ (id:Nat) (x:α) (rest:List α) (vs:List Value) (C b3 dS:Nat->Prop) (W:World),I (x :: rest) C b3 W->tG C b3 dS W->enc dS W x vs->body.wpIn (Fence.wide.inRound id) 1 P (N9 dS I kK rest C W) (rK vs) W)
  (nw:∀ (D:Nat) (C b3:Nat->Prop) (W:World),w.heap.size<=D->¬ C D->I [] C b3 W->W.heap[D]?=some (.deferred (some []))->Q .normal { a with defers:={ target:=.collected D,args:=#[] } :: a.defers } W)
  (lM:∀ (D:Nat) (c:Code) (C:Nat->Prop) (W:World),w.heap.size<=D->¬ C D->kK c C W->W.heap[D]?=some (.deferred (some []))->c.wpIn Fence.wide 2 P Q { a with defers:={ target:=.collected D,args:=#[] } :: a.defers } W) :
  (Code.rangeFunc g ps assign body).wpIn Fence.wide 2 P Q a w:=Oa aM GH tH k1 cI jx c4 I kK gQ vR br n7 yE ie aP vS (fun id x rest vs C b3 dS W o hid dt Oc hi lN nx=>by
  refine abz id x vs W _ (jx _ _ x vs nx) ⟨rfl,?_⟩;have cL:∀ k,dS k->k≠id:=fun k ab e=>Oc (e ▸ ab)
  exact oK _ x rest vs C b3 dS _ (gQ _ _ _ _ _ hi (rZ dt)) ⟨lN.sub,fun k ab=>(lN.new k ab).imp_right fun⟨h,cs,e,dH,U⟩=>⟨h,cs,e,dH,(World.putObj_heap_other (cL k ab)).trans U⟩⟩ (c4 _ _ _ _ _ (rZ fun h=>Oc h) nx)) nw lM
section
theorem bp.split{env:Nat->Loc} {B:Nat->Prop} {w:World}:∀ {l l':bo} {H:List bd},bp env B w (l++l') H->∃ H1 H2,H=H1++H2/\bp env B w l H1/\bp env B w l' H2
 | [],_,H,h=>⟨[],H,rfl,rfl,h⟩
 | (_,_) :: l,_,_,⟨c,H',e,J,U⟩=>by
  obtain⟨H1,H2,a7,hY,hv⟩:=bp.split U;exact⟨c :: H1,H2,by rw[e,a7]; rfl,⟨c,H1,rfl,J,hY⟩,hv⟩
def tK{α:Type} (X:bl) (gf:FuncId) (fK:List e8) (ar:bo) (l:List α) (kL:α->List bf):Prop:=
 ∀ (B:Nat->Prop) (w:World) (lb:List Value) (env:Nat->Loc) (O:List bd),(∀ k,B k->k < w.heap.size)->uT X B w->e9 env B w fK lb->bp env B w ar O->GG X.P gf lb B w O l (fun dS W x vs=>dx (fun _=>.no) dS W (kL x) vs)
def kM(R B:Nat->Prop) (H:List bd) (ks:List Nat) (k:Nat):Prop:=R k\/B k\/∃ c∈H++ks.map c7,c.has k
section
variable {X:bl} {R:Nat->Prop} {W:World} {aD:e5} {n:Nat} {ks:List Nat} {env:Nat->Loc} {B:Nat->Prop} {ak:World} {H:List bd} {st:aK} {a:Act} {w:World}
theorem bB.GM{dq:World} (h:bB X R W aD n ks env B ak H st a w) (ab:da (kM R B H ks) w dq):bB X R W aD n ks env B ak H st a dq:=
 ⟨h.size,h.defs,h.has,h.heap,⟨h.aJ.below.trans ⟨ab.os,ab.tape,ab.output,ab.size,fun k au=>ab.block k (au.elim .inl fun h=>.inr (.inl h))⟩,fun k au=>Nat.lt_of_lt_of_le (h.aJ.base k au) ab.size,fun c aa=>(h.aJ.ok c aa).dY fun b e=>ab.block b (.inr (.inr ⟨c,aa,e⟩)),h.aJ.apart⟩,h.sub,h.new,h.dj,h.base,h.dT⟩
theorem bB.now(h:bB X R W aD n ks env B ak H st a w):bB X R W aD n ks env B w H st a w:=by
 have c4:fv B ak B w:=⟨fun _ h=>h,fun k ab=>h.aJ.below.block k (.inr ab)⟩
 refine⟨h.size,h.defs,fun s sv al=>?_,h.heap.up c4,⟨da.refl _ _,h.aJ.base,h.aJ.ok,h.aJ.apart⟩,h.sub,fun k ab=>(h.new k ab).imp_right fun J=>⟨J.1,J.2.dY (h.aJ.below.block k (.inr ab))⟩,h.dj,h.base.trans ⟨h.aJ.below.os,h.aJ.below.tape,h.aJ.below.output,h.aJ.below.size,fun k ab=>h.aJ.below.block k (.inl ab)⟩,fun i x ao=>(h.dT i x ao).up c4⟩;obtain⟨v,J,U⟩:=h.has s sv al;exact⟨v,J,U.up c4⟩
theorem bB.Od{dS:Nat->Prop} (h:bB X R W aD n ks env B w H st a w) (cI:∀ k,dS k->B k\/(¬ kM R B H ks k/\p4 w k)):bB X R W aD n ks env (fun k=>B k\/dS k) w H st a w:=by
 have c4:fv B w (fun k=>B k\/dS k) w:=⟨fun _ h=>.inl h,fun k ab=>rfl⟩
 have br:∀ k,dS k->k < w.heap.size:=fun k ab=>by
  rcases cI k ab with J | ⟨_,cs,e,dH,U⟩
  ·exact h.aJ.base k (.inr J)
  ·exact(Array.getElem?_eq_some_iff.1 U).1
 refine⟨h.size,h.defs,fun s sv al=>?_,h.heap.up c4,⟨da.refl _ _,fun k ab=>?_,fun c aa=>(h.aJ.ok c aa).base fun b ai ab=>?_,h.aJ.apart⟩,fun k ab=>.inl (h.sub k ab),fun k ab=>?_,h.dj,h.base,fun i x ao=>(h.dT i x ao).up c4⟩
 ·obtain⟨v,J,U⟩:=h.has s sv al
  exact⟨v,J,U.up c4⟩
 ·rcases ab with ab | ab | ab
  ·exact h.aJ.base k (.inl ab)
  ·exact h.aJ.base k (.inr ab)
  ·exact br k ab
 ·have ib:=((h.aJ.ok c aa).lt ai).1
  rcases ab with ab | ab | ab
  ·exact ib (.inl ab)
  ·exact ib (.inr ab)
  ·rcases cI b ab with J | ⟨J,_⟩
   ·exact ib (.inr J)
   ·exact J (.inr (.inr ⟨c,aa,ai⟩))
 ·rcases ab with ab | ab
  ·exact h.new k ab
  ·rcases cI k ab with J | ⟨J,U⟩
   ·exact h.new k J
   ·exact .inr ⟨fun aH=>J (.inl aH),U⟩
theorem bB.BJ(h:bB X R W aD n ks env B ak H st a w):∀ k,kM R B H ks k->k < w.heap.size:=fun k ab=>by
 rcases ab with ab | ab | ⟨c,aa,e⟩
 ·exact h.aJ.base k (.inl ab)
 ·exact h.aJ.base k (.inr ab)
 ·exact((h.aJ.ok c aa).lt e).2
end
def gz(X:bl) (M:Bool) (n:Nat) (st st':aK):Prop:=∀ R W aD a w,kC X R W aD M n st a w->kC X R W aD M n st' a w
theorem cA.m{X:bl} {M:Bool} {n:Nat} {st st':aK} (h:cA X n st st'):gz X M n st st':=fun R W aD a w ad=>h _ _ _ _ _ _ ad
theorem gz.refl{X:bl} {M:Bool} {n:Nat} (st:aK):gz X M n st st:=fun _ _ _ _ _ h=>h
theorem gz.trans{X:bl} {M:Bool} {n:Nat} {a b c:aK} (h:gz X M n a b) (k:gz X M n b c):gz X M n a c:=fun R W aD x w ad=>k _ _ _ _ _ (h _ _ _ _ _ ad)
theorem bB.put{X:bl} {R:Nat->Prop} {W:World} {aD:e5} {n:Nat} {env:Nat->Loc} {B:Nat->Prop} {ak:World} {H:List bd} {st:aK} {a:Act} {w:World} {id:Nat} (h:bB X R W aD n [] env B ak H st a w) (hid:R id) (ai:¬ aD.b id) (br:id < W.heap.size) (o:Obj):bB X R (W.putObj id o) aD n [] env B (ak.putObj id o) H st a (w.putObj id o):=by
 have cI:∀ k,B k->k≠id:=fun k ab e=>by
  subst e
  rcases h.new _ ab with J | J
  ·exact ai J
  ·exact J.1 hid
 have GN:=Nat.lt_of_lt_of_le br h.base.size;have vT:=Nat.lt_of_lt_of_le GN h.aJ.below.size;have c4:fv B ak B (ak.putObj id o):=⟨fun _ h=>h,fun k ab=>World.putObj_heap_other (cI k ab)⟩
 have key:∀ {v e0:World} (k:Nat),id < v.heap.size->id < e0.heap.size->e0.heap[k]?=v.heap[k]?->(e0.putObj id o).heap[k]?=(v.putObj id o).heap[k]?:=fun {v e0} k J U ae=>by
  by_cases e:k=id
  ·subst e
   rw[World.putObj_heap_same J,World.putObj_heap_same U]
  ·rw[World.putObj_heap_other e,World.putObj_heap_other e,ae]
 refine⟨h.size,h.defs,fun s sv al=>?_,h.heap.up c4,⟨⟨h.aJ.below.os,h.aJ.below.tape,h.aJ.below.output,by simpa using h.aJ.below.size,fun k ab=>key k GN vT (h.aJ.below.block k ab)⟩,fun k ab=>by simpa using h.aJ.base k ab,fun c aa=>(h.aJ.ok c aa).dY fun b e=>World.putObj_heap_other fun a7=>((h.aJ.ok c aa).lt e).1 (.inl (a7 ▸ hid)),h.aJ.apart⟩,h.sub,fun k ab=>(h.new k ab).imp_right fun J=>⟨J.1,J.2.dY (World.putObj_heap_other (cI k ab))⟩,h.dj,⟨h.base.os,h.base.tape,h.base.output,by simpa using h.base.size,fun k ab=>key k br GN (h.base.block k ab)⟩,fun i x ao=>(h.dT i x ao).up c4⟩;obtain⟨v,J,U⟩:=h.has s sv al;exact⟨v,J,U.up c4⟩
theorem abA{X:bl} {M:Bool} {n id:Nat} {c:Code} {ms:List (Nat×Nat)} {L:cJ} {H:bo} {P:aK->Prop} (n8:lf n c ms) (lY:lI n (ms.map (·.1))=true) (vP:P ⟨qi ms L,H⟩):gm X M n (some id) c ⟨L,H⟩ (fun e s=>e=.normal/\P s):=fun R W aD a w ⟨ks,env,B,ak,pF,b2,ad⟩=>by
 have cB:=Has.c5 (ms:=ms) (L:=L) (tmps:=a.tmps) (n:=n) (env:=env) (B:=B) (w:=ak) ⟨ad.size,ad.has⟩ lY;exact lf.ok (l:=id) n8 ⟨_,⟨rfl,vP⟩,ks,env,B,ak,pF,b2,cB.size,ad.defs,cB.has,ad.heap,ad.aJ,ad.sub,ad.new,ad.dj,ad.base,ad.dT⟩
theorem Oe{α β:Type} {X:bl} {n:Nat} {st:aK} {Q:Exit->aK->Prop} {g:Operand} {pl:List Nat} {assign body:Code} {gf:FuncId} {fn:Func} {fK:List e8} {kL:α->List bf} {l:List α} {b:Bool} {ar eY:bo}
  (aM : bj X st.L g = some (b, .c (.fn gf fK))) (ai : b = true) (fP : X.P.funcs[gf]? = some fn) (qH : (fn.name == "runtime.NumGoroutine") = false) (qI : fn.body.isNone = false) (mb : tK X gf fK ar l kL) (hlen : ∀ x, (kL x).length = pl.length) (gX : lI n pl = true) (bk : Nat.ble n hx = true)
  (fW:β->bo) (bI:List α->β->Prop) (kN:Exit->bo->Prop) (hG:β) (aP:bI l hG) (dZ:st.H=ar++eY) (dO:∀ {env:Nat->Loc} {B:Nat->Prop} {w:World} {H:List bd},bp env B w eY H->∃ H' Y,H.Perm (H'++Y)/\bp env B w (fW hG) H')
  (oK:∀ id x rest y,bI (x :: rest) y->gm X false n (some id) assign ⟨rE pl (kL x) (fA (gx n) st.L),fW y⟩ (fun hl qC=>hl=.normal/\gm X false n (some id) body qC (fun e s=>(e=.normal/\∃ mi,bI rest mi/\∃ dR,gz X false n s ⟨dR,fW mi⟩)\/(e≠.normal/\AJ e=true/\∃ aN,kN e aN/\∃ dR,gz X false n s ⟨dR,aN⟩))))
  (nw:∀ y,bI [] y->Q .normal ⟨fA (gx n) st.L,fW y⟩)
  (lM:∀ e aN,kN e aN->Q e ⟨fA (gx n) st.L,aN⟩):gm X true n none (.rangeFunc g pl.toArray assign body) st Q:=by
 intro R W aD a w hH;obtain⟨ks,env,B,ak,pF,b2,eV⟩:=hH;have yJ:=eV.heap;rw[dZ]at yJ;obtain⟨O,H2,GO,hY,hv⟩:=bp.split (l:=ar) yJ;obtain⟨H,Y,Ba,pn⟩:=dO hv;subst GO;have ad:bB X R W aD n ks env B ak (O++H) ⟨st.L,ar++fW hG⟩ a w:=by
  refine⟨eV.size,eV.defs,eV.has,hY.append pn,?_,eV.sub,eV.new,eV.dj,eV.base,eV.dT⟩;have au:((O++H2)++ks.map c7).Perm (((O++H)++ks.map c7)++Y):=by
   refine((Ba.append_left O).append_right _).trans ?_;simp only[List.append_assoc];exact((List.perm_append_comm).append_left H).append_left O
  exact(eV.aJ.perm au).er (List.sublist_append_left _ _)
 obtain⟨a8,c3,lb,rfl,dy⟩:=eV.aB aM ai;have hH:=ad.LJ;have qJ:fv B ak B w:=⟨fun _ h=>h,fun k ab=>ad.aJ.below.block k (.inr ab)⟩
 have tJ:∀ k,B k->k < w.heap.size:=fun k ab=>ad.aJ.base k (.inr ab)
 have tH:=mb B w lb env O tJ (fun i x ao=>(ad.dT i x ao).up qJ) (dy.up qJ) (hY.up qJ);have aiD:∀ k,R k\/B k->k < w.heap.size:=fun k ab=>ad.aJ.base k ab
 have aiE:∀ k∈ks,k < w.heap.size:=fun k ab=>((ad.aJ.ok (c7 k) (List.mem_append_right _ (List.mem_map.2 ⟨k,ab,rfl⟩))).lt rfl).2
 have hj:=Nat.le_of_ble_eq_true bk;have qe:(H++ks.map c7).Sublist ((O++H)++ks.map c7):=by
  rw[List.append_assoc];exact List.sublist_append_right _ _
 have GP:bA (kM (fun k=>R k\/B k) B H ks) w O w:=by
  have kX:=ad.aJ.apart;rw[List.append_assoc,List.pairwise_append]at kX;refine⟨da.refl _ _,fun k ab=>?_,fun c aa=>?_,kX.1⟩
  ·rcases ab with ab | ab | ⟨c,aa,e⟩
   ·exact ad.aJ.base k ab
   ·exact ad.aJ.base k (.inr ab)
   ·exact((ad.aJ.ok c (qe.subset aa)).lt e).2
  ·have gI:=ad.aJ.ok c (List.mem_append_left _ (List.mem_append_left _ aa))
   refine gI.base fun b ai ab=>?_
   rcases ab with ab | ab | ⟨c',eT,e⟩
   ·exact(gI.lt ai).1 ab
   ·exact(gI.lt ai).1 (.inr ab)
   ·exact kX.2.2 c aa c' eT b ai e
 let kW:=fA (gx n) st.L
 let mj:Nat->Prop:=fun k=>R k\/B k
 let In:bo->(Nat->Prop)->(Nat->Prop)->World->Prop:=fun h C b3 dq=>∃ env' B' cy H',bB X mj w ⟨B,l3 n env,aD.d⟩ n ks env' B' cy H' ⟨kW,h⟩ a dq/\C=kM mj B' H' ks/\∀ k,b3 k->B' k
 let I:List α->(Nat->Prop)->(Nat->Prop)->World->Prop:=fun r C b3 dq=>∃ y,bI r y/\In (fW y) C b3 dq
 let kK:Code->(Nat->Prop)->World->Prop:=fun c C dq=>∃ e aN b3,LI e=some c/\kN e aN/\In aN C b3 dq
 have yK:∀ h C b3 bN lO,In h C b3 bN->da C bN lO->In h C b3 lO:=by
  rintro h C b3 bN lO ⟨env',B',cy,H',J,rfl,U⟩ ab;exact⟨env',B',cy,H',J.GM ab,rfl,U⟩
 have yL:∀ {B':Nat->Prop} {cy:World} {env':Nat->Loc},(∀ k,B k->B' k)->(∀ k,B k->cy.heap[k]?=w.heap[k]?)->(∀ id l,l3 n env id l->env' id=l)->∀ s sv,aS kW s=some sv->∃ v,a.tmps[s]?=some v/\ey env' B' cy sv v:=by
  intro B' cy env' cI hw he s sv al;obtain⟨u,J,rfl⟩:=sS al;obtain⟨v,U,ae⟩:=hH.has s u J;exact⟨v,U,ey.de (LF (fun id l aw aF aW=>he id l ⟨aw,aF,aW⟩) hj) (ae.up ⟨cI,hw⟩)⟩
 have yM:∀ {h:bo} {C b3:Nat->Prop} {bN:World} (k:Nat),w.heap.size<=k->¬ C k->bN.heap[k]?=some (.deferred (some []))->In h C b3 bN->kC X R W aD true n ⟨kW,h⟩ { a with defers:={ target:=.collected k,args:=#[] } :: a.defers } bN:=by
  rintro h C b3 bN k ab r0 ax ⟨env',B',cy,H',J,rfl,_⟩;refine⟨k :: ks,env',B',cy,H',⟨(fun h=>by cases h),b2.2⟩,ad.T6 ?_⟩;have ox:(c7 k :: (H'++ks.map c7)).Perm (H'++(k :: ks).map c7):=by
   rw[List.map_cons];exact List.perm_middle.symm
  have dU:bA (fun q=>(R q\/B q)\/B' q) cy (c7 k :: (H'++ks.map c7)) bN:=by
   refine⟨J.aJ.below,J.aJ.base,fun c aa=>?_,List.Pairwise.cons (fun c aa q aC a7=>?_) J.aJ.apart⟩
   ·rcases List.mem_cons.1 aa with rfl | aa
    ·exact⟨fun au=>r0 (au.elim .inl fun h=>.inr (.inl h)),ax⟩
    ·exact J.aJ.ok c aa
   ·have:k=q:=Option.some.inj aC
    subst this;exact r0 (.inr (.inr ⟨c,aa,a7⟩))
  refine⟨J.size,congrArg (List.cons (sr k)) J.defs,J.has,J.heap,dU.perm ox,J.sub,J.new,J.dj,J.base,J.dT⟩
 have c4:∀ (c:Code) (m:Nat) (Q:Exit->Act->World->Prop) a w,c.wpIn Fence.wide m X.P Q a w ↔ c.wpIn Fence.wide 0 X.P Q a w:=fun c m Q a w=>wpIn_wide.trans wpIn_wide.symm
 have yN:∀ (id:Nat) (c:Code) (m:Nat) (Q:Exit->Act->World->Prop) a w,c.wpIn (Fence.wide.inRound id) 0 X.P Q a w->c.wpIn (Fence.wide.inRound id) m X.P Q a w:=fun id c m Q a w h=>by
  intro b k cs sX ai aH;exact h b k cs sX ai (fun _ h=>by cases h)
 refine(c4 _ 2 _ _ _).1 ?_;have GQ:∀ vs:List Value,(pl.toArray.zip vs.toArray).foldl (fun t (p,v)=>t.setIfInBounds p v) a.tmps=(pl.zip vs).foldl (fun t (p,v)=>t.setIfInBounds p v) a.tmps:=fun x=>by
  rw[<- Array.foldl_toList,Array.toList_zip]
 refine Oa (gf:=gf) (lb:=lb) (ad.bK.aB c3) (fun args w=>Kj fP qH qI) tH (da.refl _ _) tJ (fun dS lO x vs h=>by have:=dx.length h; rw[hlen x]at this; simpa using this) (fun dS lO j7 x vs ab h=>dx.up ⟨fun _ h=>h,fun k au=>ab.block k au⟩ h)
  I kK ?_ ?_ ?_ ?_ ?_ (kM mj B H ks) ?_ GP ?_ ?_ ?_
 ·rintro r C b3 bN lO ⟨y,aV,J⟩ ab
  exact⟨y,aV,yK _ _ _ _ _ J ab⟩
 ·rintro c C bN lO ⟨e,aN,b3,he,ml,J⟩ ab
  exact⟨e,aN,b3,he,ml,yK _ _ _ _ _ J ab⟩
 ·rintro r C b3 bN ⟨y,aV,env',B',cy,H',J,rfl,_⟩
  exact J.BJ
 ·rintro r C b3 bN ⟨y,aV,env',B',cy,H',J,rfl,U⟩ k ab
  exact .inr (.inl (U k ab))
 ·rintro c C bN ⟨e,aN,b3,he,ml,env',B',cy,H',J,rfl,_⟩
  exact J.BJ
 ·exact⟨hG,aP,env,B,w,H,⟨hH.size,hH.defs,yL (fun _ h=>h) (fun _ _=>rfl) (fun _ _ h=>h.2.1),pn.up qJ,hH.aJ.er qe,hH.sub,hH.new,hH.dj,hH.base,hH.dT⟩,rfl,fun _ h=>h⟩
 ·rintro id x rest vs C b3 dS W o hid Of GJ ⟨y,aV,pG,dk,b7,H1,aP,rfl,n7⟩ lN nx
  rw[GQ];obtain⟨fp,vU⟩:∃ fp:Nat->Prop,fp=fun k=>dk k\/dS k:=⟨_,rfl⟩
  have yO:bB X mj w ⟨B,l3 n env,aD.d⟩ n ks pG fp W H1 ⟨kW,fW y⟩ a W:=by
   rw[vU];exact aP.now.Od fun k ab=>(lN.new k ab).imp (fun h=>n7 k h) fun⟨h,U⟩=>⟨h,U⟩
  have rv:∀ k,kM mj fp H1 ks k->kM mj dk H1 ks k\/dS k:=fun k ab=>by
   rcases ab with ab | ab | ab
   ·exact .inl (.inl ab)
   ·rw[vU]at ab
    exact ab.imp (fun h=>.inr (.inl h)) fun h=>h
   ·exact .inl (.inr (.inr ab))
  have tL:∀ k,dS k->fp k:=fun k ab=>by rw[vU]; exact .inr ab
  have Og:¬ kM mj fp H1 ks id:=fun h=>(rv id h).elim Of GJ
  clear aP
  have aiF:bA (fun k=>mj k\/fp k) W H1 W:=yO.aJ.er (List.sublist_append_left _ _);have abB:Has n pG fp W kW a.tmps:=⟨ad.size,fun s sv al=>by
   obtain⟨v,U,ae⟩:=yO.has s sv al;exact⟨v,U,ae.up ⟨fun _ h=>h,fun k ab=>yO.aJ.below.block k (.inr ab)⟩⟩⟩
  have abC:=yO.round (Has.par abB gX ((dx.any nx).up ⟨tL,fun _ _=>rfl⟩));have GR:fO W H1 id:=⟨hid,fun c aa e=>Of (.inr (.inr ⟨c,List.mem_append_left _ aa,e⟩))⟩
  have abD:=oK id x rest y aV _ _ _ _ _ ⟨[],pG,fp,W,H1,⟨fun _=>rfl,fun h=>by cases h⟩,abC⟩;refine wpIn_mono (yN _ _ 1 _ _ _ abD) ?_;rintro gh a5 abx ⟨aiG,⟨rfl,abE⟩,aiH,abF,abG,aiI,abH,Oh,aF⟩;have abI:=Oh.1 rfl;subst abI;refine⟨(aF.aJ.below.block id (.inl GR)).trans (aF.base.block id GR),?_⟩;have te:=(yO.GM (rZ (W:=W) (o:=o) Og)).now;have xS:=aF.put GR (fun h=>Og (.inr (.inl h))) hid o;have abJ:fO W H1=fO (W.putObj id o) H1:=funext fun k=>by simp[fO]
  rw[abJ]at xS;obtain⟨bN,tI⟩:∃ bN,bN=W.putObj id o:=⟨_,rfl⟩
  rw[<- tI]at te xS ⊢;have J:bB X mj w ⟨B,l3 n env,aD.d⟩ n ks pG fp bN H1 ⟨kW,fW y⟩ a bN:=te;have fk:bA (fun k=>mj k\/fp k) bN H1 bN:=J.aJ.er (List.sublist_append_left _ _);have Oi:fv fp bN fp bN:=⟨fun _ h=>h,fun k ab=>J.aJ.below.block k (.inr ab)⟩
  have abK:∀ k,B k->bN.heap[k]?=w.heap[k]?:=fun k ab=>(J.aJ.below.block k (.inl (.inr ab))).trans (J.base.block k (.inr ab))
  have GS:=abE _ _ _ _ _ ⟨[],abF,abG,_,abH,Oh,xS⟩;refine wpIn_mono (yN _ _ 1 _ _ _ GS) ?_;rintro e a3 j7 ⟨s,al,U⟩;have ia:∀ k,mj k\/fp k->fO bN H1 k:=fun k ab=>⟨fk.base k ab,fun c aa e=>((fk.ok c aa).lt e).1 ab⟩
  have key:∀ aN dR,gz X false n s ⟨dR,aN⟩->∃ cP,In aN cP dS j7/\Grow dS (kM mj dk H1 ks) cP bN j7:=by
   intro aN dR hw;obtain⟨abL,BK,r1,lL,BL,GU,ae⟩:=hw _ _ _ _ _ U
   have:=GU.1 rfl
   subst this;have k8:∀ k,fO bN H1 k->j7.heap[k]?=bN.heap[k]?:=fun k ab=>(ae.aJ.below.block k (.inl ab)).trans (ae.base.block k ab)
   have aw:=J.T7 ae (L:=kW) (yL (fun k ab=>ae.sub k (J.sub k ab)) (fun k ab=>(ae.base.block k (ia k (.inl (.inr ab)))).trans (abK k ab)) (fun id l ar=>(ae.dj id l ⟨(J.dj id l ar).1,(J.dj id l ar).2.1,(J.dj id l ar).2.2⟩).2.1));have j8:=ae.aJ;simp only[List.map_nil,List.append_nil]at j8;refine⟨_,⟨BK,r1,lL,BL,aw,rfl,fun k ab=>ae.sub k (tL k ab)⟩,⟨⟨ae.aJ.below.os.trans ae.base.os,ae.aJ.below.tape.trans ae.base.tape,ae.aJ.below.output.trans ae.base.output,Nat.le_trans ae.base.size ae.aJ.below.size,fun k ab=>?_⟩,fun k ab=>?_⟩⟩
   ·rcases ab with ab | ⟨iu,j5⟩
    ·exact k8 k (ia k (.inr (tL k ab)))
    ·exact k8 k ⟨iu,fun c aa e=>j5 (.inr (.inr ⟨c,List.mem_append_left _ aa,e⟩))⟩
   ·by_cases br:bN.heap.size<=k
    ·exact .inr (.inl br)
    ·have nk:kM mj fp H1 ks k->kM mj dk H1 ks k\/bN.heap.size<=k\/dS k:=fun h=>(rv k h).imp_right .inr
     apply nk
     have GV:k < bN.heap.size:=by omega
     by_cases iu:kM mj fp H1 ks k
     ·exact iu
     ·exfalso
      have tM:fO bN H1 k:=⟨GV,fun c aa e=>iu (.inr (.inr ⟨c,List.mem_append_left _ aa,e⟩))⟩
      rcases ab with ab | ab | ⟨c,aa,e⟩
      ·exact iu (.inl ab)
      ·rcases ae.new k ab with aF | aF
       ·exact iu (.inr (.inl aF))
       ·exact aF.1 tM
      ·rcases List.mem_append.1 aa with aa | aa
       ·exact((j8.ok c aa).lt e).1 (.inl tM)
       ·exact iu (.inr (.inr ⟨c,List.mem_append_right _ aa,e⟩))
  rcases al with⟨rfl,mi,iS,dR,hw⟩ | ⟨cL,hex,aN,ml,dR,hw⟩
  ·obtain⟨cP,aF,aW⟩:=key _ _ hw
   exact⟨cP,⟨mi,iS,aF⟩,aW⟩
  ·obtain⟨cP,aF,aW⟩:=key _ _ hw
   cases e with
   | normal=>exact absurd rfl cL
   | ret=>exact⟨cP,⟨.ret,aN,_,rfl,ml,aF⟩,aW⟩
   | exit i=>exact⟨cP,⟨.exit i,aN,_,rfl,ml,aF⟩,aW⟩
   | goto t=>cases hex
   | panic c=>cases hex
   | outgrown=>cases hex
 ·rintro k C b3 bN ab dt ⟨y,aV,J⟩ ax
  exact⟨_,nw y aV,yM k ab dt ax J⟩
 ·rintro k c C bN ab dt ⟨e,aN,b3,he,ml,J⟩ ax
  have yP:=yM k ab dt ax J;have au:=lM e aN ml;cases e with
  | ret=>cases he; exact wpIn_ret ⟨_,au,yP⟩
  | exit id=>cases he; exact(c4 _ 2 _ _ _).2 (DN ⟨_,au,yP⟩)
  | normal=>cases he
  | goto t=>cases he
  | panic c=>cases he
  | outgrown=>cases he
theorem abM{α β:Type} {X:bl} {n:Nat} {st:aK} {Q:Exit->aK->Prop} {g:Operand} {pl:List Nat} {assign body:Code} {gf:FuncId} {fn:Func} {fK:List e8} {kL:α->List bf} {l:List α} {b:Bool} {ms:List (Nat×Nat)} {ar eY:bo}
  (aM : bj X st.L g = some (b, .c (.fn gf fK))) (ai : b = true) (fP : X.P.funcs[gf]? = some fn) (qH : (fn.name == "runtime.NumGoroutine") = false) (qI : fn.body.isNone = false) (mb : tK X gf fK ar l kL) (hlen : ∀ x, (kL x).length = pl.length) (gX : lI n pl = true) (n8 : lf n assign ms) (lY : lI n (ms.map (·.1)) = true) (bk : Nat.ble n hx = true)
  (fW:β->bo) (bI:List α->β->Prop) (kN:Exit->bo->Prop) (hG:β) (aP:bI l hG) (dZ:st.H=ar++eY) (dO:∀ {env:Nat->Loc} {B:Nat->Prop} {w:World} {H:List bd},bp env B w eY H->∃ H' Y,H.Perm (H'++Y)/\bp env B w (fW hG) H')
  (oK:∀ id x rest y,bI (x :: rest) y->gm X false n (some id) body ⟨qi ms (rE pl (kL x) (fA (gx n) st.L)),fW y⟩ (fun e s=>(e=.normal/\∃ mi,bI rest mi/\∃ dR,gz X false n s ⟨dR,fW mi⟩)\/(e≠.normal/\AJ e=true/\∃ aN,kN e aN/\∃ dR,gz X false n s ⟨dR,aN⟩)))
  (nw:∀ y,bI [] y->Q .normal ⟨fA (gx n) st.L,fW y⟩)
  (lM:∀ e aN,kN e aN->Q e ⟨fA (gx n) st.L,aN⟩):gm X true n none (.rangeFunc g pl.toArray assign body) st Q:=Oe aM ai fP qH qI mb hlen gX bk fW bI kN hG aP dZ dO (fun id x rest y aV=>abA n8 lY (oK id x rest y aV)) nw lM
end
section
structure gu(X:bl) (M:Bool) (n:Nat) (rr:Option Nat) (ba:Type) where
 In:ba->aK->Act->World->Prop
 frame:∀ {c:Code} {st:aK} {Q:Exit->aK->Prop} {r:ba} {a:Act} {w:World},gm X M n rr c st Q->In r st a w->ky rr X.P c (fun e a w=>∃ s,Q e s/\In r s a w) a w
 step:∀ {ops:List Oper} {o:Oper} {st st':aK} {r:ba} {a:Act} {w:World},yn X n ops o st st'->In r st a w->∀ {KK:Act->World->Prop},(∀ a w,In r st' a w->KK a w)->e3 X.P ops.toArray o KK a w
 er:∀ {st st':aK} {r:ba} {a:Act} {w:World},gz X M n st st'->In r st a w->In r st' a w
 vV:∀ {st:aK} {r:ba} {a:Act} {w:World},In r st a w->∃ R W aD ks env B ak H,bB X R W aD n ks env B ak H st a w
variable {X:bl} {M:Bool} {n:Nat} {rr:Option Nat} {ba:Type}
def gu.BM(R:Nat->Prop) (W:World) (aD:e5) (fE:ba):gu X M n rr ba where
 In r st a w:=r=fE/\kC X R W aD M n st a w
 frame h hi:=wpIn_mono (h R W aD _ _ hi.2) fun _ _ _ ⟨s,J,U⟩=>⟨s,J,hi.1,U⟩
 step h hi KK bT:=by
  obtain⟨aP,ks,env,B,ak,H,b2,ad⟩:=hi;exact h R W aD ks env B ak H _ _ ad _ fun aQ w' env' B' cy H' bW=>bT _ _ ⟨aP,ks,env',B',cy,H',b2,bW⟩
 er h hi:=⟨hi.1,h _ _ _ _ _ hi.2⟩
 vV hi:=by
  obtain⟨_,ks,env,B,ak,H,_,ad⟩:=hi;exact⟨_,_,_,_,_,_,_,_,ad⟩
def gu.const{bn:Type} (Γ:gu X M n rr ba) (r:ba) (d0:bn):gu X M n rr bn where
 In d st a w:=d=d0/\Γ.In r st a w
 frame h hi:=wpIn_mono (Γ.frame h hi.2) fun _ _ _ ⟨s,J,U⟩=>⟨s,J,hi.1,U⟩
 step h hi KK bT:=Γ.step h hi.2 fun a w h=>bT a w ⟨hi.1,h⟩
 er h hi:=⟨hi.1,Γ.er h hi.2⟩
 vV hi:=Γ.vV hi.2
def hR(Γ:gu X M n rr ba) (c:Code) (r:ba) (st:aK) (Q:Exit->aK->ba->Prop):Prop:=∀ a w,Γ.In r st a w->ky rr X.P c (fun e a w=>∃ s cE,Q e s cE/\Γ.In cE s a w) a w
section
variable {Γ:gu X M n rr ba} {c fe cz:Code} {r:ba} {st st':aK} {Q xi:Exit->aK->ba->Prop}
theorem tN{Q:Exit->aK->Prop} (h:gm X M n rr c st Q):hR Γ c r st (fun e s cE=>Q e s/\cE=r):=fun a w hi=>wpIn_mono (Γ.frame h hi) fun _ _ _ ⟨s,J,U⟩=>⟨s,r,⟨J,rfl⟩,U⟩
theorem kr(h:hR Γ c r st Q) (au:∀ e s cE,Q e s cE->xi e s cE):hR Γ c r st xi:=fun a w hi=>wpIn_mono (h a w hi) fun _ _ _ ⟨s,cE,J,U⟩=>⟨s,cE,au _ _ _ J,U⟩
theorem BN{bn:Type} {d0:bn} {Q:Exit->aK->bn->Prop} (h:hR (Γ.const r d0) c d0 st Q):hR Γ c r st (fun e s cE=>cE=r/\Q e s d0):=fun a w hi=>wpIn_mono (h a w ⟨rfl,hi⟩) fun _ _ _ ⟨s,d,J,U,ae⟩=>⟨s,r,⟨rfl,U ▸ J⟩,ae⟩
theorem vW(hw:gz X M n st st') (h:hR Γ c r st' Q):hR Γ c r st Q:=fun a w hi=>h a w (Γ.er hw hi)
def abN(Γ:gu X M n rr ba) (c:Code) (Q:Exit->aK->ba->Prop):Exit->aK->ba->Prop
 | .normal,st,r=>hR Γ c r st Q
 | e,st,r=>Q e st r
theorem GW(h:hR Γ fe r st (abN Γ cz Q)):hR Γ (.seq fe cz) r st Q:=fun a w hi=>by
 refine wpIn_seq (wpIn_mono (h a w hi) ?_);rintro e a w ⟨s,cE,J,U⟩;cases e with
 | normal=>exact J a w U
 | _=>exact⟨s,cE,J,U⟩
theorem abO{x:Operand} {g b:Bool} (ao:bj X st.L x=some (g,.c (.val (.bool b)))) (aM:g=true) (J:b=true->hR Γ fe r st Q) (aP:b=false->hR Γ cz r st Q):hR Γ (.cond x fe cz) r st Q:=fun a w hi=>by
 obtain⟨R,W,aD,ks,env,B,ak,H,ad⟩:=Γ.vV hi;obtain⟨v,U,ae⟩:=ad.aB ao aM;rw[show v=_ from ae]at U;exact J8 ad.sym U (fun ai=>J ai a w hi) (fun ai=>aP ai a w hi)
def Oj(id:Nat) (Q:Exit->aK->ba->Prop):Exit->aK->ba->Prop
 | .exit jr,st,r=>match Nat.beq jr id with
  | true=>Q .normal st r
  | false=>Q (.exit jr) st r
 | e,st,r=>Q e st r
theorem abP{id:Nat} (h:hR Γ c r st (Oj id Q)):hR Γ (.block id c) r st Q:=fun a w hi=>by
 refine J7 (wpIn_mono (h a w hi) ?_);rintro e a w ⟨s,cE,J,U⟩;cases e with
 | exit jr=>
  simp only[Oj]at J
  split at J
  ·rename_i ai
   have:=Nat.eq_of_beq_eq_true ai
   subst this;simp only[Exit.inBlock,if_true];exact⟨s,cE,J,U⟩
  ·rename_i ai
   have cL:jr≠id:=Nat.ne_of_beq_eq_false ai;simp only[Exit.inBlock,if_neg cL];exact⟨s,cE,J,U⟩
 | _=>exact⟨s,cE,J,U⟩
def abQ(Q:Exit->aK->ba->Prop):Exit->aK->ba->Prop
 | .goto _,_,_=>False
 | e,st,r=>Q e st r
theorem abR(h:hR Γ c r st (abQ Q)):hR Γ (.scope c) r st Q:=fun a w hi=>by
 refine X3 (wpIn_mono (h a w hi) ?_);rintro e a w ⟨s,cE,J,U⟩;cases e with
 | goto l=>exact J.elim
 | _=>exact⟨s,cE,J,U⟩
def abS{α:Type} (M:Bool) (n:Nat) (X:bl) (I:α->aK) (bI:α->ba->Prop) (m:α->Nat) (x:α) (Q:Exit->aK->ba->Prop):Exit->aK->ba->Prop
 | .normal,st,r=>∃ y,bI y r/\m y < m x/\gz X M n st (I y)
 | e,st,r=>Q e st r
theorem GX{α:Type} (I:α->aK) (bI:α->ba->Prop) (m:α->Nat) (kj:α) (aP:bI kj r) (hw:gz X M n st (I kj)) (aH:∀ x r,bI x r->hR Γ c r (I x) (abS M n X I bI m x Q)):hR Γ (.loop c) r st Q:=fun a w hi=>by
 refine J9 (fun x a w=>∃ r,bI x r/\Γ.In r (I x) a w) m kj ⟨r,aP,Γ.er hw hi⟩ fun x a w ⟨r,sJ,hi⟩=>wpIn_mono (aH x r sJ a w hi) ?_
 rintro e a w ⟨s,cE,J,U⟩;cases e with
 | normal=>
  obtain⟨y,ae,aw,aF⟩:=J;exact⟨y,⟨cE,ae,Γ.er aF U⟩,aw⟩
 | _=>exact⟨s,cE,J,U⟩
theorem BO{c:Code} {st:aK} {Q:Exit->aK->ba->Prop} {r:ba} (h:∀ R W aD,hR (gu.BM (X:=X) (M:=M) (n:=n) (rr:=rr) R W aD r) c r st Q):gm X M n rr c st (fun e s=>Q e s r):=fun R W aD a w ad=>by
 refine wpIn_mono (h R W aD a w ⟨rfl,ad⟩) ?_;rintro e a w ⟨s,cE,J,rfl,U⟩;exact⟨s,J,U⟩
end
theorem abT(av:X.tt.ok X.P) {f:FuncId} {fn:Func} {c:Code} {args:List bf} {h:bo} {Q:bZ->bo->Prop} {res:List ResultVar} (aA:X.P.funcs[f]?=some fn) (ai:fn.body=some c) (bF:fn.ntmps=n) (ag:Nat.ble args.length n=true) (bk:Nat.ble n lD=true) (aH:fn.results=res.toArray)
  (cI:gm X true n none c ⟨ou 0 args,h⟩ (fun e st=>(e=.ret\/e=.normal)/\∃ st',gz X true n st st'/\∃ c sv,qc X st' res=some (c,sv)/\c=true/\Q sv st'.H)):AC X f args h Q:=by
 intro B ak env vs H W aM bq cB al;have hlen:=bq.length;have hle:vs.length<=n:=by rw[hlen]; exact Nat.le_of_ble_eq_true ag
 refine(callsIn_wide (n:=0)).1 (callsIn_of_wp_marks aA ai trivial ?_);have c4:fv B ak B W:=⟨fun _ h=>h,fun k ab=>al.below.block k ab⟩
 have gw:∀ k,B k->fO W H k:=fun k ab=>⟨al.base k ab,fun c aa e=>((al.ok c aa).lt e).1 ab⟩
 have aI:=DQ (fn:=fn) bF hle _ rfl (vs:=vs);have ad:bB X (fO W H) W ⟨B,fun id l=>((lD<=id/\∃ b,l=.blk b)\/hx<=id)/\env id=l,[]⟩ n [] env B W H ⟨ou 0 args,h⟩ { tmps:=vs.toArray++Array.replicate (fn.ntmps - vs.toArray.size) undef,defers:=[] } W:=by
  refine⟨aI.size,rfl,fun s sv xk=>?_,cB.up c4,?_,fun _ h=>h,fun _ h=>.inl h,fun id l ar=>⟨Nat.le_trans (Nat.le_of_ble_eq_true bk) (ar.1.elim (fun h=>h.1) (fun h=>Nat.le_trans (by decide) h)),ar.2,ar.1.imp (fun h=>h.2) (fun h=>h)⟩,da.refl _ _,fun i x ao=>(aM i x ao).up c4⟩
  ·obtain⟨_,v,J,U⟩:=Ar bq xk
   rw[Nat.sub_zero]at J;refine⟨v,?_,U.up c4⟩;have br:s < vs.length:=(List.getElem?_eq_some_iff.1 J).1;show(vs.toArray++_)[s]?=some v;rw[Array.getElem?_append_left (by simpa using br)]
   simpa using J
  ·have J:=al.rest
   simp only[List.map_nil,List.append_nil];exact⟨da.refl _ _,fun k ab=>ab.elim (fun h=>h.1) (fun h=>al.base k h),fun c aa=>(J.ok c aa).base fun b ai ab=>ab.elim (fun h=>((J.ok c aa).lt ai).1 h) (fun h=>((J.ok c aa).lt ai).1 (gw b h)),J.apart⟩
 refine wpIn_mono (cI _ _ _ _ _ ⟨[],env,B,W,H,⟨(fun h=>by cases h),fun _ id l (ar:((lD<=id/\∃ b,l=.blk b)\/hx<=id)/\env id=l)=>ar.1.elim (fun h=>h.1) (fun h=>Nat.le_trans (by decide) h)⟩,ad⟩) ?_;rintro e a w ⟨st,⟨he,st',hw,c,sv,o7,aa,ho⟩,U⟩;obtain⟨ks,env',B',cy,H',b2,bW⟩:=hw _ _ _ _ _ U;have hH:bB X (fO W H) W ⟨B,fun id l=>((lD<=id/\∃ b,l=.blk b)\/hx<=id)/\env id=l,[]⟩ n [] env' B' cy H' st' { tmps:=a.tmps,defers:=[] } w:=
  ⟨bW.size,rfl,bW.has,bW.heap,by simpa using bW.aJ.er (List.sublist_append_left _ _),bW.sub,bW.new,bW.dj,bW.base,bW.dT⟩
 obtain⟨v,ae,aw⟩:=Ld av hH aH o7 aa;have sF:Sym n (ks.map sr) (gi a) (fun k=>fO W H k\/B' k) cy (ks.map (fun k=>bd.obj k (.deferred (some [])))++H') a w:=⟨by have dZ:=bW.bK; simpa [jL] using dZ,bW.aJ.perm List.perm_append_comm⟩
 have key:=Kh (fn:=fn) (R:=sK X env B H W Q) ks sF (fun w hw=>aw w (by simpa using hw)) fun w hw=>⟨env',B',cy,H',sv,st'.H,ho,bW.sub,bW.new,bW.base,ae,bW.heap,hw,fun id l aF aW=>(bW.dj id l ⟨aF,aW⟩).2.1⟩
 rcases he with rfl | rfl
 ·exact key
 ·exact key
end
section
inductive fw where
 | d
 | r (l:List In)
 | t (l:List lk)
 | o (E:List Nat) (l:List pB) (w:List lk)
 | mm (E:List Nat) (l:List pB) (w:List lk)
 | s (a b:fw)
 | j (bn:en) (a b:fw)
 | BP (bn:en) (a b:fw)
 | c (a b:fw)
 | l (bn:en) (a:fw)
 | eo (id:Nat) (bn gR:en) (a:fw)
 | fq (id:Nat) (bn gR:en) (a:fw)
 | b (a:fw)
 | me (c5:List (Nat×Nat)) (bn:en) (a:fw)
 | p (w:List lk) (a:fw)
 | gy (ak:List lk) (E:List Nat) (t:qE) (w:List lk) (jS:Bool)
def fw.fst:fw->fw
 | .s x _=>x
 | .j _ x _=>x
 | .BP _ x _=>x
 | .c x _=>x
 | .l _ x=>x
 | .eo _ _ _ x=>x
 | .fq _ _ _ x=>x
 | .b x=>x
 | .me _ _ x=>x
 | _=>.d
def fw.snd:fw->fw
 | .s _ x=>x
 | .j _ _ x=>x
 | .BP _ _ x=>x
 | .c _ x=>x
 | _=>.d
def fw.ins:fw->List In
 | .r x=>x
 | _=>[]
def fw.vX:fw->List lk
 | .t x=>x
 | _=>[]
def fw.pre:fw->List lk
 | .p w _=>w
 | .gy w _ _ _ _=>w
 | _=>[]
def fw.Ok:fw->Bool
 | .mm _ _ _=>true
 | .p _ (.mm _ _ _)=>true
 | .gy _ _ _ _ jS=>jS
 | _=>false
def fw.ny:fw->List Nat×qE×List lk
 | .o x y z=>(x,.f y,z)
 | .mm x y z=>(x,.f y,z)
 | .p _ (.o x y z)=>(x,.f y,z)
 | .p _ (.mm x y z)=>(x,.f y,z)
 | .gy _ x y z _=>(x,y,z)
 | _=>([],.f [],[])
def mR{ba:Type} (n:Nat):List lk->List Nat->aK->(List Nat->aK->Option ba)->Option ba
 | [],V,st,k=>k V st
 | x :: l,V,st,k=>match vr n x st with
  | some (c,st')=>an c (mR n l (x.vp++V) st' k)
  | none=>none
theorem vY{X:bl} {ba:Type} {n:Nat} {k:List Nat->aK->Option ba} {r:ba} {st0:aK}:∀ {l:List lk} {V:List Nat} {st:aK},cO V st0 st->mR n l V st k=some r->∃ fo st',cA X n st st'/\cO fo st0 st'/\k fo st'=some r
 | [],V,st,aP,h=>⟨V,st,cA.refl _,aP,h⟩
 | x :: l,V,st,aP,h=>by
  unfold mR at h
  split at h
  ·rename_i c Bu e
   obtain⟨aa,h⟩:=fH h;obtain⟨fo,st',J,U,ae⟩:=vY (X:=X) (aP.trans (MX e)) h;exact⟨fo,st',(MQ e aa).trans J,U,ae⟩
  ·cases h
def Ol{α:Type} (v:Value) (k:Value->α):α:=match v with
 | .int q z=>k (.int q z)
 | .bool b=>k (.bool b)
 | .slice a m c=>k (.slice a m c)
 | v=>k v
def BQ{α:Type}:List e8->(List e8->α)->α
 | [],k=>k []
 | .id i :: r,k=>BQ r fun r=>k (.id i :: r)
 | .eS g x :: r,k=>BQ r fun r=>k (.eS g x :: r)
def GY{α:Type} (c:bc) (k:bc->α):α:=match c with
 | .val v=>Ol v fun v=>k (.val v)
 | .str s=>k (.str s)
 | .dead=>k .dead
 | .ptr i o=>k (.ptr i o)
 | .eg i s j o=>k (.eg i s j o)
 | .fx g x o=>k (.fx g x o)
 | .par g l=>k (.par g l)
 | .ah i=>k (.ah i)
 | .a1 g l c=>k (.a1 g l c)
 | .fn f ids=>BQ ids fun ids=>k (.fn f ids)
 | .cr i=>k (.cr i)
 | .iC f i=>k (.iC f i)
 | .gF i o=>k (.gF i o)
 | .iD i s o=>k (.iD i s o)
 | .iQ i=>k (.iQ i)
 | .hJ b i=>k (.hJ b i)
def BR{α:Type}:List bc->(List bc->α)->α
 | [],k=>k []
 | c :: r,k=>GY c fun c=>BR r fun r=>k (c :: r)
def BS{α:Type} (x:bf) (k:bf->α):α:=match x with
 | .c c=>GY c fun c=>k (.c c)
 | .agg cs=>BR cs fun cs=>k (.agg cs)
 | .arr g l=>k (.arr g l)
def GZ{α:Type}:List bf->(List bf->α)->α
 | [],k=>k []
 | c :: r,k=>BS c fun c=>GZ r fun r=>k (c :: r)
def Om{α:Type} (v:bZ) (k:bZ->α):α:=match v with
 | .a x=>BS x fun x=>k (.a x)
 | .may g x=>BS x fun x=>k (.may g x)
 | .cW xs=>GZ xs fun xs=>k (.cW xs)
def G0{α:Type}:cJ->(cJ->α)->α
 | [],k=>k []
 | (s,v) :: r,k=>Om v fun v=>G0 r fun r=>k ((s,v) :: r)
def On{α:Type} (b:cw) (k:cw->α):α:=match b with
 | .cells t cs=>BR cs fun cs=>k (.cells t cs)
 | .row t g l c=>k (.row t g l c)
 | .fr t g l=>k (.fr t g l)
 | .mp g h l o=>k (.mp g h l o)
 | .b0 t u g l c h=>k (.b0 t u g l c h)
 | b=>k b
def G1{α:Type}:bo->(bo->α)->α
 | [],k=>k []
 | (s,v) :: r,k=>On v fun v=>G1 r fun r=>k ((s,v) :: r)
def tO{α:Type} (st:aK) (k:aK->α):α:=G0 st.L fun L=>G1 st.H fun H=>k ⟨L,H⟩
theorem abU{α:Type} (v:Value) (k:Value->α):Ol v k=k v:=by cases v<;>rfl
theorem G2{α:Type}:∀ (l:List e8) (k:List e8->α),BQ l k=k l
 | [],_=>rfl
 | .id i :: r,k=>G2 r _
 | .eS g x :: r,k=>G2 r _
theorem Oo{α:Type} (c:bc) (k:bc->α):GY c k=k c:=by
 cases c with
 | val v=>exact abU v (fun v=>k (.val v))
 | fn f ids=>exact G2 ids (fun ids=>k (.fn f ids))
 | _=>rfl
theorem G4{α:Type}:∀ (l:List bc) (k:List bc->α),BR l k=k l
 | [],_=>rfl
 | c :: r,k=>(Oo c _).trans (G4 r _)
theorem G5{α:Type} (x:bf) (k:bf->α):BS x k=k x:=by
 cases x with
 | c c=>exact Oo c (fun c=>k (.c c))
 | agg cs=>exact G4 cs (fun cs=>k (.agg cs))
 | arr g l=>rfl
theorem Oq{α:Type}:∀ (l:List bf) (k:List bf->α),GZ l k=k l
 | [],_=>rfl
 | c :: r,k=>(G5 c _).trans (Oq r _)
theorem abV{α:Type} (v:bZ) (k:bZ->α):Om v k=k v:=by
 cases v with
 | a x=>exact G5 x (fun x=>k (.a x))
 | may g x=>exact G5 x (fun x=>k (.may g x))
 | cW xs=>exact Oq xs (fun xs=>k (.cW xs))
theorem Ot{α:Type}:∀ (l:cJ) (k:cJ->α),G0 l k=k l
 | [],_=>rfl
 | (s,v) :: r,k=>(abV v _).trans (Ot r _)
theorem abW{α:Type} (b:cw) (k:cw->α):On b k=k b:=by
 cases b with
 | cells t cs=>exact G4 cs (fun cs=>k (.cells t cs))
 | _=>rfl
theorem Ou{α:Type}:∀ (l:bo) (k:bo->α),G1 l k=k l
 | [],_=>rfl
 | (s,v) :: r,k=>(abW v _).trans (Ou r _)
theorem yQ{α:Type} (st:aK) (k:aK->α):tO st k=k st:=(Ot _ _).trans (Ou _ _)
def b5{hb ba:Type} (step:hb->(hb->Option ba)->Option ba):Nat->hb->Option ba
 | 0,_=>none
 | n+1,d=>step d (b5 step n)
abbrev mS (ba:Type):=Exit->List Nat->aK->Option ba
abbrev qK:={bn:Type}->jm bn->fw->aK->mS bn->Option bn
def BT{ba:Type} (cf:jm ba) (cg:fw) (a b:qK) (st:aK) (k:mS ba):Option ba:=match cg with
 | .j bn x y=>(a none x st fun e V st'=>match e with
  | .normal=>bn.get st V st'
  | _=>none).bind fun d=>b cf y (bn.S st d) fun e V s=>k e (V++bn.ids) s
 | .BP bn x y=>(a none x st fun e V st'=>match e with
  | .normal=>match bn.get st V st' with
   | some d=>some (.inl d)
   | none=>none
  | e=>match k e V st' with
   | some r=>some (.inr r)
   | none=>none).bind fun(o:bn.D⊕ba)=>sm o (fun d=>b cf y (bn.S st d) fun e V s=>k e (V++bn.ids) s) (fun r=>some r)
 | cg=>a cf cg.fst st fun e V st'=>match e with
  | .normal=>b cf cg.snd st' fun e V2 s=>k e (V2++V) s
  | e=>k e V st'
def yR:List Nat->List Nat->Bool
 | [],_=>true
 | k :: r,l=>match eI k l with
  | true=>yR r l
  | false=>false
def vZ(bn gR:en):Bool:=match yR gR.qp bn.qp,yR gR.jY bn.jY,yS gR.qp (ep bn.L),yS gR.jY (ep bn.H)with
 | true,true,true,true=>true
 | _,_,_,_=>false
where yS:List Nat->List Nat->Bool
 | [],_=>true
 | k :: r,l=>match eI k l with
  | true=>false
  | false=>yS r l
def n9{hb ba:Type} (o:Option hb) (f:hb->Option ba):Option ba:=match o with
 | some d=>f d
 | none=>none
theorem pH{hb ba:Type} {o:Option hb} {f:hb->Option ba} {r:ba} (h:n9 o f=some r):∃ d,o=some d/\f d=some r:=by
 unfold n9 at h
 split at h
 ·exact⟨_,rfl,h⟩
 ·cases h
def BU{ba:Type} (N:Nat) (cf:jm ba) (cg:fw) (a:qK) (st:aK) (k:mS ba):Option ba:=match cg with
 | .l bn x=>n9 (bn.get st [] st) (b5 (fun d rec=>a cf x (bn.S st d) fun e V st'=>match e with
  | .normal=>n9 (bn.get st V st') rec
  | e=>k e (V++bn.ids) st') N)
 | .eo id bn gR x=>(n9 (bn.get st [] st) (b5 (fun d rec=>a none x (bn.S st d) fun e V st'=>match e with
  | .normal=>n9 (bn.get st V st') rec
  | .exit i=>match Nat.beq i id,vZ bn gR with
   | true,true=>gR.get st V st'
   | _,_=>none
  | _=>none) N)).bind fun d=>k (.exit id) gR.ids (gR.S st d)
 | .fq id bn gR x=>(n9 (bn.get st [] st) (b5 (fun d rec=>a none x (bn.S st d) fun e V st'=>match e with
  | .normal=>n9 (bn.get st V st') rec
  | .exit i=>match Nat.beq i id,vZ bn gR with
   | true,true=>match gR.get st V st' with
    | some d=>some (.inl d)
    | none=>none
   | false,_=>match k (.exit i) (V++bn.ids) st' with
    | some r=>some (.inr r)
    | none=>none
   | _,_=>none
  | e=>match k e (V++bn.ids) st' with
   | some r=>some (.inr r)
   | none=>none) N)).bind fun(o:gR.D⊕ba)=>sm o (fun d=>k (.exit id) gR.ids (gR.S st d)) (fun r=>some r)
 | _=>none
structure lq(X:bl) where
 f:FuncId
 fn:Func
 C:List rM
 G:List (Nat×h1)
 E:List fQ
 m:dp (pw C (l7 G []))->Option (List (dp (iW E [])))
 aA:X.P.funcs[f]?=some fn
 bk : (fn.name == "runtime.NumGoroutine") = false
 ai:fn.body.isNone=false
 ok:∀ d l,m d=some l->tK X f (lJ C d).1 (jj G (lJ C d).2).1 l (fun x=>(hQ E x).1)
def jo{α hb ba:Type} (step:α->hb->(hb->Option ba)->Option ba):List α->hb->(hb->Option ba)->Option ba
 | [],d,k=>k d
 | x :: l,d,k=>step x d fun fJ=>jo step l fJ k
def r2:List Nat->bo->Option (bo×bo)
 | [],H=>some ([],H)
 | i :: is,H=>match aS H i with
  | some b=>match r2 is (lE i H)with
   | some (h,H')=>some ((i,b) :: h,H')
   | none=>none
  | none=>none
def tP{X:bl} {ba:Type} (f:FuncId) (fK:List e8) (H:bo) (K:(E:List fQ)->List Nat->bo->List (dp (iW E []))->Option ba):List (lq X)->Option ba
 | []=>none
 | e :: r=>match Nat.beq e.f f,r2 (ep e.G) H with
  | true,some (h,H')=>match s7 (T:=[]) e.G h ()with
   | some t=>match rN (T:=l7 e.G []) e.C fK t with
    | some d=>(e.m d).bind fun l=>K e.E (ep e.G) H' l
    | none=>tP f fK H K r
   | none=>tP f fK H K r
  | _,_=>tP f fK H K r
def eR:List (Nat×Nat)->aK->aK
 | [],st=>st
 | p :: l,st=>eR l ⟨fA (jh p.1 p.2) st.L,nn (jh p.1 p.2) st.H⟩
def kO:List (Nat×Nat)->List Nat
 | []=>[]
 | p :: l=>kO l++[p.2,p.1]
def BV:List (Nat×Nat)->Bool
 | []=>true
 | p :: l=>match Nat.blt p.2 lD with
  | true=>BV l
  | false=>false
def yT(n:Nat):Code->Option (List (Nat×Nat))
 | .region _ ⟨ops⟩ false=>u7 n ops
 | .skip=>some []
 | .seq a b=>match yT n a,yT n b with
  | some x,some y=>some (x++y)
  | _,_=>none
 | _=>none
def abX(bn:en):Bool:=match bn.L,bn.qp with
 | [],[]=>true
 | _,_=>false
def yU{ba:Type} (n:Nat) (bn:en) (ms:List (Nat×Nat)) (pl c5:List Nat) (E:List fQ) (st:aK) (cf:jm ba) (a:qK) (x:fw) (k:mS ba) (e:dp (iW E [])) (y:bn.D) (G6:bn.D->Option ba):Option ba:=
 a cf x ⟨qi ms (rE pl (hQ E e).1 (fA (gx n) st.L)),(bn.S st y).H⟩ fun e V s=>match e with
  | .normal=>n9 (bn.get st V s) G6
  | .ret=>k .ret ((V++bn.ids)++c5) ⟨fA (gx n) st.L,s.H⟩
  | .exit i=>k (.exit i) ((V++bn.ids)++c5) ⟨fA (gx n) st.L,s.H⟩
  | _=>none
def stepG{ba:Type} (n:Nat) (bn:en) (pl c5:List Nat) (E:List fQ) (st:aK) (b a:qK) (x:fw) (k:mS ba) (e:dp (iW E [])) (y:bn.D) (G6:bn.D->Option ba):Option ba:=
 b none .d ⟨rE pl (hQ E e).1 (fA (gx n) st.L),(bn.S st y).H⟩ fun aC BW s1=>match aC with
  | .normal=>a none x s1 fun e V s=>match e with
   | .normal=>n9 (bn.get st (V++BW) s) G6
   | .ret=>k .ret (((V++BW)++bn.ids)++c5) ⟨fA (gx n) st.L,s.H⟩
   | .exit i=>k (.exit i) (((V++BW)++bn.ids)++c5) ⟨fA (gx n) st.L,s.H⟩
   | _=>none
  | _=>none
def yV{ba:Type} (X:bl) (n:Nat) (bz:List (lq X)) (m:Bool) (g:Operand) (pl:List Nat) (oa:Code) (cf:jm ba) (b a:qK) (cg:fw) (st0:aK) (k:mS ba):Option ba:=match cg with
 | .me c5 bn x=>match m,BV c5,abX bn,Nat.ble n hx with
  | true,true,true,true=>match bj X (eR c5 st0).L g,yT n oa with
   | some (c,.c (.fn f fK)),some ms=>an c (tP f fK (eR c5 st0).H (fun E gs eY l=>match Nat.beq E.length pl.length,lI n pl,lI n (ms.map (·.1))with
    | true,true,true=>n9 (bn.get ⟨(eR c5 st0).L,eY⟩ [] ⟨(eR c5 st0).L,eY⟩) fun hG=>jo (yU n bn ms pl (gs++kO c5) E ⟨(eR c5 st0).L,eY⟩ cf a x k) l hG fun y=>k .normal (bn.ids++(gs++kO c5)) ⟨fA (gx n) (eR c5 st0).L,(bn.S ⟨(eR c5 st0).L,eY⟩ y).H⟩
    | _,_,_=>none) bz)
   | some (c,.c (.fn f fK)),none=>match cf with
    | none=>an c (tP f fK (eR c5 st0).H (fun E gs eY l=>match Nat.beq E.length pl.length,lI n pl with
     | true,true=>n9 (bn.get ⟨(eR c5 st0).L,eY⟩ [] ⟨(eR c5 st0).L,eY⟩) fun hG=>jo (stepG n bn pl (gs++kO c5) E ⟨(eR c5 st0).L,eY⟩ b a x k) l hG fun y=>k .normal (bn.ids++(gs++kO c5)) ⟨fA (gx n) (eR c5 st0).L,(bn.S ⟨(eR c5 st0).L,eY⟩ y).H⟩
     | _,_=>none) bz)
    | some _=>none
   | _,_=>none
  | _,_,_,_=>none
 | _=>none
noncomputable def ja (X:bl) (N n:Nat) (T:List (bu X)) (bz:List (lq X)):Bool->Code->{ba:Type}->jm ba->fw->aK->mS ba->Option ba
 | _,.skip,_,_,cg,st,k=>mR n cg.vX [] st fun V st'=>k .normal V st'
 | _,.exit id,_,_,cg,st,k=>mR n cg.vX [] st fun V st'=>k (.exit id) V st'
 | _,.ret,_,_,cg,st,k=>mR n cg.vX [] st fun V st'=>k .ret V st'
 | _,.label _,_,_,_,st,k=>k .normal [] st
 | _,.region _ ops true,_,_,cg,st,k=>tO st fun st=>mR n cg.pre [] st fun BX st=>tO st fun st=>match Nat.beq ops.toList.length (lp cg.ny.2.1)with
  | true=>pE X n T ops.toList cg.ny.1 cg.ny.2.1 ⟨Array.replicate (lp cg.ny.2.1) false,true,true,true,cg.Ok⟩ [] BX [] st fun V st'=>mR n cg.ny.2.2 V st' fun V st'=>k .normal V st'
  | false=>none
 | _,.region _ ops false,_,cf,cg,st,k=>tO st fun st=>hq X n T cf (ed ops.toList) cg.ins ops.toList [] [] [] st fun V st'=>k .normal V st'
 | m,.seq a b,_,cf,cg,st,k=>BT cf cg (fun cf cg st k=>ja X N n T bz m a cf cg st k) (fun cf cg st k=>ja X N n T bz m b cf cg st k) st k
 | m,.cond x a b,_,cf,cg,st,k=>match bj X st.L x with
  | some (g,.c (.val (.bool q)))=>an g (cond q (ja X N n T bz m a cf cg.fst st k) (ja X N n T bz m b cf cg.snd st k))
  | _=>none
 | m,.block id a,_,cf,cg,st,k=>ja X N n T bz m a cf cg.fst st fun e V st'=>match e with
  | .exit i=>match Nat.beq i id with
   | true=>k .normal V st'
   | false=>k (.exit i) V st'
  | e=>k e V st'
 | m,.scope a,_,cf,cg,st,k=>ja X N n T bz m a cf cg.fst st fun e V st'=>match e with
  | .goto _=>none
  | e=>k e V st'
 | m,.loop a,_,cf,cg,st,k=>tO st fun st=>BU N cf cg (fun cf cg st k=>ja X N n T bz m a cf cg st k) st k
 | m,.rangeFunc g ps oa body,_,cf,cg,st,k=>tO st fun st=>yV X n bz m g ps.toList oa cf (fun cf cg st k=>ja X N n T bz false oa cf cg st k) (fun cf cg st k=>ja X N n T bz false body cf cg st k) cg st k
 | _,_,_,_,_,_,_=>none
section
variable {X:bl} {M:Bool} {N n:Nat} {rr:Option Nat} {T:List (bu X)} {bz:List (lq X)}
def mn(X:bl) (M:Bool) (n:Nat) {ba:Type} (st:aK) (k:mS ba):Exit->aK->ba->Prop:=fun e s r=>∃ V fu,gz X M n s fu/\cO V st fu/\k e V fu=some r
def v7{ba:Type} (Γ:gu X M n rr ba) (cf:jm ba):Prop:=∀ (ops:List Oper) (Q:Exit->Act->World->Prop),Ns X n ops cf (fun l r st=>∀ a w,Γ.In r st a w->pU rr X.P ops.toArray Q l a w)
def abY{ba:Type} (Γ:gu X M n rr ba) (cf:jm ba):Prop:=M=true->rr=none->∃ F:(id:Nat)->gu X false n (some id) ba->Prop,(∀ id nz,F id nz->v7 nz cf) /\
 ∀ {α β:Type} {st:aK} {Q:Exit->aK->ba->Prop} {g:Operand} {pl:List Nat} {assign body:Code} {gf:FuncId} {fn:Func} {fK:List e8} {kL:α->List bf} {l:List α} {b:Bool} {ms:List (Nat×Nat)} {ar eY:bo} {fE:ba},
  bj X st.L g = some (b, .c (.fn gf fK)) → b = true → X.P.funcs[gf]? = some fn → (fn.name == "runtime.NumGoroutine") = false → fn.body.isNone = false → tK X gf fK ar l kL → (∀ x, (kL x).length = pl.length) → lI n pl = true → lf n assign ms → lI n (ms.map (·.1)) = true → Nat.ble n hx = true →
  ∀ (fW:β->bo) (bI:List α->β->ba->Prop) (kN:Exit->bo->ba->Prop) (hG:β),bI l hG fE->st.H=ar++eY->(∀ {env:Nat->Loc} {B:Nat->Prop} {w:World} {H:List bd},bp env B w eY H->∃ H' Y,H.Perm (H'++Y)/\bp env B w (fW hG) H') ->
  (∀ id x rest y r (nz:gu X false n (some id) ba),F id nz->bI (x :: rest) y r->hR nz body r ⟨qi ms (rE pl (kL x) (fA (gx n) st.L)),fW y⟩ (fun e s cE=>(e=.normal/\∃ mi,bI rest mi cE/\∃ dR,gz X false n s ⟨dR,fW mi⟩)\/(e≠.normal/\AJ e=true/\∃ aN,kN e aN cE/\∃ dR,gz X false n s ⟨dR,aN⟩))) ->
  (∀ y r,bI [] y r->Q .normal ⟨fA (gx n) st.L,fW y⟩ r)->(∀ e aN r,kN e aN r->Q e ⟨fA (gx n) st.L,aN⟩ r)->hR Γ (.rangeFunc g pl.toArray assign body) fE st Q
def mo{ba:Type} (Γ:gu X M n rr ba) (cf:jm ba):Prop:=v7 Γ cf/\abY Γ cf
theorem v7.inner{ba:Type} {id:Nat} {Γ:gu X false n (some id) ba} {cf:jm ba} (h:v7 Γ cf):mo Γ cf:=⟨h,fun h=>by cases h⟩
theorem mo.none{ba:Type} {Γ:gu X M n rr ba}:mo Γ none:=⟨fun _ _ _ h=>(by cases h),fun b2 G7=>by
 subst b2 G7;refine⟨fun id nz=>∃ R W aD fE,nz=gu.BM R W aD fE,fun _ _ _ _ _ _ h=>(by cases h),?_⟩;intro α β st Q g pl assign body gf fn fK kL l b ms ar eY fE aM ai fP qH qI mb hlen gX n8 lY bk fW bI kN hG aP dZ dO oK nw lM;exact kr (tN (abM (Q:=fun e s=>Q e s fE) aM ai fP qH qI mb hlen gX n8 lY bk fW (fun l y=>bI l y fE) (fun e h=>kN e h fE) hG aP dZ dO (fun id x rest y aV=>BO (r:=fE) fun R W aD=>oK id x rest y fE _ ⟨R,W,aD,fE,rfl⟩ aV) (fun y aV=>nw y fE aV) (fun e aN h=>lM e aN fE h))) fun e s cE ⟨J,U⟩=>by rw[U]; exact J⟩
def v8(X:bl) (M:Bool) (n:Nat) (rr:Option Nat) (c:Code) (f:qK):Prop:=
 ∀ (ba:Type) (Γ:gu X M n rr ba) (cf:jm ba),mo Γ cf->∀ (cg:fw) (st:aK) (k:mS ba) (r:ba),f cf cg st k=some r->hR Γ c r st (mn X M n st k)
theorem abZ{ba:Type} {Γ:gu X M n rr ba} {cf:jm ba} (aV:mo Γ cf) {fe cz:Code} {a b:qK} (bq:v8 X M n rr fe a) (ai:v8 X M n rr cz b) {cg:fw} {st:aK} {k:mS ba} {r:ba} (h:BT cf cg a b st k=some r):hR Γ (.seq fe cz) r st (mn X M n st k):=by
 unfold BT at h
 split at h
 ·rename_i bn x y
  obtain⟨d,J,U⟩:=oB h;refine GW (kr (BN (d0:=d) (bq _ (Γ.const r d) none mo.none _ _ _ _ J)) fun e s cE ⟨aH,V,fu,hw,fg,al⟩=>?_);subst aH;cases e with
  | normal=>exact vW (hw.trans (en.ic (jD.self bn st) fg al).m) (kr (ai _ Γ cf aV _ _ _ _ U) fun e s aO ⟨V2,s2,n6,tQ,iB⟩=>⟨_,s2,n6,(en.ks bn st d).trans tQ,iB⟩)
  | _=>cases al
 ·rename_i bn x y
  obtain⟨o,J,U⟩:=oB h;refine GW (kr (BN (d0:=o) (bq _ (Γ.const r o) none mo.none _ _ _ _ J)) fun e s cE ⟨aH,V,fu,hw,fg,al⟩=>?_);subst aH;cases e with
  | normal=>
   simp only at al
   split at al
   ·rename_i d ax
    cases al;exact vW (hw.trans (en.ic (jD.self bn st) fg ax).m) (kr (ai _ Γ cf aV _ _ _ _ U) fun e s aO ⟨V2,s2,n6,tQ,iB⟩=>⟨_,s2,n6,(en.ks bn st d).trans tQ,iB⟩)
   ·cases al
  | _=>
   simp only at al
   split at al
   ·rename_i q au
    cases al;cases U;exact⟨V,fu,hw,fg,au⟩
   ·cases al
 ·refine GW (kr (bq _ Γ cf aV _ _ _ _ h) fun e s cE ⟨V,fu,hw,fg,al⟩=>?_)
  cases e with
  | normal=>exact vW hw (kr (ai _ Γ cf aV _ _ _ _ al) fun e s aO ⟨V2,s2,n6,tQ,iB⟩=>⟨_,s2,n6,fg.trans tQ,iB⟩)
  | _=>exact⟨V,fu,hw,fg,al⟩
theorem G8{q:Nat} {l:List Nat}:∀ {ks:List Nat},yR ks l=true->q∈ks->eI q l=true
 | [],_,h=>by cases h
 | k :: r,h,hm=>by
  unfold yR at h
  split at h
  ·rename_i J
   rcases List.mem_cons.1 hm with rfl | hm
   ·exact J
   ·exact G8 h hm
  ·cases h
theorem G9{q:Nat} {l:List Nat}:∀ {ks:List Nat},vZ.yS ks l=true->q∈ks->eI q l=false
 | [],_,h=>by cases h
 | k :: r,h,hm=>by
  unfold vZ.yS at h
  split at h
  ·cases h
  ·rename_i J
   rcases List.mem_cons.1 hm with rfl | hm
   ·exact J
   ·exact G9 h hm
theorem Ha{q:Nat}:∀ {l:List Nat},eI q l=true->q∈l
 | [],h=>by cases h
 | k :: r,h=>by
  unfold eI at h
  split at h
  ·rename_i e
   rw[Nat.eq_of_beq_eq_true e];exact List.mem_cons_self
  ·exact List.mem_cons_of_mem _ (Ha h)
theorem BY{p:Nat×bZ}:∀ {ks:List Nat} {L:cJ},p∈j4 ks L->p.1∈ks
 | [],_,h=>by cases h
 | k :: r,L,h=>by
  unfold j4 at h
  split at h
  ·split at h
   ·rcases List.mem_cons.1 h with rfl | h
    ·exact List.mem_cons_self
    ·exact List.mem_cons_of_mem _ (BY h)
   ·exact List.mem_cons_of_mem _ (BY h)
  ·exact List.mem_cons_of_mem _ (BY h)
theorem BZ{p:Nat×cw}:∀ {ks:List Nat} {L:bo},p∈fY ks L->p.1∈ks
 | [],_,h=>by cases h
 | k :: r,L,h=>by
  unfold fY at h
  split at h
  ·split at h
   ·rcases List.mem_cons.1 h with rfl | h
    ·exact List.mem_cons_self
    ·exact List.mem_cons_of_mem _ (BZ h)
   ·exact List.mem_cons_of_mem _ (BZ h)
  ·exact List.mem_cons_of_mem _ (BZ h)
theorem Ov{q:Nat} {v:bZ}:∀ {ks:List Nat} {L:cJ},q∈ks->aS L q=some v->v.free=true->(q,v)∈j4 ks L
 | [],_,h,_,_=>by cases h
 | k :: r,L,h,ag,aA=>by
  unfold j4
  rcases List.mem_cons.1 h with rfl | h
  ·simp only[ag,aA]; exact List.mem_cons_self
  ·have:=Ov h ag aA
   split
   ·split
    ·exact List.mem_cons_of_mem _ this
    ·exact this
   ·exact this
theorem Ow{q:Nat} {v:cw}:∀ {ks:List Nat} {L:bo},q∈ks->aS L q=some v->v.free=true->(q,v)∈fY ks L
 | [],_,h,_,_=>by cases h
 | k :: r,L,h,ag,aA=>by
  unfold fY
  rcases List.mem_cons.1 h with rfl | h
  ·simp only[ag,aA]; exact List.mem_cons_self
  ·have:=Ow h ag aA
   split
   ·split
    ·exact List.mem_cons_of_mem _ this
    ·exact this
   ·exact this
theorem jD.out{bn gR:en} (ao:vZ bn gR=true) (st:aK) (d:bn.D):jD gR st (bn.S st d):=by
 unfold vZ at ao
 split at ao
 ·rename_i J U ae aw
  refine⟨fun p ar _=>?_,fun p ar _=>?_⟩
  ·have ab:=BY ar
   obtain⟨aC,a7⟩:=tv ar;exact(jD.step bn st d).1 p (Ov (Ha (G8 J ab)) aC a7) (G9 ae ab)
  ·have ab:=BZ ar
   obtain⟨aC,a7⟩:=n5 ar;exact(jD.step bn st d).2 p (Ow (Ha (G8 U ab)) aC a7) (G9 aw ab)
 ·cases ao
theorem ab0{ba:Type} {Γ:gu X M n rr ba} {cf:jm ba} (aV:mo Γ cf) {c:Code} {a:qK} (bq:v8 X M n rr c a) {cg:fw} {st:aK} {k:mS ba} {r:ba} (h:BU N cf cg a st k=some r):hR Γ (.loop c) r st (mn X M n st k):=by
 unfold BU at h
 split at h
 ·rename_i bn x
  obtain⟨d,J,U⟩:=pH h;refine GX (fun(y:Nat×bn.D)=>bn.S st y.2) (fun y r=>b5 _ y.1 y.2=some r) (fun y=>y.1) (N,d) U (en.ic (jD.self bn st) (cO.refl (V:=[]) st) J).m fun y r iS=>?_
  obtain⟨m,d2⟩:=y;cases m with
  | zero=>cases iS
  | succ m=>
   refine kr (bq _ Γ cf aV _ _ _ _ iS) fun e s cE ⟨V,fu,hw,fg,al⟩=>?_
   cases e with
   | normal=>
    obtain⟨d3,ae,aw⟩:=pH al;exact⟨(m,d3),aw,Nat.lt_succ_self _,hw.trans (en.ic (jD.step bn st d2) fg ae).m⟩
   | _=>exact⟨_,fu,hw,(en.ks bn st d2).trans fg,al⟩
 ·rename_i id bn gR x
  obtain⟨o,h,aF⟩:=oB h;obtain⟨d,J,U⟩:=pH h;refine GX (fun(y:Nat×bn.D)=>bn.S st y.2) (fun y cE=>b5 _ y.1 y.2=some o/\cE=r) (fun y=>y.1) (N,d) ⟨U,rfl⟩ (en.ic (jD.self bn st) (cO.refl (V:=[]) st) J).m fun y cE iS=>?_
  obtain⟨m,d2⟩:=y;obtain⟨iS,rfl⟩:=iS;cases m with
  | zero=>cases iS
  | succ m=>
   refine kr (BN (d0:=o) (bq _ (Γ.const cE o) none mo.none _ _ _ _ iS)) fun e s aO ⟨aH,V,fu,hw,fg,al⟩=>?_
   subst aH;cases e with
   | normal=>
    obtain⟨d3,ae,aw⟩:=pH al;exact⟨(m,d3),⟨aw,rfl⟩,Nat.lt_succ_self _,hw.trans (en.ic (jD.step bn st d2) fg ae).m⟩
   | exit i=>
    simp only at al
    split at al
    ·rename_i hi ao
     have:=Nat.eq_of_beq_eq_true hi
     subst this;exact⟨_,_,hw.trans (en.ic (jD.out ao st d2) fg al).m,en.ks gR st o,aF⟩
    ·cases al
   | _=>cases al
 ·rename_i id bn gR x
  obtain⟨o,h,aF⟩:=oB h;obtain⟨d,J,U⟩:=pH h;refine GX (fun(y:Nat×bn.D)=>bn.S st y.2) (fun y cE=>b5 _ y.1 y.2=some o/\cE=r) (fun y=>y.1) (N,d) ⟨U,rfl⟩ (en.ic (jD.self bn st) (cO.refl (V:=[]) st) J).m fun y cE iS=>?_
  obtain⟨m,d2⟩:=y;obtain⟨iS,rfl⟩:=iS;cases m with
  | zero=>cases iS
  | succ m=>
   refine kr (BN (d0:=o) (bq _ (Γ.const cE o) none mo.none _ _ _ _ iS)) fun e s aO ⟨aH,V,fu,hw,fg,al⟩=>?_
   subst aH;have key:∀ cv,(match k cv (V++bn.ids) fu with
     | some r=>some (Sum.inr r)
     | none=>(none:Option (gR.D⊕ba)))=some o->mn X M n st k cv s aO:=fun cv al=>by
    split at al
    ·rename_i q au
     cases al;cases aF;exact⟨_,fu,hw,(en.ks bn st d2).trans fg,au⟩
    ·cases al
   cases e with
   | normal=>
    obtain⟨d3,ae,aw⟩:=pH al;exact⟨(m,d3),⟨aw,rfl⟩,Nat.lt_succ_self _,hw.trans (en.ic (jD.step bn st d2) fg ae).m⟩
   | exit i=>
    simp only at al
    split at al
    ·rename_i hi ao
     have:=Nat.eq_of_beq_eq_true hi
     subst this
     split at al
     ·rename_i d4 Hb
      cases al;exact⟨_,_,hw.trans (en.ic (jD.out ao st d2) fg Hb).m,en.ks gR st d4,aF⟩
     ·cases al
    ·exact key _ al
    ·cases al
   | _=>exact key _ al
 ·cases h
theorem gz.c5{i j:Nat} (aX:Nat.blt j lD=true) {st:aK}:gz X true n st ⟨fA (jh i j) st.L,nn (jh i j) st.H⟩:=by
 rintro R W aD a w ⟨ks,env,B,ak,H,b2,ad⟩;obtain⟨H',J,U⟩:=bp.de (AI (i:=i) (j:=j)) ad.heap;refine⟨ks,iE env j (env i),B,ak,H',b2,ad.size,ad.defs,fun s sv al=>?_,U,ad.aJ.er (J.append_right _),ad.sub,ad.new,pc ad.dj (fun q ar=>by have J:=b2.2 rfl _ _ ar; have U:=dB aX; omega),ad.base,ad.dT⟩;obtain⟨u,ae,rfl⟩:=sS al;obtain⟨v,aw,aF⟩:=ad.has s u ae;exact⟨v,aw,ey.de AI aF⟩
theorem Hc:∀ {l:List (Nat×Nat)} {st:aK},BV l=true->gz X true n st (eR l st)
 | [],st,_=>gz.refl st
 | p :: l,st,h=>by
  unfold BV at h
  split at h
  ·rename_i J
   exact(gz.c5 J).trans (Hc h)
  ·cases h
theorem Hd:∀ {c:Code} {ms:List (Nat×Nat)},yT n c=some ms->lf n c ms
 | .region _ ⟨ops⟩ false,_,h=>lf.region h
 | .skip,_,h=>by cases h; exact lf.skip
 | .seq a b,ms,h=>by
  unfold yT at h
  split at h
  ·rename_i x y J U
   cases h;exact lf.seq (Hd J) (Hd U)
  ·cases h
theorem B0:∀ {A:List fQ} {T:List Type} (d:dp (iW A T)),(hQ A d).1.length=A.length
 | [],_,_=>rfl
 | x :: A,T,d=>by
  unfold hQ;rw[List.length_cons,List.length_cons,B0]
theorem Ox{bI:hE}:∀ {cs:List e8},qh cs=true->pq bI cs=some cs
 | [],_=>rfl
 | .id _ :: _,h=>by cases h
 | .eS g x :: cs,h=>by
  unfold pq;rw[Ox (cs:=cs) h]
theorem Oy{bI:hE} {c:bc} (h:c.free=true):c.de bI=c:=by
 cases c with
 | fn f cs=>simp only[bc.de]; rw[Ox h]
 | _=>first | rfl | cases h
theorem He{bI:hE}:∀ {cs:List bc},qw cs=true->rD bI cs=cs
 | [],_=>rfl
 | c :: r,h=>by
  unfold qw at h
  split at h
  ·rename_i e
   show c.de bI :: rD bI r=_;rw[Oy e,He h]
  ·cases h
theorem Hf{bI:hE} {x:bf} (h:x.free=true):x.de bI=x:=by
 cases x with
 | c x=>simp only[bf.de]; rw[Oy h]
 | agg cs=>simp only[bf.de]; rw[He h]
 | arr g l=>rfl
theorem Oz{bI:hE}:∀ {xs:List bf},lj xs=true->sR bI xs=xs
 | [],_=>rfl
 | c :: r,h=>by
  unfold lj at h
  split at h
  ·rename_i e
   show c.de bI :: sR bI r=_;rw[Hf e,Oz h]
  ·cases h
theorem ab1{bI:hE} {v:bZ} (h:v.free=true):v.de bI=v:=by
 cases v with
 | a x=>simp only[bZ.de]; rw[Hf h]
 | may g x=>simp only[bZ.de]; rw[Hf h]
 | cW xs=>simp only[bZ.de]; rw[Oz h]
theorem ab2{bI:hE} {b:cw} (h:b.free=true):b.de bI=b:=by
 cases b with
 | cells t cs=>simp only[cw.de]; rw[He h]
 | b0 T T' g l c q=>rcases q with _ | ⟨i,_ | d⟩<;>first | rfl | cases h
 | _=>first | rfl | cases h
theorem Hg(bI:hE) (L:cJ) {V:List Nat}:vn V L (fA bI L):=bS.map (f:=fun v=>v.de bI) (fun _ h=>ab1 h) fun _ _ h=>sS h
theorem OA(i j:Nat):∀ H:bo,j0 [j,i] H (nn (jh i j) H)
 | []=>bS.refl []
 | (k,b) :: r=>fun q v au ag=>by
  obtain⟨J,U⟩:=fb au;obtain⟨U,_⟩:=fb U;have bx:=OA i j r q v au;unfold nn at ag;rw[ct];have sJ:jh i j b.nU k=match Nat.beq k i with
   | true=>some j
   | false=>match Nat.beq k j with
    | true=>none
    | false=>some k:=rfl
  cases aC:Nat.beq k i with
  | true=>
   rw[sJ,aC]at ag;dsimp only at ag;rw[ct,if_neg J]at ag
   have:=Nat.eq_of_beq_eq_true aC
   rw[if_neg (by omega)];exact bx ag
  | false=>
   cases a7:Nat.beq k j with
   | true=>
    rw[sJ,aC,a7]at ag;dsimp only at ag
    have:=Nat.eq_of_beq_eq_true a7
    rw[if_neg (by omega)];exact bx ag
   | false=>
    rw[sJ,aC,a7]at ag;dsimp only at ag;rw[ct]at ag
    split at ag
    ·rename_i e
     cases ag;rw[if_pos e];exact⟨b,rfl,fun aA=>ab2 aA⟩
    ·rename_i e
     rw[if_neg e];exact bx ag
theorem Hh:∀ (l:List (Nat×Nat)) (st:aK),cO (kO l) st (eR l st)
 | [],st=>cO.refl st
 | p :: l,st=>by
  have J:cO [p.2,p.1] st ⟨fA (jh p.1 p.2) st.L,nn (jh p.1 p.2) st.H⟩:=⟨Hg _ _,OA _ _ _⟩
  exact J.trans (Hh l _)
theorem en.OB{X:bl} {n:Nat} {bn:en} {st st':aK} {aP:bo} {V:List Nat} {d:bn.D} (hw:∀ p∈fY bn.jY st.H,eI p.1 (ep bn.H)=false->aS aP p.1=some p.2) (al:j0 V aP st'.H) (h:bn.get st V st'=some d):cA X n st' ⟨st'.L,(bn.S st d).H⟩:=by
 unfold en.get at h
 split at h
 ·rename_i jN eA lK
  split at h
  ·rename_i aP hl
   split at h
   ·rename_i u aC
    split at h
    ·rename_i l8 a7
     cases h;obtain⟨J,U⟩:=s8 aC;obtain⟨ae,aw⟩:=A1 a7;have tw:∀ p∈fY bn.jY st.H,aS st'.H p.1=some p.2:=fun p ar=>by
      obtain⟨g1,g2,v,g3⟩:=yp eA ar;obtain⟨u,g4,g5⟩:=al p.1 v g1 g3;rw[hw p ar g2]at g4;cases g4;rw[g3,g5 (n5 ar).2]
     rintro R W aD M a w ⟨ks,env,B,ak,H,b2,ad⟩;have gw:kh st'.H (aP++fY bn.jY st.H):=Bw (sI hl) tw (by rw[yq hl]; exact lK);obtain⟨H',bW⟩:=ad.er (st':=⟨[],aP++fY bn.jY st.H⟩) .nil gw;refine⟨ks,env,B,ak,H',b2,bW.size,bW.defs,ad.has,?_,bW.aJ,bW.sub,bW.new,bW.dj,bW.base,bW.dT⟩;show bp env B ak ((jj bn.H (mN bn.L (l6 bn.T (oE bn.T l8))).2).1++fY bn.jY st.H) H';rw[s5,ae];obtain⟨H1,H2,e,hY,hv⟩:=en.ic.bp.split (l:=aP) bW.heap;rw[e];exact(U _ _ _ _ hY).append hv
    ·cases h
   ·cases h
  ·cases h
 ·cases h
theorem OC{env:Nat->Loc} {B:Nat->Prop} {w:World}:∀ {is:List Nat} {H h H':bo} {C:List bd},r2 is H=some (h,H')->bp env B w H C->∃ cP,C.Perm cP/\bp env B w (h++H') cP
 | [],H,h,H',C,ar,dt=>by cases ar; exact⟨C,List.Perm.refl _,dt⟩
 | i :: is,H,h,H',C,ar,dt=>by
  unfold r2 at ar
  split at ar
  ·rename_i b ai
   split at ar
   ·rename_i J H1 e
    cases ar;obtain⟨c,H2,aC,a7,cC⟩:=dt.erase ai;obtain⟨cP,gN,gh⟩:=OC e cC;exact⟨c :: cP,a7.trans (List.Perm.cons _ gN),⟨c,cP,rfl,aC,gh⟩⟩
   ·cases ar
  ·cases ar
theorem Hi:∀ {is:List Nat} {H h H':bo},r2 is H=some (h,H')->j0 is H H'
 | [],H,h,H',ar=>by cases ar; exact bS.refl _
 | i :: is,H,h,H',ar=>by
  unfold r2 at ar
  split at ar
  ·split at ar
   ·rename_i J H1 e
    cases ar;exact((F1 (id:=i) H).trans (Hi e)).more fun q au=>by
     obtain⟨J,U⟩:=fb au;exact oI.2 ⟨U,py.2 ⟨J,rfl⟩⟩
   ·cases ar
  ·cases ar
theorem OD{st:aK} {is:List Nat} {h H':bo} (he:r2 is st.H=some (h,H')):cA X n st ⟨st.L,h++H'⟩:=fun _ _ _ _ _ _ ⟨ks,env,B,ak,H,b2,ad⟩=>by
 obtain⟨cP,aC,a7⟩:=OC he ad.heap;exact⟨ks,env,B,ak,cP,b2,ad.size,ad.defs,ad.has,a7,ad.aJ.perm (aC.append_right _),ad.sub,ad.new,ad.dj,ad.base,ad.dT⟩
theorem yW{ba:Type} {f:FuncId} {fK:List e8} {H:bo} {K:(E:List fQ)->List Nat->bo->List (dp (iW E []))->Option ba} {r:ba}:∀ {bz:List (lq X)},tP f fK H K bz=some r->∃ e:lq X,e.f=f/\∃ h H' ar l,r2 (ep e.G) H=some (h,H')/\(∀ env B w C,bp env B w h C->bp env B w ar C)/\tK X f fK ar l (fun x=>(hQ e.E x).1)/\K e.E (ep e.G) H' l=some r
 | [],h=>by cases h
 | e :: bz,h=>by
  unfold tP at h
  split at h
  ·rename_i cB H' aA aM
   split at h
   ·rename_i t aZ
    split at h
    ·rename_i d ax
     obtain⟨l,J,U⟩:=oB h;have mZ:=Nat.eq_of_beq_eq_true aA;have aa:=AX ax
     have:=e.ok d l J
     rw[aa]at this;exact⟨e,mZ,cB,H',_,l,aM,(s8 aZ).2,mZ ▸ this,U⟩
    ·exact yW h
   ·exact yW h
  ·exact yW h
theorem en.OE{bn:en} {L:cJ} {aP:bo} {d:bn.D} (h:bn.get ⟨L,aP⟩ [] ⟨L,aP⟩=some d) {env:Nat->Loc} {B:Nat->Prop} {w:World} {H:List bd} (dO:bp env B w aP H):∃ H' Y,H.Perm (H'++Y)/\bp env B w (bn.S ⟨L,aP⟩ d).H H':=by
 have hw:∀ p∈fY bn.jY aP,eI p.1 (ep bn.H)=false->aS aP p.1=some p.2:=fun p ar _=>(n5 ar).1
 have al:j0 [] aP aP:=bS.refl _;unfold en.get at h
 split at h
 ·rename_i jN eA lK
  split at h
  ·rename_i J hl
   split at h
   ·rename_i u aC
    split at h
    ·rename_i l8 a7
     cases h;obtain⟨g1,g2⟩:=s8 aC;obtain⟨g3,g4⟩:=A1 a7;have tw:∀ p∈fY bn.jY aP,aS aP p.1=some p.2:=fun p ar=>(n5 ar).1
     have gw:kh aP (J++fY bn.jY aP):=Bw (sI hl) tw (by rw[yq hl]; exact lK);obtain⟨H',Y,hY,hv⟩:=gw.Ev dO;refine⟨H',Y,hY,?_⟩;show bp env B w ((jj bn.H (mN bn.L (l6 bn.T (oE bn.T l8))).2).1++fY bn.jY aP) H';rw[s5,g3];obtain⟨H1,H2,e,dF,et⟩:=bp.split (l:=J) hv;rw[e];exact(g2 _ _ _ _ dF).append et
    ·cases h
   ·cases h
  ·cases h
 ·cases h
theorem ab3(b2:M=true) (G7:rr=none) {ba:Type} {Γ:gu X M n rr ba} {cf:jm ba} (aV:mo Γ cf) {g:Operand} {pl:List Nat} {oa body:Code} {m:Bool} {b a:qK} (k1:∀ id,v8 X false n (some id) oa b) (bq:∀ id,v8 X false n (some id) body a) {cg:fw} {st:aK} {k:mS ba} {r:ba} (h:yV X n bz m g pl oa cf b a cg st k=some r):hR Γ (.rangeFunc g pl.toArray oa body) r st (mn X M n st k):=by
 subst b2;subst G7;obtain⟨F,rB,ab4⟩:=aV.2 rfl rfl;unfold yV at h
 split at h
 ·rename_i c5 bn x
  split at h
  ·rename_i tR hnL bk
   split at h
   ·rename_i c f fK ms aM n8
    obtain⟨aa,h⟩:=fH h;obtain⟨e,Hj,cB,eY,ar,l,tS,Hk,mb,h⟩:=yW h;dsimp only at h
    split at h
    ·rename_i gn gX lY
     obtain⟨hG,Hl,Ah⟩:=pH h;have Hm:=Nat.eq_of_beq_eq_true gn;subst Hj;have tT:∀ {V:List Nat} {aN:bo},j0 V eY aN->cO (V++(ep e.G++kO c5)) st ⟨fA (gx n) (eR c5 st).L,aN⟩:=fun {V aN} ab=>(Hh c5 st).trans (cO.trans (b:=⟨(eR c5 st).L,eY⟩) ⟨bS.refl _,Hi tS⟩ ⟨Hg _ _,ab⟩) |>.more fun q au=>by
      rw[<- List.append_assoc]at au;exact au
     have Hn:cA X n (eR c5 st) ⟨(eR c5 st).L,ar++eY⟩:=fun R W aD M a w aF=>by
      obtain⟨ks,env,B,ak,H,b2,ad⟩:=OD (n:=n) tS _ _ _ _ _ _ aF;obtain⟨H1,H2,gh,dF,et⟩:=bp.split (l:=cB) ad.heap;exact⟨ks,env,B,ak,H,b2,ad.size,ad.defs,ad.has,by rw[gh]; exact(Hk _ _ _ _ dF).append et,ad.aJ,ad.sub,ad.new,ad.dj,ad.base,ad.dT⟩
     refine vW ((Hc tR).trans Hn.m) (ab4 (st:=⟨(eR c5 st).L,ar++eY⟩) (Q:=fun e s cE=>mn X true n st k e s cE) aM aa e.aA e.bk e.ai mb (fun x=>by rw[B0]; exact Hm) gX (Hd n8) lY bk (fun y=>(bn.S ⟨(eR c5 st).L,eY⟩ y).H) (fun l y cE=>jo (yU n bn ms pl (ep e.G++kO c5) e.E ⟨(eR c5 st).L,eY⟩ cf a x k) l y (fun y=>k .normal (bn.ids++(ep e.G++kO c5)) ⟨fA (gx n) (eR c5 st).L,(bn.S ⟨(eR c5 st).L,eY⟩ y).H⟩)=some cE) (fun e aN cE=>∃ V,cO V st ⟨fA (gx n) (eR c5 st).L,aN⟩/\k e V ⟨fA (gx n) (eR c5 st).L,aN⟩=some cE) hG Ah rfl (fun dO=>en.OE Hl dO) ?_ ?_ ?_)
     ·intro id q rest y ay nz ab5 au
      have ma:yU n bn ms pl (ep e.G++kO c5) e.E ⟨(eR c5 st).L,eY⟩ cf a x k q y (fun fJ=>jo (yU n bn ms pl (ep e.G++kO c5) e.E ⟨(eR c5 st).L,eY⟩ cf a x k) rest fJ (fun y=>k .normal (bn.ids++(ep e.G++kO c5)) ⟨fA (gx n) (eR c5 st).L,(bn.S ⟨(eR c5 st).L,eY⟩ y).H⟩))=some ay:=au;unfold yU at ma;refine kr (bq id _ nz cf (rB id nz ab5).inner _ _ _ _ ma) fun a7 s aO ⟨V,fu,hw,fg,al⟩=>?_
      cases a7 with
      | normal=>
       obtain⟨d2,ae,aw⟩:=pH al;exact .inl ⟨rfl,d2,aw,_,hw.trans (en.OB (jD.step bn ⟨(eR c5 st).L,eY⟩ y).2 fg.2 ae).m⟩
      | ret=>exact .inr ⟨(fun h=>by cases h),rfl,fu.H,⟨_,tT ((en.ks bn ⟨(eR c5 st).L,eY⟩ y).2.trans fg.2),al⟩,fu.L,hw⟩
      | exit i=>exact .inr ⟨(fun h=>by cases h),rfl,fu.H,⟨_,tT ((en.ks bn ⟨(eR c5 st).L,eY⟩ y).2.trans fg.2),al⟩,fu.L,hw⟩
      | _=>cases al
     ·intro y ay aV
      exact⟨_,_,gz.refl _,tT (en.ks bn ⟨(eR c5 st).L,eY⟩ y).2,aV⟩
     ·rintro a7 aN ay ⟨V,ae,aw⟩
      exact⟨V,_,gz.refl _,ae,aw⟩
    ·cases h
   ·rename_i c f fK aM n8
    split at h
    ·obtain⟨aa,h⟩:=fH h
     obtain⟨e,Hj,cB,eY,ar,l,tS,Hk,mb,h⟩:=yW h;dsimp only at h
     split at h
     ·rename_i gn gX
      obtain⟨hG,Hl,Ah⟩:=pH h;have Hm:=Nat.eq_of_beq_eq_true gn;subst Hj;have tT:∀ {V:List Nat} {aN:bo},j0 V eY aN->cO (V++(ep e.G++kO c5)) st ⟨fA (gx n) (eR c5 st).L,aN⟩:=fun {V aN} ab=>(Hh c5 st).trans (cO.trans (b:=⟨(eR c5 st).L,eY⟩) ⟨bS.refl _,Hi tS⟩ ⟨Hg _ _,ab⟩) |>.more fun q au=>by
       rw[<- List.append_assoc]at au;exact au
      have Hn:cA X n (eR c5 st) ⟨(eR c5 st).L,ar++eY⟩:=fun R W aD M a w aF=>by
       obtain⟨ks,env,B,ak,H,b2,ad⟩:=OD (n:=n) tS _ _ _ _ _ _ aF;obtain⟨H1,H2,gh,dF,et⟩:=bp.split (l:=cB) ad.heap;exact⟨ks,env,B,ak,H,b2,ad.size,ad.defs,ad.has,by rw[gh]; exact(Hk _ _ _ _ dF).append et,ad.aJ,ad.sub,ad.new,ad.dj,ad.base,ad.dT⟩
      refine vW ((Hc tR).trans Hn.m) (kr (tN (Oe (st:=⟨(eR c5 st).L,ar++eY⟩) (Q:=fun e s=>mn X true n st k e s r) aM aa e.aA e.bk e.ai mb (fun x=>by rw[B0]; exact Hm) gX bk (fun y=>(bn.S ⟨(eR c5 st).L,eY⟩ y).H) (fun l y=>jo (stepG n bn pl (ep e.G++kO c5) e.E ⟨(eR c5 st).L,eY⟩ b a x k) l y (fun y=>k .normal (bn.ids++(ep e.G++kO c5)) ⟨fA (gx n) (eR c5 st).L,(bn.S ⟨(eR c5 st).L,eY⟩ y).H⟩)=some r) (fun e aN=>∃ V,cO V st ⟨fA (gx n) (eR c5 st).L,aN⟩/\k e V ⟨fA (gx n) (eR c5 st).L,aN⟩=some r) hG Ah rfl (fun dO=>en.OE Hl dO) ?_ ?_ ?_)) fun e s cE ⟨J,U⟩=>by rw[U]; exact J)
      ·intro id q rest y au
       have ma:stepG n bn pl (ep e.G++kO c5) e.E ⟨(eR c5 st).L,eY⟩ b a x k q y (fun fJ=>jo (stepG n bn pl (ep e.G++kO c5) e.E ⟨(eR c5 st).L,eY⟩ b a x k) rest fJ (fun y=>k .normal (bn.ids++(ep e.G++kO c5)) ⟨fA (gx n) (eR c5 st).L,(bn.S ⟨(eR c5 st).L,eY⟩ y).H⟩))=some r:=au;unfold stepG at ma;refine Ez (BO (r:=r) fun R W aD=>k1 id _ (gu.BM R W aD r) none mo.none _ _ _ _ ma) fun aC s1 J=>?_
       obtain⟨BW,aiJ,mg,ab6,fk⟩:=J;cases aC with
       | normal=>
        refine⟨rfl,fun R W aD a2 hC U=>?_⟩;refine Ez (BO (r:=r) fun R W aD=>bq id _ (gu.BM R W aD r) none mo.none _ _ _ _ fk) (fun a7 s U=>?_) R W aD a2 hC (mg _ _ _ _ _ U);obtain⟨V,fu,hw,fg,al⟩:=U;have Ho:=ab6.trans fg;cases a7 with
        | normal=>
         obtain⟨d2,ae,aw⟩:=pH al;exact .inl ⟨rfl,d2,aw,_,hw.trans (en.OB (jD.step bn ⟨(eR c5 st).L,eY⟩ y).2 Ho.2 ae).m⟩
        | ret=>exact .inr ⟨(fun h=>by cases h),rfl,fu.H,⟨_,tT ((en.ks bn ⟨(eR c5 st).L,eY⟩ y).2.trans Ho.2),al⟩,fu.L,hw⟩
        | exit i=>exact .inr ⟨(fun h=>by cases h),rfl,fu.H,⟨_,tT ((en.ks bn ⟨(eR c5 st).L,eY⟩ y).2.trans Ho.2),al⟩,fu.L,hw⟩
        | _=>cases al
       | _=>cases fk
      ·intro y aV
       exact⟨_,_,gz.refl _,tT (en.ks bn ⟨(eR c5 st).L,eY⟩ y).2,aV⟩
      ·rintro a7 aN ⟨V,ae,aw⟩
       exact⟨V,_,gz.refl _,ae,aw⟩
     ·cases h
    ·cases h
   ·cases h
  ·cases h
 ·cases h
theorem oL(av:X.tt.ok X.P) (hm:X.P.follows .mixedOrders=true):∀ (c:Code) (m M:Bool) (rr:Option Nat),(m=true->M=true/\rr=none)->v8 X M n rr c (fun cf cg st k=>ja X N n T bz m c cf cg st k)
 | .skip,m,M,rr,_=>fun ba Γ cf aV cg st k r h=>by
  obtain⟨V,fu,hw,fg,al⟩:=vY (X:=X) (cO.refl (V:=[]) st) (show mR n cg.vX [] st (fun V st'=>k .normal V st')=some r by cases m<;>exact h);exact kr (tN (Am (Q:=fun e s=>mn X M n st k e s r) ⟨V,fu,hw.m,fg,al⟩)) fun e s cE ⟨J,U⟩=>U ▸ J
 | .exit id,m,M,rr,_=>fun ba Γ cf aV cg st k r h=>by
  obtain⟨V,fu,hw,fg,al⟩:=vY (X:=X) (cO.refl (V:=[]) st) (show mR n cg.vX [] st (fun V st'=>k (.exit id) V st')=some r by cases m<;>exact h);exact kr (tN (K8 (Q:=fun e s=>mn X M n st k e s r) ⟨V,fu,hw.m,fg,al⟩)) fun e s cE ⟨J,U⟩=>U ▸ J
 | .ret,m,M,rr,_=>fun ba Γ cf aV cg st k r h=>by
  obtain⟨V,fu,hw,fg,al⟩:=vY (X:=X) (cO.refl (V:=[]) st) (show mR n cg.vX [] st (fun V st'=>k .ret V st')=some r by cases m<;>exact h);exact kr (tN (xj (Q:=fun e s=>mn X M n st k e s r) ⟨V,fu,hw.m,fg,al⟩)) fun e s cE ⟨J,U⟩=>U ▸ J
 | .label l,m,M,rr,_=>fun ba Γ cf aV cg st k r h=>by
  exact kr (tN (X4 (Q:=fun e s=>mn X M n st k e s r) ⟨[],st,gz.refl _,cO.refl st,by cases m<;>exact h⟩)) fun e s cE ⟨J,U⟩=>U ▸ J
 | .region id ops false,m,M,rr,_=>fun ba Γ cf aV cg st k r h=>by
  have aN:hq X n T cf (ed ops.toList) cg.ins ops.toList [] [] [] st (fun V st'=>k .normal V st')=some r:=by cases m<;>exact(yQ st _).symm.trans h
  intro a w hi;have fR:Bs X n ops.toList (fun l r qC=>∀ a w,Γ.In r qC a w->pU rr X.P ops.toList.toArray (fun e a w=>∃ s cE,mn X M n st k e s cE/\Γ.In cE s a w) l a w):=⟨fun al aH a w hi=>q0 (Γ.step al hi fun a w h=>aH a w h),fun hw aH a w hi=>aH a w (Γ.er hw.m hi)⟩
  have:=DM (id:=id) (mQ (st0:=st) (T:=T) (is:=cg.ins) (V:=[]) (A:=[]) av fR (aV.1 _ _) ec.nil (cO.refl (V:=[]) st) aN (fun V fu cE fg al a w hi=>DF ⟨fu,cE,⟨V,fu,gz.refl _,fg,al⟩,hi⟩) a w hi)
  exact this
 | .region id ops true,m,M,rr,_=>fun ba Γ cf aV cg st k r h=>by
  have aN:mR n cg.pre [] st (fun BX st=>tO st fun st=>match Nat.beq ops.toList.length (lp cg.ny.2.1)with
   | true=>pE X n T ops.toList cg.ny.1 cg.ny.2.1 ⟨Array.replicate (lp cg.ny.2.1) false,true,true,true,cg.Ok⟩ [] BX [] st fun V st'=>mR n cg.ny.2.2 V st' fun V st'=>k .normal V st'
   | false=>none)=some r:=by cases m<;>exact(yQ st _).symm.trans h
  obtain⟨BX,Bu,ab7,aP,aN⟩:=vY (X:=X) (cO.refl (V:=[]) st) aN;rw[yQ]at aN
  split at aN
  ·rename_i e
   have ag:=Nat.eq_of_beq_eq_true e
   have:=TZ (X:=X) (M:=M) (n:=n) (st:=Bu) (Q:=fun e s=>mn X M n st k e s r) (ops:=ops.toList) (id:=id) (r:=rr) cg.ny.1 hm ag (tF (t:=cg.ny.2.1) av (k:=fun V st'=>mR n cg.ny.2.2 V st' fun V st'=>k .normal V st') (fun V st' fg al=>by
    obtain⟨V2,s2,hw,tQ,iB⟩:=vY (X:=X) fg al;exact⟨V2,s2,hw.m,tQ,iB⟩) ec.nil aP aN)
   exact vW ab7.m (kr (tN this) fun e s cE ⟨J,U⟩=>U ▸ J)
  ·cases aN
 | .seq a b,m,M,rr,nA=>fun ba Γ cf aV cg st k r h=>abZ aV (oL av hm a m M rr nA) (oL av hm b m M rr nA) (show BT cf cg (fun cf cg st k=>ja X N n T bz m a cf cg st k) (fun cf cg st k=>ja X N n T bz m b cf cg st k) st k=some r by cases m<;>exact h)
 | .cond x a b,m,M,rr,nA=>fun ba Γ cf aV cg st k r h=>by
  have aN:(match bj X st.L x with
   | some (g,.c (.val (.bool q)))=>an g (cond q (ja X N n T bz m a cf cg.fst st k) (ja X N n T bz m b cf cg.snd st k))
   | _=>none)=some r:=by cases m<;>exact h
  split at aN
  ·rename_i g q ao
   obtain⟨aM,aN⟩:=fH aN;exact abO ao aM (fun au=>oL av hm a m M rr nA _ Γ cf aV _ _ _ _ (AO au aN)) (fun au=>oL av hm b m M rr nA _ Γ cf aV _ _ _ _ (AP au aN))
  ·cases aN
 | .block id a,m,M,rr,nA=>fun ba Γ cf aV cg st k r h=>by
  have aN:(ja X N n T bz m a cf cg.fst st fun e V st'=>match e with
   | .exit i=>match Nat.beq i id with
    | true=>k .normal V st'
    | false=>k (.exit i) V st'
   | e=>k e V st')=some r:=by cases m<;>exact h
  refine abP (kr (oL av hm a m M rr nA _ Γ cf aV _ _ _ _ aN) fun e s cE ⟨V,fu,hw,fg,al⟩=>?_);cases e with
  | exit i=>
   show match Nat.beq i id with | true=>mn X M n st k .normal s cE | false=>mn X M n st k (.exit i) s cE
   simp only at al
   split at al
   ·exact⟨V,fu,hw,fg,al⟩
   ·exact⟨V,fu,hw,fg,al⟩
  | _=>exact⟨V,fu,hw,fg,al⟩
 | .scope a,m,M,rr,nA=>fun ba Γ cf aV cg st k r h=>by
  have aN:(ja X N n T bz m a cf cg.fst st fun e V st'=>match e with
   | .goto _=>none
   | e=>k e V st')=some r:=by cases m<;>exact h
  refine abR (kr (oL av hm a m M rr nA _ Γ cf aV _ _ _ _ aN) fun e s cE ⟨V,fu,hw,fg,al⟩=>?_);cases e with
  | goto l=>cases al
  | _=>exact⟨V,fu,hw,fg,al⟩
 | .loop a,m,M,rr,nA=>fun ba Γ cf aV cg st k r h=>ab0 aV (oL av hm a m M rr nA) (show BU N cf cg (fun cf cg st k=>ja X N n T bz m a cf cg st k) st k=some r by cases m<;>exact(yQ st _).symm.trans h)
 | .rangeFunc g ps oa body,m,M,rr,nA=>fun ba Γ cf aV cg st k r h=>by
  have aN:yV X n bz m g ps.toList oa cf (fun cf cg st k=>ja X N n T bz false oa cf cg st k) (fun cf cg st k=>ja X N n T bz false body cf cg st k) cg st k=some r:=by cases m<;>exact(yQ st _).symm.trans h
  cases m with
  | false=>
   unfold yV at aN
   split at aN
   ·cases aN
   ·cases aN
  | true=>
   obtain⟨J,U⟩:=nA rfl;exact ab3 J U aV (fun id=>oL av hm oa false false (some id) (fun h=>by cases h)) (fun id=>oL av hm body false false (some id) (fun h=>by cases h)) aN
 | .goto _,m,_,_,_=>fun _ _ _ _ _ _ _ _ h=>by cases m<;>cases h
 | .refuse _,m,_,_,_=>fun _ _ _ _ _ _ _ _ h=>by cases m<;>cases h
structure lr where
 R:jX
 H:List (Nat×h1):=[]
 k:List Nat:=[]
abbrev lr.ty (R:lr):Type:=xJ (R.R.LT (l7 R.H []))
def lr.out(R:lr) (pF:bo) (r:R.ty):bZ×bo:=((R.R.S (l6 _ r)).1,(jj R.H (R.R.S (l6 _ r)).2).1++fY R.k pF)
def lr.get(R:lr) (pF:bo) (V:List Nat) (H:bo) (sv:bZ):Option R.ty:=
 match vI V (ep R.H) H (fY R.k pF),ow (ep R.H++ep (fY R.k pF))with
 | true,true=>match qb H (ep R.H)with
  | some h=>match s7 (T:=[]) R.H h ()with
   | some u=>match R.R.get sv u with
    | some u=>some (oE _ u)
    | none=>none
   | none=>none
  | none=>none
 | _,_=>none
theorem lr.ic{R:lr} {st0 st:aK} {V:List Nat} {sv:bZ} {r:R.ty} (al:cO V st0 st) (h:R.get st0.H V st.H sv=some r):∃ cB,s6 sv (R.out st0.H r).1/\kh st.H cB/\∀ env B w H,bp env B w cB H->bp env B w (R.out st0.H r).2 H:=by
 unfold lr.get at h
 split at h
 ·rename_i eA lK
  split at h
  ·rename_i aP hl
   split at h
   ·rename_i u aC
    split at h
    ·rename_i l8 a7
     cases h;obtain⟨J,U⟩:=s8 aC;obtain⟨ae,aw⟩:=jX.ic a7;have tw:∀ p∈fY R.k st0.H,aS st.H p.1=some p.2:=fun p ar=>by
      obtain⟨g1,g2,v,g3⟩:=yp eA ar;obtain⟨u,g4,g5⟩:=al.2 p.1 v g1 g3;rw[(n5 ar).1]at g4;cases g4;rw[g3,g5 (n5 ar).2]
     refine⟨aP++fY R.k st0.H,?_,Bw (sI hl) tw (by rw[yq hl]; exact lK),fun env B w H cB=>?_⟩
     ·show s6 sv (R.R.S (l6 _ (oE _ l8))).1
      rw[s5];exact aw
     ·show bp env B w ((jj R.H (R.R.S (l6 _ (oE _ l8))).2).1++fY R.k st0.H) H
      rw[s5,ae];obtain⟨H1,H2,e,hY,hv⟩:=en.ic.bp.split (l:=aP) cB;rw[e];exact(U _ _ _ _ hY).append hv
    ·cases h
   ·cases h
  ·cases h
 ·cases h
noncomputable def ab8 (X:bl) (res:List ResultVar) (R:lr) (pF:bo):mS R.ty
 | .goto _,_,_=>none
 | .exit _,_,_=>none
 | .panic _,_,_=>none
 | .outgrown,_,_=>none
 | _,V,st=>match qc X st res with
  | some (c,sv)=>an c (R.get pF V st.H sv)
  | none=>none
abbrev yX (A:List fQ) (eP:List (Nat×h1)):Type:=dp (iW A (l7 eP []))
def mq(A:List fQ) (eP:List (Nat×h1)) (d:yX A eP):List bf×bo:=((hQ A d).1,(jj eP (hQ A d).2).1)
noncomputable def Hp (X:bl) (N n:Nat) (T:List (bu X)) (bz:List (lq X)) (c:Code) (cg:fw) (res:List ResultVar) (A:List fQ) (eP:List (Nat×h1)) (R:lr) (d:yX A eP):Option R.ty:=
 ja X N n T bz true c none cg ⟨ou 0 (mq A eP d).1,(mq A eP d).2⟩ (ab8 X res R (mq A eP d).2)
theorem AC.ab9{f:FuncId} {args:List bf} {h:bo} {Q OF:bZ->bo->Prop} (dt:AC X f args h Q) (au:∀ sv aN,Q sv aN->∃ B1 U al,s6 sv B1/\kh aN al/\(∀ env B w H,bp env B w al H->bp env B w U H)/\OF B1 U):AC X f args h OF:=fun B ak env vs H W aM bq cB al=>by
 refine oh.mono (dt B ak env vs H W aM bq cB al) fun v w' ⟨env',B',cy,H',sv,aN,J,U,ae,aw,aF,aW,bC,db⟩=>?_
 obtain⟨B1,EH,aiK,dF,et,gp,hT⟩:=au sv aN J;obtain⟨H2,Y,hY,hv⟩:=et.Ev aW;exact⟨env',B',cy,H2,B1,EH,hT,U,ae,aw,dF _ _ _ _ aF,gp _ _ _ _ hv,(bC.perm hY).er (List.sublist_append_left _ _),db⟩
theorem OG(N:Nat) (av:X.tt.ok X.P) (hm:X.P.follows .mixedOrders=true) {f:FuncId} {fn:Func} {c:Code} {A:List fQ} {eP:List (Nat×h1)} {R:lr} (T:List (bu X)) (bz:List (lq X)) (cg:fw) {res:List ResultVar} (aA:X.P.funcs[f]?=some fn) (ai:fn.body=some c) (bF:fn.ntmps=n) (ag:Nat.ble A.length n=true) (bk:Nat.ble n lD=true) (aH:fn.results=res.toArray)
  {d:yX A eP} {r:R.ty} (h:Hp X N n T bz c cg res A eP R d=some r):AC X f (mq A eP d).1 (mq A eP d).2 (fun sv h=>sv=(R.out (mq A eP d).2 r).1/\h=(R.out (mq A eP d).2 r).2):=by
 refine AC.ab9 (abT (Q:=fun sv aN=>∃ al,s6 sv (R.out (mq A eP d).2 r).1/\kh aN al/\∀ env B w H,bp env B w al H->bp env B w (R.out (mq A eP d).2 r).2 H) av aA ai bF (by show Nat.ble (hQ A d).1.length n=true; rw[B0]; exact ag) bk aH (Ez (BO (r:=r) fun fB OH aiL=>oL av hm c true true none (fun _=>⟨rfl,rfl⟩) _ _ none mo.none _ _ _ _ (show ja X N n T bz true c none cg _ _=some r from h)) fun e s ⟨V,fu,hw,fg,al⟩=>?_)) fun sv aN ⟨al,dF,et,gp⟩=>⟨_,_,al,dF,et,gp,rfl,rfl⟩
 have key:(match qc X fu res with
  | some (c,sv)=>an c (R.get (mq A eP d).2 V fu.H sv)
  | none=>none)=some r->∃ st',gz X true n s st'/\∃ c sv,qc X st' res=some (c,sv)/\c=true/\∃ al,s6 sv (R.out (mq A eP d).2 r).1/\kh st'.H al/\∀ env B w H,bp env B w al H->bp env B w (R.out (mq A eP d).2 r).2 H:=fun ab=>by
  split at ab
  ·rename_i c sv aC
   obtain⟨aa,ab⟩:=fH ab;exact⟨fu,hw,c,sv,aC,aa,lr.ic fg ab⟩
  ·cases ab
 cases e with
 | ret=>exact⟨.inl rfl,key al⟩
 | normal=>exact⟨.inr rfl,key al⟩
 | _=>cases al
def b6 (N : Nat) (av : X.tt.ok X.P) (hm : X.P.follows .mixedOrders = true) {fn : Func} {c : Code} (A : List fQ) (eP : List (Nat × h1)) (R : lr) (T : List (bu X)) (bz : List (lq X)) (cg : fw) (res : List ResultVar) (f : FuncId) (nq : R.ty) (m : yX A eP → Option R.ty) (aA : X.P.funcs[f]? = some fn) (aM : (fn.name == "runtime.NumGoroutine") = false) (ai : fn.body = some c) (bF : fn.ntmps = n) (ag : Nat.ble A.length n = true) (bk : Nat.ble n lD = true) (aH : fn.results = res.toArray)
  (h:∀ d,Hp X N n T bz c cg res A eP R d=m d):bu X:=
 { f:=f,fn:=fn,A:=A,eP:=eP,ba:=R.ty,nq:=nq,m:=m,out:=fun d r=>R.out (mq A eP d).2 r,aA:=aA,bk:=aM,ai:=by rw[ai]; rfl,ok:=fun d r he=>OG N av hm T bz cg aA ai bF ag bk aH ((h d).trans he) }
def aca {fn : Func} {c : Code} (A : List fQ) (eP : List (Nat × h1)) (R : lr) (f : FuncId) (nq : R.ty) (aA : X.P.funcs[f]? = some fn) (aM : (fn.name == "runtime.NumGoroutine") = false) (ai : fn.body = some c) : bu X :=
 { f:=f,fn:=fn,A:=A,eP:=eP,ba:=R.ty,nq:=nq,m:=fun _=>none,out:=fun d r=>R.out (mq A eP d).2 r,aA:=aA,bk:=aM,ai:=by rw[ai]; rfl,ok:=fun d r he=>by cases he }
def lP (N : Nat) (av : X.tt.ok X.P) (hm : X.P.follows .mixedOrders = true) {fn : Func} {c : Code} (A : List fQ) (eP : List (Nat × h1)) (R : lr) (T : List (bu X)) (bz : List (lq X)) (cg : fw) (res : List ResultVar) (f : FuncId) (nq : R.ty) (m iH : yX A eP → Option R.ty) (heq : ∀ d, m d = iH d) (aA : X.P.funcs[f]? = some fn) (aM : (fn.name == "runtime.NumGoroutine") = false) (ai : fn.body = some c) (bF : fn.ntmps = n) (ag : Nat.ble A.length n = true) (bk : Nat.ble n lD = true) (aH : fn.results = res.toArray)
  (h:∀ d,Hp X N n T bz c cg res A eP R d=m d):bu X:=
 { f:=f,fn:=fn,A:=A,eP:=eP,ba:=R.ty,nq:=nq,m:=iH,out:=fun d r=>R.out (mq A eP d).2 r,aA:=aA,bk:=aM,ai:=by rw[ai]; rfl,ok:=fun d r he=>OG N av hm T bz cg aA ai bF ag bk aH ((h d).trans ((heq d).trans he)) }
end
end
theorem Hq{hb ba:Type} {step:hb->(hb->Option ba)->Option ba} (I:Nat->hb->Prop) (post:ba->Prop)
  (h:∀ k d rec,I k d->(∀ k' fJ,k' < k->I k' fJ->∃ r,rec fJ=some r/\post r)->∃ r,step d rec=some r/\post r):∀ n k d,k < n->I k d->∃ r,b5 step n d=some r/\post r
 | 0,_,_,ab,_=>by omega
 | n+1,k,d,ab,gQ=>h k d _ gQ fun k' fJ oo yY=>Hq I post h n k' fJ (by omega) yY
theorem fZ{hb ba:Type} {step:hb->(hb->Option ba)->Option ba} (I:Nat->hb->Prop) (r:ba)
  (h:∀ k d rec,I k d->(∀ k' fJ,k' < k->I k' fJ->rec fJ=some r)->step d rec=some r) (n k:Nat) (d:hb) (ab:k < n) (gQ:I k d):b5 step n d=some r:=by
 obtain⟨cE,J,rfl⟩:=Hq I (fun x=>x=r) (fun k d rec gQ aH=>⟨r,h k d rec gQ (fun k' fJ oo yY=>by obtain⟨_,J,rfl⟩:=aH k' fJ oo yY; exact J),rfl⟩) n k d ab gQ;exact J
theorem lu{α:Type} {c:Bool} {x:Option α} (h:c=true):an c x=x:=by rw[h]; rfl
def mT{α β:Type} (f:α->β) (z:β) (l:List α) (m:Nat):List β:=(l.take m).map f++List.replicate (l.length - m) z
theorem OI{α β:Type} (f:α->β) (z:β) (l:List α):mT f z l 0=List.replicate l.length z:=by simp[mT]
theorem OJ{α β:Type} (f:α->β) (z:β) (l:List α):mT f z l l.length=l.map f:=by simp[mT]
theorem OK{α β:Type} (f:α->β) (z:β) (l:List α) (m:Nat) (h:m<=l.length):(mT f z l m).length=l.length:=by simp[mT]; omega
theorem OL{α β:Type} (f:α->β) (z:β) (l:List α) (m:Nat) (h:m < l.length) (x:α) (ao:l[m]?=some x):(mT f z l m).set m (f x)=mT f z l (m+1):=by
 obtain⟨br,rfl⟩:=List.getElem?_eq_some_iff.1 ao
 apply List.ext_getElem?
 intro i;simp only[mT,List.getElem?_set,List.getElem?_append,List.length_map,List.length_take,List.getElem?_map,List.getElem?_take,List.getElem?_replicate,List.length_append,List.length_replicate]
 by_cases J:m=i
 ·subst J
  have aC:min m l.length+(l.length - m)=l.length:=by omega
  have a7:m < min (m+1) l.length:=by omega
  simp[aC,h,a7]
 ·by_cases U:i < m
  ·simp[J,show i < min m l.length by omega,show i < min (m+1) l.length by omega,U,show i < m+1 by omega]
  ·simp only[if_neg J,if_neg (show ¬ i < min m l.length by omega),if_neg (show ¬ i < min (m+1) l.length by omega)]
   rw[show min m l.length=m by omega,show min (m+1) l.length=m+1 by omega]
   by_cases ae:i < l.length
   ·rw[if_pos (by omega),if_pos (by omega)]
   ·rw[if_neg (by omega),if_neg (by omega)]
theorem B2{x:Int} (J:-9223372036854775808<=x) (U:x<=9223372036854775807):aY x=true:=by
 exact DX.2 ⟨J,U⟩
theorem dV{α:Type} {l:List α} {m:Nat} {x z:α} (h:l[m]?=some x):l.getD m z=x:=by
 rw[List.getD_eq_getElem?_getD,h]; rfl
theorem OM{x:Int} (J:0<=x) (U:x<=255):IntKind.wrap .u8 x=x:=by
 simp[IntKind.wrap,IntKind.bits,IntKind.signed]
 omega
theorem yZ{α:Type} {l:List α} {j:Nat} {x:α} (h:l[j]?=some x):l.set j x=l:=by
 obtain⟨J,U⟩:=List.getElem?_eq_some_iff.1 h;rw[<- U];exact List.set_getElem_self J
def T{α:Type} (x:Option α) (P:α->Prop):Prop:=∃ r,x=some r/\P r
theorem B3{α:Type} {r:α} {P:α->Prop}:T (some r) P ↔ P r:=
 ⟨fun⟨_,h,ar⟩=>by cases h; exact ar,fun h=>⟨r,rfl,h⟩⟩
theorem ON{α:Type} {c:Bool} {k:Option α} {P:α->Prop}:T (an c k) P ↔ c=true/\T k P:=by
 cases c
 ·exact⟨fun⟨_,h,_⟩=>(by cases h),fun h=>by cases h.1⟩
 ·exact⟨fun h=>⟨rfl,h⟩,fun h=>h.2⟩
theorem acb{α β:Type} {x:Option α} {f:α->Option β} {P:β->Prop}:T (Option.bind x f) P ↔ T x fun r=>T (f r) P:=by
 cases x with
 | none=>exact⟨fun⟨_,h,_⟩=>(by cases h),fun⟨_,h,_⟩=>by cases h⟩
 | some a=>exact⟨fun h=>⟨a,rfl,h⟩,fun⟨_,h,ar⟩=>by cases h; exact ar⟩
theorem OO{α:Type} {b:Bool} {x y:Option α} {P:α->Prop}:T (cond b x y) P ↔ (b=true->T x P)/\(b=false->T y P):=by
 cases b
 ·exact⟨fun h=>⟨fun e=>(by cases e),fun _=>h⟩,fun h=>h.2 rfl⟩
 ·exact⟨fun h=>⟨fun _=>h,fun e=>by cases e⟩,fun h=>h.1 rfl⟩
theorem acd{α β kn:Type} {a:α} {f:α->Option kn} {g:β->Option kn} {P:kn->Prop}:T (sm (.inl a) f g) P ↔ T (f a) P:=Iff.intro id id
theorem ace{α β kn:Type} {b:β} {f:α->Option kn} {g:β->Option kn} {P:kn->Prop}:T (sm (.inr b) f g) P ↔ T (g b) P:=Iff.intro id id
theorem T.mono{α:Type} {x:Option α} {P Q:α->Prop} (h:T x P) (au:∀ r,P r->Q r):T x Q:=by
 obtain⟨r,J,U⟩:=h;exact⟨r,J,au r U⟩
theorem T.eq{α:Type} {x:Option α} {r:α} (h:T x (·=r)):x=some r:=by
 obtain⟨_,J,U⟩:=h;rw[J,U]
theorem ck{α:Type} {x:Option α} {r:α} (h:x=some r) {P:α->Prop}:T x P ↔ P r:=by rw[h]; exact B3
theorem OP{hb ba:Type} {step:hb->(hb->Option ba)->Option ba} (I:Nat->hb->Prop) (post:ba->Prop)
  (h:∀ k d rec,I k d->(∀ k' fJ,k' < k->I k' fJ->T (rec fJ) post)->T (step d rec) post) (n k:Nat) (d:hb) (ab:k < n) (gQ:I k d):T (b5 step n d) post:=Hq I post h n k d ab gQ
theorem acf{z:Int} {n:Nat}:aT z n=true ↔ 0<=z/\z < (n:Int):=by unfold aT; rw[Bool.and_eq_true,decide_eq_true_eq,decide_eq_true_eq]
theorem acg{b k:Nat}:cM b k=true ↔ k * b<=140737488355328/\k<=140737488355328:=by unfold cM; rw[Bool.and_eq_true,decide_eq_true_eq,decide_eq_true_eq]
theorem Hr{b:Nat} {z:Int}:e1 b z=true ↔ b * z.toNat<=140737488355328/\z.toNat<=140737488355328:=by unfold e1; rw[Bool.and_eq_true,Nat.ble_eq,Nat.ble_eq]
theorem ach{a b:Bool}:dC a b=true ↔ (a=true->b=true):=by cases a<;>cases b<;>decide
theorem aci{a b:Bool}:cond a true b=true ↔ a=true\/b=true:=by cases a<;>cases b<;>decide
theorem acj{a b:Bool}:cond a true b=false ↔ a=false/\b=false:=by cases a<;>cases b<;>decide
theorem ack{a b:Bool}:cond a b false=true ↔ a=true/\b=true:=by cases a<;>cases b<;>decide
theorem Hs{a b:Bool}:cond a b false=false ↔ a=false\/b=false:=by cases a<;>cases b<;>decide
theorem acm{a:Bool}:(!a)=true ↔ a=false:=by cases a<;>decide
theorem acn{a:Bool}:(!a)=false ↔ a=true:=by cases a<;>decide
theorem aco{a b:Nat}:Nat.beq a b=true ↔ a=b:=by rw[Nat.beq_eq]
theorem bQ:(∀ {α:Type} {r:α} {P:α->Prop},T (some r) P ↔ P r)/\(∀ {α:Type} {c:Bool} {k:Option α} {P:α->Prop},T (an c k) P ↔ c=true/\T k P) /\
  (∀ {α β:Type} {x:Option α} {f:α->Option β} {P:β->Prop},T (Option.bind x f) P ↔ T x fun r=>T (f r) P) /\
  (∀ {α:Type} {b:Bool} {x y:Option α} {P:α->Prop},T (cond b x y) P ↔ (b=true->T x P)/\(b=false->T y P)) /\
  (∀ {α β kn:Type} {a:α} {f:α->Option kn} {g:β->Option kn} {P:kn->Prop},T (sm (.inl a) f g) P ↔ T (f a) P) /\
  (∀ {α β kn:Type} {b:β} {f:α->Option kn} {g:β->Option kn} {P:kn->Prop},T (sm (.inr b) f g) P ↔ T (g b) P) /\
  (∀ {z:Int} {n:Nat},aT z n=true ↔ 0<=z/\z < (n:Int))/\(∀ {x:Int},aY x=true ↔ -9223372036854775808<=x/\x<=9223372036854775807) /\
  (∀ {b k:Nat},cM b k=true ↔ k * b<=140737488355328/\k<=140737488355328)/\(∀ {b:Nat} {z:Int},e1 b z=true ↔ b * z.toNat<=140737488355328/\z.toNat<=140737488355328) /\
  (∀ {a b:Bool},dC a b=true ↔ (a=true->b=true))/\(∀ {a b:Bool},cond a true b=true ↔ a=true\/b=true)/\(∀ {a b:Bool},cond a true b=false ↔ a=false/\b=false) /\
  (∀ {a b:Bool},cond a b false=true ↔ a=true/\b=true)/\(∀ {a b:Bool},cond a b false=false ↔ a=false\/b=false) /\
  (∀ {a:Bool},(!a)=true ↔ a=false)/\(∀ {a:Bool},(!a)=false ↔ a=true)/\(∀ {a b:Nat},Nat.beq a b=true ↔ a=b) /\
  (∀ {p:Prop} [Decidable p],decide p=true ↔ p)/\(∀ {p:Prop} [Decidable p],decide p=false ↔ ¬ p)/\(∀ {a b:Bool},(a&&b)=true ↔ a=true/\b=true)/\(∀ {a b:Bool},(a || b)=true ↔ a=true\/b=true)/\(∀ {a b:Bool},(a&&b)=false ↔ a=false\/b=false) /\
  (∀ {n:Nat},(n:Int).toNat=n)/\(∀ {p:Prop},(True/\p) ↔ p)/\(∀ {p:Prop},(p/\True) ↔ p)/\(∀ {p:Prop},(True->p) ↔ p)/\(∀ {p:Prop},(False->p) ↔ True)/\(∀ {p:Prop},(p->True) ↔ True) /\
  ((¬ True) ↔ False)/\((¬ False) ↔ True)/\(∀ {p:Prop},(True\/p) ↔ True)/\(∀ {p:Prop},(p\/True) ↔ True)/\(∀ {p:Prop},(False\/p) ↔ p)/\(∀ {p:Prop},(p\/False) ↔ p)/\(∀ {p:Prop},(False/\p) ↔ False)/\(∀ {p:Prop},(p/\False) ↔ False) /\
  (∀ {b:Bool},(true&&b)=b)/\(∀ {b:Bool},(false&&b)=false)/\(∀ {b:Bool},(b&&true)=b)/\(∀ {b:Bool},(b&&false)=false)/\((!true)=false)/\((!false)=true)/\(decide True=true)/\(decide False=false):=
 ⟨B3,ON,acb,OO,acd,ace,acf,DX,acg,Hr,ach,aci,acj,ack,Hs,acm,acn,aco,decide_eq_true_iff,decide_eq_false_iff_not,Bool.and_eq_true_iff,Bool.or_eq_true_iff,Bool.and_eq_false_iff,
  Int.toNat_natCast _,by simp,by simp,by simp,by simp,by simp,by simp,by simp,by simp,by simp,by simp,by simp,by simp,by simp,by simp,by simp,by simp,by simp,rfl,rfl,by simp,by simp⟩
theorem di:(∀ {α:Type} {a b:List α},(a++b).length=a.length+b.length)/\(∀ {α:Type} {a:α} {b:List α},(a :: b).length=b.length+1)/\(∀ {α:Type},([]:List α).length=0):=
 ⟨List.length_append,List.length_cons,List.length_nil⟩
section
open Go.RowKit
abbrev acp:aR:=.pair (.int .u8) (.int .u8)
abbrev acq:Type:=Int×Int
abbrev aL:aR:=.pair (.int .u8) (.int .i64)
abbrev aq:Type:=Int×Int
abbrev jb:aR:=.pair (.int .u8) acp
abbrev B4:Type:=Int×acq
abbrev dm:aR:=.pair .bool (.pair .bool (.pair .bool .bool))
abbrev OQ:Type:=Bool×(Bool×(Bool×Bool))
abbrev eC:aR:=.pair (.int .u8) (.ah aL)
abbrev dI:Type:=Int×(List aq)
abbrev dK:aR:=.pair aL (.pair .bool (.int .u8))
abbrev qr:Type:=aq×(Bool×Int)
abbrev h4:aR:=.pair aL aL
abbrev fS:Type:=aq×aq
abbrev acr:aR:=.pair (.ah aL) (.ah aL)
abbrev acs:Type:=(List aq)×(List aq)
abbrev nB:aR:=.pair (.int .u8) (.pair (.int .u8) (.pair (.int .i64) (.pair (.int .i64) .bool)))
abbrev kt:Type:=Int×(Int×(Int×(Int×Bool)))
abbrev cX:aR:=.pair aL (.pair aL (.int .i64))
abbrev cR:Type:=aq×(aq×Int)
abbrev fF:aR:=.pair (.ah (.ah aL)) (.ah (.ah aL))
abbrev ig:Type:=(List (List aq))×(List (List aq))
abbrev tU:aR:=.pair (.int .i64) (.pair .bool (.ah dK))
abbrev Ht:Type:=Int×(Bool×(List qr))
abbrev cY:aR:=.pair (.int .u8) (.pair (.int .u8) h4)
abbrev bL:Type:=Int×(Int×fS)
abbrev bM:aR:=.pair .bool (.pair (.int .i64) tU)
abbrev cd:Type:=Bool×(Int×Ht)
abbrev cl:aR:=.pair (.int .u8) (.pair .bool (.pair (.ah aL) (.ah dK)))
abbrev bX:Type:=Int×(Bool×((List aq)×(List qr)))
abbrev ob:aR:=.pair (.ah (.ah cl)) (.pair (.ah cX) acr)
abbrev lv:Type:=(List (List bX))×((List cR)×acs)
abbrev y0:aR:=.pair (.ah eC) (.pair (.ah bM) (.pair ob (.int .u8)))
abbrev y1:Type:=(List dI)×((List cd)×(lv×Int))
abbrev nC:aR:=.pair (.int .i64) (.pair fF (.pair (.ah bM) ob))
abbrev kP:Type:=Int×(ig×((List cd)×lv))
end
section
open Go.RowKit
end
section
theorem bB.OR{X:bl} {fB C cP b3 B':Nat->Prop} {bN ak w dq:World} {n:Nat} {ks:List Nat} {env:Nat->Loc} {H:List bd} {st:aK} {a:Act} (h:bB X (fun k=>fB k\/C k) bN ⟨b3,fun _ _=>False,[]⟩ n ks env B' ak H st a w) (aM:Grow B' C cP w dq) (dt:∀ k,cP k->k < dq.heap.size) {d:Nat} (ax:Nat.blt d n=true) (v:Value) :
  bB X (fun k=>fB k\/cP k) dq ⟨B',fun _ _=>False,[]⟩ n ks env B' dq H ⟨(d,.c (.val v)) :: st.L,st.H⟩ (a.put (some d) v) dq:=by
 have aI:=h.bK.put d v (dB ax);have br:∀ k,(fB k\/C k)\/B' k->k < w.heap.size:=fun k ab=>h.aJ.base k ab
 have k8:∀ k,B' k->dq.heap[k]?=w.heap[k]?:=fun k ab=>aM.dY.block k (.inl ab)
 have c4:fv B' ak B' dq:=⟨fun _ h=>h,fun k ab=>(k8 k ab).trans (h.aJ.below.block k (.inr ab))⟩
 have ib:∀ b,b < w.heap.size->¬ ((fB b\/C b)\/B' b)->¬ (fB b\/cP b):=fun b ai bk aH=>by
  rcases aH with aH | aH
  ·exact bk (.inl (.inl aH))
  ·rcases aM.new b aH with J | J | J
   ·exact bk (.inl (.inr J))
   ·omega
   ·exact bk (.inr J)
 refine⟨aI.size,aI.defs,fun s sv al=>?_,h.heap.up c4,⟨da.refl _ _,fun k ab=>?_,fun c aa=>?_,h.aJ.apart⟩,fun _ h=>h,fun _ h=>.inl h,fun _ _ h=>h.elim,da.refl _ _,fun i x ao=>(h.dT i x ao).up c4⟩
 ·rw[ct]at al
  split at al
  ·rename_i e; subst e; cases al; exact⟨v,aI.this,rfl⟩
  ·rename_i e
   obtain⟨u,J,U⟩:=h.has s sv al;exact⟨u,aI.other e J,U.up c4⟩
 ·rcases ab with(ab | ab) | ab
  ·exact Nat.lt_of_lt_of_le (br k (.inl (.inl ab))) aM.dY.size
  ·exact dt k ab
  ·exact Nat.lt_of_lt_of_le (br k (.inr ab)) aM.dY.size
 ·have gI:=h.aJ.ok c aa
  have j5:=gI.dY (w':=dq) fun b ai=>aM.dY.block b (.inr ⟨(gI.lt ai).2,fun Hu=>(gI.lt ai).1 (.inl (.inr Hu))⟩)
  exact j5.base fun b ai aH=>by
   rcases aH with aH | aH
   ·exact ib b (gI.lt ai).2 (gI.lt ai).1 aH
   ·exact(gI.lt ai).1 (.inr aH)
section
variable {X:bl} {n:Nat} {α:Type}
def gu.it(fB:Nat->Prop) (eJ:List α->(Nat->Prop)->(Nat->Prop)->World->Prop) (gr:Unit->(Nat->Prop)->World->Prop):gu X true n none (List α) where
 In r st a w:=∃ C bN b3,(eJ r C b3 bN\/(r=[]/\gr () C bN))/\kC X (fun k=>fB k\/C k) bN ⟨b3,fun _ _=>False,[]⟩ true n st a w
 frame h hi:=by
  obtain⟨C,bN,b3,J,ae⟩:=hi;exact wpIn_mono (h _ _ _ _ _ ae) fun _ _ _ ⟨s,aw,aF⟩=>⟨s,aw,C,bN,b3,J,aF⟩
 step h hi KK bT:=by
  obtain⟨C,bN,b3,J,ks,env,B',ak,H,b2,ad⟩:=hi;exact h _ _ _ _ _ _ _ _ _ _ ad _ fun aQ w' env' B' cy H' bW=>bT _ _ ⟨C,bN,b3,J,ks,env',B',cy,H',b2,bW⟩
 er h hi:=by
  obtain⟨C,bN,b3,J,ae⟩:=hi;exact⟨C,bN,b3,J,h _ _ _ _ _ ae⟩
 vV hi:=by
  obtain⟨C,bN,b3,J,ks,env,B',ak,H,b2,ad⟩:=hi;exact⟨_,_,_,_,_,_,_,_,ad⟩
def r3{α:Type} (b:Bool) (x:α) (f t:Option (List α)):Option (List α):=match b,f,t with
 | true,some [],some l=>some (x :: l)
 | _,_,_=>none
def tV(E:List fQ) (id l:Nat) (args:List bf) (f t:Option (List (dp (iW E [])))):Option (List (dp (iW E []))):=match lj args,vi (T:=[]) E args ()with
 | true,some x=>r3 (Nat.beq l id) x f t
 | _,_=>none
theorem YieldAt.zero{P:Program} {l:Nat} {args:Array Value} {W:World} {R:Ending->World->Prop} (h:YieldAt Fence.wide 1 P l args W R):YieldAt Fence.wide 0 P l args W R:=by
 obtain⟨fn,tmps,assign,body,J,U,ae⟩:=h;exact⟨fn,tmps,assign,body,J,U,fun c cs _=>ae c cs (room_wide _)⟩
theorem OS{sv:Option bZ} {l:Nat} (h:ts sv=some l):sv=some (.a (.c (.val (.func (.yield l) #[] #[])))):=by
 unfold ts at h
 split at h
 ·cases h; rfl
 ·cases h
theorem dx.no{env:Nat->Loc} {B:Nat->Prop} {w:World}:∀ {xs:List bf} {vs:List Value},lj xs=true->dx env B w xs vs->dx (fun _=>.no) B w xs vs
 | [],_,_,h=>h
 | .c x :: xs,_,aA,⟨v,r,e,J,U⟩=>by
  unfold lj at aA
  split at aA
  ·rename_i ao
   refine⟨v,r,e,?_,dx.no aA U⟩;have jV:x.free=true:=ao;cases x with
   | fn f cs=>
    obtain⟨vs,e,ar⟩:=J;exact⟨vs,e,ar.EV jV⟩
   | _=>first | exact J | cases jV
  ·cases aA
 | .agg cs :: xs,_,aA,⟨v,r,e,⟨vs,a7,J⟩,U⟩=>by
  unfold lj at aA
  split at aA
  ·rename_i ao
   refine⟨v,r,e,⟨vs,a7,?_⟩,dx.no aA U⟩;have jV:qw cs=true:=ao
   clear ao e a7 U
   induction cs generalizing vs with
   | nil=>exact J
   | cons x cs bx=>
    obtain⟨v,r,e,ae,aw⟩:=J;unfold qw at jV
    split at jV
    ·rename_i BE
     refine⟨v,r,e,?_,bx _ aw jV⟩;cases x with
     | fn f cs=>
      obtain⟨vs,e,ar⟩:=ae;exact⟨vs,e,ar.EV BE⟩
     | _=>first | exact ae | cases BE
    ·cases jV
  ·cases aA
 | .arr g l :: xs,_,aA,⟨v,r,e,J,U⟩=>by
  unfold lj at aA
  split at aA
  ·exact⟨v,r,e,J,dx.no aA U⟩
  ·cases aA
structure Cons(X:bl) (E:List fQ) (id:Nat) (eJ:List (dp (iW E []))->(Nat->Prop)->(Nat->Prop)->World->Prop) (gr:Unit->(Nat->Prop)->World->Prop):Prop where
 jn:yD eJ
 fa:yC gr
 lt:∀ r C b3 W,eJ r C b3 W->∀ k,C k->k < W.heap.size
 OT:∀ r C W,gr r C W->∀ k,C k->k < W.heap.size
 take:∀ x rest C b3 dS bN vs,eJ (x :: rest) C b3 bN->tG C b3 dS bN->dx (fun _=>.no) dS bN (hQ E x).1 vs->YieldAt Fence.wide 1 X.P id vs.toArray bN fun e dq=>
   (e=.returned (.bool true)/\∃ cP,eJ rest cP dS dq/\Grow dS C cP bN dq)\/(e=.returned (.bool false)/\∃ cP,gr () cP dq/\Grow dS C cP bN dq)
end
end
section
theorem bB.OU{X:bl} {fB C cP acu OV B':Nat->Prop} {p:Nat->Loc->Prop} {bN ak w dq:World} {n:Nat} {ks:List Nat} {env:Nat->Loc} {H:List bd} {st:aK} {a:Act} (h:bB X (fun k=>fB k\/C k) bN ⟨acu,p,[]⟩ n ks env B' ak H st a w) (aM:Grow B' C cP w dq) (dt:∀ k,cP k->k < dq.heap.size) (ai:∀ k,OV k ↔ B' k) {d:Nat} (ax:Nat.blt d n=true) (v:Value) :
  bB X (fun k=>fB k\/cP k) dq ⟨OV,p,[]⟩ n ks env B' dq H ⟨(d,.c (.val v)) :: st.L,st.H⟩ (a.put (some d) v) dq:=by
 have aI:=h.bK.put d v (dB ax);have br:∀ k,(fB k\/C k)\/B' k->k < w.heap.size:=fun k ab=>h.aJ.base k ab
 have k8:∀ k,B' k->dq.heap[k]?=w.heap[k]?:=fun k ab=>aM.dY.block k (.inl ab)
 have c4:fv B' ak B' dq:=⟨fun _ h=>h,fun k ab=>(k8 k ab).trans (h.aJ.below.block k (.inr ab))⟩
 have ib:∀ b,b < w.heap.size->¬ ((fB b\/C b)\/B' b)->¬ (fB b\/cP b):=fun b ai bk aH=>by
  rcases aH with aH | aH
  ·exact bk (.inl (.inl aH))
  ·rcases aM.new b aH with J | J | J
   ·exact bk (.inl (.inr J))
   ·omega
   ·exact bk (.inr J)
 refine⟨aI.size,aI.defs,fun s sv al=>?_,h.heap.up c4,⟨da.refl _ _,fun k ab=>?_,fun c aa=>?_,h.aJ.apart⟩,fun k ab=>(ai k).1 ab,fun k ab=>.inl ((ai k).2 ab),h.dj,da.refl _ _,fun i x ao=>(h.dT i x ao).up c4⟩
 ·rw[ct]at al
  split at al
  ·rename_i e; subst e; cases al; exact⟨v,aI.this,rfl⟩
  ·rename_i e
   obtain⟨u,J,U⟩:=h.has s sv al;exact⟨u,aI.other e J,U.up c4⟩
 ·rcases ab with(ab | ab) | ab
  ·exact Nat.lt_of_lt_of_le (br k (.inl (.inl ab))) aM.dY.size
  ·exact dt k ab
  ·exact Nat.lt_of_lt_of_le (br k (.inr ab)) aM.dY.size
 ·have gI:=h.aJ.ok c aa
  have j5:=gI.dY (w':=dq) fun b ai=>aM.dY.block b (.inr ⟨(gI.lt ai).2,fun Hu=>(gI.lt ai).1 (.inl (.inr Hu))⟩)
  exact j5.base fun b ai aH=>by
   rcases aH with aH | aH
   ·exact ib b (gI.lt ai).2 (gI.lt ai).1 aH
   ·exact(gI.lt ai).1 (.inr aH)
section
variable {X:bl} {M:Bool} {n:Nat} {rr:Option Nat} {α:Type}
structure Hv where
 fB:Nat->Prop
 fp:Nat->Prop
 om:Nat->Prop
 ie:Nat->Prop
 OH:World
 p:Nat->Loc->Prop
structure Hw(D:Hv) (C b3:Nat->Prop) (bN:World):Prop where
 sG:∀ k,D.fp k->b3 k\/(¬ C k/\p4 bN k)
 tW:da (fun k=>(D.fB k/\¬ D.ie k)\/D.fp k) D.OH bN
 B5:∀ k,D.fB k->¬ D.ie k->C k->D.fp k
 Hx:∀ k,D.fB k->b3 k->D.fp k
 xH:∀ k,D.om k->b3 k
 Hy:∀ k,D.fp k->D.fB k
def gu.Hz(D:Hv) (eJ:List α->(Nat->Prop)->(Nat->Prop)->World->Prop) (gr:Unit->(Nat->Prop)->World->Prop):gu X M n rr (List α) where
 In r st a w:=∃ C bN b3,(eJ r C b3 bN\/(r=[]/\gr () C bN))/\Hw D C b3 bN/\kC X (fun k=>D.fB k\/C k) bN ⟨fun k=>b3 k\/D.fp k,D.p,[]⟩ M n st a w
 frame h hi:=by
  obtain⟨C,bN,b3,J,U,ae⟩:=hi;exact wpIn_mono (h _ _ _ _ _ ae) fun _ _ _ ⟨s,aw,aF⟩=>⟨s,aw,C,bN,b3,J,U,aF⟩
 step h hi KK bT:=by
  obtain⟨C,bN,b3,J,U,ks,env,B',ak,H,b2,ad⟩:=hi;exact h _ _ _ _ _ _ _ _ _ _ ad _ fun aQ w' env' B' cy H' bW=>bT _ _ ⟨C,bN,b3,J,U,ks,env',B',cy,H',b2,bW⟩
 er h hi:=by
  obtain⟨C,bN,b3,J,U,ae⟩:=hi;exact⟨C,bN,b3,J,U,h _ _ _ _ _ ae⟩
 vV hi:=by
  obtain⟨C,bN,b3,J,U,ks,env,B',ak,H,b2,ad⟩:=hi;exact⟨_,_,_,_,_,_,_,_,ad⟩
theorem acv(av:X.tt.ok X.P) {E:List fQ} {id:Nat} {D:Hv} {eJ:List (dp (iW E []))->(Nat->Prop)->(Nat->Prop)->World->Prop} {gr:Unit->(Nat->Prop)->World->Prop} (aa:Cons X E id eJ gr):v7 (Γ:=gu.Hz (X:=X) (M:=M) (n:=n) (rr:=rr) D eJ gr) (some (tV E id)):=by
 rintro ops Q em HA l args f t r aH;cases HA;unfold tV at aH
 split at aH
 ·rename_i x ry p8
  unfold r3 at aH
  split at aH
  ·rename_i rt ag
   cases aH;have l4:=Nat.eq_of_beq_eq_true ag;subst l4;refine⟨_,_,rfl,rfl,?_⟩;intro o rest st d s us fc c az bb ax aV sU il HB HC a w hi;obtain⟨C,bN,b3,aX,dL,ks,env,B',ak,H,b2,ad⟩:=hi
   rcases aX with aX | ⟨aX,_⟩
   ·obtain⟨vs,J,U⟩:=sM ad sU il
    obtain⟨uY,ae,aw⟩:=ad.has _ _ (OS aV);rw[show uY=_ from aw]at ae;have c4:fv B' ak B' w:=⟨fun _ h=>h,fun k ab=>ad.aJ.below.block k (.inr ab)⟩
    have aM:=(xL p8).2;have nx:dx (fun _=>.no) B' w (hQ E x).1 vs:=aM _ _ _ _ (dx.no ry (U.up c4));have oM:da (fun k=>D.fB k\/C k) bN w:=⟨(ad.aJ.below.os).trans ad.base.os,(ad.aJ.below.tape).trans ad.base.tape,(ad.aJ.below.output).trans ad.base.output,Nat.le_trans ad.base.size ad.aJ.below.size,fun k ab=>(ad.aJ.below.block k (.inl ab)).trans (ad.base.block k ab)⟩
    have pI:=aa.jn _ _ _ _ _ aX ⟨oM.os,oM.tape,oM.output,oM.size,fun k ab=>oM.block k (.inr ab)⟩;have lN:tG C b3 B' w:=⟨fun k ab=>ad.sub k (.inl ab),fun k ab=>by
     rcases ad.new k ab with(aF | aF) | ⟨aF,aW⟩
     ·exact .inl aF
     ·exact(dL.sG k aF).imp_right fun aW=>⟨aW.1,aW.2.dY (oM.block k (.inl (dL.Hy k aF)))⟩
     ·exact .inr ⟨fun h=>aF (.inr h),aW.dY (ad.aJ.below.block k (.inr ab))⟩⟩
    obtain⟨fn,tmps,assign,body,HD,HE⟩:=YieldAt.zero (aa.take _ _ _ _ _ _ _ pI lN nx);have hw:Region.wanted o (yielded ops.toArray a.tmps)=true:=bb.1 ad;show(if Region.wanted o (yielded ops.toArray a.tmps)then _ else _);rw[if_pos hw];refine⟨fun _ _=>trivial,?_⟩;have dw:(execOp a.eval o).run X.P w=.ok (.round l fn tmps assign body) w:=by
     have aC:=ad.bK.aB (x:=.tmp s) (hK ae);have a7:(us.toArray.map a.eval)=vs.toArray:=LL ad.bK J;simp only[execOp,az,resolve,aC]
     simp[Deferred.ofValue,invoke,a7,HD,go_sem]
    have OW:∀ k,D.fB k->B' k->D.fp k:=fun k aF aW=>by
     rcases ad.new k aW with(bC | bC) | ⟨bC,_⟩
     ·exact dL.Hx k aF bC
     ·exact bC
     ·exact absurd (.inl aF) bC
    have fX:∀ {cP:Nat->Prop} {hC:World},Grow B' C cP w hC->Hw D cP B' hC:=fun {cP hC} cb=>by
     refine⟨fun k ab=>.inl (ad.sub k (.inr ab)),?_,fun k aF aW bC=>?_,OW,fun k ab=>ad.sub k (.inl (dL.xH k ab)),dL.Hy⟩
     ·refine dL.tW.trans ⟨cb.dY.os.trans oM.os,cb.dY.tape.trans oM.tape,cb.dY.output.trans oM.output,Nat.le_trans oM.size cb.dY.size,fun k ab=>?_⟩
      have fV:D.fB k:=ab.elim (fun h=>h.1) (dL.Hy k);refine(cb.dY.block k ?_).trans (oM.block k (.inl fV))
      rcases ab with ab | ab
      ·by_cases jI:C k
       ·exact .inl (ad.sub k (.inr (dL.B5 k ab.1 ab.2 jI)))
       ·exact .inr ⟨ad.aJ.base k (.inl (.inl fV)),jI⟩
      ·exact .inl (ad.sub k (.inr ab))
     ·rcases cb.new k bC with db | db | db
      ·exact dL.B5 k aF aW db
      ·have:=ad.aJ.base k (.inl (.inl aF))
       omega
      ·exact OW k aF db
    have OX:∀ k,(B' k\/D.fp k) ↔ B' k:=fun k=>⟨fun h=>h.elim id fun h=>ad.sub k (.inr h),.inl⟩
    show Oper.uponIn _ _ _ _ _ _ _ ((o.semAt _ a.eval).run X.P w);rw[Oper.semAt_eq _ _ _ (fun c h=>by rw[az]at h; cases h),dw];have gH:∀ {R:Ending->World->Prop},RoundIn Fence.wide 0 X.P l fn tmps assign body w R->RoundIn (WF rr) 0 X.P l fn tmps assign body w R:=fun h=>by cases rr<;>exact h
    refine⟨(fun h=>by cases rr<;>cases h),RoundIn.mono (gH HE) ?_⟩;intro e hC au;rw[bb.2]
    rcases au with⟨rfl,cP,oN,cb⟩ | ⟨rfl,cP,oN,cb⟩
    ·exact HC _ _ ⟨cP,hC,B',.inl oN,fX cb,ks,env,B',hC,H,⟨b2.1,b2.2⟩,bB.OU ad cb (aa.lt _ _ _ _ oN) OX ax _⟩
    ·exact HB _ _ ⟨cP,hC,B',.inr ⟨rfl,oN⟩,fX cb,ks,env,B',hC,H,⟨b2.1,b2.2⟩,bB.OU ad cb (aa.OT _ _ _ oN) OX ax _⟩
   ·cases aX
  ·cases aH
 ·cases aH
end
end
theorem bB.OY{X:bl} {R pX b b':Nat->Prop} {p:Nat->Loc->Prop} {d:List Deferred} {W:World} {n:Nat} {ks:List Nat} {env:Nat->Loc} {B:Nat->Prop} {ak:World} {H:List bd} {st:aK} {a:Act} {w:World} (h:bB X R W ⟨b,p,d⟩ n ks env B ak H st a w) (fV:∀ k,R k ↔ pX k) (ai:∀ k,b k ↔ b' k):bB X pX W ⟨b',p,d⟩ n ks env B ak H st a w:=by
 have aC:R=pX:=funext fun k=>propext (fV k)
 have a7:b=b':=funext fun k=>propext (ai k)
 subst aC a7;exact h
theorem acw{α β gR:Type} {X:bl} {n:Nat} {st:aK} {Q:Exit->aK->List gR->Prop} {g:Operand} {pl:List Nat} {assign body:Code} {gf:FuncId} {fn:Func} {fK:List e8} {kL:α->List bf} {l:List α} {b:Bool} {ms:List (Nat×Nat)} {ar eY:bo}
  {fB:Nat->Prop} {eJ:List gR->(Nat->Prop)->(Nat->Prop)->World->Prop} {gr:Unit->(Nat->Prop)->World->Prop} (jn:yD eJ) (fa:yC gr) {fE:List gR}
  (aM : bj X st.L g = some (b, .c (.fn gf fK))) (ai : b = true) (fP : X.P.funcs[gf]? = some fn) (qH : (fn.name == "runtime.NumGoroutine") = false) (qI : fn.body.isNone = false) (mb : tK X gf fK ar l kL) (hlen : ∀ x, (kL x).length = pl.length) (gX : lI n pl = true) (n8 : lf n assign ms) (lY : lI n (ms.map (·.1)) = true) (bk : Nat.ble n hx = true)
  (fW:β->bo) (bI:List α->β->List gR->Prop) (kN:Exit->bo->List gR->Prop) (hG:β) (aP:bI l hG fE) (dZ:st.H=ar++eY) (dO:∀ {env:Nat->Loc} {B:Nat->Prop} {w:World} {H:List bd},bp env B w eY H->∃ H' Y,H.Perm (H'++Y)/\bp env B w (fW hG) H')
  (oK:∀ id x rest y r D,bI (x :: rest) y r->hR (gu.Hz (X:=X) (M:=false) (n:=n) (rr:=some id) D eJ gr) body r ⟨qi ms (rE pl (kL x) (fA (gx n) st.L)),fW y⟩ (fun e s cE=>(e=.normal/\∃ mi,bI rest mi cE/\∃ dR,gz X false n s ⟨dR,fW mi⟩)\/(e≠.normal/\AJ e=true/\∃ aN,kN e aN cE/\∃ dR,gz X false n s ⟨dR,aN⟩)))
  (nw:∀ y r,bI [] y r->Q .normal ⟨fA (gx n) st.L,fW y⟩ r)
  (lM:∀ e aN r,kN e aN r->Q e ⟨fA (gx n) st.L,aN⟩ r):hR (gu.it (X:=X) (n:=n) fB eJ gr) (.rangeFunc g pl.toArray assign body) fE st Q:=by
 intro a w hi;obtain⟨wa,OZ,B6,acx,ks,env,B,ak,pF,b2,eV⟩:=hi;have yJ:=eV.heap;rw[dZ]at yJ;obtain⟨O,H2,GO,hY,hv⟩:=bp.split (l:=ar) yJ;obtain⟨H,Y,Ba,pn⟩:=dO hv;subst GO;have ad:bB X (fun k=>fB k\/wa k) OZ ⟨B6,fun _ _=>False,[]⟩ n ks env B ak (O++H) ⟨st.L,ar++fW hG⟩ a w:=by
  refine⟨eV.size,eV.defs,eV.has,hY.append pn,?_,eV.sub,eV.new,eV.dj,eV.base,eV.dT⟩;have au:((O++H2)++ks.map c7).Perm (((O++H)++ks.map c7)++Y):=by
   refine((Ba.append_left O).append_right _).trans ?_;simp only[List.append_assoc];exact((List.perm_append_comm).append_left H).append_left O
  exact(eV.aJ.perm au).er (List.sublist_append_left _ _)
 obtain⟨a8,c3,lb,rfl,dy⟩:=eV.aB aM ai;obtain⟨kQ,gH⟩:∃ kQ:Nat->Prop,kQ=fun k=>fB k\/B k:=⟨_,rfl⟩
 have y2:∀ k,kQ k ↔ fB k\/B k:=fun k=>by rw[gH]
 have hH:bB X (fun k=>kQ k\/wa k) w ⟨fun k=>B6 k\/B k,l3 n env,[]⟩ n ks env B w (O++H) ⟨st.L,ar++fW hG⟩ a w:=ad.LJ.OY (fun k=>by rw[y2]; constructor<;>(intro h; rcases h with(h | h) | h)<;>simp[h]) fun k=>⟨.inr,fun h=>h.elim (ad.sub k) id⟩
 have qJ:fv B ak B w:=⟨fun _ h=>h,fun k ab=>ad.aJ.below.block k (.inr ab)⟩
 have tJ:∀ k,B k->k < w.heap.size:=fun k ab=>ad.aJ.base k (.inr ab)
 have tH:=mb B w lb env O tJ (fun i x ao=>(ad.dT i x ao).up qJ) (dy.up qJ) (hY.up qJ);have hj:=Nat.le_of_ble_eq_true bk;have qe:(H++ks.map c7).Sublist ((O++H)++ks.map c7):=by
  rw[List.append_assoc];exact List.sublist_append_right _ _
 have GP:bA (kM (fun k=>kQ k\/wa k) B H ks) w O w:=by
  have kX:=ad.aJ.apart;rw[List.append_assoc,List.pairwise_append]at kX;refine⟨da.refl _ _,fun k ab=>?_,fun c aa=>?_,kX.1⟩
  ·rcases ab with ab | ab | ⟨c,aa,e⟩
   ·exact hH.aJ.base k (.inl ab)
   ·exact ad.aJ.base k (.inr ab)
   ·exact((ad.aJ.ok c (qe.subset aa)).lt e).2
  ·have gI:=hH.aJ.ok c (List.mem_append_left _ (List.mem_append_left _ aa))
   refine gI.base fun b ai ab=>?_
   rcases ab with ab | ab | ⟨c',eT,e⟩
   ·exact(gI.lt ai).1 (.inl ab)
   ·exact(gI.lt ai).1 (.inr ab)
   ·exact kX.2.2 c aa c' eT b ai e
 let kW:=fA (gx n) st.L
 let In:bo->List gR->(Nat->Prop)->(Nat->Prop)->World->Prop:=fun h r acy acz dq=>∃ C nD b3,(eJ r C b3 nD\/(r=[]/\gr () C nD))/\∃ env' B' cy H',bB X (fun k=>kQ k\/C k) nD ⟨fun k=>b3 k\/B k,l3 n env,[]⟩ n ks env' B' cy H' ⟨kW,h⟩ a dq/\(∀ k,B' k->b3 k\/(¬ C k/\p4 dq k))/\(∀ k,B k->dq.heap[k]?=w.heap[k]?)/\(∀ k,B6 k->b3 k)/\acy=kM (fun k=>kQ k\/C k) B' H' ks/\∀ k,acz k->B' k
 let I:List α->(Nat->Prop)->(Nat->Prop)->World->Prop:=fun r C b3 dq=>∃ y ro,bI r y ro/\In (fW y) ro C b3 dq
 let kK:Code->(Nat->Prop)->World->Prop:=fun c C dq=>∃ e aN ro b3,LI e=some c/\kN e aN ro/\In aN ro C b3 dq
 have acA:∀ k,B k->kQ k:=fun k ab=>(y2 k).2 (.inr ab)
 have yK:∀ h r C b3 bN lO,In h r C b3 bN->da C bN lO->In h r C b3 lO:=by
  rintro h r C b3 bN lO ⟨h5,nD,mU,aX,env',B',cy,H',J,U,ae,aw,rfl,aF⟩ ab;exact⟨h5,nD,mU,aX,env',B',cy,H',J.GM ab,fun k cI=>(U k cI).imp_right fun h=>⟨h.1,h.2.dY (ab.block k (.inr (.inl cI)))⟩,fun k cI=>(ab.block k (.inl (.inl (acA k cI)))).trans (ae k cI),aw,rfl,aF⟩
 have yL:∀ {B':Nat->Prop} {cy:World} {env':Nat->Loc},(∀ k,B k->B' k)->(∀ k,B k->cy.heap[k]?=w.heap[k]?)->(∀ id l,l3 n env id l->env' id=l)->∀ s sv,aS kW s=some sv->∃ v,a.tmps[s]?=some v/\ey env' B' cy sv v:=by
  intro B' cy env' cI hw he s sv al;obtain⟨u,J,rfl⟩:=sS al;obtain⟨v,U,ae⟩:=hH.has s u J;exact⟨v,U,ey.de (LF (fun id l aw aF aW=>he id l ⟨aw,aF,aW⟩) hj) (ae.up ⟨cI,hw⟩)⟩
 have yM:∀ {h:bo} {r:List gR} {C b3:Nat->Prop} {bN:World} (k:Nat),w.heap.size<=k->¬ C k->bN.heap[k]?=some (.deferred (some []))->In h r C b3 bN->(gu.it (X:=X) (n:=n) fB eJ gr).In r ⟨kW,h⟩ { a with defers:={ target:=.collected k,args:=#[] } :: a.defers } bN:=by
  rintro h r C b3 bN k ab r0 ax ⟨h5,nD,mU,aX,env',B',cy,H',J,U,ae,aw,rfl,aF⟩;have aiM:∀ q,B q->B' q:=fun q au=>J.sub q (.inr au)
  have ox:(c7 k :: (H'++ks.map c7)).Perm (H'++(k :: ks).map c7):=by
   rw[List.map_cons];exact List.perm_middle.symm
  have dU:bA (fun q=>(fB q\/h5 q)\/B' q) cy (c7 k :: (H'++ks.map c7)) bN:=by
   have r4:∀ q,((fB q\/h5 q)\/B' q)->((kQ q\/h5 q)\/B' q):=fun q au=>au.imp_left fun h=>h.imp_left fun h=>(y2 q).2 (.inl h)
   refine⟨⟨J.aJ.below.os,J.aJ.below.tape,J.aJ.below.output,J.aJ.below.size,fun q au=>J.aJ.below.block q (r4 q au)⟩,fun q au=>J.aJ.base q (r4 q au),fun c aa=>?_,List.Pairwise.cons (fun c aa q aC a7=>?_) J.aJ.apart⟩
   ·rcases List.mem_cons.1 aa with rfl | aa
    ·exact⟨fun au=>r0 ((r4 k au).elim .inl fun h=>.inr (.inl h)),ax⟩
    ·exact(J.aJ.ok c aa).base fun q acB acC=>((J.aJ.ok c aa).lt acB).1 (r4 q acC)
   ·have:k=q:=Option.some.inj aC
    subst this;exact r0 (.inr (.inr ⟨c,aa,a7⟩))
  refine⟨h5,nD,mU,aX,k :: ks,env',B',cy,H',⟨(fun h=>by cases h),fun _ _ _ h=>h.elim⟩,J.size,congrArg (List.cons (sr k)) J.defs,J.has,J.heap,dU.perm ox,fun q au=>J.sub q (.inl au),fun q au=>?_,fun _ _ h=>h.elim,⟨J.base.os,J.base.tape,J.base.output,J.base.size,fun q au=>J.base.block q (au.imp_left fun h=>(y2 q).2 (.inl h))⟩,J.dT⟩
  rcases J.new q au with(aW | aW) | ⟨aW,bC⟩
  ·exact .inl aW
  ·rcases eV.new q aW with bC | ⟨bC,_⟩
   ·exact .inl (aw q bC)
   ·refine(U q au).imp_right fun db=>⟨fun hN=>hN.elim (fun h=>bC (.inl h)) db.1,db.2.dY (J.aJ.below.block q (.inr au)).symm⟩
  ·exact .inr ⟨fun db=>aW (db.imp_left fun h=>(y2 q).2 (.inl h)),bC⟩
 have c4:∀ (c:Code) (m:Nat) (Q:Exit->Act->World->Prop) a w,c.wpIn Fence.wide m X.P Q a w ↔ c.wpIn Fence.wide 0 X.P Q a w:=fun c m Q a w=>wpIn_wide.trans wpIn_wide.symm
 have yN:∀ (id:Nat) (c:Code) (m:Nat) (Q:Exit->Act->World->Prop) a w,c.wpIn (Fence.wide.inRound id) 0 X.P Q a w->c.wpIn (Fence.wide.inRound id) m X.P Q a w:=fun id c m Q a w h=>by
  intro b k cs sX ai aH;exact h b k cs sX ai (fun _ h=>by cases h)
 refine(c4 _ 2 _ _ _).1 ?_;have GQ:∀ vs:List Value,(pl.toArray.zip vs.toArray).foldl (fun t (p,v)=>t.setIfInBounds p v) a.tmps=(pl.zip vs).foldl (fun t (p,v)=>t.setIfInBounds p v) a.tmps:=fun x=>by
  rw[<- Array.foldl_toList,Array.toList_zip]
 refine aby (gf:=gf) (lb:=lb) (ad.bK.aB c3) (fun args w=>Kj fP qH qI) tH (da.refl _ _) tJ (fun dS lO x vs h=>by have:=dx.length h; rw[hlen x]at this; simpa using this) (fun dS lO j7 x vs ab h=>dx.up ⟨fun _ h=>h,fun k au=>ab.block k au⟩ h)
  I kK ?_ ?_ ?_ ?_ ?_ (kM (fun k=>kQ k\/wa k) B H ks) ?_ GP (fun vs=>{ tmps:=qj ms ((pl.zip vs).foldl (fun t (p,v)=>t.setIfInBounds p v) a.tmps),defers:=[] }) ?_ ?_ ?_ ?_
 ·rintro r C b3 bN lO ⟨y,ro,aV,J⟩ ab
  exact⟨y,ro,aV,yK _ _ _ _ _ _ J ab⟩
 ·rintro c C bN lO ⟨e,aN,ro,b3,he,ml,J⟩ ab
  exact⟨e,aN,ro,b3,he,ml,yK _ _ _ _ _ _ J ab⟩
 ·rintro r C b3 bN ⟨y,ro,aV,h5,nD,mU,aX,env',B',cy,H',J,_,_,_,rfl,_⟩
  exact J.BJ
 ·rintro r C b3 bN ⟨y,ro,aV,h5,nD,mU,aX,env',B',cy,H',J,_,_,_,rfl,U⟩ k ab
  exact .inr (.inl (U k ab))
 ·rintro c C bN ⟨e,aN,ro,b3,he,ml,h5,nD,mU,aX,env',B',cy,H',J,_,_,_,rfl,_⟩
  exact J.BJ
 ·have O0:da wa OZ w:=⟨eV.aJ.below.os.trans eV.base.os,eV.aJ.below.tape.trans eV.base.tape,eV.aJ.below.output.trans eV.base.output,Nat.le_trans eV.base.size eV.aJ.below.size,fun k ab=>(eV.aJ.below.block k (.inl (.inr ab))).trans (eV.base.block k (.inr ab))⟩
  exact⟨hG,fE,aP,wa,w,B6,acx.imp (fun h=>jn _ _ _ _ _ h O0) (fun h=>⟨h.1,fa _ _ _ _ h.2 O0⟩),env,B,w,H,⟨hH.size,hH.defs,yL (fun _ h=>h) (fun _ _=>rfl) (fun _ _ h=>h.2.1),pn.up qJ,hH.aJ.er qe,hH.sub,hH.new,hH.dj,hH.base,hH.dT⟩,fun k ab=>(eV.new k ab).imp_right fun h=>⟨fun aa=>h.1 (.inr aa),h.2.dY (eV.aJ.below.block k (.inr ab))⟩,fun _ _=>rfl,fun _ h=>h,rfl,fun _ h=>h⟩
 ·intro id x vs bN K mG bT
  rw[GQ];exact yN _ _ _ _ _ _ (lf.ok (l:=id) n8 bT)
 ·rintro id x rest vs C b3 dS bN ⟨y,ro,aV,h5,nD,mU,aX,pG,dk,b7,H1,aP,O1,O2,acD,rfl,n7⟩ lN nx
  obtain⟨fp,vU⟩:∃ fp:Nat->Prop,fp=fun k=>dk k\/dS k:=⟨_,rfl⟩
  have HF:∀ k,fp k ↔ dk k\/dS k:=fun k=>by rw[vU]
  have J:bB X (fun k=>kQ k\/h5 k) nD ⟨fun k=>mU k\/B k,l3 n env,[]⟩ n ks pG fp bN H1 ⟨kW,fW y⟩ a bN:=by
   rw[vU];exact aP.now.Od fun k ab=>(lN.new k ab).imp (fun h=>n7 k h) fun⟨h,U⟩=>⟨h,U⟩
  have acE:∀ k,fp k->mU k\/(¬ h5 k/\p4 bN k):=fun k ab=>by
   rcases (HF k).1 ab with ab | ab
   ·exact O1 k ab
   ·rcases lN.new k ab with h | ⟨h,U⟩
    ·exact O1 k (n7 k h)
    ·exact .inr ⟨fun aa=>h (.inl (.inr aa)),U⟩
  have tL:∀ k,dS k->fp k:=fun k ab=>(HF k).2 (.inr ab)
  have B7:∀ k,B k->fp k:=fun k ab=>J.sub k (.inr ab)
  clear aP
  have fk:bA (fun k=>(kQ k\/h5 k)\/fp k) bN H1 bN:=J.aJ.er (List.sublist_append_left _ _);have Oi:fv fp bN fp bN:=⟨fun _ h=>h,fun k ab=>J.aJ.below.block k (.inr ab)⟩
  have acF:Has n pG fp bN kW a.tmps:=⟨ad.size,fun s sv al=>by
   obtain⟨v,U,ae⟩:=J.has s sv al;exact⟨v,U,ae.up Oi⟩⟩
  have aH:=J.round (Has.c5 (Has.par acF gX ((dx.any nx).up ⟨tL,fun _ _=>rfl⟩)) lY);have ia:∀ k,(kQ k\/h5 k)\/fp k->fO bN H1 k:=fun k ab=>⟨fk.base k ab,fun c aa e=>((fk.ok c aa).lt e).1 ab⟩
  have O3:da h5 nD bN:=⟨J.base.os,J.base.tape,J.base.output,J.base.size,fun k ab=>J.base.block k (.inr ab)⟩
  have EZ:eJ ro h5 mU bN\/(ro=[]/\gr () h5 bN):=aX.imp (fun h=>jn _ _ _ _ _ h O3) (fun h=>⟨h.1,fa _ _ _ _ h.2 O3⟩);have dL:Hw ⟨fO bN H1,fp,mU,h5,bN,l3 n pG⟩ h5 mU bN:=⟨acE,da.refl _ _,fun k _ U ae=>absurd ae U,fun k _ h=>J.sub k (.inl h),fun _ h=>h,fun k h=>ia k (.inr h)⟩
  have GS:=oK id x rest y ro ⟨fO bN H1,fp,mU,h5,bN,l3 n pG⟩ aV _ bN ⟨h5,bN,mU,EZ,dL,[],pG,fp,bN,H1,⟨fun _=>rfl,fun h=>by cases h⟩,aH.OY (fun k=>⟨.inl,fun h=>h.elim (fun h=>h) fun h=>ia k (.inl (.inr h))⟩) fun k=>⟨.inr,fun h=>h.elim (fun h=>J.sub k (.inl h)) (fun h=>h)⟩⟩;refine wpIn_mono (yN _ _ 1 _ _ _ GS) ?_;rintro e a3 j7 ⟨s,cE,al,U⟩;have key:∀ aN dR,gz X false n s ⟨dR,aN⟩->∃ cP,In aN cE cP dS j7/\Grow dS (kM (fun k=>kQ k\/h5 k) dk H1 ks) cP bN j7:=by
   intro aN dR hw;obtain⟨rq,HG,O4,acG,mV,acH⟩:=U;obtain⟨abL,BK,r1,lL,BL,GU,ae⟩:=hw _ _ _ _ _ acH
   have:=GU.1 rfl
   subst this;have O5:∀ k,fO bN H1 k->j7.heap[k]?=HG.heap[k]?:=fun k ab=>(ae.aJ.below.block k (.inl (.inl ab))).trans (ae.base.block k (.inl ab))
   have rY:∀ k,(fO bN H1 k/\¬ h5 k)\/fp k->j7.heap[k]?=bN.heap[k]?:=fun k ab=>(O5 k (ab.elim (fun h=>h.1) (fun h=>ia k (.inr h)))).trans (mV.tW.block k ab)
   have B8:∀ k,fp k->r1 k:=fun k ab=>ae.sub k (.inr ab)
   have j8:=ae.aJ;simp only[List.map_nil,List.append_nil]at j8;have HH:∀ k,fp k->lL.heap[k]?=bN.heap[k]?:=fun k ab=>(ae.base.block k (.inl (ia k (.inr ab)))).trans (mV.tW.block k (.inr ab))
   have zT:∀ k∈ks,fO bN H1 k/\¬ h5 k/\¬ rq k/\¬ r1 k/\¬ kQ k/\bN.heap[k]?=some (.deferred (some [])):=by
    intro k ab;have hm:c7 k∈H1++ks.map c7:=List.mem_append_right _ (List.mem_map.2 ⟨k,ab,rfl⟩);obtain⟨ib,ax⟩:=J.aJ.ok (c7 k) hm;have B9:fO bN H1 k:=⟨((J.aJ.ok _ hm).lt rfl).2,fun c aa e=>(List.pairwise_append.1 J.aJ.apart).2.2 c aa (c7 k) (List.mem_map.2 ⟨k,ab,rfl⟩) k e rfl⟩
    have r0:¬ h5 k:=fun h=>ib (.inl (.inr h))
    refine⟨B9,r0,fun h=>ib (.inr (mV.B5 k B9 r0 h)),fun h=>?_,fun h=>ib (.inl (.inl h)),ax⟩
    rcases ae.new k h with(aw | aw) | ⟨aw,_⟩
    ·exact ib (.inr (mV.Hx k B9 aw))
    ·exact ib (.inr aw)
    ·exact aw (.inl B9)
   have r4:∀ q,((kQ q\/rq q)\/r1 q)->((fO bN H1 q\/rq q)\/r1 q):=fun q au=>au.imp_left fun h=>h.imp_left fun h=>ia q (.inl (.inl h))
   have aw:bB X (fun k=>kQ k\/rq k) HG ⟨fun k=>O4 k\/B k,l3 n env,[]⟩ n ks BK r1 lL BL ⟨kW,aN⟩ a j7:=by
    refine⟨J.size,J.defs,yL (fun k ab=>B8 k (B7 k ab)) (fun k ab=>(HH k (B7 k ab)).trans (O2 k ab)) (fun id l ar=>(ae.dj id l ⟨(J.dj id l ar).1,(J.dj id l ar).2.1,(J.dj id l ar).2.2⟩).2.1),ae.heap,⟨⟨j8.below.os,j8.below.tape,j8.below.output,j8.below.size,fun k ab=>j8.below.block k (r4 k ab)⟩,fun k ab=>j8.base k (r4 k ab),fun c aa=>?_,?_⟩,fun k ab=>ab.elim (fun h=>ae.sub k (.inl h)) (fun h=>B8 k (B7 k h)),fun k ab=>?_,fun id l ar=>?_,⟨ae.base.os,ae.base.tape,ae.base.output,ae.base.size,fun k ab=>ae.base.block k (ab.imp_left fun h=>ia k (.inl (.inl h)))⟩,fun i x ao=>(J.dT i x ao).up ⟨B8,HH⟩⟩
    ·rcases List.mem_append.1 aa with aa | aa
     ·exact(j8.ok c aa).base fun b ai ab=>((j8.ok c aa).lt ai).1 (r4 b ab)
     ·obtain⟨k,ab,rfl⟩:=List.mem_map.1 aa
      obtain⟨g1,g2,g3,g4,g5,g6⟩:=zT k ab;exact⟨fun au=>au.elim (fun h=>h.elim g5 g3) g4,(rY k (.inl ⟨g1,g2⟩)).trans g6⟩
    ·refine List.pairwise_append.2 ⟨j8.apart,(List.pairwise_append.1 J.aJ.apart).2.1,fun c aa c' eT q aC a7=>?_⟩
     obtain⟨k,ab,rfl⟩:=List.mem_map.1 eT
     have:k=q:=Option.some.inj a7
     subst this;exact((j8.ok c aa).lt aC).1 (.inl (.inl (zT k ab).1))
    ·rcases ae.new k ab with(aF | aF) | ⟨aF,aW⟩
     ·exact .inl (.inl aF)
     ·rcases J.new k aF with(aW | aW) | ⟨aW,bC⟩
      ·exact .inl (.inl (mV.xH k aW))
      ·exact .inl (.inr aW)
      ·rcases mV.sG k aF with db | ⟨db,_⟩
       ·exact .inl (.inl db)
       ·exact .inr ⟨fun h=>h.elim (fun h=>aW (.inl h)) db,bC.dY (HH k aF)⟩
     ·exact .inr ⟨fun h=>aF (h.imp_left fun h=>ia k (.inl (.inl h))),aW⟩
    ·obtain⟨g1,g2,g3⟩:=J.dj id l ar
     exact⟨g1,(ae.dj id l ⟨g1,g2,g3⟩).2.1,g3⟩
   refine⟨_,⟨rq,HG,O4,acG,BK,r1,lL,BL,aw,fun k ab=>?_,fun k ab=>(rY k (.inr (B7 k ab))).trans (O2 k ab),fun k ab=>mV.xH k (acD k ab),rfl,fun k ab=>B8 k (tL k ab)⟩,⟨⟨?_,?_,?_,?_,fun k ab=>?_⟩,fun k ab=>?_⟩⟩
   ·rcases ae.new k ab with(aF | aF) | ⟨aF,aW⟩
    ·exact .inl aF
    ·exact(mV.sG k aF).imp_right fun h=>⟨h.1,h.2.dY (O5 k (ia k (.inr aF)))⟩
    ·exact .inr ⟨fun h=>aF (.inr h),aW.dY (j8.below.block k (.inr ab))⟩
   ·exact j8.below.os.trans (ae.base.os.trans mV.tW.os)
   ·exact j8.below.tape.trans (ae.base.tape.trans mV.tW.tape)
   ·exact j8.below.output.trans (ae.base.output.trans mV.tW.output)
   ·exact Nat.le_trans mV.tW.size (Nat.le_trans ae.base.size j8.below.size)
   ·rcases ab with ab | ⟨iu,j5⟩
    ·exact rY k (.inr (tL k ab))
    ·exact rY k (.inl ⟨⟨iu,fun c aa e=>j5 (.inr (.inr ⟨c,List.mem_append_left _ aa,e⟩))⟩,fun h=>j5 (.inl (.inr h))⟩)
   ·by_cases br:bN.heap.size<=k
    ·exact .inr (.inl br)
    ·have GV:k < bN.heap.size:=by omega
     by_cases iu:kM (fun k=>kQ k\/h5 k) dk H1 ks k
     ·exact .inl iu
     ·by_cases j5:dS k
      ·exact .inr (.inr j5)
      exfalso
      have tM:fO bN H1 k:=⟨GV,fun c aa e=>iu (.inr (.inr ⟨c,List.mem_append_left _ aa,e⟩))⟩
      have acI:¬ h5 k:=fun h=>iu (.inl (.inr h))
      have HI:¬ fp k:=fun h=>((HF k).1 h).elim (fun h=>iu (.inr (.inl h))) j5
      rcases ab with ab | ab | ⟨c,aa,e⟩
      ·rcases ab with ab | ab
       ·exact iu (.inl (.inl ab))
       ·exact HI (mV.B5 k tM acI ab)
      ·rcases ae.new k ab with(aF | aF) | ⟨aF,_⟩
       ·exact HI (mV.Hx k tM aF)
       ·exact HI aF
       ·exact aF (.inl tM)
      ·rcases List.mem_append.1 aa with aa | aa
       ·exact((j8.ok c aa).lt e).1 (.inl (.inl tM))
       ·exact iu (.inr (.inr ⟨c,List.mem_append_right _ aa,e⟩))
  rcases al with⟨rfl,mi,iS,dR,hw⟩ | ⟨cL,hex,aN,ml,dR,hw⟩
  ·obtain⟨cP,aF,aW⟩:=key _ _ hw
   exact⟨cP,⟨mi,cE,iS,aF⟩,aW⟩
  ·obtain⟨cP,aF,aW⟩:=key _ _ hw
   cases e with
   | normal=>exact absurd rfl cL
   | ret=>exact⟨cP,⟨.ret,aN,cE,_,rfl,ml,aF⟩,aW⟩
   | exit i=>exact⟨cP,⟨.exit i,aN,cE,_,rfl,ml,aF⟩,aW⟩
   | goto t=>cases hex
   | panic c=>cases hex
   | outgrown=>cases hex
 ·rintro k C b3 bN ab dt ⟨y,ro,aV,J⟩ ax
  exact⟨_,_,nw y ro aV,yM k ab dt ax J⟩
 ·rintro k c C bN ab dt ⟨e,aN,ro,b3,he,ml,J⟩ ax
  have yP:=yM k ab dt ax J;have au:=lM e aN ro ml;cases e with
  | ret=>cases he; exact wpIn_ret ⟨_,_,au,yP⟩
  | exit id=>cases he; exact(c4 _ 2 _ _ _).2 (DN ⟨_,_,au,yP⟩)
  | normal=>cases he
  | goto t=>cases he
  | panic c=>cases he
  | outgrown=>cases he
section
section
variable {X:bl} {n:Nat} {α:Type}
theorem acJ(av:X.tt.ok X.P) {E:List fQ} {id:Nat} {fB:Nat->Prop} {eJ:List (dp (iW E []))->(Nat->Prop)->(Nat->Prop)->World->Prop} {gr:Unit->(Nat->Prop)->World->Prop} (aa:Cons X E id eJ gr):v7 (Γ:=gu.it (X:=X) (n:=n) fB eJ gr) (some (tV E id)):=by
 rintro ops Q em HA l args f t r aH;cases HA;unfold tV at aH
 split at aH
 ·rename_i x ry p8
  unfold r3 at aH
  split at aH
  ·rename_i rt ag
   cases aH;have l4:=Nat.eq_of_beq_eq_true ag;subst l4;refine⟨_,_,rfl,rfl,?_⟩;intro o rest st d s us fc c az bb ax aV sU il HB HC a w hi;obtain⟨C,bN,b3,aX,ks,env,B',ak,H,b2,ad⟩:=hi
   rcases aX with aX | ⟨aX,_⟩
   ·obtain⟨vs,J,U⟩:=sM ad sU il
    obtain⟨uY,ae,aw⟩:=ad.has _ _ (OS aV);rw[show uY=_ from aw]at ae;have c4:fv B' ak B' w:=⟨fun _ h=>h,fun k ab=>ad.aJ.below.block k (.inr ab)⟩
    have aM:=(xL p8).2;have nx:dx (fun _=>.no) B' w (hQ E x).1 vs:=aM _ _ _ _ (dx.no ry (U.up c4));have Ca:da C bN w:=⟨(ad.aJ.below.os).trans ad.base.os,(ad.aJ.below.tape).trans ad.base.tape,(ad.aJ.below.output).trans ad.base.output,Nat.le_trans ad.base.size ad.aJ.below.size,fun k ab=>(ad.aJ.below.block k (.inl (.inr ab))).trans (ad.base.block k (.inr ab))⟩
    have pI:=aa.jn _ _ _ _ _ aX Ca;have lN:tG C b3 B' w:=⟨ad.sub,fun k ab=>(ad.new k ab).imp_right fun⟨aF,aW⟩=>⟨fun h=>aF (.inr h),aW.dY (ad.aJ.below.block k (.inr ab))⟩⟩
    obtain⟨fn,tmps,assign,body,HD,HE⟩:=YieldAt.zero (aa.take _ _ _ _ _ _ _ pI lN nx);have hw:Region.wanted o (yielded ops.toArray a.tmps)=true:=bb.1 ad;show(if Region.wanted o (yielded ops.toArray a.tmps)then _ else _);rw[if_pos hw];refine⟨fun _ _=>trivial,?_⟩;have dw:(execOp a.eval o).run X.P w=.ok (.round l fn tmps assign body) w:=by
     have aC:=ad.bK.aB (x:=.tmp s) (hK ae);have a7:(us.toArray.map a.eval)=vs.toArray:=LL ad.bK J;simp only[execOp,az,resolve,aC]
     simp[Deferred.ofValue,invoke,a7,HD,go_sem]
    show Oper.uponIn _ _ _ _ _ _ _ ((o.semAt none a.eval).run X.P w);rw[Oper.semAt_none,dw];refine⟨(fun h=>by cases h),RoundIn.mono HE ?_⟩;intro e hC au;rw[bb.2]
    rcases au with⟨rfl,cP,oN,cb⟩ | ⟨rfl,cP,oN,cb⟩
    ·exact HC _ _ ⟨cP,hC,B',.inl oN,ks,env,B',hC,H,⟨b2.1,fun _ _ _ h=>h.elim⟩,bB.OR ad cb (aa.lt _ _ _ _ oN) ax _⟩
    ·exact HB _ _ ⟨cP,hC,B',.inr ⟨rfl,oN⟩,ks,env,B',hC,H,⟨b2.1,fun _ _ _ h=>h.elim⟩,bB.OR ad cb (aa.OT _ _ _ oN) ax _⟩
   ·cases aX
  ·cases aH
 ·cases aH
theorem acK(av:X.tt.ok X.P) {E:List fQ} {id:Nat} {fB:Nat->Prop} {eJ:List (dp (iW E []))->(Nat->Prop)->(Nat->Prop)->World->Prop} {gr:Unit->(Nat->Prop)->World->Prop} (aa:Cons X E id eJ gr):mo (Γ:=gu.it (X:=X) (n:=n) fB eJ gr) (some (tV E id)):=
 ⟨acJ av aa,fun _ _=>⟨fun i nz=>∃ D,nz=gu.Hz D eJ gr,fun i nz ⟨D,h⟩=>by rw[h]; exact acv av aa,fun aM ai fP qH qI mb hlen gX n8 lY bk fW bI kN hG aP dZ dO oK nw lM=>
  acw aa.jn aa.fa aM ai fP qH qI mb hlen gX n8 lY bk fW bI kN hG aP dZ dO (fun id x rest y r D h=>oK id x rest y r _ ⟨D,rfl⟩ h) nw lM⟩⟩
def HJ{α:Type}:mS (List α)
 | .normal,_,_=>some []
 | .ret,_,_=>some []
 | _,_,_=>none
theorem acL(av:X.tt.ok X.P) (hm:X.P.follows .mixedOrders=true) {N:Nat} {T:List (bu X)} {bz:List (lq X)} {f:FuncId} {fn:Func} {c:Code} {cg:fw} {fK:List e8} {ar:bo} {E:List fQ} {l:List (dp (iW E []))} (aA:X.P.funcs[f]?=some fn) (ai:fn.body=some c) (bF:fn.ntmps=n) (ag:Nat.ble (nS fK).length (n - 1)=true) (bk:Nat.blt 0 n=true) (aH:fn.results=#[])
  (h:∀ id,ja X N n T bz true c (some (tV E id)) cg ⟨ou 0 (.c (.val (.func (.yield id) #[] #[])) :: nS fK),ar⟩ HJ=some l):tK X f fK ar l (fun x=>(hQ E x).1):=by
 intro B ak lb env O cI aM acM acN id eJ gr W O6 _ rk rV br yE n7 o5 C pI Cb;have c4:fv B ak B W:=⟨fun _ h=>h,fun k ab=>O6.block k ab⟩
 have bq:dx env B W (.c (.val (.func (.yield id) #[] #[])) :: nS fK) (.func (.yield id) #[] #[] :: lb):=⟨_,_,rfl,rfl,(xt acM).up c4⟩
 have hlen:=bq.length;have hle:(Value.func (.yield id) #[] #[] :: lb).length<=n:=by
  rw[hlen,List.length_cons];have J:=Nat.le_of_ble_eq_true ag;have U:=dB bk;omega
 have aI:=DQ (fn:=fn) bF hle _ rfl (vs:=.func (.yield id) #[] #[] :: lb);have e:#[Value.func (.yield id) #[] #[]]++lb.toArray=(Value.func (.yield id) #[] #[] :: lb).toArray:=by simp
 rw[e];refine CallsIn.mono (R:=fun e w'=>∃ v,e=.returned v/\∃ cP,(∃ b3,eJ [] cP b3 w')\/gr () cP w') ((callsIn_wide (n:=1)).2 ((callsIn_wide (n:=0)).1 (callsIn_of_wp_marks aA ai trivial ?_))) (fun e w' ⟨v,J,U⟩=>⟨⟨v,J⟩,U⟩);obtain⟨fB,O7⟩:∃ fB:Nat->Prop,fB=fun k=>k < W.heap.size/\¬∃c∈O,c.has k:=⟨_,rfl⟩
 have ad:bB X (fun k=>fB k\/C k) W ⟨B,fun _ _=>False,[]⟩ n [] env B W O ⟨ou 0 (.c (.val (.func (.yield id) #[] #[])) :: nS fK),ar⟩ { tmps:=(Value.func (.yield id) #[] #[] :: lb).toArray++Array.replicate (fn.ntmps - (Value.func (.yield id) #[] #[] :: lb).toArray.size) undef,defers:=[] } W:=by
  refine⟨aI.size,rfl,fun s sv al=>?_,acN.up c4,?_,fun _ h=>h,fun _ h=>.inl h,fun _ _ h=>h.elim,da.refl _ _,fun i x ao=>(aM i x ao).up c4⟩
  rotate_left
  ·rw[List.map_nil,List.append_nil]
   refine⟨da.refl _ _,fun k ab=>?_,fun c aa=>(Cb.ok c aa).base fun b ai ab=>?_,Cb.apart⟩
   ·rcases ab with(ab | ab) | ab
    ·rw[O7]at ab
     exact ab.1
    ·exact br _ _ _ _ pI k ab
    ·exact Nat.lt_of_lt_of_le (cI k ab) O6.size
   ·rcases ab with(ab | ab) | ab
    ·rw[O7]at ab
     exact ab.2 ⟨c,aa,ai⟩
    ·exact((Cb.ok c aa).lt ai).1 ab
    ·exact((Cb.ok c aa).lt ai).1 (n7 _ _ _ _ pI b ab)
  obtain⟨_,v,J,U⟩:=Ar bq al;rw[Nat.sub_zero]at J;refine⟨v,?_,U⟩;have br:s < (Value.func (.yield id) #[] #[] :: lb).length:=(List.getElem?_eq_some_iff.1 J).1;show((Value.func (.yield id) #[] #[] :: lb).toArray++_)[s]?=some v;rw[Array.getElem?_append_left (by simpa using br)]
  simpa using J
 refine wpIn_mono (oL av hm c true true none (fun _=>⟨rfl,rfl⟩) _ (gu.it fB eJ gr) _ (acK av ⟨rk,rV,br,yE,o5⟩) cg _ HJ l (h id) _ _ ⟨C,W,B,.inl pI,[],_,_,_,_,⟨fun h=>(by cases h),fun _ _ _ h=>h.elim⟩,ad⟩) ?_;rintro e a w ⟨st,cE,⟨V,fu,hw,fg,ab⟩,hi⟩;obtain⟨cP,bN,b3,aX,ks,env',B',cy,H',b2,bW⟩:=(gu.it fB eJ gr).er hw hi;have jf:cE=[]/\(e=.ret\/e=.normal):=by
  cases e<;>first | (cases ab; exact⟨rfl,.inr rfl⟩) | (cases ab; exact⟨rfl,.inl rfl⟩) | cases ab
 obtain⟨rfl,he⟩:=jf;have sF:Sym n (ks.map sr) (gi a) (fun k=>(fB k\/cP k)\/B' k) cy (ks.map (fun k=>bd.obj k (.deferred (some [])))++H') a w:=⟨by have dZ:=bW.bK; simpa [jL] using dZ,bW.aJ.perm List.perm_append_comm⟩
 have o7:∀ w,(results fn a.tmps).run X.P w=.ok (.tuple #[]) w:=fun w=>by
  simp[results,aH,go_sem]
 have key:=Kh (fn:=fn) (R:=fun _ w'=>∃ cP,(∃ b3,eJ [] cP b3 w')\/gr () cP w') ks sF (fun w hw=>o7 w) fun w hw=>by
  have Ca:da cP bN w:=⟨hw.below.os.trans bW.base.os,hw.below.tape.trans bW.base.tape,hw.below.output.trans bW.base.output,Nat.le_trans bW.base.size hw.below.size,fun k ab=>(hw.below.block k (.inl (.inr ab))).trans (bW.base.block k (.inr ab))⟩
  rcases aX with aX | ⟨_,aX⟩
  ·exact⟨cP,.inl ⟨b3,rk _ _ _ _ _ aX Ca⟩⟩
  ·exact⟨cP,.inr (rV _ _ _ _ aX Ca)⟩
 rcases he with rfl | rfl
 ·exact key
 ·exact key
def HK (N : Nat) (av : X.tt.ok X.P) (hm : X.P.follows .mixedOrders = true) {fn : Func} {c : Code} (C : List rM) (G : List (Nat × h1)) (E : List fQ) (T : List (bu X)) (bz : List (lq X)) (cg : fw) (f : FuncId) (m : Bool → dp (pw C (l7 G [])) → Option (List (dp (iW E [])))) (aA : X.P.funcs[f]? = some fn) (aM : (fn.name == "runtime.NumGoroutine") = false) (ai : fn.body = some c) (bF : fn.ntmps = n) (ag : ∀ d : dp (pw C (l7 G [])), Nat.ble (nS (lJ C d).1).length (n - 1) = true) (bk : Nat.blt 0 n = true) (aH : fn.results = #[])
  (h:∀ id d,ja X N n T bz true c (some (tV E id)) cg ⟨ou 0 (.c (.val (.func (.yield id) #[] #[])) :: nS (lJ C d).1),(jj G (lJ C d).2).1⟩ HJ=m (Nat.beq id id) d):lq X:=
 { f:=f,fn:=fn,C:=C,G:=G,E:=E,m:=m true,aA:=aA,bk:=aM,ai:=by rw[ai]; rfl,ok:=fun d l he=>acL av hm aA ai bF (ag d) bk aH fun id=>(h id d).trans (by rw[show Nat.beq id id=true from Nat.beq_refl id]; exact he) }
end
end
section
open Go.RowKit
def wb(N:Nat) (a0:(List aq)):Option ((List aq)×Nat):=
  an (((decide (0<=(a0.length:Int)))&&(decide ((a0.length:Int)<=(a0.length:Int)))&&(e1 16 (a0.length:Int)))&&(true)) <|
  an ((Nat.beq a0.length (List.replicate (a0.length:Int).toNat (aL.zero:aq)).length)&&(true)) <|
  some (a0,(a0.length:Int).toNat)
noncomputable def acO (N:Nat):bu bE:=b6 N bw (by kernel_rfl) [.c (.a1 aL)] [] ⟨.a (.c (.iJ aL)),[],[]⟩ [] [] (.s .d (.s .d (.s .d (.s .d (.t [.c8 6]))))) [.tmp 2] 114 ([],0) (fun d=>wb N d.1) Tryz.func114 rfl rfl Tryz.ntmps114 rfl rfl rfl (fun d=>by kernel_rfl)
def tX(N:Nat) (a0:(List qr)):Option ((List qr)×Nat):=
  an (((decide (0<=(a0.length:Int)))&&(decide ((a0.length:Int)<=(a0.length:Int)))&&(e1 24 (a0.length:Int)))&&(true)) <|
  an ((Nat.beq a0.length (List.replicate (a0.length:Int).toNat (dK.zero:qr)).length)&&(true)) <|
  some (a0,(a0.length:Int).toNat)
noncomputable def acP (N:Nat):bu bE:=b6 N bw (by kernel_rfl) [.c (.a1 dK)] [] ⟨.a (.c (.iJ dK)),[],[]⟩ [] [] (.s .d (.s .d (.s .d (.s .d (.t [.c8 6]))))) [.tmp 2] 115 ([],0) (fun d=>tX N d.1) Tryz.func115 rfl rfl Tryz.ntmps115 rfl rfl rfl (fun d=>by kernel_rfl)
end
section
open Go.RowKit
def acQ(N:Nat) (a0:(List (List dI))):Nat->(Int×Int)->Option (Int):=b5 fun d1 dh=>
  cond (decide (d1.2 < (a0.length:Int))) (an ((aT d1.2 a0.length)&&(true)) <|
  an ((aY (d1.1+((a0.getD d1.2.toNat []).length:Int)))&&(true)) <|
  an ((aY (d1.2+(1:Int)))&&(true)) <|
  dh ((d1.1+((a0.getD d1.2.toNat []).length:Int)),(d1.2+(1:Int)))) (some d1.1)
def acR(N:Nat) (a0:(List (List dI))):Nat->(Int×Int×(List dI))->Option ((List dI)):=b5 fun d2 dX=>
  cond (decide (d2.2.1 < (a0.length:Int))) (an ((aT d2.2.1 a0.length)&&(true)) <|
  an (((decide (0<=d2.1))&&(decide (d2.1<=(d2.2.2.length:Int))))&&((decide (d2.1.toNat+(a0.getD d2.2.1.toNat []).length<=d2.2.2.length))&&((aY (d2.1+((a0.getD d2.2.1.toNat []).length:Int)))&&(true)))) <|
  an ((aY (d2.2.1+(1:Int)))&&(true)) <|
  dX ((d2.1+((a0.getD d2.2.1.toNat []).length:Int)),(d2.2.1+(1:Int)),(d2.2.2.take d2.1.toNat++(a0.getD d2.2.1.toNat [])++d2.2.2.drop (d2.1.toNat+(a0.getD d2.2.1.toNat []).length)))) (some d2.2.2)
def acS(N:Nat) (a0:(List (List dI))):Option ((List dI)):=
  Option.bind (acQ N a0 N ((0:Int),(0:Int))) fun aU=>
  an (((decide (0<=aU))&&(decide (aU<=aU))&&(e1 32 aU))&&(true)) <|
  Option.bind (acR N a0 N ((0:Int),(0:Int),(List.replicate aU.toNat (eC.zero:dI)))) fun bD=>
  some bD
noncomputable def aiN (N:Nat):bu bE:=b6 N bw (by kernel_rfl) [.c (.a1 (.ah eC))] [] ⟨.a (.c (.a1 eC)),[],[]⟩ [] [] (.s .d (.s .d (.s (.s .d (.b (.eo 0 ⟨[(3,.a (.c (.int .i64))),(12,.a (.c (.int .i64)))],[],[0,10,11],[]⟩ ⟨[(3,.a (.c (.int .i64)))],[],[0],[]⟩ .d))) (.s .d (.s .d (.s (.s .d (.b (.eo 2 ⟨[(6,.a (.c (.raw (.ah 22)))),(7,.a (.c (.int .i64))),(25,.a (.c (.int .i64)))],[(22,.row 137 eC)],[23,24],[]⟩ ⟨[(6,.a (.c (.raw (.ah 22))))],[(22,.row 137 eC)],[],[]⟩ .d))) (.s .d (.t [.c8 22])))))))) [.tmp 2] 113 [] (fun d=>acS N d.1) Tryz.func113 rfl rfl Tryz.ntmps113 rfl rfl rfl (fun d=>by kernel_rfl)
def O8(N:Nat) (a0:(List (List aq))):Nat->(Int×Int)->Option (Int):=b5 fun d1 dh=>
  cond (decide (d1.2 < (a0.length:Int))) (an ((aT d1.2 a0.length)&&(true)) <|
  an ((aY (d1.1+((a0.getD d1.2.toNat []).length:Int)))&&(true)) <|
  an ((aY (d1.2+(1:Int)))&&(true)) <|
  dh ((d1.1+((a0.getD d1.2.toNat []).length:Int)),(d1.2+(1:Int)))) (some d1.1)
def O9(N:Nat) (a0:(List (List aq))):Nat->(Int×Int×(List aq))->Option ((List aq)):=b5 fun d2 dX=>
  cond (decide (d2.2.1 < (a0.length:Int))) (an ((aT d2.2.1 a0.length)&&(true)) <|
  an (((decide (0<=d2.1))&&(decide (d2.1<=(d2.2.2.length:Int))))&&((decide (d2.1.toNat+(a0.getD d2.2.1.toNat []).length<=d2.2.2.length))&&((aY (d2.1+((a0.getD d2.2.1.toNat []).length:Int)))&&(true)))) <|
  an ((aY (d2.2.1+(1:Int)))&&(true)) <|
  dX ((d2.1+((a0.getD d2.2.1.toNat []).length:Int)),(d2.2.1+(1:Int)),(d2.2.2.take d2.1.toNat++(a0.getD d2.2.1.toNat [])++d2.2.2.drop (d2.1.toNat+(a0.getD d2.2.1.toNat []).length)))) (some d2.2.2)
def y3(N:Nat) (a0:(List (List aq))):Option ((List aq)):=
  Option.bind (O8 N a0 N ((0:Int),(0:Int))) fun aU=>
  an (((decide (0<=aU))&&(decide (aU<=aU))&&(e1 16 aU))&&(true)) <|
  Option.bind (O9 N a0 N ((0:Int),(0:Int),(List.replicate aU.toNat (aL.zero:aq)))) fun bD=>
  some bD
noncomputable def acT (N:Nat):bu bE:=b6 N bw (by kernel_rfl) [.c (.a1 (.ah aL))] [] ⟨.a (.c (.a1 aL)),[],[]⟩ [] [] (.s .d (.s .d (.s (.s .d (.b (.eo 0 ⟨[(3,.a (.c (.int .i64))),(12,.a (.c (.int .i64)))],[],[0,10,11],[]⟩ ⟨[(3,.a (.c (.int .i64)))],[],[0],[]⟩ .d))) (.s .d (.s .d (.s (.s .d (.b (.eo 2 ⟨[(6,.a (.c (.raw (.ah 22)))),(7,.a (.c (.int .i64))),(25,.a (.c (.int .i64)))],[(22,.row 102 aL)],[23,24],[]⟩ ⟨[(6,.a (.c (.raw (.ah 22))))],[(22,.row 102 aL)],[],[]⟩ .d))) (.s .d (.t [.c8 22])))))))) [.tmp 2] 119 [] (fun d=>y3 N d.1) Tryz.func119 rfl rfl Tryz.ntmps119 rfl rfl rfl (fun d=>by kernel_rfl)
def Pa(N:Nat) (a0:(List dI)):Nat->(Int×(List (List aq)))->Option ((List (List aq))):=b5 fun d1 dh=>
  cond (decide (d1.1 < (a0.length:Int))) (an ((aT d1.1 a0.length)&&(true)) <|
  an ((aT d1.1 d1.2.length)&&(((decide (d1.1.toNat < d1.2.length))&&(true))&&(true))) <|
  an ((aY (d1.1+(1:Int)))&&(true)) <|
  dh ((d1.1+(1:Int)),(d1.2.set d1.1.toNat (a0.getD d1.1.toNat eC.zero).2))) (some d1.2)
def y4(N:Nat) (a0:(List dI)):Option ((List aq)):=
  an (((decide (0<=(a0.length:Int)))&&(decide ((a0.length:Int)<=(a0.length:Int)))&&(e1 24 (a0.length:Int)))&&(true)) <|
  Option.bind (Pa N a0 N ((0:Int),(List.replicate (a0.length:Int).toNat ([]:(List aq))))) fun aU=>
  Option.bind (y3 N aU) fun aO=>
  some aO
noncomputable def Pb (N:Nat):bu bE:=b6 N bw (by kernel_rfl) [.c (.a1 eC)] [] ⟨.a (.c (.a1 aL)),[],[]⟩ [acT N] [] (.s .d (.s .d (.s (.s .d (.b (.eo 0 ⟨[(3,.a (.c (.raw (.ah 8)))),(11,.a (.c (.int .i64)))],[(8,.row 34 (.ah aL))],[9,10],[]⟩ ⟨[(3,.a (.c (.raw (.ah 8))))],[(8,.row 34 (.ah aL))],[],[]⟩ (.s .d (.s .d (.s (.b (.s (.r [.n 6,.w (.b8 5 eC)]) .d)) .d)))))) (.s (.r [.n 1,.w (.c8 8)]) .d)))) [.tmp 2] 70 [] (fun d=>y4 N d.1) Tryz.func70 rfl rfl Tryz.ntmps70 rfl rfl rfl (fun d=>by kernel_rfl)
def Pc(N:Nat) :Nat->(Int×Int×(List qr))->Option ((List qr)):=b5 fun d1 dh=>
  cond (decide (d1.1 < d1.2.1)) (an ((aT d1.2.1 d1.2.2.length)&&((decide (d1.2.1.toNat < d1.2.2.length))&&((aT d1.1 d1.2.2.length)&&((decide (d1.1.toNat < d1.2.2.length))&&((aT d1.1 d1.2.2.length)&&(((decide (d1.1.toNat < d1.2.2.length))&&(true))&&((aT d1.2.1 (d1.2.2.set d1.1.toNat (d1.2.2.getD d1.2.1.toNat dK.zero)).length)&&(((decide (d1.2.1.toNat < (d1.2.2.set d1.1.toNat (d1.2.2.getD d1.2.1.toNat dK.zero)).length))&&(true))&&(true))))))))) <|
  an ((aY (d1.1+(1:Int)))&&((aY (d1.2.1 - (1:Int)))&&(true))) <|
  dh ((d1.1+(1:Int)),(d1.2.1 - (1:Int)),((d1.2.2.set d1.1.toNat (d1.2.2.getD d1.2.1.toNat dK.zero)).set d1.2.1.toNat (d1.2.2.getD d1.1.toNat dK.zero)))) (some d1.2.2)
def wc(N:Nat) (a0:List qr):Option ((List qr)):=
  an ((aY ((a0.length:Int) - (1:Int)))&&(true)) <|
  Option.bind (Pc N N ((0:Int),((a0.length:Int) - (1:Int)),a0)) fun aU=>
  some aU
noncomputable def Pd (N:Nat):bu bE:=b6 N bw (by kernel_rfl) [.c (.raw (.ah 2000000))] [(2000000,.row 116 dK)] ⟨.cW [],[(2000000,.row 116 dK)],[]⟩ [] [] (.s .d (.b (.eo 0 ⟨[(0,.a (.c (.raw (.ah 2000000)))),(2,.a (.c (.int .i64))),(3,.a (.c (.int .i64)))],[(2000000,.row 116 dK)],[],[]⟩ ⟨[],[(2000000,.row 116 dK)],[],[]⟩ (.s .d (.s (.b (.mm [8,9,10,11] [.t 0 0,.t 1 0,.t 2 0,.t 3 0,.t 4 0,.t 5 0,.t 6 0,.t 7 3,.t 8 0,.t 9 0,.t 10 0,.t 11 3,.t 12 0,.s 13,.t 14 0,.s 15] [])) .d))))) [] 71 [] (fun d=>wc N d.1) Tryz.func71 rfl rfl Tryz.ntmps71 rfl rfl rfl (fun d=>by kernel_rfl)
def HL(N:Nat) (a0:(List dI)) (aj:Int) (gA:Int):Nat->(Int×(List qr))->Option ((List qr)):=b5 fun d3 ga=>
  cond (decide (d3.1 < ((a0.getD gA.toNat eC.zero).2.length:Int))) (an ((aT d3.1 (a0.getD gA.toNat eC.zero).2.length)&&(true)) <|
  an ((cM 24 (d3.2.length+[(((a0.getD gA.toNat eC.zero).2.getD d3.1.toNat aL.zero),((decide ((a0.getD gA.toNat eC.zero).1=(1:Int))),aj))].length))&&(true)) <|
  an ((aY (d3.1+(1:Int)))&&(true)) <|
  ga ((d3.1+(1:Int)),(d3.2++[(((a0.getD gA.toNat eC.zero).2.getD d3.1.toNat aL.zero),((decide ((a0.getD gA.toNat eC.zero).1=(1:Int))),aj))]))) (some d3.2)
def HM(N:Nat) (a0:(List dI)) (aj:Int):Nat->(Int×(List qr))->Option ((List qr)):=b5 fun d2 dX=>
  cond (decide (d2.1 < (a0.length:Int))) (an ((aT d2.1 a0.length)&&(true)) <|
  Option.bind (HL N a0 aj d2.1 N ((0:Int),d2.2)) fun b9=>
  an ((aY (d2.1+(1:Int)))&&(true)) <|
  dX ((d2.1+(1:Int)),b9)) (some d2.2)
def Cc(N:Nat) (a0:(List dI)) (aj:Int):Option ((List qr)):=
  Option.bind (y4 N a0) fun ay=>
  an (((decide ((0:Int)<=(ay.length:Int)))&&(e1 24 (ay.length:Int)))&&(true)) <|
  Option.bind (HM N a0 aj N ((0:Int),([]:List qr))) fun bD=>
  cond (!(decide (aj=(1:Int)))) (Option.bind (wc N bD) fun bH=>
  some bH) (some bD)
noncomputable def acU (N:Nat):bu bE:=b6 N bw (by kernel_rfl) [.c (.a1 eC),.c (.int .u8)] [] ⟨.a (.c (.a1 dK)),[],[]⟩ [Pb N,Pd N] [] (.s .d (.s .d (.s .d (.s (.s .d (.b (.eo 0 ⟨[(6,.a (.c (.raw (.ah 15)))),(18,.a (.c (.int .i64)))],[(15,.row 116 dK)],[1,16,17],[]⟩ ⟨[(6,.a (.c (.raw (.ah 15))))],[(15,.row 116 dK)],[1],[]⟩ (.s .d (.s .d (.s (.b (.s (.r [.n 4,.w (.b8 8 eC)]) (.s .d (.b (.eo 2 ⟨[(6,.a (.c (.raw (.ah 15)))),(25,.a (.c (.int .i64)))],[(15,.row 116 dK)],[1,8,16,17,18,23,24],[]⟩ ⟨[(6,.a (.c (.raw (.ah 15))))],[(15,.row 116 dK)],[1,16,17,18],[]⟩ (.s .d (.s .d (.s (.b (.s (.r [.n 4,.w (.b8 10 aL)]) .d)) .d)))))))) .d)))))) (.s (.s .d (.c (.r [.n 1,.c [(2000000,15)]]) .d)) (.s .d (.t [.c8 15]))))))) [.tmp 4] 25 [] (fun d=>Cc N d.1 d.2.1) Tryz.func25 rfl rfl Tryz.ntmps25 rfl rfl rfl (fun d=>by kernel_rfl)
end
section
open Go.RowKit
def tY(N:Nat) (a0:Int):Option (Bool):=
  some (cond (decide (a0=(0:Int))) true (decide (a0=(1:Int))))
noncomputable def HN (N:Nat):bu bE:=b6 N bw (by kernel_rfl) [.c (.int .u8)] [] ⟨.a (.c .bool),[],[]⟩ [] [] (.d) [.tmp 2] 72 false (fun d=>tY N d.1) Tryz.func72 rfl rfl Tryz.ntmps72 rfl rfl rfl (fun d=>by kernel_rfl)
def we(N:Nat) (a0:aq):Option (Bool):=
  some (cond (cond (cond (decide ((1:Int)<=a0.1)) (decide (a0.1<=(6:Int))) false) (decide ((0:Int)<=a0.2)) false) (decide (a0.2 < (2048:Int))) false)
noncomputable def HO (N:Nat):bu bE:=b6 N bw (by kernel_rfl) [.cZ aL] [] ⟨.a (.c .bool),[],[]⟩ [] [] (.s (.r [.n 2,.w (.b8 1 aL)]) .d) [.tmp 2] 118 false (fun d=>we N d.1) Tryz.func118 rfl rfl Tryz.ntmps118 rfl rfl rfl (fun d=>by kernel_rfl)
def y5(N:Nat) (a0:qr):Option (Bool):=
  Option.bind (we N a0.1) fun ay=>
  Option.bind (cond ay (tY N a0.2.2) (some false)) fun aO=>
  some (cond ay aO false)
noncomputable def Pe (N:Nat):bu bE:=b6 N bw (by kernel_rfl) [.cZ dK] [] ⟨.a (.c .bool),[],[]⟩ [HO N,HN N] [] (.s (.r [.n 2,.w (.b8 1 dK)]) .d) [.tmp 2] 67 false (fun d=>y5 N d.1) Tryz.func67 rfl rfl Tryz.ntmps67 rfl rfl rfl (fun d=>by kernel_rfl)
def tZ(N:Nat) (a0:Int):Option (Bool):=
  some (cond (cond (!(decide ((Int.tmod a0 (2:Int))=(0:Int)))) (decide ((-13:Int)<=a0)) false) (decide (a0<=(179:Int))) false)
noncomputable def Pf (N:Nat):bu bE:=b6 N bw (by kernel_rfl) [.c (.int .i64)] [] ⟨.a (.c .bool),[],[]⟩ [] [] (.d) [.tmp 2] 66 false (fun d=>tZ N d.1) Tryz.func66 rfl rfl Tryz.ntmps66 rfl rfl rfl (fun d=>by kernel_rfl)
def y6(N:Nat) (a0:qr) (aj:qr):Option (Bool):=
  Option.bind (tY N a0.2.2) fun ay=>
  Option.bind (cond (!(!ay)) (tY N aj.2.2) (some false)) fun aO=>
  cond (cond (cond (!ay) true (!aO)) true (decide (a0.2.2=aj.2.2))) (some false) (some (aR.beq dK a0 (aj.1,(aj.2.1,a0.2.2))))
noncomputable def Pg (N:Nat):bu bE:=b6 N bw (by kernel_rfl) [.cZ dK,.cZ dK] [] ⟨.a (.c .bool),[],[]⟩ [HN N] [] (.s (.r [.n 3,.w (.b8 2 dK)]) .d) [.tmp 4] 117 false (fun d=>y6 N d.1 d.2.1) Tryz.func117 rfl rfl Tryz.ntmps117 rfl rfl rfl (fun d=>by kernel_rfl)
def HP(N:Nat) (a0:(List qr)):Nat->(Int×(List qr))->Option ((List qr)):=b5 fun d1 dh=>
  cond (decide (d1.1 < (a0.length:Int))) (an ((aT d1.1 a0.length)&&(true)) <|
  an ((dC (decide ((0:Int) < (d1.2.length:Int))) (aY ((d1.2.length:Int) - (1:Int))))&&((dC (decide ((0:Int) < (d1.2.length:Int))) (aT ((d1.2.length:Int) - (1:Int)) d1.2.length))&&((dC (decide ((0:Int) < (d1.2.length:Int))) (decide (((d1.2.length:Int) - (1:Int)).toNat < d1.2.length)))&&(true)))) <|
  Option.bind (cond (decide ((0:Int) < (d1.2.length:Int))) (y6 N (d1.2.getD ((d1.2.length:Int) - (1:Int)).toNat dK.zero) (a0.getD d1.1.toNat dK.zero)) (some false)) fun aO=>
  cond (cond (decide ((0:Int) < (d1.2.length:Int))) aO false) (an ((aY ((d1.2.length:Int) - (1:Int)))&&(((decide (0<=((d1.2.length:Int) - (1:Int))))&&(decide (((d1.2.length:Int) - (1:Int))<=(d1.2.length:Int))))&&(true))) <|
  an ((aY (d1.1+(1:Int)))&&(true)) <|
  dh ((d1.1+(1:Int)),(d1.2.take ((d1.2.length:Int) - (1:Int)).toNat))) (an ((cM 24 (d1.2.length+[(a0.getD d1.1.toNat dK.zero)].length))&&(true)) <|
  an ((aY (d1.1+(1:Int)))&&(true)) <|
  dh ((d1.1+(1:Int)),(d1.2++[(a0.getD d1.1.toNat dK.zero)])))) (some d1.2)
def y7(N:Nat) (a0:(List qr)) (aj:List qr):Option ((List qr)):=
  Option.bind (HP N a0 N ((0:Int),aj)) fun aU=>
  some aU
noncomputable def Ph (N:Nat):bu bE:=b6 N bw (by kernel_rfl) [.c (.raw (.ah 1000000)),.c (.a1 dK)] [(1000000,.row 116 dK)] ⟨.a (.c (.raw (.ah 1000000))),[(1000000,.row 116 dK)],[]⟩ [Pg N] [] (.s .d (.s (.s .d (.b (.eo 0 ⟨[(0,.a (.c (.raw (.ah 1000000)))),(10,.a (.c (.int .i64)))],[(1000000,.row 116 dK)],[8,9],[]⟩ ⟨[(0,.a (.c (.raw (.ah 1000000))))],[(1000000,.row 116 dK)],[],[]⟩ (.s .d (.s .d (.s (.b (.s (.r [.n 4,.w (.b8 6 dK)]) (.s .d (.s (.mm [8] [.t 0 0,.t 1 0,.t 2 0,.t 3 0,.t 4 0,.t 5 0,.t 6 0,.t 7 3,.t 8 1,.g 9,.t 10 0] []) .d)))) .d)))))) .d)) [.tmp 4] 68 [] (fun d=>y7 N d.1 d.2.1) Tryz.func68 rfl rfl Tryz.ntmps68 rfl rfl rfl (fun d=>by kernel_rfl)
def r5(N:Nat) (a0:(List qr)):Option ((List qr)×Nat):=
  an (((decide (0<=(a0.length:Int)))&&(decide ((a0.length:Int)<=(a0.length:Int)))&&(e1 24 (a0.length:Int)))&&(true)) <|
  an ((Nat.beq a0.length (List.replicate (a0.length:Int).toNat (dK.zero:qr)).length)&&(true)) <|
  some (a0,(a0.length:Int).toNat)
noncomputable def HQ (N:Nat):bu bE:=b6 N bw (by kernel_rfl) [.c (.a1 dK)] [] ⟨.a (.c (.iJ dK)),[],[]⟩ [] [] (.s .d (.s .d (.s .d (.s .d (.t [.c8 6]))))) [.tmp 2] 69 ([],0) (fun d=>r5 N d.1) Tryz.func69 rfl rfl Tryz.ntmps69 rfl rfl rfl (fun d=>by kernel_rfl)
def HR(N:Nat) (a0:cd):Nat->Int->Option ((Unit)⊕(Int)):=b5 fun d2 dX=>
  cond (decide (d2 < (a0.2.2.2.2.length:Int))) (an ((aT d2 a0.2.2.2.2.length)&&(true)) <|
  Option.bind (y5 N (a0.2.2.2.2.getD d2.toNat dK.zero)) fun bs=>
  an ((dC ((!(!bs))&&(decide ((0:Int) < d2))) (aY (d2 - (1:Int))))&&((dC ((!(!bs))&&(decide ((0:Int) < d2))) (aT (d2 - (1:Int)) a0.2.2.2.2.length))&&(true))) <|
  Option.bind (cond ((!(!bs))&&(decide ((0:Int) < d2))) (y6 N (a0.2.2.2.2.getD (d2 - (1:Int)).toNat dK.zero) (a0.2.2.2.2.getD d2.toNat dK.zero)) (some false)) fun bH=>
  cond (cond (!bs) true (cond (decide ((0:Int) < d2)) bH false)) (some (.inr (1:Int))) (an ((aY (d2+(1:Int)))&&(true)) <|
  dX (d2+(1:Int)))) (some (.inl ()))
def qL(N:Nat) (a0:cd):Option (Int):=
  cond (cond (decide (a0.2.2.1 < (0:Int))) true (decide ((2048:Int) < a0.2.2.1))) (some (1:Int)) (cond (!a0.1) (cond (cond (cond (!(decide (a0.2.1=(0:Int)))) true a0.2.2.2.1) true (decide ((0:Int) < (a0.2.2.2.2.length:Int)))) (some (1:Int)) (some (0:Int))) (Option.bind (tZ N a0.2.1) fun ay=>
  cond (cond (!ay) true (decide ((4096:Int) < (a0.2.2.2.2.length:Int)))) (some (1:Int)) (Option.bind (HR N a0 N (0:Int)) fun(bD:(Unit)⊕(Int))=>
  sm bD (fun bD=>
  some (0:Int)) (fun q=>some q))))
noncomputable def y8 (N:Nat):bu bE:=b6 N bw (by kernel_rfl) [.cZ bM] [] ⟨.a (.c (.int .i64)),[],[]⟩ [Pf N,Pe N,Pg N] [] (.s (.r [.n 2,.w (.b8 1 bM)]) (.s .d (.s .d (.s .d (.s (.s .d (.b (.fq 0 ⟨[(42,.a (.c (.int .i64)))],[],[1,40,41],[]⟩ ⟨[],[],[],[]⟩ (.s .d (.s .d (.s (.b (.s (.r [.n 6,.w (.b8 4 dK)]) (.s (.o [] [.t 0 1,.c 1 [],.f,.t 2 0,.t 3 0,.t 4 0,.t 5 0,.t 6 0,.t 7 0,.t 8 1,.t 9 0,.t 10 0,.t 11 0,.t 12 1,.t 13 1,.g 14,.t 15 0,.t 16 0] []) .d))) .d)))))) .d))))) [.tmp 2] 65 0 (fun d=>qL N d.1) Tryz.func65 rfl rfl Tryz.ntmps65 rfl rfl rfl (fun d=>by kernel_rfl)
def Pj(N:Nat) (a0:(List qr)):Option ((List qr)×Nat):=
  an (((decide ((0:Int)<=(a0.length:Int)))&&(e1 24 (a0.length:Int)))&&(true)) <|
  Option.bind (y7 N a0 ([]:List qr)) fun ay=>
  Option.bind (r5 N ay) fun aO=>
  some (aO.1,aO.2)
noncomputable def acV (N:Nat):bu bE:=b6 N bw (by kernel_rfl) [.c (.a1 dK)] [] ⟨.a (.c (.iJ dK)),[],[]⟩ [Ph N,HQ N] [] (.s .d (.s (.r [.n 4,.c [(1000000,5)],.w (.c8 5)]) .d)) [.tmp 2] 226 ([],0) (fun d=>Pj N d.1) Tryz.func226 rfl rfl Tryz.ntmps226 rfl rfl rfl (fun d=>by kernel_rfl)
def HS(N:Nat) (a2:(List qr)):Nat->Int->Option ((Unit)⊕(cd×Int)):=b5 fun d3 ga=>
  cond (decide (d3 < (a2.length:Int))) (an ((aT d3 a2.length)&&(true)) <|
  Option.bind (y5 N (a2.getD d3.toNat dK.zero)) fun bH=>
  cond (!bH) (some (.inr ((false,((0:Int),((0:Int),(false,([]:List qr))))),(1:Int)))) (an ((aY (d3+(1:Int)))&&(true)) <|
  ga (d3+(1:Int)))) (some (.inl ()))
def r6(N:Nat) (a0:cd) (aj:Int) (a2:(List qr)):Option (cd×Int):=
  Option.bind (qL N a0) fun ay=>
  cond (!(decide (ay=(0:Int)))) (some ((false,((0:Int),((0:Int),(false,([]:List qr))))),ay)) (Option.bind (tZ N aj) fun aO=>
  cond (!aO) (some ((false,((0:Int),((0:Int),(false,([]:List qr))))),(1:Int))) (Option.bind (HS N a2 N (0:Int)) fun(b9:(Unit)⊕(cd×Int))=>
  sm b9 (fun b9=>
  cond (!a0.1) (some ((false,((0:Int),((0:Int),(false,([]:List qr))))),(12:Int))) (an ((aY ((a0.2.2.2.2.length:Int)+(a2.length:Int)))&&(((decide ((0:Int)<=((a0.2.2.2.2.length:Int)+(a2.length:Int))))&&(e1 24 ((a0.2.2.2.2.length:Int)+(a2.length:Int))))&&(true))) <|
  an ((cM 24 (([]:List qr).length+a0.2.2.2.2.length))&&(true)) <|
  Option.bind (y7 N a2 (([]:List qr)++a0.2.2.2.2)) fun b1=>
  cond (decide ((4096:Int) < (b1.length:Int))) (some ((false,((0:Int),((0:Int),(false,([]:List qr))))),(3:Int))) (Option.bind (r5 N b1) fun cp=>
  some ((a0.1,(aj,(a0.2.2.1,(a0.2.2.2.1,cp.1)))),(0:Int))))) (fun q=>some q)))
noncomputable def Pk (N:Nat):bu bE:=b6 N bw (by kernel_rfl) [.cZ bM,.c (.int .i64),.c (.a1 dK)] [] ⟨.cW [.cZ bM,.c (.int .i64)],[],[]⟩ [y8 N,Pf N,Pe N,Ph N,HQ N] [] (.s .d (.s .d (.s .d (.s (.s .d (.b (.fq 0 ⟨[(3,.a (.c (.raw (.ptr 3 0)))),(6,.a (.c (.raw (.ptr 6 0)))),(24,.a (.c (.int .i64)))],[],[1,2,22,23],[3,6]⟩ ⟨[(3,.a (.c (.raw (.ptr 3 0)))),(6,.a (.c (.raw (.ptr 6 0))))],[],[1,2],[3,6]⟩ (.s .d (.s .d (.s (.b (.s (.r [.n 4,.w (.b8 10 dK)]) .d)) .d)))))) (.s .d (.s .d (.s (.r [.n 5,.c [(1000000,43)]]) (.s .d (.s .d (.s (.r [.n 1,.w (.c8 43)]) .d)))))))))) [.cell 6 73,.tmp 7] 24 (bM.zero,0) (fun d=>r6 N d.1 d.2.1 d.2.2.1) Tryz.func24 rfl rfl Tryz.ntmps24 rfl rfl rfl (fun d=>by kernel_rfl)
def r7(N:Nat) (a0:cd) (aj:Int):Option (cd×Int):=
  Option.bind (qL N a0) fun ay=>
  cond (!(decide (ay=(0:Int)))) (some ((false,((0:Int),((0:Int),(false,([]:List qr))))),ay)) (Option.bind (tY N aj) fun aO=>
  cond (!aO) (some ((false,((0:Int),((0:Int),(false,([]:List qr))))),(1:Int))) (cond a0.1 (some ((false,((0:Int),((0:Int),(false,([]:List qr))))),(12:Int))) (cond (decide (aj=(1:Int))) (some ((true,((179:Int),(a0.2.2.1,(true,([]:List qr))))),(0:Int))) (some ((true,((-13:Int),(a0.2.2.1,(true,([]:List qr))))),(0:Int))))))
noncomputable def Pl (N:Nat):bu bE:=b6 N bw (by kernel_rfl) [.cZ bM,.c (.int .u8)] [] ⟨.cW [.cZ bM,.c (.int .i64)],[],[]⟩ [y8 N,HN N] [] (.s (.r [.n 3,.w (.b8 2 bM)]) .d) [.cell 4 73,.tmp 5] 26 (bM.zero,0) (fun d=>r7 N d.1 d.2.1) Tryz.func26 rfl rfl Tryz.ntmps26 rfl rfl rfl (fun d=>by kernel_rfl)
end
section
open Go.RowKit
def mW(N:Nat) (a0:cd):Option (cd×Ht×Int):=
  Option.bind (qL N a0) fun ay=>
  cond (!(decide (ay=(0:Int)))) (some ((false,((0:Int),((0:Int),(false,([]:List qr))))),((0:Int),(false,([]:List qr))),ay)) (cond (!a0.1) (some ((false,((0:Int),((0:Int),(false,([]:List qr))))),((0:Int),(false,([]:List qr))),(12:Int))) (cond (decide (a0.2.2.1=(2048:Int))) (some ((false,((0:Int),((0:Int),(false,([]:List qr))))),((0:Int),(false,([]:List qr))),(3:Int))) (Option.bind (r5 N a0.2.2.2.2) fun aO=>
  an ((aY (a0.2.2.1+(1:Int)))&&(true)) <|
  some ((true,(a0.2.1,((a0.2.2.1+(1:Int)),(false,([]:List qr))))),(a0.2.2.1,(a0.2.2.2.1,aO.1)),(0:Int)))))
noncomputable def Cd (N:Nat) (a0:cd):Option (cd×Ht×Int):=
  Option.bind (qL N a0) fun ay=>
  cond (!(decide (ay=(0:Int)))) (some ((false,((0:Int),((0:Int),(false,([]:List qr))))),((0:Int),(false,([]:List qr))),ay)) (cond (!a0.1) (some ((false,((0:Int),((0:Int),(false,([]:List qr))))),((0:Int),(false,([]:List qr))),(12:Int))) (cond (decide (a0.2.2.1=(2048:Int))) (some ((false,((0:Int),((0:Int),(false,([]:List qr))))),((0:Int),(false,([]:List qr))),(3:Int))) (eu (Option.bind (r5 N a0.2.2.2.2) fun aO=>
  an ((aY (a0.2.2.1+(1:Int)))&&(true)) <|
  some ((true,(a0.2.1,((a0.2.2.1+(1:Int)),(false,([]:List qr))))),(a0.2.2.1,(a0.2.2.2.1,aO.1)),(0:Int))) (Option.bind (r5 N a0.2.2.2.2) fun aO=>
  an ((aY (a0.2.2.1+(1:Int)))&&(true)) <|
  some ((true,(a0.2.1,((a0.2.2.1+(1:Int)),(false,([]:List qr))))),(a0.2.2.1,(a0.2.2.2.1,aO.1)),(0:Int))))))
theorem acW:Cd=mW:=by
 unfold Cd mW
 first | rfl | (simp only[ha]; done) | (funext; simp (disch:=(simp only[hg,cn,hf]; first | done | first | rfl | (refine cV (fun h=>?_) (fun h=>?_); (focus (rw[h]; first | done | (simp only[cn]; first | done | first | rfl | (refine cV (fun h=>?_) (fun h=>?_); (focus (rw[h]; first | done | (simp only[cn]; first | done | first | rfl | (refine cV (fun h=>?_) (fun h=>?_); (focus (rw[h]; first | done | (simp only[cn]; first | done | rfl))); (focus (rw[h]; first | done | simp only[cT,cU])))))); (focus (rw[h]; first | done | simp only[cT,cU])))))); (focus (rw[h]; first | done | simp only[cT,cU]))))) only[hh])
noncomputable def Pm (N:Nat):bu bE:=lP N bw (by kernel_rfl) [.cZ bM] [] ⟨.cW [.cZ bM,.cZ tU,.c (.int .i64)],[],[]⟩ [y8 N,HQ N] [] (.s (.r [.n 4,.w (.b8 1 bM)]) (.s .d (.s .d (.s .d (.s (.gy [] [] (.b [.t 0 0,.t 1 1,.t 2 0,.t 3 1,.t 4 0,.t 5 1] 6 8 [] [] none none (.f [.t 7 0,.s 8,.s 9]) (.f [.c 6 [],.t 7 0,.s 9])) [(.b8 6 tU)] false) (.s (.o [] [.t 0 0,.t 1 1,.t 2 0,.t 3 1,.t 4 0,.t 5 0,.t 6 1,.s 7,.s 8,.t 9 0] []) .d)))))) [.cell 2 73,.cell 3 157,.tmp 4] 81 (bM.zero,tU.zero,0) (fun d=>Cd N d.1) (fun d=>mW N d.1) (fun d=>(by rw[acW]:Cd N d.1=mW N d.1)) Tryz.func81 rfl rfl Tryz.ntmps81 rfl rfl rfl (fun d=>by kernel_rfl)
end
section
open Go.RowKit
def HT(N:Nat) (a0:List (Bool×List dI)):Nat->(Int×Int×(List (Bool×List dI)))->Option (Int×(List (Bool×List dI))):=b5 fun d1 dh=>
  cond (decide (d1.2.1 < (a0.length:Int))) (an ((aT d1.2.1 d1.2.2.length)&&(((decide (d1.2.1.toNat < d1.2.2.length))&&(d1.2.2.getD d1.2.1.toNat (false,[])).1)&&(true))) <|
  an ((aY (d1.1+((d1.2.2.getD d1.2.1.toNat (false,[])).2.length:Int)))&&(true)) <|
  an ((aY (d1.2.1+(1:Int)))&&(true)) <|
  dh ((d1.1+((d1.2.2.getD d1.2.1.toNat (false,[])).2.length:Int)),(d1.2.1+(1:Int)),(d1.2.2.set d1.2.1.toNat (true,(d1.2.2.getD d1.2.1.toNat (false,[])).2)))) (some (d1.1,d1.2.2))
def HU(N:Nat) (aU:Int×(List (Bool×List dI))):Nat->(Int×Int×(List dI)×(List (Bool×List dI)))->Option ((List dI)×(List (Bool×List dI))):=b5 fun d2 dX=>
  cond (decide (d2.2.1 < (aU.2.length:Int))) (an ((aT d2.2.1 d2.2.2.2.length)&&(((decide (d2.2.1.toNat < d2.2.2.2.length))&&(d2.2.2.2.getD d2.2.1.toNat (false,[])).1)&&(true))) <|
  an (((decide (0<=d2.1))&&(decide (d2.1<=(d2.2.2.1.length:Int))))&&((decide (d2.1.toNat+(d2.2.2.2.getD d2.2.1.toNat (false,[])).2.length<=d2.2.2.1.length))&&((aY (d2.1+((d2.2.2.2.getD d2.2.1.toNat (false,[])).2.length:Int)))&&(true)))) <|
  an ((aY (d2.2.1+(1:Int)))&&(true)) <|
  dX ((d2.1+((d2.2.2.2.getD d2.2.1.toNat (false,[])).2.length:Int)),(d2.2.1+(1:Int)),(d2.2.2.1.take d2.1.toNat++(d2.2.2.2.getD d2.2.1.toNat (false,[])).2++d2.2.2.1.drop (d2.1.toNat+(d2.2.2.2.getD d2.2.1.toNat (false,[])).2.length)),(d2.2.2.2.set d2.2.1.toNat (true,(d2.2.2.2.getD d2.2.1.toNat (false,[])).2)))) (some (d2.2.2.1,d2.2.2.2))
def Ce(N:Nat) (a0:List (Bool×List dI)):Option ((List dI)×(List (Bool×List dI))):=
  Option.bind (HT N a0 N ((0:Int),(0:Int),a0)) fun aU=>
  an (((decide (0<=aU.1))&&(decide (aU.1<=aU.1))&&(e1 32 aU.1))&&(true)) <|
  Option.bind (HU N aU N ((0:Int),(0:Int),(List.replicate aU.1.toNat (eC.zero:dI)),aU.2)) fun bD=>
  some (bD.1,bD.2)
noncomputable def acX (N:Nat):bu bE:=b6 N bw (by kernel_rfl) [.c (.raw (.ah 2000000))] [(2000000,.b0 65 137 eC)] ⟨.a (.c (.a1 eC)),[(2000000,.b0 65 137 eC)],[]⟩ [] [] (.s .d (.s .d (.s (.s .d (.b (.eo 0 ⟨[(0,.a (.c (.raw (.ah 2000000)))),(3,.a (.c (.int .i64))),(10,.a (.c (.raw (.ah 2000000)))),(12,.a (.c (.int .i64)))],[(2000000,.b0 65 137 eC)],[11],[]⟩ ⟨[(0,.a (.c (.raw (.ah 2000000)))),(3,.a (.c (.int .i64)))],[(2000000,.b0 65 137 eC)],[],[]⟩ (.s .d (.s .d (.s (.b (.s (.r [.n 1,.t .yb]) (.r [.n 5,.w (.t (.close 2000000 15))]))) .d)))))) (.s .d (.s .d (.s (.s .d (.b (.eo 2 ⟨[(6,.a (.c (.raw (.ah 22)))),(7,.a (.c (.int .i64))),(23,.a (.c (.raw (.ah 2000000)))),(25,.a (.c (.int .i64)))],[(22,.row 137 eC),(2000000,.b0 65 137 eC)],[24],[]⟩ ⟨[(6,.a (.c (.raw (.ah 22))))],[(22,.row 137 eC),(2000000,.b0 65 137 eC)],[],[]⟩ (.s .d (.s .d (.s (.b (.s (.r [.n 1,.t .yb]) (.r [.n 8,.w (.t (.close 2000000 28))]))) .d)))))) (.s .d (.t [.c8 22])))))))) [.tmp 2] 113 ([],[]) (fun d=>Ce N d.1) Tryz.func113 rfl rfl Tryz.ntmps113 rfl rfl rfl (fun d=>by kernel_rfl)
def ua(N:Nat) (a0:Int):Option (Int):=
  cond (decide (a0=(0:Int))) (some (1:Int)) (some (0:Int))
noncomputable def Pn (N:Nat):bu bE:=b6 N bw (by kernel_rfl) [.c (.int .u8)] [] ⟨.a (.c (.int .u8)),[],[]⟩ [] [] (.d) [.tmp 2] 111 0 (fun d=>ua N d.1) Tryz.func111 rfl rfl Tryz.ntmps111 rfl rfl rfl (fun d=>by kernel_rfl)
def y9(N:Nat) (a0:Int):Option (Int):=
  cond (decide (a0=(0:Int))) (some (-13:Int)) (some (179:Int))
noncomputable def acY (N:Nat):bu bE:=b6 N bw (by kernel_rfl) [.c (.int .u8)] [] ⟨.a (.c (.int .i64)),[],[]⟩ [] [] (.d) [.tmp 2] 112 0 (fun d=>y9 N d.1) Tryz.func112 rfl rfl Tryz.ntmps112 rfl rfl rfl (fun d=>by kernel_rfl)
def za(N:Nat) (a0:Int) (aj:Int) (a2:(List qr)) (a3:(List kt)) (a4:Int) (a5:List cd):Option (Int×(List kt)×Int×(List cd)):=
  an ((aT (IntKind.wrap .u8 (a0 - (1:Int))) a5.length)&&((decide ((IntKind.wrap .u8 (a0 - (1:Int))).toNat < a5.length))&&(true))) <|
  Option.bind (r6 N (a5.getD (IntKind.wrap .u8 (a0 - (1:Int))).toNat bM.zero) aj a2) fun ay=>
  cond (decide (ay.2=(0:Int))) (an ((aT (IntKind.wrap .u8 (a0 - (1:Int))) a5.length)&&(((decide ((IntKind.wrap .u8 (a0 - (1:Int))).toNat < a5.length))&&(true))&&(true))) <|
  some (ay.2,a3,a4,(a5.set (IntKind.wrap .u8 (a0 - (1:Int))).toNat ay.1))) (some (ay.2,a3,a4,a5))
noncomputable def Po (N:Nat):bu bE:=b6 N bw (by kernel_rfl) [.c (.raw (.ptr 1000000 0)),.c (.int .u8),.c (.int .i64),.c (.a1 dK)] [(1000000,.cells 132 [.a1 nB,.raw (.ah 2000000),.raw (.ah 2000001),.raw (.ah 2000002),.int .u8]),(2000001,.row 73 bM)] ⟨.a (.c (.int .i64)),[(1000000,.cells 132 [.a1 nB,.raw (.ah 2000000),.raw (.ah 2000001),.raw (.ah 2000002),.int .u8]),(2000001,.row 73 bM)],[]⟩ [Pk N] [] (.s .d (.s (.r [.n 17,.w (.b8 9 bM)]) (.s (.s .d (.c (.o [4,5,6] [.t 0 0,.t 1 0,.t 2 0,.t 3 3,.t 4 0,.t 5 0,.t 6 1,.t 7 0,.s 8] []) .d)) .d))) [.tmp 8] 60 (0,[],0,[]) (fun d=>za N d.1 d.2.1 d.2.2.1 d.2.2.2.1 d.2.2.2.2.1 d.2.2.2.2.2.1) Tryz.func60 rfl rfl Tryz.ntmps60 rfl rfl rfl (fun d=>by kernel_rfl)
def Cf(N:Nat) (a0:Int) (aj:(List kt)) (a2:Int) (a3:List (Bool×List dI)) (a4:List cd):Option (Int×(List kt)×Int×(List (Bool×List dI))×(List cd)):=
  Option.bind (ua N a2) fun ay=>
  an ((aT (IntKind.wrap .u8 (a0 - (1:Int))) a4.length)&&((decide ((IntKind.wrap .u8 (a0 - (1:Int))).toNat < a4.length))&&(true))) <|
  cond (!(a4.getD (IntKind.wrap .u8 (a0 - (1:Int))).toNat bM.zero).1) (Option.bind (r7 N (a4.getD (IntKind.wrap .u8 (a0 - (1:Int))).toNat bM.zero) ay) fun aO=>
  Option.bind (cond (decide (aO.2=(0:Int))) (an ((aT (IntKind.wrap .u8 (a0 - (1:Int))) a4.length)&&(((decide ((IntKind.wrap .u8 (a0 - (1:Int))).toNat < a4.length))&&(true))&&(true))) <|
  some (aj,a2,(a4.set (IntKind.wrap .u8 (a0 - (1:Int))).toNat aO.1))) (some (aj,a2,a4))) fun b9=>
  some (aO.2,b9.1,b9.2.1,a3,b9.2.2)) (Option.bind (y9 N ay) fun bH=>
  cond (decide ((a4.getD (IntKind.wrap .u8 (a0 - (1:Int))).toNat bM.zero).2.1=bH)) (some ((0:Int),aj,a2,a3,a4)) (Option.bind (y9 N ay) fun b1=>
  Option.bind (Ce N a3) fun cp=>
  Option.bind (Cc N cp.1 ay) fun jF=>
  Option.bind (za N a0 b1 jF aj a2 a4) fun gS=>
  some (gS.1,gS.2.1,gS.2.2.1,cp.2,gS.2.2.2)))
noncomputable def acZ (N:Nat):bu bE:=b6 N bw (by kernel_rfl) [.c (.raw (.ptr 1000000 0)),.c (.int .u8)] [(1000000,.cells 132 [.a1 nB,.raw (.ah 2000000),.raw (.ah 2000001),.raw (.ah 2000002),.int .u8]),(2000000,.b0 65 137 eC),(2000001,.row 73 bM)] ⟨.a (.c (.int .i64)),[(1000000,.cells 132 [.a1 nB,.raw (.ah 2000000),.raw (.ah 2000001),.raw (.ah 2000002),.int .u8]),(2000000,.b0 65 137 eC),(2000001,.row 73 bM)],[]⟩ [Pn N,Pl N,acY N,acX N,acU N,Po N] [] (.s .d (.s .d (.s (.r [.n 10,.w (.b8 6 bM)]) (.s (.s .d (.c (.s (.r [.n 9,.w (.b8 7 bM)]) (.j ⟨[],[(1000000,.cells 132 [.a1 nB,.raw (.ah 2000000),.raw (.ah 2000001),.raw (.ah 2000002),.int .u8]),(2000001,.row 73 bM)],[8],[2000000]⟩ (.s .d (.c (.o [4,5,6] [.t 0 0,.t 1 0,.t 2 0,.t 3 3,.t 4 0,.t 5 0,.t 6 1,.t 7 0,.s 8] []) .d)) .d)) .d)) (.s (.s (.o [] [.t 0 0,.t 1 1,.t 2 0,.c 3 [],.t 4 0] []) .d) (.s (.o [3,8,9,1000011] [.t 0 0,.t 1 0,.t 2 0,.t 4 0,.t 5 0,.t 6 0,.t 7 3,.t 9 0,.c 3 [],.c 8 [(2000000,2000000)],.c 10 [],.c 11 [(1000000,1000000),(2000000,2000000),(2000002,2000002),(2000001,2000001)],.t 12 0] []) .d)))))) [.tmp 4] 58 (0,[],0,[],[]) (fun d=>Cf N d.1 d.2.1 d.2.2.1 d.2.2.2.1 d.2.2.2.2.1) Tryz.func58 rfl rfl Tryz.ntmps58 rfl rfl rfl (fun d=>by kernel_rfl)
def HV(N:Nat) (a0:(List (List bX))):Nat->(Int×Int)->Option (Int):=b5 fun d1 dh=>
  cond (decide (d1.2 < (a0.length:Int))) (an ((aT d1.2 a0.length)&&(true)) <|
  an ((aY (d1.1+((a0.getD d1.2.toNat []).length:Int)))&&(true)) <|
  an ((aY (d1.2+(1:Int)))&&(true)) <|
  dh ((d1.1+((a0.getD d1.2.toNat []).length:Int)),(d1.2+(1:Int)))) (some d1.1)
def ub(N:Nat) (a0:(List (List bX))):Option (Int):=
  Option.bind (HV N a0 N ((0:Int),(0:Int))) fun aU=>
  some aU
noncomputable def Pp (N:Nat):bu bE:=b6 N bw (by kernel_rfl) [.c (.a1 (.ah cl))] [] ⟨.a (.c (.int .i64)),[],[]⟩ [] [] (.s .d (.s .d (.s (.s .d (.b (.eo 0 ⟨[(3,.a (.c (.int .i64))),(8,.a (.c (.int .i64)))],[],[6,7],[]⟩ ⟨[(3,.a (.c (.int .i64)))],[],[],[]⟩ .d))) .d))) [.tmp 2] 75 0 (fun d=>ub N d.1) Tryz.func75 rfl rfl Tryz.ntmps75 rfl rfl rfl (fun d=>by kernel_rfl)
def HW(N:Nat) (a0:List (Bool×List bX)):Nat->(Int×Int×(List (Bool×List bX)))->Option (Int×(List (Bool×List bX))):=b5 fun d1 dh=>
  cond (decide (d1.2.1 < (a0.length:Int))) (an ((aT d1.2.1 d1.2.2.length)&&(((decide (d1.2.1.toNat < d1.2.2.length))&&(d1.2.2.getD d1.2.1.toNat (false,[])).1)&&(true))) <|
  an ((aY (d1.1+((d1.2.2.getD d1.2.1.toNat (false,[])).2.length:Int)))&&(true)) <|
  an ((aY (d1.2.1+(1:Int)))&&(true)) <|
  dh ((d1.1+((d1.2.2.getD d1.2.1.toNat (false,[])).2.length:Int)),(d1.2.1+(1:Int)),(d1.2.2.set d1.2.1.toNat (true,(d1.2.2.getD d1.2.1.toNat (false,[])).2)))) (some (d1.1,d1.2.2))
def ud(N:Nat) (a0:List (Bool×List bX)):Option (Int×(List (Bool×List bX))):=
  Option.bind (HW N a0 N ((0:Int),(0:Int),a0)) fun aU=>
  some (aU.1,aU.2)
noncomputable def Pq (N:Nat):bu bE:=b6 N bw (by kernel_rfl) [.c (.raw (.ah 2000000))] [(2000000,.b0 118 113 cl)] ⟨.a (.c (.int .i64)),[(2000000,.b0 118 113 cl)],[]⟩ [] [] (.s .d (.s .d (.s (.s .d (.b (.eo 0 ⟨[(3,.a (.c (.int .i64))),(6,.a (.c (.raw (.ah 2000000)))),(8,.a (.c (.int .i64)))],[(2000000,.b0 118 113 cl)],[7],[]⟩ ⟨[(3,.a (.c (.int .i64)))],[(2000000,.b0 118 113 cl)],[],[]⟩ (.s .d (.s .d (.s (.b (.s (.r [.n 1,.t .yb]) (.r [.n 5,.w (.t (.close 2000000 11))]))) .d)))))) .d))) [.tmp 2] 75 (0,[]) (fun d=>ud N d.1) Tryz.func75 rfl rfl Tryz.ntmps75 rfl rfl rfl (fun d=>by kernel_rfl)
def ue(N:Nat) (a0:Int) (aj:Int) (a2:(List aq)) (a3:(List kt)) (a4:Int) (a5:List (Bool×List bX)) (bG:List cd):Option (aq×Int×(List kt)×Int×(List (Bool×List bX))×(List cd)):=
  Option.bind (ud N a5) fun ay=>
  cond (decide ((2048:Int)<=ay.1)) (some (((0:Int),(0:Int)),(3:Int),a3,a4,ay.2,bG)) (an ((aT (IntKind.wrap .u8 (a0 - (1:Int))) bG.length)&&((decide ((IntKind.wrap .u8 (a0 - (1:Int))).toNat < bG.length))&&(true))) <|
  Option.bind (mW N (bG.getD (IntKind.wrap .u8 (a0 - (1:Int))).toNat bM.zero)) fun aO=>
  cond (!(decide (aO.2.2=(0:Int)))) (some (((0:Int),(0:Int)),aO.2.2,a3,a4,ay.2,bG)) (an ((aT (IntKind.wrap .u8 (a0 - (1:Int))) bG.length)&&(((decide ((IntKind.wrap .u8 (a0 - (1:Int))).toNat < bG.length))&&(true))&&(true))) <|
  Option.bind (wb N a2) fun bs=>
  Option.bind (tX N aO.2.1.2.2) fun bH=>
  an (((decide ((IntKind.wrap .u8 (a0 - (1:Int))).toNat < ay.2.length))&&(ay.2.getD (IntKind.wrap .u8 (a0 - (1:Int))).toNat (false,[])).1)) <|
  an ((aT (IntKind.wrap .u8 (a0 - (1:Int))) ay.2.length)&&(true)) <|
  an ((decide ((IntKind.wrap .u8 (a0 - (1:Int))).toNat=(IntKind.wrap .u8 (a0 - (1:Int))).toNat))&&((cM 56 ((ay.2.getD (IntKind.wrap .u8 (a0 - (1:Int))).toNat (false,[])).2.length+[(aj,(aO.2.1.2.1,(bs.1,bH.1)))].length))&&((aT (IntKind.wrap .u8 (a0 - (1:Int))) ay.2.length)&&(((decide ((IntKind.wrap .u8 (a0 - (1:Int))).toNat=(IntKind.wrap .u8 (a0 - (1:Int))).toNat))&&(decide ((IntKind.wrap .u8 (a0 - (1:Int))).toNat < ay.2.length)))&&(true))))) <|
  some ((a0,aO.2.1.1),(0:Int),a3,a4,(ay.2.set (IntKind.wrap .u8 (a0 - (1:Int))).toNat (true,((ay.2.getD (IntKind.wrap .u8 (a0 - (1:Int))).toNat (false,[])).2++[(aj,(aO.2.1.2.1,(bs.1,bH.1)))]))),(bG.set (IntKind.wrap .u8 (a0 - (1:Int))).toNat aO.1))))
noncomputable def Cg (N:Nat) (a0:Int) (aj:Int) (a2:(List aq)) (a3:(List kt)) (a4:Int) (a5:List (Bool×List bX)) (bG:List cd):Option (aq×Int×(List kt)×Int×(List (Bool×List bX))×(List cd)):=
  Option.bind (ud N a5) fun ay=>
  cond (decide ((2048:Int)<=ay.1)) (some (((0:Int),(0:Int)),(3:Int),a3,a4,ay.2,bG)) (an ((aT (IntKind.wrap .u8 (a0 - (1:Int))) bG.length)&&((decide ((IntKind.wrap .u8 (a0 - (1:Int))).toNat < bG.length))&&(true))) <|
  Option.bind (mW N (bG.getD (IntKind.wrap .u8 (a0 - (1:Int))).toNat bM.zero)) fun aO=>
  cond (!(decide (aO.2.2=(0:Int)))) (some (((0:Int),(0:Int)),aO.2.2,a3,a4,ay.2,bG)) (an ((aT (IntKind.wrap .u8 (a0 - (1:Int))) bG.length)&&(((decide ((IntKind.wrap .u8 (a0 - (1:Int))).toNat < bG.length))&&(true))&&(true))) <|
  eu (Option.bind (wb N a2) fun bs=>
  eu (Option.bind (tX N aO.2.1.2.2) fun bH=>
  an (((decide ((IntKind.wrap .u8 (a0 - (1:Int))).toNat < ay.2.length))&&(ay.2.getD (IntKind.wrap .u8 (a0 - (1:Int))).toNat (false,[])).1)) <|
  an ((aT (IntKind.wrap .u8 (a0 - (1:Int))) ay.2.length)&&(true)) <|
  eu (an ((decide ((IntKind.wrap .u8 (a0 - (1:Int))).toNat=(IntKind.wrap .u8 (a0 - (1:Int))).toNat))&&((cM 56 ((ay.2.getD (IntKind.wrap .u8 (a0 - (1:Int))).toNat (false,[])).2.length+[(aj,(aO.2.1.2.1,(bs.1,bH.1)))].length))&&((aT (IntKind.wrap .u8 (a0 - (1:Int))) ay.2.length)&&(((decide ((IntKind.wrap .u8 (a0 - (1:Int))).toNat=(IntKind.wrap .u8 (a0 - (1:Int))).toNat))&&(decide ((IntKind.wrap .u8 (a0 - (1:Int))).toNat < ay.2.length)))&&(true))))) <|
  some ((a0,aO.2.1.1),(0:Int),a3,a4,(ay.2.set (IntKind.wrap .u8 (a0 - (1:Int))).toNat (true,((ay.2.getD (IntKind.wrap .u8 (a0 - (1:Int))).toNat (false,[])).2++[(aj,(aO.2.1.2.1,(bs.1,bH.1)))]))),(bG.set (IntKind.wrap .u8 (a0 - (1:Int))).toNat aO.1))) (an ((decide ((IntKind.wrap .u8 (a0 - (1:Int))).toNat=(IntKind.wrap .u8 (a0 - (1:Int))).toNat))&&((cM 56 ((ay.2.getD (IntKind.wrap .u8 (a0 - (1:Int))).toNat (false,[])).2.length+[(aj,(aO.2.1.2.1,(bs.1,bH.1)))].length))&&((aT (IntKind.wrap .u8 (a0 - (1:Int))) ay.2.length)&&(((decide ((IntKind.wrap .u8 (a0 - (1:Int))).toNat=(IntKind.wrap .u8 (a0 - (1:Int))).toNat))&&(decide ((IntKind.wrap .u8 (a0 - (1:Int))).toNat < ay.2.length)))&&(true))))) <|
  some ((a0,aO.2.1.1),(0:Int),a3,a4,(ay.2.set (IntKind.wrap .u8 (a0 - (1:Int))).toNat (true,((ay.2.getD (IntKind.wrap .u8 (a0 - (1:Int))).toNat (false,[])).2++[(aj,(aO.2.1.2.1,(bs.1,bH.1)))]))),(bG.set (IntKind.wrap .u8 (a0 - (1:Int))).toNat aO.1)))) (Option.bind (tX N aO.2.1.2.2) fun bH=>
  an (((decide ((IntKind.wrap .u8 (a0 - (1:Int))).toNat < ay.2.length))&&(ay.2.getD (IntKind.wrap .u8 (a0 - (1:Int))).toNat (false,[])).1)) <|
  an ((aT (IntKind.wrap .u8 (a0 - (1:Int))) ay.2.length)&&(true)) <|
  eu (an ((decide ((IntKind.wrap .u8 (a0 - (1:Int))).toNat=(IntKind.wrap .u8 (a0 - (1:Int))).toNat))&&((cM 56 ((ay.2.getD (IntKind.wrap .u8 (a0 - (1:Int))).toNat (false,[])).2.length+[(aj,(aO.2.1.2.1,(bs.1,bH.1)))].length))&&((aT (IntKind.wrap .u8 (a0 - (1:Int))) ay.2.length)&&(((decide ((IntKind.wrap .u8 (a0 - (1:Int))).toNat=(IntKind.wrap .u8 (a0 - (1:Int))).toNat))&&(decide ((IntKind.wrap .u8 (a0 - (1:Int))).toNat < ay.2.length)))&&(true))))) <|
  some ((a0,aO.2.1.1),(0:Int),a3,a4,(ay.2.set (IntKind.wrap .u8 (a0 - (1:Int))).toNat (true,((ay.2.getD (IntKind.wrap .u8 (a0 - (1:Int))).toNat (false,[])).2++[(aj,(aO.2.1.2.1,(bs.1,bH.1)))]))),(bG.set (IntKind.wrap .u8 (a0 - (1:Int))).toNat aO.1))) (an ((decide ((IntKind.wrap .u8 (a0 - (1:Int))).toNat=(IntKind.wrap .u8 (a0 - (1:Int))).toNat))&&((cM 56 ((ay.2.getD (IntKind.wrap .u8 (a0 - (1:Int))).toNat (false,[])).2.length+[(aj,(aO.2.1.2.1,(bs.1,bH.1)))].length))&&((aT (IntKind.wrap .u8 (a0 - (1:Int))) ay.2.length)&&(((decide ((IntKind.wrap .u8 (a0 - (1:Int))).toNat=(IntKind.wrap .u8 (a0 - (1:Int))).toNat))&&(decide ((IntKind.wrap .u8 (a0 - (1:Int))).toNat < ay.2.length)))&&(true))))) <|
  some ((a0,aO.2.1.1),(0:Int),a3,a4,(ay.2.set (IntKind.wrap .u8 (a0 - (1:Int))).toNat (true,((ay.2.getD (IntKind.wrap .u8 (a0 - (1:Int))).toNat (false,[])).2++[(aj,(aO.2.1.2.1,(bs.1,bH.1)))]))),(bG.set (IntKind.wrap .u8 (a0 - (1:Int))).toNat aO.1))))) (Option.bind (wb N a2) fun bs=>
  Option.bind (tX N aO.2.1.2.2) fun bH=>
  an (((decide ((IntKind.wrap .u8 (a0 - (1:Int))).toNat < ay.2.length))&&(ay.2.getD (IntKind.wrap .u8 (a0 - (1:Int))).toNat (false,[])).1)) <|
  an ((aT (IntKind.wrap .u8 (a0 - (1:Int))) ay.2.length)&&(true)) <|
  eu (an ((decide ((IntKind.wrap .u8 (a0 - (1:Int))).toNat=(IntKind.wrap .u8 (a0 - (1:Int))).toNat))&&((cM 56 ((ay.2.getD (IntKind.wrap .u8 (a0 - (1:Int))).toNat (false,[])).2.length+[(aj,(aO.2.1.2.1,(bs.1,bH.1)))].length))&&((aT (IntKind.wrap .u8 (a0 - (1:Int))) ay.2.length)&&(((decide ((IntKind.wrap .u8 (a0 - (1:Int))).toNat=(IntKind.wrap .u8 (a0 - (1:Int))).toNat))&&(decide ((IntKind.wrap .u8 (a0 - (1:Int))).toNat < ay.2.length)))&&(true))))) <|
  some ((a0,aO.2.1.1),(0:Int),a3,a4,(ay.2.set (IntKind.wrap .u8 (a0 - (1:Int))).toNat (true,((ay.2.getD (IntKind.wrap .u8 (a0 - (1:Int))).toNat (false,[])).2++[(aj,(aO.2.1.2.1,(bs.1,bH.1)))]))),(bG.set (IntKind.wrap .u8 (a0 - (1:Int))).toNat aO.1))) (an ((decide ((IntKind.wrap .u8 (a0 - (1:Int))).toNat=(IntKind.wrap .u8 (a0 - (1:Int))).toNat))&&((cM 56 ((ay.2.getD (IntKind.wrap .u8 (a0 - (1:Int))).toNat (false,[])).2.length+[(aj,(aO.2.1.2.1,(bs.1,bH.1)))].length))&&((aT (IntKind.wrap .u8 (a0 - (1:Int))) ay.2.length)&&(((decide ((IntKind.wrap .u8 (a0 - (1:Int))).toNat=(IntKind.wrap .u8 (a0 - (1:Int))).toNat))&&(decide ((IntKind.wrap .u8 (a0 - (1:Int))).toNat < ay.2.length)))&&(true))))) <|
  some ((a0,aO.2.1.1),(0:Int),a3,a4,(ay.2.set (IntKind.wrap .u8 (a0 - (1:Int))).toNat (true,((ay.2.getD (IntKind.wrap .u8 (a0 - (1:Int))).toNat (false,[])).2++[(aj,(aO.2.1.2.1,(bs.1,bH.1)))]))),(bG.set (IntKind.wrap .u8 (a0 - (1:Int))).toNat aO.1))))))
theorem ac0:Cg=ue:=by
 unfold Cg ue
 first | rfl | (simp only[ha]; done) | (funext; simp (disch:=(simp only[hg,cn,hf]; first | done | first | rfl | (refine cV (fun h=>?_) (fun h=>?_); (focus (rw[h]; first | done | (simp only[cn]; first | done | first | rfl | (refine cV (fun h=>?_) (fun h=>?_); (focus (rw[h]; first | done | (simp only[cn]; first | done | first | rfl | (refine cV (fun h=>?_) (fun h=>?_); (focus (rw[h]; first | done | (simp only[cn]; first | done | rfl))); (focus (rw[h]; first | done | simp only[cT,cU])))))); (focus (rw[h]; first | done | simp only[cT,cU])))))); (focus (rw[h]; first | done | simp only[cT,cU]))))) only[hh])
noncomputable def ac1 (N:Nat):bu bE:=lP N bw (by kernel_rfl) [.c (.raw (.ptr 1000000 0)),.c (.int .u8),.c (.int .u8),.c (.a1 aL)] [(1000000,.cells 132 [.a1 nB,.raw (.ah 2000000),.raw (.ah 2000001),.raw (.ah 2000002),.int .u8]),(2000002,.b0 118 113 cl),(2000001,.row 73 bM)] ⟨.cW [.cZ aL,.c (.int .i64)],[(1000000,.cells 132 [.a1 nB,.raw (.ah 2000000),.raw (.ah 2000001),.raw (.ah 2000002),.int .u8]),(2000002,.b0 118 113 cl),(2000001,.row 73 bM)],[]⟩ [Pq N,Pm N,acO N,acP N] [] (.s .d (.s (.s (.r [.n 4,.c [(2000000,2000002)]]) .d) (.s (.r [.n 18,.w (.b8 10 bM),.w (.b8 11 tU)]) (.s .d (.s (.o [4,5,6] [.t 0 0,.t 1 0,.t 2 0,.t 3 3,.t 4 0,.t 5 0,.t 6 1,.t 7 0,.s 8] []) (.s (.gy [] [] (.b [.t 0 0,.t 1 0,.t 2 1,.t 3 0,.t 5 0,.t 6 1] 4 9 [] [] none none (.b [] 7 9 [] [] none none (.f [.t 8 0,.s 9,.s 10]) (.f [.c 7 [],.t 8 0,.s 10])) (.f [.c 4 [],.c 7 [],.t 8 0,.s 10])) [(.b8 13 cl)] false) (.s (.gy [.t (.Bd 2000002 1 68 .u8 1)] [4,5,6,7,8,9,10,11,12,13,14,15,16,1000018] (.b [.t 0 0,.t 1 0,.t 2 0,.t 3 3,.t 4 0,.t 5 0,.t 6 0,.t 7 0,.t 8 0,.t 9 3,.t 10 0,.t 11 0,.t 12 0,.t 14 1] 13 15 [] [] none none (.f [.k 15,.k 16,.t 17 0,.u 18 .st]) (.f [.f,.k 13,.k 16,.t 17 0,.u 18 .st])) [] false) (.s (.r [.n 6,.w (.t (.close 2000002 68))]) .d)))))))) [.cell 8 102,.tmp 9] 59 (aL.zero,0,[],0,[],[]) (fun d=>Cg N d.1 d.2.1 d.2.2.1 d.2.2.2.1 d.2.2.2.2.1 d.2.2.2.2.2.1 d.2.2.2.2.2.2.1) (fun d=>ue N d.1 d.2.1 d.2.2.1 d.2.2.2.1 d.2.2.2.2.1 d.2.2.2.2.2.1 d.2.2.2.2.2.2.1) (fun d=>(by rw[ac0]:Cg N d.1 d.2.1 d.2.2.1 d.2.2.2.1 d.2.2.2.2.1 d.2.2.2.2.2.1 d.2.2.2.2.2.2.1=ue N d.1 d.2.1 d.2.2.1 d.2.2.2.1 d.2.2.2.2.1 d.2.2.2.2.2.1 d.2.2.2.2.2.2.1)) Tryz.func59 rfl rfl Tryz.ntmps59 rfl rfl rfl (fun d=>by kernel_rfl)
end
section
open Go.RowKit
def Ch(N:Nat) (a0:(List bX)):Option ((List bX)×Nat):=
  an (((decide (0<=(a0.length:Int)))&&(decide ((a0.length:Int)<=(a0.length:Int)))&&(decide ((a0.length:Int)<=(a0.length:Int))))&&(true)) <|
  some ((a0.take (a0.length:Int).toNat),(a0.length:Int).toNat)
noncomputable def ac2 (N:Nat):bu bE:=b6 N bw (by kernel_rfl) [.c (.a1 cl)] [] ⟨.a (.c (.iJ cl)),[],[]⟩ [] [] (.d) [.tmp 2] 116 ([],0) (fun d=>Ch N d.1) Tryz.func116 rfl rfl Tryz.ntmps116 rfl rfl rfl (fun d=>by kernel_rfl)
def HX(N:Nat) (bG:List (Bool×List bX)):Nat->(Int×(List cR)×(List aq)×(List aq)×(List kt)×Int×(List (List bX)))->Option ((List cR)×(List aq)×(List aq)×(List kt)×Int×(List (List bX))):=b5 fun d2 dX=>
  cond (decide (d2.1 < (bG.length:Int))) (an ((aT d2.1 d2.2.2.2.2.2.2.length)&&((decide (d2.1.toNat < d2.2.2.2.2.2.2.length))&&(true))) <|
  Option.bind (Ch N (d2.2.2.2.2.2.2.getD d2.1.toNat [])) fun bs=>
  an ((aT d2.1 d2.2.2.2.2.2.2.length)&&(((decide (d2.1.toNat < d2.2.2.2.2.2.2.length))&&(true))&&(true))) <|
  an ((aY (d2.1+(1:Int)))&&(true)) <|
  dX ((d2.1+(1:Int)),d2.2.1,d2.2.2.1,d2.2.2.2.1,d2.2.2.2.2.1,d2.2.2.2.2.2.1,(d2.2.2.2.2.2.2.set d2.1.toNat bs.1))) (some (d2.2.1,d2.2.2.1,d2.2.2.2.1,d2.2.2.2.2.1,d2.2.2.2.2.2.1,d2.2.2.2.2.2.2))
def Ci(N:Nat) (a0:(List cR)) (aj:(List aq)) (a2:(List aq)) (a3:(List dI)) (a4:(List kt)) (a5:Int) (bG:List (Bool×List bX)) (eh:List cd):Option (y1):=
  Option.bind (HX N bG N ((0:Int),a0,aj,a2,a4,a5,(bG.map (·.2)))) fun bD=>
  Option.bind (y4 N a3) fun bH=>
  Option.bind (ua N bD.2.2.2.2.1) fun b1=>
  some (a3,(eh,((bD.2.2.2.2.2,(bD.1,(bH,bD.2.2.1))),b1)))
noncomputable def ac3 (N:Nat):bu bE:=b6 N bw (by kernel_rfl) [.c (.raw (.ptr 1000000 0)),.agg [.raw (.ah 2000002),.a1 cX,.a1 aL,.a1 aL],.c (.a1 eC)] [(1000000,.cells 132 [.a1 nB,.raw (.ah 2000000),.raw (.ah 2000001),.raw (.ah 2000002),.int .u8]),(2000002,.b0 118 113 cl),(2000001,.row 73 bM)] ⟨.a (.cZ y0),[],[]⟩ [ac2 N,Pb N,Pn N] [] (.s .d (.s (.s (.r [.n 6,.w (.t (.eS 2000002))]) (.b (.eo 0 ⟨[(0,.a (.c (.raw (.ptr 1000000 0)))),(4,.a (.c (.raw (.ptr 4 0)))),(6,.a (.c (.raw (.ptr 6 0)))),(12,.a (.c (.raw (.ah 2000002)))),(14,.a (.c (.int .i64)))],[(4,.cells 36 [.raw (.ah 2000002),.a1 cX,.a1 aL,.a1 aL]),(1000000,.cells 132 [.a1 nB,.raw (.ah 2000000),.raw (.ah 2000001),.raw (.ah 2000002),.int .u8]),(2000002,.row 118 (.ah cl))],[2,13],[6,2000001]⟩ ⟨[(0,.a (.c (.raw (.ptr 1000000 0)))),(4,.a (.c (.raw (.ptr 4 0)))),(6,.a (.c (.raw (.ptr 6 0))))],[(4,.cells 36 [.raw (.ah 2000002),.a1 cX,.a1 aL,.a1 aL]),(1000000,.cells 132 [.a1 nB,.raw (.ah 2000000),.raw (.ah 2000001),.raw (.ah 2000002),.int .u8]),(2000002,.row 118 (.ah cl))],[2],[6,2000001]⟩ (.s .d (.s .d (.s (.b (.s .d (.o [4,5,6,1000008] [.t 0 0,.t 1 0,.t 2 0,.t 3 3,.t 4 0,.t 5 0,.c 6 [],.t 7 0,.s 8] []))) .d)))))) (.s .d (.s .d (.s (.o [5,6,7,8,9,10,1000012] [.t 0 0,.t 1 0,.t 2 0,.t 3 0,.t 4 3,.t 5 3,.t 6 0,.t 7 0,.t 8 0,.t 9 3,.c 10 [],.t 11 0,.s 12] []) (.t [.c8 2000001,.c8 2000002])))))) [.cell 6 67] 61 y0.zero (fun d=>Ci N d.1 d.2.1 d.2.2.1 d.2.2.2.1 d.2.2.2.2.1 d.2.2.2.2.2.1 d.2.2.2.2.2.2.1 d.2.2.2.2.2.2.2.1) Tryz.func61 rfl rfl Tryz.ntmps61 rfl rfl rfl (fun d=>by kernel_rfl)
def Pr(N:Nat) :Option ((List (Bool×List bX))):=
  some (List.replicate (6:Int).toNat ((true,[]):Bool×List bX))
noncomputable def ac4 (N:Nat):bu bE:=b6 N bw (by kernel_rfl) [] [] ⟨.a (.c (.raw (.ah 1))),[(1,.b0 118 113 cl)],[]⟩ [] [] (.s .d (.s (.r [.t .mk]) .d)) [.tmp 0] 110 [] (fun d=>Pr N ) Tryz.func110 rfl rfl Tryz.ntmps110 rfl rfl rfl (fun d=>by kernel_rfl)
def wg(N:Nat) :Option ((List cR)×(List aq)×(List aq)×(List (Bool×List bX))):=
  Option.bind (Pr N) fun ay=>
  some (([]:List cR),([]:List aq),([]:List aq),ay)
noncomputable def Ps (N:Nat):bu bE:=b6 N bw (by kernel_rfl) [] [] ⟨.a (.agg [.raw (.ah 1),.a1 cX,.a1 aL,.a1 aL]),[(1,.b0 118 113 cl)],[]⟩ [ac4 N] [] (.s .d (.s (.r [.c [(1,1)]]) .d)) [.cell 0 36] 57 ([],[],[],[]) (fun d=>wg N ) Tryz.func57 rfl rfl Tryz.ntmps57 rfl rfl rfl (fun d=>by kernel_rfl)
def HY(N:Nat) (a0:Int) (aj:Int):Nat->(Int×(List cR)×(List aq)×(List aq)×(List (Bool×List dI))×(List (Bool×List bX))×(List cd)×(List kt)×Int×(List dI))->Option (((List cR)×(List aq)×(List aq)×(List (Bool×List dI))×(List (Bool×List bX))×(List cd)×(List kt)×Int×(List dI))⊕(y1×Int)):=b5 fun d3 ga=>
  cond (decide (d3.1 < ((List.replicate aj.toNat (eC.zero:dI)).length:Int))) (Option.bind (ue N a0 (0:Int) ([]:List aq) d3.2.2.2.2.2.2.2.1 d3.2.2.2.2.2.2.2.2.1 d3.2.2.2.2.2.1 d3.2.2.2.2.2.2.1) fun bH=>
  cond (!(decide (bH.2.1=(0:Int)))) (some (.inr ((([]:List dI),(([]:List cd),((([]:List (List bX)),(([]:List cR),(([]:List aq),([]:List aq)))),(0:Int)))),bH.2.1))) (an ((aT d3.1 d3.2.2.2.2.2.2.2.2.2.length)&&(((decide (d3.1.toNat < d3.2.2.2.2.2.2.2.2.2.length))&&(true))&&(true))) <|
  an ((aY (d3.1+(1:Int)))&&(true)) <|
  ga ((d3.1+(1:Int)),d3.2.1,d3.2.2.1,d3.2.2.2.1,d3.2.2.2.2.1,bH.2.2.2.2.1,bH.2.2.2.2.2,bH.2.2.1,bH.2.2.2.1,(d3.2.2.2.2.2.2.2.2.2.set d3.1.toNat ((0:Int),[bH.1]))))) (some (.inl (d3.2.1,d3.2.2.1,d3.2.2.2.1,d3.2.2.2.2.1,d3.2.2.2.2.2.1,d3.2.2.2.2.2.2.1,d3.2.2.2.2.2.2.2.1,d3.2.2.2.2.2.2.2.2.1,d3.2.2.2.2.2.2.2.2.2)))
def Cj(N:Nat) (a0:Int) (aj:Int):Option (y1×Int):=
  cond (cond (cond (cond (decide (a0 < (1:Int))) true (decide ((6:Int) < a0))) true (decide (aj < (1:Int)))) true (decide ((16:Int) < aj))) (some ((([]:List dI),(([]:List cd),((([]:List (List bX)),(([]:List cR),(([]:List aq),([]:List aq)))),(0:Int)))),(1:Int))) (Option.bind (wg N) fun ay=>
  Option.bind (Cf N a0 ([]:List kt) (1:Int) (([]:List (List dI)).map fun x=>(false,x)) (List.replicate (6:Int).toNat (bM.zero:cd))) fun aO=>
  cond (!(decide (aO.1=(0:Int)))) (some ((([]:List dI),(([]:List cd),((([]:List (List bX)),(([]:List cR),(([]:List aq),([]:List aq)))),(0:Int)))),aO.1)) (an (((decide (0<=aj))&&(decide (aj<=aj))&&(e1 32 aj))&&(true)) <|
  Option.bind (HY N a0 aj N ((0:Int),ay.1,ay.2.1,ay.2.2.1,aO.2.2.2.1,ay.2.2.2,aO.2.2.2.2,aO.2.1,aO.2.2.1,(List.replicate aj.toNat (eC.zero:dI)))) fun(b9:((List cR)×(List aq)×(List aq)×(List (Bool×List dI))×(List (Bool×List bX))×(List cd)×(List kt)×Int×(List dI))⊕(y1×Int))=>
  sm b9 (fun b9=>
  Option.bind (za N a0 (179:Int) ([]:List qr) b9.2.2.2.2.2.2.1 b9.2.2.2.2.2.2.2.1 b9.2.2.2.2.2.1) fun b1=>
  cond (!(decide (b1.1=(0:Int)))) (some ((([]:List dI),(([]:List cd),((([]:List (List bX)),(([]:List cR),(([]:List aq),([]:List aq)))),(0:Int)))),b1.1)) (Option.bind (Ci N b9.1 b9.2.1 b9.2.2.1 b9.2.2.2.2.2.2.2.2 b1.2.1 b1.2.2.1 b9.2.2.2.2.1 b1.2.2.2) fun cp=>
  some (cp,(0:Int)))) (fun q=>some q)))
noncomputable def ac5 (N:Nat):bu bE:=b6 N bw (by kernel_rfl) [.c (.int .u8),.c (.int .i64)] [] ⟨.cW [.cZ y0,.c (.int .i64)],[],[]⟩ [Ps N,acZ N,ac1 N,Po N,ac3 N] [] (.s .d (.s .d (.s (.r [.c [(1,29)]]) (.s (.o [0,4] [.t 1 0,.t 2 3,.k 0,.t 3 0,.k 4,.t 5 0] []) (.s (.s (.r [.n 2,.w (.nV 34 0 14 335 nB),.w (.c8 14),.w (.nV 34 1 15 65 (.ah eC)),.w (.t (.FM 15 137)),.c [(1000000,34),(2000002,29),(2000000,15),(2000001,30)]]) .d) (.s .d (.s (.s .d (.b (.fq 0 ⟨[(4,.a (.c (.raw (.ptr 4 0)))),(6,.a (.c (.raw (.ptr 6 0)))),(7,.a (.c (.raw (.ptr 34 0)))),(9,.a (.c (.raw (.ah 43)))),(46,.a (.c (.int .i64)))],[(6,.cells 36 [.raw (.ah 29),.a1 cX,.a1 aL,.a1 aL]),(15,.b0 65 137 eC),(29,.b0 118 113 cl),(30,.row 73 bM),(34,.cells 132 [.a1 nB,.raw (.ah 15),.raw (.ah 30),.raw (.ah 29),.int .u8]),(43,.row 137 eC)],[0,45],[4]⟩ ⟨[(4,.a (.c (.raw (.ptr 4 0)))),(6,.a (.c (.raw (.ptr 6 0)))),(7,.a (.c (.raw (.ptr 34 0)))),(9,.a (.c (.raw (.ah 43))))],[(6,.cells 36 [.raw (.ah 29),.a1 cX,.a1 aL,.a1 aL]),(15,.b0 65 137 eC),(29,.b0 118 113 cl),(30,.row 73 bM),(34,.cells 132 [.a1 nB,.raw (.ah 15),.raw (.ah 30),.raw (.ah 29),.int .u8]),(43,.row 137 eC)],[0],[4]⟩ (.s .d (.s .d (.s (.b (.s .d (.s (.r [.n 2,.c [(1000000,34),(2000000,15),(2000002,29),(2000001,30)],.n 6,.w (.b8 11 aL)]) (.s .d (.r [.n 6,.w (.c8 62)]))))) .d)))))) (.s (.s (.r [.n 2,.c [(1000000,34),(2000000,15),(2000002,29),(2000001,30)]]) .d) (.s (.r [.n 3,.w (.c8 43),.c [(1000000,34),(2000000,15),(2000002,29),(2000001,30)]]) .d))))))))) [.cell 4 67,.tmp 5] 20 (y0.zero,0) (fun d=>Cj N d.1 d.2.1) Tryz.func20 rfl rfl Tryz.ntmps20 rfl rfl rfl (fun d=>by kernel_rfl)
end
section
open Go.RowKit
def Pt(N:Nat) (a0:List dI):Nat->(Int×(List (List aq)))->Option ((List (List aq))):=b5 fun d1 dh=>
  cond (decide (d1.1 < (a0.length:Int))) (an ((aT d1.1 a0.length)&&((decide (d1.1.toNat < a0.length))&&(true))) <|
  an ((aT d1.1 d1.2.length)&&(((decide (d1.1.toNat < d1.2.length))&&(true))&&(true))) <|
  an ((aY (d1.1+(1:Int)))&&(true)) <|
  dh ((d1.1+(1:Int)),(d1.2.set d1.1.toNat (a0.getD d1.1.toNat eC.zero).2))) (some d1.2)
def HZ(N:Nat) (a0:List dI):Option ((List aq)):=
  an (((decide (0<=(a0.length:Int)))&&(decide ((a0.length:Int)<=(a0.length:Int)))&&(e1 24 (a0.length:Int)))&&(true)) <|
  Option.bind (Pt N a0 N ((0:Int),(List.replicate (a0.length:Int).toNat ([]:(List aq))))) fun aU=>
  Option.bind (y3 N aU) fun aO=>
  some aO
def H0(N:Nat) (a0:Int) (aj:List dI) (gA:Int):Nat->(Int×(List qr))->Option ((List qr)):=b5 fun d3 ga=>
  cond (decide (d3.1 < ((aj.getD gA.toNat eC.zero).2.length:Int))) (an ((aT d3.1 (aj.getD gA.toNat eC.zero).2.length)&&(true)) <|
  an ((cM 24 (d3.2.length+[(((aj.getD gA.toNat eC.zero).2.getD d3.1.toNat aL.zero),((decide ((aj.getD gA.toNat eC.zero).1=(1:Int))),a0))].length))&&(true)) <|
  an ((aY (d3.1+(1:Int)))&&(true)) <|
  ga ((d3.1+(1:Int)),(d3.2++[(((aj.getD gA.toNat eC.zero).2.getD d3.1.toNat aL.zero),((decide ((aj.getD gA.toNat eC.zero).1=(1:Int))),a0))]))) (some d3.2)
def H3(N:Nat) (a0:Int) (aj:List dI):Nat->(Int×(List qr))->Option ((List qr)):=b5 fun d2 dX=>
  cond (decide (d2.1 < (aj.length:Int))) (an ((aT d2.1 aj.length)&&((decide (d2.1.toNat < aj.length))&&(true))) <|
  Option.bind (H0 N a0 aj d2.1 N ((0:Int),d2.2)) fun b9=>
  an ((aY (d2.1+(1:Int)))&&(true)) <|
  dX ((d2.1+(1:Int)),b9)) (some d2.2)
def Pu(N:Nat) (a0:Int) (aj:List dI):Option ((List qr)×(List dI)):=
  Option.bind (HZ N aj) fun ay=>
  an (((decide ((0:Int)<=(ay.length:Int)))&&(e1 24 (ay.length:Int)))&&(true)) <|
  Option.bind (H3 N a0 aj N ((0:Int),([]:List qr))) fun bD=>
  cond (!(decide (a0=(1:Int)))) (Option.bind (wc N bD) fun bH=>
  some (bH,aj)) (some (bD,aj))
end
section
open Go.RowKit
end
section
open Go.RowKit
end
section
open Go.RowKit
end
section
open Go.RowKit
end
section
open Go.RowKit
end
section
open Go.RowKit
end
section
open Go.RowKit
end
section
open Go.RowKit
end
section
open Go.RowKit Go.Shelf
section
set_option maxHeartbeats 1000000
set_option maxRecDepth 100000
end
end
section
open Go.RowKit
end
section
open Go.RowKit
def H4(N:Nat) (a0:Int):Option (Bool):=
  some (!(decide (a0=a0)))
noncomputable def ac6 (N:Nat):bu bE:=b6 N bw (by kernel_rfl) [.c (.int .u8)] [] ⟨.a (.c .bool),[],[]⟩ [] [] (.d) [.tmp 2] 174 false (fun d=>H4 N d.1) Tryz.func174 rfl rfl Tryz.ntmps174 rfl rfl rfl (fun d=>by kernel_rfl)
def Pv(N:Nat) (a0:Int) (aj:Int):Option (Int):=
  Option.bind (H4 N a0) fun ay=>
  Option.bind (H4 N aj) fun aO=>
  cond ay (cond aO (some (0:Int)) (some (-1:Int))) (cond aO (some (1:Int)) (cond (decide (a0 < aj)) (some (-1:Int)) (cond (decide (aj < a0)) (some (1:Int)) (some (0:Int)))))
noncomputable def ac7 (N:Nat):bu bE:=b6 N bw (by kernel_rfl) [.c (.int .u8),.c (.int .u8)] [] ⟨.a (.c (.int .i64)),[],[]⟩ [ac6 N] [] (.d) [.tmp 4] 141 0 (fun d=>Pv N d.1 d.2.1) Tryz.func141 rfl rfl Tryz.ntmps141 rfl rfl rfl (fun d=>by kernel_rfl)
def Ck(N:Nat) (a0:Int):Option (Bool):=
  some (!(decide (a0=a0)))
noncomputable def ac8 (N:Nat):bu bE:=b6 N bw (by kernel_rfl) [.c (.int .i64)] [] ⟨.a (.c .bool),[],[]⟩ [] [] (.d) [.tmp 2] 175 false (fun d=>Ck N d.1) Tryz.func175 rfl rfl Tryz.ntmps175 rfl rfl rfl (fun d=>by kernel_rfl)
def Cl(N:Nat) (a0:Int) (aj:Int):Option (Int):=
  Option.bind (Ck N a0) fun ay=>
  Option.bind (Ck N aj) fun aO=>
  cond ay (cond aO (some (0:Int)) (some (-1:Int))) (cond aO (some (1:Int)) (cond (decide (a0 < aj)) (some (-1:Int)) (cond (decide (aj < a0)) (some (1:Int)) (some (0:Int)))))
noncomputable def Pw (N:Nat):bu bE:=b6 N bw (by kernel_rfl) [.c (.int .i64),.c (.int .i64)] [] ⟨.a (.c (.int .i64)),[],[]⟩ [ac8 N] [] (.d) [.tmp 4] 142 0 (fun d=>Cl N d.1 d.2.1) Tryz.func142 rfl rfl Tryz.ntmps142 rfl rfl rfl (fun d=>by kernel_rfl)
def ac9(N:Nat) (a0:(List Int)):Nat->Int->Option ((Unit)⊕(Int)):=b5 fun d1 dh=>
  cond (decide (d1 < (a0.length:Int))) (an ((aT d1 a0.length)&&(true)) <|
  cond (!(decide ((a0.getD d1.toNat 0)=(0:Int)))) (some (.inr (a0.getD d1.toNat 0))) (an ((aY (d1+(1:Int)))&&(true)) <|
  dh (d1+(1:Int)))) (some (.inl ()))
def H5(N:Nat) (a0:(List Int)):Option (Int):=
  Option.bind (ac9 N a0 N (0:Int)) fun(aU:(Unit)⊕(Int))=>
  sm aU (fun aU=>
  some (0:Int)) (fun q=>some q)
noncomputable def Px (N:Nat):bu bE:=b6 N bw (by kernel_rfl) [.c (.a1 (.int .i64))] [] ⟨.a (.c (.int .i64)),[],[]⟩ [] [] (.s .d (.s .d (.s (.s .d (.b (.fq 0 ⟨[(8,.a (.c (.int .i64)))],[],[3,6,7],[]⟩ ⟨[],[],[3],[]⟩ .d))) .d))) [.tmp 2] 140 0 (fun d=>H5 N d.1) Tryz.func140 rfl rfl Tryz.ntmps140 rfl rfl rfl (fun d=>by kernel_rfl)
def r8(N:Nat) (a0:aq) (aj:aq):Option (Int):=
  Option.bind (Pv N a0.1 aj.1) fun ay=>
  Option.bind (Cl N a0.2 aj.2) fun aO=>
  Option.bind (H5 N [ay,aO]) fun bs=>
  some bs
noncomputable def zb (N:Nat):bu bE:=b6 N bw (by kernel_rfl) [.cZ aL,.cZ aL] [] ⟨.a (.c (.int .i64)),[],[]⟩ [ac7 N,Pw N,Px N] [] (.s (.r [.n 3,.w (.b8 2 aL),.w (.b8 3 aL)]) (.s (.o [] [.t 0 0,.t 1 1,.t 2 0,.t 3 1,.t 5 0,.t 6 1,.t 7 0,.t 8 1,.c 4 [],.c 9 [],.s 10,.z 15,.c 11 [],.t 12 0] []) .d)) [.tmp 4] 105 0 (fun d=>r8 N d.1 d.2.1) Tryz.func105 rfl rfl Tryz.ntmps105 rfl rfl rfl (fun d=>by kernel_rfl)
def Py(N:Nat) (a0:cR) (aj:cR):Option (Int):=
  Option.bind (r8 N a0.1 aj.1) fun ay=>
  Option.bind (r8 N a0.2.1 aj.2.1) fun aO=>
  Option.bind (H5 N [ay,aO]) fun bs=>
  some bs
noncomputable def ada (N:Nat):bu bE:=b6 N bw (by kernel_rfl) [.cZ cX,.cZ cX] [] ⟨.a (.c (.int .i64)),[],[]⟩ [zb N,Px N] [] (.s (.r [.n 3,.w (.b8 2 cX),.w (.b8 3 cX)]) (.s (.o [] [.t 0 0,.t 1 1,.t 2 0,.t 3 1,.t 5 0,.t 6 1,.t 7 0,.t 8 1,.c 4 [],.c 9 [],.s 10,.z 15,.c 11 [],.t 12 0] []) .d)) [.tmp 4] 151 0 (fun d=>Py N d.1 d.2.1) Tryz.func151 rfl rfl Tryz.ntmps151 rfl rfl rfl (fun d=>by kernel_rfl)
end
section
open Go.RowKit
end
section
open Go.RowKit
end
section
open Go.RowKit
end
section
open Go.RowKit
end
section
open Go.RowKit
end
end Go.Proofs.YtcheedjfedcbpaaGreatDoor
