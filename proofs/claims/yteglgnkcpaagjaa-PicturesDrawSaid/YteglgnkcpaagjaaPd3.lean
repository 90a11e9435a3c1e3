/- Part 3 of 4 of the proof. -/
import Derived.Test.YteglgnkcpaagjaaPd2
import Derived.RangeFuncNested
import Derived.Shelf.Strings.Builder1
set_option linter.unusedSimpArgs false
set_option linter.unusedVariables false
/- Operations, by computation. -/
namespace Go.Proofs.Yteglgnkcpaagjaa
open Go.RowKit
def impB (g c:Bool):Bool:=match c with
  | true=>true
  | false=>!g
theorem impB_ok {g c:Bool} (h:impB g c=true) (hg:g=true):c=true:=by
  cases c with
  | true=>rfl
  | false=>rw [hg] at h; cases h
abbrev Gd:=List (Nat×Nat×Bool)
def gvalOf (L:Sl) (s:Nat) (want:Bool):Option Bool:=match lk L s,want with
  | some (.a (.c (.val (.bool b)))),true=>some b
  | some (.a (.c (.val (.bool b)))),false=>some (!b)
  | some (.may g (.c (.val (.bool b)))),true=>some (g&&b)
  | some (.may g (.c (.val (.bool b)))),false=>some (g&&!b)
  | _,_=>none
def sameB:Bool→Bool→Bool
  | true,true=>true
  | false,false=>true
  | _,_=>false
theorem sameB_ok:∀ {a b:Bool},sameB a b=true→a=b
  | true,true,_=>rfl
  | false,false,_=>rfl
def inP (j:Nat) (w:Bool):List (Nat×Bool)→Bool
  | []=>false
  | p :: r=>match Nat.beq p.1 j,sameB p.2 w with
    | true,true=>true
    | _,_=>inP j w r
def lookG (s:Nat):Gd→Option (Nat×Bool)
  | []=>none
  | e :: G=>match Nat.beq e.1 s with
    | true=>some e.2
    | false=>lookG s G
def atD (dsts:List (Option Nat)) (j s:Nat):Bool:=match nth dsts j with
  | some (some q)=>Nat.beq q s
  | _=>false
def dropG (dsts:List (Option Nat)) (d:Nat):Gd→Gd
  | []=>[]
  | e :: G=>match Nat.beq e.1 d,atD dsts e.2.1 d with
    | false,false=>e :: dropG dsts d G
    | _,_=>dropG dsts d G
def anc (dsts:List (Option Nat)) (G:Gd):Nat→Nat→Bool→List (Nat×Bool)
  | 0,j,w=>[(j,w)]
  | k+1,j,w=>(j,w) :: match nth dsts j with
    | some (some s)=>match lookG s G with
      | some p=>anc dsts G k p.1 p.2
      | none=>[]
    | _=>[]
def viewL (ps:List (Nat×Bool)):Gd→Sl→Sl
  | [],L=>L
  | e :: G,L=>match inP e.2.1 e.2.2 ps,lk L e.1 with
    | true,some (.may _ x)=>(e.1,.a x) :: viewL ps G L
    | _,_=>viewL ps G L
def selP (dsts:List (Option Nat)) (s:Nat) (w:Bool) (ps:List (Nat×Bool)):Gd→List (Nat×Bool)
  | []=>ps
  | e :: G=>match atD dsts e.2.1 s,sameB e.2.2 w with
    | true,true=>(e.2.1,w) :: selP dsts s w ps G
    | _,_=>selP dsts s w ps G
def selC (G:Gd) (ps:List (Nat×Bool)) (L:Sl) (s:Nat):Option (Bool×Bool):=match lk L s with
  | some (.a (.c (.val (.bool b))))=>some (true,b)
  | some (.may g (.c (.val (.bool b))))=>match lookG s G with
    | some p=>match inP p.1 p.2 ps with
      | true=>some (true,b)
      | false=>some (g,b)
    | none=>some (g,b)
  | _=>none
def apureG (X:Cx) (dsts:List (Option Nat)) (ps:List (Nat×Bool)) (G:Gd) (st:ASt):Op→Option (Bool×SA)
  | .pick (.tmp s) u v=>match selC G ps st.L s with
    | some (gc,b)=>match ae X (viewL (selP dsts s true ps G) G st.L) u,ae X (viewL (selP dsts s false ps G) G st.L) v with
      | some (gu,x),some (gv,y)=>match pickS b x y with
        | some r=>some (gc&&(impB b gu&&impB (!b) gv),r)
        | none=>none
      | _,_=>none
    | none=>none
  | op=>match apure X ⟨viewL ps G st.L,st.H⟩ op with
    | some r=>some r
    | none=>xpure X ⟨viewL ps G st.L,st.H⟩ op
section
variable {X:Cx} {R:Nat→Prop} {W:World} {Bi:Bk} {n:Nat} {ks:List Nat} {env:Nat→Loc} {B:Nat→Prop} {w0:World} {H:List Ck} {st:ASt} {a:Act} {w:World} {dsts:List (Option Nat)} {G:Gd} {ps:List (Nat×Bool)}
def GInv (dsts:List (Option Nat)) (G:Gd) (L:Sl):Prop:=∀ e∈G,∃ s g x,nth dsts e.2.1=some (some s)∧gvalOf L s e.2.2=some g∧lk L e.1=some (.may g x)
def PT (dsts:List (Option Nat)) (L:Sl) (p:Nat×Bool):Prop:=∃ s,nth dsts p.1=some (some s)∧gvalOf L s p.2=some true
theorem inP_mem {j:Nat} {w:Bool}:∀ {ps:List (Nat×Bool)},inP j w ps=true→(j,w)∈ps
  | [],h=>by cases h
  | p :: r,h=>by
    unfold inP at h
    split at h
    · rename_i h1 h2
      rw [← Nat.eq_of_beq_eq_true h1,← sameB_ok h2];exact List.mem_cons_self
    · exact List.mem_cons_of_mem _ (inP_mem h)
theorem lookG_mem {s:Nat} {p:Nat×Bool}:∀ {G:Gd},lookG s G=some p→(s,p)∈G
  | [],h=>by cases h
  | e :: G,h=>by
    unfold lookG at h
    split at h
    · rename_i h1
      cases h;rw [← Nat.eq_of_beq_eq_true h1];exact List.mem_cons_self
    · exact List.mem_cons_of_mem _ (lookG_mem h)
theorem dropG_mem {d:Nat} {e:Nat×Nat×Bool}:∀ {G:Gd},e∈dropG dsts d G→e∈G∧e.1≠d∧atD dsts e.2.1 d=false
  | [],h=>by cases h
  | q :: G,h=>by
    unfold dropG at h
    split at h
    · rename_i h1 h2
      rcases List.mem_cons.1 h with rfl | h
      · exact ⟨List.mem_cons_self,Nat.ne_of_beq_eq_false h1,h2⟩
      · obtain ⟨h3,h4⟩:=dropG_mem h
        exact ⟨List.mem_cons_of_mem _ h3,h4⟩
    · obtain ⟨h3,h4⟩:=dropG_mem h
      exact ⟨List.mem_cons_of_mem _ h3,h4⟩
theorem gvalOf_cons {L:Sl} {d s:Nat} {sv:SV} {w:Bool} (h:s≠d):gvalOf ((d,sv) :: L) s w=gvalOf L s w:=by
  unfold gvalOf;rw [lk_cons,if_neg h]
theorem GInv.drop {L:Sl} (h:GInv dsts G L) (d:Nat) (sv:SV):GInv dsts (dropG dsts d G) ((d,sv) :: L):=fun e he=>by
  obtain ⟨h1,h2,h3⟩:=dropG_mem he;obtain ⟨s,g,x,h4,h5,h6⟩:=h e h1;have hs:s≠d:=fun e'=>by
    unfold atD at h3;rw [h4,e'] at h3
    simp at h3
  exact ⟨s,g,x,h4,by rw [gvalOf_cons hs]; exact h5,by rw [lk_cons,if_neg h2]; exact h6⟩
theorem GInv.nil {L:Sl}:GInv dsts [] L:=fun _ h=>by cases h
theorem gval_may {L:Sl} {s:Nat} {g w:Bool} {x:SA} (h3:lk L s=some (.may g x)) (h5:gvalOf L s w=some true):g=true:=by
  unfold gvalOf at h5
  split at h5
  · rename_i e; rw [h3] at e; cases e
  · rename_i e; rw [h3] at e; cases e
  · rename_i e
    rw [h3] at e;cases e;simp only [Option.some.injEq,Bool.and_eq_true] at h5;exact h5.1
  · rename_i e
    rw [h3] at e;cases e;simp only [Option.some.injEq,Bool.and_eq_true] at h5;exact h5.1
  · cases h5
theorem anc_true {L:Sl} (hG:GInv dsts G L):∀ {k j:Nat} {w:Bool},PT dsts L (j,w)→∀ p∈anc dsts G k j w,PT dsts L p
  | 0,j,w,h,p,hp=>by rw [List.mem_singleton.1 hp]; exact h
  | k+1,j,w,h,p,hp=>by
    unfold anc at hp
    rcases List.mem_cons.1 hp with rfl | hp
    · exact h
    · split at hp
      · rename_i s hs
        split at hp
        · rename_i q hq
          obtain ⟨s1,g,x,h1,h2,h3⟩:=hG _ (lookG_mem hq);refine anc_true hG ?_ p hp;obtain ⟨s2,h4,h5⟩:=h;rw [hs] at h4;cases h4;have hg:g=true:=by
            exact gval_may h3 h5
          exact ⟨s1,h1,by rw [h2,hg]⟩
        · cases hp
      · cases hp
theorem view_has {L:Sl} (hG:GInv dsts G L) (hp:∀ p∈ps,PT dsts L p) {tm:Array Value} (h:∀ s sv,lk L s=some sv→∃ v,tm[s]?=some v∧VR env B w0 sv v):∀ s sv,lk (viewL ps G L) s=some sv→∃ v,tm[s]?=some v∧VR env B w0 sv v:=by
  have key:∀ G',(∀ e∈G',e∈G)→∀ s sv,lk (viewL ps G' L) s=some sv→∃ v,tm[s]?=some v∧VR env B w0 sv v:=by
    intro G'
    induction G' with
    | nil=>exact fun _=>h
    | cons e G' ih=>
      intro hs s sv hl;have ih':=ih fun e he=>hs e (List.mem_cons_of_mem _ he)
      unfold viewL at hl
      split at hl
      · rename_i g x h1 h2
        rw [lk_cons] at hl
        split at hl
        · rename_i e1
          cases hl;obtain ⟨s1,g1,x1,h3,h4,h5⟩:=hG e (hs e List.mem_cons_self);obtain ⟨s2,h6,h7⟩:=hp _ (inP_mem h1);dsimp only at h6;rw [h3] at h6;cases h6;rw [h4] at h7;cases h7;rw [h2] at h5;cases h5;obtain ⟨v,h8,h9⟩:=h _ _ h2;rw [← e1] at h8;exact ⟨v,h8,h9.1 rfl⟩
        · exact ih' s sv hl
      · exact ih' s sv hl
  exact key G fun _ h=>h
theorem AI.view (hA:AI X R W Bi n ks env B w0 H st a w) (hG:GInv dsts G st.L) (hp:∀ p∈ps,PT dsts st.L p):AI X R W Bi n ks env B w0 H ⟨viewL ps G st.L,st.H⟩ a w:=
  ⟨hA.size,hA.defs,view_has hG hp hA.has,hA.heap,hA.sh,hA.sub,hA.new,hA.pin,hA.base,hA.glob⟩
theorem selP_true {L:Sl} {s:Nat} {wt:Bool} (hp:∀ p∈ps,PT dsts L p) (hv:gvalOf L s wt=some true):∀ (G:Gd),∀ p∈selP dsts s wt ps G,PT dsts L p
  | [],p,h=>hp p h
  | e :: G,p,h=>by
    unfold selP at h
    split at h
    · rename_i h1 _
      rcases List.mem_cons.1 h with rfl | h
      · unfold atD at h1
        split at h1
        · rename_i q hq
          rw [Nat.eq_of_beq_eq_true h1] at hq;exact ⟨s,hq,hv⟩
        · cases h1
      · exact selP_true hp hv G p h
    · exact selP_true hp hv G p h
theorem selC_ok {s:Nat} {gc b:Bool} (hA:AI X R W Bi n ks env B w0 H st a w) (hG:GInv dsts G st.L) (hp:∀ p∈ps,PT dsts st.L p) (h:selC G ps st.L s=some (gc,b)) (hc:gc=true):ev (full a) (.tmp s)=some (.bool b)∧gvalOf st.L s true=some b∧gvalOf st.L s false=some (!b):=by
  unfold selC at h
  split at h
  · rename_i b0 e
    cases h;obtain ⟨v,h1,h2⟩:=hA.has _ _ e;rw [show v=_ from h2] at h1;exact ⟨full_look h1,by unfold gvalOf; rw [e],by unfold gvalOf; rw [e]⟩
  · rename_i g b0 e
    have key:g=true→b0=b→ev (full a) (.tmp s)=some (.bool b)∧gvalOf st.L s true=some b∧gvalOf st.L s false=some (!b):=fun hg hb=>by
      subst hb;subst hg;obtain ⟨v,h1,h2⟩:=hA.has _ _ e;rw [show v=_ from h2.1 rfl] at h1;exact ⟨full_look h1,by unfold gvalOf; rw [e]; rfl,by unfold gvalOf; rw [e]; rfl⟩
    split at h
    · rename_i q hq
      split at h
      · rename_i hin
        cases h;refine key ?_ rfl;obtain ⟨s1,g1,x1,h3,h4,h5⟩:=hG _ (lookG_mem hq);obtain ⟨s2,h6,h7⟩:=hp _ (inP_mem hin);dsimp only at h6 h3 h4 h5 h7;rw [h3] at h6;cases h6;rw [h4] at h7;cases h7;rw [e] at h5;cases h5
        rfl
      · cases h; exact key hc rfl
    · cases h; exact key hc rfl
  · cases h
theorem pickS_ok {b:Bool} {x y r:SA} {vx vy:Value} (hp:pickS b x y=some r) (hx:b=true→SaR env B w0 x vx) (hy:b=false→SaR env B w0 y vy):SaR env B w0 r (if b then vx else vy):=by
  unfold pickS at hp
  split at hp
  · split at hp
    · rename_i hk
      have hk':=of_decide_eq_true hk;subst hk';cases hp;cases b
      · exact hy rfl
      · exact hx rfl
    · cases hp
  · cases hp
    cases b
    · exact hy rfl
    · exact hx rfl
  · cases hp
    cases b
    · exact hy rfl
    · exact hx rfl
  · cases hp
theorem apureG_all (hX:X.tt.ok X.P) (hA:AI X R W Bi n ks env B w0 H st a w) (hG:GInv dsts G st.L) (hp:∀ p∈ps,PT dsts st.L p) {o:Oper} {c:Bool} {sa:SA} (h:apureG X dsts ps G st o.op=some (c,sa)) (hc:c=true):∃ v,SaR env B w0 sa v∧∀ w',(isLoad o.op=true→SH (fun k=>R k∨B k) w0 (H++ks.map mkO) w')→(execOp a.eval o).run X.P w'=.ok (.value v) w':=by
  unfold apureG at h
  split at h
  · rename_i s u v hop
    split at h
    · rename_i gc b e1
      split at h
      · rename_i gu x gv y e2 e3
        split at h
        · rename_i r e4
          cases h;simp only [Bool.and_eq_true] at hc;obtain ⟨hgc,hb1,hb0⟩:=hc;obtain ⟨h1,h2,h3⟩:=selC_ok hA hG hp e1 hgc;cases b with
          | true=>
            have hA':=hA.view hG (selP_true hp h2 G);obtain ⟨vx,h4,h5⟩:=hA'.ev e2 (impB_ok hb1 rfl);exact ⟨vx,pickS_ok (vx:=vx) (vy:=vx) e4 (fun _=>h5) (fun h=>by cases h),fun w' _=>p_pick1 hA.stt hop h1 rfl h4 w'⟩
          | false=>
            have hA':=hA.view hG (selP_true hp h3 G);obtain ⟨vy,h4,h5⟩:=hA'.ev e3 (impB_ok hb0 rfl);exact ⟨vy,pickS_ok (vx:=vy) (vy:=vy) e4 (fun h=>by cases h) (fun _=>h5),fun w' _=>p_pick0 hA.stt hop h1 rfl h4 w'⟩
        · cases h
      · cases h
    · cases h
  · have hA':=hA.view hG hp
    split at h
    · rename_i e
      cases h;obtain ⟨v,h1,h2⟩:=apure_ok (st:=⟨viewL ps G st.L,st.H⟩) hX e hc hA';exact ⟨v,h1,h2⟩
    · obtain ⟨v,h1,h2⟩:=xpure_ok (st:=⟨viewL ps G st.L,st.H⟩) hX h hc hA'
      exact ⟨v,h1,h2⟩
theorem apureG_ok (hX:X.tt.ok X.P) (hA:AI X R W Bi n ks env B w0 H st a w) (hG:GInv dsts G st.L) (hp:∀ p∈ps,PT dsts st.L p) {o:Oper} {c:Bool} {sa:SA} (h:apureG X dsts ps G st o.op=some (c,sa)) (hc:c=true):∃ v,SaR env B w0 sa v∧(execOp a.eval o).run X.P w=.ok (.value v) w:=by
  obtain ⟨v,h1,h2⟩:=apureG_all hX hA hG hp h hc;exact ⟨v,h1,h2 w fun _=>hA.sh⟩
theorem wanted_gval {l:List Oper} {o:Oper} (hA:AI X R W Bi n ks env B w0 H st a w) {j s:Nat} {want g:Bool} (hgd:o.guard=some (j,want)) (hj:nth (dstsOf l) j=some (some s)) (hg:gvalOf st.L s want=some g):Region.wanted o (yielded l.toArray a.tmps)=g:=by
  obtain ⟨oj,hoj,hsj⟩:=nth_map hj;have hj':(l.toArray[j]?).bind (·.dst)=some s:=by simp [hoj,← hsj]
  unfold gvalOf at hg
  split at hg
  · rename_i b hlk
    cases hg;obtain ⟨v,h1,h2⟩:=hA.has _ _ hlk;rw [show v=_ from h2] at h1;rw [wanted_of hA.sym hgd hj' (full_look h1)];cases g <;> rfl
  · rename_i b hlk
    cases hg;obtain ⟨v,h1,h2⟩:=hA.has _ _ hlk;rw [show v=_ from h2] at h1;rw [wanted_of hA.sym hgd hj' (full_look h1)];cases b <;> rfl
  · rename_i g0 b hlk
    cases hg;obtain ⟨v,h1,h2,h3⟩:=hA.has _ _ hlk;cases g0 with
    | true=>
      rw [show v=_ from h2 rfl] at h1;rw [wanted_of hA.sym hgd hj' (full_look h1)];cases b <;> rfl
    | false=>
      rw [h3 rfl] at h1;rw [unwanted_of hA.sym hgd hj' (full_look h1)]
      rfl
  · rename_i g0 b hlk
    cases hg;obtain ⟨v,h1,h2,h3⟩:=hA.has _ _ hlk;cases g0 with
    | true=>
      rw [show v=_ from h2 rfl] at h1;rw [wanted_of hA.sym hgd hj' (full_look h1)];cases b <;> rfl
    | false=>
      rw [h3 rfl] at h1;rw [unwanted_of hA.sym hgd hj' (full_look h1)]
      rfl
  · cases hg
end
def dstL:Option Nat→List Nat
  | some d=>[d]
  | none=>[]
def touchOp (X:Cx) (L:Sl):Op→List Nat
  | .store _ u _=>match ae X L u with
    | some (_,.c (.ptr id _))=>[id]
    | some (_,.c (.elt id _ _ _))=>[id]
    | _=>[]
  | .call ⟨.builtin .append,⟨[u,_]⟩,_⟩=>match ae X L u with
    | some (_,.c (.sl id))=>[id]
    | _=>[]
  | _=>[]
theorem ks_new {n:Nat} {st st':ASt} {d:Nat} {t:TypeId} {g:GTy} {l:List g.D} {cap:Option Nat} (h:newRow n st d t g l cap=some st'):KS [d] st st':=by
  unfold newRow at h
  split at h
  · cases h
    exact ⟨Kp.cons (kl_sub _ _ _),Kp.cons (kh_del _ _ _)⟩
  · cases h
theorem ks_box {X:Cx} {n:Nat} {st st':ASt} {t:TypeId} {d:Nat} {cs:List SC} {c:Bool} (h:abox X n st t d cs=some (c,st')):KS [d] st st':=by
  unfold abox at h
  split at h
  · cases h
    exact ⟨Kp.cons (kl_sub _ _ _),Kp.cons (kh_del _ _ _)⟩
  · cases h
theorem ks_buildSlice {X:Cx} {n:Nat} {st st':ASt} {t:TypeId} {N d:Nat} {ps:List (Nat×Operand)} {c:Bool} (h:abuildSlice X n st t N ps d=some (c,st')):KS [d] st st':=by
  unfold abuildSlice at h
  split at h
  · split at h
    · split at h
      · split at h
        · split at h
          · rename_i e; cases h; exact ks_new e
          · cases h
        · cases h
      · cases h
    · cases h
  · cases h
theorem ks_makeSlice {X:Cx} {n:Nat} {st st':ASt} {t:TypeId} {d:Nat} {x y:SA} {c:Bool} (h:amakeSlice X n st t x y d=some (c,st')):KS [d] st st':=by
  unfold amakeSlice at h
  split at h
  · split at h
    · split at h
      · split at h
        · rename_i e; cases h; exact ks_new e
        · cases h
      · cases h
    · cases h
  · cases h
theorem ks_store {X:Cx} {st st':ASt} {t:TypeId} {x y:SA} {c:Bool} (h:astore X st t x y=some (c,st')):(∃ id o,x=.c (.ptr id o)∧KS [id] st st')∨∃ id sz i o,x=.c (.elt id sz i o)∧KS [id] st st':=by
  unfold astore at h
  split at h
  · split at h
    · split at h
      · split at h
        · cases h
          exact .inl ⟨_,_,rfl,Kp.refl _,kh_put (in1 _ _)⟩
        · cases h
      · cases h
    · split at h
      · split at h
        · split at h
          · split at h
            · cases h
              exact .inr ⟨_,_,_,_,rfl,Kp.refl _,kh_put (in1 _ _)⟩
            · cases h
          · cases h
        · cases h
      · cases h
    · cases h
  · cases h
theorem ks_append {X:Cx} {n:Nat} {st st':ASt} {t:TypeId} {x y:SA} {d:Nat} {c:Bool} (h:aappend X n st t x y d=some (c,st')):KS [d] st st'∨∃ id,x=.c (.sl id)∧KS [d,id] st st':=by
  unfold aappend at h
  split at h
  · split at h
    · split at h
      · split at h
        · split at h
          · cases h
            refine .inr ⟨_,rfl,Kp.cons (kl_sub _ _ _),(Kp.cons (V:=[]) (kh_del _ _ _)).more fun q hq=>?_⟩;exact (inN_ne hq).2
          · cases h
        · cases h
      · split at h
        · split at h
          · rename_i e; cases h; exact .inl (ks_new e)
          · cases h
        · cases h
      · split at h
        · split at h
          · rename_i e; cases h; exact .inl (ks_new e)
          · cases h
        · cases h
      · cases h
    · cases h
  · cases h
theorem aeff_ks {X:Cx} {n:Nat} {st st':ASt} {op:Op} {d:Option Nat} {c:Bool} (h:aeff X n st d op=some (c,st')):KS (dstL d++touchOp X st.L op) st st':=by
  unfold aeff at h
  split at h
  · split at h
    · exact ks_box h
    · cases h
  · split at h
    · split at h
      · rename_i e; cases h; exact ks_box e
      · cases h
    · cases h
  · split at h
    · rename_i e1 e2
      split at h
      · rename_i e
        cases h
        rcases ks_store e with ⟨id,o,rfl,hk⟩ | ⟨id,sz,i,o,rfl,hk⟩
        · simp only [touchOp,e1]; exact hk
        · simp only [touchOp,e1]; exact hk
      · cases h
    · cases h
  · split at h
    · exact ks_buildSlice h
    · cases h
  · split at h
    · split at h
      · rename_i e; cases h; exact ks_makeSlice e
      · cases h
    · cases h
  · split at h
    · rename_i hu hv
      split at h
      · rename_i e
        cases h
        rcases ks_append e with hk | ⟨id,rfl,hk⟩
        · exact hk.more fun q hq=>(inN_app.1 hq).1
        · simp only [touchOp,hu]; exact hk
      · cases h
    · cases h
  · cases h
def touchO (X:Cx) (L:Sl) (o:Oper):List Nat:=dstL o.dst++touchOp X L o.op
theorem astep_ks {X:Cx} {n:Nat} {dsts:List (Option Nat)} {st st':ASt} {o:Oper} {c:Bool} (hg:o.guard=none) (h:astep X n dsts st o=.ok c st'):KS (touchO X st.L o) st st':=by
  obtain ⟨L,H⟩:=st;simp only [astep,hg] at h;have one:∀ {d:Nat} {sv:SV},o.dst=some d→KS (touchO X L o) ⟨L,H⟩ ⟨(d,sv) :: L,H⟩:=fun {d sv} hd=>by
    refine KS.more (V:=[d]) ⟨Kp.cons (Kp.refl _),Kp.refl _⟩ fun q hq=>?_
    have:=(inN_app.1 hq).1
    rw [hd] at this;exact this
  split at h
  · split at h
    · rename_i d hd
      split at h
      · cases h; exact one hd
      · cases h
    · cases h
  · split at h
    · split at h
      · rename_i d hd
        split at h
        · cases h; exact one hd
        · cases h
      · cases h
    · split at h
      · rename_i e
        cases h;exact aeff_ks e
      · cases h
theorem kh_erase {id:Nat}:∀ H:Hp,KH [id] H (eraseH id H)
  | []=>Kp.refl []
  | (k,b) :: r=>fun q v hq hl=>by
    have hne:=(inN_ne hq).1;unfold eraseH at hl
    split at hl
    · rename_i e
      have hk:=Nat.eq_of_beq_eq_true e;exact ⟨v,by rw [lk_cons,if_neg (by rw [hk]; exact hne)]; exact hl,fun _=>rfl⟩
    · rw [lk_cons] at hl ⊢
      split at hl
      · rename_i e; rw [if_pos e]; exact ⟨_,rfl,fun _=>by cases hl; rfl⟩
      · rename_i e; rw [if_neg e]; exact kh_erase r q v hq hl
theorem kh_frame {js ks:List Nat} {V:List Nat}:∀ H:Hp,KH V H (frameH js ks H)
  | []=>Kp.refl []
  | (k,b) :: r=>fun q v hq hl=>by
    unfold frameH at hl
    split at hl
    · rename_i e
      obtain ⟨u,h1,h2⟩:=kh_frame r q v hq hl
      by_cases hne:q=k
      · subst hne
        exact (frame_none e hl).elim
      · exact ⟨u,by rw [lk_cons,if_neg hne]; exact h1,h2⟩
    · rw [lk_cons] at hl ⊢
      split at hl
      · rename_i e; cases hl; rw [if_pos e]; exact ⟨b,rfl,fun hf=>blk_kill_free hf⟩
      · rename_i e; rw [if_neg e]; exact kh_frame r q v hq hl
where frame_none {js ks:List Nat} {k:Nat} (hk:js.elem k=true) {v:Blk}:∀ {H:Hp},lk (frameH js ks H) k=some v→False
  | [],h=>by cases h
  | (j,b) :: r,h=>by
    unfold frameH at h
    split at h
    · exact frame_none hk h
    · rename_i e
      rw [lk_cons,if_neg (fun e'=>by subst e'; exact absurd hk (by simp_all))] at h;exact frame_none hk h
theorem seconds_mem {ps:Ps} {i j:Nat} (h:lk ps i=some j) {q:Nat} (hq:inN q (seconds ps)=false):q≠j:=by
  induction ps with
  | nil=>cases h
  | cons p r ih=>
    obtain ⟨a,b⟩:=p;rw [lk_cons] at h;have hq':inN q (b :: seconds r)=false:=hq
    split at h
    · cases h; exact (inN_ne hq').1
    · exact ih h (inN_ne hq').2
theorem kh_pass {ps qs:Ps}:∀ {is:List Nat} {H h H1:Hp},passG ps qs is H=some (h,H1)→KH (seconds ps) H H1
  | [],H,h,H1,hp=>by cases hp; exact Kp.refl _
  | i :: is,H,h,H1,hp=>by
    unfold passG at hp
    split at hp
    · rename_i j hj
      split at hp
      · split at hp
        · rename_i b h0 l0 hb hr
          cases hp;have h1:=kh_pass hr;refine ((kh_erase H).trans h1).more fun q hq=>inN_app.2 ⟨hq,inN_cons.2 ⟨seconds_mem hj hq,rfl⟩⟩
        · cases hp
      · cases hp
    · cases hp
theorem renH_keys {ps:Ps}:∀ {h h':Hp},renH ps h=some h'→∀ q,inN q (seconds ps)=false→inN q (h'.map (·.1))=false
  | [],h',e,q,hq=>by cases e; rfl
  | (i,b) :: r,h',e,q,hq=>by
    unfold renH at e
    split at e
    · rename_i j b2 r2 hj hb hr
      cases e;exact inN_cons.2 ⟨seconds_mem hj hq,renH_keys hr q hq⟩
    · cases e
theorem after_ks {X:Cx} {n:Nat} {e:CT X} {ps:Ps} {st st':ASt} {d:Nat} {args:List SA} {p:Pre X e} {r:e.ρ} (hp:prep X n e ps st.H args=some p) (h:after X e ps st d p r=some st'):KS (d :: seconds ps) st st':=by
  unfold after at h
  split at h
  · rename_i sv' h'' e1 e2
    have hk:=renH_keys e2
    split at h
    · cases h
      refine ⟨(Kp.cons (V:=[]) (Kp.refl _)).more fun q hq=>inN_cons.2 ⟨(inN_ne hq).1,rfl⟩,(Kp.append (V:=[]) (Kp.refl _) rfl).more fun q hq=>inN_app.2 ⟨hk q (inN_ne hq).2,rfl⟩⟩
    · cases h
      have h1:KH (seconds ps) st.H p.H1:=by
        unfold prep at hp
        split at hp
        · rename_i hpass
          split at hp
          · split at hp
            · cases hp; exact kh_pass hpass
            · cases hp
          · cases hp
        · cases hp
      refine ⟨(Kp.cons (V:=[]) (kl_kill _ _)).more fun q hq=>inN_cons.2 ⟨(inN_ne hq).1,rfl⟩,?_⟩;refine (Kp.append (h1.trans (kh_frame (V:=[]) _)) rfl).more fun q hq=>?_
      have h2:=(inN_ne hq).2;exact inN_app.2 ⟨hk q h2,inN_app.2 ⟨rfl,h2⟩⟩
  · cases h
end Go.Proofs.Yteglgnkcpaagjaa

/- Special operations, by computation. -/
namespace Go.Proofs.Yteglgnkcpaagjaa
open Go.RowKit
def xop (X:Cx) (n:Nat) (st:ASt) (d:Nat):Op→Option (Bool×ASt)
  | .range t u=>match X.tt.find t,ae X st.L u with
    | some ⟨⟨.string,_,_,_⟩,_⟩,some (g,.c (.str s))=>some (g,⟨(d,.c (.ptr d 0)) :: subL d .dead st.L,(d,.sit ⟨s.toArray⟩ 0) :: delH d .dead st.H⟩)
    | _,_=>none
  | .index t u x=>match X.tt.find t with
    | some ⟨⟨.string,_,_,_⟩,_⟩=>match ae X st.L u,ae X st.L x with
      | some (g,.c (.str s)),some (g2,.c (.val (.int _ z)))=>some (g&&(g2&&inB z s.length),⟨(d,.c (.val (.int .u8 ((s.getD z.toNat 0).toNat:Int)))) :: st.L,st.H⟩)
      | _,_=>none
    | some ⟨⟨.array m e,_,_,_⟩,_⟩=>match elG X e,ae X st.L u,ae X st.L x with
      | some (ee,g),some (g1,ux),some (g2,.c (.val (.int _ z)))=>match arrL g m ux,Nat.beq g.size ee.ti.size,decEq (isAggD ee.ti.desc) g.isPair,g.isPair || Nat.beq g.size 1 with
        | some (c,l),true,isTrue _,true=>match vSA g (l.getD z.toNat g.zero) with
          | some sa=>some (g1&&(g2&&(c&&(inB z m&&inB z l.length))),⟨(d,.a sa) :: st.L,st.H⟩)
          | none=>none
        | _,_,_,_=>none
      | _,_,_=>none
    | _=>none
  | .convert t t' u=>match X.tt.find t,X.tt.find t',ae X st.L u with
    | some ⟨⟨.slice e,_,_,_⟩,_⟩,some ⟨⟨.string,_,_,_⟩,_⟩,some (g,ux)=>match X.tt.find e,srcL st (.int .u8) ux with
      | some ⟨⟨.int .u8,_,_,_⟩,_⟩,some l=>some (g&&isBs l,⟨(d,.c (.str (bsOf l))) :: st.L,st.H⟩)
      | _,_=>none
    | _,_,_=>none
  | .slice t u lo hi none=>match X.tt.find t,ae X st.L u with
    | some ⟨⟨.string,_,_,_⟩,_⟩,some (g,.c (.str s))=>match lo,hi with
      | some x,none=>match ae X st.L x with
        | some (g2,.c (.val (.int _ z)))=>some (g&&(g2&&(decide (0≤z)&&decide (z≤(s.length:Int)))),⟨(d,.c (.str (s.drop z.toNat))) :: st.L,st.H⟩)
        | _=>none
      | none,some x=>match ae X st.L x with
        | some (g2,.c (.val (.int _ z)))=>some (g&&(g2&&(decide (0≤z)&&decide (z≤(s.length:Int)))),⟨(d,.c (.str (s.take z.toNat))) :: st.L,st.H⟩)
        | _=>none
      | some x,some y=>match ae X st.L x,ae X st.L y with
        | some (g2,.c (.val (.int _ z))),some (g3,.c (.val (.int _ z2)))=>some (g&&(g2&&(g3&&(decide (0≤z)&&(decide (z≤z2)&&decide (z2≤(s.length:Int)))))),⟨(d,.c (.str ((s.take z2.toNat).drop z.toNat))) :: st.L,st.H⟩)
        | _,_=>none
      | none,none=>none
    | _,_=>none
  | .load t x=>match X.tt.find t,ae X st.L x with
    | some ⟨⟨.array m e,sz,b,zz⟩,tg⟩,some (g1,.c (.elt id _ 0 0))=>match lk st.H id with
      | some (.row _ g l _)=>match Nat.beq sz (m * g.size) with
        | true=>some (g1&&decide (l.length=m),⟨(d,.a (.arr g l)) :: st.L,st.H⟩)
        | false=>none
      | _=>none
    | some ⟨⟨.array m e,sz,b,zz⟩,tg⟩,some (g1,.c (.par g l))=>match Nat.beq sz (m * g.size) with
      | true=>some (g1&&decide (l.length=m),⟨(d,.a (.arr g l)) :: st.L,st.H⟩)
      | false=>none
    | _,_=>none
  | .call ⟨.builtin .append,⟨[x,y]⟩,⟨[t,t2]⟩⟩=>match Nat.beq t2 t,X.tt.find t,ae X st.L x,ae X st.L y with
    | true,some ⟨⟨.slice e,_,_,_⟩,_⟩,some (g1,.c (.sl id)),some (g2,sy)=>match X.tt.find e,lk st.H id with
      | some ⟨⟨_,sz,bts,_⟩,some _⟩,some (.lrow e' g l)=>match Nat.beq e' e,Nat.beq g.size sz,srcL st g sy,Nat.blt id fixBase with
        | true,true,some l2,true=>some (g1&&(g2&&fitB bts (l.length+l2.length)),⟨(d,.c (.sl id)) :: subL id .dead st.L,(id,.lrow e g (l++l2)) :: delH id .dead st.H⟩)
        | _,_,_,_=>none
      | _,_=>none
    | true,some ⟨⟨.slice e,_,_,_⟩,_⟩,some (g1,.c (.lst g l (some c))),some (g2,sy)=>match X.tt.find e with
      | some ⟨⟨_,sz,bts,_⟩,some _⟩=>match Nat.beq g.size sz,srcL st g sy with
        | true,some l2=>some (g1&&(g2&&(fitB bts (l.length+l2.length)&&decide (c=l.length))),⟨(d,.c (.sl d)) :: subL d .dead st.L,(d,.lrow e g (l++l2)) :: delH d .dead st.H⟩)
        | _,_=>none
      | _=>none
    | _,_,_,_=>none
  | .call ⟨.builtin .copy,⟨[x,y]⟩,⟨[t,t2]⟩⟩=>match Nat.beq t2 t,X.tt.find t,ae X st.L x,ae X st.L y with
    | true,some ⟨⟨.slice e,_,_,_⟩,_⟩,some (g1,.c (.sl id)),some (g2,sy)=>match X.tt.find e,lk st.H id with
      | some ⟨⟨_,sz,bts,_⟩,some _⟩,some (.row e' g l cap)=>match Nat.beq e' e,Nat.beq g.size sz,srcL st g sy with
        | true,true,some l2=>some (g1&&(g2&&Nat.beq l2.length l.length),⟨(d,.c (.val (.int .i64 (l.length:Int)))) :: st.L,putH id (.row e g l2 cap) st.H⟩)
        | _,_,_=>none
      | _,_=>none
    | _,_,_,_=>none
  | _=>none
def xst (X:Cx) (st:ASt):Op→Option (Bool×ASt)
  | .store t x y=>match X.tt.find t,ae X st.L x,ae X st.L y with
    | some te,some (g1,.c (.elt id 1 i 0)),some (g2,.c (.sl d))=>match lk st.H id,lk st.H d,Nat.beq te.ti.size 1 with
      | some (.row T (.sl g) l cap),some (.row _ _ _ _),true=>some (g1&&(g2&&decide (i < l.length)),⟨st.L,putH id (.hrow false T g l cap i d) st.H⟩)
      | some (.row T (.csl g) l cap),some (.row _ _ l2 (some q)),true=>some (g1&&(g2&&(decide (i < l.length)&&Nat.beq q l2.length)),⟨st.L,putH id (.hrow true T g l cap i d) st.H⟩)
      | _,_,_=>none
    | _,_,_=>none
  | _=>none
section
variable {X:Cx} {n:Nat} {st st':ASt} {o:Oper} {d:Nat}
theorem elG_ok {e:TypeId} {te:TE} {g:GTy} (h:elG X e=some (te,g)):X.tt.find e=some te∧te.g=some g:=by
  unfold elG at h
  split at h
  · rename_i h1
    split at h
    · rename_i h2; cases h; exact ⟨h1,h2⟩
    · cases h
  · cases h
theorem xst_ok (hX:X.tt.ok X.P) {c:Bool} (h:xst X st o.op=some (c,st')) (hc:c=true) (ho:o.guard=none∧o.dst=none):StepOk X n o st st':=by
  unfold xst at h
  split at h
  · rename_i hop
    split at h
    · rename_i ht hx hy
      split at h
      · rename_i h1 h2 h3
        cases h;simp only [Bool.and_eq_true] at hc;exact sk_storeH hX hop ho ht h3 hx hc.1 hy hc.2.1 h1 h2 hc.2.2
      · rename_i h1 h2 h3
        cases h;simp only [Bool.and_eq_true] at hc;exact sk_storeHc hX hop ho ht h3 hx hc.1 hy hc.2.1 h1 h2 hc.2.2.1 hc.2.2.2
      · cases h
    · cases h
  · cases h
theorem xst_ks {c:Bool} {op:Op} (h:xst X st op=some (c,st')):∃ id,KS [id] st st'∧(∃ t x y g1 i,op=.store t x y∧ae X st.L x=some (g1,.c (.elt id 1 i 0))):=by
  unfold xst at h
  split at h
  · split at h
    · rename_i ht hx hy
      split at h
      · cases h
        exact ⟨_,⟨Kp.refl _,kh_put (in1 _ _)⟩,_,_,_,_,_,rfl,hx⟩
      · cases h
        exact ⟨_,⟨Kp.refl _,kh_put (in1 _ _)⟩,_,_,_,_,_,rfl,hx⟩
      · cases h
    · cases h
  · cases h
theorem xop_ok (hX:X.tt.ok X.P) {c:Bool} (h:xop X n st d o.op=some (c,st')) (hc:c=true) (ho:o.guard=none∧o.dst=some d) (hd:Nat.blt d n=true):StepOk X n o st st':=by
  unfold xop at h
  split at h
  · rename_i hop
    split at h
    · rename_i ht hu
      cases h;exact sk_range hX hop ho hd ht rfl hu hc
    · cases h
  · rename_i hop
    split at h
    · rename_i ht
      split at h
      · rename_i hu hx
        cases h;simp only [Bool.and_eq_true] at hc;exact sk_strIndex hX hop ho hd ht rfl hu hc.1 hx hc.2.1 hc.2.2
      · cases h
    · rename_i ht
      split at h
      · rename_i he hu hx
        obtain ⟨he1,he2⟩:=elG_ok he
        split at h
        · rename_i h3 h1 h2 _ h4
          split at h
          · rename_i h5
            cases h;simp only [Bool.and_eq_true] at hc;exact sk_idxA _ _ _ hX hop ho hd ht rfl he1 h2 h3 h4 hu hc.1 hx hc.2.1 h1 hc.2.2.1 hc.2.2.2.1 hc.2.2.2.2 h5
          · cases h
        · cases h
      · cases h
    · cases h
  · rename_i hop
    split at h
    · rename_i ht ht' hu
      split at h
      · rename_i he hs
        cases h;simp only [Bool.and_eq_true] at hc;exact sk_strOf hX hop ho hd ht rfl ht' rfl he rfl hu hc.1 hs hc.2
      · cases h
    · cases h
  · rename_i hop
    split at h
    · rename_i ht hu
      split at h
      · split at h
        · rename_i hx
          cases h;simp only [Bool.and_eq_true] at hc;exact sk_sliceSf hX hop ho hd ht rfl hu hc.1 hx hc.2.1 hc.2.2.1 hc.2.2.2
        · cases h
      · split at h
        · rename_i hx
          cases h;simp only [Bool.and_eq_true] at hc;exact sk_sliceSt hX hop ho hd ht rfl hu hc.1 hx hc.2.1 hc.2.2.1 hc.2.2.2
        · cases h
      · split at h
        · rename_i hx hy
          cases h;simp only [Bool.and_eq_true] at hc;exact sk_sliceSm hX hop ho hd ht rfl hu hc.1 hx hc.2.1 hy hc.2.2.1 hc.2.2.2.1 hc.2.2.2.2.1 hc.2.2.2.2.2
        · cases h
      · cases h
    · cases h
  · rename_i hop
    split at h
    · rename_i ht hx
      split at h
      · rename_i hl
        split at h
        · rename_i hsz
          cases h;simp only [Bool.and_eq_true] at hc;exact sk_loadA hX hop ho hd ht rfl hx hc.1 hl hsz hc.2
        · cases h
      · cases h
    · rename_i ht hx
      split at h
      · rename_i hsz
        cases h;simp only [Bool.and_eq_true] at hc;exact sk_loadP hX hop ho hd ht rfl hx hc.1 hsz hc.2
      · cases h
    · cases h
  · rename_i hop
    split at h
    · rename_i h0 ht hx hy
      have:=Nat.eq_of_beq_eq_true h0
      subst this
      split at h
      · rename_i he hl
        split at h
        · rename_i h1 h2 h3 h4
          have:=Nat.eq_of_beq_eq_true h1
          subst this;cases h;simp only [Bool.and_eq_true] at hc;exact sk_appendR hX hop ho (by rw [hd,h4]; rfl) ht rfl he hx hc.1 hy hc.2.1 hl h2 h3 hc.2.2
        · cases h
      · cases h
    · rename_i h0 ht hx hy
      have:=Nat.eq_of_beq_eq_true h0
      subst this
      split at h
      · rename_i he
        split at h
        · rename_i h2 h3
          cases h;simp only [Bool.and_eq_true] at hc;exact sk_appendL hX hop ho hd ht rfl he hx hc.1 hy hc.2.1 h2 h3 hc.2.2.1 hc.2.2.2
        · cases h
      · cases h
    · cases h
  · rename_i hop
    split at h
    · rename_i h0 ht hx hy
      have:=Nat.eq_of_beq_eq_true h0
      subst this
      split at h
      · rename_i he hl
        split at h
        · rename_i h1 h2 h3
          have:=Nat.eq_of_beq_eq_true h1
          subst this;cases h;simp only [Bool.and_eq_true] at hc;exact sk_copy hX hop ho hd ht rfl he hx hc.1 hy hc.2.1 hl h2 h3 hc.2.2
        · cases h
      · cases h
    · cases h
  · cases h
def xtouch (X:Cx) (st:ASt) (d:Nat):Op→List Nat
  | .call ⟨.builtin _,⟨[x,_]⟩,_⟩=>match ae X st.L x with
    | some (_,.c (.sl id))=>[d,id]
    | _=>[d]
  | _=>[d]
def xsT (X:Cx) (st:ASt):Op→List Nat
  | .store _ x _=>match ae X st.L x with
    | some (_,.c (.elt id _ _ _))=>[id]
    | _=>[]
  | _=>[]
theorem ks_one {sv:SV}:KS [d] st ⟨(d,sv) :: st.L,st.H⟩:=⟨Kp.cons (V:=[]) (Kp.refl _),(Kp.refl _)⟩
theorem xop_ks {c:Bool} {op:Op} (h:xop X n st d op=some (c,st')):KS (xtouch X st d op) st st':=by
  unfold xop at h
  split at h
  · split at h
    · cases h
      exact ⟨Kp.cons (kl_sub _ _ _),Kp.cons (V:=[]) (kh_del _ _ _)⟩
    · cases h
  · split at h
    · split at h
      · cases h; exact ks_one
      · cases h
    · split at h
      · split at h
        · split at h
          · cases h; exact ks_one
          · cases h
        · cases h
      · cases h
    · cases h
  · split at h
    · split at h
      · cases h; exact ks_one
      · cases h
    · cases h
  · split at h
    · split at h
      · split at h
        · cases h; exact ks_one
        · cases h
      · split at h
        · cases h; exact ks_one
        · cases h
      · split at h
        · cases h; exact ks_one
        · cases h
      · cases h
    · cases h
  · split at h
    · split at h
      · split at h
        · cases h; exact ks_one
        · cases h
      · cases h
    · split at h
      · cases h; exact ks_one
      · cases h
    · cases h
  · split at h
    · rename_i h0 ht hx hy
      split at h
      · split at h
        · cases h
          unfold xtouch;simp only [hx];exact ⟨Kp.cons (kl_sub _ _ _),(Kp.cons (V:=[]) (kh_del _ _ _)).more fun q hq=>(inN_ne hq).2⟩
        · cases h
      · cases h
    · rename_i h0 ht hx hy
      split at h
      · split at h
        · cases h
          unfold xtouch;simp only [hx];exact ⟨Kp.cons (kl_sub _ _ _),Kp.cons (V:=[]) (kh_del _ _ _)⟩
        · cases h
      · cases h
    · cases h
  · split at h
    · rename_i h0 ht hx hy
      split at h
      · split at h
        · cases h
          unfold xtouch;simp only [hx];exact ⟨(Kp.cons (V:=[]) (Kp.refl _)).more fun q hq=>by
            obtain ⟨h1,_⟩:=inN_ne hq;unfold inN
            split
            · rename_i e; exact absurd (Nat.eq_of_beq_eq_true e).symm h1
            · rfl,kh_put (by unfold inN; split <;> first | rfl | (exact in1 _ _))⟩
        · cases h
      · cases h
    · cases h
  · cases h
def xstep (X:Cx) (n:Nat) (st:ASt) (o:Oper):Option (Bool×ASt×List Nat):=match o.guard with
  | none=>match o.dst with
    | some d=>match Nat.blt d n with
      | true=>match xpure X st o.op with
        | some (c,sa)=>some (c,⟨(d,.a sa) :: st.L,st.H⟩,[d])
        | none=>match xop X n st d o.op with
          | some (c,st')=>some (c,st',xtouch X st d o.op)
          | none=>none
      | false=>none
    | none=>match xst X st o.op with
      | some (c,st')=>some (c,st',xsT X st o.op)
      | none=>none
  | some _=>none
theorem PureOk.sk {sa:SA} (hp:PureOk X st o sa) (ho:o.guard=none∧o.dst=some d) (hd:Nat.blt d n=true):StepOk X n o st ⟨(d,.a sa) :: st.L,st.H⟩:=by
  intro R W Bi ks env B w0 H a w hA KK l hK;obtain ⟨v,h1,h2⟩:=hp hA;exact x_value hA.stt ho.1 ho.2 (lt_of_blt hd) (h2 w fun _=>hA.sh) fun a' hS=>hK a' w env H (hA.set (sv:=.a sa) h1 hS)
theorem xstep_ok (hX:X.tt.ok X.P) {c:Bool} {V:List Nat} (h:xstep X n st o=some (c,st',V)) (hc:c=true):StepOk X n o st st':=by
  unfold xstep at h
  split at h
  · rename_i hg
    split at h
    · rename_i d hd
      split at h
      · rename_i hb
        split at h
        · rename_i e
          cases h;exact PureOk.sk (fun hA=>xpure_ok hX e hc hA) ⟨hg,hd⟩ hb
        · split at h
          · rename_i e
            cases h;exact xop_ok hX e hc ⟨hg,hd⟩ hb
          · cases h
      · cases h
    · rename_i hd
      split at h
      · rename_i e
        cases h;exact xst_ok hX e hc ⟨hg,hd⟩
      · cases h
  · cases h
theorem xstep_ks {c:Bool} {V:List Nat} (h:xstep X n st o=some (c,st',V)):KS V st st':=by
  unfold xstep at h
  split at h
  · split at h
    · split at h
      · split at h
        · cases h; exact ks_one
        · split at h
          · rename_i e
            cases h;exact xop_ks e
          · cases h
      · cases h
    · split at h
      · rename_i e
        cases h;obtain ⟨id,h1,t,x,y,g1,i,hop,h2⟩:=xst_ks e;unfold xsT;rw [hop];simp only [h2];exact h1
      · cases h
  · cases h
end
end Go.Proofs.Yteglgnkcpaagjaa

/- A walker: what code makes of a state, by computation. -/
namespace Go.Proofs.Yteglgnkcpaagjaa
open Go.RowKit
def conjR:List Bool→Bool→Bool
  | [],x=>x
  | c :: r,x=>conjR r (c&&x)
theorem conjR_ok:∀ {A:List Bool} {x:Bool},conjR A x=true→(∀ c∈A,c=true)∧x=true
  | [],_,h=>⟨(fun _ h=>by cases h),h⟩
  | c :: r,x,h=>by
    obtain ⟨h1,h2⟩:=conjR_ok (A:=r) h;simp only [Bool.and_eq_true] at h2;refine ⟨fun d hd=>?_,h2.2⟩
    rcases List.mem_cons.1 hd with rfl | hd
    · exact h2.1
    · exact h1 d hd
inductive In where
  | n (k:Nat)
  | w (x:Wi)
  | c (ps:Ps)
  | y
  | x
abbrev Yo (ρ:Type):=Option (Nat→List SA→Option ρ→Option ρ→Option ρ)
def isYield:Option SV→Option Nat
  | some (.a (.c (.val (.func (.yield l) ⟨[]⟩ ⟨[]⟩))))=>some l
  | _=>none
def calleeOf (L:Sl):Operand→Option (FuncId×List SA×List SA)
  | .func f=>some (f,[],[])
  | .tmp s=>match lk L s with
    | some (.a (.c (.fn f ids)))=>some (f,[],ptrAs ids)
    | some (.a (.c (.bfn f id)))=>some (f,[.c (.ptr id 0)],[])
    | _=>none
  | _=>none
def takeN {α:Type}:Nat→List α→List α
  | 0,_=>[]
  | _,[]=>[]
  | k+1,x :: l=>x :: takeN k l
def dropN {α:Type}:Nat→List α→List α
  | 0,l=>l
  | _,[]=>[]
  | k+1,_ :: l=>dropN k l
section
variable {X:Cx} {ρ:Type}
def callT (X:Cx) (n:Nat) (f:FuncId) (ps:Ps) (d:Nat) (st:ASt) (args:List SA) (k:ASt→Option ρ):List (CT X)→Option ρ
  | []=>none
  | e :: T=>match Nat.beq e.f f with
    | true=>match prep X n e ps st.H args with
      | some p=>(e.m p.d).bind fun r=>match after X e ps st d p r with
        | some st'=>k st'
        | none=>none
      | none=>callT X n f ps d st args k T
    | false=>callT X n f ps d st args k T
abbrev Kon (ρ:Type):=Gd→List Nat→List Bool→ASt→Option ρ
def evC (X:Cx) (n:Nat) (T:List (CT X)) (ps:Ps) (V:List Nat) (A:List Bool) (st:ASt) (k:Kon ρ):Oper→Option ρ
  | ⟨some d,.call ⟨.value u,⟨xs⟩,_⟩,_,_,_,none⟩=>match Nat.blt d n,calleeOf st.L u,aes X st.L xs with
    | true,some (f,pre,post),some (c,args)=>gd (conjR (c :: A) true) (callT X n f ps d st (pre++(args++post)) (fun st'=>k [] (d :: (seconds ps++V)) [] st') T)
    | _,_,_=>none
  | _=>none
def callG (X:Cx) (n:Nat) (f:FuncId) (d:Nat) (g:Bool) (st:ASt) (args:List SA) (k:SA→Option ρ):List (CT X)→Option ρ
  | []=>none
  | e :: T=>match Nat.beq e.f f with
    | true=>match prep X n e [] st.H args with
      | some p=>(cond g (e.m p.d) (some e.df)).bind fun r=>match after X e [] st d p r,(e.out p.d r).2 with
        | some ⟨(_,.a sa) :: _,_⟩,[]=>k sa
        | _,_=>none
      | none=>callG X n f d g st args k T
    | false=>callG X n f d g st args k T
def evGC (X:Cx) (n:Nat) (T:List (CT X)) (dsts:List (Option Nat)) (G:Gd) (V:List Nat) (A:List Bool) (st:ASt) (k:Kon ρ):Oper→Option ρ
  | ⟨some d,.call ⟨.value u,⟨xs⟩,_⟩,_,_,_,some (j,want)⟩=>match nth dsts j with
    | some (some s)=>match gvalOf st.L s want with
      | some g=>match Nat.blt d n,Nat.beq s d,calleeOf st.L u,aes X (viewL (anc dsts G 8 j want) G st.L) xs with
        | true,false,some (f,pre,post),some (c,args)=>gd (conjR (impB g c :: A) true) (callG X n f d g st (pre++(args++post)) (fun sa=>k ((d,j,want) :: dropG dsts d G) (d :: V) [] ⟨(d,.may g sa) :: st.L,st.H⟩) T)
        | _,_,_,_=>none
      | none=>none
    | _=>none
  | _=>none
def ev1 (X:Cx) (n:Nat) (T:List (CT X)) (dsts:List (Option Nat)) (G:Gd) (V:List Nat) (A:List Bool) (st:ASt) (o:Oper) (k:Kon ρ):Option ρ:=match o.guard with
  | none=>match apureG X dsts [] G st o.op with
    | some (c,sa)=>match o.dst with
      | some d=>match Nat.blt d n with
        | true=>k (dropG dsts d G) (d :: V) (c :: A) ⟨(d,.a sa) :: st.L,st.H⟩
        | false=>none
      | none=>none
    | none=>match xstep X n st o with
      | some (c,st',W)=>k [] (W++V) (c :: A) st'
      | none=>match astep X n dsts st o with
        | .ok c st'=>k [] (touchO X st.L o++V) (c :: A) st'
        | .stop=>evC X n T [] V A st k o
  | some (j,want)=>match nth dsts j with
    | some (some s)=>match gvalOf st.L s want with
      | some g=>match apureG X dsts (anc dsts G 8 j want) G st o.op with
        | some (c,sa)=>match o.dst with
          | some d=>match Nat.blt d n,Nat.beq s d with
            | true,false=>k ((d,j,want) :: dropG dsts d G) (d :: V) (impB g c :: A) ⟨(d,.may g sa) :: st.L,st.H⟩
            | _,_=>none
          | none=>none
        | none=>evGC X n T dsts G V A st k o
      | none=>none
    | _=>none
def evOps (X:Cx) (n:Nat) (T:List (CT X)) (dsts:List (Option Nat)):List Oper→Gd→List Nat→List Bool→ASt→Kon ρ→Option ρ
  | [],G,V,A,st,k=>k G V A st
  | o :: l,G,V,A,st,k=>ev1 X n T dsts G V A st o fun G' V' A' st'=>evOps X n T dsts l G' V' A' st' k
def evY (X:Cx) (n:Nat) (yo:Yo ρ) (st:ASt) (A:List Bool) (o:Oper) (k:Nat→ASt→Option ρ):Option ρ:=match yo,o with
  | some em,⟨some d,.call ⟨.value (.tmp s),⟨xs⟩,_⟩,_,_,_,none⟩=>match Nat.blt d n,isYield (lk st.L s),aes X st.L xs with
    | true,some l,some (c,args)=>gd (conjR (c :: A) true) (em l args (k d ⟨(d,.c (.val (.bool false))) :: st.L,st.H⟩) (k d ⟨(d,.c (.val (.bool true))) :: st.L,st.H⟩))
    | _,_,_=>none
  | _,_=>none
def evX {ρ:Type} (X:Cx) (n:Nat) (st:ASt) (A:List Bool) (o:Oper) (k:List Nat→ASt→Option ρ):Option ρ:=match o with
  | ⟨some d,.next x true,_,_,_,none⟩=>match Nat.blt d n,ae X st.L x with
    | true,some (g,.c (.ptr id 0))=>match lk st.H id with
      | some (.sit S p)=>gd (conjR (g :: A) true) (cond (decide (p < S.size)) (k [d,id] ⟨(d,.tup [.c (.val (.bool true)),.c (.val (.int .i64 (p:Int))),.c (.val (.int .i32 (Utf8.decode S p).1))]) :: st.L,putH id (.sit S (p+(Utf8.decode S p).2)) st.H⟩) (k [d,id] ⟨(d,.tup [.c (.val (.bool false))]) :: st.L,st.H⟩))
      | _=>none
    | _,_=>none
  | _=>none
def evL (X:Cx) (n:Nat) (T:List (CT X)) (yo:Yo ρ) (dsts:List (Option Nat)):List In→List Oper→Gd→List Nat→List Bool→ASt→(List Nat→ASt→Option ρ)→Option ρ
  | [],ops,G,V,A,st,k=>evOps X n T dsts ops G V A st fun _ V' A' st'=>gd (conjR A' true) (k V' st')
  | .n m :: is,ops,G,V,A,st,k=>evOps X n T dsts (takeN m ops) G V A st fun G' V' A' st'=>evL X n T yo dsts is (dropN m ops) G' V' A' st' k
  | .w x :: is,ops,_,V,A,st,k=>match wki n x st with
    | some (c,st')=>evL X n T yo dsts is ops [] (x.touch++V) (c :: A) st' k
    | none=>none
  | .c ps :: is,o :: ops,_,V,A,st,k=>evC X n T ps V A st (fun G' V' A' st'=>evL X n T yo dsts is ops G' V' A' st' k) o
  | .c _ :: _,[],_,_,_,_,_=>none
  | .y :: is,o :: ops,_,V,A,st,k=>evY X n yo st A o fun d st'=>evL X n T yo dsts is ops [] (d :: V) [] st' k
  | .x :: is,o :: ops,_,V,A,st,k=>evX X n st A o fun W st'=>evL X n T yo dsts is ops [] (W++V) [] st' k
  | .x :: _,[],_,_,_,_,_=>none
  | .y :: _,[],_,_,_,_,_=>none
variable {M:Bool} {n:Nat} {rr:Option Nat} {T:List (CT X)} {st0 st st':ASt} {Q:Exit→ASt→Prop} {ops l rest:List Oper} {o:Oper} {r:ρ} {V:List Nat} {A:List Bool}
def KA (k:Kon ρ) (r:ρ):Prop:=∀ G V A st,k G V A st=some r→∀ c∈A,c=true
theorem callT_ok {f:FuncId} {xs:List Operand} {pre post args:List SA} {ps:Ps} {d:Nat} {c:Bool} {k:ASt→Option ρ} (hcal:Callee X st o f xs pre post) (ho:o.guard=none∧o.dst=some d) (hd:Nat.blt d n=true) (hargs:aes X st.L xs=some (c,args)) (hc:c=true):∀ {T:List (CT X)},callT X n f ps d st (pre++(args++post)) k T=some r→∃ st',StepC X n o ps.isEmpty st st'∧KS (d :: seconds ps) st st'∧k st'=some r
  | [],h=>by cases h
  | e :: T,h=>by
    unfold callT at h
    split at h
    · rename_i hf
      have hf':=Nat.eq_of_beq_eq_true hf;subst hf'
      split at h
      · rename_i p hp
        obtain ⟨q,hq,h⟩:=bd h
        split at h
        · rename_i st2 ha
          exact ⟨st2,call_ok e ps hcal ho hd (.of hargs hc) hp hq ha,after_ks hp ha,h⟩
        · cases h
      · exact callT_ok hcal ho hd hargs hc h
    · exact callT_ok hcal ho hd hargs hc h
theorem calleeOf_ok {u:Operand} {xs:List Operand} {ts:Array TypeId} {f:FuncId} {pre post:List SA} (hop:o.op=.call { callee:=.value u,args:=xs.toArray,argTypes:=ts }) (h:calleeOf st.L u=some (f,pre,post)):Callee X st o f xs pre post:=by
  refine ⟨ts,?_⟩;unfold calleeOf at h
  split at h
  · cases h; exact .inl ⟨hop,rfl,rfl⟩
  · split at h
    · rename_i e; cases h; exact .inr (.inl ⟨_,_,hop,e,rfl,rfl⟩)
    · rename_i e; cases h; exact .inr (.inr ⟨_,_,hop,e,rfl,rfl⟩)
    · cases h
  · cases h
theorem evC_ok {ps:Ps} {k:Kon ρ} (h0:KS V st0 st) (h:evC X n T ps V A st k o=some r):(∀ c∈A,c=true)∧∃ st' V',StepC X n o ps.isEmpty st st'∧KS V' st0 st'∧k [] V' [] st'=some r:=by
  unfold evC at h
  split at h
  · rename_i d u xs ts t p a
    split at h
    · rename_i f pre post c args hd hcl hargs
      obtain ⟨hc,h⟩:=gd_some h;have hc':=(conjR_ok hc).1;obtain ⟨st',h1,h2,h3⟩:=callT_ok (o:=⟨some d,.call ⟨.value u,⟨xs⟩,ts⟩,t,p,a,none⟩) (calleeOf_ok rfl hcl) ⟨rfl,rfl⟩ hd hargs (hc' c List.mem_cons_self) h;exact ⟨fun c hc=>hc' c (List.mem_cons_of_mem _ hc),st',_,h1,by have:=h0.trans h2; exact this,h3⟩
    · cases h
  · cases h
theorem callG_ok {f:FuncId} {d:Nat} {g:Bool} {args:List SA} {k:SA→Option ρ} {r:ρ}:∀ {T:List (CT X)},callG X n f d g st args k T=some r→∃ (e:CT X) (p:Pre X e) (q:e.ρ) (sa:SA),e.f=f∧prep X n e [] st.H args=some p∧(g=true→e.m p.d=some q)∧after X e [] st d p q=some ⟨(d,.a sa) :: st.L,st.H⟩∧k sa=some r
  | [],h=>by cases h
  | e :: T,h=>by
    unfold callG at h
    split at h
    · rename_i hf
      split at h
      · rename_i p hp
        obtain ⟨q,hq,h⟩:=bd h
        split at h
        · rename_i d2 sa L2 H2 ha ho
          refine ⟨e,p,q,sa,Nat.eq_of_beq_eq_true hf,hp,fun hg=>by rw [hg] at hq; exact hq,?_,h⟩;have h1:H2=st.H∧L2=st.L∧d2=d:=by
            unfold prep at hp
            split at hp
            · rename_i args1 h1 H1 hps hren hpass
              split at hp
              · split at hp
                · cases hp
                  have hH:H1=st.H:=by
                    cases hha:e.HA with
                    | nil=>rw [hha] at hpass; cases hpass; rfl
                    | cons q _=>rw [hha] at hpass; cases hpass
                  unfold after at ha;rw [ho] at ha
                  split at ha
                  · rename_i sv' h'' e1 e2
                    cases e2;cases ha;exact ⟨rfl,rfl,rfl⟩
                  · cases ha
                · cases hp
              · cases hp
            · cases hp
          obtain ⟨rfl,rfl,rfl⟩:=h1;exact ha
        · cases h
      · exact callG_ok h
    · exact callG_ok h
theorem evGC_A {G:Gd} {k:Kon ρ} (h:evGC X n T (dstsOf ops) G V A st k o=some r):∀ c∈A,c=true:=by
  unfold evGC at h
  split at h
  · split at h
    · split at h
      · split at h
        · obtain ⟨hc,h⟩:=gd_some h
          exact fun c hm=>(conjR_ok hc).1 c (List.mem_cons_of_mem _ hm)
        · cases h
      · cases h
    · cases h
  · cases h
theorem evGC_ok {G:Gd} {k:Kon ρ} (hG:GInv (dstsOf ops) G st.L) (h0:KS V st0 st) (h:evGC X n T (dstsOf ops) G V A st k o=some r):∃ (d:Nat) (g:Bool) (sa:SA) (G':Gd),GInv (dstsOf ops) G' ((d,.may g sa) :: st.L)∧KS (d :: V) st0 ⟨(d,.may g sa) :: st.L,st.H⟩∧k G' (d :: V) [] ⟨(d,.may g sa) :: st.L,st.H⟩=some r ∧
    ∀ (R:Nat→Prop) (W:World) (Bi:Bk) (ks:List Nat) (env:Nat→Loc) (B:Nat→Prop) (w0:World) (H:List Ck) (a:Act) (w:World),AI X R W Bi n ks env B w0 H st a w→∀ (KK:Act→World→Prop),
      (∀ a' w' env' B' w0' H',AI X R W Bi n ks env' B' w0' H' ⟨(d,.may g sa) :: st.L,st.H⟩ a' w'→KK a' w')→XO X.P ops.toArray o KK a w:=by
  unfold evGC at h
  split at h
  · rename_i d u xs ts ty po af j want
    split at h
    · rename_i s hj
      split at h
      · rename_i g hg
        split at h
        · rename_i f pre post c args hd hsd hcl hargs
          obtain ⟨hc,h⟩:=gd_some h;have hc':=(conjR_ok hc).1;obtain ⟨e,pp,q,sa,hf,hp,hq,ha,hk⟩:=callG_ok h;subst hf;have hne:s≠d:=Nat.ne_of_beq_eq_false hsd;have hG':GInv (dstsOf ops) ((d,j,want) :: dropG (dstsOf ops) d G) ((d,.may g sa) :: st.L):=fun e he=>by
            rcases List.mem_cons.1 he with rfl | he
            · exact ⟨s,g,sa,hj,by rw [gvalOf_cons hne]; exact hg,by rw [lk_cons,if_pos rfl]⟩
            · exact hG.drop d _ e he
          refine ⟨d,g,sa,_,hG',⟨Kp.cons h0.1,h0.2.more fun q hq=>(inN_ne hq).2⟩,hk,?_⟩;intro R W Bi ks env B w0 H a w hA KK hK;have hw:=wanted_gval (l:=ops) (o:=⟨some d,.call ⟨.value u,⟨xs⟩,ts⟩,ty,po,af,some (j,want)⟩) hA rfl hj hg;have put:∀ v,St n (ks.map markOf) ((d,v) :: full a) (a.put (some d) v):=fun v=>hA.stt.put d v (lt_of_blt hd)
          cases g with
          | false=>exact .inr ⟨hw,hK _ _ _ _ _ _ (hA.set (sv:=.may false sa) ⟨(fun h=>by cases h),fun _=>rfl⟩ (put undef))⟩
          | true=>
            have hPT:∀ p∈anc (dstsOf ops) G 8 j want,PT (dstsOf ops) st.L p:=anc_true hG ⟨s,hj,hg⟩;have hao:ArgsOk X n st xs args:=fun _ _ _ _ _ _ _ _ _ _ hA=>aes_ok (hA.view hG hPT) hargs (impB_ok (hc' _ List.mem_cons_self) rfl)
            have h1:=call_ok (o:=⟨some d,.call ⟨.value u,⟨xs⟩,ts⟩,ty,po,af,none⟩) e [] (calleeOf_ok rfl hcl) ⟨rfl,rfl⟩ hd hao hp (hq rfl) ha R W Bi ks env B w0 H a w hA KK ops fun a' w' env' B' w0' H' hA' _ _ _=>by
              have hd':=hA'.has d (.a sa) (by rw [lk_cons,if_pos rfl]);obtain ⟨v,hv1,hv2⟩:=hd';refine hK _ _ _ _ _ _ ⟨hA'.size,hA'.defs,fun q sv hs=>?_,hA'.heap,hA'.sh,hA'.sub,hA'.new,hA'.pin,hA'.base,hA'.glob⟩
              by_cases hqd:q=d
              · subst hqd
                rw [lk_cons,if_pos rfl] at hs;cases hs;exact ⟨v,hv1,fun _=>hv2,fun h=>by cases h⟩
              · exact hA'.has q sv (by rw [lk_cons,if_neg hqd] at hs ⊢; exact hs)
            rcases h1 with ⟨_,h2⟩ | ⟨h2,_⟩
            · exact .inl ⟨hw,h2⟩
            · simp [Region.wanted] at h2
        · cases h
      · cases h
    · cases h
  · cases h
theorem ev1_A {G:Gd} {k:Kon ρ} (hk:KA k r) (h:ev1 X n T (dstsOf ops) G V A st o k=some r):∀ c∈A,c=true:=by
  unfold ev1 at h
  split at h
  · split at h
    · split at h
      · split at h
        · exact fun c hc=>hk _ _ _ _ h c (List.mem_cons_of_mem _ hc)
        · cases h
      · cases h
    · split at h
      · exact fun c hc=>hk _ _ _ _ h c (List.mem_cons_of_mem _ hc)
      · split at h
        · exact fun c hc=>hk _ _ _ _ h c (List.mem_cons_of_mem _ hc)
        · exact (evC_ok (KS.refl (V:=V) st) h).1
  · split at h
    · split at h
      · split at h
        · split at h
          · split at h
            · exact fun c hc=>hk _ _ _ _ h c (List.mem_cons_of_mem _ hc)
            · cases h
          · cases h
        · exact evGC_A h
      · cases h
    · cases h
theorem evOps_A {k:Kon ρ} (hk:KA k r):∀ {l:List Oper} {G:Gd} {V:List Nat} {A:List Bool} {st:ASt},evOps X n T (dstsOf ops) l G V A st k=some r→∀ c∈A,c=true
  | [],G,V,A,st,h=>hk _ _ _ _ h
  | o :: l,G,V,A,st,h=>ev1_A (fun _ _ _ _ h'=>evOps_A hk h') h
def StepO (X:Cx) (n:Nat) (ops:List Oper) (o:Oper) (st st':ASt):Prop:=∀ (R:Nat→Prop) (W:World) (Bi:Bk) (ks:List Nat) (env:Nat→Loc) (B:Nat→Prop) (w0:World) (H:List Ck) (a:Act) (w:World),AI X R W Bi n ks env B w0 H st a w→∀ (KK:Act→World→Prop),
  (∀ a' w' env' B' w0' H',AI X R W Bi n ks env' B' w0' H' st' a' w'→KK a' w')→XO X.P ops.toArray o KK a w
theorem StepC.so {kp:Bool} (h:StepC X n o kp st st'):StepO X n ops o st st':=fun R W Bi ks env B w0 H a w hA KK hK=>h R W Bi ks env B w0 H a w hA KK ops fun a' w' env' B' w0' H' hA' _ _ _=>hK a' w' env' B' w0' H' hA'
structure ZOk (X:Cx) (n:Nat) (ops:List Oper) (Z:List Oper→ρ→ASt→Prop):Prop where
  step:∀ {o rest r st st'},StepO X n ops o st st'→Z rest r st'→Z (o :: rest) r st
  weak:∀ {l r st st'},Wk X n st st'→Z l r st'→Z l r st
def YOk (X:Cx) (n:Nat) (yo:Yo ρ) (Z:List Oper→ρ→ASt→Prop):Prop:=∀ em,yo=some em→∀ {l:Nat} {args:List SA} {f t:Option ρ} {r:ρ},em l args f t=some r→∃ rf rt,f=some rf∧t=some rt∧∀ {o:Oper} {rest:List Oper} {st:ASt} {d s:Nat} {xs:List Operand} {ts:Array TypeId} {c:Bool},o.op=.call { callee:=.value (.tmp s),args:=xs.toArray,argTypes:=ts }→o.guard=none∧o.dst=some d→Nat.blt d n=true→isYield (lk st.L s)=some l→aes X st.L xs=some (c,args)→c=true →
  Z rest rf ⟨(d,.c (.val (.bool false))) :: st.L,st.H⟩→Z rest rt ⟨(d,.c (.val (.bool true))) :: st.L,st.H⟩→Z (o :: rest) r st
variable {Z:List Oper→ρ→ASt→Prop}
theorem ev1_ok (hX:X.tt.ok X.P) (hZ:ZOk X n ops Z) {G:Gd} (hG:GInv (dstsOf ops) G st.L) (h0:KS V st0 st) {k:Kon ρ} (hkA:KA k r) (h:ev1 X n T (dstsOf ops) G V A st o k=some r) (hk:∀ G' V' A' st',GInv (dstsOf ops) G' st'.L→KS V' st0 st'→k G' V' A' st'=some r→Z rest r st'):Z (o :: rest) r st:=by
  have one:∀ {d:Nat} {sv:SV},KS (d :: V) st0 ⟨(d,sv) :: st.L,st.H⟩:=fun {d sv}=>⟨Kp.cons h0.1,h0.2.more fun q hq=>(inN_ne hq).2⟩
  unfold ev1 at h
  split at h
  · rename_i hgd
    split at h
    · rename_i c sa e1
      split at h
      · rename_i d hdst
        split at h
        · rename_i hd
          have hc:=hkA _ _ _ _ h c List.mem_cons_self;refine hZ.step (st':=⟨(d,.a sa) :: st.L,st.H⟩) ?_ (hk _ _ _ _ (hG.drop d _) one h);intro R W Bi ks env B w0 H a w hA KK hK;obtain ⟨v,h1,h2⟩:=apureG_ok hX hA hG (fun _ h=>by cases h) e1 hc;exact x_value hA.stt hgd hdst (lt_of_blt hd) h2 fun a' hS=>hK a' w env B w0 H (hA.set (sv:=.a sa) h1 hS)
        · cases h
      · cases h
    · split at h
      · rename_i c st2 W e
        have hc:=hkA _ _ _ _ h c List.mem_cons_self;exact hZ.step (xstep_ok hX e hc).c.so (hk _ _ _ st2 GInv.nil (h0.trans (xstep_ks e)) h)
      · split at h
        · rename_i c st2 e
          have hc:=hkA _ _ _ _ h c List.mem_cons_self;refine hZ.step ?_ (hk _ _ _ st2 GInv.nil (h0.trans (astep_ks hgd e)) h);intro R W Bi ks env B w0 H a w hA KK hK;exact astep_ok hX e hc hA fun a' w' env' H' _ hA'=>hK a' w' env' B w0 H' hA'
        · obtain ⟨_,st2,V2,h1,h2,h3⟩:=evC_ok h0 h
          exact hZ.step h1.so (hk _ _ _ st2 GInv.nil h2 h3)
  · rename_i j want hgd
    split at h
    · rename_i s hj
      split at h
      · rename_i g hg
        split at h
        · rename_i c sa e1
          split at h
          · rename_i d hdst
            split at h
            · rename_i hd hsd
              have hc:=hkA _ _ _ _ h _ List.mem_cons_self;have hne:s≠d:=Nat.ne_of_beq_eq_false hsd;have hG':GInv (dstsOf ops) ((d,j,want) :: dropG (dstsOf ops) d G) ((d,.may g sa) :: st.L):=fun e he=>by
                rcases List.mem_cons.1 he with rfl | he
                · exact ⟨s,g,sa,hj,by rw [gvalOf_cons hne]; exact hg,by rw [lk_cons,if_pos rfl]⟩
                · exact hG.drop d _ e he
              refine hZ.step (st':=⟨(d,.may g sa) :: st.L,st.H⟩) ?_ (hk _ _ _ _ hG' one h);intro R W Bi ks env B w0 H a w hA KK hK;have put:∀ v,St n (ks.map markOf) ((d,v) :: full a) (a.put o.dst v):=fun v=>by rw [hdst]; exact hA.stt.put d v (lt_of_blt hd)
              have hw:=wanted_gval hA hgd hj hg;cases g with
              | true=>
                obtain ⟨v,h1,h2⟩:=apureG_ok hX hA hG (anc_true hG ⟨s,hj,hg⟩) e1 (impB_ok hc rfl);exact .inl ⟨hw,.inl ⟨v,w,h2,hK _ _ _ _ _ _ (hA.set (sv:=.may true sa) ⟨fun _=>h1,fun h=>by cases h⟩ (put v))⟩⟩
              | false=>exact .inr ⟨hw,hK _ _ _ _ _ _ (hA.set (sv:=.may false sa) ⟨(fun h=>by cases h),fun _=>rfl⟩ (put undef))⟩
            · cases h
          · cases h
        · obtain ⟨d,g2,sa,G',q0,q1,q2,q3⟩:=evGC_ok hG h0 h
          exact hZ.step q3 (hk _ _ _ _ q0 q1 q2)
      · cases h
    · cases h
theorem evOps_ok (hX:X.tt.ok X.P) (hZ:ZOk X n ops Z) {k:Kon ρ} {r:ρ} (hkA:KA k r):∀ {l rest:List Oper} {G:Gd} {V:List Nat} {A:List Bool} {st:ASt},GInv (dstsOf ops) G st.L→KS V st0 st→evOps X n T (dstsOf ops) l G V A st k=some r→(∀ G' V' A' st',GInv (dstsOf ops) G' st'.L→KS V' st0 st'→k G' V' A' st'=some r→Z rest r st')→Z (l++rest) r st
  | [],rest,G,V,A,st,hG,h0,h,hk=>hk G V A st hG h0 h
  | o :: l,rest,G,V,A,st,hG,h0,h,hk=>ev1_ok hX hZ hG h0 (fun _ _ _ _ h'=>evOps_A hkA h') h fun G' V' A' st' hG' h0' h'=>evOps_ok hX hZ hkA hG' h0' h' hk
theorem take_drop:∀ (m:Nat) (l:List Oper),takeN m l++dropN m l=l
  | 0,_=>rfl
  | _+1,[]=>rfl
  | m+1,x :: l=>by
    show x :: (takeN m l++dropN m l)=_;rw [take_drop m l]
theorem evY_ok {yo:Yo ρ} {k:Nat→ASt→Option ρ} (h:evY X n yo st A o k=some r):(∀ c∈A,c=true)∧∃ em l d s xs ts c args,yo=some em∧o.op=.call { callee:=.value (.tmp s),args:=xs.toArray,argTypes:=ts }∧(o.guard=none∧o.dst=some d)∧Nat.blt d n=true∧isYield (lk st.L s)=some l∧aes X st.L xs=some (c,args)∧c=true∧em l args (k d ⟨(d,.c (.val (.bool false))) :: st.L,st.H⟩) (k d ⟨(d,.c (.val (.bool true))) :: st.L,st.H⟩)=some r:=by
  unfold evY at h
  split at h
  · split at h
    · rename_i hd hy ha
      obtain ⟨hc,h⟩:=gd_some h;have hc':=(conjR_ok hc).1;exact ⟨fun c hc=>hc' c (List.mem_cons_of_mem _ hc),_,_,_,_,_,_,_,_,rfl,rfl,⟨rfl,rfl⟩,hd,hy,ha,hc' _ List.mem_cons_self,h⟩
    · cases h
  · cases h
theorem evX_ok {k:List Nat→ASt→Option ρ} (h0:KS V st0 st) (h:evX X n st A o k=some r):(∀ c∈A,c=true)∧∃ W st2,StepO X n ops o st st2∧KS (W++V) st0 st2∧k W st2=some r:=by
  unfold evX at h
  split at h
  · split at h
    · rename_i hd hx
      split at h
      · rename_i hl
        obtain ⟨hc,h⟩:=gd_some h;have hc':=(conjR_ok hc).1;have hks:∀ {d id:Nat} {sv:SV} {b:Blk},KS [d,id] st ⟨(d,sv) :: st.L,putH id b st.H⟩:=fun {d id sv b}=>⟨(Kp.cons (V:=[]) (Kp.refl _)).more fun q hq=>by
            obtain ⟨h1,_⟩:=inN_ne hq;unfold inN
            split
            · rename_i e; exact absurd (Nat.eq_of_beq_eq_true e).symm h1
            · rfl,kh_put (by unfold inN; split <;> first | rfl | (exact in1 _ _))⟩
        have hkf:∀ {d id:Nat} {sv:SV},KS [d,id] st ⟨(d,sv) :: st.L,st.H⟩:=fun {d id sv}=>⟨(Kp.cons (V:=[]) (Kp.refl _)).more fun q hq=>by
            obtain ⟨h1,_⟩:=inN_ne hq;unfold inN
            split
            · rename_i e; exact absurd (Nat.eq_of_beq_eq_true e).symm h1
            · rfl,Kp.refl _⟩
        refine ⟨fun c hc=>hc' c (List.mem_cons_of_mem _ hc),?_⟩;rename_i d _ _ _ id _ S p _;cases hp:decide (p < S.size) with
        | true=>
          rw [hp] at h;exact ⟨_,_,(sk_nextT rfl ⟨rfl,rfl⟩ hd hx (hc' _ List.mem_cons_self) hl (of_decide_eq_true hp)).c.so,h0.trans hks,h⟩
        | false=>
          rw [hp] at h;exact ⟨_,_,(sk_nextF rfl ⟨rfl,rfl⟩ hd hx (hc' _ List.mem_cons_self) hl (of_decide_eq_false hp)).c.so,h0.trans hkf,h⟩
      · cases h
    · cases h
  · cases h
variable {yo:Yo ρ}
theorem evL_A {k:List Nat→ASt→Option ρ} {r:ρ}:∀ {is:List In} {l:List Oper} {G:Gd} {V:List Nat} {A:List Bool} {st:ASt},evL X n T yo (dstsOf ops) is l G V A st k=some r→∀ c∈A,c=true
  | [],l,G,V,A,st,h=>evOps_A (fun _ _ _ _ h'=>(conjR_ok (gd_some h').1).1) h
  | .n m :: is,l,G,V,A,st,h=>evOps_A (fun _ _ _ _ h'=>evL_A h') h
  | .w x :: is,l,G,V,A,st,h=>by
    unfold evL at h
    split at h
    · exact fun c hc=>evL_A h c (List.mem_cons_of_mem _ hc)
    · cases h
  | .c ps :: is,o :: l,G,V,A,st,h=>by
    unfold evL at h;exact (evC_ok (KS.refl (V:=V) st) h).1
  | .c _ :: _,[],G,V,A,st,h=>by cases h
  | .y :: is,o :: l,G,V,A,st,h=>by
    unfold evL at h;exact (evY_ok h).1
  | .y :: _,[],G,V,A,st,h=>by cases h
  | .x :: is,o :: l,G,V,A,st,h=>by
    unfold evL at h;exact (evX_ok (ops:=ops) (KS.refl (V:=V) st) h).1
  | .x :: _,[],G,V,A,st,h=>by cases h
theorem evL_ok (hX:X.tt.ok X.P) (hZ:ZOk X n ops Z) (hY:YOk X n yo Z) {k:List Nat→ASt→Option ρ}:∀ {is:List In} {l:List Oper} {G:Gd} {V:List Nat} {A:List Bool} {st:ASt} {r:ρ},GInv (dstsOf ops) G st.L→KS V st0 st→evL X n T yo (dstsOf ops) is l G V A st k=some r→(∀ V' st' r',KS V' st0 st'→k V' st'=some r'→Z [] r' st')→Z l r st
  | [],l,G,V,A,st,r,hG,h0,h,hk=>by
    have:=evOps_ok (rest:=[]) hX hZ (fun _ _ _ _ h'=>(conjR_ok (gd_some h').1).1) hG h0 h fun G' V' A' st' _ h0' h'=>hk V' st' _ h0' (gd_some h').2
    rwa [List.append_nil] at this
  | .n m :: is,l,G,V,A,st,r,hG,h0,h,hk=>by
    rw [← take_drop m l];exact evOps_ok hX hZ (fun _ _ _ _ h'=>evL_A h') hG h0 h fun G' V' A' st' hG' h0' h'=>evL_ok hX hZ hY hG' h0' h' hk
  | .w x :: is,l,G,V,A,st,r,hG,h0,h,hk=>by
    unfold evL at h
    split at h
    · rename_i c st1 e
      have hc:=evL_A h c List.mem_cons_self;exact hZ.weak (wki_ok e hc) (evL_ok hX hZ hY GInv.nil (h0.trans (wki_ks e)) h hk)
    · cases h
  | .c ps :: is,o :: l,G,V,A,st,r,hG,h0,h,hk=>by
    unfold evL at h;obtain ⟨_,st2,V2,h1,h2,h3⟩:=evC_ok h0 h;exact hZ.step h1.so (evL_ok hX hZ hY GInv.nil h2 h3 hk)
  | .c _ :: _,[],G,V,A,st,r,hG,h0,h,hk=>by cases h
  | .y :: is,o :: l,G,V,A,st,r,hG,h0,h,hk=>by
    unfold evL at h;obtain ⟨_,em,l',d,s,xs,ts,c,args,hyo,hop,ho,hd,hy,ha,hc,h⟩:=evY_ok h;obtain ⟨rf,rt,hf,ht,hz⟩:=hY em hyo h;have one:∀ {sv:SV},KS (d :: V) st0 ⟨(d,sv) :: st.L,st.H⟩:=fun {sv}=>⟨Kp.cons h0.1,h0.2.more fun q hq=>(inN_ne hq).2⟩
    exact hz hop ho hd hy ha hc (evL_ok hX hZ hY GInv.nil one hf hk) (evL_ok hX hZ hY GInv.nil one ht hk)
  | .y :: _,[],G,V,A,st,r,hG,h0,h,hk=>by cases h
  | .x :: _,[],G,V,A,st,r,hG,h0,h,hk=>by cases h
  | .x :: is,o :: l,G,V,A,st,r,hG,h0,h,hk=>by
    unfold evL at h;obtain ⟨_,W,st2,h1,h2,h3⟩:=evX_ok h0 h;exact hZ.step h1 (evL_ok hX hZ hY GInv.nil h2 h3 hk)
end
def keepL:List Nat→Sl→Sl
  | [],_=>[]
  | s :: r,L=>match lk L s with
    | some v=>match v.free with
      | true=>(s,v) :: keepL r L
      | false=>keepL r L
    | none=>keepL r L
def keepH:List Nat→Hp→Hp
  | [],_=>[]
  | s :: r,H=>match lk H s with
    | some v=>match v.free with
      | true=>(s,v) :: keepH r H
      | false=>keepH r H
    | none=>keepH r H
def isIn {α:Type} (L:List (Nat×α)) (s:Nat):Bool:=match lk L s with
  | some _=>true
  | none=>false
def okK {α:Type} (V ks:List Nat) (L:List (Nat×α)):List (Nat×α)→Bool
  | []=>true
  | p :: r=>match inN p.1 V,inN p.1 ks,isIn L p.1 with
    | false,false,true=>okK V ks L r
    | _,_,_=>false
def keysN {α:Type}:List (Nat×α)→List Nat
  | []=>[]
  | p :: r=>p.1 :: keysN r
def Sh.ids (σ:Sh):List Nat:=keysN σ.L++keysN σ.H
def Sh.S (σ:Sh) (st:ASt) (d:σ.D):ASt:=⟨(slS σ.L (ofT σ.T d)).1++keepL σ.kL st.L,(hpS σ.H (slS σ.L (ofT σ.T d)).2).1++keepH σ.kH st.H⟩
def Sh.get (σ:Sh) (st:ASt) (V:List Nat) (st':ASt):Option σ.D:=
  match okK V (keysN σ.L) st'.L (keepL σ.kL st.L),okK V (keysN σ.H) st'.H (keepH σ.kH st.H),nodupB (keysN σ.H++keysN (keepH σ.kH st.H)) with
  | true,true,true=>match pickH st'.H (keysN σ.H) with
    | some h=>match hpGet (T:=[]) σ.H h () with
      | some u=>match slGet σ.L st'.L u with
        | some u=>some (toT σ.T u)
        | none=>none
      | none=>none
    | none=>none
  | _,_,_=>none
theorem keepL_lk {s:Nat} {v:SV}:∀ {ks:List Nat} {L:Sl},lk (keepL ks L) s=some v→(s,v)∈keepL ks L∧lk L s=some v∧v.free=true
  | [],_,h=>by cases h
  | k :: r,L,h=>by
    unfold keepL at h ⊢
    split at h
    · rename_i u e
      split at h
      · rename_i hf
        rw [lk_cons] at h
        split at h
        · rename_i e2; cases h; exact ⟨by rw [e2]; exact List.mem_cons_self,by rw [e2]; exact e,hf⟩
        · obtain ⟨h1,h2⟩:=keepL_lk h; exact ⟨List.mem_cons_of_mem _ h1,h2⟩
      · exact keepL_lk h
    · exact keepL_lk h
theorem keepL_mem {p:Nat×SV}:∀ {ks:List Nat} {L:Sl},p∈keepL ks L→lk L p.1=some p.2∧p.2.free=true
  | [],_,h=>by cases h
  | k :: r,L,h=>by
    unfold keepL at h
    split at h
    · rename_i u e
      split at h
      · rename_i hf
        rcases List.mem_cons.1 h with rfl | h
        · exact ⟨e,hf⟩
        · exact keepL_mem h
      · exact keepL_mem h
    · exact keepL_mem h
theorem keepH_mem {p:Nat×Blk}:∀ {ks:List Nat} {L:Hp},p∈keepH ks L→lk L p.1=some p.2∧p.2.free=true
  | [],_,h=>by cases h
  | k :: r,L,h=>by
    unfold keepH at h
    split at h
    · rename_i u e
      split at h
      · rename_i hf
        rcases List.mem_cons.1 h with rfl | h
        · exact ⟨e,hf⟩
        · exact keepH_mem h
      · exact keepH_mem h
    · exact keepH_mem h
theorem mem_keep_lk {p:Nat×SV} {ks:List Nat} {L:Sl} (h:p∈keepL ks L):lk (keepL ks L) p.1=some p.2:=by
  obtain ⟨h1,h2⟩:=keepL_mem h
  induction ks with
  | nil=>cases h
  | cons k r ih=>
    unfold keepL at h ⊢
    split at h
    · rename_i u e
      split at h
      · rename_i hf
        rw [lk_cons]
        split
        · rename_i e2; rw [← e2,h1] at e; cases e; rfl
        · rename_i e2
          rcases List.mem_cons.1 h with rfl | h
          · exact absurd rfl e2
          · exact ih h
      · exact ih h
    · exact ih h
theorem mem_keep_lkH {p:Nat×Blk} {ks:List Nat} {L:Hp} (h:p∈keepH ks L):lk (keepH ks L) p.1=some p.2:=by
  obtain ⟨h1,h2⟩:=keepH_mem h
  induction ks with
  | nil=>cases h
  | cons k r ih=>
    unfold keepH at h ⊢
    split at h
    · rename_i u e
      split at h
      · rename_i hf
        rw [lk_cons]
        split
        · rename_i e2; rw [← e2,h1] at e; cases e; rfl
        · rename_i e2
          rcases List.mem_cons.1 h with rfl | h
          · exact absurd rfl e2
          · exact ih h
      · exact ih h
    · exact ih h
theorem okK_mem {α:Type} {V ks:List Nat} {L:List (Nat×α)} {p:Nat×α}:∀ {K:List (Nat×α)},okK V ks L K=true→p∈K→inN p.1 V=false∧inN p.1 ks=false∧∃ v,lk L p.1=some v
  | [],_,h=>by cases h
  | q :: r,h,hm=>by
    unfold okK at h
    split at h
    · rename_i h1 h2 h3
      rcases List.mem_cons.1 hm with rfl | hm
      · refine ⟨h1,h2,?_⟩
        unfold isIn at h3
        split at h3
        · rename_i v e; exact ⟨v,e⟩
        · cases h3
      · exact okK_mem h hm
    · cases h
theorem lk_append {α:Type} {q:Nat}:∀ {L L':List (Nat×α)},inN q (keysN L)=false→lk (L++L') q=lk L' q
  | [],_,_=>rfl
  | p :: r,L',h=>by
    obtain ⟨h1,h2⟩:=inN_ne h;rw [List.cons_append,lk_cons,if_neg h1];exact lk_append h2
theorem lk_append' {α:Type} {q:Nat} {v:α}:∀ {L L':List (Nat×α)},lk (L++L') q=some v→lk L q=some v∨inN q (keysN L)=false∧lk L' q=some v
  | [],_,h=>.inr ⟨rfl,h⟩
  | p :: r,L',h=>by
    rw [List.cons_append,lk_cons] at h;rw [lk_cons]
    split at h
    · rename_i e; rw [if_pos e]; exact .inl h
    · rename_i e
      rw [if_neg e]
      rcases lk_append' h with h | ⟨h1,h2⟩
      · exact .inl h
      · exact .inr ⟨inN_cons.2 ⟨e,h1⟩,h2⟩
theorem keys_slS:∀ (l:List (Nat×VS)) {T:List Type} (u:HL (slLT l T)),keysN (slS l u).1=keysN l
  | [],_,_=>rfl
  | p :: r,_,u=>by
    show p.1 :: keysN _=p.1 :: keysN _;rw [keys_slS r]
theorem keys_hpS:∀ (l:List (Nat×BS)) {T:List Type} (u:HL (hpLT l T)),keysN (hpS l u).1=keysN l
  | [],_,_=>rfl
  | p :: r,_,u=>by
    show p.1 :: keysN _=p.1 :: keysN _;rw [keys_hpS r]
theorem keys_pick:∀ {ks:List Nat} {h h':Hp},pickH h ks=some h'→keysN h'=ks
  | [],_,_,e=>by cases e; rfl
  | k :: ks,h,h',e=>by
    unfold pickH at e
    split at e
    · rename_i h1 h2
      split at e
      · cases e
        show k :: keysN _=_;rw [keys_pick h2]
      · cases e
    · cases e
theorem lk_none_keys {α:Type} {q:Nat}:∀ {L:List (Nat×α)},inN q (keysN L)=false→lk L q=none
  | [],_=>rfl
  | p :: r,h=>by
    obtain ⟨h1,h2⟩:=inN_ne h;rw [lk_cons,if_neg h1];exact lk_none_keys h2
theorem subH_app {h:Hp} {K:Hp}:∀ {h1:Hp},SubH h h1→(∀ p∈K,lk h p.1=some p.2)→nodupB (keysN h1++keysN K)=true→SubH h (h1++K):=by
  have base:∀ K:Hp,(∀ p∈K,lk h p.1=some p.2)→nodupB (keysN K)=true→SubH h K:=by
    intro K
    induction K with
    | nil=>exact fun _ _=>.nil
    | cons p r ih=>
      intro hk hn;have hn':(!(keysN r).elem p.1&&nodupB (keysN r))=true:=hn;simp only [Bool.and_eq_true,Bool.not_eq_true'] at hn';exact .cons (hk p List.mem_cons_self) (lk_none_elem hn'.1) (ih (fun q hq=>hk q (List.mem_cons_of_mem _ hq)) hn'.2)
  intro hs
  induction hs with
  | nil=>exact fun hk hn=>base K hk hn
  | cons hk1 hn1 hr ih=>
    rename_i k b r;intro hk hn;have hn':(!(keysN r++keysN K).elem k&&nodupB (keysN r++keysN K))=true:=hn;simp only [Bool.and_eq_true,Bool.not_eq_true'] at hn';refine .cons hk1 ?_ (ih hk hn'.2);refine lk_none_elem ?_
    have:∀ l:Hp,keysN (l++K)=keysN l++keysN K:=by
      intro l
      induction l with
      | nil=>rfl
      | cons p l ih=>show p.1 :: keysN (l++K)=_; rw [ih]; rfl
    show (keysN (r++K)).elem k=false;rw [this];exact hn'.1
where lk_none_elem {q:Nat}:∀ {L:Hp},(keysN L).elem q=false→lk L q=none
  | [],_=>rfl
  | p :: r,h=>by
    have h':(p.1 :: keysN r).elem q=false:=h;rw [List.elem_cons] at h'
    split at h'
    · cases h'
    · rename_i e
      rw [lk_cons,if_neg (by simpa using e)];exact lk_none_elem h'
def Was (σ:Sh) (st s0:ASt):Prop:=(∀ p∈keepL σ.kL st.L,inN p.1 (keysN σ.L)=false→lk s0.L p.1=some p.2)∧∀ p∈keepH σ.kH st.H,inN p.1 (keysN σ.H)=false→lk s0.H p.1=some p.2
theorem Was.self (σ:Sh) (st:ASt):Was σ st st:=⟨fun p hp _=>(keepL_mem hp).1,fun p hp _=>(keepH_mem hp).1⟩
theorem Was.step (σ:Sh) (st:ASt) (d:σ.D):Was σ st (σ.S st d):=⟨fun p hp hk=>by
  show lk (_++_) p.1=_;rw [lk_append (by rw [keys_slS]; exact hk)];exact mem_keep_lk hp,fun p hp hk=>by
  show lk (_++_) p.1=_;rw [lk_append (by rw [keys_hpS]; exact hk)];exact mem_keep_lkH hp⟩
theorem Sh.get_ok {X:Cx} {n:Nat} {σ:Sh} {st s0 st':ASt} {V:List Nat} {d:σ.D} (hw:Was σ st s0) (hs:KS V s0 st') (h:σ.get st V st'=some d):Wk X n st' (σ.S st d):=by
  unfold Sh.get at h
  split at h
  · rename_i k1 k2 k3
    split at h
    · rename_i h0 e0
      split at h
      · rename_i u e1
        split at h
        · rename_i u2 e2
          cases h;obtain ⟨h1,h2⟩:=hpGet_ok e1;obtain ⟨h3,h4⟩:=slGet_ok e2;have hkL:∀ p∈keepL σ.kL st.L,lk st'.L p.1=some p.2:=fun p hp=>by
            obtain ⟨g1,g2,v,g3⟩:=okK_mem k1 hp;obtain ⟨u,g4,g5⟩:=hs.1 p.1 v g1 g3;rw [hw.1 p hp g2] at g4;cases g4;rw [g3,g5 (keepL_mem hp).2]
          have hkH:∀ p∈keepH σ.kH st.H,lk st'.H p.1=some p.2:=fun p hp=>by
            obtain ⟨g1,g2,v,g3⟩:=okK_mem k2 hp;obtain ⟨u,g4,g5⟩:=hs.2 p.1 v g1 g3;rw [hw.2 p hp g2] at g4;cases g4;rw [g3,g5 (keepH_mem hp).2]
          rintro R W Bi M a w ⟨ks,env,B,w0,H,hM,hA⟩;have hsub:SubH st'.H (h0++keepH σ.kH st.H):=subH_app (pickH_ok e0) hkH (by rw [keys_pick e0]; exact k3);obtain ⟨H',hA'⟩:=hA.weak (st':=⟨[],h0++keepH σ.kH st.H⟩) .nil hsub;refine ⟨ks,env,B,w0,H',hM,hA'.size,hA'.defs,fun q sv hq=>?_,?_,hA'.sh,hA'.sub,hA'.new,hA'.pin,hA'.base,hA'.glob⟩
          · have hq':lk ((slS σ.L (ofT σ.T (toT σ.T u2))).1++keepL σ.kL st.L) q=some sv:=hq
            rw [ofT_toT] at hq'
            rcases lk_append' hq' with hq' | ⟨_,hq'⟩
            · obtain ⟨x,h5,h6⟩:=h4 q sv hq'
              obtain ⟨v,h7,h8⟩:=hA.has q x h5;exact ⟨v,h7,h6 _ _ _ _ h8⟩
            · obtain ⟨h5,_⟩:=keepL_lk hq'
              exact hA.has q sv (hkL _ h5)
          · show HR env B w0 ((hpS σ.H (slS σ.L (ofT σ.T (toT σ.T u2))).2).1++keepH σ.kH st.H) H'
            rw [ofT_toT,h3];obtain ⟨H1,H2,e,p1,p2⟩:=HR.split (l:=h0) hA'.heap;rw [e];exact (h2 _ _ _ _ p1).append p2
        · cases h
      · cases h
    · cases h
  · cases h
where HR.split {env:Nat→Loc} {B:Nat→Prop} {w:World}:∀ {l l':Hp} {H:List Ck},HR env B w (l++l') H→∃ H1 H2,H=H1++H2∧HR env B w l H1∧HR env B w l' H2
  | [],_,H,h=>⟨[],H,rfl,rfl,h⟩
  | _ :: _,_,_,⟨c,H',e,h1,h2⟩=>by
    obtain ⟨H1,H2,e2,p1,p2⟩:=HR.split h2;exact ⟨c :: H1,H2,by rw [e,e2]; rfl,⟨c,H1,rfl,h1,p1⟩,p2⟩
theorem Sh.ks (σ:Sh) (st:ASt) (d:σ.D):KS σ.ids st (σ.S st d):=by
  refine ⟨fun q v hq hl=>?_,fun q v hq hl=>?_⟩
  · rcases lk_append' (show lk (_++_) q=some v from hl) with h | ⟨_,h⟩
    · have:=lk_none_keys (L:=(slS σ.L (ofT σ.T d)).1) (q:=q) (by rw [keys_slS]; exact (inN_app.1 hq).1)
      rw [this] at h;cases h
    · obtain ⟨h1,h2,h3⟩:=keepL_lk h
      exact ⟨v,h2,fun _=>rfl⟩
  · rcases lk_append' (show lk (_++_) q=some v from hl) with h | ⟨_,h⟩
    · have:=lk_none_keys (L:=(hpS σ.H (slS σ.L (ofT σ.T d)).2).1) (q:=q) (by rw [keys_hpS]; exact (inN_app.1 hq).2)
      rw [this] at h;cases h
    · exact ⟨v,keepH_lk h,fun _=>rfl⟩
where keepH_lk {s:Nat} {v:Blk}:∀ {ks:List Nat} {L:Hp},lk (keepH ks L) s=some v→lk L s=some v
  | [],_,h=>by cases h
  | k :: r,L,h=>by
    unfold keepH at h
    split at h
    · rename_i u e
      split at h
      · rw [lk_cons] at h
        split at h
        · rename_i e2; cases h; rw [e2]; exact e
        · exact keepH_lk h
      · exact keepH_lk h
    · exact keepH_lk h
end Go.Proofs.Yteglgnkcpaagjaa

/- A walker: regions whose order is drawn. -/
namespace Go.Proofs.Yteglgnkcpaagjaa
open Go.RowKit
inductive DI where
  | t (i m:Nat)
  | m (i:Nat)
  | s (i:Nat)
  | k (i:Nat)
  | c (i:Nat) (ps:Ps)
  | z (id:Nat)
  | f
def cntD:List DI→Nat
  | []=>0
  | .z _ :: r=>cntD r
  | .f :: r=>cntD r
  | _ :: r=>cntD r+1
def dPart (al:Bool) (m:Nat) (H:Hp):Hp:=match m with
  | 1=>[]
  | 3=>match al with
    | true=>H
    | false=>celH H
  | _=>H
def dC (al:Bool) (m:Nat) (H:List Ck):List Ck:=match m with
  | 1=>[]
  | 3=>H.filter (kf al)
  | _=>H
theorem dC_ok {al:Bool} {m:Nat} {env:Nat→Loc} {B:Nat→Prop} {w:World} {l:Hp} {H:List Ck} (h:HR env B w l H):HR env B w (dPart al m l) (dC al m H)∧(dC al m H).Sublist H:=by
  unfold dPart dC
  split
  · exact ⟨rfl,List.nil_sublist _⟩
  · cases al with
    | true=>exact ⟨by
        have e:H.filter (kf true)=H:=List.filter_eq_self.2 fun _ _=>rfl
        show HR env B w l (H.filter (kf true));rw [e]; exact h,List.filter_sublist⟩
    | false=>exact ⟨h.cel,List.filter_sublist⟩
  · exact ⟨h,List.Sublist.refl _⟩
def takeOk (ops:Array Oper) (E:List Nat) (i m:Nat) (ds:DS):Bool:=match m with
  | 0=>baseOk ops ds.listed i&&needOk ops E ds.listed ds.pre i&&kindAt (fun o=>isPure o&&!isLoad o) ops i
  | 1=>baseOk ops ds.listed i&&needOk ops E ds.listed ds.pre i&&kindAt isPure ops i&&ds.nocall
  | 3=>baseOk ops ds.listed i&&restIn ops E (behind ops i) ds.listed i&&kindAt isPure ops i&&ds.early&&ds.pre
  | _=>false
def DS.next (ds:DS) (i:Nat):DS:=⟨ds.listed.setIfInBounds i true,ds.early,ds.pre,ds.nocall,ds.all⟩
section
variable {X:Cx} {ρ:Type}
def evD (X:Cx) (n:Nat) (T:List (CT X)) (ops:List Oper) (E:List Nat):List DI→DS→Gd→List Nat→List Bool→ASt→(List Nat→ASt→Option ρ)→Option ρ
  | [],ds,_,V,A,st,k=>match Region.ready .any ops.toArray ds.listed with
    | []=>gd (conjR A true) (k V st)
    | _=>none
  | .t i m :: r,ds,G,V,A,st,k=>match nth ops i,takeOk ops.toArray E i m ds with
    | some o,true=>match o.guard,o.dst with
      | none,some d=>match apureG X (dstsOf ops) [] G ⟨st.L,dPart ds.all m st.H⟩ o.op,Nat.blt d n with
        | some (c,sa),true=>evD X n T ops E r (ds.next i) (dropG (dstsOf ops) d G) (d :: V) (c :: A) ⟨(d,.a sa) :: st.L,st.H⟩ k
        | _,_=>none
      | some (j,want),some d=>match nth (dstsOf ops) j with
        | some (some s)=>match gvalOf st.L s want with
          | some g=>match apureG X (dstsOf ops) (anc (dstsOf ops) G 8 j want) G ⟨st.L,dPart ds.all m st.H⟩ o.op,Nat.blt d n,Nat.beq s d with
            | some (c,sa),true,false=>evD X n T ops E r (ds.next i) ((d,j,want) :: dropG (dstsOf ops) d G) (d :: V) (impB g c :: A) ⟨(d,.may g sa) :: st.L,st.H⟩ k
            | _,_,_=>none
          | none=>none
        | _=>none
      | _,none=>none
    | _,_=>none
  | .m i :: r,ds,G,V,A,st,k=>match nth ops i,takeOk ops.toArray E i 0 ds with
    | some o,true=>match o.guard,o.dst,tupMv st.L o.op with
      | none,some d,some xs=>match Nat.blt d n with
        | true=>evD X n T ops E r (ds.next i) (dropG (dstsOf ops) d G) (d :: V) A ⟨(d,.tup xs) :: st.L,st.H⟩ k
        | false=>none
      | _,_,_=>none
    | _,_=>none
  | .s i :: r,ds,_,V,A,st,k=>match nth ops i,Region.ready .any ops.toArray ds.listed == [i],E.elem i with
    | some o,true,false=>match o.guard with
      | none=>match xstep X n st o with
        | some (c,st',W)=>evD X n T ops E r ⟨ds.listed.setIfInBounds i true,false,false,ds.nocall,ds.all⟩ [] (W++V) (c :: A) st' k
        | none=>match astep X n (dstsOf ops) st o with
          | .ok c st'=>evD X n T ops E r ⟨ds.listed.setIfInBounds i true,false,false,ds.nocall,ds.all⟩ [] (touchO X st.L o++V) (c :: A) st' k
          | .stop=>none
      | some _=>none
    | _,_,_=>none
  | .k i :: r,ds,_,V,A,st,k=>match nth ops i,Region.ready .any ops.toArray ds.listed == [i],ds.pre with
    | some o,true,true=>match o.guard,kindKeep o.op&&keepD o st.H&&!ds.all with
      | none,true=>match astep X n (dstsOf ops) st o with
        | .ok c st'=>evD X n T ops E r ⟨ds.listed.setIfInBounds i true,false,true,ds.nocall,ds.all⟩ [] (touchO X st.L o++V) (c :: A) st' k
        | .stop=>none
      | _,_=>none
    | _,_,_=>none
  | .c i ps :: r,ds,_,V,A,st,k=>match nth ops i,Region.ready .any ops.toArray ds.listed == [i],!E.elem i || (ds.pre&&ps.isEmpty) with
    | some o,true,true=>evC X n T ps V A st (fun G' V' A' st'=>evD X n T ops E r ⟨ds.listed.setIfInBounds i true,false,ds.pre&&ps.isEmpty,false,ds.all⟩ G' V' A' st' k) o
    | _,_,_=>none
  | .z id :: r,ds,_,V,A,st,k=>match frz id st with
    | some st'=>evD X n T ops E r ⟨ds.listed,false,ds.pre&&!ds.all,false,ds.all⟩ [] V A st' k
    | none=>none
  | .f :: r,ds,G,V,A,st,k=>match E.isEmpty || ds.pre with
    | true=>evD X n T ops E r ⟨ds.listed,true,true,true,ds.all⟩ G V A st k
    | false=>none
variable {M:Bool} {n:Nat} {T:List (CT X)} {st0 st st':ASt} {Q:Exit→ASt→Prop} {ops:List Oper} {o:Oper} {r:ρ} {V:List Nat} {A:List Bool} {E:List Nat} {ds:DS} {fuel i:Nat}
theorem evD_A {k:List Nat→ASt→Option ρ}:∀ {is:List DI} {ds:DS} {G:Gd} {V:List Nat} {A:List Bool} {st:ASt},evD X n T ops E is ds G V A st k=some r→∀ c∈A,c=true
  | [],ds,G,V,A,st,h=>by
    unfold evD at h
    split at h
    · exact (conjR_ok (gd_some h).1).1
    · cases h
  | .t i m :: is,ds,G,V,A,st,h=>by
    unfold evD at h
    split at h
    · split at h
      · split at h
        · exact fun c hc=>evD_A h c (List.mem_cons_of_mem _ hc)
        · cases h
      · split at h
        · split at h
          · split at h
            · exact fun c hc=>evD_A h c (List.mem_cons_of_mem _ hc)
            · cases h
          · cases h
        · cases h
      · cases h
    · cases h
  | .m i :: is,ds,G,V,A,st,h=>by
    unfold evD at h
    split at h
    · split at h
      · split at h
        · exact evD_A h
        · cases h
      · cases h
    · cases h
  | .s i :: is,ds,G,V,A,st,h=>by
    unfold evD at h
    split at h
    · split at h
      · split at h
        · exact fun c hc=>evD_A h c (List.mem_cons_of_mem _ hc)
        · split at h
          · exact fun c hc=>evD_A h c (List.mem_cons_of_mem _ hc)
          · cases h
      · cases h
    · cases h
  | .k i :: is,ds,G,V,A,st,h=>by
    unfold evD at h
    split at h
    · split at h
      · split at h
        · exact fun c hc=>evD_A h c (List.mem_cons_of_mem _ hc)
        · cases h
      · cases h
    · cases h
  | .c i ps :: is,ds,G,V,A,st,h=>by
    unfold evD at h
    split at h
    · exact (evC_ok (KS.refl (V:=V) st) h).1
    · cases h
  | .z id :: is,ds,G,V,A,st,h=>by
    unfold evD at h
    split at h
    · exact evD_A h
    · cases h
  | .f :: is,ds,G,V,A,st,h=>by
    unfold evD at h
    split at h
    · exact evD_A h
    · cases h
theorem partG (hX:X.tt.ok X.P) {R:Nat→Prop} {W:World} {Bi:Bk} {ks:List Nat} {env:Nat→Loc} {B:Nat→Prop} {w0:World} {H C:List Ck} {L:Sl} {HH h:Hp} {a:Act} {w:World} {c:Bool} {G:Gd} {ps:List (Nat×Bool)} {sa:SA} (hA:AI X R W Bi n ks env B w0 H ⟨L,HH⟩ a w) (hh:HR env B w0 h C) (hC:C.Sublist H) (hG:GInv (dstsOf ops) G L) (hp:∀ p∈ps,PT (dstsOf ops) L p) (hs:apureG X (dstsOf ops) ps G ⟨L,h⟩ o.op=some (c,sa)) (hc:c=true) :
    ∃ v,SaR env B w0 sa v∧∀ w',(isLoad o.op=true→SH (fun k=>R k∨B k) w0 C w')→(execOp a.eval o).run X.P w'=.ok (.value v) w':=by
  have hA1:AI X R W Bi n [] env B w0 C ⟨L,h⟩ { tmps:=a.tmps,defers:=[] } w:=⟨hA.size,rfl,hA.has,hh,hA.sh.weak (by simpa using hC.trans (List.sublist_append_left _ _)),hA.sub,hA.new,hA.pin,hA.base,hA.glob⟩
  obtain ⟨v,h1,h2⟩:=apureG_all hX hA1 hG hp hs hc;refine ⟨v,h1,fun w' hw=>?_⟩
  have:=h2 w' (by simpa using hw)
  exact this
theorem takeG (hX:X.tt.ok X.P) {m d:Nat} {sv:SV} {R:Nat→Prop} {W:World} {Bi:Bk} {B0:Nat→Prop} {w00:World} {CS:List Ck} {F:World→Prop} {ks:List Nat} {env:Nat→Loc} {B:Nat→Prop} {w0:World} {H:List Ck} {a:Act} {w:World} {QQ:Exit→Act→World→Prop} (hi:nth ops i=some o) (ht:takeOk ops.toArray E i m ds=true) (hdst:o.dst=some d) (hd:Nat.blt d n=true)
    (hA:AI X R W Bi n ks env B w0 H st a w) (hD:DInv R ds B0 w00 CS F B w0 H) (v:Value) (hV:VR env B w0 sv v)
    (hy:∀ T:World→Prop,(∀ w',T w'→isLoad o.op=true→SH (fun k=>R k∨B k) w0 (dC ds.all m H) w')→YieldsIf X.P ops.toArray T o v a)
    (hIH:∀ a',AI X R W Bi n ks env B w0 H ⟨(d,sv) :: st.L,st.H⟩ a' w→DInv R (ds.next i) B0 w00 CS F B w0 H→wpAnyJ X.P ops.toArray QQ (fun j w=>(E.elem j=true→SH (fun k=>R k∨B0 k) w00 CS w)∧F w) fuel (ds.next i).listed a' w) :
    wpAnyJ X.P ops.toArray QQ (fun j w=>(E.elem j=true→SH (fun k=>R k∨B0 k) w00 CS w)∧F w) (fuel+1) ds.listed a w:=by
  have hio:=nth_arr hi;have hFw:F w:=hD.F hA;have hA3:=hA.set (sv:=sv) hV (show St n (ks.map markOf) ((d,v) :: full a) (a.put o.dst v) by rw [hdst]; exact hA.stt.put d v (lt_of_blt hd));have hD':DInv R (ds.next i) B0 w00 CS F B w0 H:=⟨hD.early,hD.pre,hD.frz,hD.frz'⟩
  have go:=hIH _ hA3 hD';unfold takeOk at ht
  split at ht
  · simp only [kindAt,hio,Bool.and_eq_true,Bool.not_eq_true'] at ht
    obtain ⟨⟨hbase,hneed⟩,hpure,hload⟩:=ht;obtain ⟨hn1,hn2⟩:=need_cases hneed;exact ad_tail (E.elem i) v hio hbase id hn1 (hy _ fun w' _ hl=>by rw [hload] at hl; cases hl) (fun he=>hD.T (hn2 he) hA) hFw go
  · simp only [kindAt,hio,Bool.and_eq_true] at ht
    obtain ⟨⟨⟨hbase,hneed⟩,hpure⟩,hnc⟩:=ht;obtain ⟨hn1,hn2⟩:=need_cases hneed;refine ad_tail (E.elem i) v hio hbase id hn1 (hy _ fun w' hw' _=>?_) (fun he=>hD.T (hn2 he) hA) hFw go;have hw2:=hw'.2;rw [hD.frz hnc] at hw2;refine ⟨hw2,fun k hk=>?_,(fun _ h=>by cases h),List.Pairwise.nil⟩;have h3:=hA.sh.base k hk;have h4:=hA.sh.below.block k hk;have h5:=hw2.block k hk;rw [← h4,Array.getElem?_eq_getElem h3] at h5;exact (Array.getElem?_eq_some_iff.1 h5).1
  · simp only [kindAt,hio,Bool.and_eq_true] at ht
    obtain ⟨⟨⟨⟨hbase,hrest⟩,hpure⟩,hearly⟩,hpre⟩:=ht;refine ad_tail true v hio hbase (fun _=>rfl) (fun _=>hrest) (hy _ fun w' hw' _=>?_) (fun _=>hD.T hpre hA) hFw go;have hw2:=hw'.1 rfl;obtain ⟨e1,e2,e3⟩:=hD.early hearly;rw [e1,e2,e3] at hw2;exact hw2
  · cases ht
theorem ado_sc {kp pre':Bool} (hi:nth ops i=some o) (hp:StepC X n o kp st st') (hpr:pre'=(ds.pre&&kp)) (hE:(!E.elem i || pre')=true) (h:AD X M n ops E fuel ⟨ds.listed.setIfInBounds i true,false,pre',false,ds.all⟩ st' Q):ADo X M n ops E fuel ds st Q i:=by
  intro R W Bi B0 w00 CS F ks env B w0 H a w hM hA hD;refine ⟨o,nth_arr hi,hp R W Bi ks env B w0 H a w hA _ _ fun a' w' env' B' w0' H' hA' hsub hKO hkeep=>?_⟩;have hD':DInv R ⟨ds.listed.setIfInBounds i true,false,pre',false,ds.all⟩ B0 w00 CS F B' w0' H':=⟨fun h=>(by cases h),fun h=>by
    have h':pre'=true:=h;rw [hpr,Bool.and_eq_true] at h';obtain ⟨g1,g2,g3,g4⟩:=hD.pre h'.1;exact ⟨fun c hc=>⟨hkeep h'.2 c (g1 c hc).1,(g1 c hc).2⟩,g2,fun k hk=>hsub k (g3 k hk),g4.trans ⟨hKO.os,hKO.tape,hKO.output,hKO.size,fun k hk=>hKO.block k (hk.imp id (g3 k))⟩⟩,fun h=>(by cases h),fun w hw=>hD.frz' w (hKO.trans ⟨hw.os,hw.tape,hw.output,hw.size,fun k hk=>hw.block k (hk.imp id (hsub k))⟩)⟩
  refine ⟨⟨fun hh=>hD'.T ?_ hA',hD'.F hA'⟩,h R W Bi B0 w00 CS F ks env' B' w0' H' a' w' hM hA' hD'⟩;rw [hh] at hE;exact hE
theorem ad_solo (hr:(Region.ready .any ops.toArray ds.listed == [i])=true) (h:ADo X M n ops E fuel ds st Q i):AD X M n ops E (fuel+1) ds st Q:=ad_ready (beq_iff_eq.1 hr) (ads_cons h ads_nil)
theorem evD_ok (hX:X.tt.ok X.P) {k:List Nat→ASt→Option ρ} {r:ρ} (hk:∀ V' st',KS V' st0 st'→k V' st'=some r→Q .normal st'):∀ {is:List DI} {ds:DS} {G:Gd} {V:List Nat} {A:List Bool} {st:ASt},GInv (dstsOf ops) G st.L→KS V st0 st→evD X n T ops E is ds G V A st k=some r→AD X M n ops E (cntD is) ds st Q
  | [],ds,G,V,A,st,hG,h0,h=>by
    unfold evD at h
    split at h
    · rename_i e
      exact ad_done e (hk V st h0 (gd_some h).2)
    · cases h
  | .t i m :: is,ds,G,V,A,st,hG,h0,h=>by
    have one:∀ {d:Nat} {sv:SV},KS (d :: V) st0 ⟨(d,sv) :: st.L,st.H⟩:=fun {d sv}=>⟨Kp.cons h0.1,h0.2.more fun q hq=>(inN_ne hq).2⟩
    unfold evD at h
    split at h
    · rename_i o hi ht
      split at h
      · rename_i d hgd hdst
        split at h
        · rename_i c sa e1 hd
          have hc:=evD_A h c List.mem_cons_self;have ih:=evD_ok (is:=is) hX hk (hG.drop d _) one h;intro R W Bi B0 w00 CS F ks env B w0 H a w hM hA hD;obtain ⟨v,hv,hrun⟩:∃ v,SaR env B w0 sa v∧∀ w',(isLoad o.op=true→SH (fun k=>R k∨B k) w0 (dC ds.all m H) w')→(execOp a.eval o).run X.P w'=.ok (.value v) w':=partG hX hA (dC_ok hA.heap).1 (dC_ok hA.heap).2 hG (fun _ h=>by cases h) e1 hc;exact takeG (sv:=.a sa) hX hi ht hdst hd hA hD v hv (fun T hT=>.inl ⟨by simp [Region.wanted,hgd],fun w' hw'=>hrun w' (hT w' hw')⟩) fun a' hA' hD'=>ih R W Bi B0 w00 CS F ks env B w0 H a' w hM hA' hD'
        · cases h
      · rename_i j want d hgd hdst
        split at h
        · rename_i s hj
          split at h
          · rename_i g hg
            split at h
            · rename_i c sa e1 hd hsd
              have hc:=evD_A h _ List.mem_cons_self;have hne:s≠d:=Nat.ne_of_beq_eq_false hsd;have hG':GInv (dstsOf ops) ((d,j,want) :: dropG (dstsOf ops) d G) ((d,.may g sa) :: st.L):=fun e he=>by
                rcases List.mem_cons.1 he with rfl | he
                · exact ⟨s,g,sa,hj,by rw [gvalOf_cons hne]; exact hg,by rw [lk_cons,if_pos rfl]⟩
                · exact hG.drop d _ e he
              have ih:=evD_ok (is:=is) hX hk hG' one h;intro R W Bi B0 w00 CS F ks env B w0 H a w hM hA hD;have hw:=wanted_gval (l:=ops) hA hgd hj hg;cases g with
              | true=>
                obtain ⟨v,hv,hrun⟩:∃ v,SaR env B w0 sa v∧∀ w',(isLoad o.op=true→SH (fun k=>R k∨B k) w0 (dC ds.all m H) w')→(execOp a.eval o).run X.P w'=.ok (.value v) w':=partG hX hA (dC_ok hA.heap).1 (dC_ok hA.heap).2 hG (anc_true hG ⟨s,hj,hg⟩) e1 (impB_ok hc rfl);exact takeG (sv:=.may true sa) hX hi ht hdst hd hA hD v ⟨fun _=>hv,fun h=>by cases h⟩ (fun T hT=>.inl ⟨hw,fun w' hw'=>hrun w' (hT w' hw')⟩) fun a' hA' hD'=>ih R W Bi B0 w00 CS F ks env B w0 H a' w hM hA' hD'
              | false=>exact takeG (sv:=.may false sa) hX hi ht hdst hd hA hD undef ⟨(fun h=>by cases h),fun _=>rfl⟩ (fun T hT=>.inr ⟨hw,rfl⟩) fun a' hA' hD'=>ih R W Bi B0 w00 CS F ks env B w0 H a' w hM hA' hD'
            · cases h
          · cases h
        · cases h
      · cases h
    · cases h
  | .m i :: is,ds,G,V,A,st,hG,h0,h=>by
    unfold evD at h
    split at h
    · rename_i o hi ht
      split at h
      · rename_i d xs hgd hdst hm
        split at h
        · rename_i hd
          have one:KS (d :: V) st0 ⟨(d,.tup xs) :: st.L,st.H⟩:=⟨Kp.cons h0.1,h0.2.more fun q hq=>(inN_ne hq).2⟩
          have ih:=evD_ok (is:=is) hX hk (hG.drop d _) one h;intro R W Bi B0 w00 CS F ks env B w0 H a w hM hA hD;obtain ⟨v,h1,h2⟩:=tupMv_ok hA hm;exact takeG (sv:=.tup xs) hX hi ht hdst hd hA hD v h1 (fun T hT=>.inl ⟨by simp [Region.wanted,hgd],fun w' hw'=>h2 w'⟩) fun a' hA' hD'=>ih R W Bi B0 w00 CS F ks env B w0 H a' w hM hA' hD'
        · cases h
      · cases h
    · cases h
  | .s i :: is,ds,G,V,A,st,hG,h0,h=>by
    unfold evD at h
    split at h
    · rename_i o hi hr hE
      split at h
      · rename_i hgd
        split at h
        · rename_i c st' W e1
          have hc:=evD_A h c List.mem_cons_self;exact ad_solo hr (ado_sk hi (xstep_ok hX e1 hc) hE rfl (evD_ok (is:=is) hX hk GInv.nil (h0.trans (xstep_ks e1)) h))
        · split at h
          · rename_i c st' e1
            have hc:=evD_A h c List.mem_cons_self;exact ad_solo hr (ado_step hX hi hE e1 hc rfl (evD_ok (is:=is) hX hk GInv.nil (h0.trans (astep_ks hgd e1)) h))
          · cases h
      · cases h
    · cases h
  | .k i :: is,ds,G,V,A,st,hG,h0,h=>by
    unfold evD at h
    split at h
    · rename_i o hi hr hpre
      split at h
      · rename_i hgd hkk
        split at h
        · rename_i c st' e1
          have hc:=evD_A h c List.mem_cons_self;simp only [Bool.and_eq_true] at hkk;exact ad_solo hr (ado_keep hX hi (by rw [hpre,hkk.1.1,hkk.1.2,hkk.2]; rfl) e1 hc rfl (evD_ok (is:=is) hX hk GInv.nil (h0.trans (astep_ks hgd e1)) h))
        · cases h
      · cases h
    · cases h
  | .c i ps :: is,ds,G,V,A,st,hG,h0,h=>by
    unfold evD at h
    split at h
    · rename_i o hi hr hE
      obtain ⟨_,st2,V2,h1,h2,h3⟩:=evC_ok h0 h;exact ad_solo hr (ado_sc hi h1 rfl hE (evD_ok (is:=is) hX hk GInv.nil h2 h3))
    · cases h
  | .z id :: is,ds,G,V,A,st,hG,h0,h=>by
    unfold evD at h
    split at h
    · rename_i st' e1
      have hks:KS [] st st':=by
        unfold frz at e1
        split at e1
        · cases e1; exact ⟨kl_sub _ _ _,kh_del _ _ _⟩
        · cases e1
      exact ad_frz id e1 (evD_ok (is:=is) hX hk GInv.nil (h0.trans hks) h)
    · cases h
  | .f :: is,ds,G,V,A,st,hG,h0,h=>by
    unfold evD at h
    split at h
    · rename_i e1
      exact ad_fresh e1 (evD_ok (is:=is) hX hk hG h0 h)
    · cases h
end
end Go.Proofs.Yteglgnkcpaagjaa

/- Ranges over functions whose elements are known, one after another. -/
namespace Go.Proofs.Yteglgnkcpaagjaa
open Go.RowKit
def StabE {β:Type} (J:β→(Nat→Prop)→World→Prop):Prop:=∀ l C W W',J l C W→KO C W W'→J l C W'
structure Grow (B C C':Nat→Prop) (W W':World):Prop where
  keep:KO (fun k=>B k∨(k < W.heap.size∧¬ C k)) W W'
  new:∀ k,C' k→C k∨W.heap.size≤k∨B k
structure Adopt (C Bc B2:Nat→Prop) (W:World):Prop where
  sub:∀ k,Bc k→B2 k
  new:∀ k,B2 k→Bc k∨(¬ C k∧∃ cs e fr,W.heap[k]?=some (.cells cs e fr))
def StabJ {β:Type} (J:β→(Nat→Prop)→(Nat→Prop)→World→Prop):Prop:=∀ l C Bc W W',J l C Bc W→KO C W W'→J l C Bc W'
def SeqE {α:Type} (P:Program) (g:Nat) (lb:List Value) (B:Nat→Prop) (w0:World) (l:List α) (enc:(Nat→Prop)→World→α→List Value→Prop):Prop:=
  ∀ (id:Nat) (J:List α→(Nat→Prop)→(Nat→Prop)→World→Prop) (Jx:Unit→(Nat→Prop)→World→Prop) (W:World),KO B w0 W→(∀ k,B k→k < w0.heap.size)→StabJ J→StabE Jx→(∀ r C Bc W,J r C Bc W→∀ k,C k→k < W.heap.size)→(∀ r C W,Jx r C W→∀ k,C k→k < W.heap.size)→(∀ r C Bc W,J r C Bc W→∀ k,Bc k→C k) →
    (∀ x rest C Bc B2 W1 vs,J (x :: rest) C Bc W1→Adopt C Bc B2 W1→enc B2 W1 x vs→YieldAt Fence.wide 1 P id vs.toArray W1 fun e W'=>
      (e=.returned (.bool true)∧∃ C',J rest C' B2 W'∧Grow B2 C C' W1 W')∨(e=.returned (.bool false)∧∃ C',Jx () C' W'∧Grow B2 C C' W1 W')) →
    ∀ C,J l C B W→CallsIn Fence.wide 1 P g (#[.func (.yield id) #[] #[]]++lb.toArray) W fun e W'=>(∃ v,e=.returned v)∧∃ C',(∃ Bc,J [] C' Bc W')∨Jx () C' W'
def postE {α:Type} (B:Nat→Prop) (I:List α→(Nat→Prop)→(Nat→Prop)→World→Prop) (Ix:Code→(Nat→Prop)→World→Prop) (rest:List α) (C:Nat→Prop) (W:World):Exit→Act→World→Prop
  | .normal,_,W'=>∃ C',I rest C' B W'∧Grow B C C' W W'
  | .ret,_,W'=>∃ C',Ix .ret C' W'∧Grow B C C' W W'
  | .exit id,_,W'=>∃ C',Ix (.exit id) C' W'∧Grow B C C' W W'
  | _,_,_=>False
theorem ko_put {C:Nat→Prop} {W:World} {k:Nat} {o:Obj} (h:¬ C k):KO C W (W.putObj k o):=⟨rfl,rfl,rfl,by simp,fun q hq=>World.putObj_heap_other fun e=>h (e ▸ hq)⟩
theorem wpIn_rangeE {α:Type} {P:Program} {g:Operand} {ps:Array Tmp} {assign body:Code} {Q:Exit→Act→World→Prop} {a:Act} {w:World} {gf:Nat} {lb:List Value} {B:Nat→Prop} {w0:World} {l:List α} {enc:(Nat→Prop)→World→α→List Value→Prop}
    (hg:a.eval g=.func (.func gf) #[] lb.toArray) (eg:∀ args w,(callFunc gf args).run P w=.ok (.enter gf args) w)
    (hseq:SeqE P gf lb B w0 l enc) (hb0:KO B w0 w) (hB:∀ k,B k→k < w0.heap.size) (hps:∀ B2 W x vs,enc B2 W x vs→vs.length=ps.size) (hup:∀ B2 W W' x vs,KO B2 W W'→enc B2 W x vs→enc B2 W' x vs)
    (I:List α→(Nat→Prop)→(Nat→Prop)→World→Prop) (Ix:Code→(Nat→Prop)→World→Prop) (hI:StabJ I) (hIx:StabE Ix) (hlt:∀ r C Bc W,I r C Bc W→∀ k,C k→k < W.heap.size) (hbc:∀ r C Bc W,I r C Bc W→∀ k,Bc k→C k) (hltx:∀ r C W,Ix r C W→∀ k,C k→k < W.heap.size) (C0:Nat→Prop) (h0:I l C0 B w)
    (a₁:List Value→Act)
    (hassign:∀ (id:Nat) (x:α) (vs:List Value) (W:World) (K:Act→World→Prop),vs.length=ps.size→K (a₁ vs) W →
      assign.wpIn (Fence.wide.inRound id) 1 P (Exit.then K (fun _ _ _=>False)) { tmps:=(ps.zip vs.toArray).foldl (fun t (p,v)=>t.setIfInBounds p v) a.tmps,defers:=[] } W)
    (hbody:∀ (id:Nat) (x:α) (rest:List α) (vs:List Value) (C Bc B2:Nat→Prop) (W:World),I (x :: rest) C Bc W→Adopt C Bc B2 W→enc B2 W x vs→body.wpIn (Fence.wide.inRound id) 1 P (postE B2 I Ix rest C W) (a₁ vs) W)
    (hdone:∀ (D:Nat) (C Bc:Nat→Prop) (W:World),w.heap.size≤D→¬ C D→I [] C Bc W→W.heap[D]?=some (.deferred (some []))→Q .normal { a with defers:={ target:=.collected D,args:=#[] } :: a.defers } W)
    (hstop:∀ (D:Nat) (c:Code) (C:Nat→Prop) (W:World),w.heap.size≤D→¬ C D→Ix c C W→W.heap[D]?=some (.deferred (some []))→c.wpIn Fence.wide 2 P Q { a with defers:={ target:=.collected D,args:=#[] } :: a.defers } W) :
    (Code.rangeFunc g ps assign body).wpIn Fence.wide 2 P Q a w:=by
  refine wpIn_rangeFunc ?_;intro fn hfn;have hro:Fence.wide.round=none:=rfl;rw [hro];obtain ⟨rec,hrec⟩:∃ rec:LoopState→Option Code→Loop,rec=fun st pe=>{ state:=st,pending:=pe,fn,tmps:=a.tmps,params:=ps,assign,body,defers:=w.heap.size }:=⟨_,rfl⟩
  obtain ⟨W1,hW1⟩:∃ W1,(w.alloc (.deferred (some []))).alloc (.loop (rec .ready none))=W1:=⟨_,rfl⟩
  have hL1:W1.heap[w.heap.size+1]?=some (.loop (rec .ready none)):=by
    rw [← hW1]; have:=World.alloc_heap_new (w.alloc (.deferred (some []))) (.loop (rec .ready none)); rwa [World.size_alloc] at this
  have hK1:W1.heap[w.heap.size]?=some (.deferred (some [])):=by
    rw [← hW1]; exact (Below.heap_alloc _ _ _ (by simp)).trans (World.alloc_heap_new w _)
  have hs1:W1.heap.size=w.heap.size+2:=by rw [← hW1]; simp
  have hko:∀ {C:Nat→Prop},(∀ k,C k→k < w.heap.size)→KO C w W1:=fun {C} hC=>by
    rw [← hW1];exact ⟨rfl,rfl,rfl,by simp; omega,fun k hk=>by
      have:=hC k hk
      exact (Below.heap_alloc _ _ _ (by simp; omega)).trans (Below.heap_alloc _ _ _ this)⟩
  have hBw:∀ k,B k→k < w.heap.size:=fun k hk=>Nat.lt_of_lt_of_le (hB k hk) hb0.size
  have hC0:=hlt _ _ _ _ h0;have hI1:I l C0 B W1:=hI _ _ _ _ _ h0 (hko hC0)
  let D:=w.heap.size
  let id:=w.heap.size+1
  let J:List α→(Nat→Prop)→(Nat→Prop)→World→Prop:=fun r C Bc W=>∃ C0,(∀ k,C k ↔ C0 k∨k=D∨k=id)∧¬ C0 D∧¬ C0 id∧I r C0 Bc W∧W.heap[id]?=some (.loop (rec .ready none))∧W.heap[D]?=some (.deferred (some []))
  let Jx:Unit→(Nat→Prop)→World→Prop:=fun _ C W=>∃ C0 c,(∀ k,C k ↔ C0 k∨k=D∨k=id)∧¬ C0 D∧¬ C0 id∧Ix c C0 W∧W.heap[id]?=some (.loop (rec .done (some c)))∧W.heap[D]?=some (.deferred (some []))
  have hsub:∀ {C C0:Nat→Prop} {W W':World},(∀ k,C k ↔ C0 k∨k=D∨k=id)→KO C W W'→KO C0 W W':=fun hC h=>⟨h.os,h.tape,h.output,h.size,fun k hk=>h.block k ((hC k).2 (.inl hk))⟩
  refine ⟨w.heap.size+1,[{ target:=.collected w.heap.size,args:=#[] }],W1,{ target:=.fn (.func gf) lb.toArray,args:=#[.func (.yield (w.heap.size+1)) #[] #[]] },W1,gf,
    #[.func (.yield (w.heap.size+1)) #[] #[]]++lb.toArray,W1,?_,?_,?_,?_,fun _=>by omega,?_⟩
  · rw [← hW1,hrec]; exact run_enterLoop_outer _ _ _ _ _
  · simp only [resolve,hg]
    simp [go_sem]
  · intro f' hf'
    exact trivial
  · simp [invoke,go_sem,eg]
  · refine (hseq id J Jx W1 (hb0.trans (hko hBw)) hB ?_ ?_ ?_ ?_ ?_ ?_ (fun k=>C0 k∨k=D∨k=id) ⟨C0,fun k=>Iff.rfl,fun h=>by have:=hC0 _ h; simp only [D] at this; omega,fun h=>by have:=hC0 _ h; simp only [id] at this; omega,hI1,hL1,hK1⟩).mono ?_
    · rintro r C Bc W W' ⟨C1,hC,h1,h2,h3,h4,h5⟩ hk
      exact ⟨C1,hC,h1,h2,hI _ _ _ _ _ h3 (hsub hC hk),(hk.block _ ((hC _).2 (.inr (.inr rfl)))).trans h4,(hk.block _ ((hC _).2 (.inr (.inl rfl)))).trans h5⟩
    · rintro r C W W' ⟨C1,c,hC,h1,h2,h3,h4,h5⟩ hk
      exact ⟨C1,c,hC,h1,h2,hIx _ _ _ _ h3 (hsub hC hk),(hk.block _ ((hC _).2 (.inr (.inr rfl)))).trans h4,(hk.block _ ((hC _).2 (.inr (.inl rfl)))).trans h5⟩
    · rintro r C Bc W ⟨C1,hC,h1,h2,h3,h4,h5⟩ k hk
      rcases (hC k).1 hk with h | h | h
      · exact hlt _ _ _ _ h3 k h
      · subst h; exact (Array.getElem?_eq_some_iff.1 h5).1
      · subst h; exact (Array.getElem?_eq_some_iff.1 h4).1
    · rintro r C W ⟨C1,c,hC,h1,h2,h3,h4,h5⟩ k hk
      rcases (hC k).1 hk with h | h | h
      · exact hltx _ _ _ h3 k h
      · subst h; exact (Array.getElem?_eq_some_iff.1 h5).1
      · subst h; exact (Array.getElem?_eq_some_iff.1 h4).1
    · rintro r C Bc W ⟨C1,hC,h1,h2,h3,h4,h5⟩ k hk
      exact (hC k).2 (.inl (hbc _ _ _ _ h3 k hk))
    · rintro x rest C Bc B2 W vs ⟨C1,hC,hcD,hcI,hi,hl,hk⟩ had henc
      have hlt1:id < W.heap.size:=(Array.getElem?_eq_some_iff.1 hl).1;have hy:=run_yield (P:=P) (args:=vs.toArray) hl (by rw [hrec]; simp [hps _ _ x vs henc]);rw [hrec] at hy;refine ⟨fn,_,assign,body,hy,roundIn_of_wpIn hfn (hassign _ x vs W _ (hps _ _ x vs henc) ?_)⟩
      clear hy
      refine ⟨_,run_beginRound hl (by rw [hrec]),?_⟩;have hl2:(W.putObj id (.loop { rec .ready none with state:=.busy })).heap[id]?=some (.loop { rec .ready none with state:=.busy }):=World.putObj_heap_same hlt1;have hk2:(W.putObj id (.loop { rec .ready none with state:=.busy })).heap[D]?=some (.deferred (some [])):=(World.putObj_heap_other (by simp only [D,id]; omega)).trans hk;have hBid:∀ k,B2 k→k≠id∧k≠D:=fun k hk=>by
        rcases had.new k hk with h | ⟨h,_⟩
        · have:=hbc _ _ _ _ hi k h
          exact ⟨fun e=>hcI (e ▸ this),fun e=>hcD (e ▸ this)⟩
        · exact ⟨fun e=>h ((hC k).2 (.inr (.inr e))),fun e=>h ((hC k).2 (.inr (.inl e)))⟩
      have had':Adopt C1 Bc B2 (W.putObj id (.loop { rec .ready none with state:=.busy })):=⟨had.sub,fun k hk=>(had.new k hk).imp_right fun ⟨h,cs,e,fr,h2⟩=>⟨fun h'=>h ((hC k).2 (.inl h')),cs,e,fr,(World.putObj_heap_other (hBid k hk).1).trans h2⟩⟩
      have hiW:=hI _ _ _ _ _ hi (ko_put (W:=W) (o:=.loop { rec .ready none with state:=.busy }) hcI);refine wpIn_mono (hbody _ x rest vs C1 Bc B2 _ hiW had' (hup _ _ _ _ _ (ko_put fun h=>(hBid _ h).1 rfl) henc)) ?_;have hKg:∀ {C':Nat→Prop} {W3:World},Grow B2 C1 C' (W.putObj id (.loop { rec .ready none with state:=.busy })) W3→∀ (jump:Option Code),
          (Instr.endRound id jump).run P W3=.ok (.bool jump.isNone) (W3.putObj id (.loop (rec (if jump.isNone then .ready else .done) jump))) ∧
          (W3.putObj id (.loop (rec (if jump.isNone then .ready else .done) jump))).heap[id]?=some (.loop (rec (if jump.isNone then .ready else .done) jump)) ∧
          (W3.putObj id (.loop (rec (if jump.isNone then .ready else .done) jump))).heap[D]?=some (.deferred (some []))∧¬ C' D∧¬ C' id∧Grow B2 C (fun k=>C' k∨k=D∨k=id) W (W3.putObj id (.loop (rec (if jump.isNone then .ready else .done) jump))):=fun {C' W3} hgr jump=>by
        have hid:id < (W.putObj id (.loop { rec .ready none with state:=.busy })).heap.size∧¬ C1 id:=⟨by simpa using hlt1,hcI⟩
        have hDD:D < (W.putObj id (.loop { rec .ready none with state:=.busy })).heap.size∧¬ C1 D:=⟨by simp only [D,id] at hlt1 ⊢; simp; omega,hcD⟩
        have hl3:=(hgr.keep.block id (.inr hid)).trans hl2;have hk3:=(hgr.keep.block D (.inr hDD)).trans hk2;have he:=run_endRound (P:=P) jump hl3;rw [hrec] at he ⊢;refine ⟨he,World.putObj_heap_same (Array.getElem?_eq_some_iff.1 hl3).1,(World.putObj_heap_other (by simp only [D,id]; omega)).trans hk3,fun h=>?_,fun h=>?_,⟨⟨?_,?_,?_,?_,fun k hk=>?_⟩,fun k hk=>?_⟩⟩
        · rcases hgr.new _ h with h' | h' | h'
          · exact hcD h'
          · have:=hDD.1; omega
          · exact (hBid _ h').2 rfl
        · rcases hgr.new _ h with h' | h' | h'
          · exact hcI h'
          · have:=hid.1; omega
          · exact (hBid _ h').1 rfl
        · exact hgr.keep.os
        · exact hgr.keep.tape
        · exact hgr.keep.output
        · have:=hgr.keep.size; simpa using this
        · have hne:k≠id:=by
            rcases hk with hk | hk
            · exact (hBid k hk).1
            · exact fun e=>hk.2 ((hC k).2 (.inr (.inr e)))
          refine (World.putObj_heap_other hne).trans ((hgr.keep.block k ?_).trans (World.putObj_heap_other hne))
          rcases hk with hk | hk
          · exact .inl hk
          · exact .inr ⟨by simpa using hk.1,fun h=>hk.2 ((hC k).2 (.inl h))⟩
        · rcases hk with hk | hk
          · rcases hgr.new k hk with h' | h' | h'
            · exact .inl ((hC k).2 (.inl h'))
            · exact .inr (.inl (by simpa using h'))
            · exact .inr (.inr h')
          · exact .inl ((hC k).2 (.inr hk))
      rintro e a3 W3 hp;cases e with
      | normal=>
        obtain ⟨C',hi3,hgr⟩:=hp;obtain ⟨hr,hl4,hk4,hd1,hd2,hg2⟩:=hKg hgr none;exact ⟨_,_,hr,.inl ⟨rfl,_,⟨C',fun k=>Iff.rfl,hd1,hd2,hI _ _ _ _ _ hi3 (ko_put hd2),hl4,hk4⟩,hg2⟩⟩
      | ret=>
        obtain ⟨C',hi3,hgr⟩:=hp;obtain ⟨hr,hl4,hk4,hd1,hd2,hg2⟩:=hKg hgr (some .ret);exact ⟨_,_,hr,.inr ⟨rfl,_,⟨C',.ret,fun k=>Iff.rfl,hd1,hd2,hIx _ _ _ _ hi3 (ko_put hd2),hl4,hk4⟩,hg2⟩⟩
      | exit i=>
        obtain ⟨C',hi3,hgr⟩:=hp;obtain ⟨hr,hl4,hk4,hd1,hd2,hg2⟩:=hKg hgr (some (.exit i));exact ⟨_,_,hr,.inr ⟨rfl,_,⟨C',.exit i,fun k=>Iff.rfl,hd1,hd2,hIx _ _ _ _ hi3 (ko_put hd2),hl4,hk4⟩,hg2⟩⟩
      | goto t=>exact hp.elim
      | panic ch=>exact hp.elim
      | outgrown=>exact hp.elim
    · rintro e W2 ⟨⟨v,rfl⟩,C',(⟨Bc,C1,hC,h1,h2,hi,hl,hk⟩ | ⟨C1,c,hC,h1,h2,hi,hl,hk⟩)⟩
      · exact ⟨none,_,by have:=run_endLoop (P:=P) hl (by rw [hrec]; simp); rw [hrec] at this; exact this,hdone _ C1 Bc _ (Nat.le_refl _) h1 (hI _ _ _ _ _ hi (ko_put h2)) ((World.putObj_heap_other (by simp only [D,id]; omega)).trans hk)⟩
      · exact ⟨some c,_,by have:=run_endLoop (P:=P) hl (by rw [hrec]; simp); rw [hrec] at this; exact this,hstop _ c C1 _ (Nat.le_refl _) h1 (hIx _ _ _ _ hi (ko_put h2)) ((World.putObj_heap_other (by simp only [D,id]; omega)).trans hk)⟩
end Go.Proofs.Yteglgnkcpaagjaa

/- Ranges over functions whose elements are known: the rule. -/
namespace Go.Proofs.Yteglgnkcpaagjaa
open Go.RowKit
def AItE {α:Type} (X:Cx) (gf:FuncId) (caps:List Cap) (l:List α) (sas:α→List SA):Prop:=
  ∀ (B:Nat→Prop) (w:World) (lb:List Value),(∀ k,B k→k < w.heap.size)→GlobOk X B w→ptrs (fun _=>.no) B w caps lb→SeqE X.P gf lb B w l (fun B2 W x vs=>SasR (fun _=>.no) B2 W (sas x) vs)
def Foot (R B:Nat→Prop) (H:List Ck) (ks:List Nat) (k:Nat):Prop:=R k∨B k∨∃ c∈H++ks.map mkO,c.at=some k
section
variable {X:Cx} {R:Nat→Prop} {W:World} {Bi:Bk} {n:Nat} {ks:List Nat} {env:Nat→Loc} {B:Nat→Prop} {w0:World} {H:List Ck} {st:ASt} {a:Act} {w:World}
theorem AI.foot {W':World} (h:AI X R W Bi n ks env B w0 H st a w) (hk:KO (Foot R B H ks) w W'):AI X R W Bi n ks env B w0 H st a W':=
  ⟨h.size,h.defs,h.has,h.heap,⟨h.sh.below.trans ⟨hk.os,hk.tape,hk.output,hk.size,fun k hq=>hk.block k (hq.elim .inl fun h=>.inr (.inl h))⟩,fun k hq=>Nat.lt_of_lt_of_le (h.sh.base k hq) hk.size,fun c hc=>(h.sh.ok c hc).keep fun b e=>hk.block b (.inr (.inr ⟨c,hc,e⟩)),h.sh.apart⟩,h.sub,h.new,h.pin,h.base,h.glob⟩
theorem AI.now (h:AI X R W Bi n ks env B w0 H st a w):AI X R W Bi n ks env B w H st a w:=by
  have hup:Up B w0 B w:=⟨fun _ h=>h,fun k hk=>h.sh.below.block k (.inr hk)⟩
  refine ⟨h.size,h.defs,fun s sv hs=>?_,h.heap.up hup,⟨KO.refl _ _,h.sh.base,h.sh.ok,h.sh.apart⟩,h.sub,fun k hk=>(h.new k hk).imp_right fun h1=>⟨h1.1,h1.2.keep (h.sh.below.block k (.inr hk))⟩,h.pin,h.base.trans ⟨h.sh.below.os,h.sh.below.tape,h.sh.below.output,h.sh.below.size,fun k hk=>h.sh.below.block k (.inl hk)⟩,fun i x hx=>(h.glob i x hx).up hup⟩;obtain ⟨v,h1,h2⟩:=h.has s sv hs;exact ⟨v,h1,h2.up hup⟩
theorem AI.adopt {B2:Nat→Prop} (h:AI X R W Bi n ks env B w H st a w) (hB:∀ k,B2 k→B k∨(¬ Foot R B H ks k∧IsC w k)):AI X R W Bi n ks env (fun k=>B k∨B2 k) w H st a w:=by
  have hup:Up B w (fun k=>B k∨B2 k) w:=⟨fun _ h=>.inl h,fun k hk=>rfl⟩
  have hlt:∀ k,B2 k→k < w.heap.size:=fun k hk=>by
    rcases hB k hk with h1 | ⟨_,cs,e,fr,h2⟩
    · exact h.sh.base k (.inr h1)
    · exact (Array.getElem?_eq_some_iff.1 h2).1
  refine ⟨h.size,h.defs,fun s sv hs=>?_,h.heap.up hup,⟨KO.refl _ _,fun k hk=>?_,fun c hc=>(h.sh.ok c hc).base fun b hb hk=>?_,h.sh.apart⟩,fun k hk=>.inl (h.sub k hk),fun k hk=>?_,h.pin,h.base,fun i x hx=>(h.glob i x hx).up hup⟩
  · obtain ⟨v,h1,h2⟩:=h.has s sv hs
    exact ⟨v,h1,h2.up hup⟩
  · rcases hk with hk | hk | hk
    · exact h.sh.base k (.inl hk)
    · exact h.sh.base k (.inr hk)
    · exact hlt k hk
  · have hno:=((h.sh.ok c hc).lt hb).1
    rcases hk with hk | hk | hk
    · exact hno (.inl hk)
    · exact hno (.inr hk)
    · rcases hB b hk with h1 | ⟨h1,_⟩
      · exact hno (.inr h1)
      · exact h1 (.inr (.inr ⟨c,hc,hb⟩))
  · rcases hk with hk | hk
    · exact h.new k hk
    · rcases hB k hk with h1 | ⟨h1,h2⟩
      · exact h.new k h1
      · exact .inr ⟨fun hr=>h1 (.inl hr),h2⟩
theorem AI.foot_lt (h:AI X R W Bi n ks env B w0 H st a w):∀ k,Foot R B H ks k→k < w.heap.size:=fun k hk=>by
  rcases hk with hk | hk | ⟨c,hc,e⟩
  · exact h.sh.base k (.inl hk)
  · exact h.sh.base k (.inr hk)
  · exact ((h.sh.ok c hc).lt e).2
end
def Wm (X:Cx) (M:Bool) (n:Nat) (st st':ASt):Prop:=∀ R W Bi a w,AR X R W Bi M n st a w→AR X R W Bi M n st' a w
theorem Wk.m {X:Cx} {M:Bool} {n:Nat} {st st':ASt} (h:Wk X n st st'):Wm X M n st st':=fun R W Bi a w hA=>h _ _ _ _ _ _ hA
theorem Wm.refl {X:Cx} {M:Bool} {n:Nat} (st:ASt):Wm X M n st st:=fun _ _ _ _ _ h=>h
theorem Wm.trans {X:Cx} {M:Bool} {n:Nat} {a b c:ASt} (h:Wm X M n a b) (k:Wm X M n b c):Wm X M n a c:=fun R W Bi x w hA=>k _ _ _ _ _ (h _ _ _ _ _ hA)
theorem ax_rangeE {α β:Type} {X:Cx} {n:Nat} {st:ASt} {Q:Exit→ASt→Prop} {g:Operand} {pl:List Nat} {assign body:Code} {gf:FuncId} {fn:Func} {caps:List Cap} {sas:α→List SA} {l:List α} {b:Bool} {ms:List (Nat×Nat)}
    (hg : ae X st.L g = some (b, .c (.fn gf caps))) (hb : b = true) (hfz : capsFz caps = true) (hfn : X.P.funcs[gf]? = some fn) (hnm : (fn.name == "runtime.NumGoroutine") = false) (hbd : fn.body.isNone = false) (hit : AItE X gf caps l sas) (hlen : ∀ x, (sas x).length = pl.length) (hpl : allLt n pl = true) (hasg : Asg n assign ms) (hms : allLt n (ms.map (·.1)) = true) (hn : Nat.ble n fixBase = true)
    (Hv:β→Hp) (φ:List α→β→Prop) (ψ:Exit→Hp→Prop) (y0:β) (h0:φ l y0) (hH:Wm X true n st ⟨st.L,Hv y0⟩)
    (hbody:∀ id x rest y,φ (x :: rest) y→AX X false n (some id) body ⟨mvS ms (parL pl (sas x) (reL (pinRe n) st.L)),Hv y⟩ (fun e s=>(e=.normal∧∃ y',φ rest y'∧∃ L',Wm X false n s ⟨L',Hv y'⟩)∨(e≠.normal∧exitB e=true∧∃ h',ψ e h'∧∃ L',Wm X false n s ⟨L',h'⟩)))
    (hdone:∀ y,φ [] y→Q .normal ⟨reL (pinRe n) st.L,Hv y⟩)
    (hstop:∀ e h',ψ e h'→Q e ⟨reL (pinRe n) st.L,h'⟩):AX X true n none (.rangeFunc g pl.toArray assign body) st Q:=by
  intro R W Bi a w hA0;obtain ⟨ks,env,B,w0,H,hM,hA⟩:=hH R W Bi a w hA0
  clear hA0
  obtain ⟨gv,hg1,lb,rfl,hg2⟩:=hA.ev (st:=⟨st.L,Hv y0⟩) hg hb;have hA0:=hA.rebase;have hupw:Up B w0 B w:=⟨fun _ h=>h,fun k hk=>hA.sh.below.block k (.inr hk)⟩
  have hBw:∀ k,B k→k < w.heap.size:=fun k hk=>hA.sh.base k (.inr hk)
  have hseq:=hit B w lb hBw (fun i x hx=>(hA.glob i x hx).up hupw) ((hg2.up hupw).fzAny hfz);have hRN:∀ k,R k∨B k→k < w.heap.size:=fun k hk=>hA.sh.base k hk
  have hksN:∀ k∈ks,k < w.heap.size:=fun k hk=>((hA.sh.ok (mkO k) (List.mem_append_right _ (List.mem_map.2 ⟨k,hk,rfl⟩))).lt rfl).2
  have hn':=Nat.le_of_ble_eq_true hn
  let L0:=reL (pinRe n) st.L
  let R1:Nat→Prop:=fun k=>R k∨B k
  let In:Hp→(Nat→Prop)→(Nat→Prop)→World→Prop:=fun h C Bc W'=>∃ env' B' w0' H',AI X R1 w ⟨B,pinsOf n env⟩ n ks env' B' w0' H' ⟨L0,h⟩ a W'∧C=Foot R1 B' H' ks∧∀ k,Bc k→B' k
  let I:List α→(Nat→Prop)→(Nat→Prop)→World→Prop:=fun r C Bc W'=>∃ y,φ r y∧In (Hv y) C Bc W'
  let Ix:Code→(Nat→Prop)→World→Prop:=fun c C W'=>∃ e h' Bc,exitC e=some c∧ψ e h'∧In h' C Bc W'
  have hstI:∀ h C Bc W1 W2,In h C Bc W1→KO C W1 W2→In h C Bc W2:=by
    rintro h C Bc W1 W2 ⟨env',B',w0',H',h1,rfl,h2⟩ hk;exact ⟨env',B',w0',H',h1.foot hk,rfl,h2⟩
  have hLp:∀ {B':Nat→Prop} {w0':World} {env':Nat→Loc},(∀ k,B k→B' k)→(∀ k,B k→w0'.heap[k]?=w.heap[k]?)→(∀ id l,pinsOf n env id l→env' id=l)→∀ s sv,lk L0 s=some sv→∃ v,a.tmps[s]?=some v∧VR env' B' w0' sv v:=by
    intro B' w0' env' hB hw he s sv hs;obtain ⟨u,h1,rfl⟩:=lk_reL hs;obtain ⟨v,h2,h3⟩:=hA0.has s u h1;exact ⟨v,h2,VR.re (pinRe_ok (fun id l h4 h5 h6=>he id l ⟨h4,h5,h6⟩) hn') (h3.up ⟨hB,hw⟩)⟩
  have hback:∀ {h:Hp} {C Bc:Nat→Prop} {W1:World} (k:Nat),w.heap.size≤k→¬ C k→W1.heap[k]?=some (.deferred (some []))→In h C Bc W1→AR X R W Bi true n ⟨L0,h⟩ { a with defers:={ target:=.collected k,args:=#[] } :: a.defers } W1:=by
    rintro h C Bc W1 k hk hCk hd ⟨env',B',w0',H',h1,rfl,_⟩;refine ⟨k :: ks,env',B',w0',H',⟨(fun h=>by cases h),hM.2⟩,hA.unbase ?_⟩;have hperm:(mkO k :: (H'++ks.map mkO)).Perm (H'++(k :: ks).map mkO):=by
      rw [List.map_cons];exact List.perm_middle.symm
    have hsh:SH (fun q=>(R q∨B q)∨B' q) w0' (mkO k :: (H'++ks.map mkO)) W1:=by
      refine ⟨h1.sh.below,h1.sh.base,fun c hc=>?_,List.Pairwise.cons (fun c hc q e1 e2=>?_) h1.sh.apart⟩
      · rcases List.mem_cons.1 hc with rfl | hc
        · exact ⟨fun hq=>hCk (hq.elim .inl fun h=>.inr (.inl h)),hd⟩
        · exact h1.sh.ok c hc
      · have:k=q:=Option.some.inj e1
        subst this;exact hCk (.inr (.inr ⟨c,hc,e2⟩))
    refine ⟨h1.size,by rw [List.map_cons,← h1.defs]; rfl,h1.has,h1.heap,hsh.perm hperm,h1.sub,h1.new,h1.pin,h1.base,h1.glob⟩
  have hup:∀ (c:Code) (m:Nat) (Q:Exit→Act→World→Prop) a w,c.wpIn Fence.wide m X.P Q a w ↔ c.wpIn Fence.wide 0 X.P Q a w:=fun c m Q a w=>wpIn_wide.trans wpIn_wide.symm
  have hupr:∀ (id:Nat) (c:Code) (m:Nat) (Q:Exit→Act→World→Prop) a w,c.wpIn (Fence.wide.inRound id) 0 X.P Q a w→c.wpIn (Fence.wide.inRound id) m X.P Q a w:=fun id c m Q a w h=>by
    intro b k cs hro hb hr;exact h b k cs hro hb (fun _ h=>by cases h)
  refine (hup _ 2 _ _ _).1 ?_;have hpar:∀ vs:List Value,(pl.toArray.zip vs.toArray).foldl (fun t (p,v)=>t.setIfInBounds p v) a.tmps=(pl.zip vs).foldl (fun t (p,v)=>t.setIfInBounds p v) a.tmps:=fun x=>by
    rw [← Array.foldl_toList,Array.toList_zip]
  refine wpIn_rangeE (gf:=gf) (lb:=lb) (hA.stt.ev hg1) (fun args w=>run_callFunc hfn hnm hbd) hseq (KO.refl _ _) hBw (fun B2 W2 x vs h=>by have:=SasR.length h; rw [hlen x] at this; simpa using this) (fun B2 W2 W3 x vs hk h=>SasR.up ⟨fun _ h=>h,fun k hq=>hk.block k hq⟩ h)
    I Ix ?_ ?_ ?_ ?_ ?_ (Foot R1 B H ks) ?_ (fun vs=>{ tmps:=mvT ms ((pl.zip vs).foldl (fun t (p,v)=>t.setIfInBounds p v) a.tmps),defers:=[] }) ?_ ?_ ?_ ?_
  · rintro r C Bc W1 W2 ⟨y,hy,h1⟩ hk
    exact ⟨y,hy,hstI _ _ _ _ _ h1 hk⟩
  · rintro c C W1 W2 ⟨e,h',Bc,he,hψ,h1⟩ hk
    exact ⟨e,h',Bc,he,hψ,hstI _ _ _ _ _ h1 hk⟩
  · rintro r C Bc W1 ⟨y,hy,env',B',w0',H',h1,rfl,_⟩
    exact h1.foot_lt
  · rintro r C Bc W1 ⟨y,hy,env',B',w0',H',h1,rfl,h2⟩ k hk
    exact .inr (.inl (h2 k hk))
  · rintro c C W1 ⟨e,h',Bc,he,hψ,env',B',w0',H',h1,rfl,_⟩
    exact h1.foot_lt
  · exact ⟨y0,h0,env,B,w,H,⟨hA0.size,hA0.defs,hLp (fun _ h=>h) (fun _ _=>rfl) (fun _ _ h=>h.2.1),hA0.heap,hA0.sh,hA0.sub,hA0.new,hA0.pin,hA0.base,hA0.glob⟩,rfl,fun _ h=>h⟩
  · intro id x vs W1 K hvl hK
    rw [hpar];exact hupr _ _ _ _ _ _ (Asg.ok (l:=id) hasg hK)
  · rintro id x rest vs C Bc B2 W1 ⟨y,hy,env1,B0,w1,H1,h0,rfl,hbc⟩ had henc
    obtain ⟨B1,hB1d⟩:∃ B1:Nat→Prop,B1=fun k=>B0 k∨B2 k:=⟨_,rfl⟩
    have h1:AI X R1 w ⟨B,pinsOf n env⟩ n ks env1 B1 W1 H1 ⟨L0,Hv y⟩ a W1:=by
      rw [hB1d];exact h0.now.adopt fun k hk=>(had.new k hk).imp (fun h=>hbc k h) fun ⟨h,h2⟩=>⟨h,h2⟩
    have hf1:∀ k,Foot R1 B1 H1 ks k→Foot R1 B0 H1 ks k∨B2 k:=fun k hk=>by
      rcases hk with hk | hk | hk
      · exact .inl (.inl hk)
      · rw [hB1d] at hk
        exact hk.imp (fun h=>.inr (.inl h)) fun h=>h
      · exact .inl (.inr (.inr hk))
    have hB2s:∀ k,B2 k→B1 k:=fun k hk=>by rw [hB1d]; exact .inr hk
    clear h0
    have hs1:SH (fun k=>R1 k∨B1 k) W1 H1 W1:=h1.sh.weak (List.sublist_append_left _ _);have hup1:Up B1 W1 B1 W1:=⟨fun _ h=>h,fun k hk=>h1.sh.below.block k (.inr hk)⟩
    have hB1:∀ k,B k→W1.heap[k]?=w.heap[k]?:=fun k hk=>(h1.sh.below.block k (.inl (.inr hk))).trans (h1.base.block k (.inr hk))
    have hasL:Has n env1 B1 W1 L0 a.tmps:=⟨hA.size,fun s sv hs=>by
      obtain ⟨v,h2,h3⟩:=h1.has s sv hs;exact ⟨v,h2,h3.up hup1⟩⟩
    have hr:=h1.round (Has.mv (Has.par hasL hpl ((SasR.any henc).up ⟨hB2s,fun _ _=>rfl⟩)) hms);have hxb:=hbody id x rest y hy _ _ _ _ _ ⟨[],env1,B1,W1,H1,⟨fun _=>rfl,fun h=>by cases h⟩,hr⟩;refine wpIn_mono (hupr _ _ 1 _ _ _ hxb) ?_;rintro e a3 W3 ⟨s,hs,h2⟩;have hRest:∀ k,R1 k∨B1 k→Rest W1 H1 k:=fun k hk=>⟨hs1.base k hk,fun c hc e=>((hs1.ok c hc).lt e).1 hk⟩
    have key:∀ h' L',Wm X false n s ⟨L',h'⟩→∃ C',In h' C' B2 W3∧Grow B2 (Foot R1 B0 H1 ks) C' W1 W3:=by
      intro h' L' hw;obtain ⟨ks3,env3,B3,w3,H3,hM3,h3⟩:=hw _ _ _ _ _ h2
      have:=hM3.1 rfl
      subst this;have hsame:∀ k,Rest W1 H1 k→W3.heap[k]?=W1.heap[k]?:=fun k hk=>(h3.sh.below.block k (.inl hk)).trans (h3.base.block k hk)
      have h4:=h1.rounded h3 (L:=L0) (hLp (fun k hk=>h3.sub k (h1.sub k hk)) (fun k hk=>(h3.base.block k (hRest k (.inl (.inr hk)))).trans (hB1 k hk)) (fun id l hp=>(h3.pin id l ⟨(h1.pin id l hp).1,(h1.pin id l hp).2.1,(h1.pin id l hp).2.2⟩).2.1));have hsh3:=h3.sh;simp only [List.map_nil,List.append_nil] at hsh3;refine ⟨_,⟨env3,B3,w3,H3,h4,rfl,fun k hk=>h3.sub k (hB2s k hk)⟩,⟨⟨h3.sh.below.os.trans h3.base.os,h3.sh.below.tape.trans h3.base.tape,h3.sh.below.output.trans h3.base.output,Nat.le_trans h3.base.size h3.sh.below.size,fun k hk=>?_⟩,fun k hk=>?_⟩⟩
      · rcases hk with hk | ⟨hk1,hk2⟩
        · exact hsame k (hRest k (.inr (hB2s k hk)))
        · exact hsame k ⟨hk1,fun c hc e=>hk2 (.inr (.inr ⟨c,List.mem_append_left _ hc,e⟩))⟩
      · by_cases hlt:W1.heap.size≤k
        · exact .inr (.inl hlt)
        · have hgo:Foot R1 B1 H1 ks k→Foot R1 B0 H1 ks k∨W1.heap.size≤k∨B2 k:=fun h=>(hf1 k h).imp_right .inr
          apply hgo
          have hlt':k < W1.heap.size:=by omega
          by_cases hk1:Foot R1 B1 H1 ks k
          · exact hk1
          · exfalso
            have hre:Rest W1 H1 k:=⟨hlt',fun c hc e=>hk1 (.inr (.inr ⟨c,List.mem_append_left _ hc,e⟩))⟩
            rcases hk with hk | hk | ⟨c,hc,e⟩
            · exact hk1 (.inl hk)
            · rcases h3.new k hk with h5 | h5
              · exact hk1 (.inr (.inl h5))
              · exact h5.1 hre
            · rcases List.mem_append.1 hc with hc | hc
              · exact ((hsh3.ok c hc).lt e).1 (.inl hre)
              · exact hk1 (.inr (.inr ⟨c,List.mem_append_right _ hc,e⟩))
    rcases hs with ⟨rfl,y',hy',L',hw⟩ | ⟨hne,hex,h',hψ,L',hw⟩
    · obtain ⟨C',h5,h6⟩:=key _ _ hw
      exact ⟨C',⟨y',hy',h5⟩,h6⟩
    · obtain ⟨C',h5,h6⟩:=key _ _ hw
      cases e with
      | normal=>exact absurd rfl hne
      | ret=>exact ⟨C',⟨.ret,h',_,rfl,hψ,h5⟩,h6⟩
      | exit i=>exact ⟨C',⟨.exit i,h',_,rfl,hψ,h5⟩,h6⟩
      | goto t=>cases hex
      | panic c=>cases hex
      | outgrown=>cases hex
  · rintro k C Bc W1 hk hC ⟨y,hy,h1⟩ hd
    exact ⟨_,hdone y hy,hback k hk hC hd h1⟩
  · rintro k c C W1 hk hC ⟨e,h',Bc,he,hψ,h1⟩ hd
    have hAR:=hback k hk hC hd h1;have hq:=hstop e h' hψ;cases e with
    | ret=>cases he; exact wpIn_ret ⟨_,hq,hAR⟩
    | exit id=>cases he; exact (hup _ 2 _ _ _).2 (c_exit ⟨_,hq,hAR⟩)
    | normal=>cases he
    | goto t=>cases he
    | panic c=>cases he
    | outgrown=>cases he
end Go.Proofs.Yteglgnkcpaagjaa

/- Code within a world that others look at. -/
namespace Go.Proofs.Yteglgnkcpaagjaa
open Go.RowKit
structure Cn (X:Cx) (M:Bool) (n:Nat) (rr:Option Nat) (ρ:Type) where
  In:ρ→ASt→Act→World→Prop
  frame:∀ {c:Code} {st:ASt} {Q:Exit→ASt→Prop} {r:ρ} {a:Act} {w:World},AX X M n rr c st Q→In r st a w→XC rr X.P c (fun e a w=>∃ s,Q e s∧In r s a w) a w
  step:∀ {ops:List Oper} {o:Oper} {st st':ASt} {r:ρ} {a:Act} {w:World},StepO X n ops o st st'→In r st a w→∀ {KK:Act→World→Prop},(∀ a w,In r st' a w→KK a w)→XO X.P ops.toArray o KK a w
  weak:∀ {st st':ASt} {r:ρ} {a:Act} {w:World},Wm X M n st st'→In r st a w→In r st' a w
  ai:∀ {st:ASt} {r:ρ} {a:Act} {w:World},In r st a w→∃ R W Bi ks env B w0 H,AI X R W Bi n ks env B w0 H st a w
variable {X:Cx} {M:Bool} {n:Nat} {rr:Option Nat} {ρ:Type}
def Cn.ar (R:Nat→Prop) (W:World) (Bi:Bk) (r0:ρ):Cn X M n rr ρ where
  In r st a w:=r=r0∧AR X R W Bi M n st a w
  frame h hi:=wpIn_mono (h R W Bi _ _ hi.2) fun _ _ _ ⟨s,h1,h2⟩=>⟨s,h1,hi.1,h2⟩
  step h hi KK hK:=by
    obtain ⟨h0,ks,env,B,w0,H,hM,hA⟩:=hi;exact h R W Bi ks env B w0 H _ _ hA _ fun a' w' env' B' w0' H' hA'=>hK _ _ ⟨h0,ks,env',B',w0',H',hM,hA'⟩
  weak h hi:=⟨hi.1,h _ _ _ _ _ hi.2⟩
  ai hi:=by
    obtain ⟨_,ks,env,B,w0,H,_,hA⟩:=hi;exact ⟨_,_,_,_,_,_,_,_,hA⟩
def Cn.const {σ:Type} (Γ:Cn X M n rr ρ) (r:ρ) (d0:σ):Cn X M n rr σ where
  In d st a w:=d=d0∧Γ.In r st a w
  frame h hi:=wpIn_mono (Γ.frame h hi.2) fun _ _ _ ⟨s,h1,h2⟩=>⟨s,h1,hi.1,h2⟩
  step h hi KK hK:=Γ.step h hi.2 fun a w h=>hK a w ⟨hi.1,h⟩
  weak h hi:=⟨hi.1,Γ.weak h hi.2⟩
  ai hi:=Γ.ai hi.2
def GX (Γ:Cn X M n rr ρ) (c:Code) (r:ρ) (st:ASt) (Q:Exit→ASt→ρ→Prop):Prop:=∀ a w,Γ.In r st a w→XC rr X.P c (fun e a w=>∃ s r',Q e s r'∧Γ.In r' s a w) a w
section
variable {Γ:Cn X M n rr ρ} {c c1 c2:Code} {r:ρ} {st st':ASt} {Q Q':Exit→ASt→ρ→Prop}
theorem gx_ax {Q:Exit→ASt→Prop} (h:AX X M n rr c st Q):GX Γ c r st (fun e s r'=>Q e s∧r'=r):=fun a w hi=>wpIn_mono (Γ.frame h hi) fun _ _ _ ⟨s,h1,h2⟩=>⟨s,r,⟨h1,rfl⟩,h2⟩
theorem gx_mono (h:GX Γ c r st Q) (hq:∀ e s r',Q e s r'→Q' e s r'):GX Γ c r st Q':=fun a w hi=>wpIn_mono (h a w hi) fun _ _ _ ⟨s,r',h1,h2⟩=>⟨s,r',hq _ _ _ h1,h2⟩
theorem gx_const {σ:Type} {d0:σ} {Q:Exit→ASt→σ→Prop} (h:GX (Γ.const r d0) c d0 st Q):GX Γ c r st (fun e s r'=>r'=r∧Q e s d0):=fun a w hi=>wpIn_mono (h a w ⟨rfl,hi⟩) fun _ _ _ ⟨s,d,h1,h2,h3⟩=>⟨s,r,⟨rfl,h2 ▸ h1⟩,h3⟩
theorem gx_weak (hw:Wm X M n st st') (h:GX Γ c r st' Q):GX Γ c r st Q:=fun a w hi=>h a w (Γ.weak hw hi)
def thenG (Γ:Cn X M n rr ρ) (c:Code) (Q:Exit→ASt→ρ→Prop):Exit→ASt→ρ→Prop
  | .normal,st,r=>GX Γ c r st Q
  | e,st,r=>Q e st r
theorem gx_seq (h:GX Γ c1 r st (thenG Γ c2 Q)):GX Γ (.seq c1 c2) r st Q:=fun a w hi=>by
  refine wpIn_seq (wpIn_mono (h a w hi) ?_);rintro e a w ⟨s,r',h1,h2⟩;cases e with
  | normal=>exact h1 a w h2
  | _=>exact ⟨s,r',h1,h2⟩
theorem gx_cond {x:Operand} {g b:Bool} (hx:ae X st.L x=some (g,.c (.val (.bool b)))) (hg:g=true) (h1:b=true→GX Γ c1 r st Q) (h0:b=false→GX Γ c2 r st Q):GX Γ (.cond x c1 c2) r st Q:=fun a w hi=>by
  obtain ⟨R,W,Bi,ks,env,B,w0,H,hA⟩:=Γ.ai hi;obtain ⟨v,h2,h3⟩:=hA.ev hx hg;rw [show v=_ from h3] at h2;exact c_cond hA.sym h2 (fun hb=>h1 hb a w hi) (fun hb=>h0 hb a w hi)
def blockG (id:Nat) (Q:Exit→ASt→ρ→Prop):Exit→ASt→ρ→Prop
  | .exit id',st,r=>match Nat.beq id' id with
    | true=>Q .normal st r
    | false=>Q (.exit id') st r
  | e,st,r=>Q e st r
theorem gx_block {id:Nat} (h:GX Γ c r st (blockG id Q)):GX Γ (.block id c) r st Q:=fun a w hi=>by
  refine c_block (wpIn_mono (h a w hi) ?_);rintro e a w ⟨s,r',h1,h2⟩;cases e with
  | exit id'=>
    simp only [blockG] at h1
    split at h1
    · rename_i hb
      have:=Nat.eq_of_beq_eq_true hb
      subst this;simp only [Exit.inBlock,if_true];exact ⟨s,r',h1,h2⟩
    · rename_i hb
      have hne:id'≠id:=Nat.ne_of_beq_eq_false hb;simp only [Exit.inBlock,if_neg hne];exact ⟨s,r',h1,h2⟩
  | _=>exact ⟨s,r',h1,h2⟩
def scopeG (Q:Exit→ASt→ρ→Prop):Exit→ASt→ρ→Prop
  | .goto _,_,_=>False
  | e,st,r=>Q e st r
theorem gx_scope (h:GX Γ c r st (scopeG Q)):GX Γ (.scope c) r st Q:=fun a w hi=>by
  refine wpIn_scope (wpIn_mono (h a w hi) ?_);rintro e a w ⟨s,r',h1,h2⟩;cases e with
  | goto l=>exact h1.elim
  | _=>exact ⟨s,r',h1,h2⟩
def loopG {α:Type} (M:Bool) (n:Nat) (X:Cx) (I:α→ASt) (φ:α→ρ→Prop) (m:α→Nat) (x:α) (Q:Exit→ASt→ρ→Prop):Exit→ASt→ρ→Prop
  | .normal,st,r=>∃ y,φ y r∧m y < m x∧Wm X M n st (I y)
  | e,st,r=>Q e st r
theorem gx_loop {α:Type} (I:α→ASt) (φ:α→ρ→Prop) (m:α→Nat) (x0:α) (h0:φ x0 r) (hw:Wm X M n st (I x0)) (hr:∀ x r,φ x r→GX Γ c r (I x) (loopG M n X I φ m x Q)):GX Γ (.loop c) r st Q:=fun a w hi=>by
  refine c_loop (fun x a w=>∃ r,φ x r∧Γ.In r (I x) a w) m x0 ⟨r,h0,Γ.weak hw hi⟩ fun x a w ⟨r,hφ,hi⟩=>wpIn_mono (hr x r hφ a w hi) ?_
  rintro e a w ⟨s,r',h1,h2⟩;cases e with
  | normal=>
    obtain ⟨y,h3,h4,h5⟩:=h1;exact ⟨y,⟨r',h3,Γ.weak h5 h2⟩,h4⟩
  | _=>exact ⟨s,r',h1,h2⟩
theorem ax_gx {c:Code} {st:ASt} {Q:Exit→ASt→ρ→Prop} {r:ρ} (h:∀ R W Bi,GX (Cn.ar (X:=X) (M:=M) (n:=n) (rr:=rr) R W Bi r) c r st Q):AX X M n rr c st (fun e s=>Q e s r):=fun R W Bi a w hA=>by
  refine wpIn_mono (h R W Bi a w ⟨rfl,hA⟩) ?_;rintro e a w ⟨s,r',h1,rfl,h2⟩;exact ⟨s,h1,h2⟩
end
theorem ac_bodyE (hX:X.tt.ok X.P) {f:FuncId} {fn:Func} {c:Code} {args:List SA} {h:Hp} {Q:SV→Hp→Prop} {res:List ResultVar} (hf:X.P.funcs[f]?=some fn) (hb:fn.body=some c) (hN:fn.ntmps=n) (hl:Nat.ble args.length n=true) (hn:Nat.ble n pinBase=true) (hr:fn.results=res.toArray)
    (hB:AX X true n none c ⟨argL 0 args,h⟩ (fun e st=>(e=.ret∨e=.normal)∧∃ st',Wm X true n st st'∧∃ c sv,ares X st' res=some (c,sv)∧c=true∧Q sv st'.H)):AC X f args h Q:=by
  intro B w0 env vs H W hg ha hh hs;have hlen:=ha.length;have hle:vs.length≤n:=by rw [hlen]; exact Nat.le_of_ble_eq_true hl
  refine (callsIn_wide (n:=0)).1 (callsIn_of_wp_marks hf hb trivial ?_);have hup:Up B w0 B W:=⟨fun _ h=>h,fun k hk=>hs.below.block k hk⟩
  have hsub:∀ k,B k→Rest W H k:=fun k hk=>⟨hs.base k hk,fun c hc e=>((hs.ok c hc).lt e).1 hk⟩
  have hS:=st_start (fn:=fn) hN hle _ rfl (vs:=vs);have hA:AI X (Rest W H) W ⟨B,fun id l=>((pinBase≤id∧∃ b,l=.blk b)∨fixBase≤id)∧env id=l⟩ n [] env B W H ⟨argL 0 args,h⟩ { tmps:=vs.toArray++Array.replicate (fn.ntmps - vs.toArray.size) undef,defers:=[] } W:=by
    refine ⟨hS.size,rfl,fun s sv hsv=>?_,hh.up hup,?_,fun _ h=>h,fun _ h=>.inl h,fun id l hp=>⟨Nat.le_trans (Nat.le_of_ble_eq_true hn) (hp.1.elim (fun h=>h.1) (fun h=>Nat.le_trans (by decide) h)),hp.2,hp.1.imp (fun h=>h.2) (fun h=>h)⟩,KO.refl _ _,fun i x hx=>(hg i x hx).up hup⟩
    · obtain ⟨_,v,h1,h2⟩:=argL_ok ha hsv
      rw [Nat.sub_zero] at h1;refine ⟨v,?_,h2.up hup⟩;have hlt:s < vs.length:=(List.getElem?_eq_some_iff.1 h1).1;show (vs.toArray++_)[s]?=some v;rw [Array.getElem?_append_left (by simpa using hlt)]
      simpa using h1
    · have h1:=hs.rest
      simp only [List.map_nil,List.append_nil];exact ⟨KO.refl _ _,fun k hk=>hk.elim (fun h=>h.1) (fun h=>hs.base k h),fun c hc=>(h1.ok c hc).base fun b hb hk=>hk.elim (fun h=>((h1.ok c hc).lt hb).1 h) (fun h=>((h1.ok c hc).lt hb).1 (hsub b h)),h1.apart⟩
  refine wpIn_mono (hB _ _ _ _ _ ⟨[],env,B,W,H,⟨(fun h=>by cases h),fun _ id l (hp:((pinBase≤id∧∃ b,l=.blk b)∨fixBase≤id)∧env id=l)=>hp.1.elim (fun h=>h.1) (fun h=>Nat.le_trans (by decide) h)⟩,hA⟩) ?_;rintro e a w ⟨st,⟨he,st',hw,c,sv,hres,hc,hQ⟩,h2⟩;obtain ⟨ks,env',B',w0',H',hM,hA'⟩:=hw _ _ _ _ _ h2;have hA0:AI X (Rest W H) W ⟨B,fun id l=>((pinBase≤id∧∃ b,l=.blk b)∨fixBase≤id)∧env id=l⟩ n [] env' B' w0' H' st' { tmps:=a.tmps,defers:=[] } w:=
    ⟨hA'.size,rfl,hA'.has,hA'.heap,by simpa using hA'.sh.weak (List.sublist_append_left _ _),hA'.sub,hA'.new,hA'.pin,hA'.base,hA'.glob⟩
  obtain ⟨v,h3,h4⟩:=ares_ok hX hA0 hr hres hc;have hsym:Sym n (ks.map markOf) (full a) (fun k=>Rest W H k∨B' k) w0' (ks.map (fun k=>Ck.obj k (.deferred (some [])))++H') a w:=⟨hA'.stt,hA'.sh.perm List.perm_append_comm⟩
  have key:=f_retM (fn:=fn) (R:=ACpost X env B H W Q) ks hsym (fun w hw=>h4 w (by simpa using hw)) fun w hw=>⟨env',B',w0',H',sv,st'.H,hQ,hA'.sub,hA'.new,hA'.base,h3,hA'.heap,hw,fun id l h5 h6=>(hA'.pin id l ⟨h5,h6⟩).2.1⟩
  rcases he with rfl | rfl
  · exact key
  · exact key
end Go.Proofs.Yteglgnkcpaagjaa

/- A walker: control. -/
namespace Go.Proofs.Yteglgnkcpaagjaa
open Go.RowKit
inductive Sc where
  | d
  | r (l:List In)
  | t (l:List Wi)
  | o (E:List Nat) (l:List DI) (w:List Wi)
  | oa (E:List Nat) (l:List DI) (w:List Wi)
  | s (a b:Sc)
  | j (σ:Sh) (a b:Sc)
  | jj (σ:Sh) (a b:Sc)
  | c (a b:Sc)
  | l (σ:Sh) (a:Sc)
  | lx (id:Nat) (σ τ:Sh) (a:Sc)
  | lxx (id:Nat) (σ τ:Sh) (a:Sc)
  | b (a:Sc)
  | rf (mv:List (Nat×Nat)) (σ:Sh) (a:Sc)
def Sc.fst:Sc→Sc
  | .s x _=>x
  | .j _ x _=>x
  | .jj _ x _=>x
  | .c x _=>x
  | .l _ x=>x
  | .lx _ _ _ x=>x
  | .lxx _ _ _ x=>x
  | .b x=>x
  | .rf _ _ x=>x
  | _=>.d
def Sc.snd:Sc→Sc
  | .s _ x=>x
  | .j _ _ x=>x
  | .jj _ _ x=>x
  | .c _ x=>x
  | _=>.d
def Sc.ins:Sc→List In
  | .r x=>x
  | _=>[]
def Sc.wis:Sc→List Wi
  | .t x=>x
  | _=>[]
def Sc.dal:Sc→Bool
  | .oa _ _ _=>true
  | _=>false
def Sc.drw:Sc→List Nat×List DI×List Wi
  | .o x y z=>(x,y,z)
  | .oa x y z=>(x,y,z)
  | _=>([],[],[])
def wks {ρ:Type} (n:Nat):List Wi→List Nat→ASt→(List Nat→ASt→Option ρ)→Option ρ
  | [],V,st,k=>k V st
  | x :: l,V,st,k=>match wki n x st with
    | some (c,st')=>gd c (wks n l (x.touch++V) st' k)
    | none=>none
theorem wks_ok {X:Cx} {ρ:Type} {n:Nat} {k:List Nat→ASt→Option ρ} {r:ρ} {st0:ASt}:∀ {l:List Wi} {V:List Nat} {st:ASt},KS V st0 st→wks n l V st k=some r→∃ V' st',Wk X n st st'∧KS V' st0 st'∧k V' st'=some r
  | [],V,st,h0,h=>⟨V,st,Wk.refl _,h0,h⟩
  | x :: l,V,st,h0,h=>by
    unfold wks at h
    split at h
    · rename_i c st1 e
      obtain ⟨hc,h⟩:=gd_some h;obtain ⟨V',st',h1,h2,h3⟩:=wks_ok (X:=X) (h0.trans (wki_ks e)) h;exact ⟨V',st',(wki_ok e hc).trans h1,h2,h3⟩
    · cases h
def fV {α:Type} (v:Value) (k:Value→α):α:=match v with
  | .int q z=>k (.int q z)
  | .bool b=>k (.bool b)
  | .slice a m c=>k (.slice a m c)
  | v=>k v
def fCaps {α:Type}:List Cap→(List Cap→α)→α
  | [],k=>k []
  | .id i :: r,k=>fCaps r fun r=>k (.id i :: r)
  | .fz g x :: r,k=>fCaps r fun r=>k (.fz g x :: r)
def fC {α:Type} (c:SC) (k:SC→α):α:=match c with
  | .val v=>fV v fun v=>k (.val v)
  | .str s=>k (.str s)
  | .dead=>k .dead
  | .ptr i o=>k (.ptr i o)
  | .elt i s j o=>k (.elt i s j o)
  | .pel g x o=>k (.pel g x o)
  | .par g l=>k (.par g l)
  | .sl i=>k (.sl i)
  | .lst g l c=>k (.lst g l c)
  | .fn f ids=>fCaps ids fun ids=>k (.fn f ids)
  | .mref i=>k (.mref i)
  | .bfn f i=>k (.bfn f i)
  | .nel i o=>k (.nel i o)
  | .slf b i=>k (.slf b i)
def fCs {α:Type}:List SC→(List SC→α)→α
  | [],k=>k []
  | c :: r,k=>fC c fun c=>fCs r fun r=>k (c :: r)
def fA {α:Type} (x:SA) (k:SA→α):α:=match x with
  | .c c=>fC c fun c=>k (.c c)
  | .agg cs=>fCs cs fun cs=>k (.agg cs)
  | .arr g l=>k (.arr g l)
def fAs {α:Type}:List SA→(List SA→α)→α
  | [],k=>k []
  | c :: r,k=>fA c fun c=>fAs r fun r=>k (c :: r)
def fSV {α:Type} (v:SV) (k:SV→α):α:=match v with
  | .a x=>fA x fun x=>k (.a x)
  | .may g x=>fA x fun x=>k (.may g x)
  | .tup xs=>fAs xs fun xs=>k (.tup xs)
def fL {α:Type}:Sl→(Sl→α)→α
  | [],k=>k []
  | (s,v) :: r,k=>fSV v fun v=>fL r fun r=>k ((s,v) :: r)
def fB {α:Type} (b:Blk) (k:Blk→α):α:=match b with
  | .cells t cs=>fCs cs fun cs=>k (.cells t cs)
  | .row t g l c=>k (.row t g l c)
  | .lrow t g l=>k (.lrow t g l)
  | .mp g h l o=>k (.mp g h l o)
  | b=>k b
def fH {α:Type}:Hp→(Hp→α)→α
  | [],k=>k []
  | (s,v) :: r,k=>fB v fun v=>fH r fun r=>k ((s,v) :: r)
def fSt {α:Type} (st:ASt) (k:ASt→α):α:=fL st.L fun L=>fH st.H fun H=>k ⟨L,H⟩
theorem fV_eq {α:Type} (v:Value) (k:Value→α):fV v k=k v:=by cases v <;> rfl
theorem fCaps_eq {α:Type}:∀ (l:List Cap) (k:List Cap→α),fCaps l k=k l
  | [],_=>rfl
  | .id i :: r,k=>fCaps_eq r _
  | .fz g x :: r,k=>fCaps_eq r _
theorem fC_eq {α:Type} (c:SC) (k:SC→α):fC c k=k c:=by
  cases c with
  | val v=>exact fV_eq v (fun v=>k (.val v))
  | fn f ids=>exact fCaps_eq ids (fun ids=>k (.fn f ids))
  | _=>rfl
theorem fCs_eq {α:Type}:∀ (l:List SC) (k:List SC→α),fCs l k=k l
  | [],_=>rfl
  | c :: r,k=>(fC_eq c _).trans (fCs_eq r _)
theorem fA_eq {α:Type} (x:SA) (k:SA→α):fA x k=k x:=by
  cases x with
  | c c=>exact fC_eq c (fun c=>k (.c c))
  | agg cs=>exact fCs_eq cs (fun cs=>k (.agg cs))
  | arr g l=>rfl
theorem fAs_eq {α:Type}:∀ (l:List SA) (k:List SA→α),fAs l k=k l
  | [],_=>rfl
  | c :: r,k=>(fA_eq c _).trans (fAs_eq r _)
theorem fSV_eq {α:Type} (v:SV) (k:SV→α):fSV v k=k v:=by
  cases v with
  | a x=>exact fA_eq x (fun x=>k (.a x))
  | may g x=>exact fA_eq x (fun x=>k (.may g x))
  | tup xs=>exact fAs_eq xs (fun xs=>k (.tup xs))
theorem fL_eq {α:Type}:∀ (l:Sl) (k:Sl→α),fL l k=k l
  | [],_=>rfl
  | (s,v) :: r,k=>(fSV_eq v _).trans (fL_eq r _)
theorem fB_eq {α:Type} (b:Blk) (k:Blk→α):fB b k=k b:=by
  cases b with
  | cells t cs=>exact fCs_eq cs (fun cs=>k (.cells t cs))
  | _=>rfl
theorem fH_eq {α:Type}:∀ (l:Hp) (k:Hp→α),fH l k=k l
  | [],_=>rfl
  | (s,v) :: r,k=>(fB_eq v _).trans (fH_eq r _)
theorem fSt_eq {α:Type} (st:ASt) (k:ASt→α):fSt st k=k st:=(fL_eq _ _).trans (fH_eq _ _)
def loopF {δ ρ:Type} (step:δ→(δ→Option ρ)→Option ρ):Nat→δ→Option ρ
  | 0,_=>none
  | n+1,d=>step d (loopF step n)
abbrev Kont (ρ:Type):=Exit→List Nat→ASt→Option ρ
abbrev Evr:={σ:Type}→Yo σ→Sc→ASt→Kont σ→Option σ
def evSeq {ρ:Type} (yo:Yo ρ) (sc:Sc) (a b:Evr) (st:ASt) (k:Kont ρ):Option ρ:=match sc with
  | .j σ x y=>(a none x st fun e V st'=>match e with
    | .normal=>σ.get st V st'
    | _=>none).bind fun d=>b yo y (σ.S st d) fun e V s=>k e (V++σ.ids) s
  | .jj σ x y=>(a none x st fun e V st'=>match e with
    | .normal=>match σ.get st V st' with
      | some d=>some (.inl d)
      | none=>none
    | e=>match k e V st' with
      | some r=>some (.inr r)
      | none=>none).bind fun (o:σ.D⊕ρ)=>sm o (fun d=>b yo y (σ.S st d) fun e V s=>k e (V++σ.ids) s) (fun r=>some r)
  | sc=>a yo sc.fst st fun e V st'=>match e with
    | .normal=>b yo sc.snd st' fun e V2 s=>k e (V2++V) s
    | e=>k e V st'
def subN:List Nat→List Nat→Bool
  | [],_=>true
  | k :: r,l=>match inN k l with
    | true=>subN r l
    | false=>false
def okX (σ τ:Sh):Bool:=match subN τ.kL σ.kL,subN τ.kH σ.kH,disj τ.kL (keysN σ.L),disj τ.kH (keysN σ.H) with
  | true,true,true,true=>true
  | _,_,_,_=>false
where disj:List Nat→List Nat→Bool
  | [],_=>true
  | k :: r,l=>match inN k l with
    | true=>false
    | false=>disj r l
def goO {δ ρ:Type} (o:Option δ) (f:δ→Option ρ):Option ρ:=match o with
  | some d=>f d
  | none=>none
theorem goO_some {δ ρ:Type} {o:Option δ} {f:δ→Option ρ} {r:ρ} (h:goO o f=some r):∃ d,o=some d∧f d=some r:=by
  unfold goO at h
  split at h
  · exact ⟨_,rfl,h⟩
  · cases h
def evLoop {ρ:Type} (N:Nat) (yo:Yo ρ) (sc:Sc) (a:Evr) (st:ASt) (k:Kont ρ):Option ρ:=match sc with
  | .l σ x=>goO (σ.get st [] st) (loopF (fun d rec=>a yo x (σ.S st d) fun e V st'=>match e with
    | .normal=>goO (σ.get st V st') rec
    | e=>k e (V++σ.ids) st') N)
  | .lx id σ τ x=>(goO (σ.get st [] st) (loopF (fun d rec=>a none x (σ.S st d) fun e V st'=>match e with
    | .normal=>goO (σ.get st V st') rec
    | .exit i=>match Nat.beq i id,okX σ τ with
      | true,true=>τ.get st V st'
      | _,_=>none
    | _=>none) N)).bind fun d=>k (.exit id) τ.ids (τ.S st d)
  | .lxx id σ τ x=>(goO (σ.get st [] st) (loopF (fun d rec=>a none x (σ.S st d) fun e V st'=>match e with
    | .normal=>goO (σ.get st V st') rec
    | .exit i=>match Nat.beq i id,okX σ τ with
      | true,true=>match τ.get st V st' with
        | some d=>some (.inl d)
        | none=>none
      | false,_=>match k (.exit i) (V++σ.ids) st' with
        | some r=>some (.inr r)
        | none=>none
      | _,_=>none
    | e=>match k e (V++σ.ids) st' with
      | some r=>some (.inr r)
      | none=>none) N)).bind fun (o:τ.D⊕ρ)=>sm o (fun d=>k (.exit id) τ.ids (τ.S st d)) (fun r=>some r)
  | _=>none
structure IT (X:Cx) where
  f:FuncId
  fn:Func
  C:List CapS
  E:List AS
  m:HL (capsLT C [])→Option (List (HL (asLT E [])))
  hf:X.P.funcs[f]?=some fn
  hn : (fn.name == "runtime.NumGoroutine") = false
  hb:fn.body.isNone=false
  hz:∀ d:HL (capsLT C []),capsFz (capsS C d).1=true
  ok:∀ d l,m d=some l→AItE X f (capsS C d).1 l (fun x=>(asS E x).1)
def rangeL {α δ ρ:Type} (step:α→δ→(δ→Option ρ)→Option ρ):List α→δ→(δ→Option ρ)→Option ρ
  | [],d,k=>k d
  | x :: l,d,k=>step x d fun d'=>rangeL step l d' k
def itT {X:Cx} {ρ:Type} (f:FuncId) (caps:List Cap) (K:(E:List AS)→List (HL (asLT E []))→Option ρ):List (IT X)→Option ρ
  | []=>none
  | e :: r=>match Nat.beq e.f f,capsGet (T:=[]) e.C caps () with
    | true,some d=>(e.m d).bind fun l=>K e.E l
    | _,_=>itT f caps K r
def mvs:List (Nat×Nat)→ASt→ASt
  | [],st=>st
  | p :: l,st=>mvs l ⟨reL (mvId p.1 p.2) st.L,reH (mvId p.1 p.2) st.H⟩
def mvV:List (Nat×Nat)→List Nat
  | []=>[]
  | p :: l=>mvV l++[p.2,p.1]
def mvOk:List (Nat×Nat)→Bool
  | []=>true
  | p :: l=>match Nat.blt p.2 pinBase with
    | true=>mvOk l
    | false=>false
def asgC (n:Nat):Code→Option (List (Nat×Nat))
  | .region _ ⟨ops⟩ false=>asgO n ops
  | .skip=>some []
  | _=>none
def noL (σ:Sh):Bool:=match σ.L,σ.kL with
  | [],[]=>true
  | _,_=>false
def stepR {ρ:Type} (n:Nat) (σ:Sh) (ms:List (Nat×Nat)) (pl mv:List Nat) (E:List AS) (st:ASt) (a:Evr) (x:Sc) (k:Kont ρ) (e:HL (asLT E [])) (y:σ.D) (kk:σ.D→Option ρ):Option ρ:=
  a none x ⟨mvS ms (parL pl (asS E e).1 (reL (pinRe n) st.L)),(σ.S st y).H⟩ fun e V s=>match e with
    | .normal=>goO (σ.get st V s) kk
    | .ret=>k .ret ((V++σ.ids)++mv) ⟨reL (pinRe n) st.L,s.H⟩
    | .exit i=>k (.exit i) ((V++σ.ids)++mv) ⟨reL (pinRe n) st.L,s.H⟩
    | _=>none
def evRange {ρ:Type} (X:Cx) (n:Nat) (TI:List (IT X)) (m:Bool) (g:Operand) (pl:List Nat) (asg:Code) (a:Evr) (sc:Sc) (st0:ASt) (k:Kont ρ):Option ρ:=match sc with
  | .rf mv σ x=>match m,mvOk mv,noL σ,Nat.ble n fixBase with
    | true,true,true,true=>match ae X (mvs mv st0).L g,asgC n asg with
      | some (c,.c (.fn f caps)),some ms=>gd c (itT f caps (fun E l=>match Nat.beq E.length pl.length,allLt n pl,allLt n (ms.map (·.1)) with
        | true,true,true=>goO (σ.get (mvs mv st0) [] (mvs mv st0)) fun y0=>rangeL (stepR n σ ms pl (mvV mv) E (mvs mv st0) a x k) l y0 fun y=>k .normal (σ.ids++mvV mv) ⟨reL (pinRe n) (mvs mv st0).L,(σ.S (mvs mv st0) y).H⟩
        | _,_,_=>none) TI)
      | _,_=>none
    | _,_,_,_=>none
  | _=>none
def evc (X:Cx) (N n:Nat) (T:List (CT X)) (TI:List (IT X)):Bool→Code→{ρ:Type}→Yo ρ→Sc→ASt→Kont ρ→Option ρ
  | _,.skip,_,_,sc,st,k=>wks n sc.wis [] st fun V st'=>k .normal V st'
  | _,.exit id,_,_,sc,st,k=>wks n sc.wis [] st fun V st'=>k (.exit id) V st'
  | _,.ret,_,_,sc,st,k=>wks n sc.wis [] st fun V st'=>k .ret V st'
  | _,.label _,_,_,_,st,k=>k .normal [] st
  | _,.region _ ops true,_,_,sc,st,k=>fSt st fun st=>match Nat.beq ops.toList.length (cntD sc.drw.2.1) with
    | true=>evD X n T ops.toList sc.drw.1 sc.drw.2.1 ⟨Array.replicate (cntD sc.drw.2.1) false,true,true,true,sc.dal⟩ [] [] [] st fun V st'=>wks n sc.drw.2.2 V st' fun V st'=>k .normal V st'
    | false=>none
  | _,.region _ ops false,_,yo,sc,st,k=>fSt st fun st=>evL X n T yo (dstsOf ops.toList) sc.ins ops.toList [] [] [] st fun V st'=>k .normal V st'
  | m,.seq a b,_,yo,sc,st,k=>evSeq yo sc (fun yo sc st k=>evc X N n T TI m a yo sc st k) (fun yo sc st k=>evc X N n T TI m b yo sc st k) st k
  | m,.cond x a b,_,yo,sc,st,k=>match ae X st.L x with
    | some (g,.c (.val (.bool q)))=>gd g (cond q (evc X N n T TI m a yo sc.fst st k) (evc X N n T TI m b yo sc.snd st k))
    | _=>none
  | m,.block id a,_,yo,sc,st,k=>evc X N n T TI m a yo sc.fst st fun e V st'=>match e with
    | .exit i=>match Nat.beq i id with
      | true=>k .normal V st'
      | false=>k (.exit i) V st'
    | e=>k e V st'
  | m,.scope a,_,yo,sc,st,k=>evc X N n T TI m a yo sc.fst st fun e V st'=>match e with
    | .goto _=>none
    | e=>k e V st'
  | m,.loop a,_,yo,sc,st,k=>fSt st fun st=>evLoop N yo sc (fun yo sc st k=>evc X N n T TI m a yo sc st k) st k
  | m,.rangeFunc g ps asg body,_,_,sc,st,k=>fSt st fun st=>evRange X n TI m g ps.toList asg (fun yo sc st k=>evc X N n T TI false body yo sc st k) sc st k
  | _,_,_,_,_,_,_=>none
section
variable {X:Cx} {M:Bool} {N n:Nat} {rr:Option Nat} {T:List (CT X)} {TI:List (IT X)}
def evQ (X:Cx) (M:Bool) (n:Nat) {ρ:Type} (st:ASt) (k:Kont ρ):Exit→ASt→ρ→Prop:=fun e s r=>∃ V s',Wm X M n s s'∧KS V st s'∧k e V s'=some r
def YG {ρ:Type} (Γ:Cn X M n rr ρ) (yo:Yo ρ):Prop:=∀ (ops:List Oper) (Q:Exit→Act→World→Prop),YOk X n yo (fun l r st=>∀ a w,Γ.In r st a w→XL rr X.P ops.toArray Q l a w)
theorem YG.none {ρ:Type} {Γ:Cn X M n rr ρ}:YG Γ none:=fun _ _ _ h=>by cases h
def EvOk (X:Cx) (M:Bool) (n:Nat) (rr:Option Nat) (c:Code) (f:Evr):Prop:=
  ∀ (ρ:Type) (Γ:Cn X M n rr ρ) (yo:Yo ρ),YG Γ yo→∀ (sc:Sc) (st:ASt) (k:Kont ρ) (r:ρ),f yo sc st k=some r→GX Γ c r st (evQ X M n st k)
theorem evSeq_ok {ρ:Type} {Γ:Cn X M n rr ρ} {yo:Yo ρ} (hy:YG Γ yo) {c1 c2:Code} {a b:Evr} (ha:EvOk X M n rr c1 a) (hb:EvOk X M n rr c2 b) {sc:Sc} {st:ASt} {k:Kont ρ} {r:ρ} (h:evSeq yo sc a b st k=some r):GX Γ (.seq c1 c2) r st (evQ X M n st k):=by
  unfold evSeq at h
  split at h
  · rename_i σ x y
    obtain ⟨d,h1,h2⟩:=bd h;refine gx_seq (gx_mono (gx_const (d0:=d) (ha _ (Γ.const r d) none YG.none _ _ _ _ h1)) fun e s r' ⟨hr,V,s',hw,hks,hs⟩=>?_);subst hr;cases e with
    | normal=>exact gx_weak (hw.trans (Sh.get_ok (Was.self σ st) hks hs).m) (gx_mono (hb _ Γ yo hy _ _ _ _ h2) fun e s r2 ⟨V2,s2,hw2,hks2,hs2⟩=>⟨_,s2,hw2,(Sh.ks σ st d).trans hks2,hs2⟩)
    | _=>cases hs
  · rename_i σ x y
    obtain ⟨o,h1,h2⟩:=bd h;refine gx_seq (gx_mono (gx_const (d0:=o) (ha _ (Γ.const r o) none YG.none _ _ _ _ h1)) fun e s r' ⟨hr,V,s',hw,hks,hs⟩=>?_);subst hr;cases e with
    | normal=>
      simp only at hs
      split at hs
      · rename_i d hd
        cases hs;exact gx_weak (hw.trans (Sh.get_ok (Was.self σ st) hks hd).m) (gx_mono (hb _ Γ yo hy _ _ _ _ h2) fun e s r2 ⟨V2,s2,hw2,hks2,hs2⟩=>⟨_,s2,hw2,(Sh.ks σ st d).trans hks2,hs2⟩)
      · cases hs
    | _=>
      simp only at hs
      split at hs
      · rename_i q hq
        cases hs;cases h2;exact ⟨V,s',hw,hks,hq⟩
      · cases hs
  · refine gx_seq (gx_mono (ha _ Γ yo hy _ _ _ _ h) fun e s r' ⟨V,s',hw,hks,hs⟩=>?_)
    cases e with
    | normal=>exact gx_weak hw (gx_mono (hb _ Γ yo hy _ _ _ _ hs) fun e s r2 ⟨V2,s2,hw2,hks2,hs2⟩=>⟨_,s2,hw2,hks.trans hks2,hs2⟩)
    | _=>exact ⟨V,s',hw,hks,hs⟩
theorem subN_mem {q:Nat} {l:List Nat}:∀ {ks:List Nat},subN ks l=true→q∈ks→inN q l=true
  | [],_,h=>by cases h
  | k :: r,h,hm=>by
    unfold subN at h
    split at h
    · rename_i h1
      rcases List.mem_cons.1 hm with rfl | hm
      · exact h1
      · exact subN_mem h hm
    · cases h
theorem disj_mem {q:Nat} {l:List Nat}:∀ {ks:List Nat},okX.disj ks l=true→q∈ks→inN q l=false
  | [],_,h=>by cases h
  | k :: r,h,hm=>by
    unfold okX.disj at h
    split at h
    · cases h
    · rename_i h1
      rcases List.mem_cons.1 hm with rfl | hm
      · exact h1
      · exact disj_mem h hm
theorem inN_mem {q:Nat}:∀ {l:List Nat},inN q l=true→q∈l
  | [],h=>by cases h
  | k :: r,h=>by
    unfold inN at h
    split at h
    · rename_i e
      rw [Nat.eq_of_beq_eq_true e];exact List.mem_cons_self
    · exact List.mem_cons_of_mem _ (inN_mem h)
theorem keepL_key {p:Nat×SV}:∀ {ks:List Nat} {L:Sl},p∈keepL ks L→p.1∈ks
  | [],_,h=>by cases h
  | k :: r,L,h=>by
    unfold keepL at h
    split at h
    · split at h
      · rcases List.mem_cons.1 h with rfl | h
        · exact List.mem_cons_self
        · exact List.mem_cons_of_mem _ (keepL_key h)
      · exact List.mem_cons_of_mem _ (keepL_key h)
    · exact List.mem_cons_of_mem _ (keepL_key h)
theorem keepH_key {p:Nat×Blk}:∀ {ks:List Nat} {L:Hp},p∈keepH ks L→p.1∈ks
  | [],_,h=>by cases h
  | k :: r,L,h=>by
    unfold keepH at h
    split at h
    · split at h
      · rcases List.mem_cons.1 h with rfl | h
        · exact List.mem_cons_self
        · exact List.mem_cons_of_mem _ (keepH_key h)
      · exact List.mem_cons_of_mem _ (keepH_key h)
    · exact List.mem_cons_of_mem _ (keepH_key h)
theorem mem_keepL {q:Nat} {v:SV}:∀ {ks:List Nat} {L:Sl},q∈ks→lk L q=some v→v.free=true→(q,v)∈keepL ks L
  | [],_,h,_,_=>by cases h
  | k :: r,L,h,hl,hf=>by
    unfold keepL
    rcases List.mem_cons.1 h with rfl | h
    · simp only [hl,hf]; exact List.mem_cons_self
    · have:=mem_keepL h hl hf
      split
      · split
        · exact List.mem_cons_of_mem _ this
        · exact this
      · exact this
theorem mem_keepH {q:Nat} {v:Blk}:∀ {ks:List Nat} {L:Hp},q∈ks→lk L q=some v→v.free=true→(q,v)∈keepH ks L
  | [],_,h,_,_=>by cases h
  | k :: r,L,h,hl,hf=>by
    unfold keepH
    rcases List.mem_cons.1 h with rfl | h
    · simp only [hl,hf]; exact List.mem_cons_self
    · have:=mem_keepH h hl hf
      split
      · split
        · exact List.mem_cons_of_mem _ this
        · exact this
      · exact this
theorem Was.out {σ τ:Sh} (hx:okX σ τ=true) (st:ASt) (d:σ.D):Was τ st (σ.S st d):=by
  unfold okX at hx
  split at hx
  · rename_i h1 h2 h3 h4
    refine ⟨fun p hp _=>?_,fun p hp _=>?_⟩
    · have hk:=keepL_key hp
      obtain ⟨e1,e2⟩:=keepL_mem hp;exact (Was.step σ st d).1 p (mem_keepL (inN_mem (subN_mem h1 hk)) e1 e2) (disj_mem h3 hk)
    · have hk:=keepH_key hp
      obtain ⟨e1,e2⟩:=keepH_mem hp;exact (Was.step σ st d).2 p (mem_keepH (inN_mem (subN_mem h2 hk)) e1 e2) (disj_mem h4 hk)
  · cases hx
theorem evLoop_ok {ρ:Type} {Γ:Cn X M n rr ρ} {yo:Yo ρ} (hy:YG Γ yo) {c:Code} {a:Evr} (ha:EvOk X M n rr c a) {sc:Sc} {st:ASt} {k:Kont ρ} {r:ρ} (h:evLoop N yo sc a st k=some r):GX Γ (.loop c) r st (evQ X M n st k):=by
  unfold evLoop at h
  split at h
  · rename_i σ x
    obtain ⟨d,h1,h2⟩:=goO_some h;refine gx_loop (fun (y:Nat×σ.D)=>σ.S st y.2) (fun y r=>loopF _ y.1 y.2=some r) (fun y=>y.1) (N,d) h2 (Sh.get_ok (Was.self σ st) (KS.refl (V:=[]) st) h1).m fun y r hy'=>?_
    obtain ⟨m,d2⟩:=y;cases m with
    | zero=>cases hy'
    | succ m=>
      refine gx_mono (ha _ Γ yo hy _ _ _ _ hy') fun e s r' ⟨V,s',hw,hks,hs⟩=>?_
      cases e with
      | normal=>
        obtain ⟨d3,h3,h4⟩:=goO_some hs;exact ⟨(m,d3),h4,Nat.lt_succ_self _,hw.trans (Sh.get_ok (Was.step σ st d2) hks h3).m⟩
      | _=>exact ⟨_,s',hw,(Sh.ks σ st d2).trans hks,hs⟩
  · rename_i id σ τ x
    obtain ⟨o,h,h5⟩:=bd h;obtain ⟨d,h1,h2⟩:=goO_some h;refine gx_loop (fun (y:Nat×σ.D)=>σ.S st y.2) (fun y r'=>loopF _ y.1 y.2=some o∧r'=r) (fun y=>y.1) (N,d) ⟨h2,rfl⟩ (Sh.get_ok (Was.self σ st) (KS.refl (V:=[]) st) h1).m fun y r' hy'=>?_
    obtain ⟨m,d2⟩:=y;obtain ⟨hy',rfl⟩:=hy';cases m with
    | zero=>cases hy'
    | succ m=>
      refine gx_mono (gx_const (d0:=o) (ha _ (Γ.const r' o) none YG.none _ _ _ _ hy')) fun e s r2 ⟨hr,V,s',hw,hks,hs⟩=>?_
      subst hr;cases e with
      | normal=>
        obtain ⟨d3,h3,h4⟩:=goO_some hs;exact ⟨(m,d3),⟨h4,rfl⟩,Nat.lt_succ_self _,hw.trans (Sh.get_ok (Was.step σ st d2) hks h3).m⟩
      | exit i=>
        simp only at hs
        split at hs
        · rename_i hi hx
          have:=Nat.eq_of_beq_eq_true hi
          subst this;exact ⟨_,_,hw.trans (Sh.get_ok (Was.out hx st d2) hks hs).m,Sh.ks τ st o,h5⟩
        · cases hs
      | _=>cases hs
  · rename_i id σ τ x
    obtain ⟨o,h,h5⟩:=bd h;obtain ⟨d,h1,h2⟩:=goO_some h;refine gx_loop (fun (y:Nat×σ.D)=>σ.S st y.2) (fun y r'=>loopF _ y.1 y.2=some o∧r'=r) (fun y=>y.1) (N,d) ⟨h2,rfl⟩ (Sh.get_ok (Was.self σ st) (KS.refl (V:=[]) st) h1).m fun y r' hy'=>?_
    obtain ⟨m,d2⟩:=y;obtain ⟨hy',rfl⟩:=hy';cases m with
    | zero=>cases hy'
    | succ m=>
      refine gx_mono (gx_const (d0:=o) (ha _ (Γ.const r' o) none YG.none _ _ _ _ hy')) fun e s r2 ⟨hr,V,s',hw,hks,hs⟩=>?_
      subst hr;have key:∀ e',(match k e' (V++σ.ids) s' with
          | some r=>some (Sum.inr r)
          | none=>(none:Option (τ.D⊕ρ)))=some o→evQ X M n st k e' s r2:=fun e' hs=>by
        split at hs
        · rename_i q hq
          cases hs;cases h5;exact ⟨_,s',hw,(Sh.ks σ st d2).trans hks,hq⟩
        · cases hs
      cases e with
      | normal=>
        obtain ⟨d3,h3,h4⟩:=goO_some hs;exact ⟨(m,d3),⟨h4,rfl⟩,Nat.lt_succ_self _,hw.trans (Sh.get_ok (Was.step σ st d2) hks h3).m⟩
      | exit i=>
        simp only at hs
        split at hs
        · rename_i hi hx
          have:=Nat.eq_of_beq_eq_true hi
          subst this
          split at hs
          · rename_i d4 hd4
            cases hs;exact ⟨_,_,hw.trans (Sh.get_ok (Was.out hx st d2) hks hd4).m,Sh.ks τ st d4,h5⟩
          · cases hs
        · exact key _ hs
        · cases hs
      | _=>exact key _ hs
  · cases h
theorem Wm.mv {i j:Nat} (hj:Nat.blt j pinBase=true) {st:ASt}:Wm X true n st ⟨reL (mvId i j) st.L,reH (mvId i j) st.H⟩:=by
  rintro R W Bi a w ⟨ks,env,B,w0,H,hM,hA⟩;obtain ⟨H',h1,h2⟩:=HR.re (mvId_ok (i:=i) (j:=j)) hA.heap;refine ⟨ks,upd env j (env i),B,w0,H',hM,hA.size,hA.defs,fun s sv hs=>?_,h2,hA.sh.weak (h1.append_right _),hA.sub,hA.new,pin_upd hA.pin (fun q hp=>by have h1:=hM.2 rfl _ _ hp; have h2:=lt_of_blt hj; omega),hA.base,hA.glob⟩;obtain ⟨u,h3,rfl⟩:=lk_reL hs;obtain ⟨v,h4,h5⟩:=hA.has s u h3;exact ⟨v,h4,VR.re mvId_ok h5⟩
theorem mvs_ok:∀ {l:List (Nat×Nat)} {st:ASt},mvOk l=true→Wm X true n st (mvs l st)
  | [],st,_=>Wm.refl st
  | p :: l,st,h=>by
    unfold mvOk at h
    split at h
    · rename_i h1
      exact (Wm.mv h1).trans (mvs_ok h)
    · cases h
theorem asgC_ok {c:Code} {ms:List (Nat×Nat)} (h:asgC n c=some ms):Asg n c ms:=by
  unfold asgC at h
  split at h
  · exact Asg.region h
  · cases h; exact Asg.skip
  · cases h
theorem asS_length:∀ {A:List AS} {T:List Type} (d:HL (asLT A T)),(asS A d).1.length=A.length
  | [],_,_=>rfl
  | x :: A,T,d=>by
    unfold asS;rw [List.length_cons,List.length_cons,asS_length]
theorem capsRe_free {φ:Re}:∀ {cs:List Cap},capsFz cs=true→capsRe φ cs=some cs
  | [],_=>rfl
  | .id _ :: _,h=>by cases h
  | .fz g x :: cs,h=>by
    unfold capsRe;rw [capsRe_free (cs:=cs) h]
theorem sc_re_free {φ:Re} {c:SC} (h:c.free=true):c.re φ=c:=by
  cases c with
  | fn f cs=>simp only [SC.re]; rw [capsRe_free h]
  | _=>first | rfl | cases h
theorem reCs_free {φ:Re}:∀ {cs:List SC},scFree cs=true→reCs φ cs=cs
  | [],_=>rfl
  | c :: r,h=>by
    unfold scFree at h
    split at h
    · rename_i e
      show c.re φ :: reCs φ r=_;rw [sc_re_free e,reCs_free h]
    · cases h
theorem sa_re_free {φ:Re} {x:SA} (h:x.free=true):x.re φ=x:=by
  cases x with
  | c x=>simp only [SA.re]; rw [sc_re_free h]
  | agg cs=>simp only [SA.re]; rw [reCs_free h]
  | arr g l=>rfl
theorem reAs_free {φ:Re}:∀ {xs:List SA},saFree xs=true→reAs φ xs=xs
  | [],_=>rfl
  | c :: r,h=>by
    unfold saFree at h
    split at h
    · rename_i e
      show c.re φ :: reAs φ r=_;rw [sa_re_free e,reAs_free h]
    · cases h
theorem sv_re_free {φ:Re} {v:SV} (h:v.free=true):v.re φ=v:=by
  cases v with
  | a x=>simp only [SV.re]; rw [sa_re_free h]
  | may g x=>simp only [SV.re]; rw [sa_re_free h]
  | tup xs=>simp only [SV.re]; rw [reAs_free h]
theorem blk_re_free {φ:Re} {b:Blk} (h:b.free=true):b.re φ=b:=by
  cases b with
  | cells t cs=>simp only [Blk.re]; rw [reCs_free h]
  | _=>first | rfl | cases h
theorem kl_re (φ:Re) (L:Sl) {V:List Nat}:KL V L (reL φ L):=Kp.map (f:=fun v=>v.re φ) (fun _ h=>sv_re_free h) fun _ _ h=>lk_reL h
theorem kh_mv (i j:Nat):∀ H:Hp,KH [j,i] H (reH (mvId i j) H)
  | []=>Kp.refl []
  | (k,b) :: r=>fun q v hq hl=>by
    obtain ⟨h1,h2⟩:=inN_ne hq;obtain ⟨h2,_⟩:=inN_ne h2;have ih:=kh_mv i j r q v hq;unfold reH at hl;rw [lk_cons];have hφ:mvId i j b.kd k=match Nat.beq k i with
      | true=>some j
      | false=>match Nat.beq k j with
        | true=>none
        | false=>some k:=rfl
    cases e1:Nat.beq k i with
    | true=>
      rw [hφ,e1] at hl;dsimp only at hl;rw [lk_cons,if_neg h1] at hl
      have:=Nat.eq_of_beq_eq_true e1
      rw [if_neg (by omega)];exact ih hl
    | false=>
      cases e2:Nat.beq k j with
      | true=>
        rw [hφ,e1,e2] at hl;dsimp only at hl
        have:=Nat.eq_of_beq_eq_true e2
        rw [if_neg (by omega)];exact ih hl
      | false=>
        rw [hφ,e1,e2] at hl;dsimp only at hl;rw [lk_cons] at hl
        split at hl
        · rename_i e
          cases hl;rw [if_pos e];exact ⟨b,rfl,fun hf=>blk_re_free hf⟩
        · rename_i e
          rw [if_neg e];exact ih hl
theorem mv_ks:∀ (l:List (Nat×Nat)) (st:ASt),KS (mvV l) st (mvs l st)
  | [],st=>KS.refl st
  | p :: l,st=>by
    have h1:KS [p.2,p.1] st ⟨reL (mvId p.1 p.2) st.L,reH (mvId p.1 p.2) st.H⟩:=⟨kl_re _ _,kh_mv _ _ _⟩
    exact h1.trans (mv_ks l _)
theorem Sh.get_okH {X:Cx} {n:Nat} {σ:Sh} {st st':ASt} {h0:Hp} {V:List Nat} {d:σ.D} (hw:∀ p∈keepH σ.kH st.H,inN p.1 (keysN σ.H)=false→lk h0 p.1=some p.2) (hs:KH V h0 st'.H) (h:σ.get st V st'=some d):Wk X n st' ⟨st'.L,(σ.S st d).H⟩:=by
  unfold Sh.get at h
  split at h
  · rename_i k1 k2 k3
    split at h
    · rename_i h0 e0
      split at h
      · rename_i u e1
        split at h
        · rename_i u2 e2
          cases h;obtain ⟨h1,h2⟩:=hpGet_ok e1;obtain ⟨h3,h4⟩:=slGet_ok e2;have hkH:∀ p∈keepH σ.kH st.H,lk st'.H p.1=some p.2:=fun p hp=>by
            obtain ⟨g1,g2,v,g3⟩:=okK_mem k2 hp;obtain ⟨u,g4,g5⟩:=hs p.1 v g1 g3;rw [hw p hp g2] at g4;cases g4;rw [g3,g5 (keepH_mem hp).2]
          rintro R W Bi M a w ⟨ks,env,B,w0,H,hM,hA⟩;have hsub:SubH st'.H (h0++keepH σ.kH st.H):=subH_app (pickH_ok e0) hkH (by rw [keys_pick e0]; exact k3);obtain ⟨H',hA'⟩:=hA.weak (st':=⟨[],h0++keepH σ.kH st.H⟩) .nil hsub;refine ⟨ks,env,B,w0,H',hM,hA'.size,hA'.defs,hA.has,?_,hA'.sh,hA'.sub,hA'.new,hA'.pin,hA'.base,hA'.glob⟩;show HR env B w0 ((hpS σ.H (slS σ.L (ofT σ.T (toT σ.T u2))).2).1++keepH σ.kH st.H) H';rw [ofT_toT,h3];obtain ⟨H1,H2,e,p1,p2⟩:=Sh.get_ok.HR.split (l:=h0) hA'.heap;rw [e];exact (h2 _ _ _ _ p1).append p2
        · cases h
      · cases h
    · cases h
  · cases h
theorem itT_some {ρ:Type} {f:FuncId} {caps:List Cap} {K:(E:List AS)→List (HL (asLT E []))→Option ρ} {r:ρ}:∀ {TI:List (IT X)},itT f caps K TI=some r→∃ e:IT X,e.f=f∧∃ l,AItE X f caps l (fun x=>(asS e.E x).1)∧capsFz caps=true∧K e.E l=some r
  | [],h=>by cases h
  | e :: TI,h=>by
    unfold itT at h
    split at h
    · rename_i d hf hd
      obtain ⟨l,h1,h2⟩:=bd h;have hf':=Nat.eq_of_beq_eq_true hf;have hc:=capsGet_ok hd
      have:=e.ok d l h1
      have hz:=e.hz d;rw [hc] at this hz;exact ⟨e,hf',l,hf' ▸ this,hz,h2⟩
    · exact itT_some h
theorem evRange_ok (hM:M=true) (hrr:rr=none) {ρ:Type} {Γ:Cn X M n rr ρ} {g:Operand} {pl:List Nat} {asg body:Code} {m:Bool} {a:Evr} (ha:∀ id,EvOk X false n (some id) body a) {sc:Sc} {st:ASt} {k:Kont ρ} {r:ρ} (h:evRange X n TI m g pl asg a sc st k=some r):GX Γ (.rangeFunc g pl.toArray asg body) r st (evQ X M n st k):=by
  subst hM;subst hrr;unfold evRange at h
  split at h
  · rename_i mv σ x
    split at h
    · rename_i hmv hnL hn
      split at h
      · rename_i c f caps ms hg hasg
        obtain ⟨hc,h⟩:=gd_some h;obtain ⟨e,hef,l,hit,hfz,h⟩:=itT_some h;dsimp only at h
        split at h
        · rename_i hE hpl hms
          obtain ⟨y0,hy0,hrl⟩:=goO_some h;have hE':=Nat.eq_of_beq_eq_true hE;subst hef;have hkl:∀ {V:List Nat} {h':Hp},KH V (mvs mv st).H h'→KS (V++mvV mv) st ⟨reL (pinRe n) (mvs mv st).L,h'⟩:=fun {V h'} hk=>(mv_ks mv st).trans ⟨kl_re _ _,hk⟩
          refine gx_weak (mvs_ok hmv) (gx_mono (gx_ax (ax_rangeE (Q:=fun e s=>evQ X true n st k e s r) hg hc hfz e.hf e.hn e.hb hit (fun x=>by rw [asS_length]; exact hE') hpl (asgC_ok hasg) hms hn (fun y=>(σ.S (mvs mv st) y).H) (fun l y=>rangeL (stepR n σ ms pl (mvV mv) e.E (mvs mv st) a x k) l y (fun y=>k .normal (σ.ids++mvV mv) ⟨reL (pinRe n) (mvs mv st).L,(σ.S (mvs mv st) y).H⟩)=some r) (fun e h'=>∃ V,KS V st ⟨reL (pinRe n) (mvs mv st).L,h'⟩∧k e V ⟨reL (pinRe n) (mvs mv st).L,h'⟩=some r) y0 hrl ?_ ?_ ?_ ?_)) fun e s r' ⟨h1,h2⟩=>by rw [h2]; exact h1)
          · exact (Sh.get_okH (h0:=(mvs mv st).H) (fun p hp _=>(keepH_mem hp).1) (Kp.refl _) hy0).m
          · intro id q rest y hq
            have hq':stepR n σ ms pl (mvV mv) e.E (mvs mv st) a x k q y (fun d'=>rangeL (stepR n σ ms pl (mvV mv) e.E (mvs mv st) a x k) rest d' (fun y=>k .normal (σ.ids++mvV mv) ⟨reL (pinRe n) (mvs mv st).L,(σ.S (mvs mv st) y).H⟩))=some r:=hq;unfold stepR at hq';refine ax_mono (ax_gx (r:=r) fun R W Bi=>ha id _ _ none YG.none _ _ _ _ hq') fun e2 s ⟨V,s',hw,hks,hs⟩=>?_
            cases e2 with
            | normal=>
              obtain ⟨d2,h3,h4⟩:=goO_some hs;exact .inl ⟨rfl,d2,h4,_,hw.trans (Sh.get_okH (Was.step σ (mvs mv st) y).2 hks.2 h3).m⟩
            | ret=>exact .inr ⟨(fun h=>by cases h),rfl,s'.H,⟨_,hkl ((Sh.ks σ (mvs mv st) y).2.trans hks.2),hs⟩,s'.L,hw⟩
            | exit i=>exact .inr ⟨(fun h=>by cases h),rfl,s'.H,⟨_,hkl ((Sh.ks σ (mvs mv st) y).2.trans hks.2),hs⟩,s'.L,hw⟩
            | _=>cases hs
          · intro y hy
            exact ⟨_,_,Wm.refl _,hkl (Sh.ks σ (mvs mv st) y).2,hy⟩
          · rintro e2 h' ⟨V,h3,h4⟩
            exact ⟨V,_,Wm.refl _,h3,h4⟩
        · cases h
      · cases h
    · cases h
  · cases h
theorem evc_ok (hX:X.tt.ok X.P) (hm:X.P.follows .mixedOrders=true):∀ (c:Code) (m M:Bool) (rr:Option Nat),(m=true→M=true∧rr=none)→EvOk X M n rr c (fun yo sc st k=>evc X N n T TI m c yo sc st k)
  | .skip,m,M,rr,_=>fun ρ Γ yo hy sc st k r h=>by
    obtain ⟨V,s',hw,hks,hs⟩:=wks_ok (X:=X) (KS.refl (V:=[]) st) (show wks n sc.wis [] st (fun V st'=>k .normal V st')=some r by cases m <;> exact h);exact gx_mono (gx_ax (ax_skip (Q:=fun e s=>evQ X M n st k e s r) ⟨V,s',hw.m,hks,hs⟩)) fun e s r' ⟨h1,h2⟩=>h2 ▸ h1
  | .exit id,m,M,rr,_=>fun ρ Γ yo hy sc st k r h=>by
    obtain ⟨V,s',hw,hks,hs⟩:=wks_ok (X:=X) (KS.refl (V:=[]) st) (show wks n sc.wis [] st (fun V st'=>k (.exit id) V st')=some r by cases m <;> exact h);exact gx_mono (gx_ax (ax_exit (Q:=fun e s=>evQ X M n st k e s r) ⟨V,s',hw.m,hks,hs⟩)) fun e s r' ⟨h1,h2⟩=>h2 ▸ h1
  | .ret,m,M,rr,_=>fun ρ Γ yo hy sc st k r h=>by
    obtain ⟨V,s',hw,hks,hs⟩:=wks_ok (X:=X) (KS.refl (V:=[]) st) (show wks n sc.wis [] st (fun V st'=>k .ret V st')=some r by cases m <;> exact h);exact gx_mono (gx_ax (ax_ret (Q:=fun e s=>evQ X M n st k e s r) ⟨V,s',hw.m,hks,hs⟩)) fun e s r' ⟨h1,h2⟩=>h2 ▸ h1
  | .label l,m,M,rr,_=>fun ρ Γ yo hy sc st k r h=>by
    exact gx_mono (gx_ax (ax_label (Q:=fun e s=>evQ X M n st k e s r) ⟨[],st,Wm.refl _,KS.refl st,by cases m <;> exact h⟩)) fun e s r' ⟨h1,h2⟩=>h2 ▸ h1
  | .region id ops false,m,M,rr,_=>fun ρ Γ yo hy sc st k r h=>by
    have h':evL X n T yo (dstsOf ops.toList) sc.ins ops.toList [] [] [] st (fun V st'=>k .normal V st')=some r:=by cases m <;> exact (fSt_eq st _).symm.trans h
    intro a w hi;have hZ:ZOk X n ops.toList (fun l r s0=>∀ a w,Γ.In r s0 a w→XL rr X.P ops.toList.toArray (fun e a w=>∃ s r',evQ X M n st k e s r'∧Γ.In r' s a w) l a w):=⟨fun hs hr a w hi=>xl_cons (Γ.step hs hi fun a w h=>hr a w h),fun hw hr a w hi=>hr a w (Γ.weak hw.m hi)⟩
    have:=c_region (id:=id) (evL_ok (st0:=st) (T:=T) (is:=sc.ins) (V:=[]) (A:=[]) hX hZ (hy _ _) GInv.nil (KS.refl (V:=[]) st) h' (fun V s' r' hks hs a w hi=>x_end ⟨s',r',⟨V,s',Wm.refl _,hks,hs⟩,hi⟩) a w hi)
    exact this
  | .region id ops true,m,M,rr,_=>fun ρ Γ yo hy sc st k r h=>by
    have h':(match Nat.beq ops.toList.length (cntD sc.drw.2.1) with
      | true=>evD X n T ops.toList sc.drw.1 sc.drw.2.1 ⟨Array.replicate (cntD sc.drw.2.1) false,true,true,true,sc.dal⟩ [] [] [] st fun V st'=>wks n sc.drw.2.2 V st' fun V st'=>k .normal V st'
      | false=>none)=some r:=by cases m <;> exact (fSt_eq st _).symm.trans h
    split at h'
    · rename_i e
      have hl:=Nat.eq_of_beq_eq_true e
      have:=ax_draw (X:=X) (M:=M) (n:=n) (st:=st) (Q:=fun e s=>evQ X M n st k e s r) (ops:=ops.toList) (id:=id) (r:=rr) sc.drw.1 hm hl (evD_ok (is:=sc.drw.2.1) hX (k:=fun V st'=>wks n sc.drw.2.2 V st' fun V st'=>k .normal V st') (fun V st' hks hs=>by
        obtain ⟨V2,s2,hw,hks2,hs2⟩:=wks_ok (X:=X) hks hs;exact ⟨V2,s2,hw.m,hks2,hs2⟩) GInv.nil (KS.refl (V:=[]) st) h')
      exact gx_mono (gx_ax this) fun e s r' ⟨h1,h2⟩=>h2 ▸ h1
    · cases h'
  | .seq a b,m,M,rr,hmm=>fun ρ Γ yo hy sc st k r h=>evSeq_ok hy (evc_ok hX hm a m M rr hmm) (evc_ok hX hm b m M rr hmm) (show evSeq yo sc (fun yo sc st k=>evc X N n T TI m a yo sc st k) (fun yo sc st k=>evc X N n T TI m b yo sc st k) st k=some r by cases m <;> exact h)
  | .cond x a b,m,M,rr,hmm=>fun ρ Γ yo hy sc st k r h=>by
    have h':(match ae X st.L x with
      | some (g,.c (.val (.bool q)))=>gd g (cond q (evc X N n T TI m a yo sc.fst st k) (evc X N n T TI m b yo sc.snd st k))
      | _=>none)=some r:=by cases m <;> exact h
    split at h'
    · rename_i g q hx
      obtain ⟨hg,h'⟩:=gd_some h';exact gx_cond hx hg (fun hq=>evc_ok hX hm a m M rr hmm _ Γ yo hy _ _ _ _ (cond_t hq h')) (fun hq=>evc_ok hX hm b m M rr hmm _ Γ yo hy _ _ _ _ (cond_f hq h'))
    · cases h'
  | .block id a,m,M,rr,hmm=>fun ρ Γ yo hy sc st k r h=>by
    have h':(evc X N n T TI m a yo sc.fst st fun e V st'=>match e with
      | .exit i=>match Nat.beq i id with
        | true=>k .normal V st'
        | false=>k (.exit i) V st'
      | e=>k e V st')=some r:=by cases m <;> exact h
    refine gx_block (gx_mono (evc_ok hX hm a m M rr hmm _ Γ yo hy _ _ _ _ h') fun e s r' ⟨V,s',hw,hks,hs⟩=>?_);cases e with
    | exit i=>
      show match Nat.beq i id with | true=>evQ X M n st k .normal s r' | false=>evQ X M n st k (.exit i) s r'
      simp only at hs
      split at hs
      · exact ⟨V,s',hw,hks,hs⟩
      · exact ⟨V,s',hw,hks,hs⟩
    | _=>exact ⟨V,s',hw,hks,hs⟩
  | .scope a,m,M,rr,hmm=>fun ρ Γ yo hy sc st k r h=>by
    have h':(evc X N n T TI m a yo sc.fst st fun e V st'=>match e with
      | .goto _=>none
      | e=>k e V st')=some r:=by cases m <;> exact h
    refine gx_scope (gx_mono (evc_ok hX hm a m M rr hmm _ Γ yo hy _ _ _ _ h') fun e s r' ⟨V,s',hw,hks,hs⟩=>?_);cases e with
    | goto l=>cases hs
    | _=>exact ⟨V,s',hw,hks,hs⟩
  | .loop a,m,M,rr,hmm=>fun ρ Γ yo hy sc st k r h=>evLoop_ok hy (evc_ok hX hm a m M rr hmm) (show evLoop N yo sc (fun yo sc st k=>evc X N n T TI m a yo sc st k) st k=some r by cases m <;> exact (fSt_eq st _).symm.trans h)
  | .rangeFunc g ps asg body,m,M,rr,hmm=>fun ρ Γ yo hy sc st k r h=>by
    have h':evRange X n TI m g ps.toList asg (fun yo sc st k=>evc X N n T TI false body yo sc st k) sc st k=some r:=by cases m <;> exact (fSt_eq st _).symm.trans h
    cases m with
    | false=>
      unfold evRange at h'
      split at h'
      · cases h'
      · cases h'
    | true=>
      obtain ⟨h1,h2⟩:=hmm rfl;exact evRange_ok h1 h2 (fun id=>evc_ok hX hm body false false (some id) (fun h=>by cases h)) h'
  | .goto _,m,_,_,_=>fun _ _ _ _ _ _ _ _ h=>by cases m <;> cases h
  | .refuse _,m,_,_,_=>fun _ _ _ _ _ _ _ _ h=>by cases m <;> cases h
structure Rs where
  R:VS
  H:List (Nat×BS):=[]
  k:List Nat:=[]
abbrev Rs.ty (R:Rs):Type:=TupT (R.R.LT (hpLT R.H []))
def Rs.out (R:Rs) (H0:Hp) (r:R.ty):SV×Hp:=((R.R.S (ofT _ r)).1,(hpS R.H (R.R.S (ofT _ r)).2).1++keepH R.k H0)
def Rs.get (R:Rs) (H0:Hp) (V:List Nat) (H:Hp) (sv:SV):Option R.ty:=
  match okK V (keysN R.H) H (keepH R.k H0),nodupB (keysN R.H++keysN (keepH R.k H0)) with
  | true,true=>match pickH H (keysN R.H) with
    | some h=>match hpGet (T:=[]) R.H h () with
      | some u=>match R.R.get sv u with
        | some u=>some (toT _ u)
        | none=>none
      | none=>none
    | none=>none
  | _,_=>none
theorem Rs.get_ok {R:Rs} {st0 st:ASt} {V:List Nat} {sv:SV} {r:R.ty} (hs:KS V st0 st) (h:R.get st0.H V st.H sv=some r):∃ hh,VI sv (R.out st0.H r).1∧SubH st.H hh∧∀ env B w H,HR env B w hh H→HR env B w (R.out st0.H r).2 H:=by
  unfold Rs.get at h
  split at h
  · rename_i k2 k3
    split at h
    · rename_i h0 e0
      split at h
      · rename_i u e1
        split at h
        · rename_i u2 e2
          cases h;obtain ⟨h1,h2⟩:=hpGet_ok e1;obtain ⟨h3,h4⟩:=VS.get_ok e2;have hkH:∀ p∈keepH R.k st0.H,lk st.H p.1=some p.2:=fun p hp=>by
            obtain ⟨g1,g2,v,g3⟩:=okK_mem k2 hp;obtain ⟨u,g4,g5⟩:=hs.2 p.1 v g1 g3;rw [(keepH_mem hp).1] at g4;cases g4;rw [g3,g5 (keepH_mem hp).2]
          refine ⟨h0++keepH R.k st0.H,?_,subH_app (pickH_ok e0) hkH (by rw [keys_pick e0]; exact k3),fun env B w H hh=>?_⟩
          · show VI sv (R.R.S (ofT _ (toT _ u2))).1
            rw [ofT_toT];exact h4
          · show HR env B w ((hpS R.H (R.R.S (ofT _ (toT _ u2))).2).1++keepH R.k st0.H) H
            rw [ofT_toT,h3];obtain ⟨H1,H2,e,p1,p2⟩:=Sh.get_ok.HR.split (l:=h0) hh;rw [e];exact (h2 _ _ _ _ p1).append p2
        · cases h
      · cases h
    · cases h
  · cases h
def evFin (X:Cx) (res:List ResultVar) (R:Rs) (H0:Hp):Kont R.ty
  | .goto _,_,_=>none
  | .exit _,_,_=>none
  | .panic _,_,_=>none
  | .outgrown,_,_=>none
  | _,V,st=>match ares X st res with
    | some (c,sv)=>gd c (R.get H0 V st.H sv)
    | none=>none
abbrev argT (A:List AS) (HA:List (Nat×BS)):Type:=HL (asLT A (hpLT HA []))
def inS (A:List AS) (HA:List (Nat×BS)) (d:argT A HA):List SA×Hp:=((asS A d).1,(hpS HA (asS A d).2).1)
def evF (X:Cx) (N n:Nat) (T:List (CT X)) (TI:List (IT X)) (c:Code) (sc:Sc) (res:List ResultVar) (A:List AS) (HA:List (Nat×BS)) (R:Rs) (d:argT A HA):Option R.ty:=
  evc X N n T TI true c none sc ⟨argL 0 (inS A HA d).1,(inS A HA d).2⟩ (evFin X res R (inS A HA d).2)
theorem AC.monoI {f:FuncId} {args:List SA} {h:Hp} {Q Q2:SV→Hp→Prop} (hC:AC X f args h Q) (hq:∀ sv h',Q sv h'→∃ sv2 h2 hs,VI sv sv2∧SubH h' hs∧(∀ env B w H,HR env B w hs H→HR env B w h2 H)∧Q2 sv2 h2):AC X f args h Q2:=fun B w0 env vs H W hg ha hh hs=>by
  refine Ret.mono (hC B w0 env vs H W hg ha hh hs) fun v w' ⟨env',B',w0',H',sv,h',h1,h2,h3,h4,h5,h6,h7,h8⟩=>?_
  obtain ⟨sv2,hp2,hsb,q1,q2,q3,q4⟩:=hq sv h' h1;obtain ⟨H2,Y,p1,p2⟩:=q2.sel h6;exact ⟨env',B',w0',H2,sv2,hp2,q4,h2,h3,h4,q1 _ _ _ _ h5,q3 _ _ _ _ p2,(h7.perm p1).weak (List.sublist_append_left _ _),h8⟩
theorem ev_ac (N:Nat) (hX:X.tt.ok X.P) (hm:X.P.follows .mixedOrders=true) {f:FuncId} {fn:Func} {c:Code} {A:List AS} {HA:List (Nat×BS)} {R:Rs} (T:List (CT X)) (TI:List (IT X)) (sc:Sc) {res:List ResultVar} (hf:X.P.funcs[f]?=some fn) (hb:fn.body=some c) (hN:fn.ntmps=n) (hl:Nat.ble A.length n=true) (hn:Nat.ble n pinBase=true) (hr:fn.results=res.toArray)
    {d:argT A HA} {r:R.ty} (h:evF X N n T TI c sc res A HA R d=some r):AC X f (inS A HA d).1 (inS A HA d).2 (fun sv h=>sv=(R.out (inS A HA d).2 r).1∧h=(R.out (inS A HA d).2 r).2):=by
  refine AC.monoI (ac_bodyE (Q:=fun sv h'=>∃ hs,VI sv (R.out (inS A HA d).2 r).1∧SubH h' hs∧∀ env B w H,HR env B w hs H→HR env B w (R.out (inS A HA d).2 r).2 H) hX hf hb hN (by show Nat.ble (asS A d).1.length n=true; rw [asS_length]; exact hl) hn hr (ax_mono (ax_gx (r:=r) fun R0 W0 Bi0=>evc_ok hX hm c true true none (fun _=>⟨rfl,rfl⟩) _ _ none YG.none _ _ _ _ (show evc X N n T TI true c none sc _ _=some r from h)) fun e s ⟨V,s',hw,hks,hs⟩=>?_)) fun sv h' ⟨hs,q1,q2,q3⟩=>⟨_,_,hs,q1,q2,q3,rfl,rfl⟩
  have key:(match ares X s' res with
    | some (c,sv)=>gd c (R.get (inS A HA d).2 V s'.H sv)
    | none=>none)=some r→∃ st',Wm X true n s st'∧∃ c sv,ares X st' res=some (c,sv)∧c=true∧∃ hs,VI sv (R.out (inS A HA d).2 r).1∧SubH st'.H hs∧∀ env B w H,HR env B w hs H→HR env B w (R.out (inS A HA d).2 r).2 H:=fun hk=>by
    split at hk
    · rename_i c sv e1
      obtain ⟨hc,hk⟩:=gd_some hk;exact ⟨s',hw,c,sv,e1,hc,Rs.get_ok hks hk⟩
    · cases hk
  cases e with
  | ret=>exact ⟨.inl rfl,key hs⟩
  | normal=>exact ⟨.inr rfl,key hs⟩
  | _=>cases hs
def ctE (N : Nat) (hX : X.tt.ok X.P) (hm : X.P.follows .mixedOrders = true) {fn : Func} {c : Code} (A : List AS) (HA : List (Nat × BS)) (R : Rs) (T : List (CT X)) (TI : List (IT X)) (sc : Sc) (res : List ResultVar) (f : FuncId) (df : R.ty) (m : argT A HA → Option R.ty) (hf : X.P.funcs[f]? = some fn) (hg : (fn.name == "runtime.NumGoroutine") = false) (hb : fn.body = some c) (hN : fn.ntmps = n) (hl : Nat.ble A.length n = true) (hn : Nat.ble n pinBase = true) (hr : fn.results = res.toArray)
    (h:∀ d,evF X N n T TI c sc res A HA R d=m d):CT X:=
  { f:=f,fn:=fn,A:=A,HA:=HA,ρ:=R.ty,df:=df,m:=m,out:=fun d r=>R.out (inS A HA d).2 r,hf:=hf,hn:=hg,hb:=by rw [hb]; rfl,ok:=fun d r he=>ev_ac N hX hm T TI sc hf hb hN hl hn hr ((h d).trans he) }
end
end Go.Proofs.Yteglgnkcpaagjaa

/- Stitches, charts: by the walker. -/
namespace Go.Proofs.Yteglgnkcpaagjaa
set_option linter.unusedSimpArgs false
set_option linter.unusedVariables false
open Go.RowKit
def m_stcheck (N:Nat) (a0:Kt4):Option (Int):=
    cond (cond (cond (cond (decide (a0.1 < (1:Int))) true (decide ((8:Int) < a0.1))) true (decide (a0.2.1 < (1:Int)))) true (decide ((6:Int) < a0.2.1))) (some (1:Int)) (cond (!(decide (a0.1=(8:Int)))) (cond (cond (cond (!(decide (a0.2.2.1=(0:Int)))) true (!(decide (a0.2.2.2.1=(0:Int))))) true a0.2.2.2.2) (some (1:Int)) (some (0:Int))) (gd ((impB (!(cond (cond (decide (a0.2.2.1 < (1:Int))) true (decide ((4:Int) < a0.2.2.1))) true (decide (a0.2.2.2.1 < (1:Int))))) (inI64 ((4:Int) - a0.2.2.1)))&&(true)) <|
    cond (cond (cond (cond (decide (a0.2.2.1 < (1:Int))) true (decide ((4:Int) < a0.2.2.1))) true (decide (a0.2.2.2.1 < (1:Int)))) true (decide (((4:Int) - a0.2.2.1) < a0.2.2.2.1))) (some (1:Int)) (some (0:Int))))
set_option maxRecDepth 100000 in
noncomputable def ct_stcheck (N:Nat):CT cx:=ctE N tt_ok (by kernel_rfl) [.dat kd4] [] ⟨.a (.c (.int .i64)),[],[]⟩ [] [] (.s (.r [.n 2,.w (.frzC 1 kd4)]) .d) [.tmp 2] 43 0 (fun d=>m_stcheck N d.1) Try.func43 rfl rfl Try.ntmps43 rfl rfl rfl (fun d=>by kernel_rfl)
def m_stneeds (N:Nat) (a0:Kt4):Option (Int):=
    Option.bind (m_stcheck N a0) fun r1=>
    cond (!(decide (r1=(0:Int)))) (some (0:Int)) (cond (decide (a0.1=(3:Int))) (some (0:Int)) (Option.bind (cond (decide (a0.1=(4:Int))) (some (decide (a0.1=(4:Int)))) (some (decide (a0.1=(5:Int))))) fun o2=>
    cond o2 (some (2:Int)) (cond (decide (a0.1=(8:Int))) (gd ((inI64 (a0.2.2.1+a0.2.2.2.1))&&(true)) <|
    some (a0.2.2.1+a0.2.2.2.1)) (some (1:Int)))))
set_option maxRecDepth 100000 in
noncomputable def ct_stneeds (N:Nat):CT cx:=ctE N tt_ok (by kernel_rfl) [.dat kd4] [] ⟨.a (.c (.int .i64)),[],[]⟩ [ct_stcheck N] [] (.s (.r [.n 2,.w (.frzC 1 kd4)]) (.s .d (.s (.s .d (.b (.s .d (.c .d (.j ⟨[(10,.a (.c .bool))],[],[1,7],[]⟩ .d .d))))) .d))) [.tmp 2] 38 0 (fun d=>m_stneeds N d.1) Try.func38 rfl rfl Try.ntmps38 rfl rfl rfl (fun d=>by kernel_rfl)
def m_stmakes (N:Nat) (a0:Kt4):Option (Int):=
    Option.bind (m_stcheck N a0) fun r1=>
    cond (!(decide (r1=(0:Int)))) (some (0:Int)) (cond (decide (a0.1=(8:Int))) (gd ((inI64 (a0.2.2.1+a0.2.2.2.1))&&(true)) <|
    some (a0.2.2.1+a0.2.2.2.1)) (some (1:Int)))
set_option maxRecDepth 100000 in
noncomputable def ct_stmakes (N:Nat):CT cx:=ctE N tt_ok (by kernel_rfl) [.dat kd4] [] ⟨.a (.c (.int .i64)),[],[]⟩ [ct_stcheck N] [] (.s (.r [.n 2,.w (.frzC 1 kd4)]) .d) [.tmp 2] 42 0 (fun d=>m_stmakes N d.1) Try.func42 rfl rfl Try.ntmps42 rfl rfl rfl (fun d=>by kernel_rfl)
def m_pcount_L1 (N:Nat) (a0:(List Kt4)) (a1:Int):Nat→(Int×Int)→Option (Int):=loopF fun d1 rec1=>
    cond (decide (d1.2 < (a0.length:Int))) (gd ((inB d1.2 a0.length)&&(true)) <|
    cond (decide ((a0.getD d1.2.toNat kd4.zero).2.1=a1)) (gd ((inI64 (d1.1+(1:Int)))&&(true)) <|
    gd ((inI64 (d1.2+(1:Int)))&&(true)) <|
    rec1 ((d1.1+(1:Int)),(d1.2+(1:Int)))) (gd ((inI64 (d1.2+(1:Int)))&&(true)) <|
    rec1 (d1.1,(d1.2+(1:Int))))) (some d1.1)
def m_pcount (N:Nat) (a0:(List Kt4)) (a1:Int):Option (Int):=
    Option.bind (m_pcount_L1 N a0 a1 N ((0:Int),(0:Int))) fun o1=>
    some o1
set_option maxRecDepth 100000 in
noncomputable def ct_pcount (N:Nat):CT cx:=ctE N tt_ok (by kernel_rfl) [.c (.lst kd4),.c (.int .u8)] [] ⟨.a (.c (.int .i64)),[],[]⟩ [] [] (.s .d (.s .d (.s (.s .d (.b (.lx 0 ⟨[(5,.a (.c (.int .i64))),(10,.a (.c (.int .i64)))],[],[1,8,9],[]⟩ ⟨[(5,.a (.c (.int .i64)))],[],[],[]⟩ (.s .d (.s .d (.s (.b (.s (.r [.n 4,.w (.frzC 7 kd4)]) .d)) .d)))))) .d))) [.tmp 4] 29 0 (fun d=>m_pcount N d.1 d.2.1) Try.func29 rfl rfl Try.ntmps29 rfl rfl rfl (fun d=>by kernel_rfl)
def m_chfirst_L1 (N:Nat) (a0:(List Kt4)):Nat→(Int×Int)→Option (Int):=loopF fun d1 rec1=>
    cond (decide (d1.2 < (a0.length:Int))) (gd ((inB d1.2 a0.length)&&(true)) <|
    gd ((inI64 (d1.2+(1:Int)))&&(true)) <|
    rec1 ((if (a0.getD d1.2.toNat kd4.zero).2.1 < d1.1 then (a0.getD d1.2.toNat kd4.zero).2.1 else d1.1),(d1.2+(1:Int)))) (some d1.1)
def m_chfirst (N:Nat) (a0:(List Kt4)):Option (Int):=
    cond (decide ((a0.length:Int)=(0:Int))) (some (0:Int)) (gd ((inB (0:Int) a0.length)&&(true)) <|
    Option.bind (m_chfirst_L1 N a0 N ((a0.getD (0:Int).toNat kd4.zero).2.1,(0:Int))) fun o1=>
    some o1)
set_option maxRecDepth 100000 in
noncomputable def ct_chfirst (N:Nat):CT cx:=ctE N tt_ok (by kernel_rfl) [.c (.lst kd4)] [] ⟨.a (.c (.int .u8)),[],[]⟩ [] [] (.s .d (.s .d (.s .d (.s (.s .d (.b (.lx 0 ⟨[(3,.a (.c (.int .u8))),(15,.a (.c (.int .i64)))],[],[13,14],[]⟩ ⟨[(3,.a (.c (.int .u8)))],[],[],[]⟩ (.s .d (.s .d (.s (.b (.s (.r [.n 4,.w (.frzC 5 kd4)]) .d)) .d)))))) .d)))) [.tmp 2] 28 0 (fun d=>m_chfirst N d.1) Try.func28 rfl rfl Try.ntmps28 rfl rfl rfl (fun d=>by kernel_rfl)
end Go.Proofs.Yteglgnkcpaagjaa

/- Charts, pictures: by the walker. -/
namespace Go.Proofs.Yteglgnkcpaagjaa
set_option linter.unusedSimpArgs false
set_option linter.unusedVariables false
open Go.RowKit
def m_p39ex (N:Nat) :Option ((List (List Kt4))):=
    some [[((1:Int),((1:Int),((0:Int),((0:Int),false)))),((2:Int),((2:Int),((0:Int),((0:Int),false)))),((1:Int),((1:Int),((0:Int),((0:Int),false))))],[((1:Int),((2:Int),((0:Int),((0:Int),false)))),((1:Int),((2:Int),((0:Int),((0:Int),false)))),((1:Int),((2:Int),((0:Int),((0:Int),false))))],[((2:Int),((1:Int),((0:Int),((0:Int),false)))),((1:Int),((1:Int),((0:Int),((0:Int),false)))),((1:Int),((1:Int),((0:Int),((0:Int),false))))]]
set_option maxRecDepth 100000 in
noncomputable def ct_p39ex (N:Nat):CT cx:=ctE N tt_ok (by kernel_rfl) [] [] ⟨.a (.dat (.sl (.sl kd4))),[],[]⟩ [] [] (.s .d (.s (.r [.n 3,.w (.frzC 1 kd4)]) (.s (.r [.n 3,.w (.frzC 2 kd4)]) (.s (.r [.n 12,.w (.frz 8),.w (.frz 12),.w (.frz 16)]) (.t [.frz 17]))))) [.cell 0 28] 11 [] (fun d=>m_p39ex N ) Try.func11 rfl rfl Try.ntmps11 rfl rfl rfl (fun d=>by kernel_rfl)
def m_chtotN_L1 (N:Nat) (a0:(List Kt4)):Nat→(Int×Int)→Option (Int):=loopF fun d1 rec1=>
    cond (decide (d1.2 < (a0.length:Int))) (gd ((inB d1.2 a0.length)&&(true)) <|
    Option.bind (m_stneeds N (a0.getD d1.2.toNat kd4.zero)) fun r2=>
    gd ((inI64 (d1.1+r2))&&(true)) <|
    gd ((inI64 (d1.2+(1:Int)))&&(true)) <|
    rec1 ((d1.1+r2),(d1.2+(1:Int)))) (some d1.1)
def m_chtotN (N:Nat) (a0:(List Kt4)):Option (Int):=
    Option.bind (m_chtotN_L1 N a0 N ((0:Int),(0:Int))) fun o1=>
    some o1
set_option maxRecDepth 100000 in
noncomputable def ct_chtotN (N:Nat):CT cx:=ctE N tt_ok (by kernel_rfl) [.c (.lst kd4),.c (.fn 38 [])] [] ⟨.a (.c (.int .i64)),[],[]⟩ [ct_stneeds N] [] (.s .d (.s .d (.s (.s .d (.b (.lx 0 ⟨[(5,.a (.c (.int .i64))),(10,.a (.c (.int .i64)))],[],[1,8,9],[]⟩ ⟨[(5,.a (.c (.int .i64)))],[],[],[]⟩ (.s .d (.s .d (.s (.b (.s (.r [.n 4,.w (.frzC 7 kd4)]) .d)) .d)))))) .d))) [.tmp 4] 41 0 (fun d=>m_chtotN N d.1) Try.func41 rfl rfl Try.ntmps41 rfl rfl rfl (fun d=>by kernel_rfl)
def m_chtotM_L1 (N:Nat) (a0:(List Kt4)):Nat→(Int×Int)→Option (Int):=loopF fun d1 rec1=>
    cond (decide (d1.2 < (a0.length:Int))) (gd ((inB d1.2 a0.length)&&(true)) <|
    Option.bind (m_stmakes N (a0.getD d1.2.toNat kd4.zero)) fun r2=>
    gd ((inI64 (d1.1+r2))&&(true)) <|
    gd ((inI64 (d1.2+(1:Int)))&&(true)) <|
    rec1 ((d1.1+r2),(d1.2+(1:Int)))) (some d1.1)
def m_chtotM (N:Nat) (a0:(List Kt4)):Option (Int):=
    Option.bind (m_chtotM_L1 N a0 N ((0:Int),(0:Int))) fun o1=>
    some o1
set_option maxRecDepth 100000 in
noncomputable def ct_chtotM (N:Nat):CT cx:=ctE N tt_ok (by kernel_rfl) [.c (.lst kd4),.c (.fn 42 [])] [] ⟨.a (.c (.int .i64)),[],[]⟩ [ct_stmakes N] [] (.s .d (.s .d (.s (.s .d (.b (.lx 0 ⟨[(5,.a (.c (.int .i64))),(10,.a (.c (.int .i64)))],[],[1,8,9],[]⟩ ⟨[(5,.a (.c (.int .i64)))],[],[],[]⟩ (.s .d (.s .d (.s (.b (.s (.r [.n 4,.w (.frzC 7 kd4)]) .d)) .d)))))) .d))) [.tmp 4] 41 0 (fun d=>m_chtotM N d.1) Try.func41 rfl rfl Try.ntmps41 rfl rfl rfl (fun d=>by kernel_rfl)
def m_chneeds (N:Nat) (a0:(List Kt4)):Option (Int):=
    Option.bind (m_chtotN N a0) fun r1=>
    some r1
set_option maxRecDepth 100000 in
noncomputable def ct_chneeds (N:Nat):CT cx:=ctE N tt_ok (by kernel_rfl) [.c (.lst kd4)] [] ⟨.a (.c (.int .i64)),[],[]⟩ [ct_chtotN N] [] (.d) [.tmp 2] 36 0 (fun d=>m_chneeds N d.1) Try.func36 rfl rfl Try.ntmps36 rfl rfl rfl (fun d=>by kernel_rfl)
def m_chmakes (N:Nat) (a0:(List Kt4)):Option (Int):=
    Option.bind (m_chtotM N a0) fun r1=>
    some r1
set_option maxRecDepth 100000 in
noncomputable def ct_chmakes (N:Nat):CT cx:=ctE N tt_ok (by kernel_rfl) [.c (.lst kd4)] [] ⟨.a (.c (.int .i64)),[],[]⟩ [ct_chtotM N] [] (.d) [.tmp 2] 37 0 (fun d=>m_chmakes N d.1) Try.func37 rfl rfl Try.ntmps37 rfl rfl rfl (fun d=>by kernel_rfl)
def m_chrow_L1 (N:Nat) (a0:(List Kt4)):Nat→Int→Option ((Unit)⊕(Int)):=loopF fun d1 rec1=>
    cond (decide (d1 < (a0.length:Int))) (gd ((inB d1 a0.length)&&(true)) <|
    Option.bind (m_stcheck N (a0.getD d1.toNat kd4.zero)) fun r2=>
    cond (!(decide (r2=(0:Int)))) (some (.inr (1:Int))) (gd ((inI64 (d1+(1:Int)))&&(true)) <|
    rec1 (d1+(1:Int)))) (some (.inl ()))
def m_chrow (N:Nat) (a0:(List Kt4)):Option (Int):=
    cond (decide ((16:Int) < (a0.length:Int))) (some (3:Int)) (cond (decide ((a0.length:Int)=(0:Int))) (some (1:Int)) (Option.bind (m_chrow_L1 N a0 N (0:Int)) fun (o1:(Unit)⊕(Int))=>
    sm o1 (fun o1=>
    Option.bind (m_chneeds N a0) fun r3=>
    Option.bind (m_chmakes N a0) fun r4=>
    cond (cond (cond (cond (decide (r3 < (1:Int))) true (decide ((16:Int) < r3))) true (decide (r4 < (1:Int)))) true (decide ((16:Int) < r4))) (some (5:Int)) (some (0:Int))) (fun q=>some q)))
set_option maxRecDepth 100000 in
noncomputable def ct_chrow (N:Nat):CT cx:=ctE N tt_ok (by kernel_rfl) [.c (.lst kd4)] [] ⟨.a (.c (.int .i64)),[],[]⟩ [ct_stcheck N,ct_chneeds N,ct_chmakes N] [] (.s .d (.s .d (.s .d (.s (.s .d (.b (.lxx 0 ⟨[(15,.a (.c (.int .i64)))],[],[0,13,14],[]⟩ ⟨[],[],[0],[]⟩ (.s .d (.s .d (.s (.b (.s (.r [.n 4,.w (.frzC 4 kd4)]) .d)) .d)))))) .d)))) [.tmp 2] 40 0 (fun d=>m_chrow N d.1) Try.func40 rfl rfl Try.ntmps40 rfl rfl rfl (fun d=>by kernel_rfl)
def m_chrows_L1 (N:Nat) (a0:(List (List Kt4))):Nat→Int→Option ((Unit)⊕(Int)):=loopF fun d1 rec1=>
    cond (decide (d1 < (a0.length:Int))) (gd ((inB d1 a0.length)&&(true)) <|
    Option.bind (m_chrow N (a0.getD d1.toNat [])) fun r2=>
    cond (!(decide (r2=(0:Int)))) (some (.inr r2)) (gd ((inI64 (d1+(1:Int)))&&(true)) <|
    rec1 (d1+(1:Int)))) (some (.inl ()))
def m_chrows_L3 (N:Nat) (a0:(List (List Kt4))):Nat→Int→Option ((Unit)⊕(Int)):=loopF fun d3 rec3=>
    cond (decide (d3 < (a0.length:Int))) (gd ((inB d3 a0.length)&&((inI64 (d3 - (1:Int)))&&((inB (d3 - (1:Int)) a0.length)&&(true)))) <|
    Option.bind (m_chneeds N (a0.getD d3.toNat [])) fun r4=>
    Option.bind (m_chmakes N (a0.getD (d3 - (1:Int)).toNat [])) fun r5=>
    cond (!(decide (r4=r5))) (some (.inr (14:Int))) (gd ((inI64 (d3+(1:Int)))&&(true)) <|
    rec3 (d3+(1:Int)))) (some (.inl ()))
def m_chrows (N:Nat) (a0:(List (List Kt4))):Option (Int):=
    cond (decide ((31:Int) < (a0.length:Int))) (some (3:Int)) (cond (decide ((Int.tmod (a0.length:Int) (2:Int))=(0:Int))) (some (1:Int)) (Option.bind (m_chrows_L1 N a0 N (0:Int)) fun (o1:(Unit)⊕(Int))=>
    sm o1 (fun o1=>
    Option.bind (m_chrows_L3 N a0 N (1:Int)) fun (o3:(Unit)⊕(Int))=>
    sm o3 (fun o3=>
    some (0:Int)) (fun q=>some q)) (fun q=>some q)))
set_option maxRecDepth 100000 in
noncomputable def ct_chrows (N:Nat):CT cx:=ctE N tt_ok (by kernel_rfl) [.c (.lst (.sl kd4))] [] ⟨.a (.c (.int .i64)),[],[]⟩ [ct_chrow N,ct_chneeds N,ct_chmakes N] [] (.s .d (.s .d (.s .d (.s (.s .d (.b (.lxx 0 ⟨[(16,.a (.c (.int .i64)))],[],[0,14,15],[]⟩ ⟨[],[],[0],[]⟩ .d))) (.s (.s .d (.b (.lxx 2 ⟨[(6,.a (.c (.int .i64)))],[],[0],[]⟩ ⟨[],[],[],[]⟩ (.s .d (.s (.b (.s (.o [] [.t 0 0,.t 1 0,.t 2 0,.t 3 1,.t 5 0,.t 6 0,.t 7 0,.t 8 0,.t 9 1,.c 4 [],.c 10 [],.t 11 0] []) .d)) .d))))) .d))))) [.tmp 2] 35 0 (fun d=>m_chrows N d.1) Try.func35 rfl rfl Try.ntmps35 rfl rfl rfl (fun d=>by kernel_rfl)
def m_stloads_L3 (N:Nat) (a1:(List Int)):Nat→Int→Option ((Unit)⊕((List Int)×Int)):=loopF fun d3 rec3=>
    cond (decide (d3 < (a1.length:Int))) (gd ((inB d3 a1.length)&&(true)) <|
    cond (cond (decide ((a1.getD d3.toNat 0) < (1:Int))) true (decide ((3:Int) < (a1.getD d3.toNat 0)))) (some (.inr (([]:List Int),(1:Int)))) (gd ((inI64 (d3+(1:Int)))&&(true)) <|
    rec3 (d3+(1:Int)))) (some (.inl ()))
def m_stloads_L5 (N:Nat) (r4:Int):Nat→(Int×(List Int))→Option ((List Int)):=loopF fun d5 rec5=>
    cond (decide (d5.1 < ((List.replicate r4.toNat (0:Int)).length:Int))) (gd ((inB d5.1 d5.2.length)&&(((decide (d5.1.toNat < d5.2.length))&&(true))&&(true))) <|
    gd ((inI64 (d5.1+(1:Int)))&&(true)) <|
    rec5 ((d5.1+(1:Int)),(d5.2.set d5.1.toNat (1:Int)))) (some d5.2)
def m_stloads (N:Nat) (a0:Kt4) (a1:(List Int)):Option ((List Int)×Int):=
    Option.bind (m_stcheck N a0) fun r1=>
    cond (!(decide (r1=(0:Int)))) (some (([]:List Int),(1:Int))) (Option.bind (m_stneeds N a0) fun r2=>
    cond (!(decide ((a1.length:Int)=r2))) (some (([]:List Int),(5:Int))) (Option.bind (m_stloads_L3 N a1 N (0:Int)) fun (o3:(Unit)⊕((List Int)×Int))=>
    sm o3 (fun o3=>
    Option.bind (m_stmakes N a0) fun r4=>
    gd (((decide (0≤r4))&&(decide (r4≤r4))&&(decide ((8:Int) * r4≤140737488355328))&&(decide (r4≤140737488355328)))&&(true)) <|
    Option.bind (m_stloads_L5 N r4 N ((0:Int),(List.replicate r4.toNat (0:Int)))) fun o5=>
    Option.bind (cond (decide (a0.1=(4:Int))) (some (decide (a0.1=(4:Int)))) (some (decide (a0.1=(5:Int))))) fun o6=>
    cond o6 (gd ((inB (0:Int) a1.length)&&((inB (1:Int) a1.length)&&((inI64 ((a1.getD (0:Int).toNat 0)+(a1.getD (1:Int).toNat 0)))&&(true)))) <|
    cond (decide ((4:Int) < ((a1.getD (0:Int).toNat 0)+(a1.getD (1:Int).toNat 0)))) (some (([]:List Int),(9:Int))) (some (o5,(0:Int)))) (cond (decide (a0.1=(6:Int))) (gd ((inB (0:Int) a1.length)&&(true)) <|
    cond (decide ((a1.getD (0:Int).toNat 0)=(3:Int))) (some (([]:List Int),(9:Int))) (gd ((inB (0:Int) a1.length)&&((inI64 ((a1.getD (0:Int).toNat 0)+(1:Int)))&&((inB (0:Int) o5.length)&&(((decide ((0:Int).toNat < o5.length))&&(true))&&(true))))) <|
    some ((o5.set (0:Int).toNat ((a1.getD (0:Int).toNat 0)+(1:Int))),(0:Int)))) (cond (decide (a0.1=(7:Int))) (gd ((inB (0:Int) a1.length)&&((inB (0:Int) o5.length)&&(((decide ((0:Int).toNat < o5.length))&&(true))&&(true)))) <|
    some ((o5.set (0:Int).toNat (a1.getD (0:Int).toNat 0)),(0:Int))) (some (o5,(0:Int)))))) (fun q=>some q)))
set_option maxRecDepth 100000 in
noncomputable def ct_stloads (N:Nat):CT cx:=ctE N tt_ok (by kernel_rfl) [.dat kd4,.c (.lst (.int .i64))] [] ⟨.tup [.c (.lst (.int .i64)),.c (.int .i64)],[],[]⟩ [ct_stcheck N,ct_stneeds N,ct_stmakes N] [] (.s (.r [.n 3,.w (.frzC 2 kd4)]) (.s .d (.s .d (.s (.s .d (.b (.lxx 0 ⟨[(20,.a (.c (.int .i64)))],[],[1,2,18,19],[]⟩ ⟨[],[],[1,2],[]⟩ .d))) (.s .d (.s (.s .d (.b (.lx 2 ⟨[(8,.a (.c (.raw (.sl 33)))),(36,.a (.c (.int .i64)))],[(33,.row 3 (.int .i64))],[1,2,35],[]⟩ ⟨[(8,.a (.c (.raw (.sl 33))))],[(33,.row 3 (.int .i64))],[1,2],[]⟩ .d))) (.s (.s .d (.b (.j ⟨[(8,.a (.c (.raw (.sl 33)))),(45,.a (.c .bool))],[],[1,44],[33]⟩ .d (.c (.s (.o [] [.t 0 0,.t 1 0,.t 2 1,.t 3 0,.t 4 0,.t 5 1,.t 6 0,.t 7 0] []) .d) .d)))) (.s .d (.t [.frz 33]))))))))) [.tmp 4,.tmp 5] 39 ([],0) (fun d=>m_stloads N d.1 d.2.1) Try.func39 rfl rfl Try.ntmps39 rfl rfl rfl (fun d=>by kernel_rfl)
def m_chloads_L3 (N:Nat) (r2:Int):Nat→(Int×(List Int))→Option ((List Int)):=loopF fun d3 rec3=>
    cond (decide (d3.1 < ((List.replicate r2.toNat (0:Int)).length:Int))) (gd ((inB d3.1 d3.2.length)&&(((decide (d3.1.toNat < d3.2.length))&&(true))&&(true))) <|
    gd ((inI64 (d3.1+(1:Int)))&&(true)) <|
    rec3 ((d3.1+(1:Int)),(d3.2.set d3.1.toNat (1:Int)))) (some d3.2)
def m_chloads_L6 (N:Nat) (a0:(List (List Kt4))) (v4_0:Int) (v4_1:List (List Int)):Nat→(List Int)×Int×(List Int)→Option (((List Int))⊕(Int×(List (List Int)))):=loopF fun d6 rec6=>
    cond (decide (d6.2.1 < ((a0.getD v4_0.toNat []).length:Int))) (gd ((inB d6.2.1 (a0.getD v4_0.toNat []).length)&&(true)) <|
    Option.bind (m_stneeds N ((a0.getD v4_0.toNat []).getD d6.2.1.toNat kd4.zero)) fun r7=>
    gd (((decide (0≤r7))&&(decide (r7≤(d6.1.length:Int))))&&(true)) <|
    Option.bind (m_stloads N ((a0.getD v4_0.toNat []).getD d6.2.1.toNat kd4.zero) (d6.1.take r7.toNat)) fun r8=>
    cond (!(decide (r8.2=(0:Int)))) (some (.inr (r8.2,v4_1))) (gd (((decide (0≤r7))&&(decide (r7≤(d6.1.length:Int))))&&(true)) <|
    gd ((fitB 8 (d6.2.2.length+r8.1.length))&&(true)) <|
    gd ((inI64 (d6.2.1+(1:Int)))&&(true)) <|
    rec6 ((d6.1.drop r7.toNat),(d6.2.1+(1:Int)),(d6.2.2++r8.1)))) (some (.inl d6.2.2))
def m_chloads_L4 (N:Nat) (a0:(List (List Kt4))):Nat→(Int×(List (List Int)))→Option (Int×(List (List Int))):=loopF fun d4 rec4=>
    cond (decide (d4.1 < (a0.length:Int))) (gd ((inB d4.1 a0.length)&&(true)) <|
    gd ((inB d4.1 d4.2.length)&&((decide (d4.1.toNat < d4.2.length))&&(true))) <|
    Option.bind (m_chmakes N (a0.getD d4.1.toNat [])) fun r5=>
    gd (((decide ((0:Int)≤r5))&&(decide ((8:Int) * r5≤140737488355328))&&(decide (r5≤140737488355328)))&&(true)) <|
    Option.bind (m_chloads_L6 N a0 d4.1 d4.2 N ((d4.2.getD d4.1.toNat []),(0:Int),([]:List Int))) fun (o6:((List Int))⊕(Int×(List (List Int))))=>
    sm o6 (fun o6=>
    gd ((fitB 24 (d4.2.length+[o6].length))&&(true)) <|
    gd ((inI64 (d4.1+(1:Int)))&&(true)) <|
    rec4 ((d4.1+(1:Int)),(d4.2++[o6]))) (fun q=>some q)) (some ((0:Int),d4.2))
def m_chloads (N:Nat) (a0:(List (List Kt4))):Option ((List (List Int))×Int):=
    Option.bind (m_chrows N a0) fun r1=>
    cond (!(decide (r1=(0:Int)))) (some (([]:List (List Int)),r1)) (gd ((inB (0:Int) a0.length)&&(true)) <|
    Option.bind (m_chneeds N (a0.getD (0:Int).toNat [])) fun r2=>
    gd (((decide (0≤r2))&&(decide (r2≤r2))&&(decide ((8:Int) * r2≤140737488355328))&&(decide (r2≤140737488355328)))&&(true)) <|
    Option.bind (m_chloads_L3 N r2 N ((0:Int),(List.replicate r2.toNat (0:Int)))) fun o3=>
    gd ((inI64 ((1:Int)+(a0.length:Int)))&&(((decide ((1:Int)≤((1:Int)+(a0.length:Int))))&&(decide ((24:Int) * ((1:Int)+(a0.length:Int))≤140737488355328))&&(decide (((1:Int)+(a0.length:Int))≤140737488355328)))&&(true))) <|
    gd ((inB (0:Int) (List.replicate (1:Int).toNat ([]:(List Int))).length)&&(((decide ((0:Int).toNat < (List.replicate (1:Int).toNat ([]:(List Int))).length))&&(true))&&(true))) <|
    Option.bind (m_chloads_L4 N a0 N ((0:Int),((List.replicate (1:Int).toNat ([]:(List Int))).set (0:Int).toNat o3))) fun o4=>
    cond (!(decide (o4.1=(0:Int)))) (some (([]:List (List Int)),o4.1)) (some (o4.2,(0:Int))))
set_option maxRecDepth 100000 in
noncomputable def ct_chloads (N:Nat):CT cx:=ctE N tt_ok (by kernel_rfl) [.dat (.sl (.sl kd4))] [] ⟨.tup [.c (.lst (.sl (.int .i64))),.c (.int .i64)],[],[]⟩ [ct_chrows N,ct_chneeds N,ct_chmakes N,ct_stneeds N,ct_stloads N] [] (.s (.r [.n 3,.w (.frzC 1 (.sl (.sl kd4)))]) (.b (.s .d (.s .d (.s (.s .d (.b (.lx 0 ⟨[(5,.a (.c (.raw (.sl 29)))),(32,.a (.c (.int .i64)))],[(29,.row 3 (.int .i64))],[1,31],[]⟩ ⟨[(5,.a (.c (.raw (.sl 29))))],[(29,.row 3 (.int .i64))],[1],[]⟩ .d))) (.s .d (.s (.r [.n 3,.w (.frz 29)]) (.s .d (.s .d (.s (.s .d (.b (.lx 2 ⟨[(7,.a (.c (.raw (.sl 43)))),(50,.a (.c (.int .i64)))],[(43,.row 82 (.sl (.int .i64)))],[8,48,49],[]⟩ ⟨[(7,.a (.c (.raw (.sl 43)))),(8,.a (.c (.int .i64)))],[(43,.row 82 (.sl (.int .i64)))],[],[]⟩ (.s .d (.s .d (.s (.b (.s .d (.s .d (.s .d (.s (.s .d (.b (.lxx 4 ⟨[(7,.a (.c (.raw (.sl 43)))),(11,.a (.c (.lst (.int .i64)))),(12,.a (.c (.raw (.sl 61)))),(64,.a (.c (.int .i64)))],[(61,.row 3 (.int .i64))],[8,48,49,50,62,63],[43]⟩ ⟨[(7,.a (.c (.raw (.sl 43)))),(12,.a (.c (.raw (.sl 61))))],[(61,.row 3 (.int .i64))],[8,48,49,50],[43]⟩ (.s .d (.s .d (.s (.b (.s (.r [.n 4,.w (.frzC 14 kd4)]) (.s .d (.s (.o [] [.t 0 1,.t 1 0,.t 2 0,.t 3 0,.c 4 [],.m 5,.t 6 0,.t 7 0,.t 8 0,.t 9 0] []) .d)))) .d)))))) (.r [.n 2,.w (.frz 61)])))))) .d)))))) (.s .d (.s .d (.t [.frz 43]))))))))))))) [.tmp 2,.tmp 3] 33 ([],0) (fun d=>m_chloads N d.1) Try.func33 rfl rfl Try.ntmps33 rfl rfl rfl (fun d=>by kernel_rfl)
def m_chcheck (N:Nat) (a0:(List (List Kt4))):Option (Int):=
    Option.bind (m_chloads N a0) fun r1=>
    some r1.2
set_option maxRecDepth 100000 in
noncomputable def ct_chcheck (N:Nat):CT cx:=ctE N tt_ok (by kernel_rfl) [.dat (.sl (.sl kd4))] [] ⟨.a (.c (.int .i64)),[],[]⟩ [ct_chloads N] [] (.s (.r [.n 2,.w (.frzC 1 (.sl (.sl kd4)))]) .d) [.tmp 2] 30 0 (fun d=>m_chcheck N d.1) Try.func30 rfl rfl Try.ntmps30 rfl rfl rfl (fun d=>by kernel_rfl)
def m_pplain_L3 (N:Nat) (a0:(List (List Kt4))) (v2_0:Int):Nat→Int→Option ((Unit)⊕((Unit)⊕(Bool))):=loopF fun d3 rec3=>
    cond (decide (d3 < ((a0.getD v2_0.toNat []).length:Int))) (gd ((inB d3 (a0.getD v2_0.toNat []).length)&&(true)) <|
    cond (cond (!(decide (((a0.getD v2_0.toNat []).getD d3.toNat kd4.zero).1=(1:Int)))) (!(decide (((a0.getD v2_0.toNat []).getD d3.toNat kd4.zero).1=(2:Int)))) false) (some (.inr (.inr false))) (gd ((inI64 (d3+(1:Int)))&&(true)) <|
    rec3 (d3+(1:Int)))) (some (.inl ()))
def m_pplain_L2 (N:Nat) (a0:(List (List Kt4))):Nat→Int→Option ((Unit)⊕(Bool)):=loopF fun d2 rec2=>
    cond (decide (d2 < (a0.length:Int))) (gd ((inB d2 a0.length)&&(true)) <|
    Option.bind (m_pplain_L3 N a0 d2 N (0:Int)) fun (o3:(Unit)⊕((Unit)⊕(Bool)))=>
    sm o3 (fun o3=>
    gd ((inI64 (d2+(1:Int)))&&(true)) <|
    rec2 (d2+(1:Int))) (fun q=>some q)) (some (.inl ()))
def m_pplain (N:Nat) (a0:(List (List Kt4))):Option (Bool):=
    Option.bind (m_chcheck N a0) fun r1=>
    cond (!(decide (r1=(0:Int)))) (some false) (Option.bind (m_pplain_L2 N a0 N (0:Int)) fun (o2:(Unit)⊕(Bool))=>
    sm o2 (fun o2=>
    some true) (fun q=>some q))
set_option maxRecDepth 100000 in
noncomputable def ct_pplain (N:Nat):CT cx:=ctE N tt_ok (by kernel_rfl) [.dat (.sl (.sl kd4))] [] ⟨.a (.c .bool),[],[]⟩ [ct_chcheck N] [] (.s (.r [.n 2,.w (.frzC 1 (.sl (.sl kd4)))]) (.s .d (.s (.s .d (.b (.lxx 0 ⟨[(13,.a (.c (.int .i64)))],[],[11,12],[]⟩ ⟨[],[],[],[]⟩ (.s .d (.s .d (.s (.b (.s .d (.s .d (.b (.lxx 2 ⟨[(19,.a (.c (.int .i64)))],[],[11,12,13,17,18],[]⟩ ⟨[],[],[11,12,13],[]⟩ (.s .d (.s .d (.s (.b (.s (.r [.n 4,.w (.frzC 6 kd4)]) .d)) .d)))))))) .d)))))) .d))) [.tmp 2] 13 false (fun d=>m_pplain N d.1) Try.func13 rfl rfl Try.ntmps13 rfl rfl rfl (fun d=>by kernel_rfl)
def m_ploop_L4 (N:Nat) (a0:(List (List Kt4))) (a1:Int) (a2:Int):Nat→(Int×Int)→Option (Int):=loopF fun d4 rec4=>
    cond (decide (d4.2 < ((a0.take a1.toNat).length:Int))) (gd ((inB d4.2 (a0.take a1.toNat).length)&&(true)) <|
    Option.bind (m_pcount N ((a0.take a1.toNat).getD d4.2.toNat []) ((a0.getD a1.toNat []).getD a2.toNat kd4.zero).2.1) fun r5=>
    gd ((inI64 (d4.1+r5))&&(true)) <|
    gd ((inI64 (d4.2+(1:Int)))&&(true)) <|
    rec4 ((d4.1+r5),(d4.2+(1:Int)))) (some d4.1)
def m_ploop (N:Nat) (a0:(List (List Kt4))) (a1:Int) (a2:Int):Option (Kt1×Int):=
    Option.bind (m_pplain N a0) fun r1=>
    gd ((impB (!(cond (cond (cond (!r1) true (decide (a1 < (0:Int)))) true (decide ((a0.length:Int)≤a1))) true (decide (a2 < (0:Int))))) (inB a1 a0.length))&&(true)) <|
    cond (cond (cond (cond (cond (!r1) true (decide (a1 < (0:Int)))) true (decide ((a0.length:Int)≤a1))) true (decide (a2 < (0:Int)))) true (decide (((a0.getD a1.toNat []).length:Int)≤a2))) (some (((0:Int),(0:Int)),(1:Int))) (gd ((inB a1 a0.length)&&((inB a2 (a0.getD a1.toNat []).length)&&(true))) <|
    Option.bind (gd ((inB (0:Int) a0.length)&&(true)) <|
    Option.bind (m_chfirst N (a0.getD (0:Int).toNat [])) fun r3=>
    cond (decide (((a0.getD a1.toNat []).getD a2.toNat kd4.zero).2.1=r3)) (gd ((inB (0:Int) a0.length)&&(true)) <|
    some ((a0.getD (0:Int).toNat []).length:Int)) (some (0:Int))) fun o2=>
    gd (((decide (0≤a1))&&(decide (a1≤(a0.length:Int))))&&(true)) <|
    Option.bind (m_ploop_L4 N a0 a1 a2 N (o2,(0:Int))) fun o4=>
    cond (decide ((Int.tmod a1 (2:Int))=(0:Int))) (gd ((inB a1 a0.length)&&((inI64 (a2+(1:Int)))&&(((decide (0≤(a2+(1:Int))))&&(decide ((a2+(1:Int))≤((a0.getD a1.toNat []).length:Int))))&&(true)))) <|
    Option.bind (m_pcount N ((a0.getD a1.toNat []).drop (a2+(1:Int)).toNat) ((a0.getD a1.toNat []).getD a2.toNat kd4.zero).2.1) fun r6=>
    gd ((inI64 (o4+r6))&&(true)) <|
    some ((((a0.getD a1.toNat []).getD a2.toNat kd4.zero).2.1,(o4+r6)),(0:Int))) (gd ((inB a1 a0.length)&&(((decide (0≤a2))&&(decide (a2≤((a0.getD a1.toNat []).length:Int))))&&(true))) <|
    Option.bind (m_pcount N ((a0.getD a1.toNat []).take a2.toNat) ((a0.getD a1.toNat []).getD a2.toNat kd4.zero).2.1) fun r7=>
    gd ((inI64 (o4+r7))&&(true)) <|
    some ((((a0.getD a1.toNat []).getD a2.toNat kd4.zero).2.1,(o4+r7)),(0:Int))))
set_option maxRecDepth 100000 in
noncomputable def ct_ploop (N:Nat):CT cx:=ctE N tt_ok (by kernel_rfl) [.dat (.sl (.sl kd4)),.c (.int .i64),.c (.int .i64)] [] ⟨.tup [.dat kd1,.c (.int .i64)],[],[]⟩ [ct_pplain N,ct_chfirst N,ct_pcount N] [] (.s (.r [.n 3,.w (.frzC 3 (.sl (.sl kd4)))]) (.s .d (.s .d (.s .d (.j ⟨[(6,.a (.c (.raw (.ptr 6 0)))),(9,.a (.c (.int .i64)))],[],[1,2,3,8],[6]⟩ .d (.s (.s .d (.b (.lx 0 ⟨[(6,.a (.c (.raw (.ptr 6 0)))),(9,.a (.c (.int .i64))),(67,.a (.c (.int .i64)))],[],[1,2,3,8,65,66],[6]⟩ ⟨[(6,.a (.c (.raw (.ptr 6 0)))),(9,.a (.c (.int .i64)))],[],[1,2,3,8],[6]⟩ .d))) .d)))))) [.cell 6 46,.tmp 7] 12 (kd1.zero,0) (fun d=>m_ploop N d.1 d.2.1 d.2.2.1) Try.func12 rfl rfl Try.ntmps12 rfl rfl rfl (fun d=>by kernel_rfl)
def m_pcol1 (N:Nat) (a0:Kt4):Option (Int):=
    some a0.2.1
set_option maxRecDepth 100000 in
noncomputable def ct_pcol1 (N:Nat):CT cx:=ctE N tt_ok (by kernel_rfl) [.dat kd4] [] ⟨.a (.c (.int .u8)),[],[]⟩ [] [] (.s (.r [.n 2,.w (.frzC 1 kd4)]) .d) [.tmp 2] 15 0 (fun d=>m_pcol1 N d.1) Try.func15 rfl rfl Try.ntmps15 rfl rfl rfl (fun d=>by kernel_rfl)
def m_prel1 (N:Nat) (a0:Kt4):Option (Bool):=
    some (cond (decide (a0.1=(2:Int))) true (decide (a0.1=(5:Int))))
set_option maxRecDepth 100000 in
noncomputable def ct_prel1 (N:Nat):CT cx:=ctE N tt_ok (by kernel_rfl) [.dat kd4] [] ⟨.a (.c .bool),[],[]⟩ [] [] (.s (.r [.n 2,.w (.frzC 1 kd4)]) .d) [.tmp 2] 17 false (fun d=>m_prel1 N d.1) Try.func17 rfl rfl Try.ntmps17 rfl rfl rfl (fun d=>by kernel_rfl)
def m_clipS (N:Nat) (a0:(List Kt4)):Option ((List Kt4)×Nat):=
    gd (((decide (0≤(a0.length:Int)))&&(decide ((a0.length:Int)≤(a0.length:Int)))&&(decide ((a0.length:Int)≤(a0.length:Int))))&&(true)) <|
    some ((a0.take (a0.length:Int).toNat),(a0.length:Int).toNat)
set_option maxRecDepth 100000 in
noncomputable def ct_clipS (N:Nat):CT cx:=ctE N tt_ok (by kernel_rfl) [.c (.lst kd4)] [] ⟨.a (.c (.lstx kd4)),[],[]⟩ [] [] (.d) [.tmp 2] 18 ([],0) (fun d=>m_clipS N d.1) Try.func18 rfl rfl Try.ntmps18 rfl rfl rfl (fun d=>by kernel_rfl)
def m_clipR (N:Nat) (a0:(List (List Kt4))):Option ((List (List Kt4))×Nat):=
    gd (((decide (0≤(a0.length:Int)))&&(decide ((a0.length:Int)≤(a0.length:Int)))&&(decide ((a0.length:Int)≤(a0.length:Int))))&&(true)) <|
    some ((a0.take (a0.length:Int).toNat),(a0.length:Int).toNat)
set_option maxRecDepth 100000 in
noncomputable def ct_clipR (N:Nat):CT cx:=ctE N tt_ok (by kernel_rfl) [.c (.lst (.sl kd4))] [] ⟨.a (.c (.lstx (.sl kd4))),[],[]⟩ [] [] (.d) [.tmp 2] 20 ([],0) (fun d=>m_clipR N d.1) Try.func20 rfl rfl Try.ntmps20 rfl rfl rfl (fun d=>by kernel_rfl)
end Go.Proofs.Yteglgnkcpaagjaa

/- Charts, pictures: by the walker, continued. -/
namespace Go.Proofs.Yteglgnkcpaagjaa
set_option linter.unusedSimpArgs false
set_option linter.unusedVariables false
open Go.RowKit
def m_cof39_L7 (N:Nat) (a0:Kt2):Nat→(Int×Int×(List Kt4))→Option (Int×(List Kt4)):=loopF fun d7 rec7=>
    gd ((inI64 (Int.tmod a0.1 (8:Int)))&&((inI64 ((1:Int)+(Int.tmod a0.1 (8:Int))))&&(true))) <|
    cond (decide (d7.2.1 < ((1:Int)+(Int.tmod a0.1 (8:Int))))) (cond (decide ((0:Int) < (a0.2.2.length:Int))) (gd ((decide ((a0.2.2.length:Int)≠0))&&((inB (Int.tmod d7.1 (a0.2.2.length:Int)) a0.2.2.length)&&(true))) <|
    Option.bind (cond (decide ((Int.tmod (a0.2.2.getD (Int.tmod d7.1 (a0.2.2.length:Int)).toNat 0) (2:Int))=(1:Int))) (some ((2:Int),(IntKind.wrap .u8 ((1:Int)+(Int.tmod (IntKind.wrap .u8 (Int.tdiv (a0.2.2.getD (Int.tmod d7.1 (a0.2.2.length:Int)).toNat 0) (2:Int))) (4:Int)))),(0:Int),(0:Int),false)) (some ((1:Int),(IntKind.wrap .u8 ((1:Int)+(Int.tmod (IntKind.wrap .u8 (Int.tdiv (a0.2.2.getD (Int.tmod d7.1 (a0.2.2.length:Int)).toNat 0) (2:Int))) (4:Int)))),(0:Int),(0:Int),false))) fun o8=>
    gd ((inI64 (d7.1+(1:Int)))&&(true)) <|
    gd ((fitB 32 (d7.2.2.length+[o8].length))&&(true)) <|
    gd ((inI64 (d7.2.1+(1:Int)))&&(true)) <|
    rec7 ((d7.1+(1:Int)),(d7.2.1+(1:Int)),(d7.2.2++[o8]))) (gd ((fitB 32 (d7.2.2.length+[((1:Int),((1:Int),((0:Int),((0:Int),false))))].length))&&(true)) <|
    gd ((inI64 (d7.2.1+(1:Int)))&&(true)) <|
    rec7 (d7.1,(d7.2.1+(1:Int)),(d7.2.2++[((1:Int),((1:Int),((0:Int),((0:Int),false))))])))) (some (d7.1,d7.2.2))
def m_cof39_L6 (N:Nat) (a0:Kt2):Nat→(Int×Int×(List (List Kt4)))→Option ((List (List Kt4))):=loopF fun d6 rec6=>
    gd ((inI64 (Int.tmod a0.2.1 (5:Int)))&&((inI64 ((2:Int) * (Int.tmod a0.2.1 (5:Int))))&&((inI64 ((1:Int)+((2:Int) * (Int.tmod a0.2.1 (5:Int)))))&&(true)))) <|
    cond (decide (d6.2.1 < ((1:Int)+((2:Int) * (Int.tmod a0.2.1 (5:Int)))))) (Option.bind (m_cof39_L7 N a0 N (d6.1,(0:Int),([]:List Kt4))) fun o7=>
    gd ((fitB 24 (d6.2.2.length+[o7.2].length))&&(true)) <|
    gd ((inI64 (d6.2.1+(1:Int)))&&(true)) <|
    rec6 (o7.1,(d6.2.1+(1:Int)),(d6.2.2++[o7.2]))) (some d6.2.2)
def m_cof39 (N:Nat) (a0:Kt2):Option ((List (List Kt4))):=
    Option.bind (m_cof39_L6 N a0 N ((0:Int),(0:Int),([]:List (List Kt4)))) fun o6=>
    some o6
set_option maxRecDepth 100000 in
noncomputable def ct_cof39 (N:Nat):CT cx:=ctE N tt_ok (by kernel_rfl) [.dat kd2] [] ⟨.a (.dat (.sl (.sl kd4))),[],[]⟩ [] [] (.s (.r [.n 2,.w (.frzC 1 kd2)]) (.s .d (.s .d (.s (.s (.r [.n 1,.w (.nilC 3 0 12 34 (.sl kd4))]) (.b (.lx 0 ⟨[(2,.a (.c (.raw (.ptr 2 0)))),(3,.a (.c (.raw (.ptr 3 0)))),(4,.a (.c (.int .i64))),(5,.a (.c (.int .i64)))],[(2,.cells 28 [.raw (.val (.slice none 0 0))]),(3,.cells 28 [.raw (.sl 12)]),(12,.row 34 (.sl kd4))],[1],[]⟩ ⟨[(2,.a (.c (.raw (.ptr 2 0)))),(3,.a (.c (.raw (.ptr 3 0))))],[(2,.cells 28 [.raw (.val (.slice none 0 0))]),(3,.cells 28 [.raw (.sl 12)]),(12,.row 34 (.sl kd4))],[],[]⟩ (.s .d (.s (.b (.s (.r [.n 1,.w (.nil 6 6 38 kd4)]) (.s (.s .d (.b (.lx 2 ⟨[(2,.a (.c (.raw (.ptr 2 0)))),(3,.a (.c (.raw (.ptr 3 0)))),(4,.a (.c (.int .i64))),(6,.a (.c (.raw (.sl 6)))),(7,.a (.c (.int .i64)))],[(2,.cells 28 [.raw (.val (.slice none 0 0))]),(3,.cells 28 [.raw (.sl 12)]),(6,.row 38 kd4)],[1,5],[12]⟩ ⟨[(2,.a (.c (.raw (.ptr 2 0)))),(3,.a (.c (.raw (.ptr 3 0)))),(4,.a (.c (.int .i64))),(6,.a (.c (.raw (.sl 6))))],[(2,.cells 28 [.raw (.val (.slice none 0 0))]),(3,.cells 28 [.raw (.sl 12)]),(6,.row 38 kd4)],[1,5],[12]⟩ (.s .d (.s (.b (.s .d (.s (.s .d (.c (.s (.o [] [.t 0 0,.t 1 1,.t 2 0,.t 3 0,.t 4 1,.t 5 0,.t 6 0,.t 7 0,.t 8 1,.t 9 0] []) (.s .d (.j ⟨[(2,.a (.c (.raw (.ptr 2 0)))),(3,.a (.c (.raw (.ptr 3 0)))),(6,.a (.c (.raw (.sl 6)))),(8,.a (.c (.raw (.ptr 8 0))))],[(3,.cells 28 [.raw (.sl 12)]),(8,.cells 38 [.int .u8,.int .u8,.int .i64,.int .i64,.bool])],[1,4,5,7],[2,6,12]⟩ .d .d))) .d)) .d))) .d))))) (.r [.n 3,.w (.frz 6)])))) .d))))) (.s .d (.t [.frz 12])))))) [.cell 2 28] 5 [] (fun d=>m_cof39 N d.1) Try.func5 rfl rfl Try.ntmps5 rfl rfl rfl (fun d=>by kernel_rfl)
def m_same11 (N:Nat) (a0:Kt4) (a1:Kt4):Option (Bool):=
    some (GTy.beq kd4 a0 a1)
set_option maxRecDepth 100000 in
noncomputable def ct_same11 (N:Nat):CT cx:=ctE N tt_ok (by kernel_rfl) [.dat kd4,.dat kd4] [] ⟨.a (.c .bool),[],[]⟩ [] [] (.s (.r [.n 3,.w (.frzC 2 kd4),.w (.frzC 3 kd4)]) .d) [.tmp 4] 27 false (fun d=>m_same11 N d.1 d.2.1) Try.func27 rfl rfl Try.ntmps27 rfl rfl rfl (fun d=>by kernel_rfl)
def m_sameS_L1 (N:Nat) (a0:(List Kt4)) (a1:(List Kt4)):Nat→Int→Option ((Unit)⊕(Bool)):=loopF fun d1 rec1=>
    cond (decide (d1 < (a0.length:Int))) (gd ((inB d1 a0.length)&&(true)) <|
    gd ((inB d1 a1.length)&&(true)) <|
    Option.bind (m_same11 N (a0.getD d1.toNat kd4.zero) (a1.getD d1.toNat kd4.zero)) fun r2=>
    cond (!r2) (some (.inr false)) (gd ((inI64 (d1+(1:Int)))&&(true)) <|
    rec1 (d1+(1:Int)))) (some (.inl ()))
def m_sameS (N:Nat) (a0:(List Kt4)) (a1:(List Kt4)):Option (Bool):=
    cond (!(decide ((a0.length:Int)=(a1.length:Int)))) (some false) (Option.bind (m_sameS_L1 N a0 a1 N (0:Int)) fun (o1:(Unit)⊕(Bool))=>
    sm o1 (fun o1=>
    some true) (fun q=>some q))
set_option maxRecDepth 100000 in
noncomputable def ct_sameS (N:Nat):CT cx:=ctE N tt_ok (by kernel_rfl) [.c (.lst kd4),.c (.lst kd4),.c (.fn 27 [])] [] ⟨.a (.c .bool),[],[]⟩ [ct_same11 N] [] (.s .d (.s .d (.s (.s .d (.b (.lxx 0 ⟨[(16,.a (.c (.int .i64)))],[],[1,2,14,15],[]⟩ ⟨[],[],[],[]⟩ (.s .d (.s .d (.s (.b (.s (.r [.n 6,.w (.frzC 8 kd4)]) (.s (.o [] [.t 0 0,.t 1 1,.t 2 0,.t 3 0,.t 4 0,.t 5 1,.c 6 [],.t 7 0] []) .d))) .d)))))) .d))) [.tmp 6] 26 false (fun d=>m_sameS N d.1 d.2.1) Try.func26 rfl rfl Try.ntmps26 rfl rfl rfl (fun d=>by kernel_rfl)
def m_same1 (N:Nat) (a0:(List Kt4)) (a1:(List Kt4)):Option (Bool):=
    Option.bind (m_sameS N a0 a1) fun r1=>
    some r1
set_option maxRecDepth 100000 in
noncomputable def ct_same1 (N:Nat):CT cx:=ctE N tt_ok (by kernel_rfl) [.c (.lst kd4),.c (.lst kd4)] [] ⟨.a (.c .bool),[],[]⟩ [ct_sameS N] [] (.d) [.tmp 4] 25 false (fun d=>m_same1 N d.1 d.2.1) Try.func25 rfl rfl Try.ntmps25 rfl rfl rfl (fun d=>by kernel_rfl)
def m_sameR_L1 (N:Nat) (a0:(List (List Kt4))) (a1:(List (List Kt4))):Nat→Int→Option ((Unit)⊕(Bool)):=loopF fun d1 rec1=>
    cond (decide (d1 < (a0.length:Int))) (gd ((inB d1 a0.length)&&(true)) <|
    gd ((inB d1 a1.length)&&(true)) <|
    Option.bind (m_same1 N (a0.getD d1.toNat []) (a1.getD d1.toNat [])) fun r2=>
    cond (!r2) (some (.inr false)) (gd ((inI64 (d1+(1:Int)))&&(true)) <|
    rec1 (d1+(1:Int)))) (some (.inl ()))
def m_sameR (N:Nat) (a0:(List (List Kt4))) (a1:(List (List Kt4))):Option (Bool):=
    cond (!(decide ((a0.length:Int)=(a1.length:Int)))) (some false) (Option.bind (m_sameR_L1 N a0 a1 N (0:Int)) fun (o1:(Unit)⊕(Bool))=>
    sm o1 (fun o1=>
    some true) (fun q=>some q))
set_option maxRecDepth 100000 in
noncomputable def ct_sameR (N:Nat):CT cx:=ctE N tt_ok (by kernel_rfl) [.c (.lst (.sl kd4)),.c (.lst (.sl kd4)),.c (.fn 25 [])] [] ⟨.a (.c .bool),[],[]⟩ [ct_same1 N] [] (.s .d (.s .d (.s (.s .d (.b (.lxx 0 ⟨[(16,.a (.c (.int .i64)))],[],[1,2,14,15],[]⟩ ⟨[],[],[],[]⟩ .d))) .d))) [.tmp 6] 24 false (fun d=>m_sameR N d.1 d.2.1) Try.func24 rfl rfl Try.ntmps24 rfl rfl rfl (fun d=>by kernel_rfl)
def m_chsame (N:Nat) (a0:(List (List Kt4))) (a1:(List (List Kt4))):Option (Bool):=
    Option.bind (m_sameR N a0 a1) fun r1=>
    some r1
set_option maxRecDepth 100000 in
noncomputable def ct_chsame (N:Nat):CT cx:=ctE N tt_ok (by kernel_rfl) [.dat (.sl (.sl kd4)),.dat (.sl (.sl kd4))] [] ⟨.a (.c .bool),[],[]⟩ [ct_sameR N] [] (.s (.r [.n 3,.w (.frzC 2 (.sl (.sl kd4))),.w (.frzC 3 (.sl (.sl kd4)))]) .d) [.tmp 4] 10 false (fun d=>m_chsame N d.1 d.2.1) Try.func10 rfl rfl Try.ntmps10 rfl rfl rfl (fun d=>by kernel_rfl)
def m_each8_L2 (N:Nat) (a0:(List (List Kt4))) (v1_0:Int):Nat→(Int×(List (List Int))×Nat×Nat×(List Int)×Nat)→Option ((List (List Int))×Nat×Nat×(List Int)×Nat):=loopF fun d2 rec2=>
    cond (decide (d2.1 < ((a0.getD v1_0.toNat []).length:Int))) (gd ((inB d2.1 (a0.getD v1_0.toNat []).length)&&(true)) <|
    gd ((inB v1_0 d2.2.1.length)&&((Nat.beq v1_0.toNat d2.2.2.1)&&(true))) <|
    Option.bind (m_pcol1 N ((a0.getD v1_0.toNat []).getD d2.1.toNat kd4.zero)) fun r3=>
    gd ((inB d2.1 d2.2.2.2.2.1.length)&&(((decide (d2.1.toNat < d2.2.2.2.2.1.length))&&(true))&&(true))) <|
    gd ((inI64 (d2.1+(1:Int)))&&(true)) <|
    rec2 ((d2.1+(1:Int)),d2.2.1,d2.2.2.1,d2.2.2.2.1,(d2.2.2.2.2.1.set d2.1.toNat r3),d2.2.2.2.2.2)) (some (d2.2.1,d2.2.2.1,d2.2.2.2.1,d2.2.2.2.2.1,d2.2.2.2.2.2))
def m_each8_L1 (N:Nat) (a0:(List (List Kt4))):Nat→(Int×(List (List Int))×Nat)→Option ((List (List Int))×Nat):=loopF fun d1 rec1=>
    cond (decide (d1.1 < (a0.length:Int))) (gd ((inB d1.1 a0.length)&&(true)) <|
    gd (((decide (0≤((a0.getD d1.1.toNat []).length:Int)))&&(decide (((a0.getD d1.1.toNat []).length:Int)≤((a0.getD d1.1.toNat []).length:Int)))&&(decide ((1:Int) * ((a0.getD d1.1.toNat []).length:Int)≤140737488355328))&&(decide (((a0.getD d1.1.toNat []).length:Int)≤140737488355328)))&&((inB d1.1 d1.2.1.length)&&(((decide (d1.1.toNat < d1.2.1.length))&&(Nat.beq ((a0.getD d1.1.toNat []).length:Int).toNat (List.replicate ((a0.getD d1.1.toNat []).length:Int).toNat (0:Int)).length))&&(true)))) <|
    Option.bind (m_each8_L2 N a0 d1.1 N ((0:Int),d1.2.1,d1.1.toNat,d1.2.2,(List.replicate ((a0.getD d1.1.toNat []).length:Int).toNat (0:Int)),((a0.getD d1.1.toNat []).length:Int).toNat)) fun o2=>
    gd ((inI64 (d1.1+(1:Int)))&&(true)) <|
    rec1 ((d1.1+(1:Int)),(o2.1.set o2.2.1 o2.2.2.2.1),o2.2.2.1)) (some (d1.2.1,d1.2.2))
def m_each8 (N:Nat) (a0:(List (List Kt4))):Option ((List (List Int))×Nat):=
    gd (((decide (0≤(a0.length:Int)))&&(decide ((a0.length:Int)≤(a0.length:Int)))&&(decide ((24:Int) * (a0.length:Int)≤140737488355328))&&(decide ((a0.length:Int)≤140737488355328)))&&(true)) <|
    Option.bind (m_each8_L1 N a0 N ((0:Int),(List.replicate (a0.length:Int).toNat ([]:(List Int))),(a0.length:Int).toNat)) fun o1=>
    some (o1.1,o1.2)
set_option maxRecDepth 100000 in
noncomputable def ct_each8 (N:Nat):CT cx:=ctE N tt_ok (by kernel_rfl) [.dat (.sl (.sl kd4)),.c (.fn 15 [])] [] ⟨.a (.c (.lstx (.csl (.int .u8)))),[],[]⟩ [ct_pcol1 N] [] (.s (.r [.n 2,.w (.frzC 2 (.sl (.sl kd4)))]) (.s .d (.s (.s .d (.b (.lx 0 ⟨[(5,.a (.c (.raw (.sl 13)))),(17,.a (.c (.int .i64)))],[(13,.rowx 22 (.csl (.int .u8)))],[1,15,16],[]⟩ ⟨[(5,.a (.c (.raw (.sl 13))))],[(13,.rowx 22 (.csl (.int .u8)))],[],[]⟩ (.s .d (.s .d (.s (.b (.s .d (.s .d (.s .d (.b (.lx 2 ⟨[(5,.a (.c (.raw (.sl 13)))),(30,.a (.c (.int .i64)))],[(13,.hrowx true 22 (.int .u8) 26),(26,.rowx 5 (.int .u8))],[1,6,15,16,17,28,29],[]⟩ ⟨[(5,.a (.c (.raw (.sl 13))))],[(13,.hrowx true 22 (.int .u8) 26),(26,.rowx 5 (.int .u8))],[1,15,16,17],[]⟩ (.s .d (.s .d (.s (.b (.s (.r [.n 6,.w (.frzC 9 kd4)]) (.oa [4,5,6,7] [.t 0 0,.t 1 0,.t 2 0,.t 3 3,.t 4 0,.t 5 0,.t 6 1,.c 7 [],.t 8 0,.s 9] []))) .d))))))))) (.r [.n 2,.w (.frz 26)]))))))) (.s .d (.t [.frz 13]))))) [.tmp 4] 14 ([],0) (fun d=>m_each8 N d.1) Try.func14 rfl rfl Try.ntmps14 rfl rfl rfl (fun d=>by kernel_rfl)
def m_eachB_L2 (N:Nat) (a0:(List (List Kt4))) (v1_0:Int):Nat→(Int×(List (List Bool))×Nat×Nat×(List Bool)×Nat)→Option ((List (List Bool))×Nat×Nat×(List Bool)×Nat):=loopF fun d2 rec2=>
    cond (decide (d2.1 < ((a0.getD v1_0.toNat []).length:Int))) (gd ((inB d2.1 (a0.getD v1_0.toNat []).length)&&(true)) <|
    gd ((inB v1_0 d2.2.1.length)&&((Nat.beq v1_0.toNat d2.2.2.1)&&(true))) <|
    Option.bind (m_prel1 N ((a0.getD v1_0.toNat []).getD d2.1.toNat kd4.zero)) fun r3=>
    gd ((inB d2.1 d2.2.2.2.2.1.length)&&(((decide (d2.1.toNat < d2.2.2.2.2.1.length))&&(true))&&(true))) <|
    gd ((inI64 (d2.1+(1:Int)))&&(true)) <|
    rec2 ((d2.1+(1:Int)),d2.2.1,d2.2.2.1,d2.2.2.2.1,(d2.2.2.2.2.1.set d2.1.toNat r3),d2.2.2.2.2.2)) (some (d2.2.1,d2.2.2.1,d2.2.2.2.1,d2.2.2.2.2.1,d2.2.2.2.2.2))
def m_eachB_L1 (N:Nat) (a0:(List (List Kt4))):Nat→(Int×(List (List Bool))×Nat)→Option ((List (List Bool))×Nat):=loopF fun d1 rec1=>
    cond (decide (d1.1 < (a0.length:Int))) (gd ((inB d1.1 a0.length)&&(true)) <|
    gd (((decide (0≤((a0.getD d1.1.toNat []).length:Int)))&&(decide (((a0.getD d1.1.toNat []).length:Int)≤((a0.getD d1.1.toNat []).length:Int)))&&(decide ((1:Int) * ((a0.getD d1.1.toNat []).length:Int)≤140737488355328))&&(decide (((a0.getD d1.1.toNat []).length:Int)≤140737488355328)))&&((inB d1.1 d1.2.1.length)&&(((decide (d1.1.toNat < d1.2.1.length))&&(Nat.beq ((a0.getD d1.1.toNat []).length:Int).toNat (List.replicate ((a0.getD d1.1.toNat []).length:Int).toNat (false:Bool)).length))&&(true)))) <|
    Option.bind (m_eachB_L2 N a0 d1.1 N ((0:Int),d1.2.1,d1.1.toNat,d1.2.2,(List.replicate ((a0.getD d1.1.toNat []).length:Int).toNat (false:Bool)),((a0.getD d1.1.toNat []).length:Int).toNat)) fun o2=>
    gd ((inI64 (d1.1+(1:Int)))&&(true)) <|
    rec1 ((d1.1+(1:Int)),(o2.1.set o2.2.1 o2.2.2.2.1),o2.2.2.1)) (some (d1.2.1,d1.2.2))
def m_eachB (N:Nat) (a0:(List (List Kt4))):Option ((List (List Bool))×Nat):=
    gd (((decide (0≤(a0.length:Int)))&&(decide ((a0.length:Int)≤(a0.length:Int)))&&(decide ((24:Int) * (a0.length:Int)≤140737488355328))&&(decide ((a0.length:Int)≤140737488355328)))&&(true)) <|
    Option.bind (m_eachB_L1 N a0 N ((0:Int),(List.replicate (a0.length:Int).toNat ([]:(List Bool))),(a0.length:Int).toNat)) fun o1=>
    some (o1.1,o1.2)
set_option maxRecDepth 100000 in
noncomputable def ct_eachB (N:Nat):CT cx:=ctE N tt_ok (by kernel_rfl) [.dat (.sl (.sl kd4)),.c (.fn 17 [])] [] ⟨.a (.c (.lstx (.csl .bool))),[],[]⟩ [ct_prel1 N] [] (.s (.r [.n 2,.w (.frzC 2 (.sl (.sl kd4)))]) (.s .d (.s (.s .d (.b (.lx 0 ⟨[(5,.a (.c (.raw (.sl 13)))),(17,.a (.c (.int .i64)))],[(13,.rowx 35 (.csl .bool))],[1,15,16],[]⟩ ⟨[(5,.a (.c (.raw (.sl 13))))],[(13,.rowx 35 (.csl .bool))],[],[]⟩ (.s .d (.s .d (.s (.b (.s .d (.s .d (.s .d (.b (.lx 2 ⟨[(5,.a (.c (.raw (.sl 13)))),(30,.a (.c (.int .i64)))],[(13,.hrowx true 35 .bool 26),(26,.rowx 4 .bool)],[1,6,15,16,17,28,29],[]⟩ ⟨[(5,.a (.c (.raw (.sl 13))))],[(13,.hrowx true 35 .bool 26),(26,.rowx 4 .bool)],[1,15,16,17],[]⟩ (.s .d (.s .d (.s (.b (.s (.r [.n 6,.w (.frzC 9 kd4)]) (.oa [4,5,6,7] [.t 0 0,.t 1 0,.t 2 0,.t 3 3,.t 4 0,.t 5 0,.t 6 1,.c 7 [],.t 8 0,.s 9] []))) .d))))))))) (.r [.n 2,.w (.frz 26)]))))))) (.s .d (.t [.frz 13]))))) [.tmp 4] 16 ([],0) (fun d=>m_eachB N d.1) Try.func16 rfl rfl Try.ntmps16 rfl rfl rfl (fun d=>by kernel_rfl)
def m_pcolours (N:Nat) (a0:(List (List Kt4))):Option ((List (List Int))×Nat):=
    Option.bind (m_each8 N a0) fun r1=>
    some (r1.1,r1.2)
set_option maxRecDepth 100000 in
noncomputable def ct_pcolours (N:Nat):CT cx:=ctE N tt_ok (by kernel_rfl) [.dat (.sl (.sl kd4))] [] ⟨.a (.c (.lstx (.csl (.int .u8)))),[],[]⟩ [ct_each8 N] [] (.s (.r [.n 2,.w (.frzC 1 (.sl (.sl kd4)))]) .d) [.tmp 2] 6 ([],0) (fun d=>m_pcolours N d.1) Try.func6 rfl rfl Try.ntmps6 rfl rfl rfl (fun d=>by kernel_rfl)
def m_prelief (N:Nat) (a0:(List (List Kt4))):Option ((List (List Bool))×Nat):=
    Option.bind (m_eachB N a0) fun r1=>
    some (r1.1,r1.2)
set_option maxRecDepth 100000 in
noncomputable def ct_prelief (N:Nat):CT cx:=ctE N tt_ok (by kernel_rfl) [.dat (.sl (.sl kd4))] [] ⟨.a (.c (.lstx (.csl .bool))),[],[]⟩ [ct_eachB N] [] (.s (.r [.n 2,.w (.frzC 1 (.sl (.sl kd4)))]) .d) [.tmp 2] 7 ([],0) (fun d=>m_prelief N d.1) Try.func7 rfl rfl Try.ntmps7 rfl rfl rfl (fun d=>by kernel_rfl)
def m_revR_L1 (N:Nat) :Nat→(Int×Int×(List (List Kt4)))→Option ((List (List Kt4))):=loopF fun d1 rec1=>
    cond (decide (d1.1 < d1.2.1)) (gd ((inB d1.2.1 d1.2.2.length)&&((decide (d1.2.1.toNat < d1.2.2.length))&&((inB d1.1 d1.2.2.length)&&((decide (d1.1.toNat < d1.2.2.length))&&((inB d1.1 d1.2.2.length)&&(((decide (d1.1.toNat < d1.2.2.length))&&(true))&&((inB d1.2.1 (d1.2.2.set d1.1.toNat (d1.2.2.getD d1.2.1.toNat [])).length)&&(((decide (d1.2.1.toNat < (d1.2.2.set d1.1.toNat (d1.2.2.getD d1.2.1.toNat [])).length))&&(true))&&(true))))))))) <|
    gd ((inI64 (d1.1+(1:Int)))&&((inI64 (d1.2.1 - (1:Int)))&&(true))) <|
    rec1 ((d1.1+(1:Int)),(d1.2.1 - (1:Int)),((d1.2.2.set d1.1.toNat (d1.2.2.getD d1.2.1.toNat [])).set d1.2.1.toNat (d1.2.2.getD d1.1.toNat [])))) (some d1.2.2)
def m_revR (N:Nat) (a0:List (List Kt4)):Option ((List (List Kt4))):=
    gd ((inI64 ((a0.length:Int) - (1:Int)))&&(true)) <|
    Option.bind (m_revR_L1 N N ((0:Int),((a0.length:Int) - (1:Int)),a0)) fun o1=>
    some o1
set_option maxRecDepth 100000 in
noncomputable def ct_revR (N:Nat):CT cx:=ctE N tt_ok (by kernel_rfl) [.c (.raw (.sl 2000000))] [(2000000,.row 34 (.sl kd4))] ⟨.tup [],[(2000000,.row 34 (.sl kd4))],[]⟩ [] [] (.s .d (.b (.lx 0 ⟨[(0,.a (.c (.raw (.sl 2000000)))),(2,.a (.c (.int .i64))),(3,.a (.c (.int .i64)))],[(2000000,.row 34 (.sl kd4))],[],[]⟩ ⟨[],[(2000000,.row 34 (.sl kd4))],[],[]⟩ (.s .d (.s (.b (.oa [8,9,10,11] [.t 0 0,.t 1 0,.t 2 0,.t 3 0,.t 4 0,.t 5 0,.t 6 0,.t 7 3,.t 8 0,.t 9 0,.t 10 0,.t 11 3,.t 12 0,.s 13,.t 14 0,.s 15] [])) .d))))) [] 19 [] (fun d=>m_revR N d.1) Try.func19 rfl rfl Try.ntmps19 rfl rfl rfl (fun d=>by kernel_rfl)
end Go.Proofs.Yteglgnkcpaagjaa

/- Iterators by the walker. -/
namespace Go.Proofs.Yteglgnkcpaagjaa
open Go.RowKit
theorem AI.anew {X:Cx} {R0 C C' Bc B':Nat→Prop} {W1 w0 w W':World} {n:Nat} {ks:List Nat} {env:Nat→Loc} {H:List Ck} {st:ASt} {a:Act} (h:AI X (fun k=>R0 k∨C k) W1 ⟨Bc,fun _ _=>False⟩ n ks env B' w0 H st a w) (hg:Grow B' C C' w W') (hC:∀ k,C' k→k < W'.heap.size) {d:Nat} (hd:Nat.blt d n=true) (v:Value) :
    AI X (fun k=>R0 k∨C' k) W' ⟨B',fun _ _=>False⟩ n ks env B' W' H ⟨(d,.c (.val v)) :: st.L,st.H⟩ (a.put (some d) v) W':=by
  have hS:=h.stt.put d v (lt_of_blt hd);have hlt:∀ k,(R0 k∨C k)∨B' k→k < w.heap.size:=fun k hk=>h.sh.base k hk
  have hsame:∀ k,B' k→W'.heap[k]?=w.heap[k]?:=fun k hk=>hg.keep.block k (.inl hk)
  have hup:Up B' w0 B' W':=⟨fun _ h=>h,fun k hk=>(hsame k hk).trans (h.sh.below.block k (.inr hk))⟩
  have hno:∀ b,b < w.heap.size→¬ ((R0 b∨C b)∨B' b)→¬ (R0 b∨C' b):=fun b hb hn hr=>by
    rcases hr with hr | hr
    · exact hn (.inl (.inl hr))
    · rcases hg.new b hr with h1 | h1 | h1
      · exact hn (.inl (.inr h1))
      · omega
      · exact hn (.inr h1)
  refine ⟨hS.size,hS.defs,fun s sv hs=>?_,h.heap.up hup,⟨KO.refl _ _,fun k hk=>?_,fun c hc=>?_,h.sh.apart⟩,fun _ h=>h,fun _ h=>.inl h,fun _ _ h=>h.elim,KO.refl _ _,fun i x hx=>(h.glob i x hx).up hup⟩
  · rw [lk_cons] at hs
    split at hs
    · rename_i e; subst e; cases hs; exact ⟨v,hS.this,rfl⟩
    · rename_i e
      obtain ⟨u,h1,h2⟩:=h.has s sv hs;exact ⟨u,hS.other e h1,h2.up hup⟩
  · rcases hk with (hk | hk) | hk
    · exact Nat.lt_of_lt_of_le (hlt k (.inl (.inl hk))) hg.keep.size
    · exact hC k hk
    · exact Nat.lt_of_lt_of_le (hlt k (.inr hk)) hg.keep.size
  · have hok:=h.sh.ok c hc
    have hk2:=hok.keep (w':=W') fun b hb=>hg.keep.block b (.inr ⟨(hok.lt hb).2,fun hcb=>(hok.lt hb).1 (.inl (.inr hcb))⟩)
    exact hk2.base fun b hb hr=>by
      rcases hr with hr | hr
      · exact hno b (hok.lt hb).2 (hok.lt hb).1 hr
      · exact (hok.lt hb).1 (.inr hr)
section
variable {X:Cx} {n:Nat} {α:Type}
def Cn.it (W0:World) (J:List α→(Nat→Prop)→(Nat→Prop)→World→Prop) (Jx:Unit→(Nat→Prop)→World→Prop):Cn X true n none (List α) where
  In r st a w:=∃ C W1 Bc,(J r C Bc W1∨(r=[]∧Jx () C W1))∧AR X (fun k=>k < W0.heap.size∨C k) W1 ⟨Bc,fun _ _=>False⟩ true n st a w
  frame h hi:=by
    obtain ⟨C,W1,Bc,h1,h3⟩:=hi;exact wpIn_mono (h _ _ _ _ _ h3) fun _ _ _ ⟨s,h4,h5⟩=>⟨s,h4,C,W1,Bc,h1,h5⟩
  step h hi KK hK:=by
    obtain ⟨C,W1,Bc,h1,ks,env,B',w0,H,hM,hA⟩:=hi;exact h _ _ _ _ _ _ _ _ _ _ hA _ fun a' w' env' B' w0' H' hA'=>hK _ _ ⟨C,W1,Bc,h1,ks,env',B',w0',H',hM,hA'⟩
  weak h hi:=by
    obtain ⟨C,W1,Bc,h1,h3⟩:=hi;exact ⟨C,W1,Bc,h1,h _ _ _ _ _ h3⟩
  ai hi:=by
    obtain ⟨C,W1,Bc,h1,ks,env,B',w0,H,hM,hA⟩:=hi;exact ⟨_,_,_,_,_,_,_,_,hA⟩
def handM {α:Type} (b:Bool) (x:α) (f t:Option (List α)):Option (List α):=match b,f,t with
  | true,some [],some l=>some (x :: l)
  | _,_,_=>none
def emitE (E:List AS) (id l:Nat) (args:List SA) (f t:Option (List (HL (asLT E [])))):Option (List (HL (asLT E []))):=match saFree args,asGet (T:=[]) E args () with
  | true,some x=>handM (Nat.beq l id) x f t
  | _,_=>none
theorem YieldAt.zero {P:Program} {l:Nat} {args:Array Value} {W:World} {R:Ending→World→Prop} (h:YieldAt Fence.wide 1 P l args W R):YieldAt Fence.wide 0 P l args W R:=by
  obtain ⟨fn,tmps,assign,body,h1,h2,h3⟩:=h;exact ⟨fn,tmps,assign,body,h1,h2,fun c cs _=>h3 c cs (room_wide _)⟩
theorem yieldv {sv:Option SV} {l:Nat} (h:isYield sv=some l):sv=some (.a (.c (.val (.func (.yield l) #[] #[])))):=by
  unfold isYield at h
  split at h
  · cases h; rfl
  · cases h
theorem SasR.no {env:Nat→Loc} {B:Nat→Prop} {w:World}:∀ {xs:List SA} {vs:List Value},saFree xs=true→SasR env B w xs vs→SasR (fun _=>.no) B w xs vs
  | [],_,_,h=>h
  | .c x :: xs,_,hf,⟨v,r,e,h1,h2⟩=>by
    unfold saFree at hf
    split at hf
    · rename_i hx
      refine ⟨v,r,e,?_,SasR.no hf h2⟩;have hx':x.free=true:=hx;cases x with
      | fn f cs=>
        obtain ⟨vs,e,hp⟩:=h1;exact ⟨vs,e,hp.fzAny hx'⟩
      | _=>first | exact h1 | cases hx'
    · cases hf
  | .agg cs :: xs,_,hf,⟨v,r,e,⟨vs,e2,h1⟩,h2⟩=>by
    unfold saFree at hf
    split at hf
    · rename_i hx
      refine ⟨v,r,e,⟨vs,e2,?_⟩,SasR.no hf h2⟩;have hx':scFree cs=true:=hx
      clear hx e e2 h2
      induction cs generalizing vs with
      | nil=>exact h1
      | cons x cs ih=>
        obtain ⟨v,r,e,h3,h4⟩:=h1;unfold scFree at hx'
        split at hx'
        · rename_i hx2
          refine ⟨v,r,e,?_,ih _ h4 hx'⟩;cases x with
          | fn f cs=>
            obtain ⟨vs,e,hp⟩:=h3;exact ⟨vs,e,hp.fzAny hx2⟩
          | _=>first | exact h3 | cases hx2
        · cases hx'
    · cases hf
  | .arr g l :: xs,_,hf,⟨v,r,e,h1,h2⟩=>by
    unfold saFree at hf
    split at hf
    · exact ⟨v,r,e,h1,SasR.no hf h2⟩
    · cases hf
structure Cons (X:Cx) (E:List AS) (id:Nat) (J:List (HL (asLT E []))→(Nat→Prop)→(Nat→Prop)→World→Prop) (Jx:Unit→(Nat→Prop)→World→Prop):Prop where
  sj:StabJ J
  sx:StabE Jx
  lt:∀ r C Bc W,J r C Bc W→∀ k,C k→k < W.heap.size
  ltx:∀ r C W,Jx r C W→∀ k,C k→k < W.heap.size
  take:∀ x rest C Bc B2 W1 vs,J (x :: rest) C Bc W1→Adopt C Bc B2 W1→SasR (fun _=>.no) B2 W1 (asS E x).1 vs→YieldAt Fence.wide 1 X.P id vs.toArray W1 fun e W'=>
      (e=.returned (.bool true)∧∃ C',J rest C' B2 W'∧Grow B2 C C' W1 W')∨(e=.returned (.bool false)∧∃ C',Jx () C' W'∧Grow B2 C C' W1 W')
theorem yg_it (hX:X.tt.ok X.P) {E:List AS} {id:Nat} {W0:World} {J:List (HL (asLT E []))→(Nat→Prop)→(Nat→Prop)→World→Prop} {Jx:Unit→(Nat→Prop)→World→Prop} (hc:Cons X E id J Jx):YG (Γ:=Cn.it (X:=X) (n:=n) W0 J Jx) (some (emitE E id)):=by
  rintro ops Q em hem l args f t r hr;cases hem;unfold emitE at hr
  split at hr
  · rename_i x hfree hget
    unfold handM at hr
    split at hr
    · rename_i rt hl
      cases hr;have hl':=Nat.eq_of_beq_eq_true hl;subst hl';refine ⟨_,_,rfl,rfl,?_⟩;intro o rest st d s us ts c hop ho hd hy hus hc2 hzf hzt a w hi;obtain ⟨C,W1,Bc,hj,ks,env,B',w0,H,hM,hA⟩:=hi
      rcases hj with hj | ⟨hj,_⟩
      · obtain ⟨vs,h1,h2⟩:=aes_ok hA hus hc2
        obtain ⟨fv,h3,h4⟩:=hA.has _ _ (yieldv hy);rw [show fv=_ from h4] at h3;have hup:Up B' w0 B' w:=⟨fun _ h=>h,fun k hk=>hA.sh.below.block k (.inr hk)⟩
        have hg:=(asGet_ok hget).2;have henc:SasR (fun _=>.no) B' w (asS E x).1 vs:=hg _ _ _ _ (SasR.no hfree (h2.up hup));have hKC:KO C W1 w:=⟨(hA.sh.below.os).trans hA.base.os,(hA.sh.below.tape).trans hA.base.tape,(hA.sh.below.output).trans hA.base.output,Nat.le_trans hA.base.size hA.sh.below.size,fun k hk=>(hA.sh.below.block k (.inl (.inr hk))).trans (hA.base.block k (.inr hk))⟩
        have hJ:=hc.sj _ _ _ _ _ hj hKC;have had:Adopt C Bc B' w:=⟨hA.sub,fun k hk=>(hA.new k hk).imp_right fun ⟨h5,h6⟩=>⟨fun h=>h5 (.inr h),h6.keep (hA.sh.below.block k (.inr hk))⟩⟩
        obtain ⟨fn,tmps,assign,body,hyy,hRound⟩:=YieldAt.zero (hc.take _ _ _ _ _ _ _ hJ had henc);have hw:Region.wanted o (yielded ops.toArray a.tmps)=true:=by simp [Region.wanted,ho.1]
        show (if Region.wanted o (yielded ops.toArray a.tmps) then _ else _);rw [if_pos hw];refine ⟨fun _ _=>trivial,?_⟩;have hrun:(execOp a.eval o).run X.P w=.ok (.round l fn tmps assign body) w:=by
          have e1:=hA.stt.ev (x:=.tmp s) (full_look h3);have e2:(us.toArray.map a.eval)=vs.toArray:=evs_map hA.stt h1;simp only [execOp,hop,resolve,e1]
          simp [Deferred.ofValue,invoke,e2,hyy,go_sem]
        show Oper.uponIn _ _ _ _ _ _ _ ((o.semAt none a.eval).run X.P w);rw [Oper.semAt_none,hrun];refine ⟨(fun h=>by cases h),RoundIn.mono hRound ?_⟩;intro e w2 hq;rw [ho.2]
        rcases hq with ⟨rfl,C',hJ',hG⟩ | ⟨rfl,C',hJ',hG⟩
        · exact hzt _ _ ⟨C',w2,B',.inl hJ',ks,env,B',w2,H,⟨hM.1,fun _ _ _ h=>h.elim⟩,AI.anew hA hG (hc.lt _ _ _ _ hJ') hd _⟩
        · exact hzf _ _ ⟨C',w2,B',.inr ⟨rfl,hJ'⟩,ks,env,B',w2,H,⟨hM.1,fun _ _ _ h=>h.elim⟩,AI.anew hA hG (hc.ltx _ _ _ hJ') hd _⟩
      · cases hj
    · cases hr
  · cases hr
def finI {α:Type}:Kont (List α)
  | .normal,_,_=>some []
  | .ret,_,_=>some []
  | _,_,_=>none
theorem it_bodyE (hX:X.tt.ok X.P) (hm:X.P.follows .mixedOrders=true) {N:Nat} {T:List (CT X)} {TI:List (IT X)} {f:FuncId} {fn:Func} {c:Code} {sc:Sc} {caps:List Cap} {E:List AS} {l:List (HL (asLT E []))} (hf:X.P.funcs[f]?=some fn) (hb:fn.body=some c) (hN:fn.ntmps=n) (hl:Nat.ble (ptrAs caps).length (n - 1)=true) (hn:Nat.blt 0 n=true) (hr:fn.results=#[])
    (h:∀ id,evc X N n T TI true c (some (emitE E id)) sc ⟨argL 0 (.c (.val (.func (.yield id) #[] #[])) :: ptrAs caps),[]⟩ finI=some l):AItE X f caps l (fun x=>(asS E x).1):=by
  intro B w0 lb hB hg hlb id J Jx W hKB _ hsj hsx hlt hltx _ htake C hJ;have hup:Up B w0 B W:=⟨fun _ h=>h,fun k hk=>hKB.block k hk⟩
  have ha:SasR (fun _=>.no) B W (.c (.val (.func (.yield id) #[] #[])) :: ptrAs caps) (.func (.yield id) #[] #[] :: lb):=⟨_,_,rfl,rfl,(ptrs_sas hlb).up hup⟩
  have hlen:=ha.length;have hle:(Value.func (.yield id) #[] #[] :: lb).length≤n:=by
    rw [hlen,List.length_cons];have h1:=Nat.le_of_ble_eq_true hl;have h2:=lt_of_blt hn;omega
  have hS:=st_start (fn:=fn) hN hle _ rfl (vs:=.func (.yield id) #[] #[] :: lb);have e:#[Value.func (.yield id) #[] #[]]++lb.toArray=(Value.func (.yield id) #[] #[] :: lb).toArray:=by simp
  rw [e];refine CallsIn.mono (R:=fun e w'=>∃ v,e=.returned v∧∃ C',(∃ Bc,J [] C' Bc w')∨Jx () C' w') ((callsIn_wide (n:=1)).2 ((callsIn_wide (n:=0)).1 (callsIn_of_wp_marks hf hb trivial ?_))) (fun e w' ⟨v,h1,h2⟩=>⟨⟨v,h1⟩,h2⟩);have hA:AI X (fun k=>k < W.heap.size∨C k) W ⟨B,fun _ _=>False⟩ n [] (fun _=>.no) B W [] ⟨argL 0 (.c (.val (.func (.yield id) #[] #[])) :: ptrAs caps),[]⟩ { tmps:=(Value.func (.yield id) #[] #[] :: lb).toArray++Array.replicate (fn.ntmps - (Value.func (.yield id) #[] #[] :: lb).toArray.size) undef,defers:=[] } W:=by
    refine ⟨hS.size,rfl,fun s sv hs=>?_,rfl,⟨KO.refl _ _,fun k hk=>hk.elim (fun h=>h.elim (fun h=>h) (hlt _ _ _ _ hJ k)) (fun hb=>Nat.lt_of_lt_of_le (hB k hb) hKB.size),(fun c hc=>by cases hc),List.Pairwise.nil⟩,fun _ h=>h,fun _ h=>.inl h,fun _ _ h=>h.elim,KO.refl _ _,fun i x hx=>(hg i x hx).up hup⟩;obtain ⟨_,v,h1,h2⟩:=argL_ok ha hs;rw [Nat.sub_zero] at h1;refine ⟨v,?_,h2⟩;have hlt:s < (Value.func (.yield id) #[] #[] :: lb).length:=(List.getElem?_eq_some_iff.1 h1).1;show ((Value.func (.yield id) #[] #[] :: lb).toArray++_)[s]?=some v;rw [Array.getElem?_append_left (by simpa using hlt)]
    simpa using h1
  refine wpIn_mono (evc_ok hX hm c true true none (fun _=>⟨rfl,rfl⟩) _ (Cn.it W J Jx) _ (yg_it hX ⟨hsj,hsx,hlt,hltx,htake⟩) sc _ finI l (h id) _ _ ⟨C,W,B,.inl hJ,[],_,_,_,_,⟨fun h=>(by cases h),fun _ _ _ h=>h.elim⟩,hA⟩) ?_;rintro e a w ⟨st,r',⟨V,s',hw,hks,hk⟩,hi⟩;obtain ⟨C',W1,Bc,hj,ks,env',B',w0',H',hM,hA'⟩:=(Cn.it W J Jx).weak hw hi;have hr':r'=[]∧(e=.ret∨e=.normal):=by
    cases e <;> first | (cases hk; exact ⟨rfl,.inr rfl⟩) | (cases hk; exact ⟨rfl,.inl rfl⟩) | cases hk
  obtain ⟨rfl,he⟩:=hr';have hsym:Sym n (ks.map markOf) (full a) (fun k=>(k < W.heap.size∨C' k)∨B' k) w0' (ks.map (fun k=>Ck.obj k (.deferred (some [])))++H') a w:=⟨hA'.stt,hA'.sh.perm List.perm_append_comm⟩
  have hres:∀ w,(results fn a.tmps).run X.P w=.ok (.tuple #[]) w:=fun w=>by
    simp [results,hr,go_sem]
  have key:=f_retM (fn:=fn) (R:=fun _ w'=>∃ C',(∃ Bc,J [] C' Bc w')∨Jx () C' w') ks hsym (fun w hw=>hres w) fun w hw=>by
    have hKC:KO C' W1 w:=⟨hw.below.os.trans hA'.base.os,hw.below.tape.trans hA'.base.tape,hw.below.output.trans hA'.base.output,Nat.le_trans hA'.base.size hw.below.size,fun k hk=>(hw.below.block k (.inl (.inr hk))).trans (hA'.base.block k (.inr hk))⟩
    rcases hj with hj | ⟨_,hj⟩
    · exact ⟨C',.inl ⟨Bc,hsj _ _ _ _ _ hj hKC⟩⟩
    · exact ⟨C',.inr (hsx _ _ _ _ hj hKC)⟩
  rcases he with rfl | rfl
  · exact key
  · exact key
def itE (N : Nat) (hX : X.tt.ok X.P) (hm : X.P.follows .mixedOrders = true) {fn : Func} {c : Code} (C : List CapS) (E : List AS) (T : List (CT X)) (TI : List (IT X)) (sc : Sc) (f : FuncId) (m : Bool → HL (capsLT C []) → Option (List (HL (asLT E [])))) (hf : X.P.funcs[f]? = some fn) (hg : (fn.name == "runtime.NumGoroutine") = false) (hb : fn.body = some c) (hN : fn.ntmps = n) (hl : ∀ d : HL (capsLT C []), Nat.ble (ptrAs (capsS C d).1).length (n - 1) = true) (hn : Nat.blt 0 n = true) (hr : fn.results = #[])
    (hz:∀ d:HL (capsLT C []),capsFz (capsS C d).1=true)
    (h:∀ id d,evc X N n T TI true c (some (emitE E id)) sc ⟨argL 0 (.c (.val (.func (.yield id) #[] #[])) :: ptrAs (capsS C d).1),[]⟩ finI=m (Nat.beq id id) d):IT X:=
  { f:=f,fn:=fn,C:=C,E:=E,m:=m true,hf:=hf,hn:=hg,hb:=by rw [hb]; rfl,hz:=hz,ok:=fun d l he=>it_bodyE hX hm hf hb hN (hl d) hn hr fun id=>(h id d).trans (by rw [show Nat.beq id id=true from Nat.beq_refl id]; exact he) }
end
end Go.Proofs.Yteglgnkcpaagjaa

/- Pictures, drawn. -/
namespace Go.Proofs.Yteglgnkcpaagjaa
set_option linter.unusedSimpArgs false
set_option linter.unusedVariables false
open Go.RowKit
def m_bwdI_L1 (N:Nat) (b:Bool) (a0:(List (List Kt4))):Nat→Int→Option ((List (Int×(List Kt4)×Unit))):=loopF fun d1 rec1=>
    cond (decide ((0:Int)≤d1)) (gd ((inB d1 a0.length)&&(true)) <|
    handM b (d1,(a0.getD d1.toNat []),()) (some [])
    (gd ((inI64 (d1 - (1:Int)))&&(true)) <|
    rec1 (d1 - (1:Int)))) (some [])
def m_bwdI (N:Nat) (b:Bool) (a0:(List (List Kt4))):Option (List (Int×(List Kt4)×Unit)):=
    gd ((inI64 ((a0.length:Int) - (1:Int)))&&(true)) <|
    m_bwdI_L1 N b a0 N ((a0.length:Int) - (1:Int))
set_option maxRecDepth 100000 in
noncomputable def it_bwdI (N:Nat):IT cx:=itE N tt_ok (by kernel_rfl) [.fz (.sl (.sl kd4))] [.c (.int .i64),.c (.lst kd4)] [] [] (.s .d (.b (.l ⟨[(3,.a (.c (.int .i64)))],[],[0,1],[]⟩ (.s .d (.s (.b (.s (.r [.n 6,.y]) .d)) .d))))) 31 (fun b d=>m_bwdI N b d.1) Try.func31 rfl rfl Try.ntmps31 (fun _=>rfl) rfl rfl (fun _=>rfl) (fun id d=>by kernel_rfl)
def m_bwd (N:Nat) (a0:(List (List Kt4))):Option ((List (List Kt4))):=
    some a0
set_option maxRecDepth 100000 in
noncomputable def ct_bwd (N:Nat):CT cx:=ctE N tt_ok (by kernel_rfl) [.c (.lst (.sl kd4))] [] ⟨.a (.c (.fn 31 [.fz (.sl (.sl kd4))])),[],[]⟩ [] [] (.s (.r [.n 2,.w (.frzC 1 (.sl (.sl kd4)))]) .d) [.tmp 2] 21 [] (fun d=>m_bwd N d.1) Try.func21 rfl rfl Try.ntmps21 rfl rfl rfl (fun d=>by kernel_rfl)
end Go.Proofs.Yteglgnkcpaagjaa

/- strings.Builder: copyCheck, String (the library's text is the kit's; what they leave is told exactly here). -/
namespace Go.Proofs.Yteglgnkcpaagjaa
open Go.RowKit Go.Shelf
section
set_option maxHeartbeats 1000000
set_option maxRecDepth 100000
theorem copyCheck_used (b:Nat) (w:World) (h0:w.cell? ⟨b,0,none⟩=some (.pointer (some ⟨b,0,none⟩))) :
    Calls Try.prog 32 #[.pointer (some ⟨b,0,none⟩)] w fun e w'=>e=.returned (.tuple #[])∧w'=w:=by
  obtain ⟨j,hj,_⟩:=Option.map_eq_some_iff.1 (show (Try.prog.info? 59).map (·.size)=some 2 by kernel_rfl);have mixed:Try.prog.follows .mixedOrders=true:=by kernel_rfl
  have t72:=Try.underlying59; have a72:=Try.isAgg59; have z72:=Try.sizeOf59; have v72:=Try.zeroValue59; have u72:=run_underlying Try.underlying59;have t70:=Try.underlying57; have a70:=Try.isAgg57; have z70:=Try.sizeOf57; have v70:=Try.zeroValue57; have u70:=run_underlying Try.underlying57;have t4:=Try.underlying4; have a4:=Try.isAgg4; have z4:=Try.sizeOf4; have v4:=Try.zeroValue4; have u4:=run_underlying Try.underlying4;have t164:=Try.underlying79; have a164:=Try.isAgg79; have z164:=Try.sizeOf79; have v164:=Try.zeroValue79; have u164:=run_underlying Try.underlying79
  go_enter Try.func32,Try.ntmps32
  go_wp2
  rw [Lib.run_neq_ptr_same w _ t70 hj]
  go_wp2
  go_end0
  exact ⟨rfl,rfl⟩
theorem copyCheck_fresh (b:Nat) (w:World) (h0:w.cell? ⟨b,0,none⟩=some (.pointer none)) (hsh:w.shape? b=some (59,2)) (hfz:w.frozen? ⟨b,0,none⟩=false) :
    Calls Try.prog 32 #[.pointer (some ⟨b,0,none⟩)] w fun e w'=>e=.returned (.tuple #[])∧w'=w.setCell ⟨b,0,none⟩ (.pointer (some ⟨b,0,none⟩)):=by
  obtain ⟨j,hj,hjs⟩:=Option.map_eq_some_iff.1 (show (Try.prog.info? 59).map (·.size)=some 2 by kernel_rfl);have mixed:Try.prog.follows .mixedOrders=true:=by kernel_rfl
  have t72:=Try.underlying59; have a72:=Try.isAgg59; have z72:=Try.sizeOf59; have v72:=Try.zeroValue59; have u72:=run_underlying Try.underlying59;have t70:=Try.underlying57; have a70:=Try.isAgg57; have z70:=Try.sizeOf57; have v70:=Try.zeroValue57; have u70:=run_underlying Try.underlying57;have t4:=Try.underlying4; have a4:=Try.isAgg4; have z4:=Try.sizeOf4; have v4:=Try.zeroValue4; have u4:=run_underlying Try.underlying4;have t164:=Try.underlying79; have a164:=Try.isAgg79; have z164:=Try.sizeOf79; have v164:=Try.zeroValue79; have u164:=run_underlying Try.underlying79
  go_enter Try.func32,Try.ntmps32
  go_wp2
  rw [Lib.run_to_unsafe w ⟨b,0,none⟩ t70 t164 hj (by rw [hjs]; decide) hsh (Nat.zero_lt_succ 1)];simp only [Result.andThen];rw [Oper.upon_value]
  go_wp2
  rw [run_callFunc_extern Try.func34 (by kernel_rfl) (by kernel_rfl) (by kernel_rfl) (e:=Extern.AbiNoEscape.same) (by kernel_rfl)];rw [Lib.run_noEscape];simp only [Result.andThen];rw [Oper.upon_value]
  go_wp2
  rw [Lib.run_from_unsafe w ⟨b,0,none⟩ t164 t70 hj hsh (by kernel_rfl)];simp only [Result.andThen];rw [Oper.upon_value]
  go_wp2
  go_end0
  exact ⟨rfl,rfl⟩
theorem bstring_run (b g cap:Nat) (p:Value) (l:List UInt8) (w:World) (cur:Array Value) (fr:Nat×Nat) (hbk:w.heap[b]?=some (.cells #[p,.slice (some ⟨g,0,none⟩) l.length cap] 59)) (hg:w.heap[g]?=some (.cells cur 5 fr)) (hcell:∀ j x,l[j]?=some x→w.cell? ((⟨g,0,none⟩:Addr).add j)=some (.int .u8 x.toNat))
    (h0:l≠[]) (hn:l.length≤cur.size) (hc:cap≠0) (h63:l.length≤9223372036854775807) :
    Calls Try.prog 23 #[.pointer (some ⟨b,0,none⟩)] w fun e w'=>e=.returned (.string ⟨l.toArray⟩)∧w'=w.drew.freeze ⟨g,0,none⟩ l.length:=by
  have c1:w.drew.cell? ⟨b,1,none⟩=some (.slice (some ⟨g,0,none⟩) l.length cap):=by
    have:w.drew.heap[b]?=some (.cells #[p,.slice (some ⟨g,0,none⟩) l.length cap] 59):=hbk
    rw [Lib.cell_of_heap this]; rfl
  have hSD:(Builtin.unsafeSliceData_ #[22] 75 #[.slice (some ⟨g,0,none⟩) l.length cap]).run Try.prog w.drew=.ok (.pointer (some ⟨g,0,none⟩)) w.drew:=
    Lib.run_unsafeSliceData_row _ _ _ _ _ _ hc
  have hUS:(Builtin.unsafeString_ #[75,3] 9 #[.pointer (some ⟨g,0,none⟩),.int .i64 l.length]).run Try.prog w.drew=.ok (.string ⟨l.toArray⟩) (w.drew.freeze ⟨g,0,none⟩ l.length):=by
    refine Lib.run_unsafeString_row w.drew 75 3 9 5 Try.underlying75 (by kernel_rfl) g cur.size (by have hg':w.drew.heap[g]?=some (.cells cur 5 fr):=hg; simp [World.shape?,hg']) l h0 hn h63 ?_;intro j x hx;exact hcell j x hx
  have mixed:Try.prog.follows .mixedOrders=true:=by kernel_rfl
  have t72:=Try.underlying59; have a72:=Try.isAgg59; have z72:=Try.sizeOf59; have v72:=Try.zeroValue59; have u72:=run_underlying Try.underlying59;have t70:=Try.underlying57; have a70:=Try.isAgg57; have z70:=Try.sizeOf57; have v70:=Try.zeroValue57; have u70:=run_underlying Try.underlying57;have t37:=Try.underlying22; have a37:=Try.isAgg22; have z37:=Try.sizeOf22; have v37:=Try.zeroValue22; have u37:=run_underlying Try.underlying22;have t127:=Try.underlying75; have a127:=Try.isAgg75; have z127:=Try.sizeOf75; have v127:=Try.zeroValue75; have u127:=run_underlying Try.underlying75;have t3:=Try.underlying3; have a3:=Try.isAgg3; have z3:=Try.sizeOf3; have v3:=Try.zeroValue3; have u3:=run_underlying Try.underlying3;have t9:=Try.underlying9; have a9:=Try.isAgg9; have z9:=Try.sizeOf9; have v9:=Try.zeroValue9; have u9:=run_underlying Try.underlying9;have t5:=Try.underlying5; have a5:=Try.isAgg5; have z5:=Try.sizeOf5; have v5:=Try.zeroValue5; have u5:=run_underlying Try.underlying5
  go_enter Try.func23,Try.ntmps23
  go_wp2
  go_region_o
  all_goals (go_wp2; go_ret; exact ⟨rfl,rfl⟩)
end
theorem SH.joinB {B:Nat→Prop} {w0 W:World} {H:List Ck} (h:SH B w0 H W):SH (fun k=>Rest W H k∨B k) W H W:=by
  have h1:=h.rest;have hB:∀ k,B k→Rest W H k:=fun q hq=>h.restB hq
  exact ⟨KO.refl _ _,fun k hk=>hk.elim (fun h=>h.1) (fun h=>(hB k h).1),fun c hc=>(h1.ok c hc).base fun b hb hk=>((h1.ok c hc).lt hb).1 (hk.elim (fun h=>h) (hB b)),h1.apart⟩
theorem w_copyCheck (bb:Bool) (J:Nat) (x:SC) (rest:Hp):AC cx 32 [.c (.ptr J 0)] ((J,.cells 59 [.slf bb J,x]) :: rest) (fun sv h=>sv=.tup []∧h=(J,.cells 59 [.slf true J,x]) :: rest):=by
  intro B w0 env vs H W hg ha hh hs;obtain ⟨v,r,rfl,⟨k,hk,rfl⟩,hr⟩:=ha;have hr':r=[]:=hr;subst hr';obtain ⟨c,H2,rfl,⟨k',us,hk',rfl,hcs⟩,hh2⟩:=hh;have ek:k=k':=by rw [hk] at hk'; cases hk'; rfl
  subst ek;obtain ⟨v0,r0,rfl,⟨k2,hk2,rfl⟩,v1,r1,rfl,hx,hr1⟩:=hcs;have hr1':r1=[]:=hr1;subst hr1';have hok:=hs.ok _ List.mem_cons_self;have hup:Up B w0 B W:=⟨fun _ h=>h,fun k hk=>hs.below.block k hk⟩
  cases bb with
  | true=>
    have e2:k2=k:=by
      have:=hk2 rfl
      rw [hk] at this;cases this
      rfl
    subst e2;refine Calls.mono (copyCheck_used k2 W (by have:=hok.2; simp [World.cell?,this])) fun e w' ⟨h1,h2⟩=>⟨_,h1,?_⟩
    subst h2;exact ⟨env,B,w',_,.tup [],_,⟨rfl,rfl⟩,fun _ h=>h,fun _ h=>.inl h,KO.refl _ _,⟨[],rfl,rfl⟩,⟨_,_,rfl,⟨k2,_,hk,rfl,⟨_,_,rfl,⟨k2,fun _=>hk,rfl⟩,_,_,rfl,hx.up hup,rfl⟩⟩,hh2.up hup⟩,hs.joinB,fun _ _ _ h=>h⟩
  | false=>
    have hlt:k < W.heap.size:=(Array.getElem?_eq_some_iff.1 hok.2).1;have hoth:∀ q,q≠k→(W.setCell ⟨k,0,none⟩ (.pointer (some ⟨k,0,none⟩))).heap[q]?=W.heap[q]?:=fun q hq=>Below.heap_setCell _ _ _ _ (fun e=>hq (by simpa using e))
    have hnew:(W.setCell ⟨k,0,none⟩ (.pointer (some ⟨k,0,none⟩))).heap[k]?=some (.cells #[.pointer (some ⟨k,0,none⟩),v1] 59):=by
      have:=hok.2
      simp [World.setCell,Array.getElem?_modify,this]
    refine Calls.mono (copyCheck_fresh k W (by have:=hok.2; simp [World.cell?,this]) (by have:=hok.2; simp [World.shape?,this]) (by have:=hok.2; simp [World.frozen?,this])) fun e w' ⟨h1,h2⟩=>⟨_,h1,?_⟩
    have hsz:w'.heap.size=W.heap.size:=by rw [h2]; simp [World.setCell]
    refine ⟨env,B,W,_,.tup [],_,⟨rfl,rfl⟩,fun _ h=>h,fun _ h=>.inl h,KO.refl _ _,⟨[],rfl,rfl⟩,⟨_,_,rfl,⟨k,[.pointer (some ⟨k,0,none⟩),v1],hk,rfl,⟨_,_,rfl,⟨k,fun _=>hk,rfl⟩,_,_,rfl,hx.up hup,rfl⟩⟩,hh2.up hup⟩,?_,fun _ _ _ h=>h⟩;exact hs.joinB.setC (K:=fun c=>c :: H2) ⟨[],H2,rfl,rfl⟩ ⟨by rw [h2]; rfl,by rw [h2]; rfl,by rw [h2]; rfl,hsz⟩ (by rw [h2]; exact hnew) (by rw [h2]; exact hoth)
theorem w_bString (J R:Nat) (x:SC) (l:List Int) (hl:l≠[]) (hb:isBs l=true):AC cx 23 [.c (.ptr J 0)] [(J,.cells 59 [x,.sl R]),(R,.row 5 (.int .u8) l none)] (fun sv h=>sv=.c (.str (bsOf l))∧h=[]):=by
  intro B w0 env vs H W hg ha hh hs;obtain ⟨v,r,rfl,⟨k,hk,rfl⟩,hr⟩:=ha;have hr':r=[]:=hr;subst hr';obtain ⟨c,H2,rfl,⟨k',us,hk',rfl,hcs⟩,c2,H3,rfl,⟨A,cp,xs,hA,rfl,hfl,_⟩,hh3⟩:=hh;have hh3':H3=[]:=hh3;subst hh3';have ek:k=k':=by rw [hk] at hk'; cases hk'; rfl
  subst ek;obtain ⟨v0,r0,rfl,_,v1,r1,rfl,⟨A',c',n',hA',rfl⟩,hr1⟩:=hcs;have hr1':r1=[]:=hr1;subst hr1';rw [hA] at hA';cases hA';have hok:=hs.ok _ List.mem_cons_self;have how:Owns W B 5 1 A cp l.length xs:=hs.ok _ (List.mem_cons_of_mem _ List.mem_cons_self);have hlen:0 < l.length:=List.length_pos_iff.2 hl;obtain ⟨g,cur,fr,rfl,hBg,hgg,hfr,hn,hm,hsz,htk⟩:∃ g cur fr,A=some ⟨g,0,none⟩∧¬ B g∧W.heap[g]?=some (.cells cur 5 fr)∧(fr.1=fr.2∨cur.size≤fr.1)∧l.length≤cp∧cp≤maxLen∧cur.size=cp * 1∧cur.toList.take (l.length * 1)=xs:=by
    rcases how.2 with ⟨_,h0,_⟩ | h
    · omega
    · exact h
  have hbl:(bsOf l).length=l.length:=by simp [bsOf]
  have hxs:xs=(bsOf l).map (fun c=>Value.int .u8 (c.toNat:Int)):=(flat_ints hfl).trans (by_back l hb).symm;have hcell:∀ j y,(bsOf l)[j]?=some y→W.cell? ((⟨g,0,none⟩:Addr).add j)=some (.int .u8 y.toNat):=fun j y hj=>by
    have hj2:j < l.length:=by have:=(List.getElem?_eq_some_iff.1 hj).1; omega
    have:=how.cells rfl j (by omega)
    rw [show (⟨g,0,none⟩:Addr).add j=⟨g,j,none⟩ by rw [Addr.add_lit,Nat.zero_add],this,hxs]
    simp [hj]
  refine Calls.mono (bstring_run k g cp v0 (bsOf l) W cur fr (by rw [hbl]; exact hok.2) hgg hcell (fun e=>hl (by simpa [bsOf] using e)) (by rw [hbl]; omega) (by omega) (by rw [hbl]; unfold maxLen at hm; omega)) fun e w' ⟨h1,h2⟩=>⟨_,h1,?_⟩
  have hj:=hs.joinB;have hko:KO (fun q=>q≠g) W w'∧w'.heap.size=W.heap.size:=by
    rw [h2];unfold World.freeze
    split
    · exact ⟨⟨rfl,rfl,rfl,Nat.le_refl _,fun _ _=>rfl⟩,rfl⟩
    · refine ⟨⟨rfl,rfl,rfl,?_,fun q hq=>?_⟩,?_⟩
      · rw [Array.size_modify]; exact Nat.le_refl _
      · simp only [Array.getElem?_modify]
        rw [if_neg (fun e=>hq e.symm)]
        rfl
      · rw [Array.size_modify]; rfl
  have hoth:=hko.1.block;refine ⟨env,B,W,[],_,[],⟨rfl,rfl⟩,fun _ h=>h,fun _ h=>.inl h,KO.refl _ _,rfl,rfl,⟨⟨hko.1.os,hko.1.tape,hko.1.output,hko.1.size,fun q hq=>hoth q fun e=>?_⟩,fun q hq=>?_,(fun c hc=>by cases hc),List.Pairwise.nil⟩,fun _ _ _ h=>h⟩
  · subst e
    rcases hq with hq | hq
    · exact hq.2 _ (List.mem_cons_of_mem _ List.mem_cons_self) rfl
    · exact hBg hq
  · rw [hko.2]
    exact hj.base q hq
end Go.Proofs.Yteglgnkcpaagjaa

/- Texts are built. -/
namespace Go.Proofs.Yteglgnkcpaagjaa
set_option linter.unusedSimpArgs false
set_option linter.unusedVariables false
open Go.RowKit
abbrev bHA:List (Nat×BS):=[(1000000,.cells 59 [.slf 1000000,.raw (.sl 2000000)]),(2000000,.row 5 (.int .u8))]
def m_copyCheck (b:Bool) (l:List Int):Option Bool:=some true
noncomputable def ct_copyCheck:CT cx where
  f:=32
  fn:=Try.f32
  A:=[.c (.raw (.ptr 1000000 0))]
  HA:=bHA
  ρ:=Bool
  df:=true
  m:=fun d=>m_copyCheck d.1 d.2.1
  out:=fun d r=>(.tup [],[(1000000,.cells 59 [.slf r 1000000,.sl 2000000]),(2000000,.row 5 (.int .u8) d.2.1 none)])
  hf:=Try.func32
  hn:=rfl
  hb:=rfl
  ok:=fun d r he=>by
    cases he;exact w_copyCheck d.1 1000000 (.sl 2000000) [(2000000,.row 5 (.int .u8) d.2.1 none)]
def m_bString (b:Bool) (l:List Int):Option (List UInt8):=gd (isBs l&&!l.isEmpty)<|some (bsOf l)
noncomputable def ct_bString:CT cx where
  f:=23
  fn:=Try.f23
  A:=[.c (.raw (.ptr 1000000 0))]
  HA:=bHA
  ρ:=List UInt8
  df:=[]
  m:=fun d=>m_bString d.1 d.2.1
  out:=fun d r=>(.a (.c (.str r)),[])
  hf:=Try.func23
  hn:=rfl
  hb:=rfl
  ok:=fun d r he=>by
    obtain ⟨h1,h2⟩:=gd_some he;cases h2;simp only [Bool.and_eq_true,Bool.not_eq_true'] at h1;exact w_bString 1000000 2000000 (.slf d.1 1000000) d.2.1 (fun e=>by have:=h1.2; rw [e] at this; cases this) h1.1
def m_bwrite (N:Nat) (a0:Int) (a1:Bool) (a2:List Int):Option (Bool×(List Int)):=
    Option.bind (m_copyCheck a1 a2) fun r1=>
    gd ((fitB 1 (a2.length+[a0].length))&&(true)) <|
    some (r1,(a2++[a0]))
set_option maxRecDepth 100000 in
noncomputable def ct_bwrite (N:Nat):CT cx:=ctE N tt_ok (by kernel_rfl) [.c (.raw (.ptr 1000000 0)),.c (.int .u8)] [(1000000,.cells 59 [.slf 1000000,.raw (.sl 1000001)]),(1000001,.row 5 (.int .u8))] ⟨.a (.c (.raw (.val .nilIface))),[(1000000,.cells 59 [.slf 1000000,.raw (.sl 1000001)]),(1000001,.row 5 (.int .u8))],[]⟩ [ct_copyCheck] [] (.s .d (.s (.r [.n 1,.c [(1000000,1000000),(2000000,1000001)]]) .d)) [.tmp 4] 22 (false,[]) (fun d=>m_bwrite N d.1 d.2.1 d.2.2.1) Try.func22 rfl rfl Try.ntmps22 rfl rfl rfl (fun d=>by kernel_rfl)
def m_pdraw_L11 (N:Nat) (x10:(Int×(List Kt4)×Unit)):Nat→(Int×(List Int)×Bool)→Option ((List Int)×Bool):=loopF fun d11 rec11=>
    cond (decide (d11.1 < (x10.2.1.length:Int))) (gd ((inB d11.1 x10.2.1.length)&&(true)) <|
    cond (decide ((x10.2.1.getD d11.1.toNat kd4.zero).1=(2:Int))) (Option.bind (m_bwrite N (IntKind.wrap .u8 ((IntKind.wrap .u8 ((97:Int)+(x10.2.1.getD d11.1.toNat kd4.zero).2.1)) - (1:Int))) d11.2.2 d11.2.1) fun r12=>
    gd ((inI64 (d11.1+(1:Int)))&&(true)) <|
    rec11 ((d11.1+(1:Int)),r12.2,r12.1)) (Option.bind (m_bwrite N (IntKind.wrap .u8 ((48:Int)+(x10.2.1.getD d11.1.toNat kd4.zero).2.1)) d11.2.2 d11.2.1) fun r13=>
    gd ((inI64 (d11.1+(1:Int)))&&(true)) <|
    rec11 ((d11.1+(1:Int)),r13.2,r13.1))) (some (d11.2.1,d11.2.2))
def m_pdraw (N:Nat) (a0:(List (List Kt4))):Option ((List UInt8)):=
    Option.bind (m_pplain N a0) fun r1=>
    cond (!r1) (some ([]:List UInt8)) (Option.bind (m_bwd N a0) fun r2=>
    Option.bind (m_bwdI N true r2) fun l10=>rangeL (fun (x10:Int×(List Kt4)×Unit) (y10:(List Int)×Bool) (k10:(List Int)×Bool→Option ((List UInt8)))=>
    Option.bind (m_pdraw_L11 N x10 N ((0:Int),y10.1,y10.2)) fun o11=>
    Option.bind (m_bwrite N (10:Int) o11.2 o11.1) fun r14=>
    k10 (r14.2,r14.1)) l10 (([]:List Int),false) fun o10=>
    Option.bind (m_bString o10.2 o10.1) fun r15=>
    some r15)
set_option maxRecDepth 100000 in
noncomputable def ct_pdraw (N:Nat):CT cx:=ctE N tt_ok (by kernel_rfl) [.dat (.sl (.sl kd4))] [] ⟨.a (.c .str),[],[]⟩ [ct_pplain N,ct_bwd N,ct_bwrite N,ct_bString] [it_bwdI N] (.s (.r [.n 2,.w (.frzC 1 (.sl (.sl kd4)))]) (.s .d (.s .d (.s (.s (.r [.n 3,.w (.nilC 3 1 12 5 (.int .u8))]) (.b (.rf [(3,40)] ⟨[],[(12,.row 5 (.int .u8)),(40,.cells 59 [.slf 40,.raw (.sl 12)])],[],[]⟩ (.b (.s (.s .d (.b (.lx 2 ⟨[(3,.a (.c (.raw (.ptr 40 0)))),(18,.a (.c (.int .i64)))],[(12,.row 5 (.int .u8)),(40,.cells 59 [.slf 40,.raw (.sl 12)])],[16,17],[]⟩ ⟨[(3,.a (.c (.raw (.ptr 40 0))))],[(12,.row 5 (.int .u8)),(40,.cells 59 [.slf 40,.raw (.sl 12)])],[],[]⟩ (.s .d (.s .d (.s (.b (.s (.r [.n 4,.w (.frzC 7 kd4)]) (.s .d (.c (.r [.n 4,.c [(1000000,40),(1000001,12)]]) (.r [.n 3,.c [(1000000,40),(1000001,12)]]))))) .d)))))) (.r [.c [(1000000,40),(1000001,12)]])))))) (.s (.r [.c [(1000000,40),(2000000,12)]]) .d))))) [.tmp 2] 9 [] (fun d=>m_pdraw N d.1) Try.func9 rfl rfl Try.ntmps9 rfl rfl rfl (fun d=>by kernel_rfl)
def m_pread_L3 (N:Nat) :Nat→((List Kt4)×(List (List Kt4))×ByteArray×Nat)→Option (((List Kt4)×(List (List Kt4)))⊕((List (List Kt4))×Nat×Int)):=loopF fun d3 rec3=>
    cond (decide (d3.2.2.2 < d3.2.2.1.size)) (cond (decide ((Utf8.decode d3.2.2.1 d3.2.2.2).1=(10:Int))) (Option.bind (m_clipS N d3.1) fun r4=>
    gd ((fitB 24 (d3.2.1.length+[r4.1].length))&&(true)) <|
    rec3 (([]:List Kt4),(d3.2.1++[r4.1]),d3.2.2.1,(d3.2.2.2+(Utf8.decode d3.2.2.1 d3.2.2.2).2))) (cond (cond (decide ((49:Int)≤(Utf8.decode d3.2.2.1 d3.2.2.2).1)) (decide ((Utf8.decode d3.2.2.1 d3.2.2.2).1≤(54:Int))) false) (gd ((fitB 32 (d3.1.length+[((1:Int),((IntKind.wrap .u8 (IntKind.wrap .i32 ((Utf8.decode d3.2.2.1 d3.2.2.2).1 - (48:Int)))),((0:Int),((0:Int),false))))].length))&&(true)) <|
    rec3 ((d3.1++[((1:Int),((IntKind.wrap .u8 (IntKind.wrap .i32 ((Utf8.decode d3.2.2.1 d3.2.2.2).1 - (48:Int)))),((0:Int),((0:Int),false))))]),d3.2.1,d3.2.2.1,(d3.2.2.2+(Utf8.decode d3.2.2.1 d3.2.2.2).2))) (cond (cond (decide ((97:Int)≤(Utf8.decode d3.2.2.1 d3.2.2.2).1)) (decide ((Utf8.decode d3.2.2.1 d3.2.2.2).1 < (103:Int))) false) (gd ((fitB 32 (d3.1.length+[((2:Int),((IntKind.wrap .u8 (IntKind.wrap .i32 ((IntKind.wrap .i32 ((Utf8.decode d3.2.2.1 d3.2.2.2).1 - (97:Int)))+(1:Int)))),((0:Int),((0:Int),false))))].length))&&(true)) <|
    rec3 ((d3.1++[((2:Int),((IntKind.wrap .u8 (IntKind.wrap .i32 ((IntKind.wrap .i32 ((Utf8.decode d3.2.2.1 d3.2.2.2).1 - (97:Int)))+(1:Int)))),((0:Int),((0:Int),false))))]),d3.2.1,d3.2.2.1,(d3.2.2.2+(Utf8.decode d3.2.2.1 d3.2.2.2).2))) (some (.inr (([]:List (List Kt4)),0,(4:Int)))))))
    (some (.inl (d3.1,d3.2.1)))
def m_pread (N:Nat) (a0:(List UInt8)):Option ((List (List Kt4))×Nat×Int):=
    Option.bind (m_pread_L3 N N (([]:List Kt4),([]:List (List Kt4)),(ByteArray.mk a0.toArray),0)) fun (o3:((List Kt4)×(List (List Kt4)))⊕((List (List Kt4))×Nat×Int))=>
    sm o3 (fun o3=>
    Option.bind (m_revR N o3.2) fun r5=>
    Option.bind (m_clipR N r5) fun r6=>
    Option.bind (cond (!(decide ((0:Int) < (o3.1.length:Int)))) (m_pplain N r6.1) (some false)) fun r7=>
    cond (cond (decide ((0:Int) < (o3.1.length:Int))) true (!r7)) (some (([]:List (List Kt4)),0,(4:Int))) (some (r6.1,r6.2,(0:Int)))) (fun q=>some q)
set_option maxRecDepth 100000 in
noncomputable def ct_pread (N:Nat):CT cx:=ctE N tt_ok (by kernel_rfl) [.c .str] [] ⟨.tup [.agg [.lstx (.sl kd4)],.c (.int .i64)],[],[]⟩ [ct_clipS N,ct_revR N,ct_clipR N,ct_pplain N] [] (.s .d (.s .d (.s (.r [.n 1,.w (.nil 5 5 38 kd4)]) (.s (.s (.r [.n 2,.w (.nilC 4 0 8 34 (.sl kd4))]) (.b (.lxx 0 ⟨[(2,.a (.c (.raw (.ptr 2 0)))),(4,.a (.c (.raw (.ptr 4 0)))),(5,.a (.c (.raw (.sl 5)))),(9,.a (.c (.raw (.ptr 9 0))))],[(4,.cells 28 [.raw (.sl 8)]),(5,.row 38 kd4),(8,.row 34 (.sl kd4)),(9,.sit)],[],[2]⟩ ⟨[(2,.a (.c (.raw (.ptr 2 0)))),(4,.a (.c (.raw (.ptr 4 0)))),(5,.a (.c (.raw (.sl 5))))],[(4,.cells 28 [.raw (.sl 8)]),(5,.row 38 kd4),(8,.row 34 (.sl kd4))],[],[2]⟩ (.s (.r [.x]) (.s .d (.b (.s .d (.b (.s .d (.c (.s (.o [2,3,4] [.t 0 0,.t 1 3,.t 2 0,.z 5,.c 3 [],.k 4,.s 5,.t 6 0,.s 7] []) (.r [.n 1,.w (.nil 5 5 38 kd4)])) .d)))))))))) (.s (.r [.n 2,.c [(2000000,8)]]) (.s (.r [.n 2,.w (.frz 8)]) .d)))))) [.cell 2 28,.tmp 3] 8 ([],0,0) (fun d=>m_pread N d.1) Try.func8 rfl rfl Try.ntmps8 rfl rfl rfl (fun d=>by kernel_rfl)
def s_lives39_1:List UInt8:=[97,49,49,10,50,50,50,10,49,98,49,10]
def m_lives39 (N:Nat) :Option (Bool):=
    Option.bind (m_p39ex N) fun r1=>
    Option.bind (m_ploop N r1 (0:Int) (1:Int)) fun r2=>
    Option.bind (m_ploop N r1 (0:Int) (0:Int)) fun r3=>
    Option.bind (m_ploop N r1 (2:Int) (0:Int)) fun r4=>
    Option.bind (m_pplain N r1) fun r5=>
    Option.bind (cond r5 (m_pdraw N r1) (some [])) fun r6=>
    some (cond (cond (cond (cond (cond (cond (cond r5 (r6 == s_lives39_1) false) (decide (r2.2=(0:Int))) false) (GTy.beq kd1 r2.1 ((2:Int),(0:Int))) false) (decide (r3.2=(0:Int))) false) (GTy.beq kd1 r3.1 ((1:Int),(4:Int))) false) (decide (r4.2=(0:Int))) false) (GTy.beq kd1 r4.1 ((1:Int),(7:Int))) false)
set_option maxRecDepth 100000 in
noncomputable def ct_lives39 (N:Nat):CT cx:=ctE N tt_ok (by kernel_rfl) [] [] ⟨.a (.c .bool),[],[]⟩ [ct_p39ex N,ct_ploop N,ct_pplain N,ct_pdraw N] [] (.s .d (.s (.r [.n 3,.w (.frzC 1 (.sl (.sl kd4)))]) (.s (.r [.n 8,.w (.frzC 2 kd1)]) (.s (.r [.n 8,.w (.frzC 4 kd1)]) (.s (.r [.n 8,.w (.frzC 6 kd1)]) .d))))) [.tmp 0] 4 false (fun d=>m_lives39 N ) Try.func4 rfl rfl Try.ntmps4 rfl rfl rfl (fun d=>by kernel_rfl)
def m_lawPD_L6 (N:Nat) (r3:(List (List Int))×Nat) (r4:(List (List Bool))×Nat) (v5_1:Int):Nat→(List UInt8)×Int×(List (List Kt4))→Option (((List UInt8)×(List (List Kt4)))⊕(((List UInt8)×(List (List Kt4)))⊕(Bool))):=loopF fun d6 rec6=>
    gd ((inB v5_1 d6.2.2.length)&&(true)) <|
    cond (decide (d6.2.1 < ((d6.2.2.getD v5_1.toNat []).length:Int))) (gd ((inB v5_1 d6.2.2.length)&&((inB d6.2.1 (d6.2.2.getD v5_1.toNat []).length)&&(true))) <|
    gd ((inB v5_1 r3.1.length)&&((inB d6.2.1 (r3.1.getD v5_1.toNat []).length)&&((impB (!(!(decide (((r3.1.getD v5_1.toNat []).getD d6.2.1.toNat 0)=((d6.2.2.getD v5_1.toNat []).getD d6.2.1.toNat kd4.zero).2.1)))) (inB v5_1 r4.1.length))&&((impB (!(!(decide (((r3.1.getD v5_1.toNat []).getD d6.2.1.toNat 0)=((d6.2.2.getD v5_1.toNat []).getD d6.2.1.toNat kd4.zero).2.1)))) (inB d6.2.1 (r4.1.getD v5_1.toNat []).length))&&(true))))) <|
    cond (cond (!(decide (((r3.1.getD v5_1.toNat []).getD d6.2.1.toNat 0)=((d6.2.2.getD v5_1.toNat []).getD d6.2.1.toNat kd4.zero).2.1))) true (((r4.1.getD v5_1.toNat []).getD d6.2.1.toNat false) != (decide (((d6.2.2.getD v5_1.toNat []).getD d6.2.1.toNat kd4.zero).1=(2:Int))))) (some (.inr (.inr false))) (Option.bind (cond (decide (((d6.2.2.getD v5_1.toNat []).getD d6.2.1.toNat kd4.zero).1=(2:Int))) (some (IntKind.wrap .u8 ((IntKind.wrap .u8 ((97:Int)+((d6.2.2.getD v5_1.toNat []).getD d6.2.1.toNat kd4.zero).2.1)) - (1:Int)))) (some (IntKind.wrap .u8 ((48:Int)+((d6.2.2.getD v5_1.toNat []).getD d6.2.1.toNat kd4.zero).2.1)))) fun o7=>
    gd ((isBs [o7])&&((decide (d6.1.length+(bsOf [o7]).length≤140737488355328))&&(true))) <|
    gd ((inI64 (d6.2.1+(1:Int)))&&(true)) <|
    rec6 ((d6.1++(bsOf [o7])),(d6.2.1+(1:Int)),d6.2.2))) (some (.inl (d6.1,d6.2.2)))
def m_lawPD_L5 (N:Nat) (r3:(List (List Int))×Nat) (r4:(List (List Bool))×Nat):Nat→(List UInt8)×Int×(List (List Kt4))→Option (((List UInt8)×(List (List Kt4)))⊕(Bool)):=loopF fun d5 rec5=>
    cond (decide ((0:Int)≤d5.2.1)) (gd ((inB d5.2.1 r3.1.length)&&((inB d5.2.1 d5.2.2.length)&&((impB (!(!(decide (((r3.1.getD d5.2.1.toNat []).length:Int)=((d5.2.2.getD d5.2.1.toNat []).length:Int))))) (inB d5.2.1 r4.1.length))&&((impB (!(!(decide (((r3.1.getD d5.2.1.toNat []).length:Int)=((d5.2.2.getD d5.2.1.toNat []).length:Int))))) (inB d5.2.1 d5.2.2.length))&&((impB (!(cond (!(decide (((r3.1.getD d5.2.1.toNat []).length:Int)=((d5.2.2.getD d5.2.1.toNat []).length:Int)))) true (!(decide (((r4.1.getD d5.2.1.toNat []).length:Int)=((d5.2.2.getD d5.2.1.toNat []).length:Int)))))) (inB d5.2.1 r3.1.length))&&((impB (!(cond (!(decide (((r3.1.getD d5.2.1.toNat []).length:Int)=((d5.2.2.getD d5.2.1.toNat []).length:Int)))) true (!(decide (((r4.1.getD d5.2.1.toNat []).length:Int)=((d5.2.2.getD d5.2.1.toNat []).length:Int)))))) (inB d5.2.1 r3.1.length))&&((impB (!(cond (cond (!(decide (((r3.1.getD d5.2.1.toNat []).length:Int)=((d5.2.2.getD d5.2.1.toNat []).length:Int)))) true (!(decide (((r4.1.getD d5.2.1.toNat []).length:Int)=((d5.2.2.getD d5.2.1.toNat []).length:Int))))) true (!(decide (((r3.1.getD d5.2.1.toNat []).length:Int)=((r3.1.getD d5.2.1.toNat []).length:Int)))))) (inB d5.2.1 r4.1.length))&&((impB (!(cond (cond (!(decide (((r3.1.getD d5.2.1.toNat []).length:Int)=((d5.2.2.getD d5.2.1.toNat []).length:Int)))) true (!(decide (((r4.1.getD d5.2.1.toNat []).length:Int)=((d5.2.2.getD d5.2.1.toNat []).length:Int))))) true (!(decide (((r3.1.getD d5.2.1.toNat []).length:Int)=((r3.1.getD d5.2.1.toNat []).length:Int)))))) (inB d5.2.1 r4.1.length))&&(true))))))))) <|
    cond (cond (cond (cond (!(decide (((r3.1.getD d5.2.1.toNat []).length:Int)=((d5.2.2.getD d5.2.1.toNat []).length:Int)))) true (!(decide (((r4.1.getD d5.2.1.toNat []).length:Int)=((d5.2.2.getD d5.2.1.toNat []).length:Int))))) true (!(decide (((r3.1.getD d5.2.1.toNat []).length:Int)=((r3.1.getD d5.2.1.toNat []).length:Int))))) true (!(decide (((r4.1.getD d5.2.1.toNat []).length:Int)=((r4.1.getD d5.2.1.toNat []).length:Int))))) (some (.inr false)) (Option.bind (m_lawPD_L6 N r3 r4 d5.2.1 N (d5.1,(0:Int),d5.2.2)) fun (o6:((List UInt8)×(List (List Kt4)))⊕(((List UInt8)×(List (List Kt4)))⊕(Bool)))=>
    sm o6 (fun o6=>
    gd ((decide (o6.1.length+([10]:List UInt8).length≤140737488355328))&&(true)) <|
    gd ((inI64 (d5.2.1 - (1:Int)))&&(true)) <|
    rec5 ((o6.1++([10]:List UInt8)),(d5.2.1 - (1:Int)),o6.2)) (fun q=>some q))) (some (.inl (d5.1,d5.2.2)))
def m_lawPD (N:Nat) (a0:Kt2) (a1:(List UInt8)):Option (Bool):=
    cond (decide ((100:Int) < (a1.length:Int))) (Option.bind (m_lives39 N) fun r1=>
    some r1) (Option.bind (m_cof39 N a0) fun r2=>
    Option.bind (m_pcolours N r2) fun r3=>
    Option.bind (m_prelief N r2) fun r4=>
    cond (cond (cond (cond (!(decide ((r3.1.length:Int)=(r2.length:Int)))) true (!(decide ((r4.1.length:Int)=(r2.length:Int))))) true (!(decide ((r3.2:Int)=(r3.1.length:Int))))) true (!(decide ((r4.2:Int)=(r4.1.length:Int))))) (some false) (gd ((inI64 ((r2.length:Int) - (1:Int)))&&(true)) <|
    Option.bind (m_lawPD_L5 N r3 r4 N (([]:List UInt8),((r2.length:Int) - (1:Int)),r2)) fun (o5:((List UInt8)×(List (List Kt4)))⊕(Bool))=>
    sm o5 (fun o5=>
    Option.bind (m_pread N o5.1) fun r8=>
    Option.bind (m_pdraw N o5.2) fun r9=>
    Option.bind (cond (!(cond (!(r9 == o5.1)) true (!(decide (r8.2.2=(0:Int)))))) (m_chsame N r8.1 o5.2) (some false)) fun r10=>
    cond (cond (cond (cond (!(r9 == o5.1)) true (!(decide (r8.2.2=(0:Int))))) true (!r10)) true (!(decide ((r8.2.1:Int)=(r8.1.length:Int))))) (some false) (Option.bind (m_pread N a1) fun r11=>
    cond (!(decide (r11.2.2=(0:Int)))) (Option.bind (cond (cond (decide (r11.2.2=(4:Int))) (decide ((r11.1.length:Int)=(0:Int))) false) (m_lives39 N) (some false)) fun r12=>
    some (cond (cond (decide (r11.2.2=(4:Int))) (decide ((r11.1.length:Int)=(0:Int))) false) r12 false)) (Option.bind (m_pdraw N r11.1) fun r13=>
    Option.bind (cond (r13 == a1) (m_lives39 N) (some false)) fun r14=>
    some (cond (r13 == a1) r14 false)))) (fun q=>some q)))
set_option maxRecDepth 100000 in
noncomputable def ct_lawPD (N:Nat):CT cx:=ctE N tt_ok (by kernel_rfl) [.dat kd2,.c .str] [] ⟨.a (.c .bool),[],[]⟩ [ct_lives39 N,ct_cof39 N,ct_pcolours N,ct_prelief N,ct_pread N,ct_pdraw N,ct_chsame N] [] (.s .d (.s .d (.s .d (.s .d (.s (.o [1,2] [.t 0 3,.t 2 3,.c 1 [],.c 3 [],.t 4 0,.t 5 0] []) (.s .d (.s (.s .d (.b (.lxx 0 ⟨[(5,.a (.c (.raw (.ptr 5 0)))),(6,.a (.c .str)),(9,.a (.c (.int .i64)))],[(5,.cells 28 [.lst (.sl kd4)])],[1,7,8],[]⟩ ⟨[(5,.a (.c (.raw (.ptr 5 0)))),(6,.a (.c .str))],[(5,.cells 28 [.lst (.sl kd4)])],[1],[]⟩ (.s .d (.s (.b (.s (.s (.o [7,20] [.t 0 0,.t 1 0,.t 2 0,.t 3 1,.t 4 0,.t 5 0,.t 6 3,.t 7 0,.t 8 0,.t 9 1,.t 10 0,.t 11 0,.t 12 0,.t 13 0,.t 14 0,.t 15 0,.t 16 1,.t 17 0,.t 18 0,.t 19 3,.t 20 0,.t 21 0,.t 22 1,.t 23 0,.t 24 0,.t 25 0,.t 26 0,.t 27 0,.t 28 0,.t 29 0,.t 30 1,.t 31 0,.t 32 0,.t 33 0,.t 34 0,.t 35 1,.t 36 0,.t 37 0,.t 38 0,.t 39 0,.t 40 0,.t 41 0,.t 42 0,.t 43 1,.t 44 0,.t 45 0,.t 46 0,.t 47 0,.t 48 1,.t 49 0,.t 50 0,.t 51 0] []) .d) (.s (.s .d (.b (.lxx 2 ⟨[(5,.a (.c (.raw (.ptr 5 0)))),(6,.a (.c .str)),(10,.a (.c (.int .i64)))],[(5,.cells 28 [.lst (.sl kd4)])],[1,7,8,9],[]⟩ ⟨[(5,.a (.c (.raw (.ptr 5 0)))),(6,.a (.c .str))],[(5,.cells 28 [.lst (.sl kd4)])],[1,7,8,9],[]⟩ (.s .d (.s (.b (.s .d (.s .d (.s (.s (.o [] [.t 0 0,.t 1 0,.t 2 0,.t 3 1,.t 4 0,.t 5 0,.t 6 1,.t 7 0,.t 8 3,.t 9 0,.t 10 0,.t 11 0,.t 12 0,.t 13 0,.t 14 1,.t 15 0,.t 16 0,.t 17 1,.t 18 0,.t 19 0,.t 20 0] []) .d) (.s .d (.j ⟨[(5,.a (.c (.raw (.ptr 5 0)))),(13,.a (.c (.int .u8)))],[],[1,6,7,8,9,10],[5]⟩ .d .d)))))) .d))))) .d))) .d))))) .d))))))) [.tmp 4] 3 false (fun d=>m_lawPD N d.1 d.2.1) Try.func3 rfl rfl Try.ntmps3 rfl rfl rfl (fun d=>by kernel_rfl)
end Go.Proofs.Yteglgnkcpaagjaa

/- Loops of the walker's models. -/
namespace Go.Proofs.Yteglgnkcpaagjaa
open Go.RowKit
theorem loopF_inv {δ ρ:Type} {step:δ→(δ→Option ρ)→Option ρ} (I:Nat→δ→Prop) (post:ρ→Prop)
    (h:∀ k d rec,I k d→(∀ k' d',k' < k→I k' d'→∃ r,rec d'=some r∧post r)→∃ r,step d rec=some r∧post r):∀ n k d,k < n→I k d→∃ r,loopF step n d=some r∧post r
  | 0,_,_,hk,_=>by omega
  | n+1,k,d,hk,hI=>h k d _ hI fun k' d' hk' hI'=>loopF_inv I post h n k' d' (by omega) hI'
theorem loopF_eq {δ ρ:Type} {step:δ→(δ→Option ρ)→Option ρ} (I:Nat→δ→Prop) (r:ρ)
    (h:∀ k d rec,I k d→(∀ k' d',k' < k→I k' d'→rec d'=some r)→step d rec=some r) (n k:Nat) (d:δ) (hk:k < n) (hI:I k d):loopF step n d=some r:=by
  obtain ⟨r',h1,rfl⟩:=loopF_inv I (fun x=>x=r) (fun k d rec hI hr=>⟨r,h k d rec hI (fun k' d' hk' hI'=>by obtain ⟨_,h1,rfl⟩:=hr k' d' hk' hI'; exact h1),rfl⟩) n k d hk hI;exact h1
theorem gdT {α:Type} {c:Bool} {x:Option α} (h:c=true):gd c x=x:=by rw [h]; rfl
end Go.Proofs.Yteglgnkcpaagjaa

/- PicturesDraw, the plain part: small things. -/
namespace Go.Proofs.Yteglgnkcpaagjaa
open Go.RowKit
set_option maxRecDepth 100000 in
theorem lives39_ok:m_lives39 400=some true:=by kernel_rfl
end Go.Proofs.Yteglgnkcpaagjaa

/- PicturesDraw, the plain part: colours and relief. -/
namespace Go.Proofs.Yteglgnkcpaagjaa
open Go.RowKit
def fil {α β:Type} (f:α→β) (z:β) (l:List α) (m:Nat):List β:=(l.take m).map f++List.replicate (l.length - m) z
theorem fil_zero {α β:Type} (f:α→β) (z:β) (l:List α):fil f z l 0=List.replicate l.length z:=by simp [fil]
theorem fil_all {α β:Type} (f:α→β) (z:β) (l:List α):fil f z l l.length=l.map f:=by simp [fil]
theorem fil_len {α β:Type} (f:α→β) (z:β) (l:List α) (m:Nat) (h:m≤l.length):(fil f z l m).length=l.length:=by simp [fil]; omega
theorem fil_set {α β:Type} (f:α→β) (z:β) (l:List α) (m:Nat) (h:m < l.length) (x:α) (hx:l[m]?=some x):(fil f z l m).set m (f x)=fil f z l (m+1):=by
  obtain ⟨hlt,rfl⟩:=List.getElem?_eq_some_iff.1 hx
  apply List.ext_getElem?
  intro i;simp only [fil,List.getElem?_set,List.getElem?_append,List.length_map,List.length_take,List.getElem?_map,List.getElem?_take,List.getElem?_replicate,List.length_append,List.length_replicate]
  by_cases h1:m=i
  · subst h1
    have e1:min m l.length+(l.length - m)=l.length:=by omega
    have e2:m < min (m+1) l.length:=by omega
    simp [e1,h,e2]
  · by_cases h2:i < m
    · simp [h1,show i < min m l.length by omega,show i < min (m+1) l.length by omega,h2,show i < m+1 by omega]
    · simp only [if_neg h1,if_neg (show ¬ i < min m l.length by omega),if_neg (show ¬ i < min (m+1) l.length by omega)]
      rw [show min m l.length=m by omega,show min (m+1) l.length=m+1 by omega]
      by_cases h3:i < l.length
      · rw [if_pos (by omega),if_pos (by omega)]
      · rw [if_neg (by omega),if_neg (by omega)]
theorem inI64_T {x:Int} (h1:-9223372036854775808≤x) (h2:x≤9223372036854775807):inI64 x=true:=by
  simp [inI64,h1,h2]
theorem inB_T {m n:Nat} (h:m < n):inB (m:Int) n=true:=by
  simp [inB,h]
theorem getD_of {α:Type} {l:List α} {m:Nat} {x z:α} (h:l[m]?=some x):l.getD m z=x:=by
  rw [List.getD_eq_getElem?_getD,h]; rfl
theorem each8_L2_ok {N:Nat} (hN:300 < N) (l:List (List Kt4)) (m:Nat) (r:List Kt4) (hr:l[m]?=some r) (h2:r.length≤300) (res:List (List Int)) (hm:m < res.length) (c c2:Nat) :
    m_each8_L2 N l (m:Int) N ((0:Int),res,m,c,List.replicate r.length (0:Int),c2)=some (res,m,c,r.map (·.2.1),c2):=by
  refine loopF_eq (fun k d=>∃ j:Nat,j+k=r.length∧d=((j:Int),res,m,c,fil (·.2.1) 0 r j,c2)) _ ?_ N r.length _ (by omega) ⟨0,by omega,by rw [fil_zero]; rfl⟩;rintro k d rec ⟨j,hj,rfl⟩ hrec;have e1:l.getD m []=r:=getD_of hr;simp only [Int.toNat_natCast,e1]
  by_cases hlt:j < r.length
  · obtain ⟨x,hx⟩:∃ x,r[j]?=some x:=⟨_,List.getElem?_eq_getElem hlt⟩
    have e2:r.getD j kd4.zero=x:=getD_of hx;rw [show decide ((j:Int) < (r.length:Int))=true by simpa using hlt];simp only [cond_true,e2,m_pcol1,Option.bind_some];rw [gdT (by simp [inB_T hlt]),gdT (by simp [inB_T hm]),gdT (by simp [fil_len,hlt,inB_T,show j≤r.length by omega]),gdT (by rw [inI64_T (by omega) (by omega)]; rfl)]
    have:=fil_set (·.2.1) (0:Int) r j hlt x hx
    rw [this];exact hrec (k - 1) _ (by omega) ⟨j+1,by omega,rfl⟩
  · have:j=r.length:=by omega
    subst this;rw [show decide (((r.length:Nat):Int) < (r.length:Int))=false by simp];simp only [cond_false,fil_all]
theorem each8_ok {N:Nat} (hN:300 < N) (l:List (List Kt4)) (h1:l.length≤300) (h2:∀ r∈l,r.length≤300):m_each8 N l=some (l.map (·.map (·.2.1)),l.length):=by
  have hL:m_each8_L1 N l N ((0:Int),List.replicate l.length [],l.length)=some (l.map (·.map (·.2.1)),l.length):=by
    refine loopF_eq (fun k d=>∃ j:Nat,j+k=l.length∧d=((j:Int),fil (fun r:List Kt4=>r.map (·.2.1)) [] l j,l.length)) _ ?_ N l.length _ (by omega) ⟨0,by omega,by rw [fil_zero]; rfl⟩;rintro k d rec ⟨j,hj,rfl⟩ hrec
    by_cases hlt:j < l.length
    · obtain ⟨r,hr⟩:∃ r,l[j]?=some r:=⟨_,List.getElem?_eq_getElem hlt⟩
      have e1:l.getD j []=r:=getD_of hr;have hw:r.length≤300:=h2 r (List.mem_of_getElem? hr);have hf:(fil (fun r:List Kt4=>r.map (·.2.1)) [] l j).length=l.length:=fil_len _ _ _ _ (by omega);simp only [Int.toNat_natCast,e1];rw [show decide ((j:Int) < (l.length:Int))=true by simpa using hlt];simp only [cond_true];have hz:=each8_L2_ok hN l j r hr hw (fil (fun r:List Kt4=>r.map (·.2.1)) [] l j) (by rw [hf]; exact hlt) l.length r.length;have hg:inI64 ((j:Int)+1)=true:=inI64_T (by omega) (by omega);rw [gdT (by simp [inB_T hlt]),gdT (by simp [hf,hlt,inB_T]; omega),hz];rw [Option.bind_some,hg,fil_set (fun r:List Kt4=>r.map (·.2.1)) [] l j hlt r hr];exact hrec (k - 1) _ (by omega) ⟨j+1,by omega,rfl⟩
    · have:j=l.length:=by omega
      subst this;rw [show decide (((l.length:Nat):Int) < (l.length:Int))=false by simp];simp only [cond_false,fil_all]
  unfold m_each8;simp only [Int.toNat_natCast];rw [gdT (by simp; omega),hL]
  rfl
theorem eachB_L2_ok {N:Nat} (hN:300 < N) (l:List (List Kt4)) (m:Nat) (r:List Kt4) (hr:l[m]?=some r) (h2:r.length≤300) (res:List (List Bool)) (hm:m < res.length) (c c2:Nat) :
    m_eachB_L2 N l (m:Int) N ((0:Int),res,m,c,List.replicate r.length false,c2)=some (res,m,c,r.map (fun x:Kt4=>cond (decide (x.1=(2:Int))) true (decide (x.1=(5:Int)))),c2):=by
  refine loopF_eq (fun k d=>∃ j:Nat,j+k=r.length∧d=((j:Int),res,m,c,fil (fun x:Kt4=>cond (decide (x.1=(2:Int))) true (decide (x.1=(5:Int)))) false r j,c2)) _ ?_ N r.length _ (by omega) ⟨0,by omega,by rw [fil_zero]; rfl⟩;rintro k d rec ⟨j,hj,rfl⟩ hrec;have e1:l.getD m []=r:=getD_of hr;simp only [Int.toNat_natCast,e1]
  by_cases hlt:j < r.length
  · obtain ⟨x,hx⟩:∃ x,r[j]?=some x:=⟨_,List.getElem?_eq_getElem hlt⟩
    have e2:r.getD j kd4.zero=x:=getD_of hx;rw [show decide ((j:Int) < (r.length:Int))=true by simpa using hlt];simp only [cond_true,e2,m_prel1,Option.bind_some];rw [gdT (by simp [inB_T hlt]),gdT (by simp [inB_T hm]),gdT (by simp [fil_len,hlt,inB_T,show j≤r.length by omega]),gdT (by rw [inI64_T (by omega) (by omega)]; rfl)]
    have:=fil_set (fun x:Kt4=>cond (decide (x.1=(2:Int))) true (decide (x.1=(5:Int)))) false r j hlt x hx
    rw [this];exact hrec (k - 1) _ (by omega) ⟨j+1,by omega,rfl⟩
  · have:j=r.length:=by omega
    subst this;rw [show decide (((r.length:Nat):Int) < (r.length:Int))=false by simp];simp only [cond_false,fil_all]
theorem eachB_ok {N:Nat} (hN:300 < N) (l:List (List Kt4)) (h1:l.length≤300) (h2:∀ r∈l,r.length≤300):m_eachB N l=some (l.map (·.map (fun x:Kt4=>cond (decide (x.1=(2:Int))) true (decide (x.1=(5:Int))))),l.length):=by
  have hL:m_eachB_L1 N l N ((0:Int),List.replicate l.length [],l.length)=some (l.map (·.map (fun x:Kt4=>cond (decide (x.1=(2:Int))) true (decide (x.1=(5:Int))))),l.length):=by
    refine loopF_eq (fun k d=>∃ j:Nat,j+k=l.length∧d=((j:Int),fil (fun r:List Kt4=>r.map (fun x:Kt4=>cond (decide (x.1=(2:Int))) true (decide (x.1=(5:Int))))) [] l j,l.length)) _ ?_ N l.length _ (by omega) ⟨0,by omega,by rw [fil_zero]; rfl⟩;rintro k d rec ⟨j,hj,rfl⟩ hrec
    by_cases hlt:j < l.length
    · obtain ⟨r,hr⟩:∃ r,l[j]?=some r:=⟨_,List.getElem?_eq_getElem hlt⟩
      have e1:l.getD j []=r:=getD_of hr;have hw:r.length≤300:=h2 r (List.mem_of_getElem? hr);have hf:(fil (fun r:List Kt4=>r.map (fun x:Kt4=>cond (decide (x.1=(2:Int))) true (decide (x.1=(5:Int))))) [] l j).length=l.length:=fil_len _ _ _ _ (by omega);simp only [Int.toNat_natCast,e1];rw [show decide ((j:Int) < (l.length:Int))=true by simpa using hlt];simp only [cond_true];have hz:=eachB_L2_ok hN l j r hr hw (fil (fun r:List Kt4=>r.map (fun x:Kt4=>cond (decide (x.1=(2:Int))) true (decide (x.1=(5:Int))))) [] l j) (by rw [hf]; exact hlt) l.length r.length;have hg:inI64 ((j:Int)+1)=true:=inI64_T (by omega) (by omega);obtain ⟨res,hR⟩:∃ res,res=fil (fun r:List Kt4=>r.map (fun x:Kt4=>cond (decide (x.1=(2:Int))) true (decide (x.1=(5:Int))))) [] l j:=⟨_,rfl⟩
      rw [← hR] at hf hz ⊢;rw [gdT (by simp [inB_T hlt]),gdT (by simp [hf,hlt,inB_T]; omega),hz];rw [Option.bind_some,hg,hR,fil_set (fun r:List Kt4=>r.map (fun x:Kt4=>cond (decide (x.1=(2:Int))) true (decide (x.1=(5:Int))))) [] l j hlt r hr];exact hrec (k - 1) _ (by omega) ⟨j+1,by omega,rfl⟩
    · have:j=l.length:=by omega
      subst this;rw [show decide (((l.length:Nat):Int) < (l.length:Int))=false by simp];simp only [cond_false,fil_all]
  unfold m_eachB;simp only [Int.toNat_natCast];rw [gdT (by simp; omega),hL]
  rfl
theorem pcolours_ok {N:Nat} (hN:300 < N) (l:List (List Kt4)) (h1:l.length≤300) (h2:∀ r∈l,r.length≤300):m_pcolours N l=some (l.map (·.map (·.2.1)),l.length):=by
  unfold m_pcolours;rw [each8_ok hN l h1 h2]
  rfl
theorem prelief_ok {N:Nat} (hN:300 < N) (l:List (List Kt4)) (h1:l.length≤300) (h2:∀ r∈l,r.length≤300):m_prelief N l=some (l.map (·.map (fun x:Kt4=>cond (decide (x.1=(2:Int))) true (decide (x.1=(5:Int))))),l.length):=by
  unfold m_prelief;rw [eachB_ok hN l h1 h2]
  rfl
end Go.Proofs.Yteglgnkcpaagjaa

/- PicturesDraw, the plain part: the charts of the law. -/
namespace Go.Proofs.Yteglgnkcpaagjaa
open Go.RowKit
def St12 (x:Kt4):Prop:=(x.1=1∨x.1=2)∧1≤x.2.1∧x.2.1≤4∧x.2.2=(0,0,false)
structure Ch12 (p:List (List Kt4)) (w h:Nat):Prop where
  rows:p.length=h
  wide:∀ r∈p,r.length=w
  st:∀ r∈p,∀ x∈r,St12 x
theorem wrap8 {x:Int} (h1:0≤x) (h2:x≤255):IntKind.wrap .u8 x=x:=by
  simp [IntKind.wrap,IntKind.bits,IntKind.signed]
  omega
theorem num12 (c:Int) (h1:0≤c) (h2:c≤255):1≤IntKind.wrap .u8 ((1:Int)+Int.tmod (IntKind.wrap .u8 (Int.tdiv c 2)) 4)∧IntKind.wrap .u8 ((1:Int)+Int.tmod (IntKind.wrap .u8 (Int.tdiv c 2)) 4)≤4:=by
  have e1:IntKind.wrap .u8 (Int.tdiv c 2)=c / 2:=by
    rw [Int.tdiv_eq_ediv_of_nonneg h1];exact wrap8 (by omega) (by omega)
  have e2:Int.tmod (c / 2) 4=(c / 2) % 4:=Int.tmod_eq_emod_of_nonneg (by omega);rw [e1,e2,wrap8 (by omega) (by omega)];omega
theorem cof_L7 {N:Nat} (hN:300 < N) (a0:Kt2) (hW:0≤a0.1∧a0.1≤255) (hst:∀ c∈a0.2.2,0≤c∧c≤255) (w:Nat) (hw:(w:Int)=1+Int.tmod a0.1 8) (hw8:w≤8) (i0:Int) (hi0:0≤i0) (hi1:i0≤200) :
    ∃ r,m_cof39_L7 N a0 N (i0,(0:Int),([]:List Kt4))=some r∧(r.2.length=w∧(∀ x∈r.2,St12 x)∧0≤r.1∧r.1≤i0+w):=by
  refine loopF_inv (fun k (d:Int×Int×List Kt4)=>d.2.1=(d.2.2.length:Int)∧d.2.2.length+k=w∧(∀ x∈d.2.2,St12 x)∧0≤d.1∧d.1≤i0+d.2.2.length) (fun (r:Int×List Kt4)=>r.2.length=w∧(∀ x∈r.2,St12 x)∧0≤r.1∧r.1≤i0+w) ?_ N w _ (by omega) ⟨rfl,by simp,(fun x hx=>by cases hx),hi0,by simp⟩;rintro k ⟨i,j,row⟩ rec ⟨hj,hk,hall,hi,hi2⟩ hrec;dsimp only at hj hk hall hi hi2;subst hj;have hm:Int.tmod a0.1 8=(w:Int) - 1:=by omega
  dsimp only;rw [hm,gdT (by rw [inI64_T (by omega) (by omega),inI64_T (by omega) (by omega)]; rfl)];have e1:(1:Int)+((w:Int) - 1)=w:=by omega
  rw [e1]
  by_cases hlt:row.length < w
  · rw [show decide ((row.length:Int) < (w:Int))=true by simpa using hlt]
    rw [cond_true];have next:∀ (s:Kt4) (i':Int),St12 s→0≤i'→i'≤i+1→∃ r,rec (i',(row.length:Int)+1,row++[s])=some r∧(r.2.length=w∧(∀ x∈r.2,St12 x)∧0≤r.1∧r.1≤i0+w):=fun s i' hs h1 h2=>by
      refine hrec (k - 1) _ (by omega) ⟨by simp,by simp; omega,fun x hx=>?_,h1,by simp; omega⟩
      rcases List.mem_append.1 hx with hx | hx
      · exact hall x hx
      · rw [List.mem_singleton.1 hx]; exact hs
    have hfit:∀ s:Kt4,fitB 32 (row.length+[s].length)=true:=fun s=>by simp [fitB]; omega
    by_cases hz:0 < a0.2.2.length
    · rw [show decide ((0:Int) < (a0.2.2.length:Int))=true by simpa using hz,cond_true]
      have hmod:Int.tmod i a0.2.2.length=i % a0.2.2.length:=Int.tmod_eq_emod_of_nonneg hi;have hm1:0≤i % (a0.2.2.length:Int):=Int.emod_nonneg _ (by omega);have hm2:i % (a0.2.2.length:Int) < a0.2.2.length:=Int.emod_lt_of_pos _ (by omega);rw [hmod];obtain ⟨q,hq⟩:∃ q:Nat,i % (a0.2.2.length:Int)=q:=⟨(i % (a0.2.2.length:Int)).toNat,by omega⟩
      rw [hq] at hm2 ⊢;have hq2:q < a0.2.2.length:=by omega
      rw [gdT (by rw [inB_T hq2,show decide ((a0.2.2.length:Int)≠0)=true from decide_eq_true (by omega)]; rfl),Int.toNat_natCast];obtain ⟨c,hc⟩:∃ c,a0.2.2[q]?=some c:=⟨_,List.getElem?_eq_getElem hq2⟩
      rw [getD_of hc];have hcr:=hst c (List.mem_of_getElem? hc);have hn:=num12 c hcr.1 hcr.2;have fin:∀ s:Kt4,St12 s→∃ r,(Option.bind (some s) fun o8=>
          gd ((inI64 (i+(1:Int)))&&(true)) <|
          gd ((fitB 32 (row.length+[o8].length))&&(true)) <|
          gd ((inI64 ((row.length:Int)+(1:Int)))&&(true)) <|
          rec ((i+(1:Int)),((row.length:Int)+(1:Int)),(row++[o8])))=some r∧(r.2.length=w∧(∀ x∈r.2,St12 x)∧0≤r.1∧r.1≤i0+w):=fun s hs=>by
        rw [Option.bind_some,gdT (by rw [inI64_T (by omega) (by omega)]; rfl),gdT (by rw [hfit]; rfl),gdT (by rw [inI64_T (by omega) (by omega)]; rfl)];exact next s _ hs (by omega) (by omega)
      cases hb:decide (Int.tmod c 2=1) with
      | true=>exact fin _ ⟨.inr rfl,hn.1,hn.2,rfl⟩
      | false=>exact fin _ ⟨.inl rfl,hn.1,hn.2,rfl⟩
    · rw [show decide ((0:Int) < (a0.2.2.length:Int))=false by simpa using hz,cond_false]
      rw [gdT (by rw [hfit]; rfl),gdT (by rw [inI64_T (by omega) (by omega)]; rfl)];exact next _ _ ⟨.inl rfl,by decide,by decide,rfl⟩ (by omega) (by omega)
  · rw [show decide ((row.length:Int) < (w:Int))=false by simpa using hlt,cond_false]
    exact ⟨_,rfl,(by show row.length=w; omega),hall,hi,(by show i≤i0+w; omega)⟩
theorem cof39_ok {N:Nat} (hN:300 < N) (a0:Kt2) (hW:0≤a0.1∧a0.1≤255) (hH:0≤a0.2.1∧a0.2.1≤255) (hst:∀ c∈a0.2.2,0≤c∧c≤255) :
    ∃ p w h,m_cof39 N a0=some p∧Ch12 p w (2 * h+1)∧1≤w∧w≤8∧h≤4:=by
  have hm1:Int.tmod a0.1 8=a0.1 % 8:=Int.tmod_eq_emod_of_nonneg hW.1;have hm2:Int.tmod a0.2.1 5=a0.2.1 % 5:=Int.tmod_eq_emod_of_nonneg hH.1;obtain ⟨w,hw⟩:∃ w:Nat,(w:Int)=1+Int.tmod a0.1 8:=⟨(1+a0.1 % 8).toNat,by omega⟩
  obtain ⟨h,hh⟩:∃ h:Nat,(h:Int)=Int.tmod a0.2.1 5:=⟨(a0.2.1 % 5).toNat,by omega⟩
  have hw8:w≤8:=by omega
  have hw1:1≤w:=by omega
  have hh4:h≤4:=by omega
  clear hm1 hm2
  have key:∃ p,m_cof39_L6 N a0 N ((0:Int),(0:Int),([]:List (List Kt4)))=some p∧Ch12 p w (2 * h+1):=by
    refine loopF_inv (fun k (d:Int×Int×List (List Kt4))=>d.2.1=(d.2.2.length:Int)∧d.2.2.length+k=2 * h+1∧(∀ r∈d.2.2,r.length=w∧∀ x∈r,St12 x)∧0≤d.1∧d.1≤8 * d.2.2.length) (fun p=>Ch12 p w (2 * h+1)) ?_ N (2 * h+1) _ (by omega) ⟨rfl,by simp,(fun x hx=>by cases hx),by simp,by simp⟩;rintro k ⟨i,j,rows⟩ rec ⟨hj,hk,hall,hi,hi2⟩ hrec;dsimp only at hj hk hall hi hi2;subst hj;dsimp only;rw [← hh,gdT (by rw [inI64_T (by omega) (by omega),inI64_T (by omega) (by omega),inI64_T (by omega) (by omega)]; rfl)]
    by_cases hlt:rows.length < 2 * h+1
    · rw [show decide ((rows.length:Int) < 1+2 * (h:Int))=true from decide_eq_true (by omega),cond_true]
      obtain ⟨r,e,h1,h2,h3,h4⟩:=cof_L7 hN a0 hW hst w hw hw8 i hi (by omega);rw [e,Option.bind_some,gdT (by simp [fitB]; omega),gdT (by rw [inI64_T (by omega) (by omega)]; rfl)];refine hrec (k - 1) _ (by omega) ⟨by simp,by simp; omega,fun x hx=>?_,h3,by simp; omega⟩
      rcases List.mem_append.1 hx with hx | hx
      · exact hall x hx
      · rw [List.mem_singleton.1 hx]; exact ⟨h1,h2⟩
    · rw [show decide ((rows.length:Int) < 1+2 * (h:Int))=false from decide_eq_false (by omega),cond_false]
      exact ⟨_,rfl,⟨(by show rows.length=_; omega),fun r hr=>(hall r hr).1,fun r hr=>(hall r hr).2⟩⟩
  obtain ⟨p,e,hp⟩:=key;refine ⟨p,w,h,?_,hp,hw1,hw8,hh4⟩;unfold m_cof39;rw [e]
  rfl
end Go.Proofs.Yteglgnkcpaagjaa
