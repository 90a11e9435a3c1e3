/- Part 3 of 6 of the proof. -/
import Derived.Test.YtihcolehefloeaaDoorCp2
import Derived.Scope
import Derived.Shelf.Spec.SlicesGrow
import Derived.Shelf.Slices.CompactI
import Derived.Shelf.Strconv.Itoa3
import Derived.Room.Shelf.Join48
import Derived.Test.YtihcolehefloeaaDoorProg
set_option linter.unusedSimpArgs false
set_option linter.unusedVariables false
set_option maxRecDepth 20000
set_option maxHeartbeats 4000000
/- Arrays in cells by variable indexes; maps: looking up with ok, literals. -/
namespace Go.Proofs.YtihcolehefloeaaDoor
open Go.RowKit
theorem PutAt.mk0:∀ (vs l:List Value),vs.length≤l.length→PutAt l 0 vs (vs++l.drop vs.length)
  | [],_,_=>.nil
  | _ :: _,[],h=>by simp at h
  | v :: vs,_ :: l,h=>.cons (PutAt.mk0 vs l (by simpa using h))
theorem PutAt.mk' {vs:List Value}:∀ {l:List Value} {k:Nat},k+vs.length≤l.length→PutAt l k vs (l.take k++vs++l.drop (k+vs.length))
  | l,0,h=>by
    simp only [List.take_zero,List.nil_append,Nat.zero_add] at h ⊢;exact PutAt.mk0 vs l h
  | [],k+1,h=>by simp at h
  | c :: l,k+1,h=>by
    have:=PutAt.mk' (vs:=vs) (l:=l) (k:=k) (by simp at h; omega)
    rw [show k+1+vs.length=(k+vs.length)+1 by omega];exact .skip this
def gall (g:GTy):List g.D→Option (List SC)
  | []=>some []
  | x :: l=>match gcells g x 0 g.size,gall g l with
    | some a,some b=>some (a++b)
    | _,_=>none
def setC {α:Type} (i:Nat) (y:α):Nat→List α→List α
  | _,[]=>[]
  | k,x :: l=>cond (Nat.beq i k) y x :: setC i y (k+1) l
theorem setC_eq {α:Type} (y:α):∀ (l:List α) (i k:Nat),setC (i+k) y k l=l.set i y
  | [],_,_=>rfl
  | x :: l,0,k=>by
    show cond (Nat.beq (0+k) k) y x :: setC (0+k) y (k+1) l=y :: l;rw [show Nat.beq (0+k) k=true by rw [Nat.zero_add]; exact Nat.beq_refl k,cond_true]
    congr 1
    have:∀ (l:List α) (i k:Nat),i < k→setC i y k l=l:=by
      intro l
      induction l with
      | nil=>intros; rfl
      | cons x l ih=>
        intro i k h;show cond (Nat.beq i k) y x :: setC i y (k+1) l=_;have hb:Nat.beq i k=false:=by
          cases hb:Nat.beq i k with
          | false=>rfl
          | true=>have:=Nat.eq_of_beq_eq_true hb; omega
        rw [hb,cond_false,ih i (k+1) (by omega)]
    exact this l _ _ (by omega)
  | x :: l,i+1,k=>by
    show cond (Nat.beq (i+1+k) k) y x :: setC (i+1+k) y (k+1) l=x :: l.set i y;have hb:Nat.beq (i+1+k) k=false:=by
      cases hb:Nat.beq (i+1+k) k with
      | false=>rfl
      | true=>have:=Nat.eq_of_beq_eq_true hb; omega
    rw [hb,cond_false,show i+1+k=i+(k+1) by omega,setC_eq y l i (k+1)]
section
variable {env:Nat→Loc} {B:Nat→Prop} {w:World}
theorem CsR.take:∀ {cs:List SC} {vs:List Value} (k:Nat),CsR env B w cs vs→CsR env B w (cs.take k) (vs.take k)
  | _,_,0,_=>rfl
  | [],vs,k+1,h=>by rw [show vs=[] from h]; rfl
  | c :: cs,vs,k+1,⟨v,r,e,h1,h2⟩=>by
    subst e;exact ⟨v,r.take k,rfl,h1,CsR.take k h2⟩
theorem CsR.drop:∀ {cs:List SC} {vs:List Value} (k:Nat),CsR env B w cs vs→CsR env B w (cs.drop k) (vs.drop k)
  | _,_,0,h=>h
  | [],vs,k+1,h=>by rw [show vs=[] from h]; rfl
  | c :: cs,vs,k+1,⟨v,r,e,h1,h2⟩=>by
    subst e;exact CsR.drop k h2
theorem CsR.app:∀ {cs ds:List SC} {vs us:List Value},CsR env B w cs vs→CsR env B w ds us→CsR env B w (cs++ds) (vs++us)
  | [],_,vs,_,h,h2=>by rw [show vs=[] from h]; exact h2
  | c :: cs,_,vs,_,⟨v,r,e,h1,h2⟩,h3=>by
    subst e;exact ⟨v,_,rfl,h1,CsR.app h2 h3⟩
theorem FR.all {g:GTy} {x:g.D} {vs:List Value} {cs:List SC} (hf:FR B w g x vs) (hg:gcells g x 0 g.size=some cs):CsR env B w cs vs:=by
  obtain ⟨us,⟨hl,hp⟩,h3⟩:=FR.cells (env:=env) hf hg;have hvl:=FR.length hf;have hus:us=vs:=by
    apply List.ext_getElem?
    intro j;cases hj:us[j]? with
    | some u=>
      have:=hp j u hj
      rw [Nat.zero_add] at this;exact this.symm
    | none=>
      rw [List.getElem?_eq_none_iff] at hj;exact (List.getElem?_eq_none_iff.2 (by omega)).symm
  subst hus;exact h3
theorem Flat.all {g:GTy}:∀ {l:List g.D} {vs:List Value} {cs:List SC},Flat (FR B w g) l vs→gall g l=some cs→CsR env B w cs vs
  | [],vs,cs,h,hg=>by cases hg; exact h
  | x :: l,vs,cs,⟨v1,v2,e,h1,h2⟩,hg=>by
    simp only [gall] at hg
    split at hg
    · rename_i a b ha hb
      cases hg;subst e;exact (FR.all h1 ha).app (Flat.all h2 hb)
    · cases hg
end
def GTy.isPair:GTy→Bool
  | .pair _ _=>true
  | _=>false
theorem VD.of_FR {B:Nat→Prop} {w:World} {g:GTy} {x:g.D} {vs:List Value} (h:FR B w g x vs) (hp:g.isPair=true):VD B w g x (.agg vs.toArray):=by
  cases g with
  | pair a b=>exact ⟨vs,rfl,h⟩
  | _=>cases hp
theorem VD.of_FR1 {B:Nat→Prop} {w:World} {g:GTy} {x:g.D} {v:Value} (h:FR B w g x [v]) (hp:g.isPair=false):VD B w g x v:=by
  cases g with
  | pair a b=>cases hp
  | _=>exact h
section
variable {X:Cx} {M:Bool} {n:Nat} {r:Option Nat} {st:ASt} {Q:Exit→ASt→Prop} {ops rest:List Oper} {o:Oper} {d:Nat}
theorem al_loadX (g:GTy) (p m:Nat) (z:Int) (hX:X.tt.ok X.P) {t T:TypeId} {te:TE} {x:Operand} {id:Nat} {cs r':List SC} {l:List g.D} {g1 c:Bool} {sa:SA} (hop:o.op=.load t x) (ho:o.guard=none∧o.dst=some d) (hd:Nat.blt d n=true)
    (ht:X.tt.find t=some te) (hsz:Nat.beq g.size te.ti.size=true) (hag:yp te.ti.desc=g.isPair) (hone:(g.isPair || Nat.beq g.size 1)=true) (hx:ae X st.L x=some (g1,.c (.ptr id (p+z.toNat * g.size)))) (hg1:g1=true) (hlk:lk st.H id=some (.cells T cs))
    (hdec:decs g m (cs.drop p)=some (c,l,r')) (hc:c=true) (hz:zi z m=true) (hsa:vSA g (l.getD z.toNat g.zero)=some sa)
    (hnext:AL X M n r ops rest ⟨(d,.a sa) :: st.L,st.H⟩ Q):AL X M n r ops (o :: rest) st Q:=by
  rintro R W Bi a w ⟨ks,env,B,w0,H,hM,hA⟩;obtain ⟨vx,h1,b,hb,rfl⟩:=hA.ev hx hg1;obtain ⟨ck,K,⟨b',vs,hb',rfl,hcs⟩,hfoc⟩:=hA.heap.foc hlk;rw [hb] at hb';cases hb';obtain ⟨hl,v1,v2,hv,hfl,_⟩:=decs_ok (hcs.drop p) hdec hc;obtain ⟨j,rfl,hj,hjn⟩:=inB_ok hz;rw [Int.toNat_natCast] at h1 hsa;have hxl:l[j]?=some (l.getD j g.zero):=by rw [List.getD_eq_getElem?_getD,List.getElem?_eq_getElem (by omega)]; rfl
  have h2:=Flat.get (fun _ _=>FR.length) hfl hxl;have hlen:=FR.length h2;have hcell:∀ q u,((v1.drop (j * g.size)).take g.size)[q]?=some u→w.cell? ⟨b,p+j * g.size+q,none⟩=some u:=fun q u hq=>by
    rw [cel_cell hA.sh hfoc.more];rw [List.getElem?_take] at hq
    split at hq
    · rw [List.getElem?_drop] at hq
      have h3:(vs.drop p)[j * g.size+q]?=some u:=by
        rw [hv,List.getElem?_append_left (List.getElem?_eq_some_iff.1 hq).1];exact hq
      rw [List.getElem?_drop] at h3;rw [Nat.add_assoc];exact h3
    · cases hq
  have hi:=(TT.get hX ht).ti;have hsz':=Nat.eq_of_beq_eq_true hsz;have hfin:∃ v,(execOp a.eval o).run X.P w=.ok (.value v) w∧VD B w0 g (l.getD j g.zero) v:=by
    cases hp:g.isPair with
    | true=>exact ⟨_,run_loadN hA.stt hop hi (by rw [hag,hp]) h1 (by rw [hlen,hsz']) hcell,VD.of_FR h2 hp⟩
    | false=>
      rw [hp,Bool.false_or] at hone;have h1s:=Nat.eq_of_beq_eq_true hone;obtain ⟨v,hv1⟩:∃ v,(v1.drop (j * g.size)).take g.size=[v]:=by
        match hm:(v1.drop (j * g.size)).take g.size,hlen with
        | [v],_=>exact ⟨v,rfl⟩
        | [],h=>simp [h1s] at h
        | _ :: _ :: _,h=>simp [h1s] at h
      rw [hv1] at hcell h2
      have:=hcell 0 v rfl
      rw [Nat.add_zero] at this;exact ⟨v,yJ hA.stt hop hi (by rw [hag,hp]) h1 this,VD.of_FR1 h2 hp⟩
  obtain ⟨v,hrun,hvd⟩:=hfin;refine qE (xg hA.stt ho.1 ho.2 (zA hd) (v:=v) (w':=w) hrun fun a' hS=>?_);exact hnext R W Bi a' _ ⟨ks,env,B,w0,H,hM,hA.set (sv:=.a sa) (hvd.sa hsa) hS⟩
theorem al_storeX (g:GTy) (p m:Nat) (z:Int) (hpos:Nat.blt 0 g.size=true) (hX:X.tt.ok X.P) {t T:TypeId} {te:TE} {x y:Operand} {id:Nat} {cs r':List SC} {l:List g.D} {g1 g2 c c2:Bool} {sy:SA} {xv:g.D} {cs':List SC} (hop:o.op=.store t x y) (ho:o.guard=none∧o.dst=none)
    (ht:X.tt.find t=some te) (hsz:Nat.beq g.size te.ti.size=true) (hx:ae X st.L x=some (g1,.c (.ptr id (p+z.toNat * g.size)))) (hg1:g1=true) (hy:ae X st.L y=some (g2,sy)) (hg2:g2=true) (hlk:lk st.H id=some (.cells T cs))
    (hdec:decs g m (cs.drop p)=some (c,l,r')) (hc:c=true) (hz:zi z m=true) (hdy:dec g sy.cells=some (c2,xv,[])) (hc2:c2=true) (hsh:sShape g sy=true) (hlive:lives sy.cells=true) (hnew:gall g (setC z.toNat xv 0 l)=some cs')
    (hnext:AL X M n r ops rest ⟨st.L,putH id (.cells T (cs.take p++(cs'++r'))) st.H⟩ Q):AL X M n r ops (o :: rest) st Q:=by
  rintro R W Bi a w ⟨ks,env,B,w0,H,hM,hA⟩;obtain ⟨vx,h1,b,hb,rfl⟩:=hA.ev hx hg1;obtain ⟨vy,hvy,hry⟩:=hA.ev hy hg2;obtain ⟨ck,K,⟨b',vs,hb',rfl,hcs⟩,hfoc,hset⟩:=hA.setBlk (b':=.cells T (cs.take p++(cs'++r'))) hlk;rw [hb] at hb';cases hb';obtain ⟨hl,v1,v2,hv,hfl,hr'⟩:=decs_ok (hcs.drop p) hdec hc;obtain ⟨j,rfl,hj,hjn⟩:=inB_ok hz;rw [Int.toNat_natCast] at h1 hnew;have hcy:CsR env B w0 sy.cells vy.cells.toList:=hry.cells fun c e=>by
    subst e;simp only [SA.cells,lives,Bool.and_true] at hlive;exact CR.one hlive hry
  have hone:=hcy.ones hlive;obtain ⟨u1,u2,hu,hfu,hu2⟩:=dec_ok hcy hdy hc2;have hu2':u2=[]:=hu2;subst hu2';rw [List.append_nil] at hu;rw [← hu] at hfu;have hul:=FR.length hfu;have hsz':=Nat.eq_of_beq_eq_true hsz;have hi:=(TT.get hX ht).ti;have hflat:=Flat.set (fun _ _=>FR.length) hfl (by omega:j < l.length) hfu;have hvl:=FR.flat_length hfl;have hjs:(j+1) * g.size≤l.length * g.size:=Nat.mul_le_mul_right _ (by omega);rw [Nat.add_mul,Nat.one_mul] at hjs;have hvs:vs=vs.take p++(v1++v2):=by rw [← hv,List.take_append_drop]
  have hset':=setC_eq xv l j 0;rw [Nat.add_zero] at hset';rw [hset'] at hnew;have hnewR:=Flat.all (env:=env) hflat hnew;have hdl:=congrArg List.length hv;rw [List.length_drop,List.length_append] at hdl;have hpos':=zA hpos;have hle:p+j * g.size+vy.cells.toList.length≤vs.length:=by rw [hul]; omega
  refine qE (run_store_cel hA.sym hop ho hi h1 hvy (by rw [← hsz',← hul]; simp) hone hfoc (PutAt.mk' hle) fun a' w' hY=>?_);obtain ⟨A,hA1⟩:∃ A,A=vs.take p:=⟨_,rfl⟩
  have hAl:A.length=p:=by rw [hA1,List.length_take]; omega
  have e1:vs.take (p+j * g.size)=A++v1.take (j * g.size):=by
    rw [hvs,← hA1,List.take_append,hAl,List.take_of_length_le (by omega),show p+j * g.size - p=j * g.size by omega,List.take_append_of_le_length (by omega)]
  have e2:vs.drop (p+j * g.size+vy.cells.toList.length)=v1.drop (j * g.size+g.size)++v2:=by
    rw [hvs,← hA1,hul,List.drop_append,hAl,List.drop_of_length_le (by omega),List.nil_append,show p+j * g.size+g.size - p=j * g.size+g.size by omega,List.drop_append_of_le_length (by omega)]
  obtain ⟨H',h3⟩:=hset _ a' w' ⟨b,_,hb,rfl,by
    rw [e1,e2]
    have:=(CsR.take p hcs).app (hnewR.app hr')
    rw [← hA1] at this
    simpa only [List.append_assoc] using this⟩ hY.sh hY.st
  exact hnext R W Bi a' _ ⟨ks,env,B,w0,H',hM,h3⟩
theorem yK (hX:X.tt.ok X.P) {t kt et:TypeId} {te ke:TE} {k:IntKind} {gv:GTy} {u x y:Operand} {id:Nat} {l:List (Int×gv.D)} {om:Option (List MapEntry×Nat)} {z:Int} {g g2 c:Bool} {sy:SA} {xv:gv.D} (hop:o.op=.insert t u x y) (ho:o.guard=none∧o.dst=none)
    (ht:X.tt.find t=some te) (hte:te.ti.desc=.map kt et) (hk:X.tt.find kt=some ke) (hke:ke.ti.desc=.int k)
    (hu:ae X st.L u=some (true,.c (.mref id))) (hx:ae X st.L x=some (g,.c (.val (.int k z)))) (hg:g=true) (hy:ae X st.L y=some (g2,sy)) (hg2:g2=true) (hlk:lk st.H id=some (.mp (.int k) gv l om))
    (hdec:dec gv sy.cells=some (c,xv,[])) (hc:c=true) (hsh:sShape gv sy=true)
    (hnext:AL X M n r ops rest ⟨st.L,putH id (.mp (.int k) gv (mset (.int k) gv l z xv) none) st.H⟩ Q):AL X M n r ops (o :: rest) st Q:=by
  rintro R W Bi a w ⟨ks,env,B,w0,H,hM,hA⟩;obtain ⟨vu,h1,b,hb,rfl⟩:=hA.ev hu rfl;obtain ⟨vx,h2,h3⟩:=hA.ev hx hg;rw [show vx=_ from h3] at h2;obtain ⟨vy,h4,h5⟩:=hA.ev hy hg2;have hvd:VD B w0 gv xv vy:=VD.ofSA hdec hc hsh h5;obtain ⟨ck,K,⟨b',es,clock,hb',rfl,hmr,hst,_⟩,hfoc,hset⟩:=hA.setBlk (b':=.mp (.int k) gv (mset (.int k) gv l z xv) none) hlk;rw [hb] at hb';cases hb';have hob:=(hA.sh.ok _ hfoc.mem).2;have e1:=(TT.get hX ht).ti.1;rw [hte] at e1;have e3:=(TT.get hX hk).ti.1;rw [hke] at e3;have hfin:∃ es' clock',(Instr.mapUpdate t (.map (some b)) (.int k z) vy).run X.P w=.ok () { w with heap:=w.heap.setIfInBounds b (.map es'.toArray clock') }∧MR B w0 (.int k) gv (mset (.int k) gv l z xv) es'∧Stamped es' clock':=by
    unfold Instr.mapUpdate;rw [show (10000:Nat)=9999+1 from rfl];simp only [Sem.run_bind,run_underlying e1,Result.andThen_ok,MapKept.run_getObj_map hob,run_checkKey_int e3]
    rcases hmr.setInt hvd (z:=z) 0 with ⟨h6,h7⟩ | ⟨j,v,e,h6,h7,h8,h9⟩
    · refine ⟨es++[MapEntry.mk (.int k z) vy clock],clock+1,?_,?_,?_⟩
      · simp only [MapKept.run_findKey e3 h6,Result.andThen_ok,MapKept.run_setObj_map _ hob]
        simp
      · rw [h7]
        have hk1:VD B w0 (.int k) z (.int k z):=show [Value.int k z]=[Value.int k z] from rfl
        exact MR.snoc (gk:=.int k) (x:=(z,xv)) (e:=MapEntry.mk (.int k z) vy clock) hk1 hvd hmr
      · refine ⟨?_,?_⟩
        · rw [List.map_append,List.pairwise_append]
          exact ⟨hst.1,by simp,fun p hp q hq=>by simp at hq; subst hq; exact hst.2 p hp⟩
        · intro p hp
          rw [List.map_append,List.mem_append] at hp
          rcases hp with hp | hp
          · exact Nat.lt_succ_of_lt (hst.2 p hp)
          · simp at hp; omega
    · refine ⟨es.modify j fun e=>{ e with key:=.int k z,val:=vy },clock,?_,h9,?_⟩
      · rw [Nat.zero_add] at h6
        have hkeep:(Instr.keyThatStays (((es.toArray[j]?).map (·.key)).getD (.int k z)) (.int k z)).run X.P w=.ok (.int k z) w:=by
          have:((es.toArray[j]?).map (·.key)).getD (.int k z)=.int k z:=by simp [h7,h8]
          rw [this]
          simp [Instr.keyThatStays,Instr.sameBits]
        simp only [MapKept.run_findKey e3 h6,Result.andThen_ok,Sem.run_bind,hkeep,MapKept.run_setObj_map _ hob]
        simp
      · rw [Stamped,modify_map (f:=fun e=>{ e with key:=.int k z,val:=vy }) (fun _=>rfl)]
        exact hst
  obtain ⟨es',clock',hrun,hmr',hst'⟩:=hfin;refine qE (x_skip hA.stt ho.1 ho.2 (w':={ w with heap:=w.heap.setIfInBounds b (.map es'.toArray clock') }) ?_ fun a' hS=>?_)
  · simp [execOp,hop,hA.stt.ev h1,hA.stt.ev h2,hA.stt.ev h4,hrun]
  · obtain ⟨H',h10⟩:=hset _ a' _ ⟨b,es',clock',hb,rfl,hmr',hst',fun _ h=>by cases h⟩ (hA.sh.setO hfoc) hS
    exact hnext R W Bi a' _ ⟨ks,env,B,w0,H',hM,h10⟩
end
end Go.Proofs.YtihcolehefloeaaDoor

/- Scopes of labels. -/
namespace Go.Proofs.YtihcolehefloeaaDoor
open Go.RowKit
section
variable {P:Program} {b:Frame} {a:Act} {k:List Item} {cs:List Frame} {w:World} {Q:Exit→Act→World→Prop} {F:Fence} {n:Nat}
end
section
variable {X:Cx} {M:Bool} {n:Nat} {r:Option Nat} {st:ASt} {Q:Exit→ASt→Prop} {c:Code}
end
end Go.Proofs.YtihcolehefloeaaDoor

/- Rows of slices, one of which is a row of one's own for a while. -/
namespace Go.Proofs.YtihcolehefloeaaDoor
open Go.RowKit
section
variable {X:Cx} {M:Bool} {n:Nat} {r:Option Nat} {st:ASt} {Q:Exit→ASt→Prop} {ops rest:List Oper} {o:Oper} {d:Nat}
theorem al_storeH (hX:X.tt.ok X.P) {t T T2:TypeId} {te:TE} {x y:Operand} {id d i:Nat} {g g':GTy} {l:List (List g.D)} {l2:List g'.D} {cap cap2:Option Nat} {g1 g2:Bool} (hop:o.op=.store t x y) (ho:o.guard=none∧o.dst=none)
    (ht:X.tt.find t=some te) (hsz:Nat.beq te.ti.size 1=true) (hx:ae X st.L x=some (g1,.c (.elt id 1 i 0))) (hg1:g1=true) (hy:ae X st.L y=some (g2,.c (.sl d))) (hg2:g2=true) (hlk:lk st.H id=some (.row T (.sl g) l cap)) (hlk2:lk st.H d=some (.row T2 g' l2 cap2))
    (hi:decide (i < l.length)=true)
    (hnext:AL X M n r ops rest ⟨st.L,putH id (.hrow T g l cap i d) st.H⟩ Q):AL X M n r ops (o :: rest) st Q:=by
  rintro R W Bi a w ⟨ks,env,B,w0,H,hM,hA⟩;obtain ⟨vx,h1,b,c,m,he,rfl⟩:=hA.ev hx hg1;obtain ⟨vy,hvy,A2,c2,m2,he2,rfl⟩:=hA.ev hy hg2;obtain ⟨ck,K,⟨A,k,xs,he',rfl,hfl,hcap⟩,hf,hset⟩:=hA.setBlk (b':=.hrow T g l cap i d) hlk;rw [he] at he';cases he';have hlt:=of_decide_eq_true hi;have hxl:=FR.flat_length hfl;have hxl':xs.length=l.length:=by rw [hxl]; show l.length * 1=_; omega
  have hi':=(TT.get hX ht).ti;have hs1:=Nat.eq_of_beq_eq_true hsz;refine qE (run_store_row (v:=.slice A2 m2 c2) hA.sym hop ho hi' h1 hvy (by rw [hs1]; rfl) (by intro u hu; simp [Value.cells] at hu; subst hu; rfl) hf (by show i * 1+0+1≤l.length * 1; omega) fun a' w' hY=>?_);obtain ⟨H',h3⟩:=hset _ a' w' ⟨some ⟨b,0,none⟩,c,xs,A2,c2,m2,he,rfl,hfl,hlt,he2,hcap⟩ (by
    have e:xs.take (i * 1+0)++(Value.slice A2 m2 c2).cells.toList++xs.drop (i * 1+0+(Value.slice A2 m2 c2).cells.toList.length)=xs.set i (.slice A2 m2 c2):=by
      rw [List.set_eq_take_append_cons_drop,if_pos (by omega)]
      simp [Value.cells]
    have:=hY.sh
    rw [e] at this;exact this) hY.st
  exact hnext R W Bi a' _ ⟨ks,env,B,w0,H',hM,h3⟩
theorem al_loadH (hX:X.tt.ok X.P) {t T:TypeId} {te:TE} {x:Operand} {id d2 i:Nat} {g:GTy} {l:List (List g.D)} {cap:Option Nat} {g1:Bool} (hop:o.op=.load t x) (ho:o.guard=none∧o.dst=some d) (hd:Nat.blt d n=true)
    (ht:X.tt.find t=some te) (hag:yp te.ti.desc=false) (hx:ae X st.L x=some (g1,.c (.elt id 1 i 0))) (hg1:g1=true) (hlk:lk st.H id=some (.hrow T g l cap i d2))
    (hnext:AL X M n r ops rest ⟨(d,.c (.sl d2)) :: st.L,st.H⟩ Q):AL X M n r ops (o :: rest) st Q:=by
  rintro R W Bi a w ⟨ks,env,B,w0,H,hM,hA⟩;obtain ⟨vx,h1,b,c,m,he,rfl⟩:=hA.ev hx hg1;obtain ⟨ck,K,⟨A,k,ys,A',c',m',he',rfl,hfl,hi,he2,_⟩,hf⟩:=hA.heap.foc hlk;rw [he] at he';cases he';have hyl:=FR.flat_length hfl;have hyl':ys.length=l.length:=by rw [hyl]; show l.length * 1=_; omega
  have hown:Owns w (fun k=>R k∨B k) T 1 (some ⟨b,0,none⟩) c l.length (ys.set i (.slice A' m' c')):=hA.sh.ok _ hf.more.mem;have hcell:w.cell? ⟨b,i * 1+0,none⟩=some (.slice A' m' c'):=by
    rw [hown.cells rfl _ (by omega)]
    simp [List.getElem?_set,hyl',hi]
  refine qE (xg hA.stt ho.1 ho.2 (zA hd) (v:=.slice A' m' c') (w':=w) (yJ hA.stt hop (TT.get hX ht).ti hag h1 hcell) fun a' hS=>?_);exact hnext R W Bi a' _ ⟨ks,env,B,w0,H,hM,hA.set (sv:=.c (.sl d2)) ⟨A',c',m',he2,rfl⟩ hS⟩
end
end Go.Proofs.YtihcolehefloeaaDoor

/- Arrays as values; tables of functions. -/
namespace Go.Proofs.YtihcolehefloeaaDoor
open Go.RowKit
theorem run_indexA {P:Program} {t e:TypeId} {m:Nat} {i':TI} {cs:List Value} {k:IntKind} {j:Nat} {w:World} (ht:P.underlying t=some (.array m e)) (he:TI.ok P e i') (hj:j < m) {v:Value} (hv:(part e cs.toArray (j * i'.size)).run P w=.ok v w):(Instr.index t (.agg cs.toArray) (.int k (j:Int))).run P w=.ok v w:=by
  have h0:(0:Int)≤(j:Int):=Int.natCast_nonneg j;unfold Instr.index;simp only [asIntOf,Sem.run_bind,Sem.run_pure,Result.andThen_ok,run_underlying ht];rw [if_pos ⟨h0,by omega⟩];simp only [Sem.run_bind,TI.run_sizeOf he,Result.andThen_ok,Int.toNat_natCast,hv]
theorem part_elem {P:Program} {e:TypeId} {i':TI} {B:Nat→Prop} {w0 w:World} {g:GTy} {l:List g.D} {vs:List Value} {j:Nat} (he:TI.ok P e i') (hf:Flat (FR B w0 g) l vs) (hj:j < l.length) (hsz:g.size=i'.size) (hag:yp i'.desc=g.isPair) (hone:(g.isPair || Nat.beq g.size 1)=true) :
    ∃ v,(part e vs.toArray (j * i'.size)).run P w=.ok v w∧VD B w0 g (l.getD j g.zero) v:=by
  have hxl:l[j]?=some (l.getD j g.zero):=by rw [List.getD_eq_getElem?_getD,List.getElem?_eq_getElem hj]; rfl
  have h2:=Flat.get (fun _ _=>FR.length) hf hxl;have hlen:=FR.length h2;cases hp:g.isPair with
  | true=>
    refine ⟨.agg (vs.toArray.extract (j * i'.size) (j * i'.size+i'.size)),?_,?_⟩
    · unfold part
      simp [TI.run_isAgg he,hag,hp,TI.run_sizeOf he]
    · have:=VD.of_FR h2 hp
      rw [← hsz];have e1:vs.toArray.extract (j * g.size) (j * g.size+g.size)=((vs.drop (j * g.size)).take g.size).toArray:=by
        apply Array.ext'
        simp [Array.toList_extract,List.extract]
      rw [e1];exact this
  | false=>
    rw [hp,Bool.false_or] at hone;have h1s:=Nat.eq_of_beq_eq_true hone;obtain ⟨v,hv1⟩:∃ v,(vs.drop (j * g.size)).take g.size=[v]:=by
      match hm:(vs.drop (j * g.size)).take g.size,hlen with
      | [v],_=>exact ⟨v,rfl⟩
      | [],h=>simp [h1s] at h
      | _ :: _ :: _,h=>simp [h1s] at h
    have hget:vs[j * i'.size]?=some v:=by
      have:=congrArg (·[0]?) hv1
      rw [← hsz]
      simpa [List.getElem?_take,List.getElem?_drop,h1s] using this
    refine ⟨v,?_,VD.of_FR1 (by rw [← hv1]; exact h2) hp⟩;unfold part
    simp [TI.run_isAgg he,hag,hp,hget]
def arrL (g:GTy) (m:Nat):SA→Option (Bool×List g.D)
  | .agg cs=>match decs g m cs with
    | some (c,l,[])=>some (c,l)
    | _=>none
  | .arr g' l=>match decEq g' g with
    | isTrue h=>some (true,h ▸ l)
    | isFalse _=>none
  | _=>none
theorem arrL_ok {env:Nat→Loc} {B:Nat→Prop} {w:World} {g:GTy} {m:Nat} {x:SA} {c:Bool} {l:List g.D} {v:Value} (h:SaR env B w x v) (ha:arrL g m x=some (c,l)) (hc:c=true):∃ vs,v=.agg vs.toArray∧Flat (FR B w g) l vs:=by
  unfold arrL at ha
  split at ha
  · split at ha
    · rename_i c' l' hd
      cases ha;obtain ⟨vs,rfl,h1⟩:=h;obtain ⟨_,v1,v2,e,h2,h3⟩:=decs_ok h1 hd hc;have h4:v2=[]:=h3;rw [h4,List.append_nil] at e;subst e;exact ⟨_,rfl,h2⟩
    · cases ha
  · split at ha
    · rename_i hg _
      subst hg;cases ha;exact h
    · cases ha
  · cases ha
section
variable {X:Cx} {M:Bool} {n:Nat} {r:Option Nat} {st:ASt} {Q:Exit→ASt→Prop} {ops rest:List Oper} {o:Oper} {d:Nat}
theorem al_idxA (g:GTy) (m:Nat) (z:Int) (hX:X.tt.ok X.P) {t e:TypeId} {te ee:TE} {u x:Operand} {ux:SA} {k:IntKind} {l:List g.D} {g1 g2 c:Bool} {sa:SA} (hop:o.op=.index t u x) (ho:o.guard=none∧o.dst=some d) (hd:Nat.blt d n=true)
    (ht:X.tt.find t=some te) (hte:te.ti.desc=.array m e) (he:X.tt.find e=some ee) (hsz:Nat.beq g.size ee.ti.size=true) (hag:yp ee.ti.desc=g.isPair) (hone:(g.isPair || Nat.beq g.size 1)=true) (hu:ae X st.L u=some (g1,ux)) (hg1:g1=true)
    (hx:ae X st.L x=some (g2,.c (.val (.int k z)))) (hg2:g2=true) (ha:arrL g m ux=some (c,l)) (hc:c=true) (hz:zi z m=true) (hz2:zi z l.length=true) (hsa:vSA g (l.getD z.toNat g.zero)=some sa)
    (hnext:AL X M n r ops rest ⟨(d,.a sa) :: st.L,st.H⟩ Q):AL X M n r ops (o :: rest) st Q:=by
  rintro R W Bi a w ⟨ks,env,B,w0,H,hM,hA⟩;obtain ⟨vu,h1,h2⟩:=hA.ev hu hg1;obtain ⟨vs,rfl,hfl⟩:=arrL_ok h2 ha hc;obtain ⟨vx,h3,h4⟩:=hA.ev hx hg2;rw [show vx=_ from h4] at h3;obtain ⟨j,rfl,hj,_⟩:=inB_ok hz;obtain ⟨j',hjj,hj',_⟩:=inB_ok hz2;have hjl:j < l.length:=by omega
  rw [Int.toNat_natCast] at hsa;have e1:=(TT.get hX ht).ti.1;rw [hte] at e1;obtain ⟨v,hv,hvd⟩:=part_elem (w:=w) (TT.get hX he).ti hfl hjl (Nat.eq_of_beq_eq_true hsz) hag hone;have hrun:=run_indexA (k:=k) e1 (TT.get hX he).ti hj hv;refine qE (xg hA.stt ho.1 ho.2 (zA hd) (v:=v) (w':=w) (by simp [execOp,hop,hA.stt.ev h1,hA.stt.ev h3,hrun]) fun a' hS=>?_);exact hnext R W Bi a' _ ⟨ks,env,B,w0,H,hM,hA.set (sv:=.a sa) (hvd.sa hsa) hS⟩
theorem al_loadA (hX:X.tt.ok X.P) {t T e:TypeId} {te:TE} {x:Operand} {id m sz:Nat} {g:GTy} {l:List g.D} {cap:Option Nat} {g1:Bool} (hop:o.op=.load t x) (ho:o.guard=none∧o.dst=some d) (hd:Nat.blt d n=true)
    (ht:X.tt.find t=some te) (hte:te.ti.desc=.array m e) (hx:ae X st.L x=some (g1,.c (.elt id sz 0 0))) (hg1:g1=true) (hlk:lk st.H id=some (.row T g l cap)) (hsz:Nat.beq te.ti.size (m * g.size)=true) (hl:decide (l.length=m)=true)
    (hnext:AL X M n r ops rest ⟨(d,.a (.arr g l)) :: st.L,st.H⟩ Q):AL X M n r ops (o :: rest) st Q:=by
  rintro R W Bi a w ⟨ks,env,B,w0,H,hM,hA⟩;obtain ⟨vx,h1,b,c,q,he,rfl⟩:=hA.ev hx hg1;obtain ⟨ck,K,⟨A,k,xs,he',rfl,hfl,_⟩,hf⟩:=hA.heap.foc hlk;rw [he] at he';cases he';have hown:Owns w (fun k=>R k∨B k) T g.size (some ⟨b,0,none⟩) c l.length xs:=hA.sh.ok _ hf.more.mem;have hlen:=FR.flat_length hfl;have hl':=of_decide_eq_true hl;refine qE (xg hA.stt ho.1 ho.2 (zA hd) (v:=.agg xs.toArray) (w':=w) (run_loadN hA.stt hop (TT.get hX ht).ti (by rw [hte]; rfl) h1 (by rw [hlen,hl',Nat.eq_of_beq_eq_true hsz]) fun j v hj=>?_) fun a' hS=>?_)
  · rw [show 0 * sz+0+j=j by omega,hown.cells rfl _ (by rw [← hlen]; exact (List.getElem?_eq_some_iff.1 hj).1)]
    exact hj
  · exact hnext R W Bi a' _ ⟨ks,env,B,w0,H,hM,hA.set (sv:=.a (.arr g l)) ⟨xs,rfl,hfl⟩ hS⟩
theorem al_loadP (hX:X.tt.ok X.P) {t e:TypeId} {te:TE} {x:Operand} {m:Nat} {g:GTy} {l:List g.D} {g1:Bool} (hop:o.op=.load t x) (ho:o.guard=none∧o.dst=some d) (hd:Nat.blt d n=true)
    (ht:X.tt.find t=some te) (hte:te.ti.desc=.array m e) (hx:ae X st.L x=some (g1,.c (.par g l))) (hg1:g1=true) (hsz:Nat.beq te.ti.size (m * g.size)=true) (hl:decide (l.length=m)=true)
    (hnext:AL X M n r ops rest ⟨(d,.a (.arr g l)) :: st.L,st.H⟩ Q):AL X M n r ops (o :: rest) st Q:=by
  rintro R W Bi a w ⟨ks,env,B,w0,H,hM,hA⟩;obtain ⟨vx,h1,b,p,vs,rfl,hb,hfl,hcell⟩:=hA.ev hx hg1;have hlen:=FR.flat_length hfl;have hl':=of_decide_eq_true hl;refine qE (xg hA.stt ho.1 ho.2 (zA hd) (v:=.agg vs.toArray) (w':=w) (run_loadN hA.stt hop (TT.get hX ht).ti (by rw [hte]; rfl) h1 (by rw [hlen,hl',Nat.eq_of_beq_eq_true hsz]) fun j v hj=>frozen_cell hb (hcell j v hj) hA.sh) fun a' hS=>?_);exact hnext R W Bi a' _ ⟨ks,env,B,w0,H,hM,hA.set (sv:=.a (.arr g l)) ⟨vs,rfl,hfl⟩ hS⟩
end
end Go.Proofs.YtihcolehefloeaaDoor

/- Strings: out of bytes, parts. -/
namespace Go.Proofs.YtihcolehefloeaaDoor
open Go.RowKit
def bsOf (l:List Int):List UInt8:=l.map fun z=>UInt8.ofNat z.toNat
def isBs (l:List Int):Bool:=l.all fun z=>decide (0≤z)&&decide (z < 256)
theorem by_back:∀ l:List Int,isBs l=true→(bsOf l).map (fun c=>Value.int .u8 (c.toNat:Int))=l.map fun z=>Value.int .u8 z
  | [],_=>rfl
  | z :: l,h=>by
    simp only [isBs,List.all_cons,Bool.and_eq_true,decide_eq_true_eq] at h;show Value.int .u8 (((UInt8.ofNat z.toNat).toNat:Nat):Int) :: (bsOf l).map _=_;rw [by_back l h.2,List.map_cons]
    congr 2
    have:(UInt8.ofNat z.toNat).toNat=z.toNat:=UInt8.toNat_ofNat_of_lt' (by show z.toNat < 256; omega)
    rw [this,Int.toNat_of_nonneg h.1.1]
theorem strV_extract (s:List UInt8) (a b:Nat):Value.string ((ByteArray.mk s.toArray).extract a b)=xI ((s.take b).drop a):=by
  unfold xI
  congr 1
  apply ByteArray.ext
  rw [ByteArray.data_extract]
  apply Array.ext'
  simp [Array.toList_extract,List.extract,List.drop_take]
section
variable {X:Cx} {M:Bool} {n:Nat} {r:Option Nat} {st:ASt} {Q:Exit→ASt→Prop} {ops rest:List Oper} {o:Oper} {d:Nat}
theorem al_strOf (hX:X.tt.ok X.P) {t t' e:TypeId} {te te' ee:TE} {u:Operand} {ux:SA} {l:List Int} {g:Bool} (hop:o.op=.convert t t' u) (ho:o.guard=none∧o.dst=some d) (hd:Nat.blt d n=true)
    (ht:X.tt.find t=some te) (hte:te.ti.desc=.slice e) (ht':X.tt.find t'=some te') (hte':te'.ti.desc=.string) (he:X.tt.find e=some ee) (hee:ee.ti.desc=.int .u8)
    (hu:ae X st.L u=some (g,ux)) (hg:g=true) (hs:srcL st (.int .u8) ux=some l) (hb:isBs l=true)
    (hnext:AL X M n r ops rest ⟨(d,.c (.str (bsOf l))) :: st.L,st.H⟩ Q):AL X M n r ops (o :: rest) st Q:=by
  rintro R W Bi a w ⟨ks,env,B,w0,H,hM,hA⟩;obtain ⟨vu,h1,h2⟩:=hA.ev hu hg;obtain ⟨A,c,xs,rfl,hfl,hr⟩:=srcL_ok hA hs h2;obtain ⟨T,hT,q1,q2,q3⟩:=tab3 (TT.get hX ht).ti (TT.get hX ht').ti (TT.get hX he).ti;rw [flat_ints hfl,← by_back l hb] at hr;have hlen:(bsOf l).length=l.length:=by simp [bsOf]
  rw [← hlen] at h1 hr;refine qE (xg hA.stt ho.1 ho.2 (zA hd) (v:=xI (bsOf l)) (w':=w) (v_str hA.stt hop hT q1 q2 hte hte' q3 hee h1 w hr) fun a' hS=>?_);exact hnext R W Bi a' _ ⟨ks,env,B,w0,H,hM,hA.set (sv:=.c (.str (bsOf l))) rfl hS⟩
theorem run_sliceS {P:Program} {t:TypeId} {s:List UInt8} {w:World} (ht:P.underlying t=some .string) {lo hi:Option Value} {a b:Nat} (h:(Instr.sliceBounds false s.length s.length lo hi none).run P w=.ok (a,b,s.length) w):(Instr.sliceAt t (xI s) lo hi none).run P w=.ok (xI ((s.take b).drop a)) w:=by
  have hsz:(ByteArray.mk s.toArray).size=s.length:=by simp [ByteArray.size]
  unfold Instr.sliceAt Instr.slice;simp only [xI,Sem.run_bind,run_underlying ht,Result.andThen_ok,hsz,h,Option.isSome_none,Bool.false_eq_true,if_false,Sem.run_pure]
  have:=strV_extract s a b
  simp only [xI] at this;rw [this]
theorem al_sliceSf (hX:X.tt.ok X.P) {t:TypeId} {te:TE} {u x:Operand} {s:List UInt8} {k:IntKind} {z:Int} {g g2:Bool} (hop:o.op=.slice t u (some x) none none) (ho:o.guard=none∧o.dst=some d) (hd:Nat.blt d n=true)
    (ht:X.tt.find t=some te) (hte:te.ti.desc=.string) (hu:ae X st.L u=some (g,.c (.str s))) (hg:g=true) (hx:ae X st.L x=some (g2,.c (.val (.int k z)))) (hg2:g2=true) (h0:decide (0≤z)=true) (h1:decide (z≤(s.length:Int))=true)
    (hnext:AL X M n r ops rest ⟨(d,.c (.str (s.drop z.toNat))) :: st.L,st.H⟩ Q):AL X M n r ops (o :: rest) st Q:=by
  rintro R W Bi a w ⟨ks,env,B,w0,H,hM,hA⟩;obtain ⟨vu,q1,q2⟩:=hA.ev hu hg;rw [show vu=xI s from q2] at q1;obtain ⟨vx,q3,q4⟩:=hA.ev hx hg2;rw [show vx=_ from q4] at q3;have e1:=(TT.get hX ht).ti.1;rw [hte] at e1;have h0':=of_decide_eq_true h0;have h1':=of_decide_eq_true h1;have hrun:=run_sliceS (w:=w) (s:=s) (lo:=some (.int k z)) (hi:=none) (a:=z.toNat) (b:=s.length) e1 (by simp [Instr.sliceBounds,Instr.sliceBound,asIntOf,h0',h1']);rw [List.take_length] at hrun;refine qE (xg hA.stt ho.1 ho.2 (zA hd) (v:=xI (s.drop z.toNat)) (w':=w) (by simp [execOp,hop,hA.stt.ev q1,hA.stt.ev q3,hrun]) fun a' hS=>?_);exact hnext R W Bi a' _ ⟨ks,env,B,w0,H,hM,hA.set (sv:=.c (.str (s.drop z.toNat))) rfl hS⟩
theorem al_sliceSm (hX:X.tt.ok X.P) {t:TypeId} {te:TE} {u x y:Operand} {s:List UInt8} {k k2:IntKind} {z z2:Int} {g g2 g3:Bool} (hop:o.op=.slice t u (some x) (some y) none) (ho:o.guard=none∧o.dst=some d) (hd:Nat.blt d n=true)
    (ht:X.tt.find t=some te) (hte:te.ti.desc=.string) (hu:ae X st.L u=some (g,.c (.str s))) (hg:g=true) (hx:ae X st.L x=some (g2,.c (.val (.int k z)))) (hg2:g2=true) (hy:ae X st.L y=some (g3,.c (.val (.int k2 z2)))) (hg3:g3=true) (h0:decide (0≤z)=true) (h1:decide (z≤z2)=true) (h2:decide (z2≤(s.length:Int))=true)
    (hnext:AL X M n r ops rest ⟨(d,.c (.str ((s.take z2.toNat).drop z.toNat))) :: st.L,st.H⟩ Q):AL X M n r ops (o :: rest) st Q:=by
  rintro R W Bi a w ⟨ks,env,B,w0,H,hM,hA⟩;obtain ⟨vu,q1,q2⟩:=hA.ev hu hg;rw [show vu=xI s from q2] at q1;obtain ⟨vx,q3,q4⟩:=hA.ev hx hg2;rw [show vx=_ from q4] at q3;obtain ⟨vy,q5,q6⟩:=hA.ev hy hg3;rw [show vy=_ from q6] at q5;have e1:=(TT.get hX ht).ti.1;rw [hte] at e1;have h0':=of_decide_eq_true h0;have h1':=of_decide_eq_true h1;have h2':=of_decide_eq_true h2;have h3':0≤z2:=by omega
  have h4':z≤(z2.toNat:Int):=by omega
  have hrun:=run_sliceS (w:=w) (s:=s) (lo:=some (.int k z)) (hi:=some (.int k2 z2)) (a:=z.toNat) (b:=z2.toNat) e1 (by
    have h5':z≤max z2 0:=by omega
    simp [Instr.sliceBounds,Instr.sliceBound,asIntOf,h0',h2',h3',h5'])
  refine qE (xg hA.stt ho.1 ho.2 (zA hd) (v:=xI ((s.take z2.toNat).drop z.toNat)) (w':=w) (by simp [execOp,hop,hA.stt.ev q1,hA.stt.ev q3,hA.stt.ev q5,hrun]) fun a' hS=>?_);exact hnext R W Bi a' _ ⟨ks,env,B,w0,H,hM,hA.set (sv:=.c (.str ((s.take z2.toNat).drop z.toNat))) rfl hS⟩
end
end Go.Proofs.YtihcolehefloeaaDoor

/- append to slices that are full: rows that are one's own, or frozen as a whole. -/
namespace Go.Proofs.YtihcolehefloeaaDoor
open Go.RowKit
section
variable {P:Program} {o:Oper} {n d:Nat} {D:List Deferred} {L:List (Nat×Value)} {a:Act} {w w0:World} {B:Nat→Prop} {H:List Ck} {T:List (TypeId×TI)} {ops:Array Oper} {KK:Act→World→Prop}
theorem y_append_full {s x:Operand} {t e:TypeId} {i i':TI} {A A2:Option Addr} {k m cc:Nat} {xs news:List Value} (hX:Sym n D L B w0 H a w)
    (hop:o.op=.call { callee:=.builtin .append,args:=#[s,x],argTypes:=#[t,t] }) (ho:o.guard=none∧o.dst=some d) (hd:Nat.blt d n=true)
    (hT:TabOk P T) (h1:T.lookup t=some i) (h2:i.desc=.slice e) (h3:T.lookup e=some i') (h4:Nat.blt 0 i'.size=true) (h5:i'.zero.cells.size=i'.size) (hs:ev L s=some (.slice A k k)) (hx:ev L x=some (.slice A2 m cc))
    (hr1:Reads w A k i'.size xs) (hr:Reads w A2 m i'.size news) (hone:∀ u∈news,u.oneCell'=true) (hb1:(k+m) * i'.bytes≤140737488355328) (hb2:k+m≤140737488355328)
    (hz:m=0→∀ a' w',Sym n D ((d,.slice A k k) :: L) B w0 H a' w'→KK a' w')
    (h:∀ A' c' a' w',Sym n D ((d,.slice A' (k+m) c') :: L) B w0 (.row A' c' e i'.size (k+m) (xs++news) :: H) a' w'→KK a' w'):XO P ops o KK a w:=by
  have e1:=(hT _ _ h1).1;rw [h2] at e1;have e3:=hT _ _ h3
  by_cases hm:m=0
  · subst hm
    have hrun:(execOp a.eval o).run P w=.ok (.value (.slice A k k)) w:=by
      have hrun':(Builtin.append_ #[t,t] o.type #[.slice A k k,.slice A2 0 cc]).run P w=.ok (.slice A k k) w:=by
        have e4:=TI.run_sizeOf e3 w;have hfc:(Builtin.firstCells i'.size 0 (.slice A2 0 cc)).run P w=.ok #[] w:=by
          cases A2 <;> simp [Builtin.firstCells,loadCells,loadCellsFrom]
        simp only [Builtin.append_,Sem.run_bind,run_underlying e1,Result.andThen_ok,e4]
        simp [run_underlying e1,Builtin.lenOf,hfc]
        cases A <;> simp [storeCells,e4,hfc]
      simp [execOp,hop,resolve,invoke,builtin,hX.ev hs,hX.ev hx,hrun']
    exact y_value hX ho hd hrun hX.sh (hz rfl)
  · have hm0:0 < m:=by omega
    cases A with
    | none=>
      have hk:k=0:=by
        by_cases hk:k=0
        · exact hk
        · obtain ⟨b,p,e,_⟩:=hr1.2 (by omega)
          cases e
      subst hk;have hxs:xs=[]:=List.eq_nil_of_length_eq_zero (by rw [hr1.1]; simp);subst hxs;have hsym:Sym n D L B w0 (.row none 0 e i'.size 0 [] :: H) a w:=⟨hX.st,hX.sh.nilRow e i'.size⟩
      exact y_append hsym hop ho hd hT h1 h2 h3 h4 h5 hs hx foc0 hr hone hb1 hb2 h
    | some ad=>
      obtain ⟨inf,hinf,hs1,hs2,hs3⟩:=TI.info e3;obtain ⟨b2,p2,e',hc2⟩:=hr.2 hm0;subst e';have holds:∀ j u,xs[j]?=some u→w.cell? (ad.add j)=some u:=fun j u hu=>by
        have hlt:j < xs.length:=(List.getElem?_eq_some_iff.1 hu).1;rw [hr1.1] at hlt;have hk:0 < k:=by
          rcases Nat.eq_zero_or_pos k with hk | hk
          · rw [hk,Nat.zero_mul] at hlt; omega
          · exact hk
        obtain ⟨b,p,e',hc1⟩:=hr1.2 hk;cases e';rw [Addr.add_lit];exact hc1 j u hu
      have hlen:(xs++news).length=(k+m) * i'.size:=by rw [List.length_append,hr1.1,hr.1,Nat.add_mul]
      have hrun:=run_append_grow (P:=P) w t o.type e inf i'.zero e1 hinf hs3 ad k k xs (by rw [hr1.1,hs1]) holds ⟨b2,p2,none⟩ m cc news (by rw [hr.1,hs1]) (fun j u hu=>by rw [Addr.add_lit]; exact hc2 j u hu) (by omega) (by omega) (growslice_fits (by omega) (by rw [hs2]; exact hb1));have hge:=grownCap_ge w (k+m) k e;have hcm:grownCap w (k+m) k e≤maxLen:=grownCap_le_maxLen w (k+m) k e (by simp only [maxLen]; omega);refine y_value hX ho hd (v:=.slice (some ⟨w.heap.size,0,none⟩) (k+m) (grownCap w (k+m) k e)) (w':=w.drew.alloc (.cells (xs.toArray++news.toArray++Builtin.zeroCells i'.zero.cells (grownCap w (k+m) k e - (k+m))) e)) (by simp [execOp,hop,resolve,invoke,builtin,hX.ev hs,hX.ev hx,hrun]) ?_ (h (some ⟨w.heap.size,0,none⟩) (grownCap w (k+m) k e));have hd1:=hX.sh.drew;have ha:=hd1.alloc (.cells (xs.toArray++news.toArray++Builtin.zeroCells i'.zero.cells (grownCap w (k+m) k e - (k+m))) e);have hp:=List.pairwise_cons.1 ha.apart;refine ⟨ha.below,ha.base,fun ck hck=>?_,List.Pairwise.cons (fun ck hck q e'=>hp.1 ck hck q (by simpa [Ck.at] using e')) hp.2⟩
      rcases List.mem_cons.1 hck with rfl | hck
      · refine ⟨hlen,.inr ⟨w.heap.size,_,(0,0),rfl,hX.sh.fresh,heap_alloc_new w.drew _,.inl rfl,hge,hcm,?_,?_⟩⟩
        · simp only [Array.size_append,List.size_toArray,size_zeroCells,h5,hr1.1,hr.1,← Nat.add_mul]
          congr 1
          omega
        · simp only [Array.toList_append,List.append_assoc]
          rw [← List.append_assoc,← hlen];exact List.take_left
      · exact ha.ok ck (List.mem_cons_of_mem _ hck)
end
section
variable {X:Cx} {M:Bool} {n:Nat} {r:Option Nat} {st:ASt} {Q:Exit→ASt→Prop} {ops rest:List Oper} {o:Oper} {d:Nat}
theorem al_appendL (hX:X.tt.ok X.P) {t e:TypeId} {x y:Operand} {g1 g2:Bool} {sy:SA} {sz bts c:Nat} {ge g:GTy} {l l2:List g.D} {te:TE} {ds:TypeDesc} {zz:Value} (hop:o.op=.call ⟨.builtin .append,⟨[x,y]⟩,⟨[t,t]⟩⟩) (ho:o.guard=none∧o.dst=some d) (hd:Nat.blt d n=true)
    (ht:X.tt.find t=some te) (hte:te.ti.desc=.slice e) (he:X.tt.find e=some ⟨⟨ds,sz,bts,zz⟩,some ge⟩) (hx:ae X st.L x=some (g1,.c (.lst g l (some c)))) (hg:g1=true) (hy:ae X st.L y=some (g2,sy)) (hg':g2=true)
    (hsz:Nat.beq g.size sz=true) (hsrc:srcL st g sy=some l2) (hc:ze bts (l.length+l2.length)=true) (hcl:decide (c=l.length)=true)
    (hnext:AL X M n r ops rest ⟨(d,.c (.sl d)) :: subL d .dead st.L,(d,.lrow e g (l++l2)) :: yj d .dead st.H⟩ Q):AL X M n r ops (o :: rest) st Q:=by
  rintro R W Bi a w ⟨ks,env,B,w0,H,hM,h⟩;obtain ⟨vx,hvx,A,c',xs,rfl,q1,q2,hcap,hfl,hrb⟩:=h.ev hx hg;obtain ⟨vy,hvy,hry⟩:=h.ev hy hg';have e1:=hcap c rfl;have e2:=of_decide_eq_true hcl;have e3:c'=l.length:=e1.trans e2;rw [e3] at hvx q2;obtain ⟨hg1,hg2,hg3⟩:=(TT.get hX he).g ge rfl;obtain ⟨T,hT,h1,h4⟩:=tab2 (TT.get hX ht).ti (TT.get hX he).ti;dsimp only at hg1 hg2 h4;have hzs:zz.cells.size=sz:=by
    have:zz.cells.toList.length=sz:=by rw [hg2,← hg1]; exact FR.length (FR.zeros (B:=B) (w:=w0) ge)
    simpa using this
  have hsz':=Nat.eq_of_beq_eq_true hsz;simp only [ze,Bool.and_eq_true,decide_eq_true_eq] at hc;obtain ⟨A2,c2,xs2,rfl,hfl2,hR2⟩:=srcL_ok h hsrc hry;have hR1:=hrb.old h.sh;rw [hsz'] at hR1 hR2;refine qE (y_append_full h.sym hop ho hd hT h1 hte h4 (by rw [← hg1]; exact Nat.ble_eq_true_of_le hg3) hzs hvx hvy hR1 hR2 (Flat.ones (fun _ _=>FR.ones) hfl2) hc.1 hc.2 (fun hm a' w' hY=>?_) fun A' c' a' w' hY=>?_)
  · have hl2:l2=[]:=List.eq_nil_of_length_eq_zero hm
    subst hl2;obtain ⟨H',_,h8⟩:=h.newBlk (d:=d) hd (l:=.row A l.length (l++[]).length) (c:=.row none 0 e g.size 0 []) (blk:=.lrow e g (l++[])) (sv:=.c (.sl d)) (v:=.slice A l.length l.length) (hY.sh.nilRow e g.size) ⟨A,l.length,zN,.inr ⟨rfl,by simp,q2,xs,by rw [List.append_nil]; exact hfl,by rw [List.append_nil]; exact hrb⟩⟩ ⟨A,l.length,_,zN,by simp⟩ hY.st;exact hnext R W Bi a' w' ⟨ks,_,B,w0,H',hM,h8⟩
  · obtain ⟨H',_,h8⟩:=h.newBlk (d:=d) hd (l:=.row A' c' (l++l2).length) (c:=.row A' c' e g.size (l++l2).length (xs++xs2)) (blk:=.lrow e g (l++l2)) (sv:=.c (.sl d)) (v:=.slice A' (l.length+l2.length) c') (by have:=hY.sh; rw [← hsz'] at this; rw [List.length_append]; exact this) ⟨A',c',zN,.inl ⟨_,rfl,hfl.append hfl2⟩⟩ ⟨A',c',_,zN,by rw [List.length_append]⟩ hY.st
    exact hnext R W Bi a' w' ⟨ks,_,B,w0,H',hM,h8⟩
def StepOk (X:Cx) (n:Nat) (o:Oper) (st st':ASt):Prop:=∀ (R:Nat→Prop) (W:World) (Bi:Bk) (ks:List Nat) (env:Nat→Loc) (B:Nat→Prop) (w0:World) (H:List Ck) (a:Act) (w:World),AI X R W Bi n ks env B w0 H st a w→∀ (KK:Act→World→Prop) (l:List Oper),(∀ a' w' env' H',AI X R W Bi n ks env' B w0 H' st' a' w'→KK a' w')→XO X.P l.toArray o KK a w
theorem al_sk {st':ASt} (hp:StepOk X n o st st') (hnext:AL X M n r ops rest st' Q):AL X M n r ops (o :: rest) st Q:=by
  rintro R W Bi a w ⟨ks,env,B,w0,H,hM,hA⟩;exact qE (hp R W Bi ks env B w0 H a w hA _ _ fun a' w' env' H' hA'=>hnext R W Bi a' w' ⟨ks,env',B,w0,H',hM,hA'⟩)
theorem ado_sk {st':ASt} {E:List Nat} {ds:DS} {fuel i:Nat} {l':Array Bool} (hi:nth ops i=some o) (hp:StepOk X n o st st') (hE:E.elem i=false) (hl:ds.listed.setIfInBounds i true=l')
    (h:AD X M n ops E fuel ⟨l',false,false,ds.nocall⟩ st' Q):ADo X M n ops E fuel ds st Q i:=by
  intro R W Bi B0 w00 CS F ks env B w0 H a w hM hA hD;refine ⟨o,nth_arr hi,hp R W Bi ks env B w0 H a w hA _ _ fun a' w' env' H' hA'=>?_⟩;have hD':=hD.lost (H':=H') (l:=l');rw [hl];exact ⟨⟨fun he=>(by rw [hE] at he; cases he),hD'.F hA'⟩,h R W Bi B0 w00 CS F ks env' B w0 H' a' w' hM hA' hD'⟩
theorem sk_appendR (hX:X.tt.ok X.P) {t e:TypeId} {x y:Operand} {g1 g2:Bool} {sy:SA} {id sz bts:Nat} {ge g:GTy} {l l2:List g.D} {te:TE} {ds:TypeDesc} {zz:Value} (hop:o.op=.call ⟨.builtin .append,⟨[x,y]⟩,⟨[t,t]⟩⟩) (ho:o.guard=none∧o.dst=some d) (hd:(Nat.blt d n&&Nat.blt id qZ)=true)
    (ht:X.tt.find t=some te) (hte:te.ti.desc=.slice e) (he:X.tt.find e=some ⟨⟨ds,sz,bts,zz⟩,some ge⟩) (hx:ae X st.L x=some (g1,.c (.sl id))) (hg:g1=true) (hy:ae X st.L y=some (g2,sy)) (hg':g2=true)
    (hlk:lk st.H id=some (.lrow e g l)) (hsz:Nat.beq g.size sz=true) (hsrc:srcL st g sy=some l2) (hc:ze bts (l.length+l2.length)=true):StepOk X n o st ⟨(d,.c (.sl id)) :: subL id .dead st.L,(id,.lrow e g (l++l2)) :: yj id .dead st.H⟩:=by
  intro R W Bi ks env B w0 H a w h KK lo hnext;obtain ⟨vx,hvx,hrx⟩:=h.ev hx hg;obtain ⟨vy,hvy,hry⟩:=h.ev hy hg';obtain ⟨hg1,hg2,hg3⟩:=(TT.get hX he).g ge rfl;obtain ⟨T,hT,h1,h4⟩:=tab2 (TT.get hX ht).ti (TT.get hX he).ti;dsimp only at hg1 hg2 h4;have hzs:zz.cells.size=sz:=by
    have:zz.cells.toList.length=sz:=by rw [hg2,← hg1]; exact FR.length (FR.zeros (B:=B) (w:=w0) ge)
    simpa using this
  simp only [Bool.and_eq_true] at hd;obtain ⟨hd,hfix⟩:=hd;have hsz':=Nat.eq_of_beq_eq_true hsz;simp only [ze,Bool.and_eq_true,decide_eq_true_eq] at hc;obtain ⟨A2,c2,xs2,rfl,hfl2,hR2⟩:=srcL_ok h hsrc hry;obtain ⟨A,c,m,hen,rfl⟩:=hrx;obtain ⟨ck,K,⟨A',k',hen',hor⟩,hfoc,hturn⟩:=h.turnRow (d:=d) (b':=.lrow e g (l++l2)) hlk (fun q hp=>by
    obtain ⟨_,h5,h6⟩:=h.pin _ _ hp;rw [hen] at h5
    rcases h6 with ⟨b,h6⟩ | h6
    · rw [← h5] at h6; cases h6
    · have:=zA hfix; omega)
  rw [hen] at hen';cases hen';have hp4:Nat.blt 0 sz=true:=by rw [← hg1]; exact Nat.ble_eq_true_of_le hg3
  rcases hor with ⟨xs,rfl,hfl⟩ | ⟨rfl,rfl,q2,xs,hfl,hrb⟩
  · rw [hsz'] at hfoc hR2
    refine y_append h.sym hop ho hd hT h1 hte h4 hp4 hzs hvx hvy hfoc hR2 (Flat.ones (fun _ _=>FR.ones) hfl2) hc.1 hc.2 fun A' c' a' w' hY=>?_
    obtain ⟨H',_,h8⟩:=hturn (.row A' c' (l++l2).length) (.row A' c' e g.size (l++l2).length (xs++xs2)) a' w' (.c (.sl id)) _ ⟨A',c',zN,.inl ⟨_,rfl,hfl.append hfl2⟩⟩ ⟨A',c',_,zN,by rw [List.length_append]⟩ (by rw [hsz',List.length_append]; exact hY.sh) hY.st;exact hnext a' w' _ H' h8
  · have hR1:=hrb.old h.sh
    rw [hsz'] at hR1 hR2;refine y_append_full h.sym hop ho hd hT h1 hte h4 hp4 hzs hvx hvy hR1 hR2 (Flat.ones (fun _ _=>FR.ones) hfl2) hc.1 hc.2 (fun hm a' w' hY=>?_) fun A' c' a' w' hY=>?_
    · have hl2:l2=[]:=List.eq_nil_of_length_eq_zero hm
      subst hl2;obtain ⟨Y,Z,e5,e6⟩:=hfoc;obtain ⟨H',_,h8⟩:=hturn (.row A l.length (l++[]).length) (.row none 0 e g.size 0 []) a' w' (.c (.sl id)) (.slice A l.length l.length) ⟨A,l.length,zN,.inr ⟨rfl,by simp,q2,xs,by rw [List.append_nil]; exact hfl,by rw [List.append_nil]; exact hrb⟩⟩ ⟨A,l.length,_,zN,by simp⟩ (by rw [e6]; dsimp only; rw [← e5]; exact hY.sh) hY.st;exact hnext a' w' _ H' h8
    · obtain ⟨Y,Z,e5,e6⟩:=hfoc
      obtain ⟨H',_,h8⟩:=hturn (.row A' c' (l++l2).length) (.row A' c' e g.size (l++l2).length (xs++xs2)) a' w' (.c (.sl id)) (.slice A' (l.length+l2.length) c') ⟨A',c',zN,.inl ⟨_,rfl,hfl.append hfl2⟩⟩ ⟨A',c',_,zN,by rw [List.length_append]⟩ (by
        have h9:=hY.sh;rw [e5] at h9;rw [e6];dsimp only;have hp:(Ck.row A' c' e sz (l.length+l2.length) (xs++xs2) :: (Y++Ck.row none 0 e g.size 0 [] :: Z)).Perm (Ck.row none 0 e g.size 0 [] :: (Y++Ck.row A' c' e sz (l.length+l2.length) (xs++xs2) :: Z)):=by
          refine (List.Perm.cons _ List.perm_middle).trans<|(List.Perm.swap _ _ _).trans (List.Perm.cons _ List.perm_middle.symm)
        have h10:=(h9.perm hp).weak (List.sublist_cons_self _ _);rw [hsz',List.length_append];exact h10) hY.st
      exact hnext a' w' _ H' h8
theorem xO (hX:X.tt.ok X.P) {t e:TypeId} {x y:Operand} {g1 g2:Bool} {sy:SA} {id sz bts:Nat} {ge g:GTy} {l l2:List g.D} {te:TE} {ds:TypeDesc} {zz:Value} (hop:o.op=.call ⟨.builtin .append,⟨[x,y]⟩,⟨[t,t]⟩⟩) (ho:o.guard=none∧o.dst=some d) (hd:(Nat.blt d n&&Nat.blt id qZ)=true)
    (ht:X.tt.find t=some te) (hte:te.ti.desc=.slice e) (he:X.tt.find e=some ⟨⟨ds,sz,bts,zz⟩,some ge⟩) (hx:ae X st.L x=some (g1,.c (.sl id))) (hg:g1=true) (hy:ae X st.L y=some (g2,sy)) (hg':g2=true)
    (hlk:lk st.H id=some (.lrow e g l)) (hsz:Nat.beq g.size sz=true) (hsrc:srcL st g sy=some l2) (hc:ze bts (l.length+l2.length)=true)
    (hnext:AL X M n r ops rest ⟨(d,.c (.sl id)) :: subL id .dead st.L,(id,.lrow e g (l++l2)) :: yj id .dead st.H⟩ Q):AL X M n r ops (o :: rest) st Q:=
  al_sk (sk_appendR hX hop ho hd ht hte he hx hg hy hg' hlk hsz hsrc hc) hnext
end
section
variable {X:Cx} {n:Nat} {st:ASt}
theorem Wk.row2l (id:Nat) {t:TypeId} {g:GTy} {l:List g.D} {cap:Option Nat} (hs:lk st.H id=some (.row t g l cap)):Wk X n st ⟨st.L,putH id (.lrow t g l) st.H⟩:=fun R W Bi M a w ⟨ks,env,B,w0,H,hM,h⟩=>by
  obtain ⟨ck,K,⟨A,k,xs,he,e,hfl,_⟩,⟨Y,Z,h1,h2⟩,h3⟩:=h.setBlk (b':=.lrow t g l) hs;obtain ⟨H',h4⟩:=h3 ck a w ⟨A,k,he,.inl ⟨xs,e,hfl⟩⟩ (by rw [h2]; dsimp only; rw [← h1]; exact h.sh) h.stt;exact ⟨ks,env,B,w0,H',hM,h4⟩
def frzL (id:Nat) (st:ASt):Option ASt:=
  match lk st.H id with
  | some (.lrow _ g l)=>some ⟨subL id (.lst g l none) st.L,yj id (.lst g l none) st.H⟩
  | _=>none
theorem lk_putH {b b2:Blk} {id:Nat}:∀ {l:Hp},lk l id=some b→lk (putH id b2 l) id=some b2
  | [],h=>by cases h
  | (k,b') :: r,h=>by
    rw [qa] at h;unfold putH
    split
    · rename_i hk
      rw [qa,if_pos (Nat.eq_of_beq_eq_true hk).symm]
    · rename_i hk
      have hne:¬ id=k:=fun e=>by rw [e,Nat.beq_refl] at hk; cases hk
      rw [if_neg hne] at h;rw [qa,if_neg hne];exact lk_putH h
theorem delH_putH {b:Blk} {id:Nat} {z:SC}:∀ {l:Hp} {b2:Blk},lk l id=some b2→yj id z (putH id b l)=yj id z l
  | [],_,h=>by cases h
  | (k,b') :: r,b2,h=>by
    rw [qa] at h;unfold putH;cases hk:Nat.beq k id with
    | true=>simp only [yj,hk]
    | false=>
      have hne:¬ id=k:=fun e=>by rw [e,Nat.beq_refl] at hk; cases hk
      rw [if_neg hne] at h;simp only [yj,hk,delH_putH h]
theorem Wk.frzL {id:Nat} {st':ASt} (hf:frzL id st=some st'):Wk X n st st':=fun R W Bi M a w ⟨ks,env,B,w0,H,hM,h⟩=>by
  unfold Go.Proofs.YtihcolehefloeaaDoor.frzL at hf
  split at hf
  · rename_i t g l hlk
    cases hf;obtain ⟨ck,K,⟨A,k,he,hor⟩,⟨Y,Z,e1,e2⟩,h5⟩:=h.setBlk (b':=.row t g l none) hlk
    rcases hor with ⟨xs,rfl,hfl⟩ | ⟨rfl,rfl,q2,xs,hfl,hrb⟩
    · obtain ⟨H',h6⟩:=h5 _ a w ⟨A,k,xs,he,rfl,hfl,fun _ hq=>by cases hq⟩ (by rw [e2]; dsimp only; rw [← e1]; exact h.sh) h.stt
      have hfz:Go.Proofs.YtihcolehefloeaaDoor.frz id ⟨st.L,putH id (.row t g l none) st.H⟩=some ⟨subL id (.lst g l none) st.L,yj id (.lst g l none) st.H⟩:=by
        unfold Go.Proofs.YtihcolehefloeaaDoor.frz;dsimp only;rw [lk_putH hlk];dsimp only;rw [delH_putH hlk]
      exact Wk.frz (X:=X) (n:=n) hfz R W Bi M a w ⟨ks,env,B,w0,H',hM,h6⟩
    · have hcr:∀ v,CR env B w0 (.sl id) v→CR env B w0 (.lst g l none) v:=by
        rintro v ⟨A',c',m,he',rfl⟩;rw [he] at he';cases he';exact ⟨A,l.length,xs,rfl,Nat.le_refl _,q2,(fun _ hq=>by cases hq),hfl,hrb⟩
      obtain ⟨H2,h1,h2⟩:=h.heap.del (id:=id) (env':=env) (fun _ _=>rfl) hcr;refine ⟨ks,env,B,w0,H2,hM,h.size,h.defs,fun q u hu=>?_,h2,h.sh.weak (h1.append_right _),h.sub,h.new,h.pin,h.base,h.glob⟩;obtain ⟨u0,hu0,rfl⟩:=lk_subL hu;obtain ⟨u',h6,h7⟩:=h.has q u0 hu0;exact ⟨u',h6,VR.sub (fun _ _=>rfl) hcr h7⟩
  · cases hf
end
end Go.Proofs.YtihcolehefloeaaDoor

/- Operations that give a value, by lemmas of their own: also in regions that draw. -/
namespace Go.Proofs.YtihcolehefloeaaDoor
open Go.RowKit
section
variable {X:Cx} {M:Bool} {n:Nat} {r:Option Nat} {st:ASt} {Q:Exit→ASt→Prop} {ops rest:List Oper} {o:Oper} {d:Nat} {sa:SA}
theorem ado_pk {E:List Nat} {ds:DS} {fuel i:Nat} {l':Array Bool} (hi:nth ops i=some o) (hp:PureOk X st o sa) (ho:o.guard=none∧o.dst=some d) (hd:Nat.blt d n=true) (hE:E.elem i=false) (hl:ds.listed.setIfInBounds i true=l')
    (h:AD X M n ops E fuel ⟨l',false,false,ds.nocall⟩ ⟨(d,.a sa) :: st.L,st.H⟩ Q):ADo X M n ops E fuel ds st Q i:=by
  intro R W Bi B0 w00 CS F ks env B w0 H a w hM hA hD;obtain ⟨v,h1,h2⟩:=hp hA;refine ⟨o,nth_arr hi,xg hA.stt ho.1 ho.2 (zA hd) (v:=v) (w':=w) (h2 w fun _=>hA.sh) fun a' hS=>?_⟩;have hA':=hA.set (sv:=.a sa) h1 hS;have hD':=hD.lost (H':=H) (l:=l');rw [hl];exact ⟨⟨fun he=>(by rw [hE] at he; cases he),hD'.F hA'⟩,h R W Bi B0 w00 CS F ks env B w0 H a' w hM hA' hD'⟩
theorem pk_loadH (hX:X.tt.ok X.P) {t T:TypeId} {te:TE} {x:Operand} {id d2 i:Nat} {g:GTy} {l:List (List g.D)} {cap:Option Nat} {g1:Bool} (hop:o.op=.load t x)
    (ht:X.tt.find t=some te) (hag:yp te.ti.desc=false) (hx:ae X st.L x=some (g1,.c (.elt id 1 i 0))) (hg1:g1=true) (hlk:lk st.H id=some (.hrow T g l cap i d2)):PureOk X st o (.c (.sl d2)):=by
  intro R W Bi n ks env B w0 H a w1 hA;obtain ⟨vx,h1,b,c,m,he,rfl⟩:=hA.ev hx hg1;obtain ⟨ck,K,⟨A,k,ys,A',c',m',he',rfl,hfl,hi,he2,_⟩,hf⟩:=hA.heap.foc hlk;rw [he] at he';cases he';have hyl:=FR.flat_length hfl;have hyl':ys.length=l.length:=by rw [hyl]; show l.length * 1=_; omega
  refine ⟨.slice A' m' c',⟨A',c',m',he2,rfl⟩,fun w hs=>?_⟩;have hown:Owns w (fun k=>R k∨B k) T 1 (some ⟨b,0,none⟩) c l.length (ys.set i (.slice A' m' c')):=(hs (by rw [hop]; rfl)).ok _ hf.more.mem;have hcell:w.cell? ⟨b,i * 1+0,none⟩=some (.slice A' m' c'):=by
    rw [hown.cells rfl _ (by omega)]
    simp [List.getElem?_set,hyl',hi]
  exact yJ hA.stt hop (TT.get hX ht).ti hag h1 hcell
theorem pk_loadX (g:GTy) (p m:Nat) (z:Int) (hX:X.tt.ok X.P) {t T:TypeId} {te:TE} {x:Operand} {id:Nat} {cs r':List SC} {l:List g.D} {g1 c:Bool} (hop:o.op=.load t x)
    (ht:X.tt.find t=some te) (hsz:Nat.beq g.size te.ti.size=true) (hag:yp te.ti.desc=g.isPair) (hone:(g.isPair || Nat.beq g.size 1)=true) (hx:ae X st.L x=some (g1,.c (.ptr id (p+z.toNat * g.size)))) (hg1:g1=true) (hlk:lk st.H id=some (.cells T cs))
    (hdec:decs g m (cs.drop p)=some (c,l,r')) (hc:c=true) (hz:zi z m=true) (hsa:vSA g (l.getD z.toNat g.zero)=some sa):PureOk X st o sa:=by
  intro R W Bi n ks env B w0 H a w1 hA;obtain ⟨vx,h1,b,hb,rfl⟩:=hA.ev hx hg1;obtain ⟨ck,K,⟨b',vs,hb',rfl,hcs⟩,hfoc⟩:=hA.heap.foc hlk;rw [hb] at hb';cases hb';obtain ⟨hl,v1,v2,hv,hfl,_⟩:=decs_ok (hcs.drop p) hdec hc;obtain ⟨j,rfl,hj,hjn⟩:=inB_ok hz;rw [Int.toNat_natCast] at h1 hsa;have hxl:l[j]?=some (l.getD j g.zero):=by rw [List.getD_eq_getElem?_getD,List.getElem?_eq_getElem (by omega)]; rfl
  have h2:=Flat.get (fun _ _=>FR.length) hfl hxl;have hlen:=FR.length h2;have hcell:∀ w,SH (fun k=>R k∨B k) w0 (H++ks.map mkO) w→∀ q u,((v1.drop (j * g.size)).take g.size)[q]?=some u→w.cell? ⟨b,p+j * g.size+q,none⟩=some u:=fun w hs q u hq=>by
    rw [cel_cell hs hfoc.more];rw [List.getElem?_take] at hq
    split at hq
    · rw [List.getElem?_drop] at hq
      have h3:(vs.drop p)[j * g.size+q]?=some u:=by
        rw [hv,List.getElem?_append_left (List.getElem?_eq_some_iff.1 hq).1];exact hq
      rw [List.getElem?_drop] at h3;rw [Nat.add_assoc];exact h3
    · cases hq
  have hi:=(TT.get hX ht).ti;have hsz':=Nat.eq_of_beq_eq_true hsz;cases hp:g.isPair with
  | true=>exact ⟨_,(VD.of_FR h2 hp).sa hsa,fun w hs=>run_loadN hA.stt hop hi (by rw [hag,hp]) h1 (by rw [hlen,hsz']) (hcell w (hs (by rw [hop]; rfl)))⟩
  | false=>
    rw [hp,Bool.false_or] at hone;have h1s:=Nat.eq_of_beq_eq_true hone;obtain ⟨v,hv1⟩:∃ v,(v1.drop (j * g.size)).take g.size=[v]:=by
      match hm:(v1.drop (j * g.size)).take g.size,hlen with
      | [v],_=>exact ⟨v,rfl⟩
      | [],h=>simp [h1s] at h
      | _ :: _ :: _,h=>simp [h1s] at h
    rw [hv1] at hcell h2;refine ⟨v,(VD.of_FR1 h2 hp).sa hsa,fun w hs=>?_⟩
    have:=hcell w (hs (by rw [hop]; rfl)) 0 v rfl
    rw [Nat.add_zero] at this;exact yJ hA.stt hop hi (by rw [hag,hp]) h1 this
end
end Go.Proofs.YtihcolehefloeaaDoor

/- A row of one's own that a callee reads as a list. -/
namespace Go.Proofs.YtihcolehefloeaaDoor
open Go.RowKit
section
variable {env:Nat→Loc} {B B':Nat→Prop} {w w':World}
end
end Go.Proofs.YtihcolehefloeaaDoor

/- slices.Grow at a nil slice: a row of one's own that is empty. -/
namespace Go.Proofs
open Go.Shelf
def Tryd.laysGrow_ren:Go.Shelf.Ren:=⟨fun | 4=>64 | n=>n,fun | 22=>30 | 25=>39 | 3=>3 | 4=>4 | 0=>0 | 9=>9 | 20=>20 | n=>n,fun | n=>n⟩
theorem Tryd.laysGrow:Go.Proofs.Lays8.n4 Tryd.prog Tryd.laysGrow_ren:={
  mixed:=by kernel_rfl
  f4:=⟨Tryd.f64.name,by kernel_rfl,Tryd.func64.trans (congrArg some (by kernel_rfl))⟩
  t0:=Tryd.underlying0
  a0:=Tryd.isAgg0
  z0:=Tryd.sizeOf0
  v0:=Tryd.zeroValue0
  t3:=Tryd.underlying3
  a3:=Tryd.isAgg3
  z3:=Tryd.sizeOf3
  v3:=Tryd.zeroValue3
  t4:=Tryd.underlying4
  a4:=Tryd.isAgg4
  z4:=Tryd.sizeOf4
  v4:=Tryd.zeroValue4
  t9:=Tryd.underlying9
  a9:=Tryd.isAgg9
  z9:=Tryd.sizeOf9
  v9:=Tryd.zeroValue9
  t20:=Tryd.underlying20
  a20:=Tryd.isAgg20
  z20:=Tryd.sizeOf20
  v20:=Tryd.zeroValue20
  t22:=Tryd.underlying30
  a22:=Tryd.isAgg30
  z22:=Tryd.sizeOf30
  v22:=Tryd.zeroValue30 }
end Go.Proofs
namespace Go.Proofs.YtihcolehefloeaaDoor
open Go.RowKit
def m_growN (n:Int):Option (List (Int×Int)):=gd (decide (0≤n)&&decide (n≤1000000))<|some []
theorem w_growN (n:Int) (r:List (Int×Int)) (hr:m_growN n=some r):AC cx 64 [.c (.val (.slice none 0 0)),.c (.val (.int .i64 n))] [] (fun sv h=>sv=.c (.sl 5)∧h=[(5,.row 39 (.pair (.int .u8) (.int .i64)) r none)]):=by
  obtain ⟨hg0,hr⟩:=zw hr;simp only [Bool.and_eq_true,decide_eq_true_eq] at hg0;obtain rfl:=Option.some.inj hr;obtain ⟨m,rfl⟩:∃ m:Nat,n=(m:Int):=⟨n.toNat,by omega⟩
  intro B w0 env vs H W hg ha hh hs;have e0:H=[]:=hh;subst e0;obtain ⟨v,r2,rfl,rfl,v2,r3,rfl,rfl,hr3⟩:=ha;have e1:r3=[]:=hr3;subst e1;have fin:∀ (A:Option Addr) (k:Nat) (w':World),KO (Rest W []) W w'→Owns w' (fun j=>Rest W [] j∨B j) 39 2 A k 0 [] →
      ACpost cx env B [] W (fun sv h=>sv=.c (.sl 5)∧h=[(5,.row 39 (.pair (.int .u8) (.int .i64)) [] none)]) (.slice A 0 k) w':=fun A k w' hko ho=>by
    let env2:Nat→Loc:=fun j=>match Nat.beq j 5 with
      | true=>.row A k 0
      | false=>env j
    have hpin:∀ id l,(yy≤id∧∃ b,l=.blk b)∨qZ≤id→env id=l→env2 id=l:=fun id l h he=>by
      have:Nat.beq id 5=false:=by
        cases hb:Nat.beq id 5 with
        | false=>rfl
        | true=>
          have:=Nat.eq_of_beq_eq_true hb
          subst this
          rcases h with ⟨h,_⟩ | h
          · exact absurd h (by decide)
          · exact absurd h (by decide)
      show (match Nat.beq id 5 with | true=>_ | false=>env id)=l;rw [this];exact he
    refine ⟨env2,B,w',[Ck.row A k 39 2 0 []],.c (.sl 5),_,⟨rfl,rfl⟩,fun _ h=>h,fun _ h=>.inl h,hko,⟨A,k,_,rfl,rfl⟩,⟨_,_,rfl,⟨A,k,_,rfl,rfl,rfl,fun _ h=>by cases h⟩,rfl⟩,?_,hpin⟩;refine ⟨KO.refl _ _,fun j hj=>Nat.lt_of_lt_of_le (hj.elim (fun h=>h.1) (hs.base j)) hko.size,fun c hc=>?_,List.pairwise_singleton _ _⟩;cases List.mem_singleton.1 hc;exact ho
  by_cases hm:m=0
  · subst hm
    refine Calls.mono (Any8.slices_Grow_room Tryd.laysGrow none 0 0 0 W (Nat.le_refl _) (by decide) (by decide) (by decide)) ?_;rintro e w' ⟨rfl,rfl⟩;exact ⟨_,rfl,fin none 0 _ (KO.refl _ _) ⟨rfl,.inl ⟨rfl,rfl,rfl⟩⟩⟩
  · obtain ⟨i0,hi0,hs1,hs2,hs3⟩:=TI.info (TT.get (t:=39) zv rfl).ti
    have h1:i0.size=2:=hs1;have h2:i0.bytes=16:=hs2;have hge:=grownCap_ge W (0+m) 0 39;have hcm:grownCap W (0+m) 0 39≤maxLen:=grownCap_le_maxLen W (0+m) 0 39 (by simp only [maxLen]; omega);have hz:Array.size (Value.cells te39.ti.zero)=2:=by kernel_rfl
    refine Calls.mono (Any8.slices_Grow_grow Tryd.laysGrow i0 _ hi0 hs3 (by omega) none 0 0 m [] W (Nat.le_refl _) (by omega) (by rw [h2]; omega) (by omega) (by rw [Nat.zero_mul]; rfl) (fun _=>rfl) (fun a ha=>by cases ha)) ?_;rintro e w' ⟨rfl,rfl⟩;refine ⟨_,rfl,fin _ _ _ ⟨rfl,rfl,rfl,by simp,fun k hk=>Below.heap_alloc W.drew _ k (hk.1)⟩ ⟨rfl,.inr ⟨W.heap.size,_,(0,0),rfl,fun h=>?_,heap_alloc_new W.drew _,.inl rfl,Nat.zero_le _,hcm,?_,rfl⟩⟩⟩
    · exact absurd (h.elim (fun h=>h.1) (hs.base _)) (Nat.lt_irrefl _)
    · simp only [Array.size_append,size_zeroCells]
      erw [hz]
      simp only [Nat.zero_add] at hge;have he:Tryd.laysGrow_ren.t 25=39:=rfl
      simp [he]
      omega
end Go.Proofs.YtihcolehefloeaaDoor

/- A frozen slice without room, in a cell, is a row to which can be appended. -/
namespace Go.Proofs.YtihcolehefloeaaDoor
open Go.RowKit
def setCs (p:Nat) (c:SC):List SC→List SC
  | []=>[]
  | x :: r=>match p with
    | 0=>c :: r
    | q+1=>x :: setCs q c r
def setCl (k p:Nat) (c:SC):Hp→Hp
  | []=>[]
  | (j,b) :: r=>match Nat.beq j k with
    | true=>(j,match b with
      | .cells t cs=>.cells t (setCs p c cs)
      | b=>b) :: r
    | false=>(j,b) :: setCl k p c r
theorem CsR.at {env:Nat→Loc} {B:Nat→Prop} {w:World}:∀ {p:Nat} {cs:List SC} {vs:List Value} {c:SC},CsR env B w cs vs→cs[p]?=some c→∃ v,vs[p]?=some v∧CR env B w c v
  | _,[],_,_,_,hp=>by cases hp
  | 0,x :: cs,_,c,⟨v,r,e,h1,_⟩,hp=>by
    cases hp;exact ⟨v,by rw [e]; rfl,h1⟩
  | p+1,x :: cs,_,c,⟨v,r,e,_,h2⟩,hp=>by
    obtain ⟨u,h3,h4⟩:=CsR.at (p:=p) (cs:=cs) h2 (by simpa using hp);exact ⟨u,by rw [e]; simpa using h3,h4⟩
theorem CsR.setAt {env:Nat→Loc} {B:Nat→Prop} {w:World} {c:SC}:∀ {p:Nat} {cs:List SC} {vs:List Value} {v:Value},CsR env B w cs vs→vs[p]?=some v→CR env B w c v→CsR env B w (setCs p c cs) vs
  | 0,[],_,_,h,_,_=>h
  | _+1,[],_,_,h,_,_=>h
  | 0,x :: cs,_,v,⟨u,r,e,_,h2⟩,hp,hc=>by
    rw [e] at hp;cases hp;exact ⟨_,r,e,hc,h2⟩
  | p+1,x :: cs,_,v,⟨u,r,e,h1,h2⟩,hp,hc=>by
    rw [e] at hp;exact ⟨u,r,e,h1,CsR.setAt (p:=p) h2 (by simpa using hp) hc⟩
section
variable {env:Nat→Loc} {B:Nat→Prop} {w:World}
theorem HR.lfull {k p id:Nat} {t:TypeId} {cs:List SC} {g:GTy} {li:List g.D} {c:Nat} (hk:Nat.beq k id=false) (hc:c=li.length):∀ {l:Hp} {H:List Ck},HR env B w l H→lk l k=some (.cells t cs)→cs[p]?=some (.lst g li (some c)) →
    ∃ A xs,li.length≤maxLen∧Flat (FR B w g) li xs∧RB B w A li.length g.size xs∧∀ env',(∀ j,j≠id→env' j=env j)→env' id=.row A li.length li.length→∃ H',H'.Sublist H∧HR env' B w (setCl k p (.sl id) (yj id .dead l)) H'
  | [],_,_,hl,_=>by cases hl
  | (j,b) :: l,_,⟨ck,H',e,h1,h2⟩,hl,hp=>by
    rw [qa] at hl;subst e
    split at hl
    · rename_i e
      subst e;cases hl;obtain ⟨bb,vs,q1,q2,q3⟩:=h1;obtain ⟨v,q4,A,c',xs,q5,q6,q7,q8,q9,q10⟩:=CsR.at q3 hp;have ec:c'=li.length:=(q8 c rfl).trans hc;subst ec;refine ⟨A,xs,q7,q9,q10,fun env' he hid=>?_⟩;obtain ⟨H2,hs,h3⟩:=HR.del (z:=.dead) he (fun _ _=>trivial) h2;have hb:BR env' B w k ((Blk.cells t cs).sub id .dead) ck:=BR.sub (z:=.dead) he (fun _ _=>trivial) (Nat.ne_of_beq_eq_false hk) (b:=.cells t cs) ⟨bb,vs,q1,q2,q3⟩;obtain ⟨bb',vs',r1,r2,r3⟩:=hb;have hvs:vs'=vs:=by
        rw [q2] at r2;cases r2
        rfl
      subst hvs;refine ⟨ck :: H2,hs.cons_cons _,?_⟩;unfold yj;rw [hk];show HR env' B w (setCl k p (.sl id) ((k,(Blk.cells t cs).sub id .dead) :: yj id .dead l)) (ck :: H2);unfold setCl;rw [Nat.beq_refl];exact ⟨ck,H2,rfl,⟨bb',vs',r1,r2,CsR.setAt r3 q4 ⟨A,_,_,hid,q5⟩⟩,h3⟩
    · rename_i hne
      obtain ⟨A,xs,q1,q2,q3,q4⟩:=HR.lfull hk hc h2 hl hp;refine ⟨A,xs,q1,q2,q3,fun env' he hid=>?_⟩;obtain ⟨H2,hs,h3⟩:=q4 env' he hid;unfold yj
      split
      · exact ⟨H2,hs.cons _,h3⟩
      · rename_i hj
        refine ⟨ck :: H2,hs.cons_cons _,?_⟩;unfold setCl;have hjk:Nat.beq j k=false:=by
          cases hb:Nat.beq j k with
          | false=>rfl
          | true=>exact absurd (Nat.eq_of_beq_eq_true hb).symm hne
        rw [hjk];exact ⟨ck,H2,rfl,BR.sub (z:=.dead) he (fun _ _=>trivial) (Nat.ne_of_beq_eq_false hj) h1,h3⟩
end
theorem Wk.lfullC {X:Cx} {n:Nat} {st:ASt} (k p id:Nat) (t:TypeId) (hid:Nat.blt id n=true) (hki:Nat.beq k id=false) {T:TypeId} {cs:List SC} {g:GTy} {l:List g.D} {c:Nat} (hs:lk st.H k=some (.cells T cs)) (hp:cs[p]?=some (.lst g l (some c))) (hc:c=l.length) :
    Wk X n st ⟨subL id .dead st.L,(id,.lrow t g l) :: setCl k p (.sl id) (yj id .dead st.H)⟩:=fun R W Bi M a w ⟨ks,env,B,w0,H,hM,h⟩=>by
  obtain ⟨A,xs,q2,hfl,hrb,hq⟩:=HR.lfull hki hc h.heap hs hp;obtain ⟨H2,h1,h2⟩:=hq (upd env id (.row A l.length l.length)) qR zN;refine ⟨ks,upd env id (.row A l.length l.length),B,w0,.row none 0 t g.size 0 [] :: H2,hM,h.size,h.defs,fun q u hu=>?_,⟨_,H2,rfl,⟨A,_,zN,.inr ⟨rfl,rfl,q2,xs,hfl,hrb⟩⟩,h2⟩,(h.sh.nilRow t g.size).weak ((h1.append_right _).cons_cons _),h.sub,h.new,pin_upd h.pin (fun q hp=>by have h1:=(h.pin _ _ hp).1; have h2:=zA hid; omega),h.base,h.glob⟩;obtain ⟨u0,hu0,rfl⟩:=lk_subL hu;obtain ⟨u',h6,h7⟩:=h.has q u0 hu0;exact ⟨u',h6,VR.sub (z:=.dead) qR (fun _ _=>trivial) h7⟩
end Go.Proofs.YtihcolehefloeaaDoor

/- shifts.planner. -/
namespace Go.Proofs.YtihcolehefloeaaDoor
open Go.RowKit
abbrev g3:GTy:=.pair (.int .u8) (.pair (.int .u8) (.int .u8))
abbrev qK:GTy:=.pair (.int .u8) (.int .i64)
abbrev qD:GTy:=.pair (.int .u8) (.pair (.int .u8) (.pair (.pair (.int .u8) (.int .i64)) (.pair (.int .u8) (.int .i64))))
abbrev qx:=Int×Int×(Int×Int)×Int×Int
abbrev plan (p q:Nat) (ops:List qx) (rack:Int):Hp:=[(p,.cells 79 [.sl q,.val (.int .i64 rack)]),(q,.row 45 qD ops none)]
theorem put_ok (ops l2:List qx) (rack:Int) (cap:Option Nat) (hl:ops.length+l2.length≤1000000000) :
    AC cx 61 [.c (.ptr 1000000 0),.c (.sl 1000002)] [(1000000,.cells 79 [.sl 1000001,.val (.int .i64 rack)]),(1000001,.row 45 qD ops none),(1000002,.row 45 qD l2 cap)] (fun sv h=>sv=.tup []∧h=plan 1000000 1000001 (ops++l2) rack):=by
  refine zE zv Tryd.func61 rfl Tryd.ntmps61 rfl rfl (res:=[]) rfl<|zq<|zj zv rfl (by first | rfl | (simp only [zi,zk,ze,GTy.zero,Bool.and_eq_true,Bool.or_eq_true,Bool.not_eq_true',Bool.and_true,Bool.true_and,Bool.or_true,Bool.true_or,decide_eq_true_eq,decide_eq_false_iff_not,true_and,and_true]; omega) | (simp [zi,zk,ze,GTy.zero]; omega) | (simp [zi,zk,ze,GTy.zero])) ?_
  refine ⟨_,Wk.sub (st':=⟨[],[(1000000,_),(1000001,_)]⟩) SubL.nil (SubH.cons rfl rfl (SubH.cons rfl rfl SubH.nil)),_,_,rfl,rfl,?_⟩;exact ⟨rfl,rfl⟩
def rackOp (r:Int):qx:=(3,0,(0,0),0,r)
def qr (ops:List qx) (rack r:Int):List qx:=if rack=r then ops else ops++[rackOp r]
theorem turn_ok (ops:List qx) (rack r:Int) (hl:ops.length≤100000000) :
    AC cx 30 [.c (.ptr 1000000 0),.c (.val (.int .i64 r))] (plan 1000000 1000001 ops rack) (fun sv h=>sv=.tup []∧h=plan 1000000 1000001 (qr ops rack r) r):=by
  refine zE zv Tryd.func30 rfl Tryd.ntmps30 rfl rfl (res:=[]) rfl<|zu<|zq<|zj zv rfl (by first | rfl | (simp only [zi,zk,ze,GTy.zero,Bool.and_eq_true,Bool.or_eq_true,Bool.not_eq_true',Bool.and_true,Bool.true_and,Bool.or_true,Bool.true_or,decide_eq_true_eq,decide_eq_false_iff_not,true_and,and_true]; omega) | (simp [zi,zk,ze,GTy.zero]; omega) | (simp [zi,zk,ze,GTy.zero])) ?_
  refine zJ rfl rfl (fun hc0=>?_) (fun hc0=>?_)
  ·
    refine zu<|zq<|zl zv rfl (by first | rfl | (simp only [zi,zk,ze,GTy.zero,Bool.and_eq_true,Bool.or_eq_true,Bool.not_eq_true',Bool.and_true,Bool.true_and,Bool.or_true,Bool.true_or,decide_eq_true_eq,decide_eq_false_iff_not,true_and,and_true]; omega) | (simp [zi,zk,ze,GTy.zero]; omega) | (simp [zi,zk,ze,GTy.zero])) ?_
    refine qQ [(1000000,1000000),(1000001,1000001),(1000002,13)] (put_ok ops [rackOp r] rack (some 1) (by simp; omega)) rfl ⟨rfl,rfl⟩ rfl Tryd.func61 rfl rfl rfl rfl rfl rfl (PassH.cons rfl rfl rfl (PassH.cons rfl rfl rfl (PassH.cons rfl rfl rfl PassH.nil))) ?_;rintro _ _ ⟨rfl,rfl⟩;refine ⟨_,_,rfl,rfl,?_⟩;refine zj zv rfl (by first | rfl | (simp only [zi,zk,ze,GTy.zero,Bool.and_eq_true,Bool.or_eq_true,Bool.not_eq_true',Bool.and_true,Bool.true_and,Bool.or_true,Bool.true_or,decide_eq_true_eq,decide_eq_false_iff_not,true_and,and_true]; omega) | (simp [zi,zk,ze,GTy.zero]; omega) | (simp [zi,zk,ze,GTy.zero])) ?_;refine zq<|zj zv rfl (by first | rfl | (simp only [zi,zk,ze,GTy.zero,Bool.and_eq_true,Bool.or_eq_true,Bool.not_eq_true',Bool.and_true,Bool.true_and,Bool.or_true,Bool.true_or,decide_eq_true_eq,decide_eq_false_iff_not,true_and,and_true]; omega) | (simp [zi,zk,ze,GTy.zero]; omega) | (simp [zi,zk,ze,GTy.zero])) ?_
    refine ⟨_,Wk.sub (st':=⟨[],[(1000000,_),(1000001,_)]⟩) SubL.nil (SubH.cons rfl rfl (SubH.cons rfl rfl SubH.nil)),_,_,rfl,rfl,?_⟩
    simp at hc0
    have e:qr ops rack r=ops++[rackOp r]:=if_neg hc0;rw [e];exact ⟨rfl,rfl⟩
  ·
    refine za<|⟨_,Wk.sub (st':=⟨[],[(1000000,_),(1000001,_)]⟩) SubL.nil (SubH.cons rfl rfl (SubH.cons rfl rfl SubH.nil)),_,_,rfl,rfl,?_⟩
    simp at hc0
    subst hc0
    simp [qr]
abbrev G0:GTy:=.pair (.int .u8) (.pair (.int .u8) (.pair (.int .i64) (.pair (.int .i64) .bool)))
abbrev G1:GTy:=.pair .bool (.pair .bool (.pair .bool .bool))
abbrev G2:GTy:=.pair (.sl qK) (.pair (.int .u8) (.pair (.int .u8) (.pair (.int .u8) g3)))
abbrev G3:GTy:=.sl (.int .i64)
abbrev G4:GTy:=.pair (.int .u8) (.sl (.sl (.int .u8)))
abbrev G5:GTy:=.sl (.sl G0)
abbrev T0:Type:=Int×(Int×(Int×(Int×Bool)))
abbrev T1:Type:=List Int
abbrev T3:Type:=List (Int×Int)
abbrev T4:Type:=List qx
abbrev T5:Type:=Int×(Int×(Int×(Int×(Int×Int))))
abbrev T6:Type:=List qx×Int
abbrev T7:Type:=List (List T0)
abbrev T8:Type:=List UInt8
abbrev T9:Type:=List Int×List Int
abbrev Ta:Type:=List Bool
end Go.Proofs.YtihcolehefloeaaDoor

/- shifts.planner.transfer; slices.Clip. -/
namespace Go.Proofs.YtihcolehefloeaaDoor
open Go.RowKit
def xferOp (bed k:Int):qx:=(7,0,(bed,k),0,0)
def yr (bed r:Int) (at_:List Int):List qx:=at_.map fun k=>xferOp bed (k - r)
theorem take_next (l:List Int) (x:Int) (h0:0≤x) (h1:x < l.length):l.take (x+1).toNat=l.take x.toNat++[l.getD x.toNat 0]:=by
  have e:(x+1).toNat=x.toNat+1:=by omega
  have hlt:x.toNat < l.length:=by omega
  rw [e,List.take_succ_eq_append_getElem hlt,List.getD_eq_getElem?_getD,List.getElem?_eq_getElem hlt]
  rfl
theorem getD_mem (l:List Int) (x:Int) (h0:0≤x) (h1:x < l.length):l.getD x.toNat 0∈l:=by
  have hlt:x.toNat < l.length:=by omega
  rw [List.getD_eq_getElem?_getD,List.getElem?_eq_getElem hlt];exact List.getElem_mem hlt
theorem transfer_ok (ops:List qx) (rack bed r:Int) (at_:List Int) (cap:Option Nat) (hl:ops.length≤10000000) (ha:at_.length≤100000) (hk:∀ k∈at_, -100000≤k∧k≤100000) (hr:-100000≤r∧r≤100000) :
    AC cx 59 [.c (.ptr 1000000 0),.c (.val (.int .u8 bed)),.c (.sl 2000002),.c (.val (.int .i64 r))] (plan 1000000 1000001 ops rack++[(2000002,.row 3 (.int .i64) at_ cap)]) (fun sv h=>sv=.tup []∧h=plan 1000000 1000001 (ops++yr bed r at_) rack++[(2000002,.row 3 (.int .i64) at_ cap)]):=by
  refine zE zv Tryd.func59 rfl Tryd.ntmps59 rfl rfl (res:=[]) rfl<|zu<|zq<|zj zv rfl (by first | rfl | (simp only [zi,zk,ze,GTy.zero,Bool.and_eq_true,Bool.or_eq_true,Bool.not_eq_true',Bool.and_true,Bool.true_and,Bool.or_true,Bool.true_or,decide_eq_true_eq,decide_eq_false_iff_not,true_and,and_true]; omega) | (simp [zi,zk,ze,GTy.zero]; omega) | (simp [zi,zk,ze,GTy.zero])) ?_
  refine zd<|zb (st':=⟨[(12,_),(0,_),(1,_),(3,_),(10,_),(11,_)],[(1000000,_),(1000001,_),(2000002,_)]⟩) (Wk.sub (SubL.cons rfl (SubL.cons rfl (SubL.cons rfl (SubL.cons rfl (SubL.cons rfl (SubL.cons rfl SubL.nil)))))) (SubH.cons rfl rfl (SubH.cons rfl rfl (SubH.cons rfl rfl SubH.nil))))<|zp (fun y:Int×List qx=>[(12,.c (.val (.int .i64 y.1)))]) (fun y:Int×List qx=>[(1000000,.cells 79 [.sl 1000001,.val (.int .i64 rack)]),(1000001,.row 45 qD y.2 none)]) (fun y:Int×List qx=>0≤y.1∧y.1≤at_.length∧y.2=ops++yr bed r (at_.take y.1.toNat)) (fun y:Int×List qx=>(at_.length - y.1).toNat) ((0,ops)) (⟨by simp,by simp,by simp [yr]⟩) ?_
  rintro ⟨x,o⟩ ⟨hx0,hx1,ho⟩;refine zu<|zq<|zj zv rfl (by first | rfl | (simp only [zi,zk,ze,GTy.zero,Bool.and_eq_true,Bool.or_eq_true,Bool.not_eq_true',Bool.and_true,Bool.true_and,Bool.or_true,Bool.true_or,decide_eq_true_eq,decide_eq_false_iff_not,true_and,and_true]; omega) | (simp [zi,zk,ze,GTy.zero]; omega) | (simp [zi,zk,ze,GTy.zero])) ?_
  refine zu<|zJ rfl rfl (fun hc1=>?_) (fun hc1=>?_)
  ·
    refine za<|zu<|zd<|zu ?_
    dsimp only at hx0 hx1 ho;have hlt:x < at_.length:=by simpa using hc1
    have hkx:=hk _ (getD_mem at_ x hx0 hlt);have hol:o.length≤20000000:=by rw [ho]; simp [yr]; omega
    refine zq<|zj zv rfl (by first | rfl | (simp only [zi,zk,ze,GTy.zero,Bool.and_eq_true,Bool.or_eq_true,Bool.not_eq_true',Bool.and_true,Bool.true_and,Bool.or_true,Bool.true_or,decide_eq_true_eq,decide_eq_false_iff_not,true_and,and_true]; omega) | (simp [zi,zk,ze,GTy.zero]; omega) | (simp [zi,zk,ze,GTy.zero])) ?_
    refine zq<|zl zv rfl (by first | rfl | (simp only [zi,zk,ze,GTy.zero,Bool.and_eq_true,Bool.or_eq_true,Bool.not_eq_true',Bool.and_true,Bool.true_and,Bool.or_true,Bool.true_or,decide_eq_true_eq,decide_eq_false_iff_not,true_and,and_true]; omega) | (simp [zi,zk,ze,GTy.zero]; omega) | (simp [zi,zk,ze,GTy.zero])) ?_
    refine qQ [(1000000,1000000),(1000001,1000001),(1000002,23)] (put_ok o [xferOp bed (at_.getD x.toNat 0 - r)] rack (some 1) (by simp; omega)) rfl ⟨rfl,rfl⟩ rfl Tryd.func61 rfl rfl rfl rfl rfl rfl (PassH.cons rfl rfl rfl (PassH.cons rfl rfl rfl (PassH.cons rfl rfl rfl PassH.nil))) ?_;rintro _ _ ⟨rfl,rfl⟩;refine ⟨_,_,rfl,rfl,?_⟩;refine zj zv rfl (by first | rfl | (simp only [zi,zk,ze,GTy.zero,Bool.and_eq_true,Bool.or_eq_true,Bool.not_eq_true',Bool.and_true,Bool.true_and,Bool.or_true,Bool.true_or,decide_eq_true_eq,decide_eq_false_iff_not,true_and,and_true]; omega) | (simp [zi,zk,ze,GTy.zero]; omega) | (simp [zi,zk,ze,GTy.zero])) ?_;refine zq<|zj zv rfl (by first | rfl | (simp only [zi,zk,ze,GTy.zero,Bool.and_eq_true,Bool.or_eq_true,Bool.not_eq_true',Bool.and_true,Bool.true_and,Bool.or_true,Bool.true_or,decide_eq_true_eq,decide_eq_false_iff_not,true_and,and_true]; omega) | (simp [zi,zk,ze,GTy.zero]; omega) | (simp [zi,zk,ze,GTy.zero])) ?_
    refine ⟨(x+1,o++[xferOp bed (at_.getD x.toNat 0 - r)]),⟨by dsimp only; omega,by dsimp only; omega,by dsimp only; rw [ho,take_next _ _ hx0 hlt]; simp [yr]⟩,(by dsimp only; omega),Wk.sub (by repeat (first | exact SubL.nil | refine SubL.cons rfl ?_)) (SubH.cons rfl rfl (SubH.cons rfl rfl (SubH.cons rfl rfl SubH.nil)))⟩
  ·
    refine zt<|⟨_,Wk.sub (st':=⟨[],[(1000000,_),(1000001,_),(2000002,_)]⟩) SubL.nil (SubH.cons rfl rfl (SubH.cons rfl rfl (SubH.cons rfl rfl SubH.nil))),_,_,rfl,rfl,?_⟩
    have hx:x=at_.length:=by simp at hc1 hx1; omega
    dsimp only at ho;rw [hx] at ho
    simp at ho
    rw [← ho];exact ⟨rfl,rfl⟩
end Go.Proofs.YtihcolehefloeaaDoor

/- shifts.planner.move; slices.Clone, slices.Clip. -/
namespace Go.Proofs.YtihcolehefloeaaDoor
open Go.RowKit
theorem clone_ok (l:List Int) (cap:Option Nat) (h0:0 < l.length) (hl:l.length≤1000000) :
    AC cx 58 [.c (.lst (.int .i64) l cap)] [] (fun sv h=>sv=.c (.sl 5)∧h=[(5,.row 3 (.int .i64) l none)]):=by
  refine zE zv Tryd.func58 rfl Tryd.ntmps58 rfl rfl (res:=[.tmp 2]) rfl<|zu<|zq<|zj zv rfl rfl<|zu<|zu<|zq<|zj zv rfl (by simpa using h0) ?_
  refine zJ rfl rfl (fun hc1=>?_) (fun hc1=>?_)
  ·
    refine zu ?_;cases hc1
  ·
    refine za<|zu<|zq<|zj zv rfl (by simp [zi,zk,ze,GTy.zero]; omega) ?_
    refine zh<|⟨_,Wk.sub (st':=⟨[(2,_)],[(5,_)]⟩) (SubL.cons rfl SubL.nil) (SubH.cons rfl rfl SubH.nil),_,_,rfl,rfl,?_⟩
    exact ⟨rfl,rfl⟩
def imin (a b:Int):Int:=if b < a then b else a
def imax (a b:Int):Int:=if a < b then b else a
def xZ (d:Int):Int:=imax (-8) (imin 8 d)
def rackFor (rack by_ a0 aL:Int):Int:=imax (imax (imax (-4) (-4 - by_)) (aL - 40)) (imin (imin (imin 4 (4 - by_)) (a0 - 1)) rack)
def rOf (rack:Int) (l:List Int) (d:Int):Int:=rackFor rack (xZ d) (l.getD (0:Int).toNat 0) (l.getD ((l.length:Int) - 1).toNat 0)
def moveF:Nat→List qx→Int→List Int→Int→List qx×Int
  | 0,ops,rack,_,_=>(ops,rack)
  | f+1,ops,rack,l,d=>if d=0 then (ops,rack) else
    moveF f (qr (qr ops rack (rOf rack l d)++yr 0 0 l) (rOf rack l d) (rOf rack l d+xZ d)++yr 1 (rOf rack l d) l) (rOf rack l d+xZ d) (l.map (·+xZ d)) (d - xZ d)
theorem byOf_bounds (d:Int):-8≤xZ d∧xZ d≤8∧(d=0→xZ d=0)∧(d≠0→(d - xZ d).natAbs < d.natAbs):=by
  unfold xZ imax imin
  split <;> split at * <;> omega
theorem rackFor_bounds (rack b x y:Int) (hb:-8≤b∧b≤8) (hy:-1200≤y∧y≤1200):-4≤rackFor rack b x y∧rackFor rack b x y≤1200:=by
  unfold rackFor imax imin
  repeat' split
  all_goals omega
theorem yk (ops:List qx) (rack r:Int):(qr ops rack r).length≤ops.length+1:=by
  unfold qr
  split <;> simp
theorem xfers_length (bed r:Int) (l:List Int):(yr bed r l).length=l.length:=by simp [yr]
theorem map_part (l:List Int) (b x:Int) (h0:0≤x) (h1:x < l.length) (z:List Int) (hz:z=(l.take x.toNat).map (·+b)++l.drop x.toNat) :
    z.getD x.toNat 0=l.getD x.toNat 0∧z.set x.toNat (z.getD x.toNat 0+b)=(l.take (x+1).toNat).map (·+b)++l.drop (x+1).toNat:=by
  have hlt:x.toNat < l.length:=by omega
  have e:(x+1).toNat=x.toNat+1:=by omega
  have hl:((l.take x.toNat).map (·+b)).length=x.toNat:=by simp; omega
  have hd:l.drop x.toNat=l[x.toNat] :: l.drop (x.toNat+1):=List.drop_eq_getElem_cons hlt;have hz':z=(l.take x.toNat).map (·+b)++(l[x.toNat] :: l.drop (x.toNat+1)):=by rw [hz,hd]
  have hg:z.getD x.toNat 0=l[x.toNat]:=by
    rw [hz',List.getD_eq_getElem?_getD,List.getElem?_append_right (Nat.le_of_eq hl),hl,Nat.sub_self]
    rfl
  have hg2:l.getD x.toNat 0=l[x.toNat]:=by rw [List.getD_eq_getElem?_getD,List.getElem?_eq_getElem hlt]; rfl
  refine ⟨by rw [hg,hg2],?_⟩;rw [hg,e,List.take_succ_eq_append_getElem hlt,hz',List.set_append_right _ _ (Nat.le_of_eq hl),hl,Nat.sub_self,List.set_cons_zero,List.map_append,List.append_assoc]
  rfl
def qm (ops:List qx) (rack:Int) (l:List Int) (d:Int):List qx×Int:=moveF d.natAbs ops rack l d
structure MS where
  f:Nat
  o:List qx
  rk:Int
  l:List Int
  d:Int
theorem move_ok (ops:List qx) (rack:Int) (at_:List Int) (d:Int) (cap:Option Nat) (h0:0 < at_.length) (hl:at_.length≤100) (ho:ops.length≤5000000) (hd:-100≤d∧d≤100) (hk:∀ k∈at_, -1000≤k∧k≤1000) (hr:-2000≤rack∧rack≤2000) :
    AC cx 27 [.c (.ptr 1000000 0),.c (.lst (.int .i64) at_ cap),.c (.val (.int .i64 d))] (plan 1000000 1000001 ops rack) (fun sv h=>sv=.tup []∧h=plan 1000000 1000001 (qm ops rack at_ d).1 (qm ops rack at_ d).2):=by
  refine zE zv Tryd.func27 rfl Tryd.ntmps27 rfl rfl (res:=[]) rfl<|zu<|zq<|zl zv rfl rfl<|qQ [(5,12)] (clone_ok at_ cap h0 (by omega)) rfl ⟨rfl,rfl⟩ rfl Tryd.func58 rfl rfl rfl rfl rfl rfl PassH.nil ?_
  rintro _ _ ⟨rfl,rfl⟩;refine ⟨_,_,rfl,rfl,?_⟩;refine zj zv rfl rfl<|zd<|zb (st':=⟨[(1,_),(2,_),(0,_)],[(1000000,_),(1000001,_),(12,_)]⟩) (Wk.sub (SubL.cons rfl (SubL.cons rfl (SubL.cons rfl SubL.nil))) (SubH.cons rfl rfl (SubH.cons rfl rfl (SubH.cons rfl rfl SubH.nil))))<|zp (fun y:MS=>[(1,.c (.sl 12)),(2,.c (.val (.int .i64 y.d)))]) (fun y:MS=>[(1000000,.cells 79 [.sl 1000001,.val (.int .i64 y.rk)]),(1000001,.row 45 qD y.o none),(12,.row 3 (.int .i64) y.l none)]) (fun y:MS=>moveF y.f y.o y.rk y.l y.d=qm ops rack at_ d∧y.d.natAbs≤y.f∧y.f≤d.natAbs∧y.l=at_.map (·+(d - y.d))∧y.o.length≤ops.length+(d.natAbs - y.f) * 202∧-2000≤y.rk∧y.rk≤2000∧-100≤y.d∧y.d≤100) (fun y:MS=>y.f) (⟨d.natAbs,ops,rack,at_,d⟩) (⟨rfl,Nat.le_refl _,Nat.le_refl _,by simp,by simp,hr.1,hr.2,hd.1,hd.2⟩) ?_
  rintro ⟨f,o,rk,l,d'⟩ ⟨hm,hf,hfd,hll,hol,hrk,hrk',hd',hd''⟩;refine zu<|zu<|zq<|zj zv rfl rfl<|zJ rfl rfl (fun hc1=>?_) (fun hc1=>?_)
  ·
    refine za<|zd<|zu ?_
    dsimp only at hm hf hfd hll hol hrk hrk' hd' hd'';have hd0:d'≠0:=by simpa using hc1
    have hlen:l.length=at_.length:=by rw [hll]; simp
    have hkl:∀ k∈l, -1200≤k∧k≤1200:=fun k hk'=>by
      rw [hll] at hk';obtain ⟨q,hq,rfl⟩:=List.mem_map.1 hk'
      have:=hk q hq
      omega
    obtain ⟨hb1,hb2,_,hb4⟩:=byOf_bounds d';have hb5:=hb4 hd0;have hx1:=hkl _ (getD_mem l 0 (by omega) (by omega));have hx2:=hkl _ (getD_mem l ((l.length:Int) - 1) (by omega) (by omega));have hrr:=rackFor_bounds rk (xZ d') (l.getD (0:Int).toNat 0) (l.getD ((l.length:Int) - 1).toNat 0) ⟨hb1,hb2⟩ (by omega);refine zq<|zj zv rfl rfl<|zb (st':=⟨[(0,_),(1,_),(2,_),(6,.c (.val (.int .i64 (xZ d')))),(13,_),(14,_),(15,_),(16,_),(17,_)],[(1000000,_),(1000001,_),(12,_)]⟩) (Wk.sub (SubL.cons rfl (SubL.cons rfl (SubL.cons rfl (SubL.cons rfl (SubL.cons rfl (SubL.cons rfl (SubL.cons rfl (SubL.cons rfl (SubL.cons rfl SubL.nil))))))))) (SubH.cons rfl rfl (SubH.cons rfl rfl (SubH.cons rfl rfl SubH.nil))))<|zu<|zq<|zj zv rfl (by simp only [zi,zk,ze,GTy.zero,Bool.and_eq_true,Bool.or_eq_true,Bool.not_eq_true',Bool.and_true,Bool.true_and,Bool.or_true,Bool.true_or,decide_eq_true_eq,decide_eq_false_iff_not,true_and,and_true]; omega) ?_
    refine zu<|zq<|zj zv rfl (by simp only [zi,zk,ze,GTy.zero,Bool.and_eq_true,Bool.or_eq_true,Bool.not_eq_true',Bool.and_true,Bool.true_and,Bool.or_true,Bool.true_or,decide_eq_true_eq,decide_eq_false_iff_not,true_and,and_true]; omega) ?_
    refine zu<|zq<|zj zv rfl rfl<|zb (st':=⟨[(0,_),(1,_),(2,_),(6,_),(7,_),(8,_),(9,.c (.val (.int .i64 (rOf rk l d')))),(13,_),(14,_),(15,_),(16,_),(17,_),(18,_),(19,_),(20,_),(21,_),(22,_),(23,_),(24,_),(25,_),(26,_),(27,_),(28,_),(29,_),(30,_),(31,_),(32,_),(33,_),(34,_),(35,_),(36,_),(37,_),(38,_),(39,_),(40,_),(41,_),(42,_)],[(1000000,_),(1000001,_),(12,_)]⟩) (Wk.sub (SubL.cons rfl (SubL.cons rfl (SubL.cons rfl (SubL.cons rfl (SubL.cons rfl (SubL.cons rfl (SubL.cons rfl (SubL.cons rfl (SubL.cons rfl (SubL.cons rfl (SubL.cons rfl (SubL.cons rfl (SubL.cons rfl (SubL.cons rfl (SubL.cons rfl (SubL.cons rfl (SubL.cons rfl (SubL.cons rfl (SubL.cons rfl (SubL.cons rfl (SubL.cons rfl (SubL.cons rfl (SubL.cons rfl (SubL.cons rfl (SubL.cons rfl (SubL.cons rfl (SubL.cons rfl (SubL.cons rfl (SubL.cons rfl (SubL.cons rfl (SubL.cons rfl (SubL.cons rfl (SubL.cons rfl (SubL.cons rfl (SubL.cons rfl (SubL.cons rfl (SubL.cons rfl SubL.nil))))))))))))))))))))))))))))))))))))) (SubH.cons rfl rfl (SubH.cons rfl rfl (SubH.cons rfl rfl SubH.nil))))<|zu ?_
    have hrr':-4≤rOf rk l d'∧rOf rk l d'≤1200:=hrr;have ht1:=yk o rk (rOf rk l d');have ht2:=yk (qr o rk (rOf rk l d')++yr 0 0 l) (rOf rk l d') (rOf rk l d'+xZ d');rw [List.length_append,xfers_length] at ht2;have hff:1≤f:=by omega
    refine zq<|zl zv rfl rfl<|qQ [(1000000,1000000),(1000001,1000001)] (turn_ok o rk (rOf rk l d') (by omega)) rfl ⟨rfl,rfl⟩ rfl Tryd.func30 rfl rfl rfl rfl rfl rfl (PassH.cons rfl rfl rfl (PassH.cons rfl rfl rfl PassH.nil)) ?_
    rintro _ _ ⟨rfl,rfl⟩;refine ⟨_,_,rfl,rfl,?_⟩;refine zj zv rfl rfl<|zu<|zq<|zl zv rfl rfl<|qQ [(1000000,1000000),(1000001,1000001),(2000002,12)] (transfer_ok (qr o rk (rOf rk l d')) (rOf rk l d') 0 0 l none (by omega) (by omega) (fun k hk'=>by have:=hkl k hk'; omega) (by omega)) rfl ⟨rfl,rfl⟩ rfl Tryd.func59 rfl rfl rfl rfl rfl rfl (PassH.cons rfl rfl rfl (PassH.cons rfl rfl rfl (PassH.cons rfl rfl rfl PassH.nil))) ?_
    rintro _ _ ⟨rfl,rfl⟩;refine ⟨_,_,rfl,rfl,?_⟩;refine zj zv rfl rfl<|zu<|zq<|zl zv rfl (by simp only [zi,zk,ze,GTy.zero,Bool.and_eq_true,Bool.or_eq_true,Bool.not_eq_true',Bool.and_true,Bool.true_and,Bool.or_true,Bool.true_or,decide_eq_true_eq,decide_eq_false_iff_not,true_and,and_true]; omega) ?_
    refine qQ [(1000000,1000000),(1000001,1000001)] (turn_ok (qr o rk (rOf rk l d')++yr 0 0 l) (rOf rk l d') (rOf rk l d'+xZ d') (by rw [List.length_append,xfers_length]; omega)) rfl ⟨rfl,rfl⟩ rfl Tryd.func30 rfl rfl rfl rfl rfl rfl (PassH.cons rfl rfl rfl (PassH.cons rfl rfl rfl PassH.nil)) ?_;rintro _ _ ⟨rfl,rfl⟩;refine ⟨_,_,rfl,rfl,?_⟩;refine zj zv rfl rfl<|zu<|zq<|zl zv rfl rfl<|qQ [(1000000,1000000),(1000001,1000001),(2000002,12)] (transfer_ok (qr (qr o rk (rOf rk l d')++yr 0 0 l) (rOf rk l d') (rOf rk l d'+xZ d')) (rOf rk l d'+xZ d') 1 (rOf rk l d') l none (by omega) (by omega) (fun k hk'=>by have:=hkl k hk'; omega) (by omega)) rfl ⟨rfl,rfl⟩ rfl Tryd.func59 rfl rfl rfl rfl rfl rfl (PassH.cons rfl rfl rfl (PassH.cons rfl rfl rfl (PassH.cons rfl rfl rfl PassH.nil))) ?_
    rintro _ _ ⟨rfl,rfl⟩;refine ⟨_,_,rfl,rfl,?_⟩;refine zj zv rfl rfl<|zu<|zu<|zq<|zj zv rfl rfl<|zd<|zb (st':=⟨[(60,_),(0,_),(1,_),(2,_),(6,_),(7,_),(8,_),(9,_),(13,_),(14,_),(15,_),(16,_),(17,_),(18,_),(19,_),(20,_),(21,_),(22,_),(23,_),(24,_),(25,_),(26,_),(27,_),(28,_),(29,_),(30,_),(31,_),(32,_),(33,_),(34,_),(35,_),(36,_),(37,_),(38,_),(39,_),(40,_),(41,_),(42,_),(43,_),(44,_),(46,_),(47,_),(49,_),(50,_),(51,_),(52,_),(54,_),(55,_),(56,_),(58,_),(59,_)],[(12,_),(1000000,_),(1000001,_)]⟩) (Wk.sub (SubL.cons rfl (SubL.cons rfl (SubL.cons rfl (SubL.cons rfl (SubL.cons rfl (SubL.cons rfl (SubL.cons rfl (SubL.cons rfl (SubL.cons rfl (SubL.cons rfl (SubL.cons rfl (SubL.cons rfl (SubL.cons rfl (SubL.cons rfl (SubL.cons rfl (SubL.cons rfl (SubL.cons rfl (SubL.cons rfl (SubL.cons rfl (SubL.cons rfl (SubL.cons rfl (SubL.cons rfl (SubL.cons rfl (SubL.cons rfl (SubL.cons rfl (SubL.cons rfl (SubL.cons rfl (SubL.cons rfl (SubL.cons rfl (SubL.cons rfl (SubL.cons rfl (SubL.cons rfl (SubL.cons rfl (SubL.cons rfl (SubL.cons rfl (SubL.cons rfl (SubL.cons rfl (SubL.cons rfl (SubL.cons rfl (SubL.cons rfl (SubL.cons rfl (SubL.cons rfl (SubL.cons rfl (SubL.cons rfl (SubL.cons rfl (SubL.cons rfl (SubL.cons rfl (SubL.cons rfl (SubL.cons rfl (SubL.cons rfl (SubL.cons rfl SubL.nil))))))))))))))))))))))))))))))))))))))))))))))))))) (SubH.cons rfl rfl (SubH.cons rfl rfl (SubH.cons rfl rfl SubH.nil))))<|zp (fun y:Int×List Int=>[(60,.c (.val (.int .i64 y.1)))]) (fun y:Int×List Int=>[(12,.row 3 (.int .i64) y.2 none)]) (fun y:Int×List Int=>0≤y.1∧y.1≤l.length∧y.2=(l.take y.1.toNat).map (·+xZ d')++l.drop y.1.toNat) (fun y:Int×List Int=>(l.length - y.1).toNat) ((0,l)) (⟨by simp,by simp,by simp⟩) ?_
    rintro ⟨x,z⟩ ⟨hx0,hxl,hz⟩;refine zu<|zq<|zj zv rfl rfl<|zu<|zJ rfl rfl (fun hc11=>?_) (fun hc11=>?_)
    ·
      refine za<|zu<|zd<|zu ?_
      dsimp only at hx0 hxl hz;have hlt:x < l.length:=by simpa using hc11
      have hzl:z.length=l.length:=by rw [hz]; simp; omega
      obtain ⟨hz1,hz2⟩:=map_part l (xZ d') x hx0 hlt z hz;have hkx:=hkl _ (getD_mem l x hx0 hlt);refine zq<|zj zv rfl rfl<|zq<|zj zv rfl (by simp only [zi,zk,GTy.zero,Bool.and_eq_true,Bool.and_true,Bool.true_and,decide_eq_true_eq,true_and,and_true,hz1]; omega) ?_
      refine zq<|zj zv rfl (by simp only [zi,zk,ze,GTy.zero,Bool.and_eq_true,Bool.or_eq_true,Bool.not_eq_true',Bool.and_true,Bool.true_and,Bool.or_true,Bool.true_or,decide_eq_true_eq,decide_eq_false_iff_not,true_and,and_true]; omega) ?_
      refine ⟨(x+1,z.set x.toNat (z.getD x.toNat 0+xZ d')),⟨by dsimp only; omega,by dsimp only; omega,hz2⟩,(by dsimp only; omega),Wk.sub (by repeat (first | exact SubL.nil | refine SubL.cons rfl ?_)) (SubH.cons rfl rfl (SubH.cons rfl rfl (SubH.cons rfl rfl SubH.nil)))⟩
    ·
      refine zt<|zq<|zj zv rfl (by simp only [zk,Bool.and_eq_true,Bool.and_true,Bool.true_and,decide_eq_true_eq]; omega) ?_
      have hzz:z=l.map (·+xZ d'):=by
        have h5:x=l.length:=by simp at hc11 hxl; omega
        dsimp only at hz;rw [hz,h5]
        simp
      have hm2:moveF (f - 1) (qr (qr o rk (rOf rk l d')++yr 0 0 l) (rOf rk l d') (rOf rk l d'+xZ d')++yr 1 (rOf rk l d') l) (rOf rk l d'+xZ d') z (d' - xZ d')=qm ops rack at_ d:=by
        rw [← hm,hzz];obtain ⟨q,rfl⟩:∃ q,f=q+1:=⟨f - 1,by omega⟩
        rw [moveF,if_neg hd0,Nat.add_sub_cancel]
      have hz3:z=at_.map (·+(d - (d' - xZ d'))):=by
        rw [hzz,hll,List.map_map]
        apply List.map_congr_left
        intro a _;simp only [Function.comp];omega
      refine ⟨⟨f - 1,qr (qr o rk (rOf rk l d')++yr 0 0 l) (rOf rk l d') (rOf rk l d'+xZ d')++yr 1 (rOf rk l d') l,rOf rk l d'+xZ d',z,d' - xZ d'⟩,⟨hm2,by dsimp only; omega,by dsimp only; omega,hz3,by dsimp only; rw [List.length_append,xfers_length]; omega,by dsimp only; omega,by dsimp only; omega,by dsimp only; omega,by dsimp only; omega⟩,(by dsimp only; omega),Wk.sub (by repeat (first | exact SubL.nil | refine SubL.cons rfl ?_)) (SubH.cons rfl rfl (SubH.cons rfl rfl (SubH.cons rfl rfl SubH.nil)))⟩
  ·
    refine zt<|⟨_,Wk.sub (st':=⟨[],[(1000000,_),(1000001,_)]⟩) SubL.nil (SubH.cons rfl rfl (SubH.cons rfl rfl SubH.nil)),_,_,rfl,rfl,?_⟩
    have hd1:d'=0:=by simpa using hc1
    have:qm ops rack at_ d=(o,rk):=by
      rw [← hm];dsimp only;rw [hd1];cases f <;> simp [moveF]
    rw [this];exact ⟨rfl,rfl⟩
end Go.Proofs.YtihcolehefloeaaDoor

/- shifts.Shift's closure; slices.Clip. -/
namespace Go.Proofs.YtihcolehefloeaaDoor
open Go.RowKit
theorem clip_ok (l:List qx) (cap:Option Nat):AC cx 31 [.c (.lst qD l cap)] [] (fun sv h=>sv=.c (.lst qD l (some l.length))∧h=[]):=by
  refine zE zv Tryd.func31 rfl Tryd.ntmps31 rfl rfl (res:=[.tmp 2]) rfl<|zu<|zq<|zj zv rfl (by first | rfl | (simp only [zi,zk,ze,GTy.zero,Bool.and_eq_true,Bool.or_eq_true,Bool.not_eq_true',Bool.and_true,Bool.true_and,Bool.or_true,Bool.true_or,decide_eq_true_eq,decide_eq_false_iff_not,true_and,and_true]; omega) | (simp [zi,zk,ze,GTy.zero]; omega) | (simp [zi,zk,ze,GTy.zero])) ?_
  refine zu<|zq<|zj zv rfl (by first | rfl | (simp only [zi,zk,ze,GTy.zero,Bool.and_eq_true,Bool.or_eq_true,Bool.not_eq_true',Bool.and_true,Bool.true_and,Bool.or_true,Bool.true_or,decide_eq_true_eq,decide_eq_false_iff_not,true_and,and_true]; omega) | (simp [zi,zk,ze,GTy.zero]; omega) | (simp [zi,zk,ze,GTy.zero])) ?_
  refine zh<|⟨_,Wk.sub (st':=⟨[(2,_)],[]⟩) (SubL.cons rfl SubL.nil) SubH.nil,_,_,rfl,rfl,?_⟩
  refine ⟨?_,rfl⟩;have e:l.take ((l.length:Int)).toNat=l:=by simp
  show SV.c (.lst qD (l.take ((l.length:Int)).toNat) (some ((l.length:Int)).toNat))=_;rw [e]
  rfl
def togF (at_ by_:List Int) (i:Int):Nat→Int→Int
  | 0,e=>e
  | f+1,e=>if e < at_.length∧by_.getD e.toNat 0=by_.getD i.toNat 0 then togF at_ by_ i f (e+1) else e
def tog (at_ by_:List Int) (i:Int):Int:=togF at_ by_ i at_.length (i+1)
theorem tog_ok (at_ by_:List Int) (i:Int) (h0:0≤i) (h1:i < at_.length) (hb:by_.length=at_.length) (hl:at_.length≤1000000) :
    AC cx 28 [.c (.val (.int .i64 i)),.c (.pel G3 at_ 0),.c (.pel G3 by_ 0)] [] (fun sv h=>sv=.c (.val (.int .i64 (tog at_ by_ i)))∧h=[]):=by
  refine zE zv Tryd.func28 rfl Tryd.ntmps28 rfl rfl (res:=[.tmp 4]) rfl<|zu<|zq<|zj zv rfl (by first | rfl | (simp only [zi,zk,ze,GTy.zero,Bool.and_eq_true,Bool.or_eq_true,Bool.not_eq_true',Bool.and_true,Bool.true_and,Bool.or_true,Bool.true_or,decide_eq_true_eq,decide_eq_false_iff_not,true_and,and_true]; omega) | (simp [zi,zk,ze,GTy.zero]; omega) | (simp [zi,zk,ze,GTy.zero])) ?_
  refine zu<|zq<|zj zv rfl (by first | rfl | (simp only [zi,zk,ze,GTy.zero,Bool.and_eq_true,Bool.or_eq_true,Bool.not_eq_true',Bool.and_true,Bool.true_and,Bool.or_true,Bool.true_or,decide_eq_true_eq,decide_eq_false_iff_not,true_and,and_true]; omega) | (simp [zi,zk,ze,GTy.zero]; omega) | (simp [zi,zk,ze,GTy.zero])) ?_
  refine zu<|zd<|zb (st':=⟨[(5,_),(0,_),(1,_),(2,_),(4,_)],[]⟩) (Wk.sub (SubL.cons rfl (SubL.cons rfl (SubL.cons rfl (SubL.cons rfl (SubL.cons rfl SubL.nil))))) SubH.nil)<|zp (fun y:Nat×Int=>[(5,.c (.val (.int .i64 y.2)))]) (fun y:Nat×Int=>[]) (fun y:Nat×Int=>togF at_ by_ i y.1 y.2=tog at_ by_ i∧0≤y.2∧y.2≤at_.length∧(at_.length:Int)≤y.1+y.2) (fun y:Nat×Int=>(at_.length - y.2).toNat) ((at_.length,i+1)) (⟨rfl,by dsimp only; omega,by dsimp only; omega,by dsimp only; omega⟩) ?_
  rintro ⟨f,e⟩ ⟨hf,he0,he1,hfe⟩;refine zu<|zu ?_
  dsimp only at hf he0 he1 hfe;refine zI [] (by kernel_rfl) rfl (N:=15)<|zf (fuel:=0) (ds':=⟨#[true,true,true,true,true,true,true,true,true,true,true,true,true,true,true],true,true,true⟩) zv [(0,0),(1,1),(2,0),(3,0),(4,0),(5,1),(6,0),(7,0),(8,1),(9,1),(10,0),(11,0),(12,1),(13,0),(14,0)] (by kernel_rfl) rfl (by first | rfl | (simp only [zi,zk,ze,GTy.zero,Bool.and_eq_true,Bool.or_eq_true,Bool.not_eq_true',Bool.and_true,Bool.true_and,Bool.or_true,Bool.true_or,decide_eq_true_eq,decide_eq_false_iff_not,true_and,and_true]; omega) | (simp [zi,zk,ze,GTy.zero]; omega) | (simp [zi,zk,ze,GTy.zero])) ?_
  refine zm (by kernel_rfl)<|zJ rfl rfl (fun hc2=>?_) (fun hc2=>?_)
  ·
    refine za<|zd<|zq<|zj zv rfl (by first | rfl | (simp only [zi,zk,ze,GTy.zero,Bool.and_eq_true,Bool.or_eq_true,Bool.not_eq_true',Bool.and_true,Bool.true_and,Bool.or_true,Bool.true_or,decide_eq_true_eq,decide_eq_false_iff_not,true_and,and_true]; omega) | (simp [zi,zk,ze,GTy.zero]; omega) | (simp [zi,zk,ze,GTy.zero])) ?_
    have hcc:e < at_.length∧by_.getD e.toNat 0=by_.getD i.toNat 0:=by simpa [GTy.zero] using hc2
    have hf2:togF at_ by_ i (f - 1) (e+1)=tog at_ by_ i:=by
      rw [← hf];obtain ⟨q,rfl⟩:∃ q,f=q+1:=⟨f - 1,by omega⟩
      rw [togF,if_pos hcc,Nat.add_sub_cancel]
    refine ⟨(f - 1,e+1),⟨hf2,by dsimp only; omega,by dsimp only; omega,by dsimp only; omega⟩,(by dsimp only; omega),Wk.sub (by repeat (first | exact SubL.nil | refine SubL.cons rfl ?_)) SubH.nil⟩
  ·
    refine zt<|zu<|zq<|zj zv rfl (by first | rfl | (simp only [zi,zk,ze,GTy.zero,Bool.and_eq_true,Bool.or_eq_true,Bool.not_eq_true',Bool.and_true,Bool.true_and,Bool.or_true,Bool.true_or,decide_eq_true_eq,decide_eq_false_iff_not,true_and,and_true]; omega) | (simp [zi,zk,ze,GTy.zero]; omega) | (simp [zi,zk,ze,GTy.zero])) ?_
    refine zh<|⟨_,Wk.sub (st':=⟨[(4,_)],[]⟩) (SubL.cons rfl SubL.nil) SubH.nil,_,_,rfl,rfl,?_⟩
    have hcc:¬ (e < at_.length∧by_.getD e.toNat 0=by_.getD i.toNat 0):=by
      intro h;have h5:=hc2
      simp [GTy.zero] at h5
      have h6:=h5 h.1
      simp [List.getD_eq_getElem?_getD] at h
      exact h6 h.2
    have he:tog at_ by_ i=e:=by
      rw [← hf];cases f with
      | zero=>rfl
      | succ q=>rw [togF,if_neg hcc]
    rw [he];exact ⟨rfl,rfl⟩
end Go.Proofs.YtihcolehefloeaaDoor

/- slices.Backward on ints. -/
namespace Go.Proofs.YtihcolehefloeaaDoor
open Go.RowKit
def bwS (l:List Int) (i:{ i:Nat // i < l.length }):List SA:=[.c (.val (.int .i64 i.1)),.c (.val (.int .i64 (l.getD ((i.1:Int)).toNat 0)))]
theorem backward_it (l:List Int) (hl:l.length≤1000000):AIt cx 60 [.fz G3 l] (bwS l) (fun xs=>xs.map (·.1)=(List.range l.length).reverse) (fun _=>True) l.length:=by
  intro B w lb hB hg hlb;refine ⟨fun i=>#[.int .i64 i.1,.int .i64 (l.getD ((i.1:Int)).toNat 0)],fun x=>⟨_,_,rfl,rfl,_,_,rfl,rfl,rfl⟩,?_⟩;intro la J Jx W hW hJ hJx hY h0;refine it_body (X:=cx) (n:=19) Tryd.func60 rfl Tryd.ntmps60 rfl rfl hB hg hlb hW fun a hA=>?_
  have abide:∀ {w1 w2:World} {pre:List { i:Nat // i < l.length }},W.heap.size≤w1.heap.size→J pre w1→w1.grownBy w2 none→J pre w2:=fun _ h hgr=>hJ _ _ _ none h hgr (fun r e=>by cases e)
  refine wpIn_seq (aj_region zv rfl (by simp [zi,zk]; omega) hA fun a w1 hA=>?_);refine c_block<|c_loop (α:=List { i:Nat // i < l.length }×World) (fun x a w'=>x.1.map (·.1)=(List.range l.length).reverse.take x.1.length∧x.1.length≤l.length∧J x.1 x.2∧W.heap.size≤x.2.heap.size∧AJ cx B 19 [(3,.c (.val (.int .i64 ((l.length:Int) - 1 - x.1.length)))),(0,.c (.val (.func (.yield la) #[] #[]))),(1,.c (.pel G3 l 0))] x.2 a w') (fun x=>l.length - x.1.length) ([],W) ⟨rfl,Nat.zero_le _,h0,Nat.le_refl _,hA.weak (by simp only [List.length_nil,Int.sub_zero,Int.ofNat_zero,Int.natCast_zero]; repeat (first | exact SubL.nil | refine SubL.cons rfl ?_))⟩ ?_
  clear hA
  rintro ⟨pre,w1⟩ a w ⟨hpre,hlen,hJ1,hsz,hA⟩;dsimp only at hpre hlen hJ1 hsz hA;refine wpIn_seq (wpIn_seq (aj_region zv rfl rfl hA fun a w2 hA=>?_));refine aj_cond hA rfl (fun hc=>c_skip ?_) (fun hc=>c_exit ?_)
  · have hlt:pre.length < l.length:=by have h5:=hc; simp at h5; omega
    refine wpIn_seq (c_block (wpIn_seq ?_))
    let i:{ i:Nat // i < l.length }:=⟨l.length - 1 - pre.length,by omega⟩
    have hi:(l.length:Int) - 1 - pre.length=((i.1:Nat):Int):=by show _=((l.length - 1 - pre.length:Nat):Int); omega
    rw [hi] at hA;refine aj_yield (la:=la) zv rfl (by simp [zi,zk]; omega) hA rfl ⟨rfl,rfl⟩ rfl (us:=[.tmp 12,.tmp 16]) rfl rfl (vs:=[.int .i64 i.1,.int .i64 (l.getD ((i.1:Int)).toNat 0)]) ?_ (Rr:=fun w' e W'=>(e=.returned (.bool true)∧J (pre++[i]) W'∧KO B w' W')∨(e=.returned (.bool false)∧Jx (pre++[i]) W')) (fun w' hgr=>hY pre i w' (abide hsz hJ1 hgr) (by omega)) ?_ ?_
    · rintro env' vs' ⟨v1,r1,rfl,h1,v2,r2,rfl,h2,h3⟩
      have e1:v1=_:=h1;have e2:v2=_:=h2;have e3:r2=[]:=h3;subst e1 e2 e3
      rfl
    · rintro _ e w' (⟨rfl,_⟩ | ⟨rfl,_⟩) <;> exact ⟨_,rfl⟩
    · intro a2 w3 v w4 hA hq
      have hmap:(pre++[i]).map (·.1)=(List.range l.length).reverse.take (pre++[i]).length:=by
        rw [List.map_append,hpre,List.length_append,List.length_singleton,List.take_add_one]
        congr 1
        rw [List.getElem?_reverse (by simpa using hlt),List.length_range,List.getElem?_range (by omega)]
        rfl
      have hgr:=hA.grown;have hsz3:W.heap.size≤w3.heap.size:=Nat.le_trans hsz hgr.size
      rcases hq with ⟨hv,hJ2,hK⟩ | ⟨hv,hJ2⟩
      · cases hv
        have hA2:=hA.again (d:=17) rfl (v:=.bool true) hK;obtain ⟨env2,H2,hA2⟩:=hA2;refine xl_run zv (c:=true) rfl rfl hA2 fun env3 H3 a3 w5 hA3=>?_
        have hA4:AJ cx B 19 _ w4 a3 w5:=⟨env3,H3,hA3⟩
        refine aj_cond hA4 rfl (fun hc=>by cases hc) (fun _=>c_skip ?_);refine aj_region zv rfl (by simp [zi,zk]; omega) hA4 fun a5 w6 hA5=>?_
        refine ⟨(pre++[i],w4),⟨hmap,by simp; omega,hJ2,Nat.le_trans hsz3 hK.size,hA5.weak ?_⟩,by simp; omega⟩;have e:((i.1:Nat):Int) - 1=(l.length:Int) - 1 - (pre++[i]).length:=by rw [← hi]; simp; omega
        rw [← e]
        repeat (first | exact SubL.nil | refine SubL.cons rfl ?_)
      · cases hv
        obtain ⟨env2,H2,hA⟩:=hA;have hS:=hA.stt.put 17 (.bool false) (by decide);refine qE (xg hS rfl rfl (by decide) (p_not hS rfl rfl w4) fun a' hS'=>x_end ?_);have hX:=(⟨hS',SH.start w4⟩:Sym 19 [] _ _ w4 [] a' w4)
        refine c_cond hX rfl (fun _=>c_ret ?_) (fun hc=>by cases hc);simp only [Exit.then,Exit.inBlock];exact f_endI hX rfl ⟨⟨_,rfl⟩,.inr ⟨pre++[i],trivial,hJ2⟩⟩
  · have hlt:pre.length=l.length:=by have h5:=hc; simp at h5; omega
    simp only [Exit.then,Exit.inBlock,if_true];have hgr:=hA.grown;obtain ⟨env2,H2,hA⟩:=hA;have hX:=(⟨hA.stt,SH.start w2⟩:Sym 19 [] _ _ w2 [] a w2)
    exact f_endN hX rfl ⟨⟨_,rfl⟩,.inl ⟨pre,by show pre.map _=_; rw [hpre,hlt,List.take_of_length_le (by simp)],abide hsz hJ1 hgr⟩⟩
theorem backward_ok (l:List Int) (cap:Option Nat):AC cx 29 [.c (.lst (.int .i64) l cap)] [] (fun sv h=>sv=.c (.fn 60 [.fz G3 l])∧h=[]):=by
  refine zE zv Tryd.func29 rfl Tryd.ntmps29 rfl rfl (res:=[.tmp 2]) rfl<|zu<|zq<|zj zv rfl (by first | rfl | (simp only [zi,zk,ze,GTy.zero,Bool.and_eq_true,Bool.or_eq_true,Bool.not_eq_true',Bool.and_true,Bool.true_and,Bool.or_true,Bool.true_or,decide_eq_true_eq,decide_eq_false_iff_not,true_and,and_true]; omega) | (simp [zi,zk,ze,GTy.zero]; omega) | (simp [zi,zk,ze,GTy.zero])) ?_
  refine zu<|zb (Wk.frzC 1 G3 rfl rfl rfl)<|zq<|zj zv rfl (by first | rfl | (simp only [zi,zk,ze,GTy.zero,Bool.and_eq_true,Bool.or_eq_true,Bool.not_eq_true',Bool.and_true,Bool.true_and,Bool.or_true,Bool.true_or,decide_eq_true_eq,decide_eq_false_iff_not,true_and,and_true]; omega) | (simp [zi,zk,ze,GTy.zero]; omega) | (simp [zi,zk,ze,GTy.zero])) ?_
  refine zh<|⟨_,Wk.sub (st':=⟨[(2,_)],[]⟩) (SubL.cons rfl SubL.nil) SubH.nil,_,_,rfl,rfl,?_⟩
  exact ⟨rfl,rfl⟩
end Go.Proofs.YtihcolehefloeaaDoor

/- shifts.Shift: plain. -/
namespace Go.Proofs.YtihcolehefloeaaDoor
open Go.RowKit
theorem getD_all {p:Int→Prop} (l:List Int) (h:∀ k∈l,p k) (h0:p 0) (i:Nat):p (l.getD i 0):=by
  rw [List.getD_eq_getElem?_getD];cases hi:l[i]? with
  | none=>exact h0
  | some v=>exact h v (List.mem_of_getElem? hi)
theorem turnOps_le (ops:List qx) (a b:Int):(qr ops a b).length≤ops.length+1:=by
  unfold qr
  split
  · omega
  · simp
theorem moveF_bounds:∀ (f:Nat) (ops:List qx) (rack:Int) (l:List Int) (d:Int),(∀ k∈l,k.natAbs+d.natAbs≤1100)→d.natAbs≤100→-2000≤rack∧rack≤2000 →
    (moveF f ops rack l d).1.length≤ops.length+f * (2 * l.length+2)∧-2000≤(moveF f ops rack l d).2∧(moveF f ops rack l d).2≤2000
  | 0,ops,rack,l,d,_,_,hr=>by simp [moveF]; exact hr
  | f+1,ops,rack,l,d,hk,hd,hr=>by
    unfold moveF
    split
    · exact ⟨by simp,hr⟩
    · rename_i hd0
      obtain ⟨hb1,hb2,_,hb4⟩:=byOf_bounds d;have hb5:=hb4 hd0;have hsg:(xZ d).natAbs+(d - xZ d).natAbs=d.natAbs:=by
        unfold xZ imax imin
        split <;> split <;> omega
      have hrr:=rackFor_bounds rack (xZ d) (l.getD (0:Int).toNat 0) (l.getD ((l.length:Int) - 1).toNat 0) ⟨hb1,hb2⟩ (getD_all (p:=fun k=>-1200≤k∧k≤1200) l (fun k h=>by have:=hk k h; omega) (by omega) _);have hrr':-4≤rOf rack l d∧rOf rack l d≤1200:=hrr;have ih:=moveF_bounds f (qr (qr ops rack (rOf rack l d)++yr 0 0 l) (rOf rack l d) (rOf rack l d+xZ d)++yr 1 (rOf rack l d) l) (rOf rack l d+xZ d) (l.map (·+xZ d)) (d - xZ d) (fun k h=>by
        obtain ⟨q,hq,rfl⟩:=List.mem_map.1 h
        have:=hk q hq
        omega) (by omega) (by omega)
      refine ⟨?_,ih.2⟩;have h1:=turnOps_le ops rack (rOf rack l d);have h2:=turnOps_le (qr ops rack (rOf rack l d)++yr 0 0 l) (rOf rack l d) (rOf rack l d+xZ d);have h3:=ih.1;rw [List.length_append,xfers_length] at h2 h3;rw [List.length_map] at h3;rw [Nat.succ_mul];omega
theorem moveAll_bounds (ops:List qx) (rack:Int) (l:List Int) (d:Int) (hk:∀ k∈l,1≤k∧k≤40) (hd:-40≤d∧d≤40) (hl:l.length≤40) (hr:-2000≤rack∧rack≤2000):(qm ops rack l d).1.length≤ops.length+3280∧-2000≤(qm ops rack l d).2∧(qm ops rack l d).2≤2000:=by
  have h:=moveF_bounds d.natAbs ops rack l d (fun k h=>by have:=hk k h; omega) (by omega) hr;refine ⟨Nat.le_trans h.1 ?_,h.2⟩;have h1:d.natAbs * (2 * l.length+2)≤40 * 82:=Nat.mul_le_mul (by omega) (by omega);omega
def yu (fr to:List Int):Nat→T6×T9
  | 0=>(([],0),([],[]))
  | i+1=>if i+1 < fr.length∧to.getD i 0=to.getD (i+1) 0 then (qm (yu fr to i).1.1 (yu fr to i).1.2 [fr.getD i 0] (fr.getD (i+1) 0 - fr.getD i 0),(yu fr to i).2)
    else ((yu fr to i).1,((yu fr to i).2.1++[fr.getD i 0],(yu fr to i).2.2++[to.getD i 0 - fr.getD i 0]))
def stF (at_ by_:List Int):Nat→Int→List Int
  | 0,_=>[]
  | f+1,i=>if i < at_.length then i :: stF at_ by_ f (tog at_ by_ i) else []
def qh (at_ by_:List Int):List Int:=stF at_ by_ at_.length 0
def seg (at_ by_:List Int) (i:Int):List Int:=(at_.take (tog at_ by_ i).toNat).drop i.toNat
def qA (at_ by_:List Int) (p:List qx×Int) (i:Int):List qx×Int:=if 0 < by_.getD i.toNat 0 then qm p.1 p.2 (seg at_ by_ i) (by_.getD i.toNat 0) else p
def qV (at_ by_:List Int) (p:List qx×Int) (i:Int):List qx×Int:=if by_.getD i.toNat 0 < 0 then qm p.1 p.2 (seg at_ by_ i) (by_.getD i.toNat 0) else p
def planAB (p:List qx×Int) (at_ by_:List Int):List qx:=
  let p2:=(qh at_ by_).reverse.foldl (qA at_ by_) p
  let p3:=(qh at_ by_).foldl (qV at_ by_) p2
  qr p3.1 p3.2 0
def xr (fr to:List Int):List qx:=planAB (yu fr to fr.length).1 (yu fr to fr.length).2.1 (yu fr to fr.length).2.2
def toAt (l:List Int) (i:Int):Bool:=decide (1≤l.getD i.toNat 0)&&decide (l.getD i.toNat 0≤40)&&(decide (i≤0) || decide (l.getD (i - 1).toNat 0≤l.getD i.toNat 0))
def yl (l:List Int):Bool:=(List.range l.length).all fun i=>toAt l i
theorem chk_len (l:List Int) (h:qB l=true):l.length≤40:=by
  have hb:∀ i:Nat,i < l.length→1+(i:Int)≤l.getD i 0∧l.getD i 0≤40:=by
    intro i
    induction i with
    | zero=>
      intro hi
      have:=List.all_eq_true.1 h 0 (by simpa using hi)
      simp [okAt] at this
      simpa using this
    | succ i ih=>
      intro hi;have h1:=ih (by omega)
      have:=List.all_eq_true.1 h (i+1) (by simpa using hi)
      simp only [okAt,Bool.and_eq_true,Bool.or_eq_true,decide_eq_true_eq] at this;have e1:(((i+1:Nat):Int)).toNat=i+1:=by omega
      have e2:(((i+1:Nat):Int) - 1).toNat=i:=by omega
      rw [e1,e2] at this;omega
  by_cases hl:l.length=0
  · omega
  · have:=hb (l.length - 1) (by omega)
    omega
theorem chk_mem (l:List Int) (h:qB l=true):∀ i:Int,0≤i→i < l.length→1≤l.getD i.toNat 0∧l.getD i.toNat 0≤40:=by
  intro i h0 h1
  have:=List.all_eq_true.1 h i.toNat (by simp; omega)
  simp only [okAt,Bool.and_eq_true,decide_eq_true_eq,Int.toNat_of_nonneg h0] at this;exact this.1
theorem to_mem (l:List Int) (h:yl l=true):∀ i:Int,0≤i→i < l.length→1≤l.getD i.toNat 0∧l.getD i.toNat 0≤40:=by
  intro i h0 h1
  have:=List.all_eq_true.1 h i.toNat (by simp; omega)
  simp only [toAt,Bool.and_eq_true,decide_eq_true_eq,Int.toNat_of_nonneg h0] at this;exact this.1
theorem togF_bounds (at_ by_:List Int) (i:Int):∀ (f:Nat) (e:Int),e≤at_.length→e≤togF at_ by_ i f e∧togF at_ by_ i f e≤at_.length
  | 0,e,h=>⟨Int.le_refl _,h⟩
  | f+1,e,h=>by
    unfold togF
    split
    · rename_i h1
      have:=togF_bounds at_ by_ i f (e+1) (by omega)
      omega
    · exact ⟨Int.le_refl _,h⟩
theorem xM (at_ by_:List Int) (i:Int) (h1:i < at_.length):i < tog at_ by_ i∧tog at_ by_ i≤at_.length:=by
  have:=togF_bounds at_ by_ i at_.length (i+1) (by omega)
  unfold tog;omega
def Small (at_ by_:List Int):Prop:=(∀ k∈at_,1≤k∧k≤40)∧(∀ d∈by_, -40≤d∧d≤40)∧by_.length=at_.length∧at_.length≤40
def PB (k:Nat) (p:List qx×Int):Prop:=p.1.length≤3280 * k∧-2000≤p.2∧p.2≤2000
theorem PB.mono {k k':Nat} {p:List qx×Int} (h:PB k p) (hk:k≤k'):PB k' p:=⟨by have:=h.1; omega,h.2⟩
theorem st1_small (fr to:List Int) (hf:qB fr=true) (ht:yl to=true) (hl:to.length=fr.length):∀ i:Nat,i≤fr.length→(∀ k∈(yu fr to i).2.1,1≤k∧k≤40)∧(∀ d∈(yu fr to i).2.2, -40≤d∧d≤40)∧(yu fr to i).2.2.length=(yu fr to i).2.1.length∧(yu fr to i).2.1.length≤i
  | 0,_=>by simp [yu]
  | i+1,hi=>by
    obtain ⟨h1,h2,h3,h4⟩:=st1_small fr to hf ht hl i (by omega);unfold yu
    split
    · exact ⟨h1,h2,h3,by dsimp only; omega⟩
    · have a1:=chk_mem fr hf i (by omega) (by omega)
      have a2:=to_mem to ht i (by omega) (by omega);simp only [Int.toNat_natCast] at a1 a2;refine ⟨fun k hk=>?_,fun d hd=>?_,by simp [h3],by simp; omega⟩
      · rcases List.mem_append.1 hk with hk | hk
        · exact h1 k hk
        · simp only [List.mem_singleton] at hk; omega
      · rcases List.mem_append.1 hd with hd | hd
        · exact h2 d hd
        · simp only [List.mem_singleton] at hd; omega
theorem seg_facts (at_ by_:List Int) (hs:Small at_ by_) (i:Int) (h0:0≤i) (h1:i < at_.length):0 < (seg at_ by_ i).length∧(seg at_ by_ i).length≤40∧∀ k∈seg at_ by_ i,1≤k∧k≤40:=by
  have ht:=xM at_ by_ i h1;refine ⟨by simp [seg]; omega,by have:=hs.2.2.2; simp [seg]; omega,fun k hk=>hs.1 k (List.mem_of_mem_take (List.mem_of_mem_drop hk))⟩
theorem by_small (at_ by_:List Int) (hs:Small at_ by_) (i:Nat):-40≤by_.getD i 0∧by_.getD i 0≤40:=getD_all (p:=fun d=>-40≤d∧d≤40) by_ hs.2.1 (by omega) i
theorem moveSeg_PB (at_ by_:List Int) (hs:Small at_ by_) (i:Int) (h0:0≤i) (h1:i < at_.length) {k:Nat} {p:List qx×Int} (h:PB k p):PB (k+1) (qm p.1 p.2 (seg at_ by_ i) (by_.getD i.toNat 0)):=by
  obtain ⟨g1,g2,g3⟩:=seg_facts at_ by_ hs i h0 h1
  have:=moveAll_bounds p.1 p.2 (seg at_ by_ i) (by_.getD i.toNat 0) g3 (by_small at_ by_ hs _) g2 h.2
  refine ⟨?_,this.2⟩;have h2:=h.1;omega
theorem stepUp_PB (at_ by_:List Int) (hs:Small at_ by_) (i:Int) (h0:0≤i) (h1:i < at_.length) {k:Nat} {p:List qx×Int} (h:PB k p):PB (k+1) (qA at_ by_ p i):=by
  unfold qA
  split
  · exact moveSeg_PB at_ by_ hs i h0 h1 h
  · exact h.mono (by omega)
theorem stepDn_PB (at_ by_:List Int) (hs:Small at_ by_) (i:Int) (h0:0≤i) (h1:i < at_.length) {k:Nat} {p:List qx×Int} (h:PB k p):PB (k+1) (qV at_ by_ p i):=by
  unfold qV
  split
  · exact moveSeg_PB at_ by_ hs i h0 h1 h
  · exact h.mono (by omega)
end Go.Proofs.YtihcolehefloeaaDoor

/- shifts.Shift. -/
namespace Go.Proofs.YtihcolehefloeaaDoor
open Go.RowKit
def shiftR (fr to:List Int):SV:=
  if qB fr=false then .tup [.c (.val (.slice none 0 0)),.c (.val (.int .i64 1))]
  else if to.length≠fr.length then .tup [.c (.val (.slice none 0 0)),.c (.val (.int .i64 5))]
  else if yl to=false then .tup [.c (.val (.slice none 0 0)),.c (.val (.int .i64 1))]
  else .tup [.c (.lst qD (xr fr to) (some (xr fr to).length)),.c (.val (.int .i64 0))]
set_option maxHeartbeats 1000000 in
theorem shift_ok (fr to:List Int) (c1 c2:Option Nat) (h1:fr.length≤1000000) (h2:to.length≤1000000):AC cx 8 [.c (.lst (.int .i64) fr c1),.c (.lst (.int .i64) to c2)] [] (fun sv h=>sv=shiftR fr to∧h=[]):=by
  refine ac_bodyM zv Tryd.func8 rfl Tryd.ntmps8 rfl rfl (res:=[.tmp 4,.tmp 5]) rfl<|zu<|zq<|zj zv rfl rfl<|zu<|zu<|zq<|zl zv rfl rfl<|zo (check_ok fr c1 (by omega)) rfl ⟨rfl,rfl⟩ rfl Tryd.func26 rfl rfl rfl rfl rfl rfl ?_
  refine zj zv rfl rfl<|zu<|zq<|zj zv rfl rfl<|zJ rfl rfl (fun hc2=>?_) (fun hc2=>?_)
  ·
    refine zu<|zq<|zj zv rfl rfl<|zh<|⟨rfl,_,Wk.sub (st':=⟨[(4,_),(5,_)],[]⟩) (SubL.cons rfl (SubL.cons rfl SubL.nil)) SubH.nil,_,_,rfl,rfl,?_⟩
    have hf:qB fr=false:=by
      cases h:qB fr with
      | false=>rfl
      | true=>rw [h] at hc2; simp at hc2
    rw [shiftR,if_pos hf,hf];exact ⟨rfl,rfl⟩
  ·
    refine za<|zu<|zu ?_
    have hf:qB fr=true:=by
      cases h:qB fr with
      | true=>rfl
      | false=>rw [h] at hc2; simp at hc2
    have hf':¬ qB fr=false:=by rw [hf]; simp
    have hfl:=chk_len fr hf;refine zq<|zj zv rfl rfl<|zJ rfl rfl (fun hc4=>?_) (fun hc4=>?_)
    ·
      refine zu<|zq<|zj zv rfl rfl<|zh<|⟨rfl,_,Wk.sub (st':=⟨[(4,_),(5,_)],[]⟩) (SubL.cons rfl (SubL.cons rfl SubL.nil)) SubH.nil,_,_,rfl,rfl,?_⟩
      have hne:to.length≠fr.length:=by simp at hc4; omega
      rw [shiftR,if_neg hf',if_pos hne];exact ⟨rfl,rfl⟩
    ·
      refine za<|zu<|zu ?_
      have hlen:to.length=fr.length:=by simp at hc4; omega
      refine zq<|zj zv rfl rfl<|zd<|zb (st':=⟨[(33,_),(0,_),(1,_),(31,_),(32,_)],[]⟩) (Wk.sub (SubL.cons rfl (SubL.cons rfl (SubL.cons rfl (SubL.cons rfl (SubL.cons rfl SubL.nil))))) SubH.nil)<|zp (fun x:Int=>[(33,.c (.val (.int .i64 x)))]) (fun x:Int=>[]) (fun x:Int=>0≤x∧x≤to.length∧∀ i:Nat,i < x→toAt to i=true) (fun x:Int=>(to.length - x).toNat) (0) (⟨by omega,by omega,fun i hi=>by omega⟩) ?_
      rintro x ⟨hx0,hx1,hx2⟩;refine zu<|zq<|zj zv rfl rfl<|zu<|zJ rfl rfl (fun hc7=>?_) (fun hc7=>?_)
      ·
        refine za<|zu<|zd<|zu ?_
        have hlt:x < to.length:=by simpa using hc7
        refine zq<|zj zv rfl (by simp only [zi,zk,ze,GTy.zero,Bool.and_eq_true,Bool.or_eq_true,Bool.not_eq_true',Bool.and_true,Bool.true_and,Bool.or_true,Bool.true_or,decide_eq_true_eq,decide_eq_false_iff_not,true_and,and_true]; omega) ?_
        refine zu<|zq<|zj zv rfl (by simp [zi,zk,ze,GTy.zero]; omega) ?_
        refine zJ rfl rfl (fun hc9=>?_) (fun hc9=>?_)
        ·
          refine zu<|zq<|zj zv rfl rfl<|zh<|⟨rfl,_,Wk.sub (st':=⟨[(4,_),(5,_)],[]⟩) (SubL.cons rfl (SubL.cons rfl SubL.nil)) SubH.nil,_,_,rfl,rfl,?_⟩
          have ht:yl to=false:=by
            rw [yl,List.all_eq_false];refine ⟨x.toNat,by simp; omega,?_⟩;rw [toAt,Int.toNat_of_nonneg hx0]
            simp [GTy.zero] at hc9 ⊢
            omega
          rw [shiftR,if_neg hf',if_neg (by omega),if_pos ht];exact ⟨rfl,rfl⟩
        ·
          refine za<|zq<|zj zv rfl (by simp only [zi,zk,ze,GTy.zero,Bool.and_eq_true,Bool.or_eq_true,Bool.not_eq_true',Bool.and_true,Bool.true_and,Bool.or_true,Bool.true_or,decide_eq_true_eq,decide_eq_false_iff_not,true_and,and_true]; omega) ?_
          have hnext:∀ i:Nat,(i:Int) < x+1→toAt to i=true:=by
            intro i hi
            by_cases hix:(i:Int) < x
            · exact hx2 i hix
            · have:(i:Int)=x:=by omega
              rw [toAt,this]
              simp [GTy.zero] at hc9 ⊢
              omega
          refine ⟨x+1,⟨by omega,by omega,fun i hi=>hnext i hi⟩,(by dsimp only; omega),Wk.sub (by repeat (first | exact SubL.nil | refine SubL.cons rfl ?_)) SubH.nil⟩
      ·
        refine zt<|zu ?_
        have ht:yl to=true:=by
          rw [yl,List.all_eq_true];intro i hi;have h5:¬ x < to.length:=by simpa using hc7
          exact hx2 i (by simp at hi; omega)
        clear hx2 hx1 hx0 hc7
        refine zq<|zj zv rfl rfl<|ax_mv 9 700009 rfl<|zb (Wk.nilC 700009 0 9 45 qD rfl)<|zu<|zq<|zj zv rfl rfl<|zb (Wk.nilC 10 0 12 3 (.int .i64) rfl)<|zb (Wk.nilC 11 0 13 3 (.int .i64) rfl)<|zu<|zu<|zq<|zj zv rfl rfl<|zd<|zb (st':=⟨[(60,_),(0,_),(1,_),(9,_),(10,_),(11,_),(58,_),(59,_)],[(700009,_),(9,_),(12,_),(13,_),(10,_),(11,_)]⟩) (Wk.sub (SubL.cons rfl (SubL.cons rfl (SubL.cons rfl (SubL.cons rfl (SubL.cons rfl (SubL.cons rfl (SubL.cons rfl (SubL.cons rfl SubL.nil)))))))) (SubH.cons rfl rfl (SubH.cons rfl rfl (SubH.cons rfl rfl (SubH.cons rfl rfl (SubH.cons rfl rfl (SubH.cons rfl rfl SubH.nil)))))))<|zp (fun y:Int×T6×T9=>[(60,.c (.val (.int .i64 y.1)))]) (fun y:Int×T6×T9=>[(700009,.cells 79 [.sl 9,.val (.int .i64 y.2.1.2)]),(9,.row 45 qD y.2.1.1 none),(12,.row 3 (.int .i64) y.2.2.1 none),(13,.row 3 (.int .i64) y.2.2.2 none),(10,.cells 42 [.sl 12]),(11,.cells 42 [.sl 13])]) (fun y:Int×T6×T9=>0≤y.1∧y.1≤fr.length∧yu fr to y.1.toNat=y.2∧y.2.1.1.length≤3280 * y.1.toNat∧-2000≤y.2.1.2∧y.2.1.2≤2000∧y.2.2.1.length≤y.1.toNat∧y.2.2.2.length=y.2.2.1.length) (fun y:Int×T6×T9=>(fr.length - y.1).toNat) ((0,(([],0),([],[])))) (⟨by simp,by simp,rfl,by simp,by simp,by simp,by simp,by simp⟩) ?_
        rintro ⟨x,⟨o,rk⟩,at_,by_⟩ ⟨hx0,hx1,hst,hol,hr1,hr2,hal,hbl⟩;refine zu<|zq<|zj zv rfl rfl<|zu<|zJ rfl rfl (fun hc15=>?_) (fun hc15=>?_)
        ·
          refine za<|zu<|zd<|zu ?_
          dsimp only at hx0 hx1 hst hol hr1 hr2 hal hbl;have hlt:x < fr.length:=by simpa using hc15
          refine zq<|zj zv rfl (by simp only [zi,zk,ze,GTy.zero,Bool.and_eq_true,Bool.or_eq_true,Bool.not_eq_true',Bool.and_true,Bool.true_and,Bool.or_true,Bool.true_or,decide_eq_true_eq,decide_eq_false_iff_not,true_and,and_true]; omega) ?_
          refine zu<|zu<|zI [] (by kernel_rfl) rfl (N:=17)<|zf (fuel:=0) (ds':=⟨#[true,true,true,true,true,true,true,true,true,true,true,true,true,true,true,true,true],true,true,true⟩) zv [(0,0),(1,0),(2,0),(3,0),(4,0),(5,0),(6,0),(7,0),(8,0),(9,1),(10,0),(11,0),(12,0),(13,0),(14,1),(15,0),(16,0)] (by kernel_rfl) rfl (by simp only [zi,zk,ze,GTy.zero,Bool.and_eq_true,Bool.or_eq_true,Bool.not_eq_true',Bool.and_true,Bool.true_and,Bool.or_true,Bool.true_or,decide_eq_true_eq,decide_eq_false_iff_not,true_and,and_true]; omega) ?_
          refine zm (by kernel_rfl)<|zb (st':=⟨[(0,.c (.lst (.int .i64) fr c1)),(1,.c (.lst (.int .i64) to c2)),(9,.c (.ptr 700009 0)),(10,.c (.ptr 10 0)),(11,.c (.ptr 11 0)),(12,.c (.val (.int .i64 x))),(13,.c (.val (.int .i64 (fr.getD x.toNat 0)))),(58,.c (.lst (.int .i64) fr c1)),(59,.c (.val (.int .i64 fr.length))),(60,.c (.val (.int .i64 x))),(61,_),(62,_),(63,_),(64,_),(65,_),(66,_),(67,_),(68,_),(69,_),(70,_),(71,_),(72,_),(73,_),(74,_),(75,_),(76,_),(77,_),(78,_),(79,_),(80,_),(81,_)],[(700009,.cells 79 [.sl 9,.val (.int .i64 rk)]),(9,.row 45 qD o none),(12,.row 3 (.int .i64) at_ none),(13,.row 3 (.int .i64) by_ none),(10,.cells 42 [.sl 12]),(11,.cells 42 [.sl 13])]⟩) (Wk.sub (SubL.cons rfl (SubL.cons rfl (SubL.cons rfl (SubL.cons rfl (SubL.cons rfl (SubL.cons rfl (SubL.cons rfl (SubL.cons rfl (SubL.cons rfl (SubL.cons rfl (SubL.cons rfl (SubL.cons rfl (SubL.cons rfl (SubL.cons rfl (SubL.cons rfl (SubL.cons rfl (SubL.cons rfl (SubL.cons rfl (SubL.cons rfl (SubL.cons rfl (SubL.cons rfl (SubL.cons rfl (SubL.cons rfl (SubL.cons rfl (SubL.cons rfl (SubL.cons rfl (SubL.cons rfl (SubL.cons rfl (SubL.cons rfl (SubL.cons rfl (SubL.cons rfl SubL.nil))))))))))))))))))))))))))))))) (SubH.cons rfl rfl (SubH.cons rfl rfl (SubH.cons rfl rfl (SubH.cons rfl rfl (SubH.cons rfl rfl (SubH.cons rfl rfl SubH.nil)))))))<|zJ rfl rfl (fun hc17=>?_) (fun hc17=>?_)
          ·
            refine zu ?_;have hcc:x+1 < fr.length∧to.getD x.toNat 0=to.getD (x+1).toNat 0:=by
              have h5:=hc17;simp only [GTy.zero,Bool.cond_false_right,Bool.and_eq_true,decide_eq_true_eq] at h5;exact h5
            have hk1:=chk_mem fr hf x hx0 hlt;have hk2:=chk_mem fr hf (x+1) (by omega) hcc.1;have hseg:(fr.take (x+1).toNat).drop x.toNat=[fr.getD x.toNat 0]:=by
              rw [take_next _ _ hx0 hlt,List.drop_append_of_le_length (by simp; omega)]
              simp
            let nx:Int×T6×T9:=(x+1,(qm o rk ((fr.take (x+1).toNat).drop x.toNat) (fr.getD (x+1).toNat 0 - fr.getD x.toNat 0),(at_,by_)))
            have hn1:nx.1=x+1:=rfl;have exn:(x+1).toNat=x.toNat+1:=by omega
            have hmb:=moveAll_bounds o rk ((fr.take (x+1).toNat).drop x.toNat) (fr.getD (x+1).toNat 0 - fr.getD x.toNat 0) (by rw [hseg]; intro k hk; simp only [List.mem_singleton] at hk; omega) (by omega) (by rw [hseg]; simp) ⟨hr1,hr2⟩;have hnx:0≤nx.1∧nx.1≤fr.length∧yu fr to nx.1.toNat=nx.2∧nx.2.1.1.length≤3280 * nx.1.toNat∧-2000≤nx.2.1.2∧nx.2.1.2≤2000∧nx.2.2.1.length≤nx.1.toNat∧nx.2.2.2.length=nx.2.2.1.length:=by
              refine ⟨by show 0≤x+1; omega,by show x+1≤_; omega,?_,?_,hmb.2.1,hmb.2.2,?_,hbl⟩
              · show yu fr to (x+1).toNat=(qm o rk ((fr.take (x+1).toNat).drop x.toNat) (fr.getD (x+1).toNat 0 - fr.getD x.toNat 0),(at_,by_))
                rw [hseg,exn,yu,if_pos ⟨by omega,by rw [← exn]; exact hcc.2⟩,hst]
              · show (qm o rk ((fr.take (x+1).toNat).drop x.toNat) (fr.getD (x+1).toNat 0 - fr.getD x.toNat 0)).1.length≤3280 * (x+1).toNat
                omega
              · show at_.length≤(x+1).toNat
                omega
            refine zI [] (by kernel_rfl) rfl (N:=13)<|zf (fuel:=1) (ds':=⟨#[true,true,true,true,true,true,true,true,true,true,true,true,false],true,true,true⟩) zv [(0,0),(1,0),(2,0),(3,0),(4,0),(5,0),(6,0),(7,0),(8,0),(9,1),(10,0),(11,0)] (by kernel_rfl) rfl (by simp only [zi,zk,ze,GTy.zero,Bool.and_eq_true,Bool.or_eq_true,Bool.not_eq_true',Bool.and_true,Bool.true_and,Bool.or_true,Bool.true_or,decide_eq_true_eq,decide_eq_false_iff_not,true_and,and_true]; omega) ?_
            refine zg (by kernel_rfl) (zc (i:=12) ?_ zn);refine zP rfl<|zD (i:=12) (listed':=#[true,true,true,true,true,true,true,true,true,true,true,true,true]) (pre':=false) [(1000000,700009),(1000001,9)] (move_ok o rk ((fr.take (x+1).toNat).drop x.toNat) (fr.getD (x+1).toNat 0 - fr.getD x.toNat 0) (capLess c1 x.toNat) (by rw [hseg]; simp) (by rw [hseg]; simp) (by omega) (by omega) (by rw [hseg]; intro k hk; simp only [List.mem_singleton] at hk; omega) ⟨hr1,hr2⟩) rfl rfl rfl rfl ⟨rfl,rfl⟩ rfl Tryd.func27 rfl rfl rfl rfl rfl rfl (PassH.cons rfl rfl rfl (PassH.cons rfl rfl rfl PassH.nil)) ?_
            rintro _ _ ⟨rfl,rfl⟩;refine ⟨_,_,rfl,rfl,?_⟩;refine zm (by kernel_rfl)<|zt<|zq<|zj zv rfl (by simp only [zi,zk,ze,GTy.zero,Bool.and_eq_true,Bool.or_eq_true,Bool.not_eq_true',Bool.and_true,Bool.true_and,Bool.or_true,Bool.true_or,decide_eq_true_eq,decide_eq_false_iff_not,true_and,and_true]; omega) ?_
            refine ⟨nx,hnx,(by dsimp only; omega),Wk.sub (by repeat (first | exact SubL.nil | refine SubL.cons rfl ?_)) (SubH.cons rfl rfl (SubH.cons rfl rfl (SubH.cons rfl rfl (SubH.cons rfl rfl (SubH.cons rfl rfl (SubH.cons rfl rfl SubH.nil))))))⟩
          ·
            refine za ?_;have hcc:¬ (x+1 < fr.length∧to.getD x.toNat 0=to.getD (x+1).toNat 0):=by
              intro h6;have h5:=hc17;simp only [GTy.zero,Bool.cond_false_right,Bool.and_eq_false_iff,decide_eq_false_iff_not] at h5
              rcases h5 with h5 | h5
              · exact h5 h6.1
              · exact h5 h6.2
            have hk1:=chk_mem fr hf x hx0 hlt;have hk2:=to_mem to ht x hx0 (by omega)
            let nx:Int×T6×T9:=(x+1,((o,rk),(at_++[fr.getD x.toNat 0],by_++[to.getD x.toNat 0 - fr.getD x.toNat 0])))
            have hn1:nx.1=x+1:=rfl;have exn:(x+1).toNat=x.toNat+1:=by omega
            have hnx:0≤nx.1∧nx.1≤fr.length∧yu fr to nx.1.toNat=nx.2∧nx.2.1.1.length≤3280 * nx.1.toNat∧-2000≤nx.2.1.2∧nx.2.1.2≤2000∧nx.2.2.1.length≤nx.1.toNat∧nx.2.2.2.length=nx.2.2.1.length:=by
              refine ⟨by show 0≤x+1; omega,by show x+1≤_; omega,?_,?_,hr1,hr2,?_,?_⟩
              · show yu fr to (x+1).toNat=_
                rw [exn,yu,if_neg (fun h6=>hcc ⟨by omega,by rw [exn]; exact h6.2⟩),hst]
              · show o.length≤3280 * (x+1).toNat
                omega
              · show (at_++[_]).length≤(x+1).toNat
                rw [List.length_append,List.length_singleton];omega
              · show (by_++[_]).length=(at_++[_]).length
                rw [List.length_append,List.length_append,List.length_singleton,List.length_singleton,hbl]
            apply ax_cut
            ·
              refine zI [1,2,3,4,5,6,7,8,9,10,11] (by kernel_rfl) rfl (N:=15)<|zf (fuel:=6) (ds':=⟨#[true,true,false,false,true,true,true,true,true,true,true,false,false,false,false],true,true,true⟩) zv [(0,3),(1,0),(4,3),(5,0),(6,0),(7,0),(8,1),(9,0),(10,0)] (by kernel_rfl) rfl (by simp only [zi,zk,ze,GTy.zero,Bool.and_eq_true,Bool.or_eq_true,Bool.not_eq_true',Bool.and_true,Bool.true_and,Bool.or_true,Bool.true_or,decide_eq_true_eq,decide_eq_false_iff_not,true_and,and_true]; omega) ?_
              refine zg (by kernel_rfl) (zc (i:=2) ?_ (zc (i:=11) ?_ zn))
              ·
                refine xz zv (i:=2) rfl rfl rfl rfl rfl<|zg (by kernel_rfl) (zc (i:=3) ?_ (zc (i:=11) ?_ zn))
                ·
                  refine xz zv (i:=3) rfl rfl rfl (by simp [zi,zk,ze,GTy.zero]; omega) rfl ?_;refine zf (fuel:=0) (ds':=⟨#[true,true,true,true,true,true,true,true,true,true,true,true,true,true,true],false,false,true⟩) zv [(11,4),(12,2),(13,2),(14,2)] (by kernel_rfl) rfl (by simp [zi,zk,ze,GTy.zero]; omega) ?_;refine zm (by kernel_rfl) ?_;exact ⟨rfl,Wk.pick [0,1,9,10,11,12,13,58,59,60,61,62,63,64,65,66,67,68,69,70,71,72,73,74,75,76,77,78,79,80,81,95,97,98,99,100,101,102,103,104,106,107] [700009,9,10,11,12,13] rfl rfl⟩
                ·
                  refine xz zv (i:=11) rfl rfl rfl rfl rfl<|zf (fuel:=0) (ds':=⟨#[true,true,true,true,true,true,true,true,true,true,true,true,true,true,true],false,false,true⟩) zv [(3,4),(12,2),(13,2),(14,2)] (by kernel_rfl) rfl (by simp [zi,zk,ze,GTy.zero]; omega) ?_
                  refine zm (by kernel_rfl) ?_;exact ⟨rfl,Wk.pick [0,1,9,10,11,12,13,58,59,60,61,62,63,64,65,66,67,68,69,70,71,72,73,74,75,76,77,78,79,80,81,95,97,98,99,100,101,102,103,104,106,107] [700009,9,10,11,12,13] rfl rfl⟩
              ·
                refine xz zv (i:=11) rfl rfl rfl rfl rfl<|zf (fuel:=0) (ds':=⟨#[true,true,true,true,true,true,true,true,true,true,true,true,true,true,true],false,false,true⟩) zv [(2,4),(3,4),(12,2),(13,2),(14,2)] (by kernel_rfl) rfl (by simp [zi,zk,ze,GTy.zero]; omega) ?_
                refine zm (by kernel_rfl) ?_;exact ⟨rfl,Wk.pick [0,1,9,10,11,12,13,58,59,60,61,62,63,64,65,66,67,68,69,70,71,72,73,74,75,76,77,78,79,80,81,95,97,98,99,100,101,102,103,104,106,107] [700009,9,10,11,12,13] rfl rfl⟩
            refine zq<|zj zv rfl (by simp only [zi,zk,ze,GTy.zero,Bool.and_eq_true,Bool.or_eq_true,Bool.not_eq_true',Bool.and_true,Bool.true_and,Bool.or_true,Bool.true_or,decide_eq_true_eq,decide_eq_false_iff_not,true_and,and_true]; omega) ?_
            refine ⟨nx,hnx,(by dsimp only; omega),Wk.sub (by repeat (first | exact SubL.nil | refine SubL.cons rfl ?_)) (SubH.cons rfl rfl (SubH.cons rfl rfl (SubH.cons rfl rfl (SubH.cons rfl rfl (SubH.cons rfl rfl (SubH.cons rfl rfl SubH.nil))))))⟩
        ·
          refine zt<|zu ?_
          dsimp only at hx0 hx1 hst hol hr1 hr2 hal hbl;have hxe:x=fr.length:=by
            have h5:¬ x < fr.length:=by simpa using hc15
            omega
          have hst':yu fr to fr.length=((o,rk),at_,by_):=by rw [← hst,hxe]; simp
          have hsm:Small at_ by_:=by
            have h7:=st1_small fr to hf ht hlen fr.length (Nat.le_refl _);rw [hst'] at h7;exact ⟨h7.1,h7.2.1,h7.2.2.1,Nat.le_trans h7.2.2.2 hfl⟩
          have hpb:PB 40 (o,rk):=⟨by dsimp only; omega,hr1,hr2⟩
          have hbl':=hsm.2.2.1;have hal':=hsm.2.2.2
          clear hst hol hr1 hr2 hal hbl hc15 hx0 hx1 hc4
          refine zb (Wk.frz (id:=12) rfl)<|zb (Wk.frz (id:=13) rfl)<|zb (Wk.frzC 10 G3 rfl rfl rfl)<|zb (Wk.frzC 11 G3 rfl rfl rfl)<|zq<|zj zv rfl rfl<|ax_mv 14 700014 rfl<|zu<|zq<|zj zv rfl rfl<|zb (Wk.nil 15 15 3 (.int .i64) rfl rfl)<|zu<|zu<|zq<|zj zv rfl rfl<|zd<|zb (st':=⟨[(16,_),(15,_),(9,_),(10,_),(11,_),(14,_)],[(15,_),(700009,_),(9,_),(700014,_)]⟩) (Wk.sub (SubL.cons rfl (SubL.cons rfl (SubL.cons rfl (SubL.cons rfl (SubL.cons rfl (SubL.cons rfl SubL.nil)))))) (SubH.cons rfl rfl (SubH.cons rfl rfl (SubH.cons rfl rfl (SubH.cons rfl rfl SubH.nil)))))<|zp (fun y:Nat×Int×List Int=>[(16,.c (.val (.int .i64 y.2.1))),(15,.c (.sl 15))]) (fun y:Nat×Int×List Int=>[(15,.row 3 (.int .i64) y.2.2 none)]) (fun y:Nat×Int×List Int=>y.2.2++stF at_ by_ y.1 y.2.1=qh at_ by_∧0≤y.2.1∧(at_.length:Int)≤y.1+y.2.1∧(∀ k∈y.2.2,0≤k∧k < at_.length)∧y.2.2.length≤y.2.1.toNat∧y.2.1≤at_.length) (fun y:Nat×Int×List Int=>(at_.length - y.2.1).toNat) ((at_.length,0,[])) (⟨rfl,by simp,by simp,by simp,by simp,by simp⟩) ?_
          rintro ⟨f,i,l⟩ ⟨hl0,hi0,hfi,hlm,hll,hil⟩;refine zu<|zu ?_
          dsimp only at hl0 hi0 hfi hlm hll hil;refine zq<|zj zv rfl rfl<|zJ rfl rfl (fun hc24=>?_) (fun hc24=>?_)
          ·
            refine za<|zu<|zd ?_
            have hilt:i < at_.length:=by simpa using hc24
            have htb:=xM at_ by_ i hilt;refine zq<|zj zv rfl (by simp [zi,zk,ze,GTy.zero]; omega) ?_
            refine zq<|zl zv rfl rfl<|yC [] (tog_ok at_ by_ i hi0 hilt hbl' (by omega)) rfl ⟨rfl,rfl⟩ rfl rfl Tryd.func28 rfl rfl rfl rfl rfl rfl PassH.nil ?_
            rintro _ _ ⟨rfl,rfl⟩;refine ⟨_,_,rfl,rfl,?_⟩;refine zj zv rfl rfl ?_;have hl1:(l++[i])++stF at_ by_ (f - 1) (tog at_ by_ i)=qh at_ by_:=by
              rw [← hl0];obtain ⟨q,rfl⟩:∃ q,f=q+1:=⟨f - 1,by omega⟩
              rw [stF,if_pos hilt,Nat.add_sub_cancel,List.append_assoc]
              rfl
            refine ⟨(f - 1,tog at_ by_ i,l++[i]),⟨hl1,by dsimp only; omega,by dsimp only; omega,(by
  intro k hk
  rcases List.mem_append.1 hk with hk | hk
  · exact hlm k hk
  · simp only [List.mem_singleton] at hk; omega),by simp only [List.length_append,List.length_singleton]; omega,htb.2⟩,(by dsimp only; omega),Wk.sub (by repeat (first | exact SubL.nil | refine SubL.cons rfl ?_)) (SubH.cons rfl rfl (SubH.cons rfl rfl (SubH.cons rfl rfl (SubH.cons rfl rfl SubH.nil))))⟩
          ·
            refine zt<|zu<|zu ?_
            have hlst:l=qh at_ by_:=by
              have h5:¬ i < at_.length:=by simpa using hc24
              rw [← hl0];cases f with
              | zero=>simp [stF]
              | succ q=>rw [stF,if_neg h5]; simp
            have hlg:∀ j:Nat,j < l.length→0≤l.getD j 0∧l.getD j 0 < at_.length:=fun j hj=>hlm _ (by
              rw [List.getD_eq_getElem?_getD,List.getElem?_eq_getElem hj];exact List.getElem_mem hj)
            have hl40:l.length≤40:=by omega
            clear hc24 hi0 hfi hll hil hl0
            refine zb (Wk.frz (id:=15) rfl)<|zq<|zl zv rfl rfl<|zo (backward_ok l none) rfl ⟨rfl,rfl⟩ rfl Tryd.func29 rfl rfl rfl rfl rfl rfl<|zj zv rfl rfl<|zd<|zb (st':=⟨[(9,_),(10,_),(11,_),(14,_),(15,_),(122,_)],[(700009,_),(9,_),(700014,_)]⟩) (Wk.sub (SubL.cons rfl (SubL.cons rfl (SubL.cons rfl (SubL.cons rfl (SubL.cons rfl (SubL.cons rfl SubL.nil)))))) (SubH.cons rfl rfl (SubH.cons rfl rfl (SubH.cons rfl rfl SubH.nil))))<|ax_range (β:=List qx×Int) (ms:=[(18,124)]) (pl:=[123,124]) rfl rfl rfl Tryd.func60 rfl rfl (backward_it l (by omega)) (fun _=>rfl) rfl (Asg.region rfl) rfl rfl (fun _ _ y=>[(700009,.cells 79 [.sl 9,.val (.int .i64 y.2)]),(9,.row 45 qD y.1 none),(700014,.cells 81 [.fn 28 [.fz G3 at_,.fz G3 by_]])]) (fun e pre y=>e=.normal∧y=pre.foldl (fun p i=>qA at_ by_ p (l.getD ((i.1:Int)).toNat 0)) (o,rk)∧PB (40+pre.length) y) (fun _ _ _=>rfl) (o,rk) ⟨rfl,rfl,hpb⟩ rfl ?_ ?_ ?_
            ·
              rintro lb pre z ⟨o2,rk2⟩ ⟨-,hfold,hpb2⟩ hpre;have hz:=hlg z.1 z.2;have hz1:(l.getD ((z.1:Int)).toNat 0)=l.getD z.1 0:=by rw [Int.toNat_natCast]
              rw [← hz1] at hz;obtain ⟨hz2,hz3⟩:=hz;have htb:=xM at_ by_ (l.getD ((z.1:Int)).toNat 0) hz3;obtain ⟨hg1,hg2,hg3⟩:=seg_facts at_ by_ hsm _ hz2 hz3;have hbs:=by_small at_ by_ hsm (l.getD ((z.1:Int)).toNat 0).toNat;have hpb3:=stepUp_PB at_ by_ hsm _ hz2 hz3 hpb2;have hfold2:(pre++[z]).foldl (fun p i=>qA at_ by_ p (l.getD ((i.1:Int)).toNat 0)) (o,rk)=qA at_ by_ (o2,rk2) (l.getD ((z.1:Int)).toNat 0):=by rw [List.foldl_append,← hfold]; rfl
              have hol2:=hpb2.1;dsimp only at hol2;refine zd<|zu<|zq<|zj zv rfl (by simp only [zi,zk,ze,GTy.zero,Bool.and_eq_true,Bool.or_eq_true,Bool.not_eq_true',Bool.and_true,Bool.true_and,Bool.or_true,Bool.true_or,decide_eq_true_eq,decide_eq_false_iff_not,true_and,and_true]; omega) ?_
              refine zJ rfl rfl (fun hc29=>?_) (fun hc29=>?_)
              ·
                have hst3:qA at_ by_ (o2,rk2) (l.getD ((z.1:Int)).toNat 0)=qm o2 rk2 (seg at_ by_ (l.getD ((z.1:Int)).toNat 0)) (by_.getD (l.getD ((z.1:Int)).toNat 0).toNat 0):=by
                  rw [qA,if_pos (by simpa [GTy.zero] using hc29)]
                let nx:List qx×Int:=qm o2 rk2 (seg at_ by_ (l.getD ((z.1:Int)).toNat 0)) (by_.getD (l.getD ((z.1:Int)).toNat 0).toNat 0)
                have hnx:Exit.normal=Exit.normal∧nx=(pre++[z]).foldl (fun p i=>qA at_ by_ p (l.getD ((i.1:Int)).toNat 0)) (o,rk)∧PB (40+(pre++[z]).length) nx:=by
                  refine ⟨rfl,by rw [hfold2,hst3],?_⟩;rw [hst3] at hpb3;rw [List.length_append,List.length_singleton];exact hpb3
                refine zI [3,4,5,6,7,8,9] (by kernel_rfl) rfl (N:=11)<|zf (fuel:=3) (ds':=⟨#[true,true,true,true,false,false,true,true,true,true,false],true,true,true⟩) zv [(0,1),(1,0),(2,3),(3,0),(6,1),(7,0),(8,0),(9,1)] (by kernel_rfl) rfl (by simp only [zi,zk,ze,GTy.zero,Bool.and_eq_true,Bool.or_eq_true,Bool.not_eq_true',Bool.and_true,Bool.true_and,Bool.or_true,Bool.true_or,decide_eq_true_eq,decide_eq_false_iff_not,true_and,and_true]; omega) ?_
                refine zg (by kernel_rfl) (zc (i:=4) ?_ zn);refine zP rfl<|yL (i:=4) (listed':=#[true,true,true,true,true,false,true,true,true,true,false]) (pre':=true) [] (tog_ok at_ by_ (l.getD ((z.1:Int)).toNat 0) hz2 hz3 hbl' (by omega)) rfl rfl rfl rfl ⟨rfl,rfl⟩ rfl rfl Tryd.func28 rfl rfl rfl rfl rfl rfl PassH.nil ?_
                rintro _ _ ⟨rfl,rfl⟩;refine ⟨_,_,rfl,rfl,?_⟩;refine zf (fuel:=1) (ds':=⟨#[true,true,true,true,true,true,true,true,true,true,false],false,true,false⟩) zv [(5,0)] (by kernel_rfl) rfl (by simp only [zi,zk,ze,GTy.zero,Bool.and_eq_true,Bool.or_eq_true,Bool.not_eq_true',Bool.and_true,Bool.true_and,Bool.or_true,Bool.true_or,decide_eq_true_eq,decide_eq_false_iff_not,true_and,and_true]; omega) ?_;refine zg (by kernel_rfl) (zc (i:=10) ?_ zn);refine zP rfl<|zD (i:=10) (listed':=#[true,true,true,true,true,true,true,true,true,true,true]) (pre':=false) [(1000000,700009),(1000001,9)] (move_ok o2 rk2 (seg at_ by_ (l.getD ((z.1:Int)).toNat 0)) (by_.getD (l.getD ((z.1:Int)).toNat 0).toNat 0) (capLess none (l.getD ((z.1:Int)).toNat 0).toNat) hg1 (by omega) (by omega) (by omega) (fun k hk=>by have:=hg3 k hk; omega) hpb2.2) rfl rfl rfl rfl ⟨rfl,rfl⟩ rfl Tryd.func27 rfl rfl rfl rfl rfl rfl (PassH.cons rfl rfl rfl (PassH.cons rfl rfl rfl PassH.nil)) ?_
                rintro _ _ ⟨rfl,rfl⟩;refine ⟨_,_,rfl,rfl,?_⟩;refine zm (by kernel_rfl)<|⟨rfl,nx,hnx,[],Wk.sub SubL.nil (SubH.cons rfl rfl (SubH.cons rfl rfl (SubH.cons rfl rfl SubH.nil)))⟩
              ·
                have hst3:qA at_ by_ (o2,rk2) (l.getD ((z.1:Int)).toNat 0)=(o2,rk2):=by
                  rw [qA,if_neg (by simpa [GTy.zero] using hc29)]
                let nx:List qx×Int:=(o2,rk2)
                have hnx:Exit.normal=Exit.normal∧nx=(pre++[z]).foldl (fun p i=>qA at_ by_ p (l.getD ((i.1:Int)).toNat 0)) (o,rk)∧PB (40+(pre++[z]).length) nx:=by
                  refine ⟨rfl,by rw [hfold2,hst3],?_⟩;rw [hst3] at hpb3;rw [List.length_append,List.length_singleton];exact hpb3
                refine za<|⟨rfl,nx,hnx,[],Wk.sub SubL.nil (SubH.cons rfl rfl (SubH.cons rfl rfl (SubH.cons rfl rfl SubH.nil)))⟩
            ·
              rintro xs ⟨o2,rk2⟩ hS ⟨-,hfold,hpb2⟩;have hxl:xs.length=l.length:=by
                have:=congrArg List.length (show xs.map (·.1)=(List.range l.length).reverse from hS)
                simpa using this
              have hp2:(o2,rk2)=l.reverse.foldl (qA at_ by_) (o,rk):=by
                rw [hfold];have e1:xs.foldl (fun p i=>qA at_ by_ p (l.getD ((i.1:Int)).toNat 0)) (o,rk)=(xs.map (·.1)).foldl (fun p i=>qA at_ by_ p (l.getD i 0)) (o,rk):=by
                  rw [List.foldl_map]
                  rfl
                have e2:l.reverse=(List.range l.length).reverse.map (fun i=>l.getD i 0):=by
                  rw [List.map_reverse]
                  congr 1
                  apply List.ext_getElem
                  · simp
                  · intro i h1 h2
                    simp [List.getD_eq_getElem?_getD,List.getElem?_eq_getElem h1]
                rw [e1,show xs.map (·.1)=(List.range l.length).reverse from hS,e2,List.foldl_map]
              have hpb3:PB 80 (o2,rk2):=hpb2.mono (by omega);refine zu<|zu<|zq<|zj zv rfl rfl<|zd<|zb (st':=⟨[(143,_),(9,_),(10,_),(11,_),(14,_),(141,_),(142,_)],[(700009,_),(9,_),(700014,_)]⟩) (Wk.sub (SubL.cons rfl (SubL.cons rfl (SubL.cons rfl (SubL.cons rfl (SubL.cons rfl (SubL.cons rfl (SubL.cons rfl SubL.nil))))))) (SubH.cons rfl rfl (SubH.cons rfl rfl (SubH.cons rfl rfl SubH.nil))))<|zp (fun y:Int×T6=>[(143,.c (.val (.int .i64 y.1)))]) (fun y:Int×T6=>[(700009,.cells 79 [.sl 9,.val (.int .i64 y.2.2)]),(9,.row 45 qD y.2.1 none)]) (fun y:Int×T6=>0≤y.1∧y.1≤l.length∧y.2=(l.take y.1.toNat).foldl (qV at_ by_) (o2,rk2)∧PB (80+y.1.toNat) y.2) (fun y:Int×T6=>(l.length - y.1).toNat) ((0,(o2,rk2))) (⟨by simp,by simp,rfl,hpb3⟩) ?_
              rintro ⟨i,⟨o3,rk3⟩⟩ ⟨hi0,hi1,hfold3,hpb4⟩;refine zu<|zq<|zj zv rfl rfl<|zu<|zJ rfl rfl (fun hc32=>?_) (fun hc32=>?_)
              ·
                refine za<|zu<|zd<|zu ?_
                have hilt:i < l.length:=by simpa using hc32
                dsimp only at hi0 hi1 hfold3 hpb4;have hz:=hlg i.toNat (by omega);obtain ⟨hz2,hz3⟩:=hz;have htb:=xM at_ by_ (l.getD i.toNat 0) hz3;obtain ⟨hg1,hg2,hg3⟩:=seg_facts at_ by_ hsm _ hz2 hz3;have hbs:=by_small at_ by_ hsm (l.getD i.toNat 0).toNat;have hpb5:=stepDn_PB at_ by_ hsm _ hz2 hz3 hpb4;have hfold4:(l.take (i+1).toNat).foldl (qV at_ by_) (o2,rk2)=qV at_ by_ (o3,rk3) (l.getD i.toNat 0):=by rw [take_next _ _ hi0 hilt,List.foldl_append,← hfold3]; rfl
                have hol2:=hpb4.1;dsimp only at hol2;refine zq<|zj zv rfl (by simp only [zi,zk,ze,GTy.zero,Bool.and_eq_true,Bool.or_eq_true,Bool.not_eq_true',Bool.and_true,Bool.true_and,Bool.or_true,Bool.true_or,decide_eq_true_eq,decide_eq_false_iff_not,true_and,and_true]; omega) ?_
                refine zu<|zq<|zj zv rfl (by simp only [zi,zk,ze,GTy.zero,Bool.and_eq_true,Bool.or_eq_true,Bool.not_eq_true',Bool.and_true,Bool.true_and,Bool.or_true,Bool.true_or,decide_eq_true_eq,decide_eq_false_iff_not,true_and,and_true]; omega) ?_
                refine zJ rfl rfl (fun hc34=>?_) (fun hc34=>?_)
                ·
                  have hst3:qV at_ by_ (o3,rk3) (l.getD i.toNat 0)=qm o3 rk3 (seg at_ by_ (l.getD i.toNat 0)) (by_.getD (l.getD i.toNat 0).toNat 0):=by
                    rw [qV,if_pos (by simpa [GTy.zero] using hc34)]
                  let nx:Int×T6:=(i+1,qm o3 rk3 (seg at_ by_ (l.getD i.toNat 0)) (by_.getD (l.getD i.toNat 0).toNat 0))
                  have hn1:nx.1=i+1:=rfl;have hnx:0≤nx.1∧nx.1≤l.length∧nx.2=(l.take nx.1.toNat).foldl (qV at_ by_) (o2,rk2)∧PB (80+nx.1.toNat) nx.2:=by
                    refine ⟨by rw [hn1]; omega,by rw [hn1]; omega,?_,?_⟩
                    · rw [hn1,hfold4,hst3]
                    · rw [hst3] at hpb5
                      exact hpb5.mono (by rw [hn1]; omega)
                  refine zI [3,4,5,6,7,8,9] (by kernel_rfl) rfl (N:=11)<|zf (fuel:=3) (ds':=⟨#[true,true,true,true,false,false,true,true,true,true,false],true,true,true⟩) zv [(0,1),(1,0),(2,3),(3,0),(6,1),(7,0),(8,0),(9,1)] (by kernel_rfl) rfl (by simp only [zi,zk,ze,GTy.zero,Bool.and_eq_true,Bool.or_eq_true,Bool.not_eq_true',Bool.and_true,Bool.true_and,Bool.or_true,Bool.true_or,decide_eq_true_eq,decide_eq_false_iff_not,true_and,and_true]; omega) ?_
                  refine zg (by kernel_rfl) (zc (i:=4) ?_ zn);refine zP rfl<|yL (i:=4) (listed':=#[true,true,true,true,true,false,true,true,true,true,false]) (pre':=true) [] (tog_ok at_ by_ (l.getD i.toNat 0) hz2 hz3 hbl' (by omega)) rfl rfl rfl rfl ⟨rfl,rfl⟩ rfl rfl Tryd.func28 rfl rfl rfl rfl rfl rfl PassH.nil ?_
                  rintro _ _ ⟨rfl,rfl⟩;refine ⟨_,_,rfl,rfl,?_⟩;refine zf (fuel:=1) (ds':=⟨#[true,true,true,true,true,true,true,true,true,true,false],false,true,false⟩) zv [(5,0)] (by kernel_rfl) rfl (by simp only [zi,zk,ze,GTy.zero,Bool.and_eq_true,Bool.or_eq_true,Bool.not_eq_true',Bool.and_true,Bool.true_and,Bool.or_true,Bool.true_or,decide_eq_true_eq,decide_eq_false_iff_not,true_and,and_true]; omega) ?_;refine zg (by kernel_rfl) (zc (i:=10) ?_ zn);refine zP rfl<|zD (i:=10) (listed':=#[true,true,true,true,true,true,true,true,true,true,true]) (pre':=false) [(1000000,700009),(1000001,9)] (move_ok o3 rk3 (seg at_ by_ (l.getD i.toNat 0)) (by_.getD (l.getD i.toNat 0).toNat 0) (capLess none (l.getD i.toNat 0).toNat) hg1 (by omega) (by omega) (by omega) (fun k hk=>by have:=hg3 k hk; omega) hpb4.2) rfl rfl rfl rfl ⟨rfl,rfl⟩ rfl Tryd.func27 rfl rfl rfl rfl rfl rfl (PassH.cons rfl rfl rfl (PassH.cons rfl rfl rfl PassH.nil)) ?_
                  rintro _ _ ⟨rfl,rfl⟩;refine ⟨_,_,rfl,rfl,?_⟩;refine zm (by kernel_rfl)<|zq<|zj zv rfl (by simp only [zi,zk,ze,GTy.zero,Bool.and_eq_true,Bool.or_eq_true,Bool.not_eq_true',Bool.and_true,Bool.true_and,Bool.or_true,Bool.true_or,decide_eq_true_eq,decide_eq_false_iff_not,true_and,and_true]; omega) ?_
                  refine ⟨nx,hnx,(by dsimp only; omega),Wk.sub (by repeat (first | exact SubL.nil | refine SubL.cons rfl ?_)) (SubH.cons rfl rfl (SubH.cons rfl rfl (SubH.cons rfl rfl SubH.nil)))⟩
                ·
                  have hst3:qV at_ by_ (o3,rk3) (l.getD i.toNat 0)=(o3,rk3):=by
                    rw [qV,if_neg (by simpa [GTy.zero] using hc34)]
                  let nx:Int×T6:=(i+1,(o3,rk3))
                  have hn1:nx.1=i+1:=rfl;have hnx:0≤nx.1∧nx.1≤l.length∧nx.2=(l.take nx.1.toNat).foldl (qV at_ by_) (o2,rk2)∧PB (80+nx.1.toNat) nx.2:=by
                    refine ⟨by rw [hn1]; omega,by rw [hn1]; omega,?_,?_⟩
                    · rw [hn1,hfold4,hst3]
                    · rw [hst3] at hpb5
                      exact hpb5.mono (by rw [hn1]; omega)
                  refine za<|zq<|zj zv rfl (by simp only [zi,zk,ze,GTy.zero,Bool.and_eq_true,Bool.or_eq_true,Bool.not_eq_true',Bool.and_true,Bool.true_and,Bool.or_true,Bool.true_or,decide_eq_true_eq,decide_eq_false_iff_not,true_and,and_true]; omega) ?_
                  refine ⟨nx,hnx,(by dsimp only; omega),Wk.sub (by repeat (first | exact SubL.nil | refine SubL.cons rfl ?_)) (SubH.cons rfl rfl (SubH.cons rfl rfl (SubH.cons rfl rfl SubH.nil)))⟩
              ·
                refine zt<|zu ?_
                dsimp only at hi0 hi1 hfold3 hpb4;have hie:i=l.length:=by
                  have h5:¬ i < l.length:=by simpa using hc32
                  omega
                have hplan:xr fr to=qr o3 rk3 0:=by
                  rw [xr,hst'];have e3:(o3,rk3)=(qh at_ by_).foldl (qV at_ by_) ((qh at_ by_).reverse.foldl (qA at_ by_) (o,rk)):=by
                    rw [hfold3,hie,hp2,← hlst]
                    simp
                  show qr _ _ 0=_;rw [← e3]
                have hol2:=hpb4.1;dsimp only at hol2;refine zq<|qQ [(1000000,700009),(1000001,9)] (turn_ok o3 rk3 0 (by omega)) rfl ⟨rfl,rfl⟩ rfl Tryd.func30 rfl rfl rfl rfl rfl rfl (PassH.cons rfl rfl rfl (PassH.cons rfl rfl rfl PassH.nil)) ?_
                rintro _ _ ⟨rfl,rfl⟩;refine ⟨_,_,rfl,rfl,?_⟩;refine zj zv rfl rfl<|zu<|zb (Wk.frz (id:=9) rfl)<|zq<|zl zv rfl rfl<|zo (clip_ok _ none) rfl ⟨rfl,rfl⟩ rfl Tryd.func31 rfl rfl rfl rfl rfl rfl<|zj zv rfl rfl<|zh<|⟨rfl,_,Wk.sub (st':=⟨[(4,_),(5,_)],[]⟩) (SubL.cons rfl (SubL.cons rfl SubL.nil)) SubH.nil,_,_,rfl,rfl,?_⟩
                have hto:¬ yl to=false:=by rw [ht]; simp
                rw [shiftR,if_neg hf',if_neg (by omega),if_neg hto,hplan];exact ⟨rfl,rfl⟩
            ·
              rintro e c xs y he - ⟨rfl, -⟩;cases he
end Go.Proofs.YtihcolehefloeaaDoor

/- shifts.Shift: the places to which slots go are a row of the caller's own. -/
namespace Go.Proofs.YtihcolehefloeaaDoor
open Go.RowKit
set_option maxHeartbeats 1000000 in
theorem shift_own (fr to:List Int) (c1 c2:Option Nat) (h1:fr.length≤1000000) (h2:to.length≤1000000):AC cx 8 [.c (.lst (.int .i64) fr c1),.c (.sl 2000000)] [(2000000,.row 3 (.int .i64) to c2)] (fun sv h=>sv=shiftR fr to∧h=[(2000000,.row 3 (.int .i64) to c2)]):=by
  refine ac_bodyM zv Tryd.func8 rfl Tryd.ntmps8 rfl rfl (res:=[.tmp 4,.tmp 5]) rfl<|zu<|zq<|zj zv rfl rfl<|zu<|zu<|zq<|zl zv rfl rfl<|zo (check_ok fr c1 (by omega)) rfl ⟨rfl,rfl⟩ rfl Tryd.func26 rfl rfl rfl rfl rfl rfl ?_
  refine zj zv rfl rfl<|zu<|zq<|zj zv rfl rfl<|zJ rfl rfl (fun hc2=>?_) (fun hc2=>?_)
  ·
    refine zu<|zq<|zj zv rfl rfl<|zh<|⟨rfl,_,Wk.sub (st':=⟨[(4,_),(5,_)],[(2000000,_)]⟩) (SubL.cons rfl (SubL.cons rfl SubL.nil)) (SubH.cons rfl rfl SubH.nil),_,_,rfl,rfl,?_⟩
    have hf:qB fr=false:=by
      cases h:qB fr with
      | false=>rfl
      | true=>rw [h] at hc2; simp at hc2
    rw [shiftR,if_pos hf,hf];exact ⟨rfl,rfl⟩
  ·
    refine za<|zu<|zu ?_
    have hf:qB fr=true:=by
      cases h:qB fr with
      | true=>rfl
      | false=>rw [h] at hc2; simp at hc2
    have hf':¬ qB fr=false:=by rw [hf]; simp
    have hfl:=chk_len fr hf;refine zq<|zj zv rfl rfl<|zJ rfl rfl (fun hc4=>?_) (fun hc4=>?_)
    ·
      refine zu<|zq<|zj zv rfl rfl<|zh<|⟨rfl,_,Wk.sub (st':=⟨[(4,_),(5,_)],[(2000000,_)]⟩) (SubL.cons rfl (SubL.cons rfl SubL.nil)) (SubH.cons rfl rfl SubH.nil),_,_,rfl,rfl,?_⟩
      have hne:to.length≠fr.length:=by simp at hc4; omega
      rw [shiftR,if_neg hf',if_pos hne];exact ⟨rfl,rfl⟩
    ·
      refine za<|zu<|zu ?_
      have hlen:to.length=fr.length:=by simp at hc4; omega
      refine zq<|zj zv rfl rfl<|zd<|zb (st':=⟨[(33,_),(0,_),(1,_),(31,_),(32,_)],[(2000000,_)]⟩) (Wk.sub (SubL.cons rfl (SubL.cons rfl (SubL.cons rfl (SubL.cons rfl (SubL.cons rfl SubL.nil))))) (SubH.cons rfl rfl SubH.nil))<|zp (fun x:Int=>[(33,.c (.val (.int .i64 x)))]) (fun x:Int=>[]) (fun x:Int=>0≤x∧x≤to.length∧∀ i:Nat,i < x→toAt to i=true) (fun x:Int=>(to.length - x).toNat) (0) (⟨by omega,by omega,fun i hi=>by omega⟩) ?_
      rintro x ⟨hx0,hx1,hx2⟩;refine zu<|zq<|zj zv rfl rfl<|zu<|zJ rfl rfl (fun hc7=>?_) (fun hc7=>?_)
      ·
        refine za<|zu<|zd<|zu ?_
        have hlt:x < to.length:=by simpa using hc7
        refine zq<|zj zv rfl (by simp only [zi,zk,ze,GTy.zero,Bool.and_eq_true,Bool.or_eq_true,Bool.not_eq_true',Bool.and_true,Bool.true_and,Bool.or_true,Bool.true_or,decide_eq_true_eq,decide_eq_false_iff_not,true_and,and_true]; omega) ?_
        refine zu<|zq<|zj zv rfl (by simp [zi,zk,ze,GTy.zero]; omega) ?_
        refine zJ rfl rfl (fun hc9=>?_) (fun hc9=>?_)
        ·
          refine zu<|zq<|zj zv rfl rfl<|zh<|⟨rfl,_,Wk.sub (st':=⟨[(4,_),(5,_)],[(2000000,_)]⟩) (SubL.cons rfl (SubL.cons rfl SubL.nil)) (SubH.cons rfl rfl SubH.nil),_,_,rfl,rfl,?_⟩
          have ht:yl to=false:=by
            rw [yl,List.all_eq_false];refine ⟨x.toNat,by simp; omega,?_⟩;rw [toAt,Int.toNat_of_nonneg hx0]
            simp [GTy.zero] at hc9 ⊢
            omega
          rw [shiftR,if_neg hf',if_neg (by omega),if_pos ht];exact ⟨rfl,rfl⟩
        ·
          refine za<|zq<|zj zv rfl (by simp only [zi,zk,ze,GTy.zero,Bool.and_eq_true,Bool.or_eq_true,Bool.not_eq_true',Bool.and_true,Bool.true_and,Bool.or_true,Bool.true_or,decide_eq_true_eq,decide_eq_false_iff_not,true_and,and_true]; omega) ?_
          have hnext:∀ i:Nat,(i:Int) < x+1→toAt to i=true:=by
            intro i hi
            by_cases hix:(i:Int) < x
            · exact hx2 i hix
            · have:(i:Int)=x:=by omega
              rw [toAt,this]
              simp [GTy.zero] at hc9 ⊢
              omega
          refine ⟨x+1,⟨by omega,by omega,fun i hi=>hnext i hi⟩,(by dsimp only; omega),Wk.sub (by repeat (first | exact SubL.nil | refine SubL.cons rfl ?_)) (SubH.cons rfl rfl SubH.nil)⟩
      ·
        refine zt<|zu ?_
        have ht:yl to=true:=by
          rw [yl,List.all_eq_true];intro i hi;have h5:¬ x < to.length:=by simpa using hc7
          exact hx2 i (by simp at hi; omega)
        clear hx2 hx1 hx0 hc7
        refine zq<|zj zv rfl rfl<|ax_mv 9 700009 rfl<|zb (Wk.nilC 700009 0 9 45 qD rfl)<|zu<|zq<|zj zv rfl rfl<|zb (Wk.nilC 10 0 12 3 (.int .i64) rfl)<|zb (Wk.nilC 11 0 13 3 (.int .i64) rfl)<|zu<|zu<|zq<|zj zv rfl rfl<|zd<|zb (st':=⟨[(60,_),(0,_),(1,_),(9,_),(10,_),(11,_),(58,_),(59,_)],[(700009,_),(9,_),(12,_),(13,_),(10,_),(11,_),(2000000,_)]⟩) (Wk.sub (SubL.cons rfl (SubL.cons rfl (SubL.cons rfl (SubL.cons rfl (SubL.cons rfl (SubL.cons rfl (SubL.cons rfl (SubL.cons rfl SubL.nil)))))))) (SubH.cons rfl rfl (SubH.cons rfl rfl (SubH.cons rfl rfl (SubH.cons rfl rfl (SubH.cons rfl rfl (SubH.cons rfl rfl (SubH.cons rfl rfl SubH.nil))))))))<|zp (fun y:Int×T6×T9=>[(60,.c (.val (.int .i64 y.1)))]) (fun y:Int×T6×T9=>[(700009,.cells 79 [.sl 9,.val (.int .i64 y.2.1.2)]),(9,.row 45 qD y.2.1.1 none),(12,.row 3 (.int .i64) y.2.2.1 none),(13,.row 3 (.int .i64) y.2.2.2 none),(10,.cells 42 [.sl 12]),(11,.cells 42 [.sl 13])]) (fun y:Int×T6×T9=>0≤y.1∧y.1≤fr.length∧yu fr to y.1.toNat=y.2∧y.2.1.1.length≤3280 * y.1.toNat∧-2000≤y.2.1.2∧y.2.1.2≤2000∧y.2.2.1.length≤y.1.toNat∧y.2.2.2.length=y.2.2.1.length) (fun y:Int×T6×T9=>(fr.length - y.1).toNat) ((0,(([],0),([],[])))) (⟨by simp,by simp,rfl,by simp,by simp,by simp,by simp,by simp⟩) ?_
        rintro ⟨x,⟨o,rk⟩,at_,by_⟩ ⟨hx0,hx1,hst,hol,hr1,hr2,hal,hbl⟩;refine zu<|zq<|zj zv rfl rfl<|zu<|zJ rfl rfl (fun hc15=>?_) (fun hc15=>?_)
        ·
          refine za<|zu<|zd<|zu ?_
          dsimp only at hx0 hx1 hst hol hr1 hr2 hal hbl;have hlt:x < fr.length:=by simpa using hc15
          refine zq<|zj zv rfl (by simp only [zi,zk,ze,GTy.zero,Bool.and_eq_true,Bool.or_eq_true,Bool.not_eq_true',Bool.and_true,Bool.true_and,Bool.or_true,Bool.true_or,decide_eq_true_eq,decide_eq_false_iff_not,true_and,and_true]; omega) ?_
          refine zu<|zu ?_
          apply ax_cut
          ·
            refine zI [] (by kernel_rfl) rfl (N:=17)<|zf (fuel:=4) (ds':=⟨#[true,true,true,true,true,true,true,true,true,false,true,true,true,true,false,false,false],true,true,true⟩) zv [(0,0),(1,0),(2,0),(3,0),(4,0),(5,0),(6,0),(7,0),(8,0),(10,0),(11,0),(12,0),(13,0)] (by kernel_rfl) rfl (by simp only [zi,zk,ze,GTy.zero,Bool.and_eq_true,Bool.or_eq_true,Bool.not_eq_true',Bool.and_true,Bool.true_and,Bool.or_true,Bool.true_or,decide_eq_true_eq,decide_eq_false_iff_not,true_and,and_true]; omega) ?_
            refine zg (by kernel_rfl) (zc (i:=9) ?_ (zc (i:=14) ?_ zn))
            ·
              refine zC zv (i:=9) rfl rfl rfl (by simp only [zi,zk,ze,GTy.zero,Bool.and_eq_true,Bool.or_eq_true,Bool.not_eq_true',Bool.and_true,Bool.true_and,Bool.or_true,Bool.true_or,decide_eq_true_eq,decide_eq_false_iff_not,true_and,and_true]; omega) rfl ?_;refine zf (fuel:=0) (ds':=⟨#[true,true,true,true,true,true,true,true,true,true,true,true,true,true,true,true,true],false,false,true⟩) zv [(14,2),(15,0),(16,0)] (by kernel_rfl) rfl (by simp only [zi,zk,ze,GTy.zero,Bool.and_eq_true,Bool.or_eq_true,Bool.not_eq_true',Bool.and_true,Bool.true_and,Bool.or_true,Bool.true_or,decide_eq_true_eq,decide_eq_false_iff_not,true_and,and_true]; omega) ?_;refine zm (by kernel_rfl) ?_;exact ⟨rfl,Wk.pick [0,1,9,10,11,12,13,58,59,60,61,62,63,64,65,66,67,68,69,70,71,72,73,74,75,76,77,78,79,80,81] [700009,9,12,13,10,11,2000000] rfl rfl⟩
            ·
              refine zC zv (i:=14) rfl rfl rfl (by simp only [zi,zk,ze,GTy.zero,Bool.and_eq_true,Bool.or_eq_true,Bool.not_eq_true',Bool.and_true,Bool.true_and,Bool.or_true,Bool.true_or,decide_eq_true_eq,decide_eq_false_iff_not,true_and,and_true]; omega) rfl ?_;refine zf (fuel:=0) (ds':=⟨#[true,true,true,true,true,true,true,true,true,true,true,true,true,true,true,true,true],false,false,true⟩) zv [(9,2),(15,0),(16,0)] (by kernel_rfl) rfl (by simp only [zi,zk,ze,GTy.zero,Bool.and_eq_true,Bool.or_eq_true,Bool.not_eq_true',Bool.and_true,Bool.true_and,Bool.or_true,Bool.true_or,decide_eq_true_eq,decide_eq_false_iff_not,true_and,and_true]; omega) ?_;refine zm (by kernel_rfl) ?_;exact ⟨rfl,Wk.pick [0,1,9,10,11,12,13,58,59,60,61,62,63,64,65,66,67,68,69,70,71,72,73,74,75,76,77,78,79,80,81] [700009,9,12,13,10,11,2000000] rfl rfl⟩
          refine zJ rfl rfl (fun hc17=>?_) (fun hc17=>?_)
          ·
            refine zu ?_;have hcc:x+1 < fr.length∧to.getD x.toNat 0=to.getD (x+1).toNat 0:=by
              have h5:=hc17;simp only [GTy.zero,Bool.cond_false_right,Bool.and_eq_true,decide_eq_true_eq] at h5;exact h5
            have hk1:=chk_mem fr hf x hx0 hlt;have hk2:=chk_mem fr hf (x+1) (by omega) hcc.1;have hseg:(fr.take (x+1).toNat).drop x.toNat=[fr.getD x.toNat 0]:=by
              rw [take_next _ _ hx0 hlt,List.drop_append_of_le_length (by simp; omega)]
              simp
            let nx:Int×T6×T9:=(x+1,(qm o rk ((fr.take (x+1).toNat).drop x.toNat) (fr.getD (x+1).toNat 0 - fr.getD x.toNat 0),(at_,by_)))
            have hn1:nx.1=x+1:=rfl;have exn:(x+1).toNat=x.toNat+1:=by omega
            have hmb:=moveAll_bounds o rk ((fr.take (x+1).toNat).drop x.toNat) (fr.getD (x+1).toNat 0 - fr.getD x.toNat 0) (by rw [hseg]; intro k hk; simp only [List.mem_singleton] at hk; omega) (by omega) (by rw [hseg]; simp) ⟨hr1,hr2⟩;have hnx:0≤nx.1∧nx.1≤fr.length∧yu fr to nx.1.toNat=nx.2∧nx.2.1.1.length≤3280 * nx.1.toNat∧-2000≤nx.2.1.2∧nx.2.1.2≤2000∧nx.2.2.1.length≤nx.1.toNat∧nx.2.2.2.length=nx.2.2.1.length:=by
              refine ⟨by show 0≤x+1; omega,by show x+1≤_; omega,?_,?_,hmb.2.1,hmb.2.2,?_,hbl⟩
              · show yu fr to (x+1).toNat=(qm o rk ((fr.take (x+1).toNat).drop x.toNat) (fr.getD (x+1).toNat 0 - fr.getD x.toNat 0),(at_,by_))
                rw [hseg,exn,yu,if_pos ⟨by omega,by rw [← exn]; exact hcc.2⟩,hst]
              · show (qm o rk ((fr.take (x+1).toNat).drop x.toNat) (fr.getD (x+1).toNat 0 - fr.getD x.toNat 0)).1.length≤3280 * (x+1).toNat
                omega
              · show at_.length≤(x+1).toNat
                omega
            refine zI [] (by kernel_rfl) rfl (N:=13)<|zf (fuel:=1) (ds':=⟨#[true,true,true,true,true,true,true,true,true,true,true,true,false],true,true,true⟩) zv [(0,0),(1,0),(2,0),(3,0),(4,0),(5,0),(6,0),(7,0),(8,0),(9,1),(10,0),(11,0)] (by kernel_rfl) rfl (by simp only [zi,zk,ze,GTy.zero,Bool.and_eq_true,Bool.or_eq_true,Bool.not_eq_true',Bool.and_true,Bool.true_and,Bool.or_true,Bool.true_or,decide_eq_true_eq,decide_eq_false_iff_not,true_and,and_true]; omega) ?_
            refine zg (by kernel_rfl) (zc (i:=12) ?_ zn);refine zP rfl<|zD (i:=12) (listed':=#[true,true,true,true,true,true,true,true,true,true,true,true,true]) (pre':=false) [(1000000,700009),(1000001,9)] (move_ok o rk ((fr.take (x+1).toNat).drop x.toNat) (fr.getD (x+1).toNat 0 - fr.getD x.toNat 0) (capLess c1 x.toNat) (by rw [hseg]; simp) (by rw [hseg]; simp) (by omega) (by omega) (by rw [hseg]; intro k hk; simp only [List.mem_singleton] at hk; omega) ⟨hr1,hr2⟩) rfl rfl rfl rfl ⟨rfl,rfl⟩ rfl Tryd.func27 rfl rfl rfl rfl rfl rfl (PassH.cons rfl rfl rfl (PassH.cons rfl rfl rfl PassH.nil)) ?_
            rintro _ _ ⟨rfl,rfl⟩;refine ⟨_,_,rfl,rfl,?_⟩;refine zm (by kernel_rfl)<|zt<|zq<|zj zv rfl (by simp only [zi,zk,ze,GTy.zero,Bool.and_eq_true,Bool.or_eq_true,Bool.not_eq_true',Bool.and_true,Bool.true_and,Bool.or_true,Bool.true_or,decide_eq_true_eq,decide_eq_false_iff_not,true_and,and_true]; omega) ?_
            refine ⟨nx,hnx,(by dsimp only; omega),Wk.sub (by repeat (first | exact SubL.nil | refine SubL.cons rfl ?_)) (SubH.cons rfl rfl (SubH.cons rfl rfl (SubH.cons rfl rfl (SubH.cons rfl rfl (SubH.cons rfl rfl (SubH.cons rfl rfl (SubH.cons rfl rfl SubH.nil)))))))⟩
          ·
            refine za ?_;have hcc:¬ (x+1 < fr.length∧to.getD x.toNat 0=to.getD (x+1).toNat 0):=by
              intro h6;have h5:=hc17;simp only [GTy.zero,Bool.cond_false_right,Bool.and_eq_false_iff,decide_eq_false_iff_not] at h5
              rcases h5 with h5 | h5
              · exact h5 h6.1
              · exact h5 h6.2
            have hk1:=chk_mem fr hf x hx0 hlt;have hk2:=to_mem to ht x hx0 (by omega)
            let nx:Int×T6×T9:=(x+1,((o,rk),(at_++[fr.getD x.toNat 0],by_++[to.getD x.toNat 0 - fr.getD x.toNat 0])))
            have hn1:nx.1=x+1:=rfl;have exn:(x+1).toNat=x.toNat+1:=by omega
            have hnx:0≤nx.1∧nx.1≤fr.length∧yu fr to nx.1.toNat=nx.2∧nx.2.1.1.length≤3280 * nx.1.toNat∧-2000≤nx.2.1.2∧nx.2.1.2≤2000∧nx.2.2.1.length≤nx.1.toNat∧nx.2.2.2.length=nx.2.2.1.length:=by
              refine ⟨by show 0≤x+1; omega,by show x+1≤_; omega,?_,?_,hr1,hr2,?_,?_⟩
              · show yu fr to (x+1).toNat=_
                rw [exn,yu,if_neg (fun h6=>hcc ⟨by omega,by rw [exn]; exact h6.2⟩),hst]
              · show o.length≤3280 * (x+1).toNat
                omega
              · show (at_++[_]).length≤(x+1).toNat
                rw [List.length_append,List.length_singleton];omega
              · show (by_++[_]).length=(at_++[_]).length
                rw [List.length_append,List.length_append,List.length_singleton,List.length_singleton,hbl]
            apply ax_cut
            ·
              refine zI [0,1,2,3,4,5,6,7,8,9,10,11] (by kernel_rfl) rfl (N:=15)<|zf (fuel:=8) (ds':=⟨#[true,true,false,false,true,true,true,true,false,true,false,false,false,false,false],true,true,true⟩) zv [(0,3),(1,0),(4,3),(5,0),(6,0),(7,0),(9,0)] (by kernel_rfl) rfl (by simp only [zi,zk,ze,GTy.zero,GTy.size,List.length_singleton,Bool.and_eq_true,Bool.or_eq_true,Bool.not_eq_true',Bool.and_true,Bool.true_and,Bool.or_true,Bool.true_or,decide_eq_true_eq,decide_eq_false_iff_not,true_and,and_true]; omega) ?_
              refine zg (by kernel_rfl) (zc (i:=2) ?_ (zc (i:=8) ?_ zn))
              ·
                refine xz zv (i:=2) rfl rfl rfl rfl rfl<|zg (by kernel_rfl) (zc (i:=3) ?_ (zc (i:=8) ?_ zn))
                ·
                  refine xz zv (i:=3) rfl rfl rfl (by simp only [zi,zk,ze,GTy.zero,GTy.size,List.length_singleton,Bool.and_eq_true,Bool.or_eq_true,Bool.not_eq_true',Bool.and_true,Bool.true_and,Bool.or_true,Bool.true_or,decide_eq_true_eq,decide_eq_false_iff_not,true_and,and_true]; omega) rfl ?_;refine zf (fuel:=0) (ds':=⟨#[true,true,true,true,true,true,true,true,true,true,true,true,true,true,true],false,false,true⟩) zv [(8,4),(10,0),(11,4),(12,2),(13,2),(14,2)] (by kernel_rfl) rfl (by simp only [zi,zk,ze,GTy.zero,GTy.size,List.length_singleton,Bool.and_eq_true,Bool.or_eq_true,Bool.not_eq_true',Bool.and_true,Bool.true_and,Bool.or_true,Bool.true_or,decide_eq_true_eq,decide_eq_false_iff_not,true_and,and_true]; omega) ?_;refine zm (by kernel_rfl) ?_;exact ⟨rfl,Wk.pick [0,1,9,10,11,12,13,58,59,60,61,62,63,64,65,66,67,68,69,70,71,72,73,74,75,76,77,78,79,80,81,95,97,98,99,100,101,102,103,104,106,107] [2000000,700009,9,10,11,12,13] rfl rfl⟩
                ·
                  refine xz zv (i:=8) rfl rfl rfl (by simp only [zi,zk,ze,GTy.zero,GTy.size,List.length_singleton,Bool.and_eq_true,Bool.or_eq_true,Bool.not_eq_true',Bool.and_true,Bool.true_and,Bool.or_true,Bool.true_or,decide_eq_true_eq,decide_eq_false_iff_not,true_and,and_true]; omega) rfl ?_;refine zf (fuel:=5) (ds':=⟨#[true,true,true,false,true,true,true,true,true,true,true,false,false,false,false],false,true,true⟩) zv [(10,0)] (by kernel_rfl) rfl (by simp only [zi,zk,ze,GTy.zero,GTy.size,List.length_singleton,Bool.and_eq_true,Bool.or_eq_true,Bool.not_eq_true',Bool.and_true,Bool.true_and,Bool.or_true,Bool.true_or,decide_eq_true_eq,decide_eq_false_iff_not,true_and,and_true]; omega) ?_;refine zg (by kernel_rfl) (zc (i:=3) ?_ (zc (i:=11) ?_ zn))
                  ·
                    refine xz zv (i:=3) rfl rfl rfl (by simp only [zi,zk,ze,GTy.zero,GTy.size,List.length_singleton,Bool.and_eq_true,Bool.or_eq_true,Bool.not_eq_true',Bool.and_true,Bool.true_and,Bool.or_true,Bool.true_or,decide_eq_true_eq,decide_eq_false_iff_not,true_and,and_true]; omega) rfl ?_;refine zf (fuel:=0) (ds':=⟨#[true,true,true,true,true,true,true,true,true,true,true,true,true,true,true],false,false,true⟩) zv [(11,4),(12,2),(13,2),(14,2)] (by kernel_rfl) rfl (by simp only [zi,zk,ze,GTy.zero,GTy.size,List.length_singleton,Bool.and_eq_true,Bool.or_eq_true,Bool.not_eq_true',Bool.and_true,Bool.true_and,Bool.or_true,Bool.true_or,decide_eq_true_eq,decide_eq_false_iff_not,true_and,and_true]; omega) ?_;refine zm (by kernel_rfl) ?_;exact ⟨rfl,Wk.pick [0,1,9,10,11,12,13,58,59,60,61,62,63,64,65,66,67,68,69,70,71,72,73,74,75,76,77,78,79,80,81,95,97,98,99,100,101,102,103,104,106,107] [2000000,700009,9,10,11,12,13] rfl rfl⟩
                  ·
                    refine xz zv (i:=11) rfl rfl rfl rfl rfl<|zf (fuel:=0) (ds':=⟨#[true,true,true,true,true,true,true,true,true,true,true,true,true,true,true],false,false,true⟩) zv [(3,4),(12,2),(13,2),(14,2)] (by kernel_rfl) rfl (by simp only [zi,zk,ze,GTy.zero,GTy.size,List.length_singleton,Bool.and_eq_true,Bool.or_eq_true,Bool.not_eq_true',Bool.and_true,Bool.true_and,Bool.or_true,Bool.true_or,decide_eq_true_eq,decide_eq_false_iff_not,true_and,and_true]; omega) ?_
                    refine zm (by kernel_rfl) ?_;exact ⟨rfl,Wk.pick [0,1,9,10,11,12,13,58,59,60,61,62,63,64,65,66,67,68,69,70,71,72,73,74,75,76,77,78,79,80,81,95,97,98,99,100,101,102,103,104,106,107] [2000000,700009,9,10,11,12,13] rfl rfl⟩
              ·
                refine xz zv (i:=8) rfl rfl rfl (by simp only [zi,zk,ze,GTy.zero,GTy.size,List.length_singleton,Bool.and_eq_true,Bool.or_eq_true,Bool.not_eq_true',Bool.and_true,Bool.true_and,Bool.or_true,Bool.true_or,decide_eq_true_eq,decide_eq_false_iff_not,true_and,and_true]; omega) rfl ?_;refine zf (fuel:=6) (ds':=⟨#[true,true,false,false,true,true,true,true,true,true,true,false,false,false,false],false,true,true⟩) zv [(10,0)] (by kernel_rfl) rfl (by simp only [zi,zk,ze,GTy.zero,GTy.size,List.length_singleton,Bool.and_eq_true,Bool.or_eq_true,Bool.not_eq_true',Bool.and_true,Bool.true_and,Bool.or_true,Bool.true_or,decide_eq_true_eq,decide_eq_false_iff_not,true_and,and_true]; omega) ?_;refine zg (by kernel_rfl) (zc (i:=2) ?_ (zc (i:=11) ?_ zn))
                ·
                  refine xz zv (i:=2) rfl rfl rfl rfl rfl<|zg (by kernel_rfl) (zc (i:=3) ?_ (zc (i:=11) ?_ zn))
                  ·
                    refine xz zv (i:=3) rfl rfl rfl (by simp only [zi,zk,ze,GTy.zero,GTy.size,List.length_singleton,Bool.and_eq_true,Bool.or_eq_true,Bool.not_eq_true',Bool.and_true,Bool.true_and,Bool.or_true,Bool.true_or,decide_eq_true_eq,decide_eq_false_iff_not,true_and,and_true]; omega) rfl ?_;refine zf (fuel:=0) (ds':=⟨#[true,true,true,true,true,true,true,true,true,true,true,true,true,true,true],false,false,true⟩) zv [(11,4),(12,2),(13,2),(14,2)] (by kernel_rfl) rfl (by simp only [zi,zk,ze,GTy.zero,GTy.size,List.length_singleton,Bool.and_eq_true,Bool.or_eq_true,Bool.not_eq_true',Bool.and_true,Bool.true_and,Bool.or_true,Bool.true_or,decide_eq_true_eq,decide_eq_false_iff_not,true_and,and_true]; omega) ?_;refine zm (by kernel_rfl) ?_;exact ⟨rfl,Wk.pick [0,1,9,10,11,12,13,58,59,60,61,62,63,64,65,66,67,68,69,70,71,72,73,74,75,76,77,78,79,80,81,95,97,98,99,100,101,102,103,104,106,107] [2000000,700009,9,10,11,12,13] rfl rfl⟩
                  ·
                    refine xz zv (i:=11) rfl rfl rfl rfl rfl<|zf (fuel:=0) (ds':=⟨#[true,true,true,true,true,true,true,true,true,true,true,true,true,true,true],false,false,true⟩) zv [(3,4),(12,2),(13,2),(14,2)] (by kernel_rfl) rfl (by simp only [zi,zk,ze,GTy.zero,GTy.size,List.length_singleton,Bool.and_eq_true,Bool.or_eq_true,Bool.not_eq_true',Bool.and_true,Bool.true_and,Bool.or_true,Bool.true_or,decide_eq_true_eq,decide_eq_false_iff_not,true_and,and_true]; omega) ?_
                    refine zm (by kernel_rfl) ?_;exact ⟨rfl,Wk.pick [0,1,9,10,11,12,13,58,59,60,61,62,63,64,65,66,67,68,69,70,71,72,73,74,75,76,77,78,79,80,81,95,97,98,99,100,101,102,103,104,106,107] [2000000,700009,9,10,11,12,13] rfl rfl⟩
                ·
                  refine xz zv (i:=11) rfl rfl rfl rfl rfl<|zf (fuel:=0) (ds':=⟨#[true,true,true,true,true,true,true,true,true,true,true,true,true,true,true],false,false,true⟩) zv [(2,4),(3,4),(12,2),(13,2),(14,2)] (by kernel_rfl) rfl (by simp only [zi,zk,ze,GTy.zero,GTy.size,List.length_singleton,Bool.and_eq_true,Bool.or_eq_true,Bool.not_eq_true',Bool.and_true,Bool.true_and,Bool.or_true,Bool.true_or,decide_eq_true_eq,decide_eq_false_iff_not,true_and,and_true]; omega) ?_
                  refine zm (by kernel_rfl) ?_;exact ⟨rfl,Wk.pick [0,1,9,10,11,12,13,58,59,60,61,62,63,64,65,66,67,68,69,70,71,72,73,74,75,76,77,78,79,80,81,95,97,98,99,100,101,102,103,104,106,107] [2000000,700009,9,10,11,12,13] rfl rfl⟩
            refine zq<|zj zv rfl (by simp only [zi,zk,ze,GTy.zero,Bool.and_eq_true,Bool.or_eq_true,Bool.not_eq_true',Bool.and_true,Bool.true_and,Bool.or_true,Bool.true_or,decide_eq_true_eq,decide_eq_false_iff_not,true_and,and_true]; omega) ?_
            refine ⟨nx,hnx,(by dsimp only; omega),Wk.sub (by repeat (first | exact SubL.nil | refine SubL.cons rfl ?_)) (SubH.cons rfl rfl (SubH.cons rfl rfl (SubH.cons rfl rfl (SubH.cons rfl rfl (SubH.cons rfl rfl (SubH.cons rfl rfl (SubH.cons rfl rfl SubH.nil)))))))⟩
        ·
          refine zt<|zu ?_
          dsimp only at hx0 hx1 hst hol hr1 hr2 hal hbl;have hxe:x=fr.length:=by
            have h5:¬ x < fr.length:=by simpa using hc15
            omega
          have hst':yu fr to fr.length=((o,rk),at_,by_):=by rw [← hst,hxe]; simp
          have hsm:Small at_ by_:=by
            have h7:=st1_small fr to hf ht hlen fr.length (Nat.le_refl _);rw [hst'] at h7;exact ⟨h7.1,h7.2.1,h7.2.2.1,Nat.le_trans h7.2.2.2 hfl⟩
          have hpb:PB 40 (o,rk):=⟨by dsimp only; omega,hr1,hr2⟩
          have hbl':=hsm.2.2.1;have hal':=hsm.2.2.2
          clear hst hol hr1 hr2 hal hbl hc15 hx0 hx1 hc4
          refine zb (Wk.frz (id:=12) rfl)<|zb (Wk.frz (id:=13) rfl)<|zb (Wk.frzC 10 G3 rfl rfl rfl)<|zb (Wk.frzC 11 G3 rfl rfl rfl)<|zq<|zj zv rfl rfl<|ax_mv 14 700014 rfl<|zu<|zq<|zj zv rfl rfl<|zb (Wk.nil 15 15 3 (.int .i64) rfl rfl)<|zu<|zu<|zq<|zj zv rfl rfl<|zd<|zb (st':=⟨[(16,_),(15,_),(9,_),(10,_),(11,_),(14,_)],[(15,_),(700009,_),(9,_),(700014,_),(2000000,_)]⟩) (Wk.sub (SubL.cons rfl (SubL.cons rfl (SubL.cons rfl (SubL.cons rfl (SubL.cons rfl (SubL.cons rfl SubL.nil)))))) (SubH.cons rfl rfl (SubH.cons rfl rfl (SubH.cons rfl rfl (SubH.cons rfl rfl (SubH.cons rfl rfl SubH.nil))))))<|zp (fun y:Nat×Int×List Int=>[(16,.c (.val (.int .i64 y.2.1))),(15,.c (.sl 15))]) (fun y:Nat×Int×List Int=>[(15,.row 3 (.int .i64) y.2.2 none)]) (fun y:Nat×Int×List Int=>y.2.2++stF at_ by_ y.1 y.2.1=qh at_ by_∧0≤y.2.1∧(at_.length:Int)≤y.1+y.2.1∧(∀ k∈y.2.2,0≤k∧k < at_.length)∧y.2.2.length≤y.2.1.toNat∧y.2.1≤at_.length) (fun y:Nat×Int×List Int=>(at_.length - y.2.1).toNat) ((at_.length,0,[])) (⟨rfl,by simp,by simp,by simp,by simp,by simp⟩) ?_
          rintro ⟨f,i,l⟩ ⟨hl0,hi0,hfi,hlm,hll,hil⟩;refine zu<|zu ?_
          dsimp only at hl0 hi0 hfi hlm hll hil;refine zq<|zj zv rfl rfl<|zJ rfl rfl (fun hc24=>?_) (fun hc24=>?_)
          ·
            refine za<|zu<|zd ?_
            have hilt:i < at_.length:=by simpa using hc24
            have htb:=xM at_ by_ i hilt;refine zq<|zj zv rfl (by simp [zi,zk,ze,GTy.zero]; omega) ?_
            refine zq<|zl zv rfl rfl<|yC [] (tog_ok at_ by_ i hi0 hilt hbl' (by omega)) rfl ⟨rfl,rfl⟩ rfl rfl Tryd.func28 rfl rfl rfl rfl rfl rfl PassH.nil ?_
            rintro _ _ ⟨rfl,rfl⟩;refine ⟨_,_,rfl,rfl,?_⟩;refine zj zv rfl rfl ?_;have hl1:(l++[i])++stF at_ by_ (f - 1) (tog at_ by_ i)=qh at_ by_:=by
              rw [← hl0];obtain ⟨q,rfl⟩:∃ q,f=q+1:=⟨f - 1,by omega⟩
              rw [stF,if_pos hilt,Nat.add_sub_cancel,List.append_assoc]
              rfl
            refine ⟨(f - 1,tog at_ by_ i,l++[i]),⟨hl1,by dsimp only; omega,by dsimp only; omega,(by
  intro k hk
  rcases List.mem_append.1 hk with hk | hk
  · exact hlm k hk
  · simp only [List.mem_singleton] at hk; omega),by simp only [List.length_append,List.length_singleton]; omega,htb.2⟩,(by dsimp only; omega),Wk.sub (by repeat (first | exact SubL.nil | refine SubL.cons rfl ?_)) (SubH.cons rfl rfl (SubH.cons rfl rfl (SubH.cons rfl rfl (SubH.cons rfl rfl (SubH.cons rfl rfl SubH.nil)))))⟩
          ·
            refine zt<|zu<|zu ?_
            have hlst:l=qh at_ by_:=by
              have h5:¬ i < at_.length:=by simpa using hc24
              rw [← hl0];cases f with
              | zero=>simp [stF]
              | succ q=>rw [stF,if_neg h5]; simp
            have hlg:∀ j:Nat,j < l.length→0≤l.getD j 0∧l.getD j 0 < at_.length:=fun j hj=>hlm _ (by
              rw [List.getD_eq_getElem?_getD,List.getElem?_eq_getElem hj];exact List.getElem_mem hj)
            have hl40:l.length≤40:=by omega
            clear hc24 hi0 hfi hll hil hl0
            refine zb (Wk.frz (id:=15) rfl)<|zq<|zl zv rfl rfl<|zo (backward_ok l none) rfl ⟨rfl,rfl⟩ rfl Tryd.func29 rfl rfl rfl rfl rfl rfl<|zj zv rfl rfl<|zd<|zb (st':=⟨[(9,_),(10,_),(11,_),(14,_),(15,_),(122,_)],[(700009,_),(9,_),(700014,_),(2000000,_)]⟩) (Wk.sub (SubL.cons rfl (SubL.cons rfl (SubL.cons rfl (SubL.cons rfl (SubL.cons rfl (SubL.cons rfl SubL.nil)))))) (SubH.cons rfl rfl (SubH.cons rfl rfl (SubH.cons rfl rfl (SubH.cons rfl rfl SubH.nil)))))<|ax_range (β:=List qx×Int) (ms:=[(18,124)]) (pl:=[123,124]) rfl rfl rfl Tryd.func60 rfl rfl (backward_it l (by omega)) (fun _=>rfl) rfl (Asg.region rfl) rfl rfl (fun _ _ y=>[(700009,.cells 79 [.sl 9,.val (.int .i64 y.2)]),(9,.row 45 qD y.1 none),(700014,.cells 81 [.fn 28 [.fz G3 at_,.fz G3 by_]]),(2000000,.row 3 (.int .i64) to c2)]) (fun e pre y=>e=.normal∧y=pre.foldl (fun p i=>qA at_ by_ p (l.getD ((i.1:Int)).toNat 0)) (o,rk)∧PB (40+pre.length) y) (fun _ _ _=>rfl) (o,rk) ⟨rfl,rfl,hpb⟩ rfl ?_ ?_ ?_
            ·
              rintro lb pre z ⟨o2,rk2⟩ ⟨-,hfold,hpb2⟩ hpre;have hz:=hlg z.1 z.2;have hz1:(l.getD ((z.1:Int)).toNat 0)=l.getD z.1 0:=by rw [Int.toNat_natCast]
              rw [← hz1] at hz;obtain ⟨hz2,hz3⟩:=hz;have htb:=xM at_ by_ (l.getD ((z.1:Int)).toNat 0) hz3;obtain ⟨hg1,hg2,hg3⟩:=seg_facts at_ by_ hsm _ hz2 hz3;have hbs:=by_small at_ by_ hsm (l.getD ((z.1:Int)).toNat 0).toNat;have hpb3:=stepUp_PB at_ by_ hsm _ hz2 hz3 hpb2;have hfold2:(pre++[z]).foldl (fun p i=>qA at_ by_ p (l.getD ((i.1:Int)).toNat 0)) (o,rk)=qA at_ by_ (o2,rk2) (l.getD ((z.1:Int)).toNat 0):=by rw [List.foldl_append,← hfold]; rfl
              have hol2:=hpb2.1;dsimp only at hol2;refine zd<|zu<|zq<|zj zv rfl (by simp only [zi,zk,ze,GTy.zero,Bool.and_eq_true,Bool.or_eq_true,Bool.not_eq_true',Bool.and_true,Bool.true_and,Bool.or_true,Bool.true_or,decide_eq_true_eq,decide_eq_false_iff_not,true_and,and_true]; omega) ?_
              refine zJ rfl rfl (fun hc29=>?_) (fun hc29=>?_)
              ·
                have hst3:qA at_ by_ (o2,rk2) (l.getD ((z.1:Int)).toNat 0)=qm o2 rk2 (seg at_ by_ (l.getD ((z.1:Int)).toNat 0)) (by_.getD (l.getD ((z.1:Int)).toNat 0).toNat 0):=by
                  rw [qA,if_pos (by simpa [GTy.zero] using hc29)]
                let nx:List qx×Int:=qm o2 rk2 (seg at_ by_ (l.getD ((z.1:Int)).toNat 0)) (by_.getD (l.getD ((z.1:Int)).toNat 0).toNat 0)
                have hnx:Exit.normal=Exit.normal∧nx=(pre++[z]).foldl (fun p i=>qA at_ by_ p (l.getD ((i.1:Int)).toNat 0)) (o,rk)∧PB (40+(pre++[z]).length) nx:=by
                  refine ⟨rfl,by rw [hfold2,hst3],?_⟩;rw [hst3] at hpb3;rw [List.length_append,List.length_singleton];exact hpb3
                refine zI [3,4,5,6,7,8,9] (by kernel_rfl) rfl (N:=11)<|zf (fuel:=3) (ds':=⟨#[true,true,true,true,false,false,true,true,true,true,false],true,true,true⟩) zv [(0,1),(1,0),(2,3),(3,0),(6,1),(7,0),(8,0),(9,1)] (by kernel_rfl) rfl (by simp only [zi,zk,ze,GTy.zero,Bool.and_eq_true,Bool.or_eq_true,Bool.not_eq_true',Bool.and_true,Bool.true_and,Bool.or_true,Bool.true_or,decide_eq_true_eq,decide_eq_false_iff_not,true_and,and_true]; omega) ?_
                refine zg (by kernel_rfl) (zc (i:=4) ?_ zn);refine zP rfl<|yL (i:=4) (listed':=#[true,true,true,true,true,false,true,true,true,true,false]) (pre':=true) [] (tog_ok at_ by_ (l.getD ((z.1:Int)).toNat 0) hz2 hz3 hbl' (by omega)) rfl rfl rfl rfl ⟨rfl,rfl⟩ rfl rfl Tryd.func28 rfl rfl rfl rfl rfl rfl PassH.nil ?_
                rintro _ _ ⟨rfl,rfl⟩;refine ⟨_,_,rfl,rfl,?_⟩;refine zf (fuel:=1) (ds':=⟨#[true,true,true,true,true,true,true,true,true,true,false],false,true,false⟩) zv [(5,0)] (by kernel_rfl) rfl (by simp only [zi,zk,ze,GTy.zero,Bool.and_eq_true,Bool.or_eq_true,Bool.not_eq_true',Bool.and_true,Bool.true_and,Bool.or_true,Bool.true_or,decide_eq_true_eq,decide_eq_false_iff_not,true_and,and_true]; omega) ?_;refine zg (by kernel_rfl) (zc (i:=10) ?_ zn);refine zP rfl<|zD (i:=10) (listed':=#[true,true,true,true,true,true,true,true,true,true,true]) (pre':=false) [(1000000,700009),(1000001,9)] (move_ok o2 rk2 (seg at_ by_ (l.getD ((z.1:Int)).toNat 0)) (by_.getD (l.getD ((z.1:Int)).toNat 0).toNat 0) (capLess none (l.getD ((z.1:Int)).toNat 0).toNat) hg1 (by omega) (by omega) (by omega) (fun k hk=>by have:=hg3 k hk; omega) hpb2.2) rfl rfl rfl rfl ⟨rfl,rfl⟩ rfl Tryd.func27 rfl rfl rfl rfl rfl rfl (PassH.cons rfl rfl rfl (PassH.cons rfl rfl rfl PassH.nil)) ?_
                rintro _ _ ⟨rfl,rfl⟩;refine ⟨_,_,rfl,rfl,?_⟩;refine zm (by kernel_rfl)<|⟨rfl,nx,hnx,[],Wk.sub SubL.nil (SubH.cons rfl rfl (SubH.cons rfl rfl (SubH.cons rfl rfl (SubH.cons rfl rfl SubH.nil))))⟩
              ·
                have hst3:qA at_ by_ (o2,rk2) (l.getD ((z.1:Int)).toNat 0)=(o2,rk2):=by
                  rw [qA,if_neg (by simpa [GTy.zero] using hc29)]
                let nx:List qx×Int:=(o2,rk2)
                have hnx:Exit.normal=Exit.normal∧nx=(pre++[z]).foldl (fun p i=>qA at_ by_ p (l.getD ((i.1:Int)).toNat 0)) (o,rk)∧PB (40+(pre++[z]).length) nx:=by
                  refine ⟨rfl,by rw [hfold2,hst3],?_⟩;rw [hst3] at hpb3;rw [List.length_append,List.length_singleton];exact hpb3
                refine za<|⟨rfl,nx,hnx,[],Wk.sub SubL.nil (SubH.cons rfl rfl (SubH.cons rfl rfl (SubH.cons rfl rfl (SubH.cons rfl rfl SubH.nil))))⟩
            ·
              rintro xs ⟨o2,rk2⟩ hS ⟨-,hfold,hpb2⟩;have hxl:xs.length=l.length:=by
                have:=congrArg List.length (show xs.map (·.1)=(List.range l.length).reverse from hS)
                simpa using this
              have hp2:(o2,rk2)=l.reverse.foldl (qA at_ by_) (o,rk):=by
                rw [hfold];have e1:xs.foldl (fun p i=>qA at_ by_ p (l.getD ((i.1:Int)).toNat 0)) (o,rk)=(xs.map (·.1)).foldl (fun p i=>qA at_ by_ p (l.getD i 0)) (o,rk):=by
                  rw [List.foldl_map]
                  rfl
                have e2:l.reverse=(List.range l.length).reverse.map (fun i=>l.getD i 0):=by
                  rw [List.map_reverse]
                  congr 1
                  apply List.ext_getElem
                  · simp
                  · intro i h1 h2
                    simp [List.getD_eq_getElem?_getD,List.getElem?_eq_getElem h1]
                rw [e1,show xs.map (·.1)=(List.range l.length).reverse from hS,e2,List.foldl_map]
              have hpb3:PB 80 (o2,rk2):=hpb2.mono (by omega);refine zu<|zu<|zq<|zj zv rfl rfl<|zd<|zb (st':=⟨[(143,_),(9,_),(10,_),(11,_),(14,_),(141,_),(142,_)],[(700009,_),(9,_),(700014,_),(2000000,_)]⟩) (Wk.sub (SubL.cons rfl (SubL.cons rfl (SubL.cons rfl (SubL.cons rfl (SubL.cons rfl (SubL.cons rfl (SubL.cons rfl SubL.nil))))))) (SubH.cons rfl rfl (SubH.cons rfl rfl (SubH.cons rfl rfl (SubH.cons rfl rfl SubH.nil)))))<|zp (fun y:Int×T6=>[(143,.c (.val (.int .i64 y.1)))]) (fun y:Int×T6=>[(700009,.cells 79 [.sl 9,.val (.int .i64 y.2.2)]),(9,.row 45 qD y.2.1 none)]) (fun y:Int×T6=>0≤y.1∧y.1≤l.length∧y.2=(l.take y.1.toNat).foldl (qV at_ by_) (o2,rk2)∧PB (80+y.1.toNat) y.2) (fun y:Int×T6=>(l.length - y.1).toNat) ((0,(o2,rk2))) (⟨by simp,by simp,rfl,hpb3⟩) ?_
              rintro ⟨i,⟨o3,rk3⟩⟩ ⟨hi0,hi1,hfold3,hpb4⟩;refine zu<|zq<|zj zv rfl rfl<|zu<|zJ rfl rfl (fun hc32=>?_) (fun hc32=>?_)
              ·
                refine za<|zu<|zd<|zu ?_
                have hilt:i < l.length:=by simpa using hc32
                dsimp only at hi0 hi1 hfold3 hpb4;have hz:=hlg i.toNat (by omega);obtain ⟨hz2,hz3⟩:=hz;have htb:=xM at_ by_ (l.getD i.toNat 0) hz3;obtain ⟨hg1,hg2,hg3⟩:=seg_facts at_ by_ hsm _ hz2 hz3;have hbs:=by_small at_ by_ hsm (l.getD i.toNat 0).toNat;have hpb5:=stepDn_PB at_ by_ hsm _ hz2 hz3 hpb4;have hfold4:(l.take (i+1).toNat).foldl (qV at_ by_) (o2,rk2)=qV at_ by_ (o3,rk3) (l.getD i.toNat 0):=by rw [take_next _ _ hi0 hilt,List.foldl_append,← hfold3]; rfl
                have hol2:=hpb4.1;dsimp only at hol2;refine zq<|zj zv rfl (by simp only [zi,zk,ze,GTy.zero,Bool.and_eq_true,Bool.or_eq_true,Bool.not_eq_true',Bool.and_true,Bool.true_and,Bool.or_true,Bool.true_or,decide_eq_true_eq,decide_eq_false_iff_not,true_and,and_true]; omega) ?_
                refine zu<|zq<|zj zv rfl (by simp only [zi,zk,ze,GTy.zero,Bool.and_eq_true,Bool.or_eq_true,Bool.not_eq_true',Bool.and_true,Bool.true_and,Bool.or_true,Bool.true_or,decide_eq_true_eq,decide_eq_false_iff_not,true_and,and_true]; omega) ?_
                refine zJ rfl rfl (fun hc34=>?_) (fun hc34=>?_)
                ·
                  have hst3:qV at_ by_ (o3,rk3) (l.getD i.toNat 0)=qm o3 rk3 (seg at_ by_ (l.getD i.toNat 0)) (by_.getD (l.getD i.toNat 0).toNat 0):=by
                    rw [qV,if_pos (by simpa [GTy.zero] using hc34)]
                  let nx:Int×T6:=(i+1,qm o3 rk3 (seg at_ by_ (l.getD i.toNat 0)) (by_.getD (l.getD i.toNat 0).toNat 0))
                  have hn1:nx.1=i+1:=rfl;have hnx:0≤nx.1∧nx.1≤l.length∧nx.2=(l.take nx.1.toNat).foldl (qV at_ by_) (o2,rk2)∧PB (80+nx.1.toNat) nx.2:=by
                    refine ⟨by rw [hn1]; omega,by rw [hn1]; omega,?_,?_⟩
                    · rw [hn1,hfold4,hst3]
                    · rw [hst3] at hpb5
                      exact hpb5.mono (by rw [hn1]; omega)
                  refine zI [3,4,5,6,7,8,9] (by kernel_rfl) rfl (N:=11)<|zf (fuel:=3) (ds':=⟨#[true,true,true,true,false,false,true,true,true,true,false],true,true,true⟩) zv [(0,1),(1,0),(2,3),(3,0),(6,1),(7,0),(8,0),(9,1)] (by kernel_rfl) rfl (by simp only [zi,zk,ze,GTy.zero,Bool.and_eq_true,Bool.or_eq_true,Bool.not_eq_true',Bool.and_true,Bool.true_and,Bool.or_true,Bool.true_or,decide_eq_true_eq,decide_eq_false_iff_not,true_and,and_true]; omega) ?_
                  refine zg (by kernel_rfl) (zc (i:=4) ?_ zn);refine zP rfl<|yL (i:=4) (listed':=#[true,true,true,true,true,false,true,true,true,true,false]) (pre':=true) [] (tog_ok at_ by_ (l.getD i.toNat 0) hz2 hz3 hbl' (by omega)) rfl rfl rfl rfl ⟨rfl,rfl⟩ rfl rfl Tryd.func28 rfl rfl rfl rfl rfl rfl PassH.nil ?_
                  rintro _ _ ⟨rfl,rfl⟩;refine ⟨_,_,rfl,rfl,?_⟩;refine zf (fuel:=1) (ds':=⟨#[true,true,true,true,true,true,true,true,true,true,false],false,true,false⟩) zv [(5,0)] (by kernel_rfl) rfl (by simp only [zi,zk,ze,GTy.zero,Bool.and_eq_true,Bool.or_eq_true,Bool.not_eq_true',Bool.and_true,Bool.true_and,Bool.or_true,Bool.true_or,decide_eq_true_eq,decide_eq_false_iff_not,true_and,and_true]; omega) ?_;refine zg (by kernel_rfl) (zc (i:=10) ?_ zn);refine zP rfl<|zD (i:=10) (listed':=#[true,true,true,true,true,true,true,true,true,true,true]) (pre':=false) [(1000000,700009),(1000001,9)] (move_ok o3 rk3 (seg at_ by_ (l.getD i.toNat 0)) (by_.getD (l.getD i.toNat 0).toNat 0) (capLess none (l.getD i.toNat 0).toNat) hg1 (by omega) (by omega) (by omega) (fun k hk=>by have:=hg3 k hk; omega) hpb4.2) rfl rfl rfl rfl ⟨rfl,rfl⟩ rfl Tryd.func27 rfl rfl rfl rfl rfl rfl (PassH.cons rfl rfl rfl (PassH.cons rfl rfl rfl PassH.nil)) ?_
                  rintro _ _ ⟨rfl,rfl⟩;refine ⟨_,_,rfl,rfl,?_⟩;refine zm (by kernel_rfl)<|zq<|zj zv rfl (by simp only [zi,zk,ze,GTy.zero,Bool.and_eq_true,Bool.or_eq_true,Bool.not_eq_true',Bool.and_true,Bool.true_and,Bool.or_true,Bool.true_or,decide_eq_true_eq,decide_eq_false_iff_not,true_and,and_true]; omega) ?_
                  refine ⟨nx,hnx,(by dsimp only; omega),Wk.sub (by repeat (first | exact SubL.nil | refine SubL.cons rfl ?_)) (SubH.cons rfl rfl (SubH.cons rfl rfl (SubH.cons rfl rfl (SubH.cons rfl rfl SubH.nil))))⟩
                ·
                  have hst3:qV at_ by_ (o3,rk3) (l.getD i.toNat 0)=(o3,rk3):=by
                    rw [qV,if_neg (by simpa [GTy.zero] using hc34)]
                  let nx:Int×T6:=(i+1,(o3,rk3))
                  have hn1:nx.1=i+1:=rfl;have hnx:0≤nx.1∧nx.1≤l.length∧nx.2=(l.take nx.1.toNat).foldl (qV at_ by_) (o2,rk2)∧PB (80+nx.1.toNat) nx.2:=by
                    refine ⟨by rw [hn1]; omega,by rw [hn1]; omega,?_,?_⟩
                    · rw [hn1,hfold4,hst3]
                    · rw [hst3] at hpb5
                      exact hpb5.mono (by rw [hn1]; omega)
                  refine za<|zq<|zj zv rfl (by simp only [zi,zk,ze,GTy.zero,Bool.and_eq_true,Bool.or_eq_true,Bool.not_eq_true',Bool.and_true,Bool.true_and,Bool.or_true,Bool.true_or,decide_eq_true_eq,decide_eq_false_iff_not,true_and,and_true]; omega) ?_
                  refine ⟨nx,hnx,(by dsimp only; omega),Wk.sub (by repeat (first | exact SubL.nil | refine SubL.cons rfl ?_)) (SubH.cons rfl rfl (SubH.cons rfl rfl (SubH.cons rfl rfl (SubH.cons rfl rfl SubH.nil))))⟩
              ·
                refine zt<|zu ?_
                dsimp only at hi0 hi1 hfold3 hpb4;have hie:i=l.length:=by
                  have h5:¬ i < l.length:=by simpa using hc32
                  omega
                have hplan:xr fr to=qr o3 rk3 0:=by
                  rw [xr,hst'];have e3:(o3,rk3)=(qh at_ by_).foldl (qV at_ by_) ((qh at_ by_).reverse.foldl (qA at_ by_) (o,rk)):=by
                    rw [hfold3,hie,hp2,← hlst]
                    simp
                  show qr _ _ 0=_;rw [← e3]
                have hol2:=hpb4.1;dsimp only at hol2;refine zq<|qQ [(1000000,700009),(1000001,9)] (turn_ok o3 rk3 0 (by omega)) rfl ⟨rfl,rfl⟩ rfl Tryd.func30 rfl rfl rfl rfl rfl rfl (PassH.cons rfl rfl rfl (PassH.cons rfl rfl rfl PassH.nil)) ?_
                rintro _ _ ⟨rfl,rfl⟩;refine ⟨_,_,rfl,rfl,?_⟩;refine zj zv rfl rfl<|zu<|zb (Wk.frz (id:=9) rfl)<|zq<|zl zv rfl rfl<|zo (clip_ok _ none) rfl ⟨rfl,rfl⟩ rfl Tryd.func31 rfl rfl rfl rfl rfl rfl<|zj zv rfl rfl<|zh<|⟨rfl,_,Wk.sub (st':=⟨[(4,_),(5,_)],[(2000000,_)]⟩) (SubL.cons rfl (SubL.cons rfl SubL.nil)) (SubH.cons rfl rfl SubH.nil),_,_,rfl,rfl,?_⟩
                have hto:¬ yl to=false:=by rw [ht]; simp
                rw [shiftR,if_neg hf',if_neg (by omega),if_neg hto,hplan];exact ⟨rfl,rfl⟩
            ·
              rintro e c xs y he - ⟨rfl, -⟩;cases he
end Go.Proofs.YtihcolehefloeaaDoor

/- slices.Compact at a row of one's own. -/
namespace Go.Proofs
open Go.Shelf
def Tryd.laysCompact_ren:Go.Shelf.Ren:=⟨fun | 20=>47 | n=>n,fun | 22=>42 | 3=>3 | 4=>4 | 0=>0 | n=>n,fun | n=>n⟩
theorem Tryd.laysCompact:Go.Proofs.Lays2.n20 Tryd.prog Tryd.laysCompact_ren:={
  mixed:=by kernel_rfl
  f20:=Tryd.func47.trans (congrArg some (by kernel_rfl))
  t0:=Tryd.underlying0
  a0:=Tryd.isAgg0
  z0:=Tryd.sizeOf0
  v0:=Tryd.zeroValue0
  t3:=Tryd.underlying3
  a3:=Tryd.isAgg3
  z3:=Tryd.sizeOf3
  v3:=Tryd.zeroValue3
  t4:=Tryd.underlying4
  a4:=Tryd.isAgg4
  z4:=Tryd.sizeOf4
  v4:=Tryd.zeroValue4
  t22:=Tryd.underlying42
  a22:=Tryd.isAgg42
  z22:=Tryd.sizeOf42
  v22:=Tryd.zeroValue42
  i3:=by kernel_rfl }
end Go.Proofs
namespace Go.Proofs.YtihcolehefloeaaDoor
open Go.RowKit
theorem compactUpTo_le (d:Array Int) (m:Nat):(Lib.compactUpTo d m).length≤m:=by
  unfold Lib.compactUpTo;rw [List.length_map];exact Nat.le_trans (List.length_filter_le _ _) (by rw [List.length_range]; exact Nat.le_refl _)
theorem flat_mkInts {B:Nat→Prop} {w:World} {k:IntKind}:∀ l:List Int,Flat (FR B w (.int k)) l (l.map fun z=>Value.int k z)
  | []=>rfl
  | z :: l=>⟨[.int k z],_,rfl,rfl,flat_mkInts l⟩
def m_compact (l:List Int):Option T1:=some (Lib.compact l)
theorem w_compact (a0:List Int) (c0:Option Nat) (r:List Int) (hr:m_compact a0=some r):AC cx 47 [.c (.sl 1000000)] [(1000000,.row 3 (.int .i64) a0 c0)] (fun sv h=>sv=.c (.sl 5)∧h=[(5,.row 3 (.int .i64) r none)]):=by
  obtain rfl:=Option.some.inj hr;intro B w0 env vs H W hg ha hh hs;obtain ⟨ck,H0,rfl,⟨A,k,xs,hen,rfl,hfl,hcap⟩,hH0⟩:=hh;have e0:H0=[]:=hH0;subst e0;obtain ⟨v,r2,rfl,⟨A',c',n',hen',rfl⟩,hr2⟩:=ha;have e1:r2=[]:=hr2;subst e1;rw [hen] at hen';cases hen';have hok:Owns W B 3 1 A k a0.length xs:=hs.ok _ (List.mem_singleton.2 rfl);have hle:=Owns.le hok;have hxs:=flat_ints hfl
  let env2:Nat→Loc:=fun j=>match Nat.beq j 5 with
    | true=>.row A k (Lib.compact a0).length
    | false=>env j
  have hpin:∀ id l,(yy≤id∧∃ b,l=.blk b)∨qZ≤id→env id=l→env2 id=l:=fun id l h he=>by
    have:Nat.beq id 5=false:=by
      cases hb:Nat.beq id 5 with
      | false=>rfl
      | true=>
        have:=Nat.eq_of_beq_eq_true hb
        subst this
        rcases h with ⟨h,_⟩ | h
        · exact absurd h (by decide)
        · exact absurd h (by decide)
    show (match Nat.beq id 5 with | true=>_ | false=>env id)=l;rw [this];exact he
  have fin:∀ (w':World),KO (Rest W [Ck.row A k 3 1 a0.length xs]) W w'→Owns w' B 3 1 A k (Lib.compact a0).length ((Lib.compact a0).map fun z=>Value.int .i64 z) →
      ACpost cx env B [Ck.row A k 3 1 a0.length xs] W (fun sv h=>sv=.c (.sl 5)∧h=[(5,.row 3 (.int .i64) (Lib.compact a0) none)]) (.slice A (Lib.compact a0).length k) w':=fun w' hko ho=>by
    refine ⟨env2,B,w',[Ck.row A k 3 1 (Lib.compact a0).length ((Lib.compact a0).map fun z=>Value.int .i64 z)],.c (.sl 5),_,⟨rfl,rfl⟩,fun _ h=>h,fun _ h=>.inl h,hko,⟨A,k,_,rfl,rfl⟩,⟨_,_,rfl,⟨A,k,_,rfl,rfl,flat_mkInts _,fun _ h=>by cases h⟩,rfl⟩,?_,hpin⟩;refine ⟨KO.refl _ _,fun j hj=>Nat.lt_of_lt_of_le (hj.elim (fun h=>h.1) (hs.base j)) hko.size,fun c hc=>?_,List.pairwise_singleton _ _⟩;cases List.mem_singleton.1 hc;refine Ck.ok.base (c:=.row A k 3 1 (Lib.compact a0).length ((Lib.compact a0).map fun z=>Value.int .i64 z)) (B:=B) ho fun b hb hx=>?_
    exact hx.elim (fun h=>h.2 _ (List.mem_singleton.2 rfl) hb) (Ck.ok.lt (c:=.row A k 3 1 a0.length xs) hok hb).1
  rcases hok.2 with ⟨rfl,h3,h4⟩ | ⟨b,cur,fr,rfl,hb,hcur,hfr,hn,hk,hcs,htk⟩
  · have ea:a0=[]:=List.eq_nil_of_length_eq_zero h3
    subst ea;refine Calls.mono (Any.slices_Compact_int_empty Tryd.laysCompact none k W) ?_;rintro e w' ⟨rfl,rfl⟩;refine ⟨_,rfl,fin w' (KO.refl _ _) ?_⟩;exact ⟨rfl,.inl ⟨rfl,rfl,h4⟩⟩
  · have hmax:maxLen≤9223372036854775807:=by decide
    have hlen:xs.length=a0.length:=by rw [hxs,List.length_map]
    have hHolds:Sort.Holds (Value.int .i64) W b 0 a0.toArray:=fun j hj=>by
      have hj':j < a0.length:=by simpa using hj
      constructor
      · rw [Nat.zero_add,hok.cells rfl j (by omega),hxs,List.getElem?_map,List.getElem?_eq_getElem hj']
        simp [hj']
      · simp only [World.frozen?,hcur]
        rcases hfr with h | h
        · simp; omega
        · simp; omega
    refine Calls.mono (Any.slices_Compact_int Tryd.laysCompact b 0 k a0 W hHolds (by omega) hle.1) ?_;rintro e w' ⟨rfl,q,rfl⟩;have hcl:(Lib.compact a0).length≤a0.length:=compactUpTo_le _ _;refine ⟨_,rfl,fin _ ⟨rfl,rfl,rfl,?_,fun j hj=>?_⟩ ?_⟩
    · rw [Sort.size_putRow]; exact Nat.le_refl _
    · have hne:b≠j:=fun e=>hj.2 _ (List.mem_singleton.2 rfl) (by rw [← e]; rfl)
      show (W.heap.modify b _)[j]?=_;rw [Array.getElem?_modify,if_neg hne]
    · refine ⟨by rw [List.length_map,Nat.mul_one],.inr ⟨b,Sort.putCells (Value.int .i64) 0 (Lib.compact a0++List.replicate (a0.length - (Lib.compact a0).length) 0).toArray cur,fr,rfl,hb,?_,?_,Nat.le_trans hcl hn,hk,?_,?_⟩⟩
      · show (W.heap.modify b _)[b]?=_
        rw [Array.getElem?_modify,if_pos rfl,hcur]
        rfl
      · rw [Sort.putCells,Array.size_mapIdx]; exact hfr
      · rw [Sort.putCells,Array.size_mapIdx]; exact hcs
      · refine List.ext_getElem? fun j=>?_
        rw [List.getElem?_take,Nat.mul_one]
        split
        · rename_i hj
          have hjc:j < cur.size:=by rw [hcs]; omega
          rw [Array.getElem?_toList,Sort.putCells,Array.getElem?_mapIdx,Array.getElem?_eq_getElem hjc,Option.map_some,if_pos ⟨Nat.zero_le _,by simp; omega⟩,List.getElem?_map,List.getElem?_eq_getElem hj,Option.map_some]
          congr 2
          rw [Nat.sub_zero,getElem!_pos _ j (by simp; omega)]
          simp [List.getElem_append_left hj]
        · rename_i hj
          rw [List.getElem?_map,List.getElem?_eq_none (by omega)]
          rfl
end Go.Proofs.YtihcolehefloeaaDoor

/- Calls of functions with one bound argument (a method's receiver); a value taken apart. -/
namespace Go.Proofs.YtihcolehefloeaaDoor
open Go.RowKit
section
variable {P:Program} {ops:Array Oper} {o:Oper} {KK:Act→World→Prop} {n:Nat} {D:List Deferred} {L:List (Nat×Value)} {B:Nat→Prop} {w0:World} {H:List Ck} {a:Act} {w:World} {d:Nat}
theorem run_callB {f:FuncId} {fn:Func} {s:Nat} {p:Value} {xs:List Operand} {ts:Array TypeId} {vs:List Value} (hX:Sym n D L B w0 H a w) (hop:o.op=.call { callee:=.value (.tmp s),args:=xs.toArray,argTypes:=ts })
    (hs:L.lookup s=some (.func (.func f) #[p] #[])) (hfn:P.funcs[f]?=some fn)
    (hn : (fn.name == "runtime.NumGoroutine") = false) (hb : fn.body.isNone = false) (hv : evs L xs = some vs) : (execOp a.eval o).run P w = .ok (.enter f (p :: vs).toArray) w := by
  have e:a.eval (.tmp s)=.func (.func f) #[p] #[]:=hX.ev (x:=.tmp s) hs
  have hn' : fn.name ≠ "runtime.NumGoroutine" := by simpa using hn
  have hb':fn.body≠none:=by intro h; rw [h] at hb; cases hb
  simp [execOp,hop,resolve,e,Deferred.ofValue,invoke,callFunc,program,Sem.run,hfn,hn',hb',hX.st.evs hv]
theorem y_callB {f:FuncId} {fn:Func} {s:Nat} {p:Value} {xs:List Operand} {ts:Array TypeId} {vs:List Value} {R:Value→World→Prop} (hX:Sym n D L B w0 H a w)
    (hop:o.op=.call { callee:=.value (.tmp s),args:=xs.toArray,argTypes:=ts }) (ho:o.guard=none∧o.dst=some d) (hd:Nat.blt d n=true) (hs:L.lookup s=some (.func (.func f) #[p] #[]))
    (hfn : P.funcs[f]? = some fn) (hn : (fn.name == "runtime.NumGoroutine") = false) (hb : fn.body.isNone = false) (hv : evs L xs = some vs) (hC : Ret P f (p :: vs).toArray w R)
    (h:∀ v a' w',R v w'→St n D ((d,v) :: L) a'→KK a' w'):XO P ops o KK a w:=by
  refine .inl ⟨by simp [Region.wanted,ho.1],.inr (.inr ⟨f,(p :: vs).toArray,w,run_callB hX hop hs hfn hn hb hv,?_⟩)⟩;refine Calls.mono hC ?_;rintro e w' ⟨v,rfl,hR⟩;exact ⟨v,rfl,h v _ w' hR (by rw [ho.2]; exact hX.st.put d v (zA hd))⟩
end
section
variable {X:Cx} {M:Bool} {n:Nat} {r:Option Nat} {st:ASt} {Q:Exit→ASt→Prop} {ops rest:List Oper} {o:Oper} {d:Nat}
theorem al_callB {f:FuncId} {fn:Func} {s id:Nat} {xs:List Operand} {ts:Array TypeId} {args args':List SA} {h H1:Hp} {Qc:SV→Hp→Prop} {c:Bool} (ps:Ps) (hC:AC X f args h Qc) (hop:o.op=.call { callee:=.value (.tmp s),args:=xs.toArray,argTypes:=ts }) (ho:o.guard=none∧o.dst=some d) (hd:Nat.blt d n=true)
    (hs : lk st.L s = some (.c (.bfn f id))) (hfn : X.P.funcs[f]? = some fn) (hn : (fn.name == "runtime.NumGoroutine") = false) (hb : fn.body.isNone = false) (hargs : aes X st.L xs = some (c, args')) (hc : c = true) (hren : renAs ps args = some (.c (.ptr id 0) :: args')) (hps : okPs n ps = true) (hpass : PassH ps h st.H H1)
    (hnext:∀ sv h',Qc sv h'→∃ sv' h'',sv.ren ps=some sv'∧renH ps h'=some h''∧AL X M n r ops rest ⟨(d,sv') :: killL (xS h ps) st.L,h''++xG (yc ps) (xS h ps) H1⟩ Q):AL X M n r ops (o :: rest) st Q:=by
  rintro R W Bi a w ⟨ks,env,B,w0,H,hM,hA⟩;obtain ⟨vs,h1,h2⟩:=aes_ok hA hargs hc;obtain ⟨fv,hf1,b,hbk,rfl⟩:=hA.has _ _ hs;have he:∀ i j,lk ps i=some j→env j=(fun i=>match lk ps i with | some j=>env j | none=>Loc.no) i:=fun i j hij=>by simp only [hij]
  obtain ⟨C1,C2,h3,h4,h5⟩:=PassH.split (env:=fun i=>match lk ps i with | some j=>env j | none=>Loc.no) he hpass hA.heap;have hs':SH B w0 C1 w:=by
    have h6:=(hA.sh.perm (h3.append_right (ks.map mkO))).weak (H':=C1) (by rw [List.append_assoc]; exact List.sublist_append_left _ _);exact ⟨⟨h6.below.os,h6.below.tape,h6.below.output,h6.below.size,fun k hk=>h6.below.block k (.inr hk)⟩,fun k hk=>h6.base k (.inr hk),fun c hc=>(h6.ok c hc).base fun b hb hk=>((h6.ok c hc).lt hb).1 (.inr hk),h6.apart⟩
  refine qE (y_callB hA.sym hop ho hd (zU hf1) hfn hn hb h1 (hC B w0 _ (.pointer (some ⟨b,0,none⟩) :: vs) C1 w (fun i x hx=>hA.glob i x hx) ((SasR.ren he hren).2 ⟨_,_,rfl,⟨b,hbk,rfl⟩,h2⟩) h4 hs') fun v a' w' hpost hS=>?_);obtain ⟨sv,h',hQ,hnx⟩:=hA.called hps h3 h4 h5 hpost hS;obtain ⟨sv',h'',e1,e2,hAL⟩:=hnext sv h' hQ;obtain ⟨env',B',w0',H',hA',_,_,_⟩:=hnx sv' h'' e1 e2;exact hAL R W Bi a' w' ⟨ks,env',B',w0',H',hM,hA'⟩
theorem yh {α:Type} {b:Bool} {x y:Option α} {r:α} {p:Prop} (h:cond b x y=some r) (h1:b=true→x=some r→p) (h0:b=false→y=some r→p):p:=by
  cases b with
  | true=>exact h1 rfl h
  | false=>exact h0 rfl h
theorem pk_loadJ {sa:SA} (j p:Nat) (z:Int) (hX:X.tt.ok X.P) {t T:TypeId} {te:TE} {x:Operand} {id:Nat} {cs:List SC} {c:SC} {g1:Bool} (hop:o.op=.load t x) (ht:X.tt.find t=some te) (hag:yp te.ti.desc=false)
    (hx:ae X st.L x=some (g1,.c (.ptr id (p+z.toNat * 1)))) (hg1:g1=true) (hlk:lk st.H id=some (.cells T cs)) (hz:decide (z=(j:Int))=true) (hc:nth cs (p+j)=some c) (hsa:SA.c c=sa):PureOk X st o sa:=by
  intro R W Bi n ks env B w0 H a w1 hA;subst hsa;rw [of_decide_eq_true hz,Int.toNat_natCast,Nat.mul_one] at hx;obtain ⟨vx,h1,b,hb,rfl⟩:=hA.ev hx hg1;obtain ⟨ck,K,⟨b',vs,hb',rfl,hcs⟩,hfoc⟩:=hA.heap.foc hlk;rw [hb] at hb';cases hb';obtain ⟨v,hv,hcr⟩:=hcs.nth hc;refine ⟨v,hcr,fun w hs=>yJ hA.stt hop (TT.get hX ht).ti hag h1 ?_⟩;rw [cel_cell (hs (by rw [hop]; rfl)) hfoc.more];exact hv
end
section
variable {X:Cx} {M:Bool} {n:Nat} {st:ASt} {Q:Exit→ASt→Prop} {ops:List Oper} {E:List Nat} {ds:DS} {listed':Array Bool} {fuel d i:Nat} {o:Oper}
theorem yM {f:FuncId} {fn:Func} {s ib:Nat} {xs:List Operand} {ts:Array TypeId} {args args':List SA} {h H1:Hp} {Qc:SV→Hp→Prop} {c pre':Bool} (ps:Ps) (hC:AC X f args h Qc) (hE:(!E.elem i || pre')=true) (hpr:(ds.pre&&ps.isEmpty)=pre') (hl:ds.listed.setIfInBounds i true=listed')
    (hop:o.op=.call { callee:=.value (.tmp s),args:=xs.toArray,argTypes:=ts }) (ho:o.guard=none∧o.dst=some d) (hd:Nat.blt d n=true) (hsl:lk st.L s=some (.c (.bfn f ib)))
    (hfn : X.P.funcs[f]? = some fn) (hn : (fn.name == "runtime.NumGoroutine") = false) (hb : fn.body.isNone = false) (hargs : aes X st.L xs = some (c, args')) (hc : c = true) (hren : renAs ps args = some (.c (.ptr ib 0) :: args')) (hps : okPs n ps = true) (hpass : PassH ps h st.H H1)
    (hnext:∀ sv h',Qc sv h'→∃ sv' h'',sv.ren ps=some sv'∧renH ps h'=some h''∧AD X M n ops E fuel ⟨listed',false,pre',false⟩ ⟨(d,sv') :: killL (xS h ps) st.L,h''++xG (yc ps) (xS h ps) H1⟩ Q):ADx X M n ops E fuel ds st Q i o:=by
  intro R W Bi B0 w00 CS F ks env B w0 H a w hM hA hD;obtain ⟨vs,h1,h2⟩:=aes_ok hA hargs hc;obtain ⟨fv,hf1,b,hbk,rfl⟩:=hA.has _ _ hsl;have he:∀ i j,lk ps i=some j→env j=(fun i=>match lk ps i with | some j=>env j | none=>Loc.no) i:=fun i j hij=>by simp only [hij]
  obtain ⟨C1,C2,h3,h4,h5⟩:=PassH.split (env:=fun i=>match lk ps i with | some j=>env j | none=>Loc.no) he hpass hA.heap;have hs:SH B w0 C1 w:=by
    have h6:=(hA.sh.perm (h3.append_right (ks.map mkO))).weak (H':=C1) (by rw [List.append_assoc]; exact List.sublist_append_left _ _);exact ⟨⟨h6.below.os,h6.below.tape,h6.below.output,h6.below.size,fun k hk=>h6.below.block k (.inr hk)⟩,fun k hk=>h6.base k (.inr hk),fun c hc=>(h6.ok c hc).base fun b hb hk=>((h6.ok c hc).lt hb).1 (.inr hk),h6.apart⟩
  have hC1:ps=[]→C1=[]:=fun e=>by
    subst e;cases hpass with
    | nil=>exact h4
    | cons hi _ _ _=>cases hi
  refine y_callB hA.sym hop ho hd (zU hf1) hfn hn hb h1 (hC B w0 _ (.pointer (some ⟨b,0,none⟩) :: vs) C1 w (fun i x hx=>hA.glob i x hx) ((SasR.ren he hren).2 ⟨_,_,rfl,⟨b,hbk,rfl⟩,h2⟩) h4 hs) fun v a' w' hpost hS=>?_
  obtain ⟨sv,h',hQ,hnx⟩:=hA.called hps h3 h4 h5 hpost hS;obtain ⟨sv',h'',e1,e2,hAD⟩:=hnext sv h' hQ;obtain ⟨env',B',w0',H',hA',hsub,hKO,hkeep⟩:=hnx sv' h'' e1 e2;have hD':DInv R ⟨listed',false,pre',false⟩ B0 w00 CS F B' w0' H':=⟨fun h=>(by cases h),fun h=>by
    have h':pre'=true:=h;rw [← hpr,Bool.and_eq_true] at h';have hps0:ps=[]:=by simpa using h'.2
    obtain ⟨g1,g2,g3,g4⟩:=hD.pre h'.1;refine ⟨fun c hc=>⟨hkeep hps0 c ?_,(g1 c hc).2⟩,g2,fun k hk=>hsub k (g3 k hk),g4.trans ⟨hKO.os,hKO.tape,hKO.output,hKO.size,fun k hk=>hKO.block k (hk.imp id (g3 k))⟩⟩
    have:=h3.mem_iff.1 (g1 c hc).1
    rw [hC1 hps0] at this
    simpa using this,fun h=>(by cases h),fun w hw=>hD.frz' w (hKO.trans ⟨hw.os,hw.tape,hw.output,hw.size,fun k hk=>hw.block k (hk.imp id (hsub k))⟩)⟩
  rw [hl];refine ⟨⟨fun hh=>hD'.T ?_ hA',hD'.F hA'⟩,hAD R W Bi B0 w00 CS F ks env' B' w0' H' a' w' hM hA' hD'⟩;rw [hh] at hE;exact hE
end
end Go.Proofs.YtihcolehefloeaaDoor

/- Operations under a guard that may not be there itself. -/
namespace Go.Proofs.YtihcolehefloeaaDoor
open Go.RowKit
section
variable {X:Cx} {M:Bool} {n:Nat} {r:Option Nat} {st:ASt} {Q:Exit→ASt→Prop} {ops rest:List Oper} {o:Oper} {d:Nat}
theorem wantM {R:Nat→Prop} {W:World} {Bi:Bk} {ks:List Nat} {env:Nat→Loc} {B:Nat→Prop} {w0:World} {H:List Ck} {a:Act} {w:World} (hA:AI X R W Bi n ks env B w0 H st a w) {j s:Nat} {want g b:Bool} (hg:o.guard=some (j,want)) (hj:nth (xH ops) j=some (some s)) (hs:lk st.L s=some (.may g (.c (.val (.bool b))))) :
    Region.wanted o (yielded ops.toArray a.tmps)=(g&&(b == want)):=by
  obtain ⟨oj,hoj,hsj⟩:=nth_map hj;have hj':(ops.toArray[j]?).bind (·.dst)=some s:=by simp [hoj,← hsj]
  obtain ⟨v,h1,h2,h3⟩:=hA.has _ _ hs;cases g with
  | true=>
    rw [show v=_ from h2 rfl] at h1;rw [xP hA.sym hg hj' (zU h1),Bool.true_and]
  | false=>
    rw [h3 rfl] at h1;rw [unwanted_of hA.sym hg hj' (zU h1)]
    rfl
theorem al_guardM (G:Bool) (x0:SA) {j s:Nat} {want g b:Bool} (hg:o.guard=some (j,want)) (hj:nth (xH ops) j=some (some s)) (hs:lk st.L s=some (.may g (.c (.val (.bool b))))) (hG:(match want with | true=>g&&b | false=>g&&!b)=G) (hdst:o.dst=some d) (hd:Nat.blt d n=true)
    (h1:G=true→AL X M n r ops ({ dst:=o.dst,op:=o.op,type:=o.type,pos:=o.pos,after:=o.after,guard:=none } :: rest) st Q) (h0:G=false→AL X M n r ops rest ⟨(d,.may false x0) :: st.L,st.H⟩ Q):AL X M n r ops (o :: rest) st Q:=by
  rintro R W Bi a w ⟨ks,env,B,w0,H,hM,hA⟩;have hw:=wantM hA hg hj hs;have hw':Region.wanted o (yielded ops.toArray a.tmps)=G:=by
    rw [hw,← hG];cases want <;> cases b <;> rfl
  clear hw
  cases hb:G with
  | true=>
    have h4:=h1 hb R W Bi a w ⟨ks,env,B,w0,H,hM,hA⟩;show (if Region.wanted o (yielded ops.toArray a.tmps) then _ else _);rw [hw',if_pos hb];have h5:(if Region.wanted { dst:=o.dst,op:=o.op,type:=o.type,pos:=o.pos,after:=o.after,guard:=none } (yielded ops.toArray a.tmps) then _ else _):=h4;rw [show Region.wanted { dst:=o.dst,op:=o.op,type:=o.type,pos:=o.pos,after:=o.after,guard:=none } (yielded ops.toArray a.tmps)=true by simp [Region.wanted],if_pos rfl] at h5;exact h5
  | false=>
    have hS:St n (ks.map yo) ((d,undef) :: full a) (a.put o.dst undef):=by rw [hdst]; exact hA.stt.put d undef (zA hd)
    show (if Region.wanted o (yielded ops.toArray a.tmps) then _ else _);rw [hw',if_neg (by simp [hb])];exact ⟨fun _ _=>trivial,h0 hb R W Bi _ w ⟨ks,env,B,w0,H,hM,hA.set (sv:=.may false x0) ⟨fun h=>(by cases h),fun _=>rfl⟩ hS⟩⟩
def zV:GTy→Value
  | .pair g h=>.agg (g.zeros++h.zeros).toArray
  | g=>g.zeros.headD undef
theorem zVD {v:Value} (g:GTy) (h:zV g=v) (hu:g.zeros≠[]):∀ B w,VD B w g g.zero v:=fun B w=>by
  subst h;cases g with
  | pair g h=>exact ⟨_,rfl,FR.zeros (B:=B) (w:=w) (GTy.pair g h)⟩
  | unit=>exact absurd rfl hu
  | int k=>rfl
  | bool=>rfl
  | str=>rfl
  | sl g=>exact FR.zeros (B:=B) (w:=w) (GTy.sl g)
  | csl g=>exact FR.zeros (B:=B) (w:=w) (GTy.csl g)
theorem sk_lookup2 (hX:X.tt.ok X.P) {t kt et:TypeId} {te ke ee:TE} {k:IntKind} {gv:GTy} {u x:Operand} {id:Nat} {l:List (Int×gv.D)} {om:Option (List MapEntry×Nat)} {z:Int} {g:Bool} {sa:SA} (hop:o.op=.lookup t u x true) (ho:o.guard=none∧o.dst=some d) (hd:Nat.blt d n=true)
    (ht:X.tt.find t=some te) (hte:te.ti.desc=.map kt et) (hk:X.tt.find kt=some ke) (hke:ke.ti.desc=.int k) (he:X.tt.find et=some ee) (hz:∀ B w,VD B w gv gv.zero ee.ti.zero)
    (hu:ae X st.L u=some (true,.c (.mref id))) (hx:ae X st.L x=some (g,.c (.val (.int k z)))) (hg:g=true) (hlk:lk st.H id=some (.mp (.int k) gv l om)) (hsa:vSA gv ((yn (.int k) gv l z).getD gv.zero)=some sa):StepOk X n o st ⟨(d,.tup [sa,.c (.val (.bool (yn (.int k) gv l z).isSome))]) :: st.L,st.H⟩:=by
  intro R W Bi ks env B w0 H a w hA KK lo hnext;obtain ⟨vu,h1,b,hb,rfl⟩:=hA.ev hu rfl;obtain ⟨vx,h2,h3⟩:=hA.ev hx hg;rw [show vx=_ from h3] at h2;obtain ⟨c,K,⟨b',es,clock,hb',rfl,hmr,hst,_⟩,hfoc⟩:=hA.heap.foc hlk;rw [hb] at hb';cases hb';have hob:=(hA.sh.ok _ hfoc.more.mem).2;have e1:=(TT.get hX ht).ti.1;rw [hte] at e1;have e3:=(TT.get hX hk).ti.1;rw [hke] at e3;have e5:=TI.run_zero (TT.get hX he).ti w;have hfin:∃ v,(Instr.lookup t (.map (some b)) (.int k z) true).run X.P w=.ok (.tuple #[v,.bool (yn (.int k) gv l z).isSome]) w∧VD B w0 gv ((yn (.int k) gv l z).getD gv.zero) v:=by
    unfold Instr.lookup;rw [show (10000:Nat)=9999+1 from rfl];simp only [Sem.run_bind,run_underlying e1,Result.andThen_ok,MapKept.run_getObj_map hob,run_checkKey_int e3,Sem.run_pure]
    rcases hmr.findInt (z:=z) 0 with ⟨h4,h5⟩ | ⟨y,j,v,h4,h5,h6,_⟩
    · refine ⟨ee.ti.zero,?_,by rw [h4]; exact hz _ _⟩
      simp [MapKept.run_findKey e3 h5,e5,Result.andThen,h4]
    · refine ⟨v,?_,by rw [h4]; exact h6⟩
      simp [MapKept.run_findKey e3 h5,Result.andThen,h4]
  obtain ⟨v,hrun,hvd⟩:=hfin;refine xg hA.stt ho.1 ho.2 (zA hd) (v:=.tuple #[v,.bool (yn (.int k) gv l z).isSome]) (w':=w) ?_ fun a' hS=>?_
  · simp [execOp,hop,hA.stt.ev h1,hA.stt.ev h2,hrun]
  · exact hnext a' _ env H (hA.set (sv:=.tup [sa,.c (.val (.bool (yn (.int k) gv l z).isSome))]) ⟨[v,.bool (yn (.int k) gv l z).isSome],rfl,v,_,rfl,hvd.sa hsa,_,_,rfl,rfl,rfl⟩ hS)
end
end Go.Proofs.YtihcolehefloeaaDoor

/- operations.Check: models. -/
namespace Go.Proofs.YtihcolehefloeaaDoor
set_option linter.unusedSimpArgs false
set_option linter.unusedVariables false
open Go.RowKit
def m_ndcheck (a0:(Int×Int)):Option (Int):=
    cond (cond (!(decide (a0.1=(0:Int)))) (!(decide (a0.1=(1:Int)))) false) (some (1:Int)) (cond (cond (decide (a0.2 < (1:Int))) true (decide ((40:Int) < a0.2))) (some (1:Int)) (some (0:Int)))
theorem w_ndcheck (a0:(Int×Int)) (r:(Int)) (h:m_ndcheck a0=some r):AC cx 84 [.agg [.val (.int .u8 a0.1),.val (.int .i64 a0.2)]] [] (fun sv h=>sv=.a (.c (.val (.int .i64 r)))∧h=[]):=by
  unfold m_ndcheck at h;refine zE zv Tryd.func84 rfl Tryd.ntmps84 rfl rfl (res:=[.tmp 2]) rfl<|zu<|zq<|zj zv rfl rfl<|zb (Wk.frzC 1 qK rfl rfl rfl)<|zu<|zu<|zq<|zj zv rfl (by generalize (decide (a0.1=(0:Int)))=b0; revert b0; decide) ?_
  revert h
  refine xC rfl rfl (fun hc h=>?_) (fun hc h=>?_)
  ·refine zu<|zq<|zj zv rfl rfl ?_
   cases h;exact zh ⟨_,(Wk.pick [2] [] rfl rfl),_,_,rfl,rfl,rfl,rfl⟩
  refine za<|zu<|zu<|zq<|zj zv rfl (by generalize (decide (a0.2 < (1:Int)))=b0; revert b0; decide) ?_
  revert h
  refine xC rfl rfl (fun hc h=>?_) (fun hc h=>?_)
  ·refine zu<|zq<|zj zv rfl rfl ?_
   cases h;exact zh ⟨_,(Wk.pick [2] [] rfl rfl),_,_,rfl,rfl,rfl,rfl⟩
  refine za<|zu<|zq<|zj zv rfl rfl ?_
  cases h;exact zh ⟨_,(Wk.pick [2] [] rfl rfl),_,_,rfl,rfl,rfl,rfl⟩
def m_opuses :Option ((List (Int×(Bool×(Bool×(Bool×Bool)))))):=
    some (mset (.int .u8) G1 (mset (.int .u8) G1 (mset (.int .u8) G1 (mset (.int .u8) G1 (mset (.int .u8) G1 (mset (.int .u8) G1 (mset (.int .u8) G1 (mset (.int .u8) G1 ([]:List (Int×(Bool×(Bool×(Bool×Bool))))) (1:Int) (true,(false,(true,false)))) (2:Int) (false,(false,(true,false)))) (3:Int) (false,(false,(false,true)))) (4:Int) (true,(true,(true,false)))) (5:Int) (true,(true,(true,false)))) (6:Int) (true,(true,(true,false)))) (7:Int) (false,(true,(false,false)))) (8:Int) (false,(true,(false,false))))
theorem w_opuses  (r:((List (Int×(Bool×(Bool×(Bool×Bool))))))) (h:m_opuses =some r):AC cx 93 [] [] (fun sv h=>sv=.a (.c (.mref 1))∧h=[(1,.mp (.int .u8) G1 r none)]):=by
  unfold m_opuses at h;refine zE zv Tryd.func93 rfl Tryd.ntmps93 rfl rfl (res:=[.tmp 0]) rfl<|zu<|zq<|zj zv rfl rfl<|zu<|zq<|al_makeMap (.int .u8) G1 rfl ⟨rfl,rfl⟩ rfl<|qi 1 zv rfl rfl<|yK (gv:=G1) zv rfl ⟨rfl,rfl⟩ rfl rfl rfl rfl rfl rfl rfl rfl rfl rfl rfl rfl rfl<|qi 1 zv rfl rfl<|yK (gv:=G1) zv rfl ⟨rfl,rfl⟩ rfl rfl rfl rfl rfl rfl rfl rfl rfl rfl rfl rfl rfl<|qi 1 zv rfl rfl<|yK (gv:=G1) zv rfl ⟨rfl,rfl⟩ rfl rfl rfl rfl rfl rfl rfl rfl rfl rfl rfl rfl rfl<|qi 1 zv rfl rfl<|yK (gv:=G1) zv rfl ⟨rfl,rfl⟩ rfl rfl rfl rfl rfl rfl rfl rfl rfl rfl rfl rfl rfl<|qi 1 zv rfl rfl<|yK (gv:=G1) zv rfl ⟨rfl,rfl⟩ rfl rfl rfl rfl rfl rfl rfl rfl rfl rfl rfl rfl rfl<|qi 1 zv rfl rfl<|yK (gv:=G1) zv rfl ⟨rfl,rfl⟩ rfl rfl rfl rfl rfl rfl rfl rfl rfl rfl rfl rfl rfl<|qi 1 zv rfl rfl<|yK (gv:=G1) zv rfl ⟨rfl,rfl⟩ rfl rfl rfl rfl rfl rfl rfl rfl rfl rfl rfl rfl rfl<|qi 1 zv rfl rfl<|yK (gv:=G1) zv rfl ⟨rfl,rfl⟩ rfl rfl rfl rfl rfl rfl rfl rfl rfl rfl rfl rfl rfl<|zj zv rfl rfl ?_
  cases h;exact zh ⟨_,(Wk.pick [0] [1] rfl rfl),_,_,rfl,rfl,rfl,rfl⟩
theorem ko_opplain_39:KeyOk Tryd.prog 39 qK:=KeyOk.of zv rfl rfl rfl (by kernel_rfl) (by kernel_rfl)
def m_opplain (a0:qx):Option (Bool):=
    Option.bind (m_opuses) fun r1=>
    cond (!((yn (.int .u8) G1 r1 a0.1).isSome)) (some false) (cond (cond (cond (cond ((yn (.int .u8) G1 r1 a0.1).getD (false,(false,(false,false)))).1 (!(decide (a0.2.1=(0:Int)))) false) (!(decide (a0.2.1=(1:Int)))) false) true (cond (!((yn (.int .u8) G1 r1 a0.1).getD (false,(false,(false,false)))).1) (!(decide (a0.2.1=(0:Int)))) false)) (some false) (Option.bind (cond ((yn (.int .u8) G1 r1 a0.1).getD (false,(false,(false,false)))).2.1 (m_ndcheck a0.2.2.1) (some default)) fun r2=>
    cond (cond (cond ((yn (.int .u8) G1 r1 a0.1).getD (false,(false,(false,false)))).2.1 (!(decide (r2=(0:Int)))) false) true (cond (!((yn (.int .u8) G1 r1 a0.1).getD (false,(false,(false,false)))).2.1) (!(GTy.beq qK a0.2.2.1 ((0:Int),(0:Int)))) false)) (some false) (cond (cond (cond ((yn (.int .u8) G1 r1 a0.1).getD (false,(false,(false,false)))).2.2.1 (cond (decide (a0.2.2.2.1 < (1:Int))) true (decide ((6:Int) < a0.2.2.2.1))) false) true (cond (!((yn (.int .u8) G1 r1 a0.1).getD (false,(false,(false,false)))).2.2.1) (!(decide (a0.2.2.2.1=(0:Int)))) false)) (some false) (some (cond ((yn (.int .u8) G1 r1 a0.1).getD (false,(false,(false,false)))).2.2.2 true (decide (a0.2.2.2.2=(0:Int))))))))
theorem w_opplain (a0:qx) (r:(Bool)) (h:m_opplain a0=some r):AC cx 82 [.agg [.val (.int .u8 a0.1),.val (.int .u8 a0.2.1),.val (.int .u8 a0.2.2.1.1),.val (.int .i64 a0.2.2.1.2),.val (.int .u8 a0.2.2.2.1),.val (.int .i64 a0.2.2.2.2)]] [] (fun sv h=>sv=.a (.c (.val (.bool r)))∧h=[]):=by
  unfold m_opplain at h;refine zE zv Tryd.func82 rfl Tryd.ntmps82 rfl rfl (res:=[.tmp 2]) rfl<|zu<|zq<|zj zv rfl rfl<|zb (Wk.frzC 1 qD rfl rfl rfl)<|zu ?_
  obtain ⟨r1,hr1,h⟩:=bd h
  apply ax_cut
  ·
    refine zI [] (by kernel_rfl) rfl (N:=10)<|zf (fuel:=8) (ds':=⟨#[false,true,true,false,false,false,false,false,false,false],true,true,true⟩) zv [(1,0),(2,1)] (by kernel_rfl) rfl rfl<|zg (by kernel_rfl) (zc (i:=0) ?_ (zc (i:=7) ?_ zn))
    ·
      refine zP rfl<|zD (i:=0) (listed':=#[true,true,true,false,false,false,false,false,false,false]) (pre':=false) [(1,6)] (w_opuses   r1 hr1) rfl rfl rfl rfl ⟨rfl,rfl⟩ rfl Tryd.func93 rfl rfl rfl rfl rfl rfl PassH.nil ?_
      rintro _ _ ⟨rfl,rfl⟩;refine ⟨_,_,rfl,rfl,?_⟩;refine zg (by kernel_rfl) (zc (i:=3) ?_ (zc (i:=7) ?_ zn))
      ·
        refine ado_sk (i:=3) (l':=#[true,true,true,true,false,false,false,false,false,false]) rfl (sk_lookup2 (gv:=G1) zv rfl ⟨rfl,rfl⟩ rfl rfl rfl rfl rfl rfl (zVD G1 rfl (by decide)) rfl rfl rfl rfl rfl) rfl rfl ?_;refine zf (fuel:=0) (ds':=⟨#[true,true,true,true,true,true,true,true,true,true],false,false,false⟩) zv [(4,0),(5,0),(6,0),(7,2),(8,2),(9,0)] (by kernel_rfl) rfl rfl<|zm (by kernel_rfl) ?_
        exact ⟨rfl,Wk.pick [1,3,4] [3] rfl rfl⟩
      ·
        refine zC zv (i:=7) rfl rfl rfl rfl rfl<|zg (by kernel_rfl) (zc (i:=3) ?_ zn)
        refine ado_sk (i:=3) (l':=#[true,true,true,true,false,false,false,true,false,false]) rfl (sk_lookup2 (gv:=G1) zv rfl ⟨rfl,rfl⟩ rfl rfl rfl rfl rfl rfl (zVD G1 rfl (by decide)) rfl rfl rfl rfl rfl) rfl rfl ?_;refine zf (fuel:=0) (ds':=⟨#[true,true,true,true,true,true,true,true,true,true],false,false,false⟩) zv [(4,0),(5,0),(6,0),(8,2),(9,0)] (by kernel_rfl) rfl rfl<|zm (by kernel_rfl) ?_
        exact ⟨rfl,Wk.pick [1,3,4] [3] rfl rfl⟩
    ·
      refine zC zv (i:=7) rfl rfl rfl rfl rfl<|zg (by kernel_rfl) (zc (i:=0) ?_ zn)
      refine zP rfl<|zD (i:=0) (listed':=#[true,true,true,false,false,false,false,true,false,false]) (pre':=false) [(1,6)] (w_opuses   r1 hr1) rfl rfl rfl rfl ⟨rfl,rfl⟩ rfl Tryd.func93 rfl rfl rfl rfl rfl rfl PassH.nil ?_
      rintro _ _ ⟨rfl,rfl⟩;refine ⟨_,_,rfl,rfl,?_⟩;refine zg (by kernel_rfl) (zc (i:=3) ?_ zn);refine ado_sk (i:=3) (l':=#[true,true,true,true,false,false,false,true,false,false]) rfl (sk_lookup2 (gv:=G1) zv rfl ⟨rfl,rfl⟩ rfl rfl rfl rfl rfl rfl (zVD G1 rfl (by decide)) rfl rfl rfl rfl rfl) rfl rfl ?_;refine zf (fuel:=0) (ds':=⟨#[true,true,true,true,true,true,true,true,true,true],false,false,false⟩) zv [(4,0),(5,0),(6,0),(8,2),(9,0)] (by kernel_rfl) rfl rfl<|zm (by kernel_rfl) ?_
      exact ⟨rfl,Wk.pick [1,3,4] [3] rfl rfl⟩
  refine zu<|zu<|zq<|zj zv rfl rfl ?_
  revert h
  refine xC rfl rfl (fun hc h=>?_) (fun hc h=>?_)
  ·refine zu<|zq<|zj zv rfl rfl ?_
   cases h;exact zh ⟨_,(Wk.pick [2] [] rfl rfl),_,_,rfl,rfl,rfl,rfl⟩
  refine za<|zu<|zu<|zq<|zj zv rfl (by generalize ((yn (.int .u8) G1 r1 a0.1).getD (false,(false,(false,false)))).1=b0; generalize (decide (a0.2.1=(0:Int)))=b1; generalize (decide (a0.2.1=(1:Int)))=b2; revert b0 b1 b2; decide) ?_
  revert h
  refine xC rfl rfl (fun hc h=>?_) (fun hc h=>?_)
  ·refine zu<|zq<|zj zv rfl rfl ?_
   cases h;exact zh ⟨_,(Wk.pick [2] [] rfl rfl),_,_,rfl,rfl,rfl,rfl⟩
  refine za<|zu<|zu ?_
  obtain ⟨r2,hr2,h⟩:=bd h;refine zq<|zl zv rfl (by generalize ((yn (.int .u8) G1 r1 a0.1).getD (false,(false,(false,false)))).2.1=b0; generalize (decide (r2=(0:Int)))=b1; revert b0 b1; decide) ?_
  refine al_guard (.c (.val (.int .i64 r2))) rfl rfl rfl rfl rfl (fun hq3=>?_) (fun hq3=>?_)
  ·replace hr2:=cond_t hq3 hr2
   try simp only [ob2,cond_true,cond_false] at hq3
   all_goals
    refine zo (w_ndcheck _  r2 hr2) rfl ⟨rfl,rfl⟩ rfl Tryd.func84 rfl rfl rfl (by simp only [hq3,oc]) rfl rfl ?_;refine qi 10 zv rfl (by simp only [hq3,oc]) ?_;refine al_guardM ((!(cond ((yn (.int .u8) G1 r1 a0.1).getD (false,(false,(false,false)))).2.1 (!(decide (r2=(0:Int)))) false))&&(!((yn (.int .u8) G1 r1 a0.1).getD (false,(false,(false,false)))).2.1)) (.c (.val (.bool (!(GTy.beq qK a0.2.2.1 ((0:Int),(0:Int))))))) rfl rfl rfl rfl rfl rfl (fun hq4=>?_) (fun hq4=>?_)
    ·exfalso; simp only [hq3,ob2,cond_true,cond_false] at hq4
    ·try simp only [hq3,ob2,cond_true,cond_false] at hq4
     all_goals
      refine zj zv rfl (by revert hq3 hq4; generalize ((yn (.int .u8) G1 r1 a0.1).getD (false,(false,(false,false)))).2.1=b0; generalize (decide (r2=(0:Int)))=b1; revert b0 b1; decide) ?_
      revert h
      refine xC rfl rfl (fun hc h=>?_) (fun hc h=>?_)
      ·refine zu<|zq<|zj zv rfl rfl ?_
       cases h;exact zh ⟨_,(Wk.pick [2] [] rfl rfl),_,_,rfl,rfl,rfl,rfl⟩
      refine za<|zu<|zu<|zq<|zj zv rfl (by generalize ((yn (.int .u8) G1 r1 a0.1).getD (false,(false,(false,false)))).2.2.1=b0; generalize (decide (a0.2.2.2.1 < (1:Int)))=b1; generalize (decide ((6:Int) < a0.2.2.2.1))=b2; revert b0 b1 b2; decide) ?_
      revert h
      refine xC rfl rfl (fun hc h=>?_) (fun hc h=>?_)
      ·refine zu<|zq<|zj zv rfl rfl ?_
       cases h;exact zh ⟨_,(Wk.pick [2] [] rfl rfl),_,_,rfl,rfl,rfl,rfl⟩
      refine za<|zu<|zq<|zj zv rfl (by generalize ((yn (.int .u8) G1 r1 a0.1).getD (false,(false,(false,false)))).2.2.2=b0; revert b0; decide) ?_
      cases h;exact zh ⟨_,(Wk.pick [2] [] rfl rfl),_,_,rfl,rfl,rfl,rfl⟩
  ·try simp only [ob2,cond_true,cond_false] at hq3
   all_goals
    refine qi 10 zv rfl (by simp only [hq3,oc]) ?_;refine al_guardM ((!(cond ((yn (.int .u8) G1 r1 a0.1).getD (false,(false,(false,false)))).2.1 (!(decide (r2=(0:Int)))) false))&&(!((yn (.int .u8) G1 r1 a0.1).getD (false,(false,(false,false)))).2.1)) (.c (.val (.bool (!(GTy.beq qK a0.2.2.1 ((0:Int),(0:Int))))))) rfl rfl rfl rfl rfl rfl (fun hq5=>?_) (fun hq5=>?_)
    ·try simp only [hq3,ob2,cond_true,cond_false] at hq5
     all_goals
      refine al_neqA ko_opplain_39 rfl ⟨rfl,rfl⟩ rfl rfl (by simp only [hq3,hq5,oc]) rfl (by simp only [hq3,hq5,oc]) rfl (by simp only [hq3,hq5,oc]) rfl (by simp only [hq3,hq5,oc]) ?_;refine zj zv rfl (by simp only [hq3,hq5,oc]) ?_
      revert h
      refine xC rfl rfl (fun hc h=>?_) (fun hc h=>?_)
      ·refine zu<|zq<|zj zv rfl rfl ?_
       cases h;exact zh ⟨_,(Wk.pick [2] [] rfl rfl),_,_,rfl,rfl,rfl,rfl⟩
      refine za<|zu<|zu<|zq<|zj zv rfl (by generalize ((yn (.int .u8) G1 r1 a0.1).getD (false,(false,(false,false)))).2.2.1=b0; generalize (decide (a0.2.2.2.1 < (1:Int)))=b1; generalize (decide ((6:Int) < a0.2.2.2.1))=b2; revert b0 b1 b2; decide) ?_
      revert h
      refine xC rfl rfl (fun hc h=>?_) (fun hc h=>?_)
      ·refine zu<|zq<|zj zv rfl rfl ?_
       cases h;exact zh ⟨_,(Wk.pick [2] [] rfl rfl),_,_,rfl,rfl,rfl,rfl⟩
      refine za<|zu<|zq<|zj zv rfl (by generalize ((yn (.int .u8) G1 r1 a0.1).getD (false,(false,(false,false)))).2.2.2=b0; revert b0; decide) ?_
      cases h;exact zh ⟨_,(Wk.pick [2] [] rfl rfl),_,_,rfl,rfl,rfl,rfl⟩
    ·exfalso; simp only [hq3,ob2,cond_true,cond_false] at hq5
def m_opcheck (a0:qx):Option (Int):=
    Option.bind (m_opplain a0) fun r1=>
    cond (!r1) (some (1:Int)) (cond (cond (decide (a0.2.2.2.2 < (-4:Int))) true (decide ((4:Int) < a0.2.2.2.2))) (some (11:Int)) (some (0:Int)))
theorem w_opcheck (a0:qx) (r:(Int)) (h:m_opcheck a0=some r):AC cx 69 [.agg [.val (.int .u8 a0.1),.val (.int .u8 a0.2.1),.val (.int .u8 a0.2.2.1.1),.val (.int .i64 a0.2.2.1.2),.val (.int .u8 a0.2.2.2.1),.val (.int .i64 a0.2.2.2.2)]] [] (fun sv h=>sv=.a (.c (.val (.int .i64 r)))∧h=[]):=by
  unfold m_opcheck at h;refine zE zv Tryd.func69 rfl Tryd.ntmps69 rfl rfl (res:=[.tmp 2]) rfl<|zu<|zq<|zj zv rfl rfl<|zb (Wk.frzC 1 qD rfl rfl rfl)<|zu<|zu ?_
  obtain ⟨r1,hr1,h⟩:=bd h;refine zq<|zl zv rfl rfl<|zo (w_opplain _  r1 hr1) rfl ⟨rfl,rfl⟩ rfl Tryd.func82 rfl rfl rfl rfl rfl rfl<|zj zv rfl rfl ?_
  revert h
  refine xC rfl rfl (fun hc h=>?_) (fun hc h=>?_)
  ·refine zu<|zq<|zj zv rfl rfl ?_
   cases h;exact zh ⟨_,(Wk.pick [2] [] rfl rfl),_,_,rfl,rfl,rfl,rfl⟩
  refine za<|zu<|zu<|zq<|zj zv rfl (by generalize (decide (a0.2.2.2.2 < (-4:Int)))=b0; revert b0; decide) ?_
  revert h
  refine xC rfl rfl (fun hc h=>?_) (fun hc h=>?_)
  ·refine zu<|zq<|zj zv rfl rfl ?_
   cases h;exact zh ⟨_,(Wk.pick [2] [] rfl rfl),_,_,rfl,rfl,rfl,rfl⟩
  refine za<|zu<|zq<|zj zv rfl rfl ?_
  cases h;exact zh ⟨_,(Wk.pick [2] [] rfl rfl),_,_,rfl,rfl,rfl,rfl⟩
end Go.Proofs.YtihcolehefloeaaDoor

/- Plain facts: loops of models. -/
namespace Go.Proofs.YtihcolehefloeaaDoor
open Go.RowKit
theorem zH {n:Nat} (h:n≤1000000):n < zB:=by unfold zB; omega
theorem loop_inv {S O:Type} (L:Nat→Int→S→Option O) (N:Nat) (sp:Nat→S) (r:O)
    (hs:∀ n k,k < N→L (n+1) (k:Int) (sp k)=L n ((k:Int)+1) (sp (k+1)))
    (he:∀ n,L (n+1) (N:Int) (sp N)=some r):∀ n k,k≤N→N - k < n→L n (k:Int) (sp k)=some r:=by
  intro n
  induction n with
  | zero=>intro k _ h; omega
  | succ n ih=>
    intro k hk hn
    by_cases e:k=N
    · subst e; exact he n
    · rw [hs n k (by omega)]
      have:=ih (k+1) (by omega) (by omega)
      rw [show (((k+1:Nat)):Int)=(k:Int)+1 by omega] at this;exact this
theorem loop0 {S O:Type} (L:Nat→Int→S→Option O) (N:Nat) (sp:Nat→S) (r:O) (hN:N < zB)
    (hs:∀ n k,k < N→L (n+1) (k:Int) (sp k)=L n ((k:Int)+1) (sp (k+1)))
    (he:∀ n,L (n+1) (N:Int) (sp N)=some r):L zB 0 (sp 0)=some r:=loop_inv L N sp r hs he zB 0 (Nat.zero_le _) (by omega)
theorem loopS {S O:Type} (L:Nat→Int→S→Option O) (N:Nat) (sp:Nat→S) (s0:S) (r:O) (h0:sp 0=s0) (hN:N < zB)
    (hs:∀ n k,k < N→L (n+1) (k:Int) (sp k)=L n ((k:Int)+1) (sp (k+1)))
    (he:∀ n,L (n+1) (N:Int) (sp N)=some r):L zB 0 s0=some r:=by
  rw [← h0];exact loop0 L N sp r hN hs he
theorem zG {α:Type} {c:Bool} {k:Option α} (h:c=true):gd c k=k:=gd_t h
theorem qS {α:Type} {c:Bool} {x y:α} (h:c=true):cond c x y=x:=by rw [h]; rfl
theorem qg {α:Type} {c:Bool} {x y:α} (h:c=false):cond c x y=y:=by rw [h]; rfl
theorem first_bad (p:Nat→Bool) (N:Nat) (h:¬ ∀ k,k < N→p k=true):∃ j,j < N∧p j=false∧∀ k,k < j→p k=true:=by
  induction N with
  | zero=>exact absurd (fun k hk=>absurd hk (Nat.not_lt_zero _)) h
  | succ N ih=>
    by_cases hN:∀ k,k < N→p k=true
    · refine ⟨N,by omega,?_,hN⟩
      cases hp:p N with
      | false=>rfl
      | true=>exact absurd (fun k hk=>by by_cases e:k=N; exact e ▸ hp; exact hN k (by omega)) h
    · obtain ⟨j,h1,h2⟩:=ih hN
      exact ⟨j,by omega,h2⟩
theorem xU (z m:Int) (h0:0≤z) (hm:0 < m):0≤z.tmod m∧z.tmod m < m:=by
  rw [Int.tmod_eq_emod_of_nonneg h0];exact ⟨Int.emod_nonneg _ (by omega),Int.emod_lt_of_pos _ hm⟩
end Go.Proofs.YtihcolehefloeaaDoor

/- Which operations are valid, in plain words. -/
namespace Go.Proofs.YtihcolehefloeaaDoor
open Go.RowKit
structure OpP where
  kind:Nat
  dir:Nat
  bed:Nat
  place:Int
  yarn:Nat
  rack:Int
  deriving DecidableEq
def xR (bed:Nat) (place:Int):Bool:=decide (bed≤1)&&decide (1≤place)&&decide (place≤40)
def needleErr (bed:Nat) (place:Int):Int:=if xR bed place then 0 else 1
def there (k:Nat):Bool:=decide (1≤k)&&decide (k≤8)
def usesDir (k:Nat):Bool:=k == 1 || k == 4 || k == 5 || k == 6
def usesNeedle (k:Nat):Bool:=k == 4 || k == 5 || k == 6 || k == 7 || k == 8
def usesYarn (k:Nat):Bool:=k == 1 || k == 2 || k == 4 || k == 5 || k == 6
def usesRack (k:Nat):Bool:=k == 3
def dirBad (k d:Nat):Bool:=if usesDir k then decide (1 < d) else decide (0 < d)
def needleBad (k b:Nat) (p:Int):Bool:=if usesNeedle k then !xR b p else !(decide (b=0)&&decide (p=0))
def yarnBad (k y:Nat):Bool:=if usesYarn k then decide (y < 1) || decide (6 < y) else decide (0 < y)
def opPlain (o:OpP):Bool:=there o.kind&&!dirBad o.kind o.dir&&!needleBad o.kind o.bed o.place&&!yarnBad o.kind o.yarn&&(usesRack o.kind || decide (o.rack=0))
def opErr (o:OpP):Int:=if opPlain o then (if o.rack < -4∨4 < o.rack then 11 else 0) else 1
def toP (o:qx):OpP:=⟨o.1.toNat,o.2.1.toNat,o.2.2.1.1.toNat,o.2.2.1.2,o.2.2.2.1.toNat,o.2.2.2.2⟩
def OpN (o:qx):Prop:=0≤o.1∧0≤o.2.1∧0≤o.2.2.1.1∧0≤o.2.2.2.1
abbrev gUse:GTy:=.pair .bool (.pair .bool (.pair .bool .bool))
def usesL:List (Int×Bool×Bool×Bool×Bool):=[(1,true,false,true,false),(2,false,false,true,false),(3,false,false,false,true),(4,true,true,true,false),(5,true,true,true,false),(6,true,true,true,false),(7,false,true,false,false),(8,false,true,false,false)]
theorem opuses_eq:m_opuses=some usesL:=rfl
theorem mget_uses (k:Nat):yn (.int .u8) gUse usesL (k:Int)=if there k=true then some (usesDir k,usesNeedle k,usesYarn k,usesRack k) else none:=by
  by_cases h:1≤k∧k≤8
  · obtain ⟨h1,h2⟩:=h
    rcases (show k=1∨k=2∨k=3∨k=4∨k=5∨k=6∨k=7∨k=8 by omega) with h | h | h | h | h | h | h | h <;> subst h <;> rfl
  · have ht:there k=false:=by simp [there]; omega
    have e:∀ n:Int,1≤n→n≤8→(GTy.int IntKind.u8).beq n (k:Int)=false:=fun n h1 h2=>beq_eq_false_iff_ne.2 (by omega)
    have e1:=e 1 (by omega) (by omega);have e2:=e 2 (by omega) (by omega);have e3:=e 3 (by omega) (by omega);have e4:=e 4 (by omega) (by omega);have e5:=e 5 (by omega) (by omega);have e6:=e 6 (by omega) (by omega);have e7:=e 7 (by omega) (by omega);have e8:=e 8 (by omega) (by omega);rw [ht]
    simp [usesL,yn,e1,e2,e3,e4,e5,e6,e7,e8]
theorem ndcheck_eq (b:Nat) (p:Int):m_ndcheck ((b:Int),p)=some (needleErr b p):=by
  unfold m_ndcheck needleErr xR;dsimp only
  by_cases hb:b≤1
  · rw [qg (by simp; omega),decide_eq_true hb]
    by_cases h:1≤p∧p≤40
    · rw [qg (by simp; omega),decide_eq_true h.1,decide_eq_true h.2]; rfl
    · rw [qS (by simp; omega),if_neg (by simp; omega)]
  · rw [qS (by simp; omega),decide_eq_false hb]; rfl
theorem nd_zero (b:Nat) (p:Int):GTy.beq qK ((b:Int),p) (0,0)=(decide (b=0)&&decide (p=0)):=by
  rw [Bool.eq_iff_iff,beq_iff (g:=qK) _ _ rfl]
  simp
theorem opplain_eq (k d b y:Nat) (p r:Int):m_opplain ((k:Int),(d:Int),((b:Int),p),(y:Int),r)=some (opPlain ⟨k,d,b,p,y,r⟩):=by
  unfold m_opplain;rw [opuses_eq,Option.bind_some];dsimp only;have hm:=mget_uses k;have hz:((false,false,false,false):Bool×Bool×Bool×Bool)=(false,(false,(false,false))):=rfl;rw [hm,nd_zero,ndcheck_eq];unfold opPlain dirBad needleBad yarnBad;dsimp only;cases ht:there k with
  | false=>rfl
  | true=>
    have hd0:decide ((d:Int)=0)=decide (d=0):=by rw [decide_eq_decide]; omega
    have hd1:decide ((d:Int)=1)=decide (d=1):=by rw [decide_eq_decide]; omega
    have hy0:decide ((y:Int)=0)=decide (y=0):=by rw [decide_eq_decide]; omega
    have hy1:decide ((y:Int) < 1)=decide (y < 1):=by rw [decide_eq_decide]; omega
    have hy6:decide ((6:Int) < (y:Int))=decide (6 < y):=by rw [decide_eq_decide]; omega
    rw [hd0,hd1,hy0,hy1,hy6];have q1:decide (1 < d)=(!decide (d=0)&&!decide (d=1)):=by rw [Bool.eq_iff_iff]; simp; omega
    have q2:decide (0 < d)=!decide (d=0):=by rw [Bool.eq_iff_iff]; simp; omega
    have q3:decide (0 < y)=!decide (y=0):=by rw [Bool.eq_iff_iff]; simp; omega
    rw [q1,q2,q3];have hne:∀ c:Bool,decide (needleErr b p=0)=xR b p:=fun _=>by unfold needleErr; cases xR b p <;> rfl
    simp only [if_true,Option.isSome_some,Option.getD_some,Bool.not_true,cond_false]
    generalize decide (d=0)=d0
    generalize decide (d=1)=d1
    generalize decide (y=0)=y0
    generalize decide (y < 1)=y1
    generalize decide (6 < y)=y6
    generalize decide (r=0)=r0
    generalize (decide (b=0)&&decide (p=0))=nz
    cases usesNeedle k with
    | true=>
      simp only [cond_true,Option.bind_some,hne true]
      generalize xR b p=no
      generalize usesDir k=u1
      generalize usesYarn k=u3
      generalize usesRack k=u4
      cases u1 <;> cases u3 <;> cases u4 <;> cases d0 <;> cases d1 <;> cases no <;> cases y0 <;> cases y1 <;> cases y6 <;> cases r0 <;> rfl
    | false=>
      simp only [cond_false,Option.bind_some]
      generalize usesDir k=u1
      generalize usesYarn k=u3
      generalize usesRack k=u4
      cases u1 <;> cases u3 <;> cases u4 <;> cases d0 <;> cases d1 <;> cases nz <;> cases y0 <;> cases y1 <;> cases y6 <;> cases r0 <;> rfl
theorem opcheck_eq (o:qx) (h:OpN o):m_opcheck o=some (opErr (toP o)):=by
  obtain ⟨g1,g2,g3,g4⟩:=h;obtain ⟨k,d,⟨b,p⟩,y,r⟩:=o;obtain ⟨k,rfl⟩:=Int.eq_ofNat_of_zero_le g1;obtain ⟨d,rfl⟩:=Int.eq_ofNat_of_zero_le g2;obtain ⟨b,rfl⟩:=Int.eq_ofNat_of_zero_le g3;obtain ⟨y,rfl⟩:=Int.eq_ofNat_of_zero_le g4;unfold m_opcheck;rw [opplain_eq,Option.bind_some];show _=some (opErr ⟨k,d,b,p,y,r⟩);unfold opErr;cases opPlain ⟨k,d,b,p,y,r⟩ with
  | false=>rfl
  | true=>
    rw [if_pos rfl];dsimp only
    by_cases hr:r < -4∨4 < r
    · rw [if_pos hr]
      simp only [Bool.not_true,cond_false];rw [show (cond (decide (r < -4)) true (decide (4 < r)))=true by simp; omega]
      rfl
    · rw [if_neg hr]
      simp only [Bool.not_true,cond_false];rw [show (cond (decide (r < -4)) true (decide (4 < r)))=false by simp; omega]
      rfl
end Go.Proofs.YtihcolehefloeaaDoor

/- Contracts of Go's library, laid at this program (printed by the kit's lay-plain.mjs). -/
namespace Go.Proofs
open Go.Shelf
def Tryd.laysItoa_ren:Go.Shelf.Ren:=⟨fun | 171=>70 | 243=>83 | 246=>94 | 283=>100 | 284=>101 | 285=>102 | 286=>103 | 129=>107 | 317=>106 | 318=>108 | 319=>109 | 320=>110 | 337=>111 | 338=>112 | n=>n,fun | 3=>3 | 9=>9 | 2=>2 | 4=>4 | 171=>176 | 0=>0 | 53=>177 | 37=>72 | 5=>5 | 173=>180 | 212=>186 | 51=>187 | 20=>20 | 213=>188 | 46=>190 | 232=>193 | 233=>194 | n=>n,fun | 17=>3 | 18=>5 | 19=>6 | n=>n⟩
theorem Tryd.laysItoa:Go.Proofs.LaysM.n171 Tryd.prog Tryd.laysItoa_ren:={
  mixed:=by kernel_rfl
  f129:=Tryd.func107.trans (congrArg some (by kernel_rfl))
  f171:=Tryd.func70.trans (congrArg some (by kernel_rfl))
  f243:=Tryd.func83.trans (congrArg some (by kernel_rfl))
  f246:=Tryd.func94.trans (congrArg some (by kernel_rfl))
  f283:=Tryd.func100.trans (congrArg some (by kernel_rfl))
  f284:=Tryd.func101.trans (congrArg some (by kernel_rfl))
  f285:=Tryd.func102.trans (congrArg some (by kernel_rfl))
  f286:=Tryd.func103.trans (congrArg some (by kernel_rfl))
  f317:=Tryd.func106.trans (congrArg some (by kernel_rfl))
  f318:=Tryd.func108.trans (congrArg some (by kernel_rfl))
  f319:=Tryd.func109.trans (congrArg some (by kernel_rfl))
  f320:=Tryd.func110.trans (congrArg some (by kernel_rfl))
  f337:=Tryd.func111.trans (congrArg some (by kernel_rfl))
  f338:=Tryd.func112.trans (congrArg some (by kernel_rfl))
  t0:=Tryd.underlying0
  a0:=Tryd.isAgg0
  z0:=Tryd.sizeOf0
  v0:=Tryd.zeroValue0
  t2:=Tryd.underlying2
  a2:=Tryd.isAgg2
  z2:=Tryd.sizeOf2
  v2:=Tryd.zeroValue2
  t3:=Tryd.underlying3
  a3:=Tryd.isAgg3
  z3:=Tryd.sizeOf3
  v3:=Tryd.zeroValue3
  t4:=Tryd.underlying4
  a4:=Tryd.isAgg4
  z4:=Tryd.sizeOf4
  v4:=Tryd.zeroValue4
  t5:=Tryd.underlying5
  a5:=Tryd.isAgg5
  z5:=Tryd.sizeOf5
  v5:=Tryd.zeroValue5
  t9:=Tryd.underlying9
  a9:=Tryd.isAgg9
  z9:=Tryd.sizeOf9
  v9:=Tryd.zeroValue9
  t20:=Tryd.underlying20
  a20:=Tryd.isAgg20
  z20:=Tryd.sizeOf20
  v20:=Tryd.zeroValue20
  t37:=Tryd.underlying72
  a37:=Tryd.isAgg72
  z37:=Tryd.sizeOf72
  v37:=Tryd.zeroValue72
  t46:=Tryd.underlying190
  a46:=Tryd.isAgg190
  z46:=Tryd.sizeOf190
  v46:=Tryd.zeroValue190
  t51:=Tryd.underlying187
  a51:=Tryd.isAgg187
  z51:=Tryd.sizeOf187
  v51:=Tryd.zeroValue187
  t53:=Tryd.underlying177
  a53:=Tryd.isAgg177
  z53:=Tryd.sizeOf177
  v53:=Tryd.zeroValue177
  t171:=Tryd.underlying176
  a171:=Tryd.isAgg176
  z171:=Tryd.sizeOf176
  v171:=Tryd.zeroValue176
  t173:=Tryd.underlying180
  a173:=Tryd.isAgg180
  z173:=Tryd.sizeOf180
  v173:=Tryd.zeroValue180
  t212:=Tryd.underlying186
  a212:=Tryd.isAgg186
  z212:=Tryd.sizeOf186
  v212:=Tryd.zeroValue186
  t213:=Tryd.underlying188
  a213:=Tryd.isAgg188
  z213:=Tryd.sizeOf188
  t232:=Tryd.underlying193
  a232:=Tryd.isAgg193
  z232:=Tryd.sizeOf193
  v232:=Tryd.zeroValue193
  t233:=Tryd.underlying194
  a233:=Tryd.isAgg194
  z233:=Tryd.sizeOf194
  v233:=Tryd.zeroValue194
  g17:=by kernel_rfl
  g18:=by kernel_rfl
  g19:=by kernel_rfl
  i0:=by kernel_rfl
  i2:=by kernel_rfl
  i3:=by kernel_rfl
  i4:=by kernel_rfl
  i5:=by kernel_rfl
  i9:=by kernel_rfl
  i20:=by kernel_rfl
  i37:=by kernel_rfl
  i46:=by kernel_rfl
  i51:=by kernel_rfl
  i53:=by kernel_rfl
  i171:=by kernel_rfl
  i173:=by kernel_rfl
  i212:=by kernel_rfl
  i232:=by kernel_rfl
  i233:=by kernel_rfl
  m17:=by kernel_rfl
  m18:=by kernel_rfl
  m19:=by kernel_rfl }
def Tryd.laysJoin_ren:Go.Shelf.Ren:=⟨fun | 156=>72 | 165=>85 | 166=>86 | 169=>87 | 240=>95 | 241=>96 | 276=>104 | 277=>105 | n=>n,fun | 31=>101 | 9=>9 | 3=>3 | 4=>4 | 0=>0 | 20=>20 | 72=>155 | 76=>158 | 70=>153 | 37=>72 | 75=>157 | 127=>172 | 164=>182 | 5=>5 | 80=>160 | n=>n,fun | n=>n⟩
theorem Tryd.laysJoin:Go.Proofs.Lays.n156 Tryd.prog Tryd.laysJoin_ren:={
  mixed:=by kernel_rfl
  f156:=Tryd.func72.trans (congrArg some (by kernel_rfl))
  f165:=Tryd.func85.trans (congrArg some (by kernel_rfl))
  f166:=Tryd.func86.trans (congrArg some (by kernel_rfl))
  f169:=Tryd.func87.trans (congrArg some (by kernel_rfl))
  f240:=Tryd.func95.trans (congrArg some (by kernel_rfl))
  f241:=Tryd.func96.trans (congrArg some (by kernel_rfl))
  f276:=Tryd.func104.trans (congrArg some (by kernel_rfl))
  f277:=Tryd.func105.trans (congrArg some (by kernel_rfl))
  t0:=Tryd.underlying0
  a0:=Tryd.isAgg0
  z0:=Tryd.sizeOf0
  v0:=Tryd.zeroValue0
  t3:=Tryd.underlying3
  a3:=Tryd.isAgg3
  z3:=Tryd.sizeOf3
  v3:=Tryd.zeroValue3
  t4:=Tryd.underlying4
  a4:=Tryd.isAgg4
  z4:=Tryd.sizeOf4
  v4:=Tryd.zeroValue4
  t9:=Tryd.underlying9
  a9:=Tryd.isAgg9
  z9:=Tryd.sizeOf9
  v9:=Tryd.zeroValue9
  t20:=Tryd.underlying20
  a20:=Tryd.isAgg20
  z20:=Tryd.sizeOf20
  v20:=Tryd.zeroValue20
  t31:=Tryd.underlying101
  a31:=Tryd.isAgg101
  z31:=Tryd.sizeOf101
  v31:=Tryd.zeroValue101
  t37:=Tryd.underlying72
  a37:=Tryd.isAgg72
  z37:=Tryd.sizeOf72
  v37:=Tryd.zeroValue72
  t70:=Tryd.underlying153
  a70:=Tryd.isAgg153
  z70:=Tryd.sizeOf153
  v70:=Tryd.zeroValue153
  t72:=Tryd.underlying155
  a72:=Tryd.isAgg155
  z72:=Tryd.sizeOf155
  v72:=Tryd.zeroValue155
  t75:=Tryd.underlying157
  a75:=Tryd.isAgg157
  z75:=Tryd.sizeOf157
  v75:=Tryd.zeroValue157
  t76:=Tryd.underlying158
  a76:=Tryd.isAgg158
  z76:=Tryd.sizeOf158
  v76:=Tryd.zeroValue158
  t127:=Tryd.underlying172
  a127:=Tryd.isAgg172
  z127:=Tryd.sizeOf172
  v127:=Tryd.zeroValue172
  t164:=Tryd.underlying182
  a164:=Tryd.isAgg182
  z164:=Tryd.sizeOf182
  v164:=Tryd.zeroValue182 }
theorem Tryd.bldExtra:Builder.Extra Tryd.prog Tryd.laysJoin_ren:={
  sizeBuilder:=by kernel_rfl
  liesBuilder:=by kernel_rfl
  t5:=Tryd.underlying5
  a5:=Tryd.isAgg5
  z5:=Tryd.sizeOf5
  v5:=Tryd.zeroValue5
  infoByte:=by kernel_rfl
  cellsByte:=by kernel_rfl
  sizeByte:=by kernel_rfl
  neB5:=by decide }
end Go.Proofs

/- Texts: strconv.Itoa, strings.Join; operations.Check. -/
namespace Go.Proofs.YtihcolehefloeaaDoor
open Go.RowKit
theorem drewN_heap (w:World):∀ k,(w.drewN k).heap=w.heap∧(w.drewN k).os=w.os∧(w.drewN k).tape=w.tape∧(w.drewN k).output=w.output:=fun k=>⟨rfl,rfl,rfl,rfl⟩
theorem below_grew (w:World) (k:Nat) (os:Array Obj):Below w.heap.size w (Sort.grow (w.drewN k) os):=by
  obtain ⟨h1,h2,h3,h4⟩:=drewN_heap w k;refine ⟨h2,h3,h4,?_,fun j hj=>?_⟩
  · show w.heap.size≤((w.drewN k).heap++os).size
    rw [h1,Array.size_append]; omega
  · show ((w.drewN k).heap++os)[j]?=_
    rw [h1,Array.getElem?_append_left hj]
theorem itoa_ok (n:Int) (h0:-9223372036854775808≤n) (h1:n≤9223372036854775807):AC cx 70 [.c (.val (.int .i64 n))] [] (fun sv h=>sv=.c (.str (Lib.itoa n))∧h=[]):=by
  refine AC.ofRet (v0:=xI (Lib.itoa n)) (fun _ _ _=>rfl) ?_;rintro env B w0 _ W hg ⟨v,r,rfl,hv,hr⟩ hB;have e1:v=_:=hv;have e2:r=[]:=hr;subst e1 e2;refine Calls.mono (Any.strconv_Itoa Tryd.laysItoa n h0 h1 W ((hg 3 _ rfl).tab (by kernel_rfl))) ?_;rintro e w' ⟨rfl,k,os,rfl⟩;exact ⟨_,rfl,rfl,below_grew _ _ _⟩
theorem xE (l:List T8) (cap:Option Nat) (sep:List UInt8) (h0:0 < l.length) (h1:l.length≤1000000) (h2:(Lib.join l sep).length≤1000000000):AC cx 72 [.c (.lst .str l cap),.c (.str sep)] [] (fun sv h=>sv=.c (.str (Lib.join l sep))∧h=[]):=by
  refine AC.ofRet (v0:=xI (Lib.join l sep)) (fun _ _ _=>rfl) ?_;rintro env B w0 _ W hg ⟨v,r,rfl,⟨A,c,xs,rfl,hc1,hc2,_,hf,hrd,hrb⟩,v2,r2,rfl,hv2,hr2⟩ hB;have e1:v2=xI sep:=hv2;have e2:r2=[]:=hr2;subst e1 e2;obtain ⟨b,p,e,hcell⟩:=hrd.2 h0;subst e;have hxs:=flat_strs hf;have hmap:(l.map fun x=>(⟨x.toArray⟩:ByteArray)).map (·.data.toList)=l:=by
    rw [List.map_map];exact (List.map_congr_left (fun x _=>rfl)).trans (List.map_id' l)
  have hJ:=Any.strings_Join_48 Tryd.laysJoin Tryd.bldExtra b p c (l.map fun x=>⟨x.toArray⟩) ⟨sep.toArray⟩ W (fun j x hx=>by
    refine hcell j _ ?_;rw [hxs];rw [List.getElem?_map] at hx ⊢;cases hl:l[j]? with
    | none=>rw [hl] at hx; cases hx
    | some y=>rw [hl] at hx; cases hx; rfl) (hB b (hrb b p h0 rfl)) (by rw [List.length_map]; omega) (by rw [List.length_map]; exact hc1) (by rw [hmap]; show (Lib.join l sep).length≤_; omega)
  rw [hmap,List.length_map] at hJ;refine Calls.mono hJ ?_;rintro e w' ⟨rfl,hb⟩;exact ⟨_,rfl,rfl,hb⟩
def digS (u:Nat):List UInt8:=if u < 10 then [UInt8.ofNat (48+u)] else [UInt8.ofNat (48+u / 10),UInt8.ofNat (48+u % 10)]
def itS (n:Int):List UInt8:=if n < 0 then 45 :: digS n.natAbs else digS n.toNat
theorem digS_eq (u:Nat) (h:u < 100):Lib.decDigits u=digS u:=by
  unfold digS
  split
  · rename_i h1
    rw [Lib.decDigits]
    simp [h1]
  · rename_i h1
    rw [Lib.decDigits]
    simp [h1]
    rw [Lib.decDigits]
    have:u / 10 < 10:=by omega
    simp [this]
theorem itS_eq (n:Int) (h0:-100 < n) (h1:n < 100):Lib.itoa n=itS n:=by
  unfold Lib.itoa itS;rw [digS_eq _ (by omega),digS_eq _ (by omega)]
theorem itS_len (n:Int):(itS n).length≤3:=by
  unfold itS digS
  repeat' split
  all_goals simp
theorem itoaS_ok (n:Int) (h0:-100 < n) (h1:n < 100):AC cx 70 [.c (.val (.int .i64 n))] [] (fun sv h=>sv=.c (.str (itS n))∧h=[]):=by
  have:=itoa_ok n (by omega) (by omega)
  rw [itS_eq n h0 h1] at this;exact this
abbrev opArg (o:qx):SA:=.agg [.val (.int .u8 o.1),.val (.int .u8 o.2.1),.val (.int .u8 o.2.2.1.1),.val (.int .i64 o.2.2.1.2),.val (.int .u8 o.2.2.2.1),.val (.int .i64 o.2.2.2.2)]
theorem ncheck_ok (b p:Int) (hb:0≤b):AC cx 84 [.agg [.val (.int .u8 b),.val (.int .i64 p)]] [] (fun sv h=>sv=.c (.val (.int .i64 (needleErr b.toNat p)))∧h=[]):=
  w_ndcheck (b,p) _ (by have:=ndcheck_eq b.toNat p; rw [Int.toNat_of_nonneg hb] at this; exact this)
theorem opcheck_ok (o:qx) (h:OpN o):AC cx 69 [opArg o] [] (fun sv h=>sv=.c (.val (.int .i64 (opErr (toP o))))∧h=[]):=w_opcheck o _ (opcheck_eq o h)
def needleT (b p:Int):List UInt8:=if xR b.toNat p then (if b=0 then 102 :: itS p else 98 :: itS p) else []
theorem needle_bounds {b:Nat} {p:Int} (h:xR b p=true):b≤1∧1≤p∧p≤40:=by
  simp [xR] at h
  omega
theorem needleT_len (b p:Int):(needleT b p).length≤4:=by
  unfold needleT
  split
  · rename_i h
    have:=needle_bounds h
    have:=itS_len p
    split <;> simp <;> omega
  · simp
theorem ntext_ok (b p:Int) (hb:0≤b):AC cx 71 [.agg [.val (.int .u8 b),.val (.int .i64 p)]] [] (fun sv h=>sv=.c (.str (needleT b p))∧h=[]):=by
  refine zE zv Tryd.func71 rfl Tryd.ntmps71 rfl rfl (res:=[.tmp 2]) rfl<|zu<|zq<|zj zv rfl (by first | rfl | (simp only [zi,zk,ze,GTy.zero,Bool.and_eq_true,Bool.or_eq_true,Bool.not_eq_true',Bool.and_true,Bool.true_and,Bool.or_true,Bool.true_or,decide_eq_true_eq,decide_eq_false_iff_not,true_and,and_true]; omega) | (simp [zi,zk,ze,GTy.zero]; omega) | (simp [zi,zk,ze,GTy.zero])) ?_
  refine zu<|zu<|zq<|zl zv rfl (by first | rfl | (simp only [zi,zk,ze,GTy.zero,Bool.and_eq_true,Bool.or_eq_true,Bool.not_eq_true',Bool.and_true,Bool.true_and,Bool.or_true,Bool.true_or,decide_eq_true_eq,decide_eq_false_iff_not,true_and,and_true]; omega) | (simp [zi,zk,ze,GTy.zero]; omega) | (simp [zi,zk,ze,GTy.zero])) ?_
  refine zo (ncheck_ok b p hb) rfl ⟨rfl,rfl⟩ rfl Tryd.func84 rfl rfl rfl rfl rfl rfl<|zj zv rfl (by first | rfl | (simp only [zi,zk,ze,GTy.zero,Bool.and_eq_true,Bool.or_eq_true,Bool.not_eq_true',Bool.and_true,Bool.true_and,Bool.or_true,Bool.true_or,decide_eq_true_eq,decide_eq_false_iff_not,true_and,and_true]; omega) | (simp [zi,zk,ze,GTy.zero]; omega) | (simp [zi,zk,ze,GTy.zero])) ?_
  refine zJ rfl rfl (fun hc1=>?_) (fun hc1=>?_)
  ·
    refine zu<|zq<|zj zv rfl (by first | rfl | (simp only [zi,zk,ze,GTy.zero,Bool.and_eq_true,Bool.or_eq_true,Bool.not_eq_true',Bool.and_true,Bool.true_and,Bool.or_true,Bool.true_or,decide_eq_true_eq,decide_eq_false_iff_not,true_and,and_true]; omega) | (simp [zi,zk,ze,GTy.zero]; omega) | (simp [zi,zk,ze,GTy.zero])) ?_
    refine zh<|⟨_,Wk.sub (st':=⟨[(2,_)],[]⟩) (SubL.cons rfl SubL.nil) SubH.nil,_,_,rfl,rfl,?_⟩
    have hf:xR b.toNat p=false:=by
      cases h:xR b.toNat p with
      | false=>rfl
      | true=>rw [needleErr,h] at hc1; simp at hc1
    rw [needleT,hf];exact ⟨rfl,rfl⟩
  ·
    refine za<|zu<|zu ?_
    have hf:xR b.toNat p=true:=by
      cases h:xR b.toNat p with
      | true=>rfl
      | false=>rw [needleErr,h] at hc1; simp at hc1
    have hnb:=needle_bounds hf;have hil:=itS_len p;refine zq<|zj zv rfl (by first | rfl | (simp only [zi,zk,ze,GTy.zero,Bool.and_eq_true,Bool.or_eq_true,Bool.not_eq_true',Bool.and_true,Bool.true_and,Bool.or_true,Bool.true_or,decide_eq_true_eq,decide_eq_false_iff_not,true_and,and_true]; omega) | (simp [zi,zk,ze,GTy.zero]; omega) | (simp [zi,zk,ze,GTy.zero])) ?_
    refine zJ rfl rfl (fun hc3=>?_) (fun hc3=>?_)
    ·
      refine zu<|zq<|zl zv rfl rfl<|zo (itoaS_ok p (by omega) (by omega)) rfl ⟨rfl,rfl⟩ rfl Tryd.func70 rfl rfl rfl rfl rfl rfl ?_
      refine zj zv rfl (by simp <;> omega) ?_;refine zh<|⟨_,Wk.sub (st':=⟨[(2,_)],[]⟩) (SubL.cons rfl SubL.nil) SubH.nil,_,_,rfl,rfl,?_⟩
      rw [needleT,hf,if_pos rfl,if_pos (by simpa using hc3)];exact ⟨rfl,rfl⟩
    ·
      refine za<|zu<|zq<|zl zv rfl rfl<|zo (itoaS_ok p (by omega) (by omega)) rfl ⟨rfl,rfl⟩ rfl Tryd.func70 rfl rfl rfl rfl rfl rfl ?_
      refine zj zv rfl (by simp <;> omega) ?_;refine zh<|⟨_,Wk.sub (st':=⟨[(2,_)],[]⟩) (SubL.cons rfl SubL.nil) SubH.nil,_,_,rfl,rfl,?_⟩
      rw [needleT,hf,if_pos rfl,if_neg (by simpa using hc3)];exact ⟨rfl,rfl⟩
end Go.Proofs.YtihcolehefloeaaDoor

/- operations.Text. -/
namespace Go.Proofs.YtihcolehefloeaaDoor
open Go.RowKit
def xQ (o:qx):List T8:=
  wordsL.getD o.1.toNat [] ::
    (if o.1=1 then [itS o.2.2.2.1,dirsL.getD o.2.1.toNat []]
    else if o.1=2 then [itS o.2.2.2.1]
    else if o.1=3 then [itS o.2.2.2.2]
    else if o.1=4∨o.1=5∨o.1=6 then [dirsL.getD o.2.1.toNat [],needleT o.2.2.1.1 o.2.2.1.2,itS o.2.2.2.1]
    else [needleT o.2.2.1.1 o.2.2.1.2])
def xX (o:qx):List UInt8:=if opErr (toP o)=0 then Lib.join (xQ o) [32] else []
theorem opErr_ok (o:qx) (hn:OpN o) (h:opErr (toP o)=0):1≤o.1∧o.1≤8∧o.2.1≤1∧o.2.2.2.1≤6∧-4≤o.2.2.2.2∧o.2.2.2.2≤4:=by
  obtain ⟨g1,g2,g3,g4⟩:=hn;unfold opErr at h
  split at h
  · rename_i hp
    split at h
    · simp at h
    · rename_i hr
      simp only [opPlain,Bool.and_eq_true,Bool.not_eq_true'] at hp;obtain ⟨⟨⟨⟨p1,p2⟩,p3⟩,p4⟩,p5⟩:=hp;simp only [there,Bool.and_eq_true,decide_eq_true_eq] at p1;have q2:(toP o).dir≤1:=by
        unfold dirBad at p2
        split at p2 <;> simp at p2 <;> omega
      have q4:(toP o).yarn≤6:=by
        unfold yarnBad at p4
        split at p4 <;> simp at p4 <;> omega
      simp only [toP] at p1 q2 q4 hr;refine ⟨by omega,by omega,by omega,by omega,by omega,by omega⟩
  · simp at h
theorem word_len (k:Nat):(wordsL.getD k []).length≤4:=getD_len k
where
  getD_len:∀ k,(wordsL.getD k []).length≤4
    | 0 | 1 | 2 | 3 | 4 | 5 | 6 | 7 | 8=>by decide
    | _+9=>by simp [wordsL]
theorem dir_len (k:Nat):(dirsL.getD k []).length≤5:=getD_len k
where
  getD_len:∀ k,(dirsL.getD k []).length≤5
    | 0 | 1=>by decide
    | _+2=>by simp [dirsL]
theorem textT_len (o:qx):(xX o).length≤40:=by
  unfold xX
  split
  · have h1:=word_len o.1.toNat
    have h2:=dir_len o.2.1.toNat;have h3:=itS_len o.2.2.2.1;have h4:=itS_len o.2.2.2.2;have h5:=needleT_len o.2.2.1.1 o.2.2.1.2;unfold xQ
    repeat' split
    all_goals simp only [Lib.join,List.intercalate,List.intersperse,List.flatten_cons,List.flatten_nil,List.length_append,List.length_cons,List.length_nil,List.append_nil]
    all_goals omega
  · simp
theorem optext_ok (o:qx) (hn:OpN o):AC cx 42 [opArg o] [] (fun sv h=>sv=.c (.str (xX o))∧h=[]):=by
  refine zE zv Tryd.func42 rfl Tryd.ntmps42 rfl rfl (res:=[.tmp 2]) rfl ?_;have hn':=hn;obtain ⟨g1,g2,g3,g4⟩:=hn';refine zu<|zq<|zj zv rfl rfl<|zu<|zu<|zq<|zl zv rfl rfl<|zo (opcheck_ok o hn) rfl ⟨rfl,rfl⟩ rfl Tryd.func69 rfl rfl rfl rfl rfl rfl<|zj zv rfl rfl<|zJ rfl rfl (fun hc1=>?_) (fun hc1=>?_)
  ·
    refine zu<|zq<|zj zv rfl rfl<|zh<|⟨_,Wk.sub (st':=⟨[(2,_)],[]⟩) (SubL.cons rfl SubL.nil) SubH.nil,_,_,rfl,rfl,?_⟩
    have hf:opErr (toP o)≠0:=by simpa using hc1
    rw [xX,if_neg hf];exact ⟨rfl,rfl⟩
  ·
    refine za<|zu ?_
    have hf:opErr (toP o)=0:=by simpa using hc1
    obtain ⟨b1,b2,b3,b4,b5,b6⟩:=opErr_ok o hn hf;have h1:=word_len o.1.toNat;have h2:=dir_len o.2.1.toNat;have h3:=itS_len o.2.2.2.1;have h4:=itS_len o.2.2.2.2;have h5:=needleT_len o.2.2.1.1 o.2.2.1.2;have hwl:wordsL.length=9:=rfl;have hdl:dirsL.length=2:=rfl;refine zq<|zl zv rfl (by simp only [zi,zk,ze,GTy.zero,Bool.and_eq_true,Bool.or_eq_true,Bool.not_eq_true',Bool.and_true,Bool.true_and,Bool.or_true,Bool.true_or,decide_eq_true_eq,decide_eq_false_iff_not,true_and,and_true]; omega) ?_
    refine zo (itoaS_ok o.2.2.2.1 (by omega) (by omega)) rfl ⟨rfl,rfl⟩ rfl Tryd.func70 rfl rfl rfl rfl rfl rfl ?_;refine zj zv rfl rfl<|zu<|zq<|zj zv rfl (by simp only [zi,zk,ze,GTy.zero,Bool.and_eq_true,Bool.or_eq_true,Bool.not_eq_true',Bool.and_true,Bool.true_and,Bool.or_true,Bool.true_or,decide_eq_true_eq,decide_eq_false_iff_not,true_and,and_true]; omega) ?_
    refine zu<|zu<|zq<|zj zv rfl rfl<|zd<|zu<|zq<|zj zv rfl rfl<|zJ rfl rfl (fun hc6=>?_) (fun hc6=>?_)
    ·
      refine zq<|zj zv rfl (by simp [zi,zk,ze,GTy.zero]; omega) ?_
      refine zu ?_
      first | (exfalso; (simp only [decide_eq_true_eq,decide_eq_false_iff_not] at *; omega); done) | skip
      all_goals
        refine zb (Wk.frz (id:=16) rfl)<|zq<|zl zv rfl rfl<|zo (xE _ none [32] (by simp) (by simp) (by simp only [GTy.zero,Lib.join,List.intercalate,List.intersperse,List.flatten_cons,List.flatten_nil,List.cons_append,List.nil_append,List.length_append,List.length_cons,List.length_nil,List.append_nil]; omega)) rfl ⟨rfl,rfl⟩ rfl Tryd.func72 rfl rfl rfl rfl rfl rfl ?_
        refine zj zv rfl rfl<|zh<|⟨_,Wk.sub (st':=⟨[(2,_)],[]⟩) (SubL.cons rfl SubL.nil) SubH.nil,_,_,rfl,rfl,?_⟩
        refine ⟨?_,rfl⟩
        clear h1 h2 h3 h4 h5 hwl hdl
        simp only [decide_eq_true_eq,decide_eq_false_iff_not] at *
        simp [xX,hf,xQ, *]
        done
    ·
      refine zu<|zq<|zj zv rfl rfl<|zJ rfl rfl (fun hc8=>?_) (fun hc8=>?_)
      ·
        refine zq<|zj zv rfl rfl<|zu ?_
        first | (exfalso; (simp only [decide_eq_true_eq,decide_eq_false_iff_not] at *; omega); done) | skip
        all_goals
          refine zb (Wk.frz (id:=16) rfl)<|zq<|zl zv rfl rfl<|zo (xE _ none [32] (by simp) (by simp) (by simp only [GTy.zero,Lib.join,List.intercalate,List.intersperse,List.flatten_cons,List.flatten_nil,List.cons_append,List.nil_append,List.length_append,List.length_cons,List.length_nil,List.append_nil]; omega)) rfl ⟨rfl,rfl⟩ rfl Tryd.func72 rfl rfl rfl rfl rfl rfl ?_
          refine zj zv rfl rfl<|zh<|⟨_,Wk.sub (st':=⟨[(2,_)],[]⟩) (SubL.cons rfl SubL.nil) SubH.nil,_,_,rfl,rfl,?_⟩
          refine ⟨?_,rfl⟩
          clear h1 h2 h3 h4 h5 hwl hdl
          simp only [decide_eq_true_eq,decide_eq_false_iff_not] at *
          simp [xX,hf,xQ, *]
          done
      ·
        refine zu<|zq<|zj zv rfl rfl<|zJ rfl rfl (fun hc10=>?_) (fun hc10=>?_)
        ·
          refine zq<|zl zv rfl rfl<|zo (itoaS_ok o.2.2.2.2 (by omega) (by omega)) rfl ⟨rfl,rfl⟩ rfl Tryd.func70 rfl rfl rfl rfl rfl rfl ?_
          refine zj zv rfl rfl<|zu ?_
          first | (exfalso; (simp only [decide_eq_true_eq,decide_eq_false_iff_not] at *; omega); done) | skip
          all_goals
            refine zb (Wk.frz (id:=16) rfl)<|zq<|zl zv rfl rfl<|zo (xE _ none [32] (by simp) (by simp) (by simp only [GTy.zero,Lib.join,List.intercalate,List.intersperse,List.flatten_cons,List.flatten_nil,List.cons_append,List.nil_append,List.length_append,List.length_cons,List.length_nil,List.append_nil]; omega)) rfl ⟨rfl,rfl⟩ rfl Tryd.func72 rfl rfl rfl rfl rfl rfl ?_
            refine zj zv rfl rfl<|zh<|⟨_,Wk.sub (st':=⟨[(2,_)],[]⟩) (SubL.cons rfl SubL.nil) SubH.nil,_,_,rfl,rfl,?_⟩
            refine ⟨?_,rfl⟩
            clear h1 h2 h3 h4 h5 hwl hdl
            simp only [decide_eq_true_eq,decide_eq_false_iff_not] at *
            simp [xX,hf,xQ, *]
            done
        ·
          refine zu<|zu<|zq<|zj zv rfl rfl<|zJ rfl rfl (fun hc12=>?_) (fun hc12=>?_)
          ·
            refine za<|zJ rfl rfl (fun hc12=>?_) (fun hc12=>?_)
            ·
              first | (exfalso; (simp only [decide_eq_true_eq,decide_eq_false_iff_not] at *; omega); done) | skip
              all_goals
                refine zI [5,6,7,8] (by kernel_rfl) rfl (N:=12)<|zf (fuel:=4) (ds':=⟨#[true,true,true,true,true,true,true,false,true,false,false,false],true,true,true⟩) zv [(0,0),(1,0),(2,3),(3,0),(4,1),(5,0),(6,3),(8,0)] (by kernel_rfl) rfl (by simp only [zi,zk,ze,GTy.zero,Bool.and_eq_true,Bool.or_eq_true,Bool.not_eq_true',Bool.and_true,Bool.true_and,Bool.or_true,Bool.true_or,decide_eq_true_eq,decide_eq_false_iff_not,true_and,and_true]; omega) ?_
                refine zg (by kernel_rfl) (zc (i:=7) ?_ zn);refine zP rfl<|zD (i:=7) (listed':=#[true,true,true,true,true,true,true,true,true,false,false,false]) (pre':=true) [] (ntext_ok o.2.2.1.1 o.2.2.1.2 g3) rfl rfl rfl rfl ⟨rfl,rfl⟩ rfl Tryd.func71 rfl rfl rfl rfl rfl rfl PassH.nil ?_
                rintro _ _ ⟨rfl,rfl⟩;refine ⟨_,_,rfl,rfl,?_⟩;refine zf (fuel:=0) (ds':=⟨#[true,true,true,true,true,true,true,true,true,true,true,true],false,false,false⟩) zv [(9,2),(10,2),(11,0)] (by kernel_rfl) rfl rfl<|zm (by kernel_rfl)<|zu ?_
                first | (exfalso; (simp only [decide_eq_true_eq,decide_eq_false_iff_not] at *; omega); done) | skip
                all_goals
                  refine zb (Wk.frz (id:=16) rfl)<|zq<|zl zv rfl rfl<|zo (xE _ none [32] (by simp) (by simp) (by simp only [GTy.zero,Lib.join,List.intercalate,List.intersperse,List.flatten_cons,List.flatten_nil,List.cons_append,List.nil_append,List.length_append,List.length_cons,List.length_nil,List.append_nil]; omega)) rfl ⟨rfl,rfl⟩ rfl Tryd.func72 rfl rfl rfl rfl rfl rfl ?_
                  refine zj zv rfl rfl<|zh<|⟨_,Wk.sub (st':=⟨[(2,_)],[]⟩) (SubL.cons rfl SubL.nil) SubH.nil,_,_,rfl,rfl,?_⟩
                  refine ⟨?_,rfl⟩
                  clear h1 h2 h3 h4 h5 hwl hdl
                  simp only [decide_eq_true_eq,decide_eq_false_iff_not] at *
                  simp [xX,hf,xQ, *]
                  done
            ·
              refine zu<|zu ?_
              first | (exfalso; (simp only [decide_eq_true_eq,decide_eq_false_iff_not] at *; omega); done) | skip
              all_goals
                refine zq<|zj zv rfl (by first | rfl | (simp only [zi,zk,ze,GTy.zero,Bool.and_eq_true,Bool.or_eq_true,Bool.not_eq_true',Bool.and_true,Bool.true_and,Bool.or_true,Bool.true_or,decide_eq_true_eq,decide_eq_false_iff_not,true_and,and_true]; omega) | (simp [zi,zk,ze,GTy.zero]; omega) | (simp [zi,zk,ze,GTy.zero])) ?_
                refine zJ rfl rfl (fun hc16=>?_) (fun hc16=>?_)
                ·
                  refine za<|zJ rfl rfl (fun hc16=>?_) (fun hc16=>?_)
                  ·
                    first | (exfalso; (simp only [decide_eq_true_eq,decide_eq_false_iff_not] at *; omega); done) | skip
                    all_goals
                      refine zq<|zl zv rfl (by first | rfl | (simp only [zi,zk,ze,GTy.zero,Bool.and_eq_true,Bool.or_eq_true,Bool.not_eq_true',Bool.and_true,Bool.true_and,Bool.or_true,Bool.true_or,decide_eq_true_eq,decide_eq_false_iff_not,true_and,and_true]; omega) | (simp [zi,zk,ze,GTy.zero]; omega) | (simp [zi,zk,ze,GTy.zero])) ?_
                      refine zo (ntext_ok o.2.2.1.1 o.2.2.1.2 g3) rfl ⟨rfl,rfl⟩ rfl Tryd.func71 rfl rfl rfl rfl rfl rfl<|zj zv rfl (by first | rfl | (simp only [zi,zk,ze,GTy.zero,Bool.and_eq_true,Bool.or_eq_true,Bool.not_eq_true',Bool.and_true,Bool.true_and,Bool.or_true,Bool.true_or,decide_eq_true_eq,decide_eq_false_iff_not,true_and,and_true]; omega) | (simp [zi,zk,ze,GTy.zero]; omega) | (simp [zi,zk,ze,GTy.zero])) ?_
                      refine zu ?_
                      first | (exfalso; (simp only [decide_eq_true_eq,decide_eq_false_iff_not] at *; omega); done) | skip
                      all_goals
                        refine zb (Wk.frz (id:=16) rfl)<|zq<|zl zv rfl (by first | rfl | (simp only [zi,zk,ze,GTy.zero,Bool.and_eq_true,Bool.or_eq_true,Bool.not_eq_true',Bool.and_true,Bool.true_and,Bool.or_true,Bool.true_or,decide_eq_true_eq,decide_eq_false_iff_not,true_and,and_true]; omega) | (simp [zi,zk,ze,GTy.zero]; omega) | (simp [zi,zk,ze,GTy.zero])) ?_
                        refine zo (xE _ none [32] (by simp) (by simp) (by simp only [GTy.zero,Lib.join,List.intercalate,List.intersperse,List.flatten_cons,List.flatten_nil,List.cons_append,List.nil_append,List.length_append,List.length_cons,List.length_nil,List.append_nil]; omega)) rfl ⟨rfl,rfl⟩ rfl Tryd.func72 rfl rfl rfl rfl rfl rfl ?_;refine zj zv rfl (by first | rfl | (simp only [zi,zk,ze,GTy.zero,Bool.and_eq_true,Bool.or_eq_true,Bool.not_eq_true',Bool.and_true,Bool.true_and,Bool.or_true,Bool.true_or,decide_eq_true_eq,decide_eq_false_iff_not,true_and,and_true]; omega) | (simp [zi,zk,ze,GTy.zero]; omega) | (simp [zi,zk,ze,GTy.zero])) ?_;refine zh<|⟨_,Wk.sub (st':=⟨[(2,_)],[]⟩) (SubL.cons rfl SubL.nil) SubH.nil,_,_,rfl,rfl,?_⟩
                        refine ⟨?_,rfl⟩
                        clear h1 h2 h3 h4 h5 hwl hdl
                        simp only [decide_eq_true_eq,decide_eq_false_iff_not] at *
                        simp [xX,hf,xQ, *]
                        done
                  ·
                    refine za<|zu ?_
                    first | (exfalso; (simp only [decide_eq_true_eq,decide_eq_false_iff_not] at *; omega); done) | skip
                    all_goals
                      refine zb (Wk.frz (id:=16) rfl)<|zq<|zl zv rfl (by first | rfl | (simp only [zi,zk,ze,GTy.zero,Bool.and_eq_true,Bool.or_eq_true,Bool.not_eq_true',Bool.and_true,Bool.true_and,Bool.or_true,Bool.true_or,decide_eq_true_eq,decide_eq_false_iff_not,true_and,and_true]; omega) | (simp [zi,zk,ze,GTy.zero]; omega) | (simp [zi,zk,ze,GTy.zero])) ?_
                      refine zo (xE _ none [32] (by simp) (by simp) (by simp only [GTy.zero,Lib.join,List.intercalate,List.intersperse,List.flatten_cons,List.flatten_nil,List.cons_append,List.nil_append,List.length_append,List.length_cons,List.length_nil,List.append_nil]; omega)) rfl ⟨rfl,rfl⟩ rfl Tryd.func72 rfl rfl rfl rfl rfl rfl ?_;refine zj zv rfl (by first | rfl | (simp only [zi,zk,ze,GTy.zero,Bool.and_eq_true,Bool.or_eq_true,Bool.not_eq_true',Bool.and_true,Bool.true_and,Bool.or_true,Bool.true_or,decide_eq_true_eq,decide_eq_false_iff_not,true_and,and_true]; omega) | (simp [zi,zk,ze,GTy.zero]; omega) | (simp [zi,zk,ze,GTy.zero])) ?_;refine zh<|⟨_,Wk.sub (st':=⟨[(2,_)],[]⟩) (SubL.cons rfl SubL.nil) SubH.nil,_,_,rfl,rfl,?_⟩
                      refine ⟨?_,rfl⟩
                      clear h1 h2 h3 h4 h5 hwl hdl
                      simp only [decide_eq_true_eq,decide_eq_false_iff_not] at *
                      simp [xX,hf,xQ, *]
                      done
                ·
                  refine zq<|zj zv rfl (by first | rfl | (simp only [zi,zk,ze,GTy.zero,Bool.and_eq_true,Bool.or_eq_true,Bool.not_eq_true',Bool.and_true,Bool.true_and,Bool.or_true,Bool.true_or,decide_eq_true_eq,decide_eq_false_iff_not,true_and,and_true]; omega) | (simp [zi,zk,ze,GTy.zero]; omega) | (simp [zi,zk,ze,GTy.zero])) ?_
                  refine zJ rfl rfl (fun hc17=>?_) (fun hc17=>?_)
                  ·
                    first | (exfalso; (simp only [decide_eq_true_eq,decide_eq_false_iff_not] at *; omega); done) | skip
                    all_goals
                      refine zq<|zl zv rfl (by first | rfl | (simp only [zi,zk,ze,GTy.zero,Bool.and_eq_true,Bool.or_eq_true,Bool.not_eq_true',Bool.and_true,Bool.true_and,Bool.or_true,Bool.true_or,decide_eq_true_eq,decide_eq_false_iff_not,true_and,and_true]; omega) | (simp [zi,zk,ze,GTy.zero]; omega) | (simp [zi,zk,ze,GTy.zero])) ?_
                      refine zo (ntext_ok o.2.2.1.1 o.2.2.1.2 g3) rfl ⟨rfl,rfl⟩ rfl Tryd.func71 rfl rfl rfl rfl rfl rfl<|zj zv rfl (by first | rfl | (simp only [zi,zk,ze,GTy.zero,Bool.and_eq_true,Bool.or_eq_true,Bool.not_eq_true',Bool.and_true,Bool.true_and,Bool.or_true,Bool.true_or,decide_eq_true_eq,decide_eq_false_iff_not,true_and,and_true]; omega) | (simp [zi,zk,ze,GTy.zero]; omega) | (simp [zi,zk,ze,GTy.zero])) ?_
                      refine zu ?_
                      first | (exfalso; (simp only [decide_eq_true_eq,decide_eq_false_iff_not] at *; omega); done) | skip
                      all_goals
                        refine zb (Wk.frz (id:=16) rfl)<|zq<|zl zv rfl (by first | rfl | (simp only [zi,zk,ze,GTy.zero,Bool.and_eq_true,Bool.or_eq_true,Bool.not_eq_true',Bool.and_true,Bool.true_and,Bool.or_true,Bool.true_or,decide_eq_true_eq,decide_eq_false_iff_not,true_and,and_true]; omega) | (simp [zi,zk,ze,GTy.zero]; omega) | (simp [zi,zk,ze,GTy.zero])) ?_
                        refine zo (xE _ none [32] (by simp) (by simp) (by simp only [GTy.zero,Lib.join,List.intercalate,List.intersperse,List.flatten_cons,List.flatten_nil,List.cons_append,List.nil_append,List.length_append,List.length_cons,List.length_nil,List.append_nil]; omega)) rfl ⟨rfl,rfl⟩ rfl Tryd.func72 rfl rfl rfl rfl rfl rfl ?_;refine zj zv rfl (by first | rfl | (simp only [zi,zk,ze,GTy.zero,Bool.and_eq_true,Bool.or_eq_true,Bool.not_eq_true',Bool.and_true,Bool.true_and,Bool.or_true,Bool.true_or,decide_eq_true_eq,decide_eq_false_iff_not,true_and,and_true]; omega) | (simp [zi,zk,ze,GTy.zero]; omega) | (simp [zi,zk,ze,GTy.zero])) ?_;refine zh<|⟨_,Wk.sub (st':=⟨[(2,_)],[]⟩) (SubL.cons rfl SubL.nil) SubH.nil,_,_,rfl,rfl,?_⟩
                        refine ⟨?_,rfl⟩
                        clear h1 h2 h3 h4 h5 hwl hdl
                        simp only [decide_eq_true_eq,decide_eq_false_iff_not] at *
                        simp [xX,hf,xQ, *]
                        done
                  ·
                    refine za<|zu ?_
                    first | (exfalso; (simp only [decide_eq_true_eq,decide_eq_false_iff_not] at *; omega); done) | skip
                    all_goals
                      refine zb (Wk.frz (id:=16) rfl)<|zq<|zl zv rfl (by first | rfl | (simp only [zi,zk,ze,GTy.zero,Bool.and_eq_true,Bool.or_eq_true,Bool.not_eq_true',Bool.and_true,Bool.true_and,Bool.or_true,Bool.true_or,decide_eq_true_eq,decide_eq_false_iff_not,true_and,and_true]; omega) | (simp [zi,zk,ze,GTy.zero]; omega) | (simp [zi,zk,ze,GTy.zero])) ?_
                      refine zo (xE _ none [32] (by simp) (by simp) (by simp only [GTy.zero,Lib.join,List.intercalate,List.intersperse,List.flatten_cons,List.flatten_nil,List.cons_append,List.nil_append,List.length_append,List.length_cons,List.length_nil,List.append_nil]; omega)) rfl ⟨rfl,rfl⟩ rfl Tryd.func72 rfl rfl rfl rfl rfl rfl ?_;refine zj zv rfl (by first | rfl | (simp only [zi,zk,ze,GTy.zero,Bool.and_eq_true,Bool.or_eq_true,Bool.not_eq_true',Bool.and_true,Bool.true_and,Bool.or_true,Bool.true_or,decide_eq_true_eq,decide_eq_false_iff_not,true_and,and_true]; omega) | (simp [zi,zk,ze,GTy.zero]; omega) | (simp [zi,zk,ze,GTy.zero])) ?_;refine zh<|⟨_,Wk.sub (st':=⟨[(2,_)],[]⟩) (SubL.cons rfl SubL.nil) SubH.nil,_,_,rfl,rfl,?_⟩
                      refine ⟨?_,rfl⟩
                      clear h1 h2 h3 h4 h5 hwl hdl
                      simp only [decide_eq_true_eq,decide_eq_false_iff_not] at *
                      simp [xX,hf,xQ, *]
                      done
          ·
            refine zu<|zq<|zj zv rfl rfl<|zJ rfl rfl (fun hc13=>?_) (fun hc13=>?_)
            ·
              refine za<|zJ rfl rfl (fun hc13=>?_) (fun hc13=>?_)
              ·
                first | (exfalso; (simp only [decide_eq_true_eq,decide_eq_false_iff_not] at *; omega); done) | skip
                all_goals
                  refine zI [5,6,7,8] (by kernel_rfl) rfl (N:=12)<|zf (fuel:=4) (ds':=⟨#[true,true,true,true,true,true,true,false,true,false,false,false],true,true,true⟩) zv [(0,0),(1,0),(2,3),(3,0),(4,1),(5,0),(6,3),(8,0)] (by kernel_rfl) rfl (by simp only [zi,zk,ze,GTy.zero,Bool.and_eq_true,Bool.or_eq_true,Bool.not_eq_true',Bool.and_true,Bool.true_and,Bool.or_true,Bool.true_or,decide_eq_true_eq,decide_eq_false_iff_not,true_and,and_true]; omega) ?_
                  refine zg (by kernel_rfl) (zc (i:=7) ?_ zn);refine zP rfl<|zD (i:=7) (listed':=#[true,true,true,true,true,true,true,true,true,false,false,false]) (pre':=true) [] (ntext_ok o.2.2.1.1 o.2.2.1.2 g3) rfl rfl rfl rfl ⟨rfl,rfl⟩ rfl Tryd.func71 rfl rfl rfl rfl rfl rfl PassH.nil ?_
                  rintro _ _ ⟨rfl,rfl⟩;refine ⟨_,_,rfl,rfl,?_⟩;refine zf (fuel:=0) (ds':=⟨#[true,true,true,true,true,true,true,true,true,true,true,true],false,false,false⟩) zv [(9,2),(10,2),(11,0)] (by kernel_rfl) rfl rfl<|zm (by kernel_rfl)<|zu ?_
                  first | (exfalso; (simp only [decide_eq_true_eq,decide_eq_false_iff_not] at *; omega); done) | skip
                  all_goals
                    refine zb (Wk.frz (id:=16) rfl)<|zq<|zl zv rfl rfl<|zo (xE _ none [32] (by simp) (by simp) (by simp only [GTy.zero,Lib.join,List.intercalate,List.intersperse,List.flatten_cons,List.flatten_nil,List.cons_append,List.nil_append,List.length_append,List.length_cons,List.length_nil,List.append_nil]; omega)) rfl ⟨rfl,rfl⟩ rfl Tryd.func72 rfl rfl rfl rfl rfl rfl ?_
                    refine zj zv rfl rfl<|zh<|⟨_,Wk.sub (st':=⟨[(2,_)],[]⟩) (SubL.cons rfl SubL.nil) SubH.nil,_,_,rfl,rfl,?_⟩
                    refine ⟨?_,rfl⟩
                    clear h1 h2 h3 h4 h5 hwl hdl
                    simp only [decide_eq_true_eq,decide_eq_false_iff_not] at *
                    simp [xX,hf,xQ, *]
                    done
              ·
                refine zu<|zu ?_
                first | (exfalso; (simp only [decide_eq_true_eq,decide_eq_false_iff_not] at *; omega); done) | skip
                all_goals
                  refine zq<|zj zv rfl (by first | rfl | (simp only [zi,zk,ze,GTy.zero,Bool.and_eq_true,Bool.or_eq_true,Bool.not_eq_true',Bool.and_true,Bool.true_and,Bool.or_true,Bool.true_or,decide_eq_true_eq,decide_eq_false_iff_not,true_and,and_true]; omega) | (simp [zi,zk,ze,GTy.zero]; omega) | (simp [zi,zk,ze,GTy.zero])) ?_
                  refine zJ rfl rfl (fun hc16=>?_) (fun hc16=>?_)
                  ·
                    refine za<|zJ rfl rfl (fun hc16=>?_) (fun hc16=>?_)
                    ·
                      first | (exfalso; (simp only [decide_eq_true_eq,decide_eq_false_iff_not] at *; omega); done) | skip
                      all_goals
                        refine zq<|zl zv rfl (by first | rfl | (simp only [zi,zk,ze,GTy.zero,Bool.and_eq_true,Bool.or_eq_true,Bool.not_eq_true',Bool.and_true,Bool.true_and,Bool.or_true,Bool.true_or,decide_eq_true_eq,decide_eq_false_iff_not,true_and,and_true]; omega) | (simp [zi,zk,ze,GTy.zero]; omega) | (simp [zi,zk,ze,GTy.zero])) ?_
                        refine zo (ntext_ok o.2.2.1.1 o.2.2.1.2 g3) rfl ⟨rfl,rfl⟩ rfl Tryd.func71 rfl rfl rfl rfl rfl rfl<|zj zv rfl (by first | rfl | (simp only [zi,zk,ze,GTy.zero,Bool.and_eq_true,Bool.or_eq_true,Bool.not_eq_true',Bool.and_true,Bool.true_and,Bool.or_true,Bool.true_or,decide_eq_true_eq,decide_eq_false_iff_not,true_and,and_true]; omega) | (simp [zi,zk,ze,GTy.zero]; omega) | (simp [zi,zk,ze,GTy.zero])) ?_
                        refine zu ?_
                        first | (exfalso; (simp only [decide_eq_true_eq,decide_eq_false_iff_not] at *; omega); done) | skip
                        all_goals
                          refine zb (Wk.frz (id:=16) rfl)<|zq<|zl zv rfl (by first | rfl | (simp only [zi,zk,ze,GTy.zero,Bool.and_eq_true,Bool.or_eq_true,Bool.not_eq_true',Bool.and_true,Bool.true_and,Bool.or_true,Bool.true_or,decide_eq_true_eq,decide_eq_false_iff_not,true_and,and_true]; omega) | (simp [zi,zk,ze,GTy.zero]; omega) | (simp [zi,zk,ze,GTy.zero])) ?_
                          refine zo (xE _ none [32] (by simp) (by simp) (by simp only [GTy.zero,Lib.join,List.intercalate,List.intersperse,List.flatten_cons,List.flatten_nil,List.cons_append,List.nil_append,List.length_append,List.length_cons,List.length_nil,List.append_nil]; omega)) rfl ⟨rfl,rfl⟩ rfl Tryd.func72 rfl rfl rfl rfl rfl rfl ?_;refine zj zv rfl (by first | rfl | (simp only [zi,zk,ze,GTy.zero,Bool.and_eq_true,Bool.or_eq_true,Bool.not_eq_true',Bool.and_true,Bool.true_and,Bool.or_true,Bool.true_or,decide_eq_true_eq,decide_eq_false_iff_not,true_and,and_true]; omega) | (simp [zi,zk,ze,GTy.zero]; omega) | (simp [zi,zk,ze,GTy.zero])) ?_;refine zh<|⟨_,Wk.sub (st':=⟨[(2,_)],[]⟩) (SubL.cons rfl SubL.nil) SubH.nil,_,_,rfl,rfl,?_⟩
                          refine ⟨?_,rfl⟩
                          clear h1 h2 h3 h4 h5 hwl hdl
                          simp only [decide_eq_true_eq,decide_eq_false_iff_not] at *
                          simp [xX,hf,xQ, *]
                          done
                    ·
                      refine za<|zu ?_
                      first | (exfalso; (simp only [decide_eq_true_eq,decide_eq_false_iff_not] at *; omega); done) | skip
                      all_goals
                        refine zb (Wk.frz (id:=16) rfl)<|zq<|zl zv rfl (by first | rfl | (simp only [zi,zk,ze,GTy.zero,Bool.and_eq_true,Bool.or_eq_true,Bool.not_eq_true',Bool.and_true,Bool.true_and,Bool.or_true,Bool.true_or,decide_eq_true_eq,decide_eq_false_iff_not,true_and,and_true]; omega) | (simp [zi,zk,ze,GTy.zero]; omega) | (simp [zi,zk,ze,GTy.zero])) ?_
                        refine zo (xE _ none [32] (by simp) (by simp) (by simp only [GTy.zero,Lib.join,List.intercalate,List.intersperse,List.flatten_cons,List.flatten_nil,List.cons_append,List.nil_append,List.length_append,List.length_cons,List.length_nil,List.append_nil]; omega)) rfl ⟨rfl,rfl⟩ rfl Tryd.func72 rfl rfl rfl rfl rfl rfl ?_;refine zj zv rfl (by first | rfl | (simp only [zi,zk,ze,GTy.zero,Bool.and_eq_true,Bool.or_eq_true,Bool.not_eq_true',Bool.and_true,Bool.true_and,Bool.or_true,Bool.true_or,decide_eq_true_eq,decide_eq_false_iff_not,true_and,and_true]; omega) | (simp [zi,zk,ze,GTy.zero]; omega) | (simp [zi,zk,ze,GTy.zero])) ?_;refine zh<|⟨_,Wk.sub (st':=⟨[(2,_)],[]⟩) (SubL.cons rfl SubL.nil) SubH.nil,_,_,rfl,rfl,?_⟩
                        refine ⟨?_,rfl⟩
                        clear h1 h2 h3 h4 h5 hwl hdl
                        simp only [decide_eq_true_eq,decide_eq_false_iff_not] at *
                        simp [xX,hf,xQ, *]
                        done
                  ·
                    refine zq<|zj zv rfl (by first | rfl | (simp only [zi,zk,ze,GTy.zero,Bool.and_eq_true,Bool.or_eq_true,Bool.not_eq_true',Bool.and_true,Bool.true_and,Bool.or_true,Bool.true_or,decide_eq_true_eq,decide_eq_false_iff_not,true_and,and_true]; omega) | (simp [zi,zk,ze,GTy.zero]; omega) | (simp [zi,zk,ze,GTy.zero])) ?_
                    refine zJ rfl rfl (fun hc17=>?_) (fun hc17=>?_)
                    ·
                      first | (exfalso; (simp only [decide_eq_true_eq,decide_eq_false_iff_not] at *; omega); done) | skip
                      all_goals
                        refine zq<|zl zv rfl (by first | rfl | (simp only [zi,zk,ze,GTy.zero,Bool.and_eq_true,Bool.or_eq_true,Bool.not_eq_true',Bool.and_true,Bool.true_and,Bool.or_true,Bool.true_or,decide_eq_true_eq,decide_eq_false_iff_not,true_and,and_true]; omega) | (simp [zi,zk,ze,GTy.zero]; omega) | (simp [zi,zk,ze,GTy.zero])) ?_
                        refine zo (ntext_ok o.2.2.1.1 o.2.2.1.2 g3) rfl ⟨rfl,rfl⟩ rfl Tryd.func71 rfl rfl rfl rfl rfl rfl<|zj zv rfl (by first | rfl | (simp only [zi,zk,ze,GTy.zero,Bool.and_eq_true,Bool.or_eq_true,Bool.not_eq_true',Bool.and_true,Bool.true_and,Bool.or_true,Bool.true_or,decide_eq_true_eq,decide_eq_false_iff_not,true_and,and_true]; omega) | (simp [zi,zk,ze,GTy.zero]; omega) | (simp [zi,zk,ze,GTy.zero])) ?_
                        refine zu ?_
                        first | (exfalso; (simp only [decide_eq_true_eq,decide_eq_false_iff_not] at *; omega); done) | skip
                        all_goals
                          refine zb (Wk.frz (id:=16) rfl)<|zq<|zl zv rfl (by first | rfl | (simp only [zi,zk,ze,GTy.zero,Bool.and_eq_true,Bool.or_eq_true,Bool.not_eq_true',Bool.and_true,Bool.true_and,Bool.or_true,Bool.true_or,decide_eq_true_eq,decide_eq_false_iff_not,true_and,and_true]; omega) | (simp [zi,zk,ze,GTy.zero]; omega) | (simp [zi,zk,ze,GTy.zero])) ?_
                          refine zo (xE _ none [32] (by simp) (by simp) (by simp only [GTy.zero,Lib.join,List.intercalate,List.intersperse,List.flatten_cons,List.flatten_nil,List.cons_append,List.nil_append,List.length_append,List.length_cons,List.length_nil,List.append_nil]; omega)) rfl ⟨rfl,rfl⟩ rfl Tryd.func72 rfl rfl rfl rfl rfl rfl ?_;refine zj zv rfl (by first | rfl | (simp only [zi,zk,ze,GTy.zero,Bool.and_eq_true,Bool.or_eq_true,Bool.not_eq_true',Bool.and_true,Bool.true_and,Bool.or_true,Bool.true_or,decide_eq_true_eq,decide_eq_false_iff_not,true_and,and_true]; omega) | (simp [zi,zk,ze,GTy.zero]; omega) | (simp [zi,zk,ze,GTy.zero])) ?_;refine zh<|⟨_,Wk.sub (st':=⟨[(2,_)],[]⟩) (SubL.cons rfl SubL.nil) SubH.nil,_,_,rfl,rfl,?_⟩
                          refine ⟨?_,rfl⟩
                          clear h1 h2 h3 h4 h5 hwl hdl
                          simp only [decide_eq_true_eq,decide_eq_false_iff_not] at *
                          simp [xX,hf,xQ, *]
                          done
                    ·
                      refine za<|zu ?_
                      first | (exfalso; (simp only [decide_eq_true_eq,decide_eq_false_iff_not] at *; omega); done) | skip
                      all_goals
                        refine zb (Wk.frz (id:=16) rfl)<|zq<|zl zv rfl (by first | rfl | (simp only [zi,zk,ze,GTy.zero,Bool.and_eq_true,Bool.or_eq_true,Bool.not_eq_true',Bool.and_true,Bool.true_and,Bool.or_true,Bool.true_or,decide_eq_true_eq,decide_eq_false_iff_not,true_and,and_true]; omega) | (simp [zi,zk,ze,GTy.zero]; omega) | (simp [zi,zk,ze,GTy.zero])) ?_
                        refine zo (xE _ none [32] (by simp) (by simp) (by simp only [GTy.zero,Lib.join,List.intercalate,List.intersperse,List.flatten_cons,List.flatten_nil,List.cons_append,List.nil_append,List.length_append,List.length_cons,List.length_nil,List.append_nil]; omega)) rfl ⟨rfl,rfl⟩ rfl Tryd.func72 rfl rfl rfl rfl rfl rfl ?_;refine zj zv rfl (by first | rfl | (simp only [zi,zk,ze,GTy.zero,Bool.and_eq_true,Bool.or_eq_true,Bool.not_eq_true',Bool.and_true,Bool.true_and,Bool.or_true,Bool.true_or,decide_eq_true_eq,decide_eq_false_iff_not,true_and,and_true]; omega) | (simp [zi,zk,ze,GTy.zero]; omega) | (simp [zi,zk,ze,GTy.zero])) ?_;refine zh<|⟨_,Wk.sub (st':=⟨[(2,_)],[]⟩) (SubL.cons rfl SubL.nil) SubH.nil,_,_,rfl,rfl,?_⟩
                        refine ⟨?_,rfl⟩
                        clear h1 h2 h3 h4 h5 hwl hdl
                        simp only [decide_eq_true_eq,decide_eq_false_iff_not] at *
                        simp [xX,hf,xQ, *]
                        done
            ·
              refine zq<|zj zv rfl rfl<|zJ rfl rfl (fun hc14=>?_) (fun hc14=>?_)
              ·
                first | (exfalso; (simp only [decide_eq_true_eq,decide_eq_false_iff_not] at *; omega); done) | skip
                all_goals
                  refine zI [5,6,7,8] (by kernel_rfl) rfl (N:=12)<|zf (fuel:=4) (ds':=⟨#[true,true,true,true,true,true,true,false,true,false,false,false],true,true,true⟩) zv [(0,0),(1,0),(2,3),(3,0),(4,1),(5,0),(6,3),(8,0)] (by kernel_rfl) rfl (by simp only [zi,zk,ze,GTy.zero,Bool.and_eq_true,Bool.or_eq_true,Bool.not_eq_true',Bool.and_true,Bool.true_and,Bool.or_true,Bool.true_or,decide_eq_true_eq,decide_eq_false_iff_not,true_and,and_true]; omega) ?_
                  refine zg (by kernel_rfl) (zc (i:=7) ?_ zn);refine zP rfl<|zD (i:=7) (listed':=#[true,true,true,true,true,true,true,true,true,false,false,false]) (pre':=true) [] (ntext_ok o.2.2.1.1 o.2.2.1.2 g3) rfl rfl rfl rfl ⟨rfl,rfl⟩ rfl Tryd.func71 rfl rfl rfl rfl rfl rfl PassH.nil ?_
                  rintro _ _ ⟨rfl,rfl⟩;refine ⟨_,_,rfl,rfl,?_⟩;refine zf (fuel:=0) (ds':=⟨#[true,true,true,true,true,true,true,true,true,true,true,true],false,false,false⟩) zv [(9,2),(10,2),(11,0)] (by kernel_rfl) rfl rfl<|zm (by kernel_rfl)<|zu ?_
                  first | (exfalso; (simp only [decide_eq_true_eq,decide_eq_false_iff_not] at *; omega); done) | skip
                  all_goals
                    refine zb (Wk.frz (id:=16) rfl)<|zq<|zl zv rfl rfl<|zo (xE _ none [32] (by simp) (by simp) (by simp only [GTy.zero,Lib.join,List.intercalate,List.intersperse,List.flatten_cons,List.flatten_nil,List.cons_append,List.nil_append,List.length_append,List.length_cons,List.length_nil,List.append_nil]; omega)) rfl ⟨rfl,rfl⟩ rfl Tryd.func72 rfl rfl rfl rfl rfl rfl ?_
                    refine zj zv rfl rfl<|zh<|⟨_,Wk.sub (st':=⟨[(2,_)],[]⟩) (SubL.cons rfl SubL.nil) SubH.nil,_,_,rfl,rfl,?_⟩
                    refine ⟨?_,rfl⟩
                    clear h1 h2 h3 h4 h5 hwl hdl
                    simp only [decide_eq_true_eq,decide_eq_false_iff_not] at *
                    simp [xX,hf,xQ, *]
                    done
              ·
                refine zu<|zu ?_
                first | (exfalso; (simp only [decide_eq_true_eq,decide_eq_false_iff_not] at *; omega); done) | skip
                all_goals
                  refine zq<|zj zv rfl rfl<|zJ rfl rfl (fun hc16=>?_) (fun hc16=>?_)
                  ·
                    refine za<|zJ rfl rfl (fun hc16=>?_) (fun hc16=>?_)
                    ·
                      first | (exfalso; (simp only [decide_eq_true_eq,decide_eq_false_iff_not] at *; omega); done) | skip
                      all_goals
                        refine zq<|zl zv rfl rfl<|zo (ntext_ok o.2.2.1.1 o.2.2.1.2 g3) rfl ⟨rfl,rfl⟩ rfl Tryd.func71 rfl rfl rfl rfl rfl rfl<|zj zv rfl rfl<|zu ?_
                        first | (exfalso; (simp only [decide_eq_true_eq,decide_eq_false_iff_not] at *; omega); done) | skip
                        all_goals
                          refine zb (Wk.frz (id:=16) rfl)<|zq<|zl zv rfl rfl<|zo (xE _ none [32] (by simp) (by simp) (by simp only [GTy.zero,Lib.join,List.intercalate,List.intersperse,List.flatten_cons,List.flatten_nil,List.cons_append,List.nil_append,List.length_append,List.length_cons,List.length_nil,List.append_nil]; omega)) rfl ⟨rfl,rfl⟩ rfl Tryd.func72 rfl rfl rfl rfl rfl rfl ?_
                          refine zj zv rfl rfl<|zh<|⟨_,Wk.sub (st':=⟨[(2,_)],[]⟩) (SubL.cons rfl SubL.nil) SubH.nil,_,_,rfl,rfl,?_⟩
                          refine ⟨?_,rfl⟩
                          clear h1 h2 h3 h4 h5 hwl hdl
                          simp only [decide_eq_true_eq,decide_eq_false_iff_not] at *
                          simp [xX,hf,xQ, *]
                          done
                    ·
                      refine za<|zu ?_
                      first | (exfalso; (simp only [decide_eq_true_eq,decide_eq_false_iff_not] at *; omega); done) | skip
                      all_goals
                        refine zb (Wk.frz (id:=16) rfl)<|zq<|zl zv rfl (by first | rfl | (simp only [zi,zk,ze,GTy.zero,Bool.and_eq_true,Bool.or_eq_true,Bool.not_eq_true',Bool.and_true,Bool.true_and,Bool.or_true,Bool.true_or,decide_eq_true_eq,decide_eq_false_iff_not,true_and,and_true]; omega) | (simp [zi,zk,ze,GTy.zero]; omega) | (simp [zi,zk,ze,GTy.zero])) ?_
                        refine zo (xE _ none [32] (by simp) (by simp) (by simp only [GTy.zero,Lib.join,List.intercalate,List.intersperse,List.flatten_cons,List.flatten_nil,List.cons_append,List.nil_append,List.length_append,List.length_cons,List.length_nil,List.append_nil]; omega)) rfl ⟨rfl,rfl⟩ rfl Tryd.func72 rfl rfl rfl rfl rfl rfl ?_;refine zj zv rfl (by first | rfl | (simp only [zi,zk,ze,GTy.zero,Bool.and_eq_true,Bool.or_eq_true,Bool.not_eq_true',Bool.and_true,Bool.true_and,Bool.or_true,Bool.true_or,decide_eq_true_eq,decide_eq_false_iff_not,true_and,and_true]; omega) | (simp [zi,zk,ze,GTy.zero]; omega) | (simp [zi,zk,ze,GTy.zero])) ?_;refine zh<|⟨_,Wk.sub (st':=⟨[(2,_)],[]⟩) (SubL.cons rfl SubL.nil) SubH.nil,_,_,rfl,rfl,?_⟩
                        refine ⟨?_,rfl⟩
                        clear h1 h2 h3 h4 h5 hwl hdl
                        simp only [decide_eq_true_eq,decide_eq_false_iff_not] at *
                        simp [xX,hf,xQ, *]
                        done
                  ·
                    refine zq<|zj zv rfl rfl<|zJ rfl rfl (fun hc17=>?_) (fun hc17=>?_)
                    ·
                      first | (exfalso; (simp only [decide_eq_true_eq,decide_eq_false_iff_not] at *; omega); done) | skip
                      all_goals
                        refine zq<|zl zv rfl rfl<|zo (ntext_ok o.2.2.1.1 o.2.2.1.2 g3) rfl ⟨rfl,rfl⟩ rfl Tryd.func71 rfl rfl rfl rfl rfl rfl<|zj zv rfl rfl<|zu ?_
                        first | (exfalso; (simp only [decide_eq_true_eq,decide_eq_false_iff_not] at *; omega); done) | skip
                        all_goals
                          refine zb (Wk.frz (id:=16) rfl)<|zq<|zl zv rfl rfl<|zo (xE _ none [32] (by simp) (by simp) (by simp only [GTy.zero,Lib.join,List.intercalate,List.intersperse,List.flatten_cons,List.flatten_nil,List.cons_append,List.nil_append,List.length_append,List.length_cons,List.length_nil,List.append_nil]; omega)) rfl ⟨rfl,rfl⟩ rfl Tryd.func72 rfl rfl rfl rfl rfl rfl ?_
                          refine zj zv rfl rfl<|zh<|⟨_,Wk.sub (st':=⟨[(2,_)],[]⟩) (SubL.cons rfl SubL.nil) SubH.nil,_,_,rfl,rfl,?_⟩
                          refine ⟨?_,rfl⟩
                          clear h1 h2 h3 h4 h5 hwl hdl
                          simp only [decide_eq_true_eq,decide_eq_false_iff_not] at *
                          simp [xX,hf,xQ, *]
                          done
                    ·
                      refine za<|zu ?_
                      first | (exfalso; (simp only [decide_eq_true_eq,decide_eq_false_iff_not] at *; omega); done) | skip
                      all_goals
                        refine zb (Wk.frz (id:=16) rfl)<|zq<|zl zv rfl (by first | rfl | (simp only [zi,zk,ze,GTy.zero,Bool.and_eq_true,Bool.or_eq_true,Bool.not_eq_true',Bool.and_true,Bool.true_and,Bool.or_true,Bool.true_or,decide_eq_true_eq,decide_eq_false_iff_not,true_and,and_true]; omega) | (simp [zi,zk,ze,GTy.zero]; omega) | (simp [zi,zk,ze,GTy.zero])) ?_
                        refine zo (xE _ none [32] (by simp) (by simp) (by simp only [GTy.zero,Lib.join,List.intercalate,List.intersperse,List.flatten_cons,List.flatten_nil,List.cons_append,List.nil_append,List.length_append,List.length_cons,List.length_nil,List.append_nil]; omega)) rfl ⟨rfl,rfl⟩ rfl Tryd.func72 rfl rfl rfl rfl rfl rfl ?_;refine zj zv rfl (by first | rfl | (simp only [zi,zk,ze,GTy.zero,Bool.and_eq_true,Bool.or_eq_true,Bool.not_eq_true',Bool.and_true,Bool.true_and,Bool.or_true,Bool.true_or,decide_eq_true_eq,decide_eq_false_iff_not,true_and,and_true]; omega) | (simp [zi,zk,ze,GTy.zero]; omega) | (simp [zi,zk,ze,GTy.zero])) ?_;refine zh<|⟨_,Wk.sub (st':=⟨[(2,_)],[]⟩) (SubL.cons rfl SubL.nil) SubH.nil,_,_,rfl,rfl,?_⟩
                        refine ⟨?_,rfl⟩
                        clear h1 h2 h3 h4 h5 hwl hdl
                        simp only [decide_eq_true_eq,decide_eq_false_iff_not] at *
                        simp [xX,hf,xQ, *]
                        done
end Go.Proofs.YtihcolehefloeaaDoor

/- Models of the functions of edges, printed by tr.py. -/
namespace Go.Proofs.YtihcolehefloeaaDoor
set_option linter.unusedSimpArgs false
set_option linter.unusedVariables false
open Go.RowKit
def qY (a0:T1):Nat→Int→Option ((Unit)⊕(Int))
  | 0,_=>none
  | n+1,v2_0=>
    cond (decide (v2_0 < (a0.length:Int))) (gd ((zi v2_0 a0.length)) <|
    gd ((!((!(cond (decide ((a0.getD v2_0.toNat 0) < (1:Int))) true (decide ((40:Int) < (a0.getD v2_0.toNat 0)))))&&(decide ((0:Int) < v2_0))) || (zk (v2_0 - (1:Int))))&&(!((!(cond (decide ((a0.getD v2_0.toNat 0) < (1:Int))) true (decide ((40:Int) < (a0.getD v2_0.toNat 0)))))&&(decide ((0:Int) < v2_0))) || (zi (v2_0 - (1:Int)) a0.length))) <|
    cond (cond (cond (decide ((a0.getD v2_0.toNat 0) < (1:Int))) true (decide ((40:Int) < (a0.getD v2_0.toNat 0)))) true (cond (decide ((0:Int) < v2_0)) (decide ((a0.getD v2_0.toNat 0)≤(a0.getD (v2_0 - (1:Int)).toNat 0))) false)) (some (.inr (1:Int))) (gd ((zk (v2_0+(1:Int)))) <|
    qY a0 n (v2_0+(1:Int)))) (some (.inl ()))
def m_check (a0:T1):Option (Int):=
    Option.bind (qY a0 zB (0:Int)) fun o1=>
    sm o1 (fun o1=>
    some (0:Int)) (fun q=>some q)
theorem w_check (a0:T1) (c0:Option Nat) (r:(Int)) (h:m_check a0=some r):AC cx 26 [.c (.lst (.int .i64) a0 c0)] [] (fun sv h=>sv=.a (.c (.val (.int .i64 r)))∧h=[]):=by
  unfold m_check at h;refine zE zv Tryd.func26 rfl Tryd.ntmps26 rfl rfl (res:=[.tmp 2]) rfl<|zu<|zq<|zj zv rfl rfl<|zu<|zu<|zq<|zj zv rfl rfl ?_
  obtain ⟨o1,ho1,hk1⟩:=bd h;refine zr (fun o1:Unit=>⟨[],[]⟩) (fun o'=>Sum.inl o'=o1) ?_ ?_
  ·have h:=ho1
   refine zd<|zb (Wk.pick [7,0,5,6] [] rfl rfl)<|zp (fun y:Nat×Int=>[(7,.a (.c (.val (.int .i64 y.2))))]) (fun y:Nat×Int=>[]) (fun y:Nat×Int=>qY a0 y.1 y.2=some o1) (fun y:Nat×Int=>y.1) (zB,(0:Int)) h ?_
   rintro ⟨n,v2_0⟩ h;replace h:qY a0 n v2_0=some o1:=h
   rcases n with _ | n
   · cases (show (none:Option _)=some _ from h)
   rw [qY] at h
   try dsimp only
   refine zu<|zq<|zj zv rfl rfl<|zu ?_
   revert h
   refine xC rfl rfl (fun hc h=>?_) (fun hc h=>?_)
   ·refine za<|zu<|zd<|zu ?_
    obtain ⟨hG5,h⟩:=zw h;refine zq<|zj zv rfl (by simp only [hG5,oc]) ?_
    refine zu ?_;obtain ⟨hG4,h⟩:=zw h;simp only [Bool.and_eq_true] at hG4;obtain ⟨hG4_0,hG4_1⟩:=hG4;refine zq<|zj zv rfl (by revert hG4_0 hG4_1; generalize (decide ((40:Int) < (a0.getD v2_0.toNat 0)))=b0; generalize (decide ((a0.getD v2_0.toNat 0) < (1:Int)))=b1; generalize (zi (v2_0 - (1:Int)) a0.length)=b2; generalize (decide ((0:Int) < v2_0))=b3; generalize (zk (v2_0 - (1:Int)))=b4; revert b0 b1 b2 b3 b4; decide) ?_
    revert h
    refine xC rfl rfl (fun hc h=>?_) (fun hc h=>?_)
    ·refine zu<|zq<|zj zv rfl rfl<|zh ?_
     obtain rfl:=Option.some.inj h;have h:=hk1;dsimp only [sm] at h;obtain rfl:=Option.some.inj h;refine ⟨_,(Wk.pick [2] [] rfl rfl),_,_,rfl,rfl,?_⟩;exact ⟨rfl,rfl⟩
    refine za ?_;obtain ⟨hG3,h⟩:=zw h;refine zq<|zj zv rfl (by simp only [hG3,oc]) ?_
    refine ⟨(n,_),h,Nat.lt_succ_self _,(Wk.pick [7,0,5,6] [] rfl rfl)⟩
   refine zt ?_;exact ⟨_,Option.some.inj h,(Wk.pick [] [] rfl rfl)⟩
  ·rintro o1 rfl
   have h:=hk1;dsimp only [sm] at h;refine zu<|zq<|zj zv rfl rfl ?_
   cases h;exact zh ⟨_,(Wk.pick [2] [] rfl rfl),_,_,rfl,rfl,rfl,rfl⟩
end Go.Proofs.YtihcolehefloeaaDoor

/- shifts.Shift: what it returns. -/
namespace Go.Proofs.YtihcolehefloeaaDoor
open Go.RowKit
def yi (fr to:List Int):Int:=if qB fr=false then 1 else if to.length≠fr.length then 5 else if yl to=false then 1 else 0
def planR (fr to:List Int):List qx:=if yi fr to=0 then xr fr to else []
theorem shift_all (fr to:List Int) (c1 c2:Option Nat) (h1:fr.length≤1000000) (h2:to.length≤1000000):AC cx 8 [.c (.lst (.int .i64) fr c1),.c (.lst (.int .i64) to c2)] [] (fun sv h=>sv=.tup [.c (.lst qD (planR fr to) (some (planR fr to).length)),.c (.val (.int .i64 (yi fr to)))]∧h=[]):=by
  refine AC.weakV ?_ (shift_ok fr to c1 c2 h1 h2);intro env B w v h;have hn:∀ z:Int,VR env B w (.tup [.c (.val (.slice none 0 0)),.c (.val (.int .i64 z))]) v→VR env B w (.tup [.c (.lst qD [] (some 0)),.c (.val (.int .i64 z))]) v:=by
    rintro z ⟨vs,e,v1,r,e2,hv,hr⟩;exact ⟨vs,e,v1,r,e2,nil_lst hv,hr⟩
  unfold shiftR at h
  split at h
  · rename_i g
    have hs:yi fr to=1:=by rw [yi,if_pos g]
    rw [planR,hs,if_neg (by decide)];exact hn 1 h
  · rename_i g1
    split at h
    · rename_i g
      have hs:yi fr to=5:=by rw [yi,if_neg g1,if_pos g]
      rw [planR,hs,if_neg (by decide)];exact hn 5 h
    · rename_i g2
      split at h
      · rename_i g3
        have hs:yi fr to=1:=by rw [yi,if_neg g1,if_neg g2,if_pos g3]
        rw [planR,hs,if_neg (by decide)];exact hn 1 h
      · rename_i g3
        have hs:yi fr to=0:=by rw [yi,if_neg g1,if_neg g2,if_neg g3]
        rw [planR,hs,if_pos rfl];exact h
end Go.Proofs.YtihcolehefloeaaDoor

/- Contracts proved by hand, in the form of tr.py. -/
namespace Go.Proofs.YtihcolehefloeaaDoor
set_option linter.unusedSimpArgs false
set_option linter.unusedVariables false
open Go.RowKit
def yD (a0 a1:List Int):Option T6:=gd (decide (a0.length≤1000000)&&decide (a1.length≤1000000)) (some (planR a0 a1,yi a0 a1))
theorem w_shift (a0 a1:List Int) (c0 c1:Option Nat) (r:List qx×Int) (h:yD a0 a1=some r):AC cx 8 [.c (.lst (.int .i64) a0 c0),.c (.lst (.int .i64) a1 c1)] [] (fun sv h=>sv=.tup [.c (.lst qD r.1 (some r.1.length)),.c (.val (.int .i64 r.2))]∧h=[]):=by
  obtain ⟨hg,h⟩:=zw h;simp only [Bool.and_eq_true,decide_eq_true_eq] at hg;obtain rfl:=Option.some.inj h;exact shift_all a0 a1 c0 c1 hg.1 hg.2
def m_clip (a0:List qx):Option T4:=some a0
theorem w_clip (a0:List qx) (c0:Option Nat) (r:List qx) (h:m_clip a0=some r):AC cx 31 [.c (.lst qD a0 c0)] [] (fun sv h=>sv=.a (.c (.lst qD r (some r.length)))∧h=[]):=by
  obtain rfl:=Option.some.inj h;exact clip_ok a0 c0
def opNB (o:qx):Bool:=decide (0≤o.1)&&decide (0≤o.2.1)&&decide (0≤o.2.2.1.1)&&decide (0≤o.2.2.2.1)
theorem opNB_ok {o:qx} (h:opNB o=true):OpN o:=by
  simp only [opNB,Bool.and_eq_true,decide_eq_true_eq] at h;exact ⟨h.1.1.1,h.1.1.2,h.1.2,h.2⟩
def m_optext (a0:qx):Option T8:=gd (opNB a0) (some (xX a0))
theorem w_optext (a0:qx) (r:List UInt8) (h:m_optext a0=some r):AC cx 42 [opArg a0] [] (fun sv h=>sv=.a (.c (.str r))∧h=[]):=by
  obtain ⟨hg,h⟩:=zw h;obtain rfl:=Option.some.inj h;exact optext_ok a0 (opNB_ok hg)
end Go.Proofs.YtihcolehefloeaaDoor

/- Models of the functions of edges and of their laws, printed by tr.py. -/
namespace Go.Proofs.YtihcolehefloeaaDoor
set_option linter.unusedSimpArgs false
set_option linter.unusedVariables false
open Go.RowKit
end Go.Proofs.YtihcolehefloeaaDoor
