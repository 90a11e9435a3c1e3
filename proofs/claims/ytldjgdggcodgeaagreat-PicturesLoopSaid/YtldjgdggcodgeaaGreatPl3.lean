/- Part 3 of 6 of the proof. -/
import Derived.Test.YtldjgdggcodgeaaGreatPl2
import Derived.Lib.OthersKept
set_option linter.unusedSimpArgs false
set_option linter.unusedVariables false
set_option maxRecDepth 100000
namespace Go.Proofs.YtldjgdggcodgeaaGreat
open Go.RowKit
section
structure CT(X:Cx) where
 f:FuncId
 fn:Func
 A:List AS
 HA:List (Nat×BS)
 ρ:Type
 df:ρ
 m:HL (asLT A (hpLT HA []))->Option ρ
 out:HL (asLT A (hpLT HA []))->ρ->SV×Hp
 hf:X.P.funcs[f]?=some fn
 hn : (fn.name == "runtime.NumGoroutine") = false
 hb:fn.body.isNone=false
 ok:∀ d r,m d=some r->AC X f (asS A d).1 (hpS HA (asS A d).2).1 (fun sv h=>sv=(out d r).1/\h=(out d r).2)
def swapP:Ps->Ps
 | []=>[]
 | (i,j) :: r=>(j,i) :: swapP r
theorem mem_swap:∀ {ps:Ps} {i j:Nat},(j,i)∈swapP ps ↔ (i,j)∈ps
 | [],_,_=>by simp[swapP]
 | (a,b) :: r,i,j=>by
  unfold swapP;rw[List.mem_cons,List.mem_cons,mem_swap];simp only[Prod.mk.injEq];constructor<;>rintro(⟨h1,h2⟩ | h)
  ·exact .inl ⟨h2,h1⟩
  ·exact .inr h
  ·exact .inl ⟨h2,h1⟩
  ·exact .inr h
theorem firsts_swap:∀ ps:Ps,firsts (swapP ps)=qv ps
 | []=>rfl
 | (a,b) :: r=>by
  unfold swapP firsts qv;rw[firsts_swap r]
theorem lk_swap{ps:Ps} (h1:(firsts ps).Nodup) (h2:(qv ps).Nodup) {i j:Nat}:lk (swapP ps) j=some i ↔ lk ps i=some j:=by
 constructor
 ·intro h
  exact mem_lk h1 (mem_swap.1 (lk_mem h))
 ·intro h
  exact mem_lk (by rw[firsts_swap]; exact h2) (mem_swap.2 (lk_mem h))
def passG(ps qs:Ps):List Nat->Hp->Option (Hp×Hp)
 | [],H=>some ([],H)
 | i :: is,H=>match lk ps i with
  | some j=>match lk H j with
   | some b'=>match b'.ren qs,passG ps qs is (eraseH j H)with
    | some b,some (h,H')=>some ((i,b) :: h,H')
    | _,_=>none
   | none=>none
  | none=>none
section
variable {X:Cx} {R:Nat->Prop} {W:World} {Bi:Bk} {n:Nat} {ks:List Nat} {env envC:Nat->Loc} {B:Nat->Prop} {w0:World} {H:List Ck} {st st':ASt} {a a':Act} {w w':World} {o:Oper} {d:Nat} {ps:Ps}
theorem passG_ok(h1:(firsts ps).Nodup) (h2:(qv ps).Nodup) (he:∀ i j,lk ps i=some j->envC i=env j):∀ {is:List Nat} {l h l':Hp} {C:List Ck},passG ps (swapP ps) is l=some (h,l')->HR env B w0 l C->∃ C1 C2,C.Perm (C1++C2)/\HR envC B w0 h C1/\HR env B w0 l' C2
 | [],l,h,l',C,hp,hC=>by cases hp; exact⟨[],C,List.Perm.refl _,rfl,hC⟩
 | i :: is,l,h,l',C,hp,hC=>by
  unfold passG at hp
  split at hp
  ·rename_i j hj
   split at hp
   ·rename_i b' hl
    split at hp
    ·rename_i b h0 l0 hb hr
     cases hp;obtain⟨c,H2,e1,e2,e3⟩:=hC.erase hl;obtain⟨C1,C2,e4,e5,e6⟩:=passG_ok h1 h2 he hr e3;have hq:lk (swapP ps) j=some i:=(lk_swap h1 h2).2 hj;exact⟨c :: C1,C2,e2.trans (List.Perm.cons _ e4),⟨c,C1,rfl,(BR.ren (fun j i h=>he i j ((lk_swap h1 h2).1 h)) hq hb).1 e1,e5⟩,e6⟩
    ·cases hp
   ·cases hp
  ·cases hp
structure Pre(X:Cx) (e:CT X) where
 d:HL (asLT e.A (hpLT e.HA []))
 H1:Hp
def prep(X:Cx) (n:Nat) (e:CT X) (ps:Ps) (H:Hp) (args:List SA):Option (Pre X e):=
 match okPs n ps,renAs (swapP ps) args,passG ps (swapP ps) (e.HA.map (·.1)) H with
 | true,some args1,some (h1,H1)=>match hpGet (T:=[]) e.HA h1 ()with
  | some u=>match asGet e.A args1 u with
   | some d=>some ⟨d,H1⟩
   | none=>none
  | none=>none
 | _,_,_=>none
def after(X:Cx) (e:CT X) (ps:Ps) (st:ASt) (d:Nat) (p:Pre X e) (r:e.ρ):Option ASt:=
 match ((e.out p.d r).1).ren ps,renH ps (e.out p.d r).2 with
 | some sv',some h''=>match ps with
  | []=>some ⟨(d,sv') :: st.L,h''++st.H⟩
  | _=>some ⟨(d,sv') :: killL (qR (hpS e.HA (asS e.A p.d).2).1 ps) st.L,h''++qc (qR (hpS e.HA (asS e.A p.d).2).1 ps) (qR (hpS e.HA (asS e.A p.d).2).1 ps) p.H1⟩
 | _,_=>none
def StepC(X:Cx) (n:Nat) (o:Oper) (keep:Ck->Bool) (st st':ASt):Prop:=∀ (R:Nat->Prop) (W:World) (Bi:Bk) (ks:List Nat) (env:Nat->Loc) (B:Nat->Prop) (w0:World) (H:List Ck) (a:Act) (w:World),AI X R W Bi n ks env B w0 H st a w->∀ (KK:Act->World->Prop) (l:List Oper),
 (∀ a' w' env' B' w0' H',AI X R W Bi n ks env' B' w0' H' st' a' w'->(∀ k,B k->B' k)->KO (fun k=>R k\/B k) w0 w0'->(∀ c∈H,keep c=true->c∈H')->KK a' w')->XO X.P l.toArray o KK a w
theorem StepOk.c(h:StepOk X n o st st'):StepC X n o (fun _=>false) st st':=fun R W Bi ks env B w0 H a w hA KK l hK=>h R W Bi ks env B w0 H a w hA KK l fun a' w' env' H' hA'=>hK a' w' env' B w0 H' hA' (fun _ h=>h) (KO.refl _ _) (fun _ _ h=>by cases h)
def Callee(X:Cx) (st:ASt) (o:Oper) (f:FuncId) (xs:List Operand) (pre post:List SA):Prop:=
 ∃ ts,(o.op=.call { callee:=.value (.func f),args:=xs.toArray,argTypes:=ts }/\pre=[]/\post=[]) \/
  (∃ s ids,o.op=.call { callee:=.value (.tmp s),args:=xs.toArray,argTypes:=ts }/\lk st.L s=some (.c (.fn f ids))/\pre=[]/\post=ptrAs ids) \/
  ∃ s id,o.op=.call { callee:=.value (.tmp s),args:=xs.toArray,argTypes:=ts }/\lk st.L s=some (.c (.bfn f id))/\pre=[.c (.ptr id 0)]/\post=[]
def ArgsOk(X:Cx) (n:Nat) (st:ASt) (xs:List Operand) (args:List SA):Prop:=∀ (R:Nat->Prop) (W:World) (Bi:Bk) (ks:List Nat) (env:Nat->Loc) (B:Nat->Prop) (w0:World) (H:List Ck) (a:Act) (w:World),AI X R W Bi n ks env B w0 H st a w->∃ vs,evs (qL a) xs=some vs/\SasR env B w0 args vs
theorem ArgsOk.of{xs:List Operand} {args:List SA} {c:Bool} (h:aes X st.L xs=some (c,args)) (hc:c=true):ArgsOk X n st xs args:=fun _ _ _ _ _ _ _ _ _ _ hA=>aes_ok hA h hc
def noCelB:Blk->Bool
 | .cells _ _=>false
 | _=>true
def freeK(j:Nat):Hp->Bool
 | []=>true
 | (k,_) :: r=>!Nat.beq k j&&freeK j r
def fixPs(H:Hp):Ps->Bool
 | []=>true
 | (i,j) :: r=>(Nat.ble zP i || freeK j H)&&fixPs H r
def allNew(H:Hp):Ps->Bool
 | []=>true
 | (_,j) :: r=>freeK j H&&allNew H r
def noCels(js:List Nat):Hp->Bool
 | []=>true
 | (j,b) :: r=>(!js.elem j || noCelB b)&&noCels js r
def rowsPs(H:Hp) (ps:Ps):Bool:=fixPs H ps&&noCels (qv ps) H
def kpC(H:Hp) (ps:Ps) (c:Ck):Bool:=allNew H ps || (qK c&&rowsPs H ps)
theorem freeK_ok{j:Nat}:∀ {H:Hp},freeK j H=true->∀ p∈H,p.1≠j
 | (k,b) :: r,h,p,hp=>by
  unfold freeK at h;rw[Bool.and_eq_true]at h
  rcases List.mem_cons.1 hp with rfl | hp
  ·intro e
   have h1:=h.1;rw[show k=j from e,Nat.beq_refl]at h1;cases h1
  ·exact freeK_ok h.2 p hp
theorem freeK_lk{j:Nat}:∀ {H:Hp},freeK j H=true->lk H j=none
 | [],_=>rfl
 | (k,b) :: r,h=>by
  unfold freeK at h;rw[Bool.and_eq_true]at h;rw[zu,if_neg (fun e=>by have h1:=h.1; rw[e,Nat.beq_refl]at h1; cases h1)];exact freeK_lk h.2
theorem noKs_of{js:List Nat}:∀ {l:Hp},(∀ p∈l,p.1 ∉ js)->noKs js l=true
 | [],_=>rfl
 | (k,b) :: r,h=>by
  unfold noKs;have h1:=h (k,b) List.mem_cons_self;rw[Bool.and_eq_true];exact⟨by simpa using h1,noKs_of fun p hp=>h p (List.mem_cons_of_mem _ hp)⟩
theorem killJs_fix{h H:Hp}:∀ {ps:Ps},fixPs H ps=true->∀ j∈qR h ps,freeK j H=true
 | [],_,j,hj=>by cases hj
 | (i,k) :: r,hf,j,hj=>by
  unfold fixPs at hf;rw[Bool.and_eq_true,Bool.or_eq_true]at hf;unfold qR at hj
  split at hj
  ·exact killJs_fix hf.2 j hj
  ·rename_i hk
   rcases List.mem_cons.1 hj with rfl | hj
   ·rcases hf.1 with h1 | h1
    ·unfold keepP at hk
     rw[h1]at hk;cases hk
    ·exact h1
   ·exact killJs_fix hf.2 j hj
theorem fixPs_new{H:Hp}:∀ {ps:Ps},allNew H ps=true->fixPs H ps=true
 | [],_=>rfl
 | (i,j) :: r,h=>by
  unfold allNew at h;rw[Bool.and_eq_true]at h;unfold fixPs;rw[h.1,fixPs_new h.2,Bool.or_true]
  rfl
theorem allNew_mem{H:Hp}:∀ {ps:Ps},allNew H ps=true->∀ i j,(i,j)∈ps->freeK j H=true
 | (_,_) :: r,h,i,j,hm=>by
  unfold allNew at h;rw[Bool.and_eq_true]at h
  rcases List.mem_cons.1 hm with hm | hm
  ·cases hm; exact h.1
  ·exact allNew_mem h.2 i j hm
theorem erase_sub{j:Nat}:∀ {l:Hp} {p:Nat×Blk},p∈eraseH j l->p∈l
 | (k,b) :: r,p,h=>by
  unfold eraseH at h
  split at h
  ·exact List.mem_cons_of_mem _ h
  ·rcases List.mem_cons.1 h with rfl | h
   ·exact List.mem_cons_self
   ·exact List.mem_cons_of_mem _ (erase_sub h)
theorem passG_sub{ps qs:Ps}:∀ {is:List Nat} {l h l':Hp},passG ps qs is l=some (h,l')->∀ p∈l',p∈l
 | [],_,_,_,hp,p,hm=>by cases hp; exact hm
 | i :: is,l,h,l',hp,p,hm=>by
  unfold passG at hp
  split at hp
  ·split at hp
   ·split at hp
    ·rename_i b h0 l0 hb hr
     cases hp;exact erase_sub (passG_sub hr p hm)
    ·cases hp
   ·cases hp
  ·cases hp
theorem passG_new{ps qs:Ps}:∀ {is:List Nat} {l h l':Hp},allNew l ps=true->passG ps qs is l=some (h,l')->h=[]/\l'=l
 | [],_,_,_,_,hp=>by cases hp; exact⟨rfl,rfl⟩
 | i :: is,l,h,l',hn,hp=>by
  unfold passG at hp
  split at hp
  ·rename_i j hj
   split at hp
   ·rename_i b' hl
    rw[freeK_lk (allNew_mem hn i j (lk_mem hj))]at hl;cases hl
   ·cases hp
  ·cases hp
theorem noKs_kill{h H H1:Hp} {ps:Ps} (hf:fixPs H ps=true) (hs:∀ p∈H1,p∈H):noKs (qR h ps) H1=true:=noKs_of fun p hp hm=>freeK_ok (killJs_fix hf p.1 hm) p (hs p hp) rfl
theorem noCelB_ren{ps:Ps} {b b':Blk} (h:b.ren ps=some b') (hb:noCelB b=true):noCelB b'=true:=by
 unfold Blk.ren at h
 split at h
 all_goals first
  | (cases h; rfl)
  | (exfalso; simp[noCelB]at hb; done)
  | (split at h<;>first | (cases h; rfl) | cases h)
theorem noCels_lk{js:List Nat}:∀ {l:Hp} {j:Nat} {b:Blk},noCels js l=true->j∈js->lk l j=some b->noCelB b=true
 | [],_,_,_,_,h=>by cases h
 | (k,b0) :: r,j,b,hn,hj,h=>by
  simp only[noCels,Bool.and_eq_true]at hn;rw[zu]at h
  split at h
  ·rename_i e; subst e; cases h
   have h1:=hn.1;rw[show js.elem _=true from List.elem_eq_true_of_mem hj]at h1
   simpa using h1
  ·exact noCels_lk hn.2 hj h
theorem noCels_erase{js:List Nat} {j:Nat}:∀ {l:Hp},noCels js l=true->noCels js (eraseH j l)=true
 | [],_=>rfl
 | (k,b0) :: r,hn=>by
  have hn':=hn;simp only[noCels,Bool.and_eq_true]at hn;unfold eraseH
  split
  ·exact hn.2
  ·simp only[noCels,Bool.and_eq_true]
   exact⟨hn.1,noCels_erase hn.2⟩
theorem passG_rows{ps qs:Ps}:∀ {is:List Nat} {l h l':Hp},noCels (qv ps) l=true->passG ps qs is l=some (h,l')->∀ p∈h,noCelB p.2=true
 | [],_,_,_,_,hp=>by cases hp; intro p hp; cases hp
 | i :: is,l,h,l',hn,hp=>by
  unfold passG at hp
  split at hp
  ·rename_i j hj
   split at hp
   ·rename_i b' hl
    split at hp
    ·rename_i b h0 l0 hb hr
     cases hp;intro p hp
     rcases List.mem_cons.1 hp with rfl | hp
     ·exact noCelB_ren hb (noCels_lk hn (mem_seconds (lk_mem hj)) hl)
     ·exact passG_rows (noCels_erase hn) hr p hp
    ·cases hp
   ·cases hp
  ·cases hp
theorem HR.noCel{env:Nat->Loc} {B:Nat->Prop} {w:World}:∀ {l:Hp} {H:List Ck},HR env B w l H->(∀ p∈l,noCelB p.2=true)->∀ c∈H,qK c=false
 | [],_,h,_,c,hc=>by rw[show _=[] from h]at hc; cases hc
 | (k,b) :: r,_,⟨c0,H',e,h1,h2⟩,hn,c,hc=>by
  subst e
  rcases List.mem_cons.1 hc with rfl | hc
  ·exact h1.notCel fun t cs e=>by
    have:=hn _ List.mem_cons_self
    rw[e]at this;cases this
  ·exact HR.noCel h2 (fun p hp=>hn p (List.mem_cons_of_mem _ hp)) c hc
theorem call_ok(e:CT X) {xs:List Operand} {pre post args':List SA} (ps:Ps) (hcal:Callee X st o e.f xs pre post) (ho:o.guard=none/\o.dst=some d) (hd:Nat.blt d n=true) (hargs:ArgsOk X n st xs args')
  {p:Pre X e} (hp:prep X n e ps st.H (pre++(args'++post))=some p) {r:e.ρ} (hr:e.m p.d=some r) (ha:after X e ps st d p r=some st'):StepC X n o (kpC st.H ps) st st':=by
 intro R W Bi ks env B w0 H a w hA KK l hK;unfold prep at hp
 split at hp
 ·rename_i args1 h1 H1 hps hren hpass
  split at hp
  ·rename_i u hu
   split at hp
   ·rename_i dd hdd
    cases hp;have hps':=hps;simp only[okPs,Bool.and_eq_true]at hps';obtain⟨⟨hn1,hn2⟩,hn3⟩:=hps';have n1:=nodupB_ok hn1;have n2:=nodupB_ok hn2;obtain⟨vs,g1,g2⟩:=hargs _ _ _ _ _ _ _ _ _ _ hA;obtain⟨hu2,hu3⟩:=hpGet_ok hu;obtain⟨ha2,ha3⟩:=asGet_ok hdd;have he:∀ i j,lk ps i=some j->(fun i=>match lk ps i with | some j=>env j | none=>Loc.no) i=env j:=fun i j hij=>by simp only[hij]
    obtain⟨C1,C2,e3,e4,e5⟩:=passG_ok n1 n2 he hpass hA.heap;have hs:SH B w0 C1 w:=by
     have h6:=(hA.sh.perm (e3.append_right (ks.map qW))).weak (H':=C1) (by rw[List.append_assoc]; exact List.sublist_append_left _ _);exact⟨⟨h6.below.os,h6.below.tape,h6.below.output,h6.below.size,fun k hk=>h6.below.block k (.inr hk)⟩,fun k hk=>h6.base k (.inr hk),fun c hc=>(h6.ok c hc).base fun b hb hk=>((h6.ok c hc).lt hb).1 (.inr hk),h6.apart⟩
    have hC:HR (fun i=>match lk ps i with | some j=>env j | none=>Loc.no) B w0 (hpS e.HA (asS e.A dd).2).1 C1:=by rw[ha2]; exact hu3 _ _ _ _ e4
    have key:∀ vs',SasR env B w0 (pre++(args'++post)) vs'->Ret X.P e.f vs'.toArray w (ACpost X (fun i=>match lk ps i with | some j=>env j | none=>Loc.no) B C1 w (fun sv h=>sv=(e.out dd r).1/\h=(e.out dd r).2)):=fun vs' h=>by
     have h2:=(SasR.ren (env:=env) (env':=fun i=>match lk ps i with | some j=>env j | none=>Loc.no) (fun j i hji=>he i j ((lk_swap n1 n2).1 hji)) hren).1 h;exact e.ok dd r hr B w0 _ vs' C1 w (fun i x hx=>hA.glob i x hx) (ha3 _ _ _ _ h2) hC hs
    have fin:∀ v a' w',ACpost X (fun i=>match lk ps i with | some j=>env j | none=>Loc.no) B C1 w (fun sv h=>sv=(e.out dd r).1/\h=(e.out dd r).2) v w'->St n (dfs ks Bi) ((d,v) :: qL a) a'->KK a' w':=fun v a' w' hpost hS=>by
     obtain⟨sv,h',⟨rfl,rfl⟩,hnx⟩:=hA.called hps e3 hC e5 hpost hS;unfold after at ha
     split at ha
     ·rename_i sv' h'' f1 f2
      obtain⟨env',B',w0',H',hA',k1,k2,k3⟩:=hnx sv' h'' f1 f2;have k4:∀ c∈H,kpC st.H ps c=true->c∈H':=fun c hc h0=>by
       unfold kpC at h0;rw[Bool.or_eq_true]at h0;have h7:=e3.mem_iff.1 hc
       rcases h0 with h0 | h0
       ·obtain⟨q1,q2⟩:=passG_new h0 hpass
        have hC1:C1=[]:=by rw[q1]at e4; exact e4
        rw[hC1]at h7;exact k3 (noKs_kill (fixPs_new h0) (passG_sub hpass)) c (by simpa using h7)
       ·simp only[Bool.and_eq_true,rowsPs]at h0
        obtain⟨hcel,hfix,hno⟩:=h0
        rcases List.mem_append.1 h7 with h7 | h7
        ·have:=e4.noCel (passG_rows hno hpass) c h7
         rw[hcel]at this;cases this
        ·exact k3 (noKs_kill hfix (passG_sub hpass)) c h7
      split at ha
      ·cases ha
       have h8:H1=st.H:=by
        cases h9:e.HA with
        | nil=>rw[h9]at hpass; cases hpass; rfl
        | cons q _=>rw[h9]at hpass; cases hpass
       have hA2:AI X R W Bi n ks env' B' w0' H' ⟨(d,sv') :: killL [] st.L,h''++qc [] [] H1⟩ a' w':=hA';rw[killL_nil,frameH_nil,h8]at hA2;exact hK a' w' env' B' w0' H' hA2 k1 k2 k4
      ·cases ha
       exact hK a' w' env' B' w0' H' hA' k1 k2 k4
     ·cases ha
    obtain⟨ts,hcal⟩:=hcal
    rcases hcal with⟨hop,rfl,rfl⟩ | ⟨s,ids,hop,hl,rfl,rfl⟩ | ⟨s,id,hop,hl,rfl,rfl⟩
    ·exact y_call hA.sym hop ho hd e.hf e.hn e.hb g1 (key vs (by simpa using g2)) fun v a' w' hpost hS=>fin v a' w' hpost hS
    ·obtain⟨fv,hf1,lb,rfl,hf2⟩:=hA.has _ _ hl
     exact y_callV hA.sym hop ho hd (zt hf1) e.hf e.hn e.hb g1 (key (vs++lb) (by simpa using g2.append (ptrs_sas hf2))) fun v a' w' hpost hS=>fin v a' w' hpost hS
    ·obtain⟨fv,hf1,b,hbk,rfl⟩:=hA.has _ _ hl
     exact y_callB hA.sym hop ho hd (zt hf1) e.hf e.hn e.hb g1 (key (.pointer (some ⟨b,0,none⟩) :: vs) (by rw[List.append_nil]; exact⟨_,_,rfl,⟨b,hbk,rfl⟩,g2⟩)) fun v a' w' hpost hS=>fin v a' w' hpost hS
   ·cases hp
  ·cases hp
 ·cases hp
end
end

section
set_option linter.unusedSectionVars false
section
variable {X:Cx} {M:Bool} {n:Nat} {r:Option Nat} {st:ASt} {Q:Exit->ASt->Prop} {ops rest:List Oper} {o:Oper} {d:Nat}
theorem sk_makeMap(gk gv:GTy) {t:TypeId} (hop:o.op=.makeMap t none) (ho:o.guard=none/\o.dst=some d) (hd:Nat.blt d n=true)
  : StepOk X n o st ⟨(d,.c (.mref d)) :: qb d .dead st.L,(d,.mp gk gv [] none) :: zM d .dead st.H⟩:=by
 intro R W Bi ks env B w0 H a w hA KK lops hnext;refine(zJ hA.stt ho.1 ho.2 (zk hd) (v:=.map (some w.heap.size)) (w':=w.alloc (.map #[] 0)) (by simp[execOp,hop,Instr.makeMap,newObj,Sem.run]) fun a' hS=>?_);obtain⟨H',_,h3⟩:=hA.newBlk (d:=d) hd (l:=.blk w.heap.size) (blk:=.mp gk gv [] none) (sv:=.c (.mref d)) (hA.sh.alloc (.map #[] 0)) ⟨_,[],0,zf,rfl,rfl,⟨List.Pairwise.nil,fun _ h=>by cases h⟩,fun _ h=>by cases h⟩ ⟨_,zf,rfl⟩ hS;exact hnext a' _ _ H' (h3)
theorem sk_strIndex(hX:X.tt.ok X.P) {t:TypeId} {te:TE} {u x:Operand} {s:List UInt8} {k:IntKind} {z:Int} {g g2:Bool} (hop:o.op=.index t u x) (ho:o.guard=none/\o.dst=some d) (hd:Nat.blt d n=true)
  (ht:X.tt.find t=some te) (hte:te.ti.desc=.string) (hu:ae X st.L u=some (g,.c (.str s))) (hg:g=true) (hx:ae X st.L x=some (g2,.c (.val (.int k z)))) (hg2:g2=true) (hb:ze z s.length=true)
  : StepOk X n o st ⟨(d,.c (.val (.int .u8 ((s.getD z.toNat 0).toNat:Int)))) :: st.L,st.H⟩:=by
 intro R W Bi ks env B w0 H a w hA KK lops hnext;obtain⟨vu,h1,h2⟩:=hA.ev hu hg;rw[show vu=qe s from h2]at h1;obtain⟨vx,h3,h4⟩:=hA.ev hx hg2;rw[show vx=_ from h4]at h3;obtain⟨j,rfl,hj,hjn⟩:=xf hb;have e1:=(TT.get hX ht).ti.1;rw[hte]at e1;have hget:(ByteArray.mk s.toArray)[j]?=some (s.getD j 0):=by
  have hlt:j < (ByteArray.mk s.toArray).size:=by simpa [ByteArray.size] using hj
  have e2:(ByteArray.mk s.toArray)[j]?=some ((ByteArray.mk s.toArray)[j]'hlt):=by
   exact getElem?_pos (ByteArray.mk s.toArray) j hlt
  rw[e2,List.getD_eq_getElem?_getD,List.getElem?_eq_getElem hj]
  rfl
 refine(zJ hA.stt ho.1 ho.2 (zk hd) (v:=.int .u8 ((s.getD j 0).toNat:Int)) (w':=w) ?_ fun a' hS=>?_)
 ·have h0:(0:Int)<=(j:Int):=Int.natCast_nonneg j
  have hrun:(Instr.index t (qe s) (.int k (j:Int))).run X.P w=.ok (.int .u8 ((s.getD j 0).toNat:Int)) w:=by
   simp only[Instr.index,qe,asIntOf,Sem.run_bind,Sem.run_pure,Result.andThen_ok,run_underlying e1,h0,if_true,Int.toNat_natCast,hget]
  simp[execOp,hop,hA.stt.ev h1,hA.stt.ev h3,hrun]
 ·simp only[Int.toNat_natCast]at hnext
  exact hnext a' _ env H (hA.set (sv:=.c (.val (.int .u8 ((s.getD j 0).toNat:Int)))) rfl hS)
theorem sk_storeH(hX:X.tt.ok X.P) {t T T2:TypeId} {te:TE} {x y:Operand} {id d i:Nat} {g g':GTy} {l:List (List g.D)} {l2:List g'.D} {cap cap2:Option Nat} {g1 g2:Bool} (hop:o.op=.store t x y) (ho:o.guard=none/\o.dst=none)
  (ht:X.tt.find t=some te) (hsz:Nat.beq te.ti.size 1=true) (hx:ae X st.L x=some (g1,.c (.elt id 1 i 0))) (hg1:g1=true) (hy:ae X st.L y=some (g2,.c (.sl d))) (hg2:g2=true) (hlk:lk st.H id=some (.row T (.sl g) l cap)) (hlk2:lk st.H d=some (.row T2 g' l2 cap2))
  (hi:decide (i < l.length)=true)
  : StepOk X n o st ⟨st.L,zX id (.hrow false T g l cap i d) st.H⟩:=by
 intro R W Bi ks env B w0 H a w hA KK lops hnext;obtain⟨vx,h1,b,c,m,he,rfl⟩:=hA.ev hx hg1;obtain⟨vy,hvy,A2,c2,m2,he2,rfl⟩:=hA.ev hy hg2;obtain⟨ck,K,⟨A,k,xs,he',rfl,hfl,hcap⟩,hf,hset⟩:=hA.setBlk (b':=.hrow false T g l cap i d) hlk;rw[he]at he';cases he';have hlt:=of_decide_eq_true hi;have hxl:=FR.flat_length hfl;have hxl':xs.length=l.length:=by rw[hxl]; show l.length * 1=_; omega
 have hi':=(TT.get hX ht).ti;have hs1:=Nat.eq_of_beq_eq_true hsz;refine(run_store_row (v:=.slice A2 m2 c2) hA.sym hop ho hi' h1 hvy (by rw[hs1]; rfl) (by intro u hu; simp[Value.cells]at hu; subst hu; rfl) hf (by show i * 1+0+1<=l.length * 1; omega) fun a' w' hY=>?_);obtain⟨H',h3⟩:=hset _ a' w' ⟨some ⟨b,0,none⟩,c,xs,A2,c2,m2,he,rfl,hfl,hlt,he2,hcap,fun h=>by cases h⟩ (by
  have e:xs.take (i * 1+0)++(Value.slice A2 m2 c2).cells.toList++xs.drop (i * 1+0+(Value.slice A2 m2 c2).cells.toList.length)=xs.set i (.slice A2 m2 c2):=by
   rw[List.set_eq_take_append_cons_drop,if_pos (by omega)]
   simp[Value.cells]
  have:=hY.sh
  rw[e]at this;exact this) hY.st
 exact hnext a' _ env H' (h3)
theorem sk_storeHc(hX:X.tt.ok X.P) {t T T2:TypeId} {te:TE} {x y:Operand} {id d i:Nat} {g g':GTy} {l:List (List g.D)} {l2:List g'.D} {cap:Option Nat} {q:Nat} {g1 g2:Bool} (hop:o.op=.store t x y) (ho:o.guard=none/\o.dst=none)
  (ht:X.tt.find t=some te) (hsz:Nat.beq te.ti.size 1=true) (hx:ae X st.L x=some (g1,.c (.elt id 1 i 0))) (hg1:g1=true) (hy:ae X st.L y=some (g2,.c (.sl d))) (hg2:g2=true) (hlk:lk st.H id=some (.row T (.csl g) l cap)) (hlk2:lk st.H d=some (.row T2 g' l2 (some q)))
  (hi:decide (i < l.length)=true) (hq:Nat.beq q l2.length=true)
  : StepOk X n o st ⟨st.L,zX id (.hrow true T g l cap i d) st.H⟩:=by
 intro R W Bi ks env B w0 H a w hA KK lops hnext;obtain⟨vx,h1,b,c,m,he,rfl⟩:=hA.ev hx hg1;obtain⟨vy,hvy,A2,c2,m2,he2,rfl⟩:=hA.ev hy hg2;obtain⟨ck,K,⟨A,k,xs,he',rfl,hfl,hcap⟩,hf,hset⟩:=hA.setBlk (b':=.hrow true T g l cap i d) hlk;rw[he]at he';cases he';have hlt:=of_decide_eq_true hi;have hcm:c2=m2:=by
  obtain⟨ck2,K2,⟨A3,k3,xs3,he3,_,_,hk3⟩,_⟩:=hA.heap.foc hlk2;rw[he2]at he3;cases he3;rw[hk3 q rfl];exact Nat.eq_of_beq_eq_true hq
 have hxl:=FR.flat_length hfl;have hxl':xs.length=l.length:=by rw[hxl]; show l.length * 1=_; omega
 have hi':=(TT.get hX ht).ti;have hs1:=Nat.eq_of_beq_eq_true hsz;refine(run_store_row (v:=.slice A2 m2 c2) hA.sym hop ho hi' h1 hvy (by rw[hs1]; rfl) (by intro u hu; simp[Value.cells]at hu; subst hu; rfl) hf (by show i * 1+0+1<=l.length * 1; omega) fun a' w' hY=>?_);obtain⟨H',h3⟩:=hset _ a' w' ⟨some ⟨b,0,none⟩,c,xs,A2,c2,m2,he,rfl,hfl,hlt,he2,hcap,fun _=>hcm⟩ (by
  have e:xs.take (i * 1+0)++(Value.slice A2 m2 c2).cells.toList++xs.drop (i * 1+0+(Value.slice A2 m2 c2).cells.toList.length)=xs.set i (.slice A2 m2 c2):=by
   rw[List.set_eq_take_append_cons_drop,if_pos (by omega)]
   simp[Value.cells]
  have:=hY.sh
  rw[e]at this;exact this) hY.st
 exact hnext a' _ env H' (h3)
theorem sk_idxA(g:GTy) (m:Nat) (z:Int) (hX:X.tt.ok X.P) {t e:TypeId} {te ee:TE} {u x:Operand} {ux:SA} {k:IntKind} {l:List g.D} {g1 g2 c:Bool} {sa:SA} (hop:o.op=.index t u x) (ho:o.guard=none/\o.dst=some d) (hd:Nat.blt d n=true)
  (ht:X.tt.find t=some te) (hte:te.ti.desc=.array m e) (he:X.tt.find e=some ee) (hsz:Nat.beq g.size ee.ti.size=true) (hag:qt ee.ti.desc=g.isPair) (hone:(g.isPair || Nat.beq g.size 1)=true) (hu:ae X st.L u=some (g1,ux)) (hg1:g1=true)
  (hx:ae X st.L x=some (g2,.c (.val (.int k z)))) (hg2:g2=true) (ha:arrL g m ux=some (c,l)) (hc:c=true) (hz:ze z m=true) (hz2:ze z l.length=true) (hsa:vSA g (l.getD z.toNat g.zero)=some sa)
  : StepOk X n o st ⟨(d,.a sa) :: st.L,st.H⟩:=by
 intro R W Bi ks env B w0 H a w hA KK lops hnext;obtain⟨vu,h1,h2⟩:=hA.ev hu hg1;obtain⟨vs,rfl,hfl⟩:=arrL_ok h2 ha hc;obtain⟨vx,h3,h4⟩:=hA.ev hx hg2;rw[show vx=_ from h4]at h3;obtain⟨j,rfl,hj,_⟩:=xf hz;obtain⟨j',hjj,hj',_⟩:=xf hz2;have hjl:j < l.length:=by omega
 rw[Int.toNat_natCast]at hsa;have e1:=(TT.get hX ht).ti.1;rw[hte]at e1;obtain⟨v,hv,hvd⟩:=part_elem (w:=w) (TT.get hX he).ti hfl hjl (Nat.eq_of_beq_eq_true hsz) hag hone;have hrun:=run_indexA (k:=k) e1 (TT.get hX he).ti hj hv;refine(zJ hA.stt ho.1 ho.2 (zk hd) (v:=v) (w':=w) (by simp[execOp,hop,hA.stt.ev h1,hA.stt.ev h3,hrun]) fun a' hS=>?_);exact hnext a' _ env H (hA.set (sv:=.a sa) (hvd.sa hsa) hS)
theorem sk_loadA(hX:X.tt.ok X.P) {t T e:TypeId} {te:TE} {x:Operand} {id m sz:Nat} {g:GTy} {l:List g.D} {cap:Option Nat} {g1:Bool} (hop:o.op=.load t x) (ho:o.guard=none/\o.dst=some d) (hd:Nat.blt d n=true)
  (ht:X.tt.find t=some te) (hte:te.ti.desc=.array m e) (hx:ae X st.L x=some (g1,.c (.elt id sz 0 0))) (hg1:g1=true) (hlk:lk st.H id=some (.row T g l cap)) (hsz:Nat.beq te.ti.size (m * g.size)=true) (hl:decide (l.length=m)=true)
  : StepOk X n o st ⟨(d,.a (.arr g l)) :: st.L,st.H⟩:=by
 intro R W Bi ks env B w0 H a w hA KK lops hnext;obtain⟨vx,h1,b,c,q,he,rfl⟩:=hA.ev hx hg1;obtain⟨ck,K,⟨A,k,xs,he',rfl,hfl,_⟩,hf⟩:=hA.heap.foc hlk;rw[he]at he';cases he';have hown:Owns w (fun k=>R k\/B k) T g.size (some ⟨b,0,none⟩) c l.length xs:=hA.sh.ok _ hf.more.mem;have hlen:=FR.flat_length hfl;have hl':=of_decide_eq_true hl;refine(zJ hA.stt ho.1 ho.2 (zk hd) (v:=.agg xs.toArray) (w':=w) (run_loadN hA.stt hop (TT.get hX ht).ti (by rw[hte]; rfl) h1 (by rw[hlen,hl',Nat.eq_of_beq_eq_true hsz]) fun j v hj=>?_) fun a' hS=>?_)
 ·rw[show 0 * sz+0+j=j by omega,hown.cells rfl _ (by rw[<- hlen]; exact(List.getElem?_eq_some_iff.1 hj).1)]
  exact hj
 ·exact hnext a' _ env H (hA.set (sv:=.a (.arr g l)) ⟨xs,rfl,hfl⟩ hS)
theorem sk_loadP(hX:X.tt.ok X.P) {t e:TypeId} {te:TE} {x:Operand} {m:Nat} {g:GTy} {l:List g.D} {g1:Bool} (hop:o.op=.load t x) (ho:o.guard=none/\o.dst=some d) (hd:Nat.blt d n=true)
  (ht:X.tt.find t=some te) (hte:te.ti.desc=.array m e) (hx:ae X st.L x=some (g1,.c (.par g l))) (hg1:g1=true) (hsz:Nat.beq te.ti.size (m * g.size)=true) (hl:decide (l.length=m)=true)
  : StepOk X n o st ⟨(d,.a (.arr g l)) :: st.L,st.H⟩:=by
 intro R W Bi ks env B w0 H a w hA KK lops hnext;obtain⟨vx,h1,b,p,vs,rfl,hb,hfl,hcell⟩:=hA.ev hx hg1;have hlen:=FR.flat_length hfl;have hl':=of_decide_eq_true hl;refine(zJ hA.stt ho.1 ho.2 (zk hd) (v:=.agg vs.toArray) (w':=w) (run_loadN hA.stt hop (TT.get hX ht).ti (by rw[hte]; rfl) h1 (by rw[hlen,hl',Nat.eq_of_beq_eq_true hsz]) fun j v hj=>frozen_cell hb (hcell j v hj) hA.sh) fun a' hS=>?_);exact hnext a' _ env H (hA.set (sv:=.a (.arr g l)) ⟨vs,rfl,hfl⟩ hS)
theorem sk_strOf(hX:X.tt.ok X.P) {t t' e:TypeId} {te te' ee:TE} {u:Operand} {ux:SA} {l:List Int} {g:Bool} (hop:o.op=.convert t t' u) (ho:o.guard=none/\o.dst=some d) (hd:Nat.blt d n=true)
  (ht:X.tt.find t=some te) (hte:te.ti.desc=.slice e) (ht':X.tt.find t'=some te') (hte':te'.ti.desc=.string) (he:X.tt.find e=some ee) (hee:ee.ti.desc=.int .u8)
  (hu:ae X st.L u=some (g,ux)) (hg:g=true) (hs:srcL st (.int .u8) ux=some l) (hb:isBs l=true)
  : StepOk X n o st ⟨(d,.c (.str (bsOf l))) :: st.L,st.H⟩:=by
 intro R W Bi ks env B w0 H a w hA KK lops hnext;obtain⟨vu,h1,h2⟩:=hA.ev hu hg;obtain⟨A,c,xs,rfl,hfl,hr⟩:=srcL_ok hA hs h2;obtain⟨T,hT,q1,q2,q3⟩:=tab3 (TT.get hX ht).ti (TT.get hX ht').ti (TT.get hX he).ti;rw[flat_ints hfl,<- by_back l hb]at hr;have hlen:(bsOf l).length=l.length:=by simp[bsOf]
 rw[<- hlen]at h1 hr;refine(zJ hA.stt ho.1 ho.2 (zk hd) (v:=qe (bsOf l)) (w':=w) (v_str hA.stt hop hT q1 q2 hte hte' q3 hee h1 w hr) fun a' hS=>?_);exact hnext a' _ env H (hA.set (sv:=.c (.str (bsOf l))) rfl hS)
theorem sk_sliceSf(hX:X.tt.ok X.P) {t:TypeId} {te:TE} {u x:Operand} {s:List UInt8} {k:IntKind} {z:Int} {g g2:Bool} (hop:o.op=.slice t u (some x) none none) (ho:o.guard=none/\o.dst=some d) (hd:Nat.blt d n=true)
  (ht:X.tt.find t=some te) (hte:te.ti.desc=.string) (hu:ae X st.L u=some (g,.c (.str s))) (hg:g=true) (hx:ae X st.L x=some (g2,.c (.val (.int k z)))) (hg2:g2=true) (h0:decide (0<=z)=true) (h1:decide (z<=(s.length:Int))=true)
  : StepOk X n o st ⟨(d,.c (.str (s.drop z.toNat))) :: st.L,st.H⟩:=by
 intro R W Bi ks env B w0 H a w hA KK lops hnext;obtain⟨vu,q1,q2⟩:=hA.ev hu hg;rw[show vu=qe s from q2]at q1;obtain⟨vx,q3,q4⟩:=hA.ev hx hg2;rw[show vx=_ from q4]at q3;have e1:=(TT.get hX ht).ti.1;rw[hte]at e1;have h0':=of_decide_eq_true h0;have h1':=of_decide_eq_true h1;have hrun:=run_sliceS (w:=w) (s:=s) (lo:=some (.int k z)) (hi:=none) (a:=z.toNat) (b:=s.length) e1 (by simp[Instr.sliceBounds,Instr.sliceBound,asIntOf,h0',h1']);rw[List.take_length]at hrun;refine(zJ hA.stt ho.1 ho.2 (zk hd) (v:=qe (s.drop z.toNat)) (w':=w) (by simp[execOp,hop,hA.stt.ev q1,hA.stt.ev q3,hrun]) fun a' hS=>?_);exact hnext a' _ env H (hA.set (sv:=.c (.str (s.drop z.toNat))) rfl hS)
theorem sk_sliceSt(hX:X.tt.ok X.P) {t:TypeId} {te:TE} {u x:Operand} {s:List UInt8} {k:IntKind} {z:Int} {g g2:Bool} (hop:o.op=.slice t u none (some x) none) (ho:o.guard=none/\o.dst=some d) (hd:Nat.blt d n=true)
  (ht:X.tt.find t=some te) (hte:te.ti.desc=.string) (hu:ae X st.L u=some (g,.c (.str s))) (hg:g=true) (hx:ae X st.L x=some (g2,.c (.val (.int k z)))) (hg2:g2=true) (h0:decide (0<=z)=true) (h1:decide (z<=(s.length:Int))=true)
  : StepOk X n o st ⟨(d,.c (.str (s.take z.toNat))) :: st.L,st.H⟩:=by
 intro R W Bi ks env B w0 H a w hA KK lops hnext;obtain⟨vu,q1,q2⟩:=hA.ev hu hg;rw[show vu=qe s from q2]at q1;obtain⟨vx,q3,q4⟩:=hA.ev hx hg2;rw[show vx=_ from q4]at q3;have e1:=(TT.get hX ht).ti.1;rw[hte]at e1;have h0':=of_decide_eq_true h0;have h1':=of_decide_eq_true h1;have hrun:=run_sliceS (w:=w) (s:=s) (lo:=none) (hi:=some (.int k z)) (a:=0) (b:=z.toNat) e1 (by simp[Instr.sliceBounds,Instr.sliceBound,asIntOf,h0',h1']);rw[List.drop_zero]at hrun;refine(zJ hA.stt ho.1 ho.2 (zk hd) (v:=qe (s.take z.toNat)) (w':=w) (by simp[execOp,hop,hA.stt.ev q1,hA.stt.ev q3,hrun]) fun a' hS=>?_);exact hnext a' _ env H (hA.set (sv:=.c (.str (s.take z.toNat))) rfl hS)
theorem sk_sliceSm(hX:X.tt.ok X.P) {t:TypeId} {te:TE} {u x y:Operand} {s:List UInt8} {k k2:IntKind} {z z2:Int} {g g2 g3:Bool} (hop:o.op=.slice t u (some x) (some y) none) (ho:o.guard=none/\o.dst=some d) (hd:Nat.blt d n=true)
  (ht:X.tt.find t=some te) (hte:te.ti.desc=.string) (hu:ae X st.L u=some (g,.c (.str s))) (hg:g=true) (hx:ae X st.L x=some (g2,.c (.val (.int k z)))) (hg2:g2=true) (hy:ae X st.L y=some (g3,.c (.val (.int k2 z2)))) (hg3:g3=true) (h0:decide (0<=z)=true) (h1:decide (z<=z2)=true) (h2:decide (z2<=(s.length:Int))=true)
  : StepOk X n o st ⟨(d,.c (.str ((s.take z2.toNat).drop z.toNat))) :: st.L,st.H⟩:=by
 intro R W Bi ks env B w0 H a w hA KK lops hnext;obtain⟨vu,q1,q2⟩:=hA.ev hu hg;rw[show vu=qe s from q2]at q1;obtain⟨vx,q3,q4⟩:=hA.ev hx hg2;rw[show vx=_ from q4]at q3;obtain⟨vy,q5,q6⟩:=hA.ev hy hg3;rw[show vy=_ from q6]at q5;have e1:=(TT.get hX ht).ti.1;rw[hte]at e1;have h0':=of_decide_eq_true h0;have h1':=of_decide_eq_true h1;have h2':=of_decide_eq_true h2;have h3':0<=z2:=by omega
 have h4':z<=(z2.toNat:Int):=by omega
 have hrun:=run_sliceS (w:=w) (s:=s) (lo:=some (.int k z)) (hi:=some (.int k2 z2)) (a:=z.toNat) (b:=z2.toNat) e1 (by
  have h5':z<=max z2 0:=by omega
  simp[Instr.sliceBounds,Instr.sliceBound,asIntOf,h0',h2',h3',h5'])
 refine(zJ hA.stt ho.1 ho.2 (zk hd) (v:=qe ((s.take z2.toNat).drop z.toNat)) (w':=w) (by simp[execOp,hop,hA.stt.ev q1,hA.stt.ev q3,hA.stt.ev q5,hrun]) fun a' hS=>?_);exact hnext a' _ env H (hA.set (sv:=.c (.str ((s.take z2.toNat).drop z.toNat))) rfl hS)
theorem sk_appendL(hX:X.tt.ok X.P) {t e:TypeId} {x y:Operand} {g1 g2:Bool} {sy:SA} {sz bts c:Nat} {ge g:GTy} {l l2:List g.D} {te:TE} {ds:TypeDesc} {zz:Value} (hop:o.op=.call ⟨.builtin .append,⟨[x,y]⟩,⟨[t,t]⟩⟩) (ho:o.guard=none/\o.dst=some d) (hd:Nat.blt d n=true)
  (ht:X.tt.find t=some te) (hte:te.ti.desc=.slice e) (he:X.tt.find e=some ⟨⟨ds,sz,bts,zz⟩,some ge⟩) (hx:ae X st.L x=some (g1,.c (.lst g l (some c)))) (hg:g1=true) (hy:ae X st.L y=some (g2,sy)) (hg':g2=true)
  (hsz:Nat.beq g.size sz=true) (hsrc:srcL st g sy=some l2) (hc:zV bts (l.length+l2.length)=true) (hcl:decide (c=l.length)=true)
  : StepOk X n o st ⟨(d,.c (.sl d)) :: qb d .dead st.L,(d,.lrow e g (l++l2)) :: zM d .dead st.H⟩:=by
 intro R W Bi ks env B w0 H a w h KK lops hnext;obtain⟨vx,hvx,A,c',xs,rfl,q1,q2,hcap,hfl,hrb⟩:=h.ev hx hg;obtain⟨vy,hvy,hry⟩:=h.ev hy hg';have e1:=hcap c rfl;have e2:=of_decide_eq_true hcl;have e3:c'=l.length:=e1.trans e2;rw[e3]at hvx q2;obtain⟨hg1,hg2,hg3⟩:=(TT.get hX he).g ge rfl;obtain⟨T,hT,h1,h4⟩:=tab2 (TT.get hX ht).ti (TT.get hX he).ti;dsimp only at hg1 hg2 h4;have hzs:zz.cells.size=sz:=by
  have:zz.cells.toList.length=sz:=by rw[hg2,<- hg1]; exact FR.length (FR.zeros (B:=B) (w:=w0) ge)
  simpa using this
 have hsz':=Nat.eq_of_beq_eq_true hsz;simp only[zV,Bool.and_eq_true,decide_eq_true_eq]at hc;obtain⟨A2,c2,xs2,rfl,hfl2,hR2⟩:=srcL_ok h hsrc hry;have hR1:=hrb.old h.sh;rw[hsz']at hR1 hR2;refine(y_append_full h.sym hop ho hd hT h1 hte h4 (by rw[<- hg1]; exact Nat.ble_eq_true_of_le hg3) hzs hvx hvy hR1 hR2 (Flat.ones (fun _ _=>FR.ones) hfl2) hc.1 hc.2 (fun hm a' w' hY=>?_) fun A' c' a' w' hY=>?_)
 ·have hl2:l2=[]:=List.eq_nil_of_length_eq_zero hm
  subst hl2;obtain⟨H',_,h8⟩:=h.newBlk (d:=d) hd (l:=.row A l.length (l++[]).length) (c:=.row none 0 e g.size 0 []) (blk:=.lrow e g (l++[])) (sv:=.c (.sl d)) (v:=.slice A l.length l.length) (hY.sh.nilRow e g.size) ⟨A,l.length,zf,.inr ⟨rfl,by simp,q2,xs,by rw[List.append_nil]; exact hfl,by rw[List.append_nil]; exact hrb⟩⟩ ⟨A,l.length,_,zf,by simp⟩ hY.st;exact hnext a' w' _ H' (h8)
 ·obtain⟨H',_,h8⟩:=h.newBlk (d:=d) hd (l:=.row A' c' (l++l2).length) (c:=.row A' c' e g.size (l++l2).length (xs++xs2)) (blk:=.lrow e g (l++l2)) (sv:=.c (.sl d)) (v:=.slice A' (l.length+l2.length) c') (by have:=hY.sh; rw[<- hsz']at this; rw[List.length_append]; exact this) ⟨A',c',zf,.inl ⟨_,rfl,hfl.append hfl2⟩⟩ ⟨A',c',_,zf,by rw[List.length_append]⟩ hY.st
  exact hnext a' w' _ H' (h8)
end
end

section
section
variable {X:Cx} {n:Nat} {st st':ASt} {o:Oper} {d:Nat}
theorem sk_range(hX:X.tt.ok X.P) {t:TypeId} {te:TE} {u:Operand} {g:Bool} {s:List UInt8} (hop:o.op=.range t u) (ho:o.guard=none/\o.dst=some d) (hd:Nat.blt d n=true) (ht:X.tt.find t=some te) (hte:te.ti.desc=.string) (hu:ae X st.L u=some (g,.c (.str s))) (hg:g=true) :
  StepOk X n o st ⟨(d,.c (.ptr d 0)) :: qb d .dead st.L,(d,.sit ⟨s.toArray⟩ 0) :: zM d .dead st.H⟩:=by
 intro R W Bi ks env B w0 H a w h KK lops hnext;obtain⟨vu,h1,h2⟩:=h.ev hu hg;rw[show vu=qe s from h2]at h1;have e1:=(TT.get hX ht).ti.1;rw[hte]at e1;refine zJ h.stt ho.1 ho.2 (zk hd) (v:=.pointer (some ⟨w.heap.size,0,none⟩)) (w':=w.alloc (.stringIter ⟨s.toArray⟩ 0)) (by simp[execOp,hop,h.stt.ev h1,Instr.range,run_underlying e1,qe,newObj,Sem.run]) fun a' hS=>?_
 obtain⟨H',_,h3⟩:=h.newBlk (d:=d) hd (l:=.blk w.heap.size) (blk:=.sit ⟨s.toArray⟩ 0) (sv:=.c (.ptr d 0)) (w':=w.alloc (.stringIter ⟨s.toArray⟩ 0)) (h.sh.alloc _) ⟨_,zf,rfl⟩ ⟨_,zf,rfl⟩ hS;exact hnext a' _ _ H' h3
theorem sk_nextT{x:Operand} {g:Bool} {id p:Nat} {S:ByteArray} (hop:o.op=.next x true) (ho:o.guard=none/\o.dst=some d) (hd:Nat.blt d n=true) (hx:ae X st.L x=some (g,.c (.ptr id 0))) (hg:g=true) (hlk:lk st.H id=some (.sit S p)) (hp:p < S.size) :
  StepOk X n o st ⟨(d,.tup [.c (.val (.bool true)),.c (.val (.int .i64 (p:Int))),.c (.val (.int .i32 (Utf8.decode S p).1))]) :: st.L,zX id (.sit S (p+(Utf8.decode S p).2)) st.H⟩:=by
 intro R W Bi ks env B w0 H a w h KK lops hnext;obtain⟨vx,h1,b,hb,rfl⟩:=h.ev hx hg;obtain⟨ck,K,⟨b',hb',rfl⟩,hfoc,hset⟩:=h.setBlk (b':=.sit S (p+(Utf8.decode S p).2)) hlk;rw[hb]at hb';cases hb';have hob:=(h.sh.ok _ hfoc.mem).2;refine zJ h.stt ho.1 ho.2 (zk hd) (v:=.tuple #[.bool true,.int .i64 p,.int .i32 (Utf8.decode S p).1]) (w':={ w with heap:=w.heap.setIfInBounds b (.stringIter S (p+(Utf8.decode S p).2)) }) ?_ fun a' hS=>?_
 ·have:=Lib.run_next_any_at (P:=X.P) w b S p o.type hob hp
  simp[execOp,hop,h.stt.ev h1,this,World.iterAt]
 ·obtain⟨H',h3⟩:=hset (.obj b (.stringIter S (p+(Utf8.decode S p).2))) a { w with heap:=w.heap.setIfInBounds b (.stringIter S (p+(Utf8.decode S p).2)) } ⟨b,hb,rfl⟩ (h.sh.setO hfoc) h.stt
  exact hnext a' _ _ H' (h3.set ⟨[.bool true,.int .i64 p,.int .i32 (Utf8.decode S p).1],rfl,_,_,rfl,rfl,_,_,rfl,rfl,_,_,rfl,rfl,rfl⟩ hS)
theorem sk_nextF{x:Operand} {g:Bool} {id p:Nat} {S:ByteArray} (hop:o.op=.next x true) (ho:o.guard=none/\o.dst=some d) (hd:Nat.blt d n=true) (hx:ae X st.L x=some (g,.c (.ptr id 0))) (hg:g=true) (hlk:lk st.H id=some (.sit S p)) (hp:¬ p < S.size) :
  StepOk X n o st ⟨(d,.tup [.c (.val (.bool false))]) :: st.L,st.H⟩:=by
 intro R W Bi ks env B w0 H a w h KK lops hnext;obtain⟨vx,h1,b,hb,rfl⟩:=h.ev hx hg;obtain⟨ck,K,⟨b',hb',rfl⟩,hfoc,hset⟩:=h.setBlk (b':=.sit S p) hlk;rw[hb]at hb';cases hb';have hob:=(h.sh.ok _ hfoc.mem).2;refine zJ h.stt ho.1 ho.2 (zk hd) (v:=.tuple #[.bool false]) (w':=w) ?_ fun a' hS=>?_
 ·have:=Lib.run_next_end_at (P:=X.P) w b S p o.type hob hp
  simp[execOp,hop,h.stt.ev h1,this]
 ·exact hnext a' _ _ H (h.set ⟨[.bool false],rfl,_,_,rfl,rfl,rfl⟩ hS)
end
end

section
set_option linter.unusedSectionVars false
section
variable {X:Cx} {M:Bool} {n:Nat} {st:ASt} {Q:Exit->ASt->Prop} {ops rest:List Oper} {o:Oper} {d:Nat}
theorem pk_sliceP(hX:X.tt.ok X.P) {t e:TypeId} {te ee:TE} {u x:Operand} {id:Nat} {T:TypeId} {g:GTy} {l:List g.D} {cap:Option Nat} {k:IntKind} {z:Int} {g1 g2:Bool} (hop:o.op=.slice t u (some x) none none)
  (ht:X.tt.find t=some te) (hte:te.ti.desc=.slice e) (he:X.tt.find e=some ee) (hu:ae X st.L u=some (g1,.c (.sl id))) (hg1:g1=true) (hx:ae X st.L x=some (g2,.c (.val (.int k z)))) (hg2:g2=true)
  (hlk:lk st.H id=some (.row T g l cap)) (hsz:Nat.beq g.size ee.ti.size=true) (hz:(decide (0<=z)&&decide (z<=(l.length:Int)))=true):PureOk X st o (.c (.slp id g.size z.toNat)):=by
 intro R W Bi n ks env B w0 H a w1 hA;simp only[Bool.and_eq_true,decide_eq_true_eq]at hz;obtain⟨vu,h1,A,c,m,hen,rfl⟩:=hA.ev hu hg1;obtain⟨vx,h2,h3⟩:=hA.ev hx hg2;rw[show vx=_ from h3]at h2;obtain⟨ck,K,⟨A',k',xs,he',rfl,_⟩,hf⟩:=hA.heap.foc hlk;rw[hen]at he';cases he';obtain⟨TT0,hT,q1,q4⟩:=tab2 (TT.get hX ht).ti (TT.get hX he).ti;refine⟨_,⟨A,c,l.length,hen,by omega,rfl⟩,fun w _=>?_⟩
 have:=p_sliceFrom (l:=z.toNat) hA.stt hop hT q1 hte q4 h1 h2 (by omega) (by omega) w
 rw[<- Nat.eq_of_beq_eq_true hsz]at this;exact this
theorem Flat.part{α:Type} {R:α->List Value->Prop} {k:Nat} (h:∀ x vs,R x vs->vs.length=k) {l l2:List α} {xs xs2:List Value} {i:Nat} (h1:Flat R l xs) (h2:Flat R l2 xs2):Flat R (l.take i++l2++l.drop (i+l2.length)) (xs.take (i * k)++xs2++xs.drop (i * k+xs2.length)):=by
 have e:=Flat.length h h2;rw[e,<- Nat.add_mul];exact((Flat.split h i h1).1.append h2).append (Flat.split h (i+l2.length) h1).2
theorem sk_copyP(hX:X.tt.ok X.P) {t e:TypeId} {x y:Operand} {g1 g2:Bool} {sy:SA} {id sz bts s p:Nat} {ge g:GTy} {l l2:List g.D} {cap:Option Nat} {te:TE} {ds:TypeDesc} {zz:Value} (hop:o.op=.call ⟨.builtin .copy,⟨[x,y]⟩,⟨[t,t]⟩⟩) (ho:o.guard=none/\o.dst=some d) (hd:Nat.blt d n=true)
  (ht:X.tt.find t=some te) (hte:te.ti.desc=.slice e) (he:X.tt.find e=some ⟨⟨ds,sz,bts,zz⟩,some ge⟩) (hx:ae X st.L x=some (g1,.c (.slp id s p))) (hg:g1=true) (hy:ae X st.L y=some (g2,sy)) (hg':g2=true)
  (hlk:lk st.H id=some (.row e g l cap)) (hsz:Nat.beq g.size sz=true) (hs:Nat.beq s sz=true) (hsrc:srcL st g sy=some l2) (hpos:Nat.blt 0 sz=true) (hc:decide (p+l2.length<=l.length)=true):StepOk X n o st ⟨(d,.c (.val (.int .i64 (l2.length:Int)))) :: st.L,zX id (.row e g (l.take p++l2++l.drop (p+l2.length)) cap) st.H⟩:=by
 intro R W Bi ks env B w0 H a w h KK lo hnext;obtain⟨vx,hvx,hrx⟩:=h.ev hx hg;obtain⟨vy,hvy,hry⟩:=h.ev hy hg';obtain⟨T,hT,h1,h4⟩:=tab2 (TT.get hX ht).ti (TT.get hX he).ti;have hsz':=Nat.eq_of_beq_eq_true hsz;have hs':=Nat.eq_of_beq_eq_true hs;have hcl:=of_decide_eq_true hc;obtain⟨A2,c2,xs2,rfl,hfl2,hR2⟩:=srcL_ok h hsrc hry;obtain⟨A,c,m,hen,hpm,rfl⟩:=hrx;obtain⟨ck,K,⟨A',k',xs,hen',rfl,hfl,hcap⟩,hfoc,hturn⟩:=h.setBlk (b':=.row e g (l.take p++l2++l.drop (p+l2.length)) cap) hlk;rw[hen]at hen';cases hen';rw[hsz']at hfoc hR2;rw[hs']at hvx;have hlen:(l.take p++l2++l.drop (p+l2.length)).length=l.length:=by
  simp only[List.length_append,List.length_take,List.length_drop];omega
 refine y_copyP h.sym hop ho hd hT h1 hte h4 hvx hvy hfoc hR2 (Flat.ones (fun _ _=>FR.ones) hfl2) (zk hpos) hcl fun a' w' hY=>?_
 have hfp:=Flat.part (i:=p) (fun _ _=>FR.length) hfl hfl2;rw[hsz']at hfp;obtain⟨H',h8⟩:=hturn (.row A c e g.size l.length (xs.take (p * sz)++xs2++xs.drop (p * sz+xs2.length))) a w' ⟨A,c,_,by rw[hlen]; exact hen,by rw[hlen],hfp,hcap⟩ (by rw[hsz']; exact hY.sh) h.stt;exact hnext a' w' _ H' (h8.set rfl hY.st)
theorem pk_capO(hX:X.tt.ok X.P) {t e:TypeId} {te:TE} {u:Operand} {id:Nat} {g1:Bool} (hop:o.op=.call ⟨.builtin .cap,⟨[u]⟩,⟨[t]⟩⟩)
  (ht:X.tt.find t=some te) (hte:te.ti.desc=.slice e) (hu:ae X st.L u=some (g1,.c (.sl id))) (hg1:g1=true):PureOk X st o (.c (.cpo id)):=by
 intro R W Bi n ks env B w0 H a w1 hA;obtain⟨vu,h1,A,c,m,hen,rfl⟩:=hA.ev hu hg1;obtain⟨TT0,hT,q1⟩:=tab1 (TT.get hX ht).ti;exact⟨_,⟨A,c,m,hen,rfl⟩,fun w _=>p_cap hA.stt hop hT q1 hte h1 w⟩
theorem Owns.less{w:World} {B:Nat->Prop} {e:TypeId} {size c n m:Nat} {A:Option Addr} {xs:List Value} (h:Owns w B e size A c n xs) (hm:m<=n):Owns w B e size A c m (xs.take (m * size)):=by
 have hmn:m * size<=n * size:=Nat.mul_le_mul_right _ hm;refine⟨by rw[List.length_take,h.1,Nat.min_eq_left hmn],?_⟩
 rcases h.2 with⟨h1,h2,h3⟩ | ⟨g,cur,fr,h1,h2,h3,h4,h5,h6,h7,h8⟩
 ·exact .inl ⟨h1,by omega,h3⟩
 ·exact .inr ⟨g,cur,fr,h1,h2,h3,h4,by omega,h6,h7,by rw[<- h8,List.take_take,Nat.min_eq_left hmn]⟩
theorem sk_pop(hX:X.tt.ok X.P) {t e:TypeId} {te ee:TE} {u y v:Operand} {id:Nat} {T:TypeId} {g:GTy} {l:List g.D} {cap:Option Nat} {k:IntKind} {z:Int} {g1 g2 g3:Bool} (hop:o.op=.slice t u none (some y) (some v)) (ho:o.guard=none/\o.dst=some d) (hd:(Nat.blt d n&&Nat.blt id zP)=true)
  (ht:X.tt.find t=some te) (hte:te.ti.desc=.slice e) (he:X.tt.find e=some ee) (hu:ae X st.L u=some (g1,.c (.sl id))) (hg1:g1=true) (hy:ae X st.L y=some (g2,.c (.val (.int k z)))) (hg2:g2=true) (hv:ae X st.L v=some (g3,.c (.cpo id))) (hg3:g3=true)
  (hlk:lk st.H id=some (.row T g l cap)) (hz:(decide (0<=z)&&decide (z<=(l.length:Int)))=true):StepOk X n o st ⟨(d,.c (.sl id)) :: qb id .dead st.L,(id,.row T g (l.take z.toNat) cap) :: zM id .dead st.H⟩:=by
 intro R W Bi ks env B w0 H a w hA KK lops hnext;simp only[Bool.and_eq_true,decide_eq_true_eq]at hz hd;obtain⟨hd,hfix⟩:=hd;obtain⟨vu,h1,A,c,m,hen,rfl⟩:=hA.ev hu hg1;obtain⟨vy,h2,h3⟩:=hA.ev hy hg2;rw[show vy=_ from h3]at h2;obtain⟨vv,h4,A4,c4,m4,hen4,rfl⟩:=hA.ev hv hg3;rw[hen]at hen4;cases hen4;obtain⟨ck,K,⟨A',k',xs,he',rfl,hfl,hcap⟩,hf,hturn⟩:=hA.turnRow (d:=d) (b':=.row T g (l.take z.toNat) cap) hlk (fun q hp=>by
  obtain⟨_,h5,h6⟩:=hA.pin _ _ hp;rw[hen]at h5
  rcases h6 with⟨b,h6⟩ | h6
  ·rw[<- h5]at h6; cases h6
  ·have:=zk hfix; omega)
 rw[hen]at he';cases he';obtain⟨TT0,hT,q1,q4⟩:=tab2 (TT.get hX ht).ti (TT.get hX he).ti;have hown:Owns w (fun k=>R k\/B k) T g.size A c l.length xs:=hA.sh.ok _ hf.mem;have hrun:=p_slice3n (h:=z.toNat) (q:=c) hA.stt hop hT q1 hte q4 h1 h2 h4 (by omega) rfl (by have:=hown.le.1; omega) (Nat.le_refl _) w;refine zJ hA.stt ho.1 ho.2 (zk hd) (v:=.slice A z.toNat c) (w':=w) hrun fun a' hS=>?_
 have hln:(l.take z.toNat).length=z.toNat:=by rw[List.length_take]; omega
 have hs:SH (fun k=>R k\/B k) w0 (K (.row A c T g.size z.toNat (xs.take (z.toNat * g.size)))) w:=hA.sh.turn hf (KO.refl _ _) (hown.less (by omega)) (fun b hb=>.inl hb) fun b _ _=>rfl
 obtain⟨H',_,h8⟩:=hturn (.row A c z.toNat) _ a' w (.c (.sl id)) _ ⟨A,c,_,by rw[hln]; exact zf,by rw[hln],(Flat.split (fun _ _=>FR.length) z.toNat hfl).1,hcap⟩ ⟨A,c,_,zf,rfl⟩ hs hS;exact hnext a' w _ H' h8
end
end

def SC.free:SC->Bool
 | .val _=>true
 | .str _=>true
 | .pel _ _ _=>true
 | .par _ _=>true
 | .lst _ _ _=>true
 | .fn _ cs=>capsFz cs
 | _=>false
def scFree:List SC->Bool
 | []=>true
 | c :: r=>match c.free with
  | true=>scFree r
  | false=>false
def SA.free:SA->Bool
 | .c x=>x.free
 | .agg cs=>scFree cs
 | .arr _ _=>true
def qN:List SA->Bool
 | []=>true
 | c :: r=>match c.free with
  | true=>qN r
  | false=>false
def SV.free:SV->Bool
 | .a x=>x.free
 | .may _ x=>x.free
 | .tup xs=>qN xs
def Blk.free:Blk->Bool
 | .cells _ cs=>scFree cs
 | .row _ _ _ _=>true
 | .mp _ _ _ _=>true
 | .lrow _ _ _=>true
 | .mrow _ _ _ _ _ none=>true
 | _=>false
theorem hasCap_free{id:Nat}:∀ {cs:List Cap},capsFz cs=true->hasCap id cs=false
 | [],_=>rfl
 | .id _ :: _,h=>by cases h
 | .fz _ _ :: cs,h=>hasCap_free (cs:=cs) h
theorem anyIn_free{js:List Nat}:∀ {cs:List Cap},capsFz cs=true->anyIn js cs=false
 | [],_=>rfl
 | .id _ :: _,h=>by cases h
 | .fz _ _ :: cs,h=>anyIn_free (cs:=cs) h
theorem fzCaps_free{id:Nat} {g:GTy} {x:g.D}:∀ {cs:List Cap},capsFz cs=true->fzCaps id g x cs=cs
 | [],_=>rfl
 | .id _ :: _,h=>by cases h
 | .fz _ _ :: cs,h=>by
  show Cap.fz _ _ :: fzCaps id g x cs=_;rw[fzCaps_free (cs:=cs) h]
structure Fix(f:SC->SC):Prop where
 fix:∀ c,c.free=true->f c=c
theorem fix_sub(id:Nat) (z:SC):Fix fun c=>c.sub id z:=⟨fun c h=>by
 cases c with
 | fn f cs=>simp only[SC.sub]; rw[hasCap_free h]
 | _=>first | rfl | cases h⟩
theorem fix_kill(js:List Nat):Fix fun c=>c.kill js:=⟨fun c h=>by
 cases c with
 | fn f cs=>simp only[SC.kill]; rw[anyIn_free h]
 | _=>first | rfl | cases h⟩
theorem fix_fzc(id:Nat) (g:GTy) (x:g.D):Fix fun c=>c.fzc id g x:=⟨fun c h=>by
 cases c with
 | fn f cs=>simp only[SC.fzc]; rw[fzCaps_free h]
 | _=>first | rfl | cases h⟩
def mapCs(f:SC->SC):List SC->List SC
 | []=>[]
 | c :: r=>f c :: mapCs f r
theorem qD{f:SC->SC} (hf:Fix f):∀ {cs:List SC},scFree cs=true->mapCs f cs=cs
 | [],_=>rfl
 | c :: r,h=>by
  unfold scFree at h
  split at h
  ·rename_i e
   show f c :: mapCs f r=_;rw[hf.fix c e,qD hf h]
  ·cases h
theorem subs_map(id:Nat) (z:SC):∀ cs:List SC,subs id z cs=mapCs (fun c=>c.sub id z) cs
 | []=>rfl
 | c :: r=>by
  show c.sub id z :: subs id z r=_;rw[subs_map id z r]; rfl
theorem kill_map(js:List Nat):∀ cs:List SC,killCs js cs=mapCs (fun c=>c.kill js) cs
 | []=>rfl
 | c :: r=>by
  show c.kill js :: killCs js r=_;rw[kill_map js r]; rfl
theorem fzc_map(id:Nat) (g:GTy) (x:g.D):∀ cs:List SC,fzcCs id g x cs=mapCs (fun c=>c.fzc id g x) cs
 | []=>rfl
 | c :: r=>by
  show c.fzc id g x :: fzcCs id g x r=_;rw[fzc_map id g x r]; rfl
theorem sa_sub_free{id:Nat} {z:SC} {x:SA} (h:x.free=true):x.sub id z=x:=by
 cases x with
 | c x=>simp only[SA.sub]; rw[(fix_sub id z).fix x h]
 | agg cs=>simp only[SA.sub]; rw[subs_map,qD (fix_sub id z) h]
 | arr g l=>rfl
theorem sa_kill_free{js:List Nat} {x:SA} (h:x.free=true):x.kill js=x:=by
 cases x with
 | c x=>simp only[SA.kill]; rw[(fix_kill js).fix x h]
 | agg cs=>simp only[SA.kill]; rw[kill_map,qD (fix_kill js) h]
 | arr g l=>rfl
theorem sa_fzc_free{id:Nat} {g:GTy} {y:g.D} {x:SA} (h:x.free=true):x.fzc id g y=x:=by
 cases x with
 | c x=>simp only[SA.fzc]; rw[(fix_fzc id g y).fix x h]
 | agg cs=>simp only[SA.fzc]; rw[fzc_map,qD (fix_fzc id g y) h]
 | arr g l=>rfl
theorem asubs_free{id:Nat} {z:SC}:∀ {xs:List SA},qN xs=true->asubs id z xs=xs
 | [],_=>rfl
 | c :: r,h=>by
  unfold qN at h
  split at h
  ·rename_i e
   show c.sub id z :: asubs id z r=_;rw[sa_sub_free e,asubs_free h]
  ·cases h
theorem killAs_free{js:List Nat}:∀ {xs:List SA},qN xs=true->killAs js xs=xs
 | [],_=>rfl
 | c :: r,h=>by
  unfold qN at h
  split at h
  ·rename_i e
   show c.kill js :: killAs js r=_;rw[sa_kill_free e,killAs_free h]
  ·cases h
theorem fzcAs_free{id:Nat} {g:GTy} {y:g.D}:∀ {xs:List SA},qN xs=true->fzcAs id g y xs=xs
 | [],_=>rfl
 | c :: r,h=>by
  unfold qN at h
  split at h
  ·rename_i e
   show c.fzc id g y :: fzcAs id g y r=_;rw[sa_fzc_free e,fzcAs_free h]
  ·cases h
theorem sv_sub_free{id:Nat} {z:SC} {v:SV} (h:v.free=true):v.sub id z=v:=by
 cases v with
 | a x=>simp only[SV.sub]; rw[sa_sub_free h]
 | may g x=>simp only[SV.sub]; rw[sa_sub_free h]
 | tup xs=>simp only[SV.sub]; rw[asubs_free h]
theorem sv_kill_free{js:List Nat} {v:SV} (h:v.free=true):v.kill js=v:=by
 cases v with
 | a x=>simp only[SV.kill]; rw[sa_kill_free h]
 | may g x=>simp only[SV.kill]; rw[sa_kill_free h]
 | tup xs=>simp only[SV.kill]; rw[killAs_free h]
theorem sv_fzc_free{id:Nat} {g:GTy} {y:g.D} {v:SV} (h:v.free=true):v.fzc id g y=v:=by
 cases v with
 | a x=>simp only[SV.fzc]; rw[sa_fzc_free h]
 | may g x=>simp only[SV.fzc]; rw[sa_fzc_free h]
 | tup xs=>simp only[SV.fzc]; rw[fzcAs_free h]
theorem blk_sub_free{id:Nat} {z:SC} {b:Blk} (h:b.free=true):b.sub id z=b:=by
 cases b with
 | cells t cs=>simp only[Blk.sub]; rw[subs_map,qD (fix_sub id z) h]
 | mrow T T' g l c q=>rcases q with _ | ⟨i,_ | d⟩<;>first | rfl | cases h
 | _=>first | rfl | cases h
theorem blk_kill_free{js:List Nat} {b:Blk} (h:b.free=true):b.kill js=b:=by
 cases b with
 | cells t cs=>simp only[Blk.kill]; rw[kill_map,qD (fix_kill js) h]
 | mrow T T' g l c q=>rcases q with _ | ⟨i,_ | d⟩<;>first | rfl | cases h
 | _=>first | rfl | cases h
theorem blk_fzc_free{id:Nat} {g:GTy} {y:g.D} {b:Blk} (h:b.free=true):b.fzc id g y=b:=by
 cases b with
 | cells t cs=>simp only[Blk.fzc]; rw[fzc_map,qD (fix_fzc id g y) h]
 | _=>first | rfl | cases h
def inN(q:Nat):List Nat->Bool
 | []=>false
 | k :: r=>match Nat.beq k q with
  | true=>true
  | false=>inN q r
theorem inN_app{q:Nat}:∀ {l r:List Nat},inN q (l++r)=false ↔ inN q l=false/\inN q r=false
 | [],r=>by simp[inN]
 | k :: l,r=>by
  show(match Nat.beq k q with | true=>true | false=>inN q (l++r))=false ↔ (match Nat.beq k q with | true=>true | false=>inN q l)=false/\_;cases Nat.beq k q with
  | true=>simp
  | false=>exact inN_app
theorem zA{q k:Nat} {r:List Nat} (h:inN q (k :: r)=false):q≠k/\inN q r=false:=by
 unfold inN at h
 split at h
 ·cases h
 ·rename_i e
  exact⟨(fun e'=>by rw[e',Nat.beq_refl]at e; cases e),h⟩
def Kp{α:Type} (fr:α->Bool) (V:List Nat) (L L':List (Nat×α)):Prop:=∀ q v,inN q V=false->lk L' q=some v->∃ u,lk L q=some u/\(fr u=true->v=u)
theorem Kp.refl{α:Type} {fr:α->Bool} {V:List Nat} (L:List (Nat×α)):Kp fr V L L:=fun _ v _ h=>⟨v,h,fun _=>rfl⟩
theorem Kp.trans{α:Type} {fr:α->Bool} {V V2:List Nat} {L L1 L2:List (Nat×α)} (h:Kp fr V L L1) (k:Kp fr V2 L1 L2):Kp fr (V2++V) L L2:=fun q v hq hl=>by
 obtain⟨h1,h2⟩:=inN_app.1 hq;obtain⟨u,h3,h4⟩:=k q v h1 hl;obtain⟨u2,h5,h6⟩:=h q u h2 h3;exact⟨u2,h5,fun hf=>by have:=h6 hf; subst this; exact h4 hf⟩
theorem Kp.more{α:Type} {fr:α->Bool} {V V2:List Nat} {L L1:List (Nat×α)} (h:Kp fr V L L1) (hv:∀ q,inN q V2=false->inN q V=false):Kp fr V2 L L1:=fun q v hq hl=>h q v (hv q hq) hl
theorem Kp.cons{α:Type} {fr:α->Bool} {V:List Nat} {L L':List (Nat×α)} {d:Nat} {v:α} (h:Kp fr V L L'):Kp fr (d :: V) L ((d,v) :: L'):=fun q u hq hl=>by
 obtain⟨h1,h2⟩:=zA hq;rw[zu,if_neg h1]at hl;exact h q u h2 hl
theorem Kp.append{α:Type} {fr:α->Bool} {V:List Nat} {L L':List (Nat×α)} (h:Kp fr V L L'):∀ {h2:List (Nat×α)} {ks:List Nat},h2.map (·.1)=ks->Kp fr (ks++V) L (h2++L')
 | [],_,rfl=>h
 | (k,v) :: r,_,rfl=>Kp.cons (V:=r.map (·.1)++V) (Kp.append h rfl)
theorem Kp.map{α:Type} {fr:α->Bool} {V:List Nat} {L L':List (Nat×α)} {f:α->α} (hf:∀ v,fr v=true->f v=v) (h:∀ q v,lk L' q=some v->∃ u,lk L q=some u/\v=f u):Kp fr V L L':=fun q v _ hl=>by
 obtain⟨u,h1,h2⟩:=h q v hl;exact⟨u,h1,fun hu=>by rw[h2,hf u hu]⟩
theorem Kp.less{α:Type} {fr:α->Bool} {V:List Nat} {L L':List (Nat×α)} (h:∀ q v,lk L' q=some v->lk L q=some v):Kp fr V L L':=fun q v _ hl=>⟨v,h q v hl,fun _=>rfl⟩
abbrev KL:=Kp SV.free
abbrev KH:=Kp Blk.free
theorem qf(id:Nat) (z:SC) (L:Sl) {V:List Nat}:KL V L (qb id z L):=Kp.map (f:=fun v=>v.sub id z) (fun _ h=>sv_sub_free h) fun _ _ h=>qF h
theorem kl_kill(js:List Nat) (L:Sl) {V:List Nat}:KL V L (killL js L):=Kp.map (f:=fun v=>v.kill js) (fun _ h=>sv_kill_free h) fun _ _ h=>lk_killL h
theorem kl_fzc(id:Nat) (g:GTy) (x:g.D) (L:Sl) {V:List Nat}:KL V L (fzcL id g x L):=Kp.map (f:=fun v=>v.fzc id g x) (fun _ h=>sv_fzc_free h) fun _ _ h=>lk_fzcL h
theorem qu(id:Nat) (z:SC) {V:List Nat}:∀ H:Hp,KH V H (zM id z H)
 | []=>Kp.refl []
 | (k,b) :: r=>fun q v hq hl=>by
  unfold zM at hl
  split at hl
  ·rename_i e
   have hk:=Nat.eq_of_beq_eq_true e;obtain⟨u,h1,h2⟩:=qu id z (V:=V) r q v hq hl;have hne:q≠k:=fun e'=>by
    subst e';rw[hk]at hl;exact lk_del_none hl
   exact⟨u,by rw[zu,if_neg hne]; exact h1,h2⟩
  ·rw[zu]at hl ⊢
   split at hl
   ·rename_i e
    cases hl;rw[if_pos e];exact⟨b,rfl,fun hf=>blk_sub_free hf⟩
   ·rename_i e
    rw[if_neg e];exact qu id z r q v hq hl
where lk_del_none {id:Nat} {z:SC} {v:Blk}:∀ {H:Hp},lk (zM id z H) id=some v->False
 | [],h=>by cases h
 | (k,b) :: r,h=>by
  unfold zM at h
  split at h
  ·exact lk_del_none h
  ·rename_i e
   rw[zu,if_neg (fun e'=>by rw[e',Nat.beq_refl]at e; cases e)]at h;exact lk_del_none h
theorem qm{id:Nat} {b:Blk} {V:List Nat} (hV:inN id V=true):∀ {H:Hp},KH V H (zX id b H)
 | []=>Kp.refl []
 | (k,b') :: r=>fun q v hq hl=>by
  have hne:q≠id:=fun e=>by rw[e,hV]at hq; cases hq
  unfold zX at hl
  split at hl
  ·rename_i e
   have hk:=Nat.eq_of_beq_eq_true e;rw[zu,if_neg (by rw[hk]; exact hne)]at hl;exact⟨v,by rw[zu,if_neg (by rw[hk]; exact hne)]; exact hl,fun _=>rfl⟩
  ·rw[zu]at hl ⊢
   split at hl
   ·rename_i e
    rw[if_pos e];exact⟨b',rfl,fun _=>by cases hl; rfl⟩
   ·rename_i e
    rw[if_neg e];exact qm hV q v hq hl

section
set_option linter.unusedSectionVars false
section
variable {B:Nat->Prop} {w:World} {T':TypeId} {g:GTy}
theorem FR.nilS:FR B w (.sl g) ([]:List g.D) [.slice none 0 0]:=⟨none,0,[],rfl,Nat.le_refl _,Nat.zero_le _,rfl,Reads.nil _ _ _,fun _ _ h=>absurd h (Nat.lt_irrefl 0)⟩
theorem TRs.hole:∀ {l:List (Bool×List g.D)} {ys:List Value} {I:List Rw} {i:Nat},TRs B w T' g l ys I->i < l.length ->
    ∃ v I',ys[i]?=some v/\TRs B w T' g (l.set i (false,[])) (ys.set i (.slice none 0 0)) I' /\
      (((l.getD i (false,[])).1=true/\∃ A k xs,v=.slice A (l.getD i (false,[])).2.length k/\Flat (FR B w g) (l.getD i (false,[])).2 xs/\I.Perm (⟨A,k,T',g.size,(l.getD i (false,[])).2.length,xs⟩ :: I')) \/
       ((l.getD i (false,[])).1=false/\I=I'/\FR B w (.sl g) (l.getD i (false,[])).2 [v]))
  | [],_,_,_,_,h=>by simp at h
  | (true,li) :: l,_,_,0,⟨v,v',e,A,k,xs,I',hv,hI,hf,ht⟩,_=>by
    subst e;exact⟨v,I',rfl,⟨_,v',rfl,FR.nilS,ht⟩,.inl ⟨rfl,A,k,xs,hv,hf,by rw[hI]; exact List.Perm.refl _⟩⟩
  | (false,li) :: l,_,I,0,⟨v,v',e,hf,ht⟩,_=>by
    subst e;exact⟨v,I,rfl,⟨_,v',rfl,FR.nilS,ht⟩,.inr ⟨rfl,rfl,hf⟩⟩
  | (true,li) :: l,_,_,i+1,⟨v,v',e,A,k,xs,I0,hv,hI,hf,ht⟩,h=>by
    subst e;obtain⟨u,I',h1,h2,h3⟩:=TRs.hole ht (Nat.lt_of_succ_lt_succ h);refine⟨u,_ :: I',h1,⟨v,_,rfl,A,k,xs,I',hv,rfl,hf,h2⟩,h3.imp (fun⟨f,A2,k2,xs2,e1,e2,e3⟩=>⟨f,A2,k2,xs2,e1,e2,?_⟩) fun⟨f,e1,e2⟩=>⟨f,?_,e2⟩⟩
    · rw[hI]
      exact(List.Perm.cons _ e3).trans (List.Perm.swap _ _ _)
    · rw[hI,e1]
  | (false,li) :: l,_,_,i+1,⟨v,v',e,hf,ht⟩,h=>by
    subst e;obtain⟨u,I',h1,h2,h3⟩:=TRs.hole ht (Nat.lt_of_succ_lt_succ h);exact⟨u,I',h1,⟨v,_,rfl,hf,h2⟩,h3⟩
theorem TRs.fill{l2:List g.D} {A:Option Addr} {k:Nat} {xs:List Value} (hf2:Flat (FR B w g) l2 xs):∀ {l:List (Bool×List g.D)} {ys:List Value} {I:List Rw} {i:Nat},TRs B w T' g (l.set i (false,[])) ys I->i < l.length ->
    ∃ I',I'.Perm (⟨A,k,T',g.size,l2.length,xs⟩ :: I)/\TRs B w T' g (l.set i (true,l2)) (ys.set i (.slice A l2.length k)) I'
  | [],_,_,_,_,h=>by simp at h
  | _ :: l,_,I,0,⟨v,v',e,_,ht⟩,_=>by
    subst e;exact⟨_,List.Perm.refl _,_,v',rfl,A,k,xs,I,rfl,rfl,hf2,ht⟩
  | (true,li) :: l,_,_,i+1,⟨v,v',e,A0,k0,xs0,I0,hv,hI,hf,ht⟩,h=>by
    subst e;obtain⟨I',h1,h2⟩:=TRs.fill hf2 (A:=A) (k:=k) ht (Nat.lt_of_succ_lt_succ h);refine⟨_ :: I',?_,v,_,rfl,A0,k0,xs0,I',hv,rfl,hf,h2⟩;rw[hI];exact(List.Perm.cons _ h1).trans (List.Perm.swap _ _ _)
  | (false,li) :: l,_,_,i+1,⟨v,v',e,hf,ht⟩,h=>by
    subst e;obtain⟨I',h1,h2⟩:=TRs.fill hf2 (A:=A) (k:=k) ht (Nat.lt_of_succ_lt_succ h);exact⟨I',h1,v,_,rfl,hf,h2⟩
theorem TRs.fillF{l2:List g.D} {u:Value} (hf2:FR B w (.sl g) l2 [u]):∀ {l:List (Bool×List g.D)} {ys:List Value} {I:List Rw} {i:Nat},TRs B w T' g (l.set i (false,[])) ys I->i < l.length ->
    TRs B w T' g (l.set i (false,l2)) (ys.set i u) I
  | [],_,_,_,_,h=>by simp at h
  | _ :: l,_,I,0,⟨v,v',e,_,ht⟩,_=>by
    subst e;exact⟨_,v',rfl,hf2,ht⟩
  | (true,li) :: l,_,_,i+1,⟨v,v',e,A0,k0,xs0,I0,hv,hI,hf,ht⟩,h=>by
    subst e;exact⟨v,_,rfl,A0,k0,xs0,I0,hv,hI,hf,TRs.fillF hf2 ht (Nat.lt_of_succ_lt_succ h)⟩
  | (false,li) :: l,_,_,i+1,⟨v,v',e,hf,ht⟩,h=>by
    subst e;exact⟨v,_,rfl,hf,TRs.fillF hf2 ht (Nat.lt_of_succ_lt_succ h)⟩
theorem TRs.map{l:List (List g.D)}:∀ {l:List (List g.D)} {ys:List Value},Flat (FR B w (.sl g)) l ys->TRs B w T' g (l.map fun x=>(false,x)) ys []
  | [],_,h=>⟨h,rfl⟩
  | x :: l,_,⟨v1,v2,e,h1,h2⟩=>by
    have hl:=FR.length h1
    match v1,hl with
    | [v],_=>exact⟨v,v2,e,h1,TRs.map (l:=l) h2⟩
theorem TRs.nils:∀ k:Nat,∃ I,TRs B w T' g (List.replicate k (true,[])) (List.replicate k (.slice none 0 0)) I/\∀ r∈I,r=⟨none,0,T',g.size,0,[]⟩
  | 0=>⟨[],⟨rfl,rfl⟩,fun _ h=>by cases h⟩
  | k+1=>by
    obtain⟨I,h1,h2⟩:=TRs.nils k;refine⟨_ :: I,⟨_,_,rfl,none,0,[],I,rfl,rfl,rfl,h1⟩,fun r hr=>?_⟩
    rcases List.mem_cons.1 hr with rfl | hr
    · rfl
    · exact h2 r hr
end
theorem lk_delH{id d:Nat} {z:SC} {b:Blk} (hne:id≠d):∀ {l:Hp},lk l id=some b->lk (zM d z l) id=some (b.sub d z)
  | [],h=>by cases h
  | (k,b') :: l,h=>by
    rw[zu]at h;unfold zM
    split at h
    · rename_i e
      subst e;cases h
      have:Nat.beq id d=false:=by
        cases hb:Nat.beq id d with
        | false=>rfl
        | true=>exact absurd (Nat.eq_of_beq_eq_true hb) hne
      rw[this,zu,if_pos rfl]
    · rename_i e
      split
      · exact lk_delH hne h
      · rw[zu,if_neg e]
        exact lk_delH hne h
section
variable {X:Cx} {R:Nat->Prop} {W:World} {Bi:Bk} {n:Nat} {ks:List Nat} {env:Nat->Loc} {B:Nat->Prop} {w0:World} {H:List Ck} {st:ASt} {a a':Act} {w:World} {d:Nat} {o:Oper}
theorem List.set_getElem?_self' {α:Type} {l:List α} {i:Nat} {v:α} (h:l[i]?=some v):l.set i v=l:=by
  obtain⟨hlt,rfl⟩:=List.getElem?_eq_some_iff.1 h;exact List.set_getElem_self hlt
theorem AI.rid(h:AI X R W Bi n ks env B w0 H st a w) (hd:Nat.blt d n=true) (l:Loc):∃ H2,H2.Sublist H/\AI X R W Bi n ks (upd env d l) B w0 H2 ⟨qb d .dead st.L,zM d .dead st.H⟩ a w:=by
  obtain⟨H2,h1,h2⟩:=h.heap.del (z:=.dead) (zC (env:=env) (id:=d) (l:=l)) (fun _ _=>trivial);refine⟨H2,h1,h.size,h.defs,fun s u hs=>?_,h2,h.sh.weak (h1.append_right _),h.sub,h.new,pin_upd h.pin (fun q hp=>by have h1:=(h.pin _ _ hp).1; have h2:=zk hd; omega),h.base,h.glob⟩;obtain⟨u0,hu0,rfl⟩:=qF hs;obtain⟨u',h3,h4⟩:=h.has s u0 hu0;exact⟨u',h3,VR.sub (z:=.dead) (zC (env:=env)) (fun _ _=>trivial) h4⟩
theorem SH.same{B:Nat->Prop} {w0 w:World} {H:List Ck} (h:SH B w0 H w) {c c':Ck} (hc:c∈H) (hc':c'∈H) {b:Nat} (hb:c.has b) (hb':c'.has b):c=c':=by
  have key:∀ {H:List Ck},H.Pairwise Ck.off->c∈H->c'∈H->c=c':=by
    intro H
    induction H with
    | nil=>intro _ h; cases h
    | cons x r ih=>
      intro hp h1 h2;obtain⟨h3,h4⟩:=List.pairwise_cons.1 hp
      rcases List.mem_cons.1 h1 with e1 | h5
      · rcases List.mem_cons.1 h2 with e2 | h6
        · rw[e1,e2]
        · subst e1; exact absurd hb' (h3 _ h6 b hb)
      · rcases List.mem_cons.1 h2 with e2 | h6
        · subst e2; exact absurd hb (h3 _ h5 b hb')
        · exact ih h4 h5 h6
  exact key h.apart hc hc'
theorem ne_of_beq_false{a b:Nat} (h:Nat.beq a b=false):a≠b:=fun e=>by subst e; rw[Nat.beq_refl]at h; cases h
def okHole:Option (Nat×Option Nat)->Nat->Bool
  | none,_=>true
  | some (j,_),i=>decide (j=i)
theorem TRs.atHole{T':TypeId} {g:GTy} {l:List (Bool×List g.D)} {ys ys':List Value} {I:List Rw} {h:Option (Nat×Option Nat)} {i:Nat} (ht:TRs B w T' g (unh l h) ys I) (hv:holeV env l.length ys ys' h) (ho:okHole h i=true) (hi:i < l.length) :
    ∃ zs I',TRs B w T' g (l.set i (false,[])) zs I'/\(∀ u,ys'.set i u=zs.set i u)/\ys'.length=l.length/\∃ J,I.Perm J/\I'.Sublist J:=by
  match h,ht,hv,ho with
  | none,ht,hv,_=>
    subst hv;obtain⟨v,I',h1,h2,h3⟩:=TRs.hole (show TRs B w T' g l ys' I from ht) hi;refine⟨_,I',h2,fun u=>by rw[List.set_set],TRs.length (show TRs B w T' g l ys' I from ht),?_⟩
    rcases h3 with⟨_,A,k,xs,_,_,hp⟩ | ⟨_,e,_⟩
    · exact⟨_,hp,List.sublist_cons_self _ _⟩
    · exact⟨I',by rw[e],List.Sublist.refl _⟩
  | some (j,od),ht,⟨_,v,h1,_⟩,ho=>
    have e:j=i:=of_decide_eq_true ho;subst e;have hl:=TRs.length (show TRs B w T' g (l.set j (false,[])) ys I from ht);rw[List.length_set]at hl;exact⟨ys,I,ht,fun u=>by rw[h1,List.set_set],by rw[h1,List.length_set,hl],I,List.Perm.refl _,List.Sublist.refl _⟩
theorem AI.putT(h:AI X R W Bi n ks env B w0 H st a w) {id:Nat} {b b':Blk} (hlk:lk st.H id=some b):∃ c X0 Y0,BR env B w0 id b c/\H=X0++c :: Y0/\∀ c' a' w',BR env B w0 id b' c'->SH (fun k=>R k\/B k) w0 (X0++c' :: (Y0++ks.map qW)) w'->St n (dfs ks Bi) (qL a) a'->AI X R W Bi n ks env B w0 (X0++c' :: Y0) ⟨st.L,zX id b' st.H⟩ a' w':=by
  obtain⟨c,K,h1,⟨X0,Y0,e1,rfl⟩,h3⟩:=h.heap.put hlk;refine⟨c,X0,Y0,h1,e1,fun c' a' w' hb hs hS=>⟨hS.size,hS.defs,fun s u hu=>?_,h3 b' c' hb,by rw[List.append_assoc,List.cons_append]; exact hs,h.sub,h.new,h.pin,h.base,h.glob⟩⟩;obtain⟨u',h4,h5⟩:=h.has s u hu;exact⟨u',hS.same h4,h5⟩
theorem SH.tree0{B:Nat->Prop} {w0 w:World} {H:List Ck} (h:SH B w0 H w):SH B w0 (.tree [] :: H) w:=
  ⟨h.below,h.base,fun c hc=>by
    rcases List.mem_cons.1 hc with rfl | hc
    · exact⟨(fun _ h=>by cases h),List.Pairwise.nil⟩
    · exact h.ok c hc,List.Pairwise.cons (fun c hc b hb=>by obtain⟨_,h,_⟩:=hb; cases h) h.apart⟩
theorem SH.tree1{B:Nat->Prop} {w0 w:World} {X Y:List Ck} {r:Rw} (h:SH B w0 (X++r.ck :: Y) w):SH B w0 (X++.tree [r] :: Y) w:=
  ((((h.perm xu).tree0).perm (List.Perm.swap _ _ _)).close0).perm xu.symm
theorem SH.treeN{B:Nat->Prop} {w0 w:World} {H:List Ck} {r:Rw}:∀ {I:List Rw},SH B w0 (.tree [r] :: H) w->(∀ s∈I,∃ e sz,s=⟨none,0,e,sz,0,[]⟩)->SH B w0 (.tree (r :: I) :: H) w
  | [],h,_=>h
  | s :: I,h,hI=>by
    obtain⟨e,sz,rfl⟩:=hI _ List.mem_cons_self;have ih:=SH.treeN (I:=I) h fun s hs=>hI s (List.mem_cons_of_mem _ hs)
    have h2:SH B w0 (.tree (⟨none,0,e,sz,0,[]⟩ :: r :: I) :: H) w:=(ih.nilRow e sz).close0;exact SH.subT (X:=[]) h2 ⟨_,List.Perm.swap _ _ _,List.Sublist.refl _⟩
theorem pk_loadT(hX:X.tt.ok X.P) {t T T':TypeId} {te:TE} {x:Operand} {id d2 i j:Nat} {g:GTy} {l:List (Bool×List g.D)} {cap:Option Nat} {g1:Bool} (hop:o.op=.load t x)
    (ht:X.tt.find t=some te) (hag:qt te.ti.desc=false) (hx:ae X st.L x=some (g1,.c (.elt id 1 i 0))) (hg1:g1=true) (hlk:lk st.H id=some (.mrow T T' g l cap (some (j,some d2)))) (hij:decide (i=j)=true):PureOk X st o (.c (.sl d2)):=by
  intro R W Bi n ks env B w0 H a w1 hA;have e:i=j:=of_decide_eq_true hij;subst e;obtain⟨vx,h1,b,c,m,he,rfl⟩:=hA.ev hx hg1;obtain⟨ck,K,⟨A,k,ys,ys',I,he',rfl,htr,⟨hi,v,hv,hd⟩,_⟩,hf⟩:=hA.heap.foc hlk;rw[he]at he';cases he';obtain⟨A',c',m',he2,rfl⟩:=hd d2 rfl;have hyl:=TRs.length (show TRs B w0 T' g (l.set i (false,[])) ys I from htr);rw[List.length_set]at hyl;refine⟨.slice A' m' c',⟨A',c',m',he2,rfl⟩,fun w hsh=>?_⟩;have hown:Owns w (fun k=>R k\/B k) T 1 (some ⟨b,0,none⟩) c l.length ys':=((hsh (by rw[hop]; rfl)).ok _ hf.more.mem).1 _ List.mem_cons_self;have hcell:w.cell? ⟨b,i * 1+0,none⟩=some (.slice A' m' c'):=by
    rw[hown.cells rfl _ (by omega),hv]
    simp[List.getElem?_set,hyl,hi]
  exact run_load1 hA.stt hop (TT.get hX ht).ti hag h1 hcell
theorem AI.storeT(hX:X.tt.ok X.P) (hA:AI X R W Bi n ks env B w0 H st a w) {t T T':TypeId} {te:TE} {x y:Operand} {id i b m' k':Nat} {g:GTy} {l:List (Bool×List g.D)} {cap:Option Nat} {h:Option (Nat×Option Nat)} {A2:Option Addr} (hop:o.op=.store t x y) (ho:o.guard=none/\o.dst=none)
    (ht:X.tt.find t=some te) (hsz:Nat.beq te.ti.size 1=true) (hx:Go.Proofs.YtldjgdggcodgeaaGreat.ev (qL a) x=some (.pointer (some ⟨b,i * 1+0,none⟩))) {c m:Nat} (he:env id=.row (some ⟨b,0,none⟩) c m) (hy:Go.Proofs.YtldjgdggcodgeaaGreat.ev (qL a) y=some (.slice A2 m' k'))
    (hlk:lk st.H id=some (.mrow T T' g l cap h)) (hh:okHole h i=true) (hi:i < l.length) {b':Blk} {lops:List Oper} {KK:Act->World->Prop}
    (hb:(∀ q,cap=some q->c=q)->∀ zs I,TRs B w0 T' g (l.set i (false,[])) zs I->BR env B w0 id b' (.tree (⟨some ⟨b,0,none⟩,c,T,1,l.length,zs.set i (.slice A2 m' k')⟩ :: I)))
    (hnext:∀ a' w' H',AI X R W Bi n ks env B w0 H' ⟨st.L,zX id b' st.H⟩ a' w'->KK a' w'):XO X.P lops.toArray o KK a w:=by
  obtain⟨ck,X0,Y0,⟨A,k,ys,ys',I,he',rfl,htr,hys,hcap⟩,hH,hput⟩:=hA.putT (b':=b') hlk;rw[he]at he';cases he';obtain⟨zs,I',htz,hset,hyl,hsub⟩:=TRs.atHole htr hys hh hi
  let r0:Rw:=⟨some ⟨b,0,none⟩,c,T,1,l.length,ys'⟩
  have hsh:=hA.sh;rw[hH,List.append_assoc,List.cons_append]at hsh;have hsh2:SH (fun k=>R k\/B k) w0 (X0++.tree (r0 :: I') :: (Y0++ks.map qW)) w:=by
    obtain⟨J,hp,hs⟩:=hsub;exact hsh.subT ⟨r0 :: J,List.Perm.cons _ hp,hs.cons_cons _⟩
  have hY:Sym n (dfs ks Bi) (qL a) (fun k=>R k\/B k) w0 (r0.ck :: (X0++.tree I' :: (Y0++ks.map qW))) a w:=⟨hA.stt,hsh2.openT⟩
  have hi':=(TT.get hX ht).ti;have hs1:=Nat.eq_of_beq_eq_true hsz;refine run_store_row (v:=.slice A2 m' k') hY hop ho hi' hx hy (by rw[hs1]; rfl) (by intro u hu; simp[Value.cells]at hu; subst hu; rfl) (foc0 (c:=r0.ck)) (by show i * 1+0+1<=l.length * 1; omega) fun a' w' hY'=>?_
  have e:ys'.take (i * 1+0)++(Value.slice A2 m' k').cells.toList++ys'.drop (i * 1+0+(Value.slice A2 m' k').cells.toList.length)=zs.set i (.slice A2 m' k'):=by
    rw[<- hset,List.set_eq_take_append_cons_drop,if_pos (by omega)]
    simp[Value.cells]
  have hs3:=hY'.sh;rw[e]at hs3;have hs4:=SH.closeT (r:=⟨some ⟨b,0,none⟩,c,T,1,l.length,zs.set i (.slice A2 m' k')⟩) hs3;exact hnext a' w' _ (hput _ a' w' (hb hcap zs I' htz) hs4 hY'.st)
theorem sk_storeT(hX:X.tt.ok X.P) {t T T':TypeId} {te:TE} {x y:Operand} {id d i:Nat} {g:GTy} {l:List (Bool×List g.D)} {cap:Option Nat} {h:Option (Nat×Option Nat)} {g1 g2:Bool} (hop:o.op=.store t x y) (ho:o.guard=none/\o.dst=none)
    (ht:X.tt.find t=some te) (hsz:Nat.beq te.ti.size 1=true) (hx:ae X st.L x=some (g1,.c (.elt id 1 i 0))) (hg1:g1=true) (hy:ae X st.L y=some (g2,.c (.sl d))) (hg2:g2=true) (hlk:lk st.H id=some (.mrow T T' g l cap h)) (hh:okHole h i=true)
    (hi:decide (i < l.length)=true):StepOk X n o st ⟨st.L,zX id (.mrow T T' g l cap (some (i,some d))) st.H⟩:=by
  intro R W Bi ks env B w0 H a w hA KK lops hnext;have hlt:=of_decide_eq_true hi;obtain⟨vx,h1,b,c,m,he,rfl⟩:=hA.ev hx hg1;obtain⟨vy,hvy,A2,c2,m2,he2,rfl⟩:=hA.ev hy hg2;have hm:m=l.length:=by
    obtain⟨ck,K,⟨A,k,ys,ys',I,he',_⟩,_⟩:=hA.heap.foc hlk;rw[he]at he';cases he'
    rfl
  subst hm;exact hA.storeT (b':=.mrow T T' g l cap (some (i,some d))) hX hop ho ht hsz h1 he hvy hlk hh hlt (fun hcap zs I hz=>⟨_,c,zs,_,I,he,rfl,hz,⟨hlt,_,rfl,fun d' hd'=>by cases hd'; exact⟨A2,c2,m2,he2,rfl⟩⟩,hcap⟩) fun a' w' H' hA'=>hnext a' w' env H' hA'
theorem sk_storeTF(hX:X.tt.ok X.P) {t T T':TypeId} {te:TE} {x y:Operand} {id i:Nat} {g:GTy} {l:List (Bool×List g.D)} {l2:List g.D} {cap cap2:Option Nat} {h:Option (Nat×Option Nat)} {g1 g2:Bool} (hop:o.op=.store t x y) (ho:o.guard=none/\o.dst=none)
    (ht:X.tt.find t=some te) (hsz:Nat.beq te.ti.size 1=true) (hx:ae X st.L x=some (g1,.c (.elt id 1 i 0))) (hg1:g1=true) (hy:ae X st.L y=some (g2,.c (.lst g l2 cap2))) (hg2:g2=true) (hlk:lk st.H id=some (.mrow T T' g l cap h)) (hh:okHole h i=true)
    (hi:decide (i < l.length)=true):StepOk X n o st ⟨st.L,zX id (.mrow T T' g (l.set i (false,l2)) cap none) st.H⟩:=by
  intro R W Bi ks env B w0 H a w hA KK lops hnext;have hlt:=of_decide_eq_true hi;obtain⟨vx,h1,b,c,m,he,rfl⟩:=hA.ev hx hg1;obtain⟨vy,hvy,A2,c2,xs2,rfl,q1,q2,q3,q4,q5⟩:=hA.ev hy hg2;have hm:m=l.length:=by
    obtain⟨ck,K,⟨A,k,ys,ys',I,he',_⟩,_⟩:=hA.heap.foc hlk;rw[he]at he';cases he'
    rfl
  subst hm;exact hA.storeT (b':=.mrow T T' g (l.set i (false,l2)) cap none) hX hop ho ht hsz h1 he hvy hlk hh hlt (fun hcap zs I hz=>⟨_,c,_,_,I,by rw[List.length_set]; exact he,by rw[List.length_set],TRs.fillF (u:=.slice A2 l2.length c2) ⟨A2,c2,xs2,rfl,q1,q2,q4,q5⟩ hz hlt,rfl,hcap⟩) fun a' w' H' hA'=>hnext a' w' env H' hA'
theorem wk_open{T T':TypeId} {id i:Nat} {g:GTy} {l:List (Bool×List g.D)} {cap:Option Nat} (hd:Nat.blt d n=true) (hlk:lk st.H id=some (.mrow T T' g l cap none)) (hne:Nat.beq d id=false)
    (hi:decide (i < l.length)=true) (hfl:(l.getD i (false,[])).1=true)
    : Wk X n st ⟨qb d .dead st.L,(d,.row T' g (l.getD i (false,[])).2 none) :: zX id (.mrow T T' g l cap (some (i,some d))) (zM d .dead st.H)⟩:=fun R W Bi M a w ⟨ks,env,B,w0,H,hM,hA⟩=>by
  have hlt:=of_decide_eq_true hi;have hdi:id≠d:=fun e=>ne_of_beq_false hne e.symm
  obtain⟨c0,K0,⟨A,k,ys,ys',I,he,rfl,htr,hys,hcap⟩,hfoc0⟩:=hA.heap.foc hlk;have hys2:ys'=ys:=hys;subst hys2;obtain⟨b,rfl⟩:=Owns.at ((hA.sh.ok _ hfoc0.more.mem).1 _ List.mem_cons_self) (by show 0 < l.length; omega);obtain⟨v,I',hv,htr',hor⟩:=TRs.hole (show TRs B w0 T' g l ys' I from htr) hlt
  rcases hor with⟨_,A2,k2,xs2,rfl,hf2,hperm⟩ | ⟨hff,_⟩
  · obtain⟨H2,hsub,hA2⟩:=hA.rid hd (.row A2 k2 (l.getD i (false,[])).2.length)
    obtain⟨c1,K1,hb1,⟨X0,Y0,hH2,rfl⟩,hput⟩:=hA2.heap.put (lk_delH (z:=.dead) hdi hlk);subst hH2;obtain⟨A1,k1,ys1,ys1',I1,he1,rfl,_⟩:=hb1;rw[zC id hdi,he]at he1;cases he1;have hsame:=hA.sh.same (c:=.tree (⟨some ⟨b,0,none⟩,k,T,1,l.length,ys1'⟩ :: I1)) (List.mem_append_left _ (hsub.subset (by simp))) hfoc0.more.mem (b:=b) ⟨_,List.mem_cons_self,rfl⟩ ⟨_,List.mem_cons_self,rfl⟩;simp only[Ck.tree.injEq,List.cons.injEq,Rw.mk.injEq,true_and,and_true]at hsame;obtain⟨rfl,rfl⟩:=hsame
    let p:Rw:=⟨A2,k2,T',g.size,(l.getD i (false,[])).2.length,xs2⟩
    let r0:Rw:=⟨some ⟨b,0,none⟩,k,T,1,l.length,ys1'⟩
    have hsh:=hA2.sh;rw[List.append_assoc,List.cons_append]at hsh;have hs2:SH (fun k=>R k\/B k) w0 (X0++.tree (p :: r0 :: I') :: (Y0++ks.map qW)) w:=hsh.subT ⟨p :: r0 :: I',(List.Perm.cons _ hperm).trans (List.Perm.swap _ _ _),List.Sublist.refl _⟩;have hs3:=hs2.openT;refine⟨ks,_,B,w0,p.ck :: (X0++.tree (r0 :: I') :: Y0),hM,hA2.size,hA2.defs,hA2.has,⟨_,_,rfl,⟨A2,k2,xs2,zf,rfl,hf2,fun _ h=>by cases h⟩,hput _ _ ⟨_,k,ys1'.set i (.slice none 0 0),ys1',I',by rw[zC id hdi]; exact he,rfl,htr',⟨hlt,.slice A2 (l.getD i (false,[])).2.length k2,?_,fun d' hd'=>by cases hd'; exact⟨A2,k2,_,zf,rfl⟩⟩,hcap⟩⟩,by rw[List.cons_append,List.append_assoc,List.cons_append]; exact hs3,hA2.sub,hA2.new,hA2.pin,hA2.base,hA2.glob⟩;rw[List.set_set];exact(List.set_getElem?_self' hv).symm
  · rw[hff]at hfl; cases hfl
theorem wk_close{T T':TypeId} {id i d:Nat} {g:GTy} {l:List (Bool×List g.D)} {l2:List g.D} {cap cap2:Option Nat} (hlk:lk st.H id=some (.mrow T T' g l cap (some (i,some d)))) (hlk2:lk st.H d=some (.row T' g l2 cap2)) (hne:Nat.beq d id=false) :
    Wk X n st ⟨qb d .dead st.L,zX id (.mrow T T' g (l.set i (true,l2)) cap none) (zM d .dead st.H)⟩:=fun R W Bi M a w ⟨ks,env,B,w0,H,hM,h⟩=>by
  have hdi:id≠d:=fun e=>ne_of_beq_false hne e.symm
  obtain⟨c0,K0,⟨A,k,ys,ys',I,he,rfl,htr,⟨hlt,v,hv,hvd⟩,hcap⟩,hfoc0⟩:=h.heap.foc hlk;obtain⟨c1,Y,Z,⟨A2,k2,xs2,he2,rfl,hf2,_⟩,hH,htake⟩:=h.heap.take hlk2;obtain⟨A',c',m',he3,rfl⟩:=hvd d rfl;rw[he2]at he3;cases he3;obtain⟨b,rfl⟩:=Owns.at ((h.sh.ok _ hfoc0.more.mem).1 _ List.mem_cons_self) (by show 0 < l.length; omega);obtain⟨H2,hsub,hHR,_⟩:=htake env .dead (fun _ _=>rfl) (fun _ _=>trivial);have hlk3:=lk_delH (z:=.dead) hdi hlk;rw[show(Blk.mrow T T' g l cap (some (i,some d))).sub d .dead=.mrow T T' g l cap (some (i,none)) by simp only[Blk.sub,Nat.beq_refl]]at hlk3;obtain⟨c3,K3,hb3,⟨X0,Y0,hH2,rfl⟩,hput⟩:=hHR.put hlk3;subst hH2;obtain⟨A3,k3,ys3,ys3',I3,he4,rfl,htr3,_⟩:=hb3;rw[he]at he4;cases he4;have hmem:Ck.tree (⟨some ⟨b,0,none⟩,k,T,1,l.length,ys3'⟩ :: I3)∈H:=by
    rw[hH]
    have:=hsub.subset (a:=Ck.tree (⟨some ⟨b,0,none⟩,k,T,1,l.length,ys3'⟩ :: I3)) (by simp)
    simp only[List.mem_append,List.mem_cons]at this ⊢;exact this.imp (fun h=>h) .inr
  have hsame:=h.sh.same (c:=.tree (⟨some ⟨b,0,none⟩,k,T,1,l.length,ys3'⟩ :: I3)) (List.mem_append_left _ hmem) hfoc0.more.mem (b:=b) ⟨_,List.mem_cons_self,rfl⟩ ⟨_,List.mem_cons_self,rfl⟩;simp only[Ck.tree.injEq,List.cons.injEq,Rw.mk.injEq,true_and,and_true]at hsame;obtain⟨rfl,rfl⟩:=hsame;obtain⟨I',hperm,htr'⟩:=TRs.fill hf2 (A:=A2) (k:=k2) (show TRs B w0 T' g (l.set i (false,[])) ys I3 from htr) hlt
  let p:Rw:=⟨A2,k2,T',g.size,l2.length,xs2⟩
  let r0:Rw:=⟨some ⟨b,0,none⟩,k,T,1,l.length,ys.set i (.slice A2 l2.length k2)⟩
  have hsh:=h.sh;rw[hH]at hsh;have hs1:SH (fun k=>R k\/B k) w0 (p.ck :: (X0++.tree (r0 :: I3) :: (Y0++ks.map qW))) w:=by
    have hp:(Y++p.ck :: Z++ks.map qW).Perm (p.ck :: (Y++Z++ks.map qW)):=by
      simp only[List.append_assoc,List.cons_append];exact List.perm_middle
    have:=(hsh.perm hp).weak (((hsub.append_right (ks.map qW))).cons_cons _)
    rw[List.append_assoc,List.cons_append,hv]at this;exact this
  have hs2:SH (fun k=>R k\/B k) w0 (X0++.tree (r0 :: I') :: (Y0++ks.map qW)) w:=hs1.closeT.subT ⟨_,(List.Perm.swap _ _ _).trans (List.Perm.cons _ hperm.symm),List.Sublist.refl _⟩;refine⟨ks,env,B,w0,X0++.tree (r0 :: I') :: Y0,hM,h.size,h.defs,fun s u hu=>?_,hput _ _ ⟨_,k,_,_,I',by rw[List.length_set]; exact he,by rw[List.length_set],htr',rfl,hcap⟩,by rw[List.append_assoc,List.cons_append]; exact hs2,h.sub,h.new,h.pin,h.base,h.glob⟩;obtain⟨u0,hu0,rfl⟩:=qF hu;obtain⟨u',h3,h4⟩:=h.has s u0 hu0;exact⟨u',h3,VR.sub (z:=.dead) (fun _ _=>rfl) (fun _ _=>trivial) h4⟩
theorem wk_toM{T:TypeId} (T':TypeId) {id:Nat} {g:GTy} {l:List (List g.D)} {cap:Option Nat} (hlk:lk st.H id=some (.row T (.sl g) l cap)) :
    Wk X n st ⟨st.L,zX id (.mrow T T' g (l.map fun x=>(false,x)) cap none) st.H⟩:=fun R W Bi M a w ⟨ks,env,B,w0,H,hM,h⟩=>by
  obtain⟨c0,X0,Y0,⟨A,k,xs,he,rfl,hf,hcap⟩,hH,hput⟩:=h.putT (b':=.mrow T T' g (l.map fun x=>(false,x)) cap none) hlk;have hsh:=h.sh;rw[hH,List.append_assoc,List.cons_append]at hsh;have hs:=SH.tree1 (r:=⟨A,k,T,1,l.length,xs⟩) hsh;exact⟨ks,env,B,w0,_,hM,hput (.tree [⟨A,k,T,1,l.length,xs⟩]) a w ⟨A,k,xs,xs,[],by rw[List.length_map]; exact he,by rw[List.length_map],TRs.map (l:=l) hf,rfl,hcap⟩ hs h.stt⟩
theorem Owns.reads{w:World} {B:Nat->Prop} {e:TypeId} {size c n:Nat} {A:Option Addr} {xs:List Value} (ho:Owns w B e size A c n xs):Reads w A n size xs:=by
  refine⟨ho.1,fun hn=>?_⟩;obtain⟨g,h1⟩:=ho.at hn;refine⟨g,0,h1,fun j u hu=>?_⟩;rw[Nat.zero_add,ho.cells h1 j (by have:=(List.getElem?_eq_some_iff.1 hu).1; rw[ho.1]at this; exact this)];exact hu
theorem TRs.flat{B B':Nat->Prop} {w:World} {T':TypeId} {g:GTy}:∀ {l:List (Bool×List g.D)} {ys:List Value} {I:List Rw},TRs B' w T' g l ys I->(∀ r∈I,r.ok B w/\∀ b,r.has b->B' b)->Flat (FR B' w (.sl g)) (l.map (·.2)) ys
  | [],_,_,⟨e,_⟩,_=>e
  | (true,li) :: l,_,_,⟨v,v',e,A,k,xs,I',hv,hI,hf,ht⟩,hok=>by
    subst hI;obtain⟨h1,h2⟩:=hok _ List.mem_cons_self;have ho:Owns w B T' g.size A k li.length xs:=h1;exact⟨[v],v',e,⟨A,k,xs,by rw[hv],ho.le.1,ho.le.2,hf,ho.reads,fun b p _ e=>h2 b (by show A.map _=_; rw[e]; rfl)⟩,TRs.flat ht fun r hr=>hok r (List.mem_cons_of_mem _ hr)⟩
  | (false,li) :: l,_,_,⟨v,v',e,hf,ht⟩,hok=>⟨[v],v',e,hf,TRs.flat ht hok⟩
theorem wk_frzT{T T':TypeId} {id:Nat} {g:GTy} {l:List (Bool×List g.D)} {cap:Option Nat} (hlk:lk st.H id=some (.mrow T T' g l cap none)) :
    Wk X n st ⟨qb id (.lst (.sl g) (l.map (·.2)) cap) st.L,zM id (.lst (.sl g) (l.map (·.2)) cap) st.H⟩:=fun R W Bi M a w ⟨ks,env,B,w0,H,hM,h⟩=>by
  obtain⟨c0,K0,hb0,hfoc0⟩:=h.heap.foc hlk;have hm0:=(hfoc0.more (H2:=ks.map qW)).mem;have hup:Up B w0 (fun q=>B q\/c0.has q) w:=⟨fun q hq=>.inl hq,fun q hq=>h.sh.below.block q (.inr hq)⟩
  obtain⟨c,Y,Z,hb,h2,h3⟩:=(h.heap.up hup).take hlk;have hmem:c∈H++ks.map qW:=by rw[h2]; simp
  have hcc:c=c0:=by
    obtain⟨A,k,ys,ys',I,he,e1,htr,hys,_⟩:=hb0;obtain⟨A1,k1,ys1,ys1',I1,he1,e2,htr1,hys1,_⟩:=hb;rw[he]at he1;cases he1
    match hA:A with
    | some p=>
      subst e1;subst e2;exact h.sh.same hmem hm0 (b:=p.block) ⟨_,List.mem_cons_self,rfl⟩ ⟨_,List.mem_cons_self,rfl⟩
    | none=>
      have hown:Owns w (fun k=>R k\/B k) T 1 none k l.length ys':=by
        subst e1;exact(h.sh.ok _ hm0).1 _ List.mem_cons_self
      have hl:l.length=0:=by
        by_cases hl:l.length=0
        · exact hl
        · obtain⟨b,hb⟩:=hown.at (by omega)
          cases hb
      have hl':l=[]:=List.length_eq_zero_iff.1 hl;subst hl';have a1:ys'=ys:=hys;have a2:ys1'=ys1:=hys1;obtain⟨a3,a4⟩:=(show TRs B w0 T' g [] ys I from htr)
      obtain⟨a5,a6⟩:=(show TRs _ w T' g [] ys1 I1 from htr1)
      subst a1 a2 a3 a4 a5 a6;rw[e1,e2]
  subst hcc;obtain⟨A,k,ys,ys',I,he,rfl,htr,hys,hcap⟩:=hb;have hys2:ys'=ys:=hys;subst hys2;have hokt:=h.sh.ok _ hmem;have hown:Owns w (fun k=>R k\/B k) T 1 A k l.length ys':=hokt.1 _ List.mem_cons_self;have hnew:∀ q,Ck.has (.tree (⟨A,k,T,1,l.length,ys'⟩ :: I)) q->¬ (R q\/B q)/\q < w.heap.size:=fun q hq=>hokt.lt hq
  have hfl:=TRs.flat (B:=fun k=>R k\/B k) (show TRs _ w T' g l ys' I from htr) fun r hr=>⟨hokt.1 r (List.mem_cons_of_mem _ hr),fun b hb=>.inr ⟨r,List.mem_cons_of_mem _ hr,hb⟩⟩
  have hcr:∀ v,CR env (fun q=>B q\/Ck.has (.tree (⟨A,k,T,1,l.length,ys'⟩ :: I)) q) w (.sl id) v->CR env (fun q=>B q\/Ck.has (.tree (⟨A,k,T,1,l.length,ys'⟩ :: I)) q) w (.lst (.sl g) (l.map (·.2)) cap) v:=by
    rintro v ⟨A',c',m,he',rfl⟩;rw[he]at he';cases he';exact⟨A,k,ys',by rw[List.length_map],by rw[List.length_map]; exact hown.le.1,hown.le.2,hcap,hfl,by rw[List.length_map]; exact⟨hown.reads,fun b p _ e=>.inr ⟨_,List.mem_cons_self,by show A.map _=_; rw[e]; rfl⟩⟩⟩
  obtain⟨H2,h4,h5,_⟩:=h3 env (.lst (.sl g) (l.map (·.2)) cap) (fun _ _=>rfl) hcr;have hpart:=h.sh.apart;rw[h2,List.append_assoc,List.cons_append]at hpart;refine⟨ks,env,_,w,H2,hM,h.size,h.defs,fun s u hu=>?_,h5,?_,fun q hq=>.inl (h.sub q hq),fun q hq=>?_,h.pin,h.base.trans ⟨h.sh.below.os,h.sh.below.tape,h.sh.below.output,h.sh.below.size,fun q hq=>h.sh.below.block q (.inl hq)⟩,fun i x hx=>(h.glob i x hx).up hup⟩
  · obtain⟨u0,hu0,rfl⟩:=qF hu
    obtain⟨u',h6,h7⟩:=h.has s u0 hu0;exact⟨u',h6,VR.sub (fun _ _=>rfl) hcr (h7.up hup)⟩
  · have hs:SH (fun k=>R k\/B k) w0 (H2++ks.map qW) w:=by
      have h6:=h.sh;rw[h2]at h6;have hp:(Y++Ck.tree (⟨A,k,T,1,l.length,ys'⟩ :: I) :: Z++ks.map qW).Perm (Ck.tree (⟨A,k,T,1,l.length,ys'⟩ :: I) :: (Y++Z++ks.map qW)):=by
        simp only[List.append_assoc,List.cons_append];exact List.perm_middle
      exact(h6.perm hp).weak (((h4.append_right _)).cons _)
    refine⟨KO.refl _ _,fun q hq=>?_,fun c hc=>(hs.ok c hc).base fun b hb hB=>?_,hs.apart⟩
    · rcases hq with hq | hq | hq
      · exact h.sh.base q (.inl hq)
      · exact h.sh.base q (.inr hq)
      · exact(hnew q hq).2
    · rcases hB with hB | hB | hB
      · exact((hs.ok c hc).lt hb).1 (.inl hB)
      · exact((hs.ok c hc).lt hb).1 (.inr hB)
      · have hcm:c∈Y++(Z++ks.map qW):=by
          rcases List.mem_append.1 hc with hc | hc
          · have:=h4.subset hc
            rcases List.mem_append.1 this with h7 | h7
            · exact List.mem_append_left _ h7
            · exact List.mem_append_right _ (List.mem_append_left _ h7)
          · exact List.mem_append_right _ (List.mem_append_right _ hc)
        rw[List.pairwise_append,List.pairwise_cons]at hpart;obtain⟨_,⟨h8,_⟩,h9⟩:=hpart
        rcases List.mem_append.1 hcm with h7 | h7
        · exact h9 c h7 _ List.mem_cons_self b hb hB
        · exact h8 c h7 b hB hb
  · rcases hq with hq | hq
    · exact(h.new q hq).imp_right fun h'=>⟨h'.1,h'.2.keep (h.sh.below.block q (.inr hq))⟩
    · exact .inr ⟨fun hR=>(hnew q hq).1 (.inl hR),hokt.cells rfl hq⟩
theorem wk_fzT{T T':TypeId} {id:Nat} {g:GTy} {l:List (Bool×List g.D)} {cap:Option Nat} (hlk:lk st.H id=some (.mrow T T' g l cap none)) :
    Wk X n st ⟨st.L,zX id (.row T (.sl g) (l.map (·.2)) cap) st.H⟩:=fun R W Bi M a w ⟨ks,env,B,w0,H,hM,h⟩=>by
  obtain⟨c0,K0,hb0,hfoc0⟩:=h.heap.foc hlk;have hm0:=(hfoc0.more (H2:=ks.map qW)).mem;obtain⟨A,k,ys,ys',I,he,rfl,htr,hys,hcap⟩:=hb0;have hys2:ys'=ys:=hys;subst hys2
  let r0:Rw:=⟨A,k,T,1,l.length,ys'⟩
  have hup:Up B w0 (fun q=>B q\/Ck.has (.tree I) q) w:=⟨fun q hq=>.inl hq,fun q hq=>h.sh.below.block q (.inr hq)⟩
  obtain⟨c,K,hb,⟨X0,Y0,hH,rfl⟩,hput⟩:=(h.heap.up hup).put hlk;have hmem:c∈H++ks.map qW:=by rw[hH]; simp
  have hcc:c=.tree (⟨A,k,T,1,l.length,ys'⟩ :: I):=by
    obtain⟨A1,k1,ys1,ys1',I1,he1,e2,htr1,hys1,_⟩:=hb;rw[he]at he1;cases he1
    match hA:A with
    | some p=>
      subst e2;exact h.sh.same hmem hm0 (b:=p.block) ⟨_,List.mem_cons_self,rfl⟩ ⟨_,List.mem_cons_self,rfl⟩
    | none=>
      have hown:Owns w (fun k=>R k\/B k) T 1 none k l.length ys':=(h.sh.ok _ hm0).1 _ List.mem_cons_self;have hl:l.length=0:=by
        by_cases hl:l.length=0
        · exact hl
        · obtain⟨b,hb⟩:=hown.at (by omega)
          cases hb
      have hl':l=[]:=List.length_eq_zero_iff.1 hl;subst hl';have a2:ys1'=ys1:=hys1;obtain⟨a3,a4⟩:=(show TRs B w0 T' g [] ys' I from htr)
      obtain⟨a5,a6⟩:=(show TRs _ w T' g [] ys1 I1 from htr1)
      subst a2 a3 a4 a5 a6;rw[e2]
  subst hcc;have hokt:=h.sh.ok _ hmem;have hnew:∀ q,Ck.has (.tree I) q->¬ (R q\/B q)/\q < w.heap.size:=fun q ⟨r,hr,hq⟩=>hokt.lt ⟨r,List.mem_cons_of_mem _ hr,hq⟩
  have hfl:=TRs.flat (B:=fun k=>R k\/B k) (B':=fun q=>B q\/Ck.has (.tree I) q) (w:=w) ((TRs.up hup (show TRs B w0 T' g l ys' I from htr))) fun r hr=>⟨hokt.1 r (List.mem_cons_of_mem _ hr),fun b hb=>.inr ⟨r,hr,hb⟩⟩
  have hsh:=h.sh;rw[hH,List.append_assoc,List.cons_append]at hsh;have hs1:SH (fun k=>R k\/B k) w0 (.tree I :: (X0++r0.ck :: (Y0++ks.map qW))) w:=by
    refine(hsh.openT (r:=r0)).perm ?_;refine(List.Perm.cons _ xu).trans ((List.Perm.swap _ _ _).trans (List.Perm.cons _ xu.symm))
  have hh:=hput (.row T (.sl g) (l.map (·.2)) cap) r0.ck ⟨A,k,ys',by rw[List.length_map]; exact he,by rw[List.length_map]; rfl,hfl,hcap⟩;refine⟨ks,env,_,w,X0++r0.ck :: Y0,hM,h.size,h.defs,fun s u hu=>?_,hh,?_,fun q hq=>.inl (h.sub q hq),fun q hq=>?_,h.pin,h.base.trans ⟨h.sh.below.os,h.sh.below.tape,h.sh.below.output,h.sh.below.size,fun q hq=>h.sh.below.block q (.inl hq)⟩,fun i x hx=>(h.glob i x hx).up hup⟩
  · obtain⟨u',h6,h7⟩:=h.has s u hu
    exact⟨u',h6,h7.up hup⟩
  · rw[List.append_assoc,List.cons_append]
    refine⟨KO.refl _ _,fun q hq=>?_,fun c hc=>(hs1.ok c (List.mem_cons_of_mem _ hc)).base fun b hb hB=>?_,(List.pairwise_cons.1 hs1.apart).2⟩
    · rcases hq with hq | hq | hq
      · exact h.sh.base q (.inl hq)
      · exact h.sh.base q (.inr hq)
      · exact(hnew q hq).2
    · rcases hB with hB | hB | hB
      · exact((hs1.ok c (List.mem_cons_of_mem _ hc)).lt hb).1 (.inl hB)
      · exact((hs1.ok c (List.mem_cons_of_mem _ hc)).lt hb).1 (.inr hB)
      · exact(List.pairwise_cons.1 hs1.apart).1 c hc b hB hb
  · rcases hq with hq | hq
    · exact(h.new q hq).imp_right fun h'=>⟨h'.1,h'.2.keep (h.sh.below.block q (.inr hq))⟩
    · exact .inr ⟨fun hR=>(hnew q hq).1 (.inl hR),by
        obtain⟨r,hr,hb⟩:=hq;exact hokt.cells rfl ⟨r,List.mem_cons_of_mem _ hr,hb⟩⟩
end
inductive Ti where
  | close (id d:Nat)
  | toM (id:Nat) (T':TypeId)
  | frz (id:Nat)
  | fz (id:Nat)
  | op (id s d:Nat)
  | opw (id s d:Nat) (k:IntKind) (c:Int)
  | mv (i j:Nat)
def Ti.touch:Ti->List Nat
  | .close id d=>[id,d]
  | .toM id _=>[id]
  | .frz _=>[]
  | .fz id=>[id]
  | .op id _ d=>[id,d]
  | .opw id _ d _ _=>[id,d]
  | .mv i j=>[i,j]
def topen(n:Nat) (st:ASt) (id d i:Nat):Option (Bool×ASt):=match Nat.blt d n,lk st.H id,Nat.beq d id with
  | true,some (.mrow T T' g l cap none),false=>some (decide (i < l.length)&&(l.getD i (false,[])).1,⟨qb d .dead st.L,(d,.row T' g (l.getD i (false,[])).2 none) :: zX id (.mrow T T' g l cap (some (i,some d))) (zM d .dead st.H)⟩)
  | _,_,_=>none
def tword(n:Nat) (st:ASt):Ti->Option (Bool×ASt)
  | .close id d=>match lk st.H id,lk st.H d,Nat.beq d id with
    | some (.mrow T T' g l cap (some (i,some d'))),some (.row T2 g2 l2 _),false=>match Nat.beq d' d,Nat.beq T2 T',decEq g2 g with
      | true,true,isTrue h=>some (true,⟨qb d .dead st.L,zX id (.mrow T T' g (l.set i (true,castL h l2)) cap none) (zM d .dead st.H)⟩)
      | _,_,_=>none
    | _,_,_=>none
  | .toM id T'=>match lk st.H id with
    | some (.row T (.sl g) l cap)=>some (true,⟨st.L,zX id (.mrow T T' g (l.map fun x=>(false,x)) cap none) st.H⟩)
    | _=>none
  | .frz id=>match lk st.H id with
    | some (.mrow _ _ g l cap none)=>some (true,⟨qb id (.lst (.sl g) (l.map (·.2)) cap) st.L,zM id (.lst (.sl g) (l.map (·.2)) cap) st.H⟩)
    | _=>none
  | .fz id=>match lk st.H id with
    | some (.mrow T _ g l cap none)=>some (true,⟨st.L,zX id (.row T (.sl g) (l.map (·.2)) cap) st.H⟩)
    | _=>none
  | .op id s d=>match lk st.L s with
    | some (.a (.c (.val (.int _ z))))=>topen n st id d z.toNat
    | _=>none
  | .opw id s d k c=>match lk st.L s with
    | some (.a (.c (.val (.int _ z))))=>topen n st id d (k.wrap (z - c)).toNat
    | _=>none
  | .mv i j=>match Nat.blt j n with
    | true=>some (true,⟨reL (mvId i j) st.L,reH (mvId i j) st.H⟩)
    | false=>none
section
variable {X:Cx} {n:Nat} {st st':ASt} {d:Nat} {o:Oper}
theorem topen_ok{id i:Nat} {c:Bool} (h:topen n st id d i=some (c,st')) (hc:c=true):Wk X n st st':=by
  unfold topen at h
  split at h
  · rename_i h1 h2 h3
    cases h;simp only[Bool.and_eq_true]at hc;exact wk_open h1 h2 h3 hc.1 hc.2
  · cases h
theorem wk_mv{i j:Nat} (hj:Nat.blt j n=true):Wk X n st ⟨reL (mvId i j) st.L,reH (mvId i j) st.H⟩:=fun _ _ _ _ _ _ ⟨ks,env,B,w0,H,hM,hA⟩=>by
  obtain⟨H',h1,h2⟩:=HR.re (mvId_ok (i:=i) (j:=j)) hA.heap;refine⟨ks,upd env j (env i),B,w0,H',hM,hA.size,hA.defs,fun s sv hs=>?_,h2,hA.sh.weak (h1.append_right _),hA.sub,hA.new,pin_upd hA.pin (fun q hp=>by have h1:=(hA.pin _ _ hp).1; have h2:=zk hj; omega),hA.base,hA.glob⟩;obtain⟨u,h3,rfl⟩:=lk_reL hs;obtain⟨v,h4,h5⟩:=hA.has s u h3;exact⟨v,h4,VR.re mvId_ok h5⟩
theorem tword_ok{x:Ti} {c:Bool} (h:tword n st x=some (c,st')) (hc:c=true):Wk X n st st':=by
  unfold tword at h
  split at h
  · split at h
    · rename_i h1 h2 h3
      split at h
      · rename_i hg e1 e2 _
        cases h;subst hg;have q1:=Nat.eq_of_beq_eq_true e1;have q2:=Nat.eq_of_beq_eq_true e2;subst q1;subst q2;exact wk_close h1 h2 h3
      · cases h
    · cases h
  · split at h
    · rename_i h1
      cases h;exact wk_toM _ h1
    · cases h
  · split at h
    · rename_i h1
      cases h;exact wk_frzT h1
    · cases h
  · split at h
    · rename_i h1
      cases h;exact wk_fzT h1
    · cases h
  · split at h
    · exact topen_ok h hc
    · cases h
  · split at h
    · exact topen_ok h hc
    · cases h
  · split at h
    · rename_i hj
      cases h;exact wk_mv hj
    · cases h
end
end

inductive Wi where
 | frz (id:Nat)
 | frzC (id:Nat) (g:GTy)
 | nil (s id:Nat) (t:TypeId) (g:GTy)
 | nilC (k p id:Nat) (t:TypeId) (g:GTy)
 | frzL (id:Nat)
 | row2l (id:Nat)
 | lfull (s id:Nat) (t:TypeId)
 | lfullC (k p id:Nat) (t:TypeId)
 | arr (s:Nat) (g:GTy) (m:Nat)
 | frzA (s:Nat)
 | pick (ks hs:List Nat)
 | conv (s:Nat) (x:VS)
 | rowcap (id:Nat)
 | data (s:Nat) (g:GTy)
 | dataB (id:Nat) (g:GTy)
 | t (x:Ti)
def wki(n:Nat):Wi->ASt->Option (Bool×ASt)
 | .frz id,st=>match Go.Proofs.YtldjgdggcodgeaaGreat.frz id st with
  | some st'=>some (true,st')
  | none=>none
 | .frzC id g,st=>match lk st.H id with
  | some (.cells _ cs)=>match dec g cs with
   | some (c,x,[])=>some (c,⟨fzcL id g x st.L,fzcH id g x st.H⟩)
   | _=>none
  | _=>none
 | .nil s id t g,st=>match Nat.blt id n,lk st.L s with
  | true,some (.a (.c (.val v)))=>match isNil v with
   | true=>some (true,⟨(s,.c (.sl id)) :: qb id .dead st.L,(id,.row t g [] none) :: zM id .dead st.H⟩)
   | false=>none
  | _,_=>none
 | .nilC k p id t g,st=>match Nat.blt id n with
  | true=>some (true,⟨qb id .dead st.L,(id,.row t g [] none) :: nilH k p id (zM id .dead st.H)⟩)
  | false=>none
 | .frzL id,st=>match Go.Proofs.YtldjgdggcodgeaaGreat.frzL id st with
  | some st'=>some (true,st')
  | none=>none
 | .row2l id,st=>match lk st.H id with
  | some (.row t g l _)=>some (true,⟨st.L,zX id (.lrow t g l) st.H⟩)
  | _=>none
 | .lfull s id t,st=>match Nat.blt id n,lk st.L s with
  | true,some (.a (.c (.lst g l (some c))))=>some (Nat.beq c l.length,⟨(s,.c (.sl id)) :: qb id .dead st.L,(id,.lrow t g l) :: zM id .dead st.H⟩)
  | _,_=>none
 | .lfullC k p id t,st=>match Nat.blt id n,Nat.beq k id,lk st.H k with
  | true,false,some (.cells _ cs)=>match cs[p]? with
   | some (.lst g l (some c))=>some (Nat.beq c l.length,⟨qb id .dead st.L,(id,.lrow t g l) :: setCl k p (.sl id) (zM id .dead st.H)⟩)
   | _=>none
  | _,_,_=>none
 | .arr s g m,st=>match Nat.blt s n,lk st.L s,lk st.H s with
  | true,some (.a (.c (.ptr q 0))),some (.cells t cs)=>match Nat.beq q s,Nat.ble m 140737488355328,decs g m cs with
   | true,true,some (c,l,[])=>some (c,⟨(s,.c (.elt s g.size 0 0)) :: qb s .dead st.L,(s,.row t g l (some m)) :: zM s .dead st.H⟩)
   | _,_,_=>none
  | _,_,_=>none
 | .frzA s,st=>match lk st.L s with
  | some (.a (.c (.elt id _ 0 0)))=>match lk st.H id with
   | some (.row _ g l _)=>some (true,⟨(s,.c (.par g l)) :: qb id .dead st.L,zM id .dead st.H⟩)
   | _=>none
  | _=>none
 | .pick ks hs,st=>match pickL st.L ks,pickH st.H hs with
  | some L',some H'=>some (true,⟨L',H'⟩)
  | _,_=>none
 | .conv s x,st=>match lk st.L s with
  | some sv=>match x.get (T:=[]) sv ()with
   | some u=>some (true,⟨(s,(x.S u).1) :: st.L,st.H⟩)
   | none=>none
  | none=>none
 | .rowcap id,st=>some (true,⟨st.L,nocapH id st.H⟩)
 | .data s g,st=>match lk st.L s with
  | some (.a (.agg cs))=>match dec g cs with
   | some (c,x,[])=>match qS g x 0 g.size with
    | some cs'=>some (c,⟨(s,.a (.agg cs')) :: st.L,st.H⟩)
    | none=>none
   | _=>none
  | _=>none
 | .dataB id g,st=>match lk st.H id with
  | some (.cells t cs)=>match dec g cs with
   | some (c,x,[])=>match qS g x 0 g.size with
    | some cs'=>some (c,⟨st.L,zX id (.cells t cs') st.H⟩)
    | none=>none
   | _=>none
  | _=>none
 | .t x,st=>tword n st x
theorem wki_ok{X:Cx} {n:Nat} {x:Wi} {st st':ASt} {c:Bool} (h:wki n x st=some (c,st')) (hc:c=true):Wk X n st st':=by
 unfold wki at h
 split at h
 ·split at h
  ·rename_i e; cases h; exact Wk.frz e
  ·cases h
 ·split at h
  ·rename_i e
   split at h
   ·rename_i e2; cases h; exact Wk.frzC _ _ e e2 hc
   ·cases h
  ·cases h
 ·split at h
  ·rename_i e e2
   split at h
   ·rename_i e3
    cases h;rw[isNil_ok e3]at e2;exact Wk.nil _ _ _ _ e e2
   ·cases h
  ·cases h
 ·split at h
  ·rename_i e; cases h; exact Wk.nilC _ _ _ _ _ e
  ·cases h
 ·split at h
  ·rename_i e; cases h; exact Wk.frzL e
  ·cases h
 ·split at h
  ·rename_i e; cases h; exact Wk.row2l _ e
  ·cases h
 ·split at h
  ·rename_i e1 e2
   cases h;exact Wk.lfull _ _ _ e1 e2 (Nat.eq_of_beq_eq_true hc)
  ·cases h
 ·split at h
  ·rename_i e1 e2 e3
   split at h
   ·rename_i e4
    cases h;exact Wk.lfullC _ _ _ _ e1 e2 e3 e4 (Nat.eq_of_beq_eq_true hc)
   ·cases h
  ·cases h
 ·split at h
  ·rename_i e1 e2 e3
   split at h
   ·rename_i e4 e5 e6
    cases h;rw[Nat.eq_of_beq_eq_true e4]at e2;exact Wk.arr _ _ _ _ e1 e2 e3 e6 hc (Nat.le_of_ble_eq_true e5)
   ·cases h
  ·cases h
 ·split at h
  ·rename_i e1
   split at h
   ·rename_i e2
    cases h;exact Wk.frzA _ e1 e2
   ·cases h
  ·cases h
 ·split at h
  ·rename_i e1 e2; cases h; exact Wk.pick _ _ e1 e2
  ·cases h
 ·split at h
  ·rename_i e1
   split at h
   ·rename_i e2
    cases h;exact Wk.conv _ e1 (VS.get_ok e2).2
   ·cases h
  ·cases h
 ·cases h
  exact Wk.rowcap _ rfl
 ·split at h
  ·rename_i e1
   split at h
   ·rename_i e2
    split at h
    ·rename_i e3
     cases h;exact Wk.data _ _ e1 e2 hc e3
    ·cases h
   ·cases h
  ·cases h
 ·split at h
  ·rename_i e1
   split at h
   ·rename_i e2
    split at h
    ·rename_i e3
     cases h;exact Wk.dataB _ _ e1 e2 hc e3
    ·cases h
   ·cases h
  ·cases h
 ·exact tword_ok h hc
def Wi.touch:Wi->List Nat
 | .nil s id _ _=>[s,id]
 | .nilC k _ id _ _=>[k,id]
 | .row2l id=>[id]
 | .lfull s id _=>[s,id]
 | .lfullC k _ id _=>[k,id]
 | .arr s _ _=>[s]
 | .frzA s=>[s]
 | .conv s _=>[s]
 | .rowcap id=>[id]
 | .data s _=>[s]
 | .dataB id _=>[id]
 | .t x=>x.touch
 | _=>[]
theorem beq_false_of_ne'{a b:Nat} (h:a≠b):Nat.beq b a=false:=by
 cases e:Nat.beq b a with
 | false=>rfl
 | true=>exact absurd (Nat.eq_of_beq_eq_true e).symm h
theorem in1(a:Nat) (r:List Nat):inN a (a :: r)=true:=by
 unfold inN;rw[Nat.beq_refl]
theorem kh_fzc{id:Nat} {g:GTy} {x:g.D} {V:List Nat}:∀ H:Hp,KH V H (fzcH id g x H)
 | []=>Kp.refl []
 | (k,b) :: r=>fun q v hq hl=>by
  unfold fzcH at hl
  split at hl
  ·rename_i e
   have hk:=Nat.eq_of_beq_eq_true e;obtain⟨u,h1,h2⟩:=kh_fzc r q v hq hl
   by_cases hne:q=k
   ·subst hne
    subst hk;exact(fzc_none hl).elim
   ·exact⟨u,by rw[zu,if_neg hne]; exact h1,h2⟩
  ·rw[zu]at hl ⊢
   split at hl
   ·rename_i e
    cases hl;rw[if_pos e];exact⟨b,rfl,fun hf=>blk_fzc_free hf⟩
   ·rename_i e
    rw[if_neg e];exact kh_fzc r q v hq hl
where fzc_none {id:Nat} {g:GTy} {x:g.D} {v:Blk}:∀ {H:Hp},lk (fzcH id g x H) id=some v->False
 | [],h=>by cases h
 | (k,b) :: r,h=>by
  unfold fzcH at h
  split at h
  ·exact fzc_none h
  ·rename_i e
   rw[zu,if_neg (fun e'=>by rw[e',Nat.beq_refl]at e; cases e)]at h;exact fzc_none h
theorem kh_nil{k p id:Nat} {V:List Nat} (hV:inN k V=true):∀ H:Hp,KH V H (nilH k p id H)
 | []=>Kp.refl []
 | (j,b) :: r=>fun q v hq hl=>by
  have hne:q≠k:=fun e=>by rw[e,hV]at hq; cases hq
  unfold nilH at hl
  split at hl
  ·cases hl
  ·rename_i e0
   cases e0
   split at hl
   ·rename_i e
    have hk:=Nat.eq_of_beq_eq_true e;subst hk;rw[zu,if_neg hne]at hl;exact⟨v,by rw[zu,if_neg hne]; exact hl,fun _=>rfl⟩
   ·rw[zu]at hl ⊢
    split at hl
    ·rename_i e
     rw[if_pos e];exact⟨_,rfl,fun _=>by cases hl; rfl⟩
    ·rename_i e
     rw[if_neg e];exact kh_nil hV r q v hq hl
  ·rename_i e0
   cases e0;rw[zu]at hl ⊢
   split at hl
   ·rename_i e
    rw[if_pos e];exact⟨_,rfl,fun _=>by cases hl; rfl⟩
   ·rename_i e
    rw[if_neg e];exact kh_nil hV r q v hq hl
theorem pickL_less{L:Sl}:∀ {ks:List Nat} {L':Sl},pickL L ks=some L'->∀ q v,lk L' q=some v->lk L q=some v:=fun h q v hq=>(pickL_ok h).look q v hq
theorem subH_less{h h':Hp} (hs:SubH h h'):∀ q b,lk h' q=some b->lk h q=some b:=by
 induction hs with
 | nil=>intro q b h; cases h
 | cons hk _ _ ih=>
  intro q b h;rw[zu]at h
  split at h
  ·rename_i e; cases h; rw[e]; exact hk
  ·exact ih q b h
theorem kh_nocap{id:Nat} {V:List Nat} (hV:inN id V=true):∀ H:Hp,KH V H (nocapH id H)
 | []=>Kp.refl []
 | (j,b) :: r=>fun q v hq hl=>by
  have hne:q≠id:=fun e=>by rw[e,hV]at hq; cases hq
  unfold nocapH at hl
  split at hl
  ·cases hl
  ·rename_i e0
   cases e0
   split at hl
   ·rename_i e
    have hk:=Nat.eq_of_beq_eq_true e;subst hk;rw[zu,if_neg hne]at hl;exact⟨v,by rw[zu,if_neg hne]; exact hl,fun _=>rfl⟩
   ·rw[zu]at hl ⊢
    split at hl
    ·rename_i e
     rw[if_pos e];exact⟨_,rfl,fun _=>by cases hl; rfl⟩
    ·rename_i e
     rw[if_neg e];exact kh_nocap hV r q v hq hl
  ·rename_i e0
   cases e0;rw[zu]at hl ⊢
   split at hl
   ·rename_i e
    rw[if_pos e];exact⟨_,rfl,fun _=>by cases hl; rfl⟩
   ·rename_i e
    rw[if_neg e];exact kh_nocap hV r q v hq hl
theorem kh_setCl{k p:Nat} {c:SC} {V:List Nat} (hV:inN k V=true):∀ H:Hp,KH V H (setCl k p c H)
 | []=>Kp.refl []
 | (j,b) :: r=>fun q v hq hl=>by
  have hne:q≠k:=fun e=>by rw[e,hV]at hq; cases hq
  unfold setCl at hl
  split at hl
  ·rename_i e
   have hk:=Nat.eq_of_beq_eq_true e;subst hk;rw[zu,if_neg hne]at hl;exact⟨v,by rw[zu,if_neg hne]; exact hl,fun _=>rfl⟩
  ·rw[zu]at hl ⊢
   split at hl
   ·rename_i e
    rw[if_pos e];exact⟨_,rfl,fun _=>by cases hl; rfl⟩
   ·rename_i e
    rw[if_neg e];exact kh_setCl hV r q v hq hl
theorem inN_cons{q k:Nat} {r:List Nat}:inN q (k :: r)=false ↔ q≠k/\inN q r=false:=⟨zA,fun⟨h1,h2⟩=>by
 unfold inN;rw[beq_false_of_ne' h1];exact h2⟩
theorem inN_swap{q a b:Nat} (h:inN q [a,b]=false):inN q (b :: ([a]++[]))=false:=by
 obtain⟨h1,h2⟩:=inN_cons.1 h;obtain⟨h3,h4⟩:=inN_cons.1 h2;exact inN_cons.2 ⟨h3,inN_cons.2 ⟨h1,rfl⟩⟩
theorem kh_nil2{k p id:Nat} {z:SC} {b:Blk} (H:Hp):KH [k,id] H ((id,b) :: nilH k p id (zM id z H)):=
 (((qu id z (V:=[]) H).trans (kh_nil (k:=k) (p:=p) (id:=id) (in1 k []) _)).cons (d:=id) (v:=b)).more fun _ h=>inN_swap h
theorem kh_set2{k p id:Nat} {z c:SC} {b:Blk} (H:Hp):KH [k,id] H ((id,b) :: setCl k p c (zM id z H)):=
 (((qu id z (V:=[]) H).trans (kh_setCl (k:=k) (p:=p) (c:=c) (in1 k []) _)).cons (d:=id) (v:=b)).more fun _ h=>inN_swap h
def KS(V:List Nat) (st st':ASt):Prop:=KL V st.L st'.L/\KH V st.H st'.H
theorem KS.refl{V:List Nat} (st:ASt):KS V st st:=⟨Kp.refl _,Kp.refl _⟩
theorem KS.trans{V V2:List Nat} {a b c:ASt} (h:KS V a b) (k:KS V2 b c):KS (V2++V) a c:=⟨h.1.trans k.1,h.2.trans k.2⟩
theorem KS.more{V V2:List Nat} {a b:ASt} (h:KS V a b) (hv:∀ q,inN q V2=false->inN q V=false):KS V2 a b:=⟨h.1.more hv,h.2.more hv⟩
theorem topen_ks{n:Nat} {st st':ASt} {id d i:Nat} {c:Bool} (h:topen n st id d i=some (c,st')):KS [id,d] st st':=by
 unfold topen at h
 split at h
 ·cases h
  refine⟨qf _ _ _,?_⟩;refine Kp.more (Kp.cons (Kp.trans (V:=[]) (V2:=[id]) (qu _ _ _) (qm (in1 _ _)))) fun q hq=>?_
  obtain⟨h1,h2⟩:=zA hq;obtain⟨h3,_⟩:=zA h2;show(match Nat.beq d q with | true=>true | false=>match Nat.beq id q with | true=>true | false=>false)=false
  split
  ·rename_i e; exact absurd (Nat.eq_of_beq_eq_true e).symm h3
  ·split
   ·rename_i e; exact absurd (Nat.eq_of_beq_eq_true e).symm h1
   ·rfl
 ·cases h
theorem caps_re_freeW{φ:Re}:∀ {cs:List Cap},capsFz cs=true->capsRe φ cs=some cs
 | [],_=>rfl
 | .id _ :: _,h=>by cases h
 | .fz _ _ :: cs,h=>by
  unfold capsRe;rw[caps_re_freeW (cs:=cs) h]
theorem fix_reW(φ:Re):Fix fun c=>c.re φ:=⟨fun c h=>by
 cases c with
 | fn f cs=>simp only[SC.re]; rw[caps_re_freeW h]
 | _=>first | rfl | cases h⟩
theorem re_mapW(φ:Re):∀ cs:List SC,reCs φ cs=mapCs (fun c=>c.re φ) cs
 | []=>rfl
 | c :: r=>by
  show c.re φ :: reCs φ r=_;rw[re_mapW φ r]; rfl
theorem sa_re_freeW{φ:Re} {x:SA} (h:x.free=true):x.re φ=x:=by
 cases x with
 | c x=>simp only[SA.re]; rw[(fix_reW φ).fix x h]
 | agg cs=>simp only[SA.re]; rw[re_mapW,qD (fix_reW φ) h]
 | arr g l=>rfl
theorem reAs_freeW{φ:Re}:∀ {xs:List SA},qN xs=true->reAs φ xs=xs
 | [],_=>rfl
 | c :: r,h=>by
  unfold qN at h
  split at h
  ·rename_i e
   show c.re φ :: reAs φ r=_;rw[sa_re_freeW e,reAs_freeW h]
  ·cases h
theorem sv_re_freeW{φ:Re} {v:SV} (h:v.free=true):v.re φ=v:=by
 cases v with
 | a x=>simp only[SV.re]; rw[sa_re_freeW h]
 | may g x=>simp only[SV.re]; rw[sa_re_freeW h]
 | tup xs=>simp only[SV.re]; rw[reAs_freeW h]
theorem blk_re_freeW{φ:Re} {b:Blk} (h:b.free=true):b.re φ=b:=by
 cases b with
 | cells t cs=>simp only[Blk.re]; rw[re_mapW,qD (fix_reW φ) h]
 | mrow T T' g l c q=>rcases q with _ | ⟨i,_ | d⟩<;>first | rfl | cases h
 | _=>first | rfl | cases h
theorem kl_reW(φ:Re) (L:Sl) {V:List Nat}:KL V L (reL φ L):=Kp.map (f:=fun v=>v.re φ) (fun _ h=>sv_re_freeW h) fun _ _ h=>lk_reL h
theorem kh_mvW(i j:Nat):∀ H:Hp,KH [i,j] H (reH (mvId i j) H)
 | []=>Kp.refl []
 | (k,b) :: r=>fun q v hq hl=>by
  obtain⟨h1,h2⟩:=zA hq;obtain⟨h3,_⟩:=zA h2;unfold reH at hl
  by_cases e1:Nat.beq k i=true
  ·have e:=Nat.eq_of_beq_eq_true e1
   have hm:mvId i j b.kd k=some j:=by unfold mvId; rw[e1]
   rw[hm]at hl;dsimp only at hl;rw[zu,if_neg h3]at hl;rw[zu,if_neg (by rw[e]; exact h1)];exact kh_mvW i j r q v hq hl
  ·have e1':Nat.beq k i=false:=by simpa only[Bool.not_eq_true] using e1
   by_cases e2:Nat.beq k j=true
   ·have e:=Nat.eq_of_beq_eq_true e2
    have hm:mvId i j b.kd k=none:=by unfold mvId; rw[e1',e2]
    rw[hm]at hl;dsimp only at hl;rw[zu,if_neg (by rw[e]; exact h3)];exact kh_mvW i j r q v hq hl
   ·have e2':Nat.beq k j=false:=by simpa only[Bool.not_eq_true] using e2
    have hm:mvId i j b.kd k=some k:=by unfold mvId; rw[e1',e2']
    rw[hm]at hl;dsimp only at hl;rw[zu]at hl ⊢
    split at hl
    ·rename_i e
     cases hl;rw[if_pos e];exact⟨b,rfl,fun hf=>blk_re_freeW hf⟩
    ·rename_i e
     rw[if_neg e];exact kh_mvW i j r q v hq hl
theorem tword_ks{n:Nat} {st st':ASt} {x:Ti} {c:Bool} (h:tword n st x=some (c,st')):KS x.touch st st':=by
 unfold tword at h
 split at h
 ·split at h
  ·split at h
   ·cases h
    exact⟨qf _ _ _,Kp.more (Kp.trans (V:=[]) (V2:=[_]) (qu _ _ _) (qm (in1 _ _))) fun q hq=>by
     have h1:=(zA hq).1;show(match Nat.beq _ q with | true=>true | false=>false)=false
     split
     ·rename_i e; exact absurd (Nat.eq_of_beq_eq_true e).symm h1
     ·rfl⟩
   ·cases h
  ·cases h
 ·split at h
  ·cases h
   exact⟨Kp.refl _,qm (in1 _ _)⟩
  ·cases h
 ·split at h
  ·cases h
   exact⟨qf _ _ _,qu _ _ _⟩
  ·cases h
 ·split at h
  ·cases h
   exact⟨Kp.refl _,qm (in1 _ _)⟩
  ·cases h
 ·split at h
  ·exact topen_ks h
  ·cases h
 ·split at h
  ·exact topen_ks h
  ·cases h
 ·split at h
  ·cases h
   exact⟨kl_reW _ _,kh_mvW _ _ _⟩
  ·cases h
theorem wki_ks{n:Nat} {x:Wi} {st st':ASt} {c:Bool} (h:wki n x st=some (c,st')):KS x.touch st st':=by
 unfold wki at h
 split at h
 ·split at h
  ·rename_i e
   cases h;unfold Go.Proofs.YtldjgdggcodgeaaGreat.frz at e
   split at e
   ·cases e; exact⟨qf _ _ _,qu _ _ _⟩
   ·cases e
  ·cases h
 ·split at h
  ·split at h
   ·cases h; exact⟨kl_fzc _ _ _ _,kh_fzc _⟩
   ·cases h
  ·cases h
 ·split at h
  ·split at h
   ·cases h
    exact⟨Kp.cons (qf _ _ _),(Kp.cons (V:=[]) (qu _ _ _)).more fun q hq=>by obtain⟨h1,h2⟩:=zA hq; exact h2⟩
   ·cases h
  ·cases h
 ·split at h
  ·cases h
   exact⟨qf _ _ _,kh_nil2 _⟩
  ·cases h
 ·split at h
  ·rename_i e
   cases h;unfold Go.Proofs.YtldjgdggcodgeaaGreat.frzL at e
   split at e
   ·cases e; exact⟨qf _ _ _,qu _ _ _⟩
   ·cases e
  ·cases h
 ·split at h
  ·cases h; exact⟨Kp.refl _,qm (in1 _ _)⟩
  ·cases h
 ·split at h
  ·cases h
   exact⟨Kp.cons (qf _ _ _),(Kp.cons (V:=[]) (qu _ _ _)).more fun q hq=>by obtain⟨h1,h2⟩:=zA hq; exact h2⟩
  ·cases h
 ·split at h
  ·split at h
   ·cases h
    exact⟨qf _ _ _,kh_set2 _⟩
   ·cases h
  ·cases h
 ·split at h
  ·split at h
   ·cases h
    exact⟨Kp.cons (qf _ _ _),Kp.cons (qu _ _ _)⟩
   ·cases h
  ·cases h
 ·split at h
  ·split at h
   ·cases h
    exact⟨Kp.cons (qf _ _ _),qu _ _ _⟩
   ·cases h
  ·cases h
 ·split at h
  ·rename_i e1 e2
   cases h;exact⟨Kp.less (pickL_less e1),Kp.less (subH_less (pickH_ok e2))⟩
  ·cases h
 ·split at h
  ·split at h
   ·cases h
    exact⟨Kp.cons (Kp.refl _),Kp.refl _⟩
   ·cases h
  ·cases h
 ·cases h
  exact⟨Kp.refl _,kh_nocap (in1 _ _) _⟩
 ·split at h
  ·split at h
   ·split at h
    ·cases h
     exact⟨Kp.cons (Kp.refl _),Kp.refl _⟩
    ·cases h
   ·cases h
  ·cases h
 ·split at h
  ·split at h
   ·split at h
    ·cases h
     exact⟨Kp.refl _,qm (in1 _ _)⟩
    ·cases h
   ·cases h
  ·cases h
 ·exact tword_ks h

def keyB(X:Cx) (t:TypeId) (g:GTy):Bool:=match X.tt.find t with
 | some ⟨⟨.struct _,_,_,_⟩,_⟩=>g.key&&(eqT X.P X.tt 12 t g&&!(X.P.eqGuardType X.P.depth t))
 | _=>false
theorem keyB_ok{X:Cx} (hX:X.tt.ok X.P) {t:TypeId} {g:GTy} (h:keyB X t g=true):KeyOk X.P t g:=by
 unfold keyB at h
 split at h
 ·rename_i hf
  simp only[Bool.and_eq_true,Bool.not_eq_true']at h;exact KeyOk.of hX h.1 hf rfl h.2.1 h.2.2
 ·cases h
def elG(X:Cx) (e:TypeId):Option (TE×GTy):=match X.tt.find e with
 | some te=>match te.g with
  | some g=>some (te,g)
  | none=>none
 | none=>none
def eqv2(X:Cx) (L:Sl) (t:TypeId) (u v:Operand):Option (Bool×Bool):=match ae X L u,ae X L v,X.tt.find t with
 | some (g1,.agg cs),some (g2,.agg ds),some te=>match te.g with
  | some g=>match dec g cs,dec g ds,keyB X t g with
   | some (c1,x,[]),some (c2,y,[]),true=>some (g1&&(g2&&(c1&&c2)),g.beq x y)
   | _,_,_=>none
  | none=>none
 | _,_,_=>none
def xpure(X:Cx) (st:ASt):Op->Option (Bool×SA)
 | .binOp .eql t u v _=>match eqv2 X st.L t u v with
  | some (c,b)=>some (c,.c (.val (.bool b)))
  | none=>none
 | .binOp .neq t u v _=>match eqv2 X st.L t u v with
  | some (c,b)=>some (c,.c (.val (.bool (!b))))
  | none=>none
 | .load t x=>match ae X st.L x,X.tt.find t with
  | some (g1,.c (.elt id 1 i 0)),some te=>match lk st.H id,qt te.ti.desc with
   | some (.hrow _ _ _ _ _ j d2),false=>some (g1&&Nat.beq i j,.c (.sl d2))
   | some (.mrow _ _ _ _ _ (some (j,some d2))),false=>some (g1&&decide (i=j),.c (.sl d2))
   | _,_=>none
  | _,_=>none
 | .slice t u (some x) none none=>match X.tt.find t,ae X st.L u,ae X st.L x with
  | some ⟨⟨.slice e,_,_,_⟩,_⟩,some (g1,.c (.sl id)),some (g2,.c (.val (.int _ z)))=>match X.tt.find e,lk st.H id with
   | some ee,some (.row _ g l _)=>match Nat.beq g.size ee.ti.size with
    | true=>some (g1&&(g2&&(decide (0<=z)&&decide (z<=(l.length:Int)))),.c (.slp id g.size z.toNat))
    | false=>none
   | _,_=>none
  | _,_,_=>none
 | .call ⟨.builtin .cap,⟨[u]⟩,⟨[t]⟩⟩=>match X.tt.find t,ae X st.L u with
  | some ⟨⟨.slice _,_,_,_⟩,_⟩,some (g1,.c (.sl id))=>some (g1,.c (.cpo id))
  | _,_=>none
 | _=>none
theorem eqv2_ok{X:Cx} (hX:X.tt.ok X.P) {L:Sl} {t:TypeId} {u v:Operand} {c b:Bool} (h:eqv2 X L t u v=some (c,b)) (hc:c=true):∃ g1 g2 c1 c2 cs ds g x y,ae X L u=some (g1,.agg cs)/\ae X L v=some (g2,.agg ds)/\KeyOk X.P t g/\dec g cs=some (c1,x,[])/\dec g ds=some (c2,y,[])/\g1=true/\g2=true/\c1=true/\c2=true/\b=g.beq x y:=by
 unfold eqv2 at h
 split at h
 ·rename_i hu hv ht
  split at h
  ·split at h
   ·rename_i e1 e2 e3
    cases h;simp only[Bool.and_eq_true]at hc;exact⟨_,_,_,_,_,_,_,_,_,hu,hv,keyB_ok hX e3,e1,e2,hc.1,hc.2.1,hc.2.2.1,hc.2.2.2,rfl⟩
   ·cases h
  ·cases h
 ·cases h
theorem xpure_ok{X:Cx} {st:ASt} (hX:X.tt.ok X.P) {o:Oper} {c:Bool} {sa:SA} (h:xpure X st o.op=some (c,sa)) (hc:c=true):PureOk X st o sa:=by
 unfold xpure at h
 split at h
 ·rename_i hop
  split at h
  ·rename_i e
   cases h;obtain⟨g1,g2,c1,c2,cs,ds,g,x,y,hu,hv,hK,hx,hy,h1,h2,h3,h4,rfl⟩:=eqv2_ok hX e hc;exact pk_eqlA hK hop hu h1 hv h2 hx h3 hy h4
  ·cases h
 ·rename_i hop
  split at h
  ·rename_i e
   cases h;obtain⟨g1,g2,c1,c2,cs,ds,g,x,y,hu,hv,hK,hx,hy,h1,h2,h3,h4,rfl⟩:=eqv2_ok hX e hc;exact pk_neqA hK hop hu h1 hv h2 hx h3 hy h4
  ·cases h
 ·rename_i hop
  split at h
  ·rename_i hx ht
   split at h
   ·rename_i hl ha
    cases h;simp only[Bool.and_eq_true]at hc
    have:=Nat.eq_of_beq_eq_true hc.2
    subst this;intro R W Bi n ks env B w0 H a w1 hA;exact pk_loadH hX hop ht ha hx hc.1 hl hA
   ·rename_i hl ha
    cases h;simp only[Bool.and_eq_true]at hc;exact pk_loadT hX hop ht ha hx hc.1 hl hc.2
   ·cases h
  ·cases h
 ·rename_i hop
  split at h
  ·rename_i ht hu hx
   split at h
   ·rename_i he hl
    split at h
    ·rename_i hs
     cases h;rw[Bool.and_eq_true,Bool.and_eq_true]at hc;exact pk_sliceP hX hop ht rfl he hu hc.1 hx hc.2.1 hl hs hc.2.2
    ·cases h
   ·cases h
  ·cases h
 ·rename_i hop
  split at h
  ·rename_i ht hu
   cases h;exact pk_capO hX hop ht rfl hu hc
  ·cases h
 ·cases h

section
def qn(g c:Bool):Bool:=match c with
 | true=>true
 | false=>!g
theorem impB_ok{g c:Bool} (h:qn g c=true) (hg:g=true):c=true:=by
 cases c with
 | true=>rfl
 | false=>rw[hg]at h; cases h
abbrev Gd:=List (Nat×Nat×Bool)
def qq(L:Sl) (s:Nat) (want:Bool):Option Bool:=match lk L s,want with
 | some (.a (.c (.val (.bool b)))),true=>some b
 | some (.a (.c (.val (.bool b)))),false=>some (!b)
 | some (.may g (.c (.val (.bool b)))),true=>some (g&&b)
 | some (.may g (.c (.val (.bool b)))),false=>some (g&&!b)
 | _,_=>none
def sameB:Bool->Bool->Bool
 | true,true=>true
 | false,false=>true
 | _,_=>false
theorem sameB_ok:∀ {a b:Bool},sameB a b=true->a=b
 | true,true,_=>rfl
 | false,false,_=>rfl
def inP(j:Nat) (w:Bool):List (Nat×Bool)->Bool
 | []=>false
 | p :: r=>match Nat.beq p.1 j,sameB p.2 w with
  | true,true=>true
  | _,_=>inP j w r
def lookG(s:Nat):Gd->Option (Nat×Bool)
 | []=>none
 | e :: G=>match Nat.beq e.1 s with
  | true=>some e.2
  | false=>lookG s G
def atD(dsts:List (Option Nat)) (j s:Nat):Bool:=match nth dsts j with
 | some (some q)=>Nat.beq q s
 | _=>false
def qT(dsts:List (Option Nat)) (d:Nat):Gd->Gd
 | []=>[]
 | e :: G=>match Nat.beq e.1 d,atD dsts e.2.1 d with
  | false,false=>e :: qT dsts d G
  | _,_=>qT dsts d G
def anc(dsts:List (Option Nat)) (G:Gd):Nat->Nat->Bool->List (Nat×Bool)
 | 0,j,w=>[(j,w)]
 | k+1,j,w=>(j,w) :: match nth dsts j with
  | some (some s)=>match lookG s G with
   | some p=>anc dsts G k p.1 p.2
   | none=>[]
  | _=>[]
def qw(ps:List (Nat×Bool)):Gd->Sl->Sl
 | [],L=>L
 | e :: G,L=>match inP e.2.1 e.2.2 ps,lk L e.1 with
  | true,some (.may _ x)=>(e.1,.a x) :: qw ps G L
  | _,_=>qw ps G L
def selP(dsts:List (Option Nat)) (s:Nat) (w:Bool) (ps:List (Nat×Bool)):Gd->List (Nat×Bool)
 | []=>ps
 | e :: G=>match atD dsts e.2.1 s,sameB e.2.2 w with
  | true,true=>(e.2.1,w) :: selP dsts s w ps G
  | _,_=>selP dsts s w ps G
def selC(G:Gd) (ps:List (Nat×Bool)) (L:Sl) (s:Nat):Option (Bool×Bool):=match lk L s with
 | some (.a (.c (.val (.bool b))))=>some (true,b)
 | some (.may g (.c (.val (.bool b))))=>match lookG s G with
  | some p=>match inP p.1 p.2 ps with
   | true=>some (true,b)
   | false=>some (g,b)
  | none=>some (g,b)
 | _=>none
def apureG(X:Cx) (dsts:List (Option Nat)) (ps:List (Nat×Bool)) (G:Gd) (st:ASt):Op->Option (Bool×SA)
 | .pick (.tmp s) u v=>match selC G ps st.L s with
  | some (gc,b)=>match ae X (qw (selP dsts s true ps G) G st.L) u,ae X (qw (selP dsts s false ps G) G st.L) v with
   | some (gu,x),some (gv,y)=>match pickS b x y with
    | some r=>some (gc&&(qn b gu&&qn (!b) gv),r)
    | none=>none
   | _,_=>none
  | none=>none
 | op=>match apure X ⟨qw ps G st.L,st.H⟩ op with
  | some r=>some r
  | none=>xpure X ⟨qw ps G st.L,st.H⟩ op
section
variable {X:Cx} {R:Nat->Prop} {W:World} {Bi:Bk} {n:Nat} {ks:List Nat} {env:Nat->Loc} {B:Nat->Prop} {w0:World} {H:List Ck} {st:ASt} {a:Act} {w:World} {dsts:List (Option Nat)} {G:Gd} {ps:List (Nat×Bool)}
def GInv(dsts:List (Option Nat)) (G:Gd) (L:Sl):Prop:=∀ e∈G,∃ s g x,nth dsts e.2.1=some (some s)/\qq L s e.2.2=some g/\lk L e.1=some (.may g x)
def PT(dsts:List (Option Nat)) (L:Sl) (p:Nat×Bool):Prop:=∃ s,nth dsts p.1=some (some s)/\qq L s p.2=some true
theorem inP_mem{j:Nat} {w:Bool}:∀ {ps:List (Nat×Bool)},inP j w ps=true->(j,w)∈ps
 | [],h=>by cases h
 | p :: r,h=>by
  unfold inP at h
  split at h
  ·rename_i h1 h2
   rw[<- Nat.eq_of_beq_eq_true h1,<- sameB_ok h2];exact List.mem_cons_self
  ·exact List.mem_cons_of_mem _ (inP_mem h)
theorem lookG_mem{s:Nat} {p:Nat×Bool}:∀ {G:Gd},lookG s G=some p->(s,p)∈G
 | [],h=>by cases h
 | e :: G,h=>by
  unfold lookG at h
  split at h
  ·rename_i h1
   cases h;rw[<- Nat.eq_of_beq_eq_true h1];exact List.mem_cons_self
  ·exact List.mem_cons_of_mem _ (lookG_mem h)
theorem dropG_mem{d:Nat} {e:Nat×Nat×Bool}:∀ {G:Gd},e∈qT dsts d G->e∈G/\e.1≠d/\atD dsts e.2.1 d=false
 | [],h=>by cases h
 | q :: G,h=>by
  unfold qT at h
  split at h
  ·rename_i h1 h2
   rcases List.mem_cons.1 h with rfl | h
   ·exact⟨List.mem_cons_self,Nat.ne_of_beq_eq_false h1,h2⟩
   ·obtain⟨h3,h4⟩:=dropG_mem h
    exact⟨List.mem_cons_of_mem _ h3,h4⟩
  ·obtain⟨h3,h4⟩:=dropG_mem h
   exact⟨List.mem_cons_of_mem _ h3,h4⟩
theorem xr{L:Sl} {d s:Nat} {sv:SV} {w:Bool} (h:s≠d):qq ((d,sv) :: L) s w=qq L s w:=by
 unfold qq;rw[zu,if_neg h]
theorem GInv.drop{L:Sl} (h:GInv dsts G L) (d:Nat) (sv:SV):GInv dsts (qT dsts d G) ((d,sv) :: L):=fun e he=>by
 obtain⟨h1,h2,h3⟩:=dropG_mem he;obtain⟨s,g,x,h4,h5,h6⟩:=h e h1;have hs:s≠d:=fun e'=>by
  unfold atD at h3;rw[h4,e']at h3
  simp at h3
 exact⟨s,g,x,h4,by rw[xr hs]; exact h5,by rw[zu,if_neg h2]; exact h6⟩
theorem GInv.nil{L:Sl}:GInv dsts [] L:=fun _ h=>by cases h
theorem gval_may{L:Sl} {s:Nat} {g w:Bool} {x:SA} (h3:lk L s=some (.may g x)) (h5:qq L s w=some true):g=true:=by
 unfold qq at h5
 split at h5
 ·rename_i e; rw[h3]at e; cases e
 ·rename_i e; rw[h3]at e; cases e
 ·rename_i e
  rw[h3]at e;cases e;simp only[Option.some.injEq,Bool.and_eq_true]at h5;exact h5.1
 ·rename_i e
  rw[h3]at e;cases e;simp only[Option.some.injEq,Bool.and_eq_true]at h5;exact h5.1
 ·cases h5
theorem anc_true{L:Sl} (hG:GInv dsts G L):∀ {k j:Nat} {w:Bool},PT dsts L (j,w)->∀ p∈anc dsts G k j w,PT dsts L p
 | 0,j,w,h,p,hp=>by rw[List.mem_singleton.1 hp]; exact h
 | k+1,j,w,h,p,hp=>by
  unfold anc at hp
  rcases List.mem_cons.1 hp with rfl | hp
  ·exact h
  ·split at hp
   ·rename_i s hs
    split at hp
    ·rename_i q hq
     obtain⟨s1,g,x,h1,h2,h3⟩:=hG _ (lookG_mem hq);refine anc_true hG ?_ p hp;obtain⟨s2,h4,h5⟩:=h;rw[hs]at h4;cases h4;have hg:g=true:=by
      exact gval_may h3 h5
     exact⟨s1,h1,by rw[h2,hg]⟩
    ·cases hp
   ·cases hp
theorem view_has{L:Sl} (hG:GInv dsts G L) (hp:∀ p∈ps,PT dsts L p) {tm:Array Value} (h:∀ s sv,lk L s=some sv->∃ v,tm[s]?=some v/\VR env B w0 sv v):∀ s sv,lk (qw ps G L) s=some sv->∃ v,tm[s]?=some v/\VR env B w0 sv v:=by
 have key:∀ G',(∀ e∈G',e∈G)->∀ s sv,lk (qw ps G' L) s=some sv->∃ v,tm[s]?=some v/\VR env B w0 sv v:=by
  intro G'
  induction G' with
  | nil=>exact fun _=>h
  | cons e G' ih=>
   intro hs s sv hl;have ih':=ih fun e he=>hs e (List.mem_cons_of_mem _ he)
   unfold qw at hl
   split at hl
   ·rename_i g x h1 h2
    rw[zu]at hl
    split at hl
    ·rename_i e1
     cases hl;obtain⟨s1,g1,x1,h3,h4,h5⟩:=hG e (hs e List.mem_cons_self);obtain⟨s2,h6,h7⟩:=hp _ (inP_mem h1);dsimp only at h6;rw[h3]at h6;cases h6;rw[h4]at h7;cases h7;rw[h2]at h5;cases h5;obtain⟨v,h8,h9⟩:=h _ _ h2;rw[<- e1]at h8;exact⟨v,h8,h9.1 rfl⟩
    ·exact ih' s sv hl
   ·exact ih' s sv hl
 exact key G fun _ h=>h
theorem view_look{L:Sl} (hG:GInv dsts G L) (hp:∀ p∈ps,PT dsts L p):∀ s sv,lk (qw ps G L) s=some sv->lk L s=some sv\/∃ x,sv=.a x/\lk L s=some (.may true x):=by
 have key:∀ G',(∀ e∈G',e∈G)->∀ s sv,lk (qw ps G' L) s=some sv->lk L s=some sv\/∃ x,sv=.a x/\lk L s=some (.may true x):=by
  intro G'
  induction G' with
  | nil=>exact fun _ s sv h=>.inl h
  | cons e G' ih=>
   intro hs s sv hl;have ih':=ih fun e he=>hs e (List.mem_cons_of_mem _ he)
   unfold qw at hl
   split at hl
   ·rename_i g x h1 h2
    rw[zu]at hl
    split at hl
    ·rename_i e1
     cases hl;obtain⟨s1,g1,x1,h3,h4,h5⟩:=hG e (hs e List.mem_cons_self);obtain⟨s2,h6,h7⟩:=hp _ (inP_mem h1);dsimp only at h6;rw[h3]at h6;cases h6;rw[h4]at h7;cases h7;rw[h2]at h5;cases h5;exact .inr ⟨x,rfl,by rw[e1]; exact h2⟩
    ·exact ih' s sv hl
   ·exact ih' s sv hl
 exact key G fun _ h=>h
theorem view_back{L:Sl} (hG:GInv dsts G L) (hp:∀ p∈ps,PT dsts L p):∀ s sv,lk L s=some sv->lk (qw ps G L) s=some sv\/∃ x,sv=.may true x/\lk (qw ps G L) s=some (.a x):=by
 have key:∀ G',(∀ e∈G',e∈G)->∀ s sv,lk L s=some sv->lk (qw ps G' L) s=some sv\/∃ x,sv=.may true x/\lk (qw ps G' L) s=some (.a x):=by
  intro G'
  induction G' with
  | nil=>exact fun _ s sv h=>.inl h
  | cons e G' ih=>
   intro hs s sv hl;have ih':=ih fun e he=>hs e (List.mem_cons_of_mem _ he)
   unfold qw
   split
   ·rename_i g x h1 h2
    rw[zu]
    split
    ·rename_i e1
     obtain⟨s1,g1,x1,h3,h4,h5⟩:=hG e (hs e List.mem_cons_self);obtain⟨s2,h6,h7⟩:=hp _ (inP_mem h1);dsimp only at h6;rw[h3]at h6;cases h6;rw[h4]at h7;cases h7;rw[h2]at h5;cases h5;rw[e1,h2]at hl;cases hl;exact .inr ⟨x,rfl,rfl⟩
    ·exact ih' s sv hl
   ·exact ih' s sv hl
 exact key G fun _ h=>h
theorem AI.unview(hA:AI X R W Bi n ks env B w0 H ⟨qw ps G st.L,st.H⟩ a w) (hG:GInv dsts G st.L) (hp:∀ p∈ps,PT dsts st.L p):AI X R W Bi n ks env B w0 H st a w:=
 ⟨hA.size,hA.defs,fun s sv hs=>by
  rcases view_back hG hp s sv hs with h | ⟨x,rfl,h⟩
  ·exact hA.has s sv h
  ·obtain⟨v,h1,h2⟩:=hA.has s _ h
   exact⟨v,h1,fun _=>h2,fun h=>by cases h⟩,hA.heap,hA.sh,hA.sub,hA.new,hA.pin,hA.base,hA.glob⟩
theorem AI.view(hA:AI X R W Bi n ks env B w0 H st a w) (hG:GInv dsts G st.L) (hp:∀ p∈ps,PT dsts st.L p):AI X R W Bi n ks env B w0 H ⟨qw ps G st.L,st.H⟩ a w:=
 ⟨hA.size,hA.defs,view_has hG hp hA.has,hA.heap,hA.sh,hA.sub,hA.new,hA.pin,hA.base,hA.glob⟩
theorem selP_true{L:Sl} {s:Nat} {wt:Bool} (hp:∀ p∈ps,PT dsts L p) (hv:qq L s wt=some true):∀ (G:Gd),∀ p∈selP dsts s wt ps G,PT dsts L p
 | [],p,h=>hp p h
 | e :: G,p,h=>by
  unfold selP at h
  split at h
  ·rename_i h1 _
   rcases List.mem_cons.1 h with rfl | h
   ·unfold atD at h1
    split at h1
    ·rename_i q hq
     rw[Nat.eq_of_beq_eq_true h1]at hq;exact⟨s,hq,hv⟩
    ·cases h1
   ·exact selP_true hp hv G p h
  ·exact selP_true hp hv G p h
theorem selC_ok{s:Nat} {gc b:Bool} (hA:AI X R W Bi n ks env B w0 H st a w) (hG:GInv dsts G st.L) (hp:∀ p∈ps,PT dsts st.L p) (h:selC G ps st.L s=some (gc,b)) (hc:gc=true):ev (qL a) (.tmp s)=some (.bool b)/\qq st.L s true=some b/\qq st.L s false=some (!b):=by
 unfold selC at h
 split at h
 ·rename_i b0 e
  cases h;obtain⟨v,h1,h2⟩:=hA.has _ _ e;rw[show v=_ from h2]at h1;exact⟨zt h1,by unfold qq; rw[e],by unfold qq; rw[e]⟩
 ·rename_i g b0 e
  have key:g=true->b0=b->ev (qL a) (.tmp s)=some (.bool b)/\qq st.L s true=some b/\qq st.L s false=some (!b):=fun hg hb=>by
   subst hb;subst hg;obtain⟨v,h1,h2⟩:=hA.has _ _ e;rw[show v=_ from h2.1 rfl]at h1;exact⟨zt h1,by unfold qq; rw[e]; rfl,by unfold qq; rw[e]; rfl⟩
  split at h
  ·rename_i q hq
   split at h
   ·rename_i hin
    cases h;refine key ?_ rfl;obtain⟨s1,g1,x1,h3,h4,h5⟩:=hG _ (lookG_mem hq);obtain⟨s2,h6,h7⟩:=hp _ (inP_mem hin);dsimp only at h6 h3 h4 h5 h7;rw[h3]at h6;cases h6;rw[h4]at h7;cases h7;rw[e]at h5;cases h5
    rfl
   ·cases h; exact key hc rfl
  ·cases h; exact key hc rfl
 ·cases h
theorem pickS_ok{b:Bool} {x y r:SA} {vx vy:Value} (hp:pickS b x y=some r) (hx:b=true->SaR env B w0 x vx) (hy:b=false->SaR env B w0 y vy):SaR env B w0 r (if b then vx else vy):=by
 unfold pickS at hp
 split at hp
 ·split at hp
  ·rename_i hk
   have hk':=of_decide_eq_true hk;subst hk';cases hp;cases b
   ·exact hy rfl
   ·exact hx rfl
  ·cases hp
 ·cases hp
  cases b
  ·exact hy rfl
  ·exact hx rfl
 ·cases hp
  cases b
  ·exact hy rfl
  ·exact hx rfl
 ·cases hp
theorem apureG_all(hX:X.tt.ok X.P) (hA:AI X R W Bi n ks env B w0 H st a w) (hG:GInv dsts G st.L) (hp:∀ p∈ps,PT dsts st.L p) {o:Oper} {c:Bool} {sa:SA} (h:apureG X dsts ps G st o.op=some (c,sa)) (hc:c=true):∃ v,SaR env B w0 sa v/\∀ w',(isLoad o.op=true->SH (fun k=>R k\/B k) w0 (H++ks.map qW) w')->(execOp a.eval o).run X.P w'=.ok (.value v) w':=by
 unfold apureG at h
 split at h
 ·rename_i s u v hop
  split at h
  ·rename_i gc b e1
   split at h
   ·rename_i gu x gv y e2 e3
    split at h
    ·rename_i r e4
     cases h;simp only[Bool.and_eq_true]at hc;obtain⟨hgc,hb1,hb0⟩:=hc;obtain⟨h1,h2,h3⟩:=selC_ok hA hG hp e1 hgc;cases b with
     | true=>
      have hA':=hA.view hG (selP_true hp h2 G);obtain⟨vx,h4,h5⟩:=hA'.ev e2 (impB_ok hb1 rfl);exact⟨vx,pickS_ok (vx:=vx) (vy:=vx) e4 (fun _=>h5) (fun h=>by cases h),fun w' _=>p_pick1 hA.stt hop h1 rfl h4 w'⟩
     | false=>
      have hA':=hA.view hG (selP_true hp h3 G);obtain⟨vy,h4,h5⟩:=hA'.ev e3 (impB_ok hb0 rfl);exact⟨vy,pickS_ok (vx:=vy) (vy:=vy) e4 (fun h=>by cases h) (fun _=>h5),fun w' _=>p_pick0 hA.stt hop h1 rfl h4 w'⟩
    ·cases h
   ·cases h
  ·cases h
 ·have hA':=hA.view hG hp
  split at h
  ·rename_i e
   cases h;obtain⟨v,h1,h2⟩:=apure_ok (st:=⟨qw ps G st.L,st.H⟩) hX e hc hA';exact⟨v,h1,h2⟩
  ·obtain⟨v,h1,h2⟩:=xpure_ok (st:=⟨qw ps G st.L,st.H⟩) hX h hc hA'
   exact⟨v,h1,h2⟩
theorem apureG_ok(hX:X.tt.ok X.P) (hA:AI X R W Bi n ks env B w0 H st a w) (hG:GInv dsts G st.L) (hp:∀ p∈ps,PT dsts st.L p) {o:Oper} {c:Bool} {sa:SA} (h:apureG X dsts ps G st o.op=some (c,sa)) (hc:c=true):∃ v,SaR env B w0 sa v/\(execOp a.eval o).run X.P w=.ok (.value v) w:=by
 obtain⟨v,h1,h2⟩:=apureG_all hX hA hG hp h hc;exact⟨v,h1,h2 w fun _=>hA.sh⟩
theorem wanted_gval{l:List Oper} {o:Oper} (hA:AI X R W Bi n ks env B w0 H st a w) {j s:Nat} {want g:Bool} (hgd:o.guard=some (j,want)) (hj:nth (zm l) j=some (some s)) (hg:qq st.L s want=some g):Region.wanted o (yielded l.toArray a.tmps)=g:=by
 obtain⟨oj,hoj,hsj⟩:=nth_map hj;have hj':(l.toArray[j]?).bind (·.dst)=some s:=by simp[hoj,<- hsj]
 unfold qq at hg
 split at hg
 ·rename_i b hlk
  cases hg;obtain⟨v,h1,h2⟩:=hA.has _ _ hlk;rw[show v=_ from h2]at h1;rw[xh hA.sym hgd hj' (zt h1)];cases g<;>rfl
 ·rename_i b hlk
  cases hg;obtain⟨v,h1,h2⟩:=hA.has _ _ hlk;rw[show v=_ from h2]at h1;rw[xh hA.sym hgd hj' (zt h1)];cases b<;>rfl
 ·rename_i g0 b hlk
  cases hg;obtain⟨v,h1,h2,h3⟩:=hA.has _ _ hlk;cases g0 with
  | true=>
   rw[show v=_ from h2 rfl]at h1;rw[xh hA.sym hgd hj' (zt h1)];cases b<;>rfl
  | false=>
   rw[h3 rfl]at h1;rw[unwanted_of hA.sym hgd hj' (zt h1)]
   rfl
 ·rename_i g0 b hlk
  cases hg;obtain⟨v,h1,h2,h3⟩:=hA.has _ _ hlk;cases g0 with
  | true=>
   rw[show v=_ from h2 rfl]at h1;rw[xh hA.sym hgd hj' (zt h1)];cases b<;>rfl
  | false=>
   rw[h3 rfl]at h1;rw[unwanted_of hA.sym hgd hj' (zt h1)]
   rfl
 ·cases hg
end
def dstL:Option Nat->List Nat
 | some d=>[d]
 | none=>[]
def touchOp(X:Cx) (L:Sl):Op->List Nat
 | .store _ u _=>match ae X L u with
  | some (_,.c (.ptr id _))=>[id]
  | some (_,.c (.elt id _ _ _))=>[id]
  | _=>[]
 | .call ⟨.builtin .append,⟨[u,_]⟩,_⟩=>match ae X L u with
  | some (_,.c (.sl id))=>[id]
  | _=>[]
 | _=>[]
theorem ks_new{n:Nat} {st st':ASt} {d:Nat} {t:TypeId} {g:GTy} {l:List g.D} {cap:Option Nat} (h:newRow n st d t g l cap=some st'):KS [d] st st':=by
 unfold newRow at h
 split at h
 ·cases h
  exact⟨Kp.cons (qf _ _ _),Kp.cons (qu _ _ _)⟩
 ·cases h
theorem ks_box{X:Cx} {n:Nat} {st st':ASt} {t:TypeId} {d:Nat} {cs:List SC} {c:Bool} (h:abox X n st t d cs=some (c,st')):KS [d] st st':=by
 unfold abox at h
 split at h
 ·cases h
  exact⟨Kp.cons (qf _ _ _),Kp.cons (qu _ _ _)⟩
 ·cases h
theorem ks_buildSlice{X:Cx} {n:Nat} {st st':ASt} {t:TypeId} {N d:Nat} {ps:List (Nat×Operand)} {c:Bool} (h:abuildSlice X n st t N ps d=some (c,st')):KS [d] st st':=by
 unfold abuildSlice at h
 split at h
 ·split at h
  ·split at h
   ·split at h
    ·split at h
     ·rename_i e; cases h; exact ks_new e
     ·cases h
    ·cases h
   ·cases h
  ·cases h
 ·cases h
theorem ks_makeSlice{X:Cx} {n:Nat} {st st':ASt} {t:TypeId} {d:Nat} {x y:SA} {c:Bool} (h:amakeSlice X n st t x y d=some (c,st')):KS [d] st st':=by
 unfold amakeSlice at h
 split at h
 ·split at h
  ·split at h
   ·split at h
    ·rename_i e; cases h; exact ks_new e
    ·cases h
   ·cases h
  ·cases h
 ·cases h
theorem ks_store{X:Cx} {st st':ASt} {t:TypeId} {x y:SA} {c:Bool} (h:astore X st t x y=some (c,st')):(∃ id o,x=.c (.ptr id o)/\KS [id] st st')\/∃ id sz i o,x=.c (.elt id sz i o)/\KS [id] st st':=by
 unfold astore at h
 split at h
 ·split at h
  ·split at h
   ·split at h
    ·cases h
     exact .inl ⟨_,_,rfl,Kp.refl _,qm (in1 _ _)⟩
    ·cases h
   ·cases h
  ·split at h
   ·split at h
    ·split at h
     ·split at h
      ·cases h
       exact .inr ⟨_,_,_,_,rfl,Kp.refl _,qm (in1 _ _)⟩
      ·cases h
     ·cases h
    ·cases h
   ·cases h
  ·cases h
 ·cases h
theorem ks_append{X:Cx} {n:Nat} {st st':ASt} {t:TypeId} {x y:SA} {d:Nat} {c:Bool} (h:aappend X n st t x y d=some (c,st')):KS [d] st st'\/∃ id,x=.c (.sl id)/\KS [d,id] st st':=by
 unfold aappend at h
 split at h
 ·split at h
  ·split at h
   ·split at h
    ·split at h
     ·cases h
      refine .inr ⟨_,rfl,Kp.cons (qf _ _ _),(Kp.cons (V:=[]) (qu _ _ _)).more fun q hq=>?_⟩;exact(zA hq).2
     ·cases h
    ·cases h
   ·split at h
    ·split at h
     ·rename_i e; cases h; exact .inl (ks_new e)
     ·cases h
    ·cases h
   ·split at h
    ·split at h
     ·rename_i e; cases h; exact .inl (ks_new e)
     ·cases h
    ·cases h
   ·cases h
  ·cases h
 ·cases h
theorem aeff_ks{X:Cx} {n:Nat} {st st':ASt} {op:Op} {d:Option Nat} {c:Bool} (h:aeff X n st d op=some (c,st')):KS (dstL d++touchOp X st.L op) st st':=by
 unfold aeff at h
 split at h
 ·split at h
  ·exact ks_box h
  ·cases h
 ·split at h
  ·split at h
   ·rename_i e; cases h; exact ks_box e
   ·cases h
  ·cases h
 ·split at h
  ·rename_i e1 e2
   split at h
   ·rename_i e
    cases h
    rcases ks_store e with⟨id,o,rfl,hk⟩ | ⟨id,sz,i,o,rfl,hk⟩
    ·simp only[touchOp,e1]; exact hk
    ·simp only[touchOp,e1]; exact hk
   ·cases h
  ·cases h
 ·split at h
  ·exact ks_buildSlice h
  ·cases h
 ·split at h
  ·split at h
   ·rename_i e; cases h; exact ks_makeSlice e
   ·cases h
  ·cases h
 ·split at h
  ·rename_i hu hv
   split at h
   ·rename_i e
    cases h
    rcases ks_append e with hk | ⟨id,rfl,hk⟩
    ·exact hk.more fun q hq=>(inN_app.1 hq).1
    ·simp only[touchOp,hu]; exact hk
   ·cases h
  ·cases h
 ·cases h
def touchO(X:Cx) (L:Sl) (o:Oper):List Nat:=dstL o.dst++touchOp X L o.op
theorem astep_ks{X:Cx} {n:Nat} {dsts:List (Option Nat)} {st st':ASt} {o:Oper} {c:Bool} (hg:o.guard=none) (h:astep X n dsts st o=.ok c st'):KS (touchO X st.L o) st st':=by
 obtain⟨L,H⟩:=st;simp only[astep,hg]at h;have one:∀ {d:Nat} {sv:SV},o.dst=some d->KS (touchO X L o) ⟨L,H⟩ ⟨(d,sv) :: L,H⟩:=fun {d sv} hd=>by
  refine KS.more (V:=[d]) ⟨Kp.cons (Kp.refl _),Kp.refl _⟩ fun q hq=>?_
  have:=(inN_app.1 hq).1
  rw[hd]at this;exact this
 split at h
 ·split at h
  ·rename_i d hd
   split at h
   ·cases h; exact one hd
   ·cases h
  ·cases h
 ·split at h
  ·split at h
   ·rename_i d hd
    split at h
    ·cases h; exact one hd
    ·cases h
   ·cases h
  ·split at h
   ·rename_i e
    cases h;exact aeff_ks e
   ·cases h
theorem kh_erase{id:Nat}:∀ H:Hp,KH [id] H (eraseH id H)
 | []=>Kp.refl []
 | (k,b) :: r=>fun q v hq hl=>by
  have hne:=(zA hq).1;unfold eraseH at hl
  split at hl
  ·rename_i e
   have hk:=Nat.eq_of_beq_eq_true e;exact⟨v,by rw[zu,if_neg (by rw[hk]; exact hne)]; exact hl,fun _=>rfl⟩
  ·rw[zu]at hl ⊢
   split at hl
   ·rename_i e; rw[if_pos e]; exact⟨_,rfl,fun _=>by cases hl; rfl⟩
   ·rename_i e; rw[if_neg e]; exact kh_erase r q v hq hl
theorem kh_frame{js ks:List Nat} {V:List Nat}:∀ H:Hp,KH V H (qc js ks H)
 | []=>Kp.refl []
 | (k,b) :: r=>fun q v hq hl=>by
  unfold qc at hl
  split at hl
  ·rename_i e
   obtain⟨u,h1,h2⟩:=kh_frame r q v hq hl
   by_cases hne:q=k
   ·subst hne
    exact(frame_none e hl).elim
   ·exact⟨u,by rw[zu,if_neg hne]; exact h1,h2⟩
  ·rw[zu]at hl ⊢
   split at hl
   ·rename_i e; cases hl; rw[if_pos e]; exact⟨b,rfl,fun hf=>blk_kill_free hf⟩
   ·rename_i e; rw[if_neg e]; exact kh_frame r q v hq hl
where frame_none {js ks:List Nat} {k:Nat} (hk:js.elem k=true) {v:Blk}:∀ {H:Hp},lk (qc js ks H) k=some v->False
 | [],h=>by cases h
 | (j,b) :: r,h=>by
  unfold qc at h
  split at h
  ·exact frame_none hk h
  ·rename_i e
   rw[zu,if_neg (fun e'=>by subst e'; exact absurd hk (by simp_all))]at h;exact frame_none hk h
theorem seconds_mem{ps:Ps} {i j:Nat} (h:lk ps i=some j) {q:Nat} (hq:inN q (qv ps)=false):q≠j:=by
 induction ps with
 | nil=>cases h
 | cons p r ih=>
  obtain⟨a,b⟩:=p;rw[zu]at h;have hq':inN q (b :: qv r)=false:=hq
  split at h
  ·cases h; exact(zA hq').1
  ·exact ih h (zA hq').2
theorem kh_pass{ps qs:Ps}:∀ {is:List Nat} {H h H1:Hp},passG ps qs is H=some (h,H1)->KH (qv ps) H H1
 | [],H,h,H1,hp=>by cases hp; exact Kp.refl _
 | i :: is,H,h,H1,hp=>by
  unfold passG at hp
  split at hp
  ·rename_i j hj
   split at hp
   ·split at hp
    ·rename_i b h0 l0 hb hr
     cases hp;have h1:=kh_pass hr;refine((kh_erase H).trans h1).more fun q hq=>inN_app.2 ⟨hq,inN_cons.2 ⟨seconds_mem hj hq,rfl⟩⟩
    ·cases hp
   ·cases hp
  ·cases hp
theorem renH_keys{ps:Ps}:∀ {h h':Hp},renH ps h=some h'->∀ q,inN q (qv ps)=false->inN q (h'.map (·.1))=false
 | [],h',e,q,hq=>by cases e; rfl
 | (i,b) :: r,h',e,q,hq=>by
  unfold renH at e
  split at e
  ·rename_i j b2 r2 hj hb hr
   cases e;exact inN_cons.2 ⟨seconds_mem hj hq,renH_keys hr q hq⟩
  ·cases e
theorem after_ks{X:Cx} {n:Nat} {e:CT X} {ps:Ps} {st st':ASt} {d:Nat} {args:List SA} {p:Pre X e} {r:e.ρ} (hp:prep X n e ps st.H args=some p) (h:after X e ps st d p r=some st'):KS (d :: qv ps) st st':=by
 unfold after at h
 split at h
 ·rename_i sv' h'' e1 e2
  have hk:=renH_keys e2
  split at h
  ·cases h
   refine⟨(Kp.cons (V:=[]) (Kp.refl _)).more fun q hq=>inN_cons.2 ⟨(zA hq).1,rfl⟩,(Kp.append (V:=[]) (Kp.refl _) rfl).more fun q hq=>inN_app.2 ⟨hk q (zA hq).2,rfl⟩⟩
  ·cases h
   have h1:KH (qv ps) st.H p.H1:=by
    unfold prep at hp
    split at hp
    ·rename_i hpass
     split at hp
     ·split at hp
      ·cases hp; exact kh_pass hpass
      ·cases hp
     ·cases hp
    ·cases hp
   refine⟨(Kp.cons (V:=[]) (kl_kill _ _)).more fun q hq=>inN_cons.2 ⟨(zA hq).1,rfl⟩,?_⟩;refine(Kp.append (h1.trans (kh_frame (V:=[]) _)) rfl).more fun q hq=>?_
   have h2:=(zA hq).2;exact inN_app.2 ⟨hk q h2,inN_app.2 ⟨rfl,h2⟩⟩
 ·cases h
end

section
def xop(X:Cx) (n:Nat) (st:ASt) (d:Nat):Op->Option (Bool×ASt)
 | .range t u=>match X.tt.find t,ae X st.L u with
  | some ⟨⟨.string,_,_,_⟩,_⟩,some (g,.c (.str s))=>some (g,⟨(d,.c (.ptr d 0)) :: qb d .dead st.L,(d,.sit ⟨s.toArray⟩ 0) :: zM d .dead st.H⟩)
  | _,_=>none
 | .index t u x=>match X.tt.find t with
  | some ⟨⟨.string,_,_,_⟩,_⟩=>match ae X st.L u,ae X st.L x with
   | some (g,.c (.str s)),some (g2,.c (.val (.int _ z)))=>some (g&&(g2&&ze z s.length),⟨(d,.c (.val (.int .u8 ((s.getD z.toNat 0).toNat:Int)))) :: st.L,st.H⟩)
   | _,_=>none
  | some ⟨⟨.array m e,_,_,_⟩,_⟩=>match elG X e,ae X st.L u,ae X st.L x with
   | some (ee,g),some (g1,ux),some (g2,.c (.val (.int _ z)))=>match arrL g m ux,Nat.beq g.size ee.ti.size,decEq (qt ee.ti.desc) g.isPair,g.isPair || Nat.beq g.size 1 with
    | some (c,l),true,isTrue _,true=>match vSA g (l.getD z.toNat g.zero)with
     | some sa=>some (g1&&(g2&&(c&&(ze z m&&ze z l.length))),⟨(d,.a sa) :: st.L,st.H⟩)
     | none=>none
    | _,_,_,_=>none
   | _,_,_=>none
  | _=>none
 | .convert t t' u=>match X.tt.find t,X.tt.find t',ae X st.L u with
  | some ⟨⟨.slice e,_,_,_⟩,_⟩,some ⟨⟨.string,_,_,_⟩,_⟩,some (g,ux)=>match X.tt.find e,srcL st (.int .u8) ux with
   | some ⟨⟨.int .u8,_,_,_⟩,_⟩,some l=>some (g&&isBs l,⟨(d,.c (.str (bsOf l))) :: st.L,st.H⟩)
   | _,_=>none
  | _,_,_=>none
 | .slice t u lo hi none=>match X.tt.find t,ae X st.L u with
  | some ⟨⟨.string,_,_,_⟩,_⟩,some (g,.c (.str s))=>match lo,hi with
   | some x,none=>match ae X st.L x with
    | some (g2,.c (.val (.int _ z)))=>some (g&&(g2&&(decide (0<=z)&&decide (z<=(s.length:Int)))),⟨(d,.c (.str (s.drop z.toNat))) :: st.L,st.H⟩)
    | _=>none
   | none,some x=>match ae X st.L x with
    | some (g2,.c (.val (.int _ z)))=>some (g&&(g2&&(decide (0<=z)&&decide (z<=(s.length:Int)))),⟨(d,.c (.str (s.take z.toNat))) :: st.L,st.H⟩)
    | _=>none
   | some x,some y=>match ae X st.L x,ae X st.L y with
    | some (g2,.c (.val (.int _ z))),some (g3,.c (.val (.int _ z2)))=>some (g&&(g2&&(g3&&(decide (0<=z)&&(decide (z<=z2)&&decide (z2<=(s.length:Int)))))),⟨(d,.c (.str ((s.take z2.toNat).drop z.toNat))) :: st.L,st.H⟩)
    | _,_=>none
   | none,none=>none
  | _,_=>none
 | .slice t u none (some y) (some v)=>match X.tt.find t,ae X st.L u,ae X st.L y,ae X st.L v with
  | some ⟨⟨.slice e,_,_,_⟩,_⟩,some (g1,.c (.sl id)),some (g2,.c (.val (.int _ z))),some (g3,.c (.cpo id2))=>match X.tt.find e,lk st.H id,Nat.beq id2 id,Nat.blt d n&&Nat.blt id zP with
   | some _,some (.row T g l cap),true,true=>some (g1&&(g2&&(g3&&(decide (0<=z)&&decide (z<=(l.length:Int))))),⟨(d,.c (.sl id)) :: qb id .dead st.L,(id,.row T g (l.take z.toNat) cap) :: zM id .dead st.H⟩)
   | _,_,_,_=>none
  | _,_,_,_=>none
 | .load t x=>match X.tt.find t,ae X st.L x with
  | some ⟨⟨.array m e,sz,b,zz⟩,tg⟩,some (g1,.c (.elt id _ 0 0))=>match lk st.H id with
   | some (.row _ g l _)=>match Nat.beq sz (m * g.size)with
    | true=>some (g1&&decide (l.length=m),⟨(d,.a (.arr g l)) :: st.L,st.H⟩)
    | false=>none
   | _=>none
  | some ⟨⟨.array m e,sz,b,zz⟩,tg⟩,some (g1,.c (.par g l))=>match Nat.beq sz (m * g.size)with
   | true=>some (g1&&decide (l.length=m),⟨(d,.a (.arr g l)) :: st.L,st.H⟩)
   | false=>none
  | _,_=>none
 | .call ⟨.builtin .append,⟨[x,y]⟩,⟨[t,t2]⟩⟩=>match Nat.beq t2 t,X.tt.find t,ae X st.L x,ae X st.L y with
  | true,some ⟨⟨.slice e,_,_,_⟩,_⟩,some (g1,.c (.sl id)),some (g2,sy)=>match X.tt.find e,lk st.H id with
   | some ⟨⟨_,sz,bts,_⟩,some _⟩,some (.lrow e' g l)=>match Nat.beq e' e,Nat.beq g.size sz,srcL st g sy,Nat.blt id zP with
    | true,true,some l2,true=>some (g1&&(g2&&zV bts (l.length+l2.length)),⟨(d,.c (.sl id)) :: qb id .dead st.L,(id,.lrow e g (l++l2)) :: zM id .dead st.H⟩)
    | _,_,_,_=>none
   | _,_=>none
  | true,some ⟨⟨.slice e,_,_,_⟩,_⟩,some (g1,.c (.lst g l (some c))),some (g2,sy)=>match X.tt.find e with
   | some ⟨⟨_,sz,bts,_⟩,some _⟩=>match Nat.beq g.size sz,srcL st g sy with
    | true,some l2=>some (g1&&(g2&&(zV bts (l.length+l2.length)&&decide (c=l.length))),⟨(d,.c (.sl d)) :: qb d .dead st.L,(d,.lrow e g (l++l2)) :: zM d .dead st.H⟩)
    | _,_=>none
   | _=>none
  | _,_,_,_=>none
 | .call ⟨.builtin .copy,⟨[x,y]⟩,⟨[t,t2]⟩⟩=>match Nat.beq t2 t,X.tt.find t,ae X st.L x,ae X st.L y with
  | true,some ⟨⟨.slice e,_,_,_⟩,_⟩,some (g1,.c (.sl id)),some (g2,sy)=>match X.tt.find e,lk st.H id with
   | some ⟨⟨_,sz,bts,_⟩,some _⟩,some (.row e' g l cap)=>match Nat.beq e' e,Nat.beq g.size sz,srcL st g sy with
    | true,true,some l2=>some (g1&&(g2&&Nat.beq l2.length l.length),⟨(d,.c (.val (.int .i64 (l.length:Int)))) :: st.L,zX id (.row e g l2 cap) st.H⟩)
    | _,_,_=>none
   | _,_=>none
  | true,some ⟨⟨.slice e,_,_,_⟩,_⟩,some (g1,.c (.slp id s p)),some (g2,sy)=>match X.tt.find e,lk st.H id with
   | some ⟨⟨_,sz,bts,_⟩,some _⟩,some (.row e' g l cap)=>match Nat.beq e' e,Nat.beq g.size sz,Nat.beq s sz,srcL st g sy,Nat.blt 0 sz with
    | true,true,true,some l2,true=>some (g1&&(g2&&decide (p+l2.length<=l.length)),⟨(d,.c (.val (.int .i64 (l2.length:Int)))) :: st.L,zX id (.row e g (l.take p++l2++l.drop (p+l2.length)) cap) st.H⟩)
    | _,_,_,_,_=>none
   | _,_=>none
  | _,_,_,_=>none
 | _=>none
def xst(X:Cx) (st:ASt):Op->Option (Bool×ASt)
 | .store t x y=>match X.tt.find t,ae X st.L x,ae X st.L y with
  | some te,some (g1,.c (.elt id 1 i 0)),some (g2,.c (.sl d))=>match lk st.H id,lk st.H d,Nat.beq te.ti.size 1 with
   | some (.row T (.sl g) l cap),some (.row _ _ _ _),true=>some (g1&&(g2&&decide (i < l.length)),⟨st.L,zX id (.hrow false T g l cap i d) st.H⟩)
   | some (.row T (.csl g) l cap),some (.row _ _ l2 (some q)),true=>some (g1&&(g2&&(decide (i < l.length)&&Nat.beq q l2.length)),⟨st.L,zX id (.hrow true T g l cap i d) st.H⟩)
   | some (.mrow T T' g l cap h),_,true=>some (g1&&(g2&&(okHole h i&&decide (i < l.length))),⟨st.L,zX id (.mrow T T' g l cap (some (i,some d))) st.H⟩)
   | _,_,_=>none
  | _,_,_=>none
 | _=>none
section
variable {X:Cx} {n:Nat} {st st':ASt} {o:Oper} {d:Nat}
theorem elG_ok{e:TypeId} {te:TE} {g:GTy} (h:elG X e=some (te,g)):X.tt.find e=some te/\te.g=some g:=by
 unfold elG at h
 split at h
 ·rename_i h1
  split at h
  ·rename_i h2; cases h; exact⟨h1,h2⟩
  ·cases h
 ·cases h
theorem xst_ok(hX:X.tt.ok X.P) {c:Bool} (h:xst X st o.op=some (c,st')) (hc:c=true) (ho:o.guard=none/\o.dst=none):StepOk X n o st st':=by
 unfold xst at h
 split at h
 ·rename_i hop
  split at h
  ·rename_i ht hx hy
   split at h
   ·rename_i h1 h2 h3
    cases h;simp only[Bool.and_eq_true]at hc;exact sk_storeH hX hop ho ht h3 hx hc.1 hy hc.2.1 h1 h2 hc.2.2
   ·rename_i h1 h2 h3
    cases h;simp only[Bool.and_eq_true]at hc;exact sk_storeHc hX hop ho ht h3 hx hc.1 hy hc.2.1 h1 h2 hc.2.2.1 hc.2.2.2
   ·rename_i h1 h3
    cases h;simp only[Bool.and_eq_true]at hc;exact sk_storeT hX hop ho ht h3 hx hc.1 hy hc.2.1 h1 hc.2.2.1 hc.2.2.2
   ·cases h
  ·cases h
 ·cases h
theorem xst_ks{c:Bool} {op:Op} (h:xst X st op=some (c,st')):∃ id,KS [id] st st'/\(∃ t x y g1 i,op=.store t x y/\ae X st.L x=some (g1,.c (.elt id 1 i 0))):=by
 unfold xst at h
 split at h
 ·split at h
  ·rename_i ht hx hy
   split at h
   ·cases h
    exact⟨_,⟨Kp.refl _,qm (in1 _ _)⟩,_,_,_,_,_,rfl,hx⟩
   ·cases h
    exact⟨_,⟨Kp.refl _,qm (in1 _ _)⟩,_,_,_,_,_,rfl,hx⟩
   ·cases h
    exact⟨_,⟨Kp.refl _,qm (in1 _ _)⟩,_,_,_,_,_,rfl,hx⟩
   ·cases h
  ·cases h
 ·cases h
theorem xop_ok(hX:X.tt.ok X.P) {c:Bool} (h:xop X n st d o.op=some (c,st')) (hc:c=true) (ho:o.guard=none/\o.dst=some d) (hd:Nat.blt d n=true):StepOk X n o st st':=by
 unfold xop at h
 split at h
 ·rename_i hop
  split at h
  ·rename_i ht hu
   cases h;exact sk_range hX hop ho hd ht rfl hu hc
  ·cases h
 ·rename_i hop
  split at h
  ·rename_i ht
   split at h
   ·rename_i hu hx
    cases h;simp only[Bool.and_eq_true]at hc;exact sk_strIndex hX hop ho hd ht rfl hu hc.1 hx hc.2.1 hc.2.2
   ·cases h
  ·rename_i ht
   split at h
   ·rename_i he hu hx
    obtain⟨he1,he2⟩:=elG_ok he
    split at h
    ·rename_i h3 h1 h2 _ h4
     split at h
     ·rename_i h5
      cases h;simp only[Bool.and_eq_true]at hc;exact sk_idxA _ _ _ hX hop ho hd ht rfl he1 h2 h3 h4 hu hc.1 hx hc.2.1 h1 hc.2.2.1 hc.2.2.2.1 hc.2.2.2.2 h5
     ·cases h
    ·cases h
   ·cases h
  ·cases h
 ·rename_i hop
  split at h
  ·rename_i ht ht' hu
   split at h
   ·rename_i he hs
    cases h;simp only[Bool.and_eq_true]at hc;exact sk_strOf hX hop ho hd ht rfl ht' rfl he rfl hu hc.1 hs hc.2
   ·cases h
  ·cases h
 ·rename_i hop
  split at h
  ·rename_i ht hu
   split at h
   ·split at h
    ·rename_i hx
     cases h;simp only[Bool.and_eq_true]at hc;exact sk_sliceSf hX hop ho hd ht rfl hu hc.1 hx hc.2.1 hc.2.2.1 hc.2.2.2
    ·cases h
   ·split at h
    ·rename_i hx
     cases h;simp only[Bool.and_eq_true]at hc;exact sk_sliceSt hX hop ho hd ht rfl hu hc.1 hx hc.2.1 hc.2.2.1 hc.2.2.2
    ·cases h
   ·split at h
    ·rename_i hx hy
     cases h;simp only[Bool.and_eq_true]at hc;exact sk_sliceSm hX hop ho hd ht rfl hu hc.1 hx hc.2.1 hy hc.2.2.1 hc.2.2.2.1 hc.2.2.2.2.1 hc.2.2.2.2.2
    ·cases h
   ·cases h
  ·cases h
 ·rename_i hop
  split at h
  ·rename_i ht hu hy hv
   split at h
   ·rename_i he hl hid hn
    cases h
    have:=Nat.eq_of_beq_eq_true hid
    subst this;rw[Bool.and_eq_true,Bool.and_eq_true,Bool.and_eq_true]at hc;exact sk_pop hX hop ho hn ht rfl he hu hc.1 hy hc.2.1 hv hc.2.2.1 hl hc.2.2.2
   ·cases h
  ·cases h
 ·rename_i hop
  split at h
  ·rename_i ht hx
   split at h
   ·rename_i hl
    split at h
    ·rename_i hsz
     cases h;simp only[Bool.and_eq_true]at hc;exact sk_loadA hX hop ho hd ht rfl hx hc.1 hl hsz hc.2
    ·cases h
   ·cases h
  ·rename_i ht hx
   split at h
   ·rename_i hsz
    cases h;simp only[Bool.and_eq_true]at hc;exact sk_loadP hX hop ho hd ht rfl hx hc.1 hsz hc.2
   ·cases h
  ·cases h
 ·rename_i hop
  split at h
  ·rename_i h0 ht hx hy
   have:=Nat.eq_of_beq_eq_true h0
   subst this
   split at h
   ·rename_i he hl
    split at h
    ·rename_i h1 h2 h3 h4
     have:=Nat.eq_of_beq_eq_true h1
     subst this;cases h;simp only[Bool.and_eq_true]at hc;exact sk_appendR hX hop ho (by rw[hd,h4]; rfl) ht rfl he hx hc.1 hy hc.2.1 hl h2 h3 hc.2.2
    ·cases h
   ·cases h
  ·rename_i h0 ht hx hy
   have:=Nat.eq_of_beq_eq_true h0
   subst this
   split at h
   ·rename_i he
    split at h
    ·rename_i h2 h3
     cases h;simp only[Bool.and_eq_true]at hc;exact sk_appendL hX hop ho hd ht rfl he hx hc.1 hy hc.2.1 h2 h3 hc.2.2.1 hc.2.2.2
    ·cases h
   ·cases h
  ·cases h
 ·rename_i hop
  split at h
  ·rename_i h0 ht hx hy
   have:=Nat.eq_of_beq_eq_true h0
   subst this
   split at h
   ·rename_i he hl
    split at h
    ·rename_i h1 h2 h3
     have:=Nat.eq_of_beq_eq_true h1
     subst this;cases h;simp only[Bool.and_eq_true]at hc;exact sk_copy hX hop ho hd ht rfl he hx hc.1 hy hc.2.1 hl h2 h3 hc.2.2
    ·cases h
   ·cases h
  ·rename_i h0 ht hx hy
   have:=Nat.eq_of_beq_eq_true h0
   subst this
   split at h
   ·rename_i he hl
    split at h
    ·rename_i h1 h2 h4 h3 h5
     have:=Nat.eq_of_beq_eq_true h1
     subst this;cases h;simp only[Bool.and_eq_true]at hc;exact sk_copyP hX hop ho hd ht rfl he hx hc.1 hy hc.2.1 hl h2 h4 h3 h5 hc.2.2
    ·cases h
   ·cases h
  ·cases h
 ·cases h
def xtouch(X:Cx) (st:ASt) (d:Nat):Op->List Nat
 | .call ⟨.builtin _,⟨[x,_]⟩,_⟩=>match ae X st.L x with
  | some (_,.c (.sl id))=>[d,id]
  | some (_,.c (.slp id _ _))=>[d,id]
  | _=>[d]
 | .slice _ u none (some _) (some _)=>match ae X st.L u with
  | some (_,.c (.sl id))=>[d,id]
  | _=>[d]
 | _=>[d]
def xsT(X:Cx) (st:ASt):Op->List Nat
 | .store _ x _=>match ae X st.L x with
  | some (_,.c (.elt id _ _ _))=>[id]
  | _=>[]
 | _=>[]
theorem ks_one{sv:SV}:KS [d] st ⟨(d,sv) :: st.L,st.H⟩:=⟨Kp.cons (V:=[]) (Kp.refl _),(Kp.refl _)⟩
theorem xop_ks{c:Bool} {op:Op} (h:xop X n st d op=some (c,st')):KS (xtouch X st d op) st st':=by
 unfold xop at h
 split at h
 ·split at h
  ·cases h
   exact⟨Kp.cons (qf _ _ _),Kp.cons (V:=[]) (qu _ _ _)⟩
  ·cases h
 ·split at h
  ·split at h
   ·cases h; exact ks_one
   ·cases h
  ·split at h
   ·split at h
    ·split at h
     ·cases h; exact ks_one
     ·cases h
    ·cases h
   ·cases h
  ·cases h
 ·split at h
  ·split at h
   ·cases h; exact ks_one
   ·cases h
  ·cases h
 ·split at h
  ·split at h
   ·split at h
    ·cases h; exact ks_one
    ·cases h
   ·split at h
    ·cases h; exact ks_one
    ·cases h
   ·split at h
    ·cases h; exact ks_one
    ·cases h
   ·cases h
  ·cases h
 ·split at h
  ·rename_i ht hu hy hv
   split at h
   ·cases h
    unfold xtouch;simp only[hu];exact⟨Kp.cons (qf _ _ _),(Kp.cons (V:=[]) (qu _ _ _)).more fun q hq=>(zA hq).2⟩
   ·cases h
  ·cases h
 ·split at h
  ·split at h
   ·split at h
    ·cases h; exact ks_one
    ·cases h
   ·cases h
  ·split at h
   ·cases h; exact ks_one
   ·cases h
  ·cases h
 ·split at h
  ·rename_i h0 ht hx hy
   split at h
   ·split at h
    ·cases h
     unfold xtouch;simp only[hx];exact⟨Kp.cons (qf _ _ _),(Kp.cons (V:=[]) (qu _ _ _)).more fun q hq=>(zA hq).2⟩
    ·cases h
   ·cases h
  ·rename_i h0 ht hx hy
   split at h
   ·split at h
    ·cases h
     unfold xtouch;simp only[hx];exact⟨Kp.cons (qf _ _ _),Kp.cons (V:=[]) (qu _ _ _)⟩
    ·cases h
   ·cases h
  ·cases h
 ·split at h
  ·rename_i h0 ht hx hy
   split at h
   ·split at h
    ·cases h
     unfold xtouch;simp only[hx];exact⟨(Kp.cons (V:=[]) (Kp.refl _)).more fun q hq=>by
      obtain⟨h1,_⟩:=zA hq;unfold inN
      split
      ·rename_i e; exact absurd (Nat.eq_of_beq_eq_true e).symm h1
      ·rfl,qm (by unfold inN; split<;>first | rfl | (exact in1 _ _))⟩
    ·cases h
   ·cases h
  ·rename_i h0 ht hx hy
   split at h
   ·split at h
    ·cases h
     unfold xtouch;simp only[hx];exact⟨(Kp.cons (V:=[]) (Kp.refl _)).more fun q hq=>by
      obtain⟨h1,_⟩:=zA hq;unfold inN
      split
      ·rename_i e; exact absurd (Nat.eq_of_beq_eq_true e).symm h1
      ·rfl,qm (by unfold inN; split<;>first | rfl | (exact in1 _ _))⟩
    ·cases h
   ·cases h
  ·cases h
 ·cases h
def xstep(X:Cx) (n:Nat) (st:ASt) (o:Oper):Option (Bool×ASt×List Nat):=match o.guard with
 | none=>match o.dst with
  | some d=>match Nat.blt d n with
   | true=>match xpure X st o.op with
    | some (c,sa)=>some (c,⟨(d,.a sa) :: st.L,st.H⟩,[d])
    | none=>match xop X n st d o.op with
     | some (c,st')=>some (c,st',xtouch X st d o.op)
     | none=>none
   | false=>none
  | none=>match xst X st o.op with
   | some (c,st')=>some (c,st',xsT X st o.op)
   | none=>none
 | some _=>none
theorem PureOk.sk{sa:SA} (hp:PureOk X st o sa) (ho:o.guard=none/\o.dst=some d) (hd:Nat.blt d n=true):StepOk X n o st ⟨(d,.a sa) :: st.L,st.H⟩:=by
 intro R W Bi ks env B w0 H a w hA KK l hK;obtain⟨v,h1,h2⟩:=hp hA;exact zJ hA.stt ho.1 ho.2 (zk hd) (h2 w fun _=>hA.sh) fun a' hS=>hK a' w env H (hA.set (sv:=.a sa) h1 hS)
theorem xstep_ok(hX:X.tt.ok X.P) {c:Bool} {V:List Nat} (h:xstep X n st o=some (c,st',V)) (hc:c=true):StepOk X n o st st':=by
 unfold xstep at h
 split at h
 ·rename_i hg
  split at h
  ·rename_i d hd
   split at h
   ·rename_i hb
    split at h
    ·rename_i e
     cases h;exact PureOk.sk (fun hA=>xpure_ok hX e hc hA) ⟨hg,hd⟩ hb
    ·split at h
     ·rename_i e
      cases h;exact xop_ok hX e hc ⟨hg,hd⟩ hb
     ·cases h
   ·cases h
  ·rename_i hd
   split at h
   ·rename_i e
    cases h;exact xst_ok hX e hc ⟨hg,hd⟩
   ·cases h
 ·cases h
theorem xstep_ks{c:Bool} {V:List Nat} (h:xstep X n st o=some (c,st',V)):KS V st st':=by
 unfold xstep at h
 split at h
 ·split at h
  ·split at h
   ·split at h
    ·cases h; exact ks_one
    ·split at h
     ·rename_i e
      cases h;exact xop_ks e
     ·cases h
   ·cases h
  ·split at h
   ·rename_i e
    cases h;obtain⟨id,h1,t,x,y,g1,i,hop,h2⟩:=xst_ks e;unfold xsT;rw[hop];simp only[h2];exact h1
   ·cases h
 ·cases h
end
end

section
set_option linter.unusedSectionVars false
theorem ckT_ok{P:Program} {tt:TT} (hX:tt.ok P) (e:Bool) (m:Nat):∀ (k:Nat) (t:TypeId) (g:GTy) (x:g.D) (w:World),g.key=true->eqT P tt k t g=true->(Instr.checkKey e (m+k) t (vd tt t (g.vals x))).run P w=.ok () w:=by
 intro k
 induction k with
 | zero=>intro t g x w _ h; cases h
 | succ k ih=>
  intro t g x w hk h;unfold eqT at h;cases hf:tt.find t with
  | none=>simp[hf]at h
  | some te=>
   rw[hf]at h;dsimp only at h;have hd0:=(TT.get hX hf).ti.1;unfold vd;rw[hf];dsimp only
   split at h
   ·rename_i k1 hd
    rw[hd]at hd0 ⊢;cases g with
    | int k2=>
     show(Instr.checkKey e (m+k+1) t (.int k2 x)).run P w=_;unfold Instr.checkKey
     simp[run_underlying hd0,Result.andThen]
    | _=>cases h
   ·rename_i hd
    rw[hd]at hd0 ⊢;cases g with
    | bool=>
     show(Instr.checkKey e (m+k+1) t (.bool x)).run P w=_;unfold Instr.checkKey
     simp[run_underlying hd0,Result.andThen]
    | _=>cases h
   ·rename_i hd
    rw[hd]at hd0 ⊢;cases g with
    | str=>
     show(Instr.checkKey e (m+k+1) t (qe x)).run P w=_;unfold Instr.checkKey
     simp[run_underlying hd0,Result.andThen]
    | _=>cases h
   ·rename_i fs hd
    rw[hd]at hd0 ⊢;simp only[Bool.and_eq_true,Bool.not_eq_true']at h;show(Instr.checkKey e (m+k+1) t (.agg (g.vals x).toArray)).run P w=_;rw[Instr.checkKey];simp only[Sem.run_bind,run_underlying hd0,Result.andThen_ok];rw[<- Array.forIn_toList];have h2:=h.2.2
    clear hd0 hd h
    obtain⟨xs,hxs⟩:∃ xs:Array Value,xs=(g.vals x).toArray:=⟨_,rfl⟩
    rw[<- hxs];have hx:xs.toList.drop 0=g.vals x:=by rw[hxs]; simp
    clear hxs
    obtain⟨off,hoff⟩:∃ off:Nat,off=0:=⟨_,rfl⟩
    rw[<- hoff]at h2 hx
    clear hoff
    generalize fs.toList=L at h2
    induction L generalizing off g with
    | nil=>simp[eqFs]at h2
    | cons f L ihf=>
     cases L with
     | nil=>
      have h' : (decide (f.name ≠ "_") && (Nat.beq f.offset off && eqT P tt k f.type g)) = true := by
       cases g<;>exact h2
      simp only[Bool.and_eq_true,decide_eq_true_eq]at h';obtain⟨hn,ho,he⟩:=h';have ho:=Nat.eq_of_beq_eq_true ho;simp only[List.forIn_cons,List.forIn_nil,Sem.run_bind,hn,ne_eq,not_false_eq_true,if_true,ho,xl hX hk he (r:=[]) (by rw[hx,List.append_nil]),Result.andThen_ok,ih _ _ _ _ hk he,Sem.run_pure]
     | cons f2 L=>
      cases g with
      | pair g h3=>
       have h' : (decide (f.name ≠ "_") && (Nat.beq f.offset off && (eqT P tt k f.type g && eqFs (eqT P tt k) (off + g.size) (f2 :: L) h3))) = true := h2
       simp only[Bool.and_eq_true,decide_eq_true_eq]at h';obtain⟨hn,ho,he,hr⟩:=h';have ho:=Nat.eq_of_beq_eq_true ho;simp only[GTy.key,Bool.and_eq_true]at hk;have hx':xs.toList.drop off=g.vals x.1++h3.vals x.2:=hx;have hrest:=ihf h3 x.2 hk.2 (off+g.size) (by rw[<- List.drop_drop,hx',<- vals_len x.1 hk.1,List.drop_left]) hr;rw[List.forIn_cons];simp only[Sem.run_bind,hn,ne_eq,not_false_eq_true,if_true,ho,xl hX hk.1 he hx',Result.andThen_ok,ih _ _ _ _ hk.1 he,Sem.run_pure];exact hrest
      | int _=>simp[eqFs]at h2
      | bool=>simp[eqFs]at h2
      | str=>simp[eqFs]at h2
      | sl _=>simp[eqFs]at h2
      | csl _=>simp[eqFs]at h2
      | unit=>simp[eqFs]at h2
   ·cases h
structure SKey(P:Program) (t:TypeId) (g:GTy):Prop where
 eq:KeyOk P t g
 chk:∀ (e:Bool) (x:g.D) (w:World),(Instr.checkKey e 10000 t (.agg (g.vals x).toArray)).run P w=.ok () w
 str:∃ fs,P.underlying t=some (.struct fs)
 pr:∃ a b,g=.pair a b
theorem SKey.of{P:Program} {tt:TT} (hX:tt.ok P) {t:TypeId} {te:TE} {a b:GTy} {fs:Array Field} (hk:(GTy.pair a b).key=true) (hf:tt.find t=some te) (hd:te.ti.desc=.struct fs) (h:eqT P tt 12 t (.pair a b)=true) (hg:P.eqGuardType P.depth t=false):SKey P t (.pair a b):=by
 refine⟨.of hX hk hf hd h hg,fun e x w=>?_,⟨fs,?_⟩,⟨_,_,rfl⟩⟩
 ·have:=ckT_ok hX e 9988 12 t (.pair a b) x w hk h
  unfold vd at this;rw[hf]at this;dsimp only at this;rw[hd]at this;exact this
 ·have:=(TT.get hX hf).ti.1
  rw[hd]at this;exact this
section
variable {P:Program} {B:Nat->Prop} {w:World} {gk gv:GTy} {t:TypeId}
theorem VD.key{g:GTy} (hg:∃ a b,g=.pair a b) (hk:g.key=true) {x:g.D} {v:Value} (h:VD B w g x v):v=.agg (g.vals x).toArray:=by
 obtain⟨a,b,rfl⟩:=hg;obtain⟨vs,e,h1⟩:=h;rw[e,FR.vals hk h1]
theorem VD.keyMk{g:GTy} (hg:∃ a b,g=.pair a b) (hk:g.key=true) (x:g.D):VD B w g x (.agg (g.vals x).toArray):=by
 obtain⟨a,b,rfl⟩:=hg;exact⟨_,rfl,FRk hk x⟩
where FRk:∀ {g:GTy} (hk:g.key=true) (x:g.D),FR B w g x (g.vals x)
 | .int _,_,_=>rfl
 | .bool,_,_=>rfl
 | .str,_,_=>rfl
 | .sl _,h,_=>by cases h
 | .csl _,h,_=>by cases h
 | .unit,h,_=>by cases h
 | .pair g h,hk,x=>by
  simp only[GTy.key,Bool.and_eq_true]at hk;exact⟨_,_,rfl,FRk hk.1 x.1,FRk hk.2 x.2⟩
theorem beq_sym{g:GTy} {x y:g.D} (hk:g.key=true):g.beq x y=g.beq y x:=by
 cases h1:g.beq x y with
 | true=>exact((beq_iff y x hk).2 ((beq_iff x y hk).1 h1).symm).symm
 | false=>
  cases h2:g.beq y x with
  | true=>rw[(beq_iff x y hk).2 ((beq_iff y x hk).1 h2).symm]at h1; cases h1
  | false=>rfl
theorem run_eqS(hK:SKey P t gk) (x y:gk.D) (w1:World):(Op.equal t (.agg (gk.vals x).toArray) (.agg (gk.vals y).toArray)).run P w1=.ok (gk.beq x y) w1:=hK.eq.eq x y w1
theorem MR.findS(hK:SKey P t gk) {z:gk.D} (w1:World):∀ {l:List (gk.D×gv.D)} {es:List MapEntry} (i:Nat),MR B w gk gv l es ->
  (mget gk gv l z=none/\(Instr.findAsking t (.agg (gk.vals z).toArray) es i).run P w1=.ok none w1)\/∃ x j v,mget gk gv l z=some x/\(Instr.findAsking t (.agg (gk.vals z).toArray) es i).run P w1=.ok (some (i+j,v)) w1/\VD B w gv x v/\j < es.length
 | [],_,i,h=>by rw[show _=[] from h]; exact .inl ⟨rfl,rfl⟩
 | x :: l,_,i,⟨e,r,he,h1,h2,h3⟩=>by
  subst he;have hk:=VD.key hK.pr hK.eq.key h1;unfold Instr.findAsking mget;rw[hk];simp only[Sem.run_bind,run_eqS hK z x.1 w1,Result.andThen_ok];rw[beq_sym (x:=z) (y:=x.1) hK.eq.key];cases hb:gk.beq x.1 z with
  | true=>exact .inr ⟨x.2,0,e.val,rfl,rfl,h2,by simp⟩
  | false=>
   rcases MR.findS hK w1 (i+1) h3 with⟨h4,h5⟩ | ⟨y,j,v,h4,h5,h6,h7⟩
   ·exact .inl ⟨h4,by simpa using h5⟩
   ·exact .inr ⟨y,j+1,v,h4,by simpa [Nat.add_assoc,Nat.add_comm 1 j] using h5,h6,by simpa using h7⟩
theorem MR.setS(hK:SKey P t gk) {z:gk.D} {xv:gv.D} {vv:Value} (w1:World) (hv:VD B w gv xv vv):∀ {l:List (gk.D×gv.D)} {es:List MapEntry} (i:Nat),MR B w gk gv l es ->
  ((Instr.findAsking t (.agg (gk.vals z).toArray) es i).run P w1=.ok none w1/\mset gk gv l z xv=l++[(z,xv)]) \/
  ∃ j v e,(Instr.findAsking t (.agg (gk.vals z).toArray) es i).run P w1=.ok (some (i+j,v)) w1/\es[j]?=some e/\e.key=.agg (gk.vals z).toArray/\MR B w gk gv (mset gk gv l z xv) (es.modify j fun e=>{ e with key:=.agg (gk.vals z).toArray,val:=vv })
 | [],_,i,h=>by rw[show _=[] from h]; exact .inl ⟨rfl,rfl⟩
 | x :: l,_,i,⟨e,r,he,h1,h2,h3⟩=>by
  subst he;have hk:=VD.key hK.pr hK.eq.key h1;unfold Instr.findAsking mset;rw[hk];simp only[Sem.run_bind,run_eqS hK z x.1 w1,Result.andThen_ok];rw[beq_sym (x:=z) (y:=x.1) hK.eq.key];cases hb:gk.beq x.1 z with
  | true=>
   have hz:=(beq_iff x.1 z hK.eq.key).1 hb;refine .inr ⟨0,e.val,e,rfl,rfl,by rw[hk,hz],{ e with key:=.agg (gk.vals z).toArray,val:=vv },r,rfl,?_,hv,h3⟩;show VD B w gk x.1 (.agg (gk.vals z).toArray);rw[hz];exact VD.keyMk hK.pr hK.eq.key z
  | false=>
   rcases MR.setS hK w1 hv (i+1) h3 with⟨h4,h5⟩ | ⟨j,v,e',h4,h5,h6,h7⟩
   ·exact .inl ⟨by simpa using h4,by show x :: mset gk gv l z xv=_; rw[h5]; rfl⟩
   ·exact .inr ⟨j+1,v,e',by simpa [Nat.add_assoc,Nat.add_comm 1 j] using h4,by simpa using h5,h6,e,_,rfl,h1,h2,h7⟩
theorem zW{fs:Array Field} (hu:P.underlying t=some (.struct fs)) {k:Value} {es:List MapEntry} {r:Option (Nat×Value)} {w1:World} (h:(Instr.findAsking t k es 0).run P w1=.ok r w1):(Instr.findKey t k es).run P w1=.ok r w1:=by
 unfold Instr.findKey;simp only[Sem.run_bind,run_underlying hu,Result.andThen_ok];cases es with
 | nil=>exact h
 | cons e es=>
  have:Instr.findNow (.struct fs) k (e :: es) 0=none:=by
   unfold Instr.findNow Instr.sameNow
   rfl
  rw[this];exact h
theorem sameBits_vals:∀ {g:GTy},g.key=true->∀ (x:g.D) (n:Nat),∀ v∈g.vals x,Instr.sameBits n v v=true
 | .int _,_,x,n,v,hv=>by
  rw[List.mem_singleton.1 hv];cases n<;>simp[Instr.sameBits]
 | .bool,_,x,n,v,hv=>by
  rw[List.mem_singleton.1 hv];cases n<;>simp[Instr.sameBits]
 | .str,_,x,n,v,hv=>by
  rw[List.mem_singleton.1 hv];have hb:(List.toArray (show List UInt8 from x) == List.toArray (show List UInt8 from x))=true:=beq_self_eq_true _;cases n with
  | zero=>exact hb
  | succ n=>exact hb
 | .sl _,h,_,_,_,_=>by cases h
 | .csl _,h,_,_,_,_=>by cases h
 | .unit,h,_,_,_,_=>by cases h
 | .pair g h,hk,x,n,v,hv=>by
  simp only[GTy.key,Bool.and_eq_true]at hk
  rcases List.mem_append.1 hv with hv | hv
  ·exact sameBits_vals hk.1 x.1 n v hv
  ·exact sameBits_vals hk.2 x.2 n v hv
theorem sameBits_agg{vs:List Value} (h:∀ n,∀ v∈vs,Instr.sameBits n v v=true):Instr.sameBits 10000 (.agg vs.toArray) (.agg vs.toArray)=true:=by
 rw[show(10000:Nat)=9999+1 from rfl];unfold Instr.sameBits;simp only[beq_self_eq_true,Bool.true_and,List.all_eq_true];rintro⟨a,b⟩ hab
 have:a=b/\a∈vs:=by
  clear h
  induction vs with
  | nil=>cases hab
  | cons v vs ih=>
   simp only[List.zip_cons_cons,List.mem_cons,Prod.mk.injEq]at hab
   rcases hab with⟨rfl,rfl⟩ | hab
   ·exact⟨rfl,List.mem_cons_self⟩
   ·obtain⟨q1,q2⟩:=ih hab
    exact⟨q1,List.mem_cons_of_mem _ q2⟩
 obtain⟨rfl,hm⟩:=this;exact h _ _ hm
end
section
variable {X:Cx} {n:Nat} {st:ASt} {o:Oper} {d:Nat}
theorem sk_lookupS(hX:X.tt.ok X.P) {t kt et:TypeId} {te ee:TE} {gk gv:GTy} {u x:Operand} {id:Nat} {l:List (gk.D×gv.D)} {om:Option (List MapEntry×Nat)} {z:gk.D} {g c:Bool} {sx sa:SA} (hK:SKey X.P kt gk) (hop:o.op=.lookup t u x false) (ho:o.guard=none/\o.dst=some d) (hd:Nat.blt d n=true)
  (ht:X.tt.find t=some te) (hte:te.ti.desc=.map kt et) (he:X.tt.find et=some ee) (hz:∀ B w,VD B w gv gv.zero ee.ti.zero)
  (hu:ae X st.L u=some (true,.c (.mref id))) (hx:ae X st.L x=some (g,sx)) (hg:g=true) (hdx:dec gk sx.cells=some (c,z,[])) (hc:c=true) (hsx:xa gk sx=true) (hlk:lk st.H id=some (.mp gk gv l om)) (hsa:vSA gv ((mget gk gv l z).getD gv.zero)=some sa)
  : StepOk X n o st ⟨(d,.a sa) :: st.L,st.H⟩:=by
 intro R W Bi ks env B w0 H a w hA KK lops hnext;obtain⟨vu,h1,b,hb,rfl⟩:=hA.ev hu rfl;obtain⟨vx,h2,h3⟩:=hA.ev hx hg;have hvx:=VD.key hK.pr hK.eq.key (VD.ofSA hdx hc hsx h3);rw[hvx]at h2;obtain⟨ck,K,⟨b',es,clock,hb',rfl,hmr,hst,_⟩,hfoc⟩:=hA.heap.foc hlk;rw[hb]at hb';cases hb';have hob:=(hA.sh.ok _ hfoc.more.mem).2;have e1:=(TT.get hX ht).ti.1;rw[hte]at e1;obtain⟨fs,e3⟩:=hK.str;have e5:=TI.run_zero (TT.get hX he).ti w;have hfin:∃ v,(Instr.lookup t (.map (some b)) (.agg (gk.vals z).toArray) false).run X.P w=.ok v w/\VD B w0 gv ((mget gk gv l z).getD gv.zero) v:=by
  unfold Instr.lookup;simp only[Sem.run_bind,run_underlying e1,Result.andThen_ok,MapKept.run_getObj_map hob,hK.chk,Sem.run_pure]
  rcases hmr.findS hK w (z:=z) 0 with⟨h4,h5⟩ | ⟨y,j,v,h4,h5,h6,_⟩
  ·refine⟨ee.ti.zero,?_,by rw[h4]; exact hz _ _⟩
   simp[zW e3 h5,e5,Result.andThen]
  ·refine⟨v,?_,by rw[h4]; exact h6⟩
   simp[zW e3 h5,Result.andThen]
 obtain⟨v,hrun,hvd⟩:=hfin;refine(zJ hA.stt ho.1 ho.2 (zk hd) (v:=v) (w':=w) ?_ fun a' hS=>?_)
 ·simp[execOp,hop,hA.stt.ev h1,hA.stt.ev h2,hrun]
 ·exact hnext a' _ env H (hA.set (sv:=.a sa) (hvd.sa hsa) hS)
theorem sk_mapsetS(hX:X.tt.ok X.P) {t kt et:TypeId} {te:TE} {gk gv:GTy} {u x y:Operand} {id:Nat} {l:List (gk.D×gv.D)} {om:Option (List MapEntry×Nat)} {z:gk.D} {g g2 c c2:Bool} {sx sy:SA} {xv:gv.D} (hK:SKey X.P kt gk) (hop:o.op=.mapUpdate t u x y) (ho:o.guard=none/\o.dst=none)
  (ht:X.tt.find t=some te) (hte:te.ti.desc=.map kt et)
  (hu:ae X st.L u=some (true,.c (.mref id))) (hx:ae X st.L x=some (g,sx)) (hg:g=true) (hdx:dec gk sx.cells=some (c,z,[])) (hc:c=true) (hsx:xa gk sx=true) (hy:ae X st.L y=some (g2,sy)) (hg2:g2=true) (hlk:lk st.H id=some (.mp gk gv l om))
  (hdec:dec gv sy.cells=some (c2,xv,[])) (hc2:c2=true) (hsh:xa gv sy=true)
  : StepOk X n o st ⟨st.L,zX id (.mp gk gv (mset gk gv l z xv) none) st.H⟩:=by
 intro R W Bi ks env B w0 H a w hA KK lops hnext;obtain⟨vu,h1,b,hb,rfl⟩:=hA.ev hu rfl;obtain⟨vx,h2,h3⟩:=hA.ev hx hg;have hvx:=VD.key hK.pr hK.eq.key (VD.ofSA hdx hc hsx h3);rw[hvx]at h2;obtain⟨vy,h4,h5⟩:=hA.ev hy hg2;have hvd:VD B w0 gv xv vy:=VD.ofSA hdec hc2 hsh h5;obtain⟨ck,K,⟨b',es,clock,hb',rfl,hmr,hst,_⟩,hfoc,hset⟩:=hA.setBlk (b':=.mp gk gv (mset gk gv l z xv) none) hlk;rw[hb]at hb';cases hb';have hob:=(hA.sh.ok _ hfoc.mem).2;have e1:=(TT.get hX ht).ti.1;rw[hte]at e1;obtain⟨fs,e3⟩:=hK.str;have hfin:∃ es' clock',(Instr.mapUpdate t (.map (some b)) (.agg (gk.vals z).toArray) vy).run X.P w=.ok () { w with heap:=w.heap.setIfInBounds b (.map es'.toArray clock') }/\MR B w0 gk gv (mset gk gv l z xv) es'/\Stamped es' clock':=by
  unfold Instr.mapUpdate;simp only[Sem.run_bind,run_underlying e1,Result.andThen_ok,MapKept.run_getObj_map hob,hK.chk]
  rcases hmr.setS hK w hvd (z:=z) 0 with⟨h6,h7⟩ | ⟨j,v,e,h6,h7,h8,h9⟩
  ·refine⟨es++[MapEntry.mk (.agg (gk.vals z).toArray) vy clock],clock+1,?_,?_,?_⟩
   ·simp only[zW e3 h6,Result.andThen_ok,MapKept.run_setObj_map _ hob]
    simp
   ·rw[h7]
    exact MR.snoc (gk:=gk) (x:=(z,xv)) (e:=MapEntry.mk (.agg (gk.vals z).toArray) vy clock) (VD.keyMk hK.pr hK.eq.key z) hvd hmr
   ·refine⟨?_,?_⟩
    ·rw[List.map_append,List.pairwise_append]
     exact⟨hst.1,by simp,fun p hp q hq=>by simp at hq; subst hq; exact hst.2 p hp⟩
    ·intro p hp
     rw[List.map_append,List.mem_append]at hp
     rcases hp with hp | hp
     ·exact Nat.lt_succ_of_lt (hst.2 p hp)
     ·simp at hp; omega
  ·refine⟨es.modify j fun e=>{ e with key:=.agg (gk.vals z).toArray,val:=vy },clock,?_,h9,?_⟩
   ·rw[Nat.zero_add]at h6
    have hkeep:(Instr.keyThatStays (((es.toArray[j]?).map (·.key)).getD (.agg (gk.vals z).toArray)) (.agg (gk.vals z).toArray)).run X.P w=.ok (.agg (gk.vals z).toArray) w:=by
     have:((es.toArray[j]?).map (·.key)).getD (.agg (gk.vals z).toArray)=.agg (gk.vals z).toArray:=by simp[h7,h8]
     rw[this];unfold Instr.keyThatStays;rw[sameBits_agg fun n=>sameBits_vals hK.eq.key z n]
     rfl
    simp only[zW e3 h6,Result.andThen_ok,Sem.run_bind,hkeep,MapKept.run_setObj_map _ hob]
    simp
   ·rw[Stamped,modify_map (f:=fun e=>{ e with key:=.agg (gk.vals z).toArray,val:=vy }) (fun _=>rfl)]
    exact hst
 obtain⟨es',clock',hrun,hmr',hst'⟩:=hfin;refine(x_skip hA.stt ho.1 ho.2 (w':={ w with heap:=w.heap.setIfInBounds b (.map es'.toArray clock') }) ?_ fun a' hS=>?_)
 ·simp[execOp,hop,hA.stt.ev h1,hA.stt.ev h2,hA.stt.ev h4,hrun]
 ·obtain⟨H',h10⟩:=hset _ a' _ ⟨b,es',clock',hb,rfl,hmr',hst',fun _ h=>by cases h⟩ (hA.sh.setO hfoc) hS
  exact hnext a' _ env H' (h10)
end
end

section
set_option linter.unusedSectionVars false
section
variable {X:Cx} {R:Nat->Prop} {W:World} {Bi:Bk} {n:Nat} {ks:List Nat} {env:Nat->Loc} {B:Nat->Prop} {w0:World} {H:List Ck} {st:ASt} {a a':Act} {w:World} {d:Nat} {o:Oper}
theorem sk_loadT(hX:X.tt.ok X.P) {t T T':TypeId} {te:TE} {x:Operand} {id i:Nat} {g:GTy} {l:List (Bool×List g.D)} {cap:Option Nat} {g1:Bool} (hop:o.op=.load t x) (ho:o.guard=none/\o.dst=some d) (hd:Nat.blt d n=true)
  (ht:X.tt.find t=some te) (hag:qt te.ti.desc=false) (hx:ae X st.L x=some (g1,.c (.elt id 1 i 0))) (hg1:g1=true) (hlk:lk st.H id=some (.mrow T T' g l cap none)) (hne:Nat.beq d id=false)
  (hi:decide (i < l.length)=true) (hfl:(l.getD i (false,[])).1=true)
  : StepOk X n o st ⟨(d,.c (.sl d)) :: qb d .dead st.L,(d,.row T' g (l.getD i (false,[])).2 none) :: zX id (.mrow T T' g l cap (some (i,some d))) (zM d .dead st.H)⟩:=by
 intro R W Bi ks env B w0 H a w hA KK lops hnext;have hlt:=of_decide_eq_true hi;have hdi:id≠d:=fun e=>ne_of_beq_false hne e.symm
 obtain⟨vx,h1,b,c,m,he,rfl⟩:=hA.ev hx hg1;obtain⟨c0,K0,⟨A,k,ys,ys',I,he',rfl,htr,hys,hcap⟩,hfoc0⟩:=hA.heap.foc hlk;rw[he]at he';cases he';have hys2:ys'=ys:=hys;subst hys2;obtain⟨v,I',hv,htr',hor⟩:=TRs.hole (show TRs B w0 T' g l ys' I from htr) hlt
 rcases hor with⟨_,A2,k2,xs2,rfl,hf2,hperm⟩ | ⟨hff,_⟩
 ·have hyl:=TRs.length (show TRs B w0 T' g l ys' I from htr)
  have hcell:w.cell? ⟨b,i * 1+0,none⟩=some (.slice A2 (l.getD i (false,[])).2.length k2):=by
   have hown:Owns w (fun k=>R k\/B k) T 1 (some ⟨b,0,none⟩) c l.length ys':=(hA.sh.ok _ hfoc0.more.mem).1 _ List.mem_cons_self;rw[hown.cells rfl _ (by omega)]
   simpa using hv
  refine zJ hA.stt ho.1 ho.2 (zk hd) (v:=.slice A2 (l.getD i (false,[])).2.length k2) (w':=w) (run_load1 hA.stt hop (TT.get hX ht).ti hag h1 hcell) fun a' hS=>?_
  obtain⟨H2,hsub,hA2⟩:=hA.rid hd (.row A2 k2 (l.getD i (false,[])).2.length);obtain⟨c1,K1,hb1,⟨X0,Y0,hH2,rfl⟩,hput⟩:=hA2.heap.put (lk_delH (z:=.dead) hdi hlk);subst hH2;obtain⟨A1,k1,ys1,ys1',I1,he1,rfl,_⟩:=hb1;rw[zC id hdi,he]at he1;cases he1;have hsame:=hA.sh.same (c:=.tree (⟨some ⟨b,0,none⟩,c,T,1,l.length,ys1'⟩ :: I1)) (List.mem_append_left _ (hsub.subset (by simp))) hfoc0.more.mem (b:=b) ⟨_,List.mem_cons_self,rfl⟩ ⟨_,List.mem_cons_self,rfl⟩;simp only[Ck.tree.injEq,List.cons.injEq,Rw.mk.injEq,true_and,and_true]at hsame;obtain⟨rfl,rfl⟩:=hsame
  let p:Rw:=⟨A2,k2,T',g.size,(l.getD i (false,[])).2.length,xs2⟩
  let r0:Rw:=⟨some ⟨b,0,none⟩,c,T,1,l.length,ys1'⟩
  have hsh:=hA2.sh;rw[List.append_assoc,List.cons_append]at hsh;have hs2:SH (fun k=>R k\/B k) w0 (X0++.tree (p :: r0 :: I') :: (Y0++ks.map qW)) w:=hsh.subT ⟨p :: r0 :: I',(List.Perm.cons _ hperm).trans (List.Perm.swap _ _ _),List.Sublist.refl _⟩;have hs3:=hs2.openT;refine hnext a' w _ (p.ck :: (X0++.tree (r0 :: I') :: Y0)) ⟨hS.size,hS.defs,fun s u hs=>?_,⟨_,_,rfl,⟨A2,k2,xs2,zf,rfl,hf2,fun _ h=>by cases h⟩,hput _ _ ⟨_,c,ys1'.set i (.slice none 0 0),ys1',I',by rw[zC id hdi]; exact he,rfl,htr',⟨hlt,.slice A2 (l.getD i (false,[])).2.length k2,?_,fun d' hd'=>by cases hd'; exact⟨A2,k2,_,zf,rfl⟩⟩,hcap⟩⟩,by rw[List.cons_append,List.append_assoc,List.cons_append]; exact hs3,hA2.sub,hA2.new,hA2.pin,hA2.base,hA2.glob⟩
  ·rw[zu]at hs
   split at hs
   ·rename_i e; subst e; cases hs; exact⟨_,hS.this,_,_,_,zf,rfl⟩
   ·rename_i e
    obtain⟨u',h3,h4⟩:=hA2.has s u hs;exact⟨u',hS.other e h3,h4⟩
  ·rw[List.set_set]
   exact(List.set_getElem?_self' hv).symm
 ·rw[hff]at hfl; cases hfl
theorem pk_loadF(hX:X.tt.ok X.P) {t T T':TypeId} {te:TE} {x:Operand} {id i:Nat} {g:GTy} {l:List (Bool×List g.D)} {cap:Option Nat} {g1:Bool} (hop:o.op=.load t x)
  (ht:X.tt.find t=some te) (hag:qt te.ti.desc=false) (hx:ae X st.L x=some (g1,.c (.elt id 1 i 0))) (hg1:g1=true) (hlk:lk st.H id=some (.mrow T T' g l cap none)) (hi:decide (i < l.length)=true) (hfl:(!(l.getD i (false,[])).1)=true):PureOk X st o (.c (.lst g (l.getD i (false,[])).2 none)):=by
 intro R W Bi n ks env B w0 H a w1 hA;have hlt:=of_decide_eq_true hi;obtain⟨vx,h1,b,c,m,he,rfl⟩:=hA.ev hx hg1;obtain⟨ck,K,⟨A,k,ys,ys',I,he',rfl,htr,hys,_⟩,hf⟩:=hA.heap.foc hlk;rw[he]at he';cases he';have hys2:ys'=ys:=hys;subst hys2;obtain⟨v,I',hv,_,hor⟩:=TRs.hole (show TRs B w0 T' g l ys' I from htr) hlt;have hyl:=TRs.length (show TRs B w0 T' g l ys' I from htr)
 rcases hor with⟨hff,_⟩ | ⟨_,_,A2,c2,xs2,e2,q1,q2,q3,q4⟩
 ·rw[hff]at hfl; cases hfl
 ·simp only[List.cons.injEq,and_true]at e2
  subst e2;refine⟨_,⟨A2,c2,xs2,rfl,q1,q2,(fun _ h=>by cases h),q3,q4⟩,fun w hsh=>?_⟩;have hown:Owns w (fun k=>R k\/B k) T 1 (some ⟨b,0,none⟩) c l.length ys':=((hsh (by rw[hop]; rfl)).ok _ hf.more.mem).1 _ List.mem_cons_self;have hcell:w.cell? ⟨b,i * 1+0,none⟩=some (.slice A2 (l.getD i (false,[])).2.length c2):=by
   rw[hown.cells rfl _ (by omega)]
   simpa using hv
  exact run_load1 hA.stt hop (TT.get hX ht).ti hag h1 hcell
theorem sk_makeT(T':TypeId) (gi:GTy) (hX:X.tt.ok X.P) {t e:TypeId} {te ee:TE} {x y:Operand} {k k':IntKind} {zx zy:Int} {g1 g2:Bool} {gg:GTy} (hop:o.op=.makeSlice t x y) (ho:o.guard=none/\o.dst=some d) (hd:Nat.blt d n=true)
  (ht:X.tt.find t=some te) (hte:te.ti.desc=.slice e) (he:X.tt.find e=some ee) (hge:ee.g=some (.sl gg)) (hx:ae X st.L x=some (g1,.c (.val (.int k zx)))) (hg1:g1=true) (hy:ae X st.L y=some (g2,.c (.val (.int k' zy)))) (hg2:g2=true)
  (hc:(decide (0<=zx)&&decide (zx<=zy)&&zH ee.ti.bytes zy)=true)
  : StepOk X n o st ⟨(d,.c (.sl d)) :: qb d .dead st.L,(d,.mrow e T' gi (List.replicate zx.toNat (true,[])) (some zy.toNat) none) :: zM d .dead st.H⟩:=by
 intro R W Bi ks env B w0 H a w hA KK lops hnext;obtain⟨vx,hvx,hrx⟩:=hA.ev hx hg1;obtain⟨vy,hvy,hry⟩:=hA.ev hy hg2;simp only[Bool.and_eq_true,decide_eq_true_eq]at hc;obtain⟨⟨hz0,hz1⟩,hz2⟩:=hc;obtain⟨hz2,hz3⟩:=(zT (by omega)).1 hz2;rw[show vx=_ from hrx]at hvx;rw[show vy=_ from hry]at hvy;obtain⟨h1,h2,h3⟩:=(TT.get hX he).g _ hge;have e1:=(TT.get hX ht).ti.1;rw[hte]at e1;have hs1:ee.ti.size=1:=h1.symm;have hzs:ee.ti.zero.cells.toList=[.slice none 0 0]:=h2;obtain⟨hrun,hrow⟩:=run_makeRow hA.sh e1 (TT.get hX he).ti (z:=[.slice none 0 0]) (by rw[<- hzs]) (by rw[hs1]; rfl) (by omega) (k:=k) (k':=k') (m:=zx.toNat) (c:=zy.toNat) (by omega) (by
  have:((ee.ti.bytes * zy.toNat:Nat):Int)=(ee.ti.bytes:Int) * zy:=by rw[Int.natCast_mul,Int.toNat_of_nonneg (by omega)]
  omega) (by omega)
 rw[Int.toNat_of_nonneg hz0,Int.toNat_of_nonneg (by omega)]at hrun;refine zJ hA.stt ho.1 ho.2 (zk hd) (v:=.slice (some ⟨w.heap.size,0,none⟩) zx.toNat zy.toNat) (w':=w.alloc (.cells (zeros [.slice none 0 0] zy.toNat).toArray e)) (by simp[execOp,hop,hA.stt.ev hvx,hA.stt.ev hvy,hrun]) fun a' hS=>?_
 obtain⟨I,hI,hn⟩:=TRs.nils (B:=B) (w:=w0) (T':=T') (g:=gi) zx.toNat;have hzz:zeros [Value.slice none 0 0] zx.toNat=List.replicate zx.toNat (.slice none 0 0):=by
  unfold zeros
  induction zx.toNat with
  | zero=>rfl
  | succ k ih=>rw[List.replicate_succ,List.flatten_cons,ih,List.replicate_succ]; rfl
 rw[hs1,hzz]at hrow;have hs:=SH.treeN (SH.tree1 (X:=[]) (r:=⟨some ⟨w.heap.size,0,none⟩,zy.toNat,e,1,zx.toNat,List.replicate zx.toNat (.slice none 0 0)⟩) hrow) fun s hs=>⟨_,_,hn s hs⟩
 obtain⟨H',_,h8⟩:=hA.newBlk (d:=d) hd (l:=.row (some ⟨w.heap.size,0,none⟩) zy.toNat zx.toNat) (blk:=.mrow e T' gi (List.replicate zx.toNat (true,[])) (some zy.toNat) none) (sv:=.c (.sl d)) hs ⟨_,zy.toNat,_,_,I,by rw[List.length_replicate]; exact zf,by rw[List.length_replicate],hI,rfl,fun q hq=>by cases hq; rfl⟩ ⟨_,_,_,zf,rfl⟩ hS;exact hnext _ _ _ _ h8
end
inductive Tm where
 | ld
 | ldf
 | st
 | mk
 | mpn (gk gv:GTy)
 | mpg
 | mps
def skeyB(X:Cx) (t:TypeId):GTy->Bool
 | .pair a b=>keyB X t (.pair a b)
 | _=>false
theorem skeyB_ok{X:Cx} (hX:X.tt.ok X.P) {t:TypeId} {g:GTy} (h:skeyB X t g=true):SKey X.P t g:=by
 cases g with
 | pair a b=>
  have h2:keyB X t (.pair a b)=true:=h;unfold keyB at h2
  split at h2
  ·rename_i hf
   simp only[Bool.and_eq_true,Bool.not_eq_true']at h2;exact SKey.of hX h2.1 hf rfl h2.2.1 h2.2.2
  ·cases h2
 | _=>cases h
def zeroB:GTy->Value->Bool
 | .int k,.int k' z=>decide (k'=k)&&decide (z=0)
 | .bool,.bool b=>!b
 | _,_=>false
theorem zeroB_ok{g:GTy} {v:Value} (h:zeroB g v=true):∀ B w,VD B w g g.zero v:=by
 intro B w;cases g with
 | int k=>
  cases v with
  | int k' z=>
   unfold zeroB at h;rw[Bool.and_eq_true,decide_eq_true_eq,decide_eq_true_eq]at h;rw[h.1,h.2];exact(rfl:[Value.int k 0]=[Value.int k 0])
  | _=>cases h
 | bool=>
  cases v with
  | bool b=>
   cases b with
   | true=>cases h
   | false=>exact(rfl:[Value.bool false]=[Value.bool false])
  | _=>cases h
 | _=>cases h
def mstep(X:Cx) (n:Nat) (st:ASt):Tm->Oper->Option (Bool×ASt×List Nat)
 | .mpn gk gv,⟨some d,.makeMap _ none,_,_,_,none⟩=>match Nat.blt d n with
  | true=>some (true,⟨(d,.c (.mref d)) :: qb d .dead st.L,(d,.mp gk gv [] none) :: zM d .dead st.H⟩,[d])
  | false=>none
 | .mpg,⟨some d,.lookup t u x false,_,_,_,none⟩=>match Nat.blt d n,X.tt.find t,ae X st.L u,ae X st.L x with
  | true,some ⟨⟨.map kt et,_,_,_⟩,_⟩,some (true,.c (.mref id)),some (g,sx)=>match lk st.H id,X.tt.find et with
   | some (.mp gk gv l _),some ee=>match dec gk sx.cells,skeyB X kt gk&&(xa gk sx&&zeroB gv ee.ti.zero)with
    | some (c,z,[]),true=>match vSA gv ((mget gk gv l z).getD gv.zero)with
     | some sa=>some (g&&c,⟨(d,.a sa) :: st.L,st.H⟩,[d])
     | none=>none
    | _,_=>none
   | _,_=>none
  | _,_,_,_=>none
 | .mps,⟨none,.mapUpdate t u x y,_,_,_,none⟩=>match X.tt.find t,ae X st.L u,ae X st.L x,ae X st.L y with
  | some ⟨⟨.map kt _,_,_,_⟩,_⟩,some (true,.c (.mref id)),some (g,sx),some (g2,sy)=>match lk st.H id with
   | some (.mp gk gv l _)=>match dec gk sx.cells,dec gv sy.cells,skeyB X kt gk&&(xa gk sx&&xa gv sy)with
    | some (c,z,[]),some (c2,xv,[]),true=>some (g&&(c&&(g2&&c2)),⟨st.L,zX id (.mp gk gv (mset gk gv l z xv) none) st.H⟩,[id])
    | _,_,_=>none
   | _=>none
  | _,_,_,_=>none
 | _,_=>none
section
variable {X:Cx} {n:Nat} {st st':ASt} {o:Oper}
theorem mstep_ok(hX:X.tt.ok X.P) {m:Tm} {c:Bool} {V:List Nat} (h:mstep X n st m o=some (c,st',V)) (hc:c=true):StepOk X n o st st':=by
 unfold mstep at h
 split at h
 ·split at h
  ·rename_i hd
   cases h;exact sk_makeMap _ _ rfl ⟨rfl,rfl⟩ hd
  ·cases h
 ·split at h
  ·rename_i hd ht hu hx
   split at h
   ·rename_i hl he
    split at h
    ·rename_i hdx hk
     simp only[Bool.and_eq_true]at hk
     split at h
     ·rename_i hsa
      cases h;rw[Bool.and_eq_true]at hc;exact sk_lookupS hX (skeyB_ok hX hk.1) rfl ⟨rfl,rfl⟩ hd ht rfl he (zeroB_ok hk.2.2) hu hx hc.1 hdx hc.2 hk.2.1 hl hsa
     ·cases h
    ·cases h
   ·cases h
  ·cases h
 ·split at h
  ·rename_i ht hu hx hy
   split at h
   ·rename_i hl
    split at h
    ·rename_i hdx hdy hk
     simp only[Bool.and_eq_true]at hk;cases h;simp only[Bool.and_eq_true]at hc;exact sk_mapsetS hX (skeyB_ok hX hk.1) rfl ⟨rfl,rfl⟩ ht rfl hu hx hc.1 hdx hc.2.1 hk.2.1 hy hc.2.2.1 hl hdy hc.2.2.2 hk.2.2
    ·cases h
   ·cases h
  ·cases h
 ·cases h
theorem mstep_ks{m:Tm} {c:Bool} {V:List Nat} (h:mstep X n st m o=some (c,st',V)):KS V st st':=by
 unfold mstep at h
 split at h
 ·split at h
  ·cases h
   exact⟨Kp.cons (qf _ _ _),Kp.cons (V:=[]) (qu _ _ _)⟩
  ·cases h
 ·split at h
  ·split at h
   ·split at h
    ·split at h
     ·cases h; exact ks_one
     ·cases h
    ·cases h
   ·cases h
  ·cases h
 ·split at h
  ·split at h
   ·split at h
    ·cases h; exact⟨Kp.refl _,qm (in1 _ _)⟩
    ·cases h
   ·cases h
  ·cases h
 ·cases h
end
section
variable {X:Cx} {n:Nat} {st st':ASt} {d:Nat} {o:Oper}
def tstep(X:Cx) (n:Nat) (st:ASt):Tm->Oper->Option (Bool×ASt×List Nat)
 | .ld,⟨some d,.load t x,_,_,_,none⟩=>match Nat.blt d n,X.tt.find t,ae X st.L x with
  | true,some te,some (g1,.c (.elt id 1 i 0))=>match qt te.ti.desc,Nat.beq d id,lk st.H id with
   | false,false,some (.mrow T T' g l cap none)=>some (g1&&(decide (i < l.length)&&(l.getD i (false,[])).1),⟨(d,.c (.sl d)) :: qb d .dead st.L,(d,.row T' g (l.getD i (false,[])).2 none) :: zX id (.mrow T T' g l cap (some (i,some d))) (zM d .dead st.H)⟩,[d,id])
   | false,_,some (.mrow _ _ _ _ _ (some (j,some d2)))=>some (g1&&decide (i=j),⟨(d,.c (.sl d2)) :: st.L,st.H⟩,[d])
   | _,_,_=>none
  | _,_,_=>none
 | .ldf,⟨some d,.load t x,_,_,_,none⟩=>match Nat.blt d n,X.tt.find t,ae X st.L x with
  | true,some te,some (g1,.c (.elt id 1 i 0))=>match qt te.ti.desc,lk st.H id with
   | false,some (.mrow _ _ g l _ none)=>some (g1&&(decide (i < l.length)&&!(l.getD i (false,[])).1),⟨(d,.c (.lst g (l.getD i (false,[])).2 none)) :: st.L,st.H⟩,[d])
   | _,_=>none
  | _,_,_=>none
 | .st,⟨none,.store t x y,_,_,_,none⟩=>match X.tt.find t,ae X st.L x,ae X st.L y with
  | some te,some (g1,.c (.elt id 1 i 0)),some (g2,.c (.sl d))=>match Nat.beq te.ti.size 1,lk st.H id with
   | true,some (.mrow T T' g l cap h)=>some (g1&&(g2&&(okHole h i&&decide (i < l.length))),⟨st.L,zX id (.mrow T T' g l cap (some (i,some d))) st.H⟩,[id])
   | _,_=>none
  | some te,some (g1,.c (.elt id 1 i 0)),some (g2,.c (.lst g' l2 _))=>match Nat.beq te.ti.size 1,lk st.H id with
   | true,some (.mrow T T' g l cap h)=>match decEq g' g with
    | isTrue e=>some (g1&&(g2&&(okHole h i&&decide (i < l.length))),⟨st.L,zX id (.mrow T T' g (l.set i (false,castL e l2)) cap none) st.H⟩,[id])
    | isFalse _=>none
   | _,_=>none
  | _,_,_=>none
 | .mk,⟨some d,.makeSlice t x y,_,_,_,none⟩=>match Nat.blt d n,X.tt.find t,ae X st.L x,ae X st.L y with
  | true,some ⟨⟨.slice e,_,_,_⟩,_⟩,some (g1,.c (.val (.int _ zx))),some (g2,.c (.val (.int _ zy)))=>match X.tt.find e with
   | some ⟨⟨.slice T',_,bts,_⟩,some (.sl g)⟩=>some (g1&&(g2&&(decide (0<=zx)&&decide (zx<=zy)&&zH bts zy)),⟨(d,.c (.sl d)) :: qb d .dead st.L,(d,.mrow e T' g (List.replicate zx.toNat (true,[])) (some zy.toNat) none) :: zM d .dead st.H⟩,[d])
   | _=>none
  | _,_,_,_=>none
 | m,o=>mstep X n st m o
theorem tstep_ok(hX:X.tt.ok X.P) {m:Tm} {c:Bool} {V:List Nat} (h:tstep X n st m o=some (c,st',V)) (hc:c=true):StepOk X n o st st':=by
 unfold tstep at h
 split at h
 ·split at h
  ·rename_i hd ht hx
   split at h
   ·rename_i ha hn hl
    cases h;simp only[Bool.and_eq_true]at hc;exact sk_loadT hX rfl ⟨rfl,rfl⟩ hd ht ha hx hc.1 hl hn hc.2.1 hc.2.2
   ·rename_i ha hl
    cases h;simp only[Bool.and_eq_true]at hc;exact PureOk.sk (pk_loadT hX rfl ht ha hx hc.1 hl hc.2) ⟨rfl,rfl⟩ hd
   ·cases h
  ·cases h
 ·split at h
  ·rename_i hd ht hx
   split at h
   ·rename_i ha hl
    cases h;simp only[Bool.and_eq_true]at hc;exact PureOk.sk (pk_loadF hX rfl ht ha hx hc.1 hl hc.2.1 hc.2.2) ⟨rfl,rfl⟩ hd
   ·cases h
  ·cases h
 ·split at h
  ·rename_i ht hx hy
   split at h
   ·rename_i hs hl
    cases h;simp only[Bool.and_eq_true]at hc;exact sk_storeT hX rfl ⟨rfl,rfl⟩ ht hs hx hc.1 hy hc.2.1 hl hc.2.2.1 hc.2.2.2
   ·cases h
  ·rename_i ht hx hy
   split at h
   ·rename_i hs hl
    split at h
    ·rename_i e _
     subst e;cases h;simp only[Bool.and_eq_true]at hc;exact sk_storeTF hX rfl ⟨rfl,rfl⟩ ht hs hx hc.1 hy hc.2.1 hl hc.2.2.1 hc.2.2.2
    ·cases h
   ·cases h
  ·cases h
 ·split at h
  ·rename_i hd ht hx hy
   split at h
   ·rename_i he
    cases h;rw[Bool.and_eq_true,Bool.and_eq_true]at hc;exact sk_makeT _ _ hX rfl ⟨rfl,rfl⟩ hd ht rfl he rfl hx hc.1 hy hc.2.1 hc.2.2
   ·cases h
  ·cases h
 ·exact mstep_ok hX h hc
theorem tstep_ks{m:Tm} {c:Bool} {V:List Nat} (h:tstep X n st m o=some (c,st',V)):KS V st st':=by
 unfold tstep at h
 split at h
 ·split at h
  ·split at h
   ·cases h
    exact⟨Kp.cons (qf _ _ _),Kp.cons (Kp.trans (V:=[]) (V2:=[_]) (qu _ _ _) (qm (in1 _ _)))⟩
   ·cases h
    exact ks_one
   ·cases h
  ·cases h
 ·split at h
  ·split at h
   ·cases h; exact ks_one
   ·cases h
  ·cases h
 ·split at h
  ·split at h
   ·cases h; exact⟨Kp.refl _,qm (in1 _ _)⟩
   ·cases h
  ·split at h
   ·split at h
    ·cases h; exact⟨Kp.refl _,qm (in1 _ _)⟩
    ·cases h
   ·cases h
  ·cases h
 ·split at h
  ·split at h
   ·cases h
    exact⟨Kp.cons (qf _ _ _),Kp.cons (V:=[]) (qu _ _ _)⟩
   ·cases h
  ·cases h
 ·exact mstep_ks h
end
end

section
def conjR:List Bool->Bool->Bool
  | [],x=>x
  | c :: r,x=>conjR r (c&&x)
theorem zZ:∀ {A:List Bool} {x:Bool},conjR A x=true->(∀ c∈A,c=true)/\x=true
  | [],_,h=>⟨(fun _ h=>by cases h),h⟩
  | c :: r,x,h=>by
    obtain⟨h1,h2⟩:=zZ (A:=r) h;simp only[Bool.and_eq_true]at h2;refine⟨fun d hd=>?_,h2.2⟩
    rcases List.mem_cons.1 hd with rfl | hd
    · exact h2.1
    · exact h1 d hd
inductive In where
  | n (k:Nat)
  | w (x:Wi)
  | c (ps:Ps)
  | y
  | x
  | t (m:Tm)
  | f (j:Nat) (ks:List Int)
  | fb (j:Nat)
  | yg
abbrev Yo (ρ:Type):=Option (Nat->List SA->Option ρ->Option ρ->Option ρ)
def isYield:Option SV->Option Nat
  | some (.a (.c (.val (.func (.yield l) ⟨[]⟩ ⟨[]⟩))))=>some l
  | _=>none
def calleeOf(L:Sl):Operand->Option (FuncId×List SA×List SA)
  | .func f=>some (f,[],[])
  | .tmp s=>match lk L s with
    | some (.a (.c (.fn f ids)))=>some (f,[],ptrAs ids)
    | some (.a (.c (.bfn f id)))=>some (f,[.c (.ptr id 0)],[])
    | _=>none
  | _=>none
def takeN{α:Type}:Nat->List α->List α
  | 0,_=>[]
  | _,[]=>[]
  | k+1,x :: l=>x :: takeN k l
def dropN{α:Type}:Nat->List α->List α
  | 0,l=>l
  | _,[]=>[]
  | k+1,_ :: l=>dropN k l
section
variable {X:Cx} {ρ:Type}
def callT(X:Cx) (n:Nat) (f:FuncId) (ps:Ps) (d:Nat) (st:ASt) (args:List SA) (k:ASt->Option ρ):List (CT X)->Option ρ
  | []=>none
  | e :: T=>match Nat.beq e.f f with
    | true=>match prep X n e ps st.H args with
      | some p=>(e.m p.d).bind fun r=>match after X e ps st d p r with
        | some st'=>k st'
        | none=>none
      | none=>callT X n f ps d st args k T
    | false=>callT X n f ps d st args k T
abbrev Kon (ρ:Type):=Gd->List Nat->List Bool->ASt->Option ρ
def evC(X:Cx) (n:Nat) (T:List (CT X)) (ps:Ps) (V:List Nat) (A:List Bool) (st:ASt) (k:Kon ρ):Oper->Option ρ
  | ⟨some d,.call ⟨.value u,⟨xs⟩,_⟩,_,_,_,none⟩=>match Nat.blt d n,calleeOf st.L u,aes X st.L xs with
    | true,some (f,pre,post),some (c,args)=>gd (conjR (c :: A) true) (callT X n f ps d st (pre++(args++post)) (fun st'=>k [] (d :: (qv ps++V)) [] st') T)
    | _,_,_=>none
  | _=>none
def callG(X:Cx) (n:Nat) (f:FuncId) (d:Nat) (g:Bool) (st:ASt) (args:List SA) (k:SA->Option ρ):List (CT X)->Option ρ
  | []=>none
  | e :: T=>match Nat.beq e.f f with
    | true=>match prep X n e [] st.H args with
      | some p=>(cond g (e.m p.d) (some e.df)).bind fun r=>match after X e [] st d p r,(e.out p.d r).2 with
        | some ⟨(_,.a sa) :: _,_⟩,[]=>k sa
        | _,_=>none
      | none=>callG X n f d g st args k T
    | false=>callG X n f d g st args k T
def evGC(X:Cx) (n:Nat) (T:List (CT X)) (dsts:List (Option Nat)) (G:Gd) (V:List Nat) (A:List Bool) (st:ASt) (k:Kon ρ):Oper->Option ρ
  | ⟨some d,.call ⟨.value u,⟨xs⟩,_⟩,_,_,_,some (j,want)⟩=>match nth dsts j with
    | some (some s)=>match qq st.L s want with
      | some g=>match Nat.blt d n,Nat.beq s d,calleeOf (qw (anc dsts G 8 j want) G st.L) u,aes X (qw (anc dsts G 8 j want) G st.L) xs with
        | true,false,some (f,pre,post),some (c,args)=>gd (conjR (qn g c :: A) true) (callG X n f d g st (pre++(args++post)) (fun sa=>k ((d,j,want) :: qT dsts d G) (d :: V) [] ⟨(d,.may g sa) :: st.L,st.H⟩) T)
        | _,_,_,_=>none
      | none=>none
    | _=>none
  | _=>none
def ev1(X:Cx) (n:Nat) (T:List (CT X)) (dsts:List (Option Nat)) (G:Gd) (V:List Nat) (A:List Bool) (st:ASt) (o:Oper) (k:Kon ρ):Option ρ:=match o.guard with
  | none=>match apureG X dsts [] G st o.op with
    | some (c,sa)=>match o.dst with
      | some d=>match Nat.blt d n with
        | true=>k (qT dsts d G) (d :: V) (c :: A) ⟨(d,.a sa) :: st.L,st.H⟩
        | false=>none
      | none=>none
    | none=>match xstep X n st o with
      | some (c,st',W)=>k [] (W++V) (c :: A) st'
      | none=>match astep X n dsts st o with
        | .ok c st'=>k [] (touchO X st.L o++V) (c :: A) st'
        | .stop=>evC X n T [] V A st k o
  | some (j,want)=>match nth dsts j with
    | some (some s)=>match qq st.L s want with
      | some g=>match apureG X dsts (anc dsts G 8 j want) G st o.op with
        | some (c,sa)=>match o.dst with
          | some d=>match Nat.blt d n,Nat.beq s d with
            | true,false=>k ((d,j,want) :: qT dsts d G) (d :: V) (qn g c :: A) ⟨(d,.may g sa) :: st.L,st.H⟩
            | _,_=>none
          | none=>none
        | none=>evGC X n T dsts G V A st k o
      | none=>none
    | _=>none
def evOps(X:Cx) (n:Nat) (T:List (CT X)) (dsts:List (Option Nat)):List Oper->Gd->List Nat->List Bool->ASt->Kon ρ->Option ρ
  | [],G,V,A,st,k=>k G V A st
  | o :: l,G,V,A,st,k=>ev1 X n T dsts G V A st o fun G' V' A' st'=>evOps X n T dsts l G' V' A' st' k
def evY(X:Cx) (n:Nat) (yo:Yo ρ) (st:ASt) (A:List Bool) (o:Oper) (k:Nat->ASt->Option ρ):Option ρ:=match yo,o with
  | some em,⟨some d,.call ⟨.value (.tmp s),⟨xs⟩,_⟩,_,_,_,none⟩=>match Nat.blt d n,isYield (lk st.L s),aes X st.L xs with
    | true,some l,some (c,args)=>gd (conjR (c :: A) true) (em l args (k d ⟨(d,.c (.val (.bool false))) :: st.L,st.H⟩) (k d ⟨(d,.c (.val (.bool true))) :: st.L,st.H⟩))
    | _,_,_=>none
  | _,_=>none
def evYG(X:Cx) (n:Nat) (yo:Yo ρ) (dsts:List (Option Nat)) (G:Gd) (st:ASt) (A:List Bool) (o:Oper) (k:Gd->Nat->ASt->Option ρ):Option ρ:=match yo,o with
  | some em,⟨some d,.call ⟨.value (.tmp s),⟨xs⟩,_⟩,_,_,_,some (j,want)⟩=>match nth dsts j with
    | some (some sj)=>match qq st.L sj want with
      | some true=>match Nat.blt d n,Nat.beq sj d,isYield (lk (qw (anc dsts G 8 j want) G st.L) s),aes X (qw (anc dsts G 8 j want) G st.L) xs with
        | true,false,some l,some (c,args)=>gd (conjR (c :: A) true) (em l args (k ((d,j,want) :: qT dsts d G) d ⟨(d,.may true (.c (.val (.bool false)))) :: st.L,st.H⟩) (k ((d,j,want) :: qT dsts d G) d ⟨(d,.may true (.c (.val (.bool true)))) :: st.L,st.H⟩))
        | _,_,_,_=>none
      | some false=>match Nat.blt d n,Nat.beq sj d with
        | true,false=>gd (conjR A true) (k ((d,j,want) :: qT dsts d G) d ⟨(d,.may false (.c (.val (.bool false)))) :: st.L,st.H⟩)
        | _,_=>none
      | none=>none
    | _=>none
  | _,_=>none
def evX{ρ:Type} (X:Cx) (n:Nat) (st:ASt) (A:List Bool) (o:Oper) (k:List Nat->ASt->Option ρ):Option ρ:=match o with
  | ⟨some d,.next x true,_,_,_,none⟩=>match Nat.blt d n,ae X st.L x with
    | true,some (g,.c (.ptr id 0))=>match lk st.H id with
      | some (.sit S p)=>gd (conjR (g :: A) true) (cond (decide (p < S.size)) (k [d,id] ⟨(d,.tup [.c (.val (.bool true)),.c (.val (.int .i64 (p:Int))),.c (.val (.int .i32 (Utf8.decode S p).1))]) :: st.L,zX id (.sit S (p+(Utf8.decode S p).2)) st.H⟩) (k [d,id] ⟨(d,.tup [.c (.val (.bool false))]) :: st.L,st.H⟩))
      | _=>none
    | _,_=>none
  | _=>none
def swL{ρ:Type} (z:Int):List Int->(Int->Option ρ)->Option ρ
  | [],_=>none
  | q :: qs,f=>cond (decide (z=q)) (f q) (swL z qs f)
def evL(X:Cx) (n:Nat) (T:List (CT X)) (yo:Yo ρ) (dsts:List (Option Nat)):List In->List Oper->Gd->List Nat->List Bool->ASt->(List Nat->ASt->Option ρ)->Option ρ
  | [],ops,G,V,A,st,k=>evOps X n T dsts ops G V A st fun _ V' A' st'=>gd (conjR A' true) (k V' st')
  | .n m :: is,ops,G,V,A,st,k=>evOps X n T dsts (takeN m ops) G V A st fun G' V' A' st'=>evL X n T yo dsts is (dropN m ops) G' V' A' st' k
  | .w x :: is,ops,_,V,A,st,k=>match wki n x st with
    | some (c,st')=>evL X n T yo dsts is ops [] (x.touch++V) (c :: A) st' k
    | none=>none
  | .c ps :: is,o :: ops,_,V,A,st,k=>evC X n T ps V A st (fun G' V' A' st'=>evL X n T yo dsts is ops G' V' A' st' k) o
  | .c _ :: _,[],_,_,_,_,_=>none
  | .y :: is,o :: ops,_,V,A,st,k=>evY X n yo st A o fun d st'=>evL X n T yo dsts is ops [] (d :: V) [] st' k
  | .x :: is,o :: ops,_,V,A,st,k=>evX X n st A o fun W st'=>evL X n T yo dsts is ops [] (W++V) [] st' k
  | .t m :: is,o :: ops,_,V,A,st,k=>match tstep X n st m o with
    | some (c,st',W)=>evL X n T yo dsts is ops [] (W++V) (c :: A) st' k
    | none=>none
  | .f j ks :: is,ops,_,V,A,st,k=>match lk st.L j with
    | some (.a (.c (.val (.int kd z))))=>gd (conjR A true) (swL z ks fun q=>evL X n T yo dsts is ops [] (j :: V) [] ⟨(j,.a (.c (.val (.int kd q)))) :: st.L,st.H⟩ k)
    | _=>none
  | .fb j :: is,ops,_,V,A,st,k=>match lk st.L j with
    | some (.a (.c (.val (.bool b))))=>gd (conjR A true) (cond b (evL X n T yo dsts is ops [] (j :: V) [] ⟨(j,.a (.c (.val (.bool true)))) :: st.L,st.H⟩ k) (evL X n T yo dsts is ops [] (j :: V) [] ⟨(j,.a (.c (.val (.bool false)))) :: st.L,st.H⟩ k))
    | _=>none
  | .yg :: is,o :: ops,G,V,A,st,k=>evYG X n yo dsts G st A o fun G' d st'=>evL X n T yo dsts is ops G' (d :: V) [] st' k
  | .yg :: _,[],_,_,_,_,_=>none
  | .x :: _,[],_,_,_,_,_=>none
  | .y :: _,[],_,_,_,_,_=>none
  | .t _ :: _,[],_,_,_,_,_=>none
variable {M:Bool} {n:Nat} {rr:Option Nat} {T:List (CT X)} {st0 st st':ASt} {Q:Exit->ASt->Prop} {ops l rest:List Oper} {o:Oper} {r:ρ} {V:List Nat} {A:List Bool}
def KA(k:Kon ρ) (r:ρ):Prop:=∀ G V A st,k G V A st=some r->∀ c∈A,c=true
theorem callT_ok{f:FuncId} {xs:List Operand} {pre post args:List SA} {ps:Ps} {d:Nat} {c:Bool} {k:ASt->Option ρ} (hcal:Callee X st o f xs pre post) (ho:o.guard=none/\o.dst=some d) (hd:Nat.blt d n=true) (hargs:aes X st.L xs=some (c,args)) (hc:c=true):∀ {T:List (CT X)},callT X n f ps d st (pre++(args++post)) k T=some r->∃ st',StepC X n o (kpC st.H ps) st st'/\KS (d :: qv ps) st st'/\k st'=some r
  | [],h=>by cases h
  | e :: T,h=>by
    unfold callT at h
    split at h
    · rename_i hf
      have hf':=Nat.eq_of_beq_eq_true hf;subst hf'
      split at h
      · rename_i p hp
        obtain⟨q,hq,h⟩:=bd h
        split at h
        · rename_i st2 ha
          exact⟨st2,call_ok e ps hcal ho hd (.of hargs hc) hp hq ha,after_ks hp ha,h⟩
        · cases h
      · exact callT_ok hcal ho hd hargs hc h
    · exact callT_ok hcal ho hd hargs hc h
theorem calleeOf_ok{u:Operand} {xs:List Operand} {ts:Array TypeId} {f:FuncId} {pre post:List SA} (hop:o.op=.call { callee:=.value u,args:=xs.toArray,argTypes:=ts }) (h:calleeOf st.L u=some (f,pre,post)):Callee X st o f xs pre post:=by
  refine⟨ts,?_⟩;unfold calleeOf at h
  split at h
  · cases h; exact .inl ⟨hop,rfl,rfl⟩
  · split at h
    · rename_i e; cases h; exact .inr (.inl ⟨_,_,hop,e,rfl,rfl⟩)
    · rename_i e; cases h; exact .inr (.inr ⟨_,_,hop,e,rfl,rfl⟩)
    · cases h
  · cases h
theorem evC_ok{ps:Ps} {k:Kon ρ} (h0:KS V st0 st) (h:evC X n T ps V A st k o=some r):(∀ c∈A,c=true)/\∃ st' V',StepC X n o (kpC st.H ps) st st'/\KS V' st0 st'/\k [] V' [] st'=some r:=by
  unfold evC at h
  split at h
  · rename_i d u xs ts t p a
    split at h
    · rename_i f pre post c args hd hcl hargs
      obtain⟨hc,h⟩:=zI h;have hc':=(zZ hc).1;obtain⟨st',h1,h2,h3⟩:=callT_ok (o:=⟨some d,.call ⟨.value u,⟨xs⟩,ts⟩,t,p,a,none⟩) (calleeOf_ok rfl hcl) ⟨rfl,rfl⟩ hd hargs (hc' c List.mem_cons_self) h;exact⟨fun c hc=>hc' c (List.mem_cons_of_mem _ hc),st',_,h1,by have:=h0.trans h2; exact this,h3⟩
    · cases h
  · cases h
theorem callG_ok{f:FuncId} {d:Nat} {g:Bool} {args:List SA} {k:SA->Option ρ} {r:ρ}:∀ {T:List (CT X)},callG X n f d g st args k T=some r->∃ (e:CT X) (p:Pre X e) (q:e.ρ) (sa:SA),e.f=f/\prep X n e [] st.H args=some p/\(g=true->e.m p.d=some q)/\after X e [] st d p q=some ⟨(d,.a sa) :: st.L,st.H⟩/\k sa=some r
  | [],h=>by cases h
  | e :: T,h=>by
    unfold callG at h
    split at h
    · rename_i hf
      split at h
      · rename_i p hp
        obtain⟨q,hq,h⟩:=bd h
        split at h
        · rename_i d2 sa L2 H2 ha ho
          refine⟨e,p,q,sa,Nat.eq_of_beq_eq_true hf,hp,fun hg=>by rw[hg]at hq; exact hq,?_,h⟩;have h1:H2=st.H/\L2=st.L/\d2=d:=by
            unfold prep at hp
            split at hp
            · rename_i args1 h1 H1 hps hren hpass
              split at hp
              · split at hp
                · cases hp
                  have hH:H1=st.H:=by
                    cases hha:e.HA with
                    | nil=>rw[hha]at hpass; cases hpass; rfl
                    | cons q _=>rw[hha]at hpass; cases hpass
                  unfold after at ha;rw[ho]at ha
                  split at ha
                  · rename_i sv' h'' e1 e2
                    cases e2;cases ha;exact⟨rfl,rfl,rfl⟩
                  · cases ha
                · cases hp
              · cases hp
            · cases hp
          obtain⟨rfl,rfl,rfl⟩:=h1;exact ha
        · cases h
      · exact callG_ok h
    · exact callG_ok h
theorem evGC_A{G:Gd} {k:Kon ρ} (h:evGC X n T (zm ops) G V A st k o=some r):∀ c∈A,c=true:=by
  unfold evGC at h
  split at h
  · split at h
    · split at h
      · split at h
        · obtain⟨hc,h⟩:=zI h
          exact fun c hm=>(zZ hc).1 c (List.mem_cons_of_mem _ hm)
        · cases h
      · cases h
    · cases h
  · cases h
theorem calleeV{dsts:List (Option Nat)} {G:Gd} {ps:List (Nat×Bool)} {u:Operand} {c:FuncId×List SA×List SA} (hG:GInv dsts G st.L) (hp:∀ p∈ps,PT dsts st.L p) (h:calleeOf (qw ps G st.L) u=some c) :
    ∃ st2:ASt,st2.H=st.H/\calleeOf st2.L u=some c/\(∀ {R W Bi ks env B w0 H a w},AI X R W Bi n ks env B w0 H st a w->AI X R W Bi n ks env B w0 H st2 a w)/\(∀ {R W Bi ks env B w0 H a w},AI X R W Bi n ks env B w0 H st2 a w->AI X R W Bi n ks env B w0 H st a w) /\
      ∀ {d:Nat} {sa:SA} {R W Bi ks env B w0 H a w},AI X R W Bi n ks env B w0 H ⟨(d,.a sa) :: st2.L,st2.H⟩ a w->AI X R W Bi n ks env B w0 H ⟨(d,.a sa) :: st.L,st.H⟩ a w:=by
  cases u with
  | tmp s=>
    unfold calleeOf at h;dsimp only at h;cases hl:lk (qw ps G st.L) s with
    | none=>rw[hl]at h; cases h
    | some sv=>
      rcases view_look hG hp s sv hl with h1 | ⟨x,rfl,h1⟩
      · exact⟨st,rfl,by unfold calleeOf; dsimp only; rw[h1]; rw[hl]at h; exact h,fun h=>h,fun h=>h,fun h=>h⟩
      · have key:∀ {L:Sl} {R W Bi ks env B w0 H a w},(∀ q,q≠s->lk L q=lk ((s,SV.a x) :: L) q)->AI X R W Bi n ks env B w0 H ⟨(s,.a x) :: L,st.H⟩ a w->lk L s=some (.may true x)->AI X R W Bi n ks env B w0 H ⟨L,st.H⟩ a w:=fun {L} _ _ _ _ _ _ _ _ _ _ _ hA hs=>⟨hA.size,hA.defs,fun q sv hq=>by
          by_cases e:q=s
          · subst e
            rw[hs]at hq;cases hq;obtain⟨v,hv1,hv2⟩:=hA.has q (.a x) (by rw[zu,if_pos rfl]);exact⟨v,hv1,fun _=>hv2,fun h=>by cases h⟩
          · exact hA.has q sv (by rw[zu,if_neg e]; exact hq),hA.heap,hA.sh,hA.sub,hA.new,hA.pin,hA.base,hA.glob⟩
        refine⟨⟨(s,.a x) :: st.L,st.H⟩,rfl,?_,fun hA=>⟨hA.size,hA.defs,fun q sv hq=>?_,hA.heap,hA.sh,hA.sub,hA.new,hA.pin,hA.base,hA.glob⟩,fun hA=>key (fun q hq=>by rw[zu,if_neg hq]) hA h1,fun {d sa} _ _ _ _ _ _ _ _ _ _ hA=>⟨hA.size,hA.defs,fun q sv hq=>?_,hA.heap,hA.sh,hA.sub,hA.new,hA.pin,hA.base,hA.glob⟩⟩
        · unfold calleeOf
          dsimp only;rw[zu,if_pos rfl];rw[hl]at h;exact h
        · rw[zu]at hq
          split at hq
          · rename_i e
            subst e;cases hq;obtain⟨v,hv1,hv2⟩:=hA.has _ _ h1;exact⟨v,hv1,hv2.1 rfl⟩
          · exact hA.has q sv hq
        · rw[zu]at hq
          split at hq
          · rename_i e
            subst e;cases hq;exact hA.has _ _ (by rw[zu,if_pos rfl])
          · rename_i e
            by_cases e2:q=s
            · subst e2
              rw[h1]at hq;cases hq;obtain⟨v,hv1,hv2⟩:=hA.has q (.a x) (by rw[zu,if_neg e,zu,if_pos rfl]);exact⟨v,hv1,fun _=>hv2,fun h=>by cases h⟩
            · exact hA.has q sv (by rw[zu,if_neg e,zu,if_neg e2]; exact hq)
  | func f=>exact⟨st,rfl,h,fun h=>h,fun h=>h,fun h=>h⟩
  | _=>cases h
theorem after_two{e:CT X} {st2:ASt} {d:Nat} {p:Pre X e} {q:e.ρ} {sa:SA} (hH:st2.H=st.H) (ha:after X e [] st d p q=some ⟨(d,.a sa) :: st.L,st.H⟩):after X e [] st2 d p q=some ⟨(d,.a sa) :: st2.L,st2.H⟩:=by
  unfold after at ha ⊢
  split at ha
  · rename_i sv' h'' e1 e2
    dsimp only at ha ⊢;have h3:=Option.some.inj ha;have h4:(d,sv') :: st.L=(d,SV.a sa) :: st.L:=congrArg ASt.L h3;have h5:h''++st.H=st.H:=congrArg ASt.H h3;rw[hH,h5];have h6:sv'=SV.a sa:=by
      have:=(List.cons.inj h4).1
      exact(Prod.mk.inj this).2
    rw[h6]
  · cases ha
theorem evGC_ok{G:Gd} {k:Kon ρ} (hG:GInv (zm ops) G st.L) (h0:KS V st0 st) (h:evGC X n T (zm ops) G V A st k o=some r):∃ (d:Nat) (g:Bool) (sa:SA) (G':Gd),GInv (zm ops) G' ((d,.may g sa) :: st.L)/\KS (d :: V) st0 ⟨(d,.may g sa) :: st.L,st.H⟩/\k G' (d :: V) [] ⟨(d,.may g sa) :: st.L,st.H⟩=some r /\
    ∀ (R:Nat->Prop) (W:World) (Bi:Bk) (ks:List Nat) (env:Nat->Loc) (B:Nat->Prop) (w0:World) (H:List Ck) (a:Act) (w:World),AI X R W Bi n ks env B w0 H st a w->∀ (KK:Act->World->Prop),
      (∀ a' w' env' B' w0' H',AI X R W Bi n ks env' B' w0' H' ⟨(d,.may g sa) :: st.L,st.H⟩ a' w'->(∀ k,B k->B' k)->KO (fun k=>R k\/B k) w0 w0'->KK a' w')->XO X.P ops.toArray o KK a w:=by
  unfold evGC at h
  split at h
  · rename_i d u xs ts ty po af j want
    split at h
    · rename_i s hj
      split at h
      · rename_i g hg
        split at h
        · rename_i f pre post c args hd hsd hcl hargs
          obtain⟨hc,h⟩:=zI h;have hc':=(zZ hc).1;obtain⟨e,pp,q,sa,hf,hp,hq,ha,hk⟩:=callG_ok h;subst hf;have hne:s≠d:=Nat.ne_of_beq_eq_false hsd;have hG':GInv (zm ops) ((d,j,want) :: qT (zm ops) d G) ((d,.may g sa) :: st.L):=fun e he=>by
            rcases List.mem_cons.1 he with rfl | he
            · exact⟨s,g,sa,hj,by rw[xr hne]; exact hg,by rw[zu,if_pos rfl]⟩
            · exact hG.drop d _ e he
          refine⟨d,g,sa,_,hG',⟨Kp.cons h0.1,h0.2.more fun q hq=>(zA hq).2⟩,hk,?_⟩;intro R W Bi ks env B w0 H a w hA KK hK;have hw:=wanted_gval (l:=ops) (o:=⟨some d,.call ⟨.value u,⟨xs⟩,ts⟩,ty,po,af,some (j,want)⟩) hA rfl hj hg;have put:∀ v,St n (dfs ks Bi) ((d,v) :: qL a) (a.put (some d) v):=fun v=>hA.stt.put d v (zk hd)
          cases g with
          | false=>exact .inr ⟨hw,hK _ _ _ _ _ _ (hA.set (sv:=.may false sa) ⟨(fun h=>by cases h),fun _=>rfl⟩ (put undef)) (fun _ h=>h) (KO.refl _ _)⟩
          | true=>
            have hPT:∀ p∈anc (zm ops) G 8 j want,PT (zm ops) st.L p:=anc_true hG ⟨s,hj,hg⟩;obtain⟨st2,hH2,hcl2,h12,h21,h21d⟩:=calleeV (X:=X) (n:=n) hG hPT hcl;have hao:ArgsOk X n st2 xs args:=fun _ _ _ _ _ _ _ _ _ _ hA=>aes_ok ((h21 hA).view hG hPT) hargs (impB_ok (hc' _ List.mem_cons_self) rfl)
            have h1:=call_ok (o:=⟨some d,.call ⟨.value u,⟨xs⟩,ts⟩,ty,po,af,none⟩) e [] (calleeOf_ok rfl hcl2) ⟨rfl,rfl⟩ hd hao (by rw[hH2]; exact hp) (hq rfl) (after_two hH2 ha) R W Bi ks env B w0 H a w (h12 hA) KK ops fun a' w' env' B' w0' H' hA2 hsub hKO _=>by
              have hA':=h21d hA2;have hd':=hA'.has d (.a sa) (by rw[zu,if_pos rfl]);obtain⟨v,hv1,hv2⟩:=hd';refine hK _ _ _ _ _ _ ⟨hA'.size,hA'.defs,fun q sv hs=>?_,hA'.heap,hA'.sh,hA'.sub,hA'.new,hA'.pin,hA'.base,hA'.glob⟩ hsub hKO
              by_cases hqd:q=d
              · subst hqd
                rw[zu,if_pos rfl]at hs;cases hs;exact⟨v,hv1,fun _=>hv2,fun h=>by cases h⟩
              · exact hA'.has q sv (by rw[zu,if_neg hqd]at hs ⊢; exact hs)
            rcases h1 with⟨_,h2⟩ | ⟨h2,_⟩
            · exact .inl ⟨hw,h2⟩
            · simp[Region.wanted]at h2
        · cases h
      · cases h
    · cases h
  · cases h
theorem ev1_A{G:Gd} {k:Kon ρ} (hk:KA k r) (h:ev1 X n T (zm ops) G V A st o k=some r):∀ c∈A,c=true:=by
  unfold ev1 at h
  split at h
  · split at h
    · split at h
      · split at h
        · exact fun c hc=>hk _ _ _ _ h c (List.mem_cons_of_mem _ hc)
        · cases h
      · cases h
    · split at h
      · exact fun c hc=>hk _ _ _ _ h c (List.mem_cons_of_mem _ hc)
      · split at h
        · exact fun c hc=>hk _ _ _ _ h c (List.mem_cons_of_mem _ hc)
        · exact(evC_ok (KS.refl (V:=V) st) h).1
  · split at h
    · split at h
      · split at h
        · split at h
          · split at h
            · exact fun c hc=>hk _ _ _ _ h c (List.mem_cons_of_mem _ hc)
            · cases h
          · cases h
        · exact evGC_A h
      · cases h
    · cases h
theorem evOps_A{k:Kon ρ} (hk:KA k r):∀ {l:List Oper} {G:Gd} {V:List Nat} {A:List Bool} {st:ASt},evOps X n T (zm ops) l G V A st k=some r->∀ c∈A,c=true
  | [],G,V,A,st,h=>hk _ _ _ _ h
  | o :: l,G,V,A,st,h=>ev1_A (fun _ _ _ _ h'=>evOps_A hk h') h
def StepO(X:Cx) (n:Nat) (ops:List Oper) (o:Oper) (st st':ASt):Prop:=∀ (R:Nat->Prop) (W:World) (Bi:Bk) (ks:List Nat) (env:Nat->Loc) (B:Nat->Prop) (w0:World) (H:List Ck) (a:Act) (w:World),AI X R W Bi n ks env B w0 H st a w->∀ (KK:Act->World->Prop),
  (∀ a' w' env' B' w0' H',AI X R W Bi n ks env' B' w0' H' st' a' w'->KK a' w')->XO X.P ops.toArray o KK a w
theorem StepC.so{kp:Ck->Bool} (h:StepC X n o kp st st'):StepO X n ops o st st':=fun R W Bi ks env B w0 H a w hA KK hK=>h R W Bi ks env B w0 H a w hA KK ops fun a' w' env' B' w0' H' hA' _ _ _=>hK a' w' env' B' w0' H' hA'
structure ZOk(X:Cx) (n:Nat) (ops:List Oper) (Z:List Oper->ρ->ASt->Prop):Prop where
  step:∀ {o rest r st st'},StepO X n ops o st st'->Z rest r st'->Z (o :: rest) r st
  weak:∀ {l r st st'},Wk X n st st'->Z l r st'->Z l r st
def Wanted(X:Cx) (n:Nat) (ops:List Oper) (o:Oper) (st:ASt):Prop:=∀ {R:Nat->Prop} {W:World} {Bi:Bk} {ks:List Nat} {env:Nat->Loc} {B:Nat->Prop} {w0:World} {H:List Ck} {a:Act} {w:World},AI X R W Bi n ks env B w0 H st a w->Region.wanted o (yielded ops.toArray a.tmps)=true
theorem Wanted.none{ops:List Oper} {o:Oper} {st:ASt} (h:o.guard=none):Wanted X n ops o st:=fun _=>by simp[Region.wanted,h]
def YOk(X:Cx) (n:Nat) (ops:List Oper) (yo:Yo ρ) (Z:List Oper->ρ->ASt->Prop):Prop:=∀ em,yo=some em->∀ {l:Nat} {args:List SA} {f t:Option ρ} {r:ρ},em l args f t=some r->∃ rf rt,f=some rf/\t=some rt/\∀ {o:Oper} {rest:List Oper} {st:ASt} {d s:Nat} {xs:List Operand} {ts:Array TypeId} {c:Bool},o.op=.call { callee:=.value (.tmp s),args:=xs.toArray,argTypes:=ts }->Wanted X n ops o st/\o.dst=some d->Nat.blt d n=true->isYield (lk st.L s)=some l->aes X st.L xs=some (c,args)->c=true ->
  Z rest rf ⟨(d,.c (.val (.bool false))) :: st.L,st.H⟩->Z rest rt ⟨(d,.c (.val (.bool true))) :: st.L,st.H⟩->Z (o :: rest) r st
variable {Z:List Oper->ρ->ASt->Prop}
theorem ev1_ok(hX:X.tt.ok X.P) (hZ:ZOk X n ops Z) {G:Gd} (hG:GInv (zm ops) G st.L) (h0:KS V st0 st) {k:Kon ρ} (hkA:KA k r) (h:ev1 X n T (zm ops) G V A st o k=some r) (hk:∀ G' V' A' st',GInv (zm ops) G' st'.L->KS V' st0 st'->k G' V' A' st'=some r->Z rest r st'):Z (o :: rest) r st:=by
  have one:∀ {d:Nat} {sv:SV},KS (d :: V) st0 ⟨(d,sv) :: st.L,st.H⟩:=fun {d sv}=>⟨Kp.cons h0.1,h0.2.more fun q hq=>(zA hq).2⟩
  unfold ev1 at h
  split at h
  · rename_i hgd
    split at h
    · rename_i c sa e1
      split at h
      · rename_i d hdst
        split at h
        · rename_i hd
          have hc:=hkA _ _ _ _ h c List.mem_cons_self;refine hZ.step (st':=⟨(d,.a sa) :: st.L,st.H⟩) ?_ (hk _ _ _ _ (hG.drop d _) one h);intro R W Bi ks env B w0 H a w hA KK hK;obtain⟨v,h1,h2⟩:=apureG_ok hX hA hG (fun _ h=>by cases h) e1 hc;exact zJ hA.stt hgd hdst (zk hd) h2 fun a' hS=>hK a' w env B w0 H (hA.set (sv:=.a sa) h1 hS)
        · cases h
      · cases h
    · split at h
      · rename_i c st2 W e
        have hc:=hkA _ _ _ _ h c List.mem_cons_self;exact hZ.step (xstep_ok hX e hc).c.so (hk _ _ _ st2 GInv.nil (h0.trans (xstep_ks e)) h)
      · split at h
        · rename_i c st2 e
          have hc:=hkA _ _ _ _ h c List.mem_cons_self;refine hZ.step ?_ (hk _ _ _ st2 GInv.nil (h0.trans (astep_ks hgd e)) h);intro R W Bi ks env B w0 H a w hA KK hK;exact astep_ok hX e hc hA fun a' w' env' H' _ hA'=>hK a' w' env' B w0 H' hA'
        · obtain⟨_,st2,V2,h1,h2,h3⟩:=evC_ok h0 h
          exact hZ.step h1.so (hk _ _ _ st2 GInv.nil h2 h3)
  · rename_i j want hgd
    split at h
    · rename_i s hj
      split at h
      · rename_i g hg
        split at h
        · rename_i c sa e1
          split at h
          · rename_i d hdst
            split at h
            · rename_i hd hsd
              have hc:=hkA _ _ _ _ h _ List.mem_cons_self;have hne:s≠d:=Nat.ne_of_beq_eq_false hsd;have hG':GInv (zm ops) ((d,j,want) :: qT (zm ops) d G) ((d,.may g sa) :: st.L):=fun e he=>by
                rcases List.mem_cons.1 he with rfl | he
                · exact⟨s,g,sa,hj,by rw[xr hne]; exact hg,by rw[zu,if_pos rfl]⟩
                · exact hG.drop d _ e he
              refine hZ.step (st':=⟨(d,.may g sa) :: st.L,st.H⟩) ?_ (hk _ _ _ _ hG' one h);intro R W Bi ks env B w0 H a w hA KK hK;have put:∀ v,St n (dfs ks Bi) ((d,v) :: qL a) (a.put o.dst v):=fun v=>by rw[hdst]; exact hA.stt.put d v (zk hd)
              have hw:=wanted_gval hA hgd hj hg;cases g with
              | true=>
                obtain⟨v,h1,h2⟩:=apureG_ok hX hA hG (anc_true hG ⟨s,hj,hg⟩) e1 (impB_ok hc rfl);exact .inl ⟨hw,.inl ⟨v,w,h2,hK _ _ _ _ _ _ (hA.set (sv:=.may true sa) ⟨fun _=>h1,fun h=>by cases h⟩ (put v))⟩⟩
              | false=>exact .inr ⟨hw,hK _ _ _ _ _ _ (hA.set (sv:=.may false sa) ⟨(fun h=>by cases h),fun _=>rfl⟩ (put undef))⟩
            · cases h
          · cases h
        · obtain⟨d,g2,sa,G',q0,q1,q2,q3⟩:=evGC_ok hG h0 h
          exact hZ.step (fun R W Bi ks env B w0 H a w hA KK hK=>q3 R W Bi ks env B w0 H a w hA KK fun a' w' env' B' w0' H' hA' _ _=>hK a' w' env' B' w0' H' hA') (hk _ _ _ _ q0 q1 q2)
      · cases h
    · cases h
theorem evOps_ok(hX:X.tt.ok X.P) (hZ:ZOk X n ops Z) {k:Kon ρ} {r:ρ} (hkA:KA k r):∀ {l rest:List Oper} {G:Gd} {V:List Nat} {A:List Bool} {st:ASt},GInv (zm ops) G st.L->KS V st0 st->evOps X n T (zm ops) l G V A st k=some r->(∀ G' V' A' st',GInv (zm ops) G' st'.L->KS V' st0 st'->k G' V' A' st'=some r->Z rest r st')->Z (l++rest) r st
  | [],rest,G,V,A,st,hG,h0,h,hk=>hk G V A st hG h0 h
  | o :: l,rest,G,V,A,st,hG,h0,h,hk=>ev1_ok hX hZ hG h0 (fun _ _ _ _ h'=>evOps_A hkA h') h fun G' V' A' st' hG' h0' h'=>evOps_ok hX hZ hkA hG' h0' h' hk
theorem take_drop:∀ (m:Nat) (l:List Oper),takeN m l++dropN m l=l
  | 0,_=>rfl
  | _+1,[]=>rfl
  | m+1,x :: l=>by
    show x :: (takeN m l++dropN m l)=_;rw[take_drop m l]
theorem evY_ok{yo:Yo ρ} {k:Nat->ASt->Option ρ} (h:evY X n yo st A o k=some r):(∀ c∈A,c=true)/\∃ em l d s xs ts c args,yo=some em/\o.op=.call { callee:=.value (.tmp s),args:=xs.toArray,argTypes:=ts }/\(o.guard=none/\o.dst=some d)/\Nat.blt d n=true/\isYield (lk st.L s)=some l/\aes X st.L xs=some (c,args)/\c=true/\em l args (k d ⟨(d,.c (.val (.bool false))) :: st.L,st.H⟩) (k d ⟨(d,.c (.val (.bool true))) :: st.L,st.H⟩)=some r:=by
  unfold evY at h
  split at h
  · split at h
    · rename_i hd hy ha
      obtain⟨hc,h⟩:=zI h;have hc':=(zZ hc).1;exact⟨fun c hc=>hc' c (List.mem_cons_of_mem _ hc),_,_,_,_,_,_,_,_,rfl,rfl,⟨rfl,rfl⟩,hd,hy,ha,hc' _ List.mem_cons_self,h⟩
    · cases h
  · cases h
theorem evYG_A{yo:Yo ρ} {dsts:List (Option Nat)} {G:Gd} {k:Gd->Nat->ASt->Option ρ} (h:evYG X n yo dsts G st A o k=some r):∀ c∈A,c=true:=by
  unfold evYG at h
  split at h
  · split at h
    · split at h
      · split at h
        · exact fun c hc=>(zZ (zI h).1).1 c (List.mem_cons_of_mem _ hc)
        · cases h
      · split at h
        · exact(zZ (zI h).1).1
        · cases h
      · cases h
    · cases h
  · cases h
theorem evYG_ok{yo:Yo ρ} {dsts:List (Option Nat)} {G:Gd} {k:Gd->Nat->ASt->Option ρ} (h:evYG X n yo dsts G st A o k=some r):(∀ c∈A,c=true)/\∃ (d j:Nat) (want:Bool) (sj:Nat),o.guard=some (j,want)/\o.dst=some d/\nth dsts j=some (some sj)/\sj≠d/\Nat.blt d n=true /\
    ((qq st.L sj want=some true/\∃ em l s xs ts c args,yo=some em/\o.op=.call { callee:=.value (.tmp s),args:=xs.toArray,argTypes:=ts }/\isYield (lk (qw (anc dsts G 8 j want) G st.L) s)=some l/\aes X (qw (anc dsts G 8 j want) G st.L) xs=some (c,args)/\c=true /\
      em l args (k ((d,j,want) :: qT dsts d G) d ⟨(d,.may true (.c (.val (.bool false)))) :: st.L,st.H⟩) (k ((d,j,want) :: qT dsts d G) d ⟨(d,.may true (.c (.val (.bool true)))) :: st.L,st.H⟩)=some r) \/
     (qq st.L sj want=some false/\k ((d,j,want) :: qT dsts d G) d ⟨(d,.may false (.c (.val (.bool false)))) :: st.L,st.H⟩=some r)):=by
  refine⟨evYG_A h,?_⟩;unfold evYG at h
  split at h
  · split at h
    · rename_i hj
      split at h
      · rename_i hg
        split at h
        · rename_i hd hsd hy ha
          obtain⟨hc,h⟩:=zI h;exact⟨_,_,_,_,rfl,rfl,hj,Nat.ne_of_beq_eq_false hsd,hd,.inl ⟨hg,_,_,_,_,_,_,_,rfl,rfl,hy,ha,(zZ hc).1 _ List.mem_cons_self,h⟩⟩
        · cases h
      · rename_i hg
        split at h
        · rename_i hd hsd
          exact⟨_,_,_,_,rfl,rfl,hj,Nat.ne_of_beq_eq_false hsd,hd,.inr ⟨hg,(zI h).2⟩⟩
        · cases h
      · cases h
    · cases h
  · cases h
theorem evX_ok{k:List Nat->ASt->Option ρ} (h0:KS V st0 st) (h:evX X n st A o k=some r):(∀ c∈A,c=true)/\∃ W st2,StepO X n ops o st st2/\KS (W++V) st0 st2/\k W st2=some r:=by
  unfold evX at h
  split at h
  · split at h
    · rename_i hd hx
      split at h
      · rename_i hl
        obtain⟨hc,h⟩:=zI h;have hc':=(zZ hc).1;have hks:∀ {d id:Nat} {sv:SV} {b:Blk},KS [d,id] st ⟨(d,sv) :: st.L,zX id b st.H⟩:=fun {d id sv b}=>⟨(Kp.cons (V:=[]) (Kp.refl _)).more fun q hq=>by
            obtain⟨h1,_⟩:=zA hq;unfold inN
            split
            · rename_i e; exact absurd (Nat.eq_of_beq_eq_true e).symm h1
            · rfl,qm (by unfold inN; split<;>first | rfl | (exact in1 _ _))⟩
        have hkf:∀ {d id:Nat} {sv:SV},KS [d,id] st ⟨(d,sv) :: st.L,st.H⟩:=fun {d id sv}=>⟨(Kp.cons (V:=[]) (Kp.refl _)).more fun q hq=>by
            obtain⟨h1,_⟩:=zA hq;unfold inN
            split
            · rename_i e; exact absurd (Nat.eq_of_beq_eq_true e).symm h1
            · rfl,Kp.refl _⟩
        refine⟨fun c hc=>hc' c (List.mem_cons_of_mem _ hc),?_⟩;rename_i d _ _ _ id _ S p _;cases hp:decide (p < S.size)with
        | true=>
          rw[hp]at h;exact⟨_,_,(sk_nextT rfl ⟨rfl,rfl⟩ hd hx (hc' _ List.mem_cons_self) hl (of_decide_eq_true hp)).c.so,h0.trans hks,h⟩
        | false=>
          rw[hp]at h;exact⟨_,_,(sk_nextF rfl ⟨rfl,rfl⟩ hd hx (hc' _ List.mem_cons_self) hl (of_decide_eq_false hp)).c.so,h0.trans hkf,h⟩
      · cases h
    · cases h
  · cases h
variable {yo:Yo ρ}
theorem swL_ok{z:Int} {f:Int->Option ρ} {r:ρ}:∀ {ks:List Int},swL z ks f=some r->f z=some r
  | [],h=>by cases h
  | q :: qs,h=>by
    unfold swL at h
    by_cases e:z=q
    · subst e
      rw[decide_eq_true rfl]at h;exact h
    · rw[decide_eq_false e]at h
      exact swL_ok h
theorem Wk.again{j:Nat} {sv:SV} (h:lk st.L j=some sv):Wk X n st ⟨(j,sv) :: st.L,st.H⟩:=fun _ _ _ _ _ _ ⟨ks,env,B,w0,H,hM,hA⟩=>by
  refine⟨ks,env,B,w0,H,hM,⟨hA.size,hA.defs,fun s u hs=>?_,hA.heap,hA.sh,hA.sub,hA.new,hA.pin,hA.base,hA.glob⟩⟩;rw[zu]at hs
  split at hs
  · rename_i e
    subst e;cases hs;exact hA.has _ _ h
  · exact hA.has s u hs
theorem evL_A{k:List Nat->ASt->Option ρ} {r:ρ}:∀ {is:List In} {l:List Oper} {G:Gd} {V:List Nat} {A:List Bool} {st:ASt},evL X n T yo (zm ops) is l G V A st k=some r->∀ c∈A,c=true
  | [],l,G,V,A,st,h=>evOps_A (fun _ _ _ _ h'=>(zZ (zI h').1).1) h
  | .n m :: is,l,G,V,A,st,h=>evOps_A (fun _ _ _ _ h'=>evL_A h') h
  | .w x :: is,l,G,V,A,st,h=>by
    unfold evL at h
    split at h
    · exact fun c hc=>evL_A h c (List.mem_cons_of_mem _ hc)
    · cases h
  | .c ps :: is,o :: l,G,V,A,st,h=>by
    unfold evL at h;exact(evC_ok (KS.refl (V:=V) st) h).1
  | .c _ :: _,[],G,V,A,st,h=>by cases h
  | .y :: is,o :: l,G,V,A,st,h=>by
    unfold evL at h;exact(evY_ok h).1
  | .y :: _,[],G,V,A,st,h=>by cases h
  | .x :: is,o :: l,G,V,A,st,h=>by
    unfold evL at h;exact(evX_ok (ops:=ops) (KS.refl (V:=V) st) h).1
  | .fb j :: is,l,G,V,A,st,h=>by
    unfold evL at h
    split at h
    · exact(zZ (zI h).1).1
    · cases h
  | .yg :: is,o :: l,G,V,A,st,h=>by
    unfold evL at h;exact evYG_A h
  | .yg :: _,[],G,V,A,st,h=>by cases h
  | .f j ks :: is,l,G,V,A,st,h=>by
    unfold evL at h
    split at h
    · exact(zZ (zI h).1).1
    · cases h
  | .x :: _,[],G,V,A,st,h=>by cases h
  | .t _ :: _,[],G,V,A,st,h=>by cases h
  | .t m :: is,o :: l,G,V,A,st,h=>by
    unfold evL at h
    split at h
    · exact fun c hc=>evL_A h c (List.mem_cons_of_mem _ hc)
    · cases h
theorem back_ok{dsts:List (Option Nat)} {G:Gd} {ps:List (Nat×Bool)} {d:Nat} {x:SA} (hG:GInv dsts G st.L) (hPT:∀ p∈ps,PT dsts st.L p):Wk X n ⟨(d,.a x) :: qw ps G st.L,st.H⟩ ⟨(d,.may true x) :: st.L,st.H⟩:=fun _ _ _ _ _ _ ⟨ks,env,B,w0,H,hM,hA⟩=>⟨ks,env,B,w0,H,hM,⟨hA.size,hA.defs,fun q sv hs=>by
  rw[zu]at hs
  split at hs
  · rename_i e
    subst e;cases hs;obtain⟨v,hv1,hv2⟩:=hA.has q (.a x) (by rw[zu,if_pos rfl]);exact⟨v,hv1,fun _=>hv2,fun h=>by cases h⟩
  · rename_i e
    rcases view_back hG hPT q sv hs with h | ⟨y,rfl,h⟩
    · exact hA.has q sv (by rw[zu,if_neg e]; exact h)
    · obtain⟨v,hv1,hv2⟩:=hA.has q (.a y) (by rw[zu,if_neg e]; exact h)
      exact⟨v,hv1,fun _=>hv2,fun h=>by cases h⟩,hA.heap,hA.sh,hA.sub,hA.new,hA.pin,hA.base,hA.glob⟩⟩
theorem skip_ok{j sj d:Nat} {want:Bool} {x:SA} (hgd:o.guard=some (j,want)) (hdst:o.dst=some d) (hj:nth (zm ops) j=some (some sj)) (hg:qq st.L sj want=some false) (hd:Nat.blt d n=true):StepO X n ops o st ⟨(d,.may false x) :: st.L,st.H⟩:=by
  intro R W Bi ks env B w0 H a w hA KK hK;have hw:=wanted_gval (l:=ops) hA hgd hj hg;exact .inr ⟨hw,by rw[hdst]; exact hK _ _ _ _ _ _ (hA.set (sv:=.may false x) ⟨(fun h=>by cases h),fun _=>rfl⟩ (hA.stt.put d undef (zk hd)))⟩
theorem xg(hX:X.tt.ok X.P) (hZ:ZOk X n ops Z) (hY:YOk X n ops yo Z) {k:List Nat->ASt->Option ρ}:∀ {is:List In} {l:List Oper} {G:Gd} {V:List Nat} {A:List Bool} {st:ASt} {r:ρ},GInv (zm ops) G st.L->KS V st0 st->evL X n T yo (zm ops) is l G V A st k=some r->(∀ V' st' r',KS V' st0 st'->k V' st'=some r'->Z [] r' st')->Z l r st
  | [],l,G,V,A,st,r,hG,h0,h,hk=>by
    have:=evOps_ok (rest:=[]) hX hZ (fun _ _ _ _ h'=>(zZ (zI h').1).1) hG h0 h fun G' V' A' st' _ h0' h'=>hk V' st' _ h0' (zI h').2
    rwa [List.append_nil]at this
  | .n m :: is,l,G,V,A,st,r,hG,h0,h,hk=>by
    rw[<- take_drop m l];exact evOps_ok hX hZ (fun _ _ _ _ h'=>evL_A h') hG h0 h fun G' V' A' st' hG' h0' h'=>xg hX hZ hY hG' h0' h' hk
  | .w x :: is,l,G,V,A,st,r,hG,h0,h,hk=>by
    unfold evL at h
    split at h
    · rename_i c st1 e
      have hc:=evL_A h c List.mem_cons_self;exact hZ.weak (wki_ok e hc) (xg hX hZ hY GInv.nil (h0.trans (wki_ks e)) h hk)
    · cases h
  | .c ps :: is,o :: l,G,V,A,st,r,hG,h0,h,hk=>by
    unfold evL at h;obtain⟨_,st2,V2,h1,h2,h3⟩:=evC_ok h0 h;exact hZ.step h1.so (xg hX hZ hY GInv.nil h2 h3 hk)
  | .c _ :: _,[],G,V,A,st,r,hG,h0,h,hk=>by cases h
  | .y :: is,o :: l,G,V,A,st,r,hG,h0,h,hk=>by
    unfold evL at h;obtain⟨_,em,l',d,s,xs,ts,c,args,hyo,hop,ho,hd,hy,ha,hc,h⟩:=evY_ok h;obtain⟨rf,rt,hf,ht,hz⟩:=hY em hyo h;have one:∀ {sv:SV},KS (d :: V) st0 ⟨(d,sv) :: st.L,st.H⟩:=fun {sv}=>⟨Kp.cons h0.1,h0.2.more fun q hq=>(zA hq).2⟩
    exact hz hop ⟨Wanted.none ho.1,ho.2⟩ hd hy ha hc (xg hX hZ hY GInv.nil one hf hk) (xg hX hZ hY GInv.nil one ht hk)
  | .y :: _,[],G,V,A,st,r,hG,h0,h,hk=>by cases h
  | .fb j :: is,l,G,V,A,st,r,hG,h0,h,hk=>by
    unfold evL at h
    split at h
    · rename_i b e
      have one:∀ {sv:SV},KS (j :: V) st0 ⟨(j,sv) :: st.L,st.H⟩:=fun {sv}=>⟨Kp.cons h0.1,h0.2.more fun q hq=>(zA hq).2⟩
      have h2:=(zI h).2;cases b with
      | true=>exact hZ.weak (Wk.again e) (xg hX hZ hY GInv.nil one h2 hk)
      | false=>exact hZ.weak (Wk.again e) (xg hX hZ hY GInv.nil one h2 hk)
    · cases h
  | .yg :: _,[],G,V,A,st,r,hG,h0,h,hk=>by cases h
  | .yg :: is,o :: l,G,V,A,st,r,hG,h0,h,hk=>by
    unfold evL at h;obtain⟨_,d,j,want,sj,hgd,hdst,hj,hne,hd,h⟩:=evYG_ok h;have one:∀ {sv:SV},KS (d :: V) st0 ⟨(d,sv) :: st.L,st.H⟩:=fun {sv}=>⟨Kp.cons h0.1,h0.2.more fun q hq=>(zA hq).2⟩
    rcases h with⟨hg,em,l',s,xs,ts,c,args,hyo,hop,hy,ha,hc,h⟩ | ⟨hg,h⟩
    · have hPT:∀ p∈anc (zm ops) G 8 j want,PT (zm ops) st.L p:=anc_true hG ⟨sj,hj,hg⟩
      obtain⟨rf,rt,hf,ht,hz⟩:=hY em hyo h;have hG':∀ {x:SA},GInv (zm ops) ((d,j,want) :: qT (zm ops) d G) ((d,.may true x) :: st.L):=fun {x} e he=>by
        rcases List.mem_cons.1 he with rfl | he
        · exact⟨sj,true,x,hj,by rw[xr hne]; exact hg,by rw[zu,if_pos rfl]⟩
        · exact hG.drop d _ e he
      have back:∀ {x:SA},Wk X n ⟨(d,.a x) :: qw (anc (zm ops) G 8 j want) G st.L,st.H⟩ ⟨(d,.may true x) :: st.L,st.H⟩:=fun {x}=>back_ok hG hPT
      refine hZ.weak (st':=⟨qw (anc (zm ops) G 8 j want) G st.L,st.H⟩) (fun _ _ _ _ _ _ ⟨ks,env,B,w0,H,hM,hA⟩=>⟨ks,env,B,w0,H,hM,hA.view hG hPT⟩) ?_;exact hz hop ⟨fun hA=>wanted_gval (l:=ops) (hA.unview hG hPT) hgd hj hg,hdst⟩ hd hy ha hc (hZ.weak back (xg hX hZ hY hG' one hf hk)) (hZ.weak back (xg hX hZ hY hG' one ht hk))
    · have hG':∀ {x:SA},GInv (zm ops) ((d,j,want) :: qT (zm ops) d G) ((d,.may false x) :: st.L):=fun {x} e he=>by
        rcases List.mem_cons.1 he with rfl | he
        · exact⟨sj,false,x,hj,by rw[xr hne]; exact hg,by rw[zu,if_pos rfl]⟩
        · exact hG.drop d _ e he
      refine hZ.step ?_ (xg hX hZ hY (hG' (x:=.c (.val (.bool false)))) one h hk);exact skip_ok hgd hdst hj hg hd
  | .f j ks :: is,l,G,V,A,st,r,hG,h0,h,hk=>by
    unfold evL at h
    split at h
    · rename_i kd z e
      have one:∀ {sv:SV},KS (j :: V) st0 ⟨(j,sv) :: st.L,st.H⟩:=fun {sv}=>⟨Kp.cons h0.1,h0.2.more fun q hq=>(zA hq).2⟩
      exact hZ.weak (Wk.again e) (xg hX hZ hY GInv.nil one (swL_ok (zI h).2) hk)
    · cases h
  | .x :: _,[],G,V,A,st,r,hG,h0,h,hk=>by cases h
  | .x :: is,o :: l,G,V,A,st,r,hG,h0,h,hk=>by
    unfold evL at h;obtain⟨_,W,st2,h1,h2,h3⟩:=evX_ok h0 h;exact hZ.step h1 (xg hX hZ hY GInv.nil h2 h3 hk)
  | .t _ :: _,[],G,V,A,st,r,hG,h0,h,hk=>by cases h
  | .t m :: is,o :: l,G,V,A,st,r,hG,h0,h,hk=>by
    unfold evL at h
    split at h
    · rename_i c st1 W e
      exact hZ.step (tstep_ok hX e (evL_A h c List.mem_cons_self)).c.so (xg hX hZ hY GInv.nil (h0.trans (tstep_ks e)) h hk)
    · cases h
end
def xp:List Nat->Sl->Sl
  | [],_=>[]
  | s :: r,L=>match lk L s with
    | some v=>match v.free with
      | true=>(s,v) :: xp r L
      | false=>xp r L
    | none=>xp r L
def qz:List Nat->Hp->Hp
  | [],_=>[]
  | s :: r,H=>match lk H s with
    | some v=>match v.free with
      | true=>(s,v) :: qz r H
      | false=>qz r H
    | none=>qz r H
def isIn{α:Type} (L:List (Nat×α)) (s:Nat):Bool:=match lk L s with
  | some _=>true
  | none=>false
def okK{α:Type} (V ks:List Nat) (L:List (Nat×α)):List (Nat×α)->Bool
  | []=>true
  | p :: r=>match inN p.1 V,inN p.1 ks,isIn L p.1 with
    | false,false,true=>okK V ks L r
    | _,_,_=>false
def zO{α:Type}:List (Nat×α)->List Nat
  | []=>[]
  | p :: r=>p.1 :: zO r
def Sh.ids(σ:Sh):List Nat:=zO σ.L++zO σ.H
def Sh.S(σ:Sh) (st:ASt) (d:σ.D):ASt:=⟨(slS σ.L (ofT σ.T d)).1++xp σ.kL st.L,(hpS σ.H (slS σ.L (ofT σ.T d)).2).1++qz σ.kH st.H⟩
def Sh.get(σ:Sh) (st:ASt) (V:List Nat) (st':ASt):Option σ.D:=
  match okK V (zO σ.L) st'.L (xp σ.kL st.L),okK V (zO σ.H) st'.H (qz σ.kH st.H),nodupB (zO σ.H++zO (qz σ.kH st.H))with
  | true,true,true=>match pickH st'.H (zO σ.H)with
    | some h=>match hpGet (T:=[]) σ.H h ()with
      | some u=>match slGet σ.L st'.L u with
        | some u=>some (toT σ.T u)
        | none=>none
      | none=>none
    | none=>none
  | _,_,_=>none
theorem keepL_lk{s:Nat} {v:SV}:∀ {ks:List Nat} {L:Sl},lk (xp ks L) s=some v->(s,v)∈xp ks L/\lk L s=some v/\v.free=true
  | [],_,h=>by cases h
  | k :: r,L,h=>by
    unfold xp at h ⊢
    split at h
    · rename_i u e
      split at h
      · rename_i hf
        rw[zu]at h
        split at h
        · rename_i e2; cases h; exact⟨by rw[e2]; exact List.mem_cons_self,by rw[e2]; exact e,hf⟩
        · obtain⟨h1,h2⟩:=keepL_lk h; exact⟨List.mem_cons_of_mem _ h1,h2⟩
      · exact keepL_lk h
    · exact keepL_lk h
theorem keepL_mem{p:Nat×SV}:∀ {ks:List Nat} {L:Sl},p∈xp ks L->lk L p.1=some p.2/\p.2.free=true
  | [],_,h=>by cases h
  | k :: r,L,h=>by
    unfold xp at h
    split at h
    · rename_i u e
      split at h
      · rename_i hf
        rcases List.mem_cons.1 h with rfl | h
        · exact⟨e,hf⟩
        · exact keepL_mem h
      · exact keepL_mem h
    · exact keepL_mem h
theorem qr{p:Nat×Blk}:∀ {ks:List Nat} {L:Hp},p∈qz ks L->lk L p.1=some p.2/\p.2.free=true
  | [],_,h=>by cases h
  | k :: r,L,h=>by
    unfold qz at h
    split at h
    · rename_i u e
      split at h
      · rename_i hf
        rcases List.mem_cons.1 h with rfl | h
        · exact⟨e,hf⟩
        · exact qr h
      · exact qr h
    · exact qr h
theorem mem_keep_lk{p:Nat×SV} {ks:List Nat} {L:Sl} (h:p∈xp ks L):lk (xp ks L) p.1=some p.2:=by
  obtain⟨h1,h2⟩:=keepL_mem h
  induction ks with
  | nil=>cases h
  | cons k r ih=>
    unfold xp at h ⊢
    split at h
    · rename_i u e
      split at h
      · rename_i hf
        rw[zu]
        split
        · rename_i e2; rw[<- e2,h1]at e; cases e; rfl
        · rename_i e2
          rcases List.mem_cons.1 h with rfl | h
          · exact absurd rfl e2
          · exact ih h
      · exact ih h
    · exact ih h
theorem mem_keep_lkH{p:Nat×Blk} {ks:List Nat} {L:Hp} (h:p∈qz ks L):lk (qz ks L) p.1=some p.2:=by
  obtain⟨h1,h2⟩:=qr h
  induction ks with
  | nil=>cases h
  | cons k r ih=>
    unfold qz at h ⊢
    split at h
    · rename_i u e
      split at h
      · rename_i hf
        rw[zu]
        split
        · rename_i e2; rw[<- e2,h1]at e; cases e; rfl
        · rename_i e2
          rcases List.mem_cons.1 h with rfl | h
          · exact absurd rfl e2
          · exact ih h
      · exact ih h
    · exact ih h
theorem okK_mem{α:Type} {V ks:List Nat} {L:List (Nat×α)} {p:Nat×α}:∀ {K:List (Nat×α)},okK V ks L K=true->p∈K->inN p.1 V=false/\inN p.1 ks=false/\∃ v,lk L p.1=some v
  | [],_,h=>by cases h
  | q :: r,h,hm=>by
    unfold okK at h
    split at h
    · rename_i h1 h2 h3
      rcases List.mem_cons.1 hm with rfl | hm
      · refine⟨h1,h2,?_⟩
        unfold isIn at h3
        split at h3
        · rename_i v e; exact⟨v,e⟩
        · cases h3
      · exact okK_mem h hm
    · cases h
theorem lk_append{α:Type} {q:Nat}:∀ {L L':List (Nat×α)},inN q (zO L)=false->lk (L++L') q=lk L' q
  | [],_,_=>rfl
  | p :: r,L',h=>by
    obtain⟨h1,h2⟩:=zA h;rw[List.cons_append,zu,if_neg h1];exact lk_append h2
theorem lk_append'{α:Type} {q:Nat} {v:α}:∀ {L L':List (Nat×α)},lk (L++L') q=some v->lk L q=some v\/inN q (zO L)=false/\lk L' q=some v
  | [],_,h=>.inr ⟨rfl,h⟩
  | p :: r,L',h=>by
    rw[List.cons_append,zu]at h;rw[zu]
    split at h
    · rename_i e; rw[if_pos e]; exact .inl h
    · rename_i e
      rw[if_neg e]
      rcases lk_append' h with h | ⟨h1,h2⟩
      · exact .inl h
      · exact .inr ⟨inN_cons.2 ⟨e,h1⟩,h2⟩
theorem keys_slS:∀ (l:List (Nat×VS)) {T:List Type} (u:HL (slLT l T)),zO (slS l u).1=zO l
  | [],_,_=>rfl
  | p :: r,_,u=>by
    show p.1 :: zO _=p.1 :: zO _;rw[keys_slS r]
theorem keys_hpS:∀ (l:List (Nat×BS)) {T:List Type} (u:HL (hpLT l T)),zO (hpS l u).1=zO l
  | [],_,_=>rfl
  | p :: r,_,u=>by
    show p.1 :: zO _=p.1 :: zO _;rw[keys_hpS r]
theorem keys_pick:∀ {ks:List Nat} {h h':Hp},pickH h ks=some h'->zO h'=ks
  | [],_,_,e=>by cases e; rfl
  | k :: ks,h,h',e=>by
    unfold pickH at e
    split at e
    · rename_i h1 h2
      split at e
      · cases e
        show k :: zO _=_;rw[keys_pick h2]
      · cases e
    · cases e
theorem lk_none_keys{α:Type} {q:Nat}:∀ {L:List (Nat×α)},inN q (zO L)=false->lk L q=none
  | [],_=>rfl
  | p :: r,h=>by
    obtain⟨h1,h2⟩:=zA h;rw[zu,if_neg h1];exact lk_none_keys h2
theorem subH_app{h:Hp} {K:Hp}:∀ {h1:Hp},SubH h h1->(∀ p∈K,lk h p.1=some p.2)->nodupB (zO h1++zO K)=true->SubH h (h1++K):=by
  have base:∀ K:Hp,(∀ p∈K,lk h p.1=some p.2)->nodupB (zO K)=true->SubH h K:=by
    intro K
    induction K with
    | nil=>exact fun _ _=>.nil
    | cons p r ih=>
      intro hk hn;have hn':(!(zO r).elem p.1&&nodupB (zO r))=true:=hn;simp only[Bool.and_eq_true,Bool.not_eq_true']at hn';exact .cons (hk p List.mem_cons_self) (lk_none_elem hn'.1) (ih (fun q hq=>hk q (List.mem_cons_of_mem _ hq)) hn'.2)
  intro hs
  induction hs with
  | nil=>exact fun hk hn=>base K hk hn
  | cons hk1 hn1 hr ih=>
    rename_i k b r;intro hk hn;have hn':(!(zO r++zO K).elem k&&nodupB (zO r++zO K))=true:=hn;simp only[Bool.and_eq_true,Bool.not_eq_true']at hn';refine .cons hk1 ?_ (ih hk hn'.2);refine lk_none_elem ?_
    have:∀ l:Hp,zO (l++K)=zO l++zO K:=by
      intro l
      induction l with
      | nil=>rfl
      | cons p l ih=>show p.1 :: zO (l++K)=_; rw[ih]; rfl
    show(zO (r++K)).elem k=false;rw[this];exact hn'.1
where lk_none_elem {q:Nat}:∀ {L:Hp},(zO L).elem q=false->lk L q=none
  | [],_=>rfl
  | p :: r,h=>by
    have h':(p.1 :: zO r).elem q=false:=h;rw[List.elem_cons]at h'
    split at h'
    · cases h'
    · rename_i e
      rw[zu,if_neg (by simpa using e)];exact lk_none_elem h'
def Was(σ:Sh) (st s0:ASt):Prop:=(∀ p∈xp σ.kL st.L,inN p.1 (zO σ.L)=false->lk s0.L p.1=some p.2)/\∀ p∈qz σ.kH st.H,inN p.1 (zO σ.H)=false->lk s0.H p.1=some p.2
theorem Was.self(σ:Sh) (st:ASt):Was σ st st:=⟨fun p hp _=>(keepL_mem hp).1,fun p hp _=>(qr hp).1⟩
theorem Was.step(σ:Sh) (st:ASt) (d:σ.D):Was σ st (σ.S st d):=⟨fun p hp hk=>by
  show lk (_++_) p.1=_;rw[lk_append (by rw[keys_slS]; exact hk)];exact mem_keep_lk hp,fun p hp hk=>by
  show lk (_++_) p.1=_;rw[lk_append (by rw[keys_hpS]; exact hk)];exact mem_keep_lkH hp⟩
theorem Sh.get_ok{X:Cx} {n:Nat} {σ:Sh} {st s0 st':ASt} {V:List Nat} {d:σ.D} (hw:Was σ st s0) (hs:KS V s0 st') (h:σ.get st V st'=some d):Wk X n st' (σ.S st d):=by
  unfold Sh.get at h
  split at h
  · rename_i k1 k2 k3
    split at h
    · rename_i h0 e0
      split at h
      · rename_i u e1
        split at h
        · rename_i u2 e2
          cases h;obtain⟨h1,h2⟩:=hpGet_ok e1;obtain⟨h3,h4⟩:=slGet_ok e2;have hkL:∀ p∈xp σ.kL st.L,lk st'.L p.1=some p.2:=fun p hp=>by
            obtain⟨g1,g2,v,g3⟩:=okK_mem k1 hp;obtain⟨u,g4,g5⟩:=hs.1 p.1 v g1 g3;rw[hw.1 p hp g2]at g4;cases g4;rw[g3,g5 (keepL_mem hp).2]
          have hkH:∀ p∈qz σ.kH st.H,lk st'.H p.1=some p.2:=fun p hp=>by
            obtain⟨g1,g2,v,g3⟩:=okK_mem k2 hp;obtain⟨u,g4,g5⟩:=hs.2 p.1 v g1 g3;rw[hw.2 p hp g2]at g4;cases g4;rw[g3,g5 (qr hp).2]
          rintro R W Bi M a w ⟨ks,env,B,w0,H,hM,hA⟩;have hsub:SubH st'.H (h0++qz σ.kH st.H):=subH_app (pickH_ok e0) hkH (by rw[keys_pick e0]; exact k3);obtain⟨H',hA'⟩:=hA.weak (st':=⟨[],h0++qz σ.kH st.H⟩) .nil hsub;refine⟨ks,env,B,w0,H',hM,hA'.size,hA'.defs,fun q sv hq=>?_,?_,hA'.sh,hA'.sub,hA'.new,hA'.pin,hA'.base,hA'.glob⟩
          · have hq':lk ((slS σ.L (ofT σ.T (toT σ.T u2))).1++xp σ.kL st.L) q=some sv:=hq
            rw[ofT_toT]at hq'
            rcases lk_append' hq' with hq' | ⟨_,hq'⟩
            · obtain⟨x,h5,h6⟩:=h4 q sv hq'
              obtain⟨v,h7,h8⟩:=hA.has q x h5;exact⟨v,h7,h6 _ _ _ _ h8⟩
            · obtain⟨h5,_⟩:=keepL_lk hq'
              exact hA.has q sv (hkL _ h5)
          · show HR env B w0 ((hpS σ.H (slS σ.L (ofT σ.T (toT σ.T u2))).2).1++qz σ.kH st.H) H'
            rw[ofT_toT,h3];obtain⟨H1,H2,e,p1,p2⟩:=HR.split (l:=h0) hA'.heap;rw[e];exact(h2 _ _ _ _ p1).append p2
        · cases h
      · cases h
    · cases h
  · cases h
where HR.split {env:Nat->Loc} {B:Nat->Prop} {w:World}:∀ {l l':Hp} {H:List Ck},HR env B w (l++l') H->∃ H1 H2,H=H1++H2/\HR env B w l H1/\HR env B w l' H2
  | [],_,H,h=>⟨[],H,rfl,rfl,h⟩
  | _ :: _,_,_,⟨c,H',e,h1,h2⟩=>by
    obtain⟨H1,H2,e2,p1,p2⟩:=HR.split h2;exact⟨c :: H1,H2,by rw[e,e2]; rfl,⟨c,H1,rfl,h1,p1⟩,p2⟩
theorem Sh.ks(σ:Sh) (st:ASt) (d:σ.D):KS σ.ids st (σ.S st d):=by
  refine⟨fun q v hq hl=>?_,fun q v hq hl=>?_⟩
  · rcases lk_append' (show lk (_++_) q=some v from hl)with h | ⟨_,h⟩
    · have:=lk_none_keys (L:=(slS σ.L (ofT σ.T d)).1) (q:=q) (by rw[keys_slS]; exact(inN_app.1 hq).1)
      rw[this]at h;cases h
    · obtain⟨h1,h2,h3⟩:=keepL_lk h
      exact⟨v,h2,fun _=>rfl⟩
  · rcases lk_append' (show lk (_++_) q=some v from hl)with h | ⟨_,h⟩
    · have:=lk_none_keys (L:=(hpS σ.H (slS σ.L (ofT σ.T d)).2).1) (q:=q) (by rw[keys_hpS]; exact(inN_app.1 hq).2)
      rw[this]at h;cases h
    · exact⟨v,keepH_lk h,fun _=>rfl⟩
where keepH_lk {s:Nat} {v:Blk}:∀ {ks:List Nat} {L:Hp},lk (qz ks L) s=some v->lk L s=some v
  | [],_,h=>by cases h
  | k :: r,L,h=>by
    unfold qz at h
    split at h
    · rename_i u e
      split at h
      · rw[zu]at h
        split at h
        · rename_i e2; cases h; rw[e2]; exact e
        · exact keepH_lk h
      · exact keepH_lk h
    · exact keepH_lk h
end

section
def xfrzB(X:Cx) (L:Sl) (t:TypeId) (N:Nat) (ps:List (Nat×Operand)):Option (Bool×SA):=
 match X.tt.find t with
 | some ⟨⟨.slice e,_,_,_⟩,_⟩=>match X.tt.find e with
  | some ⟨te,some g⟩=>match Nat.ble (N * te.size) 16777216,Nat.beq ps.length N,partCells X L te.size ps 0 with
   | true,true,some (c,cs)=>match decN g N cs with
    | some (c',l)=>some (c&&c',.c (.lst g l (some N)))
    | none=>none
   | _,_,_=>none
  | _=>none
 | _=>none
def xfrz(X:Cx) (L:Sl):Op->Option (Bool×SA)
 | .buildSlice t N ps=>xfrzB X L t N ps.toList
 | _=>none
section
variable {X:Cx} {n:Nat} {st:ASt} {o:Oper} {d:Nat}
theorem xfrz_ok(hX:X.tt.ok X.P) {c:Bool} {sa:SA} (hgd:o.guard=none) (hdst:o.dst=some d) (hd:Nat.blt d n=true) (hb:xfrz X st.L o.op=some (c,sa)) (hc:c=true):StepC X n o (fun _=>true) st ⟨(d,.a sa) :: st.L,st.H⟩:=by
 intro R W Bi ks env B w0 H a w h KK lo hK;cases hop:o.op with
 | buildSlice t N ps=>
 rw[hop]at hb;unfold xfrz xfrzB at hb;dsimp only at hb
 split at hb
 ·rename_i e s1 s2 s3 s4 hf
  split at hb
  ·rename_i te g hte
   split at hb
   ·rename_i c1 cs hle hpl hpc
    split at hb
    ·rename_i c2 l hdn
     cases hb;simp only[Bool.and_eq_true]at hc;obtain⟨hg1,hg2,hg3⟩:=(TT.get hX hte).g g rfl;have hti:=(TT.get hX hte).ti;dsimp only at hg1 hg2 hti;obtain⟨vs,h1,h2,h3⟩:=partCells_ok h hpc hc.1;obtain⟨h4,v1,v2,h5,h6⟩:=decN_ok h3 hdn hc.2;have hvl:vs.length=N:=by
      have:=congrArg List.length h1
      simp only[List.length_map,List.length_zipIdx]at this;rw[<- this];exact Nat.eq_of_beq_eq_true hpl
     have hflat:(vs.flatMap fun v=>v.cells.toList).length=N * te.size:=by
      rw[<- hvl]
      clear h1 h3 h5 hvl
      induction vs with
      | nil=>simp
      | cons v vs ih=>rw[List.flatMap_cons,List.length_append,ih (fun u hu=>h2 u (List.mem_cons_of_mem _ hu)),List.length_cons,Nat.add_mul,Nat.one_mul,Array.length_toList,h2 v (by simp),Nat.add_comm]
     have hv2:v2=[]:=by
      have e1:=congrArg List.length h5;rw[List.length_append,FR.flat_length h6,h4,hflat,hg1]at e1;exact List.eq_nil_of_length_eq_zero (by omega)
     subst hv2;rw[List.append_nil]at h5;have hrun:=run_buildSlice (w:=w) (N:=N) (vs:=vs) (TT.get hX hf).ti.1 hti (z:=g.zeros) hg2 (by rw[<- FR.length (FR.zeros (B:=B) (w:=w0) g)]at hg1; exact hg1) (by rw[<- hg1]; exact hg3) hvl (Nat.le_of_ble_eq_true hle) h2;have hps:ps.map (fun p=>(p.1,a.eval p.2))=((vs.zipIdx.map fun p=>(p.2,p.1)).toArray):=by
      rw[<- h1,<- List.map_toArray]
     have hNm:N<=maxLen:=by
      have:=Nat.le_of_ble_eq_true hle
      have h7:N<=N * te.size:=Nat.le_mul_of_pos_right _ (by rw[<- hg1]; exact hg3);exact Nat.le_trans (Nat.le_trans h7 this) (by decide)
     have hrow:=SH.toRow (size:=g.size) (m:=N) (h.sh.allocC (vs.flatMap fun v=>v.cells.toList) e) (by rw[hflat,hg1]) (by
      have:=Nat.le_of_ble_eq_true hle
      have h7:N<=N * te.size:=Nat.le_mul_of_pos_right _ (by rw[<- hg1]; exact hg3);omega)
     refine zJ h.stt hgd hdst (zk hd) (v:=.slice (some ⟨w.heap.size,0,none⟩) N N) (w':=w.alloc (.cells (vs.flatMap fun v=>v.cells.toList).toArray e)) (by
      simp only[execOp,hop];rw[hps]
      simp[hrun]) fun a' hS=>?_
     have hst:=hrow.weak (List.sublist_cons_self _ _);have hup:Up B w0 (fun q=>B q\/q=w.heap.size) (w.alloc (.cells (vs.flatMap fun v=>v.cells.toList).toArray e)):=⟨fun q hq=>.inl hq,fun q hq=>hrow.below.block q (.inr hq)⟩
     have hlt:∀ q,R q\/B q->q < w.heap.size:=fun q hq=>h.sh.base q hq
     have hsz:w.heap.size < (w.alloc (.cells (vs.flatMap fun v=>v.cells.toList).toArray e)).heap.size:=by simp
     refine hK a' _ env (fun q=>B q\/q=w.heap.size) (w.alloc (.cells (vs.flatMap fun v=>v.cells.toList).toArray e)) H ⟨hS.size,hS.defs,fun s u hs=>?_,h.heap.up hup,?_,fun q hq=>.inl (h.sub q hq),fun q hq=>?_,h.pin,h.base.trans ⟨hrow.below.os,hrow.below.tape,hrow.below.output,hrow.below.size,fun q hq=>hrow.below.block q (.inl hq)⟩,fun i x hx=>(h.glob i x hx).up hup⟩ (fun q hq=>.inl hq) hrow.below (fun _ hc _=>hc)
     ·rw[zu]at hs
      split at hs
      ·rename_i e; subst e; cases hs
       refine⟨_,hS.this,?_⟩;have hm:=Reads.rowM hrow List.mem_cons_self;rw[<- h4]at hm ⊢;exact⟨some ⟨w.heap.size,0,none⟩,l.length,_,rfl,Nat.le_refl _,by rw[h4]; exact hNm,fun k hk=>by cases hk; rfl,Flat.mono (fun _ _ hf=>FR.up hup hf) (by rw[h5]at *; exact h6),hm,fun b p _ e=>.inr (by cases e; rfl)⟩
      ·rename_i hne
       obtain⟨u',h7,h8⟩:=h.has s u hs;exact⟨u',hS.other hne h7,h8.up hup⟩
     ·refine⟨KO.refl _ _,fun q hq=>?_,fun c hc=>(hst.ok c hc).base fun b hb hB=>?_,hst.apart⟩
      ·rcases hq with hq | hq | hq
       ·exact Nat.lt_trans (hlt q (.inl hq)) hsz
       ·exact Nat.lt_trans (hlt q (.inr hq)) hsz
       ·rw[hq]; exact hsz
      ·rcases hB with hB | hB | hB
       ·exact((hst.ok c hc).lt hb).1 (.inl hB)
       ·exact((hst.ok c hc).lt hb).1 (.inr hB)
       ·have:=((h.sh.ok c hc).lt hb).2
        rw[hB]at this;exact Nat.lt_irrefl _ this
     ·rcases hq with hq | hq
      ·exact(h.new q hq).imp_right fun h'=>⟨h'.1,h'.2.keep (hrow.below.block q (.inr hq))⟩
      ·exact .inr ⟨fun hR=>Nat.lt_irrefl _ (by have:=hlt q (.inl hR); rw[hq]at this; exact this),(hrow.ok _ List.mem_cons_self).cells rfl (by rw[hq]; rfl)⟩
    ·cases hb
   ·cases hb
  ·cases hb
 ·cases hb
 | _=>rw[hop]at hb; cases hb
end
end

section
theorem born_at{es:List MapEntry} {j:Nat} {e:MapEntry} (hs:(es.map (·.born)).Pairwise (· < ·)) (hj:es[j]?=some e):es.toArray.findIdx? (fun x=>(x.born:Int) == (e.born:Int))=some j:=by
 rw[List.findIdx?_toArray];obtain⟨hlt,he⟩:=List.getElem?_eq_some_iff.1 hj;rw[List.findIdx?_eq_some_iff_getElem];refine⟨hlt,by rw[he]; simp,fun k hk=>?_⟩;have h1:=List.pairwise_iff_getElem.1 hs k j (by simp; omega) (by simpa using hlt) hk;simp only[List.getElem_map]at h1;rw[he]at h1;simp only[beq_iff_eq];omega
theorem modify_two{es:List MapEntry} {k v:Value}:∀ (j:Nat),(es.modify j fun e=>{ e with key:=k }).modify j (fun e=>{ e with val:=v })=es.modify j fun e=>{ e with key:=k,val:=v }:=by
 induction es with
 | nil=>intro j; simp
 | cons e es ih=>
  intro j;cases j with
  | zero=>simp
  | succ j=>simp only[List.modify_succ_cons,ih j]
theorem modify_last{es:List MapEntry} {e:MapEntry} {f:MapEntry->MapEntry}:(es++[e]).modify es.length f=es++[f e]:=by
 induction es with
 | nil=>simp
 | cons x es ih=>simp[ih]
theorem MR.findApp{P:Program} {t:TypeId} {B:Nat->Prop} {w:World} {gk gv:GTy} (hK:SKey P t gk) {z:gk.D} {vv:Value} {c:Nat} (w1:World):∀ {l:List (gk.D×gv.D)} {es:List MapEntry} (i:Nat),MR B w gk gv l es->(Instr.findAsking t (.agg (gk.vals z).toArray) es i).run P w1=.ok none w1 ->
  (Instr.findAsking t (.agg (gk.vals z).toArray) (es++[MapEntry.mk (.agg (gk.vals z).toArray) vv c]) i).run P w1=.ok (some (i+es.length,vv)) w1
 | [],_,i,h,_=>by
  rw[show _=[] from h];show(Instr.findAsking t _ [MapEntry.mk (.agg (gk.vals z).toArray) vv c] i).run P w1=_;unfold Instr.findAsking;simp only[Sem.run_bind,run_eqS hK z z w1,Result.andThen_ok,(beq_iff z z hK.eq.key).2 rfl]
  simp
 | x :: l,_,i,⟨e,r,he,h1,h2,h3⟩,hf=>by
  subst he;have hk:=VD.key hK.pr hK.eq.key h1;show(Instr.findAsking t _ (e :: (r++[MapEntry.mk (.agg (gk.vals z).toArray) vv c])) i).run P w1=_;unfold Instr.findAsking at hf ⊢;rw[hk]at hf ⊢;simp only[Sem.run_bind,run_eqS hK z x.1 w1,Result.andThen_ok]at hf ⊢;cases hb:gk.beq z x.1 with
  | true=>rw[hb]at hf; simp at hf
  | false=>
   rw[hb]at hf
   have:=MR.findApp hK w1 (i+1) h3 (by simpa using hf) (vv:=vv) (c:=c)
   simpa [Nat.add_assoc,Nat.add_comm 1] using this
section
variable {X:Cx} {n:Nat} {st:ASt}
theorem x_look(hX:X.tt.ok X.P) {t kt et:TypeId} {te ee:TE} {gk gv:GTy} {id:Nat} {l:List (gk.D×gv.D)} {om:Option (List MapEntry×Nat)} {z:gk.D} (hK:SKey X.P kt gk) (ht:X.tt.find t=some te) (hte:te.ti.desc=.map kt et) (he:X.tt.find et=some ee) (hlk:lk st.H id=some (.mp gk gv l om))
  {R:Nat->Prop} {W:World} {Bi:Bk} {ks:List Nat} {env:Nat->Loc} {B:Nat->Prop} {w0:World} {H:List Ck} {a:Act} {w:World} (hA:AI X R W Bi n ks env B w0 H st a w) :
  ∃ v0,(∀ b,env id=.blk b->(Instr.lookup t (.map (some b)) (.agg (gk.vals z).toArray) false).run X.P w=.ok v0 w)/\((∀ B w,VD B w gv gv.zero ee.ti.zero)->VD B w0 gv ((mget gk gv l z).getD gv.zero) v0):=by
 obtain⟨ck,K,⟨b,es,clock,hb,rfl,hmr,hst,_⟩,hfoc⟩:=hA.heap.foc hlk;have hob:=(hA.sh.ok _ hfoc.more.mem).2;have e1:=(TT.get hX ht).ti.1;rw[hte]at e1;obtain⟨fs,e3⟩:=hK.str;have e5:=TI.run_zero (TT.get hX he).ti w;have hfin:∃ v,(Instr.lookup t (.map (some b)) (.agg (gk.vals z).toArray) false).run X.P w=.ok v w/\((∀ B w,VD B w gv gv.zero ee.ti.zero)->VD B w0 gv ((mget gk gv l z).getD gv.zero) v):=by
  unfold Instr.lookup;simp only[Sem.run_bind,run_underlying e1,Result.andThen_ok,MapKept.run_getObj_map hob,hK.chk,Sem.run_pure]
  rcases hmr.findS hK w (z:=z) 0 with⟨h4,h5⟩ | ⟨y,j,v,h4,h5,h6,_⟩
  ·refine⟨ee.ti.zero,?_,fun hz=>by rw[h4]; exact hz _ _⟩
   simp[zW e3 h5,e5,Result.andThen]
  ·refine⟨v,?_,fun _=>by rw[h4]; exact h6⟩
   simp[zW e3 h5,Result.andThen]
 obtain⟨v,h1,h2⟩:=hfin;exact⟨v,fun b2 hb2=>by rw[hb]at hb2; cases hb2; exact h1,h2⟩
theorem x_entry3(hX:X.tt.ok X.P) {ops:Array Oper} {o1 o2 o3:Oper} {d1 d2:Nat} {t kt et:TypeId} {te ee:TE} {gk gv:GTy} {u x u3 y:Operand} {id:Nat} {l:List (gk.D×gv.D)} {om:Option (List MapEntry×Nat)} {z:gk.D} {g g2 c c2:Bool} {sx sy:SA} {xv:gv.D} (hK:SKey X.P kt gk)
  (hop1:o1.op=.mapEntry t u x) (ho1:o1.guard=none/\o1.dst=some d1) (hd1:Nat.blt d1 n=true) (hop2:o2.op=.extract (.tmp d1) 1) (ho2:o2.guard=none/\o2.dst=some d2) (hd2:Nat.blt d2 n=true) (hop3:o3.op=.entryStore t u3 (.tmp d2) y) (ho3:o3.guard=none/\o3.dst=none)
  (ht:X.tt.find t=some te) (hte:te.ti.desc=.map kt et) (he:X.tt.find et=some ee)
  (hu:ae X st.L u=some (true,.c (.mref id))) (hx:ae X st.L x=some (g,sx)) (hg:g=true) (hdx:dec gk sx.cells=some (c,z,[])) (hc:c=true) (hsx:xa gk sx=true) (hlk:lk st.H id=some (.mp gk gv l om))
  (hu3:ae X ((d2,SV.a (.c .dead)) :: (d1,SV.a (.c .dead)) :: st.L) u3=some (true,.c (.mref id))) (hy:ae X ((d2,SV.a (.c .dead)) :: (d1,SV.a (.c .dead)) :: st.L) y=some (g2,sy)) (hg2:g2=true) (hdec:dec gv sy.cells=some (c2,xv,[])) (hc2:c2=true) (hsh:xa gv sy=true)
  {R:Nat->Prop} {W:World} {Bi:Bk} {ks:List Nat} {env:Nat->Loc} {B:Nat->Prop} {w0:World} {H:List Ck} {a:Act} {w:World} (hA:AI X R W Bi n ks env B w0 H st a w) {v0:Value} (hv0:∀ b,env id=.blk b->(Instr.lookup t (.map (some b)) (.agg (gk.vals z).toArray) false).run X.P w=.ok v0 w) {G G3:World->Prop} (hG:∀ w1,KO (fun k=>R k\/B k) w0 w1->(∀ b,env id=.blk b->(Instr.lookup t (.map (some b)) (.agg (gk.vals z).toArray) false).run X.P w1=.ok v0 w1)->G w1) (hG3:∀ w1,KO (fun k=>R k\/B k) w0 w1->G3 w1) {KK:Act->World->Prop}
  (hK3:∀ a' w' H',AI X R W Bi n ks env B w0 H' ⟨(d2,.a (.c .dead)) :: (d1,.a (.c .dead)) :: st.L,zX id (.mp gk gv (mset gk gv l z xv) none) st.H⟩ a' w'->KK a' w') :
  XO X.P ops o1 (fun a1 w1=>G w1/\XO X.P ops o2 (fun a2 w2=>G w2/\XO X.P ops o3 (fun a3 w3=>G3 w3/\KK a3 w3) a2 w2) a1 w1) a w:=by
 obtain⟨vu,h1,b,hb,rfl⟩:=hA.ev hu rfl;obtain⟨vx,h2,h3⟩:=hA.ev hx hg;have hvx:=VD.key hK.pr hK.eq.key (VD.ofSA hdx hc hsx h3);rw[hvx]at h2;obtain⟨ck,K,⟨b',es,clock,hb',rfl,hmr,hst,_⟩,hfoc⟩:=hA.heap.foc hlk;rw[hb]at hb';cases hb';have hob:=(hA.sh.ok _ hfoc.more.mem).2;have e1:=(TT.get hX ht).ti.1;rw[hte]at e1;obtain⟨fs,e3⟩:=hK.str;have e5:=TI.run_zero (TT.get hX he).ti w;have hin:b < w.heap.size:=(Array.getElem?_eq_some_iff.1 hob).1;have hl0:=hv0 b hb
 -- what the first operation leaves
 have hfin:∃ (es1:List MapEntry) (clock1 j:Nat) (e:MapEntry) (v:Value),(Instr.mapEntry t (.map (some b)) (.agg (gk.vals z).toArray)).run X.P w=.ok (.tuple #[v,.int .i64 (e.born:Int)]) { w with heap:=w.heap.setIfInBounds b (.map es1.toArray clock1) }/\es1[j]?=some e/\(es1.map (·.born)).Pairwise (· < ·)/\(Instr.lookup t (.map (some b)) (.agg (gk.vals z).toArray) false).run X.P { w with heap:=w.heap.setIfInBounds b (.map es1.toArray clock1) }=.ok v0 { w with heap:=w.heap.setIfInBounds b (.map es1.toArray clock1) } /\
   ∀ vy,VD B w0 gv xv vy->MR B w0 gk gv (mset gk gv l z xv) (es1.modify j fun e=>{ e with val:=vy })/\Stamped (es1.modify j fun e=>{ e with val:=vy }) clock1:=by
  unfold Instr.mapEntry;simp only[Sem.run_bind,run_underlying e1,Result.andThen_ok,MapKept.run_getObj_map hob,hK.chk]
  rcases hmr.findS hK w (z:=z) 0 with⟨h6,h7⟩ | ⟨q,j,v,h6,h7,h8,h9⟩
  ·refine⟨es++[MapEntry.mk (.agg (gk.vals z).toArray) ee.ti.zero clock],clock+1,es.length,MapEntry.mk (.agg (gk.vals z).toArray) ee.ti.zero clock,ee.ti.zero,?_,by simp,?_,?_,fun vy hvy=>⟨?_,?_⟩⟩
   ·simp only[zW e3 h7,Result.andThen_ok,Sem.run_bind,e5,MapKept.run_setObj_map _ hob]
    simp[goInt]
   ·rw[List.map_append,List.pairwise_append]
    exact⟨hst.1,by simp,fun p hp q hq=>by simp at hq; subst hq; exact hst.2 p hp⟩
   ·have hz0:v0=ee.ti.zero:=by
     unfold Instr.lookup at hl0;simp only[Sem.run_bind,run_underlying e1,Result.andThen_ok,MapKept.run_getObj_map hob,hK.chk,Sem.run_pure]at hl0
     simp[zW e3 h7,e5,Result.andThen]at hl0
     exact hl0.symm
    have hob1:({ w with heap:=w.heap.setIfInBounds b (.map (es++[MapEntry.mk (.agg (gk.vals z).toArray) ee.ti.zero clock]).toArray (clock+1)) }:World).heap[b]?=some (.map (es++[MapEntry.mk (.agg (gk.vals z).toArray) ee.ti.zero clock]).toArray (clock+1)):=by simp[hin]
    have h7':(Instr.findAsking kt (.agg (gk.vals z).toArray) es 0).run X.P { w with heap:=w.heap.setIfInBounds b (.map (es++[MapEntry.mk (.agg (gk.vals z).toArray) ee.ti.zero clock]).toArray (clock+1)) }=.ok none { w with heap:=w.heap.setIfInBounds b (.map (es++[MapEntry.mk (.agg (gk.vals z).toArray) ee.ti.zero clock]).toArray (clock+1)) }:=by
     rcases hmr.findS hK { w with heap:=w.heap.setIfInBounds b (.map (es++[MapEntry.mk (.agg (gk.vals z).toArray) ee.ti.zero clock]).toArray (clock+1)) } (z:=z) 0 with⟨_,h11⟩ | ⟨q,j,v,h11,_⟩
     ·exact h11
     ·rw[h6]at h11; cases h11
    have hfa:=hmr.findApp hK _ 0 h7' (vv:=ee.ti.zero) (c:=clock);rw[hz0];unfold Instr.lookup;simp only[Sem.run_bind,run_underlying e1,Result.andThen_ok,MapKept.run_getObj_map hob1,hK.chk,Sem.run_pure];have hfk:=zW e3 hfa;simp only[hfk,Result.andThen_ok]
    simp
   ·rw[modify_last]
    rcases hmr.setS hK w hvy (z:=z) 0 with⟨_,h10⟩ | ⟨j2,v2,e',h10,_⟩
    ·rw[h10]
     exact MR.snoc (gk:=gk) (x:=(z,xv)) (e:=MapEntry.mk (.agg (gk.vals z).toArray) vy clock) (VD.keyMk hK.pr hK.eq.key z) hvy hmr
    ·rw[h7]at h10
     cases h10
   ·rw[Stamped,modify_map (f:=fun e=>{ e with val:=vy }) (fun _=>rfl)]
    refine⟨?_,?_⟩
    ·rw[List.map_append,List.pairwise_append]
     exact⟨hst.1,by simp,fun p hp q hq=>by simp at hq; subst hq; exact hst.2 p hp⟩
    ·intro p hp
     rw[List.map_append,List.mem_append]at hp
     rcases hp with hp | hp
     ·exact Nat.lt_succ_of_lt (hst.2 p hp)
     ·simp at hp; omega
  ·-- the entry is there
   obtain⟨e0,he0⟩:∃ e0,es[j]?=some e0:=⟨_,List.getElem?_eq_getElem h9⟩
   have hvd0:∀ vy,VD B w0 gv xv vy->e0.key=.agg (gk.vals z).toArray/\MR B w0 gk gv (mset gk gv l z xv) (es.modify j fun e=>{ e with key:=.agg (gk.vals z).toArray,val:=vy }):=fun vy hvy=>by
    rcases hmr.setS hK w hvy (z:=z) 0 with⟨h10,_⟩ | ⟨j2,v2,e',h10,h11,h12,h13⟩
    ·rw[h7]at h10
     cases h10
    ·rw[h7]at h10
     have hj:j2=j:=by
      have:=Result.ok.inj h10
      have h14:=Option.some.inj this.1;have h15:=(Prod.mk.inj h14).1;omega
     subst hj;rw[he0]at h11;cases h11;exact⟨h12,h13⟩
   refine⟨es.modify j fun e=>{ e with key:=.agg (gk.vals z).toArray },clock,j,{ e0 with key:=.agg (gk.vals z).toArray },v,?_,?_,?_,?_,fun vy hvy=>⟨?_,?_⟩⟩
   ·have hk0:e0.key=.agg (gk.vals z).toArray:=by
     rcases hmr.setS hK w h8 (z:=z) 0 with⟨h10,_⟩ | ⟨j2,v2,e',h10,h11,h12,_⟩
     ·rw[h7]at h10
      cases h10
     ·rw[h7]at h10
      have hj:j2=j:=by
       have:=Result.ok.inj h10
       have h14:=Option.some.inj this.1;have h15:=(Prod.mk.inj h14).1;omega
      subst hj;rw[he0]at h11;cases h11;exact h12
    rw[Nat.zero_add]at h7;have hkeep:(Instr.keyThatStays (((es.toArray[j]?).map (·.key)).getD (.agg (gk.vals z).toArray)) (.agg (gk.vals z).toArray)).run X.P w=.ok (.agg (gk.vals z).toArray) w:=by
     have:((es.toArray[j]?).map (·.key)).getD (.agg (gk.vals z).toArray)=.agg (gk.vals z).toArray:=by simp[he0,hk0]
     rw[this];unfold Instr.keyThatStays;rw[sameBits_agg fun n=>sameBits_vals hK.eq.key z n]
     rfl
    simp only[zW e3 h7,Result.andThen_ok,Sem.run_bind,hkeep,MapKept.run_setObj_map _ hob]
    simp[goInt,he0]
   ·simp[he0]
   ·rw[modify_map (f:=fun e=>{ e with key:=.agg (gk.vals z).toArray }) (fun _=>rfl)]
    exact hst.1
   ·have hk0:e0.key=.agg (gk.vals z).toArray:=by
     rcases hmr.setS hK w h8 (z:=z) 0 with⟨h10,_⟩ | ⟨j2,v2,e',h10,h11,h12,_⟩
     ·rw[h7]at h10
      cases h10
     ·rw[h7]at h10
      have hj:j2=j:=by
       have:=Result.ok.inj h10
       have h14:=Option.some.inj this.1;have h15:=(Prod.mk.inj h14).1;omega
      subst hj;rw[he0]at h11;cases h11;exact h12
    have hes:(es.modify j fun e=>{ e with key:=.agg (gk.vals z).toArray })=es:=by
     apply List.ext_getElem?
     intro q;rw[List.getElem?_modify]
     by_cases hq:j=q
     ·subst hq
      rw[he0]
      simp[<- hk0]
     ·simp[hq]
    rw[hes];have hw1:({ w with heap:=w.heap.setIfInBounds b (.map es.toArray clock) }:World)=w:=by
     have:w.heap.setIfInBounds b (.map es.toArray clock)=w.heap:=by
      apply Array.ext_getElem?
      intro q
      by_cases hq:q=b
      ·subst hq
       rw[hob]
       simp[hin]
      ·rw[Array.getElem?_setIfInBounds_ne (Ne.symm hq)]
     rw[this]
    rw[hw1];exact hl0
   ·rw[modify_two]
    exact(hvd0 vy hvy).2
   ·rw[modify_two,Stamped,modify_map (f:=fun e=>{ e with key:=.agg (gk.vals z).toArray,val:=vy }) (fun _=>rfl)]
    exact hst
 obtain⟨es1,clock1,j,e,v,hrun1,hej,hpw,hlk1,hlast⟩:=hfin;have hbor:=born_at hpw hej;have hs1:∀ (o':Obj),KO (fun k=>R k\/B k) w0 { w with heap:=w.heap.setIfInBounds b o' }:=fun o'=>(hA.sh.setO (x':=o') hfoc.more).below
 refine zJ hA.stt ho1.1 ho1.2 (zk hd1) (v:=.tuple #[v,.int .i64 (e.born:Int)]) (w':={ w with heap:=w.heap.setIfInBounds b (.map es1.toArray clock1) }) ?_ fun a1 hS1=>⟨hG _ (hs1 _) (fun b2 hb2=>by rw[hb]at hb2; cases hb2; exact hlk1),?_⟩
 ·simp[execOp,hop1,hA.stt.ev h1,hA.stt.ev h2,hrun1]
 have hA1:=hA.set (sv:=.a (.c .dead)) (v:=.tuple #[v,.int .i64 (e.born:Int)]) trivial hS1;have ht1:ev (qL a1) (.tmp d1)=some (.tuple [v,.int .i64 (e.born:Int)].toArray):=zt hS1.this;refine zJ hA1.stt ho2.1 ho2.2 (zk hd2) (v:=.int .i64 (e.born:Int)) (w':={ w with heap:=w.heap.setIfInBounds b (.map es1.toArray clock1) }) (p_extract hA1.stt hop2 ht1 rfl _) fun a2 hS2=>⟨hG _ (hs1 _) (fun b2 hb2=>by rw[hb]at hb2; cases hb2; exact hlk1),?_⟩
 have hA2:=hA1.set (sv:=.a (.c .dead)) (v:=.int .i64 (e.born:Int)) trivial hS2;have ht2:ev (qL a2) (.tmp d2)=some (.int .i64 (e.born:Int)):=zt hS2.this;obtain⟨vu3,q1,b3,hb3,rfl⟩:=hA2.ev (st:=⟨(d2,SV.a (.c .dead)) :: (d1,SV.a (.c .dead)) :: st.L,st.H⟩) hu3 rfl;rw[hb]at hb3;cases hb3;obtain⟨vy,q2,q3⟩:=hA2.ev (st:=⟨(d2,SV.a (.c .dead)) :: (d1,SV.a (.c .dead)) :: st.L,st.H⟩) hy hg2;have hvy:VD B w0 gv xv vy:=VD.ofSA hdec hc2 hsh q3;obtain⟨hm3,hst3⟩:=hlast vy hvy;obtain⟨ck2,K2,⟨b4,es4,clock4,hb4,rfl,_⟩,hfoc2,hset⟩:=hA2.setBlk (b':=.mp gk gv (mset gk gv l z xv) none) hlk;rw[hb]at hb4;cases hb4;have hob1:({ w with heap:=w.heap.setIfInBounds b (.map es1.toArray clock1) }:World).heap[b]?=some (.map es1.toArray clock1):=by simp[hin]
 have hrun3:(Instr.entryStore t (.map (some b)) (.int .i64 (e.born:Int)) vy).run X.P { w with heap:=w.heap.setIfInBounds b (.map es1.toArray clock1) }=.ok () { w with heap:=w.heap.setIfInBounds b (.map (es1.modify j fun e=>{ e with val:=vy }).toArray clock1) }:=by
  unfold Instr.entryStore;simp only[Sem.run_bind,MapKept.run_getObj_map hob1,Result.andThen_ok,asInt,asIntOf,Sem.run_pure,hbor];rw[MapKept.run_setObj_map _ hob1]
  simp[Array.setIfInBounds_setIfInBounds]
 refine x_skip hA2.stt ho3.1 ho3.2 (w':={ w with heap:=w.heap.setIfInBounds b (.map (es1.modify j fun e=>{ e with val:=vy }).toArray clock1) }) ?_ fun a3 hS3=>⟨hG3 _ (hs1 _),?_⟩
 ·simp[execOp,hop3,hA2.stt.ev q1,hA2.stt.ev ht2,hA2.stt.ev q2,hrun3]
 obtain⟨H',h10⟩:=hset _ a3 _ ⟨b,_,clock1,hb,rfl,hm3,hst3,fun _ h=>by cases h⟩ (hA2.sh.setO hfoc2) hS3;exact hK3 a3 _ H' h10
end
end
end Go.Proofs.YtldjgdggcodgeaaGreat
