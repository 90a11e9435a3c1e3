/- Part 5 of 6 of the proof. -/
import Derived.Test.YtldjgdggcodgeaaGreatPl4
import Derived.Shelf.Strings.Builder1
set_option linter.unusedSimpArgs false
set_option linter.unusedVariables false
set_option maxRecDepth 100000
namespace Go.Proofs.YtldjgdggcodgeaaGreat
open Go.RowKit
section
open Go.RowKit Go.Shelf
section
set_option maxHeartbeats 1000000
set_option maxRecDepth 100000
theorem copyCheck_used(b:Nat) (w:World) (h0:w.cell? ⟨b,0,none⟩=some (.pointer (some ⟨b,0,none⟩))) :
  Calls Tryz.prog 62 #[.pointer (some ⟨b,0,none⟩)] w fun e w'=>e=.returned (.tuple #[])/\w'=w:=by
 obtain⟨j,hj,_⟩:=Option.map_eq_some_iff.1 (show(Tryz.prog.info? 83).map (·.size)=some 2 by kernel_rfl);have mixed:Tryz.prog.follows .mixedOrders=true:=by kernel_rfl
 have t72:=Tryz.underlying83; have a72:=Tryz.isAgg83; have z72:=Tryz.sizeOf83; have v72:=Tryz.zeroValue83; have u72:=run_underlying Tryz.underlying83;have t70:=Tryz.underlying81; have a70:=Tryz.isAgg81; have z70:=Tryz.sizeOf81; have v70:=Tryz.zeroValue81; have u70:=run_underlying Tryz.underlying81;have t4:=Tryz.underlying4; have a4:=Tryz.isAgg4; have z4:=Tryz.sizeOf4; have v4:=Tryz.zeroValue4; have u4:=run_underlying Tryz.underlying4;have t164:=Tryz.underlying175; have a164:=Tryz.isAgg175; have z164:=Tryz.sizeOf175; have v164:=Tryz.zeroValue175; have u164:=run_underlying Tryz.underlying175
 go_enter Tryz.func62,Tryz.ntmps62
 go_wp2
 rw[Lib.run_neq_ptr_same w _ t70 hj]
 go_wp2
 go_end0
 exact⟨rfl,rfl⟩
theorem copyCheck_fresh(b:Nat) (w:World) (h0:w.cell? ⟨b,0,none⟩=some (.pointer none)) (hsh:w.shape? b=some (83,2)) (hfz:w.frozen? ⟨b,0,none⟩=false) :
  Calls Tryz.prog 62 #[.pointer (some ⟨b,0,none⟩)] w fun e w'=>e=.returned (.tuple #[])/\w'=w.setCell ⟨b,0,none⟩ (.pointer (some ⟨b,0,none⟩)):=by
 obtain⟨j,hj,hjs⟩:=Option.map_eq_some_iff.1 (show(Tryz.prog.info? 83).map (·.size)=some 2 by kernel_rfl);have mixed:Tryz.prog.follows .mixedOrders=true:=by kernel_rfl
 have t72:=Tryz.underlying83; have a72:=Tryz.isAgg83; have z72:=Tryz.sizeOf83; have v72:=Tryz.zeroValue83; have u72:=run_underlying Tryz.underlying83;have t70:=Tryz.underlying81; have a70:=Tryz.isAgg81; have z70:=Tryz.sizeOf81; have v70:=Tryz.zeroValue81; have u70:=run_underlying Tryz.underlying81;have t4:=Tryz.underlying4; have a4:=Tryz.isAgg4; have z4:=Tryz.sizeOf4; have v4:=Tryz.zeroValue4; have u4:=run_underlying Tryz.underlying4;have t164:=Tryz.underlying175; have a164:=Tryz.isAgg175; have z164:=Tryz.sizeOf175; have v164:=Tryz.zeroValue175; have u164:=run_underlying Tryz.underlying175
 go_enter Tryz.func62,Tryz.ntmps62
 go_wp2
 rw[Lib.run_to_unsafe w ⟨b,0,none⟩ t70 t164 hj (by rw[hjs]; decide) hsh (Nat.zero_lt_succ 1)];simp only[Result.andThen];rw[Oper.upon_value]
 go_wp2
 rw[run_callFunc_extern Tryz.func95 (by kernel_rfl) (by kernel_rfl) (by kernel_rfl) (e:=Extern.AbiNoEscape.same) (by kernel_rfl)];rw[Lib.run_noEscape];simp only[Result.andThen];rw[Oper.upon_value]
 go_wp2
 rw[Lib.run_from_unsafe w ⟨b,0,none⟩ t164 t70 hj hsh (by kernel_rfl)];simp only[Result.andThen];rw[Oper.upon_value]
 go_wp2
 go_end0
 exact⟨rfl,rfl⟩
theorem bstring_run(b g cap:Nat) (p:Value) (l:List UInt8) (w:World) (cur:Array Value) (fr:Nat×Nat) (hbk:w.heap[b]?=some (.cells #[p,.slice (some ⟨g,0,none⟩) l.length cap] 83)) (hg:w.heap[g]?=some (.cells cur 5 fr)) (hcell:∀ j x,l[j]?=some x->w.cell? ((⟨g,0,none⟩:Addr).add j)=some (.int .u8 x.toNat))
  (h0:l≠[]) (hn:l.length<=cur.size) (hc:cap≠0) (h63:l.length<=9223372036854775807) :
  Calls Tryz.prog 28 #[.pointer (some ⟨b,0,none⟩)] w fun e w'=>e=.returned (.string ⟨l.toArray⟩)/\w'=w.drew.freeze ⟨g,0,none⟩ l.length:=by
 have c1:w.drew.cell? ⟨b,1,none⟩=some (.slice (some ⟨g,0,none⟩) l.length cap):=by
  have:w.drew.heap[b]?=some (.cells #[p,.slice (some ⟨g,0,none⟩) l.length cap] 83):=hbk
  rw[Lib.cell_of_heap this]; rfl
 have hSD:(Builtin.unsafeSliceData_ #[22] 136 #[.slice (some ⟨g,0,none⟩) l.length cap]).run Tryz.prog w.drew=.ok (.pointer (some ⟨g,0,none⟩)) w.drew:=
  Lib.run_unsafeSliceData_row _ _ _ _ _ _ hc
 have hUS:(Builtin.unsafeString_ #[136,3] 9 #[.pointer (some ⟨g,0,none⟩),.int .i64 l.length]).run Tryz.prog w.drew=.ok (.string ⟨l.toArray⟩) (w.drew.freeze ⟨g,0,none⟩ l.length):=by
  refine Lib.run_unsafeString_row w.drew 136 3 9 5 Tryz.underlying136 (by kernel_rfl) g cur.size (by have hg':w.drew.heap[g]?=some (.cells cur 5 fr):=hg; simp[World.shape?,hg']) l h0 hn h63 ?_;intro j x hx;exact hcell j x hx
 have mixed:Tryz.prog.follows .mixedOrders=true:=by kernel_rfl
 have t72:=Tryz.underlying83; have a72:=Tryz.isAgg83; have z72:=Tryz.sizeOf83; have v72:=Tryz.zeroValue83; have u72:=run_underlying Tryz.underlying83;have t70:=Tryz.underlying81; have a70:=Tryz.isAgg81; have z70:=Tryz.sizeOf81; have v70:=Tryz.zeroValue81; have u70:=run_underlying Tryz.underlying81;have t37:=Tryz.underlying22; have a37:=Tryz.isAgg22; have z37:=Tryz.sizeOf22; have v37:=Tryz.zeroValue22; have u37:=run_underlying Tryz.underlying22;have t127:=Tryz.underlying136; have a127:=Tryz.isAgg136; have z127:=Tryz.sizeOf136; have v127:=Tryz.zeroValue136; have u127:=run_underlying Tryz.underlying136;have t3:=Tryz.underlying3; have a3:=Tryz.isAgg3; have z3:=Tryz.sizeOf3; have v3:=Tryz.zeroValue3; have u3:=run_underlying Tryz.underlying3;have t9:=Tryz.underlying9; have a9:=Tryz.isAgg9; have z9:=Tryz.sizeOf9; have v9:=Tryz.zeroValue9; have u9:=run_underlying Tryz.underlying9;have t5:=Tryz.underlying5; have a5:=Tryz.isAgg5; have z5:=Tryz.sizeOf5; have v5:=Tryz.zeroValue5; have u5:=run_underlying Tryz.underlying5
 go_enter Tryz.func28,Tryz.ntmps28
 go_wp2
 go_region_o
 all_goals (go_wp2; go_ret; exact⟨rfl,rfl⟩)
end
theorem SH.joinB{B:Nat->Prop} {w0 W:World} {H:List Ck} (h:SH B w0 H W):SH (fun k=>Rest W H k\/B k) W H W:=by
 have h1:=h.rest;have hB:∀ k,B k->Rest W H k:=fun q hq=>h.restB hq
 exact⟨KO.refl _ _,fun k hk=>hk.elim (fun h=>h.1) (fun h=>(hB k h).1),fun c hc=>(h1.ok c hc).base fun b hb hk=>((h1.ok c hc).lt hb).1 (hk.elim (fun h=>h) (hB b)),h1.apart⟩
theorem w_copyCheck(bb:Bool) (J:Nat) (x:SC) (rest:Hp):AC cx 62 [.c (.ptr J 0)] ((J,.cells 83 [.slf bb J,x]) :: rest) (fun sv h=>sv=.tup []/\h=(J,.cells 83 [.slf true J,x]) :: rest):=by
 intro B w0 env vs H W hg ha hh hs;obtain⟨v,r,rfl,⟨k,hk,rfl⟩,hr⟩:=ha;have hr':r=[]:=hr;subst hr';obtain⟨c,H2,rfl,⟨k',us,hk',rfl,hcs⟩,hh2⟩:=hh;have ek:k=k':=by rw[hk]at hk'; cases hk'; rfl
 subst ek;obtain⟨v0,r0,rfl,⟨k2,hk2,rfl⟩,v1,r1,rfl,hx,hr1⟩:=hcs;have hr1':r1=[]:=hr1;subst hr1';have hok:=hs.ok _ List.mem_cons_self;have hup:Up B w0 B W:=⟨fun _ h=>h,fun k hk=>hs.below.block k hk⟩
 cases bb with
 | true=>
  have e2:k2=k:=by
   have:=hk2 rfl
   rw[hk]at this;cases this
   rfl
  subst e2;refine Calls.mono (copyCheck_used k2 W (by have:=hok.2; simp[World.cell?,this])) fun e w' ⟨h1,h2⟩=>⟨_,h1,?_⟩
  subst h2;exact⟨env,B,w',_,.tup [],_,⟨rfl,rfl⟩,fun _ h=>h,fun _ h=>.inl h,KO.refl _ _,⟨[],rfl,rfl⟩,⟨_,_,rfl,⟨k2,_,hk,rfl,⟨_,_,rfl,⟨k2,fun _=>hk,rfl⟩,_,_,rfl,hx.up hup,rfl⟩⟩,hh2.up hup⟩,hs.joinB,fun _ _ _ h=>h⟩
 | false=>
  have hlt:k < W.heap.size:=(Array.getElem?_eq_some_iff.1 hok.2).1;have hoth:∀ q,q≠k->(W.setCell ⟨k,0,none⟩ (.pointer (some ⟨k,0,none⟩))).heap[q]?=W.heap[q]?:=fun q hq=>Below.heap_setCell _ _ _ _ (fun e=>hq (by simpa using e))
  have hnew:(W.setCell ⟨k,0,none⟩ (.pointer (some ⟨k,0,none⟩))).heap[k]?=some (.cells #[.pointer (some ⟨k,0,none⟩),v1] 83):=by
   have:=hok.2
   simp[World.setCell,Array.getElem?_modify,this]
  refine Calls.mono (copyCheck_fresh k W (by have:=hok.2; simp[World.cell?,this]) (by have:=hok.2; simp[World.shape?,this]) (by have:=hok.2; simp[World.frozen?,this])) fun e w' ⟨h1,h2⟩=>⟨_,h1,?_⟩
  have hsz:w'.heap.size=W.heap.size:=by rw[h2]; simp[World.setCell]
  refine⟨env,B,W,_,.tup [],_,⟨rfl,rfl⟩,fun _ h=>h,fun _ h=>.inl h,KO.refl _ _,⟨[],rfl,rfl⟩,⟨_,_,rfl,⟨k,[.pointer (some ⟨k,0,none⟩),v1],hk,rfl,⟨_,_,rfl,⟨k,fun _=>hk,rfl⟩,_,_,rfl,hx.up hup,rfl⟩⟩,hh2.up hup⟩,?_,fun _ _ _ h=>h⟩;exact hs.joinB.setC (K:=fun c=>c :: H2) ⟨[],H2,rfl,rfl⟩ ⟨by rw[h2]; rfl,by rw[h2]; rfl,by rw[h2]; rfl,hsz⟩ (by rw[h2]; exact hnew) (by rw[h2]; exact hoth)
theorem w_bString(J R:Nat) (x:SC) (l:List Int) (hl:l≠[]) (hb:isBs l=true):AC cx 28 [.c (.ptr J 0)] [(J,.cells 83 [x,.sl R]),(R,.row 5 (.int .u8) l none)] (fun sv h=>sv=.c (.str (bsOf l))/\h=[]):=by
 intro B w0 env vs H W hg ha hh hs;obtain⟨v,r,rfl,⟨k,hk,rfl⟩,hr⟩:=ha;have hr':r=[]:=hr;subst hr';obtain⟨c,H2,rfl,⟨k',us,hk',rfl,hcs⟩,c2,H3,rfl,⟨A,cp,xs,hA,rfl,hfl,_⟩,hh3⟩:=hh;have hh3':H3=[]:=hh3;subst hh3';have ek:k=k':=by rw[hk]at hk'; cases hk'; rfl
 subst ek;obtain⟨v0,r0,rfl,_,v1,r1,rfl,⟨A',c',n',hA',rfl⟩,hr1⟩:=hcs;have hr1':r1=[]:=hr1;subst hr1';rw[hA]at hA';cases hA';have hok:=hs.ok _ List.mem_cons_self;have how:Owns W B 5 1 A cp l.length xs:=hs.ok _ (List.mem_cons_of_mem _ List.mem_cons_self);have hlen:0 < l.length:=List.length_pos_iff.2 hl;obtain⟨g,cur,fr,rfl,hBg,hgg,hfr,hn,hm,hsz,htk⟩:∃ g cur fr,A=some ⟨g,0,none⟩/\¬ B g/\W.heap[g]?=some (.cells cur 5 fr)/\(fr.1=fr.2\/cur.size<=fr.1)/\l.length<=cp/\cp<=maxLen/\cur.size=cp * 1/\cur.toList.take (l.length * 1)=xs:=by
  rcases how.2 with⟨_,h0,_⟩ | h
  ·omega
  ·exact h
 have hbl:(bsOf l).length=l.length:=by simp[bsOf]
 have hxs:xs=(bsOf l).map (fun c=>Value.int .u8 (c.toNat:Int)):=(flat_ints hfl).trans (by_back l hb).symm;have hcell:∀ j y,(bsOf l)[j]?=some y->W.cell? ((⟨g,0,none⟩:Addr).add j)=some (.int .u8 y.toNat):=fun j y hj=>by
  have hj2:j < l.length:=by have:=(List.getElem?_eq_some_iff.1 hj).1; omega
  have:=how.cells rfl j (by omega)
  rw[show(⟨g,0,none⟩:Addr).add j=⟨g,j,none⟩ by rw[Addr.add_lit,Nat.zero_add],this,hxs]
  simp[hj]
 refine Calls.mono (bstring_run k g cp v0 (bsOf l) W cur fr (by rw[hbl]; exact hok.2) hgg hcell (fun e=>hl (by simpa [bsOf] using e)) (by rw[hbl]; omega) (by omega) (by rw[hbl]; unfold maxLen at hm; omega)) fun e w' ⟨h1,h2⟩=>⟨_,h1,?_⟩
 have hj:=hs.joinB;have hko:KO (fun q=>q≠g) W w'/\w'.heap.size=W.heap.size:=by
  rw[h2];unfold World.freeze
  split
  ·exact⟨⟨rfl,rfl,rfl,Nat.le_refl _,fun _ _=>rfl⟩,rfl⟩
  ·refine⟨⟨rfl,rfl,rfl,?_,fun q hq=>?_⟩,?_⟩
   ·rw[Array.size_modify]; exact Nat.le_refl _
   ·simp only[Array.getElem?_modify]
    rw[if_neg (fun e=>hq e.symm)]
    rfl
   ·rw[Array.size_modify]; rfl
 have hoth:=hko.1.block;refine⟨env,B,W,[],_,[],⟨rfl,rfl⟩,fun _ h=>h,fun _ h=>.inl h,KO.refl _ _,rfl,rfl,⟨⟨hko.1.os,hko.1.tape,hko.1.output,hko.1.size,fun q hq=>hoth q fun e=>?_⟩,fun q hq=>?_,(fun c hc=>by cases hc),List.Pairwise.nil⟩,fun _ _ _ h=>h⟩
 ·subst e
  rcases hq with hq | hq
  ·exact hq.2 _ (List.mem_cons_of_mem _ List.mem_cons_self) rfl
  ·exact hBg hq
 ·rw[hko.2]
  exact hj.base q hq
end

section
set_option linter.unusedSimpArgs false
set_option linter.unusedVariables false
open Go.RowKit
abbrev bHA:List (Nat×BS):=[(1000000,.cells 83 [.slf 1000000,.raw (.sl 2000000)]),(2000000,.row 5 (.int .u8))]
def m_copyCheck(b:Bool) (l:List Int):Option Bool:=some true
noncomputable def ct_copyCheck:CT cx where
 f:=62
 fn:=Tryz.f62
 A:=[.c (.raw (.ptr 1000000 0))]
 HA:=bHA
 ρ:=Bool
 df:=true
 m:=fun d=>m_copyCheck d.1 d.2.1
 out:=fun d r=>(.tup [],[(1000000,.cells 83 [.slf r 1000000,.sl 2000000]),(2000000,.row 5 (.int .u8) d.2.1 none)])
 hf:=Tryz.func62
 hn:=rfl
 hb:=rfl
 ok:=fun d r he=>by
  cases he;exact w_copyCheck d.1 1000000 (.sl 2000000) [(2000000,.row 5 (.int .u8) d.2.1 none)]
def m_bString(b:Bool) (l:List Int):Option (List UInt8):=gd (isBs l&&!l.isEmpty)<|some (bsOf l)
noncomputable def ct_bString:CT cx where
 f:=28
 fn:=Tryz.f28
 A:=[.c (.raw (.ptr 1000000 0))]
 HA:=bHA
 ρ:=List UInt8
 df:=[]
 m:=fun d=>m_bString d.1 d.2.1
 out:=fun d r=>(.a (.c (.str r)),[])
 hf:=Tryz.func28
 hn:=rfl
 hb:=rfl
 ok:=fun d r he=>by
  obtain⟨h1,h2⟩:=zI he;cases h2;simp only[Bool.and_eq_true,Bool.not_eq_true']at h1;exact w_bString 1000000 2000000 (.slf d.1 1000000) d.2.1 (fun e=>by have:=h1.2; rw[e]at this; cases this) h1.1
def m_bwrite(N:Nat) (a0:Int) (a1:Bool) (a2:List Int):Option (Bool×(List Int)):=
  Option.bind (m_copyCheck a1 a2) fun r1=>
  gd ((zV 1 (a2.length+[a0].length))&&(true)) <|
  some (r1,(a2++[a0]))
noncomputable def ct_bwrite (N:Nat):CT cx:=zS N za (by kernel_rfl) [.c (.raw (.ptr 1000000 0)),.c (.int .u8)] [(1000000,.cells 83 [.slf 1000000,.raw (.sl 1000001)]),(1000001,.row 5 (.int .u8))] ⟨.a (.c (.raw (.val .nilIface))),[(1000000,.cells 83 [.slf 1000000,.raw (.sl 1000001)]),(1000001,.row 5 (.int .u8))],[]⟩ [ct_copyCheck] [] (.s .d (.s (.r [.n 1,.c [(1000000,1000000),(2000000,1000001)]]) .d)) [.tmp 4] 27 (false,[]) (fun d=>m_bwrite N d.1 d.2.1 d.2.2.1) Tryz.func27 rfl rfl Tryz.ntmps27 rfl rfl rfl (fun d=>by kernel_rfl)
def m_pdraw_L11(N:Nat) (x10:(Int×(List zi)×Unit)):Nat->(Int×(List Int)×Bool)->Option ((List Int)×Bool):=zc fun d11 rec11=>
  cond (decide (d11.1 < (x10.2.1.length:Int))) (gd ((ze d11.1 x10.2.1.length)&&(true)) <|
  cond (decide ((x10.2.1.getD d11.1.toNat zG.zero).1=(2:Int))) (Option.bind (m_bwrite N (IntKind.wrap .u8 ((IntKind.wrap .u8 ((97:Int)+(x10.2.1.getD d11.1.toNat zG.zero).2.1)) - (1:Int))) d11.2.2 d11.2.1) fun r12=>
  gd ((zq (d11.1+(1:Int)))&&(true)) <|
  rec11 ((d11.1+(1:Int)),r12.2,r12.1)) (Option.bind (m_bwrite N (IntKind.wrap .u8 ((48:Int)+(x10.2.1.getD d11.1.toNat zG.zero).2.1)) d11.2.2 d11.2.1) fun r13=>
  gd ((zq (d11.1+(1:Int)))&&(true)) <|
  rec11 ((d11.1+(1:Int)),r13.2,r13.1))) (some (d11.2.1,d11.2.2))
def m_pdraw(N:Nat) (a0:(List (List zi))):Option ((List UInt8)):=
  Option.bind (m_pplain N a0) fun r1=>
  cond (!r1) (some ([]:List UInt8)) (Option.bind (m_bwd N a0) fun r2=>
  Option.bind (m_bwdI N true r2) fun l10=>rangeL (fun(x10:Int×(List zi)×Unit) (y10:(List Int)×Bool) (k10:(List Int)×Bool->Option ((List UInt8)))=>
  Option.bind (m_pdraw_L11 N x10 N ((0:Int),y10.1,y10.2)) fun o11=>
  Option.bind (m_bwrite N (10:Int) o11.2 o11.1) fun r14=>
  k10 (r14.2,r14.1)) l10 (([]:List Int),false) fun o10=>
  Option.bind (m_bString o10.2 o10.1) fun r15=>
  some r15)
noncomputable def ct_pdraw (N:Nat):CT cx:=zS N za (by kernel_rfl) [.dat (.sl (.sl zG))] [] ⟨.a (.c .str),[],[]⟩ [ct_pplain N,ct_bwd N,ct_bwrite N,ct_bString] [it_bwdI N] (.s (.r [.n 2,.w (.frzC 1 (.sl (.sl zG)))]) (.s .d (.s .d (.s (.s (.r [.n 3,.w (.nilC 3 1 12 5 (.int .u8))]) (.b (.rf [(3,40)] ⟨[],[(12,.row 5 (.int .u8)),(40,.cells 83 [.slf 40,.raw (.sl 12)])],[],[]⟩ (.b (.s (.s .d (.b (.lx 2 ⟨[(3,.a (.c (.raw (.ptr 40 0)))),(18,.a (.c (.int .i64)))],[(12,.row 5 (.int .u8)),(40,.cells 83 [.slf 40,.raw (.sl 12)])],[16,17],[]⟩ ⟨[(3,.a (.c (.raw (.ptr 40 0))))],[(12,.row 5 (.int .u8)),(40,.cells 83 [.slf 40,.raw (.sl 12)])],[],[]⟩ (.s .d (.s .d (.s (.b (.s (.r [.n 4,.w (.frzC 7 zG)]) (.s .d (.c (.r [.n 4,.c [(1000000,40),(1000001,12)]]) (.r [.n 3,.c [(1000000,40),(1000001,12)]]))))) .d)))))) (.r [.c [(1000000,40),(1000001,12)]])))))) (.s (.r [.c [(1000000,40),(2000000,12)]]) .d))))) [.tmp 2] 13 [] (fun d=>m_pdraw N d.1) Tryz.func13 rfl rfl Tryz.ntmps13 rfl rfl rfl (fun d=>by kernel_rfl)
def s_lives39_1:List UInt8:=[97,49,49,10,50,50,50,10,49,98,49,10]
def qY(N:Nat) :Option (Bool):=
  Option.bind (m_p39ex N) fun r1=>
  Option.bind (m_ploop N r1 (0:Int) (1:Int)) fun r2=>
  Option.bind (m_ploop N r1 (0:Int) (0:Int)) fun r3=>
  Option.bind (m_ploop N r1 (2:Int) (0:Int)) fun r4=>
  Option.bind (m_pplain N r1) fun r5=>
  Option.bind (cond r5 (m_pdraw N r1) (some [])) fun r6=>
  some (cond (cond (cond (cond (cond (cond (cond r5 (r6 == s_lives39_1) false) (decide (r2.2=(0:Int))) false) (GTy.beq zo r2.1 ((2:Int),(0:Int))) false) (decide (r3.2=(0:Int))) false) (GTy.beq zo r3.1 ((1:Int),(4:Int))) false) (decide (r4.2=(0:Int))) false) (GTy.beq zo r4.1 ((1:Int),(7:Int))) false)
noncomputable def ct_lives39 (N:Nat):CT cx:=zS N za (by kernel_rfl) [] [] ⟨.a (.c .bool),[],[]⟩ [ct_p39ex N,ct_ploop N,ct_pplain N,ct_pdraw N] [] (.s .d (.s (.r [.n 3,.w (.frzC 1 (.sl (.sl zG)))]) (.s (.r [.n 8,.w (.frzC 2 zo)]) (.s (.r [.n 8,.w (.frzC 4 zo)]) (.s (.r [.n 8,.w (.frzC 6 zo)]) .d))))) [.tmp 0] 8 false (fun d=>qY N ) Tryz.func8 rfl rfl Tryz.ntmps8 rfl rfl rfl (fun d=>by kernel_rfl)
end

section
set_option linter.unusedSimpArgs false
set_option linter.unusedVariables false
open Go.RowKit
def m_isNan8(N:Nat) (a0:Int):Option (Bool):=
  some (!(decide (a0=a0)))
noncomputable def ct_isNan8 (N:Nat):CT cx:=zS N za (by kernel_rfl) [.c (.int .u8)] [] ⟨.a (.c .bool),[],[]⟩ [] [] (.d) [.tmp 2] 129 false (fun d=>m_isNan8 N d.1) Tryz.func129 rfl rfl Tryz.ntmps129 rfl rfl rfl (fun d=>by kernel_rfl)
def m_cmp8(N:Nat) (a0:Int) (a1:Int):Option (Int):=
  Option.bind (m_isNan8 N a0) fun r1=>
  Option.bind (m_isNan8 N a1) fun r2=>
  cond r1 (cond r2 (some (0:Int)) (some (-1:Int))) (cond r2 (some (1:Int)) (cond (decide (a0 < a1)) (some (-1:Int)) (cond (decide (a1 < a0)) (some (1:Int)) (some (0:Int)))))
noncomputable def ct_cmp8 (N:Nat):CT cx:=zS N za (by kernel_rfl) [.c (.int .u8),.c (.int .u8)] [] ⟨.a (.c (.int .i64)),[],[]⟩ [ct_isNan8 N] [] (.d) [.tmp 4] 103 0 (fun d=>m_cmp8 N d.1 d.2.1) Tryz.func103 rfl rfl Tryz.ntmps103 rfl rfl rfl (fun d=>by kernel_rfl)
def m_isNanI(N:Nat) (a0:Int):Option (Bool):=
  some (!(decide (a0=a0)))
noncomputable def ct_isNanI (N:Nat):CT cx:=zS N za (by kernel_rfl) [.c (.int .i64)] [] ⟨.a (.c .bool),[],[]⟩ [] [] (.d) [.tmp 2] 130 false (fun d=>m_isNanI N d.1) Tryz.func130 rfl rfl Tryz.ntmps130 rfl rfl rfl (fun d=>by kernel_rfl)
def m_cmpI(N:Nat) (a0:Int) (a1:Int):Option (Int):=
  Option.bind (m_isNanI N a0) fun r1=>
  Option.bind (m_isNanI N a1) fun r2=>
  cond r1 (cond r2 (some (0:Int)) (some (-1:Int))) (cond r2 (some (1:Int)) (cond (decide (a0 < a1)) (some (-1:Int)) (cond (decide (a1 < a0)) (some (1:Int)) (some (0:Int)))))
noncomputable def ct_cmpI (N:Nat):CT cx:=zS N za (by kernel_rfl) [.c (.int .i64),.c (.int .i64)] [] ⟨.a (.c (.int .i64)),[],[]⟩ [ct_isNanI N] [] (.d) [.tmp 4] 104 0 (fun d=>m_cmpI N d.1 d.2.1) Tryz.func104 rfl rfl Tryz.ntmps104 rfl rfl rfl (fun d=>by kernel_rfl)
def m_cmpOr_L1(N:Nat) (a0:(List Int)):Nat->Int->Option ((Unit)⊕(Int)):=zc fun d1 rec1=>
  cond (decide (d1 < (a0.length:Int))) (gd ((ze d1 a0.length)&&(true)) <|
  cond (!(decide ((a0.getD d1.toNat 0)=(0:Int)))) (some (.inr (a0.getD d1.toNat 0))) (gd ((zq (d1+(1:Int)))&&(true)) <|
  rec1 (d1+(1:Int)))) (some (.inl ()))
def m_cmpOr(N:Nat) (a0:(List Int)):Option (Int):=
  Option.bind (m_cmpOr_L1 N a0 N (0:Int)) fun(o1:(Unit)⊕(Int))=>
  sm o1 (fun o1=>
  some (0:Int)) (fun q=>some q)
noncomputable def ct_cmpOr (N:Nat):CT cx:=zS N za (by kernel_rfl) [.c (.lst (.int .i64))] [] ⟨.a (.c (.int .i64)),[],[]⟩ [] [] (.s .d (.s .d (.s (.s .d (.b (.lxx 0 ⟨[(8,.a (.c (.int .i64)))],[],[3,6,7],[]⟩ ⟨[],[],[3],[]⟩ .d))) .d))) [.tmp 2] 102 0 (fun d=>m_cmpOr N d.1) Tryz.func102 rfl rfl Tryz.ntmps102 rfl rfl rfl (fun d=>by kernel_rfl)
def qE(N:Nat) (a0:zb) (a1:zb):Option (Int):=
  Option.bind (m_cmp8 N a0.1 a1.1) fun r1=>
  Option.bind (m_cmpI N a0.2 a1.2) fun r2=>
  Option.bind (m_cmpOr N [r1,r2]) fun r3=>
  some r3
noncomputable def ct_fcompare (N:Nat):CT cx:=zS N za (by kernel_rfl) [.dat zo,.dat zo] [] ⟨.a (.c (.int .i64)),[],[]⟩ [ct_cmp8 N,ct_cmpI N,ct_cmpOr N] [] (.s (.r [.n 3,.w (.frzC 2 zo),.w (.frzC 3 zo)]) (.s (.o [] [.t 0 0,.t 1 1,.t 2 0,.t 3 1,.t 5 0,.t 6 1,.t 7 0,.t 8 1,.c 4 [],.c 9 [],.s 10,.z 15,.c 11 [],.t 12 0] []) .d)) [.tmp 4] 75 0 (fun d=>qE N d.1 d.2.1) Tryz.func75 rfl rfl Tryz.ntmps75 rfl rfl rfl (fun d=>by kernel_rfl)
def m_fcompareP(N:Nat) (a0:zQ) (a1:zQ):Option (Int):=
  Option.bind (qE N a0.1 a1.1) fun r1=>
  Option.bind (qE N a0.2.1 a1.2.1) fun r2=>
  Option.bind (m_cmpOr N [r1,r2]) fun r3=>
  some r3
noncomputable def ct_fcompareP (N:Nat):CT cx:=zS N za (by kernel_rfl) [.dat zK,.dat zK] [] ⟨.a (.c (.int .i64)),[],[]⟩ [ct_fcompare N,ct_cmpOr N] [] (.s (.r [.n 3,.w (.frzC 2 zK),.w (.frzC 3 zK)]) (.s (.o [] [.t 0 0,.t 1 1,.t 2 0,.t 3 1,.t 5 0,.t 6 1,.t 7 0,.t 8 1,.c 4 [],.c 9 [],.s 10,.z 15,.c 11 [],.t 12 0] []) .d)) [.tmp 4] 76 0 (fun d=>m_fcompareP N d.1 d.2.1) Tryz.func76 rfl rfl Tryz.ntmps76 rfl rfl rfl (fun d=>by kernel_rfl)
def m_joinXo_L1(N:Nat) (a0:(List (List zQ))):Nat->(Int×Int)->Option (Int):=zc fun d1 rec1=>
  cond (decide (d1.2 < (a0.length:Int))) (gd ((ze d1.2 a0.length)&&(true)) <|
  gd ((zq (d1.1+((a0.getD d1.2.toNat []).length:Int)))&&(true)) <|
  gd ((zq (d1.2+(1:Int)))&&(true)) <|
  rec1 ((d1.1+((a0.getD d1.2.toNat []).length:Int)),(d1.2+(1:Int)))) (some d1.1)
def m_joinXo_L2(N:Nat) (a0:(List (List zQ))):Nat->(Int×Int×(List zQ))->Option ((List zQ)):=zc fun d2 rec2=>
  cond (decide (d2.2.1 < (a0.length:Int))) (gd ((ze d2.2.1 a0.length)&&(true)) <|
  gd (((decide (0<=d2.1))&&(decide (d2.1<=(d2.2.2.length:Int))))&&((decide (d2.1.toNat+(a0.getD d2.2.1.toNat []).length<=d2.2.2.length))&&((zq (d2.1+((a0.getD d2.2.1.toNat []).length:Int)))&&(true)))) <|
  gd ((zq (d2.2.1+(1:Int)))&&(true)) <|
  rec2 ((d2.1+((a0.getD d2.2.1.toNat []).length:Int)),(d2.2.1+(1:Int)),(d2.2.2.take d2.1.toNat++(a0.getD d2.2.1.toNat [])++d2.2.2.drop (d2.1.toNat+(a0.getD d2.2.1.toNat []).length)))) (some d2.2.2)
def m_joinXo(N:Nat) (a0:(List (List zQ))):Option ((List zQ)):=
  Option.bind (m_joinXo_L1 N a0 N ((0:Int),(0:Int))) fun o1=>
  gd (((decide (0<=o1))&&(decide (o1<=o1))&&(zH 40 o1))&&(true)) <|
  Option.bind (m_joinXo_L2 N a0 N ((0:Int),(0:Int),(List.replicate o1.toNat (zK.zero:zQ)))) fun o2=>
  some o2
noncomputable def ct_joinXo (N:Nat):CT cx:=zS N za (by kernel_rfl) [.c (.lst (.sl zK))] [] ⟨.a (.c (.raw (.sl 22))),[(22,.row 118 zK)],[]⟩ [] [] (.s .d (.s .d (.s (.s .d (.b (.lx 0 ⟨[(3,.a (.c (.int .i64))),(12,.a (.c (.int .i64)))],[],[0,10,11],[]⟩ ⟨[(3,.a (.c (.int .i64)))],[],[0],[]⟩ .d))) (.s .d (.s .d (.s (.s .d (.b (.lx 2 ⟨[(6,.a (.c (.raw (.sl 22)))),(7,.a (.c (.int .i64))),(25,.a (.c (.int .i64)))],[(22,.row 118 zK)],[23,24],[]⟩ ⟨[(6,.a (.c (.raw (.sl 22))))],[(22,.row 118 zK)],[],[]⟩ .d))) .d)))))) [.tmp 2] 156 [] (fun d=>m_joinXo N d.1) Tryz.func156 rfl rfl Tryz.ntmps156 rfl rfl rfl (fun d=>by kernel_rfl)
def m_added1(N:Nat) (a0:zQ) (a1:zQ):Option (Int):=
  Option.bind (qE N a0.1 a1.1) fun r1=>
  cond (!(decide (r1=(0:Int)))) (some r1) (Option.bind (qE N a0.2.1 a1.2.1) fun r2=>
  some r2)
noncomputable def ct_added1 (N:Nat):CT cx:=zS N za (by kernel_rfl) [.dat zK,.dat zK] [] ⟨.a (.c (.int .i64)),[],[]⟩ [ct_fcompare N] [] (.s (.r [.n 3,.w (.frzC 2 zK),.w (.frzC 3 zK)]) .d) [.tmp 4] 158 0 (fun d=>m_added1 N d.1 d.2.1) Tryz.func158 rfl rfl Tryz.ntmps158 rfl rfl rfl (fun d=>by kernel_rfl)
def m_added2(N:Nat) (a0:zQ):Option (Bool):=
  some (decide (a0.2.2=(0:Int)))
noncomputable def ct_added2 (N:Nat):CT cx:=zS N za (by kernel_rfl) [.dat zK] [] ⟨.a (.c .bool),[],[]⟩ [] [] (.s (.r [.n 2,.w (.frzC 1 zK)]) .d) [.tmp 2] 160 false (fun d=>m_added2 N d.1) Tryz.func160 rfl rfl Tryz.ntmps160 rfl rfl rfl (fun d=>by kernel_rfl)
def m_isortX_L2(N:Nat) (a0:Int):Nat->(Int×(List zQ))->Option ((List zQ)):=zc fun d2 rec2=>
  gd ((qn (decide (a0 < d2.1)) (ze d2.1 d2.2.length))&&((qn (decide (a0 < d2.1)) (decide (d2.1.toNat < d2.2.length)))&&((qn (decide (a0 < d2.1)) (zq (d2.1 - (1:Int))))&&((qn (decide (a0 < d2.1)) (ze (d2.1 - (1:Int)) d2.2.length))&&((qn (decide (a0 < d2.1)) (decide ((d2.1 - (1:Int)).toNat < d2.2.length)))&&(true)))))) <|
  Option.bind (cond (decide (a0 < d2.1)) (m_added1 N (d2.2.getD d2.1.toNat zK.zero) (d2.2.getD (d2.1 - (1:Int)).toNat zK.zero)) (some 0)) fun r3=>
  cond (cond (decide (a0 < d2.1)) (decide (r3 < (0:Int))) false) (gd ((zq (d2.1 - (1:Int)))&&((zq (d2.1 - (1:Int)))&&((ze (d2.1 - (1:Int)) d2.2.length)&&((decide ((d2.1 - (1:Int)).toNat < d2.2.length))&&((ze d2.1 d2.2.length)&&((decide (d2.1.toNat < d2.2.length))&&((ze d2.1 d2.2.length)&&(((decide (d2.1.toNat < d2.2.length))&&(true))&&((ze (d2.1 - (1:Int)) (d2.2.set d2.1.toNat (d2.2.getD (d2.1 - (1:Int)).toNat zK.zero)).length)&&(((decide ((d2.1 - (1:Int)).toNat < (d2.2.set d2.1.toNat (d2.2.getD (d2.1 - (1:Int)).toNat zK.zero)).length))&&(true))&&(true))))))))))) <|
  gd ((zq (d2.1 - (1:Int)))&&(true)) <|
  rec2 ((d2.1 - (1:Int)),((d2.2.set d2.1.toNat (d2.2.getD (d2.1 - (1:Int)).toNat zK.zero)).set (d2.1 - (1:Int)).toNat (d2.2.getD d2.1.toNat zK.zero)))) (some d2.2)
def m_isortX_L1(N:Nat) (a0:Int) (a1:Int):Nat->(Int×(List zQ))->Option ((List zQ)):=zc fun d1 rec1=>
  cond (decide (d1.1 < a1)) (Option.bind (m_isortX_L2 N a0 N (d1.1,d1.2)) fun o2=>
  gd ((zq (d1.1+(1:Int)))&&(true)) <|
  rec1 ((d1.1+(1:Int)),o2)) (some d1.2)
def m_isortX(N:Nat) (a0:Int) (a1:Int) (a2:List zQ):Option ((List zQ)):=
  gd ((zq (a0+(1:Int)))&&(true)) <|
  Option.bind (m_isortX_L1 N a0 a1 N ((a0+(1:Int)),a2)) fun o1=>
  some o1
noncomputable def ct_isortX (N:Nat):CT cx:=zS N za (by kernel_rfl) [.c (.raw (.sl 2000000)),.c (.int .i64),.c (.int .i64),.c (.fn 158 [])] [(2000000,.row 118 zK)] ⟨.tup [],[(2000000,.row 118 zK)],[]⟩ [ct_added1 N] [] (.s .d (.b (.lx 0 ⟨[(0,.a (.c (.raw (.sl 2000000)))),(8,.a (.c (.int .i64)))],[(2000000,.row 118 zK)],[1,2,3],[]⟩ ⟨[],[(2000000,.row 118 zK)],[],[]⟩ (.s .d (.s (.b (.s .d (.b (.lx 2 ⟨[(0,.a (.c (.raw (.sl 2000000)))),(9,.a (.c (.int .i64)))],[(2000000,.row 118 zK)],[1,2,3,8],[]⟩ ⟨[(0,.a (.c (.raw (.sl 2000000))))],[(2000000,.row 118 zK)],[1,2,3,8],[]⟩ (.s (.s (.oa [9,10,11,12,13] [.t 0 0,.t 1 0,.t 2 0,.t 3 0,.t 4 0,.t 5 0,.t 6 0,.t 7 0,.t 8 3,.t 9 0,.t 10 0,.t 11 0,.t 12 0,.t 13 3,.g 14,.t 15 0,.t 16 0] []) .d) (.s (.b (.oa [10,11,12,13] [.t 0 0,.t 1 0,.t 2 0,.t 3 0,.t 4 0,.t 5 0,.t 6 0,.t 7 0,.t 8 0,.t 9 3,.t 10 0,.t 11 0,.t 12 0,.t 13 3,.t 14 0,.s 15,.t 16 0,.s 17] [])) .d)))))) .d))))) [] 175 [] (fun d=>m_isortX N d.1 d.2.1 d.2.2.1) Tryz.func175 rfl rfl Tryz.ntmps175 rfl rfl rfl (fun d=>by kernel_rfl)
def m_stableX_L1(N:Nat) (a0:Int):Nat->(Int×Int×(List zQ))->Option (Int×(List zQ)):=zc fun d1 rec1=>
  cond (decide (d1.2.1<=a0)) (Option.bind (m_isortX N d1.1 d1.2.1 d1.2.2) fun r2=>
  gd ((zq (d1.2.1+(20:Int)))&&(true)) <|
  rec1 (d1.2.1,(d1.2.1+(20:Int)),r2)) (some (d1.1,d1.2.2))
def m_stableX_L5(N:Nat) (a0:Int) (v4_0:Int):Nat->Unit->Option (Unit):=zc fun d5 rec5=>
  cond (decide (((2:Int) * v4_0)<=a0)) (gd ((zq ((0:Int)+v4_0))&&(true)) <|
  none) (some ())
def m_stableX_L4(N:Nat) (a0:Int):Nat->Int->Option (Unit):=zc fun d4 rec4=>
  cond (decide (d4 < a0)) (gd ((zq ((2:Int) * d4))&&(true)) <|
  Option.bind (m_stableX_L5 N a0 d4 N ()) fun o5=>
  gd ((zq ((0:Int)+d4))&&(true)) <|
  cond (decide (((0:Int)+d4) < a0)) (none) (gd ((zq (d4 * (2:Int)))&&(true)) <|
  rec4 (d4 * (2:Int)))) (some ())
def m_stableX(N:Nat) (a0:Int) (a1:List zQ):Option ((List zQ)):=
  Option.bind (m_stableX_L1 N a0 N ((0:Int),(20:Int),a1)) fun o1=>
  Option.bind (m_isortX N o1.1 a0 o1.2) fun r3=>
  Option.bind (m_stableX_L4 N a0 N (20:Int)) fun o4=>
  some r3
noncomputable def ct_stableX (N:Nat):CT cx:=zS N za (by kernel_rfl) [.c (.raw (.sl 2000000)),.c (.int .i64),.c (.fn 158 [])] [(2000000,.row 118 zK)] ⟨.tup [],[(2000000,.row 118 zK)],[]⟩ [ct_isortX N] [] (.s .d (.s .d (.s (.b (.lx 0 ⟨[(0,.a (.c (.raw (.sl 2000000)))),(7,.a (.c (.int .i64))),(8,.a (.c (.int .i64)))],[(2000000,.row 118 zK)],[1,2,6],[]⟩ ⟨[(0,.a (.c (.raw (.sl 2000000)))),(7,.a (.c (.int .i64)))],[(2000000,.row 118 zK)],[1,2,6],[]⟩ (.s .d (.b (.s (.r [.n 4,.c [(2000000,2000000)]]) .d))))) (.s (.r [.n 4,.c [(2000000,2000000)]]) (.b (.lx 2 ⟨[(0,.a (.c (.raw (.sl 2000000)))),(6,.a (.c (.int .i64)))],[],[1,2],[2000000]⟩ ⟨[],[],[],[2000000]⟩ (.s .d (.b (.s .d (.s (.b (.lx 4 ⟨[(0,.a (.c (.raw (.sl 2000000))))],[],[1,2,6,7,8],[2000000]⟩ ⟨[(0,.a (.c (.raw (.sl 2000000))))],[],[1,2,6,7],[2000000]⟩ .d)) .d)))))))))) [] 172 [] (fun d=>m_stableX N d.1 d.2.1) Tryz.func172 rfl rfl Tryz.ntmps172 rfl rfl rfl (fun d=>by kernel_rfl)
def m_sortX(N:Nat) (a0:List zQ):Option ((List zQ)):=
  Option.bind (m_stableX N (a0.length:Int) a0) fun r1=>
  some r1
noncomputable def ct_sortX (N:Nat):CT cx:=zS N za (by kernel_rfl) [.c (.raw (.sl 2000000)),.c (.fn 158 [])] [(2000000,.row 118 zK)] ⟨.tup [],[(2000000,.row 118 zK)],[]⟩ [ct_stableX N] [] (.r [.n 4,.c [(2000000,2000000)]]) [] 157 [] (fun d=>m_sortX N d.1) Tryz.func157 rfl rfl Tryz.ntmps157 rfl rfl rfl (fun d=>by kernel_rfl)
def m_indexX_L1(N:Nat) (a0:List zQ):Nat->Int->Option ((Unit)⊕(Int)):=zc fun d1 rec1=>
  cond (decide (d1 < (a0.length:Int))) (gd ((ze d1 a0.length)&&((decide (d1.toNat < a0.length))&&(true))) <|
  Option.bind (m_added2 N (a0.getD d1.toNat zK.zero)) fun r2=>
  cond r2 (some (.inr d1)) (gd ((zq (d1+(1:Int)))&&(true)) <|
  rec1 (d1+(1:Int)))) (some (.inl ()))
def m_indexX(N:Nat) (a0:List zQ):Option (Int):=
  Option.bind (m_indexX_L1 N a0 N (0:Int)) fun(o1:(Unit)⊕(Int))=>
  sm o1 (fun o1=>
  some (-1:Int)) (fun q=>some q)
noncomputable def ct_indexX (N:Nat):CT cx:=zS N za (by kernel_rfl) [.c (.raw (.sl 2000000)),.c (.fn 160 [])] [(2000000,.row 118 zK)] ⟨.a (.c (.int .i64)),[],[2000000]⟩ [ct_added2 N] [] (.s .d (.s (.s .d (.b (.lxx 0 ⟨[(0,.a (.c (.raw (.sl 2000000)))),(8,.a (.c (.int .i64)))],[],[1,7],[2000000]⟩ ⟨[],[],[],[2000000]⟩ .d))) .d)) [.tmp 4] 173 0 (fun d=>m_indexX N d.1) Tryz.func173 rfl rfl Tryz.ntmps173 rfl rfl rfl (fun d=>by kernel_rfl)
def m_clipX(N:Nat) (a0:(List zQ)):Option ((List zQ)×Nat):=
  gd (((decide (0<=(a0.length:Int)))&&(decide ((a0.length:Int)<=(a0.length:Int)))&&(decide ((a0.length:Int)<=(a0.length:Int))))&&(true)) <|
  some ((a0.take (a0.length:Int).toNat),(a0.length:Int).toNat)
noncomputable def ct_clipX (N:Nat):CT cx:=zS N za (by kernel_rfl) [.c (.lst zK)] [] ⟨.a (.c (.lstx zK)),[],[]⟩ [] [] (.d) [.tmp 2] 161 ([],0) (fun d=>m_clipX N d.1) Tryz.func161 rfl rfl Tryz.ntmps161 rfl rfl rfl (fun d=>by kernel_rfl)
end

section
set_option linter.unusedSimpArgs false
set_option linter.unusedVariables false
open Go.RowKit
def m_deleteX_L2(N:Nat) :Nat->(Int×Int×(List zQ))->Option (Int×(List zQ)):=zc fun d2 rec2=>
  cond (decide (d2.2.1 < (d2.2.2.length:Int))) (gd ((ze d2.2.1 d2.2.2.length)&&((decide (d2.2.1.toNat < d2.2.2.length))&&(true))) <|
  Option.bind (m_added2 N (d2.2.2.getD d2.2.1.toNat zK.zero)) fun r3=>
  cond (!r3) (gd ((ze d2.1 d2.2.2.length)&&(((decide (d2.1.toNat < d2.2.2.length))&&(true))&&(true))) <|
  gd ((zq (d2.1+(1:Int)))&&(true)) <|
  gd ((zq (d2.2.1+(1:Int)))&&(true)) <|
  rec2 ((d2.1+(1:Int)),(d2.2.1+(1:Int)),(d2.2.2.set d2.1.toNat (d2.2.2.getD d2.2.1.toNat zK.zero)))) (gd ((zq (d2.2.1+(1:Int)))&&(true)) <|
  rec2 (d2.1,(d2.2.1+(1:Int)),d2.2.2))) (some (d2.1,d2.2.2))
def m_deleteX(N:Nat) (a0:List zQ):Option ((List zQ)):=
  Option.bind (m_indexX N a0) fun r1=>
  cond (decide (r1=(-1:Int))) (some a0) (gd ((zq (r1+(1:Int)))&&(true)) <|
  Option.bind (m_deleteX_L2 N N (r1,(r1+(1:Int)),a0)) fun o2=>
  none)
noncomputable def ct_deleteX (N:Nat):CT cx:=zS N za (by kernel_rfl) [.c (.raw (.sl 1000000)),.c (.fn 160 [])] [(1000000,.row 118 zK)] ⟨.a (.c (.lst zK)),[],[]⟩ [ct_indexX N,ct_added2 N] [] (.s .d (.s (.r [.n 2,.c [(2000000,1000000)]]) (.s (.s .d (.c (.s .d (.t [.frz 1000000])) .d)) (.s (.s .d (.b (.lx 0 ⟨[(0,.a (.c (.raw (.sl 1000000)))),(5,.a (.c (.int .i64))),(6,.a (.c (.int .i64)))],[(1000000,.row 118 zK)],[1],[]⟩ ⟨[(0,.a (.c (.raw (.sl 1000000)))),(5,.a (.c (.int .i64)))],[(1000000,.row 118 zK)],[],[]⟩ (.s .d (.s (.b (.s (.r [.n 6,.w (.frzC 7 zK)]) .d)) .d))))) .d)))) [.tmp 4] 159 [] (fun d=>m_deleteX N d.1) Tryz.func159 rfl rfl Tryz.ntmps159 rfl rfl rfl (fun d=>by kernel_rfl)
def m_radded_L3(N:Nat) (r2:(List zQ)):Nat->(Int×(List zQ))->Option (((List zQ))⊕((List zQ)×Nat×Int)):=zc fun d3 rec3=>
  cond (decide (d3.1 < (r2.length:Int))) (gd ((ze d3.1 r2.length)&&((decide (d3.1.toNat < r2.length))&&(true))) <|
  gd ((zq ((d3.2.length:Int) - (1:Int)))&&(true)) <|
  gd ((qn (!(decide (((d3.2.length:Int) - (1:Int)) < (0:Int)))) (ze ((d3.2.length:Int) - (1:Int)) d3.2.length))&&((qn (!(decide (((d3.2.length:Int) - (1:Int)) < (0:Int)))) (decide (((d3.2.length:Int) - (1:Int)).toNat < d3.2.length)))&&((qn (!(cond (decide (((d3.2.length:Int) - (1:Int)) < (0:Int))) true (!(GTy.beq zo (d3.2.getD ((d3.2.length:Int) - (1:Int)).toNat zK.zero).1 (r2.getD d3.1.toNat zK.zero).1)))) (ze ((d3.2.length:Int) - (1:Int)) d3.2.length))&&((qn (!(cond (decide (((d3.2.length:Int) - (1:Int)) < (0:Int))) true (!(GTy.beq zo (d3.2.getD ((d3.2.length:Int) - (1:Int)).toNat zK.zero).1 (r2.getD d3.1.toNat zK.zero).1)))) (decide (((d3.2.length:Int) - (1:Int)).toNat < d3.2.length)))&&(true))))) <|
  cond (cond (cond (decide (((d3.2.length:Int) - (1:Int)) < (0:Int))) true (!(GTy.beq zo (d3.2.getD ((d3.2.length:Int) - (1:Int)).toNat zK.zero).1 (r2.getD d3.1.toNat zK.zero).1))) true (!(GTy.beq zo (d3.2.getD ((d3.2.length:Int) - (1:Int)).toNat zK.zero).2.1 (r2.getD d3.1.toNat zK.zero).2.1))) (gd ((zV 40 (d3.2.length+[(r2.getD d3.1.toNat zK.zero)].length))&&(true)) <|
  gd ((zq (d3.1+(1:Int)))&&(true)) <|
  rec3 ((d3.1+(1:Int)),(d3.2++[(r2.getD d3.1.toNat zK.zero)]))) (gd ((ze ((d3.2.length:Int) - (1:Int)) d3.2.length)&&((decide (((d3.2.length:Int) - (1:Int)).toNat < d3.2.length))&&((zq ((d3.2.getD ((d3.2.length:Int) - (1:Int)).toNat zK.zero).2.2+(r2.getD d3.1.toNat zK.zero).2.2))&&((ze ((d3.2.length:Int) - (1:Int)) d3.2.length)&&(((decide (((d3.2.length:Int) - (1:Int)).toNat < d3.2.length))&&(true))&&(true)))))) <|
  gd ((ze ((d3.2.length:Int) - (1:Int)) (d3.2.set ((d3.2.length:Int) - (1:Int)).toNat ((d3.2.getD ((d3.2.length:Int) - (1:Int)).toNat zK.zero).1,((d3.2.getD ((d3.2.length:Int) - (1:Int)).toNat zK.zero).2.1,((d3.2.getD ((d3.2.length:Int) - (1:Int)).toNat zK.zero).2.2+(r2.getD d3.1.toNat zK.zero).2.2)))).length)&&((decide (((d3.2.length:Int) - (1:Int)).toNat < (d3.2.set ((d3.2.length:Int) - (1:Int)).toNat ((d3.2.getD ((d3.2.length:Int) - (1:Int)).toNat zK.zero).1,((d3.2.getD ((d3.2.length:Int) - (1:Int)).toNat zK.zero).2.1,((d3.2.getD ((d3.2.length:Int) - (1:Int)).toNat zK.zero).2.2+(r2.getD d3.1.toNat zK.zero).2.2)))).length))&&((qn (!(decide ((1048576:Int) < ((d3.2.set ((d3.2.length:Int) - (1:Int)).toNat ((d3.2.getD ((d3.2.length:Int) - (1:Int)).toNat zK.zero).1,((d3.2.getD ((d3.2.length:Int) - (1:Int)).toNat zK.zero).2.1,((d3.2.getD ((d3.2.length:Int) - (1:Int)).toNat zK.zero).2.2+(r2.getD d3.1.toNat zK.zero).2.2)))).getD ((d3.2.length:Int) - (1:Int)).toNat zK.zero).2.2))) (ze ((d3.2.length:Int) - (1:Int)) (d3.2.set ((d3.2.length:Int) - (1:Int)).toNat ((d3.2.getD ((d3.2.length:Int) - (1:Int)).toNat zK.zero).1,((d3.2.getD ((d3.2.length:Int) - (1:Int)).toNat zK.zero).2.1,((d3.2.getD ((d3.2.length:Int) - (1:Int)).toNat zK.zero).2.2+(r2.getD d3.1.toNat zK.zero).2.2)))).length))&&((qn (!(decide ((1048576:Int) < ((d3.2.set ((d3.2.length:Int) - (1:Int)).toNat ((d3.2.getD ((d3.2.length:Int) - (1:Int)).toNat zK.zero).1,((d3.2.getD ((d3.2.length:Int) - (1:Int)).toNat zK.zero).2.1,((d3.2.getD ((d3.2.length:Int) - (1:Int)).toNat zK.zero).2.2+(r2.getD d3.1.toNat zK.zero).2.2)))).getD ((d3.2.length:Int) - (1:Int)).toNat zK.zero).2.2))) (decide (((d3.2.length:Int) - (1:Int)).toNat < (d3.2.set ((d3.2.length:Int) - (1:Int)).toNat ((d3.2.getD ((d3.2.length:Int) - (1:Int)).toNat zK.zero).1,((d3.2.getD ((d3.2.length:Int) - (1:Int)).toNat zK.zero).2.1,((d3.2.getD ((d3.2.length:Int) - (1:Int)).toNat zK.zero).2.2+(r2.getD d3.1.toNat zK.zero).2.2)))).length)))&&(true))))) <|
  cond (cond (decide ((1048576:Int) < ((d3.2.set ((d3.2.length:Int) - (1:Int)).toNat ((d3.2.getD ((d3.2.length:Int) - (1:Int)).toNat zK.zero).1,((d3.2.getD ((d3.2.length:Int) - (1:Int)).toNat zK.zero).2.1,((d3.2.getD ((d3.2.length:Int) - (1:Int)).toNat zK.zero).2.2+(r2.getD d3.1.toNat zK.zero).2.2)))).getD ((d3.2.length:Int) - (1:Int)).toNat zK.zero).2.2)) true (decide (((d3.2.set ((d3.2.length:Int) - (1:Int)).toNat ((d3.2.getD ((d3.2.length:Int) - (1:Int)).toNat zK.zero).1,((d3.2.getD ((d3.2.length:Int) - (1:Int)).toNat zK.zero).2.1,((d3.2.getD ((d3.2.length:Int) - (1:Int)).toNat zK.zero).2.2+(r2.getD d3.1.toNat zK.zero).2.2)))).getD ((d3.2.length:Int) - (1:Int)).toNat zK.zero).2.2 < (-1048576:Int)))) (some (.inr (([]:List zQ),0,(3:Int)))) (gd ((zq (d3.1+(1:Int)))&&(true)) <|
  rec3 ((d3.1+(1:Int)),(d3.2.set ((d3.2.length:Int) - (1:Int)).toNat ((d3.2.getD ((d3.2.length:Int) - (1:Int)).toNat zK.zero).1,((d3.2.getD ((d3.2.length:Int) - (1:Int)).toNat zK.zero).2.1,((d3.2.getD ((d3.2.length:Int) - (1:Int)).toNat zK.zero).2.2+(r2.getD d3.1.toNat zK.zero).2.2)))))))) (some (.inl d3.2))
def m_radded(N:Nat) (a0:(List zQ)) (a1:(List zQ)):Option ((List zQ)×Nat×Int):=
  Option.bind (m_joinXo N [a0,a1]) fun r1=>
  Option.bind (m_sortX N r1) fun r2=>
  gd (((decide ((0:Int)<=(r2.length:Int)))&&(zH 40 (r2.length:Int)))&&(true)) <|
  Option.bind (m_radded_L3 N r2 N ((0:Int),([]:List zQ))) fun(o3:((List zQ))⊕((List zQ)×Nat×Int))=>
  sm o3 (fun o3=>
  Option.bind (m_deleteX N o3) fun r4=>
  Option.bind (m_clipX N r4) fun r5=>
  some (r5.1,r5.2,(0:Int))) (fun q=>some q)
noncomputable def ct_radded (N:Nat):CT cx:=zS N za (by kernel_rfl) [.c (.lst zK),.c (.lst zK)] [] ⟨.tup [.c (.lstx zK),.c (.int .i64)],[],[]⟩ [ct_joinXo N,ct_sortX N,ct_deleteX N,ct_clipX N] [] (.s .d (.s (.r [.n 3,.w (.frz 13),.c [(22,14)]]) (.s (.r [.n 1,.c [(2000000,14)]]) (.s .d (.s (.s .d (.b (.lxx 0 ⟨[(7,.a (.c (.raw (.sl 19)))),(20,.a (.c (.raw (.sl 14)))),(22,.a (.c (.int .i64)))],[(19,.row 118 zK)],[21],[14]⟩ ⟨[(7,.a (.c (.raw (.sl 19))))],[(19,.row 118 zK)],[],[]⟩ (.s .d (.s .d (.s (.b (.s (.r [.n 4,.w (.frzC 9 zK)]) (.s .d (.s (.s (.oa [8,9,18,19] [.t 0 0,.t 1 0,.t 2 0,.t 3 0,.t 4 0,.t 5 0,.t 6 0,.t 7 3,.t 8 0,.t 9 1,.t 10 0,.t 11 0,.t 12 0,.t 13 0,.t 14 0,.t 15 0,.t 16 0,.t 17 3,.t 18 0,.t 19 1,.t 20 0,.t 21 0] []) .d) (.s (.o [] [.t 0 0,.t 1 0,.t 2 0,.t 3 0,.t 5 0,.t 6 1,.s 4,.t 7 0,.t 8 0,.t 9 0,.s 10] []) .d))))) .d)))))) (.s (.r [.n 1,.c [(1000000,19)]]) .d)))))) [.tmp 4,.tmp 5] 138 ([],0,0) (fun d=>m_radded N d.1 d.2.1) Tryz.func138 rfl rfl Tryz.ntmps138 rfl rfl rfl (fun d=>by kernel_rfl)
end

section
set_option linter.unusedSimpArgs false
set_option linter.unusedVariables false
open Go.RowKit
def m_copiedY(N:Nat) (a0:(List zd)):Option ((List zd)):=
  gd (((decide (0<=(a0.length:Int)))&&(decide ((a0.length:Int)<=(a0.length:Int)))&&(zH 56 (a0.length:Int)))&&(true)) <|
  gd ((Nat.beq a0.length (List.replicate (a0.length:Int).toNat (zr.zero:zd)).length)&&(true)) <|
  some a0
noncomputable def ct_copiedY (N:Nat):CT cx:=zS N za (by kernel_rfl) [.c (.lst zr)] [] ⟨.a (.c (.raw (.sl 6))),[(6,.row 112 zr)],[]⟩ [] [] (.d) [.tmp 2] 133 [] (fun d=>m_copiedY N d.1) Tryz.func133 rfl rfl Tryz.ntmps133 rfl rfl rfl (fun d=>by kernel_rfl)
def m_copyYa_L2(N:Nat) (a0:(List zd)):Nat->(Int×(List zd))->Option ((List zd)):=zc fun d2 rec2=>
  cond (decide (d2.1 < (a0.length:Int))) (gd ((ze d2.1 a0.length)&&(true)) <|
  Option.bind (m_rcpP N (a0.getD d2.1.toNat zr.zero).2.2.2.2) fun r3=>
  gd ((ze d2.1 d2.2.length)&&(((decide (d2.1.toNat < d2.2.length))&&(true))&&(true))) <|
  gd ((zq (d2.1+(1:Int)))&&(true)) <|
  rec2 ((d2.1+(1:Int)),(d2.2.set d2.1.toNat ((d2.2.getD d2.1.toNat zr.zero).1,((d2.2.getD d2.1.toNat zr.zero).2.1,((d2.2.getD d2.1.toNat zr.zero).2.2.1,((d2.2.getD d2.1.toNat zr.zero).2.2.2.1,r3.1))))))) (some d2.2)
def m_copyYa(N:Nat) (a0:(List zd)):Option ((List zd)):=
  Option.bind (m_copiedY N a0) fun r1=>
  Option.bind (m_copyYa_L2 N a0 N ((0:Int),r1)) fun o2=>
  some o2
noncomputable def ct_copyYa (N:Nat):CT cx:=zS N za (by kernel_rfl) [.c (.lst zr)] [] ⟨.a (.c (.raw (.sl 7))),[(7,.row 112 zr)],[]⟩ [ct_copiedY N,ct_rcpP N] [] (.s .d (.s (.r [.n 1,.c [(6,7)]]) (.s (.s .d (.b (.lx 0 ⟨[(3,.a (.c (.raw (.sl 7)))),(10,.a (.c (.int .i64)))],[(7,.row 112 zr)],[8,9],[]⟩ ⟨[(3,.a (.c (.raw (.sl 7))))],[(7,.row 112 zr)],[],[]⟩ (.s .d (.s .d (.s (.b (.s (.r [.n 6,.w (.frzC 5 zr)]) .d)) .d)))))) .d))) [.tmp 2] 115 [] (fun d=>m_copyYa N d.1) Tryz.func115 rfl rfl Tryz.ntmps115 rfl rfl rfl (fun d=>by kernel_rfl)
def m_copiedX(N:Nat) (a0:(List zQ)):Option ((List zQ)×Nat):=
  gd (((decide (0<=(a0.length:Int)))&&(decide ((a0.length:Int)<=(a0.length:Int)))&&(zH 40 (a0.length:Int)))&&(true)) <|
  gd ((Nat.beq a0.length (List.replicate (a0.length:Int).toNat (zK.zero:zQ)).length)&&(true)) <|
  some (a0,(a0.length:Int).toNat)
noncomputable def ct_copiedX (N:Nat):CT cx:=zS N za (by kernel_rfl) [.c (.lst zK)] [] ⟨.a (.c (.lstx zK)),[],[]⟩ [] [] (.s .d (.s .d (.s .d (.s .d (.t [.frz 6]))))) [.tmp 2] 135 ([],0) (fun d=>m_copiedX N d.1) Tryz.func135 rfl rfl Tryz.ntmps135 rfl rfl rfl (fun d=>by kernel_rfl)
def m_copyFab(N:Nat) (a0:Kt13):Option (Kt13):=
  Option.bind (m_rcpT N a0.1) fun r1=>
  Option.bind (m_copiedX N a0.2.1) fun r2=>
  Option.bind (m_rcpI N a0.2.2.1) fun r3=>
  Option.bind (m_rcpI N a0.2.2.2) fun r4=>
  some ((r1.map (·.2)),(r2.1,(r3.1,r4.1)))
noncomputable def ct_copyFab (N:Nat):CT cx:=zS N za (by kernel_rfl) [.dat kd13] [] ⟨.a (.dat kd13),[],[]⟩ [ct_rcpT N,ct_copiedX N,ct_rcpI N] [] (.s (.r [.n 2,.w (.frzC 1 kd13)]) (.s (.o [] [.t 0 0,.t 1 1,.t 3 0,.t 4 1,.t 6 0,.t 7 1,.t 9 0,.t 10 1,.c 2 [(10,5)],.c 5 [],.c 8 [],.c 11 [],.t 12 0,.s 13] []) (.t [.t (.frz 5)]))) [.cell 2 41] 116 kd13.zero (fun d=>m_copyFab N d.1) Tryz.func116 rfl rfl Tryz.ntmps116 rfl rfl rfl (fun d=>by kernel_rfl)
def m_copyWk(N:Nat) (a0:qx):Option (qx):=
  Option.bind (m_copySl N a0.1) fun r1=>
  Option.bind (m_copyYa N a0.2.1) fun r2=>
  Option.bind (m_copyFab N a0.2.2.1) fun r3=>
  some (r1,(r2,(r3,a0.2.2.2)))
noncomputable def ct_copyWk (N:Nat):CT cx:=zS N za (by kernel_rfl) [.dat kd15] [] ⟨.a (.dat kd15),[],[]⟩ [ct_copySl N,ct_copyYa N,ct_copyFab N] [] (.s (.r [.n 2,.w (.frzC 1 kd15)]) (.s (.o [] [.t 0 0,.t 1 1,.t 3 0,.t 4 1,.t 6 0,.t 7 1,.t 9 0,.t 10 1,.c 2 [(7,5)],.c 5 [(7,8)],.c 8 [],.t 11 0,.s 12] []) (.t [.frz 5,.frz 8]))) [.cell 2 74] 84 kd15.zero (fun d=>m_copyWk N d.1) Tryz.func84 rfl rfl Tryz.ntmps84 rfl rfl rfl (fun d=>by kernel_rfl)
def m_rcrossings_L5(N:Nat) (o1:Int) (r2:(List zb)) (v3_0:Int) (r4:(List zb)):Nat->(Int×(List zQ))->Option ((List zQ)):=zc fun d5 rec5=>
  cond (decide (d5.1 < (r4.length:Int))) (gd ((ze d5.1 r4.length)&&(true)) <|
  Option.bind (qE N (r2.getD v3_0.toNat zo.zero) (r4.getD d5.1.toNat zo.zero)) fun r6=>
  cond (decide ((0:Int) < r6)) (gd ((zV 40 (d5.2.length+[((r4.getD d5.1.toNat zo.zero),((r2.getD v3_0.toNat zo.zero),o1))].length))&&(true)) <|
  gd ((zq (d5.1+(1:Int)))&&(true)) <|
  rec5 ((d5.1+(1:Int)),(d5.2++[((r4.getD d5.1.toNat zo.zero),((r2.getD v3_0.toNat zo.zero),o1))]))) (gd ((zV 40 (d5.2.length+[((r2.getD v3_0.toNat zo.zero),((r4.getD d5.1.toNat zo.zero),o1))].length))&&(true)) <|
  gd ((zq (d5.1+(1:Int)))&&(true)) <|
  rec5 ((d5.1+(1:Int)),(d5.2++[((r2.getD v3_0.toNat zo.zero),((r4.getD d5.1.toNat zo.zero),o1))])))) (some d5.2)
def m_rcrossings_L3(N:Nat) (a0:(List zB)) (a1:zi) (o1:Int) (r2:(List zb)):Nat->(Int×(List zQ))->Option ((List zQ)):=zc fun d3 rec3=>
  cond (decide (d3.1 < (r2.length:Int))) (gd ((ze d3.1 r2.length)&&(true)) <|
  gd (((decide (0<=a1.2.2.1))&&(decide (a1.2.2.1<=(a0.length:Int))))&&(true)) <|
  Option.bind (m_rheld N (a0.drop a1.2.2.1.toNat)) fun r4=>
  Option.bind (m_rcrossings_L5 N o1 r2 d3.1 r4 N ((0:Int),d3.2)) fun o5=>
  gd ((zq (d3.1+(1:Int)))&&(true)) <|
  rec3 ((d3.1+(1:Int)),o5)) (some d3.2)
def m_rcrossings(N:Nat) (a0:(List zB)) (a1:zi):Option ((List zQ)):=
  Option.bind (cond a1.2.2.2.2 (some (1:Int)) (some (-1:Int))) fun o1=>
  gd (((decide (0<=a1.2.2.1))&&(decide (a1.2.2.1<=(a0.length:Int))))&&(true)) <|
  Option.bind (m_rheld N (a0.take a1.2.2.1.toNat)) fun r2=>
  Option.bind (m_rcrossings_L3 N a0 a1 o1 r2 N ((0:Int),([]:List zQ))) fun o3=>
  some o3
noncomputable def ct_rcrossings (N:Nat):CT cx:=zS N za (by kernel_rfl) [.c (.lst zL),.dat zG] [] ⟨.a (.c (.lst zK)),[],[]⟩ [ct_rheld N,ct_fcompare N] [] (.s (.r [.n 2,.w (.frzC 3 zG)]) (.s .d (.j ⟨[(5,.a (.c (.int .i64)))],[],[0,3],[]⟩ .d (.s (.r [.n 1,.w (.nil 6 6 118 zK)]) (.s (.s .d (.b (.lx 0 ⟨[(6,.a (.c (.raw (.sl 6)))),(20,.a (.c (.int .i64)))],[(6,.row 118 zK)],[0,3,5,18,19],[]⟩ ⟨[(6,.a (.c (.raw (.sl 6))))],[(6,.row 118 zK)],[],[]⟩ (.s .d (.s .d (.s (.b (.s (.r [.n 4,.w (.frzC 8 zo)]) (.s .d (.b (.lx 2 ⟨[(6,.a (.c (.raw (.sl 6)))),(30,.a (.c (.int .i64)))],[(6,.row 118 zK)],[0,3,5,8,18,19,20,28,29],[]⟩ ⟨[(6,.a (.c (.raw (.sl 6))))],[(6,.row 118 zK)],[0,3,5,18,19,20],[]⟩ (.s .d (.s .d (.s (.b (.s (.r [.n 4,.w (.frzC 10 zo)]) (.s .d (.s (.s .d (.c (.o [] [.t 0 1,.t 1 1,.t 2 0,.s 3,.t 4 0,.s 5] []) .d)) .d)))) .d)))))))) .d)))))) (.s .d (.t [.frz 6]))))))) [.tmp 4] 136 [] (fun d=>m_rcrossings N d.1 d.2.1) Tryz.func136 rfl rfl Tryz.ntmps136 rfl rfl rfl (fun d=>by kernel_rfl)
end

section
set_option linter.unusedSimpArgs false
set_option linter.unusedVariables false
open Go.RowKit
def m_copyFabO(N:Nat) (a0:Kt13):Option ((List zQ)×(List zb)×(List zb)×(List (Bool×List zj))):=
  Option.bind (m_rcpT N a0.1) fun r1=>
  Option.bind (m_copiedX N a0.2.1) fun r2=>
  Option.bind (m_rcpI N a0.2.2.1) fun r3=>
  Option.bind (m_rcpI N a0.2.2.2) fun r4=>
  some (r2.1,r3.1,r4.1,r1)
noncomputable def ct_copyFabO (N:Nat):CT cx:=zS N za (by kernel_rfl) [.dat kd13] [] ⟨.a (.agg [.raw (.sl 5),.lst zK,.lst zo,.lst zo]),[(5,.mrow 47 51 zh)],[]⟩ [ct_rcpT N,ct_copiedX N,ct_rcpI N] [] (.s (.r [.n 2,.w (.frzC 1 kd13)]) (.s (.o [] [.t 0 0,.t 1 1,.t 3 0,.t 4 1,.t 6 0,.t 7 1,.t 9 0,.t 10 1,.c 2 [(10,5)],.c 5 [],.c 8 [],.c 11 [],.t 12 0,.s 13] []) .d)) [.cell 2 41] 116 ([],[],[],[]) (fun d=>m_copyFabO N d.1) Tryz.func116 rfl rfl Tryz.ntmps116 rfl rfl rfl (fun d=>by kernel_rfl)
def m_rprepare_L5(N:Nat) (v3_0:List zB) (r4:Int):Nat->(Int×(List Int))->Option ((List Int)):=zc fun d5 rec5=>
  cond (decide (d5.1 < ((List.replicate r4.toNat (0:Int)).length:Int))) (gd ((ze d5.1 v3_0.length)&&((ze d5.1 d5.2.length)&&(((decide (d5.1.toNat < d5.2.length))&&(true))&&(true)))) <|
  gd ((zq (d5.1+(1:Int)))&&(true)) <|
  rec5 ((d5.1+(1:Int)),(d5.2.set d5.1.toNat ((v3_0.getD d5.1.toNat zL.zero).2.length:Int)))) (some d5.2)
def m_rprepare_L3(N:Nat) (a1:(List zi)):Nat->(List zB)×Int×(List (Bool×List zB))->Option (((List (Bool×List zB)))⊕((List zQ)×(List zb)×(List zb)×Int×(List (Bool×List zB))×(List (Bool×List zj)))):=zc fun d3 rec3=>
  cond (decide (d3.2.1 < (a1.length:Int))) (gd ((ze d3.2.1 a1.length)&&(true)) <|
  Option.bind (m_stneeds N (a1.getD d3.2.1.toNat zG.zero)) fun r4=>
  gd (((decide (0<=r4))&&(decide (r4<=r4))&&(zH 8 r4))&&(true)) <|
  Option.bind (m_rprepare_L5 N d3.1 r4 N ((0:Int),(List.replicate r4.toNat (0:Int)))) fun o5=>
  Option.bind (m_stloads N (a1.getD d3.2.1.toNat zG.zero) o5) fun r6=>
  cond (!(decide (r6.2=(0:Int)))) (some (.inr (([]:List zQ),([]:List zb),([]:List zb),(9:Int),(([]:List (List zB)).map fun x=>(false,x)),(([]:List (List zj)).map fun x=>(false,x))))) (gd (((decide (0<=r4))&&(decide (r4<=(d3.1.length:Int))))&&((ze d3.2.1 d3.2.2.length)&&((decide (d3.2.1.toNat < d3.2.2.length))&&(true)))) <|
  gd (((decide (0<=r4))&&(decide (r4<=(d3.1.length:Int))))&&(true)) <|
  gd ((zq (d3.2.1+(1:Int)))&&(true)) <|
  rec3 ((d3.1.drop r4.toNat),(d3.2.1+(1:Int)),(d3.2.2.set d3.2.1.toNat (false,(d3.1.take r4.toNat)))))) (some (.inl d3.2.2))
def m_rprepare_L7(N:Nat) (a1:(List zi)):Nat->(Int×(List zQ)×(List (Bool×List zB)))->Option ((List zQ)×(List (Bool×List zB))):=zc fun d7 rec7=>
  cond (decide (d7.1 < (a1.length:Int))) (gd ((ze d7.1 a1.length)&&(true)) <|
  Option.bind (cond (decide ((a1.getD d7.1.toNat zG.zero).1=(8:Int))) (gd ((ze d7.1 d7.2.2.length)&&(((decide (d7.1.toNat < d7.2.2.length))&&(!(d7.2.2.getD d7.1.toNat (false,[])).1))&&(true))) <|
  Option.bind (m_rcrossings N (d7.2.2.getD d7.1.toNat (false,[])).2 (a1.getD d7.1.toNat zG.zero)) fun r9=>
  gd ((zV 40 (d7.2.1.length+r9.length))&&(true)) <|
  some (d7.2.1++r9)) (some d7.2.1)) fun o8=>
  gd ((ze d7.1 d7.2.2.length)&&(((decide (d7.1.toNat < d7.2.2.length))&&(!(d7.2.2.getD d7.1.toNat (false,[])).1))&&(true))) <|
  Option.bind (m_rbrought N (d7.2.2.getD d7.1.toNat (false,[])).2 (a1.getD d7.1.toNat zG.zero)) fun r10=>
  gd ((ze d7.1 d7.2.2.length)&&((decide (d7.1.toNat < d7.2.2.length))&&(true))) <|
  gd ((zq (d7.1+(1:Int)))&&(true)) <|
  rec7 ((d7.1+(1:Int)),o8,(d7.2.2.set d7.1.toNat (true,r10)))) (some (d7.2.1,d7.2.2))
def m_rprepare(N:Nat) (a0:qx) (a1:(List zi)):Option ((List zQ)×(List zb)×(List zb)×Int×(List (Bool×List zB))×(List (Bool×List zj))):=
  Option.bind (m_chrow N a1) fun r1=>
  cond (!(decide (r1=(0:Int)))) (some (([]:List zQ),([]:List zb),([]:List zb),r1,(([]:List (List zB)).map fun x=>(false,x)),(([]:List (List zj)).map fun x=>(false,x)))) (Option.bind (qZ N a1) fun r2=>
  cond (!(decide (r2=(a0.1.length:Int)))) (some (([]:List zQ),([]:List zb),([]:List zb),(14:Int),(([]:List (List zB)).map fun x=>(false,x)),(([]:List (List zj)).map fun x=>(false,x)))) (gd (((decide (0<=(a1.length:Int)))&&(decide ((a1.length:Int)<=(a1.length:Int)))&&(zH 24 (a1.length:Int)))&&(true)) <|
  Option.bind (m_rprepare_L3 N a1 N (a0.1,(0:Int),(List.replicate (a1.length:Int).toNat ((true,[]):Bool×List zB)))) fun(o3:((List (Bool×List zB)))⊕((List zQ)×(List zb)×(List zb)×Int×(List (Bool×List zB))×(List (Bool×List zj))))=>
  sm o3 (fun o3=>
  Option.bind (m_rprepare_L7 N a1 N ((0:Int),([]:List zQ),o3)) fun o7=>
  Option.bind (m_copyFabO N a0.2.2.1) fun r11=>
  Option.bind (m_radded N r11.1 o7.1) fun r12=>
  cond (!(decide (r12.2.2=(0:Int)))) (some (([]:List zQ),([]:List zb),([]:List zb),r12.2.2,(([]:List (List zB)).map fun x=>(false,x)),(([]:List (List zj)).map fun x=>(false,x)))) (Option.bind (m_joinST N o7.2) fun r13=>
  Option.bind (m_rheld N r13.1) fun r14=>
  some (r12.1,r14,r11.2.2.1,(0:Int),r13.2,r11.2.2.2))) (fun q=>some q)))
noncomputable def ct_rprepare (N:Nat):CT cx:=zS N za (by kernel_rfl) [.dat kd15,.c (.lst zG)] [] ⟨.tup [.c (.raw (.sl 38)),.agg [.raw (.sl 116),.lst zK,.lst zo,.lst zo],.c (.int .i64)],[(38,.mrow 70 121 zL),(116,.mrow 47 51 zh)],[]⟩ [ct_chrow N,ct_chneeds N,ct_stneeds N,ct_stloads N,ct_rcrossings N,ct_rbrought N,ct_copyFabO N,ct_radded N,ct_joinST N,ct_rheld N] [] (.s (.r [.n 4,.w (.frzC 2 kd15)]) (.s (.s .d (.s .d (.c (.s .d (.t [.nilC 5 0 116 47 (.sl zh),.t (.toM 116 51),.nil 4 38 70 (.sl zL),.t (.toM 38 121)])) .d))) (.s (.s (.o [] [.t 0 0,.t 2 0,.t 3 1,.t 4 0,.c 1 [],.t 5 0] []) (.c (.s .d (.t [.nilC 5 0 116 47 (.sl zh),.t (.toM 116 51),.nil 4 38 70 (.sl zL),.t (.toM 38 121)])) .d)) (.s (.r [.n 2,.t .mk]) (.s .d (.s (.s .d (.b (.lxx 0 ⟨[(5,.a (.c (.raw (.ptr 5 0)))),(8,.a (.c (.raw (.sl 38)))),(9,.a (.c (.lst zL))),(43,.a (.c (.int .i64)))],[(5,.cells 41 [.raw (.val (.slice none 0 0)),.raw (.val (.slice none 0 0)),.raw (.val (.slice none 0 0)),.raw (.val (.slice none 0 0))]),(38,.mrow 70 121 zL)],[1,2,41,42],[]⟩ ⟨[(5,.a (.c (.raw (.ptr 5 0)))),(8,.a (.c (.raw (.sl 38))))],[(5,.cells 41 [.raw (.val (.slice none 0 0)),.raw (.val (.slice none 0 0)),.raw (.val (.slice none 0 0)),.raw (.val (.slice none 0 0))]),(38,.mrow 70 121 zL)],[1,2],[]⟩ (.s .d (.s .d (.s (.b (.s (.r [.n 6,.w (.frzC 11 zG)]) (.s .d (.s .d (.s (.s .d (.b (.lx 2 ⟨[(5,.a (.c (.raw (.ptr 5 0)))),(8,.a (.c (.raw (.sl 38)))),(13,.a (.c (.raw (.sl 51)))),(54,.a (.c (.int .i64)))],[(51,.row 3 (.int .i64))],[1,2,9,10,11,12,41,42,43,53],[5,38]⟩ ⟨[(5,.a (.c (.raw (.ptr 5 0)))),(8,.a (.c (.raw (.sl 38)))),(13,.a (.c (.raw (.sl 51))))],[(51,.row 3 (.int .i64))],[1,2,9,10,11,12,41,42,43],[5,38]⟩ .d))) (.s (.s (.r [.n 2,.w (.frz 51)]) (.s .d (.c (.s .d (.t [.nilC 5 0 116 47 (.sl zh),.t (.toM 116 51),.nil 4 38 70 (.sl zL),.t (.toM 38 121)])) .d))) (.s (.r [.n 6,.t .st]) .d))))))) .d)))))) (.s (.r [.n 1,.w (.nil 17 17 118 zK)]) (.s (.s .d (.b (.lx 4 ⟨[(5,.a (.c (.raw (.ptr 5 0)))),(8,.a (.c (.raw (.sl 38)))),(17,.a (.c (.raw (.sl 17)))),(88,.a (.c (.int .i64)))],[(5,.cells 41 [.raw (.val (.slice none 0 0)),.raw (.val (.slice none 0 0)),.raw (.val (.slice none 0 0)),.raw (.val (.slice none 0 0))]),(17,.row 118 zK),(38,.mrow 70 121 zL)],[2,86,87],[]⟩ ⟨[(5,.a (.c (.raw (.ptr 5 0)))),(8,.a (.c (.raw (.sl 38)))),(17,.a (.c (.raw (.sl 17))))],[(5,.cells 41 [.raw (.val (.slice none 0 0)),.raw (.val (.slice none 0 0)),.raw (.val (.slice none 0 0)),.raw (.val (.slice none 0 0))]),(17,.row 118 zK),(38,.mrow 70 121 zL)],[2],[]⟩ (.s .d (.s .d (.s (.b (.s (.r [.n 6,.w (.frzC 19 zG)]) (.j ⟨[(5,.a (.c (.raw (.ptr 5 0)))),(8,.a (.c (.raw (.sl 38)))),(17,.a (.c (.raw (.sl 17))))],[(17,.row 118 zK)],[2,18,19,86,87,88],[5,38]⟩ (.s .d (.c (.o [] [.t 0 0,.t 1 0,.t 2 0,.t 3 0,.t 5 1,.u 4 .ldf,.c 6 [],.s 7,.t 8 0] []) .d)) (.o [] [.t 0 0,.t 1 0,.t 2 0,.t 3 0,.t 4 0,.t 6 1,.u 5 .ldf,.c 7 [(16,111)],.t 8 0,.u 9 .st] [(.t (.close 38 111))])))) .d)))))) (.s (.r [.n 2,.c [(5,116)]]) (.s (.r [.n 3,.w (.frz 17)]) (.s (.s .d (.c (.s .d (.t [.nilC 5 0 116 47 (.sl zh),.t (.toM 116 51),.nil 4 38 70 (.sl zL),.t (.toM 38 121)])) .d)) (.s .d (.s (.r [.n 1,.c [(2000000,38)]]) (.s (.o [2] [.t 0 0,.t 1 3,.t 2 0,.s 3,.t 4 0] []) .d)))))))))))))) [.tmp 4,.cell 5 41,.tmp 6] 117 ([],[],[],0,[],[]) (fun d=>m_rprepare N d.1 d.2.1) Tryz.func117 rfl rfl Tryz.ntmps117 rfl rfl rfl (fun d=>by kernel_rfl)
end

section
set_option linter.unusedSimpArgs false
set_option linter.unusedVariables false
open Go.RowKit
def m_users11(N:Nat) (a0:zi) (a1:Int):Option (Bool):=
  some (decide (a0.2.1=a1))
noncomputable def ct_users11 (N:Nat):CT cx:=zS N za (by kernel_rfl) [.dat zG,.c (.pel (.int .u8) 0)] [] ⟨.a (.c .bool),[],[]⟩ [] [] (.s (.r [.n 2,.w (.frzC 2 zG)]) .d) [.tmp 3] 140 false (fun d=>m_users11 N d.1 d.2.1) Tryz.func140 rfl rfl Tryz.ntmps140 rfl rfl rfl (fun d=>by kernel_rfl)
def m_indexS_L1(N:Nat) (a0:(List zi)) (a1:Int):Nat->Int->Option ((Unit)⊕(Int)):=zc fun d1 rec1=>
  cond (decide (d1 < (a0.length:Int))) (gd ((ze d1 a0.length)&&(true)) <|
  Option.bind (m_users11 N (a0.getD d1.toNat zG.zero) a1) fun r2=>
  cond r2 (some (.inr d1)) (gd ((zq (d1+(1:Int)))&&(true)) <|
  rec1 (d1+(1:Int)))) (some (.inl ()))
def m_indexS(N:Nat) (a0:(List zi)) (a1:Int):Option (Int):=
  Option.bind (m_indexS_L1 N a0 a1 N (0:Int)) fun(o1:(Unit)⊕(Int))=>
  sm o1 (fun o1=>
  some (-1:Int)) (fun q=>some q)
noncomputable def ct_indexS (N:Nat):CT cx:=zS N za (by kernel_rfl) [.c (.lst zG),.c (.fn 140 [.fz (.int .u8)])] [] ⟨.a (.c (.int .i64)),[],[]⟩ [ct_users11 N] [] (.s .d (.s (.s .d (.b (.lxx 0 ⟨[(8,.a (.c (.int .i64)))],[],[0,1,7],[]⟩ ⟨[],[],[],[]⟩ .d))) .d)) [.tmp 4] 162 0 (fun d=>m_indexS N d.1 d.2.1) Tryz.func162 rfl rfl Tryz.ntmps162 rfl rfl rfl (fun d=>by kernel_rfl)
def m_containsS(N:Nat) (a0:(List zi)) (a1:Int):Option (Bool):=
  Option.bind (m_indexS N a0 a1) fun r1=>
  some (decide ((0:Int)<=r1))
noncomputable def ct_containsS (N:Nat):CT cx:=zS N za (by kernel_rfl) [.c (.lst zG),.c (.fn 140 [.fz (.int .u8)])] [] ⟨.a (.c .bool),[],[]⟩ [ct_indexS N] [] (.d) [.tmp 4] 141 false (fun d=>m_containsS N d.1 d.2.1) Tryz.func141 rfl rfl Tryz.ntmps141 rfl rfl rfl (fun d=>by kernel_rfl)
def qP(N:Nat) (b:Bool) (a0:(List zi)):Nat->Int->Option ((List (Int×Unit))):=zc fun d1 rec1=>
  cond (decide (d1<=(6:Int))) (Option.bind (m_containsS N a0 d1) fun r2=>
  cond r2 (handM b (d1,()) (cond (cond true (!false) false) (some []) (rec1 (IntKind.wrap .u8 (d1+(1:Int)))))
  (cond (cond true (!true) false) (some []) (rec1 (IntKind.wrap .u8 (d1+(1:Int))))))
  (cond (cond false (!false) false) (some []) (rec1 (IntKind.wrap .u8 (d1+(1:Int)))))) (some [])
def m_usersI(N:Nat) (b:Bool) (a0:(List zi)):Option (List (Int×Unit)):=
  qP N b a0 N (1:Int)
noncomputable def it_usersI (N:Nat):IT cx:=itE N za (by kernel_rfl) [.fz (.sl zG)] [.c (.int .u8)] [ct_containsS N] [] (.s .d (.b (.l ⟨[(3,.a (.c (.raw (.ptr 3 0))))],[(3,.cells 5 [.int .u8])],[0,1],[]⟩ (.s .d (.s (.b (.s .d (.s (.r [.n 2,.w (.frzC 3 (.int .u8)),.n 2,.fb 13,.n 2,.yg]) .d))) .d))))) 139 (fun b d=>m_usersI N b d.1) Tryz.func139 rfl rfl Tryz.ntmps139 (fun _=>rfl) rfl rfl (fun _=>rfl) (fun id d=>by kernel_rfl)
def m_rusers(N:Nat) (a0:(List zi)):Option ((List zi)):=
  some a0
noncomputable def ct_rusers (N:Nat):CT cx:=zS N za (by kernel_rfl) [.c (.lst zG)] [] ⟨.a (.c (.fn 139 [.fz (.sl zG)])),[],[]⟩ [] [] (.s (.r [.n 2,.w (.frzC 1 (.sl zG))]) .d) [.tmp 2] 118 [] (fun d=>m_rusers N d.1) Tryz.func118 rfl rfl Tryz.ntmps118 rfl rfl rfl (fun d=>by kernel_rfl)
end

section
set_option linter.unusedSimpArgs false
set_option linter.unusedVariables false
open Go.RowKit
def qX(N:Nat) (a0:qx) (a1:(List zi)):Option (qx×Int):=
  Option.bind (m_rprepare N a0 a1) fun r1=>
  cond (!(decide (r1.2.2.2.1=(0:Int)))) (some ((([]:List zB),(([]:List zd),((([]:List (List zj)),(([]:List zQ),(([]:List zb),([]:List zb)))),(0:Int)))),r1.2.2.2.1)) (Option.bind (m_copyYa N a0.2.1) fun r2=>
  Option.bind (m_rusers N a1) fun r3=>
  Option.bind (m_usersI N true r3) fun l4=>rangeL (fun(x4:Int×Unit) (y4:(List (Bool×List zB))×(List zd)×(List zi)×Int×(List (Bool×List zj))×(List zQ)×(List zb)×(List zb)) (k4:(List (Bool×List zB))×(List zd)×(List zi)×Int×(List (Bool×List zj))×(List zQ)×(List zb)×(List zb)->Option (qx×Int))=>
  Option.bind (xo N x4.1 y4.2.2.1 y4.2.2.2.1 y4.1 y4.2.2.2.2.1 y4.2.1) fun r5=>
  cond (!(decide (r5.1=(0:Int)))) (some ((([]:List zB),(([]:List zd),((([]:List (List zj)),(([]:List zQ),(([]:List zb),([]:List zb)))),(0:Int)))),r5.1)) (k4 (r5.2.2.2.1,r5.2.2.2.2.2,r5.2.1,r5.2.2.1,r5.2.2.2.2.1,y4.2.2.2.2.2.1,y4.2.2.2.2.2.2.1,y4.2.2.2.2.2.2.2))) l4 (r1.2.2.2.2.1,r2,a1,a0.2.2.2,r1.2.2.2.2.2,r1.1,r1.2.1,r1.2.2.1) fun o4=>
  Option.bind (m_joinST N o4.1) fun r6=>
  Option.bind (m_rswork N o4.2.2.2.2.2.1 o4.2.2.2.2.2.2.1 o4.2.2.2.2.2.2.2 r6.1 o4.2.2.1 o4.2.2.2.1 o4.2.2.2.2.1 o4.2.1) fun r7=>
  some (r7,(0:Int)))
noncomputable def b_rworked (N:Nat) (a0:qx) (a1:(List zi)):Option (qx×Int):=
  Option.bind (m_rprepare N a0 a1) fun r1=>
  cond (!(decide (r1.2.2.2.1=(0:Int)))) (some ((([]:List zB),(([]:List zd),((([]:List (List zj)),(([]:List zQ),(([]:List zb),([]:List zb)))),(0:Int)))),r1.2.2.2.1)) (bth (Option.bind (m_copyYa N a0.2.1) fun r2=>
  bth (Option.bind (m_rusers N a1) fun r3=>
  Option.bind (m_usersI N true r3) fun l4=>rangeL (fun(x4:Int×Unit) (y4:(List (Bool×List zB))×(List zd)×(List zi)×Int×(List (Bool×List zj))×(List zQ)×(List zb)×(List zb)) (k4:(List (Bool×List zB))×(List zd)×(List zi)×Int×(List (Bool×List zj))×(List zQ)×(List zb)×(List zb)->Option (qx×Int))=>
  Option.bind (xo N x4.1 y4.2.2.1 y4.2.2.2.1 y4.1 y4.2.2.2.2.1 y4.2.1) fun r5=>
  cond (!(decide (r5.1=(0:Int)))) (some ((([]:List zB),(([]:List zd),((([]:List (List zj)),(([]:List zQ),(([]:List zb),([]:List zb)))),(0:Int)))),r5.1)) (k4 (r5.2.2.2.1,r5.2.2.2.2.2,r5.2.1,r5.2.2.1,r5.2.2.2.2.1,y4.2.2.2.2.2.1,y4.2.2.2.2.2.2.1,y4.2.2.2.2.2.2.2))) l4 (r1.2.2.2.2.1,r2,a1,a0.2.2.2,r1.2.2.2.2.2,r1.1,r1.2.1,r1.2.2.1) fun o4=>
  Option.bind (m_joinST N o4.1) fun r6=>
  Option.bind (m_rswork N o4.2.2.2.2.2.1 o4.2.2.2.2.2.2.1 o4.2.2.2.2.2.2.2 r6.1 o4.2.2.1 o4.2.2.2.1 o4.2.2.2.2.1 o4.2.1) fun r7=>
  some (r7,(0:Int))) (Option.bind (m_rusers N a1) fun r3=>
  Option.bind (m_usersI N true r3) fun l4=>rangeL (fun(x4:Int×Unit) (y4:(List (Bool×List zB))×(List zd)×(List zi)×Int×(List (Bool×List zj))×(List zQ)×(List zb)×(List zb)) (k4:(List (Bool×List zB))×(List zd)×(List zi)×Int×(List (Bool×List zj))×(List zQ)×(List zb)×(List zb)->Option (qx×Int))=>
  Option.bind (xo N x4.1 y4.2.2.1 y4.2.2.2.1 y4.1 y4.2.2.2.2.1 y4.2.1) fun r5=>
  cond (!(decide (r5.1=(0:Int)))) (some ((([]:List zB),(([]:List zd),((([]:List (List zj)),(([]:List zQ),(([]:List zb),([]:List zb)))),(0:Int)))),r5.1)) (k4 (r5.2.2.2.1,r5.2.2.2.2.2,r5.2.1,r5.2.2.1,r5.2.2.2.2.1,y4.2.2.2.2.2.1,y4.2.2.2.2.2.2.1,y4.2.2.2.2.2.2.2))) l4 (r1.2.2.2.2.1,r2,a1,a0.2.2.2,r1.2.2.2.2.2,r1.1,r1.2.1,r1.2.2.1) fun o4=>
  Option.bind (m_joinST N o4.1) fun r6=>
  Option.bind (m_rswork N o4.2.2.2.2.2.1 o4.2.2.2.2.2.2.1 o4.2.2.2.2.2.2.2 r6.1 o4.2.2.1 o4.2.2.2.1 o4.2.2.2.2.1 o4.2.1) fun r7=>
  some (r7,(0:Int)))) (Option.bind (m_copyYa N a0.2.1) fun r2=>
  Option.bind (m_rusers N a1) fun r3=>
  Option.bind (m_usersI N true r3) fun l4=>rangeL (fun(x4:Int×Unit) (y4:(List (Bool×List zB))×(List zd)×(List zi)×Int×(List (Bool×List zj))×(List zQ)×(List zb)×(List zb)) (k4:(List (Bool×List zB))×(List zd)×(List zi)×Int×(List (Bool×List zj))×(List zQ)×(List zb)×(List zb)->Option (qx×Int))=>
  Option.bind (xo N x4.1 y4.2.2.1 y4.2.2.2.1 y4.1 y4.2.2.2.2.1 y4.2.1) fun r5=>
  cond (!(decide (r5.1=(0:Int)))) (some ((([]:List zB),(([]:List zd),((([]:List (List zj)),(([]:List zQ),(([]:List zb),([]:List zb)))),(0:Int)))),r5.1)) (k4 (r5.2.2.2.1,r5.2.2.2.2.2,r5.2.1,r5.2.2.1,r5.2.2.2.2.1,y4.2.2.2.2.2.1,y4.2.2.2.2.2.2.1,y4.2.2.2.2.2.2.2))) l4 (r1.2.2.2.2.1,r2,a1,a0.2.2.2,r1.2.2.2.2.2,r1.1,r1.2.1,r1.2.2.1) fun o4=>
  Option.bind (m_joinST N o4.1) fun r6=>
  Option.bind (m_rswork N o4.2.2.2.2.2.1 o4.2.2.2.2.2.2.1 o4.2.2.2.2.2.2.2 r6.1 o4.2.2.1 o4.2.2.2.1 o4.2.2.2.2.1 o4.2.1) fun r7=>
  some (r7,(0:Int))))
theorem e_rworked:b_rworked=qX:=by
 unfold b_rworked qX
 first | rfl | (simp only[qC]; done) | (funext; simp (disch:=(simp only[gd_and,zl,xw]; first | done | first | rfl | (refine zE (fun h=>?_) (fun h=>?_); (focus (rw[h]; first | done | (simp only[zl]; first | done | first | rfl | (refine zE (fun h=>?_) (fun h=>?_); (focus (rw[h]; first | done | (simp only[zl]; first | done | first | rfl | (refine zE (fun h=>?_) (fun h=>?_); (focus (rw[h]; first | done | (simp only[zl]; first | done | rfl))); (focus (rw[h]; first | done | simp only[zn,zD])))))); (focus (rw[h]; first | done | simp only[zn,zD])))))); (focus (rw[h]; first | done | simp only[zn,zD]))))) only[bth_eq])
noncomputable def ct_rworked (N:Nat):CT cx:=ctE2 N za (by kernel_rfl) [.dat kd15,.c (.lst zG)] [] ⟨.tup [.dat kd15,.c (.int .i64)],[],[]⟩ [ct_rprepare N,ct_copyYa N,ct_rusers N,ct_rfollow N,ct_joinST N,ct_rswork N] [it_usersI N] (.s (.r [.n 3,.w (.frzC 2 kd15)]) (.s (.r [.n 2,.c [(38,15),(116,48)]]) (.s .d (.s (.ob [] [4,7,8,10,11,1000012] (.b [.t 0 0,.t 1 0,.t 2 0,.t 3 1,.t 5 0,.t 6 3,.t 7 0,.t 8 1] 4 11 [(7,27)] [] (.b [.t 9 0] 10 11 [] [] (.f [.k 11,.s 12]) (.f [.k 10,.s 12])) (.f [.c 4 [(7,27)],.t 9 0,.k 10,.s 12])) [] false) (.s (.s .d (.b (.rf [(4,56),(5,57),(7,59),(9,61)] ⟨[],[(15,.mrow 70 121 zL),(27,.row 112 zr),(33,.cells 160 [.lst zG,.raw (.sl 15),.raw (.sl 27),.raw (.sl 48),.int .u8]),(48,.mrow 47 51 zh),(59,.cells 41 [.raw (.sl 48),.lst zK,.lst zo,.lst zo]),(61,.cells 157 [.raw (.ptr 33 0)])],[],[56,57]⟩ (.b (.s (.r [.n 2,.c [(1000000,33),(2000000,15),(2000002,48),(2000001,27)]]) .d))))) (.s (.o [1,2,3,4,5,6,1000007,1000008,1000009] [.t 0 3,.t 1 3,.t 2 3,.t 3 0,.t 4 0,.t 5 3,.c 6 [(2000000,15)],.c 7 [(1000000,33),(2000000,15),(2000002,48),(2000001,27)],.s 8,.s 9] []) .d)))))) [.cell 4 74,.cell 5 31] 85 (kd15.zero,0) (fun d=>b_rworked N d.1 d.2.1) (fun d=>qX N d.1 d.2.1) (fun d=>(by rw[e_rworked]:b_rworked N d.1 d.2.1=qX N d.1 d.2.1)) Tryz.func85 rfl rfl Tryz.ntmps85 rfl rfl rfl (fun d=>by kernel_rfl)
end

section
set_option linter.unusedSimpArgs false
set_option linter.unusedVariables false
open Go.RowKit
def m_lhas(N:Nat) (a0:(List (List zj))) (a1:zb):Option (Bool):=
  gd ((qn (decide ((1:Int)<=a1.1)) (zq a1.1))&&((qn (cond (cond (decide ((1:Int)<=a1.1)) (decide (a1.1<=(a0.length:Int))) false) (decide ((0:Int)<=a1.2)) false) (ze (IntKind.wrap .u8 (a1.1 - (1:Int))) a0.length))&&(true))) <|
  some (cond (cond (cond (decide ((1:Int)<=a1.1)) (decide (a1.1<=(a0.length:Int))) false) (decide ((0:Int)<=a1.2)) false) (decide (a1.2 < ((a0.getD (IntKind.wrap .u8 (a1.1 - (1:Int))).toNat []).length:Int))) false)
noncomputable def ct_lhas (N:Nat):CT cx:=zS N za (by kernel_rfl) [.c (.lst (.sl zh)),.dat zo] [] ⟨.a (.c .bool),[],[]⟩ [] [] (.s (.r [.n 2,.w (.frzC 3 zo)]) (.s (.o [] [.t 0 0,.t 1 1,.t 2 0,.t 3 0,.t 4 0,.t 5 1,.t 6 0,.t 7 0,.t 8 0,.t 9 0,.t 10 0,.t 11 0,.t 12 0,.t 13 1,.t 14 0,.t 15 0,.t 16 0,.t 17 0,.t 18 1,.t 19 0,.t 20 0,.t 21 1,.t 22 0,.t 23 0,.t 24 1,.t 25 0,.t 26 0,.t 27 0,.t 28 0] []) .d)) [.tmp 4] 96 false (fun d=>m_lhas N d.1 d.2.1) Tryz.func96 rfl rfl Tryz.ntmps96 rfl rfl rfl (fun d=>by kernel_rfl)
def m_lright_L1(N:Nat) (a0:(List (List zj))) (a1:zj):Nat->Int->Option ((Unit)⊕(Bool)):=zc fun d1 rec1=>
  cond (decide (d1 < (a1.2.2.1.length:Int))) (gd ((ze d1 a1.2.2.1.length)&&(true)) <|
  Option.bind (m_lhas N a0 (a1.2.2.1.getD d1.toNat zo.zero)) fun r2=>
  cond (!r2) (some (.inr false)) (gd ((zq (d1+(1:Int)))&&(true)) <|
  rec1 (d1+(1:Int)))) (some (.inl ()))
def m_lright_L3(N:Nat) (a0:(List (List zj))) (a1:zj):Nat->Int->Option ((Unit)⊕(Bool)):=zc fun d3 rec3=>
  cond (decide (d3 < (a1.2.2.2.length:Int))) (gd ((ze d3 a1.2.2.2.length)&&(true)) <|
  Option.bind (m_lhas N a0 (a1.2.2.2.getD d3.toNat qU.zero).1) fun r4=>
  cond (cond (!r4) true (cond (!(decide ((a1.2.2.2.getD d3.toNat qU.zero).2.2=(0:Int)))) (!(decide ((a1.2.2.2.getD d3.toNat qU.zero).2.2=(1:Int)))) false)) (some (.inr false)) (gd ((zq (d3+(1:Int)))&&(true)) <|
  rec3 (d3+(1:Int)))) (some (.inl ()))
def m_lright(N:Nat) (a0:(List (List zj))) (a1:zj):Option (Bool):=
  cond (cond (!(decide (a1.1=(0:Int)))) (!(decide (a1.1=(1:Int)))) false) (some false) (cond (cond (decide ((4:Int) < (a1.2.2.1.length:Int))) true (decide ((4096:Int) < (a1.2.2.2.length:Int)))) (some false) (Option.bind (m_lright_L1 N a0 a1 N (0:Int)) fun(o1:(Unit)⊕(Bool))=>
  sm o1 (fun o1=>
  Option.bind (m_lright_L3 N a0 a1 N (0:Int)) fun(o3:(Unit)⊕(Bool))=>
  sm o3 (fun o3=>
  Option.bind (m_yreduce N a1.2.2.2) fun r5=>
  some (decide ((r5.1.length:Int)=(a1.2.2.2.length:Int)))) (fun q=>some q)) (fun q=>some q)))
noncomputable def ct_lright (N:Nat):CT cx:=zS N za (by kernel_rfl) [.c (.lst (.sl zh)),.dat zh] [] ⟨.a (.c .bool),[],[]⟩ [ct_lhas N,ct_yreduce N] [] (.s (.r [.n 2,.w (.frzC 3 zh)]) (.s .d (.s .d (.s (.s .d (.b (.lxx 0 ⟨[(30,.a (.c (.int .i64)))],[],[0,3,28,29],[]⟩ ⟨[],[],[0,3],[]⟩ (.s .d (.s .d (.s (.b (.s (.r [.n 4,.w (.frzC 6 zo)]) .d)) .d)))))) (.s (.s .d (.b (.lxx 2 ⟨[(42,.a (.c (.int .i64)))],[],[0,3,40,41],[]⟩ ⟨[],[],[3],[]⟩ (.s .d (.s .d (.s (.b (.s (.r [.n 4,.w (.frzC 8 qU)]) .d)) .d)))))) (.s (.o [] [.t 0 0,.t 1 1,.t 4 0,.t 5 1,.t 6 0,.c 2 [],.t 3 0,.t 7 0,.t 8 0] []) .d)))))) [.tmp 4] 127 false (fun d=>m_lright N d.1 d.2.1) Tryz.func127 rfl rfl Tryz.ntmps127 rfl rfl rfl (fun d=>by kernel_rfl)
def m_lcheckLoops_L2(N:Nat) (a0:(List (List zj))) (v1_0:Int):Nat->Int->Option ((Unit)⊕((Unit)⊕(Int))):=zc fun d2 rec2=>
  cond (decide (d2 < ((a0.getD v1_0.toNat []).length:Int))) (gd ((ze d2 (a0.getD v1_0.toNat []).length)&&(true)) <|
  Option.bind (m_lright N a0 ((a0.getD v1_0.toNat []).getD d2.toNat zh.zero)) fun r3=>
  cond (cond (!r3) true (cond (decide (d2=(0:Int))) (!((a0.getD v1_0.toNat []).getD d2.toNat zh.zero).2.1) false)) (some (.inr (.inr (1:Int)))) (gd ((zq (d2+(1:Int)))&&(true)) <|
  rec2 (d2+(1:Int)))) (some (.inl ()))
def m_lcheckLoops_L1(N:Nat) (a0:(List (List zj))):Nat->Int->Option ((Unit)⊕(Int)):=zc fun d1 rec1=>
  cond (decide (d1 < (a0.length:Int))) (gd ((ze d1 a0.length)&&(true)) <|
  Option.bind (m_lcheckLoops_L2 N a0 d1 N (0:Int)) fun(o2:(Unit)⊕((Unit)⊕(Int)))=>
  sm o2 (fun o2=>
  gd ((zq (d1+(1:Int)))&&(true)) <|
  rec1 (d1+(1:Int))) (fun q=>some q)) (some (.inl ()))
def m_lcheckLoops(N:Nat) (a0:(List (List zj))):Option (Int):=
  Option.bind (m_lcheckLoops_L1 N a0 N (0:Int)) fun(o1:(Unit)⊕(Int))=>
  sm o1 (fun o1=>
  some (0:Int)) (fun q=>some q)
noncomputable def ct_lcheckLoops (N:Nat):CT cx:=zS N za (by kernel_rfl) [.c (.lst (.sl zh))] [] ⟨.a (.c (.int .i64)),[],[]⟩ [ct_lright N] [] (.s .d (.s (.s .d (.b (.lxx 0 ⟨[(9,.a (.c (.int .i64)))],[],[0,7,8],[]⟩ ⟨[],[],[],[]⟩ (.s .d (.s .d (.s (.b (.s .d (.s .d (.b (.lxx 2 ⟨[(15,.a (.c (.int .i64)))],[],[0,7,8,9,13,14],[]⟩ ⟨[],[],[0,7,8,9],[]⟩ (.s .d (.s .d (.s (.b (.s (.r [.n 6,.w (.frzC 6 zh)]) .d)) .d)))))))) .d)))))) .d)) [.tmp 2] 98 0 (fun d=>m_lcheckLoops N d.1) Tryz.func98 rfl rfl Tryz.ntmps98 rfl rfl rfl (fun d=>by kernel_rfl)
def m_lneed(N:Nat) (a0:zj) (a1:Int):Option (zb):=
  cond (decide (a1 < (a0.2.2.1.length:Int))) (gd ((ze a1 a0.2.2.1.length)&&(true)) <|
  some (a0.2.2.1.getD a1.toNat zo.zero)) (gd ((zq (a1 - (a0.2.2.1.length:Int)))&&((ze (a1 - (a0.2.2.1.length:Int)) a0.2.2.2.length)&&(true))) <|
  some (a0.2.2.2.getD (a1 - (a0.2.2.1.length:Int)).toNat qU.zero).1)
noncomputable def ct_lneed (N:Nat):CT cx:=zS N za (by kernel_rfl) [.dat zh,.c (.int .i64)] [] ⟨.a (.dat zo),[],[]⟩ [] [] (.s (.r [.n 2,.w (.frzC 2 zh)]) .d) [.cell 4 30] 128 zo.zero (fun d=>m_lneed N d.1 d.2.1) Tryz.func128 rfl rfl Tryz.ntmps128 rfl rfl rfl (fun d=>by kernel_rfl)
def m_lcopiedI(N:Nat) (a0:(List zb)):Option ((List zb)×Nat):=
  gd (((decide (0<=(a0.length:Int)))&&(decide ((a0.length:Int)<=(a0.length:Int)))&&(zH 16 (a0.length:Int)))&&(true)) <|
  gd ((Nat.beq a0.length (List.replicate (a0.length:Int).toNat (zo.zero:zb)).length)&&(true)) <|
  some (a0,(a0.length:Int).toNat)
noncomputable def ct_lcopiedI (N:Nat):CT cx:=zS N za (by kernel_rfl) [.c (.lst zo)] [] ⟨.a (.c (.lstx zo)),[],[]⟩ [] [] (.s .d (.s .d (.s .d (.s .d (.t [.frz 6]))))) [.tmp 2] 101 ([],0) (fun d=>m_lcopiedI N d.1) Tryz.func101 rfl rfl Tryz.ntmps101 rfl rfl rfl (fun d=>by kernel_rfl)
def xc(N:Nat) (a0:(List (List zj))) (v1_0:Int) (v2_0:Int):Nat->(Int×(List (zb×Int)))->Option (((List (zb×Int)))⊕(((List (zb×Int)))⊕((Unit)⊕(Int)))):=zc fun d3 rec3=>
  cond (decide (d3.1 < (((a0.getD v1_0.toNat []).getD v2_0.toNat zh.zero).2.2.1.length:Int))) (gd ((ze d3.1 ((a0.getD v1_0.toNat []).getD v2_0.toNat zh.zero).2.2.1.length)&&(true)) <|
  gd ((true&&((zq (((mget zo (.int .i64) d3.2 (((a0.getD v1_0.toNat []).getD v2_0.toNat zh.zero).2.2.1.getD d3.1.toNat zo.zero)).getD 0)+(1:Int)))&&true))&&(true)) <|
  cond (decide ((1:Int) < ((mget zo (.int .i64) (mset zo (.int .i64) d3.2 (((a0.getD v1_0.toNat []).getD v2_0.toNat zh.zero).2.2.1.getD d3.1.toNat zo.zero) (((mget zo (.int .i64) d3.2 (((a0.getD v1_0.toNat []).getD v2_0.toNat zh.zero).2.2.1.getD d3.1.toNat zo.zero)).getD 0)+(1:Int))) (((a0.getD v1_0.toNat []).getD v2_0.toNat zh.zero).2.2.1.getD d3.1.toNat zo.zero)).getD 0))) (some (.inr (.inr (.inr (8:Int))))) (gd ((zq (d3.1+(1:Int)))&&(true)) <|
  rec3 ((d3.1+(1:Int)),(mset zo (.int .i64) d3.2 (((a0.getD v1_0.toNat []).getD v2_0.toNat zh.zero).2.2.1.getD d3.1.toNat zo.zero) (((mget zo (.int .i64) d3.2 (((a0.getD v1_0.toNat []).getD v2_0.toNat zh.zero).2.2.1.getD d3.1.toNat zo.zero)).getD 0)+(1:Int)))))) (some (.inl d3.2))
def xd(N:Nat) (a0:(List (List zj))) (v1_0:Int):Nat->(Int×(List (zb×Int)))->Option (((List (zb×Int)))⊕((Unit)⊕(Int))):=zc fun d2 rec2=>
  cond (decide (d2.1 < ((a0.getD v1_0.toNat []).length:Int))) (gd ((ze d2.1 (a0.getD v1_0.toNat []).length)&&(true)) <|
  Option.bind (xc N a0 v1_0 d2.1 N ((0:Int),d2.2)) fun(o3:((List (zb×Int)))⊕(((List (zb×Int)))⊕((Unit)⊕(Int))))=>
  sm o3 (fun o3=>
  gd ((zq (d2.1+(1:Int)))&&(true)) <|
  rec2 ((d2.1+(1:Int)),o3)) (fun q=>some q)) (some (.inl d2.2))
def xe(N:Nat) (a0:(List (List zj))):Nat->(Int×(List (zb×Int)))->Option ((Unit)⊕(Int)):=zc fun d1 rec1=>
  cond (decide (d1.1 < (a0.length:Int))) (gd ((ze d1.1 a0.length)&&(true)) <|
  Option.bind (xd N a0 d1.1 N ((0:Int),d1.2)) fun(o2:((List (zb×Int)))⊕((Unit)⊕(Int)))=>
  sm o2 (fun o2=>
  gd ((zq (d1.1+(1:Int)))&&(true)) <|
  rec1 ((d1.1+(1:Int)),o2)) (fun q=>some q)) (some (.inl ()))
def xk(N:Nat) (a0:(List (List zj))):Option (Int):=
  Option.bind (xe N a0 N ((0:Int),([]:List (zb×Int)))) fun(o1:(Unit)⊕(Int))=>
  sm o1 (fun o1=>
  some (0:Int)) (fun q=>some q)
noncomputable def ct_lcheckThrough (N:Nat):CT cx:=zS N za (by kernel_rfl) [.c (.lst (.sl zh))] [] ⟨.a (.c (.int .i64)),[],[]⟩ [] [] (.s .d (.s (.r [.t (.mpn zo (.int .i64))]) (.s (.s .d (.b (.lxx 0 ⟨[(3,.a (.c (.raw (.mref 10)))),(13,.a (.c (.int .i64)))],[(10,.mp zo (.int .i64))],[11,12],[]⟩ ⟨[],[],[],[]⟩ (.s .d (.s .d (.s (.b (.s .d (.s .d (.b (.lxx 2 ⟨[(3,.a (.c (.raw (.mref 10)))),(19,.a (.c (.int .i64)))],[(10,.mp zo (.int .i64))],[11,12,13,17,18],[]⟩ ⟨[(3,.a (.c (.raw (.mref 10))))],[(10,.mp zo (.int .i64))],[11,12,13],[]⟩ (.s .d (.s .d (.s (.b (.s (.r [.n 4,.w (.frzC 7 zh)]) (.s .d (.b (.lxx 4 ⟨[(3,.a (.c (.raw (.mref 10)))),(26,.a (.c (.int .i64)))],[(10,.mp zo (.int .i64))],[11,12,13,17,18,19,24,25],[]⟩ ⟨[(3,.a (.c (.raw (.mref 10))))],[(10,.mp zo (.int .i64))],[11,12,13,17,18,19],[]⟩ (.s .d (.s .d (.s (.b (.s (.r [.n 4,.w (.frzC 9 zo)]) (.s (.o [] [.t 0 0,.t 1 1,.w 2 3 4] []) (.s (.r [.n 2,.t .mpg]) .d)))) .d)))))))) .d)))))))) .d)))))) .d))) [.tmp 2] 99 0 (fun d=>xk N d.1) Tryz.func99 rfl rfl Tryz.ntmps99 rfl rfl rfl (fun d=>by kernel_rfl)
def m_lfirst_L4(N:Nat) (a0:(List (List zj))) (v2_1:List Int) (v3_0:Int) (rec3:(Int×(List Int))->Option ((List zb)×(List Int)×(List Int))):Nat->(List Int)->Option (((List Int))⊕((List zb)×(List Int)×(List Int))):=zc fun d4 rec4=>
  gd ((ze v3_0 d4.length)&&((zq ((((a0.getD v3_0.toNat []).getD (v2_1.getD v3_0.toNat 0).toNat zh.zero).2.2.1.length:Int)+(((a0.getD v3_0.toNat []).getD (v2_1.getD v3_0.toNat 0).toNat zh.zero).2.2.2.length:Int)))&&((decide (v3_0.toNat < d4.length))&&(true)))) <|
  cond (decide ((d4.getD v3_0.toNat 0) < ((((a0.getD v3_0.toNat []).getD (v2_1.getD v3_0.toNat 0).toNat zh.zero).2.2.1.length:Int)+(((a0.getD v3_0.toNat []).getD (v2_1.getD v3_0.toNat 0).toNat zh.zero).2.2.2.length:Int)))) (gd ((ze v3_0 d4.length)&&(true)) <|
  gd ((decide (v3_0.toNat < d4.length))&&(true)) <|
  Option.bind (m_lneed N ((a0.getD v3_0.toNat []).getD (v2_1.getD v3_0.toNat 0).toNat zh.zero) (d4.getD v3_0.toNat 0)) fun r5=>
  gd ((ze (IntKind.wrap .u8 (r5.1 - (1:Int))) v2_1.length)&&((decide ((IntKind.wrap .u8 (r5.1 - (1:Int))).toNat < v2_1.length))&&(true))) <|
  cond (decide ((v2_1.getD (IntKind.wrap .u8 (r5.1 - (1:Int))).toNat 0)<=r5.2)) (Option.bind (gd ((zq (v3_0+(1:Int)))&&(true)) <|
  rec3 ((v3_0+(1:Int)),d4)) fun q=>some (.inr q)) (gd ((ze v3_0 d4.length)&&((decide (v3_0.toNat < d4.length))&&((zq ((d4.getD v3_0.toNat 0)+(1:Int)))&&((ze v3_0 d4.length)&&(((decide (v3_0.toNat < d4.length))&&(true))&&(true)))))) <|
  rec4 (d4.set v3_0.toNat ((d4.getD v3_0.toNat 0)+(1:Int))))) (some (.inl d4))
def m_lfirst_L3(N:Nat) (a0:(List (List zj))) (v2_0:List zb) (v2_1:List Int):Nat->(Int×(List Int))->Option ((List zb)×(List Int)×(List Int)):=zc fun d3 rec3=>
  cond (decide (d3.1 < (a0.length:Int))) (gd ((ze d3.1 a0.length)&&(true)) <|
  gd ((ze d3.1 v2_1.length)&&((decide (d3.1.toNat < v2_1.length))&&(true))) <|
  cond (decide ((v2_1.getD d3.1.toNat 0)=((a0.getD d3.1.toNat []).length:Int))) (gd ((zq (d3.1+(1:Int)))&&(true)) <|
  rec3 ((d3.1+(1:Int)),d3.2)) (gd ((ze d3.1 v2_1.length)&&((decide (d3.1.toNat < v2_1.length))&&((ze (v2_1.getD d3.1.toNat 0) (a0.getD d3.1.toNat []).length)&&(true)))) <|
  Option.bind (m_lfirst_L4 N a0 v2_1 d3.1 rec3 N d3.2) fun(o4:((List Int))⊕((List zb)×(List Int)×(List Int)))=>
  sm o4 (fun o4=>
  gd ((zq (d3.1+(1:Int)))&&((ze d3.1 v2_1.length)&&((decide (d3.1.toNat < v2_1.length))&&((zV 16 (v2_0.length+[((IntKind.wrap .u8 (d3.1+(1:Int))),(v2_1.getD d3.1.toNat 0))].length))&&(true))))) <|
  gd ((ze d3.1 v2_1.length)&&((decide (d3.1.toNat < v2_1.length))&&((zq ((v2_1.getD d3.1.toNat 0)+(1:Int)))&&((ze d3.1 v2_1.length)&&(((decide (d3.1.toNat < v2_1.length))&&(true))&&(true)))))) <|
  gd ((ze d3.1 o4.length)&&(((decide (d3.1.toNat < o4.length))&&(true))&&(true))) <|
  some ((v2_0++[((IntKind.wrap .u8 (d3.1+(1:Int))),(v2_1.getD d3.1.toNat 0))]),(v2_1.set d3.1.toNat ((v2_1.getD d3.1.toNat 0)+(1:Int))),(o4.set d3.1.toNat (0:Int)))) (fun q=>some q))) (some (v2_0,v2_1,d3.2))
def m_lfirst_L2(N:Nat) (a0:(List (List zj))) (r1:Int):Nat->(List zb)×(List Int)×(List Int)->Option ((List zb)):=zc fun d2 rec2=>
  cond (decide ((d2.1.length:Int) < r1)) (Option.bind (m_lfirst_L3 N a0 d2.1 d2.2.1 N ((0:Int),d2.2.2)) fun o3=>
  cond (decide ((o3.1.length:Int)=(d2.1.length:Int))) (some o3.1) (rec2 (o3.1,o3.2.1,o3.2.2))) (some d2.1)
def m_lfirst(N:Nat) (a0:(List (List zj))):Option ((List zb)):=
  Option.bind (m_lcount N a0) fun r1=>
  gd (((decide ((0:Int)<=r1))&&(zH 16 r1))&&(true)) <|
  gd (((decide (0<=(a0.length:Int)))&&(decide ((a0.length:Int)<=(a0.length:Int)))&&(zH 8 (a0.length:Int)))&&(true)) <|
  gd (((decide (0<=(a0.length:Int)))&&(decide ((a0.length:Int)<=(a0.length:Int)))&&(zH 8 (a0.length:Int)))&&(true)) <|
  Option.bind (m_lfirst_L2 N a0 r1 N (([]:List zb),(List.replicate (a0.length:Int).toNat (0:Int)),(List.replicate (a0.length:Int).toNat (0:Int)))) fun o2=>
  some o2
noncomputable def b_lfirst_L4 (N:Nat) (a0:(List (List zj))) (v2_1:List Int) (v3_0:Int) (rec3:(Int×(List Int))->Option ((List zb)×(List Int)×(List Int))):Nat->(List Int)->Option (((List Int))⊕((List zb)×(List Int)×(List Int))):=zc fun d4 rec4=>
  gd ((ze v3_0 d4.length)&&((zq ((((a0.getD v3_0.toNat []).getD (v2_1.getD v3_0.toNat 0).toNat zh.zero).2.2.1.length:Int)+(((a0.getD v3_0.toNat []).getD (v2_1.getD v3_0.toNat 0).toNat zh.zero).2.2.2.length:Int)))&&((decide (v3_0.toNat < d4.length))&&(true)))) <|
  cond (decide ((d4.getD v3_0.toNat 0) < ((((a0.getD v3_0.toNat []).getD (v2_1.getD v3_0.toNat 0).toNat zh.zero).2.2.1.length:Int)+(((a0.getD v3_0.toNat []).getD (v2_1.getD v3_0.toNat 0).toNat zh.zero).2.2.2.length:Int)))) (gd ((ze v3_0 d4.length)&&(true)) <|
  bth (gd ((decide (v3_0.toNat < d4.length))&&(true)) <|
  bth (Option.bind (m_lneed N ((a0.getD v3_0.toNat []).getD (v2_1.getD v3_0.toNat 0).toNat zh.zero) (d4.getD v3_0.toNat 0)) fun r5=>
  gd ((ze (IntKind.wrap .u8 (r5.1 - (1:Int))) v2_1.length)&&((decide ((IntKind.wrap .u8 (r5.1 - (1:Int))).toNat < v2_1.length))&&(true))) <|
  cond (decide ((v2_1.getD (IntKind.wrap .u8 (r5.1 - (1:Int))).toNat 0)<=r5.2)) (Option.bind (gd ((zq (v3_0+(1:Int)))&&(true)) <|
  rec3 ((v3_0+(1:Int)),d4)) fun q=>some (.inr q)) (gd ((ze v3_0 d4.length)&&((decide (v3_0.toNat < d4.length))&&((zq ((d4.getD v3_0.toNat 0)+(1:Int)))&&((ze v3_0 d4.length)&&(((decide (v3_0.toNat < d4.length))&&(true))&&(true)))))) <|
  rec4 (d4.set v3_0.toNat ((d4.getD v3_0.toNat 0)+(1:Int))))) (Option.bind (m_lneed N ((a0.getD v3_0.toNat []).getD (v2_1.getD v3_0.toNat 0).toNat zh.zero) (d4.getD v3_0.toNat 0)) fun r5=>
  gd ((ze (IntKind.wrap .u8 (r5.1 - (1:Int))) v2_1.length)&&((decide ((IntKind.wrap .u8 (r5.1 - (1:Int))).toNat < v2_1.length))&&(true))) <|
  cond (decide ((v2_1.getD (IntKind.wrap .u8 (r5.1 - (1:Int))).toNat 0)<=r5.2)) (Option.bind (gd ((zq (v3_0+(1:Int)))&&(true)) <|
  rec3 ((v3_0+(1:Int)),d4)) fun q=>some (.inr q)) (gd ((ze v3_0 d4.length)&&((decide (v3_0.toNat < d4.length))&&((zq ((d4.getD v3_0.toNat 0)+(1:Int)))&&((ze v3_0 d4.length)&&(((decide (v3_0.toNat < d4.length))&&(true))&&(true)))))) <|
  rec4 (d4.set v3_0.toNat ((d4.getD v3_0.toNat 0)+(1:Int)))))) (gd ((decide (v3_0.toNat < d4.length))&&(true)) <|
  Option.bind (m_lneed N ((a0.getD v3_0.toNat []).getD (v2_1.getD v3_0.toNat 0).toNat zh.zero) (d4.getD v3_0.toNat 0)) fun r5=>
  gd ((ze (IntKind.wrap .u8 (r5.1 - (1:Int))) v2_1.length)&&((decide ((IntKind.wrap .u8 (r5.1 - (1:Int))).toNat < v2_1.length))&&(true))) <|
  cond (decide ((v2_1.getD (IntKind.wrap .u8 (r5.1 - (1:Int))).toNat 0)<=r5.2)) (Option.bind (gd ((zq (v3_0+(1:Int)))&&(true)) <|
  rec3 ((v3_0+(1:Int)),d4)) fun q=>some (.inr q)) (gd ((ze v3_0 d4.length)&&((decide (v3_0.toNat < d4.length))&&((zq ((d4.getD v3_0.toNat 0)+(1:Int)))&&((ze v3_0 d4.length)&&(((decide (v3_0.toNat < d4.length))&&(true))&&(true)))))) <|
  rec4 (d4.set v3_0.toNat ((d4.getD v3_0.toNat 0)+(1:Int)))))) (some (.inl d4))
noncomputable def b_lfirst_L3 (N:Nat) (a0:(List (List zj))) (v2_0:List zb) (v2_1:List Int):Nat->(Int×(List Int))->Option ((List zb)×(List Int)×(List Int)):=zc fun d3 rec3=>
  cond (decide (d3.1 < (a0.length:Int))) (gd ((ze d3.1 a0.length)&&(true)) <|
  gd ((ze d3.1 v2_1.length)&&((decide (d3.1.toNat < v2_1.length))&&(true))) <|
  cond (decide ((v2_1.getD d3.1.toNat 0)=((a0.getD d3.1.toNat []).length:Int))) (gd ((zq (d3.1+(1:Int)))&&(true)) <|
  rec3 ((d3.1+(1:Int)),d3.2)) (gd ((ze d3.1 v2_1.length)&&((decide (d3.1.toNat < v2_1.length))&&((ze (v2_1.getD d3.1.toNat 0) (a0.getD d3.1.toNat []).length)&&(true)))) <|
  Option.bind (b_lfirst_L4 N a0 v2_1 d3.1 rec3 N d3.2) fun(o4:((List Int))⊕((List zb)×(List Int)×(List Int)))=>
  sm o4 (fun o4=>
  gd ((zq (d3.1+(1:Int)))&&((ze d3.1 v2_1.length)&&((decide (d3.1.toNat < v2_1.length))&&((zV 16 (v2_0.length+[((IntKind.wrap .u8 (d3.1+(1:Int))),(v2_1.getD d3.1.toNat 0))].length))&&(true))))) <|
  gd ((ze d3.1 v2_1.length)&&((decide (d3.1.toNat < v2_1.length))&&((zq ((v2_1.getD d3.1.toNat 0)+(1:Int)))&&((ze d3.1 v2_1.length)&&(((decide (d3.1.toNat < v2_1.length))&&(true))&&(true)))))) <|
  gd ((ze d3.1 o4.length)&&(((decide (d3.1.toNat < o4.length))&&(true))&&(true))) <|
  some ((v2_0++[((IntKind.wrap .u8 (d3.1+(1:Int))),(v2_1.getD d3.1.toNat 0))]),(v2_1.set d3.1.toNat ((v2_1.getD d3.1.toNat 0)+(1:Int))),(o4.set d3.1.toNat (0:Int)))) (fun q=>some q))) (some (v2_0,v2_1,d3.2))
noncomputable def b_lfirst_L2 (N:Nat) (a0:(List (List zj))) (r1:Int):Nat->(List zb)×(List Int)×(List Int)->Option ((List zb)):=zc fun d2 rec2=>
  cond (decide ((d2.1.length:Int) < r1)) (Option.bind (b_lfirst_L3 N a0 d2.1 d2.2.1 N ((0:Int),d2.2.2)) fun o3=>
  cond (decide ((o3.1.length:Int)=(d2.1.length:Int))) (some o3.1) (rec2 (o3.1,o3.2.1,o3.2.2))) (some d2.1)
noncomputable def b_lfirst (N:Nat) (a0:(List (List zj))):Option ((List zb)):=
  Option.bind (m_lcount N a0) fun r1=>
  gd (((decide ((0:Int)<=r1))&&(zH 16 r1))&&(true)) <|
  gd (((decide (0<=(a0.length:Int)))&&(decide ((a0.length:Int)<=(a0.length:Int)))&&(zH 8 (a0.length:Int)))&&(true)) <|
  gd (((decide (0<=(a0.length:Int)))&&(decide ((a0.length:Int)<=(a0.length:Int)))&&(zH 8 (a0.length:Int)))&&(true)) <|
  Option.bind (b_lfirst_L2 N a0 r1 N (([]:List zb),(List.replicate (a0.length:Int).toNat (0:Int)),(List.replicate (a0.length:Int).toNat (0:Int)))) fun o2=>
  some o2
theorem xt:b_lfirst_L4=m_lfirst_L4:=by
 unfold b_lfirst_L4 m_lfirst_L4
 first | rfl | (simp only[qC]; done) | (funext; simp (disch:=(simp only[gd_and,zl,xw]; first | done | first | rfl | (refine zE (fun h=>?_) (fun h=>?_); (focus (rw[h]; first | done | (simp only[zl]; first | done | first | rfl | (refine zE (fun h=>?_) (fun h=>?_); (focus (rw[h]; first | done | (simp only[zl]; first | done | first | rfl | (refine zE (fun h=>?_) (fun h=>?_); (focus (rw[h]; first | done | (simp only[zl]; first | done | rfl))); (focus (rw[h]; first | done | simp only[zn,zD])))))); (focus (rw[h]; first | done | simp only[zn,zD])))))); (focus (rw[h]; first | done | simp only[zn,zD]))))) only[bth_eq])
theorem e_lfirst_L3:b_lfirst_L3=m_lfirst_L3:=by
 unfold b_lfirst_L3 m_lfirst_L3
 first | (simp only[qC,xt]; done) | (funext; simp (disch:=(simp only[gd_and,zl,xw]; first | done | first | rfl | (refine zE (fun h=>?_) (fun h=>?_); (focus (rw[h]; first | done | (simp only[zl]; first | done | first | rfl | (refine zE (fun h=>?_) (fun h=>?_); (focus (rw[h]; first | done | (simp only[zl]; first | done | first | rfl | (refine zE (fun h=>?_) (fun h=>?_); (focus (rw[h]; first | done | (simp only[zl]; first | done | rfl))); (focus (rw[h]; first | done | simp only[zn,zD])))))); (focus (rw[h]; first | done | simp only[zn,zD])))))); (focus (rw[h]; first | done | simp only[zn,zD]))))) only[bth_eq,xt]) | rfl
theorem e_lfirst_L2:b_lfirst_L2=m_lfirst_L2:=by
 unfold b_lfirst_L2 m_lfirst_L2
 first | (simp only[qC,xt,e_lfirst_L3]; done) | (funext; simp (disch:=(simp only[gd_and,zl,xw]; first | done | first | rfl | (refine zE (fun h=>?_) (fun h=>?_); (focus (rw[h]; first | done | (simp only[zl]; first | done | first | rfl | (refine zE (fun h=>?_) (fun h=>?_); (focus (rw[h]; first | done | (simp only[zl]; first | done | first | rfl | (refine zE (fun h=>?_) (fun h=>?_); (focus (rw[h]; first | done | (simp only[zl]; first | done | rfl))); (focus (rw[h]; first | done | simp only[zn,zD])))))); (focus (rw[h]; first | done | simp only[zn,zD])))))); (focus (rw[h]; first | done | simp only[zn,zD]))))) only[bth_eq,xt,e_lfirst_L3]) | rfl
theorem e_lfirst:b_lfirst=m_lfirst:=by
 unfold b_lfirst m_lfirst
 first | (simp only[qC,xt,e_lfirst_L3,e_lfirst_L2]; done) | (funext; simp (disch:=(simp only[gd_and,zl,xw]; first | done | first | rfl | (refine zE (fun h=>?_) (fun h=>?_); (focus (rw[h]; first | done | (simp only[zl]; first | done | first | rfl | (refine zE (fun h=>?_) (fun h=>?_); (focus (rw[h]; first | done | (simp only[zl]; first | done | first | rfl | (refine zE (fun h=>?_) (fun h=>?_); (focus (rw[h]; first | done | (simp only[zl]; first | done | rfl))); (focus (rw[h]; first | done | simp only[zn,zD])))))); (focus (rw[h]; first | done | simp only[zn,zD])))))); (focus (rw[h]; first | done | simp only[zn,zD]))))) only[bth_eq,xt,e_lfirst_L3,e_lfirst_L2]) | rfl
noncomputable def ct_lfirst (N:Nat):CT cx:=ctE2 N za (by kernel_rfl) [.c (.lst (.sl zh))] [] ⟨.a (.c (.lst zo)),[],[]⟩ [ct_lcount N,ct_lneed N] [] (.s .d (.s .d (.s .d (.s .d (.s .d (.s (.b (.lx 0 ⟨[(4,.a (.c (.raw (.sl 15)))),(5,.a (.c (.raw (.sl 18)))),(6,.a (.c (.raw (.sl 21))))],[(15,.row 30 zo),(18,.row 3 (.int .i64)),(21,.row 3 (.int .i64))],[0,3],[]⟩ ⟨[(4,.a (.c (.raw (.sl 15))))],[(15,.row 30 zo)],[],[]⟩ (.s .d (.b (.b (.s .d (.s .d (.s (.s .d (.b (.lx 2 ⟨[(4,.a (.c (.raw (.sl 15)))),(5,.a (.c (.raw (.sl 18)))),(6,.a (.c (.raw (.sl 21)))),(30,.a (.c (.int .i64)))],[(21,.row 3 (.int .i64))],[0,3,7,28,29],[15,18]⟩ ⟨[(4,.a (.c (.raw (.sl 15)))),(5,.a (.c (.raw (.sl 18)))),(6,.a (.c (.raw (.sl 21))))],[(15,.row 30 zo),(18,.row 3 (.int .i64)),(21,.row 3 (.int .i64))],[0,3,7],[]⟩ (.s .d (.s .d (.s (.b (.s .d (.s .d (.s (.r [.n 9,.w (.frzC 10 zh)]) (.s (.b (.lxx 4 ⟨[(4,.a (.c (.raw (.sl 15)))),(5,.a (.c (.raw (.sl 18)))),(6,.a (.c (.raw (.sl 21))))],[(21,.row 3 (.int .i64))],[0,3,7,8,10,28,29,30],[15,18]⟩ ⟨[(4,.a (.c (.raw (.sl 15)))),(5,.a (.c (.raw (.sl 18)))),(6,.a (.c (.raw (.sl 21))))],[(21,.row 3 (.int .i64))],[0,3,7,8],[15,18]⟩ (.s (.s (.o [] [.t 0 0,.t 1 0,.t 2 0,.t 4 0,.t 5 1,.t 6 0,.t 7 0,.t 8 1,.t 9 0,.t 10 0,.s 3,.t 11 0] []) .d) (.b (.s (.s (.ob [] [] (.b [.t 0 1,.t 1 0,.t 2 0,.t 3 0] 4 6 [] [] (.b [] 5 6 [] [] (.f [.s 6,.s 7]) (.f [.c 5 [],.s 7])) (.f [.f,.s 4,.c 5 [],.s 7])) [(.frzC 11 zo)] false) (.s (.o [] [.t 0 0,.t 1 1,.t 2 0,.t 3 0,.t 4 1,.t 5 0,.t 6 0,.s 7,.t 8 0] []) .d)) .d))))) .d))))) .d)))))) .d)))))))) (.s .d (.t [.frz 15])))))))) [.tmp 2] 100 [] (fun d=>b_lfirst N d.1) (fun d=>m_lfirst N d.1) (fun d=>(by rw[e_lfirst]:b_lfirst N d.1=m_lfirst N d.1)) Tryz.func100 rfl rfl Tryz.ntmps100 rfl rfl rfl (fun d=>by kernel_rfl)
end

section
set_option linter.unusedSimpArgs false
set_option linter.unusedVariables false
open Go.RowKit
def m_lcheck(N:Nat) (a0:(List (List zj))):Option ((List zb)×Nat×Int):=
  cond (!(decide ((a0.length:Int)=(6:Int)))) (some (([]:List zb),0,(5:Int))) (Option.bind (m_lcount N a0) fun r1=>
  cond (decide ((2048:Int) < r1)) (some (([]:List zb),0,(3:Int))) (Option.bind (m_lcheckLoops N a0) fun r2=>
  cond (!(decide (r2=(0:Int)))) (some (([]:List zb),0,r2)) (Option.bind (xk N a0) fun r3=>
  cond (!(decide (r3=(0:Int)))) (some (([]:List zb),0,r3)) (Option.bind (m_lfirst N a0) fun r4=>
  Option.bind (m_lcount N a0) fun r5=>
  cond (decide ((r4.length:Int) < r5)) (some (([]:List zb),0,(6:Int))) (Option.bind (m_lcopiedI N r4) fun r6=>
  some (r6.1,r6.2,(0:Int)))))))
noncomputable def ct_lcheck (N:Nat):CT cx:=zS N za (by kernel_rfl) [.c (.lst (.sl zh))] [] ⟨.tup [.c (.lstx zo),.c (.int .i64)],[],[]⟩ [ct_lcount N,ct_lcheckLoops N,ct_lcheckThrough N,ct_lfirst N,ct_lcopiedI N] [] (.d) [.tmp 2,.tmp 3] 73 ([],0,0) (fun d=>m_lcheck N d.1) Tryz.func73 rfl rfl Tryz.ntmps73 rfl rfl rfl (fun d=>by kernel_rfl)
def m_lcheckC(N:Nat) (a0:(List (List zj))):Option (Int):=
  Option.bind (m_lcheck N a0) fun r1=>
  some r1.2.2
noncomputable def ct_lcheckC (N:Nat):CT cx:=zS N za (by kernel_rfl) [.c (.lst (.sl zh))] [] ⟨.a (.c (.int .i64)),[],[]⟩ [ct_lcheck N] [] (.d) [.tmp 2] 36 0 (fun d=>m_lcheckC N d.1) Tryz.func36 rfl rfl Tryz.ntmps36 rfl rfl rfl (fun d=>by kernel_rfl)
def m_fhas(N:Nat) (a0:(List (List zj))) (a1:zb):Option (Bool):=
  gd ((qn (decide ((1:Int)<=a1.1)) (zq a1.1))&&((qn (cond (cond (decide ((1:Int)<=a1.1)) (decide (a1.1<=(a0.length:Int))) false) (decide ((0:Int)<=a1.2)) false) (ze (IntKind.wrap .u8 (a1.1 - (1:Int))) a0.length))&&(true))) <|
  some (cond (cond (cond (decide ((1:Int)<=a1.1)) (decide (a1.1<=(a0.length:Int))) false) (decide ((0:Int)<=a1.2)) false) (decide (a1.2 < ((a0.getD (IntKind.wrap .u8 (a1.1 - (1:Int))).toNat []).length:Int))) false)
noncomputable def ct_fhas (N:Nat):CT cx:=zS N za (by kernel_rfl) [.c (.lst (.sl zh)),.dat zo] [] ⟨.a (.c .bool),[],[]⟩ [] [] (.s (.r [.n 2,.w (.frzC 3 zo)]) (.s (.o [] [.t 0 0,.t 1 1,.t 2 0,.t 3 0,.t 4 0,.t 5 1,.t 6 0,.t 7 0,.t 8 0,.t 9 0,.t 10 0,.t 11 0,.t 12 0,.t 13 1,.t 14 0,.t 15 0,.t 16 0,.t 17 0,.t 18 1,.t 19 0,.t 20 0,.t 21 1,.t 22 0,.t 23 0,.t 24 1,.t 25 0,.t 26 0,.t 27 0,.t 28 0] []) .d)) [.tmp 4] 74 false (fun d=>m_fhas N d.1 d.2.1) Tryz.func74 rfl rfl Tryz.ntmps74 rfl rfl rfl (fun d=>by kernel_rfl)
def m_fcheckX_L1(N:Nat) (a0:Kt13):Nat->Int->Option ((Unit)⊕(Int)):=zc fun d1 rec1=>
  cond (decide (d1 < (a0.2.1.length:Int))) (gd ((ze d1 a0.2.1.length)&&(true)) <|
  Option.bind (m_fhas N a0.1 (a0.2.1.getD d1.toNat zK.zero).1) fun r2=>
  Option.bind (cond (!(!r2)) (m_fhas N a0.1 (a0.2.1.getD d1.toNat zK.zero).2.1) (some false)) fun r3=>
  Option.bind (cond (!(cond (!r2) true (!r3))) (qE N (a0.2.1.getD d1.toNat zK.zero).1 (a0.2.1.getD d1.toNat zK.zero).2.1) (some 0)) fun r4=>
  cond (cond (cond (!r2) true (!r3)) true (decide ((0:Int)<=r4))) (some (.inr (1:Int))) (cond (cond (cond (decide ((a0.2.1.getD d1.toNat zK.zero).2.2 < (-1048576:Int))) true (decide ((1048576:Int) < (a0.2.1.getD d1.toNat zK.zero).2.2))) true (decide ((a0.2.1.getD d1.toNat zK.zero).2.2=(0:Int)))) (some (.inr (1:Int))) (gd ((qn (decide ((0:Int) < d1)) (zq (d1 - (1:Int))))&&((qn (decide ((0:Int) < d1)) (ze (d1 - (1:Int)) a0.2.1.length))&&(true))) <|
  Option.bind (cond (decide ((0:Int) < d1)) (m_fcompareP N (a0.2.1.getD (d1 - (1:Int)).toNat zK.zero) (a0.2.1.getD d1.toNat zK.zero)) (some 0)) fun r5=>
  cond (cond (decide ((0:Int) < d1)) (decide ((0:Int)<=r5)) false) (some (.inr (1:Int))) (gd ((zq (d1+(1:Int)))&&(true)) <|
  rec1 (d1+(1:Int)))))) (some (.inl ()))
def m_fcheckX(N:Nat) (a0:Kt13):Option (Int):=
  Option.bind (m_fcheckX_L1 N a0 N (0:Int)) fun(o1:(Unit)⊕(Int))=>
  sm o1 (fun o1=>
  some (0:Int)) (fun q=>some q)
noncomputable def ct_fcheckX (N:Nat):CT cx:=zS N za (by kernel_rfl) [.dat kd13] [] ⟨.a (.c (.int .i64)),[],[]⟩ [ct_fhas N,ct_fcompare N,ct_fcompareP N] [] (.s (.r [.n 2,.w (.frzC 1 kd13)]) (.s (.s .d (.b (.lxx 0 ⟨[(8,.a (.c (.int .i64)))],[],[1,6,7],[]⟩ ⟨[],[],[],[]⟩ (.s .d (.s .d (.s (.b (.s (.r [.n 6,.w (.frzC 4 zK)]) (.s .d (.s .d (.s (.o [] [.t 0 0,.t 1 0,.t 2 0,.t 3 0,.t 4 1,.t 5 0,.t 6 0,.t 7 0,.t 8 1,.t 9 1,.g 10,.t 11 0,.t 12 0] []) .d))))) .d)))))) .d)) [.tmp 2] 37 0 (fun d=>m_fcheckX N d.1) Tryz.func37 rfl rfl Tryz.ntmps37 rfl rfl rfl (fun d=>by kernel_rfl)
def m_fcount_L1(N:Nat) (a0:(List zb)):Nat->(Int×(List (zb×Int)))->Option ((List (zb×Int))):=zc fun d1 rec1=>
  cond (decide (d1.1 < (a0.length:Int))) (gd ((ze d1.1 a0.length)&&(true)) <|
  gd ((true&&((zq (((mget zo (.int .i64) d1.2 (a0.getD d1.1.toNat zo.zero)).getD 0)+(1:Int)))&&true))&&(true)) <|
  gd ((zq (d1.1+(1:Int)))&&(true)) <|
  rec1 ((d1.1+(1:Int)),(mset zo (.int .i64) d1.2 (a0.getD d1.1.toNat zo.zero) (((mget zo (.int .i64) d1.2 (a0.getD d1.1.toNat zo.zero)).getD 0)+(1:Int))))) (some d1.2)
def m_fcount(N:Nat) (a0:(List zb)) (a1:List (zb×Int)):Option ((List (zb×Int))):=
  Option.bind (m_fcount_L1 N a0 N ((0:Int),a1)) fun o1=>
  some o1
noncomputable def ct_fcount (N:Nat):CT cx:=zS N za (by kernel_rfl) [.c (.lst zo),.c (.raw (.ptr 1000000 0))] [(1000000,.cells 154 [.raw (.mref 1000001)]),(1000001,.mp zo (.int .i64))] ⟨.tup [],[(1000000,.cells 154 [.raw (.mref 1000001)]),(1000001,.mp zo (.int .i64))],[]⟩ [] [] (.s .d (.b (.lx 0 ⟨[(1,.a (.c (.raw (.ptr 1000000 0)))),(7,.a (.c (.int .i64)))],[(1000000,.cells 154 [.raw (.mref 1000001)]),(1000001,.mp zo (.int .i64))],[5,6],[]⟩ ⟨[],[(1000000,.cells 154 [.raw (.mref 1000001)]),(1000001,.mp zo (.int .i64))],[],[]⟩ (.s .d (.s .d (.s (.b (.s (.r [.n 4,.w (.frzC 4 zo)]) (.o [1] [.t 0 3,.t 1 1,.w 2 3 4] []))) .d)))))) [] 77 [] (fun d=>m_fcount N d.1 d.2.1) Tryz.func77 rfl rfl Tryz.ntmps77 rfl rfl rfl (fun d=>by kernel_rfl)
def m_fplaces_L2(N:Nat) (a0:Kt13) (v1_0:Int):Nat->Int->Option ((Unit)⊕((Unit)⊕(Int))):=zc fun d2 rec2=>
  cond (decide (d2 < ((([a0.2.2.1,a0.2.2.2]:List (List zb)).getD v1_0.toNat []).length:Int))) (gd ((ze d2 (([a0.2.2.1,a0.2.2.2]:List (List zb)).getD v1_0.toNat []).length)&&(true)) <|
  Option.bind (m_fhas N a0.1 ((([a0.2.2.1,a0.2.2.2]:List (List zb)).getD v1_0.toNat []).getD d2.toNat zo.zero)) fun r3=>
  cond (!r3) (some (.inr (.inr (7:Int)))) (gd ((zq (d2+(1:Int)))&&(true)) <|
  rec2 (d2+(1:Int)))) (some (.inl ()))
def m_fplaces_L1(N:Nat) (a0:Kt13):Nat->Int->Option ((Unit)⊕(Int)):=zc fun d1 rec1=>
  cond (decide (d1 < (2:Int))) (gd (((ze d1 2)&&(ze d1 ([a0.2.2.1,a0.2.2.2]:List (List zb)).length))&&(true)) <|
  Option.bind (m_fplaces_L2 N a0 d1 N (0:Int)) fun(o2:(Unit)⊕((Unit)⊕(Int)))=>
  sm o2 (fun o2=>
  gd ((zq (d1+(1:Int)))&&(true)) <|
  rec1 (d1+(1:Int))) (fun q=>some q)) (some (.inl ()))
def m_fplaces_L4(N:Nat) (a0:Kt13):Nat->Int->Option ((Unit)⊕(Int)):=zc fun d4 rec4=>
  cond (decide (d4 < (a0.2.2.2.length:Int))) (gd ((ze d4 a0.2.2.2.length)&&(true)) <|
  gd ((qn (decide ((0:Int) < d4)) (zq (d4 - (1:Int))))&&((qn (decide ((0:Int) < d4)) (ze (d4 - (1:Int)) a0.2.2.2.length))&&(true))) <|
  Option.bind (cond (decide ((0:Int) < d4)) (qE N (a0.2.2.2.getD (d4 - (1:Int)).toNat zo.zero) (a0.2.2.2.getD d4.toNat zo.zero)) (some 0)) fun r5=>
  cond (cond (decide ((0:Int) < d4)) (decide ((0:Int)<=r5)) false) (some (.inr (6:Int))) (gd ((zq (d4+(1:Int)))&&(true)) <|
  rec4 (d4+(1:Int)))) (some (.inl ()))
def m_fplaces_L9(N:Nat) (a0:Kt13) (v8_0:Int):Nat->(Int×(List (zb×Int)))->Option ((List (zb×Int))):=zc fun d9 rec9=>
  cond (decide (d9.1 < ((a0.1.getD v8_0.toNat []).length:Int))) (gd ((ze d9.1 (a0.1.getD v8_0.toNat []).length)&&(true)) <|
  Option.bind (m_fcount N ((a0.1.getD v8_0.toNat []).getD d9.1.toNat zh.zero).2.2.1 d9.2) fun r10=>
  gd ((zq (d9.1+(1:Int)))&&(true)) <|
  rec9 ((d9.1+(1:Int)),r10)) (some d9.2)
def m_fplaces_L8(N:Nat) (a0:Kt13):Nat->(Int×(List (zb×Int)))->Option ((List (zb×Int))):=zc fun d8 rec8=>
  cond (decide (d8.1 < (a0.1.length:Int))) (gd ((ze d8.1 a0.1.length)&&(true)) <|
  Option.bind (m_fplaces_L9 N a0 d8.1 N ((0:Int),d8.2)) fun o9=>
  gd ((zq (d8.1+(1:Int)))&&(true)) <|
  rec8 ((d8.1+(1:Int)),o9)) (some d8.2)
def m_fplaces_L12(N:Nat) (a0:Kt13) (o8:(List (zb×Int))) (v11_0:Int):Nat->Int->Option ((Unit)⊕((Unit)⊕(Int))):=zc fun d12 rec12=>
  cond (decide (d12 < ((a0.1.getD v11_0.toNat []).length:Int))) (gd ((zq (v11_0+(1:Int)))&&(true)) <|
  cond (!(decide (((mget zo (.int .i64) o8 ((IntKind.wrap .u8 (v11_0+(1:Int))),d12)).getD 0)=(1:Int)))) (some (.inr (.inr (6:Int)))) (gd ((zq (d12+(1:Int)))&&(true)) <|
  rec12 (d12+(1:Int)))) (some (.inl ()))
def m_fplaces_L11(N:Nat) (a0:Kt13) (o8:(List (zb×Int))):Nat->Int->Option ((Unit)⊕(Int)):=zc fun d11 rec11=>
  cond (decide (d11 < (a0.1.length:Int))) (gd ((ze d11 a0.1.length)&&(true)) <|
  Option.bind (m_fplaces_L12 N a0 o8 d11 N (0:Int)) fun(o12:(Unit)⊕((Unit)⊕(Int)))=>
  sm o12 (fun o12=>
  gd ((zq (d11+(1:Int)))&&(true)) <|
  rec11 (d11+(1:Int))) (fun q=>some q)) (some (.inl ()))
def m_fplaces(N:Nat) (a0:Kt13):Option (Int):=
  Option.bind (m_fplaces_L1 N a0 N (0:Int)) fun(o1:(Unit)⊕(Int))=>
  sm o1 (fun o1=>
  Option.bind (m_fplaces_L4 N a0 N (0:Int)) fun(o4:(Unit)⊕(Int))=>
  sm o4 (fun o4=>
  Option.bind (m_fcount N a0.2.2.1 ([]:List (zb×Int))) fun r6=>
  Option.bind (m_fcount N a0.2.2.2 r6) fun r7=>
  Option.bind (m_fplaces_L8 N a0 N ((0:Int),r7)) fun o8=>
  Option.bind (m_fplaces_L11 N a0 o8 N (0:Int)) fun(o11:(Unit)⊕(Int))=>
  sm o11 (fun o11=>
  some (0:Int)) (fun q=>some q)) (fun q=>some q)) (fun q=>some q)
noncomputable def ct_fplaces (N:Nat):CT cx:=zS N za (by kernel_rfl) [.dat kd13] [] ⟨.a (.c (.int .i64)),[],[]⟩ [ct_fhas N,ct_fcompare N,ct_fcount N] [] (.s (.r [.n 2,.w (.frzC 1 kd13)]) (.s (.s .d (.b (.lxx 0 ⟨[(23,.a (.c (.int .i64)))],[],[1,22],[]⟩ ⟨[],[],[1],[]⟩ (.s .d (.s .d (.s (.b (.s .d (.s .d (.b (.lxx 2 ⟨[(28,.a (.c (.int .i64)))],[],[1,22,23,26,27],[]⟩ ⟨[],[],[1,22,23],[]⟩ (.s .d (.s .d (.s (.b (.s (.r [.n 4,.w (.frzC 6 zo)]) .d)) .d)))))))) .d)))))) (.s (.s .d (.b (.lxx 4 ⟨[(42,.a (.c (.int .i64)))],[],[1,40,41],[]⟩ ⟨[],[],[1],[]⟩ (.s .d (.s .d (.s (.b (.s (.r [.n 6,.w (.frzC 8 zo)]) (.s (.o [] [.t 0 0,.t 1 0,.t 2 0,.t 3 0,.t 4 1,.t 5 0,.t 6 0,.t 7 0,.t 8 1,.t 9 1,.g 10,.t 11 0,.t 12 0] []) .d))) .d)))))) (.s (.r [.t (.mpn zo (.int .i64))]) (.s .d (.s (.r [.n 3,.c [(1000000,9),(1000001,61)]]) (.s (.r [.n 3,.c [(1000000,9),(1000001,61)]]) (.s (.s .d (.b (.lx 6 ⟨[(9,.a (.c (.raw (.ptr 9 0)))),(10,.a (.c (.fn 77 [.id 9]))),(74,.a (.c (.int .i64)))],[(9,.cells 154 [.raw (.mref 61)]),(61,.mp zo (.int .i64))],[1,72,73],[]⟩ ⟨[(9,.a (.c (.raw (.ptr 9 0))))],[(9,.cells 154 [.raw (.mref 61)]),(61,.mp zo (.int .i64))],[1],[]⟩ (.s .d (.s .d (.s (.b (.s .d (.s .d (.b (.lx 8 ⟨[(9,.a (.c (.raw (.ptr 9 0)))),(10,.a (.c (.fn 77 [.id 9]))),(80,.a (.c (.int .i64)))],[(9,.cells 154 [.raw (.mref 61)]),(61,.mp zo (.int .i64))],[1,72,73,74,78,79],[]⟩ ⟨[(9,.a (.c (.raw (.ptr 9 0)))),(10,.a (.c (.fn 77 [.id 9])))],[(9,.cells 154 [.raw (.mref 61)]),(61,.mp zo (.int .i64))],[1,72,73,74],[]⟩ (.s .d (.s .d (.s (.b (.s (.r [.n 4,.w (.frzC 14 zh)]) (.r [.n 3,.c [(1000000,9),(1000001,61)]]))) .d)))))))) .d)))))) (.s (.s .d (.b (.lxx 10 ⟨[(9,.a (.c (.raw (.ptr 9 0)))),(93,.a (.c (.int .i64)))],[(9,.cells 154 [.raw (.mref 61)])],[91,92],[61]⟩ ⟨[],[],[],[]⟩ (.s .d (.s .d (.s (.b (.s .d (.s .d (.b (.lxx 12 ⟨[(9,.a (.c (.raw (.ptr 9 0)))),(100,.a (.c (.int .i64)))],[(9,.cells 154 [.raw (.mref 61)])],[15,91,92,93,99],[61]⟩ ⟨[(9,.a (.c (.raw (.ptr 9 0))))],[(9,.cells 154 [.raw (.mref 61)])],[91,92,93],[61]⟩ (.s .d (.s .d (.s (.b (.s .d (.s (.r [.n 6,.t .mpg]) .d))) .d)))))))) .d)))))) .d))))))))) [.tmp 2] 38 0 (fun d=>m_fplaces N d.1) Tryz.func38 rfl rfl Tryz.ntmps38 rfl rfl rfl (fun d=>by kernel_rfl)
def m_fcheck(N:Nat) (a0:Kt13):Option (Int):=
  Option.bind (m_lcheckC N a0.1) fun r1=>
  cond (!(decide (r1=(0:Int)))) (some r1) (Option.bind (m_fcheckX N a0) fun r2=>
  cond (!(decide (r2=(0:Int)))) (some r2) (Option.bind (m_fplaces N a0) fun r3=>
  some r3))
noncomputable def ct_fcheck (N:Nat):CT cx:=zS N za (by kernel_rfl) [.dat kd13] [] ⟨.a (.c (.int .i64)),[],[]⟩ [ct_lcheckC N,ct_fcheckX N,ct_fplaces N] [] (.s (.r [.n 2,.w (.frzC 1 kd13)]) .d) [.tmp 2] 16 0 (fun d=>m_fcheck N d.1) Tryz.func16 rfl rfl Tryz.ntmps16 rfl rfl rfl (fun d=>by kernel_rfl)
def m_rfits_L2(N:Nat) (a0:zd) (a2:(List (List zj))):Nat->Int->Option ((Unit)⊕(Bool)):=zc fun d2 rec2=>
  cond (decide (d2 < (a0.2.2.2.2.length:Int))) (gd ((ze d2 a0.2.2.2.2.length)&&(true)) <|
  Option.bind (m_ynamed N (a0.2.2.2.2.getD d2.toNat qU.zero).1) fun r3=>
  gd ((qn (!(!r3)) (ze (IntKind.wrap .u8 ((a0.2.2.2.2.getD d2.toNat qU.zero).1.1 - (1:Int))) a2.length))&&(true)) <|
  cond (cond (!r3) true (decide (((a2.getD (IntKind.wrap .u8 ((a0.2.2.2.2.getD d2.toNat qU.zero).1.1 - (1:Int))).toNat []).length:Int)<=(a0.2.2.2.2.getD d2.toNat qU.zero).1.2))) (some (.inr false)) (gd ((zq (d2+(1:Int)))&&(true)) <|
  rec2 (d2+(1:Int)))) (some (.inl ()))
def m_rfits(N:Nat) (a0:zd) (a1:Int) (a2:(List (List zj))):Option (Bool):=
  Option.bind (m_ycheck N a0) fun r1=>
  cond (cond (!(decide (r1=(0:Int)))) true (!(decide (a0.2.2.1=a1)))) (some false) (cond (cond (cond a0.1 (!(decide (a0.2.1=(-13:Int)))) false) (!(decide (a0.2.1=(179:Int)))) false) (some false) (Option.bind (m_rfits_L2 N a0 a2 N (0:Int)) fun(o2:(Unit)⊕(Bool))=>
  sm o2 (fun o2=>
  some true) (fun q=>some q)))
noncomputable def ct_rfits (N:Nat):CT cx:=zS N za (by kernel_rfl) [.dat zr,.c (.int .i64),.c (.lst (.sl zh))] [] ⟨.a (.c .bool),[],[]⟩ [ct_ycheck N,ct_ynamed N] [] (.s (.r [.n 2,.w (.frzC 3 zr)]) (.s .d (.s .d (.s (.s .d (.b (.lxx 0 ⟨[(33,.a (.c (.int .i64)))],[],[2,31,32],[]⟩ ⟨[],[],[],[]⟩ (.s .d (.s .d (.s (.b (.s (.r [.n 4,.w (.frzC 8 qU)]) (.s (.o [] [.t 0 0,.t 1 1,.c 2 [],.f,.t 3 0,.t 4 0,.t 5 0,.t 6 0,.t 7 1,.t 8 0,.t 9 0,.t 10 0,.t 11 1,.t 12 0,.t 13 0,.t 14 1,.t 15 0,.t 16 0,.t 17 0] []) .d))) .d)))))) .d)))) [.tmp 6] 86 false (fun d=>m_rfits N d.1 d.2.1 d.2.2.1) Tryz.func86 rfl rfl Tryz.ntmps86 rfl rfl rfl (fun d=>by kernel_rfl)
def m_equalI_L1(N:Nat) (a0:(List zb)) (a1:(List zb)):Nat->Int->Option ((Unit)⊕(Bool)):=zc fun d1 rec1=>
  cond (decide (d1 < (a0.length:Int))) (gd ((ze d1 a0.length)&&((ze d1 a1.length)&&(true))) <|
  cond (!(GTy.beq zo (a0.getD d1.toNat zo.zero) (a1.getD d1.toNat zo.zero))) (some (.inr false)) (gd ((zq (d1+(1:Int)))&&(true)) <|
  rec1 (d1+(1:Int)))) (some (.inl ()))
def m_equalI(N:Nat) (a0:(List zb)) (a1:(List zb)):Option (Bool):=
  cond (!(decide ((a0.length:Int)=(a1.length:Int)))) (some false) (Option.bind (m_equalI_L1 N a0 a1 N (0:Int)) fun(o1:(Unit)⊕(Bool))=>
  sm o1 (fun o1=>
  some true) (fun q=>some q))
noncomputable def ct_equalI (N:Nat):CT cx:=zS N za (by kernel_rfl) [.c (.lst zo),.c (.lst zo)] [] ⟨.a (.c .bool),[],[]⟩ [] [] (.s .d (.s .d (.s (.s .d (.b (.lxx 0 ⟨[(13,.a (.c (.int .i64)))],[],[0,1,12],[]⟩ ⟨[],[],[],[]⟩ (.s .d (.s .d (.s (.b (.s .d (.s (.o [] [.t 0 0,.t 1 0,.t 2 0,.t 3 1,.t 4 0,.t 5 0,.t 6 0,.t 7 1,.t 8 0] []) .d))) .d)))))) .d))) [.tmp 4] 67 false (fun d=>m_equalI N d.1 d.2.1) Tryz.func67 rfl rfl Tryz.ntmps67 rfl rfl rfl (fun d=>by kernel_rfl)
def m_rcheck_L1(N:Nat) (a0:qx):Nat->Int->Option ((Unit)⊕(Int)):=zc fun d1 rec1=>
  cond (decide (d1 < (a0.2.1.length:Int))) (gd ((ze d1 a0.2.1.length)&&(true)) <|
  gd ((ze d1 a0.2.2.1.1.length)&&(true)) <|
  Option.bind (m_rfits N (a0.2.1.getD d1.toNat zr.zero) ((a0.2.2.1.1.getD d1.toNat []).length:Int) a0.2.2.1.1) fun r2=>
  cond (!r2) (some (.inr (1:Int))) (gd ((zq (d1+(1:Int)))&&(true)) <|
  rec1 (d1+(1:Int)))) (some (.inl ()))
def m_rcheck_L3(N:Nat) (a0:qx):Nat->Int->Option ((Unit)⊕(Int)):=zc fun d3 rec3=>
  cond (decide (d3 < (a0.1.length:Int))) (gd ((ze d3 a0.1.length)&&(true)) <|
  cond (cond (cond (cond (!(decide ((a0.1.getD d3.toNat zL.zero).1=(0:Int)))) (!(decide ((a0.1.getD d3.toNat zL.zero).1=(1:Int)))) false) true (decide (((a0.1.getD d3.toNat zL.zero).2.length:Int) < (1:Int)))) true (decide ((3:Int) < ((a0.1.getD d3.toNat zL.zero).2.length:Int)))) (some (.inr (1:Int))) (gd ((zq (d3+(1:Int)))&&(true)) <|
  rec3 (d3+(1:Int)))) (some (.inl ()))
def m_rcheck(N:Nat) (a0:qx):Option (Int):=
  cond (cond (!(decide ((a0.2.1.length:Int)=(6:Int)))) true (!(decide ((a0.2.2.1.1.length:Int)=(6:Int))))) (some (5:Int)) (Option.bind (m_rcheck_L1 N a0 N (0:Int)) fun(o1:(Unit)⊕(Int))=>
  sm o1 (fun o1=>
  cond (cond (cond (decide ((a0.1.length:Int) < (1:Int))) true (decide ((16:Int) < (a0.1.length:Int)))) true (cond (!(decide (a0.2.2.2=(0:Int)))) (!(decide (a0.2.2.2=(1:Int)))) false)) (some (1:Int)) (Option.bind (m_rcheck_L3 N a0 N (0:Int)) fun(o3:(Unit)⊕(Int))=>
  sm o3 (fun o3=>
  Option.bind (m_fcheck N a0.2.2.1) fun r4=>
  cond (!(decide (r4=(0:Int)))) (some r4) (Option.bind (m_rheld N a0.1) fun r5=>
  Option.bind (m_equalI N r5 a0.2.2.1.2.2.1) fun r6=>
  cond (!r6) (some (6:Int)) (some (0:Int)))) (fun q=>some q))) (fun q=>some q))
noncomputable def ct_rcheck (N:Nat):CT cx:=zS N za (by kernel_rfl) [.dat kd15] [] ⟨.a (.c (.int .i64)),[],[]⟩ [ct_rfits N,ct_fcheck N,ct_rheld N,ct_equalI N] [] (.s (.r [.n 2,.w (.frzC 1 kd15)]) (.s .d (.s (.s .d (.b (.lxx 0 ⟨[(22,.a (.c (.int .i64)))],[],[1,20,21],[]⟩ ⟨[],[],[1],[]⟩ (.s .d (.s .d (.s (.b (.s (.r [.n 6,.w (.frzC 4 zr)]) (.s (.o [] [.t 0 1,.t 1 0,.t 2 0,.t 3 1,.t 4 0,.t 5 0,.t 6 1,.t 7 0,.t 8 0,.t 9 0,.t 10 1,.c 11 [],.t 12 0] []) .d))) .d)))))) (.s .d (.s (.s .d (.b (.lxx 2 ⟨[(64,.a (.c (.int .i64)))],[],[1,62,63],[]⟩ ⟨[],[],[1],[]⟩ (.s .d (.s .d (.s (.b (.s (.r [.n 4,.w (.frzC 6 zL)]) .d)) .d)))))) (.s .d (.s (.s (.o [] [.t 0 0,.t 1 1,.t 3 0,.t 4 0,.t 5 1,.c 2 [],.c 6 [],.t 7 0] []) .d) .d))))))) [.tmp 2] 48 0 (fun d=>m_rcheck N d.1) Tryz.func48 rfl rfl Tryz.ntmps48 rfl rfl rfl (fun d=>by kernel_rfl)
def m_rrows_L3(N:Nat) (a1:(List (List zi))):Nat->(Int×(List zB)×(List zd)×(List (List zj))×(List zQ)×(List zb)×(List zb)×Int)->Option (((List zB)×(List zd)×(List (List zj))×(List zQ)×(List zb)×(List zb)×Int)⊕(qx×Int×Int)):=zc fun d3 rec3=>
  cond (decide (d3.1 < (a1.length:Int))) (gd ((ze d3.1 a1.length)&&(true)) <|
  Option.bind (qX N (d3.2.1,(d3.2.2.1,((d3.2.2.2.1,(d3.2.2.2.2.1,(d3.2.2.2.2.2.1,d3.2.2.2.2.2.2.1))),d3.2.2.2.2.2.2.2))) (a1.getD d3.1.toNat [])) fun r4=>
  cond (!(decide (r4.2=(0:Int)))) (some (.inr ((([]:List zB),(([]:List zd),((([]:List (List zj)),(([]:List zQ),(([]:List zb),([]:List zb)))),(0:Int)))),d3.1,r4.2))) (gd ((zq (d3.1+(1:Int)))&&(true)) <|
  rec3 ((d3.1+(1:Int)),r4.1.1,r4.1.2.1,r4.1.2.2.1.1,r4.1.2.2.1.2.1,r4.1.2.2.1.2.2.1,r4.1.2.2.1.2.2.2,r4.1.2.2.2))) (some (.inl (d3.2.1,d3.2.2.1,d3.2.2.2.1,d3.2.2.2.2.1,d3.2.2.2.2.2.1,d3.2.2.2.2.2.2.1,d3.2.2.2.2.2.2.2)))
def m_rrows(N:Nat) (a0:qx) (a1:(List (List zi))):Option (qx×Int×Int):=
  Option.bind (m_rcheck N a0) fun r1=>
  cond (!(decide (r1=(0:Int)))) (some ((([]:List zB),(([]:List zd),((([]:List (List zj)),(([]:List zQ),(([]:List zb),([]:List zb)))),(0:Int)))),(0:Int),r1)) (Option.bind (m_copyWk N a0) fun r2=>
  Option.bind (m_rrows_L3 N a1 N ((0:Int),r2.1,r2.2.1,r2.2.2.1.1,r2.2.2.1.2.1,r2.2.2.1.2.2.1,r2.2.2.1.2.2.2,r2.2.2.2)) fun(o3:((List zB)×(List zd)×(List (List zj))×(List zQ)×(List zb)×(List zb)×Int)⊕(qx×Int×Int))=>
  sm o3 (fun o3=>
  some ((o3.1,(o3.2.1,((o3.2.2.1,(o3.2.2.2.1,(o3.2.2.2.2.1,o3.2.2.2.2.2.1))),o3.2.2.2.2.2.2))),(a1.length:Int),(0:Int))) (fun q=>some q))
noncomputable def ct_rrows (N:Nat):CT cx:=zS N za (by kernel_rfl) [.dat kd15,.c (.lst (.sl zG))] [] ⟨.tup [.dat kd15,.c (.int .i64),.c (.int .i64)],[],[]⟩ [ct_rcheck N,ct_copyWk N,ct_rworked N] [] (.s .d (.s .d (.s .d (.s (.s .d (.b (.lxx 0 ⟨[(2,.a (.c (.raw (.ptr 2 0)))),(4,.a (.c (.raw (.ptr 4 0)))),(22,.a (.c (.int .i64)))],[(2,.cells 74 [.lst zL,.lst zr,.lst (.sl zh),.lst zK,.lst zo,.lst zo,.int .u8])],[1,20,21],[4]⟩ ⟨[(2,.a (.c (.raw (.ptr 2 0)))),(4,.a (.c (.raw (.ptr 4 0))))],[(2,.cells 74 [.lst zL,.lst zr,.lst (.sl zh),.lst zK,.lst zo,.lst zo,.int .u8])],[1],[4]⟩ (.s .d (.s .d (.s (.b (.s .d (.s (.r [.n 9,.w (.frzC 10 kd15)]) .d))) .d)))))) .d)))) [.cell 4 74,.tmp 5,.tmp 6] 47 (kd15.zero,0,0) (fun d=>m_rrows N d.1 d.2.1) Tryz.func47 rfl rfl Tryz.ntmps47 rfl rfl rfl (fun d=>by kernel_rfl)
end

section
set_option linter.unusedSimpArgs false
set_option linter.unusedVariables false
open Go.RowKit
def m_mcopiedI(N:Nat) (a0:(List zb)):Option ((List zb)×Nat):=
  gd (((decide (0<=(a0.length:Int)))&&(decide ((a0.length:Int)<=(a0.length:Int)))&&(zH 16 (a0.length:Int)))&&(true)) <|
  gd ((Nat.beq a0.length (List.replicate (a0.length:Int).toNat (zo.zero:zb)).length)&&(true)) <|
  some (a0,(a0.length:Int).toNat)
noncomputable def ct_mcopiedI (N:Nat):CT cx:=zS N za (by kernel_rfl) [.c (.lst zo)] [] ⟨.a (.c (.lstx zo)),[],[]⟩ [] [] (.s .d (.s .d (.s .d (.s .d (.t [.frz 6]))))) [.tmp 2] 52 ([],0) (fun d=>m_mcopiedI N d.1) Tryz.func52 rfl rfl Tryz.ntmps52 rfl rfl rfl (fun d=>by kernel_rfl)
def m_mcopiedX(N:Nat) (a0:(List zQ)):Option ((List zQ)×Nat):=
  gd (((decide (0<=(a0.length:Int)))&&(decide ((a0.length:Int)<=(a0.length:Int)))&&(zH 40 (a0.length:Int)))&&(true)) <|
  gd ((Nat.beq a0.length (List.replicate (a0.length:Int).toNat (zK.zero:zQ)).length)&&(true)) <|
  some (a0,(a0.length:Int).toNat)
noncomputable def ct_mcopiedX (N:Nat):CT cx:=zS N za (by kernel_rfl) [.c (.lst zK)] [] ⟨.a (.c (.lstx zK)),[],[]⟩ [] [] (.s .d (.s .d (.s .d (.s .d (.t [.frz 6]))))) [.tmp 2] 53 ([],0) (fun d=>m_mcopiedX N d.1) Tryz.func53 rfl rfl Tryz.ntmps53 rfl rfl rfl (fun d=>by kernel_rfl)
def qQ(N:Nat) (a0:(List qa)):Option ((List qa)×Nat):=
  gd (((decide (0<=(a0.length:Int)))&&(decide ((a0.length:Int)<=(a0.length:Int)))&&(zH 24 (a0.length:Int)))&&(true)) <|
  gd ((Nat.beq a0.length (List.replicate (a0.length:Int).toNat (qU.zero:qa)).length)&&(true)) <|
  some (a0,(a0.length:Int).toNat)
noncomputable def ct_mcopiedP (N:Nat):CT cx:=zS N za (by kernel_rfl) [.c (.lst qU)] [] ⟨.a (.c (.lstx qU)),[],[]⟩ [] [] (.s .d (.s .d (.s .d (.s .d (.t [.frz 6]))))) [.tmp 2] 58 ([],0) (fun d=>qQ N d.1) Tryz.func58 rfl rfl Tryz.ntmps58 rfl rfl rfl (fun d=>by kernel_rfl)
def m_mcopyT_L3(N:Nat) (a0:(List (List zj))) (v1_0:Int):Nat->(Int×(List (Bool×List zj)))->Option ((List (Bool×List zj))):=zc fun d3 rec3=>
  cond (decide (d3.1 < ((a0.getD v1_0.toNat []).length:Int))) (gd ((ze d3.1 (a0.getD v1_0.toNat []).length)&&(true)) <|
  Option.bind (m_mcopiedI N ((a0.getD v1_0.toNat []).getD d3.1.toNat zh.zero).2.2.1) fun r4=>
  Option.bind (qQ N ((a0.getD v1_0.toNat []).getD d3.1.toNat zh.zero).2.2.2) fun r5=>
  gd (((decide (v1_0.toNat < d3.2.length))&&(d3.2.getD v1_0.toNat (false,[])).1)) <|
  gd ((ze v1_0 d3.2.length)&&((decide (v1_0.toNat=v1_0.toNat))&&((ze d3.1 (d3.2.getD v1_0.toNat (false,[])).2.length)&&(((decide (d3.1.toNat < (d3.2.getD v1_0.toNat (false,[])).2.length))&&(true))&&(true))))) <|
  gd ((zq (d3.1+(1:Int)))&&(true)) <|
  rec3 ((d3.1+(1:Int)),(d3.2.set v1_0.toNat (true,((d3.2.getD v1_0.toNat (false,[])).2.set d3.1.toNat (((a0.getD v1_0.toNat []).getD d3.1.toNat zh.zero).1,(((a0.getD v1_0.toNat []).getD d3.1.toNat zh.zero).2.1,(r4.1,r5.1)))))))) (some d3.2)
def m_mcopyT_L1(N:Nat) (a0:(List (List zj))) (a1:Int) (a2:Int):Nat->(Int×(List (Bool×List zj)))->Option ((List (Bool×List zj))):=zc fun d1 rec1=>
  cond (decide (d1.1 < (a0.length:Int))) (gd ((ze d1.1 a0.length)&&(true)) <|
  Option.bind (gd ((zq a1)&&((zq (a1 - (1:Int)))&&(true))) <|
  cond (decide (d1.1=(a1 - (1:Int)))) (gd ((zq (((a0.getD d1.1.toNat []).length:Int)+a2))&&(true)) <|
  some (((a0.getD d1.1.toNat []).length:Int)+a2)) (some ((a0.getD d1.1.toNat []).length:Int))) fun o2=>
  gd (((decide (0<=((a0.getD d1.1.toNat []).length:Int)))&&(decide (((a0.getD d1.1.toNat []).length:Int)<=o2))&&(zH 56 o2))&&((ze d1.1 d1.2.length)&&((decide (d1.1.toNat < d1.2.length))&&(true)))) <|
  Option.bind (m_mcopyT_L3 N a0 d1.1 N ((0:Int),(d1.2.set d1.1.toNat (true,(List.replicate ((a0.getD d1.1.toNat []).length:Int).toNat (zh.zero:zj)))))) fun o3=>
  gd ((zq (d1.1+(1:Int)))&&(true)) <|
  rec1 ((d1.1+(1:Int)),o3)) (some d1.2)
def m_mcopyT(N:Nat) (a0:(List (List zj))) (a1:Int) (a2:Int):Option ((List (Bool×List zj))):=
  gd (((decide (0<=(a0.length:Int)))&&(decide ((a0.length:Int)<=(a0.length:Int)))&&(zH 24 (a0.length:Int)))&&(true)) <|
  Option.bind (m_mcopyT_L1 N a0 a1 a2 N ((0:Int),(List.replicate (a0.length:Int).toNat ((true,[]):Bool×List zj)))) fun o1=>
  some o1
noncomputable def ct_mcopyT (N:Nat):CT cx:=zS N za (by kernel_rfl) [.c (.lst (.sl zh)),.c (.int .u8),.c (.int .i64)] [] ⟨.a (.c (.raw (.sl 15))),[(15,.mrow 47 51 zh)],[]⟩ [ct_mcopiedI N,ct_mcopiedP N] [] (.s .d (.s (.r [.n 2,.t .mk]) (.s (.s .d (.b (.lx 0 ⟨[(7,.a (.c (.raw (.sl 15)))),(18,.a (.c (.int .i64)))],[(15,.mrow 47 51 zh)],[1,2,16,17],[]⟩ ⟨[(7,.a (.c (.raw (.sl 15))))],[(15,.mrow 47 51 zh)],[],[]⟩ (.s .d (.s .d (.s (.b (.s .d (.s .d (.j ⟨[(7,.a (.c (.raw (.sl 15)))),(10,.a (.c (.int .i64)))],[],[1,2,8,9,16,17,18],[15]⟩ .d (.s (.r [.n 7,.t .st]) (.s (.r [.n 3,.w (.t (.close 15 38))]) (.b (.lx 2 ⟨[(7,.a (.c (.raw (.sl 15)))),(42,.a (.c (.int .i64)))],[(15,.mrow 47 51 zh)],[1,2,8,16,17,18,40,41],[]⟩ ⟨[(7,.a (.c (.raw (.sl 15))))],[(15,.mrow 47 51 zh)],[1,2,16,17,18],[]⟩ (.s .d (.s .d (.s (.b (.s .d (.s .d (.s .d (.p [.t (.op 15 8 58)] (.o [3] [.t 0 0,.t 1 0,.t 2 0,.t 4 0,.t 5 3,.k 3,.t 6 0,.s 7] [(.t (.close 15 58))])))))) .d))))))))))) .d)))))) .d))) [.tmp 6] 54 [] (fun d=>m_mcopyT N d.1 d.2.1 d.2.2.1) Tryz.func54 rfl rfl Tryz.ntmps54 rfl rfl rfl (fun d=>by kernel_rfl)
def qO:List UInt8:=(List.append (List.append (List.append [0,1,2,2,3,3,3,3,4,4,4,4,4,4,4,4,5,5,5,5,5,5,5,5,5,5,5,5,5,5,5,5,6,6,6,6,6,6,6,6,6,6,6,6,6,6,6,6,6,6,6,6,6,6,6,6,6,6,6,6,6,6,6,6] [7,7,7,7,7,7,7,7,7,7,7,7,7,7,7,7,7,7,7,7,7,7,7,7,7,7,7,7,7,7,7,7,7,7,7,7,7,7,7,7,7,7,7,7,7,7,7,7,7,7,7,7,7,7,7,7,7,7,7,7,7,7,7,7]) [8,8,8,8,8,8,8,8,8,8,8,8,8,8,8,8,8,8,8,8,8,8,8,8,8,8,8,8,8,8,8,8,8,8,8,8,8,8,8,8,8,8,8,8,8,8,8,8,8,8,8,8,8,8,8,8,8,8,8,8,8,8,8,8]) [8,8,8,8,8,8,8,8,8,8,8,8,8,8,8,8,8,8,8,8,8,8,8,8,8,8,8,8,8,8,8,8,8,8,8,8,8,8,8,8,8,8,8,8,8,8,8,8,8,8,8,8,8,8,8,8,8,8,8,8,8,8,8,8])
def m_bLen64(N:Nat) (a0:Int):Option (Int):=
  Option.bind (cond (decide ((4294967296:Int)<=a0)) (some ((Int.fdiv a0 (2 ^ (min (32:Int).toNat (IntKind.bits .u64)))),(32:Int))) (some (a0,(0:Int)))) fun o1=>
  Option.bind (cond (decide ((65536:Int)<=o1.1)) (gd ((zq (o1.2+(16:Int)))&&(true)) <|
  some ((Int.fdiv o1.1 (2 ^ (min (16:Int).toNat (IntKind.bits .u64)))),(o1.2+(16:Int)))) (some (o1.1,o1.2))) fun o2=>
  cond (decide ((256:Int)<=o2.1)) (gd ((zq (o2.2+(8:Int)))&&(true)) <|
  gd ((ze (IntKind.wrap .u8 (Int.fdiv o2.1 (2 ^ (min (8:Int).toNat (IntKind.bits .u64))))) qO.length)&&((zq ((qO.getD (IntKind.wrap .u8 (Int.fdiv o2.1 (2 ^ (min (8:Int).toNat (IntKind.bits .u64))))).toNat 0).toNat:Int))&&((zq ((o2.2+(8:Int))+((qO.getD (IntKind.wrap .u8 (Int.fdiv o2.1 (2 ^ (min (8:Int).toNat (IntKind.bits .u64))))).toNat 0).toNat:Int)))&&(true)))) <|
  some ((o2.2+(8:Int))+((qO.getD (IntKind.wrap .u8 (Int.fdiv o2.1 (2 ^ (min (8:Int).toNat (IntKind.bits .u64))))).toNat 0).toNat:Int))) (gd ((ze (IntKind.wrap .u8 o2.1) qO.length)&&((zq ((qO.getD (IntKind.wrap .u8 o2.1).toNat 0).toNat:Int))&&((zq (o2.2+((qO.getD (IntKind.wrap .u8 o2.1).toNat 0).toNat:Int)))&&(true)))) <|
  some (o2.2+((qO.getD (IntKind.wrap .u8 o2.1).toNat 0).toNat:Int)))
noncomputable def ct_bLen64 (N:Nat):CT cx:=zS N za (by kernel_rfl) [.c (.int .u64)] [] ⟨.a (.c (.int .i64)),[],[]⟩ [] [] (.s .d (.j ⟨[(0,.a (.c (.int .u64))),(2,.a (.c (.int .i64)))],[],[],[]⟩ .d (.j ⟨[(0,.a (.c (.int .u64))),(2,.a (.c (.int .i64)))],[],[],[]⟩ .d .d))) [.tmp 2] 152 0 (fun d=>m_bLen64 N d.1) Tryz.func152 rfl rfl Tryz.ntmps152 rfl rfl rfl (fun d=>by kernel_rfl)
def m_bLen(N:Nat) (a0:Int):Option (Int):=
  Option.bind (m_bLen64 N a0) fun r1=>
  some r1
noncomputable def ct_bLen (N:Nat):CT cx:=zS N za (by kernel_rfl) [.c (.int .u64)] [] ⟨.a (.c (.int .i64)),[],[]⟩ [ct_bLen64 N] [] (.d) [.tmp 2] 123 0 (fun d=>m_bLen N d.1) Tryz.func123 rfl rfl Tryz.ntmps123 rfl rfl rfl (fun d=>by kernel_rfl)
def m_isortI_L2(N:Nat) (a0:Int):Nat->(Int×(List zb))->Option ((List zb)):=zc fun d2 rec2=>
  gd ((qn (decide (a0 < d2.1)) (ze d2.1 d2.2.length))&&((qn (decide (a0 < d2.1)) (decide (d2.1.toNat < d2.2.length)))&&((qn (decide (a0 < d2.1)) (zq (d2.1 - (1:Int))))&&((qn (decide (a0 < d2.1)) (ze (d2.1 - (1:Int)) d2.2.length))&&((qn (decide (a0 < d2.1)) (decide ((d2.1 - (1:Int)).toNat < d2.2.length)))&&(true)))))) <|
  Option.bind (cond (decide (a0 < d2.1)) (qE N (d2.2.getD d2.1.toNat zo.zero) (d2.2.getD (d2.1 - (1:Int)).toNat zo.zero)) (some 0)) fun r3=>
  cond (cond (decide (a0 < d2.1)) (decide (r3 < (0:Int))) false) (gd ((zq (d2.1 - (1:Int)))&&((zq (d2.1 - (1:Int)))&&((ze (d2.1 - (1:Int)) d2.2.length)&&((decide ((d2.1 - (1:Int)).toNat < d2.2.length))&&((ze d2.1 d2.2.length)&&((decide (d2.1.toNat < d2.2.length))&&((ze d2.1 d2.2.length)&&(((decide (d2.1.toNat < d2.2.length))&&(true))&&((ze (d2.1 - (1:Int)) (d2.2.set d2.1.toNat (d2.2.getD (d2.1 - (1:Int)).toNat zo.zero)).length)&&(((decide ((d2.1 - (1:Int)).toNat < (d2.2.set d2.1.toNat (d2.2.getD (d2.1 - (1:Int)).toNat zo.zero)).length))&&(true))&&(true))))))))))) <|
  gd ((zq (d2.1 - (1:Int)))&&(true)) <|
  rec2 ((d2.1 - (1:Int)),((d2.2.set d2.1.toNat (d2.2.getD (d2.1 - (1:Int)).toNat zo.zero)).set (d2.1 - (1:Int)).toNat (d2.2.getD d2.1.toNat zo.zero)))) (some d2.2)
def m_isortI_L1(N:Nat) (a0:Int) (a1:Int):Nat->(Int×(List zb))->Option ((List zb)):=zc fun d1 rec1=>
  cond (decide (d1.1 < a1)) (Option.bind (m_isortI_L2 N a0 N (d1.1,d1.2)) fun o2=>
  gd ((zq (d1.1+(1:Int)))&&(true)) <|
  rec1 ((d1.1+(1:Int)),o2)) (some d1.2)
def m_isortI(N:Nat) (a0:Int) (a1:Int) (a2:List zb):Option ((List zb)):=
  gd ((zq (a0+(1:Int)))&&(true)) <|
  Option.bind (m_isortI_L1 N a0 a1 N ((a0+(1:Int)),a2)) fun o1=>
  some o1
noncomputable def ct_isortI (N:Nat):CT cx:=zS N za (by kernel_rfl) [.c (.raw (.sl 2000000)),.c (.int .i64),.c (.int .i64),.c (.fn 75 [])] [(2000000,.row 30 zo)] ⟨.tup [],[(2000000,.row 30 zo)],[]⟩ [ct_fcompare N] [] (.s .d (.b (.lx 0 ⟨[(0,.a (.c (.raw (.sl 2000000)))),(8,.a (.c (.int .i64)))],[(2000000,.row 30 zo)],[1,2,3],[]⟩ ⟨[],[(2000000,.row 30 zo)],[],[]⟩ (.s .d (.s (.b (.s .d (.b (.lx 2 ⟨[(0,.a (.c (.raw (.sl 2000000)))),(9,.a (.c (.int .i64)))],[(2000000,.row 30 zo)],[1,2,3,8],[]⟩ ⟨[(0,.a (.c (.raw (.sl 2000000))))],[(2000000,.row 30 zo)],[1,2,3,8],[]⟩ (.s (.s (.oa [9,10,11,12,13] [.t 0 0,.t 1 0,.t 2 0,.t 3 0,.t 4 0,.t 5 0,.t 6 0,.t 7 0,.t 8 3,.t 9 0,.t 10 0,.t 11 0,.t 12 0,.t 13 3,.g 14,.t 15 0,.t 16 0] []) .d) (.s (.b (.oa [10,11,12,13] [.t 0 0,.t 1 0,.t 2 0,.t 3 0,.t 4 0,.t 5 0,.t 6 0,.t 7 0,.t 8 0,.t 9 3,.t 10 0,.t 11 0,.t 12 0,.t 13 3,.t 14 0,.s 15,.t 16 0,.s 17] [])) .d)))))) .d))))) [] 143 [] (fun d=>m_isortI N d.1 d.2.1 d.2.2.1) Tryz.func143 rfl rfl Tryz.ntmps143 rfl rfl rfl (fun d=>by kernel_rfl)
def m_pdqI_L1(N:Nat) (a0:Int) (a1:Int) (a2:Int) (a3:List zb):Nat->Unit->Option ((Unit)⊕((List zb))):=zc fun d1 rec1=>
  gd ((zq (a1 - a0))&&(true)) <|
  cond (decide ((a1 - a0)<=(12:Int))) (Option.bind (m_isortI N a0 a1 a3) fun r2=>
  some (.inr r2)) (cond (decide (a2=(0:Int))) (none) (Option.bind (some ()) fun o3=>
  none))
def m_pdqI(N:Nat) (a0:Int) (a1:Int) (a2:Int) (a3:List zb):Option ((List zb)):=
  Option.bind (m_pdqI_L1 N a0 a1 a2 a3 N ()) fun(o1:(Unit)⊕((List zb)))=>
  sm o1 (fun o1=>
  none) (fun q=>some q)
noncomputable def ct_pdqI (N:Nat):CT cx:=zS N za (by kernel_rfl) [.c (.raw (.sl 2000000)),.c (.int .i64),.c (.int .i64),.c (.int .i64),.c (.fn 75 [])] [(2000000,.row 30 zo)] ⟨.tup [],[(2000000,.row 30 zo)],[]⟩ [ct_isortI N] [] (.s .d (.s .d (.b (.lxx 0 ⟨[(0,.a (.c (.raw (.sl 2000000))))],[],[1,2,3,4,10,11],[2000000]⟩ ⟨[],[],[],[]⟩ (.b (.s .d (.s (.s .d (.c (.s (.r [.n 4,.c [(2000000,2000000)]]) .d) .d)) (.s .d (.j ⟨[(0,.a (.c (.raw (.sl 2000000))))],[],[1,2,3,4,10,11,12],[2000000]⟩ .d .d))))))))) [] 122 [] (fun d=>m_pdqI N d.1 d.2.1 d.2.2.1 d.2.2.2.1) Tryz.func122 rfl rfl Tryz.ntmps122 rfl rfl rfl (fun d=>by kernel_rfl)
def m_sortI(N:Nat) (a0:List zb):Option ((List zb)):=
  Option.bind (m_bLen N (IntKind.wrap .u64 (a0.length:Int))) fun r1=>
  Option.bind (m_pdqI N (0:Int) (a0.length:Int) r1 a0) fun r2=>
  some r2
noncomputable def ct_sortI (N:Nat):CT cx:=zS N za (by kernel_rfl) [.c (.raw (.sl 2000000)),.c (.fn 75 [])] [(2000000,.row 30 zo)] ⟨.tup [],[(2000000,.row 30 zo)],[]⟩ [ct_bLen N,ct_pdqI N] [] (.s .d (.r [.n 6,.c [(2000000,2000000)]])) [] 88 [] (fun d=>m_sortI N d.1) Tryz.func88 rfl rfl Tryz.ntmps88 rfl rfl rfl (fun d=>by kernel_rfl)
def m_clipI(N:Nat) (a0:(List zb)):Option ((List zb)×Nat):=
  gd (((decide (0<=(a0.length:Int)))&&(decide ((a0.length:Int)<=(a0.length:Int)))&&(decide ((a0.length:Int)<=(a0.length:Int))))&&(true)) <|
  some ((a0.take (a0.length:Int).toNat),(a0.length:Int).toNat)
noncomputable def ct_clipI (N:Nat):CT cx:=zS N za (by kernel_rfl) [.c (.lst zo)] [] ⟨.a (.c (.lstx zo)),[],[]⟩ [] [] (.d) [.tmp 2] 57 ([],0) (fun d=>m_clipI N d.1) Tryz.func57 rfl rfl Tryz.ntmps57 rfl rfl rfl (fun d=>by kernel_rfl)
end

section
set_option linter.unusedSimpArgs false
set_option linter.unusedVariables false
open Go.RowKit
def m_mfallen(N:Nat) (a0:(List zb)) (a1:zb):Option ((List zb)):=
  gd ((zq ((a0.length:Int)+(1:Int)))&&(((decide ((0:Int)<=((a0.length:Int)+(1:Int))))&&(zH 16 ((a0.length:Int)+(1:Int))))&&(true))) <|
  gd ((zV 16 (([]:List zb).length+a0.length))&&(true)) <|
  gd ((zV 16 ((([]:List zb)++a0).length+[a1].length))&&(true)) <|
  Option.bind (m_sortI N ((([]:List zb)++a0)++[a1])) fun r1=>
  some r1
noncomputable def ct_mfallen (N:Nat):CT cx:=zS N za (by kernel_rfl) [.c (.lst zo),.dat zo] [] ⟨.a (.c (.lst zo)),[],[]⟩ [ct_sortI N] [] (.s (.r [.n 2,.w (.frzC 3 zo)]) (.s .d (.s .d (.s .d (.s (.r [.n 1,.c [(2000000,9)]]) (.s .d (.t [.frz 9]))))))) [.tmp 4] 51 [] (fun d=>m_mfallen N d.1 d.2.1) Tryz.func51 rfl rfl Tryz.ntmps51 rfl rfl rfl (fun d=>by kernel_rfl)
end

section
set_option linter.unusedSimpArgs false
set_option linter.unusedVariables false
open Go.RowKit
def m_muntil(N:Nat) (a0:(List (List zi))) (a1:Int):Option (qx×Int):=
  Option.bind (m_chcheck N a0) fun r1=>
  cond (!(decide (r1=(0:Int)))) (some ((([]:List zB),(([]:List zd),((([]:List (List zj)),(([]:List zQ),(([]:List zb),([]:List zb)))),(0:Int)))),r1)) (cond (cond (decide (a1 < (0:Int))) true (decide ((a0.length:Int) < a1))) (some ((([]:List zB),(([]:List zd),((([]:List (List zj)),(([]:List zQ),(([]:List zb),([]:List zb)))),(0:Int)))),(1:Int))) (gd ((ze (0:Int) a0.length)&&(true)) <|
  Option.bind (m_chfirst N (a0.getD (0:Int).toNat [])) fun r2=>
  Option.bind (qZ N (a0.getD (0:Int).toNat [])) fun r3=>
  Option.bind (m_rcast N r2 r3) fun r4=>
  cond (!(decide (r4.2=(0:Int)))) (some ((([]:List zB),(([]:List zd),((([]:List (List zj)),(([]:List zQ),(([]:List zb),([]:List zb)))),(0:Int)))),r4.2)) (gd (((decide (0<=a1))&&(decide (a1<=(a0.length:Int))))&&(true)) <|
  Option.bind (m_rrows N r4.1 (a0.take a1.toNat)) fun r5=>
  cond (!(decide (r5.2.2=(0:Int)))) (some ((([]:List zB),(([]:List zd),((([]:List (List zj)),(([]:List zQ),(([]:List zb),([]:List zb)))),(0:Int)))),r5.2.2)) (some (r5.1,(0:Int))))))
noncomputable def ct_muntil (N:Nat):CT cx:=zS N za (by kernel_rfl) [.dat (.sl (.sl zG)),.c (.int .i64)] [] ⟨.tup [.dat kd15,.c (.int .i64)],[],[]⟩ [ct_chcheck N,ct_chfirst N,ct_chneeds N,ct_rcast N,ct_rrows N] [] (.s (.r [.n 3,.w (.frzC 2 (.sl (.sl zG)))]) (.s .d (.s .d (.s .d (.s .d (.s .d (.s (.o [1,2,3,4] [.t 0 3,.t 1 0,.t 2 1,.t 3 0,.t 4 0,.c 5 [],.m 6,.t 7 0,.t 8 0,.t 9 0,.s 10,.t 11 0] []) .d))))))) [.cell 4 74,.tmp 5] 23 (kd15.zero,0) (fun d=>m_muntil N d.1 d.2.1) Tryz.func23 rfl rfl Tryz.ntmps23 rfl rfl rfl (fun d=>by kernel_rfl)
end

section
set_option linter.unusedSectionVars false
def ACd(X:Cx) (f:FuncId) (args:List SA) (h:Hp) (Q:SV->Hp->Prop):Prop:=
 ∀ (B:Nat->Prop) (w0:World) (env:Nat->Loc) (vs:List Value) (H:List Ck) (W:World),GlobOk X B w0->SasR env B w0 args vs->HR env B w0 h H->SH B w0 H W->∀ u,CallsDIn Fence.wide 0 X.P f vs.toArray u W (fun e u' w'=>u'=u/\∃ v,e=.returned v/\ACpost X env B H W Q v w')
theorem ACpost.mono{X:Cx} {env:Nat->Loc} {B:Nat->Prop} {H:List Ck} {W:World} {Q Q2:SV->Hp->Prop} {v:Value} {w':World} (h:ACpost X env B H W Q v w') (hq:∀ sv h',Q sv h'->∃ sv2 h2 hs,VI sv sv2/\SubH h' hs/\(∀ env B w H,HR env B w hs H->HR env B w h2 H)/\Q2 sv2 h2):ACpost X env B H W Q2 v w':=by
 obtain⟨env',B',w0',H',sv,h',h1,h2,h3,h4,h5,h6,h7,h8⟩:=h;obtain⟨sv2,hp2,hsb,q1,q2,q3,q4⟩:=hq sv h' h1;obtain⟨H2,Y,p1,p2⟩:=q2.sel h6;exact⟨env',B',w0',H2,sv2,hp2,q4,h2,h3,h4,q1 _ _ _ _ h5,q3 _ _ _ _ p2,(h7.perm p1).weak (List.sublist_append_left _ _),h8⟩
theorem ai_start{X:Cx} {n:Nat} {fn:Func} {args:List SA} {h:Hp} {B:Nat->Prop} {w0:World} {env:Nat->Loc} {vs:List Value} {H:List Ck} {W:World} (hN:fn.ntmps=n) (hl:Nat.ble args.length n=true) (hn:Nat.ble n zU=true) (hg:GlobOk X B w0) (ha:SasR env B w0 args vs) (hh:HR env B w0 h H) (hs:SH B w0 H W) :
  AI X (Rest W H) W ⟨B,fun id l=>((zU<=id/\∃ b,l=.blk b)\/zP<=id)/\env id=l,[]⟩ n [] env B W H ⟨argL 0 args,h⟩ { tmps:=vs.toArray++Array.replicate (fn.ntmps - vs.toArray.size) undef,defers:=[] } W:=by
 have hlen:=ha.length;have hle:vs.length<=n:=by rw[hlen]; exact Nat.le_of_ble_eq_true hl
 have hup:Up B w0 B W:=⟨fun _ h=>h,fun k hk=>hs.below.block k hk⟩
 have hsub:∀ k,B k->Rest W H k:=fun k hk=>⟨hs.base k hk,fun c hc e=>((hs.ok c hc).lt e).1 hk⟩
 have hS:=st_start (fn:=fn) hN hle _ rfl (vs:=vs);refine⟨hS.size,rfl,fun s sv hsv=>?_,hh.up hup,?_,fun _ h=>h,fun _ h=>.inl h,fun id l hp=>⟨Nat.le_trans (Nat.le_of_ble_eq_true hn) (hp.1.elim (fun h=>h.1) (fun h=>Nat.le_trans (by decide) h)),hp.2,hp.1.imp (fun h=>h.2) (fun h=>h)⟩,KO.refl _ _,fun i x hx=>(hg i x hx).up hup⟩
 ·obtain⟨_,v,h1,h2⟩:=argL_ok ha hsv
  rw[Nat.sub_zero]at h1;refine⟨v,?_,h2.up hup⟩;have hlt:s < vs.length:=(List.getElem?_eq_some_iff.1 h1).1;show(vs.toArray++_)[s]?=some v;rw[Array.getElem?_append_left (by simpa using hlt)]
  simpa using h1
 ·have h1:=hs.rest
  simp only[List.map_nil,List.append_nil];exact⟨KO.refl _ _,fun k hk=>hk.elim (fun h=>h.1) (fun h=>hs.base k h),fun c hc=>(h1.ok c hc).base fun b hb hk=>hk.elim (fun h=>((h1.ok c hc).lt hb).1 h) (fun h=>((h1.ok c hc).lt hb).1 (hsub b h)),h1.apart⟩
theorem acd_bodyE{X:Cx} {n:Nat} (hX:X.tt.ok X.P) {f:FuncId} {fn:Func} {c:Code} {args:List SA} {h:Hp} {Q:SV->Hp->Prop} {res:List ResultVar} (hf:X.P.funcs[f]?=some fn) (hb:fn.body=some c) (hN:fn.ntmps=n) (hl:Nat.ble args.length n=true) (hn:Nat.ble n zU=true) (hr:fn.results=res.toArray)
  (hB:AX X false n none c ⟨argL 0 args,h⟩ (fun e st=>(e=.ret\/e=.normal)/\∃ st',Wm X false n st st'/\∃ c sv,ares X st' res=some (c,sv)/\c=true/\Q sv st'.H)):ACd X f args h Q:=by
 intro B w0 env vs H W hg ha hh hs u;have hA:=ai_start (fn:=fn) hN hl hn hg ha hh hs;refine CallsDIn.mono (callsDIn_of_wp (R:=fun e w'=>∃ v,e=.returned v/\ACpost X env B H W Q v w') hf hb trivial ?_) fun _ _ _ h=>h
 refine wpIn_mono (hB _ _ _ _ _ ⟨[],env,B,W,H,⟨(fun _=>rfl),fun h=>by cases h⟩,hA⟩) ?_;rintro e a w ⟨st,⟨he,st',hw,c,sv,hres,hc,hQ⟩,h2⟩;obtain⟨ks,env',B',w0',H',hM,hA'⟩:=hw _ _ _ _ _ h2;have hks:=hM.1 rfl;subst hks;obtain⟨v,h3,h4⟩:=ares_ok hX hA' hr hres hc;have hw:=hA'.sh;have key:a.defers=[]/\∃ v,(results fn a.tmps).run X.P w=.ok v w/\∃ v',Ending.returned v=.returned v'/\ACpost X env B H W Q v' w:=by
  refine⟨hA'.defs,v,h4 w hw,v,rfl,env',B',w0',H',sv,st'.H,hQ,hA'.sub,hA'.new,hA'.base,h3,hA'.heap,?_,fun id l h5 h6=>(hA'.pin id l ⟨h5,h6⟩).2.1⟩
  simpa using hw
 rcases he with rfl | rfl
 ·exact key
 ·exact key
structure CD(X:Cx) where
 c:CT X
 okd:∀ d r,c.m d=some r->ACd X c.f (asS c.A d).1 (hpS c.HA (asS c.A d).2).1 (fun sv h=>sv=(c.out d r).1/\h=(c.out d r).2)
section
variable {X:Cx} {n:Nat}
theorem ev_acd(N:Nat) (hX:X.tt.ok X.P) (hm:X.P.follows .mixedOrders=true) {f:FuncId} {fn:Func} {c:Code} {A:List AS} {HA:List (Nat×BS)} {R:Rs} (T:List (CT X)) (TI:List (IT X)) (sc:Sc) {res:List ResultVar} (hf:X.P.funcs[f]?=some fn) (hb:fn.body=some c) (hN:fn.ntmps=n) (hl:Nat.ble A.length n=true) (hn:Nat.ble n zU=true) (hr:fn.results=res.toArray)
  {d:argT A HA} {r:R.ty} (h:evc X N n T TI false c none sc ⟨argL 0 (inS A HA d).1,(inS A HA d).2⟩ (evFin X res R (inS A HA d).2)=some r):ACd X f (inS A HA d).1 (inS A HA d).2 (fun sv h=>sv=(R.out (inS A HA d).2 r).1/\h=(R.out (inS A HA d).2 r).2):=by
 have hC:=acd_bodyE (Q:=fun sv h'=>∃ hs,VI sv (R.out (inS A HA d).2 r).1/\SubH h' hs/\∀ env B w H,HR env B w hs H->HR env B w (R.out (inS A HA d).2 r).2 H) hX hf hb hN (by show Nat.ble (asS A d).1.length n=true; rw[asS_length]; exact hl) hn hr (ax_mono (ax_gx (r:=r) fun R0 W0 Bi0=>evc_ok hX hm c false false none (fun h=>by cases h) _ _ none YG.none _ _ _ _ h) fun e s ⟨V,s',hw,hks,hs⟩=>?_)
 ·exact fun B w0 env vs H W hg ha hh hs u=>CallsDIn.mono (hC B w0 env vs H W hg ha hh hs u) fun _ _ _ ⟨h1,v,h2,h3⟩=>⟨h1,v,h2,h3.mono fun sv h' ⟨hs,q1,q2,q3⟩=>⟨_,_,hs,q1,q2,q3,rfl,rfl⟩⟩
 ·have key:(match ares X s' res with
   | some (c,sv)=>gd c (R.get (inS A HA d).2 V s'.H sv)
   | none=>none)=some r->∃ st',Wm X false n s st'/\∃ c sv,ares X st' res=some (c,sv)/\c=true/\∃ hs,VI sv (R.out (inS A HA d).2 r).1/\SubH st'.H hs/\∀ env B w H,HR env B w hs H->HR env B w (R.out (inS A HA d).2 r).2 H:=fun hk=>by
   split at hk
   ·rename_i c sv e1
    obtain⟨hc,hk⟩:=zI hk;exact⟨s',hw,c,sv,e1,hc,Rs.get_ok hks hk⟩
   ·cases hk
  cases e with
  | ret=>exact⟨.inl rfl,key hs⟩
  | normal=>exact⟨.inr rfl,key hs⟩
  | _=>cases hs
def cdE (N : Nat) (hX : X.tt.ok X.P) (hm : X.P.follows .mixedOrders = true) {fn : Func} {c : Code} (A : List AS) (HA : List (Nat × BS)) (R : Rs) (T : List (CT X)) (TI : List (IT X)) (sc : Sc) (res : List ResultVar) (f : FuncId) (df : R.ty) (m : argT A HA → Option R.ty) (hf : X.P.funcs[f]? = some fn) (hg : (fn.name == "runtime.NumGoroutine") = false) (hb : fn.body = some c) (hN : fn.ntmps = n) (hl : Nat.ble A.length n = true) (hn : Nat.ble n zU = true) (hr : fn.results = res.toArray)
  (h:∀ d,evF X N n T TI c sc res A HA R d=m d) (h2:∀ d,evc X N n T TI false c none sc ⟨argL 0 (inS A HA d).1,(inS A HA d).2⟩ (evFin X res R (inS A HA d).2)=m d):CD X:=
 { c:=zS N hX hm A HA R T TI sc res f df m hf hg hb hN hl hn hr h,okd:=fun d r he=>ev_acd N hX hm T TI sc hf hb hN hl hn hr ((h2 d).trans he) }
end
theorem AI.dfrs{X:Cx} {R:Nat->Prop} {W:World} {Bi:Bk} {n:Nat} {env:Nat->Loc} {B:Nat->Prop} {w0:World} {H:List Ck} {st:ASt} {a:Act} {w:World} (h:AI X R W Bi n [] env B w0 H st a w) (D:List Deferred):AI X R W ⟨Bi.b,Bi.p,D⟩ n [] env B w0 H st { tmps:=a.tmps,defers:=D } w:=
 ⟨h.size,rfl,h.has,h.heap,h.sh,h.sub,h.new,h.pin,h.base,h.glob⟩
section
variable {X:Cx} {R:Nat->Prop} {W:World} {Bi:Bk} {n:Nat} {env:Nat->Loc} {B:Nat->Prop} {w0:World} {H:List Ck} {st:ASt} {a:Act} {w:World}
theorem AI.restart(h:AI X R W Bi n [] env B w0 H st a w) {p':Nat->Loc->Prop} (hp:∀ id l,p' id l->n<=id/\env id=l/\((∃ b,l=.blk b)\/zP<=id)):AI X (fun k=>R k\/B k) w0 ⟨B,p',Bi.d⟩ n [] env B w0 H st a w:=
 ⟨h.size,h.defs,h.has,h.heap,by
  have e:(fun k=>(R k\/B k)\/B k)=(fun k=>R k\/B k):=funext fun k=>propext ⟨fun h=>h.elim id .inr,.inl⟩
  show SH (fun k=>(R k\/B k)\/B k) w0 _ w;rw[e];exact h.sh,fun _ h=>h,fun k hk=>.inl hk,hp,KO.refl _ _,h.glob⟩
theorem AI.back{p':Nat->Loc->Prop} {D:List Deferred} {env2:Nat->Loc} {B2:Nat->Prop} {w2:World} {H2:List Ck} {st2:ASt} {a2:Act} {w':World} (h0:AI X R W Bi n [] env B w0 H st a w) (h:AI X (fun k=>R k\/B k) w0 ⟨B,p',D⟩ n [] env2 B2 w2 H2 st2 a2 w') (hp:∀ id l,Bi.p id l->p' id l):AI X R W ⟨Bi.b,Bi.p,D⟩ n [] env2 B2 w2 H2 st2 a2 w':=
 ⟨h.size,h.defs,h.has,h.heap,by
  have e:(fun k=>(R k\/B k)\/B2 k)=(fun k=>R k\/B2 k):=funext fun k=>propext ⟨fun h1=>h1.elim (fun h2=>h2.imp_right (h.sub k)) .inr,fun h1=>h1.imp_left .inl⟩
  have h3:=h.sh;rw[show(fun k=>(fun k=>R k\/B k) k\/B2 k)=(fun k=>R k\/B2 k)from e]at h3;exact h3,fun k hk=>h.sub k (h0.sub k hk),fun k hk=>(h.new k hk).elim (fun hB=>(h0.new k hB).imp_right fun⟨n1,n2⟩=>⟨n1,n2.keep (h.base.block k (.inr hB))⟩) (fun⟨n1,n2⟩=>.inr ⟨fun hr=>n1 (.inl hr),n2⟩),fun id l hh=>h.pin id l (hp id l hh),
  ⟨h.base.os.trans h0.base.os,h.base.tape.trans h0.base.tape,h.base.output.trans h0.base.output,Nat.le_trans h0.base.size h.base.size,fun k hk=>(h.base.block k (.inl hk)).trans (h0.base.block k hk)⟩,h.glob⟩
theorem AI.mv1{ks:List Nat} {i j:Nat} (hA:AI X R W Bi n ks env B w0 H st a w) (hj:∀ l,¬ Bi.p j l):∃ H',AI X R W Bi n ks (upd env j (env i)) B w0 H' ⟨reL (mvId i j) st.L,reH (mvId i j) st.H⟩ a w:=by
 obtain⟨H',h1,h2⟩:=HR.re (mvId_ok (i:=i) (j:=j)) hA.heap;refine⟨H',hA.size,hA.defs,fun s sv hs=>?_,h2,hA.sh.weak (h1.append_right _),hA.sub,hA.new,pin_upd hA.pin hj,hA.base,hA.glob⟩;obtain⟨u,h3,rfl⟩:=lk_reL hs;obtain⟨v,h4,h5⟩:=hA.has s u h3;exact⟨v,h4,VR.re mvId_ok h5⟩
theorem AI.mvl(hp:∀ id l,Bi.p id l->zU<=id):∀ {l:List (Nat×Nat)} {env:Nat->Loc} {H:List Ck} {st:ASt},mvOk l=true->AI X R W Bi n [] env B w0 H st a w->∃ env' H',AI X R W Bi n [] env' B w0 H' (mvs l st) a w
 | [],env,H,st,_,h=>⟨env,H,h⟩
 | p :: l,env,H,st,h,hA=>by
  unfold mvOk at h
  split at h
  ·rename_i h1
   obtain⟨H',h2⟩:=hA.mv1 (i:=p.1) (j:=p.2) (fun q hq=>by have g1:=hp _ _ hq; have g2:=zk h1; omega);have h3:=AI.mvl (l:=l) hp h h2;exact h3
  ·cases h
end
end

section
set_option linter.unusedSectionVars false
theorem run_invD {P : Program} {f : FuncId} {fn : Func} {vs : List Value} {w : World} (hfn : P.funcs[f]? = some fn) (hn : (fn.name == "runtime.NumGoroutine") = false) (hb : fn.body.isNone = false) : (invoke (.fn (.func f) vs.toArray) #[]).run P w = .ok (.enter f vs.toArray) w := by
 have hn' : fn.name ≠ "runtime.NumGoroutine" := by simpa using hn
 have hb':fn.body≠none:=by intro h; rw[h]at hb; cases hb
 simp[invoke,callFunc,program,Sem.run,hfn,hn',hb']
section
variable {X:Cx} {R:Nat->Prop} {W:World} {Bi:Bk} {n:Nat} {env:Nat->Loc} {B:Nat->Prop} {w0:World} {H:List Ck} {st:ASt} {a:Act} {w:World}
def dropS(d:Nat):Sl->Sl
 | []=>[]
 | (s,v) :: r=>match Nat.beq s d with
  | true=>dropS d r
  | false=>(s,v) :: dropS d r
theorem dropS_lk{d q:Nat} {v:SV}:∀ {L:Sl},lk (dropS d L) q=some v->q≠d/\lk L q=some v
 | [],h=>by cases h
 | (s,u) :: r,h=>by
  unfold dropS at h
  split at h
  ·rename_i e
   have e:=Nat.eq_of_beq_eq_true e;obtain⟨h1,h2⟩:=dropS_lk h;exact⟨h1,by rw[zu,if_neg (by rw[e]; exact h1)]; exact h2⟩
  ·rename_i e
   have e:=Nat.ne_of_beq_eq_false e;rw[zu]at h
   split at h
   ·rename_i e2
    subst e2;exact⟨e,by rw[zu,if_pos rfl]; exact h⟩
   ·rename_i e2
    obtain⟨h1,h2⟩:=dropS_lk h;exact⟨h1,by rw[zu,if_neg e2]; exact h2⟩
theorem AI.unput{d:Nat} {v:Value} {L:Sl} (hd:d < n) (hs:a.tmps.size=n) (h:AI X R W Bi n [] env B w0 H ⟨L,st.H⟩ (a.put (some d) v) w):AI X R W Bi n [] env B w0 H ⟨dropS d L,st.H⟩ a w:=by
 refine⟨hs,h.defs,fun q u hq=>?_,h.heap,h.sh,h.sub,h.new,h.pin,h.base,h.glob⟩;obtain⟨h1,h2⟩:=dropS_lk hq;obtain⟨x,h3,h4⟩:=h.has q u h2;refine⟨x,?_,h4⟩;rw[<- h3];show _=(a.tmps.setIfInBounds d v)[q]?;rw[Array.getElem?_setIfInBounds_ne (Ne.symm h1)]
def capsOk(js:List Nat):List Cap->Bool
 | []=>true
 | .fz _ _ :: r=>capsOk js r
 | .id i :: r=>js.elem i&&capsOk js r
theorem ptrs_pins{js:List Nat} {env2:Nat->Loc} {B2:Nat->Prop} {w2:World} (he:∀ j,js.elem j=true->env2 j=env j) (hu:Up B w0 B2 w2):∀ {ids:List Cap} {vs:List Value},capsOk js ids=true->ptrs env B w0 ids vs->ptrs env2 B2 w2 ids vs
 | [],_,_,h=>h
 | .fz _ _ :: ids,_,hc,⟨v,r,e,h1,h⟩=>by
  have h2:ptrs env B w0 [.fz _ _] [v]:=⟨v,[],rfl,h1,rfl⟩
  obtain⟨v',r',e',h3,_⟩:=h2.up hu;cases e';exact⟨v,r,e,h3,ptrs_pins he hu hc h⟩
 | .id i :: ids,_,hc,⟨v,r,e,⟨b,h1,h2⟩,h⟩=>by
  unfold capsOk at hc;rw[Bool.and_eq_true]at hc;exact⟨v,r,e,⟨b,(he i hc.1).trans h1,h2⟩,ptrs_pins he hu hc.2 h⟩
noncomputable def finE (X:Cx) (n:Nat) (cd:CD X) (ps:Ps) (dm:Nat) (res:List ResultVar) (R:Rs) (f:FuncId) (ids:List Cap) (st:ASt):Option R.ty:=
 match Nat.beq cd.c.f f,Nat.blt dm n,prep X n cd.c ps st.H (ptrAs ids)with
 | true,true,some p=>(cd.c.m p.d).bind fun q=>match after X cd.c ps st dm p q with
  | some st2=>match ares X ⟨dropS dm st2.L,st2.H⟩ res with
   | some (c,sv)=>gd c (R.get st2.H [] st2.H sv)
   | none=>none
  | none=>none
 | _,_,_=>none
def EndR(X:Cx) (R:Nat->Prop) (W:World) (Bi:Bk) (n:Nat) (Rs:Rs) (r:Rs.ty) (v:Value) (w:World):Prop:=
 ∃ env B w0 H st a H0 sv hs,AI X R W ⟨Bi.b,Bi.p,[]⟩ n [] env B w0 H st a w/\VR env B w0 sv v/\VI sv (Rs.out H0 r).1/\SubH st.H hs/\(qz Rs.k H0=[]->True)/\∀ env B w H,HR env B w hs H->HR env B w (Rs.out H0 r).2 H
theorem finE_ok(hX:X.tt.ok X.P) {cd:CD X} {ps:Ps} {dm:Nat} {res:List ResultVar} {Rr:Rs} {f:FuncId} {ids:List Cap} {r:Rr.ty} {fn:Func} {vs:List Value} (hr:fn.results=res.toArray) (h:finE X n cd ps dm res Rr f ids st=some r)
  (hA:AI X R W ⟨Bi.b,Bi.p,[⟨.fn (.func f) vs.toArray,#[]⟩]⟩ n [] env B w0 H st a w) (hp:ptrs env B w0 ids vs):LeavesIn Fence.wide 0 X.P fn a.tmps (fun e w'=>∃ v,e=.returned v/\EndR X R W Bi n Rr r v w') [⟨.fn (.func f) vs.toArray,#[]⟩] .returning w:=by
 unfold finE at h
 split at h
 ·rename_i p hf hd hpr
  have hf:=Nat.eq_of_beq_eq_true hf;subst hf;obtain⟨q,hq,h⟩:=bd h
  split at h
  ·rename_i st2 haft
   split at h
   ·rename_i c sv hres
    obtain⟨hc,hget⟩:=zI h;have hA1:=hA.dfrs [];unfold prep at hpr
    split at hpr
    ·rename_i args1 h1 H1 hps hren hpass
     split at hpr
     ·rename_i u hu
      split at hpr
      ·rename_i dd hdd
       cases hpr;have hps':=hps;simp only[okPs,Bool.and_eq_true]at hps';obtain⟨⟨hn1,hn2⟩,hn3⟩:=hps';have n1:=nodupB_ok hn1;have n2:=nodupB_ok hn2;obtain⟨hu2,hu3⟩:=hpGet_ok hu;obtain⟨ha2,ha3⟩:=asGet_ok hdd;have he:∀ i j,lk ps i=some j->(fun i=>match lk ps i with | some j=>env j | none=>Loc.no) i=env j:=fun i j hij=>by simp only[hij]
       obtain⟨C1,C2,e3,e4,e5⟩:=passG_ok n1 n2 he hpass hA1.heap;have hs:SH B w0 C1 w:=by
        have h6:=(hA1.sh.perm (e3.append_right (([]:List Nat).map qW))).weak (H':=C1) (by rw[List.append_assoc]; exact List.sublist_append_left _ _);exact⟨⟨h6.below.os,h6.below.tape,h6.below.output,h6.below.size,fun k hk=>h6.below.block k (.inr hk)⟩,fun k hk=>h6.base k (.inr hk),fun c hc=>(h6.ok c hc).base fun b hb hk=>((h6.ok c hc).lt hb).1 (.inr hk),h6.apart⟩
       have hC:HR (fun i=>match lk ps i with | some j=>env j | none=>Loc.no) B w0 (hpS cd.c.HA (asS cd.c.A dd).2).1 C1:=by rw[ha2]; exact hu3 _ _ _ _ e4
       have h2:=(SasR.ren (env:=env) (env':=fun i=>match lk ps i with | some j=>env j | none=>Loc.no) (fun j i hji=>he i j ((lk_swap n1 n2).1 hji)) hren).1 (ptrs_sas hp);have hcall:=cd.okd dd q hq B w0 _ vs C1 w (fun i x hx=>hA1.glob i x hx) (ha3 _ _ _ _ h2) hC hs .returning;refine leavesIn_cons (f:=cd.c.f) (args:=vs.toArray) (by intro h; cases h) (by intro h; cases h) ?_ (fun _ _=>trivial) (CallsDIn.mono hcall ?_)
       ·exact run_invD cd.c.hf cd.c.hn cd.c.hb
       ·rintro e u' w' ⟨rfl,v,rfl,hpost⟩
        show LeavesIn _ _ _ _ _ _ [] (settle _) w';have hS:=hA1.stt.put dm v (zk hd);obtain⟨sv2,h',⟨rfl,rfl⟩,hnx⟩:=hA1.called hps e3 hC e5 hpost hS;unfold after at haft
        split at haft
        ·rename_i sv' h'' f1 f2
         obtain⟨env',B',w0',H',hA2,k1,k2,k3⟩:=hnx sv' h'' f1 f2;have hA3:AI X R W ⟨Bi.b,Bi.p,[]⟩ n [] env' B' w0' H' st2 (({ tmps:=a.tmps,defers:=[] }:Act).put (some dm) v) w':=by
          split at haft
          ·cases haft
           have h8:H1=st.H:=by
            cases h9:cd.c.HA with
            | nil=>rw[h9]at hpass; cases hpass; rfl
            | cons q _=>rw[h9]at hpass; cases hpass
           have hA2:AI X R W _ n [] env' B' w0' H' ⟨(dm,sv') :: killL [] st.L,h''++qc [] [] H1⟩ _ w':=hA2;rw[killL_nil,frameH_nil,h8]at hA2;exact hA2
          ·cases haft
           exact hA2
         have hA4:=AI.unput (st:=st2) (L:=st2.L) (a:=({ tmps:=a.tmps,defers:=[] }:Act)) (zk hd) hA.size hA3;obtain⟨v2,h3,h4⟩:=ares_ok hX hA4 hr hres hc;obtain⟨hs,q1,q2,q3⟩:=Rs.get_ok (KS.refl _) hget;exact⟨v2,h4 _ hA4.sh,v2,rfl,env',B',w0',H',_,_,_,sv,hs,hA4,h3,q1,q2,fun _=>trivial,q3⟩
        ·cases haft
      ·cases hpr
     ·cases hpr
    ·cases hpr
   ·cases h
  ·cases h
 ·cases h
end
def defOp:Oper->Option Nat
 | ⟨none,.defer ⟨.value (.tmp s),⟨[]⟩,_⟩,_,_,_,none⟩=>some s
 | _=>none
def defOf:List Oper->Option (List Oper×Nat)
 | []=>none
 | o :: l=>match l with
  | []=>match defOp o with
   | some s=>some ([],s)
   | none=>none
  | _=>match defOf l with
   | some (l',s)=>some (o :: l',s)
   | none=>none
theorem defOp_ok{o:Oper} {s:Nat} (h:defOp o=some s):(∃ ts,o.op=.defer ⟨.value (.tmp s),#[],ts⟩)/\o.guard=none/\o.dst=none:=by
 unfold defOp at h
 split at h
 ·cases h; exact⟨⟨_,rfl⟩,rfl,rfl⟩
 ·cases h
theorem defOf_ok{s:Nat}:∀ {l pre:List Oper},defOf l=some (pre,s)->∃ o,l=pre++[o]/\defOp o=some s
 | [],_,h=>by cases h
 | o :: l,pre,h=>by
  unfold defOf at h
  split at h
  ·split at h
   ·rename_i e; cases h; exact⟨o,rfl,e⟩
   ·cases h
  ·split at h
   ·rename_i e
    cases h;obtain⟨o',h1,h2⟩:=defOf_ok e;exact⟨o',by rw[h1]; rfl,h2⟩
   ·cases h
def pinOk(n:Nat) (H:Hp):List (Nat×Nat)->Bool
 | []=>true
 | p :: r=>match Nat.ble n p.2,lk H p.2 with
  | true,some (.cells _ _)=>pinOk n H r
  | _,_=>false
theorem pinOk_ok{n:Nat} {env:Nat->Loc} {B:Nat->Prop} {w:World} {st:Hp} {H:List Ck} (hh:HR env B w st H):∀ {l:List (Nat×Nat)},pinOk n st l=true->∀ j,(l.map (·.2)).elem j=true->n<=j/\∃ b,env j=.blk b
 | [],_,j,hj=>by cases hj
 | p :: r,h,j,hj=>by
  unfold pinOk at h
  split at h
  ·rename_i t cs h1 h2
   have hj2:j=p.2\/(r.map (·.2)).elem j=true:=by
    rw[List.map_cons,List.elem_eq_mem,decide_eq_true_eq,List.mem_cons]at hj;rw[List.elem_eq_mem,decide_eq_true_eq];exact hj
   rcases hj2 with hj | hj
   ·subst hj
    obtain⟨c,K,⟨b,vs,h3,_⟩,_⟩:=hh.foc h2;exact⟨Nat.le_of_ble_eq_true h1,b,h3⟩
   ·exact pinOk_ok hh h j hj
  ·cases h
noncomputable def finP (X:Cx) (res:List ResultVar) (R:Rs) (st:ASt):Option R.ty:=match ares X st res with
 | some (c,sv)=>gd c (R.get st.H [] st.H sv)
 | none=>none
noncomputable def evDf (X:Cx) (N n:Nat) (T:List (CT X)) (TI:List (IT X)) (cd:CD X) (ms:List (Nat×Nat)) (ps:Ps) (dm:Nat) (res:List ResultVar) (R:Rs):Nat->Code->Sc->ASt->Option R.ty
 | 0,.seq (.region _ ops false) b,sc,st=>match defOf ops.toList with
  | some (pre,s)=>fSt st fun st=>evL X n T none (zm ops.toList) sc.fst.ins pre [] [] [] st fun _ st1=>fSt (mvs ms st1) fun st2=>match lk st2.L s,mvOk ms,pinOk n st2.H ms with
   | some (.a (.c (.fn f ids))),true,true=>match capsOk (ms.map (·.2)) ids with
    | true=>evc X N n T TI false b none sc.snd st2 fun e _ s=>match e with
     | .ret=>finE X n cd ps dm res R f ids s
     | .normal=>finE X n cd ps dm res R f ids s
     | _=>none
    | false=>none
   | _,_,_=>none
  | none=>none
 | k+1,.seq a b,sc,st=>evc X N n T TI false a none sc.fst st fun e _ s=>match e with
  | .normal=>evDf X N n T TI cd ms ps dm res R k b sc.snd s
  | .ret=>finP X res R s
  | _=>none
 | _,_,_,_=>none
section
variable {X:Cx} {N n:Nat} {T:List (CT X)} {TI:List (IT X)} {cd:CD X} {ms:List (Nat×Nat)} {ps:Ps} {dm:Nat} {res:List ResultVar} {Rr:Rs} {fn:Func}
theorem evDf_ok(hX:X.tt.ok X.P) (hm:X.P.follows .mixedOrders=true) (hr:fn.results=res.toArray):∀ (k:Nat) (c:Code) (sc:Sc) (st:ASt) (r:Rr.ty),evDf X N n T TI cd ms ps dm res Rr k c sc st=some r ->
  ∀ (R:Nat->Prop) (W:World) (b:Nat->Prop) (p:Nat->Loc->Prop) (env:Nat->Loc) (B:Nat->Prop) (w0:World) (H:List Ck) (a:Act) (w:World),(∀ id l,p id l->zU<=id)->AI X R W ⟨b,p,[]⟩ n [] env B w0 H st a w ->
  XC none X.P c (bodyPostDIn Fence.wide 0 X.P fn (fun e w'=>∃ v,e=.returned v/\EndR X R W ⟨b,p,[]⟩ n Rr r v w')) a w
 | k+1,.seq c1 c2,sc,st,r,h=>fun R W b p env B w0 H a w hp hA=>by
  unfold evDf at h;have hg:=evc_ok hX hm c1 false false none (fun h=>by cases h) _ (Cn.ar R W ⟨b,p,[]⟩ r) none YG.none _ _ _ _ h;refine wpIn_seq (wpIn_mono (hg a w ⟨rfl,[],env,B,w0,H,⟨fun _=>rfl,fun h=>by cases h⟩,hA⟩) ?_);rintro e a w ⟨s,r',⟨V,s',hw,hks,hs⟩,rfl,h2⟩;obtain⟨ks,env',B',w0',H',hM,hA'⟩:=hw _ _ _ _ _ h2;have hks:=hM.1 rfl;subst hks;cases e with
  | normal=>exact evDf_ok hX hm hr k c2 _ _ _ hs _ _ _ _ _ _ _ _ _ _ hp hA'
  | ret=>
   show LeavesIn _ _ _ _ _ _ a.defers _ _;rw[show a.defers=[] from hA'.defs];replace hs:finP X res Rr s'=some _:=hs;unfold finP at hs
   split at hs
   ·rename_i c sv hres
    obtain⟨hc,hget⟩:=zI hs;obtain⟨v2,h3,h4⟩:=ares_ok hX hA' hr hres hc;obtain⟨hs,q1,q2,q3⟩:=Rs.get_ok (KS.refl _) hget;exact⟨v2,h4 _ hA'.sh,v2,rfl,env',B',w0',H',_,_,_,sv,hs,hA',h3,q1,q2,fun _=>trivial,q3⟩
   ·cases hs
  | _=>cases hs
 | 0,.seq (.region id ops false) c2,sc,st,r,h=>fun R W b p env B w0 H a w hp hA=>by
  unfold evDf at h
  split at h
  ·rename_i pre s hdef
   obtain⟨od,hl,hod⟩:=defOf_ok hdef;obtain⟨⟨ts,hop⟩,hog,hodst⟩:=defOp_ok hod;rw[fSt_eq]at h;refine wpIn_seq ?_
   generalize hPost:(bodyPostDIn Fence.wide 0 X.P fn (fun e w'=>∃ v,e=.returned v/\EndR X R W ⟨b,p,[]⟩ n Rr r v w'))=Post
   have hZ:ZOk X n ops.toList (fun l r' s0=>∀ a w,(Cn.ar (X:=X) (M:=false) (n:=n) (rr:=none) R W ⟨b,p,[]⟩ r).In r' s0 a w->XL none X.P ops.toList.toArray (Exit.then (fun a w=>XC none X.P c2 Post a w) Post) (l++[od]) a w):=⟨fun hs hr a w hi=>xl_cons (Cn.step (Cn.ar R W ⟨b,p,[]⟩ r) hs hi fun a w h=>hr a w h),fun hw hr a w hi=>hr a w (Cn.weak (Cn.ar R W ⟨b,p,[]⟩ r) hw.m hi)⟩
   have hfin:=xg (st0:=st) (T:=T) (is:=sc.fst.ins) (V:=[]) (A:=[]) hX hZ (fun _ h=>by cases h) GInv.nil (KS.refl (V:=[]) st) h (fun V s1 r' hks hs a w hi=>?_) a w ⟨rfl,[],env,B,w0,H,⟨fun _=>rfl,fun h=>by cases h⟩,hA⟩
   ·rw[<- hl]at hfin
    exact c_region (id:=id) hfin
   ·obtain⟨hrr,ks,env1,B1,w1,H1,hM,hA1⟩:=hi
    rw[hrr]at hs;have hks:=hM.1 rfl;subst hks;rw[fSt_eq]at hs
    split at hs
    ·rename_i f ids hlk hmv hpin
     split at hs
     ·rename_i hcaps
      obtain⟨env2,H2,hA2⟩:=hA1.mvl hp hmv;obtain⟨fv,hf1,lb,rfl,hf2⟩:=hA2.has _ _ hlk;have hpins:=pinOk_ok hA2.heap hpin;have hrun:(execOp a.eval od).run X.P w=.ok (.defer ⟨.fn (.func f) lb.toArray,#[]⟩) w:=by
       have e1:=hA2.stt.ev (x:=.tmp s) (zt hf1);simp only[execOp,hop,resolve,e1]
       simp[Deferred.ofValue,go_sem]
      obtain⟨p',hp'⟩:∃ p':Nat->Loc->Prop,p'=fun id l=>p id l\/((ms.map (·.2)).elem id=true/\env2 id=l):=⟨_,rfl⟩
      have hA3:=(hA2.restart (p':=p') (fun id l hq=>(show p id l\/((ms.map (·.2)).elem id=true/\env2 id=l) by rw[hp']at hq; exact hq).elim (fun h=>hA2.pin id l h) fun⟨h1,h2⟩=>by
       obtain⟨g1,b',g2⟩:=hpins id h1;exact⟨g1,h2,.inl ⟨b',h2 ▸ g2⟩⟩)).dfrs [⟨.fn (.func f) lb.toArray,#[]⟩]
      have hw:Region.wanted od (yielded ops.toList.toArray a.tmps)=true:=by simp[Region.wanted,hog]
      show(if Region.wanted od (yielded ops.toList.toArray a.tmps)then _ else _);rw[if_pos hw];refine⟨fun _ _=>trivial,?_⟩;show Oper.uponIn _ _ _ _ _ _ _ ((od.semAt none a.eval).run X.P w);rw[Oper.semAt_none,hrun,Oper.uponIn_defer,hodst];have hdef0:a.defers=[]:=hA2.defs;have hg:=evc_ok hX hm c2 false false none (fun h=>by cases h) _ (Cn.ar (fun k=>R k\/B1 k) w1 ⟨B1,p',[⟨.fn (.func f) lb.toArray,#[]⟩]⟩ r) none YG.none _ _ _ _ hs;show XC none X.P c2 Post { tmps:=a.tmps,defers:=⟨.fn (.func f) lb.toArray,#[]⟩ :: a.defers } w;rw[hdef0];refine wpIn_mono (hg _ w ⟨rfl,[],env2,B1,w1,H2,⟨fun _=>rfl,fun h=>by cases h⟩,hA3⟩) ?_;rintro e a2 w2 ⟨s2,r',⟨V,s3,hw,hks,hs⟩,hr2,h2⟩;rw[hr2]at hs;obtain⟨ks,env3,B3,w3,H3,hM,hA4⟩:=hw _ _ _ _ _ h2;have hks:=hM.1 rfl;subst hks;have hA5:=hA2.back hA4 (fun _ _ h=>by rw[hp']; exact .inl h);have hptr:=ptrs_pins (env2:=env3) (B2:=B3) (w2:=w3) (fun j hj=>(hA4.pin j (env2 j) (by show p' j (env2 j); rw[hp']; exact .inr ⟨hj,rfl⟩)).2.1) ⟨hA4.sub,fun k hk=>hA4.base.block k (.inr hk)⟩ hcaps hf2;have key:finE X n cd ps dm res Rr f ids s3=some r->LeavesIn Fence.wide 0 X.P fn a2.tmps (fun e w'=>∃ v,e=.returned v/\EndR X R W ⟨b,p,[]⟩ n Rr r v w') a2.defers .returning w2:=fun hs=>by
       rw[show a2.defers=_ from hA5.defs];exact finE_ok hX hr hs hA5 hptr
      subst hPost;cases e with
      | normal=>exact key hs
      | ret=>exact key hs
      | _=>cases hs
     ·cases hs
    ·cases hs
  ·cases h
theorem evDf_ac(hX:X.tt.ok X.P) (hm:X.P.follows .mixedOrders=true) {f:FuncId} {c:Code} {args:List SA} {hp:Hp} (hk:Rr.k=[]) {k:Nat} {sc:Sc} (hf:X.P.funcs[f]?=some fn) (hb:fn.body=some c) (hN:fn.ntmps=n) (hl:Nat.ble args.length n=true) (hn:Nat.ble n zU=true) (hr:fn.results=res.toArray)
  {r:Rr.ty} (h:evDf X N n T TI cd ms ps dm res Rr k c sc ⟨argL 0 args,hp⟩=some r):AC X f args hp (fun sv h=>sv=(Rr.out [] r).1/\h=(Rr.out [] r).2):=by
 intro B w0 env vs H W hg ha hh hs;have hA:=ai_start (fn:=fn) hN hl hn hg ha hh hs;have hC:=(callsIn_wide (n:=0)).1 (callsIn_of_wp_defers hf hb trivial (evDf_ok hX hm hr k c sc _ r h _ _ _ _ _ _ _ _ _ _ (fun id l hq=>hq.1.elim (fun h=>h.1) fun h=>Nat.le_trans (by decide) h) hA));refine Calls.mono hC ?_;rintro e w' ⟨v,he,env',B',w0',H',st,a,H0,sv,hs,hA,hv,hvi,hsub,_,hh⟩;have hsh:=hA.sh;have hpost:ACpost X env B H W (fun sv' h'=>sv'=sv/\h'=st.H) v w':=⟨env',B',w0',H',sv,st.H,⟨rfl,rfl⟩,hA.sub,hA.new,hA.base,hv,hA.heap,by simpa using hsh,fun id l h5 h6=>(hA.pin id l ⟨h5,h6⟩).2.1⟩
 have e0:Rr.out H0 r=Rr.out [] r:=by
  unfold Rs.out;rw[hk]
  rfl
 rw[e0]at hvi hh;exact⟨v,he,hpost.mono fun sv' h' ⟨e1,e2⟩=>⟨_,_,hs,by rw[e1]; exact hvi,by rw[e2]; exact hsub,hh,rfl,rfl⟩⟩
def ctD (N : Nat) (hX : X.tt.ok X.P) (hm : X.P.follows .mixedOrders = true) {fn : Func} {c : Code} (A : List AS) (HA : List (Nat × BS)) (R : Rs) (hk : R.k = []) (T : List (CT X)) (TI : List (IT X)) (cd : CD X) (ms : List (Nat × Nat)) (ps : Ps) (dm k : Nat) (sc : Sc) (res : List ResultVar) (f : FuncId) (df : R.ty) (m : argT A HA → Option R.ty) (hf : X.P.funcs[f]? = some fn) (hg : (fn.name == "runtime.NumGoroutine") = false) (hb : fn.body = some c) (hN : fn.ntmps = n) (hl : Nat.ble A.length n = true) (hn : Nat.ble n zU = true) (hr : fn.results = res.toArray)
  (h:∀ d,evDf X N n T TI cd ms ps dm res R k c sc ⟨argL 0 (inS A HA d).1,(inS A HA d).2⟩=m d):CT X:=
 { f:=f,fn:=fn,A:=A,HA:=HA,ρ:=R.ty,df:=df,m:=m,out:=fun _ r=>R.out [] r,hf:=hf,hn:=hg,hb:=by rw[hb]; rfl,ok:=fun d r he=>evDf_ac hX hm hk hf hb hN (by show Nat.ble (asS A d).1.length n=true; rw[asS_length]; exact hl) hn hr ((h d).trans he) }
def ctD2 (N : Nat) (hX : X.tt.ok X.P) (hm : X.P.follows .mixedOrders = true) {fn : Func} {c : Code} (A : List AS) (HA : List (Nat × BS)) (R : Rs) (hk : R.k = []) (T : List (CT X)) (TI : List (IT X)) (cd : CD X) (ms : List (Nat × Nat)) (ps : Ps) (dm k : Nat) (sc : Sc) (res : List ResultVar) (f : FuncId) (df : R.ty) (m m' : argT A HA → Option R.ty) (heq : ∀ d, m d = m' d) (hf : X.P.funcs[f]? = some fn) (hg : (fn.name == "runtime.NumGoroutine") = false) (hb : fn.body = some c) (hN : fn.ntmps = n) (hl : Nat.ble A.length n = true) (hn : Nat.ble n zU = true) (hr : fn.results = res.toArray)
  (h:∀ d,evDf X N n T TI cd ms ps dm res R k c sc ⟨argL 0 (inS A HA d).1,(inS A HA d).2⟩=m d):CT X:=
 { f:=f,fn:=fn,A:=A,HA:=HA,ρ:=R.ty,df:=df,m:=m',out:=fun _ r=>R.out [] r,hf:=hf,hn:=hg,hb:=by rw[hb]; rfl,ok:=fun d r he=>evDf_ac hX hm hk hf hb hN (by show Nat.ble (asS A d).1.length n=true; rw[asS_length]; exact hl) hn hr ((h d).trans ((heq d).trans he)) }
end
end

section
set_option linter.unusedSimpArgs false
set_option linter.unusedVariables false
open Go.RowKit
def m_mbind1(N:Nat) (a0:qx) (a1:Int) (a2:(List (List zj))) (a3:(List zQ)) (a4:(List zb)) (a5:(List zb)) (a6:Int) (a7:Int):Option ((List (List zj))×(List zQ)×(List zb)×(List zb)):=
  cond (decide (a1=(0:Int))) (Option.bind (m_mfallen N a0.2.2.1.2.2.2 (a6,a7)) fun r1=>
  some (a2,a3,([]:List zb),r1)) (some (a2,a3,a4,a5))
noncomputable def cd_mbind1 (N:Nat):CD cx:=cdE N za (by kernel_rfl) [.c (.raw (.ptr 1000000 0)),.c (.raw (.ptr 1000001 0)),.c (.pel kd15 0),.c (.raw (.ptr 1000002 0))] [(1000000,.cells 31 [.int .i64]),(1000001,.cells 41 [.lst (.sl zh),.lst zK,.lst zo,.lst zo]),(1000002,.cells 30 [.int .u8,.int .i64])] ⟨.tup [],[(1000001,.cells 41 [.lst (.sl zh),.lst zK,.lst zo,.lst zo])],[1000000,1000002]⟩ [ct_mfallen N] [] (.d) [] 50 ([],[],[],[]) (fun d=>m_mbind1 N d.1 d.2.1 d.2.2.1 d.2.2.2.1 d.2.2.2.2.1 d.2.2.2.2.2.1 d.2.2.2.2.2.2.1 d.2.2.2.2.2.2.2.1) Tryz.func50 rfl rfl Tryz.ntmps50 rfl rfl rfl (fun d=>by kernel_rfl) (fun d=>by kernel_rfl)
noncomputable def ct_mbind1 (N:Nat):CT cx:=(cd_mbind1 N).c
def m_mbind_L6(N:Nat) (a0:qx) (a1:Int):Nat->(qx×Int×Bool×Int×Int×Bool×(List qa)×(List (Bool×List zj))×(List zQ)×(List zb)×Int×Int)->Option ((qx×(List (Bool×List zj))×(List zQ)×(List zb)×Int×Int)⊕(Kt13×Int)):=zc fun d6 rec6=>
  cond (decide (d6.2.1 < (a0.1.length:Int))) (gd ((ze d6.2.1 a0.1.length)&&(true)) <|
  gd ((zq ((1:Int)+((a0.1.getD d6.2.1.toNat zL.zero).2.length:Int)))&&(((decide ((0:Int)<=((1:Int)+((a0.1.getD d6.2.1.toNat zL.zero).2.length:Int))))&&(zH 16 ((1:Int)+((a0.1.getD d6.2.1.toNat zL.zero).2.length:Int))))&&(true))) <|
  Option.bind (cond (decide ((0:Int) < d6.2.1)) (gd ((zV 16 (([]:List zb).length+[(d6.2.2.2.2.2.2.2.2.2.2.1,d6.2.2.2.2.2.2.2.2.2.2.2)].length))&&(true)) <|
  some ([((d6.2.2.2.2.2.2.2.2.2.2.1,d6.2.2.2.2.2.2.2.2.2.2.2),(true,(0:Int)))],d6.1,(([]:List zb)++[(d6.2.2.2.2.2.2.2.2.2.2.1,d6.2.2.2.2.2.2.2.2.2.2.2)]),d6.2.2.2.2.2.2.2.2.1,d6.2.2.2.2.2.2.2.2.2.1)) (some (([]:List qa),d6.1,([]:List zb),d6.2.2.2.2.2.2.2.2.1,d6.2.2.2.2.2.2.2.2.2.1))) fun o7=>
  gd ((zV 16 (o7.2.2.1.length+(a0.1.getD d6.2.1.toNat zL.zero).2.length))&&(true)) <|
  Option.bind (m_ygo N (d6.2.2.1,(d6.2.2.2.1,(d6.2.2.2.2.1,(d6.2.2.2.2.2.1,d6.2.2.2.2.2.2.1)))) d6.2.2.2.1 o7.1) fun r8=>
  cond (!(decide (r8.2=(0:Int)))) (Option.bind (Option.bind (m_mbind1 N a0 r8.2 ([]:List (List zj)) ([]:List zQ) ([]:List zb) ([]:List zb) d6.2.2.2.2.2.2.2.2.2.2.1 d6.2.2.2.2.2.2.2.2.2.2.2) fun r9=>
  some (r9,r8.2)) fun q=>some (.inr q)) (Option.bind (m_ymake N r8.1) fun r10=>
  cond (!(decide (r10.2.2=(0:Int)))) (Option.bind (Option.bind (m_mbind1 N a0 r10.2.2 ([]:List (List zj)) ([]:List zQ) ([]:List zb) ([]:List zb) d6.2.2.2.2.2.2.2.2.2.2.1 d6.2.2.2.2.2.2.2.2.2.2.2) fun r11=>
  some (r11,r10.2.2)) fun q=>some (.inr q)) (gd (true) <|
  Option.bind (m_clipI N (o7.2.2.1++(a0.1.getD d6.2.1.toNat zL.zero).2)) fun r13=>
  Option.bind (qQ N r10.2.1.2.2) fun r14=>
  gd (((decide ((IntKind.wrap .u8 (a1 - (1:Int))).toNat < d6.2.2.2.2.2.2.2.1.length))&&(d6.2.2.2.2.2.2.2.1.getD (IntKind.wrap .u8 (a1 - (1:Int))).toNat (false,[])).1)) <|
  gd ((ze (IntKind.wrap .u8 (a1 - (1:Int))) d6.2.2.2.2.2.2.2.1.length)&&(true)) <|
  gd ((decide ((IntKind.wrap .u8 (a1 - (1:Int))).toNat=(IntKind.wrap .u8 (a1 - (1:Int))).toNat))&&((zV 56 ((d6.2.2.2.2.2.2.2.1.getD (IntKind.wrap .u8 (a1 - (1:Int))).toNat (false,[])).2.length+[((0:Int),(r10.2.1.2.1,(r13.1,r14.1)))].length))&&((ze (IntKind.wrap .u8 (a1 - (1:Int))) d6.2.2.2.2.2.2.2.1.length)&&(((decide ((IntKind.wrap .u8 (a1 - (1:Int))).toNat=(IntKind.wrap .u8 (a1 - (1:Int))).toNat))&&(decide ((IntKind.wrap .u8 (a1 - (1:Int))).toNat < d6.2.2.2.2.2.2.2.1.length)))&&(true))))) <|
  gd ((zq (d6.2.1+(1:Int)))&&(true)) <|
  rec6 (o7.2.1,(d6.2.1+(1:Int)),r10.1.1,r10.1.2.1,r10.1.2.2.1,r10.1.2.2.2.1,r10.1.2.2.2.2,(d6.2.2.2.2.2.2.2.1.set (IntKind.wrap .u8 (a1 - (1:Int))).toNat (true,((d6.2.2.2.2.2.2.2.1.getD (IntKind.wrap .u8 (a1 - (1:Int))).toNat (false,[])).2++[((0:Int),(r10.2.1.2.1,(r13.1,r14.1)))]))),o7.2.2.2.1,o7.2.2.2.2,a1,r10.2.1.1)))) (some (.inl (d6.1,d6.2.2.2.2.2.2.2.1,d6.2.2.2.2.2.2.2.2.1,d6.2.2.2.2.2.2.2.2.2.1,d6.2.2.2.2.2.2.2.2.2.2.1,d6.2.2.2.2.2.2.2.2.2.2.2)))
def m_mbind(N:Nat) (a0:qx) (a1:Int):Option (Kt13×Int):=
  Option.bind (m_rcheck N a0) fun r1=>
  cond (!(decide (r1=(0:Int)))) (some ((([]:List (List zj)),(([]:List zQ),(([]:List zb),([]:List zb)))),r1)) (cond (cond (decide (a1 < (1:Int))) true (decide ((6:Int) < a1))) (some ((([]:List (List zj)),(([]:List zQ),(([]:List zb),([]:List zb)))),(1:Int))) (gd ((ze (IntKind.wrap .u8 (a1 - (1:Int))) a0.2.1.length)&&(true)) <|
  cond (cond (!(a0.2.1.getD (IntKind.wrap .u8 (a1 - (1:Int))).toNat zr.zero).1) true (!(decide ((a0.2.1.getD (IntKind.wrap .u8 (a1 - (1:Int))).toNat zr.zero).2.1=(-13:Int))))) (some ((([]:List (List zj)),(([]:List zQ),(([]:List zb),([]:List zb)))),(12:Int))) (Option.bind (m_lcount N a0.2.2.1.1) fun r2=>
  gd ((zq (r2+(a0.1.length:Int)))&&(true)) <|
  cond (decide ((2048:Int) < (r2+(a0.1.length:Int)))) (some ((([]:List (List zj)),(([]:List zQ),(([]:List zb),([]:List zb)))),(3:Int))) (Option.bind (m_mcopiedI N a0.2.2.1.2.2.1) fun r3=>
  Option.bind (m_mcopiedX N a0.2.2.1.2.1) fun r4=>
  Option.bind (m_mcopyT N a0.2.2.1.1 a1 (a0.1.length:Int)) fun r5=>
  Option.bind (m_mbind_L6 N a0 a1 N (a0,(0:Int),(a0.2.1.getD (IntKind.wrap .u8 (a1 - (1:Int))).toNat zr.zero).1,(a0.2.1.getD (IntKind.wrap .u8 (a1 - (1:Int))).toNat zr.zero).2.1,(a0.2.1.getD (IntKind.wrap .u8 (a1 - (1:Int))).toNat zr.zero).2.2.1,(a0.2.1.getD (IntKind.wrap .u8 (a1 - (1:Int))).toNat zr.zero).2.2.2.1,(a0.2.1.getD (IntKind.wrap .u8 (a1 - (1:Int))).toNat zr.zero).2.2.2.2,r5,r4.1,r3.1,(0:Int),(0:Int))) fun(o6:(qx×(List (Bool×List zj))×(List zQ)×(List zb)×Int×Int)⊕(Kt13×Int))=>
  sm o6 (fun o6=>
  Option.bind (m_mbind1 N a0 (0:Int) (o6.2.1.map (·.2)) o6.2.2.1 o6.2.2.2.1 ([]:List zb) o6.2.2.2.2.1 o6.2.2.2.2.2) fun r15=>
  some (r15,(0:Int))) (fun q=>some q)))))
noncomputable def b_mbind_L6 (N:Nat) (a0:qx) (a1:Int):Nat->(qx×Int×Bool×Int×Int×Bool×(List qa)×(List (Bool×List zj))×(List zQ)×(List zb)×Int×Int)->Option ((qx×(List (Bool×List zj))×(List zQ)×(List zb)×Int×Int)⊕(Kt13×Int)):=zc fun d6 rec6=>
  cond (decide (d6.2.1 < (a0.1.length:Int))) (gd ((ze d6.2.1 a0.1.length)&&(true)) <|
  gd ((zq ((1:Int)+((a0.1.getD d6.2.1.toNat zL.zero).2.length:Int)))&&(((decide ((0:Int)<=((1:Int)+((a0.1.getD d6.2.1.toNat zL.zero).2.length:Int))))&&(zH 16 ((1:Int)+((a0.1.getD d6.2.1.toNat zL.zero).2.length:Int))))&&(true))) <|
  Option.bind (cond (decide ((0:Int) < d6.2.1)) (gd ((zV 16 (([]:List zb).length+[(d6.2.2.2.2.2.2.2.2.2.2.1,d6.2.2.2.2.2.2.2.2.2.2.2)].length))&&(true)) <|
  some ([((d6.2.2.2.2.2.2.2.2.2.2.1,d6.2.2.2.2.2.2.2.2.2.2.2),(true,(0:Int)))],d6.1,(([]:List zb)++[(d6.2.2.2.2.2.2.2.2.2.2.1,d6.2.2.2.2.2.2.2.2.2.2.2)]),d6.2.2.2.2.2.2.2.2.1,d6.2.2.2.2.2.2.2.2.2.1)) (some (([]:List qa),d6.1,([]:List zb),d6.2.2.2.2.2.2.2.2.1,d6.2.2.2.2.2.2.2.2.2.1))) fun o7=>
  gd ((zV 16 (o7.2.2.1.length+(a0.1.getD d6.2.1.toNat zL.zero).2.length))&&(true)) <|
  Option.bind (m_ygo N (d6.2.2.1,(d6.2.2.2.1,(d6.2.2.2.2.1,(d6.2.2.2.2.2.1,d6.2.2.2.2.2.2.1)))) d6.2.2.2.1 o7.1) fun r8=>
  cond (!(decide (r8.2=(0:Int)))) (Option.bind (Option.bind (m_mbind1 N a0 r8.2 ([]:List (List zj)) ([]:List zQ) ([]:List zb) ([]:List zb) d6.2.2.2.2.2.2.2.2.2.2.1 d6.2.2.2.2.2.2.2.2.2.2.2) fun r9=>
  some (r9,r8.2)) fun q=>some (.inr q)) (Option.bind (m_ymake N r8.1) fun r10=>
  cond (!(decide (r10.2.2=(0:Int)))) (Option.bind (Option.bind (m_mbind1 N a0 r10.2.2 ([]:List (List zj)) ([]:List zQ) ([]:List zb) ([]:List zb) d6.2.2.2.2.2.2.2.2.2.2.1 d6.2.2.2.2.2.2.2.2.2.2.2) fun r11=>
  some (r11,r10.2.2)) fun q=>some (.inr q)) (gd (true) <|
  bth (Option.bind (m_clipI N (o7.2.2.1++(a0.1.getD d6.2.1.toNat zL.zero).2)) fun r13=>
  bth (Option.bind (qQ N r10.2.1.2.2) fun r14=>
  gd (((decide ((IntKind.wrap .u8 (a1 - (1:Int))).toNat < d6.2.2.2.2.2.2.2.1.length))&&(d6.2.2.2.2.2.2.2.1.getD (IntKind.wrap .u8 (a1 - (1:Int))).toNat (false,[])).1)) <|
  gd ((ze (IntKind.wrap .u8 (a1 - (1:Int))) d6.2.2.2.2.2.2.2.1.length)&&(true)) <|
  bth (gd ((decide ((IntKind.wrap .u8 (a1 - (1:Int))).toNat=(IntKind.wrap .u8 (a1 - (1:Int))).toNat))&&((zV 56 ((d6.2.2.2.2.2.2.2.1.getD (IntKind.wrap .u8 (a1 - (1:Int))).toNat (false,[])).2.length+[((0:Int),(r10.2.1.2.1,(r13.1,r14.1)))].length))&&((ze (IntKind.wrap .u8 (a1 - (1:Int))) d6.2.2.2.2.2.2.2.1.length)&&(((decide ((IntKind.wrap .u8 (a1 - (1:Int))).toNat=(IntKind.wrap .u8 (a1 - (1:Int))).toNat))&&(decide ((IntKind.wrap .u8 (a1 - (1:Int))).toNat < d6.2.2.2.2.2.2.2.1.length)))&&(true))))) <|
  gd ((zq (d6.2.1+(1:Int)))&&(true)) <|
  rec6 (o7.2.1,(d6.2.1+(1:Int)),r10.1.1,r10.1.2.1,r10.1.2.2.1,r10.1.2.2.2.1,r10.1.2.2.2.2,(d6.2.2.2.2.2.2.2.1.set (IntKind.wrap .u8 (a1 - (1:Int))).toNat (true,((d6.2.2.2.2.2.2.2.1.getD (IntKind.wrap .u8 (a1 - (1:Int))).toNat (false,[])).2++[((0:Int),(r10.2.1.2.1,(r13.1,r14.1)))]))),o7.2.2.2.1,o7.2.2.2.2,a1,r10.2.1.1)) (gd ((decide ((IntKind.wrap .u8 (a1 - (1:Int))).toNat=(IntKind.wrap .u8 (a1 - (1:Int))).toNat))&&((zV 56 ((d6.2.2.2.2.2.2.2.1.getD (IntKind.wrap .u8 (a1 - (1:Int))).toNat (false,[])).2.length+[((0:Int),(r10.2.1.2.1,(r13.1,r14.1)))].length))&&((ze (IntKind.wrap .u8 (a1 - (1:Int))) d6.2.2.2.2.2.2.2.1.length)&&(((decide ((IntKind.wrap .u8 (a1 - (1:Int))).toNat=(IntKind.wrap .u8 (a1 - (1:Int))).toNat))&&(decide ((IntKind.wrap .u8 (a1 - (1:Int))).toNat < d6.2.2.2.2.2.2.2.1.length)))&&(true))))) <|
  gd ((zq (d6.2.1+(1:Int)))&&(true)) <|
  rec6 (o7.2.1,(d6.2.1+(1:Int)),r10.1.1,r10.1.2.1,r10.1.2.2.1,r10.1.2.2.2.1,r10.1.2.2.2.2,(d6.2.2.2.2.2.2.2.1.set (IntKind.wrap .u8 (a1 - (1:Int))).toNat (true,((d6.2.2.2.2.2.2.2.1.getD (IntKind.wrap .u8 (a1 - (1:Int))).toNat (false,[])).2++[((0:Int),(r10.2.1.2.1,(r13.1,r14.1)))]))),o7.2.2.2.1,o7.2.2.2.2,a1,r10.2.1.1))) (Option.bind (qQ N r10.2.1.2.2) fun r14=>
  gd (((decide ((IntKind.wrap .u8 (a1 - (1:Int))).toNat < d6.2.2.2.2.2.2.2.1.length))&&(d6.2.2.2.2.2.2.2.1.getD (IntKind.wrap .u8 (a1 - (1:Int))).toNat (false,[])).1)) <|
  gd ((ze (IntKind.wrap .u8 (a1 - (1:Int))) d6.2.2.2.2.2.2.2.1.length)&&(true)) <|
  bth (gd ((decide ((IntKind.wrap .u8 (a1 - (1:Int))).toNat=(IntKind.wrap .u8 (a1 - (1:Int))).toNat))&&((zV 56 ((d6.2.2.2.2.2.2.2.1.getD (IntKind.wrap .u8 (a1 - (1:Int))).toNat (false,[])).2.length+[((0:Int),(r10.2.1.2.1,(r13.1,r14.1)))].length))&&((ze (IntKind.wrap .u8 (a1 - (1:Int))) d6.2.2.2.2.2.2.2.1.length)&&(((decide ((IntKind.wrap .u8 (a1 - (1:Int))).toNat=(IntKind.wrap .u8 (a1 - (1:Int))).toNat))&&(decide ((IntKind.wrap .u8 (a1 - (1:Int))).toNat < d6.2.2.2.2.2.2.2.1.length)))&&(true))))) <|
  gd ((zq (d6.2.1+(1:Int)))&&(true)) <|
  rec6 (o7.2.1,(d6.2.1+(1:Int)),r10.1.1,r10.1.2.1,r10.1.2.2.1,r10.1.2.2.2.1,r10.1.2.2.2.2,(d6.2.2.2.2.2.2.2.1.set (IntKind.wrap .u8 (a1 - (1:Int))).toNat (true,((d6.2.2.2.2.2.2.2.1.getD (IntKind.wrap .u8 (a1 - (1:Int))).toNat (false,[])).2++[((0:Int),(r10.2.1.2.1,(r13.1,r14.1)))]))),o7.2.2.2.1,o7.2.2.2.2,a1,r10.2.1.1)) (gd ((decide ((IntKind.wrap .u8 (a1 - (1:Int))).toNat=(IntKind.wrap .u8 (a1 - (1:Int))).toNat))&&((zV 56 ((d6.2.2.2.2.2.2.2.1.getD (IntKind.wrap .u8 (a1 - (1:Int))).toNat (false,[])).2.length+[((0:Int),(r10.2.1.2.1,(r13.1,r14.1)))].length))&&((ze (IntKind.wrap .u8 (a1 - (1:Int))) d6.2.2.2.2.2.2.2.1.length)&&(((decide ((IntKind.wrap .u8 (a1 - (1:Int))).toNat=(IntKind.wrap .u8 (a1 - (1:Int))).toNat))&&(decide ((IntKind.wrap .u8 (a1 - (1:Int))).toNat < d6.2.2.2.2.2.2.2.1.length)))&&(true))))) <|
  gd ((zq (d6.2.1+(1:Int)))&&(true)) <|
  rec6 (o7.2.1,(d6.2.1+(1:Int)),r10.1.1,r10.1.2.1,r10.1.2.2.1,r10.1.2.2.2.1,r10.1.2.2.2.2,(d6.2.2.2.2.2.2.2.1.set (IntKind.wrap .u8 (a1 - (1:Int))).toNat (true,((d6.2.2.2.2.2.2.2.1.getD (IntKind.wrap .u8 (a1 - (1:Int))).toNat (false,[])).2++[((0:Int),(r10.2.1.2.1,(r13.1,r14.1)))]))),o7.2.2.2.1,o7.2.2.2.2,a1,r10.2.1.1)))) (Option.bind (m_clipI N (o7.2.2.1++(a0.1.getD d6.2.1.toNat zL.zero).2)) fun r13=>
  Option.bind (qQ N r10.2.1.2.2) fun r14=>
  gd (((decide ((IntKind.wrap .u8 (a1 - (1:Int))).toNat < d6.2.2.2.2.2.2.2.1.length))&&(d6.2.2.2.2.2.2.2.1.getD (IntKind.wrap .u8 (a1 - (1:Int))).toNat (false,[])).1)) <|
  gd ((ze (IntKind.wrap .u8 (a1 - (1:Int))) d6.2.2.2.2.2.2.2.1.length)&&(true)) <|
  bth (gd ((decide ((IntKind.wrap .u8 (a1 - (1:Int))).toNat=(IntKind.wrap .u8 (a1 - (1:Int))).toNat))&&((zV 56 ((d6.2.2.2.2.2.2.2.1.getD (IntKind.wrap .u8 (a1 - (1:Int))).toNat (false,[])).2.length+[((0:Int),(r10.2.1.2.1,(r13.1,r14.1)))].length))&&((ze (IntKind.wrap .u8 (a1 - (1:Int))) d6.2.2.2.2.2.2.2.1.length)&&(((decide ((IntKind.wrap .u8 (a1 - (1:Int))).toNat=(IntKind.wrap .u8 (a1 - (1:Int))).toNat))&&(decide ((IntKind.wrap .u8 (a1 - (1:Int))).toNat < d6.2.2.2.2.2.2.2.1.length)))&&(true))))) <|
  gd ((zq (d6.2.1+(1:Int)))&&(true)) <|
  rec6 (o7.2.1,(d6.2.1+(1:Int)),r10.1.1,r10.1.2.1,r10.1.2.2.1,r10.1.2.2.2.1,r10.1.2.2.2.2,(d6.2.2.2.2.2.2.2.1.set (IntKind.wrap .u8 (a1 - (1:Int))).toNat (true,((d6.2.2.2.2.2.2.2.1.getD (IntKind.wrap .u8 (a1 - (1:Int))).toNat (false,[])).2++[((0:Int),(r10.2.1.2.1,(r13.1,r14.1)))]))),o7.2.2.2.1,o7.2.2.2.2,a1,r10.2.1.1)) (gd ((decide ((IntKind.wrap .u8 (a1 - (1:Int))).toNat=(IntKind.wrap .u8 (a1 - (1:Int))).toNat))&&((zV 56 ((d6.2.2.2.2.2.2.2.1.getD (IntKind.wrap .u8 (a1 - (1:Int))).toNat (false,[])).2.length+[((0:Int),(r10.2.1.2.1,(r13.1,r14.1)))].length))&&((ze (IntKind.wrap .u8 (a1 - (1:Int))) d6.2.2.2.2.2.2.2.1.length)&&(((decide ((IntKind.wrap .u8 (a1 - (1:Int))).toNat=(IntKind.wrap .u8 (a1 - (1:Int))).toNat))&&(decide ((IntKind.wrap .u8 (a1 - (1:Int))).toNat < d6.2.2.2.2.2.2.2.1.length)))&&(true))))) <|
  gd ((zq (d6.2.1+(1:Int)))&&(true)) <|
  rec6 (o7.2.1,(d6.2.1+(1:Int)),r10.1.1,r10.1.2.1,r10.1.2.2.1,r10.1.2.2.2.1,r10.1.2.2.2.2,(d6.2.2.2.2.2.2.2.1.set (IntKind.wrap .u8 (a1 - (1:Int))).toNat (true,((d6.2.2.2.2.2.2.2.1.getD (IntKind.wrap .u8 (a1 - (1:Int))).toNat (false,[])).2++[((0:Int),(r10.2.1.2.1,(r13.1,r14.1)))]))),o7.2.2.2.1,o7.2.2.2.2,a1,r10.2.1.1)))))) (some (.inl (d6.1,d6.2.2.2.2.2.2.2.1,d6.2.2.2.2.2.2.2.2.1,d6.2.2.2.2.2.2.2.2.2.1,d6.2.2.2.2.2.2.2.2.2.2.1,d6.2.2.2.2.2.2.2.2.2.2.2)))
noncomputable def b_mbind (N:Nat) (a0:qx) (a1:Int):Option (Kt13×Int):=
  Option.bind (m_rcheck N a0) fun r1=>
  cond (!(decide (r1=(0:Int)))) (some ((([]:List (List zj)),(([]:List zQ),(([]:List zb),([]:List zb)))),r1)) (cond (cond (decide (a1 < (1:Int))) true (decide ((6:Int) < a1))) (some ((([]:List (List zj)),(([]:List zQ),(([]:List zb),([]:List zb)))),(1:Int))) (gd ((ze (IntKind.wrap .u8 (a1 - (1:Int))) a0.2.1.length)&&(true)) <|
  cond (cond (!(a0.2.1.getD (IntKind.wrap .u8 (a1 - (1:Int))).toNat zr.zero).1) true (!(decide ((a0.2.1.getD (IntKind.wrap .u8 (a1 - (1:Int))).toNat zr.zero).2.1=(-13:Int))))) (some ((([]:List (List zj)),(([]:List zQ),(([]:List zb),([]:List zb)))),(12:Int))) (Option.bind (m_lcount N a0.2.2.1.1) fun r2=>
  gd ((zq (r2+(a0.1.length:Int)))&&(true)) <|
  cond (decide ((2048:Int) < (r2+(a0.1.length:Int)))) (some ((([]:List (List zj)),(([]:List zQ),(([]:List zb),([]:List zb)))),(3:Int))) (Option.bind (m_mcopiedI N a0.2.2.1.2.2.1) fun r3=>
  Option.bind (m_mcopiedX N a0.2.2.1.2.1) fun r4=>
  Option.bind (m_mcopyT N a0.2.2.1.1 a1 (a0.1.length:Int)) fun r5=>
  Option.bind (b_mbind_L6 N a0 a1 N (a0,(0:Int),(a0.2.1.getD (IntKind.wrap .u8 (a1 - (1:Int))).toNat zr.zero).1,(a0.2.1.getD (IntKind.wrap .u8 (a1 - (1:Int))).toNat zr.zero).2.1,(a0.2.1.getD (IntKind.wrap .u8 (a1 - (1:Int))).toNat zr.zero).2.2.1,(a0.2.1.getD (IntKind.wrap .u8 (a1 - (1:Int))).toNat zr.zero).2.2.2.1,(a0.2.1.getD (IntKind.wrap .u8 (a1 - (1:Int))).toNat zr.zero).2.2.2.2,r5,r4.1,r3.1,(0:Int),(0:Int))) fun(o6:(qx×(List (Bool×List zj))×(List zQ)×(List zb)×Int×Int)⊕(Kt13×Int))=>
  sm o6 (fun o6=>
  Option.bind (m_mbind1 N a0 (0:Int) (o6.2.1.map (·.2)) o6.2.2.1 o6.2.2.2.1 ([]:List zb) o6.2.2.2.2.1 o6.2.2.2.2.2) fun r15=>
  some (r15,(0:Int))) (fun q=>some q)))))
theorem e_mbind_L6:b_mbind_L6=m_mbind_L6:=by
 unfold b_mbind_L6 m_mbind_L6
 first | rfl | (simp only[qC]; done) | (funext; simp (disch:=(simp only[gd_and,zl,xw]; first | done | first | rfl | (refine zE (fun h=>?_) (fun h=>?_); (focus (rw[h]; first | done | (simp only[zl]; first | done | first | rfl | (refine zE (fun h=>?_) (fun h=>?_); (focus (rw[h]; first | done | (simp only[zl]; first | done | first | rfl | (refine zE (fun h=>?_) (fun h=>?_); (focus (rw[h]; first | done | (simp only[zl]; first | done | rfl))); (focus (rw[h]; first | done | simp only[zn,zD])))))); (focus (rw[h]; first | done | simp only[zn,zD])))))); (focus (rw[h]; first | done | simp only[zn,zD]))))) only[bth_eq])
theorem e_mbind:b_mbind=m_mbind:=by
 unfold b_mbind m_mbind
 first | (simp only[qC,e_mbind_L6]; done) | (funext; simp (disch:=(simp only[gd_and,zl,xw]; first | done | first | rfl | (refine zE (fun h=>?_) (fun h=>?_); (focus (rw[h]; first | done | (simp only[zl]; first | done | first | rfl | (refine zE (fun h=>?_) (fun h=>?_); (focus (rw[h]; first | done | (simp only[zl]; first | done | first | rfl | (refine zE (fun h=>?_) (fun h=>?_); (focus (rw[h]; first | done | (simp only[zl]; first | done | rfl))); (focus (rw[h]; first | done | simp only[zn,zD])))))); (focus (rw[h]; first | done | simp only[zn,zD])))))); (focus (rw[h]; first | done | simp only[zn,zD]))))) only[bth_eq,e_mbind_L6]) | rfl
noncomputable def ct_mbind (N:Nat):CT cx:=ctD2 N za (by kernel_rfl) [.dat kd15,.c (.int .u8)] [] ⟨.tup [.dat kd13,.c (.int .i64)],[],[]⟩ rfl [ct_rcheck N,ct_lcount N,ct_mcopiedI N,ct_mcopiedX N,ct_mcopyT N,ct_ygo N,ct_mbind1 N,ct_ymake N,ct_clipI N,ct_mcopiedP N] [] (cd_mbind1 N) [(5,158),(4,157),(8,161)] [(1000000,158),(1000001,157),(1000002,161)] 56 7 (.s (.r [.n 3,.w (.frzC 2 kd15)]) (.s .d (.s .d (.s .d (.s .d (.s (.s (.o [] [.t 0 0,.t 1 0,.t 2 1,.t 4 0,.t 5 1,.t 6 0,.c 3 [],.t 7 0,.t 8 0] []) .d) (.s .d (.s .d (.s .d (.s .d (.s (.r [.n 7,.c [(15,74)]]) (.s (.s .d (.b (.lxx 0 ⟨[(4,.a (.c (.raw (.ptr 157 0)))),(5,.a (.c (.raw (.ptr 158 0)))),(7,.a (.c (.raw (.ptr 7 0)))),(8,.a (.c (.raw (.ptr 161 0)))),(56,.a (.c (.fn 50 [.id 158,.id 157,.fz kd15,.id 161]))),(79,.a (.c (.int .i64)))],[(7,.cells 112 [.bool,.int .i64,.int .i64,.bool,.lst qU]),(74,.mrow 47 51 zh),(157,.cells 41 [.raw (.sl 74),.lst zK,.lst zo,.raw (.val (.slice none 0 0))]),(161,.cells 30 [.int .u8,.int .i64])],[1,77,78],[158]⟩ ⟨[(4,.a (.c (.raw (.ptr 157 0)))),(5,.a (.c (.raw (.ptr 158 0)))),(56,.a (.c (.fn 50 [.id 158,.id 157,.fz kd15,.id 161])))],[(74,.mrow 47 51 zh),(157,.cells 41 [.raw (.sl 74),.lst zK,.lst zo,.raw (.val (.slice none 0 0))]),(161,.cells 30 [.int .u8,.int .i64])],[],[158]⟩ (.s .d (.s .d (.s (.b (.s (.r [.n 6,.w (.frzC 10 zL)]) (.s .d (.s .d (.j ⟨[(4,.a (.c (.raw (.ptr 157 0)))),(5,.a (.c (.raw (.ptr 158 0)))),(7,.a (.c (.raw (.ptr 7 0)))),(8,.a (.c (.raw (.ptr 161 0)))),(11,.a (.c (.raw (.sl 88)))),(12,.a (.c (.lst qU))),(56,.a (.c (.fn 50 [.id 158,.id 157,.fz kd15,.id 161])))],[(88,.row 30 zo),(157,.cells 41 [.raw (.sl 74),.lst zK,.lst zo,.raw (.val (.slice none 0 0))])],[1,10,77,78,79],[7,74,158,161]⟩ (.s .d (.c (.s (.r [.n 5,.w (.frz 93)]) (.r [.n 4,.w (.frz 97)])) .d)) (.s .d (.s (.r [.n 11,.w (.frzC 13 zr)]) (.s .d (.s (.r [.n 11,.w (.frzC 15 zr),.w (.frzC 16 kd10)]) (.s .d (.s .d (.s (.ob [.frz 88] [] (.b [.t 0 0,.t 1 1,.t 2 0,.t 4 0,.t 5 1] 3 8 [] [] (.b [] 6 8 [] [] (.f [.t 7 0,.s 8,.s 9]) (.f [.c 6 [],.t 7 0,.s 9])) (.f [.c 3 [],.c 6 [],.t 7 0,.s 9])) [(.frzC 17 zh)] false) (.s (.ob [.t (.opw 74 1 142 .u8 1)] [2,3,4,5,6,7,8,9,10,11,12,1000014] (.b [.t 0 0,.t 1 3,.t 2 0,.t 3 0,.t 4 0,.t 5 3,.t 6 0,.t 7 0,.t 8 0,.t 10 1] 9 11 [] [] (.f [.k 11,.k 12,.t 13 0,.u 14 .st]) (.f [.f,.k 9,.k 12,.t 13 0,.u 14 .st])) [(.frz 144)] false) (.r [.n 5,.w (.t (.close 74 142))])))))))))))))) .d)))))) (.s .d (.t [.t (.frz 74)])))))))))))))) [.cell 4 41,.cell 5 31] 24 (kd13.zero,0) (fun d=>b_mbind N d.1 d.2.1) (fun d=>m_mbind N d.1 d.2.1) (fun d=>(by rw[e_mbind]:b_mbind N d.1 d.2.1=m_mbind N d.1 d.2.1)) Tryz.func24 rfl rfl Tryz.ntmps24 rfl rfl rfl (fun d=>by kernel_rfl)
end

section
set_option linter.unusedSimpArgs false
set_option linter.unusedVariables false
open Go.RowKit
def m_mof(N:Nat) (a0:(List (List zi))):Option (Kt13×Int):=
  Option.bind (m_muntil N a0 (a0.length:Int)) fun r1=>
  cond (!(decide (r1.2=(0:Int)))) (some ((([]:List (List zj)),(([]:List zQ),(([]:List zb),([]:List zb)))),r1.2)) (gd ((zq ((a0.length:Int) - (1:Int)))&&((ze ((a0.length:Int) - (1:Int)) a0.length)&&(true))) <|
  Option.bind (m_chfirst N (a0.getD ((a0.length:Int) - (1:Int)).toNat [])) fun r2=>
  Option.bind (m_mbind N r1.1 r2) fun r3=>
  some (r3.1,r3.2))
noncomputable def ct_mof (N:Nat):CT cx:=zS N za (by kernel_rfl) [.dat (.sl (.sl zG))] [] ⟨.tup [.dat kd13,.c (.int .i64)],[],[]⟩ [ct_muntil N,ct_chfirst N,ct_mbind N] [] (.s (.r [.n 3,.w (.frzC 1 (.sl (.sl zG)))]) (.s (.r [.n 11,.w (.frzC 4 kd15)]) (.s .d (.s (.o [] [.t 0 1,.t 1 0,.t 2 1,.t 3 0,.t 4 1,.t 5 0,.t 6 0,.t 7 0,.t 8 1,.c 9 [],.c 10 [],.t 11 0,.t 12 0,.s 13,.t 14 0] []) .d)))) [.cell 2 41,.tmp 3] 9 (kd13.zero,0) (fun d=>m_mof N d.1) Tryz.func9 rfl rfl Tryz.ntmps9 rfl rfl rfl (fun d=>by kernel_rfl)
def m_lawPL(N:Nat) (a0:Kt3) (a1:Int) (a2:Int):Option (Bool):=
  Option.bind (m_cof39 N a0) fun r1=>
  Option.bind (m_ploop N r1 a1 a2) fun r2=>
  gd ((qn (!(cond (cond (decide (a1 < (0:Int))) true (decide ((r1.length:Int)<=a1))) true (decide (a2 < (0:Int))))) (ze (0:Int) r1.length))&&(true)) <|
  cond (cond (cond (cond (decide (a1 < (0:Int))) true (decide ((r1.length:Int)<=a1))) true (decide (a2 < (0:Int)))) true (decide (((r1.getD (0:Int).toNat []).length:Int)<=a2))) (Option.bind (cond (cond (decide (r2.2=(1:Int))) (GTy.beq zo r2.1 ((0:Int),(0:Int))) false) (qY N) (some false)) fun r3=>
  some (cond (cond (decide (r2.2=(1:Int))) (GTy.beq zo r2.1 ((0:Int),(0:Int))) false) r3 false)) (Option.bind (m_mof N r1) fun r4=>
  gd ((ze a1 r1.length)&&((ze a2 (r1.getD a1.toNat []).length)&&(true))) <|
  gd ((qn (!(cond (cond (cond (cond (!(decide (r2.2=(0:Int)))) true (!(decide (r4.2=(0:Int))))) true (!(decide (r2.1.1=((r1.getD a1.toNat []).getD a2.toNat zG.zero).2.1)))) true (!(decide ((r4.1.1.length:Int)=(6:Int))))) true (decide (r2.1.2 < (0:Int))))) (ze (IntKind.wrap .u8 (((r1.getD a1.toNat []).getD a2.toNat zG.zero).2.1 - (1:Int))) r4.1.1.length))&&(true)) <|
  cond (cond (cond (cond (cond (cond (!(decide (r2.2=(0:Int)))) true (!(decide (r4.2=(0:Int))))) true (!(decide (r2.1.1=((r1.getD a1.toNat []).getD a2.toNat zG.zero).2.1)))) true (!(decide ((r4.1.1.length:Int)=(6:Int))))) true (decide (r2.1.2 < (0:Int)))) true (decide (((r4.1.1.getD (IntKind.wrap .u8 (((r1.getD a1.toNat []).getD a2.toNat zG.zero).2.1 - (1:Int))).toNat []).length:Int)<=r2.1.2))) (some false) (gd ((ze (IntKind.wrap .u8 (((r1.getD a1.toNat []).getD a2.toNat zG.zero).2.1 - (1:Int))) r4.1.1.length)&&((ze r2.1.2 (r4.1.1.getD (IntKind.wrap .u8 (((r1.getD a1.toNat []).getD a2.toNat zG.zero).2.1 - (1:Int))).toNat []).length)&&(true))) <|
  gd ((ze (0:Int) r1.length)&&(true)) <|
  Option.bind (m_chfirst N (r1.getD (0:Int).toNat [])) fun r5=>
  Option.bind (cond (decide ((0:Int) < a1)) (gd ((zq (a1 - (1:Int)))&&(true)) <|
  Option.bind (m_ploop N r1 (a1 - (1:Int)) a2) fun r7=>
  some (r7.2,r7.1.1,r7.1.2)) (some (r2.2,r5,a2))) fun o6=>
  gd ((qn (cond (cond (decide (o6.1=(0:Int))) ((decide (((r4.1.1.getD (IntKind.wrap .u8 (((r1.getD a1.toNat []).getD a2.toNat zG.zero).2.1 - (1:Int))).toNat []).getD r2.1.2.toNat zh.zero).1=(1:Int))) == (decide (((r1.getD a1.toNat []).getD a2.toNat zG.zero).1=(2:Int)))) false) (decide ((((r4.1.1.getD (IntKind.wrap .u8 (((r1.getD a1.toNat []).getD a2.toNat zG.zero).2.1 - (1:Int))).toNat []).getD r2.1.2.toNat zh.zero).2.2.1.length:Int)=(1:Int))) false) (ze (0:Int) ((r4.1.1.getD (IntKind.wrap .u8 (((r1.getD a1.toNat []).getD a2.toNat zG.zero).2.1 - (1:Int))).toNat []).getD r2.1.2.toNat zh.zero).2.2.1.length))&&(true)) <|
  Option.bind (cond (cond (cond (cond (decide (o6.1=(0:Int))) ((decide (((r4.1.1.getD (IntKind.wrap .u8 (((r1.getD a1.toNat []).getD a2.toNat zG.zero).2.1 - (1:Int))).toNat []).getD r2.1.2.toNat zh.zero).1=(1:Int))) == (decide (((r1.getD a1.toNat []).getD a2.toNat zG.zero).1=(2:Int)))) false) (decide ((((r4.1.1.getD (IntKind.wrap .u8 (((r1.getD a1.toNat []).getD a2.toNat zG.zero).2.1 - (1:Int))).toNat []).getD r2.1.2.toNat zh.zero).2.2.1.length:Int)=(1:Int))) false) (GTy.beq zo (((r4.1.1.getD (IntKind.wrap .u8 (((r1.getD a1.toNat []).getD a2.toNat zG.zero).2.1 - (1:Int))).toNat []).getD r2.1.2.toNat zh.zero).2.2.1.getD (0:Int).toNat zo.zero) o6.2) false) (qY N) (some false)) fun r8=>
  some (cond (cond (cond (cond (decide (o6.1=(0:Int))) ((decide (((r4.1.1.getD (IntKind.wrap .u8 (((r1.getD a1.toNat []).getD a2.toNat zG.zero).2.1 - (1:Int))).toNat []).getD r2.1.2.toNat zh.zero).1=(1:Int))) == (decide (((r1.getD a1.toNat []).getD a2.toNat zG.zero).1=(2:Int)))) false) (decide ((((r4.1.1.getD (IntKind.wrap .u8 (((r1.getD a1.toNat []).getD a2.toNat zG.zero).2.1 - (1:Int))).toNat []).getD r2.1.2.toNat zh.zero).2.2.1.length:Int)=(1:Int))) false) (GTy.beq zo (((r4.1.1.getD (IntKind.wrap .u8 (((r1.getD a1.toNat []).getD a2.toNat zG.zero).2.1 - (1:Int))).toNat []).getD r2.1.2.toNat zh.zero).2.2.1.getD (0:Int).toNat zo.zero) o6.2) false) r8 false)))
noncomputable def ct_lawPL (N:Nat):CT cx:=zS N za (by kernel_rfl) [.dat kd3,.c (.int .i64),.c (.int .i64)] [] ⟨.a (.c .bool),[],[]⟩ [ct_cof39 N,ct_ploop N,ct_lives39 N,ct_mof N,ct_chfirst N] [] (.s (.r [.n 2,.w (.frzC 3 kd3)]) (.s (.r [.n 4,.w (.frzC 7 (.sl (.sl zG)))]) (.s (.r [.n 10,.w (.frzC 8 zo)]) (.s .d (.s (.r [.n 8,.w (.frzC 10 kd13)]) (.s (.r [.n 10,.w (.frzC 12 zG)]) (.s (.s (.o [] [.t 0 0,.t 1 0,.t 2 0,.t 3 0,.t 4 0,.t 5 0,.t 6 0,.t 7 0,.t 8 1,.t 9 0,.t 10 1,.t 11 0,.t 12 0,.t 13 0,.t 14 0,.t 15 1,.t 16 0,.t 17 0,.t 18 0,.t 19 0,.t 20 0,.t 21 1,.t 22 0,.t 23 0,.t 24 0,.t 25 0,.t 26 1,.t 27 0,.t 28 1,.t 29 0,.t 30 1,.t 31 0,.t 32 0,.t 33 1,.t 34 0,.t 35 0,.t 36 0] []) .d) (.s (.o [] [.t 0 0,.t 1 1,.t 2 0,.t 3 1,.t 4 0,.t 5 0,.t 6 1,.t 7 0,.t 8 1,.t 9 0,.t 10 1,.s 11,.s 12] [(.frzC 13 zh)]) (.s .d (.j ⟨[(9,.a (.c (.int .i64))),(14,.a (.c (.raw (.ptr 14 0))))],[(14,.cells 30 [.int .u8,.int .i64])],[12,13],[]⟩ .d (.s (.o [] [.t 0 0,.t 1 0,.t 2 0,.t 3 0,.t 4 1,.t 5 0,.t 6 0,.t 7 1,.t 8 0,.t 9 0,.t 10 0,.t 11 0,.t 12 0,.t 13 1,.t 14 0,.t 15 0,.t 16 0,.t 17 0,.t 18 0,.t 19 1,.t 20 0,.t 21 1,.t 22 3,.t 23 0,.t 24 0,.t 25 0,.g 26,.t 27 0,.t 28 0] []) .d))))))))))) [.tmp 6] 3 false (fun d=>m_lawPL N d.1 d.2.1 d.2.2.1) Tryz.func3 rfl rfl Tryz.ntmps3 rfl rfl rfl (fun d=>by kernel_rfl)
end


def fil{α β:Type} (f:α->β) (z:β) (l:List α) (m:Nat):List β:=(l.take m).map f++List.replicate (l.length - m) z
theorem fil_zero{α β:Type} (f:α->β) (z:β) (l:List α):fil f z l 0=List.replicate l.length z:=by simp[fil]
theorem fil_all{α β:Type} (f:α->β) (z:β) (l:List α):fil f z l l.length=l.map f:=by simp[fil]
theorem fil_len{α β:Type} (f:α->β) (z:β) (l:List α) (m:Nat) (h:m<=l.length):(fil f z l m).length=l.length:=by simp[fil]; omega
theorem fil_set{α β:Type} (f:α->β) (z:β) (l:List α) (m:Nat) (h:m < l.length) (x:α) (hx:l[m]?=some x):(fil f z l m).set m (f x)=fil f z l (m+1):=by
 obtain⟨hlt,rfl⟩:=List.getElem?_eq_some_iff.1 hx
 apply List.ext_getElem?
 intro i;simp only[fil,List.getElem?_set,List.getElem?_append,List.length_map,List.length_take,List.getElem?_map,List.getElem?_take,List.getElem?_replicate,List.length_append,List.length_replicate]
 by_cases h1:m=i
 ·subst h1
  have e1:min m l.length+(l.length - m)=l.length:=by omega
  have e2:m < min (m+1) l.length:=by omega
  simp[e1,h,e2]
 ·by_cases h2:i < m
  ·simp[h1,show i < min m l.length by omega,show i < min (m+1) l.length by omega,h2,show i < m+1 by omega]
  ·simp only[if_neg h1,if_neg (show ¬ i < min m l.length by omega),if_neg (show ¬ i < min (m+1) l.length by omega)]
   rw[show min m l.length=m by omega,show min (m+1) l.length=m+1 by omega]
   by_cases h3:i < l.length
   ·rw[if_pos (by omega),if_pos (by omega)]
   ·rw[if_neg (by omega),if_neg (by omega)]
theorem zp{x:Int} (h1:-9223372036854775808<=x) (h2:x<=9223372036854775807):zq x=true:=by
 exact inI64_iff.2 ⟨h1,h2⟩
theorem qy{m n:Nat} (h:m < n):ze (m:Int) n=true:=by
 simp[ze,h]
theorem zv{α:Type} {l:List α} {m:Nat} {x z:α} (h:l[m]?=some x):l.getD m z=x:=by
 rw[List.getD_eq_getElem?_getD,h]; rfl

def St12(x:zi):Prop:=(x.1=1\/x.1=2)/\1<=x.2.1/\x.2.1<=4/\x.2.2=(0,0,false)
structure Ch12(p:List (List zi)) (w h:Nat):Prop where
 rows:p.length=h
 wide:∀ r∈p,r.length=w
 st:∀ r∈p,∀ x∈r,St12 x
theorem wrap8{x:Int} (h1:0<=x) (h2:x<=255):IntKind.wrap .u8 x=x:=by
 simp[IntKind.wrap,IntKind.bits,IntKind.signed]
 omega
theorem num12(c:Int) (h1:0<=c) (h2:c<=255):1<=IntKind.wrap .u8 ((1:Int)+Int.tmod (IntKind.wrap .u8 (Int.tdiv c 2)) 4)/\IntKind.wrap .u8 ((1:Int)+Int.tmod (IntKind.wrap .u8 (Int.tdiv c 2)) 4)<=4:=by
 have e1:IntKind.wrap .u8 (Int.tdiv c 2)=c / 2:=by
  rw[Int.tdiv_eq_ediv_of_nonneg h1];exact wrap8 (by omega) (by omega)
 have e2:Int.tmod (c / 2) 4=(c / 2) % 4:=Int.tmod_eq_emod_of_nonneg (by omega);rw[e1,e2,wrap8 (by omega) (by omega)];omega
theorem cof_L7{N:Nat} (hN:300 < N) (a0:Kt3) (hW:0<=a0.1/\a0.1<=255) (hst:∀ c∈a0.2.2,0<=c/\c<=255) (w:Nat) (hw:(w:Int)=1+Int.tmod a0.1 8) (hw8:w<=8) (i0:Int) (hi0:0<=i0) (hi1:i0<=200) :
  ∃ r,m_cof39_L7 N a0 N (i0,(0:Int),([]:List zi))=some r/\(r.2.length=w/\(∀ x∈r.2,St12 x)/\0<=r.1/\r.1<=i0+w):=by
 refine loopF_inv (fun k (d:Int×Int×List zi)=>d.2.1=(d.2.2.length:Int)/\d.2.2.length+k=w/\(∀ x∈d.2.2,St12 x)/\0<=d.1/\d.1<=i0+d.2.2.length) (fun(r:Int×List zi)=>r.2.length=w/\(∀ x∈r.2,St12 x)/\0<=r.1/\r.1<=i0+w) ?_ N w _ (by omega) ⟨rfl,by simp,(fun x hx=>by cases hx),hi0,by simp⟩;rintro k ⟨i,j,row⟩ rec ⟨hj,hk,hall,hi,hi2⟩ hrec;dsimp only at hj hk hall hi hi2;subst hj;have hm:Int.tmod a0.1 8=(w:Int) - 1:=by omega
 dsimp only;rw[hm,qk (by rw[zp (by omega) (by omega),zp (by omega) (by omega)]; rfl)];have e1:(1:Int)+((w:Int) - 1)=w:=by omega
 rw[e1]
 by_cases hlt:row.length < w
 ·rw[show decide ((row.length:Int) < (w:Int))=true by simpa using hlt]
  rw[cond_true];have next:∀ (s:zi) (i':Int),St12 s->0<=i'->i'<=i+1->∃ r,rec (i',(row.length:Int)+1,row++[s])=some r/\(r.2.length=w/\(∀ x∈r.2,St12 x)/\0<=r.1/\r.1<=i0+w):=fun s i' hs h1 h2=>by
   refine hrec (k - 1) _ (by omega) ⟨by simp,by simp; omega,fun x hx=>?_,h1,by simp; omega⟩
   rcases List.mem_append.1 hx with hx | hx
   ·exact hall x hx
   ·rw[List.mem_singleton.1 hx]; exact hs
  have hfit:∀ s:zi,zV 32 (row.length+[s].length)=true:=fun s=>by simp[zV]; omega
  by_cases hz:0 < a0.2.2.length
  ·rw[show decide ((0:Int) < (a0.2.2.length:Int))=true by simpa using hz,cond_true]
   have hmod:Int.tmod i a0.2.2.length=i % a0.2.2.length:=Int.tmod_eq_emod_of_nonneg hi;have hm1:0<=i % (a0.2.2.length:Int):=Int.emod_nonneg _ (by omega);have hm2:i % (a0.2.2.length:Int) < a0.2.2.length:=Int.emod_lt_of_pos _ (by omega);rw[hmod];obtain⟨q,hq⟩:∃ q:Nat,i % (a0.2.2.length:Int)=q:=⟨(i % (a0.2.2.length:Int)).toNat,by omega⟩
   rw[hq]at hm2 ⊢;have hq2:q < a0.2.2.length:=by omega
   rw[qk (by rw[qy hq2,show decide ((a0.2.2.length:Int)≠0)=true from decide_eq_true (by omega)]; rfl),Int.toNat_natCast];obtain⟨c,hc⟩:∃ c,a0.2.2[q]?=some c:=⟨_,List.getElem?_eq_getElem hq2⟩
   rw[zv hc];have hcr:=hst c (List.mem_of_getElem? hc);have hn:=num12 c hcr.1 hcr.2;have fin:∀ s:zi,St12 s->∃ r,(Option.bind (some s) fun o8=>
     gd ((zq (i+(1:Int)))&&(true)) <|
     gd ((zV 32 (row.length+[o8].length))&&(true)) <|
     gd ((zq ((row.length:Int)+(1:Int)))&&(true)) <|
     rec ((i+(1:Int)),((row.length:Int)+(1:Int)),(row++[o8])))=some r/\(r.2.length=w/\(∀ x∈r.2,St12 x)/\0<=r.1/\r.1<=i0+w):=fun s hs=>by
    rw[Option.bind_some,qk (by rw[zp (by omega) (by omega)]; rfl),qk (by rw[hfit]; rfl),qk (by rw[zp (by omega) (by omega)]; rfl)];exact next s _ hs (by omega) (by omega)
   cases hb:decide (Int.tmod c 2=1)with
   | true=>exact fin _ ⟨.inr rfl,hn.1,hn.2,rfl⟩
   | false=>exact fin _ ⟨.inl rfl,hn.1,hn.2,rfl⟩
  ·rw[show decide ((0:Int) < (a0.2.2.length:Int))=false by simpa using hz,cond_false]
   rw[qk (by rw[hfit]; rfl),qk (by rw[zp (by omega) (by omega)]; rfl)];exact next _ _ ⟨.inl rfl,by decide,by decide,rfl⟩ (by omega) (by omega)
 ·rw[show decide ((row.length:Int) < (w:Int))=false by simpa using hlt,cond_false]
  exact⟨_,rfl,(by show row.length=w; omega),hall,hi,(by show i<=i0+w; omega)⟩
theorem cof39_ok{N:Nat} (hN:300 < N) (a0:Kt3) (hW:0<=a0.1/\a0.1<=255) (hH:0<=a0.2.1/\a0.2.1<=255) (hst:∀ c∈a0.2.2,0<=c/\c<=255) :
  ∃ p w h,m_cof39 N a0=some p/\Ch12 p w (2 * h+1)/\1<=w/\w<=8/\h<=4:=by
 have hm1:Int.tmod a0.1 8=a0.1 % 8:=Int.tmod_eq_emod_of_nonneg hW.1;have hm2:Int.tmod a0.2.1 5=a0.2.1 % 5:=Int.tmod_eq_emod_of_nonneg hH.1;obtain⟨w,hw⟩:∃ w:Nat,(w:Int)=1+Int.tmod a0.1 8:=⟨(1+a0.1 % 8).toNat,by omega⟩
 obtain⟨h,hh⟩:∃ h:Nat,(h:Int)=Int.tmod a0.2.1 5:=⟨(a0.2.1 % 5).toNat,by omega⟩
 have hw8:w<=8:=by omega
 have hw1:1<=w:=by omega
 have hh4:h<=4:=by omega
 clear hm1 hm2
 have key:∃ p,m_cof39_L6 N a0 N ((0:Int),(0:Int),([]:List (List zi)))=some p/\Ch12 p w (2 * h+1):=by
  refine loopF_inv (fun k (d:Int×Int×List (List zi))=>d.2.1=(d.2.2.length:Int)/\d.2.2.length+k=2 * h+1/\(∀ r∈d.2.2,r.length=w/\∀ x∈r,St12 x)/\0<=d.1/\d.1<=8 * d.2.2.length) (fun p=>Ch12 p w (2 * h+1)) ?_ N (2 * h+1) _ (by omega) ⟨rfl,by simp,(fun x hx=>by cases hx),by simp,by simp⟩;rintro k ⟨i,j,rows⟩ rec ⟨hj,hk,hall,hi,hi2⟩ hrec;dsimp only at hj hk hall hi hi2;subst hj;dsimp only;rw[<- hh,qk (by rw[zp (by omega) (by omega),zp (by omega) (by omega),zp (by omega) (by omega)]; rfl)]
  by_cases hlt:rows.length < 2 * h+1
  ·rw[show decide ((rows.length:Int) < 1+2 * (h:Int))=true from decide_eq_true (by omega),cond_true]
   obtain⟨r,e,h1,h2,h3,h4⟩:=cof_L7 hN a0 hW hst w hw hw8 i hi (by omega);rw[e,Option.bind_some,qk (by simp[zV]; omega),qk (by rw[zp (by omega) (by omega)]; rfl)];refine hrec (k - 1) _ (by omega) ⟨by simp,by simp; omega,fun x hx=>?_,h3,by simp; omega⟩
   rcases List.mem_append.1 hx with hx | hx
   ·exact hall x hx
   ·rw[List.mem_singleton.1 hx]; exact⟨h1,h2⟩
  ·rw[show decide ((rows.length:Int) < 1+2 * (h:Int))=false from decide_eq_false (by omega),cond_false]
   exact⟨_,rfl,⟨(by show rows.length=_; omega),fun r hr=>(hall r hr).1,fun r hr=>(hall r hr).2⟩⟩
 obtain⟨p,e,hp⟩:=key;refine⟨p,w,h,?_,hp,hw1,hw8,hh4⟩;unfold m_cof39;rw[e]
 rfl

def St6(x:zi):Prop:=(x.1=1\/x.1=2)/\1<=x.2.1/\x.2.1<=6/\x.2.2=(0,0,false)
theorem St12.six{x:zi} (h:St12 x):St6 x:=⟨h.1,h.2.1,(by have:=h.2.2.1; omega),h.2.2.2⟩
theorem stcheck_ok{N:Nat} {x:zi} (h:St6 x):xn N x=some 0:=by
 obtain⟨k,n,e⟩:=x;obtain⟨h1,h2,h3,h4⟩:=h;dsimp only at h1 h2 h3 h4;subst h4;unfold xn;dsimp only;rw[show decide (n < 1)=false from decide_eq_false (by omega),show decide (6 < n)=false from decide_eq_false (by omega)]
 rcases h1 with rfl | rfl<;>rfl
theorem stneeds_ok{N:Nat} {x:zi} (h:St6 x):m_stneeds N x=some 1:=by
 unfold m_stneeds;rw[stcheck_ok h,Option.bind_some];obtain⟨k,n,e⟩:=x;obtain⟨h1,h2,h3,h4⟩:=h;dsimp only at h1
 rcases h1 with rfl | rfl<;>rfl
theorem stmakes_ok{N:Nat} {x:zi} (h:St6 x):m_stmakes N x=some 1:=by
 unfold m_stmakes;rw[stcheck_ok h,Option.bind_some];obtain⟨k,n,e⟩:=x;obtain⟨h1,h2,h3,h4⟩:=h;dsimp only at h1
 rcases h1 with rfl | rfl<;>rfl
theorem chneeds_ok{N:Nat} (hN:300 < N) (l:List zi) (h1:l.length<=300) (h:∀ x∈l,St6 x):qZ N l=some (l.length:Int):=by
 have hL:m_chtotN_L1 N l N ((0:Int),(0:Int))=some (l.length:Int):=by
  refine zg (fun k (d:Int×Int)=>∃ j:Nat,j+k=l.length/\d=((j:Int),(j:Int))) _ ?_ N l.length _ (by omega) ⟨0,by omega,rfl⟩;rintro k d rec ⟨j,hj,rfl⟩ hrec;dsimp only
  by_cases hlt:j < l.length
  ·obtain⟨x,hx⟩:∃ x,l[j]?=some x:=⟨_,List.getElem?_eq_getElem hlt⟩
   rw[show decide ((j:Int) < (l.length:Int))=true from decide_eq_true (by omega),cond_true,qk (by rw[qy hlt]; rfl),Int.toNat_natCast,zv hx,stneeds_ok (h x (List.mem_of_getElem? hx)),Option.bind_some,qk (by rw[zp (by omega) (by omega)]; rfl),qk (by rw[zp (by omega) (by omega)]; rfl)];exact hrec (k - 1) _ (by omega) ⟨j+1,by omega,rfl⟩
  ·rw[show decide ((j:Int) < (l.length:Int))=false from decide_eq_false (by omega),cond_false]
   congr 1
   omega
 unfold qZ m_chtotN;rw[hL]
 rfl
theorem chmakes_ok{N:Nat} (hN:300 < N) (l:List zi) (h1:l.length<=300) (h:∀ x∈l,St6 x):m_chmakes N l=some (l.length:Int):=by
 have hL:m_chtotM_L1 N l N ((0:Int),(0:Int))=some (l.length:Int):=by
  refine zg (fun k (d:Int×Int)=>∃ j:Nat,j+k=l.length/\d=((j:Int),(j:Int))) _ ?_ N l.length _ (by omega) ⟨0,by omega,rfl⟩;rintro k d rec ⟨j,hj,rfl⟩ hrec;dsimp only
  by_cases hlt:j < l.length
  ·obtain⟨x,hx⟩:∃ x,l[j]?=some x:=⟨_,List.getElem?_eq_getElem hlt⟩
   rw[show decide ((j:Int) < (l.length:Int))=true from decide_eq_true (by omega),cond_true,qk (by rw[qy hlt]; rfl),Int.toNat_natCast,zv hx,stmakes_ok (h x (List.mem_of_getElem? hx)),Option.bind_some,qk (by rw[zp (by omega) (by omega)]; rfl),qk (by rw[zp (by omega) (by omega)]; rfl)];exact hrec (k - 1) _ (by omega) ⟨j+1,by omega,rfl⟩
  ·rw[show decide ((j:Int) < (l.length:Int))=false from decide_eq_false (by omega),cond_false]
   congr 1
   omega
 unfold m_chmakes m_chtotM;rw[hL]
 rfl
theorem chrow_ok{N:Nat} (hN:300 < N) (l:List zi) (h1:l.length<=16) (h0:1<=l.length) (h:∀ x∈l,St6 x):m_chrow N l=some 0:=by
 have hL:m_chrow_L1 N l N (0:Int)=some (.inl ()):=by
  refine zg (fun k (d:Int)=>∃ j:Nat,j+k=l.length/\d=(j:Int)) _ ?_ N l.length _ (by omega) ⟨0,by omega,rfl⟩;rintro k d rec ⟨j,hj,rfl⟩ hrec
  by_cases hlt:j < l.length
  ·obtain⟨x,hx⟩:∃ x,l[j]?=some x:=⟨_,List.getElem?_eq_getElem hlt⟩
   rw[show decide ((j:Int) < (l.length:Int))=true from decide_eq_true (by omega),cond_true,qk (by rw[qy hlt]; rfl),Int.toNat_natCast,zv hx,stcheck_ok (h x (List.mem_of_getElem? hx)),Option.bind_some];rw[show(!(decide ((0:Int)=0)))=false from rfl,cond_false,qk (by rw[zp (by omega) (by omega)]; rfl)];exact hrec (k - 1) _ (by omega) ⟨j+1,by omega,rfl⟩
  ·rw[show decide ((j:Int) < (l.length:Int))=false from decide_eq_false (by omega),cond_false]
 unfold m_chrow;rw[show decide ((16:Int) < (l.length:Int))=false from decide_eq_false (by omega),cond_false,show decide ((l.length:Int)=0)=false from decide_eq_false (by omega),cond_false,hL,Option.bind_some];show Option.bind (qZ N l) (fun r3=>Option.bind (m_chmakes N l) fun r4=>cond (cond (cond (cond (decide (r3 < (1:Int))) true (decide ((16:Int) < r3))) true (decide (r4 < (1:Int)))) true (decide ((16:Int) < r4))) (some (5:Int)) (some (0:Int)))=_;rw[chneeds_ok hN l (by omega) h,Option.bind_some,chmakes_ok hN l (by omega) h,Option.bind_some,show decide ((l.length:Int) < 1)=false from decide_eq_false (by omega),show decide ((16:Int) < (l.length:Int))=false from decide_eq_false (by omega)]
 rfl
structure Ch6(p:List (List zi)) (w:Nat):Prop where
 few:p.length<=31
 odd:p.length % 2=1
 w1:1<=w
 w16:w<=16
 wide:∀ r∈p,r.length=w
 st:∀ r∈p,∀ x∈r,St6 x
theorem Ch6.row{p:List (List zi)} {w:Nat} (h:Ch6 p w) {j:Nat} {r:List zi} (hr:p[j]?=some r):r.length=w/\∀ x∈r,St6 x:=⟨h.wide r (List.mem_of_getElem? hr),h.st r (List.mem_of_getElem? hr)⟩
theorem chrows_ok{N:Nat} (hN:300 < N) {p:List (List zi)} {w:Nat} (h:Ch6 p w):m_chrows N p=some 0:=by
 have hf:=h.few;have ho:=h.odd;have h1:=h.w1;have h16:=h.w16;have hL1:m_chrows_L1 N p N (0:Int)=some (.inl ()):=by
  refine zg (fun k (d:Int)=>∃ j:Nat,j+k=p.length/\d=(j:Int)) _ ?_ N p.length _ (by omega) ⟨0,by omega,rfl⟩;rintro k d rec ⟨j,hj,rfl⟩ hrec
  by_cases hlt:j < p.length
  ·obtain⟨r,hr⟩:∃ r,p[j]?=some r:=⟨_,List.getElem?_eq_getElem hlt⟩
   obtain⟨hw,hs⟩:=h.row hr;rw[show decide ((j:Int) < (p.length:Int))=true from decide_eq_true (by omega),cond_true,qk (by rw[qy hlt]; rfl),Int.toNat_natCast,zv hr,chrow_ok hN r (by omega) (by omega) hs,Option.bind_some];rw[show(!(decide ((0:Int)=0)))=false from rfl,cond_false,qk (by rw[zp (by omega) (by omega)]; rfl)];exact hrec (k - 1) _ (by omega) ⟨j+1,by omega,rfl⟩
  ·rw[show decide ((j:Int) < (p.length:Int))=false from decide_eq_false (by omega),cond_false]
 have hL3:m_chrows_L3 N p N (1:Int)=some (.inl ()):=by
  refine zg (fun k (d:Int)=>∃ j:Nat,1<=j/\j+k=p.length/\d=(j:Int)) _ ?_ N (p.length - 1) _ (by omega) ⟨1,by omega,by omega,rfl⟩;rintro k d rec ⟨j,hj1,hj,rfl⟩ hrec
  by_cases hlt:j < p.length
  ·obtain⟨r,hr⟩:∃ r,p[j]?=some r:=⟨_,List.getElem?_eq_getElem hlt⟩
   obtain⟨hw,hs⟩:=h.row hr;obtain⟨r2,hr2⟩:∃ r,p[j - 1]?=some r:=⟨_,List.getElem?_eq_getElem (by omega)⟩
   obtain⟨hw2,hs2⟩:=h.row hr2;have e1:(j:Int) - 1=((j - 1:Nat):Int):=by omega
   rw[show decide ((j:Int) < (p.length:Int))=true from decide_eq_true (by omega),cond_true,qk (by rw[qy hlt,zp (by omega) (by omega),e1,qy (by omega)]; rfl),e1,Int.toNat_natCast,Int.toNat_natCast,zv hr,zv hr2,chneeds_ok hN r (by omega) hs,Option.bind_some,chmakes_ok hN r2 (by omega) hs2,Option.bind_some];rw[show(!(decide ((r.length:Int)=(r2.length:Int))))=false by rw[hw,hw2]; simp,cond_false,qk (by rw[zp (by omega) (by omega)]; rfl)];exact hrec (k - 1) _ (by omega) ⟨j+1,by omega,by omega,rfl⟩
  ·rw[show decide ((j:Int) < (p.length:Int))=false from decide_eq_false (by omega),cond_false]
 unfold m_chrows;have e2:Int.tmod (p.length:Int) 2=(p.length:Int) % 2:=Int.tmod_eq_emod_of_nonneg (by omega);rw[show decide ((31:Int) < (p.length:Int))=false from decide_eq_false (by omega),cond_false,e2,show decide ((p.length:Int) % 2=0)=false from decide_eq_false (by omega),cond_false,hL1,Option.bind_some];show Option.bind (m_chrows_L3 N p N (1:Int)) (fun(o3:(Unit)⊕(Int))=>sm o3 (fun o3=>some (0:Int)) (fun q=>some q))=_;rw[hL3]
 rfl
theorem stloads_ok{N:Nat} (hN:300 < N) {x:zi} (h:St6 x):m_stloads N x [1]=some ([1],0):=by
 obtain⟨n,rfl⟩:∃ n,N=n+2:=⟨N - 2,by omega⟩
 have h3:m_stloads_L3 (n+2) [1] (n+2) (0:Int)=some (.inl ()):=rfl;have h5:m_stloads_L5 (n+2) 1 (n+2) ((0:Int),(List.replicate (1:Int).toNat (0:Int)))=some [1]:=rfl;unfold m_stloads;rw[stcheck_ok h,Option.bind_some,show(!(decide ((0:Int)=0)))=false from rfl,cond_false,stneeds_ok h,Option.bind_some,show(!(decide ((([1]:List Int).length:Int)=1)))=false from rfl,cond_false,h3,Option.bind_some];show Option.bind (m_stmakes (n+2) x) _=_;rw[stmakes_ok h,Option.bind_some,qk (by rfl),h5,Option.bind_some];obtain⟨k,m,e⟩:=x;obtain⟨h1,h2,h4,h6⟩:=h;dsimp only at h1
 rcases h1 with rfl | rfl<;>rfl

theorem chloads_L3_ok{N:Nat} (hN:300 < N) (w:Nat) (hw:w<=16):m_chloads_L3 N (w:Int) N ((0:Int),List.replicate w (0:Int))=some (List.replicate w 1):=by
 refine zg (fun k (d:Int×List Int)=>∃ j:Nat,j+k=w/\d=((j:Int),fil (fun _:Int=>(1:Int)) 0 (List.replicate w (0:Int)) j)) _ ?_ N w _ (by omega) ⟨0,by omega,by rw[fil_zero]; simp⟩;rintro k d rec ⟨j,hj,rfl⟩ hrec;dsimp only;rw[Int.toNat_natCast,List.length_replicate,Int.toNat_natCast];have hl:(fil (fun _:Int=>(1:Int)) 0 (List.replicate w (0:Int)) j).length=w:=by rw[fil_len _ _ _ _ (by simp; first | omega | decide | (refine(zT ?_).2 ⟨?_,?_⟩<;>omega) | (refine⟨by omega,(zT ?_).2 ⟨?_,?_⟩⟩<;>omega))]; simp
 by_cases hlt:j < w
 ·rw[show decide ((j:Int) < (w:Int))=true from decide_eq_true (by omega),cond_true,hl,qk (by rw[qy hlt,show decide (j < w)=true from decide_eq_true hlt]; rfl),qk (by rw[zp (by omega) (by omega)]; rfl)]
  rw[fil_set (fun _:Int=>(1:Int)) 0 (List.replicate w (0:Int)) j (by simp; first | omega | decide | (refine(zT ?_).2 ⟨?_,?_⟩<;>omega) | (refine⟨by omega,(zT ?_).2 ⟨?_,?_⟩⟩<;>omega)) 0 (by simp[hlt])];exact hrec (k - 1) _ (by omega) ⟨j+1,by omega,rfl⟩
 ·rw[show decide ((j:Int) < (w:Int))=false from decide_eq_false (by omega),cond_false]
  have:j=(List.replicate w (0:Int)).length:=by simp; omega
  rw[this,fil_all]
  simp
theorem chloads_L6_ok{N:Nat} (hN:300 < N) (p:List (List zi)) (y:Nat) (r:List zi) (hr:p[y]?=some r) (hw:r.length<=16) (hs:∀ x∈r,St6 x) (v:List (List Int)) :
  m_chloads_L6 N p (y:Int) v N (List.replicate r.length (1:Int),(0:Int),([]:List Int))=some (.inl (List.replicate r.length 1)):=by
 refine zg (fun k (d:List Int×Int×List Int)=>∃ j:Nat,j+k=r.length/\d=(List.replicate (r.length - j) 1,(j:Int),List.replicate j 1)) _ ?_ N r.length _ (by omega) ⟨0,by omega,by simp⟩;rintro k d rec ⟨j,hj,rfl⟩ hrec;dsimp only;rw[Int.toNat_natCast,zv hr]
 by_cases hlt:j < r.length
 ·obtain⟨x,hx⟩:∃ x,r[j]?=some x:=⟨_,List.getElem?_eq_getElem hlt⟩
  have hsx:=hs x (List.mem_of_getElem? hx);rw[show decide ((j:Int) < (r.length:Int))=true from decide_eq_true (by omega),cond_true,qk (by rw[qy hlt]; rfl),Int.toNat_natCast,zv hx,stneeds_ok hsx,Option.bind_some];have hg:((decide ((0:Int)<=1))&&(decide ((1:Int)<=((List.replicate (r.length - j) (1:Int)).length:Int))))=true:=by
   rw[List.length_replicate]
   simp
   omega
  have ht:(List.replicate (r.length - j) (1:Int)).take (1:Int).toNat=[1]:=by
   rw[show r.length - j=(r.length - j - 1)+1 by omega]
   rfl
  have hd:(List.replicate (r.length - j) (1:Int)).drop (1:Int).toNat=List.replicate (r.length - (j+1)) 1:=by
   show(List.replicate (r.length - j) (1:Int)).drop 1=_;rw[List.drop_replicate]
   congr 1
  rw[hg,ht,stloads_ok hN hsx,qk (by rfl),Option.bind_some];rw[show(!(decide ((0:Int)=0)))=false from rfl,cond_false,qk (by rfl),qk (by simp[zV]; omega),qk (by rw[zp (by omega) (by omega)]; rfl),hd];exact hrec (k - 1) _ (by omega) ⟨j+1,by omega,by rw[List.replicate_succ']; rfl⟩
 ·rw[show decide ((j:Int) < (r.length:Int))=false from decide_eq_false (by omega),cond_false,show j=r.length by omega]
theorem chcheck_ok{N:Nat} (hN:300 < N) {p:List (List zi)} {w:Nat} (h:Ch6 p w):m_chcheck N p=some 0:=by
 have hf:=h.few;have ho:=h.odd;have h1:=h.w1;have h16:=h.w16;have hL4:∃ q,m_chloads_L4 N p N ((0:Int),[List.replicate w (1:Int)])=some q/\q.1=0:=by
  refine loopF_inv (fun k (d:Int×List (List Int))=>∃ j:Nat,j+k=p.length/\d=((j:Int),List.replicate (j+1) (List.replicate w (1:Int)))) (fun(q:Int×List (List Int))=>q.1=0) ?_ N p.length _ (by omega) ⟨0,by omega,rfl⟩;rintro k d rec ⟨j,hj,rfl⟩ hrec;dsimp only
  by_cases hlt:j < p.length
  ·obtain⟨r,hr⟩:∃ r,p[j]?=some r:=⟨_,List.getElem?_eq_getElem hlt⟩
   obtain⟨hw,hs⟩:=h.row hr;have hz:=chloads_L6_ok hN p j r hr (by omega) hs (List.replicate (j+1) (List.replicate w (1:Int)));rw[hw]at hz;have hg:(List.replicate (j+1) (List.replicate w (1:Int))).getD j []=List.replicate w 1:=zv (by simp);rw[show decide ((j:Int) < (p.length:Int))=true from decide_eq_true (by omega),cond_true,qk (by rw[qy hlt]; rfl),qk (by rw[qy (by simp),Int.toNat_natCast]; simp),Int.toNat_natCast,zv hr,chmakes_ok hN r (by omega) hs,Option.bind_some,qk (by simp; first | omega | decide | (refine(zT ?_).2 ⟨?_,?_⟩<;>omega) | (refine⟨by omega,(zT ?_).2 ⟨?_,?_⟩⟩<;>omega)),hg,hz,Option.bind_some];have hc:zV 24 ((List.replicate (j+1) (List.replicate w (1:Int))).length+[List.replicate w (1:Int)].length)=true:=by simp[zV]; omega
   refine Eq.mp (by rfl) (?_:∃ q,(gd (zV 24 ((List.replicate (j+1) (List.replicate w (1:Int))).length+[List.replicate w (1:Int)].length)&&true) (gd (zq ((j:Int)+1)&&true) (rec ((j:Int)+1,List.replicate (j+1) (List.replicate w (1:Int))++[List.replicate w (1:Int)]))))=some q/\q.1=0);rw[hc,qk (by rfl),qk (by rw[zp (by omega) (by omega)]; rfl)];exact hrec (k - 1) _ (by omega) ⟨j+1,by omega,by rw[List.replicate_succ' (n:=j+1)]; rfl⟩
  ·rw[show decide ((j:Int) < (p.length:Int))=false from decide_eq_false (by omega),cond_false]
   exact⟨_,rfl,rfl⟩
 obtain⟨q,hq,hq0⟩:=hL4;obtain⟨r,hr⟩:∃ r,p[0]?=some r:=⟨_,List.getElem?_eq_getElem (by omega)⟩
 obtain⟨hw,hs⟩:=h.row hr;have hl:∃ z,m_chloads N p=some (z,0):=by
  unfold m_chloads;rw[chrows_ok hN h,Option.bind_some,show(!(decide ((0:Int)=0)))=false from rfl,cond_false,qk (by simp[ze]; omega),show(0:Int).toNat=0 from rfl,zv hr,chneeds_ok hN r (by omega) hs,Option.bind_some,hw];rw[qk (by simp; first | omega | decide | (refine(zT ?_).2 ⟨?_,?_⟩<;>omega) | (refine⟨by omega,(zT ?_).2 ⟨?_,?_⟩⟩<;>omega)),Int.toNat_natCast,chloads_L3_ok hN w h16,Option.bind_some,qk (by rw[zp (by omega) (by omega)]; simp; first | omega | decide | (refine(zT ?_).2 ⟨?_,?_⟩<;>omega) | (refine⟨by omega,(zT ?_).2 ⟨?_,?_⟩⟩<;>omega)),qk (by rfl)];rw[show(List.replicate (1:Int).toNat ([]:List Int)).set 0 (List.replicate w 1)=[List.replicate w (1:Int)] from rfl,hq,Option.bind_some,hq0];exact⟨_,rfl⟩
 obtain⟨z,hz⟩:=hl;unfold m_chcheck;rw[hz]
 rfl
theorem pplain_ok{N:Nat} (hN:300 < N) {p:List (List zi)} {w:Nat} (h:Ch6 p w):m_pplain N p=some true:=by
 have hf:=h.few;have h16:=h.w16;have hL3:∀ (y:Nat) (r:List zi),p[y]?=some r->m_pplain_L3 N p (y:Int) N (0:Int)=some (.inl ()):=fun y r hr=>by
  obtain⟨hw,hs⟩:=h.row hr;refine zg (fun k (d:Int)=>∃ j:Nat,j+k=r.length/\d=(j:Int)) _ ?_ N r.length _ (by omega) ⟨0,by omega,rfl⟩;rintro k d rec ⟨j,hj,rfl⟩ hrec;rw[Int.toNat_natCast,zv hr]
  by_cases hlt:j < r.length
  ·obtain⟨x,hx⟩:∃ x,r[j]?=some x:=⟨_,List.getElem?_eq_getElem hlt⟩
   obtain⟨hk,_⟩:=hs x (List.mem_of_getElem? hx);rw[show decide ((j:Int) < (r.length:Int))=true from decide_eq_true (by omega),cond_true,qk (by rw[qy hlt]; rfl),Int.toNat_natCast,zv hx];rw[show cond (!(decide (x.1=(1:Int)))) (!(decide (x.1=(2:Int)))) false=false by rcases hk with e | e<;>rw[e]<;>rfl,cond_false,qk (by rw[zp (by omega) (by omega)]; rfl)];exact hrec (k - 1) _ (by omega) ⟨j+1,by omega,rfl⟩
  ·rw[show decide ((j:Int) < (r.length:Int))=false from decide_eq_false (by omega),cond_false]
 have hL2:m_pplain_L2 N p N (0:Int)=some (.inl ()):=by
  refine zg (fun k (d:Int)=>∃ j:Nat,j+k=p.length/\d=(j:Int)) _ ?_ N p.length _ (by omega) ⟨0,by omega,rfl⟩;rintro k d rec ⟨j,hj,rfl⟩ hrec
  by_cases hlt:j < p.length
  ·obtain⟨r,hr⟩:∃ r,p[j]?=some r:=⟨_,List.getElem?_eq_getElem hlt⟩
   have hg:zq ((j:Int)+1)=true:=zp (by omega) (by omega);rw[show decide ((j:Int) < (p.length:Int))=true from decide_eq_true (by omega),cond_true,qk (by rw[qy hlt]; rfl),hL3 j r hr,Option.bind_some]
   have:=hrec (k - 1) ((j+1:Nat):Int) (by omega) ⟨j+1,by omega,rfl⟩
   refine Eq.trans ?_ this;refine Eq.trans (b:=gd (zq ((j:Int)+1)&&true) (rec ((j:Int)+1))) rfl ?_;rw[hg]
   rfl
  ·rw[show decide ((j:Int) < (p.length:Int))=false from decide_eq_false (by omega),cond_false]
 unfold m_pplain;rw[chcheck_ok hN h,Option.bind_some,show(!(decide ((0:Int)=0)))=false from rfl,cond_false,hL2,Option.bind_some]

def cnt(y:Int) (l:List zi):Nat:=l.countP fun x=>decide (x.2.1=y)
theorem cnt_take{y:Int} {l:List zi} {j:Nat} {x:zi} (h:l[j]?=some x):cnt y (l.take (j+1))=cnt y (l.take j)+if x.2.1=y then 1 else 0:=by
 unfold cnt;rw[List.take_succ_eq_append_getElem (List.getElem?_eq_some_iff.1 h).1,List.countP_append];obtain⟨h1,h2⟩:=List.getElem?_eq_some_iff.1 h;rw[h2]
 simp[List.countP_cons]
theorem cnt_le(y:Int) (l:List zi):cnt y l<=l.length:=List.countP_le_length
theorem pcount_ok{N:Nat} (hN:300 < N) (l:List zi) (h:l.length<=300) (y:Int):m_pcount N l y=some (cnt y l:Int):=by
 have hL:m_pcount_L1 N l y N ((0:Int),(0:Int))=some (cnt y l:Int):=by
  unfold m_pcount_L1;refine zg (fun k d=>∃ j:Nat,j+k=l.length/\d=((cnt y (l.take j):Int),(j:Int))) _ ?_ N l.length _ (by omega) ⟨0,by omega,by simp[cnt]⟩;rintro k d rec ⟨j,hj,rfl⟩ hrec;dsimp only;have hcl:=cnt_le y (l.take j);rw[List.length_take]at hcl
  by_cases hlt:j < l.length
  ·obtain⟨x,hx⟩:∃ x,l[j]?=some x:=⟨_,List.getElem?_eq_getElem hlt⟩
   have hc:=cnt_take (y:=y) hx;rw[show decide ((j:Int) < (l.length:Int))=true from decide_eq_true (by omega),cond_true,qk (by rw[qy hlt]; rfl),Int.toNat_natCast,zv hx]
   by_cases hy:x.2.1=y
   ·rw[if_pos hy]at hc
    rw[decide_eq_true hy,cond_true,qk (by rw[zp (by omega) (by omega)]; rfl),qk (by rw[zp (by omega) (by omega)]; rfl)];exact hrec (k - 1) _ (by omega) ⟨j+1,by omega,by rw[hc]; rfl⟩
   ·rw[if_neg hy]at hc
    rw[decide_eq_false hy,cond_false,qk (by rw[zp (by omega) (by omega)]; rfl)];exact hrec (k - 1) _ (by omega) ⟨j+1,by omega,by rw[hc]; rfl⟩
  ·rw[show decide ((j:Int) < (l.length:Int))=false from decide_eq_false (by omega),cond_false,List.take_of_length_le (by omega)]
 unfold m_pcount;rw[hL,Option.bind_some]

def fstY(l:List zi):Int:=l.foldl (fun b x=>if x.2.1 < b then x.2.1 else b) (l.getD 0 zG.zero).2.1
theorem chfirst_ok{N:Nat} (hN:300 < N) (l:List zi) (h:l.length<=300) (h0:1<=l.length):m_chfirst N l=some (fstY l):=by
 obtain⟨b,hb⟩:∃ b,b=(l.getD 0 zG.zero).2.1:=⟨_,rfl⟩
 have hL:m_chfirst_L1 N l N (b,(0:Int))=some (l.foldl (fun b x=>if x.2.1 < b then x.2.1 else b) b):=by
  unfold m_chfirst_L1;refine zg (fun k d=>∃ j:Nat,j+k=l.length/\d=((l.take j).foldl (fun b x=>if x.2.1 < b then x.2.1 else b) b,(j:Int))) _ ?_ N l.length _ (by omega) ⟨0,by omega,by simp⟩;rintro k d rec ⟨j,hj,rfl⟩ hrec;dsimp only
  by_cases hlt:j < l.length
  ·obtain⟨x,hx⟩:∃ x,l[j]?=some x:=⟨_,List.getElem?_eq_getElem hlt⟩
   have hc:(l.take (j+1)).foldl (fun(b:Int) (x:zi)=>if x.2.1 < b then x.2.1 else b) b=if x.2.1 < (l.take j).foldl (fun(b:Int) (x:zi)=>if x.2.1 < b then x.2.1 else b) b then x.2.1 else(l.take j).foldl (fun(b:Int) (x:zi)=>if x.2.1 < b then x.2.1 else b) b:=by
    rw[List.take_succ_eq_append_getElem hlt,List.foldl_append];obtain⟨h1,h2⟩:=List.getElem?_eq_some_iff.1 hx;rw[h2]
    rfl
   rw[show decide ((j:Int) < (l.length:Int))=true from decide_eq_true (by omega),cond_true,qk (by rw[qy hlt]; rfl),qk (by rw[zp (by omega) (by omega)]; rfl),Int.toNat_natCast,zv hx];exact hrec (k - 1) _ (by omega) ⟨j+1,by omega,by rw[hc]; rfl⟩
  ·rw[show decide ((j:Int) < (l.length:Int))=false from decide_eq_false (by omega),cond_false,List.take_of_length_le (by omega)]
 unfold m_chfirst;rw[show decide ((l.length:Int)=0)=false from decide_eq_false (by omega),cond_false,qk (by simp[ze]; omega),show(0:Int).toNat=0 from rfl,<- hb,hL,Option.bind_some];unfold fstY;rw[hb]
def cnts(y:Int) (p:List (List zi)):Nat:=(p.map (cnt y)).sum
theorem cnts_take{y:Int} {p:List (List zi)} {j:Nat} {r:List zi} (h:p[j]?=some r):cnts y (p.take (j+1))=cnts y (p.take j)+cnt y r:=by
 unfold cnts;obtain⟨h1,h2⟩:=List.getElem?_eq_some_iff.1 h;rw[List.take_succ_eq_append_getElem h1,h2]
 simp
theorem cnts_le{y:Int} {w:Nat}:∀ {p:List (List zi)},(∀ r∈p,r.length<=w)->cnts y p<=p.length * w
 | [],_=>by simp[cnts]
 | r :: p,h=>by
  have h1:=cnts_le (y:=y) (p:=p) fun r hr=>h r (List.mem_cons_of_mem _ hr)
  have h2:=Nat.le_trans (cnt_le y r) (h r List.mem_cons_self);have h3:cnts y (r :: p)=cnt y r+cnts y p:=by simp[cnts]
  rw[h3,List.length_cons,Nat.succ_mul];omega
theorem ploop_L4_ok{N:Nat} (hN:300 < N) {p:List (List zi)} {w:Nat} (h:Ch6 p w) (a j:Nat) (hj:j<=p.length) (y k:Int) (hy:((p.getD (j:Int).toNat []).getD k.toNat zG.zero).2.1=y) (ha:a<=16):m_ploop_L4 N p j k N ((a:Int),(0:Int))=some ((a+cnts y (p.take j):Nat):Int):=by
 have hf:=h.few;have h16:=h.w16;have hlen:(p.take j).length=j:=by rw[List.length_take]; omega
 unfold m_ploop_L4;refine zg (fun k d=>∃ i:Nat,i+k=j/\d=(((a+cnts y (p.take i):Nat):Int),(i:Int))) _ ?_ N j _ (by omega) ⟨0,by omega,by simp[cnts]⟩;rintro k' d rec ⟨i,hi,rfl⟩ hrec;dsimp only;rw[Int.toNat_natCast,hlen];have hb:=cnts_le (y:=y) (w:=16) (p:=p.take i) fun r hr=>by rw[h.wide r (List.mem_of_mem_take hr)]; exact h16
 rw[List.length_take]at hb
 by_cases hlt:i < j
 ·obtain⟨r,hr⟩:∃ r,p[i]?=some r:=⟨_,List.getElem?_eq_getElem (by omega)⟩
  have hr2:(p.take j)[i]?=some r:=by rw[List.getElem?_take_of_lt hlt]; exact hr
  have hc:=cnts_take (y:=y) hr;have hw:=(h.row hr).1;have hcl:=cnt_le y r;rw[Int.toNat_natCast]at hy;rw[show decide ((i:Int) < (j:Int))=true from decide_eq_true (by omega),cond_true,qk (by rw[qy hlt]; rfl),Int.toNat_natCast,zv hr2,hy,pcount_ok hN r (by omega) y,Option.bind_some,qk (by rw[zp (by omega) (by omega)]; rfl),qk (by rw[zp (by omega) (by omega)]; rfl)];exact hrec (k' - 1) _ (by omega) ⟨i+1,by omega,by rw[hc]; simp[Int.add_assoc]⟩
 ·rw[show decide ((i:Int) < (j:Int))=false from decide_eq_false (by omega),cond_false,show i=j by omega]

def loopN(p:List (List zi)) (j k:Nat):Nat:=
 (if ((p.getD j []).getD k zG.zero).2.1=fstY (p.getD 0 [])then(p.getD 0 []).length else 0)+cnts ((p.getD j []).getD k zG.zero).2.1 (p.take j) +
  if j % 2=0 then cnt ((p.getD j []).getD k zG.zero).2.1 ((p.getD j []).drop (k+1))else cnt ((p.getD j []).getD k zG.zero).2.1 ((p.getD j []).take k)
theorem ploop_ok{N:Nat} (hN:300 < N) {p:List (List zi)} {w:Nat} (h:Ch6 p w) (j k:Nat) (hj:j < p.length) (hk:k < w):m_ploop N p (j:Int) (k:Int)=some ((((p.getD j []).getD k zG.zero).2.1,(loopN p j k:Int)),0):=by
 have hf:=h.few;have h16:=h.w16;obtain⟨r,hr⟩:∃ r,p[j]?=some r:=⟨_,List.getElem?_eq_getElem hj⟩
 obtain⟨r0,hr0⟩:∃ r,p[0]?=some r:=⟨_,List.getElem?_eq_getElem (by omega)⟩
 have hw:=(h.row hr).1;have hw0:=(h.row hr0).1;have e1:p.getD j []=r:=zv hr;have e0:p.getD 0 []=r0:=zv hr0;obtain⟨y,hy⟩:∃ y,y=(r.getD k zG.zero).2.1:=⟨_,rfl⟩
 have hb:=cnts_le (y:=y) (w:=16) (p:=p.take j) fun r hr=>by rw[h.wide r (List.mem_of_mem_take hr)]; exact h16
 rw[List.length_take]at hb;have hc1:=cnt_le y (r.drop (k+1));have hc2:=cnt_le y (r.take k);rw[List.length_drop]at hc1;rw[List.length_take]at hc2;unfold loopN;rw[e1,e0,<- hy];unfold m_ploop;rw[pplain_ok hN h,Option.bind_some,show decide ((j:Int) < 0)=false from decide_eq_false (by omega),show decide ((p.length:Int)<=(j:Int))=false from decide_eq_false (by omega),show decide ((k:Int) < 0)=false from decide_eq_false (by omega)];rw[qk (by rw[qy hj]; rfl),Int.toNat_natCast,e1,show decide ((r.length:Int)<=(k:Int))=false from decide_eq_false (by omega)];rw[show(cond (cond (cond (cond (!true) true false) true false) true false) true false)=false from rfl,cond_false,qk (by rw[qy hj,qy (by omega)]; rfl),qk (by simp[ze]; omega),show(0:Int).toNat=0 from rfl,e0,chfirst_ok hN r0 (by omega) (by have:=h.w1; omega),Option.bind_some,Int.toNat_natCast,<- hy];obtain⟨a,ha,hae⟩:∃ a:Nat,a<=16/\(if y=fstY r0 then r0.length else 0)=a:=⟨_,by split<;>omega,rfl⟩
 have hcond:(cond (decide (y=fstY r0)) (gd (ze (0:Int) p.length&&true) (some (r0.length:Int))) (some (0:Int)))=some (a:Int):=by
  by_cases e:y=fstY r0
  ·rw[if_pos e]at hae
   rw[decide_eq_true e,cond_true,qk (by simp[ze]; omega),hae]
  ·rw[if_neg e]at hae
   rw[decide_eq_false e,cond_false,<- hae]
   rfl
 rw[hcond,Option.bind_some,hae,qk (by simp; omega),ploop_L4_ok hN h a j (by omega) y k (by rw[Int.toNat_natCast,e1,Int.toNat_natCast]; exact hy.symm) ha,Option.bind_some];have ht:(j:Int).tmod 2=((j % 2:Nat):Int):=rfl;rw[ht]
 by_cases hev:j % 2=0
 ·rw[if_pos hev,show decide (((j % 2:Nat):Int)=0)=true from decide_eq_true (by omega),cond_true,qk (by rw[qy hj,zp (by omega) (by omega)]; simp; omega)]
  rw[show((k:Int)+1).toNat=k+1 by omega,pcount_ok hN _ (by rw[List.length_drop]; omega),Option.bind_some,qk (by rw[zp (by omega) (by omega)]; rfl)]
  simp
 ·rw[if_neg hev,show decide (((j % 2:Nat):Int)=0)=false from decide_eq_false (by omega),cond_false,qk (by rw[qy hj]; simp; omega)]
  rw[pcount_ok hN _ (by rw[List.length_take]; omega),Option.bind_some,qk (by rw[zp (by omega) (by omega)]; rfl)]
  simp

theorem Ch12.six{p:List (List zi)} {w h:Nat} (c:Ch12 p w (2 * h+1)) (h1:1<=w) (h8:w<=8) (h4:h<=4):Ch6 p w:=
 ⟨by have:=c.rows; omega,by have:=c.rows; omega,h1,by omega,c.wide,fun r hr x hx=>(c.st r hr x hx).six⟩
theorem ploop_out{N:Nat} (hN:300 < N) {p:List (List zi)} {w:Nat} (h:Ch6 p w) (a b:Int) (hab:¬(0<=a/\a < (p.length:Int)/\0<=b/\b < (w:Int))):m_ploop N p a b=some (((0:Int),(0:Int)),1):=by
 unfold m_ploop;rw[pplain_ok hN h,Option.bind_some]
 by_cases h1:a < 0
 ·rw[decide_eq_true h1,qk (by cases ze a p.length<;>rfl)]
  rfl
 rw[decide_eq_false h1]
 by_cases h2:(p.length:Int)<=a
 ·rw[decide_eq_true h2,qk (by cases ze a p.length<;>rfl)]
  rfl
 rw[decide_eq_false h2]
 by_cases h3:b < 0
 ·rw[decide_eq_true h3,qk (by cases ze a p.length<;>rfl)]
  rfl
 obtain⟨j,rfl⟩:∃ j:Nat,a=(j:Int):=⟨a.toNat,by omega⟩
 have hj:j < p.length:=by omega
 obtain⟨r,hr⟩:∃ r,p[j]?=some r:=⟨_,List.getElem?_eq_getElem hj⟩
 have hw:=(h.row hr).1;rw[decide_eq_false h3,qk (by rw[qy hj]; rfl),Int.toNat_natCast,zv hr,show decide ((r.length:Int)<=b)=true from decide_eq_true (by omega)]
 rfl
theorem law_out{N:Nat} (hN:300 < N) (hlv:qY N=some true) (x:Kt3) (hW:0<=x.1/\x.1<=255) (hH:0<=x.2.1/\x.2.1<=255) (hst:∀ c∈x.2.2,0<=c/\c<=255) (a b:Int)
  (hin:∀ (p:List (List zi)) (w h:Nat),m_cof39 N x=some p->Ch12 p w (2 * h+1)->1<=w->w<=8->h<=4->0<=a->a < (p.length:Int)->0<=b->b < (w:Int)->m_lawPL N x a b=some true):m_lawPL N x a b=some true:=by
 obtain⟨p,w,h,hp,hc,h1,h8,h4⟩:=cof39_ok hN x hW hH hst
 by_cases hab:0<=a/\a < (p.length:Int)/\0<=b/\b < (w:Int)
 ·exact hin p w h hp hc h1 h8 h4 hab.1 hab.2.1 hab.2.2.1 hab.2.2.2
 have h6:=hc.six h1 h8 h4;have ho:=h6.odd;obtain⟨r0,hr0⟩:∃ r,p[0]?=some r:=⟨_,List.getElem?_eq_getElem (by omega)⟩
 have hw0:=(h6.row hr0).1;have hgo:(cond (cond (decide ((1:Int)=(1:Int))) (GTy.beq zo ((0:Int),(0:Int)) ((0:Int),(0:Int))) false) (qY N) (some false))=some true:=hlv;unfold m_lawPL;rw[hp,Option.bind_some,ploop_out hN h6 a b hab,Option.bind_some,show(0:Int).toNat=0 from rfl,zv hr0];have hcond:cond (cond (cond (decide (a < (0:Int))) true (decide ((p.length:Int)<=a))) true (decide (b < (0:Int)))) true (decide ((r0.length:Int)<=b))=true:=by
  by_cases h1:a < 0
  ·rw[decide_eq_true h1]; rfl
  by_cases h2:(p.length:Int)<=a
  ·rw[decide_eq_false h1,decide_eq_true h2]; rfl
  by_cases h3:b < 0
  ·rw[decide_eq_false h1,decide_eq_false h2,decide_eq_true h3]; rfl
  rw[decide_eq_false h1,decide_eq_false h2,decide_eq_false h3,decide_eq_true (by omega)]; rfl
 rw[qk (by rw[show ze (0:Int) p.length=true by simp[ze]; omega]; cases (cond (cond (decide (a < (0:Int))) true (decide ((p.length:Int)<=a))) true (decide (b < (0:Int))))<;>rfl),hcond,cond_true];show(Option.bind (cond (cond (decide ((1:Int)=(1:Int))) (GTy.beq zo ((0:Int),(0:Int)) ((0:Int),(0:Int))) false) (qY N) (some false)) _)=_;rw[hgo,Option.bind_some]
 rfl

theorem law_in{N:Nat} (hN:300 < N) (hlv:qY N=some true) (x:Kt3) {p:List (List zi)} {w:Nat} (hp:m_cof39 N x=some p) (h6:Ch6 p w) (j k:Nat) (hj:j < p.length) (hk:k < w)
  (f:Kt13) (hf:m_mof N p=some (f,0)) (h6f:f.1.length=6) (l:zj) (t:List zj) (ht:f.1[(((p.getD j []).getD k zG.zero).2.1 - 1).toNat]?=some t) (hl:t[loopN p j k]?=some l) (hbed:decide (l.1=1)=decide (((p.getD j []).getD k zG.zero).1=2)) (u:zb) (hth:l.2.2.1=[u])
  (hu:u=if j=0 then(fstY (p.getD 0 []),(k:Int))else(((p.getD (j - 1) []).getD k zG.zero).2.1,(loopN p (j - 1) k:Int))):m_lawPL N x j k=some true:=by
 have hfew:=h6.few;obtain⟨r,hr⟩:∃ r,p[j]?=some r:=⟨_,List.getElem?_eq_getElem hj⟩
 obtain⟨r0,hr0⟩:∃ r,p[0]?=some r:=⟨_,List.getElem?_eq_getElem (by omega)⟩
 obtain⟨hw,hst⟩:=h6.row hr;have hw0:=(h6.row hr0).1;have h16:=h6.w16;have e1:p.getD j []=r:=zv hr;have e0:p.getD 0 []=r0:=zv hr0;obtain⟨s,hs⟩:∃ s,r[k]?=some s:=⟨_,List.getElem?_eq_getElem (by omega)⟩
 have es:r.getD k zG.zero=s:=zv hs;have hs6:=hst s (List.mem_of_getElem? hs);obtain⟨y,hy⟩:∃ y:Nat,s.2.1=(y:Int)+1:=⟨(s.2.1 - 1).toNat,by have:=hs6.2.1; omega⟩
 have hy6:y < 6:=by have:=hs6.2.2.1; omega
 rw[e1,es]at ht hbed;rw[hy,show((y:Int)+1 - 1).toNat=y by omega]at ht;have hploop:=ploop_ok hN h6 j k hj hk;rw[e1,es]at hploop;obtain⟨n,hn⟩:∃ n,loopN p j k=n:=⟨_,rfl⟩
 rw[hn]at hploop hl;have hnt:n < t.length:=(List.getElem?_eq_some_iff.1 hl).1;have ewr:IntKind.wrap .u8 (s.2.1 - 1)=(y:Int):=by rw[wrap8 (by omega) (by omega)]; omega
 unfold m_lawPL;rw[hp,Option.bind_some,hploop,Option.bind_some];dsimp only;rw[qk (by rw[show ze (0:Int) p.length=true by simp[ze]; omega]; cases (cond (cond (decide ((j:Int) < (0:Int))) true (decide ((p.length:Int)<=(j:Int)))) true (decide ((k:Int) < (0:Int))))<;>rfl)];rw[show decide ((j:Int) < 0)=false from decide_eq_false (by omega),show decide ((p.length:Int)<=(j:Int))=false from decide_eq_false (by omega),show decide ((k:Int) < 0)=false from decide_eq_false (by omega),show(0:Int).toNat=0 from rfl,e0,show decide ((r0.length:Int)<=(k:Int))=false from decide_eq_false (by omega)];rw[show(cond (cond (cond false true false) true false) true false)=false from rfl,cond_false,hf,Option.bind_some];dsimp only;rw[Int.toNat_natCast,Int.toNat_natCast,e1,es,qk (by rw[qy hj,qy (by omega)]; rfl),ewr,h6f,Int.toNat_natCast,zv ht];rw[qk (by rw[qy hy6]; cases (cond (cond (cond (cond (!(decide ((0:Int)=(0:Int)))) true (!(decide ((0:Int)=(0:Int))))) true (!(decide (s.2.1=s.2.1)))) true (!(decide (((6:Nat):Int)=(6:Int))))) true (decide ((n:Int) < (0:Int))))<;>rfl)];rw[decide_eq_true (rfl:s.2.1=s.2.1),show decide ((n:Int) < 0)=false from decide_eq_false (by omega),show decide ((t.length:Int)<=(n:Int))=false from decide_eq_false (by omega)];rw[show(cond (cond (cond (cond (cond (!(decide ((0:Int)=(0:Int)))) true (!(decide ((0:Int)=(0:Int))))) true (!true)) true (!(decide (((6:Nat):Int)=(6:Int))))) true false) true false)=false from rfl,cond_false];rw[qk (by rw[qy hy6,qy hnt]; rfl),qk (by simp[ze]; omega),chfirst_ok hN r0 (by omega) (by have:=h6.w1; omega),Option.bind_some];have hunder:(cond (decide ((0:Int) < (j:Int))) (gd ((zq ((j:Int) - (1:Int)))&&(true)) <|
  Option.bind (m_ploop N p ((j:Int) - (1:Int)) (k:Int)) fun r7=>
  some (r7.2,r7.1.1,r7.1.2)) (some ((0:Int),fstY r0,(k:Int))))=some ((0:Int),u.1,u.2):=by
  by_cases h0:j=0
  ·rw[if_pos h0,e0]at hu
   rw[show decide ((0:Int) < (j:Int))=false from decide_eq_false (by omega),cond_false,hu]
  ·rw[if_neg h0]at hu
   rw[show decide ((0:Int) < (j:Int))=true from decide_eq_true (by omega),cond_true,qk (by rw[zp (by omega) (by omega)]; rfl),show(j:Int) - 1=((j - 1:Nat):Int) by omega,ploop_ok hN h6 (j - 1) k (by omega) hk,Option.bind_some,hu]
 rw[hunder,Option.bind_some];dsimp only;rw[Int.toNat_natCast,zv hl,hth,hbed];have hbb:∀ b:Bool,(b == b)=true:=fun b=>by cases b<;>rfl
 rw[hbb,qk (by rfl)];rw[show([u]:List zb).getD 0 zo.zero=u from rfl];have hue:GTy.beq zo u (u.1,u.2)=true:=by
  show(decide (u.1=u.1)&&decide (u.2=u.2))=true
  simp
 rw[hue];rw[show(cond (cond (cond (decide ((0:Int)=(0:Int))) true false) (decide ((([u]:List zb).length:Int)=(1:Int))) false) true false)=true from rfl,cond_true,hlv,Option.bind_some,cond_true]

theorem mof_ok{N:Nat} (hN:300 < N) {p:List (List zi)} {w:Nat} (h6:Ch6 p w) {r0 rl:List zi} (hr0:p[0]?=some r0) (hrl:p[p.length - 1]?=some rl) {c wk:qx} {z:Int} {f:Kt13} {e:Int}
  (h1:m_rcast N (fstY r0) (w:Int)=some (c,0)) (h2:m_rrows N c p=some (wk,z,0)) (h3:m_mbind N wk (fstY rl)=some (f,e)):m_mof N p=some (f,e):=by
 have hfew:=h6.few;have hodd:=h6.odd;have hw1:=h6.w1;have h16:=h6.w16;obtain⟨hw0,hs0⟩:=h6.row hr0;obtain⟨hwl,_⟩:=h6.row hrl;have hu:m_muntil N p (p.length:Int)=some (wk,0):=by
  unfold m_muntil;rw[chcheck_ok hN h6,Option.bind_some,show(!(decide ((0:Int)=0)))=false from rfl,cond_false,show decide ((p.length:Int) < 0)=false from decide_eq_false (by omega),show decide ((p.length:Int) < (p.length:Int))=false from decide_eq_false (by omega)];rw[show(cond false true false)=false from rfl,cond_false,qk (by simp[ze]; omega),show(0:Int).toNat=0 from rfl,zv hr0,chfirst_ok hN r0 (by omega) (by omega),Option.bind_some,chneeds_ok hN r0 (by omega) hs0,Option.bind_some,hw0,h1,Option.bind_some];dsimp only;rw[show(!(decide ((0:Int)=0)))=false from rfl,cond_false,qk (by simp; try omega),Int.toNat_natCast,List.take_length,h2,Option.bind_some]
  rfl
 unfold m_mof;rw[hu,Option.bind_some];dsimp only;rw[show(!(decide ((0:Int)=0)))=false from rfl,cond_false,show(p.length:Int) - 1=((p.length - 1:Nat):Int) by omega,qk (by rw[zp (by omega) (by omega),qy (by omega)]; rfl),Int.toNat_natCast,zv hrl,chfirst_ok hN rl (by omega) (by omega),Option.bind_some,h3,Option.bind_some]

theorem rrows_ok{N:Nat} (hN:300 < N) (J:Nat->qx->Prop) {p:List (List zi)} (hlen:p.length<=300) {c:qx} (h1:m_rcheck N c=some 0) (h2:m_copyWk N c=some c) (h0:J 0 c)
  (hs:∀ i r wk,p[i]?=some r->J i wk->∃ wk',qX N wk r=some (wk',0)/\J (i+1) wk'):∃ wk,m_rrows N c p=some (wk,(p.length:Int),0)/\J p.length wk:=by
 have hL:∃ q,m_rrows_L3 N p N ((0:Int),c.1,c.2.1,c.2.2.1.1,c.2.2.1.2.1,c.2.2.1.2.2.1,c.2.2.1.2.2.2,c.2.2.2)=some q/\∃ wk:qx,q=.inl (wk.1,wk.2.1,wk.2.2.1.1,wk.2.2.1.2.1,wk.2.2.1.2.2.1,wk.2.2.1.2.2.2,wk.2.2.2)/\J p.length wk:=by
  unfold m_rrows_L3;refine loopF_inv (fun k d=>∃ (i:Nat) (wk:qx),i+k=p.length/\d=((i:Int),wk.1,wk.2.1,wk.2.2.1.1,wk.2.2.1.2.1,wk.2.2.1.2.2.1,wk.2.2.1.2.2.2,wk.2.2.2)/\J i wk) _ ?_ N p.length _ (by omega) ⟨0,c,by omega,rfl,h0⟩;rintro k d rec ⟨i,wk,hi,rfl,hJ⟩ hrec;dsimp only
  by_cases hlt:i < p.length
  ·obtain⟨r,hr⟩:∃ r,p[i]?=some r:=⟨_,List.getElem?_eq_getElem hlt⟩
   obtain⟨wk',hw,hJ'⟩:=hs i r wk hr hJ;rw[show decide ((i:Int) < (p.length:Int))=true from decide_eq_true (by omega),cond_true,qk (by rw[qy hlt]; rfl),Int.toNat_natCast,zv hr,hw,Option.bind_some];dsimp only;rw[show(!(decide ((0:Int)=0)))=false from rfl,cond_false,qk (by rw[zp (by omega) (by omega)]; rfl)];exact hrec (k - 1) _ (by omega) ⟨i+1,wk',by omega,rfl,hJ'⟩
  ·rw[show decide ((i:Int) < (p.length:Int))=false from decide_eq_false (by omega),cond_false]
   exact⟨_,rfl,wk,rfl,by rw[show p.length=i by omega]; exact hJ⟩
 obtain⟨q,hq,wk,rfl,hJ⟩:=hL;refine⟨wk,?_,hJ⟩;unfold m_rrows;rw[h1,Option.bind_some,show(!(decide ((0:Int)=0)))=false from rfl,cond_false,h2,Option.bind_some,hq,Option.bind_some]

theorem rcpI_ok{N:Nat} (l:List zb) (h:l.length<=100000):m_rcpI N l=some (l,l.length):=by
 unfold m_rcpI;rw[qk (by rw[show zH 16 (l.length:Int)=true from(zT (by omega)).2 ⟨by omega,by omega⟩]; simp),qk (by simp)]
 simp
theorem rcpP_ok{N:Nat} (l:List qa) (h:l.length<=100000):m_rcpP N l=some (l,l.length):=by
 unfold m_rcpP;rw[qk (by rw[show zH 24 (l.length:Int)=true from(zT (by omega)).2 ⟨by omega,by omega⟩]; simp),qk (by simp)]
 simp
theorem copiedX_ok{N:Nat} (l:List zQ) (h:l.length<=100000):m_copiedX N l=some (l,l.length):=by
 unfold m_copiedX;rw[qk (by rw[show zH 40 (l.length:Int)=true from(zT (by omega)).2 ⟨by omega,by omega⟩]; simp),qk (by simp)]
 simp
theorem set_same{α:Type} {l:List α} {j:Nat} {x:α} (h:l[j]?=some x):l.set j x=l:=by
 obtain⟨h1,h2⟩:=List.getElem?_eq_some_iff.1 h;rw[<- h2];exact List.set_getElem_self h1
theorem copySl_ok{N:Nat} (hN:300 < N) (l:List zB) (h:l.length<=300) (hs:∀ x∈l,x.2.length<=100000):m_copySl N l=some l:=by
 have hL:m_copySl_L2 N l N ((0:Int),l)=some l:=by
  unfold m_copySl_L2;refine zg (fun k d=>∃ j:Nat,j+k=l.length/\d=((j:Int),l)) _ ?_ N l.length _ (by omega) ⟨0,by omega,rfl⟩;rintro k d rec ⟨j,hj,rfl⟩ hrec;dsimp only
  by_cases hlt:j < l.length
  ·obtain⟨x,hx⟩:∃ x,l[j]?=some x:=⟨_,List.getElem?_eq_getElem hlt⟩
   rw[show decide ((j:Int) < (l.length:Int))=true from decide_eq_true (by omega),cond_true,qk (by rw[qy hlt]; rfl),Int.toNat_natCast,zv hx,rcpI_ok _ (hs x (List.mem_of_getElem? hx)),Option.bind_some,qk (by rw[qy hlt,decide_eq_true hlt]; rfl),qk (by rw[zp (by omega) (by omega)]; rfl)];dsimp only;rw[show((x.1,x.2):zB)=x from rfl,set_same hx];exact hrec (k - 1) _ (by omega) ⟨j+1,by omega,rfl⟩
  ·rw[show decide ((j:Int) < (l.length:Int))=false from decide_eq_false (by omega),cond_false]
 have hc:m_copiedS N l=some l:=by
  unfold m_copiedS;rw[qk (by simp; first | omega | (refine(zT ?_).2 ⟨?_,?_⟩<;>omega)),qk (by simp)]
 unfold m_copySl;rw[hc,Option.bind_some,hL,Option.bind_some]
theorem copyYa_ok{N:Nat} (hN:300 < N) (l:List zd) (h:l.length<=300) (hs:∀ x∈l,x.2.2.2.2.length<=100000):m_copyYa N l=some l:=by
 have hL:m_copyYa_L2 N l N ((0:Int),l)=some l:=by
  unfold m_copyYa_L2;refine zg (fun k d=>∃ j:Nat,j+k=l.length/\d=((j:Int),l)) _ ?_ N l.length _ (by omega) ⟨0,by omega,rfl⟩;rintro k d rec ⟨j,hj,rfl⟩ hrec;dsimp only
  by_cases hlt:j < l.length
  ·obtain⟨x,hx⟩:∃ x,l[j]?=some x:=⟨_,List.getElem?_eq_getElem hlt⟩
   rw[show decide ((j:Int) < (l.length:Int))=true from decide_eq_true (by omega),cond_true,qk (by rw[qy hlt]; rfl),Int.toNat_natCast,zv hx,rcpP_ok _ (hs x (List.mem_of_getElem? hx)),Option.bind_some,qk (by rw[qy hlt,decide_eq_true hlt]; rfl),qk (by rw[zp (by omega) (by omega)]; rfl)];dsimp only;rw[show((x.1,(x.2.1,(x.2.2.1,(x.2.2.2.1,x.2.2.2.2)))):zd)=x from rfl,set_same hx];exact hrec (k - 1) _ (by omega) ⟨j+1,by omega,rfl⟩
  ·rw[show decide ((j:Int) < (l.length:Int))=false from decide_eq_false (by omega),cond_false]
 have hc:m_copiedY N l=some l:=by
  unfold m_copiedY;rw[qk (by simp; first | omega | (refine(zT ?_).2 ⟨?_,?_⟩<;>omega)),qk (by simp)]
 unfold m_copyYa;rw[hc,Option.bind_some,hL,Option.bind_some]
theorem copyWk_ok{N:Nat} (hN:300 < N) (c:qx) (h1:c.1.length<=300) (h1':∀ x∈c.1,x.2.length<=100000) (h2:c.2.1.length<=300) (h2':∀ x∈c.2.1,x.2.2.2.2.length<=100000) (h4:c.2.2.1.2.1.length<=100000) (h5:c.2.2.1.2.2.1.length<=100000) (h6:c.2.2.1.2.2.2.length<=100000)
  {T:List (Bool×List zj)} (hT:m_rcpT N c.2.2.1.1=some T) (hT2:T.map (·.2)=c.2.2.1.1):m_copyWk N c=some c:=by
 unfold m_copyWk m_copyFab;rw[copySl_ok hN _ h1 h1',Option.bind_some,copyYa_ok hN _ h2 h2',Option.bind_some,hT,Option.bind_some,copiedX_ok _ h4,Option.bind_some,rcpI_ok _ h5,Option.bind_some,rcpI_ok _ h6,Option.bind_some,Option.bind_some];dsimp only;rw[hT2]

def T{α:Type} (x:Option α) (P:α->Prop):Prop:=∃ r,x=some r/\P r
theorem T_some{α:Type} {r:α} {P:α->Prop}:T (some r) P ↔ P r:=
 ⟨fun⟨_,h,hp⟩=>by cases h; exact hp,fun h=>⟨r,rfl,h⟩⟩
theorem T_gd{α:Type} {c:Bool} {k:Option α} {P:α->Prop}:T (gd c k) P ↔ c=true/\T k P:=by
 cases c
 ·exact⟨fun⟨_,h,_⟩=>(by cases h),fun h=>by cases h.1⟩
 ·exact⟨fun h=>⟨rfl,h⟩,fun h=>h.2⟩
theorem T_bind{α β:Type} {x:Option α} {f:α->Option β} {P:β->Prop}:T (Option.bind x f) P ↔ T x fun r=>T (f r) P:=by
 cases x with
 | none=>exact⟨fun⟨_,h,_⟩=>(by cases h),fun⟨_,h,_⟩=>by cases h⟩
 | some a=>exact⟨fun h=>⟨a,rfl,h⟩,fun⟨_,h,hp⟩=>by cases h; exact hp⟩
theorem T_cond{α:Type} {b:Bool} {x y:Option α} {P:α->Prop}:T (cond b x y) P ↔ (b=true->T x P)/\(b=false->T y P):=by
 cases b
 ·exact⟨fun h=>⟨fun e=>(by cases e),fun _=>h⟩,fun h=>h.2 rfl⟩
 ·exact⟨fun h=>⟨fun _=>h,fun e=>by cases e⟩,fun h=>h.1 rfl⟩
theorem T_inl{α β γ:Type} {a:α} {f:α->Option γ} {g:β->Option γ} {P:γ->Prop}:T (sm (.inl a) f g) P ↔ T (f a) P:=Iff.intro id id
theorem T_inr{α β γ:Type} {b:β} {f:α->Option γ} {g:β->Option γ} {P:γ->Prop}:T (sm (.inr b) f g) P ↔ T (g b) P:=Iff.intro id id
theorem T.mono{α:Type} {x:Option α} {P Q:α->Prop} (h:T x P) (hq:∀ r,P r->Q r):T x Q:=by
 obtain⟨r,h1,h2⟩:=h;exact⟨r,h1,hq r h2⟩
theorem T.of{α:Type} {x:Option α} {r:α} (h:x=some r) {P:α->Prop} (hp:P r):T x P:=⟨r,h,hp⟩
theorem T.eq{α:Type} {x:Option α} {r:α} (h:T x (·=r)):x=some r:=by
 obtain⟨_,h1,h2⟩:=h;rw[h1,h2]
theorem zw{α:Type} {x:Option α} {r:α} (h:x=some r) {P:α->Prop}:T x P ↔ P r:=by rw[h]; exact T_some
theorem T_loop{δ ρ:Type} {step:δ->(δ->Option ρ)->Option ρ} (I:Nat->δ->Prop) (post:ρ->Prop)
  (h:∀ k d rec,I k d->(∀ k' d',k' < k->I k' d'->T (rec d') post)->T (step d rec) post) (n k:Nat) (d:δ) (hk:k < n) (hI:I k d):T (zc step n d) post:=loopF_inv I post h n k d hk hI
theorem inB_i{z:Int} {n:Nat}:ze z n=true ↔ 0<=z/\z < (n:Int):=by unfold ze; rw[Bool.and_eq_true,decide_eq_true_eq,decide_eq_true_eq]
theorem fitB_i{b k:Nat}:zV b k=true ↔ k * b<=140737488355328/\k<=140737488355328:=by unfold zV; rw[Bool.and_eq_true,decide_eq_true_eq,decide_eq_true_eq]
theorem roomB_i{b:Nat} {z:Int}:zH b z=true ↔ b * z.toNat<=140737488355328/\z.toNat<=140737488355328:=by unfold zH; rw[Bool.and_eq_true,Nat.ble_eq,Nat.ble_eq]
theorem impB_i{a b:Bool}:qn a b=true ↔ (a=true->b=true):=by cases a<;>cases b<;>decide
theorem cor_t{a b:Bool}:cond a true b=true ↔ a=true\/b=true:=by cases a<;>cases b<;>decide
theorem cor_f{a b:Bool}:cond a true b=false ↔ a=false/\b=false:=by cases a<;>cases b<;>decide
theorem can_t{a b:Bool}:cond a b false=true ↔ a=true/\b=true:=by cases a<;>cases b<;>decide
theorem can_f{a b:Bool}:cond a b false=false ↔ a=false\/b=false:=by cases a<;>cases b<;>decide
theorem not_t{a:Bool}:(!a)=true ↔ a=false:=by cases a<;>decide
theorem not_f{a:Bool}:(!a)=false ↔ a=true:=by cases a<;>decide
theorem beq_t{a b:Nat}:Nat.beq a b=true ↔ a=b:=by rw[Nat.beq_eq]
theorem tq:(∀ {α:Type} {r:α} {P:α->Prop},T (some r) P ↔ P r)/\(∀ {α:Type} {c:Bool} {k:Option α} {P:α->Prop},T (gd c k) P ↔ c=true/\T k P) /\
  (∀ {α β:Type} {x:Option α} {f:α->Option β} {P:β->Prop},T (Option.bind x f) P ↔ T x fun r=>T (f r) P) /\
  (∀ {α:Type} {b:Bool} {x y:Option α} {P:α->Prop},T (cond b x y) P ↔ (b=true->T x P)/\(b=false->T y P)) /\
  (∀ {α β γ:Type} {a:α} {f:α->Option γ} {g:β->Option γ} {P:γ->Prop},T (sm (.inl a) f g) P ↔ T (f a) P) /\
  (∀ {α β γ:Type} {b:β} {f:α->Option γ} {g:β->Option γ} {P:γ->Prop},T (sm (.inr b) f g) P ↔ T (g b) P) /\
  (∀ {z:Int} {n:Nat},ze z n=true ↔ 0<=z/\z < (n:Int))/\(∀ {x:Int},zq x=true ↔ -9223372036854775808<=x/\x<=9223372036854775807) /\
  (∀ {b k:Nat},zV b k=true ↔ k * b<=140737488355328/\k<=140737488355328)/\(∀ {b:Nat} {z:Int},zH b z=true ↔ b * z.toNat<=140737488355328/\z.toNat<=140737488355328) /\
  (∀ {a b:Bool},qn a b=true ↔ (a=true->b=true))/\(∀ {a b:Bool},cond a true b=true ↔ a=true\/b=true)/\(∀ {a b:Bool},cond a true b=false ↔ a=false/\b=false) /\
  (∀ {a b:Bool},cond a b false=true ↔ a=true/\b=true)/\(∀ {a b:Bool},cond a b false=false ↔ a=false\/b=false) /\
  (∀ {a:Bool},(!a)=true ↔ a=false)/\(∀ {a:Bool},(!a)=false ↔ a=true)/\(∀ {a b:Nat},Nat.beq a b=true ↔ a=b) /\
  (∀ {p:Prop} [Decidable p],decide p=true ↔ p)/\(∀ {p:Prop} [Decidable p],decide p=false ↔ ¬ p)/\(∀ {a b:Bool},(a&&b)=true ↔ a=true/\b=true)/\(∀ {a b:Bool},(a || b)=true ↔ a=true\/b=true)/\(∀ {a b:Bool},(a&&b)=false ↔ a=false\/b=false) /\
  (∀ {n:Nat},(n:Int).toNat=n)/\(∀ {p:Prop},(True/\p) ↔ p)/\(∀ {p:Prop},(p/\True) ↔ p)/\(∀ {p:Prop},(True->p) ↔ p)/\(∀ {p:Prop},(False->p) ↔ True)/\(∀ {p:Prop},(p->True) ↔ True) /\
  ((¬ True) ↔ False)/\((¬ False) ↔ True)/\(∀ {p:Prop},(True\/p) ↔ True)/\(∀ {p:Prop},(p\/True) ↔ True)/\(∀ {p:Prop},(False\/p) ↔ p)/\(∀ {p:Prop},(p\/False) ↔ p)/\(∀ {p:Prop},(False/\p) ↔ False)/\(∀ {p:Prop},(p/\False) ↔ False) /\
  (∀ {b:Bool},(true&&b)=b)/\(∀ {b:Bool},(false&&b)=false)/\(∀ {b:Bool},(b&&true)=b)/\(∀ {b:Bool},(b&&false)=false)/\((!true)=false)/\((!false)=true)/\(decide True=true)/\(decide False=false):=
 ⟨T_some,T_gd,T_bind,T_cond,T_inl,T_inr,inB_i,inI64_iff,fitB_i,roomB_i,impB_i,cor_t,cor_f,can_t,can_f,not_t,not_f,beq_t,decide_eq_true_iff,decide_eq_false_iff_not,Bool.and_eq_true_iff,Bool.or_eq_true_iff,Bool.and_eq_false_iff,
  Int.toNat_natCast _,by simp,by simp,by simp,by simp,by simp,by simp,by simp,by simp,by simp,by simp,by simp,by simp,by simp,by simp,by simp,by simp,by simp,rfl,rfl,by simp,by simp⟩
theorem LL:(∀ {α:Type} {a b:List α},(a++b).length=a.length+b.length)/\(∀ {α:Type} {a:α} {b:List α},(a :: b).length=b.length+1)/\(∀ {α:Type},([]:List α).length=0):=
 ⟨List.length_append,List.length_cons,List.length_nil⟩

def canc(p q:(Int×Int)×Bool×Int):Bool:=!decide (p.2.2=q.2.2)&&(decide (p.1=q.1)&&(p.2.1 == q.2.1))
def Red(l:List ((Int×Int)×Bool×Int)):Prop:=∀ i p q,l[i]?=some p->l[i+1]?=some q->canc p q=false
def push1(s:List ((Int×Int)×Bool×Int)) (p:(Int×Int)×Bool×Int):List ((Int×Int)×Bool×Int):=
 match s.getLast? with
 | none=>[p]
 | some q=>if canc q p=true then s.dropLast else s++[p]
def pushs(s l:List ((Int×Int)×Bool×Int)):List ((Int×Int)×Bool×Int):=l.foldl push1 s
theorem Red.dropLast{s:List ((Int×Int)×Bool×Int)} (h:Red s):Red s.dropLast:=by
 intro i p q hp hq;rw[List.getElem?_dropLast]at hp hq
 split at hp
 ·split at hq
  ·exact h i p q hp hq
  ·cases hq
 ·cases hp
theorem Red.push1{s:List ((Int×Int)×Bool×Int)} (h:Red s) (p:(Int×Int)×Bool×Int):Red (push1 s p):=by
 unfold Go.Proofs.YtldjgdggcodgeaaGreat.push1
 split
 ·intro i a b ha hb
  simp at hb
 ·rename_i q hq
  split
  ·exact h.dropLast
  ·rename_i hc
   intro i a b ha hb;rw[List.getElem?_append]at ha hb;have hl:s≠[]:=by intro e; rw[e]at hq; cases hq
   have hpos:0 < s.length:=List.length_pos_iff.2 hl;rw[List.getLast?_eq_getElem?]at hq
   split at hb
   ·rw[if_pos (by omega)]at ha
    exact h i a b ha hb
   ·rename_i hi
    by_cases hi2:i < s.length
    ·rw[if_pos hi2]at ha
     have e:i=s.length - 1:=by omega
     rw[e,hq]at ha;cases ha;rw[show i+1 - s.length=0 by omega]at hb;cases hb;exact Bool.eq_false_iff.2 hc
    ·rw[show i+1 - s.length=(i - s.length)+1 by omega]at hb
     simp at hb
theorem push1_len(s:List ((Int×Int)×Bool×Int)) (p):(push1 s p).length<=s.length+1:=by
 unfold push1
 split
 ·simp
 ·split
  ·simp; omega
  ·simp
theorem push1_mem{s:List ((Int×Int)×Bool×Int)} {p x} (h:x∈push1 s p):x∈s\/x=p:=by
 unfold push1 at h
 split at h
 ·right; simpa using h
 ·split at h
  ·left; exact List.dropLast_subset _ h
  ·simp at h; exact h
theorem Red.pushs{s:List ((Int×Int)×Bool×Int)} (h:Red s) (l):Red (pushs s l):=by
 induction l generalizing s with
 | nil=>exact h
 | cons p l ih=>exact ih (h.push1 p)
theorem pushs_len(s l:List ((Int×Int)×Bool×Int)):(pushs s l).length<=s.length+l.length:=by
 induction l generalizing s with
 | nil=>simp[pushs]
 | cons p l ih=>
  have:=ih (push1 s p)
  have h1:=push1_len s p;show(pushs (push1 s p) l).length<=_
  simp; omega
theorem pushs_mem{s l:List ((Int×Int)×Bool×Int)} {x} (h:x∈pushs s l):x∈s\/x∈l:=by
 induction l generalizing s with
 | nil=>exact Or.inl h
 | cons p l ih=>
  rcases ih (s:=push1 s p) h with h | h
  ·rcases push1_mem h with h | h
   ·exact Or.inl h
   ·exact Or.inr (by rw[h]; exact List.mem_cons_self)
  ·exact Or.inr (List.mem_cons_of_mem _ h)
theorem pushs_snoc(s l:List ((Int×Int)×Bool×Int)) (p):pushs s (l++[p])=push1 (pushs s l) p:=by simp[pushs]
theorem pushs_red{l:List ((Int×Int)×Bool×Int)} (h:Red l):pushs [] l=l:=by
 have:∀ j,j<=l.length->pushs [] (l.take j)=l.take j:=by
  intro j hj
  induction j with
  | zero=>rfl
  | succ j ih=>
   have hlt:j < l.length:=by omega
   rw[List.take_succ_eq_append_getElem hlt,pushs_snoc,ih (by omega)];unfold push1
   split
   ·rename_i hn
    rw[List.getLast?_eq_none_iff]at hn;rw[hn]; rfl
   ·rename_i q hq
    rw[List.getLast?_eq_getElem?,List.length_take,List.getElem?_take]at hq;have hj0:j≠0:=by
     intro e; subst e; simp at hq
    rw[if_pos (by omega),show min j l.length - 1=j - 1 by omega]at hq
    have:=h (j - 1) q l[j] hq (by rw[show j - 1+1=j by omega]; exact List.getElem?_eq_getElem hlt)
    rw[this]; rfl
 have h2:=this l.length (Nat.le_refl _)
 rwa [List.take_length]at h2

abbrev Ky:=Int×(Bool×((List (Int×Int))×(List ((Int×Int)×(Bool×Int)))))
def qp(t:List (List Ky)) (a:Int×Int):Option Ky:=
 if 1<=a.1/\0<=a.2 then(t.getD (a.1 - 1).toNat [])[a.2.toNat]? else none
def hasT(t:List (List Ky)) (a:Int×Int):Prop:=∃ l,qp t a=some l
theorem tget_at(t:List (List Ky)) (y n:Nat):qp t ((y:Int)+1,(n:Int))=(t.getD y [])[n]?:=by
 unfold qp;rw[if_pos ⟨by show(1:Int)<=y+1; omega,by show(0:Int)<=n; omega⟩];show(t.getD ((y:Int)+1 - 1).toNat [])[(n:Int).toNat]?=_;rw[show((y:Int)+1 - 1).toNat=y by omega,Int.toNat_natCast]
theorem qA{t:List (List Ky)} {a:Int×Int}:hasT t a ↔ 1<=a.1/\0<=a.2/\a.2 < ((t.getD (a.1 - 1).toNat []).length:Int):=by
 unfold hasT qp;constructor
 ·rintro⟨l,h⟩
  split at h
  ·rename_i h1
   have:=(List.getElem?_eq_some_iff.1 h).1
   omega
  ·cases h
 ·rintro⟨h1,h2,h3⟩
  rw[if_pos ⟨h1,h2⟩];exact⟨_,List.getElem?_eq_getElem (by omega)⟩
theorem hasT_le{t:List (List Ky)} {a:Int×Int} (h:hasT t a):a.1<=t.length:=by
 rw[qA]at h
 by_cases hl:(a.1 - 1).toNat < t.length
 ·omega
 ·rw[List.getD_eq_getElem?_getD,List.getElem?_eq_none (by omega)]at h
  simp at h
  omega
instance (t:List (List Ky)) (a:Int×Int):Decidable (hasT t a):=decidable_of_iff _ qA.symm
def xx(t:List (List Ky)) (y:Nat) (l:Ky):List (List Ky):=t.set y (t.getD y []++[l])
theorem tput_len(t:List (List Ky)) (y:Nat) (l:Ky):(xx t y l).length=t.length:=by simp[xx]
theorem qJ{t:List (List Ky)} {y:Nat} (hy:y < t.length) (l:Ky) (z:Nat):(xx t y l).getD z []=if z=y then t.getD y []++[l] else t.getD z []:=by
 unfold xx;rw[List.getD_eq_getElem?_getD,List.getElem?_set]
 by_cases e:y=z
 ·subst e
  simp[hy]
 ·rw[if_neg e,if_neg (fun h=>e h.symm),<- List.getD_eq_getElem?_getD]
theorem tget_put{t:List (List Ky)} {y:Nat} (hy:y < t.length) (l:Ky) {a:Int×Int} {k:Ky} (h:qp t a=some k):qp (xx t y l) a=some k:=by
 unfold qp at h ⊢
 split at h
 ·rename_i h1
  rw[if_pos h1,qJ hy]
  split
  ·rename_i e
   rw[e]at h;rw[List.getElem?_append_left (List.getElem?_eq_some_iff.1 h).1,h]
  ·exact h
 ·cases h
theorem hasT.put{t:List (List Ky)} {y:Nat} (hy:y < t.length) (l:Ky) {a:Int×Int} (h:hasT t a):hasT (xx t y l) a:=by
 obtain⟨k,h⟩:=h;exact⟨k,tget_put hy l h⟩
theorem tget_new{t:List (List Ky)} {y:Nat} (hy:y < t.length) (l:Ky):qp (xx t y l) ((y:Int)+1,((t.getD y []).length:Int))=some l:=by
 rw[tget_at,qJ hy,if_pos rfl]
 simp
theorem qg{t:List (List Ky)} {y:Nat} (hy:y < t.length) {l:Ky} {a:Int×Int} {k:Ky} (h:qp (xx t y l) a=some k) :
  (a=((y:Int)+1,((t.getD y []).length:Int))/\k=l)\/(qp t a=some k):=by
 unfold qp at h ⊢
 split at h
 ·rename_i h1
  rw[qJ hy]at h;rw[if_pos h1]
  split at h
  ·rename_i e
   rw[List.getElem?_append]at h
   split at h
   ·right; rw[e]; exact h
   ·left
    have hlt:=(List.getElem?_eq_some_iff.1 h).1;simp only[List.length_cons,List.length_nil]at hlt;have e0:a.2.toNat - (t.getD y []).length=0:=by omega
    rw[e0]at h;cases h;refine⟨Prod.ext ?_ ?_,rfl⟩
    ·show a.1=(y:Int)+1; omega
    ·show a.2=((t.getD y []).length:Int); omega
  ·exact Or.inr h
 ·cases h
theorem hasT_new{t:List (List Ky)} {y:Nat} (hy:y < t.length) (l:Ky):¬ hasT t ((y:Int)+1,((t.getD y []).length:Int)):=by
 rintro⟨k,h⟩;rw[tget_at]at h
 have:=(List.getElem?_eq_some_iff.1 h).1
 omega
theorem qj{t:List (List Ky)} {y:Nat} (hy:y < t.length) (l:Ky) {a:Int×Int}:hasT (xx t y l) a ↔ a=((y:Int)+1,((t.getD y []).length:Int))\/hasT t a:=by
 constructor
 ·rintro⟨k,h⟩
  rcases qg hy h with⟨h,_⟩ | h
  ·exact Or.inl h
  ·exact Or.inr ⟨k,h⟩
 ·rintro(h | h)
  ·rw[h]; exact⟨l,tget_new hy l⟩
  ·exact h.put hy l
def zF(t:List (List Ky)):Nat:=(t.map List.length).sum
def qV(t:List (List Ky)):List (Int×Int):=t.flatten.flatMap (·.2.2.1)
theorem set_split{α:Type}:∀ {l:List α} {j:Nat} (_:j < l.length) (z x:α),∃ a b,l=a++l.getD j z :: b/\l.set j x=a++x :: b
 | [],_,h,_,_=>by simp at h
 | y :: l,0,_,z,x=>⟨[],l,by simp,by simp⟩
 | y :: l,j+1,h,z,x=>by
  obtain⟨a,b,h1,h2⟩:=set_split (l:=l) (j:=j) (by simpa using h) z x;exact⟨y :: a,b,by simp; rw[List.getD_eq_getElem?_getD]at h1; exact h1,by simp; exact h2⟩
theorem tall_put{t:List (List Ky)} {y:Nat} (hy:y < t.length) (l:Ky):zF (xx t y l)=zF t+1:=by
 obtain⟨a,b,h1,h2⟩:=set_split hy [] (t.getD y []++[l]);unfold zF xx;rw[h2]
 conv=>rhs; rw[h1]
 simp
 omega
theorem thrs_put{t:List (List Ky)} {y:Nat} (hy:y < t.length) (l:Ky) (a:Int×Int):(qV (xx t y l)).count a=(qV t).count a+l.2.2.1.count a:=by
 obtain⟨p,q,h1,h2⟩:=set_split hy [] (t.getD y []++[l]);unfold qV xx;rw[h2]
 conv=>rhs; rw[h1]
 simp[List.flatten_append,List.flatMap_append,List.count_append]
 omega
theorem tall_le{t:List (List Ky)} (y:Nat):(t.getD y []).length<=zF t:=by
 by_cases hy:y < t.length
 ·obtain⟨a,b,h1,_⟩:=set_split hy [] []
  unfold zF
  conv=>rhs; rw[h1]
  simp
  omega
 ·rw[List.getD_eq_getElem?_getD,List.getElem?_eq_none (by omega)]
  simp
structure TOk(t:List (List Ky)) (ρ:Int×Int->Nat):Prop where
 len:t.length=6
 rk:∀ a,hasT t a->ρ a < zF t
 mono:∀ a b,hasT t b->a.1=b.1->0<=a.2->a.2 < b.2->ρ a < ρ b
 bed:∀ a l,qp t a=some l->l.1=0\/l.1=1
 thr:∀ a l,qp t a=some l->∀ b∈l.2.2.1,hasT t b/\ρ b < ρ a
 pst:∀ a l,qp t a=some l->∀ p∈l.2.2.2,hasT t p.1/\ρ p.1 < ρ a/\(p.2.2=0\/p.2.2=1)
 thl:∀ a l,qp t a=some l->l.2.2.1.length<=4
 psl:∀ a l,qp t a=some l->l.2.2.2.length<=4096
 red:∀ a l,qp t a=some l->Red l.2.2.2
 new:∀ a l,qp t a=some l->a.2=0->l.2.1=true
theorem TOk.put{t:List (List Ky)} {ρ:Int×Int->Nat} (h:TOk t ρ) {y:Nat} (hy:y < 6) {l:Ky} (hb:l.1=0\/l.1=1) (ht:∀ b∈l.2.2.1,hasT t b)
  (hp:∀ p∈l.2.2.2,hasT t p.1/\(p.2.2=0\/p.2.2=1)) (htl:l.2.2.1.length<=4) (hpl:l.2.2.2.length<=4096) (hr:Red l.2.2.2) (hn:(t.getD y []).length=0->l.2.1=true) :
  TOk (xx t y l) fun a=>if a=((y:Int)+1,((t.getD y []).length:Int))then zF t else ρ a:=by
 have hy2:y < t.length:=by rw[h.len]; exact hy
 have old:∀ a,hasT t a->a≠((y:Int)+1,((t.getD y []).length:Int)):=fun a ha e=>hasT_new hy2 l (e ▸ ha)
 have hin:∀ {a k},qp t a=some k->hasT t a:=fun h=>⟨_,h⟩
 refine⟨by rw[tput_len,h.len],?_,?_,?_,?_,?_,?_,?_,?_,?_⟩
 ·intro a ha
  rw[tall_put hy2]
  rcases (qj hy2 l).1 ha with e | ha
  ·rw[if_pos e]; omega
  ·rw[if_neg (old a ha)]
   have:=h.rk a ha
   omega
 ·intro a b hb e h0 hlt
  have hab:b≠((y:Int)+1,((t.getD y []).length:Int))->hasT t b:=fun hne=>((qj hy2 l).1 hb).resolve_left hne
  have hia:hasT t a/\a≠((y:Int)+1,((t.getD y []).length:Int)):=by
   have:hasT t a:=by
    rw[qA]
    rcases (qj hy2 l).1 hb with e2 | hb
    ·rw[e2]at e hlt
     simp only at e hlt;rw[e];refine⟨by omega,h0,?_⟩;rw[show((y:Int)+1 - 1).toNat=y by omega];exact hlt
    ·rw[qA]at hb
     rw[e];exact⟨hb.1,h0,by omega⟩
   exact⟨this,old a this⟩
  rw[if_neg hia.2]
  split
  ·exact h.rk a hia.1
  ·rename_i hne
   exact h.mono a b (hab hne) e h0 hlt
 ·intro a k hk
  rcases qg hy2 hk with⟨_,rfl⟩ | hk
  ·exact hb
  ·exact h.bed a k hk
 ·intro a k hk b hbk
  rcases qg hy2 hk with⟨e,rfl⟩ | hk
  ·have:=ht b hbk
   refine⟨this.put hy2 _,?_⟩;rw[if_neg (old b this),if_pos e];exact h.rk b this
  ·have:=h.thr a k hk b hbk
   refine⟨this.1.put hy2 _,?_⟩;rw[if_neg (old b this.1),if_neg (old a (hin hk))];exact this.2
 ·intro a k hk p hpk
  rcases qg hy2 hk with⟨e,rfl⟩ | hk
  ·have:=hp p hpk
   refine⟨this.1.put hy2 _,?_,this.2⟩;rw[if_neg (old _ this.1),if_pos e];exact h.rk _ this.1
  ·have:=h.pst a k hk p hpk
   refine⟨this.1.put hy2 _,?_,this.2.2⟩;rw[if_neg (old _ this.1),if_neg (old a (hin hk))];exact this.2.1
 ·intro a k hk
  rcases qg hy2 hk with⟨_,rfl⟩ | hk
  ·exact htl
  ·exact h.thl a k hk
 ·intro a k hk
  rcases qg hy2 hk with⟨_,rfl⟩ | hk
  ·exact hpl
  ·exact h.psl a k hk
 ·intro a k hk
  rcases qg hy2 hk with⟨_,rfl⟩ | hk
  ·exact hr
  ·exact h.red a k hk
 ·intro a k hk h0
  rcases qg hy2 hk with⟨e,rfl⟩ | hk
  ·apply hn
   rw[e]at h0;simp only at h0;omega
  ·exact h.new a k hk h0
def Once(t:List (List Ky)) (l:List (Int×Int)):Prop:=∀ a,(l++qV t).count a=if hasT t a then 1 else 0

def PassV(p:qa):Prop:=(1<=p.1.1/\p.1.1<=6/\0<=p.1.2/\p.1.2 < 2048)/\(p.2.2=0\/p.2.2=1)
theorem ynamed_ok(N:Nat) {a:zb} (h:1<=a.1/\a.1<=6/\0<=a.2/\a.2 < 2048):m_ynamed N a=some true:=by
 unfold m_ynamed;rw[decide_eq_true h.1,decide_eq_true h.2.1,decide_eq_true h.2.2.1,decide_eq_true h.2.2.2]
 rfl
theorem ysided_ok(N:Nat) {d:Int} (h:d=0\/d=1):m_ysided N d=some true:=by
 unfold m_ysided
 rcases h with rfl | rfl<;>rfl
theorem yvalid_ok(N:Nat) {p:qa} (h:PassV p):m_yvalid N p=some true:=by
 unfold m_yvalid;rw[ynamed_ok N h.1,Option.bind_some,cond_true,ysided_ok N h.2]
 rfl
theorem ycancel_ok(N:Nat) {p q:qa} (hp:p.2.2=0\/p.2.2=1) (hq:q.2.2=0\/q.2.2=1):m_ycancel N p q=some (canc p q):=by
 unfold m_ycancel;rw[ysided_ok N hp,Option.bind_some,show(!(!true))=true from rfl,cond_true,ysided_ok N hq,Option.bind_some];unfold canc
 by_cases e:p.2.2=q.2.2
 ·rw[decide_eq_true e]; rfl
 ·rw[decide_eq_false e]
  show some (GTy.beq qU p (q.1,(q.2.1,p.2.2)))=some (true&&_)
  congr 1
  rw[Bool.eq_iff_iff,beq_iff (g:=qU) _ _ rfl];simp only[Bool.true_and,Bool.and_eq_true,decide_eq_true_eq,beq_iff_eq];constructor
  ·intro h
   rw[h];exact⟨rfl,rfl⟩
  ·rintro⟨h1,h2⟩
   exact Prod.ext h1 (Prod.ext h2 rfl)
theorem ypush_ok{N:Nat} (l s:List qa) (hN:l.length < N) (hl:∀ p∈l,p.2.2=0\/p.2.2=1) (hs:∀ p∈s,p.2.2=0\/p.2.2=1) (hb:l.length+s.length<=100000):m_ypush N l s=some (pushs s l):=by
 have hL:m_ypush_L1 N l N ((0:Int),s)=some (pushs s l):=by
  unfold m_ypush_L1;refine zg (fun k d=>∃ j:Nat,j+k=l.length/\d=((j:Int),pushs s (l.take j))) _ ?_ N l.length _ (by omega) ⟨0,by omega,by simp[pushs]⟩;rintro k d rec ⟨j,hj,rfl⟩ hrec;obtain⟨S,hS⟩:∃ S,S=pushs s (l.take j):=⟨_,rfl⟩
  have hSl:S.length<=l.length+s.length:=by
   rw[hS]
   have:=pushs_len s (l.take j)
   rw[List.length_take]at this;omega
  have hSd:∀ p∈S,p.2.2=0\/p.2.2=1:=by
   intro p hp;rw[hS]at hp
   rcases pushs_mem hp with h | h
   ·exact hs p h
   ·exact hl p (List.mem_of_mem_take h)
  rw[<- hS]
  apply T.eq
  by_cases hlt:j < l.length
  ·obtain⟨x,hx⟩:∃ x,l[j]?=some x:=⟨_,List.getElem?_eq_getElem hlt⟩
   have hxd:=hl x (List.mem_of_getElem? hx);have hpx:pushs s (l.take (j+1))=push1 S x:=by
    rw[List.take_succ_eq_append_getElem hlt,pushs_snoc,hS,(List.getElem?_eq_some_iff.1 hx).2]
   have hgo:∀ S',S'=push1 S x->T (rec ((j:Int)+1,S')) (·=pushs s l):=fun S' e=>⟨_,hrec (k - 1) _ (by omega) ⟨j+1,by omega,by rw[hpx,e]; rfl⟩,rfl⟩
   have hltI:(j:Int) < (l.length:Int):=by omega
   simp only[tq,Int.reduceEq,Int.reduceLT,Int.reduceLE,reduceCtorEq,hltI,zv hx];cases hlast:S.getLast? with
   | none=>
    have h0:S=[]:=List.getLast?_eq_none_iff.1 hlast;subst h0
    have:=hgo [x] rfl
    simp only[tq,Int.reduceEq,Int.reduceLT,Int.reduceLE,reduceCtorEq,List.length_nil,List.nil_append,List.length_singleton,show ¬ ((0:Int) < ((0:Nat):Int)) by omega]
    (repeat' apply And.intro)<;>first | omega | (simp only[LL]; omega) | exact this | rfl | trivial
   | some q=>
    have hpos:0 < S.length:=by
     cases S with
     | nil=>cases hlast
     | cons a b=>simp
    have hq:S[S.length - 1]?=some q:=by rw[<- hlast,List.getLast?_eq_getElem?]
    have hqd:=hSd q (List.mem_of_getElem? hq);have hposI:(0:Int) < (S.length:Int):=by omega
    have e1:((S.length:Int) - 1).toNat=S.length - 1:=by omega
    simp only[hposI,e1,zv hq,zw (ycancel_ok N hqd hxd),tq,Int.reduceEq,Int.reduceLT,Int.reduceLE,reduceCtorEq]
    by_cases hc:canc q x=true
    ·have:=hgo (S.take (S.length - 1)) (by unfold push1; rw[hlast]; show _=if canc q x=true then _ else _; rw[if_pos hc,List.dropLast_eq_take])
     simp only[hc,tq,Int.reduceEq,Int.reduceLT,Int.reduceLE,reduceCtorEq]
     (repeat' apply And.intro)<;>first | omega | (simp only[LL]; omega) | exact this | rfl | trivial
    ·have:=hgo (S++[x]) (by unfold push1; rw[hlast]; show _=if canc q x=true then _ else _; rw[if_neg hc])
     have hc':canc q x=false:=by simpa using hc
     simp only[hc',tq,Int.reduceEq,Int.reduceLT,Int.reduceLE,reduceCtorEq]
     (repeat' apply And.intro)<;>first | omega | (simp only[LL]; omega) | exact this | rfl | trivial
  ·have hltI:¬ (j:Int) < (l.length:Int):=by omega
   simp only[tq,Int.reduceEq,Int.reduceLT,Int.reduceLE,reduceCtorEq,hltI];rw[hS,List.take_of_length_le (by omega)]
 unfold m_ypush;rw[hL,Option.bind_some]
theorem ycopied_ok(N:Nat) (l:List qa) (h:l.length<=100000):xm N l=some (l,l.length):=by
 unfold xm
 apply T.eq
 simp only[tq,Int.reduceEq,Int.reduceLT,Int.reduceLE,reduceCtorEq,List.length_replicate]
 (repeat' apply And.intro)<;>first | omega | (simp only[LL]; omega) | exact this | rfl | trivial
theorem yreduce_ok{N:Nat} {l:List qa} (hN:l.length < N) (hl:∀ p∈l,p.2.2=0\/p.2.2=1) (hb:l.length<=100000) (hr:Red l):m_yreduce N l=some (l,l.length):=by
 unfold m_yreduce;have h1:=ypush_ok l [] hN hl (fun _ h=>by cases h) (by simp; omega);rw[pushs_red hr]at h1
 apply T.eq
 simp only[tq,Int.reduceEq,Int.reduceLT,Int.reduceLE,reduceCtorEq,zw h1,zw (ycopied_ok N l hb)]
 (repeat' apply And.intro)<;>first | omega | (simp only[LL]; omega) | exact this | rfl | trivial
structure YV(y:zd):Prop where
 cnt:0<=y.2.2.1/\y.2.2.1<=2048
 out:y.1=false->y.2.1=0/\y.2.2.2.1=false/\y.2.2.2.2=[]
 at':y.1=true->Int.tmod y.2.1 2≠0/\-13<=y.2.1/\y.2.1<=179
 few:y.2.2.2.2.length<=4096
 ok:∀ p∈y.2.2.2.2,PassV p
 red:Red y.2.2.2.2
theorem ycheck_ok{N:Nat} {y:zd} (h:YV y) (hN:y.2.2.2.2.length < N):m_ycheck N y=some 0:=by
 have hL:m_ycheck_L2 N y N (0:Int)=some (.inl ()):=by
  unfold m_ycheck_L2;refine zg (fun k d=>∃ j:Nat,j+k=y.2.2.2.2.length/\d=(j:Int)) _ ?_ N y.2.2.2.2.length _ (by omega) ⟨0,by omega,rfl⟩;rintro k d rec ⟨j,hj,rfl⟩ hrec;have hf:=h.few
  apply T.eq
  by_cases hlt:j < y.2.2.2.2.length
  ·obtain⟨x,hx⟩:∃ x,y.2.2.2.2[j]?=some x:=⟨_,List.getElem?_eq_getElem hlt⟩
   have hxv:=h.ok x (List.mem_of_getElem? hx);have hltI:(j:Int) < (y.2.2.2.2.length:Int):=by omega
   have hgo:T (rec ((j:Int)+1)) (·=.inl ()):=⟨_,hrec (k - 1) _ (by omega) ⟨j+1,by omega,rfl⟩,rfl⟩
   simp only[tq,Int.reduceEq,Int.reduceLT,Int.reduceLE,reduceCtorEq,hltI,zv hx,zw (yvalid_ok N hxv),Bool.not_true,Bool.not_false]
   by_cases h0:j=0
   ·subst h0
    simp only[tq,Int.reduceEq,Int.reduceLT,Int.reduceLE,reduceCtorEq,show ¬ ((0:Int) < ((0:Nat):Int)) by omega];have this:=hgo
    (repeat' apply And.intro)<;>first | omega | (simp only[LL]; omega) | exact this | rfl | trivial
   ·have h0I:(0:Int) < (j:Int):=by omega
    obtain⟨q,hq⟩:∃ x,y.2.2.2.2[j - 1]?=some x:=⟨_,List.getElem?_eq_getElem (by omega)⟩
    have hqv:=h.ok q (List.mem_of_getElem? hq);have hc:canc q x=false:=h.red (j - 1) q x hq (by rw[show j - 1+1=j by omega]; exact hx);simp only[tq,Int.reduceEq,Int.reduceLT,Int.reduceLE,reduceCtorEq,h0I,show((j:Int) - 1).toNat=j - 1 by omega,zv hq,zw (ycancel_ok N hqv.2 hxv.2),hc];have this:=hgo
    (repeat' apply And.intro)<;>first | omega | (simp only[LL]; omega) | exact this | rfl | trivial
  ·have hltI:¬ (j:Int) < (y.2.2.2.2.length:Int):=by omega
   simp only[tq,Int.reduceEq,Int.reduceLT,Int.reduceLE,reduceCtorEq,hltI]
 have hc:=h.cnt;have hf:=h.few;unfold m_ycheck
 apply T.eq
 cases hin:y.1 with
 | false=>
  obtain⟨h1,h2,h3⟩:=h.out hin;simp only[tq,Int.reduceEq,Int.reduceLT,Int.reduceLE,reduceCtorEq,h1,h2,h3,hin,Bool.not_false,List.length_nil,show ¬ y.2.2.1 < 0 by omega,show ¬ (2048:Int) < y.2.2.1 by omega]
  decide
 | true=>
  obtain⟨h1,h2,h3⟩:=h.at' hin;have hp:xb N y.2.1=some true:=by
   unfold xb
   apply T.eq
   simp only[tq,Int.reduceEq,Int.reduceLT,Int.reduceLE,reduceCtorEq];exact⟨⟨h1,h2⟩,h3⟩
  simp only[tq,Int.reduceEq,Int.reduceLT,Int.reduceLE,reduceCtorEq,hin,zw hp,zw hL,Bool.not_true,Bool.not_false,show ¬ y.2.2.1 < 0 by omega,show ¬ (2048:Int) < y.2.2.1 by omega,show ¬ (4096:Int) < (y.2.2.2.2.length:Int) by omega]
theorem ygo_ok{N:Nat} {y:zd} (h:YV y) (hin:y.1=true) (hN:5000 < N) {place:Int} (hp:Int.tmod place 2≠0/\-13<=place/\place<=179) {l:List qa} (hl:∀ p∈l,PassV p) (hb:l.length+y.2.2.2.2.length<=4096) :
  m_ygo N y place l=some ((true,place,y.2.2.1,y.2.2.2.1,pushs y.2.2.2.2 l),0):=by
 have hf:=h.few;have hL:m_ygo_L3 N l N (0:Int)=some (.inl ()):=by
  unfold m_ygo_L3;refine zg (fun k d=>∃ j:Nat,j+k=l.length/\d=(j:Int)) _ ?_ N l.length _ (by omega) ⟨0,by omega,rfl⟩;rintro k d rec ⟨j,hj,rfl⟩ hrec
  apply T.eq
  by_cases hlt:j < l.length
  ·obtain⟨x,hx⟩:∃ x,l[j]?=some x:=⟨_,List.getElem?_eq_getElem hlt⟩
   have hltI:(j:Int) < (l.length:Int):=by omega
   have this:T (rec ((j:Int)+1)) (·=.inl ()):=⟨_,hrec (k - 1) _ (by omega) ⟨j+1,by omega,rfl⟩,rfl⟩
   simp only[tq,Int.reduceEq,Int.reduceLT,Int.reduceLE,reduceCtorEq,hltI,zv hx,zw (yvalid_ok N (hl x (List.mem_of_getElem? hx)))]
   (repeat' apply And.intro)<;>first | omega | (simp only[LL]; omega) | exact this | rfl | trivial
  ·have hltI:¬ (j:Int) < (l.length:Int):=by omega
   simp only[tq,Int.reduceEq,Int.reduceLT,Int.reduceLE,reduceCtorEq,hltI]
 have hpl:xb N place=some true:=by
  unfold xb;rw[decide_eq_false hp.1,decide_eq_true hp.2.1,decide_eq_true hp.2.2]
  rfl
 have hpush:=ypush_ok l y.2.2.2.2 (by omega:l.length < N) (fun p h=>(hl p h).2) (fun p hp=>(h.ok p hp).2) (by omega);have hlen:=pushs_len y.2.2.2.2 l;unfold m_ygo
 apply T.eq
 simp only[tq,Int.reduceEq,Int.reduceLT,Int.reduceLE,reduceCtorEq,zw (ycheck_ok (N:=N) h (by omega)),zw hpl,zw hL,hin,List.nil_append,List.length_nil,zw hpush,zw (ycopied_ok N _ (show(pushs y.2.2.2.2 l).length<=100000 by omega)),show ¬ (4096:Int) < ((pushs y.2.2.2.2 l).length:Int) by omega]
 (repeat' apply And.intro)<;>first | omega | (simp only[LL]; omega) | exact this | rfl | trivial
theorem ygo_v{y:zd} (h:YV y) {place:Int} (hp:Int.tmod place 2≠0/\-13<=place/\place<=179) {l:List qa} (hl:∀ p∈l,PassV p) (hb:l.length+y.2.2.2.2.length<=4096) :
  YV (true,place,y.2.2.1,y.2.2.2.1,pushs y.2.2.2.2 l):=by
 have hlen:=pushs_len y.2.2.2.2 l;exact⟨h.cnt,fun h=>(by cases h),fun _=>hp,by show(pushs y.2.2.2.2 l).length<=4096; omega,fun p hp=>(pushs_mem hp).elim (h.ok p) (hl p),h.red.pushs l⟩
theorem yenter_ok{N:Nat} {y:zd} (h:YV y) (hout:y.1=false) (hN:5000 < N) {side:Int} (hs:side=0\/side=1):m_yenter N y side=some ((true,(if side=1 then 179 else -13),y.2.2.1,true,[]),0):=by
 have hf:=h.few;unfold m_yenter
 apply T.eq
 simp only[tq,Int.reduceEq,Int.reduceLT,Int.reduceLE,reduceCtorEq,zw (ycheck_ok (N:=N) h (by omega)),zw (ysided_ok N hs),hout]
 rcases hs with rfl | rfl
 ·simp
 ·simp
theorem ymake_ok{N:Nat} {y:zd} (h:YV y) (hin:y.1=true) (hN:5000 < N) (hlt:y.2.2.1 < 2048):m_ymake N y=some ((true,y.2.1,y.2.2.1+1,false,[]),(y.2.2.1,y.2.2.2.1,y.2.2.2.2),0):=by
 have hf:=h.few;have hc:=h.cnt;unfold m_ymake
 apply T.eq
 simp only[tq,Int.reduceEq,Int.reduceLT,Int.reduceLE,reduceCtorEq,zw (ycheck_ok (N:=N) h (by omega)),hin,zw (ycopied_ok N _ (show y.2.2.2.2.length<=100000 by omega)),show ¬ y.2.2.1=2048 by omega]
 (repeat' apply And.intro)<;>first | omega | (simp only[LL]; omega) | exact this | rfl | trivial
theorem ymake_v{y:zd} (h:YV y) (hin:y.1=true) (hlt:y.2.2.1 < 2048):YV (true,y.2.1,y.2.2.1+1,false,[]):=by
 have hc:=h.cnt;exact⟨by show 0<=y.2.2.1+1/\y.2.2.1+1<=2048; omega,fun h=>(by cases h),fun _=>h.at' hin,by simp,fun _ h=>(by cases h),fun i p q h=>by cases h⟩

theorem rev_gen{α:Type} (z:α) {N:Nat} (l:List α) (hN:l.length < N) (h:l.length<=100000):zc (fun(d1:Int×Int×List α) rec1=>
  cond (decide (d1.1 < d1.2.1)) (gd ((ze d1.2.1 d1.2.2.length)&&((decide (d1.2.1.toNat < d1.2.2.length))&&((ze d1.1 d1.2.2.length)&&((decide (d1.1.toNat < d1.2.2.length))&&((ze d1.1 d1.2.2.length)&&(((decide (d1.1.toNat < d1.2.2.length))&&(true))&&((ze d1.2.1 (d1.2.2.set d1.1.toNat (d1.2.2.getD d1.2.1.toNat z)).length)&&(((decide (d1.2.1.toNat < (d1.2.2.set d1.1.toNat (d1.2.2.getD d1.2.1.toNat z)).length))&&(true))&&(true))))))))) <|
  gd ((zq (d1.1+(1:Int)))&&((zq (d1.2.1 - (1:Int)))&&(true))) <|
  rec1 ((d1.1+(1:Int)),(d1.2.1 - (1:Int)),((d1.2.2.set d1.1.toNat (d1.2.2.getD d1.2.1.toNat z)).set d1.2.1.toNat (d1.2.2.getD d1.1.toNat z)))) (some d1.2.2)) N ((0:Int),((l.length:Int) - (1:Int)),l)=some l.reverse:=by
 refine zg (fun k (d:Int×Int×List α)=>∃ i:Nat,i+k=l.length/\d.1=i/\d.2.1=(l.length:Int) - 1 - i/\d.2.2.length=l.length/\∀ x,x < l.length->d.2.2[x]?=if x < i\/l.length<=x+i then l[l.length - 1 - x]? else l[x]?) _ ?_ N l.length _ (by omega) ⟨0,by omega,rfl,by simp,rfl,fun x hx=>by rw[if_neg (by omega)]⟩;rintro k ⟨d1,d2,l'⟩ rec ⟨i,hi,e1,e2,hlen,hx⟩ hrec;dsimp only at e1 e2 hlen hx;subst e1;subst e2;dsimp only
 by_cases hlt:2 * i+1 < l.length
 ·have e3:(l.length:Int) - 1 - (i:Int)=((l.length - 1 - i:Nat):Int):=by omega
  obtain⟨a,ha⟩:∃ a,l'[i]?=some a:=⟨_,List.getElem?_eq_getElem (by omega)⟩
  obtain⟨b,hb⟩:∃ b,l'[l.length - 1 - i]?=some b:=⟨_,List.getElem?_eq_getElem (by omega)⟩
  have ha':l[i]?=some a:=by rw[<- ha,hx i (by omega),if_neg (by omega)]
  have hb':l[l.length - 1 - i]?=some b:=by rw[<- hb,hx _ (by omega),if_neg (by omega)]
  rw[e3,show decide ((i:Int) < ((l.length - 1 - i:Nat):Int))=true from decide_eq_true (by omega),cond_true,Int.toNat_natCast,Int.toNat_natCast,zv ha,zv hb];rw[qk (by simp[ze]; omega),qk (by rw[zp (by omega) (by omega),zp (by omega) (by omega)]; rfl)];refine hrec (k - 1) _ (by omega) ⟨i+1,by omega,by simp,by dsimp only; omega,by simp[hlen],fun x hxl=>?_⟩;dsimp only;rw[List.getElem?_set,List.getElem?_set]
  by_cases c1:l.length - 1 - i=x
  ·subst c1
   rw[if_pos rfl,if_pos (by simp; omega),if_pos (by omega),show l.length - 1 - (l.length - 1 - i)=i by omega,ha']
  ·rw[if_neg c1]
   by_cases c2:i=x
   ·subst c2
    rw[if_pos rfl,if_pos (by omega),if_pos (by omega),hb']
   ·rw[if_neg c2,hx x hxl]
    by_cases c3:x < i\/l.length<=x+i
    ·rw[if_pos c3,if_pos (by omega)]
    ·rw[if_neg c3,if_neg (by omega)]
 ·rw[show decide ((i:Int) < (l.length:Int) - 1 - (i:Int))=false from decide_eq_false (by omega),cond_false]
  congr 1
  apply List.ext_getElem?
  intro x
  by_cases hxl:x < l.length
  ·rw[hx x hxl,List.getElem?_reverse hxl]
   by_cases c3:x < i\/l.length<=x+i
   ·rw[if_pos c3]
   ·rw[if_neg c3]
    have:l.length - 1 - x=x:=by omega
    rw[this]
  ·rw[List.getElem?_eq_none (by omega),List.getElem?_eq_none (by simp; omega)]
theorem revP_ok{N:Nat} (l:List qa) (hN:l.length < N) (h:l.length<=100000):m_revP N l=some l.reverse:=by
 unfold m_revP;rw[qk (by rw[zp (by omega) (by omega)]; rfl),show m_revP_L1 N N ((0:Int),((l.length:Int) - (1:Int)),l)=some l.reverse from rev_gen qU.zero l hN h,Option.bind_some]
theorem flat_take{α:Type} {l:List (List α)} {j:Nat} {x:List α} (h:l[j]?=some x):(l.take (j+1)).flatten=(l.take j).flatten++x:=by
 obtain⟨h1,h2⟩:=List.getElem?_eq_some_iff.1 h;rw[List.take_succ_eq_append_getElem h1,h2,List.flatten_append]
 simp
theorem flat_le{α:Type} (l:List (List α)) (j:Nat):(l.take j).flatten.length<=l.flatten.length:=by
 conv=>rhs; rw[<- List.take_append_drop j l,List.flatten_append,List.length_append]
 omega
theorem join1_gen{α:Type} {N:Nat} (a0:List (List α)) (hN:a0.length < N) (h:a0.length<=100000) (h2:a0.flatten.length<=100000):zc (fun(d1:Int×Int) rec1=>
  cond (decide (d1.2 < (a0.length:Int))) (gd ((ze d1.2 a0.length)&&(true)) <|
  gd ((zq (d1.1+((a0.getD d1.2.toNat []).length:Int)))&&(true)) <|
  gd ((zq (d1.2+(1:Int)))&&(true)) <|
  rec1 ((d1.1+((a0.getD d1.2.toNat []).length:Int)),(d1.2+(1:Int)))) (some d1.1)) N ((0:Int),(0:Int))=some (a0.flatten.length:Int):=by
 refine zg (fun k d=>∃ j:Nat,j+k=a0.length/\d=(((a0.take j).flatten.length:Int),(j:Int))) _ ?_ N a0.length _ (by omega) ⟨0,by omega,by simp⟩;rintro k d rec ⟨j,hj,rfl⟩ hrec
 apply T.eq
 by_cases hlt:j < a0.length
 ·obtain⟨x,hx⟩:∃ x,a0[j]?=some x:=⟨_,List.getElem?_eq_getElem hlt⟩
  have hltI:(j:Int) < (a0.length:Int):=by omega
  have hf:=flat_take hx;have hl:=flat_le a0 (j+1);rw[hf,List.length_append]at hl;have this:T (rec (((a0.take j).flatten.length:Int)+(x.length:Int),(j:Int)+1)) (·=(a0.flatten.length:Int)):=⟨_,hrec (k - 1) _ (by omega) ⟨j+1,by omega,by rw[hf,List.length_append]; rfl⟩,rfl⟩
  simp only[tq,Int.reduceEq,Int.reduceLT,Int.reduceLE,reduceCtorEq,hltI,zv hx]
  (repeat' apply And.intro)<;>first | omega | (simp only[LL]; omega) | exact this | rfl | trivial
 ·have hltI:¬ (j:Int) < (a0.length:Int):=by omega
  simp only[tq,Int.reduceEq,Int.reduceLT,Int.reduceLE,reduceCtorEq,hltI];rw[List.take_of_length_le (by omega)]
theorem join2_gen{α:Type} (z:α) {N:Nat} (a0:List (List α)) (hN:a0.length < N) (h:a0.length<=100000) (h2:a0.flatten.length<=100000):zc (fun(d2:Int×Int×List α) rec2=>
  cond (decide (d2.2.1 < (a0.length:Int))) (gd ((ze d2.2.1 a0.length)&&(true)) <|
  gd (((decide (0<=d2.1))&&(decide (d2.1<=(d2.2.2.length:Int))))&&((decide (d2.1.toNat+(a0.getD d2.2.1.toNat []).length<=d2.2.2.length))&&((zq (d2.1+((a0.getD d2.2.1.toNat []).length:Int)))&&(true)))) <|
  gd ((zq (d2.2.1+(1:Int)))&&(true)) <|
  rec2 ((d2.1+((a0.getD d2.2.1.toNat []).length:Int)),(d2.2.1+(1:Int)),(d2.2.2.take d2.1.toNat++(a0.getD d2.2.1.toNat [])++d2.2.2.drop (d2.1.toNat+(a0.getD d2.2.1.toNat []).length)))) (some d2.2.2)) N ((0:Int),(0:Int),List.replicate a0.flatten.length z)=some a0.flatten:=by
 refine zg (fun k d=>∃ j:Nat,j+k=a0.length/\d=(((a0.take j).flatten.length:Int),(j:Int),(a0.take j).flatten++List.replicate (a0.flatten.length - (a0.take j).flatten.length) z)) _ ?_ N a0.length _ (by omega) ⟨0,by omega,by simp⟩;rintro k d rec ⟨j,hj,rfl⟩ hrec
 apply T.eq
 by_cases hlt:j < a0.length
 ·obtain⟨x,hx⟩:∃ x,a0[j]?=some x:=⟨_,List.getElem?_eq_getElem hlt⟩
  have hltI:(j:Int) < (a0.length:Int):=by omega
  have hf:=flat_take hx;have hl:=flat_le a0 (j+1);rw[hf,List.length_append]at hl;obtain⟨M,hM⟩:∃ M,M=(a0.take j).flatten:=⟨_,rfl⟩
  rw[<- hM]at hl hf;have e1:(M++List.replicate (a0.flatten.length - M.length) z).take M.length=M:=by simp
  have e2:(M++List.replicate (a0.flatten.length - M.length) z).drop (M.length+x.length)=List.replicate (a0.flatten.length - (M.length+x.length)) z:=by
   rw[List.drop_append,List.drop_of_length_le (by omega),List.nil_append,List.drop_replicate]
   congr 1
   omega
  have this:T (rec ((M.length:Int)+(x.length:Int),(j:Int)+1,M++x++List.replicate (a0.flatten.length - (M.length+x.length)) z)) (·=a0.flatten):=⟨_,hrec (k - 1) _ (by omega) ⟨j+1,by omega,by rw[hf,List.length_append]; rfl⟩,rfl⟩
  rw[<- hM];simp only[tq,Int.reduceEq,Int.reduceLT,Int.reduceLE,reduceCtorEq,hltI,zv hx,e1,e2,List.length_append,List.length_replicate]
  (repeat' apply And.intro)<;>first | omega | (simp only[LL]; omega) | exact this | rfl | trivial
 ·have hltI:¬ (j:Int) < (a0.length:Int):=by omega
  simp only[tq,Int.reduceEq,Int.reduceLT,Int.reduceLE,reduceCtorEq,hltI];rw[List.take_of_length_le (by omega)]
  simp
theorem joinI_ok{N:Nat} (a0:List (List zb)) (hN:a0.length < N) (h:a0.length<=100000) (h2:a0.flatten.length<=100000):m_joinI N a0=some a0.flatten:=by
 have h3:m_joinI_L1 N a0 N ((0:Int),(0:Int))=some (a0.flatten.length:Int):=join1_gen a0 hN h h2;have h4:m_joinI_L2 N a0 N ((0:Int),(0:Int),List.replicate a0.flatten.length zo.zero)=some a0.flatten:=join2_gen zo.zero a0 hN h h2;unfold m_joinI
 apply T.eq
 simp only[tq,Int.reduceEq,Int.reduceLT,Int.reduceLE,reduceCtorEq,zw h3,zw h4]
 (repeat' apply And.intro)<;>first | omega | (simp only[LL]; omega) | exact this | rfl | trivial
theorem joinXo_ok{N:Nat} (a0:List (List zQ)) (hN:a0.length < N) (h:a0.length<=100000) (h2:a0.flatten.length<=100000):m_joinXo N a0=some a0.flatten:=by
 have h3:m_joinXo_L1 N a0 N ((0:Int),(0:Int))=some (a0.flatten.length:Int):=join1_gen a0 hN h h2;have h4:m_joinXo_L2 N a0 N ((0:Int),(0:Int),List.replicate a0.flatten.length zK.zero)=some a0.flatten:=join2_gen zK.zero a0 hN h h2;unfold m_joinXo
 apply T.eq
 simp only[tq,Int.reduceEq,Int.reduceLT,Int.reduceLE,reduceCtorEq,zw h3,zw h4]
 (repeat' apply And.intro)<;>first | omega | (simp only[LL]; omega) | exact this | rfl | trivial
def zY(l:List zB):List zb:=(l.map (·.2)).flatten
theorem fill_gen{N:Nat} (a0:List zB) (hN:a0.length < N) (h:a0.length<=100000) (c:Int->Bool) (hc:∀ j:Nat,j < a0.length->c j=true):zc (fun(d1:Int×(List (List zb))) rec1=>
  cond (decide (d1.1 < (a0.length:Int))) (gd ((ze d1.1 a0.length)&&c d1.1) <|
  gd ((ze d1.1 d1.2.length)&&(((decide (d1.1.toNat < d1.2.length))&&(true))&&(true))) <|
  gd ((zq (d1.1+(1:Int)))&&(true)) <|
  rec1 ((d1.1+(1:Int)),(d1.2.set d1.1.toNat (a0.getD d1.1.toNat zL.zero).2))) (some d1.2)) N ((0:Int),List.replicate a0.length [])=some (a0.map (·.2)):=by
 refine zg (fun k d=>∃ j:Nat,j+k=a0.length/\d=((j:Int),fil (·.2) [] a0 j)) _ ?_ N a0.length _ (by omega) ⟨0,by omega,by rw[fil_zero]; rfl⟩;rintro k d rec ⟨j,hj,rfl⟩ hrec
 apply T.eq
 have hfl:=fil_len (fun x:zB=>x.2) [] a0 j (by omega)
 by_cases hlt:j < a0.length
 ·obtain⟨x,hx⟩:∃ x,a0[j]?=some x:=⟨_,List.getElem?_eq_getElem hlt⟩
  have hltI:(j:Int) < (a0.length:Int):=by omega
  have hset:=fil_set (fun x:zB=>x.2) [] a0 j hlt x hx;have this:T (rec ((j:Int)+1,fil (fun x:zB=>x.2) [] a0 (j+1))) (·=a0.map (·.2)):=⟨_,hrec (k - 1) _ (by omega) ⟨j+1,by omega,rfl⟩,rfl⟩
  simp only[tq,Int.reduceEq,Int.reduceLT,Int.reduceLE,reduceCtorEq,hltI,zv hx,hset,hfl,hc j hlt]
  (repeat' apply And.intro)<;>first | omega | (simp only[LL]; omega) | exact this | rfl | trivial
 ·have hltI:¬ (j:Int) < (a0.length:Int):=by omega
  simp only[tq,Int.reduceEq,Int.reduceLT,Int.reduceLE,reduceCtorEq,hltI];rw[show j=a0.length by omega,fil_all]
theorem rheld_ok{N:Nat} (a0:List zB) (hN:a0.length < N) (h:a0.length<=100000) (h2:(zY a0).length<=100000):m_rheld N a0=some (zY a0):=by
 unfold m_rheld
 have:=fill_gen a0 hN h (fun _=>true) (fun _ _=>rfl)
 rw[qk (by simp; refine roomB_i.2 ⟨?_,?_⟩<;>omega),Int.toNat_natCast,show m_rheld_L1 N a0 N ((0:Int),List.replicate a0.length [])=some (a0.map (·.2))from this,Option.bind_some,joinI_ok _ (by simp; omega) (by simp; omega) h2]
 rfl
theorem rheldR_ok{N:Nat} (a0:List zB) (hN:a0.length < N) (h:a0.length<=100000) (h2:(zY a0).length<=100000):m_rheldR N a0=some (zY a0):=by
 unfold m_rheldR
 have:=fill_gen a0 hN h (fun z=>decide (z.toNat < a0.length)&&true) (fun j hj=>by simp[hj])
 rw[qk (by simp; refine roomB_i.2 ⟨?_,?_⟩<;>omega),Int.toNat_natCast,show m_rheldR_L1 N a0 N ((0:Int),List.replicate a0.length [])=some (a0.map (·.2))from this,Option.bind_some,joinI_ok _ (by simp; omega) (by simp; omega) h2]
 rfl
def qH(d:Int) (l:List zB):List qa:=l.flatMap fun s=>s.2.map fun a=>(a,(decide (s.1=(1:Int)),d))
def passS(d:Int) (l:List zB):List qa:=if d=1 then qH d l else(qH d l).reverse
theorem passR_len(d:Int) (l:List zB):(qH d l).length=(zY l).length:=by
 induction l with
 | nil=>rfl
 | cons a l ih=>
  simp only[qH,zY,List.flatMap_cons,List.length_append,List.length_map,List.map_cons,List.flatten_cons]at ih ⊢;omega
theorem passR_take{d:Int} {l:List zB} {j:Nat} {x:zB} (h:l[j]?=some x):qH d (l.take (j+1))=qH d (l.take j)++x.2.map fun a=>(a,(decide (x.1=(1:Int)),d)):=by
 obtain⟨h1,h2⟩:=List.getElem?_eq_some_iff.1 h;unfold qH;rw[List.take_succ_eq_append_getElem h1,h2,List.flatMap_append]
 simp
theorem past3_gen{N:Nat} (d0:Int) (x:zB) (hN:x.2.length < N) (s:List qa) (h:s.length+x.2.length<=100000):zc (fun(d3:Int×(List qa)) rec3=>
  cond (decide (d3.1 < (x.2.length:Int))) (gd ((ze d3.1 x.2.length)&&(true)) <|
  gd ((zV 24 (d3.2.length+[((x.2.getD d3.1.toNat zo.zero),((decide (x.1=(1:Int))),d0))].length))&&(true)) <|
  gd ((zq (d3.1+(1:Int)))&&(true)) <|
  rec3 ((d3.1+(1:Int)),(d3.2++[((x.2.getD d3.1.toNat zo.zero),((decide (x.1=(1:Int))),d0))]))) (some d3.2)) N ((0:Int),s)=some (s++x.2.map fun a=>(a,(decide (x.1=(1:Int)),d0))):=by
 refine zg (fun k d=>∃ j:Nat,j+k=x.2.length/\d=((j:Int),s++(x.2.take j).map fun a=>(a,(decide (x.1=(1:Int)),d0)))) _ ?_ N x.2.length _ (by omega) ⟨0,by omega,by simp⟩;rintro k d rec ⟨j,hj,rfl⟩ hrec
 apply T.eq
 by_cases hlt:j < x.2.length
 ·obtain⟨a,ha⟩:∃ a,x.2[j]?=some a:=⟨_,List.getElem?_eq_getElem hlt⟩
  have hltI:(j:Int) < (x.2.length:Int):=by omega
  have e:(s++(x.2.take (j+1)).map fun a=>((a,(decide (x.1=(1:Int)),d0)):qa))=(s++(x.2.take j).map fun a=>(a,(decide (x.1=(1:Int)),d0)))++[(a,(decide (x.1=(1:Int)),d0))]:=by
   rw[List.take_succ_eq_append_getElem hlt,(List.getElem?_eq_some_iff.1 ha).2]
   simp
  have this:T (rec ((j:Int)+1,(s++(x.2.take j).map fun a=>(a,(decide (x.1=(1:Int)),d0)))++[(a,(decide (x.1=(1:Int)),d0))])) (·=s++x.2.map fun a=>(a,(decide (x.1=(1:Int)),d0))):=⟨_,hrec (k - 1) _ (by omega) ⟨j+1,by omega,by rw[e]; rfl⟩,rfl⟩
  simp only[tq,Int.reduceEq,Int.reduceLT,Int.reduceLE,reduceCtorEq,hltI,zv ha,List.length_append,List.length_map,List.length_take,List.length_singleton]
  (repeat' apply And.intro)<;>first | omega | (simp only[LL]; omega) | exact this | rfl | trivial
 ·have hltI:¬ (j:Int) < (x.2.length:Int):=by omega
  simp only[tq,Int.reduceEq,Int.reduceLT,Int.reduceLE,reduceCtorEq,hltI];rw[List.take_of_length_le (by omega)]
theorem pastR_ok{N:Nat} (d0:Int) (a1:List zB) (hN:a1.length < N) (hN2:(zY a1).length < N) (h:a1.length<=100000) (h2:(zY a1).length<=100000):m_pastR N d0 a1=some (passS d0 a1,a1):=by
 have hL:m_pastR_L2 N d0 a1 N ((0:Int),[])=some (qH d0 a1):=by
  unfold m_pastR_L2;refine zg (fun k d=>∃ j:Nat,j+k=a1.length/\d=((j:Int),qH d0 (a1.take j))) _ ?_ N a1.length _ (by omega) ⟨0,by omega,rfl⟩;rintro k d rec ⟨j,hj,rfl⟩ hrec
  apply T.eq
  by_cases hlt:j < a1.length
  ·obtain⟨x,hx⟩:∃ x,a1[j]?=some x:=⟨_,List.getElem?_eq_getElem hlt⟩
   have hltI:(j:Int) < (a1.length:Int):=by omega
   have e:=passR_take (d:=d0) hx;have hl:(qH d0 (a1.take (j+1))).length<=(zY a1).length:=by
    rw[passR_len];unfold zY;rw[List.map_take];exact flat_le _ _
   rw[e,List.length_append,List.length_map]at hl;have h3:m_pastR_L3 N d0 a1 (j:Int) N ((0:Int),qH d0 (a1.take j))=some (qH d0 (a1.take (j+1))):=by
    rw[e];unfold m_pastR_L3;rw[Int.toNat_natCast,zv hx];exact past3_gen d0 x (by omega) _ (by omega)
   have this:T (rec ((j:Int)+1,qH d0 (a1.take (j+1)))) (·=qH d0 a1):=⟨_,hrec (k - 1) _ (by omega) ⟨j+1,by omega,rfl⟩,rfl⟩
   simp only[tq,Int.reduceEq,Int.reduceLT,Int.reduceLE,reduceCtorEq,hltI,zw h3]
   (repeat' apply And.intro)<;>first | omega | (simp only[LL]; omega) | exact this | rfl | trivial
  ·have hltI:¬ (j:Int) < (a1.length:Int):=by omega
   simp only[tq,Int.reduceEq,Int.reduceLT,Int.reduceLE,reduceCtorEq,hltI];rw[List.take_of_length_le (by omega)]
 have hl:=passR_len d0 a1;unfold m_pastR
 apply T.eq
 simp only[tq,Int.reduceEq,Int.reduceLT,Int.reduceLE,reduceCtorEq,zw (rheldR_ok a1 hN h h2),zw hL,zw (revP_ok (N:=N) (qH d0 a1) (by omega) (by omega))];refine⟨by omega,fun e=>?_,fun e=>?_⟩<;>unfold passS
 ·rw[if_neg e]
 ·rw[if_pos e]
theorem rpast_ok{N:Nat} (d0:Int) (a1:List zB) (hN:a1.length < N) (hN2:(zY a1).length < N) (h:a1.length<=100000) (h2:(zY a1).length<=100000):m_rpast N a1 d0=some (passS d0 a1):=by
 have hL:m_rpast_L2 N a1 d0 N ((0:Int),[])=some (qH d0 a1):=by
  unfold m_rpast_L2;refine zg (fun k d=>∃ j:Nat,j+k=a1.length/\d=((j:Int),qH d0 (a1.take j))) _ ?_ N a1.length _ (by omega) ⟨0,by omega,rfl⟩;rintro k d rec ⟨j,hj,rfl⟩ hrec
  apply T.eq
  by_cases hlt:j < a1.length
  ·obtain⟨x,hx⟩:∃ x,a1[j]?=some x:=⟨_,List.getElem?_eq_getElem hlt⟩
   have hltI:(j:Int) < (a1.length:Int):=by omega
   have e:=passR_take (d:=d0) hx;have hl:(qH d0 (a1.take (j+1))).length<=(zY a1).length:=by
    rw[passR_len];unfold zY;rw[List.map_take];exact flat_le _ _
   rw[e,List.length_append,List.length_map]at hl;have h3:m_rpast_L3 N a1 d0 (j:Int) N ((0:Int),qH d0 (a1.take j))=some (qH d0 (a1.take (j+1))):=by
    rw[e];unfold m_rpast_L3;rw[Int.toNat_natCast,zv hx];exact past3_gen d0 x (by omega) _ (by omega)
   have this:T (rec ((j:Int)+1,qH d0 (a1.take (j+1)))) (·=qH d0 a1):=⟨_,hrec (k - 1) _ (by omega) ⟨j+1,by omega,rfl⟩,rfl⟩
   simp only[tq,Int.reduceEq,Int.reduceLT,Int.reduceLE,reduceCtorEq,hltI,zw h3]
   (repeat' apply And.intro)<;>first | omega | (simp only[LL]; omega) | exact this | rfl | trivial
  ·have hltI:¬ (j:Int) < (a1.length:Int):=by omega
   simp only[tq,Int.reduceEq,Int.reduceLT,Int.reduceLE,reduceCtorEq,hltI];rw[List.take_of_length_le (by omega)]
 have hl:=passR_len d0 a1;unfold m_rpast
 apply T.eq
 simp only[tq,Int.reduceEq,Int.reduceLT,Int.reduceLE,reduceCtorEq,zw (rheld_ok a1 hN h h2),zw hL,zw (revP_ok (N:=N) (qH d0 a1) (by omega) (by omega))];refine⟨by omega,fun e=>?_,fun e=>?_⟩<;>unfold passS
 ·rw[if_neg e]
 ·rw[if_pos e]
end Go.Proofs.YtldjgdggcodgeaaGreat
