/- FlatsPlan: for every chart of the law, the law returns true, and its arguments read as before; the listed package-level variables start as the program's text lays them. -/
import Derived.Test.YtihcolehefloeaaGreatDoorFp5
set_option linter.unusedSimpArgs false
set_option linter.unusedVariables false
set_option maxRecDepth 20000
set_option maxHeartbeats 4000000
/- Flats, plain: the charts of layer 13 are charts. -/
namespace Go.Proofs.YtihcolehefloeaaGreatDoor
open Go.RowKit
theorem stloads_eq {s:zR} (h:xQ s=true) {a:List Int} (ha:(a.length:Int)=need s) (hd:Lds a) (hg:ldGood s a):m_stloads s a=some (ldOf s a,(make s).toNat,0):=by
  have f:=zY h;have hn:=yP s;have hm:=qV s;have hmp:=make_pos h;have h4:=loop0 (fun n i (q:Unit)=>qe a n i) a.length (fun _=>()) (.inl ()) (zD (by omega)) (fun n k hk=>by
    show qe a (n+1) k=qe a n (k+1)
    have:=lds_get hd k hk
    rw [qe,qm (decide_eq_true (by omega)),zF (by simp [zh]; omega),Int.toNat_natCast,zK (by simp only [Bool.cond_true_left,Bool.or_eq_false_iff,decide_eq_false_iff_not]; omega),zF (by simp [zk]; omega)]) (fun n=>by
    show qe a (n+1) a.length=some (.inl ());rw [qe,zK (by simp)])
  obtain ⟨w,hw⟩:∃ w:Nat,make s=(w:Int):=⟨(make s).toNat,by omega⟩
  have h9:=xn (fun n (q:Int×List Int)=>qp (w:Int) n q.1 q.2) w (fun k=>((k:Int),fl w (fun i=>if i < k then 1 else 0))) (0,List.replicate w 0) (List.replicate w 1)
    (by
      congr 1
      refine List.ext_getElem? fun k=>?_
      by_cases h:k < w <;> simp [fl,List.getElem?_replicate,h]) (zD (by omega)) (fun n k hk=>by
    show qp (w:Int) (n+1) k (fl w _)=qp (w:Int) n ((k+1:Nat):Int) (fl w (fun i=>if i < k+1 then 1 else 0));rw [qp,Int.toNat_natCast,Int.toNat_natCast,List.length_replicate,qm (decide_eq_true (by omega)),zF (by simp [zh,xZ]; omega),zF (by simp [zk]; omega)];rw [fl_set (g:=fun i=>if i < k+1 then 1 else 0) hk (by simp) (fun i hi=>by
      by_cases h1:i < k
      · simp only [if_pos h1,if_pos (show i < k+1 by omega)]
      · simp only [if_neg h1,if_neg (show ¬ i < k+1 by omega)])]
    rfl) (fun n=>by
    show qp (w:Int) (n+1) w _=_;rw [qp,Int.toNat_natCast,List.length_replicate,zK (by simp)]
    congr 1
    refine List.ext_getElem? fun i=>?_
    by_cases h:i < w <;> simp [fl,List.getElem?_replicate,h])
  dsimp only at h9;unfold m_stloads;rw [yT,h,if_pos rfl,Option.bind_some,zK (by rfl),stneeds_eq,Option.bind_some,zK (by simp [ha]),h4,Option.bind_some];dsimp only [sm];rw [stmakes_eq,hw,Option.bind_some,zF (by simp only [Bool.and_eq_true,decide_eq_true_eq]; omega),Int.toNat_natCast,h9,Option.bind_some];have h12:(cond (decide (s.1=(4:Int))) (some (decide (s.1=(4:Int)))) (some (decide (s.1=(5:Int)))))=some (decide (s.1=4∨s.1=5)):=by
    by_cases h4:s.1=4
    · simp [h4]
    · simp [h4]
  rw [h12,Option.bind_some,show (0:Int).toNat=0 from rfl,show (1:Int).toNat=1 from rfl];unfold ldOf;have hmk1:s.1≠8→w=1:=fun h8=>by
    have:make s=1:=by unfold make; rw [if_pos h,if_neg h8]
    omega
  by_cases h45:s.1=4∨s.1=5
  · have hn2:need s=2:=by unfold need; rw [if_pos h,if_neg (by omega),if_pos h45]
    have g0:=lds_get hd 0 (by omega);have g1:=lds_get hd 1 (by omega);have g2:=hg.1 h45;rw [qm (decide_eq_true h45),zF (by simp [zh,zk, -List.getD_eq_getElem?_getD]; omega),zK (decide_eq_false (by omega)),if_pos h45,hmk1 (by omega)]
    rfl
  · rw [zK (decide_eq_false h45),if_neg h45]
    by_cases h6:s.1=6
    · have hn1:need s=1:=by unfold need; rw [if_pos h,if_neg (by omega),if_neg h45,if_neg (by omega)]
      have g0:=lds_get hd 0 (by omega);have g2:=hg.2 h6;rw [qm (decide_eq_true h6),zF (by simp [zh]; omega),zK (decide_eq_false (by omega)),if_pos h6,hmk1 (by omega),zF (by simp [zh,zk, -List.getD_eq_getElem?_getD]; omega)]
      rfl
    · rw [zK (decide_eq_false h6),if_neg h6]
      by_cases h7:s.1=7
      · have hn1:need s=1:=by unfold need; rw [if_pos h,if_neg (by omega),if_neg h45,if_neg (by omega)]
        rw [qm (decide_eq_true h7),if_pos h7,hmk1 (by omega),zF (by simp [zh]; omega)]
        rfl
      · rw [zK (decide_eq_false h7),if_neg h7,hw,Int.toNat_natCast]
def capE (out:List zR) (cp:Option Nat):Option Nat:=if out.length=0 then cp else none
theorem ldOf_len {s:zR} (h:xQ s=true) {a:List Int} (ha:(a.length:Int)=need s) (hd:Lds a) (hg:ldGood s a):((ldOf s a).length:Int)=make s:=(rfloads_ok h ha hd hg.1 hg.2).2.1
theorem ch_loop {c:List (List zR)} {i:Nat} {V:List T1} {cap cp:Option Nat} {loads:List Int} (hd:Lds loads) (hl:loads.length≤100) {r:List zR} (hr:c.getD i []=r) (hrl:r.length≤100):∀ {q:Nat} {out:List zR} {next:List Int},Ch loads q out next→∀ rest,out++rest=r→q≤loads.length∧next.length≤4 * out.length∧∀ n,zT c i V cap (n+out.length) loads 0 [] cp=zT c i V cap n (loads.drop q) (out.length:Int) next (capE out cp)
  | _,_,_,.nil,rest,_=>⟨Nat.zero_le _,by simp,fun n=>rfl⟩
  | _,_,_,.snoc (i:=q) (nd:=nd) (out:=out) (next:=next) (s:=s) h hs hn hi hg,rest,hrest=>by
    obtain ⟨h1,h2,h3⟩:=ch_loop hd hl hr hrl h (s :: rest) (by rw [← hrest,List.append_assoc]; rfl);have hk:out.length < r.length:=by rw [← hrest]; simp
    have hget:r.getD out.length zS=s:=by
      rw [← hrest,List.append_assoc,List.getD_eq_getElem?_getD,List.getElem?_append_right (Nat.le_refl _),Nat.sub_self]
      rfl
    have ez:((0,(0,(0,(0,false)))):zR)=zS:=rfl;have hseg:(loads.take (q+nd)).drop q=(loads.drop q).take nd:=by
      rw [List.drop_take,Nat.add_sub_cancel_left]
    have hlen:(((loads.drop q).take nd).length:Int)=need s:=by
      rw [List.length_take,List.length_drop,hn];omega
    have hd2:Lds ((loads.drop q).take nd):=fun x hx=>hd x (List.mem_of_mem_drop (List.mem_of_mem_take hx))
    rw [hseg] at hg ⊢;have hst:=stloads_eq hs hlen hd2 hg;have hol:=ldOf_len hs hlen hd2 hg;have hm:=qV s;refine ⟨hi,by rw [List.length_append,List.length_append,List.length_singleton]; omega,fun n=>?_⟩;rw [List.length_append,List.length_singleton,show n+(out.length+1)=(n+1)+out.length by omega,h3];rw [zT,Int.toNat_natCast,Int.toNat_natCast,hr,qm (decide_eq_true (by omega)),zF (by simp [zh]; omega),ez,hget,stneeds_eq,Option.bind_some,hn,zF (by rw [List.length_drop]; simp only [Bool.and_eq_true,decide_eq_true_eq]; omega),Int.toNat_natCast,hst,Option.bind_some,zK (by rfl),zF (by rw [List.length_drop]; simp only [Bool.and_eq_true,decide_eq_true_eq]; omega)];dsimp only;rw [zF (by simp only [zf,Bool.and_eq_true,decide_eq_true_eq]; omega),zF (by simp [zk]; omega),List.drop_drop];have ec:capE (out++[s]) cp=none:=by unfold capE; rw [if_neg (by simp)]
    rw [ec]
    rfl
theorem ch_sum {loads:List Int}:∀ {q:Nat} {out:List zR} {next:List Int},Lds loads→Ch loads q out next→sumF need out=q∧sumF make out=next.length
  | _,_,_,_,.nil=>⟨rfl,rfl⟩
  | _,_,_,hd,.snoc (i:=q) (nd:=nd) (s:=s) h hs hn hi hg=>by
    obtain ⟨h1,h2⟩:=ch_sum hd h;have hlen:((((loads.take (q+nd)).drop q).length:Nat):Int)=need s:=by
      rw [List.length_drop,List.length_take,hn];omega
    have hol:=ldOf_len hs hlen (fun x hx=>hd x (List.mem_of_mem_take (List.mem_of_mem_drop hx))) hg;rw [sumF_snoc,sumF_snoc,h1,h2,hn,List.length_append,hol.symm];omega
theorem rws_seq {a:List Int}:∀ {rows:List (List zR)} {b:List Int},Rws a rows b→∃ B:Nat→List Int,B 0=a∧B rows.length=b∧∀ k,k < rows.length→Lds (B k)∧Ch (B k) (B k).length (rows.getD k []) (B (k+1))
  | _,_,.nil=>⟨fun _=>a,rfl,rfl,fun k hk=>absurd hk (Nat.not_lt_zero _)⟩
  | _,_,.snoc (rows:=rows) (r:=r) (b:=b) (c:=c) h hb hc=>by
    obtain ⟨B,h1,h2,h3⟩:=rws_seq h;refine ⟨fun k=>if k≤rows.length then B k else c,by dsimp only; rw [if_pos (Nat.zero_le _)]; exact h1,?_,fun k hk=>?_⟩
    · dsimp only
      rw [List.length_append,List.length_singleton,if_neg (by omega)]
    · rw [List.length_append,List.length_singleton] at hk
      dsimp only
      by_cases e:k=rows.length
      · subst e
        rw [if_pos (Nat.le_refl _),if_neg (by omega),h2,List.getD_eq_getElem?_getD,List.getElem?_append_right (Nat.le_refl _),Nat.sub_self];exact ⟨hb,hc⟩
      · rw [if_pos (by omega),if_pos (by omega),List.getD_eq_getElem?_getD,List.getElem?_append_left (by omega),← List.getD_eq_getElem?_getD]
        exact h3 k (by omega)
theorem rws_check {rows:List (List zR)} {q:Nat} {b:List Int} (hq:q < 8) (h:Rws (List.replicate (q+1) 1) rows b) (ho:rows.length % 2=1) (h9:rows.length≤9) (hR:∀ r∈rows,Row r∧zC need r r.length≤8∧zC make r r.length≤8):Fit rows∧Slim rows∧yD rows=some 0:=by
  obtain ⟨B,hB0,hBn,hB⟩:=rws_seq h;have hmem:∀ k,k < rows.length→rows.getD k []∈rows:=fun k hk=>by
    rw [List.getD_eq_getElem?_getD,List.getElem?_eq_getElem hk];exact List.getElem_mem hk
  have hs:∀ k,k < rows.length→zC need (rows.getD k []) (rows.getD k []).length=(B k).length∧zC make (rows.getD k []) (rows.getD k []).length=(B (k+1)).length:=fun k hk=>by
    obtain ⟨h1,h2⟩:=hB k hk;rw [sumF_to,sumF_to];exact ch_sum h1 h2
  have F:Fit rows:=⟨ho,by omega,fun i hi=>(hR _ (hmem i hi)).1,fun i hi=>by rw [(hs (i+1) hi).1,(hs i (by omega)).2]⟩
  refine ⟨F,⟨h9,fun i hi=>(hR _ (hmem i hi)).2.1,fun i hi=>(hR _ (hmem i hi)).2.2⟩,?_⟩
  -- the rows fit
  have hchr:m_chrows rows=some 0:=by
    unfold m_chrows;have hmod:Int.tmod (rows.length:Int) 2=((rows.length % 2:Nat):Int):=rfl;rw [zK (decide_eq_false (by omega)),hmod,zK (decide_eq_false (by omega))];have e2:=loop0 (fun n i (u:Unit)=>qE rows n i) rows.length (fun _=>()) (.inl ()) (zD (by omega)) (fun n k hk=>by
      show qE rows (n+1) k=qE rows n (k+1);rw [qE,qm (decide_eq_true (by omega)),zF (by simp [zh]; omega),Int.toNat_natCast,chrow_eq,row_zero (F.row k hk),Option.bind_some,zK (by rfl),zF (by simp [zk]; omega)]) (fun n=>by
      show qE rows (n+1) rows.length=_;rw [qE,zK (by simp)])
    have e7:=xn (fun n (i:Int)=>qo rows n i) (rows.length - 1) (fun k=>((k+1:Nat):Int)) 1 (.inl ()) rfl (zD (by omega)) (fun n k hk=>by
      show qo rows (n+1) ((k+1:Nat):Int)=qo rows n ((k+1+1:Nat):Int);have r1:=(F.row (k+1) (by omega)).len;have r2:=(F.row k (by omega)).len;rw [qo,qm (decide_eq_true (by omega)),zF (by simp [zh]; omega),Int.toNat_natCast,yv _ (by omega),Option.bind_some,zF (by simp [zh,zk]; omega),show (((k+1:Nat):Int) - 1).toNat=k by omega,chmakes_eq _ (by omega),Option.bind_some,zK (by rw [F.fit k (by omega),decide_eq_true rfl]; rfl),zF (by simp [zk]; omega)]
      rfl) (fun n=>by
      show qo rows (n+1) ((rows.length - 1+1:Nat):Int)=_;rw [qo,zK (decide_eq_false (by omega))])
    rw [e2,Option.bind_some];dsimp only [sm];rw [e7,Option.bind_some]
  have h0:=hs 0 (by omega);have hb0:(B 0).length=q+1:=by rw [hB0]; simp
  have hl0:=(F.row 0 (by omega)).len;have h4:=xn (fun n (s:Int×List Int)=>qt ((q+1:Nat):Int) n s.1 s.2) (q+1) (fun k=>((k:Int),fl (q+1) (fun i=>if i < k then 1 else 0))) (0,List.replicate (q+1) 0) (List.replicate (q+1) 1)
    (by
      congr 1
      refine List.ext_getElem? fun k=>?_
      by_cases h:k < q+1 <;> simp [fl,List.getElem?_replicate,h]) (zD (by omega)) (fun n k hk=>by
    show qt ((q+1:Nat):Int) (n+1) k (fl (q+1) _)=qt ((q+1:Nat):Int) n ((k+1:Nat):Int) (fl (q+1) (fun i=>if i < k+1 then 1 else 0));rw [qt,Int.toNat_natCast,Int.toNat_natCast,List.length_replicate,qm (decide_eq_true (by omega)),zF (by simp [zh,xZ]; omega),zF (by simp [zk]; omega)];rw [fl_set (g:=fun i=>if i < k+1 then 1 else 0) hk (by simp) (fun i hi=>by
      by_cases h1:i < k
      · simp only [if_pos h1,if_pos (show i < k+1 by omega)]
      · simp only [if_neg h1,if_neg (show ¬ i < k+1 by omega)])]
    rfl) (fun n=>by
    show qt ((q+1:Nat):Int) (n+1) ((q+1:Nat):Int) _=_;rw [qt,Int.toNat_natCast,List.length_replicate,zK (by simp)]
    congr 1
    refine List.ext_getElem? fun i=>?_
    by_cases h:i < q+1 <;> simp [fl,List.getElem?_replicate,h])
  dsimp only at h4;obtain ⟨o7,h7,h7'⟩:=loopX (fun n (s:Int×List T1×Option Nat)=>qG rows n s.1 s.2.1 s.2.2) rows.length
    (fun k s=>s.1=k∧s.2.1.length=k+1∧s.2.1.getD k []=B k)
    (fun o=>o.1=0) (0,[List.replicate (q+1) 1],some ((1:Int)+(rows.length:Int)).toNat) ⟨rfl,rfl,hB0.symm⟩ (zD (by omega)) (fun n k s hk ⟨e,hlen,hb⟩=>by
    obtain ⟨s1,s2,s3⟩:=s;dsimp only at e hlen hb ⊢;subst e;obtain ⟨g1,g2⟩:=hB k hk;obtain ⟨g3,g4⟩:=hs k hk;have Rk:=F.row k hk;have hmk:=Rk.makes;have hnk:=Rk.needs;have hlk:=Rk.len;obtain ⟨m1,m2,m3⟩:=ch_loop (c:=rows) (i:=k) (V:=s2) (cap:=s3) (cp:=some (B (k+1)).length) g1 (by omega) rfl (by omega) g2 [] (by simp);obtain ⟨f,hf⟩:∃ f,zA=(f+1)+(rows.getD k []).length:=⟨zA - 1 - (rows.getD k []).length,by have:1000000 < zA:=zD (Nat.le_refl _); omega⟩
    have h11:zT rows k s2 s3 zA (B k) 0 [] (some (B (k+1)).length)=some (.inl (B (k+1),capE (rows.getD k []) (some (B (k+1)).length))):=by
      rw [hf,m3,zT,Int.toNat_natCast,zK (by simp)]
    refine .inr ⟨(((k+1:Nat):Int),s2++[B (k+1)],none),⟨rfl,by simp [hlen],?_⟩,?_⟩
    · dsimp only
      rw [List.getD_eq_getElem?_getD,List.getElem?_append_right (by omega),show k+1 - s2.length=0 by omega]
      rfl
    · rw [qG,qm (decide_eq_true (by omega)),zF (by simp [zh]; omega),zF (by simp [zh]; omega),Int.toNat_natCast,chmakes_eq _ (by omega),g4,Option.bind_some,zF (by simp only [Bool.and_eq_true,decide_eq_true_eq]; omega),Int.toNat_natCast,hb,h11,Option.bind_some]
      dsimp only [sm];rw [zF (by simp only [zf,List.length_singleton,Bool.and_eq_true,decide_eq_true_eq]; omega),zF (by simp [zk]; omega)]
      rfl) (fun n s ⟨e,_,_⟩=>by
    obtain ⟨s1,s2,s3⟩:=s;dsimp only at e ⊢;subst e;exact ⟨_,by rw [qG,zK (by simp)],rfl⟩)
  obtain ⟨o71,o72,o73⟩:=o7;dsimp only at h7 h7';subst h7';unfold yD m_chloads;rw [hchr,Option.bind_some,zK (by rfl),zF (by simp [zh]; omega),show (0:Int).toNat=0 from rfl,show (1:Int).toNat=1 from rfl,yv _ (by omega),h0.1,hb0,Option.bind_some,zF (by simp only [Bool.and_eq_true,decide_eq_true_eq]; omega),Int.toNat_natCast,h4,Option.bind_some,zF (by simp [zk]; omega),zF (by simp [zh])];have e9:(List.replicate 1 ([]:List Int)).set 0 (List.replicate (q+1) 1)=[List.replicate (q+1) 1]:=rfl;rw [e9,h7]
  rfl
end Go.Proofs.YtihcolehefloeaaGreatDoor

/- FlatsErrors: models. -/
namespace Go.Proofs.YtihcolehefloeaaGreatDoor
set_option linter.unusedSimpArgs false
set_option linter.unusedVariables false
open Go.RowKit
def s_lives31_1:List UInt8:=(List.append (List.append (List.append [105,110,32,49,32,108,101,102,116,59,32,107,110,105,116,32,114,105,103,104,116,32,102,49,51,32,49,59,32,107,110,105,116,32,114,105,103,104,116,32,102,49,52,32,49,59,32,109,105,115] [115,32,114,105,103,104,116,32,102,52,48,32,49,59,32,107,110,105,116,32,108,101,102,116,32,102,49,52,32,49,59,32,107,110,105,116,32,108,101,102,116,32,102,49,51,32,49,59,32,109,105]) [115,115,32,108,101,102,116,32,98,49,32,49,59,32,107,110,105,116,32,114,105,103,104,116,32,102,49,51,32,49,59,32,120,102,101,114,32,102,49,51,59,32,114,97,99,107,32,49,59,32]) [120,102,101,114,32,98,49,51,59,32,114,97,99,107,32,48,59,32,107,110,105,116,32,114,105,103,104,116,32,102,49,52,32,49,59,32,100,114,111,112,32,102,49,52,59,32,111,117,116,32,49])
theorem ko_lives31_51:KeyOk Tryz.prog 51 qy:=KeyOk.of zu rfl rfl rfl (by kernel_rfl) (by kernel_rfl)
def m_lives31 :Option (Bool):=
    Option.bind (m_plain31 (2:Int)) fun r1=>
    Option.bind (m_flcomp r1) fun r2=>
    Option.bind (m_flrows r1) fun r3=>
    Option.bind (m_fluntil r1 (1:Int)) fun r4=>
    gd ((!(!(cond (cond (cond (!(decide (r2.2.2=(0:Int)))) true (!(decide (r3.2.2=(0:Int))))) true (!(decide (r4.2.2.2.2=(0:Int))))) true (!(decide ((r3.1.length:Int)=(2:Int)))))) || (zh (0:Int) r3.1.length))&&(!(!(cond (cond (cond (cond (!(decide (r2.2.2=(0:Int)))) true (!(decide (r3.2.2=(0:Int))))) true (!(decide (r4.2.2.2.2=(0:Int))))) true (!(decide ((r3.1.length:Int)=(2:Int))))) true (!(decide ((r3.1.getD (0:Int).toNat 0)=(4:Int)))))) || (zh (1:Int) r3.1.length))&&(!(!(cond (cond (cond (cond (cond (cond (cond (!(decide (r2.2.2=(0:Int)))) true (!(decide (r3.2.2=(0:Int))))) true (!(decide (r4.2.2.2.2=(0:Int))))) true (!(decide ((r3.1.length:Int)=(2:Int))))) true (!(decide ((r3.1.getD (0:Int).toNat 0)=(4:Int))))) true (!(decide ((r3.1.getD (1:Int).toNat 0)=(7:Int))))) true (!(decide ((r4.1.length:Int)=(7:Int))))) true (!(decide ((r4.2.2.1.length:Int)=(2:Int)))))) || (zh (0:Int) r4.2.2.1.length))&&(!(!(cond (cond (cond (cond (cond (cond (cond (cond (!(decide (r2.2.2=(0:Int)))) true (!(decide (r3.2.2=(0:Int))))) true (!(decide (r4.2.2.2.2=(0:Int))))) true (!(decide ((r3.1.length:Int)=(2:Int))))) true (!(decide ((r3.1.getD (0:Int).toNat 0)=(4:Int))))) true (!(decide ((r3.1.getD (1:Int).toNat 0)=(7:Int))))) true (!(decide ((r4.1.length:Int)=(7:Int))))) true (!(decide ((r4.2.2.1.length:Int)=(2:Int))))) true (!(GTy.beq qy (r4.2.2.1.getD (0:Int).toNat qy.zero) ((0:Int),(13:Int)))))) || (zh (1:Int) r4.2.2.1.length))) <|
    cond (cond (cond (cond (cond (cond (cond (cond (cond (cond (!(decide (r2.2.2=(0:Int)))) true (!(decide (r3.2.2=(0:Int))))) true (!(decide (r4.2.2.2.2=(0:Int))))) true (!(decide ((r3.1.length:Int)=(2:Int))))) true (!(decide ((r3.1.getD (0:Int).toNat 0)=(4:Int))))) true (!(decide ((r3.1.getD (1:Int).toNat 0)=(7:Int))))) true (!(decide ((r4.1.length:Int)=(7:Int))))) true (!(decide ((r4.2.2.1.length:Int)=(2:Int))))) true (!(GTy.beq qy (r4.2.2.1.getD (0:Int).toNat qy.zero) ((0:Int),(13:Int))))) true (!(GTy.beq qy (r4.2.2.1.getD (1:Int).toNat qy.zero) ((0:Int),(14:Int))))) (some false) (Option.bind (m_text31 r2.1) fun r5=>
    some (r5 == s_lives31_1))
theorem w_lives31  (r:(Bool)) (h:m_lives31 =some r):AC cx 10 [] [] (fun sv h=>sv=.a (.c (.val (.bool r)))∧h=[]):=by
  unfold m_lives31 at h;refine zr zu Tryz.func10 rfl Tryz.ntmps10 rfl rfl (res:=[.tmp 0]) rfl<|zv<|zq<|zj zu rfl rfl<|zv ?_
  obtain ⟨r1,hr1,h⟩:=bd h;refine zq<|zg (w_plain31 _  r1 hr1) rfl ⟨rfl,rfl⟩ rfl Tryz.func23 rfl rfl rfl rfl rfl rfl<|zj zu rfl rfl<|zb (Wk.frzC 1 G6 rfl rfl rfl)<|zv ?_
  obtain ⟨r2,hr2,h⟩:=bd h;refine zq<|ze zu rfl rfl<|zg (w_flcomp _ none r2 hr2) rfl ⟨rfl,rfl⟩ rfl Tryz.func6 rfl rfl rfl rfl rfl rfl<|zj zu rfl rfl<|zv ?_
  obtain ⟨r3,hr3,h⟩:=bd h;refine zq<|ze zu rfl rfl<|zg (w_flrows _ none r3 hr3) rfl ⟨rfl,rfl⟩ rfl Tryz.func7 rfl rfl rfl rfl rfl rfl<|zj zu rfl rfl<|zv ?_
  obtain ⟨r4,hr4,h⟩:=bd h;refine zq<|ze zu rfl rfl<|zg (w_fluntil _ _ none r4 hr4) rfl ⟨rfl,rfl⟩ rfl Tryz.func8 rfl rfl rfl rfl rfl rfl<|zj zu rfl rfl<|zv<|zv ?_
  obtain ⟨hG6,h⟩:=zw h;simp only [Bool.and_eq_true] at hG6;obtain ⟨⟨⟨hG6_0,hG6_1⟩,hG6_2⟩,hG6_3⟩:=hG6;refine zq<|qh 42 zu rfl (by first | (revert hG6_0 hG6_1 hG6_2 hG6_3; generalize (GTy.beq qy (r4.2.2.1.getD (0:Int).toNat qy.zero) ((0:Int),(13:Int)))=b0; generalize (decide ((r3.1.getD (0:Int).toNat 0)=(4:Int)))=b1; generalize (decide ((r3.1.getD (1:Int).toNat 0)=(7:Int)))=b2; generalize (decide ((r4.2.2.1.length:Int)=(2:Int)))=b3; generalize (decide ((r3.1.length:Int)=(2:Int)))=b4; generalize (decide ((r4.1.length:Int)=(7:Int)))=b5; generalize (decide (r4.2.2.2.2=(0:Int)))=b6; generalize (zh (0:Int) r4.2.2.1.length)=b7; generalize (zh (1:Int) r4.2.2.1.length)=b8; generalize (decide (r2.2.2=(0:Int)))=b9; generalize (decide (r3.2.2=(0:Int)))=b10; generalize (zh (0:Int) r3.1.length)=b11; generalize (zh (1:Int) r3.1.length)=b12; refine of4 ?_; revert b0 b1 b2 b3 b4 b5 b6 b7 b8 b9 b10 b11 b12; exact bl13 (by kernel_rfl)) | (simp only [hG6_0,hG6_1,hG6_2,hG6_3,oc]; done) | (simp_all; done) | (simp only [hG6_0,hG6_1,hG6_2,hG6_3,oc]; rfl)) ?_
  refine yO (.c (.val (.bool (!(GTy.beq qy (r4.2.2.1.getD (0:Int).toNat qy.zero) ((0:Int),(13:Int))))))) rfl rfl rfl rfl rfl (fun hq7=>?_) (fun hq7=>?_)
  ·try simp only [ob2,cond_true,cond_false] at hq7
   all_goals
    refine al_neqA ko_lives31_51 rfl ⟨rfl,rfl⟩ rfl rfl (by first | (simp only [hG6_0,hG6_1,hG6_2,hG6_3,hq7,oc]; done) | ((first | replace hq7:=bf hq7 | skip); revert hG6_0 hG6_1 hG6_2 hG6_3 hq7; generalize (GTy.beq qy (r4.2.2.1.getD (0:Int).toNat qy.zero) ((0:Int),(13:Int)))=b0; generalize (decide ((r3.1.getD (0:Int).toNat 0)=(4:Int)))=b1; generalize (decide ((r3.1.getD (1:Int).toNat 0)=(7:Int)))=b2; generalize (decide ((r4.2.2.1.length:Int)=(2:Int)))=b3; generalize (decide ((r3.1.length:Int)=(2:Int)))=b4; generalize (decide ((r4.1.length:Int)=(7:Int)))=b5; generalize (decide (r4.2.2.2.2=(0:Int)))=b6; generalize (zh (0:Int) r4.2.2.1.length)=b7; generalize (zh (1:Int) r4.2.2.1.length)=b8; generalize (decide (r2.2.2=(0:Int)))=b9; generalize (decide (r3.2.2=(0:Int)))=b10; generalize (zh (0:Int) r3.1.length)=b11; generalize (zh (1:Int) r3.1.length)=b12; refine of5 ?_; revert b0 b1 b2 b3 b4 b5 b6 b7 b8 b9 b10 b11 b12; exact bl13 (by kernel_rfl)) | (simp_all; done) | (simp only [hG6_0,hG6_1,hG6_2,hG6_3,hq7,oc]; rfl)) rfl (by first | (simp only [hG6_0,hG6_1,hG6_2,hG6_3,hq7,oc]; done) | ((first | replace hq7:=bf hq7 | skip); revert hG6_0 hG6_1 hG6_2 hG6_3 hq7; generalize (GTy.beq qy (r4.2.2.1.getD (0:Int).toNat qy.zero) ((0:Int),(13:Int)))=b0; generalize (decide ((r3.1.getD (0:Int).toNat 0)=(4:Int)))=b1; generalize (decide ((r3.1.getD (1:Int).toNat 0)=(7:Int)))=b2; generalize (decide ((r4.2.2.1.length:Int)=(2:Int)))=b3; generalize (decide ((r3.1.length:Int)=(2:Int)))=b4; generalize (decide ((r4.1.length:Int)=(7:Int)))=b5; generalize (decide (r4.2.2.2.2=(0:Int)))=b6; generalize (zh (0:Int) r4.2.2.1.length)=b7; generalize (zh (1:Int) r4.2.2.1.length)=b8; generalize (decide (r2.2.2=(0:Int)))=b9; generalize (decide (r3.2.2=(0:Int)))=b10; generalize (zh (0:Int) r3.1.length)=b11; generalize (zh (1:Int) r3.1.length)=b12; refine of5 ?_; revert b0 b1 b2 b3 b4 b5 b6 b7 b8 b9 b10 b11 b12; exact bl13 (by kernel_rfl)) | (simp_all; done) | (simp only [hG6_0,hG6_1,hG6_2,hG6_3,hq7,oc]; rfl)) rfl (by first | (simp only [hG6_0,hG6_1,hG6_2,hG6_3,hq7,oc]; done) | ((first | replace hq7:=bf hq7 | skip); revert hG6_0 hG6_1 hG6_2 hG6_3 hq7; generalize (GTy.beq qy (r4.2.2.1.getD (0:Int).toNat qy.zero) ((0:Int),(13:Int)))=b0; generalize (decide ((r3.1.getD (0:Int).toNat 0)=(4:Int)))=b1; generalize (decide ((r3.1.getD (1:Int).toNat 0)=(7:Int)))=b2; generalize (decide ((r4.2.2.1.length:Int)=(2:Int)))=b3; generalize (decide ((r3.1.length:Int)=(2:Int)))=b4; generalize (decide ((r4.1.length:Int)=(7:Int)))=b5; generalize (decide (r4.2.2.2.2=(0:Int)))=b6; generalize (zh (0:Int) r4.2.2.1.length)=b7; generalize (zh (1:Int) r4.2.2.1.length)=b8; generalize (decide (r2.2.2=(0:Int)))=b9; generalize (decide (r3.2.2=(0:Int)))=b10; generalize (zh (0:Int) r3.1.length)=b11; generalize (zh (1:Int) r3.1.length)=b12; refine of5 ?_; revert b0 b1 b2 b3 b4 b5 b6 b7 b8 b9 b10 b11 b12; exact bl13 (by kernel_rfl)) | (simp_all; done) | (simp only [hG6_0,hG6_1,hG6_2,hG6_3,hq7,oc]; rfl)) rfl (by first | (simp only [hG6_0,hG6_1,hG6_2,hG6_3,hq7,oc]; done) | ((first | replace hq7:=bf hq7 | skip); revert hG6_0 hG6_1 hG6_2 hG6_3 hq7; generalize (GTy.beq qy (r4.2.2.1.getD (0:Int).toNat qy.zero) ((0:Int),(13:Int)))=b0; generalize (decide ((r3.1.getD (0:Int).toNat 0)=(4:Int)))=b1; generalize (decide ((r3.1.getD (1:Int).toNat 0)=(7:Int)))=b2; generalize (decide ((r4.2.2.1.length:Int)=(2:Int)))=b3; generalize (decide ((r3.1.length:Int)=(2:Int)))=b4; generalize (decide ((r4.1.length:Int)=(7:Int)))=b5; generalize (decide (r4.2.2.2.2=(0:Int)))=b6; generalize (zh (0:Int) r4.2.2.1.length)=b7; generalize (zh (1:Int) r4.2.2.1.length)=b8; generalize (decide (r2.2.2=(0:Int)))=b9; generalize (decide (r3.2.2=(0:Int)))=b10; generalize (zh (0:Int) r3.1.length)=b11; generalize (zh (1:Int) r3.1.length)=b12; refine of5 ?_; revert b0 b1 b2 b3 b4 b5 b6 b7 b8 b9 b10 b11 b12; exact bl13 (by kernel_rfl)) | (simp_all; done) | (simp only [hG6_0,hG6_1,hG6_2,hG6_3,hq7,oc]; rfl)) ?_
    refine qh 6 zu rfl (by first | (simp only [hG6_0,hG6_1,hG6_2,hG6_3,hq7,oc]; done) | ((first | replace hq7:=bf hq7 | skip); revert hG6_0 hG6_1 hG6_2 hG6_3 hq7; generalize (GTy.beq qy (r4.2.2.1.getD (0:Int).toNat qy.zero) ((0:Int),(13:Int)))=b0; generalize (decide ((r3.1.getD (0:Int).toNat 0)=(4:Int)))=b1; generalize (decide ((r3.1.getD (1:Int).toNat 0)=(7:Int)))=b2; generalize (decide ((r4.2.2.1.length:Int)=(2:Int)))=b3; generalize (decide ((r3.1.length:Int)=(2:Int)))=b4; generalize (decide ((r4.1.length:Int)=(7:Int)))=b5; generalize (decide (r4.2.2.2.2=(0:Int)))=b6; generalize (zh (0:Int) r4.2.2.1.length)=b7; generalize (zh (1:Int) r4.2.2.1.length)=b8; generalize (decide (r2.2.2=(0:Int)))=b9; generalize (decide (r3.2.2=(0:Int)))=b10; generalize (zh (0:Int) r3.1.length)=b11; generalize (zh (1:Int) r3.1.length)=b12; refine of5 ?_; revert b0 b1 b2 b3 b4 b5 b6 b7 b8 b9 b10 b11 b12; exact bl13 (by kernel_rfl)) | (simp_all; done) | (simp only [hG6_0,hG6_1,hG6_2,hG6_3,hq7,oc]; rfl)) ?_;refine yO (.c (.val (.bool (!(GTy.beq qy (r4.2.2.1.getD (1:Int).toNat qy.zero) ((0:Int),(14:Int))))))) rfl rfl rfl rfl rfl (fun hq8=>?_) (fun hq8=>?_)
    ·try simp only [hq7,ob2,cond_true,cond_false] at hq8
     all_goals
      refine al_neqA ko_lives31_51 rfl ⟨rfl,rfl⟩ rfl rfl (by first | (simp only [hG6_0,hG6_1,hG6_2,hG6_3,hq7,hq8,oc]; done) | ((first | replace hq7:=bf hq7 | skip); (first | replace hq8:=bf hq8 | skip); revert hG6_0 hG6_1 hG6_2 hG6_3 hq7 hq8; generalize (GTy.beq qy (r4.2.2.1.getD (0:Int).toNat qy.zero) ((0:Int),(13:Int)))=b0; generalize (decide ((r3.1.getD (0:Int).toNat 0)=(4:Int)))=b1; generalize (decide ((r3.1.getD (1:Int).toNat 0)=(7:Int)))=b2; generalize (decide ((r4.2.2.1.length:Int)=(2:Int)))=b3; generalize (decide ((r3.1.length:Int)=(2:Int)))=b4; generalize (decide ((r4.1.length:Int)=(7:Int)))=b5; generalize (decide (r4.2.2.2.2=(0:Int)))=b6; generalize (zh (0:Int) r4.2.2.1.length)=b7; generalize (zh (1:Int) r4.2.2.1.length)=b8; generalize (decide (r2.2.2=(0:Int)))=b9; generalize (decide (r3.2.2=(0:Int)))=b10; generalize (zh (0:Int) r3.1.length)=b11; generalize (zh (1:Int) r3.1.length)=b12; refine of6 ?_; revert b0 b1 b2 b3 b4 b5 b6 b7 b8 b9 b10 b11 b12; exact bl13 (by kernel_rfl)) | (simp_all; done) | (simp only [hG6_0,hG6_1,hG6_2,hG6_3,hq7,hq8,oc]; rfl)) rfl (by first | (simp only [hG6_0,hG6_1,hG6_2,hG6_3,hq7,hq8,oc]; done) | ((first | replace hq7:=bf hq7 | skip); (first | replace hq8:=bf hq8 | skip); revert hG6_0 hG6_1 hG6_2 hG6_3 hq7 hq8; generalize (GTy.beq qy (r4.2.2.1.getD (0:Int).toNat qy.zero) ((0:Int),(13:Int)))=b0; generalize (decide ((r3.1.getD (0:Int).toNat 0)=(4:Int)))=b1; generalize (decide ((r3.1.getD (1:Int).toNat 0)=(7:Int)))=b2; generalize (decide ((r4.2.2.1.length:Int)=(2:Int)))=b3; generalize (decide ((r3.1.length:Int)=(2:Int)))=b4; generalize (decide ((r4.1.length:Int)=(7:Int)))=b5; generalize (decide (r4.2.2.2.2=(0:Int)))=b6; generalize (zh (0:Int) r4.2.2.1.length)=b7; generalize (zh (1:Int) r4.2.2.1.length)=b8; generalize (decide (r2.2.2=(0:Int)))=b9; generalize (decide (r3.2.2=(0:Int)))=b10; generalize (zh (0:Int) r3.1.length)=b11; generalize (zh (1:Int) r3.1.length)=b12; refine of6 ?_; revert b0 b1 b2 b3 b4 b5 b6 b7 b8 b9 b10 b11 b12; exact bl13 (by kernel_rfl)) | (simp_all; done) | (simp only [hG6_0,hG6_1,hG6_2,hG6_3,hq7,hq8,oc]; rfl)) rfl (by first | (simp only [hG6_0,hG6_1,hG6_2,hG6_3,hq7,hq8,oc]; done) | ((first | replace hq7:=bf hq7 | skip); (first | replace hq8:=bf hq8 | skip); revert hG6_0 hG6_1 hG6_2 hG6_3 hq7 hq8; generalize (GTy.beq qy (r4.2.2.1.getD (0:Int).toNat qy.zero) ((0:Int),(13:Int)))=b0; generalize (decide ((r3.1.getD (0:Int).toNat 0)=(4:Int)))=b1; generalize (decide ((r3.1.getD (1:Int).toNat 0)=(7:Int)))=b2; generalize (decide ((r4.2.2.1.length:Int)=(2:Int)))=b3; generalize (decide ((r3.1.length:Int)=(2:Int)))=b4; generalize (decide ((r4.1.length:Int)=(7:Int)))=b5; generalize (decide (r4.2.2.2.2=(0:Int)))=b6; generalize (zh (0:Int) r4.2.2.1.length)=b7; generalize (zh (1:Int) r4.2.2.1.length)=b8; generalize (decide (r2.2.2=(0:Int)))=b9; generalize (decide (r3.2.2=(0:Int)))=b10; generalize (zh (0:Int) r3.1.length)=b11; generalize (zh (1:Int) r3.1.length)=b12; refine of6 ?_; revert b0 b1 b2 b3 b4 b5 b6 b7 b8 b9 b10 b11 b12; exact bl13 (by kernel_rfl)) | (simp_all; done) | (simp only [hG6_0,hG6_1,hG6_2,hG6_3,hq7,hq8,oc]; rfl)) rfl (by first | (simp only [hG6_0,hG6_1,hG6_2,hG6_3,hq7,hq8,oc]; done) | ((first | replace hq7:=bf hq7 | skip); (first | replace hq8:=bf hq8 | skip); revert hG6_0 hG6_1 hG6_2 hG6_3 hq7 hq8; generalize (GTy.beq qy (r4.2.2.1.getD (0:Int).toNat qy.zero) ((0:Int),(13:Int)))=b0; generalize (decide ((r3.1.getD (0:Int).toNat 0)=(4:Int)))=b1; generalize (decide ((r3.1.getD (1:Int).toNat 0)=(7:Int)))=b2; generalize (decide ((r4.2.2.1.length:Int)=(2:Int)))=b3; generalize (decide ((r3.1.length:Int)=(2:Int)))=b4; generalize (decide ((r4.1.length:Int)=(7:Int)))=b5; generalize (decide (r4.2.2.2.2=(0:Int)))=b6; generalize (zh (0:Int) r4.2.2.1.length)=b7; generalize (zh (1:Int) r4.2.2.1.length)=b8; generalize (decide (r2.2.2=(0:Int)))=b9; generalize (decide (r3.2.2=(0:Int)))=b10; generalize (zh (0:Int) r3.1.length)=b11; generalize (zh (1:Int) r3.1.length)=b12; refine of6 ?_; revert b0 b1 b2 b3 b4 b5 b6 b7 b8 b9 b10 b11 b12; exact bl13 (by kernel_rfl)) | (simp_all; done) | (simp only [hG6_0,hG6_1,hG6_2,hG6_3,hq7,hq8,oc]; rfl)) ?_
      refine zj zu rfl (by first | (simp only [hG6_0,hG6_1,hG6_2,hG6_3,hq7,hq8,oc]; done) | ((first | replace hq7:=bf hq7 | skip); (first | replace hq8:=bf hq8 | skip); revert hG6_0 hG6_1 hG6_2 hG6_3 hq7 hq8; generalize (GTy.beq qy (r4.2.2.1.getD (0:Int).toNat qy.zero) ((0:Int),(13:Int)))=b0; generalize (decide ((r3.1.getD (0:Int).toNat 0)=(4:Int)))=b1; generalize (decide ((r3.1.getD (1:Int).toNat 0)=(7:Int)))=b2; generalize (decide ((r4.2.2.1.length:Int)=(2:Int)))=b3; generalize (decide ((r3.1.length:Int)=(2:Int)))=b4; generalize (decide ((r4.1.length:Int)=(7:Int)))=b5; generalize (decide (r4.2.2.2.2=(0:Int)))=b6; generalize (zh (0:Int) r4.2.2.1.length)=b7; generalize (zh (1:Int) r4.2.2.1.length)=b8; generalize (decide (r2.2.2=(0:Int)))=b9; generalize (decide (r3.2.2=(0:Int)))=b10; generalize (zh (0:Int) r3.1.length)=b11; generalize (zh (1:Int) r3.1.length)=b12; refine of6 ?_; revert b0 b1 b2 b3 b4 b5 b6 b7 b8 b9 b10 b11 b12; exact bl13 (by kernel_rfl)) | (simp_all; done) | (simp only [hG6_0,hG6_1,hG6_2,hG6_3,hq7,hq8,oc]; rfl)) ?_
      revert h
      refine xC rfl rfl (fun hc h=>?_) (fun hc h=>?_)
      ·refine zv<|zq<|zj zu rfl rfl ?_
       cases h;exact zd ⟨_,(Wk.pick [0] [] rfl rfl),_,_,rfl,rfl,rfl,rfl⟩
      refine za<|zv ?_
      obtain ⟨r5,hr5,h⟩:=bd h;refine zq<|ze zu rfl rfl<|zg (w_text31 _ r2.2.1 r5 hr5) rfl ⟨rfl,rfl⟩ rfl Tryz.func9 rfl rfl rfl rfl rfl rfl<|zj zu rfl rfl<|zb (Wk.conv (s:=0) (.a (.c (.val (.bool (r5 == s_lives31_1))))) rfl (fun _ _ _ _ hv=>hv)) ?_
      cases h;exact zd ⟨_,(Wk.pick [0] [] rfl rfl),_,_,rfl,rfl,rfl,rfl⟩
    ·try simp only [hq7,ob2,cond_true,cond_false] at hq8
     all_goals
      refine zj zu rfl (by first | (simp only [hG6_0,hG6_1,hG6_2,hG6_3,hq7,hq8,oc]; done) | ((first | replace hq7:=bf hq7 | skip); (first | replace hq8:=bf hq8 | skip); revert hG6_0 hG6_1 hG6_2 hG6_3 hq7 hq8; generalize (GTy.beq qy (r4.2.2.1.getD (0:Int).toNat qy.zero) ((0:Int),(13:Int)))=b0; generalize (decide ((r3.1.getD (0:Int).toNat 0)=(4:Int)))=b1; generalize (decide ((r3.1.getD (1:Int).toNat 0)=(7:Int)))=b2; generalize (decide ((r4.2.2.1.length:Int)=(2:Int)))=b3; generalize (decide ((r3.1.length:Int)=(2:Int)))=b4; generalize (decide ((r4.1.length:Int)=(7:Int)))=b5; generalize (decide (r4.2.2.2.2=(0:Int)))=b6; generalize (zh (0:Int) r4.2.2.1.length)=b7; generalize (zh (1:Int) r4.2.2.1.length)=b8; generalize (decide (r2.2.2=(0:Int)))=b9; generalize (decide (r3.2.2=(0:Int)))=b10; generalize (zh (0:Int) r3.1.length)=b11; generalize (zh (1:Int) r3.1.length)=b12; refine of6 ?_; revert b0 b1 b2 b3 b4 b5 b6 b7 b8 b9 b10 b11 b12; exact bl13 (by kernel_rfl)) | (simp_all; done) | (simp only [hG6_0,hG6_1,hG6_2,hG6_3,hq7,hq8,oc]; rfl)) ?_
      revert h
      refine xC rfl rfl (fun hc h=>?_) (fun hc h=>?_)
      ·refine zv<|zq<|zj zu rfl rfl ?_
       cases h;exact zd ⟨_,(Wk.pick [0] [] rfl rfl),_,_,rfl,rfl,rfl,rfl⟩
      refine za<|zv ?_
      obtain ⟨r5,hr5,h⟩:=bd h;refine zq<|ze zu rfl rfl<|zg (w_text31 _ r2.2.1 r5 hr5) rfl ⟨rfl,rfl⟩ rfl Tryz.func9 rfl rfl rfl rfl rfl rfl<|zj zu rfl rfl<|zb (Wk.conv (s:=0) (.a (.c (.val (.bool (r5 == s_lives31_1))))) rfl (fun _ _ _ _ hv=>hv)) ?_
      cases h;exact zd ⟨_,(Wk.pick [0] [] rfl rfl),_,_,rfl,rfl,rfl,rfl⟩
  ·try simp only [ob2,cond_true,cond_false] at hq7
   all_goals
    refine qh 6 zu rfl (by first | (simp only [hG6_0,hG6_1,hG6_2,hG6_3,hq7,oc]; done) | ((first | replace hq7:=bf hq7 | skip); revert hG6_0 hG6_1 hG6_2 hG6_3 hq7; generalize (GTy.beq qy (r4.2.2.1.getD (0:Int).toNat qy.zero) ((0:Int),(13:Int)))=b0; generalize (decide ((r3.1.getD (0:Int).toNat 0)=(4:Int)))=b1; generalize (decide ((r3.1.getD (1:Int).toNat 0)=(7:Int)))=b2; generalize (decide ((r4.2.2.1.length:Int)=(2:Int)))=b3; generalize (decide ((r3.1.length:Int)=(2:Int)))=b4; generalize (decide ((r4.1.length:Int)=(7:Int)))=b5; generalize (decide (r4.2.2.2.2=(0:Int)))=b6; generalize (zh (0:Int) r4.2.2.1.length)=b7; generalize (zh (1:Int) r4.2.2.1.length)=b8; generalize (decide (r2.2.2=(0:Int)))=b9; generalize (decide (r3.2.2=(0:Int)))=b10; generalize (zh (0:Int) r3.1.length)=b11; generalize (zh (1:Int) r3.1.length)=b12; refine of5 ?_; revert b0 b1 b2 b3 b4 b5 b6 b7 b8 b9 b10 b11 b12; exact bl13 (by kernel_rfl)) | (simp_all; done) | (simp only [hG6_0,hG6_1,hG6_2,hG6_3,hq7,oc]; rfl)) ?_;refine yO (.c (.val (.bool (!(GTy.beq qy (r4.2.2.1.getD (1:Int).toNat qy.zero) ((0:Int),(14:Int))))))) rfl rfl rfl rfl rfl (fun hq9=>?_) (fun hq9=>?_)
    ·exfalso; simp only [hq7,ob2,cond_true,cond_false] at hq9
    ·try simp only [hq7,ob2,cond_true,cond_false] at hq9
     all_goals
      refine zj zu rfl (by first | (simp only [hG6_0,hG6_1,hG6_2,hG6_3,hq7,hq9,oc]; done) | ((first | replace hq7:=bf hq7 | skip); (first | replace hq9:=bf hq9 | skip); revert hG6_0 hG6_1 hG6_2 hG6_3 hq7 hq9; generalize (GTy.beq qy (r4.2.2.1.getD (0:Int).toNat qy.zero) ((0:Int),(13:Int)))=b0; generalize (decide ((r3.1.getD (0:Int).toNat 0)=(4:Int)))=b1; generalize (decide ((r3.1.getD (1:Int).toNat 0)=(7:Int)))=b2; generalize (decide ((r4.2.2.1.length:Int)=(2:Int)))=b3; generalize (decide ((r3.1.length:Int)=(2:Int)))=b4; generalize (decide ((r4.1.length:Int)=(7:Int)))=b5; generalize (decide (r4.2.2.2.2=(0:Int)))=b6; generalize (zh (0:Int) r4.2.2.1.length)=b7; generalize (zh (1:Int) r4.2.2.1.length)=b8; generalize (decide (r2.2.2=(0:Int)))=b9; generalize (decide (r3.2.2=(0:Int)))=b10; generalize (zh (0:Int) r3.1.length)=b11; generalize (zh (1:Int) r3.1.length)=b12; refine of6 ?_; revert b0 b1 b2 b3 b4 b5 b6 b7 b8 b9 b10 b11 b12; exact bl13 (by kernel_rfl)) | (simp_all; done) | (simp only [hG6_0,hG6_1,hG6_2,hG6_3,hq7,hq9,oc]; rfl)) ?_
      revert h
      refine xC rfl rfl (fun hc h=>?_) (fun hc h=>?_)
      ·refine zv<|zq<|zj zu rfl rfl ?_
       cases h;exact zd ⟨_,(Wk.pick [0] [] rfl rfl),_,_,rfl,rfl,rfl,rfl⟩
      refine za<|zv ?_
      obtain ⟨r5,hr5,h⟩:=bd h;refine zq<|ze zu rfl rfl<|zg (w_text31 _ r2.2.1 r5 hr5) rfl ⟨rfl,rfl⟩ rfl Tryz.func9 rfl rfl rfl rfl rfl rfl<|zj zu rfl rfl<|zb (Wk.conv (s:=0) (.a (.c (.val (.bool (r5 == s_lives31_1))))) rfl (fun _ _ _ _ hv=>hv)) ?_
      cases h;exact zd ⟨_,(Wk.pick [0] [] rfl rfl),_,_,rfl,rfl,rfl,rfl⟩
end Go.Proofs.YtihcolehefloeaaGreatDoor

/- Flats, plain: Compile, Rows, Until. -/
namespace Go.Proofs.YtihcolehefloeaaGreatDoor
open Go.RowKit
theorem lives31_eq:m_lives31=some true:=by kernel_rfl
theorem flcompile_all (c:List (List zR)):∃ e,yD c=some e∧((e≠0∧qT c=some (([],[]),e))∨(e=0∧(qT c=some (([],[]),3)∨(qT c=some ((xt c,xU c c.length),0)∧c.length≤31∧yH (xt c) (xt c).length≤4096∧∀ k,k≤c.length→((xU c c.length).getD k []).length≤16)))):=by
  obtain ⟨e,h1,hF⟩:=chcheck_ok c;refine ⟨e,h1,?_⟩
  by_cases h0:e=0
  · have F:=hF h0
    subst h0;refine .inr ⟨rfl,?_⟩;have h:=flcompile_eq F h1
    by_cases h4:4096 < qZ c c.length+(bindP c).length
    · rw [if_pos h4] at h
      exact .inl h
    · rw [if_neg h4] at h
      refine .inr ⟨h,F.len,?_,fun k hk=>?_⟩
      · have hs:∀ k,(((qq c k).map List.length).sum)=qZ c k:=fun k=>by
          induction k with
          | zero=>simp [qq,qZ]
          | succ k ih=>
            have ep:qq c (k+1)=qq c k++[yQ c k]:=by
              unfold qq;rw [List.range_succ,List.map_append]
              rfl
            rw [ep,List.map_append,List.sum_append,ih]
            simp [qZ]
        unfold yH xt;rw [List.take_length,List.map_append,List.sum_append,hs];simp only [List.map_cons,List.map_nil,List.sum_cons,List.sum_nil];omega
      · have:=(lay_lo F k hk).len
        unfold xU;rw [List.getD_eq_getElem?_getD,List.getElem?_map,List.getElem?_range (by omega)];exact this.2
  · refine .inl ⟨h0,?_⟩
    unfold qT;rw [h1,Option.bind_some,qm (by rw [decide_eq_false h0]; rfl)]
theorem parts_len (c:List (List zR)):(xt c).length=c.length+2:=by simp [xt,qq]
theorem flcomp_eq {c:List (List zR)} (h:qT c=some ((xt c,xU c c.length),0)) (h31:c.length≤31) (hl:yH (xt c) (xt c).length≤4096):∃ q,m_flcomp c=some ((xt c).flatten,q,0):=by
  have hpl:=parts_len c;obtain ⟨q,hq⟩:=fljoin_eq (xt c) (by omega) (by omega);refine ⟨q,?_⟩;unfold m_flcomp;rw [h,Option.bind_some,zK (by rfl),hq]
  rfl
end Go.Proofs.YtihcolehefloeaaGreatDoor

/- FlatsRows, FlatsPlan: models. -/
namespace Go.Proofs.YtihcolehefloeaaGreatDoor
set_option linter.unusedSimpArgs false
set_option linter.unusedVariables false
open Go.RowKit
def yy (a0:Int) (a1:T1):Nat→Int→T4→Option (T4)
  | 0,_,_=>none
  | n+1,v3_0,v3_1=>
    cond (decide (v3_0 < (a1.length:Int))) (gd ((zh v3_0 a1.length)) <|
    Option.bind (m_past (4:Int) (a1.getD v3_0.toNat 0) a0) fun r4=>
    gd ((zf 40 (v3_1.length+[r4].length))) <|
    gd ((zk (v3_0+(1:Int)))) <|
    yy a0 a1 n (v3_0+(1:Int)) (v3_1++[r4])) (some v3_1)
def m_castonO (a0:Int) (a1:T1):Option (T4×Int):=
    Option.bind (m_echeck a0 a1) fun r1=>
    cond (!(decide (r1=(0:Int)))) (some (([]:List zM),r1)) (gd ((zk ((a1.length:Int) - (1:Int)))&&(zh ((a1.length:Int) - (1:Int)) a1.length)) <|
    cond (decide ((a1.getD ((a1.length:Int) - (1:Int)).toNat 0)=(40:Int))) (some (([]:List zM),(15:Int))) (gd ((zk ((a1.length:Int)+(2:Int)))&&(decide ((0:Int)≤((a1.length:Int)+(2:Int))))&&(decide ((40:Int) * ((a1.length:Int)+(2:Int))≤140737488355328))&&(decide (((a1.length:Int)+(2:Int))≤140737488355328))) <|
    gd ((zf 40 (([]:List zM).length+[((1:Int),((0:Int),(((0:Int),(0:Int)),(a0,(0:Int)))))].length))) <|
    Option.bind (yy a0 a1 zA (0:Int) (([]:List zM)++[((1:Int),((0:Int),(((0:Int),(0:Int)),(a0,(0:Int)))))])) fun o2=>
    Option.bind (m_past (6:Int) (40:Int) a0) fun r8=>
    gd ((zf 40 (o2.length+[r8].length))) <|
    some ((o2++[r8]),(0:Int))))
theorem w_castonO (a0:Int) (a1:T1) (c0:Option Nat) (r:(T4×Int)) (h:m_castonO a0 a1=some r):AC cx 13 [.c (.val (.int .u8 a0)),.c (.lst (.int .i64) a1 c0)] [] (fun sv h=>sv=.tup [.c (.sl 27),.c (.val (.int .i64 r.2))]∧h=[(27,.row 72 qn r.1 none)]):=by
  unfold m_castonO at h;refine zr zu Tryz.func13 rfl Tryz.ntmps13 rfl rfl (res:=[.tmp 4,.tmp 5]) rfl<|zv<|zq<|zj zu rfl rfl<|zb (Wk.frzC 2 (.int .u8) rfl rfl rfl)<|zb (Wk.nil 4 27 72 qn rfl rfl)<|zv<|zv ?_
  obtain ⟨r1,hr1,h⟩:=bd h;refine zq<|ze zu rfl rfl<|zg (w_echeck _ _ c0 r1 hr1) rfl ⟨rfl,rfl⟩ rfl Tryz.func26 rfl rfl rfl rfl rfl rfl<|zj zu rfl rfl<|zv<|zq<|zj zu rfl rfl ?_
  revert h
  refine xC rfl rfl (fun hc h=>?_) (fun hc h=>?_)
  ·refine zv<|zq<|zj zu rfl rfl<|zb (Wk.nil 4 27 72 qn rfl rfl) ?_
   cases h;exact zd ⟨_,(Wk.pick [4,5] [27] rfl rfl),_,_,rfl,rfl,rfl,rfl⟩
  refine za<|zv<|zv ?_
  obtain ⟨hG12,h⟩:=zw h;simp only [Bool.and_eq_true] at hG12;obtain ⟨hG12_0,hG12_1⟩:=hG12;refine zq<|zj zu rfl (by simp only [hG12_0,hG12_1,oc]) ?_
  revert h
  refine xC rfl rfl (fun hc h=>?_) (fun hc h=>?_)
  ·refine zv<|zq<|zj zu rfl rfl<|zb (Wk.nil 4 27 72 qn rfl rfl) ?_
   cases h;exact zd ⟨_,(Wk.pick [4,5] [27] rfl rfl),_,_,rfl,rfl,rfl,rfl⟩
  refine za<|zv<|zq<|zj zu rfl rfl<|zv ?_
  obtain ⟨hG11,h⟩:=zw h;simp only [Bool.and_eq_true] at hG11;obtain ⟨⟨⟨hG11_0,hG11_1⟩,hG11_2⟩,hG11_3⟩:=hG11;refine zq<|zj zu rfl (by simp_all) ?_
  refine zv ?_;obtain ⟨hG10,h⟩:=zw h;refine zq<|zj zu rfl (by simp_all) ?_
  refine zv<|zv<|zq<|zj zu rfl rfl ?_
  obtain ⟨o2,ho2,hk2⟩:=bd h;refine zn (fun o2:T4=>⟨[(7,.a (.c (.fn 27 [.fz (.int .u8) a0]))),(8,.a (.c (.sl 27)))],[(27,.row 72 qn o2 none)]⟩) (fun o'=>o2=o') ?_ ?_
  ·have h:=ho2
   refine zc<|zb (Wk.pick [35,1,7,8,34] [27] rfl rfl)<|zl (fun y:Nat×Int×T4=>[(35,.a (.c (.val (.int .i64 y.2.1))))]) (fun y:Nat×Int×T4=>[(27,.row 72 qn y.2.2 none)]) (fun y:Nat×Int×T4=>yy a0 a1 y.1 y.2.1 y.2.2=some o2) (fun y:Nat×Int×T4=>y.1) (zA,(0:Int),(([]:List zM)++[((1:Int),((0:Int),(((0:Int),(0:Int)),(a0,(0:Int)))))])) h ?_
   rintro ⟨n,v3_0,v3_1⟩ h;replace h:yy a0 a1 n v3_0 v3_1=some o2:=h
   rcases n with _ | n
   · cases (show (none:Option _)=some _ from h)
   rw [yy] at h
   try dsimp only
   refine zv<|zq<|zj zu rfl rfl<|zv ?_
   revert h
   refine xC rfl rfl (fun hc h=>?_) (fun hc h=>?_)
   ·refine za<|zv<|zc<|zv<|zq<|zj zu rfl rfl ?_
    obtain ⟨hG6,h⟩:=zw h;obtain ⟨r4,hr4,h⟩:=bd h;obtain ⟨hG7,h⟩:=zw h;refine zq<|ze zu rfl (by simp only [hG6,hG7,oc]) ?_
    refine xr [] (w_past _ _ _  r4 hr4) rfl ⟨rfl,rfl⟩ rfl rfl Tryz.func27 rfl rfl rfl (by simp only [hG6,hG7,oc]) rfl rfl PassH.nil ?_;rintro _ _ ⟨rfl,rfl⟩;refine ⟨_,_,rfl,rfl,?_⟩;refine zj zu rfl (by simp only [hG6,hG7,oc]) ?_;obtain ⟨hG5,h⟩:=zw h;refine zq<|zj zu rfl (by simp only [hG5,oc]) ?_
    refine ⟨(n,_,_),h,Nat.lt_succ_self _,(Wk.pick [35,1,7,8,34] [27] rfl rfl)⟩
   refine zo ?_;exact ⟨_,(Option.some.inj h).symm,(Wk.pick [7,8] [27] rfl rfl)⟩
  ·rintro _ rfl
   have h:=hk2;refine zv ?_;obtain ⟨r8,hr8,h⟩:=bd h;obtain ⟨hG9,h⟩:=zw h;refine zq<|ze zu rfl (by simp only [hG9,oc]) ?_
   refine xr [] (w_past _ _ _  r8 hr8) rfl ⟨rfl,rfl⟩ rfl rfl Tryz.func27 rfl rfl rfl (by simp only [hG9,oc]) rfl rfl PassH.nil ?_;rintro _ _ ⟨rfl,rfl⟩;refine ⟨_,_,rfl,rfl,?_⟩;refine zj zu rfl (by simp only [hG9,oc]) ?_;cases h;exact zd ⟨_,(Wk.pick [4,5] [27] rfl rfl),_,_,rfl,rfl,rfl,rfl⟩
def qD (r1:T5):Nat→Int→T1→T3→Option (T1×T3)
  | 0,_,_,_=>none
  | n+1,v6_0,v6_1,v6_2=>
    gd ((zh (0:Int) r1.length)) <|
    Option.bind (yd (r1.getD (0:Int).toNat [])) fun r7=>
    cond (decide (v6_0 < r7)) (gd ((zk ((13:Int)+v6_0))&&(zf 8 (v6_1.length+[((13:Int)+v6_0)].length))) <|
    gd ((zk ((13:Int)+v6_0))&&(zf 16 (v6_2.length+[((0:Int),((13:Int)+v6_0))].length))) <|
    gd ((zk (v6_0+(1:Int)))) <|
    qD r1 n (v6_0+(1:Int)) (v6_1++[((13:Int)+v6_0)]) (v6_2++[((0:Int),((13:Int)+v6_0))])) (some (v6_1,v6_2))
def qw (r1:T5):Nat→Int→Int→T3→Int→Int→Int→Int→Int→Int→T4→Option ((T3×Int×Int×Int×Int×Int×Int×T4)⊕(Bool))
  | 0,_,_,_,_,_,_,_,_,_,_=>none
  | n+1,v16_0,v16_1,v16_2,v16_3,v16_4,v16_5,v16_6,v16_7,v16_8,v16_9=>
    cond (decide (v16_1 < (r1.length:Int))) (gd ((zh v16_1 r1.length)) <|
    Option.bind (m_course (v16_2,(v16_3,(v16_4,(v16_5,(v16_6,(v16_7,v16_8)))))) (r1.getD v16_1.toNat []) v16_0) fun r17=>
    cond (!(decide (r17.2.2=(0:Int)))) (some (.inr false)) (gd ((zf 40 (v16_9.length+r17.1.length))) <|
    gd ((zk (v16_1+(1:Int)))) <|
    qw r1 n (IntKind.wrap .u8 ((1:Int) - v16_0)) (v16_1+(1:Int)) r17.2.1.1 r17.2.1.2.1 r17.2.1.2.2.1 r17.2.1.2.2.2.1 r17.2.1.2.2.2.2.1 r17.2.1.2.2.2.2.2.1 r17.2.1.2.2.2.2.2.2 (v16_9++r17.1))) (some (.inl (v16_2,v16_3,v16_4,v16_5,v16_6,v16_7,v16_8,v16_9)))
def qg (o15:T3×Int×Int×Int×Int×Int×Int×T4):Nat→Int→T1→Option (T1)
  | 0,_,_=>none
  | n+1,v23_0,v23_1=>
    cond (decide (v23_0 < (o15.1.length:Int))) (gd ((zh v23_0 o15.1.length)&&(zf 8 (v23_1.length+[(o15.1.getD v23_0.toNat qy.zero).2].length))) <|
    gd ((zk (v23_0+(1:Int)))) <|
    qg o15 n (v23_0+(1:Int)) (v23_1++[(o15.1.getD v23_0.toNat qy.zero).2])) (some v23_1)
def m_flatsPlan (a0:(Int×(List T1))):Option (Bool):=
    Option.bind (m_cof13 a0) fun r1=>
    gd ((zh (0:Int) r1.length)) <|
    Option.bind (ye (r1.getD (0:Int).toNat [])) fun r2=>
    Option.bind (qD r1 zA (0:Int) ([]:List Int) ([]:List (Int×Int))) fun o5=>
    cond (cond (decide (r2 < (1:Int))) true (decide ((6:Int) < r2))) (some false) (gd ((zh (IntKind.wrap .u8 (r2 - (1:Int))) 6)) <|
    Option.bind (m_castonO r2 o5.1) fun r12=>
    cond (!(decide (r12.2=(0:Int)))) (some false) (Option.bind (qw r1 zA (0:Int) (0:Int) o5.2 (cond (Nat.beq (IntKind.wrap .u8 (r2 - (1:Int))).toNat 0) (2:Int) (0:Int)) (cond (Nat.beq (IntKind.wrap .u8 (r2 - (1:Int))).toNat 1) (2:Int) (0:Int)) (cond (Nat.beq (IntKind.wrap .u8 (r2 - (1:Int))).toNat 2) (2:Int) (0:Int)) (cond (Nat.beq (IntKind.wrap .u8 (r2 - (1:Int))).toNat 3) (2:Int) (0:Int)) (cond (Nat.beq (IntKind.wrap .u8 (r2 - (1:Int))).toNat 4) (2:Int) (0:Int)) (cond (Nat.beq (IntKind.wrap .u8 (r2 - (1:Int))).toNat 5) (2:Int) (0:Int)) r12.1) fun o15=>
    sm o15 (fun o15=>
    Option.bind (m_front o15.1) fun r21=>
    Option.bind (qg o15 zA (0:Int) ([]:List Int)) fun o22=>
    gd ((zk ((r1.length:Int) - (1:Int)))&&(zh ((r1.length:Int) - (1:Int)) r1.length)) <|
    Option.bind (ye (r1.getD ((r1.length:Int) - (1:Int)).toNat [])) fun r26=>
    Option.bind (m_bindoff r26 o22) fun r27=>
    Option.bind (m_chyarns r1) fun r28=>
    Option.bind (m_leave r28.1) fun r29=>
    gd ((zf 40 (o15.2.2.2.2.2.2.2.length+r21.1.length))&&(zf 40 ((o15.2.2.2.2.2.2.2++r21.1).length+r27.1.length))&&(zf 40 (((o15.2.2.2.2.2.2.2++r21.1)++r27.1).length+r29.1.length))) <|
    Option.bind (m_flcomp r1) fun r30=>
    Option.bind (cond (cond (cond (cond (decide (r21.2=(0:Int))) (decide (r27.2=(0:Int))) false) (decide (r29.2.2=(0:Int))) false) (decide (r30.2.2=(0:Int))) false) (m_text31 r30.1) (some default)) fun r31=>
    Option.bind (cond (cond (cond (cond (decide (r21.2=(0:Int))) (decide (r27.2=(0:Int))) false) (decide (r29.2.2=(0:Int))) false) (decide (r30.2.2=(0:Int))) false) (m_text31 (((o15.2.2.2.2.2.2.2++r21.1)++r27.1)++r29.1)) (some default)) fun r32=>
    Option.bind (cond (cond (cond (cond (cond (decide (r21.2=(0:Int))) (decide (r27.2=(0:Int))) false) (decide (r29.2.2=(0:Int))) false) (decide (r30.2.2=(0:Int))) false) (r31 == r32) false) (m_lives31) (some default)) fun r33=>
    some (cond (cond (cond (cond (cond (decide (r21.2=(0:Int))) (decide (r27.2=(0:Int))) false) (decide (r29.2.2=(0:Int))) false) (decide (r30.2.2=(0:Int))) false) (r31 == r32) false) r33 false)) (fun q=>some q)))
theorem w_flatsPlan (a0:(Int×(List T1))) (c0:Option Nat) (r:(Bool)) (h:m_flatsPlan a0=some r):AC cx 4 [.agg [.val (.int .u8 a0.1),.lst (.sl (.int .u8)) a0.2 c0]] [] (fun sv h=>sv=.a (.c (.val (.bool r)))∧h=[]):=by
  unfold m_flatsPlan at h;refine zr zu Tryz.func4 rfl Tryz.ntmps4 rfl rfl (res:=[.tmp 2]) rfl<|zv<|zq<|zj zu rfl rfl<|zb (Wk.frzC 1 G5 rfl rfl rfl)<|zv ?_
  obtain ⟨r1,hr1,h⟩:=bd h;refine zq<|ze zu rfl rfl<|zg (w_cof13 _ none r1 hr1) rfl ⟨rfl,rfl⟩ rfl Tryz.func5 rfl rfl rfl rfl rfl rfl<|zj zu rfl rfl<|zb (Wk.frzC 3 G6 rfl rfl rfl)<|zv ?_
  obtain ⟨hG42,h⟩:=zw h;obtain ⟨r2,hr2,h⟩:=bd h;refine zq<|ze zu rfl (by simp only [hG42,oc]) ?_
  refine zg (w_chfirst _ none r2 hr2) rfl ⟨rfl,rfl⟩ rfl Tryz.func11 rfl rfl rfl (by simp only [hG42,oc]) rfl rfl ?_;refine zj zu rfl (by simp only [hG42,oc]) ?_;refine zv<|zq<|zj zu rfl rfl<|zb (Wk.nil 5 5 3 (.int .i64) rfl rfl)<|zv<|zq<|zj zu rfl rfl<|zv<|zv<|zq<|zj zu rfl rfl<|zb (Wk.nilC 6 0 28 51 qy rfl) ?_
  obtain ⟨o5,ho5,hk5⟩:=bd h;refine zn (fun o5:T1×T3=>⟨[(3,.a (.c (.pel G6 r1 0))),(4,.a (.c (.val (.int .u8 r2)))),(5,.a (.c (.sl 5))),(6,.a (.c (.ptr 6 0)))],[(5,.row 3 (.int .i64) o5.1 none),(6,.cells 47 [.sl 28,.val (.int .u8 (0:Int)),.val (.int .u8 (0:Int)),.val (.int .u8 (0:Int)),.val (.int .u8 (0:Int)),.val (.int .u8 (0:Int)),.val (.int .u8 (0:Int))]),(28,.row 51 qy o5.2 none)]⟩) (fun o'=>o5=o') ?_ ?_
  ·have h:=ho5
   refine zc<|zb (Wk.pick [7,3,4,5,6] [5,28,6] rfl rfl)<|zl (fun y:Nat×Int×T1×T3=>[(7,.a (.c (.val (.int .i64 y.2.1))))]) (fun y:Nat×Int×T1×T3=>[(5,.row 3 (.int .i64) y.2.2.1 none),(28,.row 51 qy y.2.2.2 none)]) (fun y:Nat×Int×T1×T3=>qD r1 y.1 y.2.1 y.2.2.1 y.2.2.2=some o5) (fun y:Nat×Int×T1×T3=>y.1) (zA,(0:Int),([]:List Int),([]:List (Int×Int))) h ?_
   rintro ⟨n,v6_0,v6_1,v6_2⟩ h;replace h:qD r1 n v6_0 v6_1 v6_2=some o5:=h
   rcases n with _ | n
   · cases (show (none:Option _)=some _ from h)
   rw [qD] at h
   try dsimp only
   refine zv<|zv ?_
   obtain ⟨hG11,h⟩:=zw h;obtain ⟨r7,hr7,h⟩:=bd h;refine zq<|ze zu rfl (by simp only [hG11,oc]) ?_
   refine zg (w_chneeds _ none r7 hr7) rfl ⟨rfl,rfl⟩ rfl Tryz.func12 rfl rfl rfl (by simp only [hG11,oc]) rfl rfl ?_;refine zj zu rfl (by simp only [hG11,oc]) ?_
   revert h
   refine xC rfl rfl (fun hc h=>?_) (fun hc h=>?_)
   ·refine za<|zv<|zc<|zv ?_
    obtain ⟨hG10,h⟩:=zw h;simp only [Bool.and_eq_true] at hG10;obtain ⟨hG10_0,hG10_1⟩:=hG10;refine zq<|zj zu rfl (by simp only [hG10_0,hG10_1,oc]) ?_
    obtain ⟨hG9,h⟩:=zw h;simp only [Bool.and_eq_true] at hG9;obtain ⟨hG9_0,hG9_1⟩:=hG9;refine zq<|zj zu rfl (by simp only [hG9_0,hG9_1,oc]) ?_
    obtain ⟨hG8,h⟩:=zw h;refine zq<|zj zu rfl (by simp only [hG8,oc]) ?_
    refine ⟨(n,_,_,_),h,Nat.lt_succ_self _,(Wk.pick [7,3,4,5,6] [5,28,6] rfl rfl)⟩
   refine zo ?_;exact ⟨_,(Option.some.inj h).symm,(Wk.pick [3,4,5,6] [5,6,28] rfl rfl)⟩
  ·rintro _ rfl
   have h:=hk5;refine zv<|zv<|zq<|zj zu rfl (by generalize (decide (r2 < (1:Int)))=b0; revert b0; decide) ?_
   revert h
   refine xC rfl rfl (fun hc h=>?_) (fun hc h=>?_)
   ·refine zv<|zq<|zj zu rfl rfl ?_
    cases h;exact zd ⟨_,(Wk.pick [2] [] rfl rfl),_,_,rfl,rfl,rfl,rfl⟩
   refine za<|zv ?_
   obtain ⟨hG41,h⟩:=zw h;refine zq<|qh 4 zu rfl (by simp only [hG41,oc]) ?_
   refine al_storeX (.int .u8) 1 6 (IntKind.wrap .u8 (r2 - (1:Int))) rfl zu rfl ⟨rfl,rfl⟩ rfl rfl rfl (by simp only [hG41,oc]) rfl (by simp only [hG41,oc]) rfl rfl (by simp only [hG41,oc]) (by simp only [hG41,oc]) rfl (by simp only [hG41,oc]) rfl rfl rfl ?_;refine zj zu rfl (by simp only [hG41,oc]) ?_;refine zv ?_;obtain ⟨r12,hr12,h⟩:=bd h;refine zq<|ze zu rfl rfl<|xj (Wk.frz (id:=5) rfl)<|qI [(27,68)] (w_castonO _ _ none r12 hr12) rfl ⟨rfl,rfl⟩ rfl Tryz.func13 rfl rfl rfl rfl rfl rfl PassH.nil ?_
   rintro _ _ ⟨rfl,rfl⟩;refine ⟨_,_,rfl,rfl,?_⟩;refine zj zu rfl rfl<|zv<|zv<|zq<|zj zu rfl rfl ?_
   revert h
   refine xC rfl rfl (fun hc h=>?_) (fun hc h=>?_)
   ·refine zv<|zq<|zj zu rfl rfl ?_
    cases h;exact zd ⟨_,(Wk.pick [2] [] rfl rfl),_,_,rfl,rfl,rfl,rfl⟩
   refine za<|zv<|zq<|zj zu rfl rfl<|zv<|zv<|zq<|zj zu rfl rfl<|zb (Wk.frz (id:=28) rfl) ?_
   obtain ⟨o15,ho15,hk15⟩:=bd h;refine zn (fun o15:T3×Int×Int×Int×Int×Int×Int×T4=>⟨[(3,.a (.c (.pel G6 r1 0))),(6,.a (.c (.ptr 6 0))),(8,.a (.c (.sl 68)))],[(6,.cells 47 [.lst qy o15.1 none,.val (.int .u8 o15.2.1),.val (.int .u8 o15.2.2.1),.val (.int .u8 o15.2.2.2.1),.val (.int .u8 o15.2.2.2.2.1),.val (.int .u8 o15.2.2.2.2.2.1),.val (.int .u8 o15.2.2.2.2.2.2.1)]),(68,.row 72 qn o15.2.2.2.2.2.2.2 none)]⟩) (fun o'=>Sum.inl o'=o15) ?_ ?_
   ·have h:=ho15
    refine zc<|zb (Wk.pick [10,11,3,6,8] [6,68] rfl rfl)<|zl (fun y:Nat×Int×Int×T3×Int×Int×Int×Int×Int×Int×T4=>[(10,.a (.c (.val (.int .u8 y.2.1)))),(11,.a (.c (.val (.int .i64 y.2.2.1))))]) (fun y:Nat×Int×Int×T3×Int×Int×Int×Int×Int×Int×T4=>[(6,.cells 47 [.lst qy y.2.2.2.1 none,.val (.int .u8 y.2.2.2.2.1),.val (.int .u8 y.2.2.2.2.2.1),.val (.int .u8 y.2.2.2.2.2.2.1),.val (.int .u8 y.2.2.2.2.2.2.2.1),.val (.int .u8 y.2.2.2.2.2.2.2.2.1),.val (.int .u8 y.2.2.2.2.2.2.2.2.2.1)]),(68,.row 72 qn y.2.2.2.2.2.2.2.2.2.2 none)]) (fun y:Nat×Int×Int×T3×Int×Int×Int×Int×Int×Int×T4=>qw r1 y.1 y.2.1 y.2.2.1 y.2.2.2.1 y.2.2.2.2.1 y.2.2.2.2.2.1 y.2.2.2.2.2.2.1 y.2.2.2.2.2.2.2.1 y.2.2.2.2.2.2.2.2.1 y.2.2.2.2.2.2.2.2.2.1 y.2.2.2.2.2.2.2.2.2.2=some o15) (fun y:Nat×Int×Int×T3×Int×Int×Int×Int×Int×Int×T4=>y.1) (zA,(0:Int),(0:Int),o5.2,(cond (Nat.beq (IntKind.wrap .u8 (r2 - (1:Int))).toNat 0) (2:Int) (0:Int)),(cond (Nat.beq (IntKind.wrap .u8 (r2 - (1:Int))).toNat 1) (2:Int) (0:Int)),(cond (Nat.beq (IntKind.wrap .u8 (r2 - (1:Int))).toNat 2) (2:Int) (0:Int)),(cond (Nat.beq (IntKind.wrap .u8 (r2 - (1:Int))).toNat 3) (2:Int) (0:Int)),(cond (Nat.beq (IntKind.wrap .u8 (r2 - (1:Int))).toNat 4) (2:Int) (0:Int)),(cond (Nat.beq (IntKind.wrap .u8 (r2 - (1:Int))).toNat 5) (2:Int) (0:Int)),r12.1) h ?_
    rintro ⟨n,v16_0,v16_1,v16_2,v16_3,v16_4,v16_5,v16_6,v16_7,v16_8,v16_9⟩ h;replace h:qw r1 n v16_0 v16_1 v16_2 v16_3 v16_4 v16_5 v16_6 v16_7 v16_8 v16_9=some o15:=h
    rcases n with _ | n
    · cases (show (none:Option _)=some _ from h)
    rw [qw] at h
    try dsimp only
    refine zv<|zv<|zq<|zj zu rfl rfl ?_
    revert h
    refine xC rfl rfl (fun hc h=>?_) (fun hc h=>?_)
    ·refine za<|zv<|zc<|zv ?_
     obtain ⟨hG20,h⟩:=zw h;obtain ⟨r17,hr17,h⟩:=bd h
     apply ax_cut
     ·
       refine zG [1,2,3,4,5,6,12] (by kernel_rfl) rfl (N:=16)<|zp (fuel:=9) (ds':=⟨#[true,true,true,true,true,true,true,false,false,false,false,false,false,false,false,false],true,true,true⟩) zu [(0,3),(1,0),(2,1),(3,0),(4,0),(5,1),(6,0)] (by kernel_rfl) rfl (by simp only [hG20,oc]) ?_
       refine zm (by kernel_rfl) (zi (i:=7) ?_ (zi (i:=12) ?_ zt))
       ·
         refine zN rfl<|zL (i:=7) (listed':=#[true,true,true,true,true,true,true,true,false,false,false,false,false,false,false,false]) (pre':=true) [] (w_course _ _ _ none none r17 hr17) rfl rfl rfl rfl ⟨rfl,rfl⟩ rfl Tryz.func14 rfl rfl rfl (by simp only [hG20,oc]) rfl rfl PassH.nil ?_
         rintro _ _ ⟨rfl,rfl⟩;refine ⟨_,_,rfl,rfl,?_⟩;refine zp (fuel:=0) (ds':=⟨#[true,true,true,true,true,true,true,true,true,true,true,true,true,true,true,true],false,false,false⟩) zu [(8,0),(9,0),(10,0),(11,0),(12,4),(13,0),(14,2),(15,0)] (by kernel_rfl) rfl (by simp only [hG20,oc]) ?_;refine zB (by kernel_rfl) ?_;exact ⟨rfl,Wk.pick [3,6,8,10,11,12,13,14] [6,13,68] rfl rfl⟩
       ·
         refine qN zu (i:=12) rfl rfl rfl (by simp only [hG20,oc]) rfl ?_;refine zm (by kernel_rfl) (zi (i:=7) ?_ zt);refine zN rfl<|zL (i:=7) (listed':=#[true,true,true,true,true,true,true,true,false,false,false,false,true,false,false,false]) (pre':=true) [] (w_course _ _ _ none none r17 hr17) rfl rfl rfl rfl ⟨rfl,rfl⟩ rfl Tryz.func14 rfl rfl rfl (by simp only [hG20,oc]) rfl rfl PassH.nil ?_
         rintro _ _ ⟨rfl,rfl⟩;refine ⟨_,_,rfl,rfl,?_⟩;refine zp (fuel:=0) (ds':=⟨#[true,true,true,true,true,true,true,true,true,true,true,true,true,true,true,true],false,false,false⟩) zu [(8,0),(9,0),(10,0),(11,0),(13,0),(14,2),(15,0)] (by kernel_rfl) rfl (by simp only [hG20,oc]) ?_;refine zB (by kernel_rfl) ?_;exact ⟨rfl,Wk.pick [3,6,8,10,11,12,13,14] [6,13,68] rfl rfl⟩
     refine zv<|zv<|zq<|zj zu rfl rfl ?_
     revert h
     refine xC rfl rfl (fun hc h=>?_) (fun hc h=>?_)
     ·refine zv<|zq<|zj zu rfl rfl<|zd ?_
      obtain rfl:=Option.some.inj h;have h:=hk15;dsimp only [sm] at h;obtain rfl:=Option.some.inj h;refine ⟨_,(Wk.pick [2] [] rfl rfl),_,_,rfl,rfl,?_⟩;exact ⟨rfl,rfl⟩
     refine za<|zv ?_
     obtain ⟨hG19,h⟩:=zw h;refine zq<|zj zu rfl (by simp only [hG19,oc]) ?_
     refine zv<|zq<|zj zu rfl rfl<|zq<|zj zu rfl rfl ?_
     obtain ⟨hG18,h⟩:=zw h;refine zq<|zj zu rfl (by simp only [hG18,oc]) ?_
     refine ⟨(n,_,_,_,_,_,_,_,_,_,_),h,Nat.lt_succ_self _,(Wk.pick [10,11,3,6,8] [6,68] rfl rfl)⟩
    refine zo ?_;exact ⟨_,Option.some.inj h,(Wk.pick [3,6,8] [6,68] rfl rfl)⟩
   ·rintro o15 rfl
    have h:=hk15;dsimp only [sm] at h;refine zv ?_;obtain ⟨r21,hr21,h⟩:=bd h;refine zq<|ze zu rfl rfl<|zg (w_front _ none r21 hr21) rfl ⟨rfl,rfl⟩ rfl Tryz.func15 rfl rfl rfl rfl rfl rfl<|zj zu rfl rfl<|zv<|zq<|zj zu rfl rfl<|zb (Wk.nil 5 5 3 (.int .i64) rfl rfl)<|zv<|zv<|zq<|zj zu rfl rfl ?_
    obtain ⟨o22,ho22,hk22⟩:=bd h;refine zn (fun o22:T1=>⟨[(3,.a (.c (.pel G6 r1 0))),(5,.a (.c (.sl 5))),(8,.a (.c (.sl 68))),(15,.a (.c (.lst qn r21.1 (some r21.1.length)))),(16,.a (.c (.val (.int .i64 r21.2))))],[(5,.row 3 (.int .i64) o22 none),(68,.row 72 qn o15.2.2.2.2.2.2.2 none)]⟩) (fun o'=>o22=o') ?_ ?_
    ·have h:=ho22
     refine zc<|zb (Wk.pick [17,3,5,6,8,15,16] [5,6,68] rfl rfl)<|zl (fun y:Nat×Int×T1=>[(17,.a (.c (.val (.int .i64 y.2.1))))]) (fun y:Nat×Int×T1=>[(5,.row 3 (.int .i64) y.2.2 none)]) (fun y:Nat×Int×T1=>qg o15 y.1 y.2.1 y.2.2=some o22) (fun y:Nat×Int×T1=>y.1) (zA,(0:Int),([]:List Int)) h ?_
     rintro ⟨n,v23_0,v23_1⟩ h;replace h:qg o15 n v23_0 v23_1=some o22:=h
     rcases n with _ | n
     · cases (show (none:Option _)=some _ from h)
     rw [qg] at h
     try dsimp only
     refine zv<|zv<|zq<|zj zu rfl rfl ?_
     revert h
     refine xC rfl rfl (fun hc h=>?_) (fun hc h=>?_)
     ·refine za<|zv<|zc ?_
      obtain ⟨hG25,h⟩:=zw h;simp only [Bool.and_eq_true] at hG25;obtain ⟨hG25_0,hG25_1⟩:=hG25;refine zq<|zj zu rfl (by simp only [hG25_0,hG25_1,oc]) ?_
      obtain ⟨hG24,h⟩:=zw h;refine zq<|zj zu rfl (by simp only [hG24,oc]) ?_
      refine ⟨(n,_,_),h,Nat.lt_succ_self _,(Wk.pick [17,3,5,6,8,15,16] [5,6,68] rfl rfl)⟩
     refine zo ?_;exact ⟨_,(Option.some.inj h).symm,(Wk.pick [3,5,8,15,16] [5,68] rfl rfl)⟩
    ·rintro _ rfl
     have h:=hk22;refine zv ?_;obtain ⟨hG40,h⟩:=zw h;simp only [Bool.and_eq_true] at hG40;obtain ⟨hG40_0,hG40_1⟩:=hG40;obtain ⟨r26,hr26,h⟩:=bd h;obtain ⟨r27,hr27,h⟩:=bd h;refine zq<|ze zu rfl (by simp only [hG40_0,hG40_1,oc]) ?_
     refine zg (w_chfirst _ none r26 hr26) rfl ⟨rfl,rfl⟩ rfl Tryz.func11 rfl rfl rfl (by simp only [hG40_0,hG40_1,oc]) rfl rfl ?_;refine ze zu rfl (by simp only [hG40_0,hG40_1,oc]) ?_;refine xj (Wk.frz (id:=5) rfl)<|zg (w_bindoff _ _ none r27 hr27) rfl ⟨rfl,rfl⟩ rfl Tryz.func16 rfl rfl rfl (by simp only [hG40_0,hG40_1,oc]) rfl rfl ?_
     refine zj zu rfl (by simp only [hG40_0,hG40_1,oc]) ?_;refine zv ?_;obtain ⟨r28,hr28,h⟩:=bd h;refine zq<|ze zu rfl rfl<|zg (w_chyarns _ none r28 hr28) rfl ⟨rfl,rfl⟩ rfl Tryz.func17 rfl rfl rfl rfl rfl rfl<|zj zu rfl rfl<|zv ?_
     obtain ⟨r29,hr29,h⟩:=bd h;refine zq<|ze zu rfl rfl<|zg (w_leave _ r28.2 r29 hr29) rfl ⟨rfl,rfl⟩ rfl Tryz.func18 rfl rfl rfl rfl rfl rfl<|zj zu rfl rfl<|zv ?_
     obtain ⟨hG39,h⟩:=zw h;simp only [Bool.and_eq_true] at hG39;obtain ⟨⟨hG39_0,hG39_1⟩,hG39_2⟩:=hG39;refine zq<|zj zu rfl (by simp only [hG39_0,hG39_1,hG39_2,oc]) ?_
     refine zv ?_;obtain ⟨r30,hr30,h⟩:=bd h;refine zq<|ze zu rfl rfl<|zg (w_flcomp _ none r30 hr30) rfl ⟨rfl,rfl⟩ rfl Tryz.func6 rfl rfl rfl rfl rfl rfl<|zj zu rfl rfl<|zv ?_
     obtain ⟨r31,hr31,h⟩:=bd h;obtain ⟨r32,hr32,h⟩:=bd h;obtain ⟨r33,hr33,h⟩:=bd h;refine zq<|ze zu rfl (by generalize (decide (r29.2.2=(0:Int)))=b0; generalize (decide (r30.2.2=(0:Int)))=b1; generalize (decide (r21.2=(0:Int)))=b2; generalize (decide (r27.2=(0:Int)))=b3; generalize (r31 == r32)=b4; revert b0 b1 b2 b3 b4; decide) ?_
     refine yO (.c (.str r31)) rfl rfl rfl rfl rfl (fun hq34=>?_) (fun hq34=>?_)
     ·replace hr31:=cond_t hq34 hr31
      try simp only [ob2,cond_true,cond_false] at hq34
      all_goals
       refine zg (w_text31 _ r30.2.1 r31 hr31) rfl ⟨rfl,rfl⟩ rfl Tryz.func9 rfl rfl rfl (by simp only [hq34,oc]) rfl rfl ?_;refine ze zu rfl (by simp only [hq34,oc]) ?_;refine xj (Wk.frz (id:=68) rfl)<|yO (.c (.str r32)) rfl rfl rfl rfl rfl (fun hq35=>?_) (fun hq35=>?_)
       ·replace hr32:=cond_t hq35 hr32
        try simp only [hq34,ob2,cond_true,cond_false] at hq35
        all_goals
         refine zg (w_text31 _ none r32 hr32) rfl ⟨rfl,rfl⟩ rfl Tryz.func9 rfl rfl rfl (by simp only [hq34,hq35,oc]) rfl rfl ?_;refine ze zu rfl (by simp only [hq34,hq35,oc]) ?_;refine yO (.c (.val (.bool r33))) rfl rfl rfl rfl rfl (fun hq36=>?_) (fun hq36=>?_)
         ·replace hr33:=cond_t hq36 hr33
          try simp only [hq34,hq35,ob2,cond_true,cond_false] at hq36
          all_goals
           refine zg (w_lives31   r33 hr33) rfl ⟨rfl,rfl⟩ rfl Tryz.func10 rfl rfl rfl (by simp only [hq34,hq35,hq36,oc]) rfl rfl ?_;refine zj zu rfl (by simp only [hq34,hq35,hq36,oc]) ?_;cases h;exact zd ⟨_,(Wk.pick [2] [] rfl rfl),_,_,rfl,rfl,rfl,rfl⟩
         ·try simp only [hq34,hq35,ob2,cond_true,cond_false] at hq36
          all_goals
           refine zj zu rfl (by simp only [hq34,hq35,hq36,oc]) ?_;cases h;exact zd ⟨_,(Wk.pick [2] [] rfl rfl),_,_,rfl,rfl,rfl,rfl⟩
       ·exfalso; simp only [hq34,ob2,cond_true,cond_false] at hq35
     ·try simp only [ob2,cond_true,cond_false] at hq34
      all_goals
       refine ze zu rfl (by simp only [hq34,oc]) ?_;refine xj (Wk.frz (id:=68) rfl)<|yO (.c (.str r32)) rfl rfl rfl rfl rfl (fun hq37=>?_) (fun hq37=>?_)
       ·exfalso; simp only [hq34,ob2,cond_true,cond_false] at hq37
       ·try simp only [hq34,ob2,cond_true,cond_false] at hq37
        all_goals
         refine ze zu rfl (by simp only [hq34,hq37,oc]) ?_;refine yO (.c (.val (.bool r33))) rfl rfl rfl rfl rfl (fun hq38=>?_) (fun hq38=>?_)
         ·exfalso; simp only [hq34,hq37,ob2,cond_true,cond_false] at hq38
         ·try simp only [hq34,hq37,ob2,cond_true,cond_false] at hq38
          all_goals
           refine zj zu rfl (by simp only [hq34,hq37,hq38,oc]) ?_;cases h;exact zd ⟨_,(Wk.pick [2] [] rfl rfl),_,_,rfl,rfl,rfl,rfl⟩
end Go.Proofs.YtihcolehefloeaaGreatDoor

/- FlatsRows, FlatsPlan: the models answer true. -/
namespace Go.Proofs.YtihcolehefloeaaGreatDoor
open Go.RowKit
theorem text31_eq (l:List zM) (hl:l.length≤20000000) (hn:AllN l):m_text31 l=some (textL l):=by
  have hF:l.length < zA:=by unfold zA; omega
  have hL:xk l zA [] 0=some (tx l l.length):=loopS (fun n i s=>xk l n s i) l.length (fun k=>tx l k) [] (tx l l.length) rfl hF (fun n k hk=>by
    show xk l (n+1) (tx l k) k=xk l n (tx l (k+1)) (k+1);have h1:=tx_len l k;have h2:=textT_len (l.getD k qn.zero);have h3:=optext_eq _ (getD_N hn k hk);rw [xk,tx,Int.toNat_natCast,h3]
    by_cases h0:0 < k
    · rw [if_pos h0]
      simp (disch:=((try simp [zh,zk,zf, -List.getD_eq_getElem?_getD]); try omega; done)) only [zF,qm,zK,Option.bind_some]
    · rw [if_neg h0]
      simp (disch:=((try simp [zh,zk,zf, -List.getD_eq_getElem?_getD]); try omega; done)) only [zF,qm,zK,Option.bind_some]) (fun n=>by
    show xk l (n+1) (tx l l.length) l.length=_;rw [xk,zK (by simp)])
  unfold m_text31;rw [hL]
  rfl
structure Comp (c:List (List zR)):Prop where
  fit:Fit c
  slim:Slim c
  comp:qT c=some ((xt c,xU c c.length),0)
  len:yH (xt c) (xt c).length≤4096
  slots:∀ k,k≤c.length→((xU c c.length).getD k []).length≤16
theorem comp_ok (w:Int) (chs:List T1) (hw:0≤w∧w≤255) (hb:∀ c∈chs,Byt c):∃ rows,m_cof13 (w,chs)=some rows∧Comp rows:=by
  obtain ⟨rows,e,h1,h9,ho,hR,q,b,hq,hr⟩:=cof_ok2 w chs hw hb;obtain ⟨F,S,hc⟩:=rws_check hq hr ho h9 hR;have h:=flcompile_eq F hc;rw [if_neg (by have:=size_ok F S; omega)] at h;obtain ⟨e0,g1,g⟩:=flcompile_all rows;rw [hc] at g1;cases g1
  rcases g with ⟨g,_⟩ | ⟨_,g | ⟨g1,g2,g3,g4⟩⟩
  · exact absurd rfl g
  · rw [h] at g
    injection g with g
    injection g with _ g
    exact absurd g (by decide)
  · exact ⟨rows,e,F,S,h,g3,g4⟩
theorem castonO_L (y:Int) (l:List Int):∀ n v s,yy y l n v s=qU y l n v s:=fun n=>by
  induction n with
  | zero=>intro v s; rfl
  | succ n ih=>
    intro v s;rw [yy,qU];simp only [ih]
theorem castonO_eq (y:Int) (l:List Int):m_castonO y l=m_caston y l:=by
  unfold m_castonO m_caston;simp only [castonO_L]
theorem lay_sides {c:List (List zR)} (F:Fit c):∀ k,k≤c.length→∀ i,i < 6→(!decide ((xI (xV c k)).getD i 0=0))=(decide ((qW (c.getD 0 [])).toNat=i+1) || qR (c.take k) (i+1))
  | 0,hk,i,hi=>by
    have hy:=(yE (F.row 0 (by have:=F.odd; omega))).2;obtain ⟨y,hy2⟩:∃ y:Nat,qW (c.getD 0 [])=(y:Int):=⟨_,(Int.toNat_of_nonneg (by omega)).symm⟩
    have e:qR (c.take 0) (i+1)=false:=by simp [qR]
    rw [e,Bool.or_false];have hs:(xI (xV c 0)).getD i 0=sd0 (qW (c.getD 0 [])) i:=by
      have:i=0∨i=1∨i=2∨i=3∨i=4∨i=5:=by omega
      rcases this with rfl | rfl | rfl | rfl | rfl | rfl <;> rfl
    rw [hs,hy2,Int.toNat_natCast];unfold sd0;rw [show ((y:Int) - 1).toNat=y - 1 by omega]
    by_cases e:y=i+1
    · subst e
      rw [show i+1 - 1=i by omega,Nat.beq_refl]
      simp
    · have:Nat.beq (y - 1) i=false:=by
        cases hb:Nat.beq (y - 1) i with
        | false=>rfl
        | true=>have:=Nat.eq_of_beq_eq_true hb; omega
      rw [this,decide_eq_false e]
      rfl
  | k+1,hk,i,hi=>by
    have ih:=lay_sides F k (by omega) i hi;have hs:(xI (xV c (k+1))).getD i 0=zZ (xV c k) (c.getD k []) ((k % 2:Nat):Int) (zI (c.getD k [])).length i:=by
      have:i=0∨i=1∨i=2∨i=3∨i=4∨i=5:=by omega
      rcases this with rfl | rfl | rfl | rfl | rfl | rfl <;> rfl
    have hu:qR (c.take (k+1)) (i+1)=(qR (c.take k) (i+1) || yk (c.getD k []) (i+1)):=by
      unfold qR;rw [yS c [] k (by omega),List.any_append];simp only [List.any_cons,List.any_nil,Bool.or_false]
    rw [hs,hu,← Bool.or_assoc,← ih];unfold zZ;rw [List.take_length];have hy:(zI (c.getD k [])).any (fun y=>decide (y=(i:Int)+1))=yk (c.getD k []) (i+1):=by
      cases hb:yk (c.getD k []) (i+1) with
      | true=>
        rw [List.any_eq_true];exact ⟨((i+1:Nat):Int),List.mem_map.2 ⟨i+1,List.mem_filter.2 ⟨List.mem_range.2 (by omega),hb⟩,rfl⟩,decide_eq_true (by omega)⟩
      | false=>
        rw [List.any_eq_false];intro y hy;obtain ⟨z,hz,rfl⟩:=List.mem_map.1 hy;have hz2:=(List.mem_filter.1 hz).2;simp only [decide_eq_true_eq];intro e;rw [show z=i+1 by omega,hb] at hz2;cases hz2
    rw [hy];cases yk (c.getD k []) (i+1) with
    | true=>
      rw [if_pos rfl,Bool.or_true];unfold enD
      split <;> rfl
    | false=>rw [if_neg (by simp),Bool.or_false]
theorem ins_yarns {c:List (List zR)} (F:Fit c):yarnsC c=insL (xV c c.length):=by
  have ho:=F.odd;have h0:=F.row 0 (by omega);have hy:=(yE h0).2;have hfu:qR c (qW (c.getD 0 [])).toNat=true:=by
    unfold qR;rw [List.any_eq_true];refine ⟨c.getD 0 [],?_,firstY_used h0⟩;rw [List.getD_eq_getElem?_getD,List.getElem?_eq_getElem (show 0 < c.length by omega)];exact List.getElem_mem _
  have hin:∀ y,qR c y=true→1≤y∧y≤6:=fun y h=>by
    obtain ⟨l,hl,h2⟩:=List.any_eq_true.1 h;obtain ⟨s,hs,h3⟩:=List.any_eq_true.1 h2;obtain ⟨k,hk,e⟩:=List.getElem_of_mem hl;have hR:=F.row k hk;rw [List.getD_eq_getElem?_getD,List.getElem?_eq_getElem hk] at hR;have hR':Row l:=by rw [← e]; exact hR
    have:=zY (List.all_eq_true.1 hR'.all s hs)
    have:=of_decide_eq_true h3
    omega
  have hs:=lay_sides F c.length (Nat.le_refl _);rw [List.take_length] at hs;have hs':∀ i,i < 6→(!decide ((xI (xV c c.length)).getD i 0=0))=qR c (i+1):=fun i hi=>by
    rw [hs i hi]
    by_cases e:(qW (c.getD 0 [])).toNat=i+1
    · rw [decide_eq_true e,Bool.true_or,← e,hfu]
    · rw [decide_eq_false e,Bool.false_or]
  unfold yarnsC insL;have e1:(List.range 256).filter (qR c)=(List.range 7).filter (qR c):=by
    have hf:∀ n,(List.range (7+n)).filter (qR c)=(List.range 7).filter (qR c):=fun n=>by
      induction n with
      | zero=>rfl
      | succ n ih=>
        have hfa:qR c (7+n)=false:=by
          cases hb:qR c (7+n) with
          | false=>rfl
          | true=>have:=hin _ hb; omega
        rw [show 7+(n+1)=(7+n)+1 by omega,List.range_succ,List.filter_append,ih]
        simp [List.filter,hfa]
    exact hf 249
  have e2:(List.range 6).filter (fun i=>!decide ((xI (xV c c.length)).getD i 0=0))=(List.range 6).filter (fun i=>qR c (i+1)):=List.filter_congr fun i hi=>hs' i (List.mem_range.1 hi)
  have e0:qR c 0=false:=by
    cases hb:qR c 0 with
    | false=>rfl
    | true=>have:=hin _ hb; omega
  rw [e1,e2];have r7:List.range 7=[0,1,2,3,4,5,6]:=rfl;have r6:List.range 6=[0,1,2,3,4,5]:=rfl;rw [r7,r6];simp only [List.filter,e0];cases qR c (0+1) <;> cases qR c (1+1) <;> cases qR c (2+1) <;> cases qR c (3+1) <;> cases qR c (4+1) <;> cases qR c (5+1) <;> rfl
theorem parts_flat (c:List (List zR)):(xt c).flatten=(qq c c.length).flatten++bindP c:=by
  unfold xt;rw [List.flatten_append]
  simp
end Go.Proofs.YtihcolehefloeaaGreatDoor

/- FlatsPlan: the model answers true. -/
namespace Go.Proofs.YtihcolehefloeaaGreatDoor
open Go.RowKit
theorem partsTo_succ (c:List (List zR)) (k:Nat):(qq c (k+1)).flatten=(qq c k).flatten++yQ c k:=by
  unfold qq;rw [List.range_succ,List.map_append,← List.cons_append,List.flatten_append]
  simp
theorem partsTo_len (c:List (List zR)):∀ k,(qq c k).flatten.length=qZ c k
  | 0=>by simp [qq,qZ]
  | k+1=>by rw [partsTo_succ,List.length_append,partsTo_len c k,qZ]
theorem sizeTo_mono (c:List (List zR)) (k:Nat):∀ m,k≤m→qZ c k≤qZ c m
  | 0,h=>by rw [show k=0 by omega]; exact Nat.le_refl _
  | m+1,h=>by
    by_cases e:k=m+1
    · subst e; exact Nat.le_refl _
    · have:=sizeTo_mono c k m (by omega)
      have e:qZ c (m+1)=qZ c m+(yQ c m).length:=rfl;omega
theorem flatsPlan_eq (w:Int) (chs:List T1) (hw:0≤w∧w≤255) (hb:∀ c∈chs,Byt c):m_flatsPlan (w,chs)=some true:=by
  obtain ⟨c,e,C⟩:=comp_ok w chs hw hb;have F:=C.fit;have h31:=F.len;have ho:=F.odd;have R0:=F.row 0 (by omega);obtain ⟨f1,f2,f3⟩:=yE R0;obtain ⟨y,hy⟩:∃ y,qW (c.getD 0 [])=y:=⟨_,rfl⟩
  have hn:=R0.needs;have hl0:=R0.len;obtain ⟨z,hz⟩:∃ z:Nat,zC need (c.getD 0 []) (c.getD 0 []).length=(z:Int):=⟨(zC need (c.getD 0 []) (c.getD 0 []).length).toNat,by omega⟩
  have e0:=lay0_slots hz;have hcast:=cast_ok F hz;have hsz:=size_ok F C.slim;have e6:=xn (fun n (s:Int×List Int×List (Int×Int))=>qD c n s.1 s.2.1 s.2.2) z (fun k=>((k:Int),(qJ k).map (·.2),qJ k)) (0,[],[]) ((qJ z).map (·.2),qJ z) rfl (zD (by omega)) (fun n k hk=>by
    have hsl:=yq k;show qD c (n+1) k ((qJ k).map (·.2)) (qJ k)=qD c n ((k+1:Nat):Int) ((qJ (k+1)).map (·.2)) (qJ (k+1));rw [qD,zF (by simp [zh]; omega),show (0:Int).toNat=0 from rfl,yv _ (by omega),hz,Option.bind_some,qm (decide_eq_true (by omega)),zF (by simp only [zk,zf,List.length_map,List.length_singleton,Bool.and_eq_true,decide_eq_true_eq]; omega),zF (by simp only [zk,zf,List.length_singleton,Bool.and_eq_true,decide_eq_true_eq]; omega),zF (by simp [zk]; omega),slots0_succ,List.map_append]
    rfl) (fun n=>by
    show qD c (n+1) z ((qJ z).map (·.2)) (qJ z)=_;rw [qD,zF (by simp [zh]; omega),show (0:Int).toNat=0 from rfl,yv _ (by omega),hz,Option.bind_some,zK (by simp)])
  dsimp only at e6;have e16:=xn (fun n (s:Int×Int×List (Int×Int)×Int×Int×Int×Int×Int×Int×List zM)=>qw c n s.1 s.2.1 s.2.2.1 s.2.2.2.1 s.2.2.2.2.1 s.2.2.2.2.2.1 s.2.2.2.2.2.2.1 s.2.2.2.2.2.2.2.1 s.2.2.2.2.2.2.2.2.1 s.2.2.2.2.2.2.2.2.2) c.length
    (fun k=>(((k % 2:Nat):Int),(k:Int),(xV c k).1,(xV c k).2.1,(xV c k).2.2.1,(xV c k).2.2.2.1,(xV c k).2.2.2.2.1,(xV c k).2.2.2.2.2.1,(xV c k).2.2.2.2.2.2,(qq c k).flatten))
    (0,0,(lay0 c).1,sd0 y 0,sd0 y 1,sd0 y 2,sd0 y 3,sd0 y 4,sd0 y 5,castP c)
    (.inl ((xV c c.length).1,(xV c c.length).2.1,(xV c c.length).2.2.1,(xV c c.length).2.2.2.1,(xV c c.length).2.2.2.2.1,(xV c c.length).2.2.2.2.2.1,(xV c c.length).2.2.2.2.2.2,(qq c c.length).flatten)) (by
      have:(qq c 0).flatten=castP c:=by simp [qq]
      rw [this,← hy]
      rfl) (zD (by omega)) (fun n k hk=>by
      have hco:=course_ok (lay_lo F k (by omega)) (F.row k hk) (lay_need F k hk) ((k % 2:Nat):Int) (by omega);have hs:=partsTo_len c k;have hs2:qZ c k+(yQ c k).length=qZ c (k+1):=rfl;have hs3:=sizeTo_mono c (k+1) c.length (by omega);show qw c (n+1) ((k % 2:Nat):Int) k (xV c k).1 (xV c k).2.1 (xV c k).2.2.1 (xV c k).2.2.2.1 (xV c k).2.2.2.2.1 (xV c k).2.2.2.2.2.1 (xV c k).2.2.2.2.2.2 (qq c k).flatten =
        qw c n (((k+1) % 2:Nat):Int) ((k+1:Nat):Int) (xV c (k+1)).1 (xV c (k+1)).2.1 (xV c (k+1)).2.2.1 (xV c (k+1)).2.2.2.1 (xV c (k+1)).2.2.2.2.1 (xV c (k+1)).2.2.2.2.2.1 (xV c (k+1)).2.2.2.2.2.2 (qq c (k+1)).flatten
      have ed:IntKind.wrap .u8 (1 - ((k % 2:Nat):Int))=(((k+1) % 2:Nat):Int):=by
        rw [wrap8 _ (by omega)];omega
      rw [qw,qm (decide_eq_true (by omega)),zF (by simp [zh]; omega),Int.toNat_natCast];show Option.bind (m_course (xV c k) (c.getD k []) ((k % 2:Nat):Int)) _=_;rw [hco,Option.bind_some,zK (by rfl)];show gd (zf 40 ((qq c k).flatten.length+(yQ c k).length)) _=_;rw [zF (by simp only [zf,Bool.and_eq_true,decide_eq_true_eq]; omega),zF (by simp [zk]; omega),ed,partsTo_succ]
      rfl) (fun n=>by
      show qw c (n+1) _ (c.length:Int) _ _ _ _ _ _ _ _=_;rw [qw,zK (by simp)])
  dsimp only at e16;obtain ⟨x,hx⟩:∃ x,xV c c.length=x:=⟨_,rfl⟩
  have hL:=lay_lo F c.length (Nat.le_refl _);have hL8:=lay_slim F C.slim c.length (Nat.le_refl _);have hiy:=ins_yarns F;have hbP:bindP c=bindL (xV c c.length) (qW (c.getD (c.length - 1) [])):=rfl;have hfl:=partsTo_len c c.length;rw [hx] at e16 hL hL8 hiy hbP;have hxl:=hL.len;have hfx:=from_len x;obtain ⟨o15,ho15⟩:∃ o:T3×Int×Int×Int×Int×Int×Int×T4,o=(x.1,x.2.1,x.2.2.1,x.2.2.2.1,x.2.2.2.2.1,x.2.2.2.2.2.1,x.2.2.2.2.2.2,(qq c c.length).flatten):=⟨_,rfl⟩
  have h151:o15.1=x.1:=by rw [ho15]
  have e23:=xn (fun n (s:Int×List Int)=>qg o15 n s.1 s.2) x.1.length (fun k=>((k:Int),(qA x).take k)) (0,[]) (qA x) rfl (zD (by omega)) (fun n k hk=>by
    have e:qy.zero=((0,0):Int×Int):=rfl;show qg o15 (n+1) k ((qA x).take k)=qg o15 n ((k+1:Nat):Int) ((qA x).take (k+1));rw [qg,h151,e,qm (decide_eq_true (by omega)),zF (by simp only [zh,zf,List.length_take,List.length_singleton,Bool.and_eq_true,decide_eq_true_eq]; omega),zF (by simp [zk]; omega),Int.toNat_natCast,← fromL_get x k hk,take_s (qA x) 0 k (by omega)]
    rfl) (fun n=>by
    show qg o15 (n+1) x.1.length _=_;rw [qg,h151,zK (by simp),← hfx,List.take_length])
  dsimp only at e23;have RL:=F.row (c.length - 1) (by omega);obtain ⟨g1,g2,g3⟩:=yE RL;obtain ⟨u,hu⟩:∃ u,qW (c.getD (c.length - 1) [])=u:=⟨_,rfl⟩
  rw [hu] at g1 g2 g3 hbP;have he:eOk u (qA x)=true:=by
    unfold eOk;rw [from_all hL.nds,decide_eq_true g2,decide_eq_true g3,decide_eq_true (by omega)]
    rfl
  obtain ⟨cy,hcy⟩:=yarnsC_eq (rows:=c) (by omega) F.row;have hiv:=ins_lv x;have hbl:(bindP c).length=(xK x.1).length+((yM u (qA x)).length+((insL x).map outOp).length):=by
    rw [hbP];unfold bindL;rw [List.length_append,List.length_append]
  have hall:(((qq c c.length).flatten++xK x.1)++yM u (qA x))++(insL x).map outOp=(xt c).flatten:=by
    rw [parts_flat,hbP,bindL];simp only [List.append_assoc]
  obtain ⟨q,q1⟩:=flcomp_eq C.comp h31 C.len;have htot:(xt c).flatten.length=yH (xt c) (xt c).length:=by
    have:=flat_lenTo (xt c) (xt c).length (Nat.le_refl _)
    rwa [List.take_length] at this
  have hl4:=C.len;have htx:=text31_eq _ (by omega) (flat_N (parts_N F));have hw:IntKind.wrap .u8 (y - 1)=y - 1:=wrap8 _ (by omega);have ef:(qJ z).map (·.2)=qA (lay0 c):=by unfold qA; rw [e0]
  unfold m_flatsPlan;rw [e,Option.bind_some,zF (by simp [zh]; omega),show (0:Int).toNat=0 from rfl,f1,hy,Option.bind_some,e6,Option.bind_some,zK (by simp only [Bool.cond_true_left,Bool.or_eq_false_iff,decide_eq_false_iff_not]; omega),hw,zF (by simp [zh]; omega)];dsimp only;rw [hy] at hcast;rw [ef,castonO_eq,hcast,Option.bind_some,zK (by rfl),← e0];show Option.bind (qw c zA 0 0 (lay0 c).1 (sd0 y 0) (sd0 y 1) (sd0 y 2) (sd0 y 3) (sd0 y 4) (sd0 y 5) (castP c)) _=_;rw [e16,Option.bind_some,← ho15];dsimp only [sm];have h158:o15.2.2.2.2.2.2.2=(qq c c.length).flatten:=by rw [ho15]
  rw [h151,h158,front_eq x.1 (by omega) hL.nds,Option.bind_some,e23,Option.bind_some,zF (by simp [zh,zk]; omega),show ((c.length:Int) - 1).toNat=c.length - 1 by omega,g1,Option.bind_some,bindoff_eq u (qA x) (by omega),he,if_neg (by simp),Option.bind_some,hcy,Option.bind_some];dsimp only;rw [hiy,leave_eq _ (by omega),hiv.1,if_pos rfl,Option.bind_some];dsimp only;rw [zF (by simp only [zf,List.length_append,Bool.and_eq_true,decide_eq_true_eq]; omega),hall,q1,Option.bind_some];dsimp only;rw [htx,lives31_eq]
  simp
end Go.Proofs.YtihcolehefloeaaGreatDoor

/- FlatsPlan: for every chart of the law, whatever the memory and the order that Go leaves open, the law returns true, and its arguments read as before. The listed package-level variables start as the program's text lays them (the card ties them). -/
namespace Go.Proofs.YtihcolehefloeaaGreatDoor
set_option linter.unusedSimpArgs false
set_option linter.unusedVariables false
open Go.ChangeShapes Go.WideShapes Go.ChangeAt Go.WideElems Go.RowKit
theorem u8rng {x:Int} (h:IntKind.u8.min≤x∧x≤IntKind.u8.max):0≤x∧x≤255:=by
  have e1:IntKind.u8.min=0:=rfl;have e2:IntKind.u8.max=255:=rfl;rw [e1,e2] at h;exact h
theorem globs_flatsPlan {W:World} (h:laidMetH Tryz.prog Rows.flatsPlanRow.laid W):GlobOk cx (fun b=>b < W.heap.size) W:=by
  rw [MakeChecks.laidMetH_plain _ _ _ (by kernel_rfl)] at h;obtain ⟨ps,⟨g0,t0,cs0,f0,p0,q0,hg0,ht0,hv0,hd0,⟨g1,t1,cs1,f1,p1,q1,hg1,ht1,hv1,hd1,⟨g2,t2,cs2,f2,p2,q2,hg2,ht2,hv2,hd2,⟨g3,t3,cs3,f3,p3,q3,hg3,ht3,hv3,hd3,⟨g4,t4,cs4,f4,p4,q4,hg4,ht4,hv4,hd4,_,_⟩,_⟩,_⟩,_⟩,_⟩,_,_⟩:=h;have e3:=glob_id hg3 (by kernel_rfl:_=some 0);subst e3;have u3:=type_id ht3 (by kernel_rfl:_=some 106);subst u3;have c3:=cells_of_strs (zs:=wordsL) (n:=9) Tryz.underlying106 Tryz.underlying9 (by kernel_rfl) (by kernel_rfl) hd3;have e4:=glob_id hg4 (by kernel_rfl:_=some 1);subst e4;have u4:=type_id ht4 (by kernel_rfl:_=some 108);subst u4;have c4:=cells_of_strs (zs:=dirsL) (n:=2) Tryz.underlying108 Tryz.underlying9 (by kernel_rfl) (by kernel_rfl) hd4;have e2:=glob_id hg2 (by kernel_rfl:_=some 2);subst e2;have u2:=type_id ht2 (by kernel_rfl:_=some 175);subst u2;have c2:=Lib.cells_of_tab (zs:=Lib.pow10Tab) (k:=.u64) (n:=20) Tryz.underlying175 Tryz.underlying166 (by kernel_rfl) (by kernel_rfl) hd2;intro i x hx;have hi:i=0∨i=1∨i=2:=by
    match i,hx with
    | 0,_=>exact .inl rfl
    | 1,_=>exact .inr (.inl rfl)
    | 2,_=>exact .inr (.inr rfl)
    | _+3,h=>cases h
  rcases hi with rfl | rfl | rfl
  · cases hx
    exact gr_of hg3 hv3 (by rw [c3]; exact flat_of_strs _)
  · cases hx
    exact gr_of hg4 hv4 (by rw [c4]; exact flat_of_strs _)
  · cases hx
    exact gr_of hg2 hv2 (by rw [c2]; exact flat_of_ints _)
theorem door_met_flatsPlan (os:Os) (args:Array Value):laidMetH Tryz.prog Rows.flatsPlanRow.laid ((World.doorLaid Tryz.prog 400 os).forCall (fun _ _=>0) ⟨#[],args,[]⟩).memory:=
  laidMetH_of_parts3 (fuel:=8) (laidMet_of_run' 8 (by kernel_rfl) (by kernel_rfl)) (by kernel_rfl) (by kernel_rfl)
theorem read_flatsPlan:∀ t∈Tryz.f4.params.toList,Tryz.prog.readableRec t=true∧t < Tryz.prog.types.size:=by
  rw [Tryz.params4];intro t ht;simp only [List.mem_cons,List.not_mem_nil,or_false] at ht
  rcases ht with rfl <;> exact ⟨by kernel_rfl,of_decide_eq_true (by kernel_rfl)⟩
set_option maxRecDepth 100000 in
theorem flatsPlan_lifted (os:Os) (started:os.Started) (H:Type) (enc:TypeId×Value→H) :
    ReturnsInHanded {} Tryz.checked os 4 .any (fun w args=>(Rows.flatsPlanSpec.pre enc Tryz.prog Tryz.f4 [] false w args∧laidMetH Tryz.prog Rows.flatsPlanRow.laid w)∧sizedMet enc Tryz.prog Tryz.f4 (OpenSpec.ofChange Rows.flatsPlanSpec) false w args)
      (Rows.flatsPlanSpec.post enc Tryz.prog Tryz.f4 false true false false):=by
  refine returnsInHanded_of_change_and (C:=Tryz.checked) (X:=fun w _=>laidMetH Tryz.prog Rows.flatsPlanRow.laid w) (fun _ _ _ hh h=>h.of_heap hh) Tryz.own started (by kernel_rfl) Tryz.func4
    (ChangeSpec.witness_shaped (enc:=enc) (C:=Tryz.checked) (os:=os) (X:=fun w _=>laidMetH Tryz.prog Rows.flatsPlanRow.laid w) false (World.doorLaid Tryz.prog 400 os) #[.agg #[.int .u8 0,.slice none 0 0]] 8 rfl (World.shaped_of_RefB (by kernel_rfl) (by kernel_rfl)) (by kernel_rfl) (by kernel_rfl) (by kernel_rfl) (door_met_flatsPlan os _)) ?_
  intro W base args ds gs before hval0 hW _ _ hL _;have hval:∀ (j:Nat) t v,Tryz.f4.params[j]?=some t→args[j]?=some v→Value.okWide Tryz.prog W .any base t v:=hval0;have hW':=hW;obtain ⟨p,q,hA0,hV,rfl,hfz,hnd⟩:=hW;have hA:DataW.TrodAll enc Tryz.prog W 0 (fun _=>true) true Tryz.f4.params.toList args.toList ds p:=hA0;rw [Tryz.params4] at hA hval;obtain ⟨v0,d0,rfl,rfl,h0⟩:=trodAll_one hA;obtain ⟨rfl,rfl⟩:=trodVars_none hV;obtain ⟨x0,hx0,hv0⟩:=open_agg (g:=G5) zu rfl rfl (by kernel_rfl) (hval 0 24 v0 rfl rfl) h0;have hlaw:=AC.law (W:=W) (w_flatsPlan x0 none true (flatsPlan_eq x0.1 x0.2 (u8rng hx0.1) (fun c hc x hx=>u8rng (hx0.2 c hc x hx)))) (globs_flatsPlan hL) (vs:=[v0]) ⟨v0,_,rfl,hv0 _ _ rfl,rfl⟩;refine Calls.mono hlaw fun e W' ⟨v,he,hv,hw⟩=>?_
  subst hv;exact ⟨_,he,post_law hW' rfl rfl (by kernel_rfl) Tryz.underlying4 Tryz.laidOut read_flatsPlan hw⟩
theorem flatsPlan_row:Rows.FlatsPlanSaid:=
  OpenClaim.holds_of_wide 4 Tryz.f4 rfl rfl rfl rfl rfl rfl rfl ⟨rfl,rfl,rfl,rfl,rfl⟩ rfl rfl rfl rfl rfl (by kernel_rfl) Tryz.func4 (by kernel_rfl)
    (of_decide_eq_true (by kernel_rfl)) (by unfold Func.isWrapper; first | (rw [if_pos (by decide +kernel)]; kernel_rfl) | (rw [if_neg (by decide +kernel)]; exact ⟨rfl,rfl⟩))
    (fun os started H enc _=>flatsPlan_lifted os started H enc)
theorem flatsPlan_holds:Rows.FlatsPlanCardSaid:=
  Claim7.holds_tied_plain_at .later [] [.data,.data,.data,.data,.data] true Rows.flatsPlanCard.stood.harness false
    flatsPlan_row (fun _ h=>by cases h) (by kernel_rfl) (fun _ h=>by cases h) flatsPlan_row_tie rfl ⟨rfl,rfl⟩ (by kernel_rfl) rfl
    (fun f fn hf hfn=>by
      obtain rfl:f=4:=Option.some.inj (hf.symm.trans (by kernel_rfl));obtain rfl:fn=Tryz.f4:=(Option.some.inj (Tryz.func4.symm.trans hfn)).symm;exact ⟨by kernel_rfl,fun j t ht=>by
        rw [Tryz.params4] at ht;have hm:t∈[24]:=by simpa using Array.mem_of_getElem? ht
        have hall:([24].all fun u=>!Tryz.prog.wantsStandIn u)=true:=by kernel_rfl
        exact (show Tryz.prog.wantsStandIn t=false by simpa using List.all_eq_true.1 hall t hm)⟩)
    (by kernel_rfl)
end Go.Proofs.YtihcolehefloeaaGreatDoor
