/- FlatsRows: for every chart of the law, the law returns true, and its arguments read as before; the listed package-level variables start as the program's text lays them. -/
import Derived.Test.YtihcolehefloeaaGreatDoorFr5
set_option linter.unusedSimpArgs false
set_option linter.unusedVariables false
set_option maxRecDepth 20000
set_option maxHeartbeats 4000000
/- Flats, plain: the charts of layer 13 are charts. -/
namespace Go.Proofs.YtihcolehefloeaaGreatDoor
open Go.RowKit
theorem stloads_eq {s:zT} (h:xN s=true) {a:List Int} (ha:(a.length:Int)=need s) (hd:Lds a) (hg:ldGood s a):m_stloads s a=some (ldOf s a,(make s).toNat,0):=by
  have f:=qu h;have hn:=yG s;have hm:=qR s;have hmp:=make_pos h;have h4:=yQ (fun n i (q:Unit)=>qd a n i) a.length (fun _=>()) (.inl ()) (zE (by omega)) (fun n k hk=>by
    show qd a (n+1) k=qd a n (k+1)
    have:=lds_get hd k hk
    rw [qd,qh (decide_eq_true (by omega)),zF (by simp [zh]; omega),Int.toNat_natCast,zL (by simp only [Bool.cond_true_left,Bool.or_eq_false_iff,decide_eq_false_iff_not]; omega),zF (by simp [zk]; omega)]) (fun n=>by
    show qd a (n+1) a.length=some (.inl ());rw [qd,zL (by simp)])
  obtain ⟨w,hw⟩:∃ w:Nat,make s=(w:Int):=⟨(make s).toNat,by omega⟩
  have h9:=xl (fun n (q:Int×List Int)=>qm (w:Int) n q.1 q.2) w (fun k=>((k:Int),fl w (fun i=>if i < k then 1 else 0))) (0,List.replicate w 0) (List.replicate w 1)
    (by
      congr 1
      refine List.ext_getElem? fun k=>?_
      by_cases h:k < w <;> simp [fl,List.getElem?_replicate,h]) (zE (by omega)) (fun n k hk=>by
    show qm (w:Int) (n+1) k (fl w _)=qm (w:Int) n ((k+1:Nat):Int) (fl w (fun i=>if i < k+1 then 1 else 0));rw [qm,Int.toNat_natCast,Int.toNat_natCast,List.length_replicate,qh (decide_eq_true (by omega)),zF (by simp [zh,xH]; omega),zF (by simp [zk]; omega)];rw [fl_set (g:=fun i=>if i < k+1 then 1 else 0) hk (by simp) (fun i hi=>by
      by_cases h1:i < k
      · simp only [if_pos h1,if_pos (show i < k+1 by omega)]
      · simp only [if_neg h1,if_neg (show ¬ i < k+1 by omega)])]
    rfl) (fun n=>by
    show qm (w:Int) (n+1) w _=_;rw [qm,Int.toNat_natCast,List.length_replicate,zL (by simp)]
    congr 1
    refine List.ext_getElem? fun i=>?_
    by_cases h:i < w <;> simp [fl,List.getElem?_replicate,h])
  dsimp only at h9;unfold m_stloads;rw [yI,h,if_pos rfl,Option.bind_some,zL (by rfl),stneeds_eq,Option.bind_some,zL (by simp [ha]),h4,Option.bind_some];dsimp only [sm];rw [stmakes_eq,hw,Option.bind_some,zF (by simp only [Bool.and_eq_true,decide_eq_true_eq]; omega),Int.toNat_natCast,h9,Option.bind_some];have h12:(cond (decide (s.1=(4:Int))) (some (decide (s.1=(4:Int)))) (some (decide (s.1=(5:Int)))))=some (decide (s.1=4∨s.1=5)):=by
    by_cases h4:s.1=4
    · simp [h4]
    · simp [h4]
  rw [h12,Option.bind_some,show (0:Int).toNat=0 from rfl,show (1:Int).toNat=1 from rfl];unfold ldOf;have hmk1:s.1≠8→w=1:=fun h8=>by
    have:make s=1:=by unfold make; rw [if_pos h,if_neg h8]
    omega
  by_cases h45:s.1=4∨s.1=5
  · have hn2:need s=2:=by unfold need; rw [if_pos h,if_neg (by omega),if_pos h45]
    have g0:=lds_get hd 0 (by omega);have g1:=lds_get hd 1 (by omega);have g2:=hg.1 h45;rw [qh (decide_eq_true h45),zF (by simp [zh,zk, -List.getD_eq_getElem?_getD]; omega),zL (decide_eq_false (by omega)),if_pos h45,hmk1 (by omega)]
    rfl
  · rw [zL (decide_eq_false h45),if_neg h45]
    by_cases h6:s.1=6
    · have hn1:need s=1:=by unfold need; rw [if_pos h,if_neg (by omega),if_neg h45,if_neg (by omega)]
      have g0:=lds_get hd 0 (by omega);have g2:=hg.2 h6;rw [qh (decide_eq_true h6),zF (by simp [zh]; omega),zL (decide_eq_false (by omega)),if_pos h6,hmk1 (by omega),zF (by simp [zh,zk, -List.getD_eq_getElem?_getD]; omega)]
      rfl
    · rw [zL (decide_eq_false h6),if_neg h6]
      by_cases h7:s.1=7
      · have hn1:need s=1:=by unfold need; rw [if_pos h,if_neg (by omega),if_neg h45,if_neg (by omega)]
        rw [qh (decide_eq_true h7),if_pos h7,hmk1 (by omega),zF (by simp [zh]; omega)]
        rfl
      · rw [zL (decide_eq_false h7),if_neg h7,hw,Int.toNat_natCast]
def capE (out:List zT) (cp:Option Nat):Option Nat:=if out.length=0 then cp else none
theorem ldOf_len {s:zT} (h:xN s=true) {a:List Int} (ha:(a.length:Int)=need s) (hd:Lds a) (hg:ldGood s a):((ldOf s a).length:Int)=make s:=(rfloads_ok h ha hd hg.1 hg.2).2.1
theorem ch_loop {c:List (List zT)} {i:Nat} {V:List T1} {cap cp:Option Nat} {loads:List Int} (hd:Lds loads) (hl:loads.length≤100) {r:List zT} (hr:c.getD i []=r) (hrl:r.length≤100):∀ {q:Nat} {out:List zT} {next:List Int},Ch loads q out next→∀ rest,out++rest=r→q≤loads.length∧next.length≤4 * out.length∧∀ n,zU c i V cap (n+out.length) loads 0 [] cp=zU c i V cap n (loads.drop q) (out.length:Int) next (capE out cp)
  | _,_,_,.nil,rest,_=>⟨Nat.zero_le _,by simp,fun n=>rfl⟩
  | _,_,_,.snoc (i:=q) (nd:=nd) (out:=out) (next:=next) (s:=s) h hs hn hi hg,rest,hrest=>by
    obtain ⟨h1,h2,h3⟩:=ch_loop hd hl hr hrl h (s :: rest) (by rw [← hrest,List.append_assoc]; rfl);have hk:out.length < r.length:=by rw [← hrest]; simp
    have hget:r.getD out.length zS=s:=by
      rw [← hrest,List.append_assoc,List.getD_eq_getElem?_getD,List.getElem?_append_right (Nat.le_refl _),Nat.sub_self]
      rfl
    have ez:((0,(0,(0,(0,false)))):zT)=zS:=rfl;have hseg:(loads.take (q+nd)).drop q=(loads.drop q).take nd:=by
      rw [List.drop_take,Nat.add_sub_cancel_left]
    have hlen:(((loads.drop q).take nd).length:Int)=need s:=by
      rw [List.length_take,List.length_drop,hn];omega
    have hd2:Lds ((loads.drop q).take nd):=fun x hx=>hd x (List.mem_of_mem_drop (List.mem_of_mem_take hx))
    rw [hseg] at hg ⊢;have hst:=stloads_eq hs hlen hd2 hg;have hol:=ldOf_len hs hlen hd2 hg;have hm:=qR s;refine ⟨hi,by rw [List.length_append,List.length_append,List.length_singleton]; omega,fun n=>?_⟩;rw [List.length_append,List.length_singleton,show n+(out.length+1)=(n+1)+out.length by omega,h3];rw [zU,Int.toNat_natCast,Int.toNat_natCast,hr,qh (decide_eq_true (by omega)),zF (by simp [zh]; omega),ez,hget,stneeds_eq,Option.bind_some,hn,zF (by rw [List.length_drop]; simp only [Bool.and_eq_true,decide_eq_true_eq]; omega),Int.toNat_natCast,hst,Option.bind_some,zL (by rfl),zF (by rw [List.length_drop]; simp only [Bool.and_eq_true,decide_eq_true_eq]; omega)];dsimp only;rw [zF (by simp only [ze,Bool.and_eq_true,decide_eq_true_eq]; omega),zF (by simp [zk]; omega),List.drop_drop];have ec:capE (out++[s]) cp=none:=by unfold capE; rw [if_neg (by simp)]
    rw [ec]
    rfl
theorem ch_sum {loads:List Int}:∀ {q:Nat} {out:List zT} {next:List Int},Lds loads→Ch loads q out next→sumF need out=q∧sumF make out=next.length
  | _,_,_,_,.nil=>⟨rfl,rfl⟩
  | _,_,_,hd,.snoc (i:=q) (nd:=nd) (s:=s) h hs hn hi hg=>by
    obtain ⟨h1,h2⟩:=ch_sum hd h;have hlen:((((loads.take (q+nd)).drop q).length:Nat):Int)=need s:=by
      rw [List.length_drop,List.length_take,hn];omega
    have hol:=ldOf_len hs hlen (fun x hx=>hd x (List.mem_of_mem_take (List.mem_of_mem_drop hx))) hg;rw [sumF_snoc,sumF_snoc,h1,h2,hn,List.length_append,hol.symm];omega
theorem rws_seq {a:List Int}:∀ {rows:List (List zT)} {b:List Int},Rws a rows b→∃ B:Nat→List Int,B 0=a∧B rows.length=b∧∀ k,k < rows.length→Lds (B k)∧Ch (B k) (B k).length (rows.getD k []) (B (k+1))
  | _,_,.nil=>⟨fun _=>a,rfl,rfl,fun k hk=>absurd hk (Nat.not_lt_zero _)⟩
  | _,_,.snoc (rows:=rows) (r:=r) (b:=b) (c:=c) h hb hc=>by
    obtain ⟨B,h1,h2,h3⟩:=rws_seq h;refine ⟨fun k=>if k≤rows.length then B k else c,by dsimp only; rw [if_pos (Nat.zero_le _)]; exact h1,?_,fun k hk=>?_⟩
    · dsimp only
      rw [List.length_append,List.length_singleton,if_neg (by omega)]
    · rw [List.length_append,List.length_singleton] at hk
      dsimp only
      by_cases e:k=rows.length
      · subst e
        rw [if_pos (Nat.le_refl _),if_neg (by omega),h2,List.getD_eq_getElem?_getD,List.getElem?_append_right (Nat.le_refl _),Nat.sub_self];exact ⟨hb,hc⟩
      · rw [if_pos (by omega),if_pos (by omega),List.getD_eq_getElem?_getD,List.getElem?_append_left (by omega),← List.getD_eq_getElem?_getD]
        exact h3 k (by omega)
theorem rws_check {rows:List (List zT)} {q:Nat} {b:List Int} (hq:q < 8) (h:Rws (List.replicate (q+1) 1) rows b) (ho:rows.length % 2=1) (h9:rows.length≤9) (hR:∀ r∈rows,Row r∧zC need r r.length≤8∧zC make r r.length≤8):Fit rows∧Slim rows∧yp rows=some 0:=by
  obtain ⟨B,hB0,hBn,hB⟩:=rws_seq h;have hmem:∀ k,k < rows.length→rows.getD k []∈rows:=fun k hk=>by
    rw [List.getD_eq_getElem?_getD,List.getElem?_eq_getElem hk];exact List.getElem_mem hk
  have hs:∀ k,k < rows.length→zC need (rows.getD k []) (rows.getD k []).length=(B k).length∧zC make (rows.getD k []) (rows.getD k []).length=(B (k+1)).length:=fun k hk=>by
    obtain ⟨h1,h2⟩:=hB k hk;rw [sumF_to,sumF_to];exact ch_sum h1 h2
  have F:Fit rows:=⟨ho,by omega,fun i hi=>(hR _ (hmem i hi)).1,fun i hi=>by rw [(hs (i+1) hi).1,(hs i (by omega)).2]⟩
  refine ⟨F,⟨h9,fun i hi=>(hR _ (hmem i hi)).2.1,fun i hi=>(hR _ (hmem i hi)).2.2⟩,?_⟩
  -- the rows fit
  have hchr:m_chrows rows=some 0:=by
    unfold m_chrows;have hmod:Int.tmod (rows.length:Int) 2=((rows.length % 2:Nat):Int):=rfl;rw [zL (decide_eq_false (by omega)),hmod,zL (decide_eq_false (by omega))];have e2:=yQ (fun n i (u:Unit)=>qC rows n i) rows.length (fun _=>()) (.inl ()) (zE (by omega)) (fun n k hk=>by
      show qC rows (n+1) k=qC rows n (k+1);rw [qC,qh (decide_eq_true (by omega)),zF (by simp [zh]; omega),Int.toNat_natCast,chrow_eq,row_zero (F.row k hk),Option.bind_some,zL (by rfl),zF (by simp [zk]; omega)]) (fun n=>by
      show qC rows (n+1) rows.length=_;rw [qC,zL (by simp)])
    have e7:=xl (fun n (i:Int)=>qi rows n i) (rows.length - 1) (fun k=>((k+1:Nat):Int)) 1 (.inl ()) rfl (zE (by omega)) (fun n k hk=>by
      show qi rows (n+1) ((k+1:Nat):Int)=qi rows n ((k+1+1:Nat):Int);have r1:=(F.row (k+1) (by omega)).len;have r2:=(F.row k (by omega)).len;rw [qi,qh (decide_eq_true (by omega)),zF (by simp [zh]; omega),Int.toNat_natCast,yL _ (by omega),Option.bind_some,zF (by simp [zh,zk]; omega),show (((k+1:Nat):Int) - 1).toNat=k by omega,chmakes_eq _ (by omega),Option.bind_some,zL (by rw [F.fit k (by omega),decide_eq_true rfl]; rfl),zF (by simp [zk]; omega)]
      rfl) (fun n=>by
      show qi rows (n+1) ((rows.length - 1+1:Nat):Int)=_;rw [qi,zL (decide_eq_false (by omega))])
    rw [e2,Option.bind_some];dsimp only [sm];rw [e7,Option.bind_some]
  have h0:=hs 0 (by omega);have hb0:(B 0).length=q+1:=by rw [hB0]; simp
  have hl0:=(F.row 0 (by omega)).len;have h4:=xl (fun n (s:Int×List Int)=>qp ((q+1:Nat):Int) n s.1 s.2) (q+1) (fun k=>((k:Int),fl (q+1) (fun i=>if i < k then 1 else 0))) (0,List.replicate (q+1) 0) (List.replicate (q+1) 1)
    (by
      congr 1
      refine List.ext_getElem? fun k=>?_
      by_cases h:k < q+1 <;> simp [fl,List.getElem?_replicate,h]) (zE (by omega)) (fun n k hk=>by
    show qp ((q+1:Nat):Int) (n+1) k (fl (q+1) _)=qp ((q+1:Nat):Int) n ((k+1:Nat):Int) (fl (q+1) (fun i=>if i < k+1 then 1 else 0));rw [qp,Int.toNat_natCast,Int.toNat_natCast,List.length_replicate,qh (decide_eq_true (by omega)),zF (by simp [zh,xH]; omega),zF (by simp [zk]; omega)];rw [fl_set (g:=fun i=>if i < k+1 then 1 else 0) hk (by simp) (fun i hi=>by
      by_cases h1:i < k
      · simp only [if_pos h1,if_pos (show i < k+1 by omega)]
      · simp only [if_neg h1,if_neg (show ¬ i < k+1 by omega)])]
    rfl) (fun n=>by
    show qp ((q+1:Nat):Int) (n+1) ((q+1:Nat):Int) _=_;rw [qp,Int.toNat_natCast,List.length_replicate,zL (by simp)]
    congr 1
    refine List.ext_getElem? fun i=>?_
    by_cases h:i < q+1 <;> simp [fl,List.getElem?_replicate,h])
  dsimp only at h4;obtain ⟨o7,h7,h7'⟩:=loopX (fun n (s:Int×List T1×Option Nat)=>qF rows n s.1 s.2.1 s.2.2) rows.length
    (fun k s=>s.1=k∧s.2.1.length=k+1∧s.2.1.getD k []=B k)
    (fun o=>o.1=0) (0,[List.replicate (q+1) 1],some ((1:Int)+(rows.length:Int)).toNat) ⟨rfl,rfl,hB0.symm⟩ (zE (by omega)) (fun n k s hk ⟨e,hlen,hb⟩=>by
    obtain ⟨s1,s2,s3⟩:=s;dsimp only at e hlen hb ⊢;subst e;obtain ⟨g1,g2⟩:=hB k hk;obtain ⟨g3,g4⟩:=hs k hk;have Rk:=F.row k hk;have hmk:=Rk.makes;have hnk:=Rk.needs;have hlk:=Rk.len;obtain ⟨m1,m2,m3⟩:=ch_loop (c:=rows) (i:=k) (V:=s2) (cap:=s3) (cp:=some (B (k+1)).length) g1 (by omega) rfl (by omega) g2 [] (by simp);obtain ⟨f,hf⟩:∃ f,zB=(f+1)+(rows.getD k []).length:=⟨zB - 1 - (rows.getD k []).length,by have:1000000 < zB:=zE (Nat.le_refl _); omega⟩
    have h11:zU rows k s2 s3 zB (B k) 0 [] (some (B (k+1)).length)=some (.inl (B (k+1),capE (rows.getD k []) (some (B (k+1)).length))):=by
      rw [hf,m3,zU,Int.toNat_natCast,zL (by simp)]
    refine .inr ⟨(((k+1:Nat):Int),s2++[B (k+1)],none),⟨rfl,by simp [hlen],?_⟩,?_⟩
    · dsimp only
      rw [List.getD_eq_getElem?_getD,List.getElem?_append_right (by omega),show k+1 - s2.length=0 by omega]
      rfl
    · rw [qF,qh (decide_eq_true (by omega)),zF (by simp [zh]; omega),zF (by simp [zh]; omega),Int.toNat_natCast,chmakes_eq _ (by omega),g4,Option.bind_some,zF (by simp only [Bool.and_eq_true,decide_eq_true_eq]; omega),Int.toNat_natCast,hb,h11,Option.bind_some]
      dsimp only [sm];rw [zF (by simp only [ze,List.length_singleton,Bool.and_eq_true,decide_eq_true_eq]; omega),zF (by simp [zk]; omega)]
      rfl) (fun n s ⟨e,_,_⟩=>by
    obtain ⟨s1,s2,s3⟩:=s;dsimp only at e ⊢;subst e;exact ⟨_,by rw [qF,zL (by simp)],rfl⟩)
  obtain ⟨o71,o72,o73⟩:=o7;dsimp only at h7 h7';subst h7';unfold yp m_chloads;rw [hchr,Option.bind_some,zL (by rfl),zF (by simp [zh]; omega),show (0:Int).toNat=0 from rfl,show (1:Int).toNat=1 from rfl,yL _ (by omega),h0.1,hb0,Option.bind_some,zF (by simp only [Bool.and_eq_true,decide_eq_true_eq]; omega),Int.toNat_natCast,h4,Option.bind_some,zF (by simp [zk]; omega),zF (by simp [zh])];have e9:(List.replicate 1 ([]:List Int)).set 0 (List.replicate (q+1) 1)=[List.replicate (q+1) 1]:=rfl;rw [e9,h7]
  rfl
end Go.Proofs.YtihcolehefloeaaGreatDoor

/- FlatsErrors: models. -/
namespace Go.Proofs.YtihcolehefloeaaGreatDoor
set_option linter.unusedSimpArgs false
set_option linter.unusedVariables false
open Go.RowKit
def s_lives31_1:List UInt8:=(List.append (List.append (List.append [105,110,32,49,32,108,101,102,116,59,32,107,110,105,116,32,114,105,103,104,116,32,102,49,51,32,49,59,32,107,110,105,116,32,114,105,103,104,116,32,102,49,52,32,49,59,32,109,105,115] [115,32,114,105,103,104,116,32,102,52,48,32,49,59,32,107,110,105,116,32,108,101,102,116,32,102,49,52,32,49,59,32,107,110,105,116,32,108,101,102,116,32,102,49,51,32,49,59,32,109,105]) [115,115,32,108,101,102,116,32,98,49,32,49,59,32,107,110,105,116,32,114,105,103,104,116,32,102,49,51,32,49,59,32,120,102,101,114,32,102,49,51,59,32,114,97,99,107,32,49,59,32]) [120,102,101,114,32,98,49,51,59,32,114,97,99,107,32,48,59,32,107,110,105,116,32,114,105,103,104,116,32,102,49,52,32,49,59,32,100,114,111,112,32,102,49,52,59,32,111,117,116,32,49])
theorem ko_lives31_51:KeyOk Tryz.prog 51 qc:=KeyOk.of zu rfl rfl rfl (by kernel_rfl) (by kernel_rfl)
def m_lives31 :Option (Bool):=
    Option.bind (m_plain31 (2:Int)) fun r1=>
    Option.bind (m_flcomp r1) fun r2=>
    Option.bind (m_flrows r1) fun r3=>
    Option.bind (m_fluntil r1 (1:Int)) fun r4=>
    gd ((!(!(cond (cond (cond (!(decide (r2.2.2=(0:Int)))) true (!(decide (r3.2.2=(0:Int))))) true (!(decide (r4.2.2.2.2=(0:Int))))) true (!(decide ((r3.1.length:Int)=(2:Int)))))) || (zh (0:Int) r3.1.length))&&(!(!(cond (cond (cond (cond (!(decide (r2.2.2=(0:Int)))) true (!(decide (r3.2.2=(0:Int))))) true (!(decide (r4.2.2.2.2=(0:Int))))) true (!(decide ((r3.1.length:Int)=(2:Int))))) true (!(decide ((r3.1.getD (0:Int).toNat 0)=(4:Int)))))) || (zh (1:Int) r3.1.length))&&(!(!(cond (cond (cond (cond (cond (cond (cond (!(decide (r2.2.2=(0:Int)))) true (!(decide (r3.2.2=(0:Int))))) true (!(decide (r4.2.2.2.2=(0:Int))))) true (!(decide ((r3.1.length:Int)=(2:Int))))) true (!(decide ((r3.1.getD (0:Int).toNat 0)=(4:Int))))) true (!(decide ((r3.1.getD (1:Int).toNat 0)=(7:Int))))) true (!(decide ((r4.1.length:Int)=(7:Int))))) true (!(decide ((r4.2.2.1.length:Int)=(2:Int)))))) || (zh (0:Int) r4.2.2.1.length))&&(!(!(cond (cond (cond (cond (cond (cond (cond (cond (!(decide (r2.2.2=(0:Int)))) true (!(decide (r3.2.2=(0:Int))))) true (!(decide (r4.2.2.2.2=(0:Int))))) true (!(decide ((r3.1.length:Int)=(2:Int))))) true (!(decide ((r3.1.getD (0:Int).toNat 0)=(4:Int))))) true (!(decide ((r3.1.getD (1:Int).toNat 0)=(7:Int))))) true (!(decide ((r4.1.length:Int)=(7:Int))))) true (!(decide ((r4.2.2.1.length:Int)=(2:Int))))) true (!(GTy.beq qc (r4.2.2.1.getD (0:Int).toNat qc.zero) ((0:Int),(13:Int)))))) || (zh (1:Int) r4.2.2.1.length))) <|
    cond (cond (cond (cond (cond (cond (cond (cond (cond (cond (!(decide (r2.2.2=(0:Int)))) true (!(decide (r3.2.2=(0:Int))))) true (!(decide (r4.2.2.2.2=(0:Int))))) true (!(decide ((r3.1.length:Int)=(2:Int))))) true (!(decide ((r3.1.getD (0:Int).toNat 0)=(4:Int))))) true (!(decide ((r3.1.getD (1:Int).toNat 0)=(7:Int))))) true (!(decide ((r4.1.length:Int)=(7:Int))))) true (!(decide ((r4.2.2.1.length:Int)=(2:Int))))) true (!(GTy.beq qc (r4.2.2.1.getD (0:Int).toNat qc.zero) ((0:Int),(13:Int))))) true (!(GTy.beq qc (r4.2.2.1.getD (1:Int).toNat qc.zero) ((0:Int),(14:Int))))) (some false) (Option.bind (m_text31 r2.1) fun r5=>
    some (r5 == s_lives31_1))
theorem w_lives31  (r:(Bool)) (h:m_lives31 =some r):AC cx 10 [] [] (fun sv h=>sv=.a (.c (.val (.bool r)))∧h=[]):=by
  unfold m_lives31 at h;refine zp zu Tryz.func10 rfl Tryz.ntmps10 rfl rfl (res:=[.tmp 0]) rfl<|zv<|zq<|zj zu rfl rfl<|zv ?_
  obtain ⟨r1,hr1,h⟩:=bd h;refine zq<|zg (w_plain31 _  r1 hr1) rfl ⟨rfl,rfl⟩ rfl Tryz.func23 rfl rfl rfl rfl rfl rfl<|zj zu rfl rfl<|zb (Wk.frzC 1 G6 rfl rfl rfl)<|zv ?_
  obtain ⟨r2,hr2,h⟩:=bd h;refine zq<|zf zu rfl rfl<|zg (w_flcomp _ none r2 hr2) rfl ⟨rfl,rfl⟩ rfl Tryz.func6 rfl rfl rfl rfl rfl rfl<|zj zu rfl rfl<|zv ?_
  obtain ⟨r3,hr3,h⟩:=bd h;refine zq<|zf zu rfl rfl<|zg (w_flrows _ none r3 hr3) rfl ⟨rfl,rfl⟩ rfl Tryz.func7 rfl rfl rfl rfl rfl rfl<|zj zu rfl rfl<|zv ?_
  obtain ⟨r4,hr4,h⟩:=bd h;refine zq<|zf zu rfl rfl<|zg (w_fluntil _ _ none r4 hr4) rfl ⟨rfl,rfl⟩ rfl Tryz.func8 rfl rfl rfl rfl rfl rfl<|zj zu rfl rfl<|zv<|zv ?_
  obtain ⟨hG6,h⟩:=zw h;simp only [Bool.and_eq_true] at hG6;obtain ⟨⟨⟨hG6_0,hG6_1⟩,hG6_2⟩,hG6_3⟩:=hG6;refine zq<|ql 42 zu rfl (by first | (revert hG6_0 hG6_1 hG6_2 hG6_3; generalize (GTy.beq qc (r4.2.2.1.getD (0:Int).toNat qc.zero) ((0:Int),(13:Int)))=b0; generalize (decide ((r3.1.getD (0:Int).toNat 0)=(4:Int)))=b1; generalize (decide ((r3.1.getD (1:Int).toNat 0)=(7:Int)))=b2; generalize (decide ((r4.2.2.1.length:Int)=(2:Int)))=b3; generalize (decide ((r3.1.length:Int)=(2:Int)))=b4; generalize (decide ((r4.1.length:Int)=(7:Int)))=b5; generalize (decide (r4.2.2.2.2=(0:Int)))=b6; generalize (zh (0:Int) r4.2.2.1.length)=b7; generalize (zh (1:Int) r4.2.2.1.length)=b8; generalize (decide (r2.2.2=(0:Int)))=b9; generalize (decide (r3.2.2=(0:Int)))=b10; generalize (zh (0:Int) r3.1.length)=b11; generalize (zh (1:Int) r3.1.length)=b12; refine of4 ?_; revert b0 b1 b2 b3 b4 b5 b6 b7 b8 b9 b10 b11 b12; exact bl13 (by kernel_rfl)) | (simp only [hG6_0,hG6_1,hG6_2,hG6_3,oc]; done) | (simp_all; done) | (simp only [hG6_0,hG6_1,hG6_2,hG6_3,oc]; rfl)) ?_
  refine al_guard (.c (.val (.bool (!(GTy.beq qc (r4.2.2.1.getD (0:Int).toNat qc.zero) ((0:Int),(13:Int))))))) rfl rfl rfl rfl rfl (fun hq7=>?_) (fun hq7=>?_)
  ·try simp only [ob2,cond_true,cond_false] at hq7
   all_goals
    refine al_neqA ko_lives31_51 rfl ⟨rfl,rfl⟩ rfl rfl (by first | (simp only [hG6_0,hG6_1,hG6_2,hG6_3,hq7,oc]; done) | ((first | replace hq7:=bf hq7 | skip); revert hG6_0 hG6_1 hG6_2 hG6_3 hq7; generalize (GTy.beq qc (r4.2.2.1.getD (0:Int).toNat qc.zero) ((0:Int),(13:Int)))=b0; generalize (decide ((r3.1.getD (0:Int).toNat 0)=(4:Int)))=b1; generalize (decide ((r3.1.getD (1:Int).toNat 0)=(7:Int)))=b2; generalize (decide ((r4.2.2.1.length:Int)=(2:Int)))=b3; generalize (decide ((r3.1.length:Int)=(2:Int)))=b4; generalize (decide ((r4.1.length:Int)=(7:Int)))=b5; generalize (decide (r4.2.2.2.2=(0:Int)))=b6; generalize (zh (0:Int) r4.2.2.1.length)=b7; generalize (zh (1:Int) r4.2.2.1.length)=b8; generalize (decide (r2.2.2=(0:Int)))=b9; generalize (decide (r3.2.2=(0:Int)))=b10; generalize (zh (0:Int) r3.1.length)=b11; generalize (zh (1:Int) r3.1.length)=b12; refine of5 ?_; revert b0 b1 b2 b3 b4 b5 b6 b7 b8 b9 b10 b11 b12; exact bl13 (by kernel_rfl)) | (simp_all; done) | (simp only [hG6_0,hG6_1,hG6_2,hG6_3,hq7,oc]; rfl)) rfl (by first | (simp only [hG6_0,hG6_1,hG6_2,hG6_3,hq7,oc]; done) | ((first | replace hq7:=bf hq7 | skip); revert hG6_0 hG6_1 hG6_2 hG6_3 hq7; generalize (GTy.beq qc (r4.2.2.1.getD (0:Int).toNat qc.zero) ((0:Int),(13:Int)))=b0; generalize (decide ((r3.1.getD (0:Int).toNat 0)=(4:Int)))=b1; generalize (decide ((r3.1.getD (1:Int).toNat 0)=(7:Int)))=b2; generalize (decide ((r4.2.2.1.length:Int)=(2:Int)))=b3; generalize (decide ((r3.1.length:Int)=(2:Int)))=b4; generalize (decide ((r4.1.length:Int)=(7:Int)))=b5; generalize (decide (r4.2.2.2.2=(0:Int)))=b6; generalize (zh (0:Int) r4.2.2.1.length)=b7; generalize (zh (1:Int) r4.2.2.1.length)=b8; generalize (decide (r2.2.2=(0:Int)))=b9; generalize (decide (r3.2.2=(0:Int)))=b10; generalize (zh (0:Int) r3.1.length)=b11; generalize (zh (1:Int) r3.1.length)=b12; refine of5 ?_; revert b0 b1 b2 b3 b4 b5 b6 b7 b8 b9 b10 b11 b12; exact bl13 (by kernel_rfl)) | (simp_all; done) | (simp only [hG6_0,hG6_1,hG6_2,hG6_3,hq7,oc]; rfl)) rfl (by first | (simp only [hG6_0,hG6_1,hG6_2,hG6_3,hq7,oc]; done) | ((first | replace hq7:=bf hq7 | skip); revert hG6_0 hG6_1 hG6_2 hG6_3 hq7; generalize (GTy.beq qc (r4.2.2.1.getD (0:Int).toNat qc.zero) ((0:Int),(13:Int)))=b0; generalize (decide ((r3.1.getD (0:Int).toNat 0)=(4:Int)))=b1; generalize (decide ((r3.1.getD (1:Int).toNat 0)=(7:Int)))=b2; generalize (decide ((r4.2.2.1.length:Int)=(2:Int)))=b3; generalize (decide ((r3.1.length:Int)=(2:Int)))=b4; generalize (decide ((r4.1.length:Int)=(7:Int)))=b5; generalize (decide (r4.2.2.2.2=(0:Int)))=b6; generalize (zh (0:Int) r4.2.2.1.length)=b7; generalize (zh (1:Int) r4.2.2.1.length)=b8; generalize (decide (r2.2.2=(0:Int)))=b9; generalize (decide (r3.2.2=(0:Int)))=b10; generalize (zh (0:Int) r3.1.length)=b11; generalize (zh (1:Int) r3.1.length)=b12; refine of5 ?_; revert b0 b1 b2 b3 b4 b5 b6 b7 b8 b9 b10 b11 b12; exact bl13 (by kernel_rfl)) | (simp_all; done) | (simp only [hG6_0,hG6_1,hG6_2,hG6_3,hq7,oc]; rfl)) rfl (by first | (simp only [hG6_0,hG6_1,hG6_2,hG6_3,hq7,oc]; done) | ((first | replace hq7:=bf hq7 | skip); revert hG6_0 hG6_1 hG6_2 hG6_3 hq7; generalize (GTy.beq qc (r4.2.2.1.getD (0:Int).toNat qc.zero) ((0:Int),(13:Int)))=b0; generalize (decide ((r3.1.getD (0:Int).toNat 0)=(4:Int)))=b1; generalize (decide ((r3.1.getD (1:Int).toNat 0)=(7:Int)))=b2; generalize (decide ((r4.2.2.1.length:Int)=(2:Int)))=b3; generalize (decide ((r3.1.length:Int)=(2:Int)))=b4; generalize (decide ((r4.1.length:Int)=(7:Int)))=b5; generalize (decide (r4.2.2.2.2=(0:Int)))=b6; generalize (zh (0:Int) r4.2.2.1.length)=b7; generalize (zh (1:Int) r4.2.2.1.length)=b8; generalize (decide (r2.2.2=(0:Int)))=b9; generalize (decide (r3.2.2=(0:Int)))=b10; generalize (zh (0:Int) r3.1.length)=b11; generalize (zh (1:Int) r3.1.length)=b12; refine of5 ?_; revert b0 b1 b2 b3 b4 b5 b6 b7 b8 b9 b10 b11 b12; exact bl13 (by kernel_rfl)) | (simp_all; done) | (simp only [hG6_0,hG6_1,hG6_2,hG6_3,hq7,oc]; rfl)) ?_
    refine ql 6 zu rfl (by first | (simp only [hG6_0,hG6_1,hG6_2,hG6_3,hq7,oc]; done) | ((first | replace hq7:=bf hq7 | skip); revert hG6_0 hG6_1 hG6_2 hG6_3 hq7; generalize (GTy.beq qc (r4.2.2.1.getD (0:Int).toNat qc.zero) ((0:Int),(13:Int)))=b0; generalize (decide ((r3.1.getD (0:Int).toNat 0)=(4:Int)))=b1; generalize (decide ((r3.1.getD (1:Int).toNat 0)=(7:Int)))=b2; generalize (decide ((r4.2.2.1.length:Int)=(2:Int)))=b3; generalize (decide ((r3.1.length:Int)=(2:Int)))=b4; generalize (decide ((r4.1.length:Int)=(7:Int)))=b5; generalize (decide (r4.2.2.2.2=(0:Int)))=b6; generalize (zh (0:Int) r4.2.2.1.length)=b7; generalize (zh (1:Int) r4.2.2.1.length)=b8; generalize (decide (r2.2.2=(0:Int)))=b9; generalize (decide (r3.2.2=(0:Int)))=b10; generalize (zh (0:Int) r3.1.length)=b11; generalize (zh (1:Int) r3.1.length)=b12; refine of5 ?_; revert b0 b1 b2 b3 b4 b5 b6 b7 b8 b9 b10 b11 b12; exact bl13 (by kernel_rfl)) | (simp_all; done) | (simp only [hG6_0,hG6_1,hG6_2,hG6_3,hq7,oc]; rfl)) ?_;refine al_guard (.c (.val (.bool (!(GTy.beq qc (r4.2.2.1.getD (1:Int).toNat qc.zero) ((0:Int),(14:Int))))))) rfl rfl rfl rfl rfl (fun hq8=>?_) (fun hq8=>?_)
    ·try simp only [hq7,ob2,cond_true,cond_false] at hq8
     all_goals
      refine al_neqA ko_lives31_51 rfl ⟨rfl,rfl⟩ rfl rfl (by first | (simp only [hG6_0,hG6_1,hG6_2,hG6_3,hq7,hq8,oc]; done) | ((first | replace hq7:=bf hq7 | skip); (first | replace hq8:=bf hq8 | skip); revert hG6_0 hG6_1 hG6_2 hG6_3 hq7 hq8; generalize (GTy.beq qc (r4.2.2.1.getD (0:Int).toNat qc.zero) ((0:Int),(13:Int)))=b0; generalize (decide ((r3.1.getD (0:Int).toNat 0)=(4:Int)))=b1; generalize (decide ((r3.1.getD (1:Int).toNat 0)=(7:Int)))=b2; generalize (decide ((r4.2.2.1.length:Int)=(2:Int)))=b3; generalize (decide ((r3.1.length:Int)=(2:Int)))=b4; generalize (decide ((r4.1.length:Int)=(7:Int)))=b5; generalize (decide (r4.2.2.2.2=(0:Int)))=b6; generalize (zh (0:Int) r4.2.2.1.length)=b7; generalize (zh (1:Int) r4.2.2.1.length)=b8; generalize (decide (r2.2.2=(0:Int)))=b9; generalize (decide (r3.2.2=(0:Int)))=b10; generalize (zh (0:Int) r3.1.length)=b11; generalize (zh (1:Int) r3.1.length)=b12; refine of6 ?_; revert b0 b1 b2 b3 b4 b5 b6 b7 b8 b9 b10 b11 b12; exact bl13 (by kernel_rfl)) | (simp_all; done) | (simp only [hG6_0,hG6_1,hG6_2,hG6_3,hq7,hq8,oc]; rfl)) rfl (by first | (simp only [hG6_0,hG6_1,hG6_2,hG6_3,hq7,hq8,oc]; done) | ((first | replace hq7:=bf hq7 | skip); (first | replace hq8:=bf hq8 | skip); revert hG6_0 hG6_1 hG6_2 hG6_3 hq7 hq8; generalize (GTy.beq qc (r4.2.2.1.getD (0:Int).toNat qc.zero) ((0:Int),(13:Int)))=b0; generalize (decide ((r3.1.getD (0:Int).toNat 0)=(4:Int)))=b1; generalize (decide ((r3.1.getD (1:Int).toNat 0)=(7:Int)))=b2; generalize (decide ((r4.2.2.1.length:Int)=(2:Int)))=b3; generalize (decide ((r3.1.length:Int)=(2:Int)))=b4; generalize (decide ((r4.1.length:Int)=(7:Int)))=b5; generalize (decide (r4.2.2.2.2=(0:Int)))=b6; generalize (zh (0:Int) r4.2.2.1.length)=b7; generalize (zh (1:Int) r4.2.2.1.length)=b8; generalize (decide (r2.2.2=(0:Int)))=b9; generalize (decide (r3.2.2=(0:Int)))=b10; generalize (zh (0:Int) r3.1.length)=b11; generalize (zh (1:Int) r3.1.length)=b12; refine of6 ?_; revert b0 b1 b2 b3 b4 b5 b6 b7 b8 b9 b10 b11 b12; exact bl13 (by kernel_rfl)) | (simp_all; done) | (simp only [hG6_0,hG6_1,hG6_2,hG6_3,hq7,hq8,oc]; rfl)) rfl (by first | (simp only [hG6_0,hG6_1,hG6_2,hG6_3,hq7,hq8,oc]; done) | ((first | replace hq7:=bf hq7 | skip); (first | replace hq8:=bf hq8 | skip); revert hG6_0 hG6_1 hG6_2 hG6_3 hq7 hq8; generalize (GTy.beq qc (r4.2.2.1.getD (0:Int).toNat qc.zero) ((0:Int),(13:Int)))=b0; generalize (decide ((r3.1.getD (0:Int).toNat 0)=(4:Int)))=b1; generalize (decide ((r3.1.getD (1:Int).toNat 0)=(7:Int)))=b2; generalize (decide ((r4.2.2.1.length:Int)=(2:Int)))=b3; generalize (decide ((r3.1.length:Int)=(2:Int)))=b4; generalize (decide ((r4.1.length:Int)=(7:Int)))=b5; generalize (decide (r4.2.2.2.2=(0:Int)))=b6; generalize (zh (0:Int) r4.2.2.1.length)=b7; generalize (zh (1:Int) r4.2.2.1.length)=b8; generalize (decide (r2.2.2=(0:Int)))=b9; generalize (decide (r3.2.2=(0:Int)))=b10; generalize (zh (0:Int) r3.1.length)=b11; generalize (zh (1:Int) r3.1.length)=b12; refine of6 ?_; revert b0 b1 b2 b3 b4 b5 b6 b7 b8 b9 b10 b11 b12; exact bl13 (by kernel_rfl)) | (simp_all; done) | (simp only [hG6_0,hG6_1,hG6_2,hG6_3,hq7,hq8,oc]; rfl)) rfl (by first | (simp only [hG6_0,hG6_1,hG6_2,hG6_3,hq7,hq8,oc]; done) | ((first | replace hq7:=bf hq7 | skip); (first | replace hq8:=bf hq8 | skip); revert hG6_0 hG6_1 hG6_2 hG6_3 hq7 hq8; generalize (GTy.beq qc (r4.2.2.1.getD (0:Int).toNat qc.zero) ((0:Int),(13:Int)))=b0; generalize (decide ((r3.1.getD (0:Int).toNat 0)=(4:Int)))=b1; generalize (decide ((r3.1.getD (1:Int).toNat 0)=(7:Int)))=b2; generalize (decide ((r4.2.2.1.length:Int)=(2:Int)))=b3; generalize (decide ((r3.1.length:Int)=(2:Int)))=b4; generalize (decide ((r4.1.length:Int)=(7:Int)))=b5; generalize (decide (r4.2.2.2.2=(0:Int)))=b6; generalize (zh (0:Int) r4.2.2.1.length)=b7; generalize (zh (1:Int) r4.2.2.1.length)=b8; generalize (decide (r2.2.2=(0:Int)))=b9; generalize (decide (r3.2.2=(0:Int)))=b10; generalize (zh (0:Int) r3.1.length)=b11; generalize (zh (1:Int) r3.1.length)=b12; refine of6 ?_; revert b0 b1 b2 b3 b4 b5 b6 b7 b8 b9 b10 b11 b12; exact bl13 (by kernel_rfl)) | (simp_all; done) | (simp only [hG6_0,hG6_1,hG6_2,hG6_3,hq7,hq8,oc]; rfl)) ?_
      refine zj zu rfl (by first | (simp only [hG6_0,hG6_1,hG6_2,hG6_3,hq7,hq8,oc]; done) | ((first | replace hq7:=bf hq7 | skip); (first | replace hq8:=bf hq8 | skip); revert hG6_0 hG6_1 hG6_2 hG6_3 hq7 hq8; generalize (GTy.beq qc (r4.2.2.1.getD (0:Int).toNat qc.zero) ((0:Int),(13:Int)))=b0; generalize (decide ((r3.1.getD (0:Int).toNat 0)=(4:Int)))=b1; generalize (decide ((r3.1.getD (1:Int).toNat 0)=(7:Int)))=b2; generalize (decide ((r4.2.2.1.length:Int)=(2:Int)))=b3; generalize (decide ((r3.1.length:Int)=(2:Int)))=b4; generalize (decide ((r4.1.length:Int)=(7:Int)))=b5; generalize (decide (r4.2.2.2.2=(0:Int)))=b6; generalize (zh (0:Int) r4.2.2.1.length)=b7; generalize (zh (1:Int) r4.2.2.1.length)=b8; generalize (decide (r2.2.2=(0:Int)))=b9; generalize (decide (r3.2.2=(0:Int)))=b10; generalize (zh (0:Int) r3.1.length)=b11; generalize (zh (1:Int) r3.1.length)=b12; refine of6 ?_; revert b0 b1 b2 b3 b4 b5 b6 b7 b8 b9 b10 b11 b12; exact bl13 (by kernel_rfl)) | (simp_all; done) | (simp only [hG6_0,hG6_1,hG6_2,hG6_3,hq7,hq8,oc]; rfl)) ?_
      revert h
      refine xC rfl rfl (fun hc h=>?_) (fun hc h=>?_)
      ·refine zv<|zq<|zj zu rfl rfl ?_
       cases h;exact zd ⟨_,(Wk.pick [0] [] rfl rfl),_,_,rfl,rfl,rfl,rfl⟩
      refine za<|zv ?_
      obtain ⟨r5,hr5,h⟩:=bd h;refine zq<|zf zu rfl rfl<|zg (w_text31 _ r2.2.1 r5 hr5) rfl ⟨rfl,rfl⟩ rfl Tryz.func9 rfl rfl rfl rfl rfl rfl<|zj zu rfl rfl<|zb (Wk.conv (s:=0) (.a (.c (.val (.bool (r5 == s_lives31_1))))) rfl (fun _ _ _ _ hv=>hv)) ?_
      cases h;exact zd ⟨_,(Wk.pick [0] [] rfl rfl),_,_,rfl,rfl,rfl,rfl⟩
    ·try simp only [hq7,ob2,cond_true,cond_false] at hq8
     all_goals
      refine zj zu rfl (by first | (simp only [hG6_0,hG6_1,hG6_2,hG6_3,hq7,hq8,oc]; done) | ((first | replace hq7:=bf hq7 | skip); (first | replace hq8:=bf hq8 | skip); revert hG6_0 hG6_1 hG6_2 hG6_3 hq7 hq8; generalize (GTy.beq qc (r4.2.2.1.getD (0:Int).toNat qc.zero) ((0:Int),(13:Int)))=b0; generalize (decide ((r3.1.getD (0:Int).toNat 0)=(4:Int)))=b1; generalize (decide ((r3.1.getD (1:Int).toNat 0)=(7:Int)))=b2; generalize (decide ((r4.2.2.1.length:Int)=(2:Int)))=b3; generalize (decide ((r3.1.length:Int)=(2:Int)))=b4; generalize (decide ((r4.1.length:Int)=(7:Int)))=b5; generalize (decide (r4.2.2.2.2=(0:Int)))=b6; generalize (zh (0:Int) r4.2.2.1.length)=b7; generalize (zh (1:Int) r4.2.2.1.length)=b8; generalize (decide (r2.2.2=(0:Int)))=b9; generalize (decide (r3.2.2=(0:Int)))=b10; generalize (zh (0:Int) r3.1.length)=b11; generalize (zh (1:Int) r3.1.length)=b12; refine of6 ?_; revert b0 b1 b2 b3 b4 b5 b6 b7 b8 b9 b10 b11 b12; exact bl13 (by kernel_rfl)) | (simp_all; done) | (simp only [hG6_0,hG6_1,hG6_2,hG6_3,hq7,hq8,oc]; rfl)) ?_
      revert h
      refine xC rfl rfl (fun hc h=>?_) (fun hc h=>?_)
      ·refine zv<|zq<|zj zu rfl rfl ?_
       cases h;exact zd ⟨_,(Wk.pick [0] [] rfl rfl),_,_,rfl,rfl,rfl,rfl⟩
      refine za<|zv ?_
      obtain ⟨r5,hr5,h⟩:=bd h;refine zq<|zf zu rfl rfl<|zg (w_text31 _ r2.2.1 r5 hr5) rfl ⟨rfl,rfl⟩ rfl Tryz.func9 rfl rfl rfl rfl rfl rfl<|zj zu rfl rfl<|zb (Wk.conv (s:=0) (.a (.c (.val (.bool (r5 == s_lives31_1))))) rfl (fun _ _ _ _ hv=>hv)) ?_
      cases h;exact zd ⟨_,(Wk.pick [0] [] rfl rfl),_,_,rfl,rfl,rfl,rfl⟩
  ·try simp only [ob2,cond_true,cond_false] at hq7
   all_goals
    refine ql 6 zu rfl (by first | (simp only [hG6_0,hG6_1,hG6_2,hG6_3,hq7,oc]; done) | ((first | replace hq7:=bf hq7 | skip); revert hG6_0 hG6_1 hG6_2 hG6_3 hq7; generalize (GTy.beq qc (r4.2.2.1.getD (0:Int).toNat qc.zero) ((0:Int),(13:Int)))=b0; generalize (decide ((r3.1.getD (0:Int).toNat 0)=(4:Int)))=b1; generalize (decide ((r3.1.getD (1:Int).toNat 0)=(7:Int)))=b2; generalize (decide ((r4.2.2.1.length:Int)=(2:Int)))=b3; generalize (decide ((r3.1.length:Int)=(2:Int)))=b4; generalize (decide ((r4.1.length:Int)=(7:Int)))=b5; generalize (decide (r4.2.2.2.2=(0:Int)))=b6; generalize (zh (0:Int) r4.2.2.1.length)=b7; generalize (zh (1:Int) r4.2.2.1.length)=b8; generalize (decide (r2.2.2=(0:Int)))=b9; generalize (decide (r3.2.2=(0:Int)))=b10; generalize (zh (0:Int) r3.1.length)=b11; generalize (zh (1:Int) r3.1.length)=b12; refine of5 ?_; revert b0 b1 b2 b3 b4 b5 b6 b7 b8 b9 b10 b11 b12; exact bl13 (by kernel_rfl)) | (simp_all; done) | (simp only [hG6_0,hG6_1,hG6_2,hG6_3,hq7,oc]; rfl)) ?_;refine al_guard (.c (.val (.bool (!(GTy.beq qc (r4.2.2.1.getD (1:Int).toNat qc.zero) ((0:Int),(14:Int))))))) rfl rfl rfl rfl rfl (fun hq9=>?_) (fun hq9=>?_)
    ·exfalso; simp only [hq7,ob2,cond_true,cond_false] at hq9
    ·try simp only [hq7,ob2,cond_true,cond_false] at hq9
     all_goals
      refine zj zu rfl (by first | (simp only [hG6_0,hG6_1,hG6_2,hG6_3,hq7,hq9,oc]; done) | ((first | replace hq7:=bf hq7 | skip); (first | replace hq9:=bf hq9 | skip); revert hG6_0 hG6_1 hG6_2 hG6_3 hq7 hq9; generalize (GTy.beq qc (r4.2.2.1.getD (0:Int).toNat qc.zero) ((0:Int),(13:Int)))=b0; generalize (decide ((r3.1.getD (0:Int).toNat 0)=(4:Int)))=b1; generalize (decide ((r3.1.getD (1:Int).toNat 0)=(7:Int)))=b2; generalize (decide ((r4.2.2.1.length:Int)=(2:Int)))=b3; generalize (decide ((r3.1.length:Int)=(2:Int)))=b4; generalize (decide ((r4.1.length:Int)=(7:Int)))=b5; generalize (decide (r4.2.2.2.2=(0:Int)))=b6; generalize (zh (0:Int) r4.2.2.1.length)=b7; generalize (zh (1:Int) r4.2.2.1.length)=b8; generalize (decide (r2.2.2=(0:Int)))=b9; generalize (decide (r3.2.2=(0:Int)))=b10; generalize (zh (0:Int) r3.1.length)=b11; generalize (zh (1:Int) r3.1.length)=b12; refine of6 ?_; revert b0 b1 b2 b3 b4 b5 b6 b7 b8 b9 b10 b11 b12; exact bl13 (by kernel_rfl)) | (simp_all; done) | (simp only [hG6_0,hG6_1,hG6_2,hG6_3,hq7,hq9,oc]; rfl)) ?_
      revert h
      refine xC rfl rfl (fun hc h=>?_) (fun hc h=>?_)
      ·refine zv<|zq<|zj zu rfl rfl ?_
       cases h;exact zd ⟨_,(Wk.pick [0] [] rfl rfl),_,_,rfl,rfl,rfl,rfl⟩
      refine za<|zv ?_
      obtain ⟨r5,hr5,h⟩:=bd h;refine zq<|zf zu rfl rfl<|zg (w_text31 _ r2.2.1 r5 hr5) rfl ⟨rfl,rfl⟩ rfl Tryz.func9 rfl rfl rfl rfl rfl rfl<|zj zu rfl rfl<|zb (Wk.conv (s:=0) (.a (.c (.val (.bool (r5 == s_lives31_1))))) rfl (fun _ _ _ _ hv=>hv)) ?_
      cases h;exact zd ⟨_,(Wk.pick [0] [] rfl rfl),_,_,rfl,rfl,rfl,rfl⟩
end Go.Proofs.YtihcolehefloeaaGreatDoor

/- Flats, plain: Compile, Rows, Until. -/
namespace Go.Proofs.YtihcolehefloeaaGreatDoor
open Go.RowKit
theorem lives31_eq:m_lives31=some true:=by kernel_rfl
theorem flcompile_all (c:List (List zT)):∃ e,yp c=some e∧((e≠0∧qA c=some (([],[]),e))∨(e=0∧(qA c=some (([],[]),3)∨(qA c=some ((zG c,qD c c.length),0)∧c.length≤31∧qN (zG c) (zG c).length≤4096∧∀ k,k≤c.length→((qD c c.length).getD k []).length≤16)))):=by
  obtain ⟨e,h1,hF⟩:=chcheck_ok c;refine ⟨e,h1,?_⟩
  by_cases h0:e=0
  · have F:=hF h0
    subst h0;refine .inr ⟨rfl,?_⟩;have h:=flcompile_eq F h1
    by_cases h4:4096 < xS c c.length+(bindP c).length
    · rw [if_pos h4] at h
      exact .inl h
    · rw [if_neg h4] at h
      refine .inr ⟨h,F.len,?_,fun k hk=>?_⟩
      · have hs:∀ k,(((xD c k).map List.length).sum)=xS c k:=fun k=>by
          induction k with
          | zero=>simp [xD,xS]
          | succ k ih=>
            have ep:xD c (k+1)=xD c k++[courseP c k]:=by
              unfold xD;rw [List.range_succ,List.map_append]
              rfl
            rw [ep,List.map_append,List.sum_append,ih]
            simp [xS]
        unfold qN zG;rw [List.take_length,List.map_append,List.sum_append,hs];simp only [List.map_cons,List.map_nil,List.sum_cons,List.sum_nil];omega
      · have:=(lay_lo F k hk).len
        unfold qD;rw [List.getD_eq_getElem?_getD,List.getElem?_map,List.getElem?_range (by omega)];exact this.2
  · refine .inl ⟨h0,?_⟩
    unfold qA;rw [h1,Option.bind_some,qh (by rw [decide_eq_false h0]; rfl)]
theorem parts_len (c:List (List zT)):(zG c).length=c.length+2:=by simp [zG,xD]
theorem slotsTo_len (c:List (List zT)) (k:Nat):(qD c k).length=k+1:=by simp [qD]
def beginsL (c:List (List zT)):List Int:=fl (c.length+1) fun k=>(qN (zG c) (k+1):Int)
theorem flrows_eq {c:List (List zT)} (h:qA c=some ((zG c,qD c c.length),0)) (h31:c.length≤31) (hl:qN (zG c) (zG c).length≤4096):m_flrows c=some (beginsL c,c.length+1,0):=by
  have hpl:=parts_len c;have hm:∀ k,k≤(zG c).length→qN (zG c) k≤4096:=fun k hk=>Nat.le_trans (lenTo_mono _ k _ hk (Nat.le_refl _)) hl
  have e3:=xl (fun n (s:Int×Int×List Int)=>xk c ((zG c,qD c c.length),0) n s.1 s.2.1 s.2.2) (c.length+1) (fun k=>((qN (zG c) k:Int),(k:Int),fl (c.length+1) (fun i=>if i < k then (qN (zG c) (i+1):Int) else 0))) (0,0,List.replicate (c.length+1) 0) (beginsL c)
    (by
      congr 1
      congr 1
      refine List.ext_getElem? fun k=>?_
      by_cases h:k < c.length+1 <;> simp [fl,List.getElem?_replicate,h]) (zE (by omega)) (fun n k hk=>by
    have b:=hm (k+1) (by omega);have e:=lenTo_succ (zG c) k (by omega);show xk c ((zG c,qD c c.length),0) (n+1) (qN (zG c) k) k (fl (c.length+1) _)=xk c ((zG c,qD c c.length),0) n (qN (zG c) (k+1):Nat) ((k+1:Nat):Int) (fl (c.length+1) (fun i=>if i < k+1 then (qN (zG c) (i+1):Int) else 0));rw [xk,List.length_replicate,qh (decide_eq_true (by omega)),Int.toNat_natCast];dsimp only;rw [zF (by simp only [zh,zk,Bool.and_eq_true,decide_eq_true_eq]; omega),zF (by simp [zh,xH]; omega),zF (by simp [zk]; omega)];rw [fl_set (g:=fun i=>if i < k+1 then (qN (zG c) (i+1):Int) else 0) hk (by simp only [if_pos (Nat.lt_succ_self k)]; omega) (fun i hi=>by
      by_cases h1:i < k
      · simp only [if_pos h1,if_pos (show i < k+1 by omega)]
      · simp only [if_neg h1,if_neg (show ¬ i < k+1 by omega)]),e]
    rfl) (fun n=>by
    show xk c ((zG c,qD c c.length),0) (n+1) _ ((c.length+1:Nat):Int) _=_;rw [xk,List.length_replicate,zL (by simp)]
    congr 1
    refine List.ext_getElem? fun i=>?_
    by_cases h:i < c.length+1
    · simp [fl,beginsL,h]
    · simp [fl,beginsL,h])
  dsimp only at e3;unfold m_flrows;rw [h,Option.bind_some,zL (by rfl),show ((c.length:Int)+1).toNat=c.length+1 by omega,zF (by simp only [zk,Bool.and_eq_true,decide_eq_true_eq]; omega),e3]
  rfl
theorem flcomp_eq {c:List (List zT)} (h:qA c=some ((zG c,qD c c.length),0)) (h31:c.length≤31) (hl:qN (zG c) (zG c).length≤4096):∃ q,m_flcomp c=some ((zG c).flatten,q,0):=by
  have hpl:=parts_len c;obtain ⟨q,hq⟩:=fljoin_eq (zG c) (by omega) (by omega);refine ⟨q,?_⟩;unfold m_flcomp;rw [h,Option.bind_some,zL (by rfl),hq]
  rfl
theorem fluntil_eq {c:List (List zT)} (h:qA c=some ((zG c,qD c c.length),0)) (h31:c.length≤31) (hl:qN (zG c) (zG c).length≤4096) (hsl:∀ k,k≤c.length→((qD c c.length).getD k []).length≤16) (n:Nat) (hn:n≤c.length):∃ q,m_fluntil c n=some (((zG c).take (n+1)).flatten,q,(qD c c.length).getD n [],((qD c c.length).getD n []).length,0):=by
  have hpl:=parts_len c;have hsn:=slotsTo_len c c.length;have hs:=hsl n hn;have htl:qN ((zG c).take (n+1)) ((zG c).take (n+1)).length≤4096:=by
    have:qN ((zG c).take (n+1)) ((zG c).take (n+1)).length=qN (zG c) (n+1):=by
      unfold qN;rw [List.take_length]
    rw [this];exact Nat.le_trans (lenTo_mono _ _ _ (by omega) (Nat.le_refl _)) hl
  obtain ⟨q,hq⟩:=fljoin_eq ((zG c).take (n+1)) (by rw [List.length_take]; omega) (by omega);refine ⟨q,?_⟩;unfold m_fluntil;rw [h,Option.bind_some,zL (by rfl),zL (by simp only [Bool.cond_true_left,Bool.or_eq_false_iff,decide_eq_false_iff_not]; omega)];dsimp only;rw [Int.toNat_natCast,Int.toNat_natCast,zF (by simp only [zh,Bool.and_eq_true,decide_eq_true_eq]; omega),zF (by
    rw [List.length_replicate,Nat.beq_refl];simp only [zh,Bool.and_true,Bool.and_eq_true,decide_eq_true_eq]; omega),zF (by simp only [zk,Bool.and_eq_true,decide_eq_true_eq]; omega),show ((n:Int)+1).toNat=n+1 by omega,hq]
  rfl
end Go.Proofs.YtihcolehefloeaaGreatDoor

/- FlatsRows, FlatsPlan: models. -/
namespace Go.Proofs.YtihcolehefloeaaGreatDoor
set_option linter.unusedSimpArgs false
set_option linter.unusedVariables false
open Go.RowKit
def m_castonO_L3 (a0:Int) (a1:T1):Nat→Int→T4→Option (T4)
  | 0,_,_=>none
  | n+1,v3_0,v3_1=>
    cond (decide (v3_0 < (a1.length:Int))) (gd ((zh v3_0 a1.length)) <|
    Option.bind (m_past (4:Int) (a1.getD v3_0.toNat 0) a0) fun r4=>
    gd ((ze 40 (v3_1.length+[r4].length))) <|
    gd ((zk (v3_0+(1:Int)))) <|
    m_castonO_L3 a0 a1 n (v3_0+(1:Int)) (v3_1++[r4])) (some v3_1)
def m_castonO (a0:Int) (a1:T1):Option (T4×Int):=
    Option.bind (m_echeck a0 a1) fun r1=>
    cond (!(decide (r1=(0:Int)))) (some (([]:List zO),r1)) (gd ((zk ((a1.length:Int) - (1:Int)))&&(zh ((a1.length:Int) - (1:Int)) a1.length)) <|
    cond (decide ((a1.getD ((a1.length:Int) - (1:Int)).toNat 0)=(40:Int))) (some (([]:List zO),(15:Int))) (gd ((zk ((a1.length:Int)+(2:Int)))&&(decide ((0:Int)≤((a1.length:Int)+(2:Int))))&&(decide ((40:Int) * ((a1.length:Int)+(2:Int))≤140737488355328))&&(decide (((a1.length:Int)+(2:Int))≤140737488355328))) <|
    gd ((ze 40 (([]:List zO).length+[((1:Int),((0:Int),(((0:Int),(0:Int)),(a0,(0:Int)))))].length))) <|
    Option.bind (m_castonO_L3 a0 a1 zB (0:Int) (([]:List zO)++[((1:Int),((0:Int),(((0:Int),(0:Int)),(a0,(0:Int)))))])) fun o2=>
    Option.bind (m_past (6:Int) (40:Int) a0) fun r8=>
    gd ((ze 40 (o2.length+[r8].length))) <|
    some ((o2++[r8]),(0:Int))))
theorem w_castonO (a0:Int) (a1:T1) (c0:Option Nat) (r:(T4×Int)) (h:m_castonO a0 a1=some r):AC cx 13 [.c (.val (.int .u8 a0)),.c (.lst (.int .i64) a1 c0)] [] (fun sv h=>sv=.tup [.c (.sl 27),.c (.val (.int .i64 r.2))]∧h=[(27,.row 72 qr r.1 none)]):=by
  unfold m_castonO at h;refine zp zu Tryz.func13 rfl Tryz.ntmps13 rfl rfl (res:=[.tmp 4,.tmp 5]) rfl<|zv<|zq<|zj zu rfl rfl<|zb (Wk.frzC 2 (.int .u8) rfl rfl rfl)<|zb (Wk.nil 4 27 72 qr rfl rfl)<|zv<|zv ?_
  obtain ⟨r1,hr1,h⟩:=bd h;refine zq<|zf zu rfl rfl<|zg (w_echeck _ _ c0 r1 hr1) rfl ⟨rfl,rfl⟩ rfl Tryz.func26 rfl rfl rfl rfl rfl rfl<|zj zu rfl rfl<|zv<|zq<|zj zu rfl rfl ?_
  revert h
  refine xC rfl rfl (fun hc h=>?_) (fun hc h=>?_)
  ·refine zv<|zq<|zj zu rfl rfl<|zb (Wk.nil 4 27 72 qr rfl rfl) ?_
   cases h;exact zd ⟨_,(Wk.pick [4,5] [27] rfl rfl),_,_,rfl,rfl,rfl,rfl⟩
  refine za<|zv<|zv ?_
  obtain ⟨hG12,h⟩:=zw h;simp only [Bool.and_eq_true] at hG12;obtain ⟨hG12_0,hG12_1⟩:=hG12;refine zq<|zj zu rfl (by simp only [hG12_0,hG12_1,oc]) ?_
  revert h
  refine xC rfl rfl (fun hc h=>?_) (fun hc h=>?_)
  ·refine zv<|zq<|zj zu rfl rfl<|zb (Wk.nil 4 27 72 qr rfl rfl) ?_
   cases h;exact zd ⟨_,(Wk.pick [4,5] [27] rfl rfl),_,_,rfl,rfl,rfl,rfl⟩
  refine za<|zv<|zq<|zj zu rfl rfl<|zv ?_
  obtain ⟨hG11,h⟩:=zw h;simp only [Bool.and_eq_true] at hG11;obtain ⟨⟨⟨hG11_0,hG11_1⟩,hG11_2⟩,hG11_3⟩:=hG11;refine zq<|zj zu rfl (by simp_all) ?_
  refine zv ?_;obtain ⟨hG10,h⟩:=zw h;refine zq<|zj zu rfl (by simp_all) ?_
  refine zv<|zv<|zq<|zj zu rfl rfl ?_
  obtain ⟨o2,ho2,hk2⟩:=bd h;refine zo (fun o2:T4=>⟨[(7,.a (.c (.fn 27 [.fz (.int .u8) a0]))),(8,.a (.c (.sl 27)))],[(27,.row 72 qr o2 none)]⟩) (fun o'=>o2=o') ?_ ?_
  ·have h:=ho2
   refine zc<|zb (Wk.pick [35,1,7,8,34] [27] rfl rfl)<|zm (fun y:Nat×Int×T4=>[(35,.a (.c (.val (.int .i64 y.2.1))))]) (fun y:Nat×Int×T4=>[(27,.row 72 qr y.2.2 none)]) (fun y:Nat×Int×T4=>m_castonO_L3 a0 a1 y.1 y.2.1 y.2.2=some o2) (fun y:Nat×Int×T4=>y.1) (zB,(0:Int),(([]:List zO)++[((1:Int),((0:Int),(((0:Int),(0:Int)),(a0,(0:Int)))))])) h ?_
   rintro ⟨n,v3_0,v3_1⟩ h;replace h:m_castonO_L3 a0 a1 n v3_0 v3_1=some o2:=h
   rcases n with _ | n
   · cases (show (none:Option _)=some _ from h)
   rw [m_castonO_L3] at h
   try dsimp only
   refine zv<|zq<|zj zu rfl rfl<|zv ?_
   revert h
   refine xC rfl rfl (fun hc h=>?_) (fun hc h=>?_)
   ·refine za<|zv<|zc<|zv<|zq<|zj zu rfl rfl ?_
    obtain ⟨hG6,h⟩:=zw h;obtain ⟨r4,hr4,h⟩:=bd h;obtain ⟨hG7,h⟩:=zw h;refine zq<|zf zu rfl (by simp only [hG6,hG7,oc]) ?_
    refine xm [] (w_past _ _ _  r4 hr4) rfl ⟨rfl,rfl⟩ rfl rfl Tryz.func27 rfl rfl rfl (by simp only [hG6,hG7,oc]) rfl rfl PassH.nil ?_;rintro _ _ ⟨rfl,rfl⟩;refine ⟨_,_,rfl,rfl,?_⟩;refine zj zu rfl (by simp only [hG6,hG7,oc]) ?_;obtain ⟨hG5,h⟩:=zw h;refine zq<|zj zu rfl (by simp only [hG5,oc]) ?_
    refine ⟨(n,_,_),h,Nat.lt_succ_self _,(Wk.pick [35,1,7,8,34] [27] rfl rfl)⟩
   refine zr ?_;exact ⟨_,(Option.some.inj h).symm,(Wk.pick [7,8] [27] rfl rfl)⟩
  ·rintro _ rfl
   have h:=hk2;refine zv ?_;obtain ⟨r8,hr8,h⟩:=bd h;obtain ⟨hG9,h⟩:=zw h;refine zq<|zf zu rfl (by simp only [hG9,oc]) ?_
   refine xm [] (w_past _ _ _  r8 hr8) rfl ⟨rfl,rfl⟩ rfl rfl Tryz.func27 rfl rfl rfl (by simp only [hG9,oc]) rfl rfl PassH.nil ?_;rintro _ _ ⟨rfl,rfl⟩;refine ⟨_,_,rfl,rfl,?_⟩;refine zj zu rfl (by simp only [hG9,oc]) ?_;cases h;exact zd ⟨_,(Wk.pick [4,5] [27] rfl rfl),_,_,rfl,rfl,rfl,rfl⟩
def qB (r1:T5) (r2:T4×(Option Nat)×Int) (r3:T1×Nat×Int):Nat→Int→Option ((Unit)⊕(Bool))
  | 0,_=>none
  | n+1,v5_0=>
    cond (decide (v5_0 < (r3.1.length:Int))) (Option.bind (m_fluntil r1 v5_0) fun r6=>
    gd ((!(!(!(decide (r6.2.2.2.2=(0:Int))))) || (zh v5_0 r3.1.length))&&(!(!(cond (!(decide (r6.2.2.2.2=(0:Int)))) true (!(decide ((r6.1.length:Int)=(r3.1.getD v5_0.toNat 0)))))) || (zh v5_0 r3.1.length))) <|
    Option.bind (cond (cond (cond (!(decide (r6.2.2.2.2=(0:Int)))) true (!(decide ((r6.1.length:Int)=(r3.1.getD v5_0.toNat 0))))) true (decide ((r2.1.length:Int) < (r3.1.getD v5_0.toNat 0)))) (some default) (m_text31 r6.1)) fun r7=>
    gd ((!(!(cond (cond (!(decide (r6.2.2.2.2=(0:Int)))) true (!(decide ((r6.1.length:Int)=(r3.1.getD v5_0.toNat 0))))) true (decide ((r2.1.length:Int) < (r3.1.getD v5_0.toNat 0))))) || (zh v5_0 r3.1.length))&&(!(!(cond (cond (!(decide (r6.2.2.2.2=(0:Int)))) true (!(decide ((r6.1.length:Int)=(r3.1.getD v5_0.toNat 0))))) true (decide ((r2.1.length:Int) < (r3.1.getD v5_0.toNat 0))))) || ((decide (0≤(r3.1.getD v5_0.toNat 0)))&&(decide ((r3.1.getD v5_0.toNat 0)≤(r2.1.length:Int)))))) <|
    Option.bind (cond (cond (cond (!(decide (r6.2.2.2.2=(0:Int)))) true (!(decide ((r6.1.length:Int)=(r3.1.getD v5_0.toNat 0))))) true (decide ((r2.1.length:Int) < (r3.1.getD v5_0.toNat 0)))) (some default) (m_text31 (r2.1.take (r3.1.getD v5_0.toNat 0).toNat))) fun r8=>
    cond (cond (cond (cond (!(decide (r6.2.2.2.2=(0:Int)))) true (!(decide ((r6.1.length:Int)=(r3.1.getD v5_0.toNat 0))))) true (decide ((r2.1.length:Int) < (r3.1.getD v5_0.toNat 0)))) true (!(r7 == r8))) (some (.inr false)) (gd ((zk (v5_0+(1:Int)))) <|
    qB r1 r2 r3 n (v5_0+(1:Int)))) (some (.inl ()))
def m_flatsRows (a0:(Int×(List T1))):Option (Bool):=
    Option.bind (m_cof13 a0) fun r1=>
    Option.bind (m_flcomp r1) fun r2=>
    Option.bind (m_flrows r1) fun r3=>
    gd ((!(!(cond (!(decide (r2.2.2=(0:Int)))) true (!(decide (r3.2.2=(0:Int)))))) || (zk ((r1.length:Int)+(1:Int))))) <|
    cond (cond (cond (cond (!(decide (r2.2.2=(0:Int)))) true (!(decide (r3.2.2=(0:Int))))) true (!(decide ((r3.1.length:Int)=((r1.length:Int)+(1:Int)))))) true (!(decide ((r3.2.1:Int)=(r3.1.length:Int))))) (some false) (Option.bind (qB r1 r2 r3 zB (0:Int)) fun o4=>
    sm o4 (fun o4=>
    Option.bind (m_lives31) fun r12=>
    some r12) (fun q=>some q))
theorem w_flatsRows (a0:(Int×(List T1))) (c0:Option Nat) (r:(Bool)) (h:m_flatsRows a0=some r):AC cx 3 [.agg [.val (.int .u8 a0.1),.lst (.sl (.int .u8)) a0.2 c0]] [] (fun sv h=>sv=.a (.c (.val (.bool r)))∧h=[]):=by
  unfold m_flatsRows at h;refine zp zu Tryz.func3 rfl Tryz.ntmps3 rfl rfl (res:=[.tmp 2]) rfl<|zv<|zq<|zj zu rfl rfl<|zb (Wk.frzC 1 G5 rfl rfl rfl)<|zv ?_
  obtain ⟨r1,hr1,h⟩:=bd h;refine zq<|zf zu rfl rfl<|zg (w_cof13 _ none r1 hr1) rfl ⟨rfl,rfl⟩ rfl Tryz.func5 rfl rfl rfl rfl rfl rfl<|zj zu rfl rfl<|zb (Wk.frzC 3 G6 rfl rfl rfl)<|zv ?_
  obtain ⟨r2,hr2,h⟩:=bd h;refine zq<|zf zu rfl rfl<|zg (w_flcomp _ none r2 hr2) rfl ⟨rfl,rfl⟩ rfl Tryz.func6 rfl rfl rfl rfl rfl rfl<|zj zu rfl rfl<|zv ?_
  obtain ⟨r3,hr3,h⟩:=bd h;refine zq<|zf zu rfl rfl<|zg (w_flrows _ none r3 hr3) rfl ⟨rfl,rfl⟩ rfl Tryz.func7 rfl rfl rfl rfl rfl rfl<|zj zu rfl rfl<|zv<|zv ?_
  obtain ⟨hG13,h⟩:=zw h;refine zq<|zj zu rfl (by (try simp only [Option.isSome_some]); revert hG13; generalize (decide ((r3.1.length:Int)=((r1.length:Int)+(1:Int))))=b0; generalize (zk ((r1.length:Int)+(1:Int)))=b1; generalize (decide (r2.2.2=(0:Int)))=b2; generalize (decide (r3.2.2=(0:Int)))=b3; revert b0 b1 b2 b3; decide) ?_
  revert h
  refine xC rfl rfl (fun hc h=>?_) (fun hc h=>?_)
  ·refine zv<|zq<|zj zu rfl rfl ?_
   cases h;exact zd ⟨_,(Wk.pick [2] [] rfl rfl),_,_,rfl,rfl,rfl,rfl⟩
  refine za<|zv<|zv<|zq<|zj zu rfl rfl ?_
  obtain ⟨o4,ho4,hk4⟩:=bd h;refine zo (fun o4:Unit=>⟨[],[]⟩) (fun o'=>Sum.inl o'=o4) ?_ ?_
  ·have h:=ho4
   refine zc<|zb (Wk.pick [8,3,4,6] [] rfl rfl)<|zm (fun y:Nat×Int=>[(8,.a (.c (.val (.int .i64 y.2))))]) (fun y:Nat×Int=>[]) (fun y:Nat×Int=>qB r1 r2 r3 y.1 y.2=some o4) (fun y:Nat×Int=>y.1) (zB,(0:Int)) h ?_
   rintro ⟨n,v5_0⟩ h;replace h:qB r1 r2 r3 n v5_0=some o4:=h
   rcases n with _ | n
   · cases (show (none:Option _)=some _ from h)
   rw [qB] at h
   try dsimp only
   refine zv<|zv<|zq<|zj zu rfl rfl ?_
   revert h
   refine xC rfl rfl (fun hc h=>?_) (fun hc h=>?_)
   ·refine za<|zv<|zc<|zv ?_
    obtain ⟨r6,hr6,h⟩:=bd h;refine zq<|zf zu rfl rfl<|zg (w_fluntil _ _ none r6 hr6) rfl ⟨rfl,rfl⟩ rfl Tryz.func8 rfl rfl rfl rfl rfl rfl<|zj zu rfl rfl<|zv ?_
    obtain ⟨hG10,h⟩:=zw h;simp only [Bool.and_eq_true] at hG10;obtain ⟨hG10_0,hG10_1⟩:=hG10;obtain ⟨r7,hr7,h⟩:=bd h;obtain ⟨hG11,h⟩:=zw h;simp only [Bool.and_eq_true] at hG11;obtain ⟨hG11_0,hG11_1⟩:=hG11;obtain ⟨r8,hr8,h⟩:=bd h;refine zH [] (by kernel_rfl) rfl (N:=32)<|zn (fuel:=4) (ds':=⟨#[true,true,true,true,true,true,true,true,true,true,true,true,true,true,true,true,true,true,true,true,true,true,false,true,true,true,true,true,true,false,false,false],true,true,true⟩) zu [(0,0),(1,0),(2,0),(3,0),(4,0),(5,0),(6,0),(7,0),(8,1),(9,0),(10,0),(11,0),(12,0),(13,0),(14,0),(15,1),(16,0),(17,0),(18,0),(19,0),(20,0),(21,0),(23,0),(24,0),(25,0),(26,0),(27,1),(28,0)] (by kernel_rfl) rfl (by exact (by first | ((try simp only [Option.isSome_some]); revert hG10_0 hG10_1 hG11_0 hG11_1; generalize (decide ((r6.1.length:Int)=(r3.1.getD v5_0.toNat 0)))=b0; generalize (decide ((r2.1.length:Int) < (r3.1.getD v5_0.toNat 0)))=b1; generalize (decide ((r3.1.getD v5_0.toNat 0)≤(r2.1.length:Int)))=b2; generalize (decide (0≤(r3.1.getD v5_0.toNat 0)))=b3; generalize (decide (r6.2.2.2.2=(0:Int)))=b4; generalize (zh v5_0 r3.1.length)=b5; refine of4 ?_; revert b0 b1 b2 b3 b4 b5; exact bl6 (by kernel_rfl)) | (simp only [hG10_0,hG10_1,hG11_0,hG11_1,oc]; done) | (simp_all; done) | (simp only [hG10_0,hG10_1,hG11_0,hG11_1,oc]; rfl))) ?_
    refine zl (by kernel_rfl) (zi (i:=22) ?_ zt);refine ado_guard (.c (.str r7)) (i:=22) (listed':=#[true,true,true,true,true,true,true,true,true,true,true,true,true,true,true,true,true,true,true,true,true,true,true,true,true,true,true,true,true,false,false,false]) rfl rfl rfl rfl rfl rfl rfl rfl (fun hg10=>?_) (fun hg10=>?_)
    ·
      replace hr7:=cond_f hg10 hr7;refine zM (i:=22) (listed':=#[true,true,true,true,true,true,true,true,true,true,true,true,true,true,true,true,true,true,true,true,true,true,true,true,true,true,true,true,true,false,false,false]) (pre':=true) [] (w_text31 _ r6.2.1 r7 hr7) rfl rfl rfl rfl ⟨rfl,rfl⟩ rfl Tryz.func9 rfl rfl rfl (by exact (by first | ((try simp only [hg10,Option.isSome_some]); revert hg10 hG10_0 hG10_1 hG11_0 hG11_1; generalize (decide ((r6.1.length:Int)=(r3.1.getD v5_0.toNat 0)))=b0; generalize (decide ((r2.1.length:Int) < (r3.1.getD v5_0.toNat 0)))=b1; generalize (decide ((r3.1.getD v5_0.toNat 0)≤(r2.1.length:Int)))=b2; generalize (decide (0≤(r3.1.getD v5_0.toNat 0)))=b3; generalize (decide (r6.2.2.2.2=(0:Int)))=b4; generalize (zh v5_0 r3.1.length)=b5; refine of4 ?_; revert b0 b1 b2 b3 b4 b5; exact bl6 (by kernel_rfl)) | (simp only [hg10,hG10_0,hG10_1,hG11_0,hG11_1,oc]; done) | (simp_all; done) | (simp only [hg10,hG10_0,hG10_1,hG11_0,hG11_1,oc]; rfl))) rfl rfl PassH.nil ?_;rintro _ _ ⟨rfl,rfl⟩;refine ⟨_,_,rfl,rfl,?_⟩;refine zl (by kernel_rfl) (zi (i:=29) ?_ zt);refine ado_guard (.c (.str r8)) (i:=29) (listed':=#[true,true,true,true,true,true,true,true,true,true,true,true,true,true,true,true,true,true,true,true,true,true,true,true,true,true,true,true,true,true,false,false]) rfl rfl rfl rfl rfl rfl rfl rfl (fun hg10=>?_) (fun hg10=>?_)
      ·
        replace hr8:=cond_f hg10 hr8;refine zM (i:=29) (listed':=#[true,true,true,true,true,true,true,true,true,true,true,true,true,true,true,true,true,true,true,true,true,true,true,true,true,true,true,true,true,true,false,false]) (pre':=true) [] (w_text31 _ r2.2.1 r8 hr8) rfl rfl rfl rfl ⟨rfl,rfl⟩ rfl Tryz.func9 rfl rfl rfl (by exact (by first | ((try simp only [hg10,Option.isSome_some]); revert hg10 hG10_0 hG10_1 hG11_0 hG11_1; generalize (decide ((r6.1.length:Int)=(r3.1.getD v5_0.toNat 0)))=b0; generalize (decide ((r2.1.length:Int) < (r3.1.getD v5_0.toNat 0)))=b1; generalize (decide ((r3.1.getD v5_0.toNat 0)≤(r2.1.length:Int)))=b2; generalize (decide (0≤(r3.1.getD v5_0.toNat 0)))=b3; generalize (decide (r6.2.2.2.2=(0:Int)))=b4; generalize (zh v5_0 r3.1.length)=b5; refine of4 ?_; revert b0 b1 b2 b3 b4 b5; exact bl6 (by kernel_rfl)) | (simp only [hg10,hG10_0,hG10_1,hG11_0,hG11_1,oc]; done) | (simp_all; done) | (simp only [hg10,hG10_0,hG10_1,hG11_0,hG11_1,oc]; rfl))) rfl rfl PassH.nil ?_;rintro _ _ ⟨rfl,rfl⟩;refine ⟨_,_,rfl,rfl,?_⟩;refine zn (fuel:=0) (ds':=⟨#[true,true,true,true,true,true,true,true,true,true,true,true,true,true,true,true,true,true,true,true,true,true,true,true,true,true,true,true,true,true,true,true],false,true,false⟩) zu [(30,0),(31,0)] (by kernel_rfl) rfl (by exact (by first | ((try simp only [hg10,Option.isSome_some]); revert hg10 hG10_0 hG10_1 hG11_0 hG11_1; generalize (decide ((r6.1.length:Int)=(r3.1.getD v5_0.toNat 0)))=b0; generalize (decide ((r2.1.length:Int) < (r3.1.getD v5_0.toNat 0)))=b1; generalize (decide ((r3.1.getD v5_0.toNat 0)≤(r2.1.length:Int)))=b2; generalize (decide (0≤(r3.1.getD v5_0.toNat 0)))=b3; generalize (decide (r6.2.2.2.2=(0:Int)))=b4; generalize (zh v5_0 r3.1.length)=b5; refine of4 ?_; revert b0 b1 b2 b3 b4 b5; exact bl6 (by kernel_rfl)) | (simp only [hg10,hG10_0,hG10_1,hG11_0,hG11_1,oc]; done) | (simp_all; done) | (simp only [hg10,hG10_0,hG10_1,hG11_0,hG11_1,oc]; rfl))) ?_;refine zA (by kernel_rfl) ?_
        revert h
        refine xC rfl rfl (fun hc h=>?_) (fun hc h=>?_)
        ·refine zv<|zq<|zj zu rfl rfl<|zd ?_
         obtain rfl:=Option.some.inj h;have h:=hk4;dsimp only [sm] at h;obtain rfl:=Option.some.inj h;refine ⟨_,(Wk.pick [2] [] rfl rfl),_,_,rfl,rfl,?_⟩;exact ⟨rfl,rfl⟩
        refine za ?_;obtain ⟨hG9,h⟩:=zw h;refine zq<|zj zu rfl (by simp only [hG9,oc]) ?_
        refine ⟨(n,_),h,Nat.lt_succ_self _,(Wk.pick [8,3,4,6] [] rfl rfl)⟩
      ·
        refine zn (fuel:=0) (ds':=⟨#[true,true,true,true,true,true,true,true,true,true,true,true,true,true,true,true,true,true,true,true,true,true,true,true,true,true,true,true,true,true,true,true],false,true,false⟩) zu [(30,0),(31,0)] (by kernel_rfl) rfl (by exact (by first | ((try simp only [hg10,Option.isSome_some]); revert hg10 hG10_0 hG10_1 hG11_0 hG11_1; generalize (decide ((r6.1.length:Int)=(r3.1.getD v5_0.toNat 0)))=b0; generalize (decide ((r2.1.length:Int) < (r3.1.getD v5_0.toNat 0)))=b1; generalize (decide ((r3.1.getD v5_0.toNat 0)≤(r2.1.length:Int)))=b2; generalize (decide (0≤(r3.1.getD v5_0.toNat 0)))=b3; generalize (decide (r6.2.2.2.2=(0:Int)))=b4; generalize (zh v5_0 r3.1.length)=b5; refine of4 ?_; revert b0 b1 b2 b3 b4 b5; exact bl6 (by kernel_rfl)) | (simp only [hg10,hG10_0,hG10_1,hG11_0,hG11_1,oc]; done) | (simp_all; done) | (simp only [hg10,hG10_0,hG10_1,hG11_0,hG11_1,oc]; rfl))) ?_;refine zA (by kernel_rfl) ?_
        revert h
        refine xC rfl rfl (fun hc h=>?_) (fun hc h=>?_)
        ·refine zv<|zq<|zj zu rfl rfl<|zd ?_
         obtain rfl:=Option.some.inj h;have h:=hk4;dsimp only [sm] at h;obtain rfl:=Option.some.inj h;refine ⟨_,(Wk.pick [2] [] rfl rfl),_,_,rfl,rfl,?_⟩;exact ⟨rfl,rfl⟩
        refine za ?_;obtain ⟨hG9,h⟩:=zw h;refine zq<|zj zu rfl (by simp only [hG9,oc]) ?_
        refine ⟨(n,_),h,Nat.lt_succ_self _,(Wk.pick [8,3,4,6] [] rfl rfl)⟩
    ·
      refine zl (by kernel_rfl) (zi (i:=29) ?_ zt);refine ado_guard (.c (.str r8)) (i:=29) (listed':=#[true,true,true,true,true,true,true,true,true,true,true,true,true,true,true,true,true,true,true,true,true,true,true,true,true,true,true,true,true,true,false,false]) rfl rfl rfl rfl rfl rfl rfl rfl (fun hg10=>?_) (fun hg10=>?_)
      ·
        replace hr8:=cond_f hg10 hr8;refine zM (i:=29) (listed':=#[true,true,true,true,true,true,true,true,true,true,true,true,true,true,true,true,true,true,true,true,true,true,true,true,true,true,true,true,true,true,false,false]) (pre':=true) [] (w_text31 _ r2.2.1 r8 hr8) rfl rfl rfl rfl ⟨rfl,rfl⟩ rfl Tryz.func9 rfl rfl rfl (by exact (by first | ((try simp only [hg10,Option.isSome_some]); revert hg10 hG10_0 hG10_1 hG11_0 hG11_1; generalize (decide ((r6.1.length:Int)=(r3.1.getD v5_0.toNat 0)))=b0; generalize (decide ((r2.1.length:Int) < (r3.1.getD v5_0.toNat 0)))=b1; generalize (decide ((r3.1.getD v5_0.toNat 0)≤(r2.1.length:Int)))=b2; generalize (decide (0≤(r3.1.getD v5_0.toNat 0)))=b3; generalize (decide (r6.2.2.2.2=(0:Int)))=b4; generalize (zh v5_0 r3.1.length)=b5; refine of4 ?_; revert b0 b1 b2 b3 b4 b5; exact bl6 (by kernel_rfl)) | (simp only [hg10,hG10_0,hG10_1,hG11_0,hG11_1,oc]; done) | (simp_all; done) | (simp only [hg10,hG10_0,hG10_1,hG11_0,hG11_1,oc]; rfl))) rfl rfl PassH.nil ?_;rintro _ _ ⟨rfl,rfl⟩;refine ⟨_,_,rfl,rfl,?_⟩;refine zn (fuel:=0) (ds':=⟨#[true,true,true,true,true,true,true,true,true,true,true,true,true,true,true,true,true,true,true,true,true,true,true,true,true,true,true,true,true,true,true,true],false,true,false⟩) zu [(30,0),(31,0)] (by kernel_rfl) rfl (by exact (by first | ((try simp only [hg10,Option.isSome_some]); revert hg10 hG10_0 hG10_1 hG11_0 hG11_1; generalize (decide ((r6.1.length:Int)=(r3.1.getD v5_0.toNat 0)))=b0; generalize (decide ((r2.1.length:Int) < (r3.1.getD v5_0.toNat 0)))=b1; generalize (decide ((r3.1.getD v5_0.toNat 0)≤(r2.1.length:Int)))=b2; generalize (decide (0≤(r3.1.getD v5_0.toNat 0)))=b3; generalize (decide (r6.2.2.2.2=(0:Int)))=b4; generalize (zh v5_0 r3.1.length)=b5; refine of4 ?_; revert b0 b1 b2 b3 b4 b5; exact bl6 (by kernel_rfl)) | (simp only [hg10,hG10_0,hG10_1,hG11_0,hG11_1,oc]; done) | (simp_all; done) | (simp only [hg10,hG10_0,hG10_1,hG11_0,hG11_1,oc]; rfl))) ?_;refine zA (by kernel_rfl) ?_
        revert h
        refine xC rfl rfl (fun hc h=>?_) (fun hc h=>?_)
        ·refine zv<|zq<|zj zu rfl rfl<|zd ?_
         obtain rfl:=Option.some.inj h;have h:=hk4;dsimp only [sm] at h;obtain rfl:=Option.some.inj h;refine ⟨_,(Wk.pick [2] [] rfl rfl),_,_,rfl,rfl,?_⟩;exact ⟨rfl,rfl⟩
        refine za ?_;obtain ⟨hG9,h⟩:=zw h;refine zq<|zj zu rfl (by simp only [hG9,oc]) ?_
        refine ⟨(n,_),h,Nat.lt_succ_self _,(Wk.pick [8,3,4,6] [] rfl rfl)⟩
      ·
        refine zn (fuel:=0) (ds':=⟨#[true,true,true,true,true,true,true,true,true,true,true,true,true,true,true,true,true,true,true,true,true,true,true,true,true,true,true,true,true,true,true,true],false,true,true⟩) zu [(30,0),(31,0)] (by kernel_rfl) rfl (by exact (by first | ((try simp only [hg10,Option.isSome_some]); revert hg10 hG10_0 hG10_1 hG11_0 hG11_1; generalize (decide ((r6.1.length:Int)=(r3.1.getD v5_0.toNat 0)))=b0; generalize (decide ((r2.1.length:Int) < (r3.1.getD v5_0.toNat 0)))=b1; generalize (decide ((r3.1.getD v5_0.toNat 0)≤(r2.1.length:Int)))=b2; generalize (decide (0≤(r3.1.getD v5_0.toNat 0)))=b3; generalize (decide (r6.2.2.2.2=(0:Int)))=b4; generalize (zh v5_0 r3.1.length)=b5; refine of4 ?_; revert b0 b1 b2 b3 b4 b5; exact bl6 (by kernel_rfl)) | (simp only [hg10,hG10_0,hG10_1,hG11_0,hG11_1,oc]; done) | (simp_all; done) | (simp only [hg10,hG10_0,hG10_1,hG11_0,hG11_1,oc]; rfl))) ?_;refine zA (by kernel_rfl) ?_
        revert h
        refine xC rfl rfl (fun hc h=>?_) (fun hc h=>?_)
        ·refine zv<|zq<|zj zu rfl rfl<|zd ?_
         obtain rfl:=Option.some.inj h;have h:=hk4;dsimp only [sm] at h;obtain rfl:=Option.some.inj h;refine ⟨_,(Wk.pick [2] [] rfl rfl),_,_,rfl,rfl,?_⟩;exact ⟨rfl,rfl⟩
        refine za ?_;obtain ⟨hG9,h⟩:=zw h;refine zq<|zj zu rfl (by simp only [hG9,oc]) ?_
        refine ⟨(n,_),h,Nat.lt_succ_self _,(Wk.pick [8,3,4,6] [] rfl rfl)⟩
   refine zr ?_;exact ⟨_,Option.some.inj h,(Wk.pick [] [] rfl rfl)⟩
  ·rintro o4 rfl
   have h:=hk4;dsimp only [sm] at h;refine zv ?_;obtain ⟨r12,hr12,h⟩:=bd h;refine zq<|zg (w_lives31   r12 hr12) rfl ⟨rfl,rfl⟩ rfl Tryz.func10 rfl rfl rfl rfl rfl rfl<|zj zu rfl rfl ?_
   cases h;exact zd ⟨_,(Wk.pick [2] [] rfl rfl),_,_,rfl,rfl,rfl,rfl⟩
end Go.Proofs.YtihcolehefloeaaGreatDoor

/- FlatsRows, FlatsPlan: the models answer true. -/
namespace Go.Proofs.YtihcolehefloeaaGreatDoor
open Go.RowKit
theorem text31_eq (l:List zO) (hl:l.length≤20000000) (hn:AllN l):m_text31 l=some (textL l):=by
  have hF:l.length < zB:=by unfold zB; omega
  have hL:qZ l zB [] 0=some (tx l l.length):=loopS (fun n i s=>qZ l n s i) l.length (fun k=>tx l k) [] (tx l l.length) rfl hF (fun n k hk=>by
    show qZ l (n+1) (tx l k) k=qZ l n (tx l (k+1)) (k+1);have h1:=tx_len l k;have h2:=textT_len (l.getD k qr.zero);have h3:=optext_eq _ (getD_N hn k hk);rw [qZ,tx,Int.toNat_natCast,h3]
    by_cases h0:0 < k
    · rw [if_pos h0]
      simp (disch:=((try simp [zh,zk,ze, -List.getD_eq_getElem?_getD]); try omega; done)) only [zF,qh,zL,Option.bind_some]
    · rw [if_neg h0]
      simp (disch:=((try simp [zh,zk,ze, -List.getD_eq_getElem?_getD]); try omega; done)) only [zF,qh,zL,Option.bind_some]) (fun n=>by
    show qZ l (n+1) (tx l l.length) l.length=_;rw [qZ,zL (by simp)])
  unfold m_text31;rw [hL]
  rfl
structure Comp (c:List (List zT)):Prop where
  fit:Fit c
  slim:Slim c
  comp:qA c=some ((zG c,qD c c.length),0)
  len:qN (zG c) (zG c).length≤4096
  slots:∀ k,k≤c.length→((qD c c.length).getD k []).length≤16
theorem comp_ok (w:Int) (chs:List T1) (hw:0≤w∧w≤255) (hb:∀ c∈chs,Byt c):∃ rows,m_cof13 (w,chs)=some rows∧Comp rows:=by
  obtain ⟨rows,e,h1,h9,ho,hR,q,b,hq,hr⟩:=cof_ok2 w chs hw hb;obtain ⟨F,S,hc⟩:=rws_check hq hr ho h9 hR;have h:=flcompile_eq F hc;rw [if_neg (by have:=size_ok F S; omega)] at h;obtain ⟨e0,g1,g⟩:=flcompile_all rows;rw [hc] at g1;cases g1
  rcases g with ⟨g,_⟩ | ⟨_,g | ⟨g1,g2,g3,g4⟩⟩
  · exact absurd rfl g
  · rw [h] at g
    injection g with g
    injection g with _ g
    exact absurd g (by decide)
  · exact ⟨rows,e,F,S,h,g3,g4⟩
theorem flat_take (P:List T4) (k:Nat) (hk:k≤P.length):P.flatten.take (qN P k)=(P.take k).flatten:=by
  have e:P.flatten=(P.take k).flatten++(P.drop k).flatten:=by rw [← List.flatten_append,List.take_append_drop]
  rw [e,← flat_lenTo P k hk,List.take_left]
theorem flatsRows_eq (w:Int) (chs:List T1) (hw:0≤w∧w≤255) (hb:∀ c∈chs,Byt c):m_flatsRows (w,chs)=some true:=by
  obtain ⟨rows,e,C⟩:=comp_ok w chs hw hb;have h31:=C.fit.len;have hpl:=parts_len rows;obtain ⟨q,q1⟩:=flcomp_eq C.comp h31 C.len;have q2:=flrows_eq C.comp h31 C.len;have hN:=flat_N (parts_N C.fit);have htot:(zG rows).flatten.length=qN (zG rows) (zG rows).length:=by
    have:=flat_lenTo (zG rows) (zG rows).length (Nat.le_refl _)
    rwa [List.take_length] at this
  have hbl:(beginsL rows).length=rows.length+1:=xH _ _;unfold m_flatsRows;rw [e,Option.bind_some,q1,Option.bind_some,q2,Option.bind_some];dsimp only;rw [hbl,zF (by simp [zk]; omega),zL (by simp)];have h5:=yQ (fun n i (u:Unit)=>qB rows ((zG rows).flatten,q,0) (beginsL rows,rows.length+1,0) n i) (rows.length+1) (fun _=>()) (.inl ()) (zE (by omega)) (fun n k hk=>by
    show qB rows ((zG rows).flatten,q,0) (beginsL rows,rows.length+1,0) (n+1) k=qB rows ((zG rows).flatten,q,0) (beginsL rows,rows.length+1,0) n (k+1);obtain ⟨p,hp⟩:=fluntil_eq C.comp h31 C.len C.slots k (by omega);have hg:(beginsL rows).getD k 0=(qN (zG rows) (k+1):Int):=fl_get hk;have hul:=flat_lenTo (zG rows) (k+1) (by omega);have hle:=lenTo_mono (zG rows) (k+1) (zG rows).length (by omega) (Nat.le_refl _);have hl4:=C.len;have ht:=flat_take (zG rows) (k+1) (by omega);have hN2:AllN ((zG rows).take (k+1)).flatten:=flat_N fun x hx=>parts_N C.fit x (List.mem_of_mem_take hx)
    have htx:=text31_eq _ (by omega) hN2;have c1:(cond (cond (!(decide ((0:Int)=(0:Int)))) true (!(decide ((qN (zG rows) (k+1):Int)=(qN (zG rows) (k+1):Int))))) true (decide (((qN (zG rows) (zG rows).length:Nat):Int) < (qN (zG rows) (k+1):Int))))=false:=by
      rw [decide_eq_true rfl,decide_eq_true rfl,decide_eq_false (by omega)]
      rfl
    rw [qB];dsimp only;rw [hbl,qh (decide_eq_true (by omega)),hp,Option.bind_some];dsimp only;rw [Int.toNat_natCast,hg,hul,htot,zF (by simp [zh]; omega),c1,zL rfl,htx,Option.bind_some,zF (by simp [zh]; omega),zL rfl,Int.toNat_natCast,ht,htx,Option.bind_some,zL (by simp),zF (by simp [zk]; omega)]) (fun n=>by
    show qB rows ((zG rows).flatten,q,0) (beginsL rows,rows.length+1,0) (n+1) ((rows.length+1:Nat):Int)=_;rw [qB];dsimp only;rw [hbl,zL (by simp)])
  rw [h5,Option.bind_some];dsimp only [sm];rw [lives31_eq]
  rfl
end Go.Proofs.YtihcolehefloeaaGreatDoor

/- FlatsRows: for every chart of the law, whatever the memory and the order that Go leaves open, the law returns true, and its arguments read as before. The listed package-level variables start as the program's text lays them (the card ties them). -/
namespace Go.Proofs.YtihcolehefloeaaGreatDoor
set_option linter.unusedSimpArgs false
set_option linter.unusedVariables false
open Go.ChangeShapes Go.WideShapes Go.ChangeAt Go.WideElems Go.RowKit
theorem u8rng {x:Int} (h:IntKind.u8.min≤x∧x≤IntKind.u8.max):0≤x∧x≤255:=by
  have e1:IntKind.u8.min=0:=rfl;have e2:IntKind.u8.max=255:=rfl;rw [e1,e2] at h;exact h
theorem globs_flatsRows {W:World} (h:laidMetH Tryz.prog Rows.flatsRowsRow.laid W):GlobOk cx (fun b=>b < W.heap.size) W:=by
  rw [MakeChecks.laidMetH_plain _ _ _ (by kernel_rfl)] at h;obtain ⟨ps,⟨g0,t0,cs0,f0,p0,q0,hg0,ht0,hv0,hd0,⟨g1,t1,cs1,f1,p1,q1,hg1,ht1,hv1,hd1,⟨g2,t2,cs2,f2,p2,q2,hg2,ht2,hv2,hd2,⟨g3,t3,cs3,f3,p3,q3,hg3,ht3,hv3,hd3,⟨g4,t4,cs4,f4,p4,q4,hg4,ht4,hv4,hd4,_,_⟩,_⟩,_⟩,_⟩,_⟩,_,_⟩:=h;have e3:=glob_id hg3 (by kernel_rfl:_=some 0);subst e3;have u3:=type_id ht3 (by kernel_rfl:_=some 106);subst u3;have c3:=cells_of_strs (zs:=wordsL) (n:=9) Tryz.underlying106 Tryz.underlying9 (by kernel_rfl) (by kernel_rfl) hd3;have e4:=glob_id hg4 (by kernel_rfl:_=some 1);subst e4;have u4:=type_id ht4 (by kernel_rfl:_=some 108);subst u4;have c4:=cells_of_strs (zs:=dirsL) (n:=2) Tryz.underlying108 Tryz.underlying9 (by kernel_rfl) (by kernel_rfl) hd4;have e2:=glob_id hg2 (by kernel_rfl:_=some 2);subst e2;have u2:=type_id ht2 (by kernel_rfl:_=some 175);subst u2;have c2:=Lib.cells_of_tab (zs:=Lib.pow10Tab) (k:=.u64) (n:=20) Tryz.underlying175 Tryz.underlying166 (by kernel_rfl) (by kernel_rfl) hd2;intro i x hx;have hi:i=0∨i=1∨i=2:=by
    match i,hx with
    | 0,_=>exact .inl rfl
    | 1,_=>exact .inr (.inl rfl)
    | 2,_=>exact .inr (.inr rfl)
    | _+3,h=>cases h
  rcases hi with rfl | rfl | rfl
  · cases hx
    exact gr_of hg3 hv3 (by rw [c3]; exact flat_of_strs _)
  · cases hx
    exact gr_of hg4 hv4 (by rw [c4]; exact flat_of_strs _)
  · cases hx
    exact gr_of hg2 hv2 (by rw [c2]; exact flat_of_ints _)
theorem door_met_flatsRows (os:Os) (args:Array Value):laidMetH Tryz.prog Rows.flatsRowsRow.laid ((World.doorLaid Tryz.prog 400 os).forCall (fun _ _=>0) ⟨#[],args,[]⟩).memory:=
  laidMetH_of_parts3 (fuel:=8) (laidMet_of_run' 8 (by kernel_rfl) (by kernel_rfl)) (by kernel_rfl) (by kernel_rfl)
theorem read_flatsRows:∀ t∈Tryz.f3.params.toList,Tryz.prog.readableRec t=true∧t < Tryz.prog.types.size:=by
  rw [Tryz.params3];intro t ht;simp only [List.mem_cons,List.not_mem_nil,or_false] at ht
  rcases ht with rfl <;> exact ⟨by kernel_rfl,of_decide_eq_true (by kernel_rfl)⟩
set_option maxRecDepth 100000 in
theorem flatsRows_lifted (os:Os) (started:os.Started) (H:Type) (enc:TypeId×Value→H) :
    ReturnsInHanded {} Tryz.checked os 3 .any (fun w args=>(Rows.flatsRowsSpec.pre enc Tryz.prog Tryz.f3 [] false w args∧laidMetH Tryz.prog Rows.flatsRowsRow.laid w)∧sizedMet enc Tryz.prog Tryz.f3 (OpenSpec.ofChange Rows.flatsRowsSpec) false w args)
      (Rows.flatsRowsSpec.post enc Tryz.prog Tryz.f3 false true false false):=by
  refine returnsInHanded_of_change_and (C:=Tryz.checked) (X:=fun w _=>laidMetH Tryz.prog Rows.flatsRowsRow.laid w) (fun _ _ _ hh h=>h.of_heap hh) Tryz.own started (by kernel_rfl) Tryz.func3
    (ChangeSpec.witness_shaped (enc:=enc) (C:=Tryz.checked) (os:=os) (X:=fun w _=>laidMetH Tryz.prog Rows.flatsRowsRow.laid w) false (World.doorLaid Tryz.prog 400 os) #[.agg #[.int .u8 0,.slice none 0 0]] 8 rfl (World.shaped_of_RefB (by kernel_rfl) (by kernel_rfl)) (by kernel_rfl) (by kernel_rfl) (by kernel_rfl) (door_met_flatsRows os _)) ?_
  intro W base args ds gs before hval0 hW _ _ hL _;have hval:∀ (j:Nat) t v,Tryz.f3.params[j]?=some t→args[j]?=some v→Value.okWide Tryz.prog W .any base t v:=hval0;have hW':=hW;obtain ⟨p,q,hA0,hV,rfl,hfz,hnd⟩:=hW;have hA:DataW.TrodAll enc Tryz.prog W 0 (fun _=>true) true Tryz.f3.params.toList args.toList ds p:=hA0;rw [Tryz.params3] at hA hval;obtain ⟨v0,d0,rfl,rfl,h0⟩:=trodAll_one hA;obtain ⟨rfl,rfl⟩:=trodVars_none hV;obtain ⟨x0,hx0,hv0⟩:=open_agg (g:=G5) zu rfl rfl (by kernel_rfl) (hval 0 24 v0 rfl rfl) h0;have hlaw:=AC.law (W:=W) (w_flatsRows x0 none true (flatsRows_eq x0.1 x0.2 (u8rng hx0.1) (fun c hc x hx=>u8rng (hx0.2 c hc x hx)))) (globs_flatsRows hL) (vs:=[v0]) ⟨v0,_,rfl,hv0 _ _ rfl,rfl⟩;refine Calls.mono hlaw fun e W' ⟨v,he,hv,hw⟩=>?_
  subst hv;exact ⟨_,he,post_law hW' rfl rfl (by kernel_rfl) Tryz.underlying4 Tryz.laidOut read_flatsRows hw⟩
theorem flatsRows_row:Rows.FlatsRowsSaid:=
  OpenClaim.holds_of_wide 3 Tryz.f3 rfl rfl rfl rfl rfl rfl rfl ⟨rfl,rfl,rfl,rfl,rfl⟩ rfl rfl rfl rfl rfl (by kernel_rfl) Tryz.func3 (by kernel_rfl)
    (of_decide_eq_true (by kernel_rfl)) (by unfold Func.isWrapper; first | (rw [if_pos (by decide +kernel)]; kernel_rfl) | (rw [if_neg (by decide +kernel)]; exact ⟨rfl,rfl⟩))
    (fun os started H enc _=>flatsRows_lifted os started H enc)
theorem flatsRows_holds:Rows.FlatsRowsCardSaid:=
  Claim7.holds_tied_plain_at .later [] [.data,.data,.data,.data,.data] true Rows.flatsRowsCard.stood.harness false
    flatsRows_row (fun _ h=>by cases h) (by kernel_rfl) (fun _ h=>by cases h) flatsRows_row_tie rfl ⟨rfl,rfl⟩ (by kernel_rfl) rfl
    (fun f fn hf hfn=>by
      obtain rfl:f=3:=Option.some.inj (hf.symm.trans (by kernel_rfl));obtain rfl:fn=Tryz.f3:=(Option.some.inj (Tryz.func3.symm.trans hfn)).symm;exact ⟨by kernel_rfl,fun j t ht=>by
        rw [Tryz.params3] at ht;have hm:t∈[24]:=by simpa using Array.mem_of_getElem? ht
        have hall:([24].all fun u=>!Tryz.prog.wantsStandIn u)=true:=by kernel_rfl
        exact (show Tryz.prog.wantsStandIn t=false by simpa using List.all_eq_true.1 hall t hm)⟩)
    (by kernel_rfl)
end Go.Proofs.YtihcolehefloeaaGreatDoor
