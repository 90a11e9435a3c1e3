/- FlatsErrors: for every chart and every number, the law returns true, and its arguments read as before; the listed package-level variables start as the program's text lays them. -/
import Derived.Test.YtihcolehefloeaaDoorFe4
set_option linter.unusedSimpArgs false
set_option linter.unusedVariables false
set_option maxRecDepth 20000
set_option maxHeartbeats 4000000
/- Courses, plain: where the slots go, and which are held then. -/
namespace Go.Proofs.YtihcolehefloeaaDoor
open Go.RowKit
theorem pw_get {R:Int→Int→Prop} {l:List Int} (h:l.Pairwise R) (i j:Nat) (hij:i < j) (hj:j < l.length):R (l.getD i 0) (l.getD j 0):=by
  rw [List.getD_eq_getElem?_getD,List.getD_eq_getElem?_getD,List.getElem?_eq_getElem hj,List.getElem?_eq_getElem (Nat.lt_trans hij hj)];exact List.pairwise_iff_getElem.1 h i j (Nat.lt_trans hij hj) hj hij
theorem mem_get {l:List Int} (i:Nat) (h:i < l.length):l.getD i 0∈l:=by
  rw [List.getD_eq_getElem?_getD,List.getElem?_eq_getElem h];exact List.getElem_mem h
theorem pw_to {l:List Int} (h:l.Pairwise (·≤·)) (hb:∀ x∈l,1≤x∧x≤40):xZ l=true:=by
  rw [xZ,List.all_eq_true];intro i hi;have hi2:i < l.length:=by simpa using hi
  have h1:=hb _ (mem_get i hi2);simp only [toAt,Bool.and_eq_true,Bool.or_eq_true,decide_eq_true_eq,Int.toNat_natCast];refine ⟨h1,?_⟩
  by_cases h0:i=0
  · left; omega
  · right
    rw [show ((i:Int) - 1).toNat=i - 1 by omega];exact pw_get h (i - 1) i (by omega) hi2
theorem pw_all {l:List Int} (h:l.Pairwise (· < ·)) (hb:∀ x∈l,1≤x∧x≤40):zU l=true:=by
  rw [zU,List.all_eq_true];intro i hi;have hi2:i < l.length:=by simpa using hi
  have h1:=hb _ (mem_get i hi2);simp only [okAt,Bool.and_eq_true,Bool.or_eq_true,decide_eq_true_eq,Int.toNat_natCast];refine ⟨h1,?_⟩
  by_cases h0:i=0
  · left; omega
  · right
    rw [show ((i:Int) - 1).toNat=i - 1 by omega];exact pw_get h (i - 1) i (by omega) hi2
theorem pw_le {l:List Int} (h:l.Pairwise (· < ·)):l.Pairwise (·≤·):=h.imp fun h=>Int.le_of_lt h
theorem compact_snoc (p:List Int) (x:Int) (h:∀ y,p.getLast?=some y→y≠x):Lib.compact (p++[x])=Lib.compact p++[x]:=by
  unfold Lib.compact;rw [List.length_append,List.length_singleton,Lib.compactUpTo_succ];have hx:(p++[x]).toArray[p.length]! = x:=by simp
  have e1:Lib.compactUpTo (p++[x]).toArray p.length=Lib.compactUpTo p.toArray p.length:=by
    unfold Lib.compactUpTo;have hg:∀ j,j < p.length→(p++[x]).toArray[j]! = p.toArray[j]!:=fun j hj=>by
      simp [List.getElem?_append_left hj]
    have hf:(List.range p.length).filter (Lib.keeps (p++[x]).toArray)=(List.range p.length).filter (Lib.keeps p.toArray):=by
      refine List.filter_congr fun j hj=>?_
      have hj':j < p.length:=by simpa using hj
      unfold Lib.keeps;rw [hg j hj',hg (j - 1) (by omega)]
    rw [hf];refine List.map_congr_left fun j hj=>?_
    exact hg j (by simpa using (List.mem_filter.1 hj).1)
  rw [e1,hx]
  congr 1
  rw [if_pos];unfold Lib.keeps
  by_cases h0:p.length=0
  · simp [h0]
  · have hl:p.getLast?=some (p.toArray[p.length - 1]!):=by
      rw [List.getLast?_eq_getElem?]
      simp [List.getElem?_eq_getElem (show p.length - 1 < p.length by omega)]
    have h2:=h _ hl;have h3:(p++[x]).toArray[p.length - 1]! = p.toArray[p.length - 1]!:=by
      simp [List.getElem?_append_left (show p.length - 1 < p.length by omega)]
    rw [hx,h3];simp only [h0,decide_false,Bool.false_or]
    simpa using fun e=>h2 (by simpa using e.symm)
theorem compact_dup (p:List Int) (x:Int):Lib.compact (p++[x]++[x])=Lib.compact (p++[x]):=by
  have:=Lib.compactUpTo_succ (p++[x]++[x]).toArray (p.length+1)
  unfold Lib.compact;rw [List.length_append,List.length_append,List.length_singleton,this];have hk:Lib.keeps (p++[x]++[x]).toArray (p.length+1)=false:=by
    unfold Lib.keeps
    simp
  rw [hk];simp only [Bool.false_eq_true,if_false,List.append_nil];unfold Lib.compactUpTo;have hg:∀ j,j < p.length+1→(p++[x]++[x]).toArray[j]! = (p++[x]).toArray[j]!:=fun j hj=>by
    simp only [List.getElem!_toArray,List.getElem!_eq_getElem?_getD];rw [List.getElem?_append_left (l₁:=p++[x]) (by simp; omega)]
  have hf:(List.range (p.length+1)).filter (Lib.keeps (p++[x]++[x]).toArray)=(List.range (p.length+1)).filter (Lib.keeps (p++[x]).toArray):=by
    refine List.filter_congr fun j hj=>?_
    have hj':j < p.length+1:=by simpa using hj
    unfold Lib.keeps;rw [hg j hj',hg (j - 1) (by omega)]
  rw [hf];refine List.map_congr_left fun j hj=>?_
  exact hg j (by simpa using (List.mem_filter.1 hj).1)
theorem compact_inc:∀ (q p:List Int),q.Pairwise (· < ·)→(∀ x∈p,∀ y∈q,x < y)→Lib.compact (p++q)=Lib.compact p++q
  | [],p,_,_=>by simp
  | y :: q,p,h,hc=>by
    have h1:=List.pairwise_cons.1 h;rw [show p++y :: q=(p++[y])++q by simp,compact_inc q (p++[y]) h1.2 (fun x hx z hz=>by
      rcases List.mem_append.1 hx with hx | hx
      · exact hc x hx z (List.mem_cons_of_mem _ hz)
      · simp only [List.mem_singleton] at hx
        subst hx;exact h1.1 z hz),compact_snoc p y (fun z hz=>by
      have:=hc z (List.mem_of_getLast? hz) y List.mem_cons_self
      omega)]
    simp
def yo (l:List qn) (k:Nat):List Int:=if qa (l.getD k zS)=0 then [] else (List.range (qb (l.getD k zS)).toNat).map fun (j:Nat)=>nx l k+j
def qP (l:List qn):Nat→List Int
  | 0=>[]
  | k+1=>qP l k++yo l k
theorem run_pw (a:Int) (n:Nat):((List.range n).map fun (j:Nat)=>a+j).Pairwise (· < ·):=by
  rw [List.pairwise_map];exact List.pairwise_lt_range.imp fun h=>by omega
theorem run_mem {a:Int} {n:Nat} {x:Int} (h:x∈(List.range n).map fun (j:Nat)=>a+j):a≤x∧x < a+n:=by
  obtain ⟨j,hj,rfl⟩:=List.mem_map.1 h
  have:j < n:=by simpa using hj
  omega
theorem toAt1_mem {l:List qn} (h:l.all stOk=true) {k:Nat} (hk:k < l.length) {x:Int} (hx:x∈toAt1 l k):nx l k≤x∧x < nx l (k+1):=by
  obtain ⟨j,hj,rfl⟩:=List.mem_map.1 hx
  have:=make_pos (yl h k hk)
  rw [nx_succ l k hk];unfold minI
  split <;> omega
theorem toTo_mem {l:List qn} (h:l.all stOk=true):∀ k,k≤l.length→∀ x∈toTo l k,13≤x∧x < nx l k
  | 0,_,x,hx=>by cases hx
  | k+1,hk,x,hx=>by
    have hn:=nx_succ l k (by omega)
    have:=xl (l.getD k zS)
    have hs:=sumTo_le qb xl l k (by omega)
    rcases List.mem_append.1 hx with hx | hx
    · have:=toTo_mem h k (by omega) x hx
      omega
    · have:=toAt1_mem h (by omega) hx
      unfold nx at *;omega
theorem toTo_pw {l:List qn} (h:l.all stOk=true):∀ k,k≤l.length→(toTo l k).Pairwise (·≤·)
  | 0,_=>.nil
  | k+1,hk=>by
    refine List.pairwise_append.2 ⟨toTo_pw h k (by omega),?_,fun x hx y hy=>?_⟩
    · unfold toAt1
      rw [List.pairwise_map];exact List.pairwise_lt_range.imp fun h=>by unfold minI; split <;> split <;> omega
    · have h1:=toTo_mem h k (by omega) x hx
      have h2:=toAt1_mem h (by omega) hy;omega
theorem heldAt_mem {l:List qn} {k:Nat} (hk:k < l.length) {x:Int} (hx:x∈yo l k):nx l k≤x∧x < nx l (k+1):=by
  unfold yo at hx
  split at hx
  · cases hx
  · have:=run_mem hx
    have:=xl (l.getD k zS)
    rw [nx_succ l k hk];omega
theorem heldTo_mem {l:List qn}:∀ k,k≤l.length→∀ x∈qP l k,13≤x∧x < nx l k
  | 0,_,x,hx=>by cases hx
  | k+1,hk,x,hx=>by
    have hn:=nx_succ l k (by omega)
    have:=xl (l.getD k zS)
    have hs:=sumTo_le qb xl l k (by omega)
    rcases List.mem_append.1 hx with hx | hx
    · have:=heldTo_mem k (by omega) x hx
      omega
    · have:=heldAt_mem (by omega) hx
      unfold nx at *;omega
theorem heldAt_pw (l:List qn) (k:Nat):(yo l k).Pairwise (· < ·):=by
  unfold yo
  split
  · exact .nil
  · exact run_pw _ _
theorem heldTo_pw {l:List qn}:∀ k,k≤l.length→(qP l k).Pairwise (· < ·)
  | 0,_=>.nil
  | k+1,hk=>by
    refine List.pairwise_append.2 ⟨heldTo_pw k (by omega),heldAt_pw l k,fun x hx y hy=>?_⟩;have h1:=heldTo_mem k (by omega) x hx;have h2:=heldAt_mem (by omega) hy;omega
theorem compact_to {l:List qn} (h:l.all stOk=true):∀ k,k≤l.length→Lib.compact (toTo l k)=qP l k
  | 0,_=>rfl
  | k+1,hk=>by
    have ih:=compact_to h k (by omega);have hm:=toTo_mem h k (by omega);rw [toTo,qP,← ih]
    rcases need_make (yl h k (by omega)) with h0 | ⟨h2,h1⟩ | he
    · have e1:toAt1 l k=[]:=by unfold toAt1; rw [h0]; rfl
      have e2:yo l k=[]:=by unfold yo; rw [if_pos h0]
      rw [e1,e2,List.append_nil,List.append_nil]
    · have e1:toAt1 l k=[nx l k]++[nx l k]:=by unfold toAt1; rw [h2,h1]; simp [List.range_succ,minI]
      have e2:yo l k=[nx l k]:=by unfold yo; rw [if_neg (by omega),h1]; simp [List.range_succ]
      rw [e1,e2,← List.append_assoc,compact_dup,compact_snoc];intro y hy
      have:=hm y (List.mem_of_getLast? hy)
      omega
    · have hp:=make_pos (yl h k (by omega))
      have e1:toAt1 l k=yo l k:=by
        unfold toAt1 yo;rw [if_neg (by omega),he];refine List.map_congr_left fun j hj=>?_
        have:j < (qb (l.getD k zS)).toNat:=by simpa using hj
        unfold minI;rw [if_neg (by omega)]
      rw [e1];refine compact_inc _ _ (heldAt_pw l k) fun x hx y hy=>?_
      have h1:=hm x hx;have h2:=heldAt_mem (by omega) hy;omega
theorem heldTo_pre (l:List qn) (k:Nat):∀ m,k≤m→∃ r,qP l m=qP l k++r
  | 0,h=>⟨[],by rw [show k=0 by omega]; rfl⟩
  | m+1,h=>by
    by_cases e:k=m+1
    · exact ⟨[],by rw [e,List.append_nil]⟩
    · obtain ⟨r,hr⟩:=heldTo_pre l k m (by omega)
      exact ⟨r++yo l m,by rw [qP,hr,List.append_assoc]⟩
theorem held_get (l:List qn) {k m:Nat} (hk:k < m) (h0:qa (l.getD k zS)≠0) (j:Nat) (hj:(j:Int) < qb (l.getD k zS)):(qP l m).getD ((qP l k).length+j) 0=nx l k+j∧(qP l k).length+j < (qP l m).length:=by
  obtain ⟨r,hr⟩:=heldTo_pre l (k+1) m (by omega);have hl:j < (yo l k).length:=by unfold yo; rw [if_neg h0,List.length_map,List.length_range]; omega
  rw [hr,qP];refine ⟨?_,by simp only [List.length_append]; omega⟩;rw [List.getD_eq_getElem?_getD,List.append_assoc,List.getElem?_append_right (by omega),Nat.add_sub_cancel_left,List.getElem?_append_left hl];unfold yo;rw [if_neg h0]
  have:j < (qb (l.getD k zS)).toNat:=by omega
  rw [List.getElem?_map,List.getElem?_range this]
  rfl
theorem index_eq (l:List Int) (p:Nat) (hp:p < l.length) (hl:l.length≤1000) (h:l.Pairwise (· < ·)):m_index l (l.getD p 0)=some (p:Int):=by
  unfold m_index
  have:=loop0 (fun n i (s:Unit)=>xe l (l.getD p 0) n i) p (fun _=>()) (.inr (p:Int)) (zD (by omega)) (fun n k hk=>by
    show xe l (l.getD p 0) (n+1) k=xe l (l.getD p 0) n (k+1);have hlt:=pw_get h k p hk hp;rw [xe,qA (decide_eq_true (by omega)),zF (by simp [zi]; omega),Int.toNat_natCast,qj (decide_eq_false (by omega)),zF (by simp [zk]; omega)]) (fun n=>by
    show xe l (l.getD p 0) (n+1) p=some (.inr (p:Int));rw [xe,qA (decide_eq_true (by omega)),zF (by simp [zi]; omega),Int.toNat_natCast,qA (decide_eq_true rfl)])
  rw [this]
  rfl
end Go.Proofs.YtihcolehefloeaaDoor

/- Courses, plain: cables. -/
namespace Go.Proofs.YtihcolehefloeaaDoor
open Go.RowKit
theorem clone_eq (l:List Int) (h0:0 < l.length) (h:l.length≤1000):yk l=some l:=by
  unfold yk;rw [zF (by simpa using h0),qj rfl,zF (by simp [ze]; omega)]
  rfl
theorem cbsizes_eq (a b:Nat) (ha:1≤a) (hb:1≤b) (hab:a+b≤4):m_cbsizes a b=some 0:=by
  unfold m_cbsizes;rw [zF (by simp [zk]; omega),qj (by simp; omega)]
theorem set_same {l:List Int} {q:Nat} {x:Int} (hq:q < l.length) (h:l.getD q 0=x):l.set q x=l:=by
  refine List.ext_getElem? fun j=>?_
  rw [List.getElem?_set]
  by_cases e:q=j
  · subst e
    rw [List.getD_eq_getElem?_getD,List.getElem?_eq_getElem hq] at h;simp only [Option.getD_some] at h
    simp [hq,h]
  · simp [e]
theorem crossT_eq (bed:Int) (x:List Int×List Int×Int×List Int) (ops:List zO) (h1:x.2.1.length≤1000) (h2:ops.length≤2000000):m_crossT bed x ops=some (ops++x.2.1.map fun k=>(7,0,(bed,k),0,0)):=by
  unfold m_crossT
  have:=xH (fun n (s:Int×List zO)=>qW bed x n s.1 s.2) x.2.1.length (fun k=>((k:Int),ops++(x.2.1.take k).map fun k=>(7,0,(bed,k),0,0))) (0,ops) (ops++x.2.1.map fun k=>(7,0,(bed,k),0,0)) (by simp) (zD (by omega)) (fun n k hk=>by
    show qW bed x (n+1) k (ops++(x.2.1.take k).map fun k=>(7,0,(bed,k),0,0))=qW bed x n ((k+1:Nat):Int) (ops++(x.2.1.take (k+1)).map fun k=>(7,0,(bed,k),0,0));rw [qW,qA (decide_eq_true (by omega)),zF (by simp [zi]; omega),zF (by simp [ze]; omega),zF (by simp [zk]; omega),take_d x.2.1 0 k hk,Int.toNat_natCast]
    simp) (fun n=>by
    show qW bed x (n+1) x.2.1.length _=_;rw [qW,qj (by simp),List.take_length])
  dsimp only at this;rw [this]
  rfl
def fl (n:Nat) (f:Nat→Int):List Int:=(List.range n).map f
theorem fl_get {n:Nat} {f:Nat→Int} {q:Nat} (h:q < n):(fl n f).getD q 0=f q:=by
  rw [List.getD_eq_getElem?_getD,fl,List.getElem?_map,List.getElem?_range h]
  rfl
theorem xQ (n:Nat) (f:Nat→Int):(fl n f).length=n:=by simp [fl]
theorem fl_mem {n:Nat} {f:Nat→Int} {p:Int→Prop} (h:∀ q,q < n→p (f q)):∀ x∈fl n f,p x:=fun x hx=>by
  obtain ⟨q,hq,rfl⟩:=List.mem_map.1 hx;exact h q (by simpa using hq)
theorem fl_pw {n:Nat} {f:Nat→Int} (h:∀ q,q+1 < n→f q < f (q+1)):(fl n f).Pairwise (· < ·):=by
  unfold fl;rw [List.pairwise_map,List.pairwise_iff_getElem];intro i j hi hj hij;rw [List.getElem_range,List.getElem_range];have hj':j < n:=by simpa using hj
  clear hi hj
  induction j with
  | zero=>omega
  | succ j ih=>
    by_cases e:i=j
    · rw [e]; exact h j hj'
    · exact Int.lt_trans (ih (by omega) (by omega)) (h j hj')
theorem fl_of (l:List Int):l=fl l.length (fun q=>l.getD q 0):=by
  refine List.ext_getElem? fun j=>?_
  unfold fl
  by_cases h:j < l.length
  · rw [List.getElem?_map,List.getElem?_range h,List.getElem?_eq_getElem h]
    simp [List.getD_eq_getElem?_getD,List.getElem?_eq_getElem h]
  · simp [h]
theorem fl_set {n k:Nat} {f g:Nat→Int} {x:Int} (hk:k < n) (h1:g k=x) (h2:∀ i,i≠k→g i=f i):(fl n f).set k x=fl n g:=map_set n k f g x hk h1 h2
structure Cr (l:List Int) (i a b:Nat) (p:Int):Prop where
  pw:l.Pairwise (· < ·)
  mem:∀ x∈l,13≤x∧x≤28
  len:i+a+b≤l.length
  run:∀ j:Nat,j < a+b→l.getD (i+j) 0=p+j
  ha:1≤a
  hb:1≤b
  hab:a+b≤4
theorem Cr.all {l:List Int} {i a b:Nat} {p:Int} (h:Cr l i a b p):zU l=true:=pw_all h.pw fun x hx=>by have:=h.mem x hx; omega
theorem Cr.short {l:List Int} {i a b:Nat} {p:Int} (h:Cr l i a b p):l.length≤40:=chk_len l h.all
theorem Cr.get {l:List Int} {i a b:Nat} {p:Int} (h:Cr l i a b p) (q:Nat) (hq:q < l.length):13≤l.getD q 0∧l.getD q 0≤28:=h.mem _ (mem_get q hq)
theorem Cr.p {l:List Int} {i a b:Nat} {p:Int} (h:Cr l i a b p):l.getD i 0=p∧13≤p∧p+a+b≤29:=by
  have h1:=h.run 0 (by have:=h.ha; omega);have h2:=h.run (a+b - 1) (by have:=h.ha; omega);have h3:=h.get i (by have:=h.len; have:=h.ha; omega);have h4:=h.get (i+(a+b - 1)) (by have:=h.len; have:=h.ha; omega)
  have:=h.ha
  rw [Nat.add_zero] at h1;omega
def frR (l:List Int) (e:Nat) (f0:Int):Nat→Int
  | 0=>f0
  | m+1=>(if l.getD (e+m) 0 < frR l e f0 m then frR l e f0 m else l.getD (e+m) 0)+1
def plR (l:List Int) (e:Nat) (f0:Int) (m:Nat):Int:=if l.getD (e+m) 0 < frR l e f0 m then frR l e f0 m else l.getD (e+m) 0
theorem fr_bounds {l:List Int} {i a b:Nat} {p:Int} (h:Cr l i a b p):∀ m,i+a+b+m≤l.length→p+2 * a+b+m≤frR l (i+a+b) (p+2 * a+b) m∧(∀ q,l.getD (i+a+b+m - 1) 0=q→frR l (i+a+b) (p+2 * a+b) m≤q+1+a)
  | 0,_=>by
    have h2:=h.run (a+b - 1) (by have:=h.ha; omega)
    have:=h.ha
    have e:i+a+b+0 - 1=i+(a+b - 1):=by omega
    refine ⟨by simp [frR],fun q hq=>?_⟩;rw [e,h2] at hq;simp only [frR];omega
  | m+1,hm=>by
    obtain ⟨h1,h2⟩:=fr_bounds h m (by omega);have h3:=h2 _ rfl;have h4:=pw_get h.pw (i+a+b+m - 1) (i+a+b+m) (by have:=h.ha; omega) (by omega);refine ⟨?_,fun q hq=>?_⟩
    · unfold frR
      split <;> omega
    · rw [show i+a+b+(m+1) - 1=i+a+b+m by omega] at hq
      unfold frR;subst hq
      split <;> omega
theorem pl_bounds {l:List Int} {i a b:Nat} {p:Int} (h:Cr l i a b p) (m:Nat) (hm:i+a+b+m < l.length):p+2 * a+b+m≤plR l (i+a+b) (p+2 * a+b) m∧plR l (i+a+b) (p+2 * a+b) m≤l.getD (i+a+b+m) 0+a∧frR l (i+a+b) (p+2 * a+b) m≤plR l (i+a+b) (p+2 * a+b) m:=by
  obtain ⟨h1,h2⟩:=fr_bounds h m (by omega);have h3:=h2 _ rfl;have h4:=pw_get h.pw (i+a+b+m - 1) (i+a+b+m) (by have:=h.ha; omega) (by omega);unfold plR
  split <;> omega
def rmB (l:List Int) (e:Nat) (f0:Int) (m q:Nat):Int:=if e≤q∧q < e+m then plR l e f0 (q - e) else l.getD q 0
def bhF (i k:Nat) (v:Int) (f:Nat→Int) (q:Nat):Int:=if i≤q∧q < i+k then v+((q:Int) - i) else f q
theorem leftbehind_ok {l:List Int} {i a b:Nat} {p:Int} (h:Cr l i a b p):∃ room across by_ behind,m_leftbehind l i a b=some ((room,(across,(by_,behind))),true)∧across.length≤4∧xZ room=true∧room.length=l.length∧zU behind=true∧behind.length=l.length∧(∀ q,q < l.length→-4≤room.getD q 0 - l.getD q 0∧room.getD q 0 - l.getD q 0≤4)∧(∀ q,q < l.length→-4≤behind.getD q 0 - l.getD q 0∧behind.getD q 0 - l.getD q 0≤4):=by
  obtain ⟨hp1,hp2,hp3⟩:=h.p;have hs:=h.short;have ha:=h.ha;have hb:=h.hb;have hab:=h.hab;have hln:=h.len;have hc:yk l=some l:=clone_eq l (by omega) (by omega);have h3:zZ l i a b zC 0 l=some l:=xH (fun n (s:Int×List Int)=>zZ l i a b n s.1 s.2) (a+b) (fun k=>((k:Int),l)) (0,l) l rfl (zD (by omega)) (fun n k hk=>by
    show zZ l i a b (n+1) k l=zZ l i a b n ((k+1:Nat):Int) l;have hr:=h.run k hk;rw [zZ,qA (decide_eq_true (by omega)),Int.toNat_natCast,hp1,zF (by simp [zk,zi]; omega),zF (by simp [zk]; omega),show ((i:Int)+k).toNat=i+k by omega,set_same (by omega) hr]
    rfl) (fun n=>by
    show zZ l i a b (n+1) ((a+b:Nat):Int) l=_;rw [zZ,qj (decide_eq_false (by omega))])
  have h7:zY l zC ((i:Int)+a+b) (p+2 * a+b) l=some (frR l (i+a+b) (p+2 * a+b) (l.length - (i+a+b)),fl l.length (rmB l (i+a+b) (p+2 * a+b) (l.length - (i+a+b)))):=
    xH (fun n (s:Int×Int×List Int)=>zY l n s.1 s.2.1 s.2.2) (l.length - (i+a+b)) (fun m=>(((i+a+b+m:Nat):Int),frR l (i+a+b) (p+2 * a+b) m,fl l.length (rmB l (i+a+b) (p+2 * a+b) m))) (_,_,l) _
      (by
        have e1:((i+a+b+0:Nat):Int)=(i:Int)+a+b:=by omega
        have e2:fl l.length (rmB l (i+a+b) (p+2 * a+b) 0)=l:=by
          conv=>rhs; rw [fl_of l]
          unfold fl;refine List.map_congr_left fun q _=>?_
          unfold rmB;rw [if_neg (by omega)]
        rw [e1,e2]
        rfl) (zD (by omega)) (fun n m hm=>by
      show zY l (n+1) ((i+a+b+m:Nat):Int) (frR l (i+a+b) (p+2 * a+b) m) (fl l.length (rmB l (i+a+b) (p+2 * a+b) m))=zY l n ((i+a+b+(m+1):Nat):Int) (frR l (i+a+b) (p+2 * a+b) (m+1)) (fl l.length (rmB l (i+a+b) (p+2 * a+b) (m+1)));obtain ⟨g1,g2,g3⟩:=pl_bounds h m (by omega);have g4:=h.get (i+a+b+m) (by omega);have hlb:m_lbk (l.getD (i+a+b+m) 0) (frR l (i+a+b) (p+2 * a+b) m)=some (plR l (i+a+b) (p+2 * a+b) m,frR l (i+a+b) (p+2 * a+b) (m+1)):=by
        unfold m_lbk;rw [show (if l.getD (i+a+b+m) 0 < frR l (i+a+b) (p+2 * a+b) m then frR l (i+a+b) (p+2 * a+b) m else l.getD (i+a+b+m) 0)=plR l (i+a+b) (p+2 * a+b) m from rfl,zF (by simp [zk]; omega)]
        rfl
      rw [zY,qA (decide_eq_true (by omega)),Int.toNat_natCast,zF (by simp [zi]; omega),hlb,Option.bind_some,zF (by simp [zi,xQ]; omega),zF (by simp [zk]; omega)];rw [fl_set (g:=rmB l (i+a+b) (p+2 * a+b) (m+1)) (by omega) (by unfold rmB; rw [if_pos (by omega),Nat.add_sub_cancel_left]) (fun q hq=>by
        unfold rmB
        by_cases hq2:i+a+b≤q∧q < i+a+b+m
        · rw [if_pos hq2,if_pos (by omega)]
        · rw [if_neg hq2,if_neg (by omega)])]
      rfl) (fun n=>by
      show zY l (n+1) ((i+a+b+(l.length - (i+a+b)):Nat):Int) _ _=_;rw [zY,qj (decide_eq_false (by omega))])
  obtain ⟨f0,hf0⟩:∃ f0,p+2 * a+b=f0:=⟨_,rfl⟩
  obtain ⟨e,he⟩:∃ e,i+a+b=e:=⟨_,rfl⟩
  have hfr:=fr_bounds h (l.length - (i+a+b)) (by omega);have hlast:=h.get (l.length - 1) (by omega);have hfr2:=hfr.2 _ rfl;rw [show i+a+b+(l.length - (i+a+b)) - 1=l.length - 1 by omega] at hfr2;have hpl:=fun m hm=>pl_bounds h m hm
  rw [hf0,he] at h7 hfr hfr2 hpl
  -- where all are when there is room
  have rm_ok:∀ q,q < l.length→13≤rmB l e f0 (l.length - e) q∧rmB l e f0 (l.length - e) q≤40∧(e≤q→f0≤rmB l e f0 (l.length - e) q):=fun q hq=>by
    unfold rmB
    split
    · rename_i hc
      have:=hpl (q - e) (by omega)
      rw [show e+(q - e)=q by omega] at this
      have:=h.get q hq
      omega
    · have:=h.get q hq
      refine ⟨by omega,by omega,fun h=>by omega⟩
  have rm_pw:∀ q,q+1 < l.length→rmB l e f0 (l.length - e) q < rmB l e f0 (l.length - e) (q+1):=fun q hq=>by
    unfold rmB
    by_cases h1:e≤q
    · rw [if_pos (by omega),if_pos (by omega)]
      have h2:=hpl (q+1 - e) (by omega);rw [show q+1 - e=(q - e)+1 by omega] at h2 ⊢;have h4:frR l e f0 (q - e+1)=plR l e f0 (q - e)+1:=rfl;omega
    · rw [if_neg (by omega)]
      by_cases h2:e≤q+1
      · rw [if_pos (by omega)]
        have h3:=hpl (q+1 - e) (by omega);have h4:=h.run (a+b - 1) (by omega);rw [show i+(a+b - 1)=q by omega] at h4;omega
      · rw [if_neg (by omega)]
        exact pw_get h.pw q (q+1) (by omega) hq
  have rm_near:∀ q,q < l.length→-4≤rmB l e f0 (l.length - e) q - l.getD q 0∧rmB l e f0 (l.length - e) q - l.getD q 0≤4:=fun q hq=>by
    unfold rmB
    split
    · rename_i hc
      have h1:=hpl (q - e) (by omega);rw [show e+(q - e)=q by omega] at h1;have h2:l.getD q 0≤plR l e f0 (q - e):=by
        unfold plR;rw [show e+(q - e)=q by omega]
        split <;> omega
      omega
    · omega
  have hrl:=xQ l.length (rmB l e f0 (l.length - e));have h15:zT l i a b zC 0 (fl l.length (rmB l e f0 (l.length - e)))=some (fl l.length (bhF i (a+b) (p+a) (rmB l e f0 (l.length - e)))):=
    xH (fun n (s:Int×List Int)=>zT l i a b n s.1 s.2) (a+b) (fun k=>((k:Int),fl l.length (bhF i k (p+a) (rmB l e f0 (l.length - e))))) (0,_) _ (by
      congr 1
      unfold fl;refine List.map_congr_left fun q _=>?_
      unfold bhF;rw [if_neg (by omega)]) (zD (by omega)) (fun n k hk=>by
      show zT l i a b (n+1) k (fl l.length (bhF i k (p+a) _))=zT l i a b n ((k+1:Nat):Int) (fl l.length (bhF i (k+1) (p+a) _));rw [zT,qA (decide_eq_true (by omega)),Int.toNat_natCast,hp1,zF (by simp [zk,zi,xQ]; omega),zF (by simp [zk]; omega),show ((i:Int)+k).toNat=i+k by omega];rw [fl_set (g:=bhF i (k+1) (p+a) (rmB l e f0 (l.length - e))) (by omega) (by unfold bhF; rw [if_pos (by omega)]; omega) (fun q hq=>by
        unfold bhF
        by_cases hq2:i≤q∧q < i+k
        · rw [if_pos hq2,if_pos (by omega)]
        · rw [if_neg hq2,if_neg (by omega)])]
      rfl) (fun n=>by
      show zT l i a b (n+1) ((a+b:Nat):Int) _=_;rw [zT,qj (decide_eq_false (by omega))])
  have hcut:∀ k,0 < k→i+k≤l.length→yk (((fl l.length (rmB l e f0 (l.length - e))).take (i+k)).drop i)=some (((fl l.length (rmB l e f0 (l.length - e))).take (i+k)).drop i):=fun k h0 hk=>clone_eq _ (by simp [xQ]; omega) (by simp [xQ]; omega)
  refine ⟨fl l.length (rmB l e f0 (l.length - e)),((fl l.length (rmB l e f0 (l.length - e))).take (i+a)).drop i,(a:Int)+b,fl l.length (bhF i (a+b) (p+a) (rmB l e f0 (l.length - e))),?_,by simp [xQ]; omega,pw_to (pw_le (fl_pw rm_pw)) (fl_mem fun q hq=>by have:=rm_ok q hq; omega),hrl,pw_all (fl_pw fun q hq=>?_) (fl_mem fun q hq=>?_),xQ _ _,fun q hq=>?_,fun q hq=>?_⟩
  · unfold m_leftbehind
    rw [zF (by simp [zi]; omega),hc,Option.bind_some,zF (by simp [zk]; omega),zF (by simp [zk]; omega),h3,Option.bind_some,Int.toNat_natCast,hp1,zF (by simp [zk]; omega),zF (by simp [zk]; omega),hf0,h7,Option.bind_some];rw [zF (by simp [zk,xQ]; omega),show ((i:Int)+a).toNat=i+a by omega,hcut a (by omega) (by omega),Option.bind_some,clone_eq _ (by rw [hrl]; omega) (by rw [hrl]; omega),Option.bind_some,zF (by simp [zk]; omega),h15,Option.bind_some,zF (by simp [zk]; omega),decide_eq_true (by omega)]
  · unfold bhF
    have:=rm_ok q (by omega)
    have h5:=rm_ok (q+1) hq
    by_cases h1:i≤q∧q < i+(a+b)
    · rw [if_pos h1]
      by_cases h2:q+1 < i+(a+b)
      · rw [if_pos (by omega)]; omega
      · rw [if_neg (by omega)]
        have:=h5.2.2 (by omega)
        omega
    · rw [if_neg h1]
      by_cases h2:i≤q+1∧q+1 < i+(a+b)
      · rw [if_pos h2]
        have h6:=pw_get h.pw q (q+1) (by omega) hq;have h7:rmB l e f0 (l.length - e) q=l.getD q 0:=by unfold rmB; rw [if_neg (by omega)]
        rw [show q+1=i by omega,hp1] at h6;rw [h7];omega
      · rw [if_neg h2]
        exact rm_pw q hq
  · unfold bhF
    have:=rm_ok q hq
    split <;> omega
  · rw [fl_get hq]
    exact rm_near q hq
  · rw [fl_get hq]
    unfold bhF
    split
    · rename_i hc
      have h1:=h.run (q - i) (by omega);rw [show i+(q - i)=q by omega] at h1;omega
    · exact rm_near q hq
end Go.Proofs.YtihcolehefloeaaDoor

/- Flats, plain: plans of short ways are short. -/
namespace Go.Proofs.YtihcolehefloeaaDoor
open Go.RowKit
theorem move8 (o:List zO) (rk:Int) (l:List Int) (d:Int) (hd:-8≤d∧d≤8):(qd o rk l d).1.length≤o.length+(if d=0 then 0 else 2+2 * l.length):=by
  unfold qd
  by_cases h0:d=0
  · subst h0
    rw [if_pos rfl];exact Nat.le_refl _
  · obtain ⟨f,hf⟩:∃ f,d.natAbs=f+1:=⟨d.natAbs - 1,by omega⟩
    have hb:xT d=d:=by
      unfold xT imax imin
      split <;> split at * <;> omega
    rw [hf,moveF,if_neg h0,hb,if_neg h0,show d - d=0 by omega];have hz:∀ f o rk l,moveF f o rk l 0=(o,rk):=fun f o rk l=>by
      cases f with
      | zero=>rfl
      | succ f=>rw [moveF,if_pos rfl]
    rw [hz];have t1:=yq o rk (rOf rk l d);have t2:=yq (qc o rk (rOf rk l d)++yd 0 0 l) (rOf rk l d) (rOf rk l d+d);simp only [List.length_append,xfers_length] at t2 ⊢;omega
theorem st1_short (fr to:List Int) (hj:∀ i,i+1 < fr.length→to.getD i 0=to.getD (i+1) 0→-8≤fr.getD (i+1) 0 - fr.getD i 0∧fr.getD (i+1) 0 - fr.getD i 0≤8) (hd:∀ i,i < fr.length→-8≤to.getD i 0 - fr.getD i 0∧to.getD i 0 - fr.getD i 0≤8):∀ i:Nat,i≤fr.length→(xW fr to i).1.1.length+4 * (xW fr to i).2.1.length≤4 * i∧((xW fr to i).2.2.length=(xW fr to i).2.1.length)∧∀ d∈(xW fr to i).2.2, -8≤d∧d≤8
  | 0,_=>by simp [xW]
  | i+1,hi=>by
    obtain ⟨h1,h2,h3⟩:=st1_short fr to hj hd i (by omega);unfold xW
    split
    · rename_i h
      have hg:=hj i h.1 h.2;have hm:=move8 (xW fr to i).1.1 (xW fr to i).1.2 [fr.getD i 0] (fr.getD (i+1) 0 - fr.getD i 0) hg;refine ⟨?_,h2,h3⟩;dsimp only;rw [List.length_singleton] at hm
      split at hm <;> omega
    · refine ⟨by simp only [List.length_append,List.length_singleton]; omega,by simp [h2],fun d hd'=>?_⟩
      rcases List.mem_append.1 hd' with h | h
      · exact h3 d h
      · rw [List.mem_singleton.1 h]
        exact hd i (by omega)
theorem seg_len (at_ by_:List Int) (i:Int) (h0:0≤i) (h:i < at_.length):((seg at_ by_ i).length:Int)=tog at_ by_ i - i:=by
  have ht:=xE at_ by_ i h;unfold seg;rw [List.length_drop,List.length_take];omega
def yy (at_ by_:List Int) (p:Int→Bool):List Int→Nat
  | []=>0
  | i :: L=>(if p i then 2+2 * (seg at_ by_ i).length else 0)+yy at_ by_ p L
theorem costs_append (at_ by_:List Int) (p:Int→Bool) (A B:List Int):yy at_ by_ p (A++B)=yy at_ by_ p A+yy at_ by_ p B:=by
  induction A with
  | nil=>simp [yy]
  | cons a A ih=>simp only [List.cons_append,yy,ih]; omega
theorem costs_rev (at_ by_:List Int) (p:Int→Bool) (A:List Int):yy at_ by_ p A.reverse=yy at_ by_ p A:=by
  induction A with
  | nil=>rfl
  | cons a A ih=>rw [List.reverse_cons,costs_append,ih]; simp only [yy]; omega
theorem costs_two (at_ by_:List Int) (p q:Int→Bool) (hpq:∀ i,p i=true→q i=false) (A:List Int):yy at_ by_ p A+yy at_ by_ q A≤yy at_ by_ (fun _=>true) A:=by
  induction A with
  | nil=>simp [yy]
  | cons a A ih=>
    simp only [yy];cases hp:p a with
    | true=>rw [hpq a hp]; simp only [if_true]; simp; omega
    | false=>cases q a <;> simp <;> omega
theorem costs_all (at_ by_:List Int):∀ (f:Nat) (i:Int),0≤i→(i≤at_.length)→(yy at_ by_ (fun _=>true) (stF at_ by_ f i):Int)≤4 * (at_.length - i)
  | 0,i,_,h=>by simp only [stF,yy]; omega
  | f+1,i,h0,h1=>by
    unfold stF
    split
    · rename_i h
      have ht:=xE at_ by_ i h
      have:=costs_all at_ by_ f (tog at_ by_ i) (by omega) (by omega)
      have hs:=seg_len at_ by_ i h0 h;simp only [yy,if_true];omega
    · simp only [yy]; omega
theorem fold_costs (at_ by_:List Int) (p:Int→Bool) (st:List zO×Int→Int→List zO×Int) (hst:∀ q i,(st q i).1.length≤q.1.length+(if p i then 2+2 * (seg at_ by_ i).length else 0)):∀ (L:List Int) (q:List zO×Int),(L.foldl st q).1.length≤q.1.length+yy at_ by_ p L
  | [],q=>by simp [yy]
  | x :: L,q=>by
    have h1:=fold_costs at_ by_ p st hst L (st q x);have h2:=hst q x;simp only [List.foldl_cons,yy];omega
theorem plan_short (fr to:List Int) (hj:∀ i,i+1 < fr.length→to.getD i 0=to.getD (i+1) 0→-8≤fr.getD (i+1) 0 - fr.getD i 0∧fr.getD (i+1) 0 - fr.getD i 0≤8) (hd:∀ i,i < fr.length→-8≤to.getD i 0 - fr.getD i 0∧to.getD i 0 - fr.getD i 0≤8):(qT fr to).length≤4 * fr.length+1:=by
  obtain ⟨h1,h2,h3⟩:=st1_short fr to hj hd fr.length (Nat.le_refl _);obtain ⟨A,hA⟩:∃ A,(xW fr to fr.length).2.1=A:=⟨_,rfl⟩
  obtain ⟨B,hB⟩:∃ B,(xW fr to fr.length).2.2=B:=⟨_,rfl⟩
  rw [hA] at h1 h2;rw [hB] at h2 h3;have hb:∀ i:Nat, -8≤B.getD i 0∧B.getD i 0≤8:=fun i=>getD_all (p:=fun d=>-8≤d∧d≤8) B h3 (by omega) i
  have u:=fold_costs A B (fun i=>decide (0 < B.getD i.toNat 0)) (qk A B) (fun q i=>by
    unfold qk
    split
    · rename_i h
      have:=move8 q.1 q.2 (seg A B i) (B.getD i.toNat 0) (hb _)
      rw [if_neg (by omega)] at this;rw [if_pos (decide_eq_true h)];exact this
    · omega) (zW A B).reverse (xW fr to fr.length).1
  have d:=fold_costs A B (fun i=>decide (B.getD i.toNat 0 < 0)) (qs A B) (fun q i=>by
    unfold qs
    split
    · rename_i h
      have:=move8 q.1 q.2 (seg A B i) (B.getD i.toNat 0) (hb _)
      rw [if_neg (by omega)] at this;rw [if_pos (decide_eq_true h)];exact this
    · omega) (zW A B) ((zW A B).reverse.foldl (qk A B) (xW fr to fr.length).1)
  rw [costs_rev] at u;have c2:=costs_two A B (fun i=>decide (0 < B.getD i.toNat 0)) (fun i=>decide (B.getD i.toNat 0 < 0)) (fun i hi=>decide_eq_false (by have:=of_decide_eq_true hi; omega)) (zW A B);have c1:=costs_all A B A.length 0 (by omega) (by omega);unfold qT planAB;rw [hA,hB];have ht:=yq ((zW A B).foldl (qs A B) ((zW A B).reverse.foldl (qk A B) (xW fr to fr.length).1)).1 ((zW A B).foldl (qs A B) ((zW A B).reverse.foldl (qk A B) (xW fr to fr.length).1)).2 0;have c3:yy A B (fun _=>true) (zW A B)≤4 * A.length:=by
    have:((yy A B (fun _=>true) (zW A B):Nat):Int)≤4 * (A.length - 0):=c1
    omega
  dsimp only;omega
end Go.Proofs.YtihcolehefloeaaDoor

/- Courses, plain: cables, the other way; crossing. -/
namespace Go.Proofs.YtihcolehefloeaaDoor
open Go.RowKit
def frL (l:List Int) (i:Nat) (f0:Int):Nat→Int
  | 0=>f0
  | m+1=>(if frL l i f0 m < l.getD (i - 1 - m) 0 then frL l i f0 m else l.getD (i - 1 - m) 0) - 1
def plL (l:List Int) (i:Nat) (f0:Int) (m:Nat):Int:=if frL l i f0 m < l.getD (i - 1 - m) 0 then frL l i f0 m else l.getD (i - 1 - m) 0
theorem frL_bounds {l:List Int} {i a b:Nat} {p:Int} (h:Cr l i a b p):∀ m,m≤i→frL l i (p - b - 1) m≤p - b - 1 - m∧∀ q,l.getD (i - m) 0=q→q - 1 - b≤frL l i (p - b - 1) m
  | 0,_=>by
    have:=h.p.1
    refine ⟨by simp [frL],fun q hq=>?_⟩;rw [Nat.sub_zero,this] at hq;simp only [frL];omega
  | m+1,hm=>by
    obtain ⟨h1,h2⟩:=frL_bounds h m (by omega);have h3:=h2 _ rfl;have h4:=pw_get h.pw (i - (m+1)) (i - m) (by omega) (by have:=h.len; have:=h.ha; omega);refine ⟨?_,fun q hq=>?_⟩
    · unfold frL
      split <;> omega
    · unfold frL
      rw [show i - 1 - m=i - (m+1) by omega,hq];rw [hq] at h4
      split <;> omega
theorem plL_bounds {l:List Int} {i a b:Nat} {p:Int} (h:Cr l i a b p) (m:Nat) (hm:m < i):plL l i (p - b - 1) m≤p - b - 1 - m∧l.getD (i - 1 - m) 0 - b≤plL l i (p - b - 1) m∧plL l i (p - b - 1) m≤frL l i (p - b - 1) m:=by
  obtain ⟨h1,h2⟩:=frL_bounds h m (by omega);have h3:=h2 _ rfl;have h4:=pw_get h.pw (i - 1 - m) (i - m) (by omega) (by have:=h.len; have:=h.ha; omega);unfold plL
  split <;> omega
def rmL (l:List Int) (i:Nat) (f0:Int) (m q:Nat):Int:=if i - m≤q∧q < i then plL l i f0 (i - 1 - q) else l.getD q 0
theorem leftinfront_ok {l:List Int} {i a b:Nat} {p:Int} (h:Cr l i a b p):∃ room across by_ behind,yf l i a b=some ((room,(across,(by_,behind))),true)∧across.length≤4∧xZ room=true∧room.length=l.length∧zU behind=true∧behind.length=l.length∧(∀ q,q < l.length→-4≤room.getD q 0 - l.getD q 0∧room.getD q 0 - l.getD q 0≤4)∧(∀ q,q < l.length→-4≤behind.getD q 0 - l.getD q 0∧behind.getD q 0 - l.getD q 0≤4):=by
  obtain ⟨hp1,hp2,hp3⟩:=h.p;have hs:=h.short;have ha:=h.ha;have hb:=h.hb;have hab:=h.hab;have hln:=h.len;have hc:yk l=some l:=clone_eq l (by omega) (by omega);have hq:l.getD (((i:Int)+a+b) - 1).toNat 0=p+a+b - 1:=by
    have:=h.run (a+b - 1) (by omega)
    rw [show (((i:Int)+a+b) - 1).toNat=i+(a+b - 1) by omega,this];omega
  have h3:zR l i a b zC 0 l=some l:=xH (fun n (s:Int×List Int)=>zR l i a b n s.1 s.2) (a+b) (fun k=>((k:Int),l)) (0,l) l rfl (zD (by omega)) (fun n k hk=>by
    show zR l i a b (n+1) k l=zR l i a b n ((k+1:Nat):Int) l;have hr:=h.run k hk;rw [zR,qA (decide_eq_true (by omega)),hq,zF (by simp [zk,zi]; omega),zF (by simp [zk]; omega),show ((i:Int)+k).toNat=i+k by omega,set_same (by omega) (by rw [hr]; omega)]
    rfl) (fun n=>by
    show zR l i a b (n+1) ((a+b:Nat):Int) l=_;rw [zR,qj (decide_eq_false (by omega))])
  obtain ⟨f0,hf0⟩:∃ f0,p - b - 1=f0:=⟨_,rfl⟩
  have hfr:=frL_bounds h i (Nat.le_refl _);have hfr2:=hfr.2 _ rfl;have hfirst:=h.get 0 (by omega);rw [Nat.sub_self] at hfr2;have hpl:=fun m hm=>plL_bounds h m hm
  have hfrb:=fun m hm=>frL_bounds h m hm
  rw [hf0] at hfr hfr2 hpl hfrb;have h7:zQ l zC ((i:Int) - 1) f0 l=some (frL l i f0 i,fl l.length (rmL l i f0 i)):=
    xH (fun n (s:Int×Int×List Int)=>zQ l n s.1 s.2.1 s.2.2) i (fun m=>((i:Int) - 1 - (m:Int),frL l i f0 m,fl l.length (rmL l i f0 m))) (_,_,l) _
      (by
        have e1:(i:Int) - 1 - ((0:Nat):Int)=(i:Int) - 1:=by omega
        have e2:fl l.length (rmL l i f0 0)=l:=by
          conv=>rhs; rw [fl_of l]
          unfold fl;refine List.map_congr_left fun q _=>?_
          unfold rmL;rw [if_neg (by omega)]
        rw [e1,e2]
        rfl) (zD (by omega)) (fun n m hm=>by
      show zQ l (n+1) ((i:Int) - 1 - (m:Int)) (frL l i f0 m) (fl l.length (rmL l i f0 m))=zQ l n ((i:Int) - 1 - ((m+1:Nat):Int)) (frL l i f0 (m+1)) (fl l.length (rmL l i f0 (m+1)));obtain ⟨g1,g2,g3⟩:=hpl m hm;have g4:=h.get (i - 1 - m) (by omega);have g5:=(hfrb m (by omega)).2 _ rfl;have g6:=h.get (i - m) (by omega);have g7:=(hfrb m (by omega)).1;have et:((i:Int) - 1 - (m:Int)).toNat=i - 1 - m:=by omega
      have hlb:m_lfk (l.getD (i - 1 - m) 0) (frL l i f0 m)=some (plL l i f0 m,frL l i f0 (m+1)):=by
        unfold m_lfk;rw [show (if frL l i f0 m < l.getD (i - 1 - m) 0 then frL l i f0 m else l.getD (i - 1 - m) 0)=plL l i f0 m from rfl,zF (by simp [zk]; omega)]
        rfl
      rw [zQ,qA (decide_eq_true (by omega)),et,zF (by simp [zi]; omega),hlb,Option.bind_some,zF (by simp [zi,xQ]; omega),zF (by simp [zk]; omega)];rw [fl_set (g:=rmL l i f0 (m+1)) (by omega) (by unfold rmL; rw [if_pos (by omega),show i - 1 - (i - 1 - m)=m by omega]) (fun q hq=>by
        unfold rmL
        by_cases hq2:i - m≤q∧q < i
        · rw [if_pos hq2,if_pos (by omega)]
        · rw [if_neg hq2,if_neg (by omega)]),show (i:Int) - 1 - (m:Int) - 1=(i:Int) - 1 - ((m+1:Nat):Int) by omega]) (fun n=>by
      show zQ l (n+1) ((i:Int) - 1 - (i:Int)) _ _=_;rw [zQ,qj (decide_eq_false (by omega))])
  have rm_ok:∀ q,q < l.length→10≤rmL l i f0 i q∧rmL l i f0 i q≤28∧(q < i→rmL l i f0 i q≤f0):=fun q hq=>by
    unfold rmL
    split
    · rename_i hc
      have:=hpl (i - 1 - q) (by omega)
      rw [show i - 1 - (i - 1 - q)=q by omega] at this
      have:=h.get q hq
      omega
    · have:=h.get q hq
      refine ⟨by omega,by omega,fun h=>by omega⟩
  have rm_pw:∀ q,q+1 < l.length→rmL l i f0 i q < rmL l i f0 i (q+1):=fun q hq=>by
    unfold rmL
    by_cases h1:q+1 < i
    · rw [if_pos (by omega),if_pos (by omega)]
      have h2:=hpl (i - 1 - q) (by omega);rw [show i - 1 - q=(i - 1 - (q+1))+1 by omega] at h2 ⊢;have h4:frL l i f0 (i - 1 - (q+1)+1)=plL l i f0 (i - 1 - (q+1)) - 1:=rfl;omega
    · rw [if_neg (show ¬ (i - i≤q+1∧q+1 < i) by omega)]
      by_cases h2:q < i
      · rw [if_pos (by omega)]
        have h3:=hpl (i - 1 - q) (by omega);rw [show q+1=i by omega,hp1];omega
      · rw [if_neg (by omega)]
        exact pw_get h.pw q (q+1) (by omega) hq
  have rm_near:∀ q,q < l.length→-4≤rmL l i f0 i q - l.getD q 0∧rmL l i f0 i q - l.getD q 0≤4:=fun q hq=>by
    unfold rmL
    split
    · rename_i hc
      have h1:=hpl (i - 1 - q) (by omega);rw [show i - 1 - (i - 1 - q)=q by omega] at h1;have h2:plL l i f0 (i - 1 - q)≤l.getD q 0:=by
        unfold plL;rw [show i - 1 - (i - 1 - q)=q by omega]
        split <;> omega
      omega
    · omega
  have hrl:=xQ l.length (rmL l i f0 i);have h15:zM l i a b zC 0 (fl l.length (rmL l i f0 i))=some (fl l.length (bhF i (a+b) (p - b) (rmL l i f0 i))):=
    xH (fun n (s:Int×List Int)=>zM l i a b n s.1 s.2) (a+b) (fun k=>((k:Int),fl l.length (bhF i k (p - b) (rmL l i f0 i)))) (0,_) _ (by
      congr 1
      unfold fl;refine List.map_congr_left fun q _=>?_
      unfold bhF;rw [if_neg (by omega)]) (zD (by omega)) (fun n k hk=>by
      show zM l i a b (n+1) k (fl l.length (bhF i k (p - b) _))=zM l i a b n ((k+1:Nat):Int) (fl l.length (bhF i (k+1) (p - b) _));rw [zM,qA (decide_eq_true (by omega)),hq,zF (by simp [zk,zi,xQ]; omega),zF (by simp [zk]; omega),show ((i:Int)+k).toNat=i+k by omega];rw [fl_set (g:=bhF i (k+1) (p - b) (rmL l i f0 i)) (by omega) (by unfold bhF; rw [if_pos (by omega)]; omega) (fun q hq=>by
        unfold bhF
        by_cases hq2:i≤q∧q < i+k
        · rw [if_pos hq2,if_pos (by omega)]
        · rw [if_neg hq2,if_neg (by omega)])]
      rfl) (fun n=>by
      show zM l i a b (n+1) ((a+b:Nat):Int) _=_;rw [zM,qj (decide_eq_false (by omega))])
  refine ⟨fl l.length (rmL l i f0 i),((fl l.length (rmL l i f0 i)).take (i+a+b)).drop (i+a),(0:Int) - ((a:Int)+b),fl l.length (bhF i (a+b) (p - b) (rmL l i f0 i)),?_,by simp [xQ]; omega,pw_to (pw_le (fl_pw rm_pw)) (fl_mem fun q hq=>by have:=rm_ok q hq; omega),hrl,pw_all (fl_pw fun q hq=>?_) (fl_mem fun q hq=>?_),xQ _ _,fun q hq=>?_,fun q hq=>?_⟩
  · unfold yf
    rw [zF (by simp [zk,zi]; omega),hc,Option.bind_some,zF (by simp [zk]; omega),zF (by simp [zk]; omega),h3,Option.bind_some,hq,zF (by simp [zk]; omega),zF (by simp [zk]; omega),show p+a+b - 1 - a - 2 * (b:Int)=f0 by omega,h7,Option.bind_some];rw [zF (by simp [zk,xQ]; omega),show ((i:Int)+a).toNat=i+a by omega,show ((i:Int)+a+b).toNat=i+a+b by omega,clone_eq _ (by simp [xQ]; omega) (by simp [xQ]; omega),Option.bind_some,clone_eq _ (by rw [hrl]; omega) (by rw [hrl]; omega),Option.bind_some,zF (by simp [zk]; omega),h15,Option.bind_some,zF (by simp [zk]; omega),decide_eq_true (by omega)]
  · unfold bhF
    have:=rm_ok q (by omega)
    have h5:=rm_ok (q+1) hq
    by_cases h1:i≤q∧q < i+(a+b)
    · rw [if_pos h1]
      by_cases h2:q+1 < i+(a+b)
      · rw [if_pos (by omega)]; omega
      · rw [if_neg (by omega)]
        have h6:=pw_get h.pw q (q+1) (by omega) hq;have h8:=h.run (a+b - 1) (by omega);rw [show i+(a+b - 1)=q by omega] at h8;have h7:rmL l i f0 i (q+1)=l.getD (q+1) 0:=by unfold rmL; rw [if_neg (by omega)]
        omega
    · rw [if_neg h1]
      by_cases h2:i≤q+1∧q+1 < i+(a+b)
      · rw [if_pos h2]
        have:=this.2.2 (by omega)
        omega
      · rw [if_neg h2]
        exact rm_pw q hq
  · unfold bhF
    have:=rm_ok q hq
    split <;> omega
  · rw [fl_get hq]
    exact rm_near q hq
  · rw [fl_get hq]
    unfold bhF
    split
    · rename_i hc
      have h1:=h.run (q - i) (by omega);rw [show i+(q - i)=q by omega] at h1;omega
    · exact rm_near q hq
theorem xf_N (bed:Int) (hb:0≤bed) (l:List Int):AllN (l.map fun k=>((7:Int),(0:Int),(bed,k),(0:Int),(0:Int))):=fun z hz=>by
  obtain ⟨k,_,rfl⟩:=List.mem_map.1 hz;exact ⟨by show (0:Int)≤7; omega,Int.le_refl 0,hb,Int.le_refl 0⟩
theorem rack_N (r:Int):AllN [((3:Int),(0:Int),((0:Int),(0:Int)),(0:Int),r)]:=fun z hz=>by
  simp only [List.mem_singleton] at hz;subst hz;exact ⟨by show (0:Int)≤3; omega,Int.le_refl 0,Int.le_refl 0,Int.le_refl 0⟩
theorem cross_ok2 {l:List Int} {i a b:Nat} {p:Int} (h:Cr l i a b p) (f:Bool):∃ ops,m_cross l i a b f=some (ops,0)∧ops.length≤8 * l.length+12∧AllN ops:=by
  have hs:=h.short;have hch:=check_eq l (by omega);rw [h.all,if_pos rfl] at hch;have hto:xZ l=true:=pw_to (pw_le h.pw) fun x hx=>by have:=h.mem x hx; omega
  have hln:=h.len;have hsz:=cbsizes_eq a b h.ha h.hb h.hab;cases f with
  | true=>
    obtain ⟨room,ac,by_,bh,e,h1,h2,h3,h4,h5,h6,h7⟩:=leftinfront_ok h;have p1:=plan_short l room (fun i hi hr=>by have:=h6 i (by omega); have:=h6 (i+1) (by omega); omega) (fun i hi=>by have:=h6 i hi; omega);have p2:=plan_short bh l (fun i hi hr=>by have:=h7 i (by omega); have:=h7 (i+1) (by omega); omega) (fun i hi=>by have:=h7 i (by omega); omega);refine ⟨(((qT l room++ac.map fun k=>(7,0,(0,k),0,0))++[(3,0,(0,0),0,by_)]++ac.map fun k=>(7,0,(1,k),0,0))++[(3,0,(0,0),0,0)])++qT bh l,?_,by simp only [List.length_append,List.length_map,List.length_singleton]; omega,((((plan_N _ _).append (xf_N 0 (by omega) _)).append (rack_N _)).append (xf_N 1 (by omega) _)).append (rack_N _) |>.append (plan_N _ _)⟩;unfold m_cross;rw [hch,Option.bind_some,qj (by simp),hsz,Option.bind_some,qj (by simp),zF (by simp [zk]; omega),qj (by simp; omega),qA rfl,e,Option.bind_some,qj (by simp)];rw [shift_eq l room h.all h2 h3,Option.bind_some,qj (by simp),crossT_eq _ _ _ (by dsimp only; omega) (by dsimp only; omega),Option.bind_some,zF (by simp [ze]; omega),crossT_eq _ _ _ (by dsimp only; omega) (by simp; omega),Option.bind_some,zF (by simp [ze]; omega)];rw [shift_eq bh l h4 hto h5.symm,Option.bind_some,qj (by simp),zF (by simp [ze]; omega)]
    rfl
  | false=>
    obtain ⟨room,ac,by_,bh,e,h1,h2,h3,h4,h5,h6,h7⟩:=leftbehind_ok h;have p1:=plan_short l room (fun i hi hr=>by have:=h6 i (by omega); have:=h6 (i+1) (by omega); omega) (fun i hi=>by have:=h6 i hi; omega);have p2:=plan_short bh l (fun i hi hr=>by have:=h7 i (by omega); have:=h7 (i+1) (by omega); omega) (fun i hi=>by have:=h7 i (by omega); omega);refine ⟨(((qT l room++ac.map fun k=>(7,0,(0,k),0,0))++[(3,0,(0,0),0,by_)]++ac.map fun k=>(7,0,(1,k),0,0))++[(3,0,(0,0),0,0)])++qT bh l,?_,by simp only [List.length_append,List.length_map,List.length_singleton]; omega,((((plan_N _ _).append (xf_N 0 (by omega) _)).append (rack_N _)).append (xf_N 1 (by omega) _)).append (rack_N _) |>.append (plan_N _ _)⟩;unfold m_cross;rw [hch,Option.bind_some,qj (by simp),hsz,Option.bind_some,qj (by simp),zF (by simp [zk]; omega),qj (by simp; omega),qj rfl,e,Option.bind_some,qj (by simp)];rw [shift_eq l room h.all h2 h3,Option.bind_some,qj (by simp),crossT_eq _ _ _ (by dsimp only; omega) (by dsimp only; omega),Option.bind_some,zF (by simp [ze]; omega),crossT_eq _ _ _ (by dsimp only; omega) (by simp; omega),Option.bind_some,zF (by simp [ze]; omega)];rw [shift_eq bh l h4 hto h5.symm,Option.bind_some,qj (by simp),zF (by simp [ze]; omega)]
    rfl
end Go.Proofs.YtihcolehefloeaaDoor

/- Courses, plain: layouts; preparing a row. -/
namespace Go.Proofs.YtihcolehefloeaaDoor
open Go.RowKit
abbrev LoT:=List (Int×Int)×Int×Int×Int×Int×Int×Int
def xR (x:LoT):List Int:=[x.2.1,x.2.2.1,x.2.2.2.1,x.2.2.2.2.1,x.2.2.2.2.2.1,x.2.2.2.2.2.2]
def ndOk (l:List (Int×Int)) (i:Nat):Bool:=decide ((l.getD i (0,0)).1≤1)&&(decide (13≤(l.getD i (0,0)).2)&&(decide ((l.getD i (0,0)).2≤28)&&(decide (i=0) || decide ((l.getD (i - 1) (0,0)).2 < (l.getD i (0,0)).2))))
def ndsOk (l:List (Int×Int)):Bool:=(List.range l.length).all (ndOk l)
def sdOk (x:LoT) (i:Nat):Bool:=decide ((xR x).getD i 0≤2)
def sdsOk (x:LoT):Bool:=(List.range 6).all (sdOk x)
def loErr (x:LoT):Int:=if x.1.length < 1∨16 < x.1.length then 1 else if ndsOk x.1 then (if sdsOk x then 0 else 1) else 1
theorem nd_step (x:LoT):∀ n k,k < x.1.length→x.1.length≤1000→ndOk x.1 k=true→qi x (n+1) k=qi x n (k+1):=fun n k hk hl h=>by
  simp only [ndOk,Bool.and_eq_true,Bool.or_eq_true,decide_eq_true_eq] at h;obtain ⟨h1,h2,h3,h4⟩:=h;have e:qr.zero=((0,0):Int×Int):=rfl;rw [qi,qA (decide_eq_true (by omega)),Int.toNat_natCast,e,zF (by simp [zi]; omega),show ((k:Int) - 1).toNat=k - 1 by omega];rw [decide_eq_false (show ¬ 1 < (x.1.getD k (0,0)).1 by omega),decide_eq_false (show ¬ (x.1.getD k (0,0)).2 < 13 by omega),decide_eq_false (show ¬ 29≤(x.1.getD k (0,0)).2 by omega)]
  by_cases h0:k=0
  · subst h0
    rw [zF (by simp),qj (by simp),zF (by simp [zk])]
  · have h5:(x.1.getD (k - 1) (0,0)).2 < (x.1.getD k (0,0)).2:=h4.resolve_left h0
    rw [zF (by simp [zk,zi]; omega),decide_eq_false (show ¬ (x.1.getD k (0,0)).2≤(x.1.getD (k - 1) (0,0)).2 by omega),qj (by simp),zF (by simp [zk]; omega)]
theorem nd_stop (x:LoT):∀ n k,k < x.1.length→x.1.length≤1000→ndOk x.1 k=false→qi x (n+1) k=some (.inr 1):=fun n k hk hl h=>by
  have e:qr.zero=((0,0):Int×Int):=rfl;rw [qi,qA (decide_eq_true (by omega)),Int.toNat_natCast,e,zF (by simp [zi]; omega),show ((k:Int) - 1).toNat=k - 1 by omega]
  by_cases h1:(x.1.getD k (0,0)).1≤1∧13≤(x.1.getD k (0,0)).2∧(x.1.getD k (0,0)).2≤28
  · rw [decide_eq_false (show ¬ 1 < (x.1.getD k (0,0)).1 by omega),decide_eq_false (show ¬ (x.1.getD k (0,0)).2 < 13 by omega),decide_eq_false (show ¬ 29≤(x.1.getD k (0,0)).2 by omega)]
    simp only [ndOk,Bool.and_eq_false_iff,Bool.or_eq_false_iff,decide_eq_false_iff_not] at h;have h0:k≠0∧¬ (x.1.getD (k - 1) (0,0)).2 < (x.1.getD k (0,0)).2:=by
      rcases h with h | h | h | h
      · omega
      · omega
      · omega
      · exact h
    rw [zF (by simp [zk,zi]; omega),decide_eq_true (show (x.1.getD k (0,0)).2≤(x.1.getD (k - 1) (0,0)).2 by omega),decide_eq_true (show (0:Int) < k by omega),qA (by simp)]
  · have e2:(cond (cond (decide ((1:Int) < (x.1.getD k (0,0)).1)) true (decide ((x.1.getD k (0,0)).2 < (13:Int)))) true (decide ((29:Int)≤(x.1.getD k (0,0)).2)))=true:=by
      simp only [Bool.cond_true_left,Bool.or_eq_true,decide_eq_true_eq];omega
    rw [e2,zF (by simp),qA (by simp)]
theorem cocheck_eq (x:LoT):m_cocheck x=some (loErr x):=by
  unfold m_cocheck loErr
  by_cases h1:x.1.length < 1∨16 < x.1.length
  · rw [if_pos h1,qA (by simp only [Bool.cond_true_left,Bool.or_eq_true,decide_eq_true_eq]; omega)]
  · rw [if_neg h1,qj (by simp only [Bool.cond_true_left,Bool.or_eq_false_iff,decide_eq_false_iff_not]; omega)]
    by_cases h:∀ k,k < x.1.length→ndOk x.1 k=true
    · have e:ndsOk x.1=true:=by rw [ndsOk,List.all_eq_true]; intro i hi; exact h i (by simpa using hi)
      have:=loop0 (fun n i (s:Unit)=>qi x n i) x.1.length (fun _=>()) (.inl ()) (zD (by omega)) (fun n k hk=>nd_step x n k hk (by omega) (h k hk)) (fun n=>by
        show qi x (n+1) x.1.length=some (.inl ());rw [qi,qj (by simp)])
      rw [this,e,if_pos rfl,Option.bind_some];dsimp only [sm];have step:∀ n k,k < 6→sdOk x k=true→qh x (n+1) k=qh x n (k+1):=fun n k hk h=>by
        have h2:(xR x).getD k 0≤2:=of_decide_eq_true h;rw [qh,qA (decide_eq_true (by omega)),zF (by simp [zi]; omega),Int.toNat_natCast,qj (decide_eq_false (by show ¬ 2 < (xR x).getD k 0; omega)),zF (by simp [zk]; omega)]
      by_cases h6:∀ k,k < 6→sdOk x k=true
      · have e6:sdsOk x=true:=by rw [sdsOk,List.all_eq_true]; intro i hi; exact h6 i (by simpa using hi)
        have:=loop0 (fun n i (s:Unit)=>qh x n i) 6 (fun _=>()) (.inl ()) (zD (by omega)) (fun n k hk=>step n k hk (h6 k hk)) (fun n=>by
          show qh x (n+1) ((6:Nat):Int)=some (.inl ());rw [qh,qj (by simp)])
        rw [this,e6]; rfl
      · obtain ⟨j,hj,hb,hg⟩:=first_bad (sdOk x) _ h6
        have e6:sdsOk x=false:=by
          rw [sdsOk,List.all_eq_false];exact ⟨j,by simpa using hj,by simp [hb]⟩
        have hb2:¬ (xR x).getD j 0≤2:=of_decide_eq_false hb
        have:=loop0 (fun n i (s:Unit)=>qh x n i) j (fun _=>()) (.inr 1) (zD (by omega)) (fun n k hk=>step n k (by omega) (hg k hk)) (fun n=>by
          show qh x (n+1) j=some (.inr 1);rw [qh,qA (decide_eq_true (by omega)),zF (by simp [zi]; omega),Int.toNat_natCast,qA (decide_eq_true (by show 2 < (xR x).getD j 0; omega))])
        rw [this,e6]; rfl
    · obtain ⟨j,hj,hb,hg⟩:=first_bad (ndOk x.1) _ h
      have e:ndsOk x.1=false:=by
        rw [ndsOk,List.all_eq_false];exact ⟨j,by simpa using hj,by simp [hb]⟩
      have:=loop0 (fun n i (s:Unit)=>qi x n i) j (fun _=>()) (.inr 1) (zD (by omega)) (fun n k hk=>nd_step x n k (by omega) (by omega) (hg k hk)) (fun n=>nd_stop x n j hj (by omega) hb)
      rw [this,e]; rfl
def xh (x:LoT):List Int:=x.1.map (·.2)
theorem nds_get {l:List (Int×Int)} (h:ndsOk l=true) (i:Nat) (hi:i < l.length):ndOk l i=true:=List.all_eq_true.1 h i (by simpa using hi)
theorem fromL_get (x:LoT) (i:Nat) (hi:i < x.1.length):(xh x).getD i 0=(x.1.getD i (0,0)).2:=by
  rw [List.getD_eq_getElem?_getD,List.getD_eq_getElem?_getD,xh,List.getElem?_map,List.getElem?_eq_getElem hi]
  rfl
theorem from_all {x:LoT} (h:ndsOk x.1=true):zU (xh x)=true:=by
  rw [zU,List.all_eq_true];intro i hi;have hi2:i < x.1.length:=by simpa [xh] using hi
  have h1:=nds_get h i hi2;simp only [ndOk,Bool.and_eq_true,Bool.or_eq_true,decide_eq_true_eq] at h1;simp only [okAt,Bool.and_eq_true,Bool.or_eq_true,decide_eq_true_eq,Int.toNat_natCast];rw [fromL_get x i hi2,show ((i:Int) - 1).toNat=i - 1 by omega,fromL_get x (i - 1) (by omega)];omega
def backN (n:Int×Int):List zO:=if n.1=1 then [(7,0,n,0,0)] else []
def xP (l:List (Int×Int)):List zO:=l.flatMap backN
theorem front_eq (l:List (Int×Int)) (hl:l.length≤1000) (h:ndsOk l=true):m_front l=some (xP l,0):=by
  have e:qr.zero=((0,0):Int×Int):=rfl;unfold m_front;have h2:=loop0 (fun n i (s:Unit)=>xg l n i) l.length (fun _=>()) (.inl ()) (zD (by omega)) (fun n k hk=>by
    show xg l (n+1) k=xg l n (k+1);have h1:=nds_get h k hk;simp only [ndOk,Bool.and_eq_true,Bool.or_eq_true,decide_eq_true_eq] at h1;obtain ⟨h1,h2,h3,h4⟩:=h1;rw [xg,qA (decide_eq_true (by omega)),Int.toNat_natCast,e,zF (by simp [zi]; omega),show ((k:Int) - 1).toNat=k - 1 by omega];rw [decide_eq_false (show ¬ 1 < (l.getD k (0,0)).1 by omega),decide_eq_false (show ¬ (l.getD k (0,0)).2 < 1 by omega),decide_eq_false (show ¬ 40 < (l.getD k (0,0)).2 by omega)]
    by_cases h0:k=0
    · subst h0
      rw [zF (by simp),qj (by simp),zF (by simp [zk])]
    · have h5:(l.getD (k - 1) (0,0)).2 < (l.getD k (0,0)).2:=h4.resolve_left h0
      rw [zF (by simp [zk,zi]; omega),decide_eq_false (show ¬ (l.getD k (0,0)).2≤(l.getD (k - 1) (0,0)).2 by omega),qj (by simp),zF (by simp [zk]; omega)]) (fun n=>by
    show xg l (n+1) l.length=some (.inl ());rw [xg,qj (by simp)])
  have hfl:∀ k,(xP (l.take k)).length≤k:=fun k=>by
    induction k with
    | zero=>simp [xP]
    | succ k ih=>
      by_cases hk:k < l.length
      · rw [take_d l (0,0) k hk,xP,List.flatMap_append,List.length_append]
        have:(List.flatMap backN [l.getD k (0,0)]).length≤1:=by
          simp only [List.flatMap_cons,List.flatMap_nil,List.append_nil,backN]
          split <;> simp
        have h3:(List.flatMap backN (l.take k)).length≤k:=ih;omega
      · have:l.take (k+1)=l.take k:=by rw [List.take_of_length_le (by omega),List.take_of_length_le (by omega)]
        rw [this];omega
  have h9:=xH (fun n (s:Int×List zO)=>xk l n s.1 s.2) l.length (fun k=>((k:Int),xP (l.take k))) (0,[]) (xP l) (by simp [xP]) (zD (by omega)) (fun n k hk=>by
    show xk l (n+1) k (xP (l.take k))=xk l n ((k+1:Nat):Int) (xP (l.take (k+1)))
    have:=hfl k
    rw [xk,qA (decide_eq_true (by omega)),Int.toNat_natCast,e,zF (by simp [zi]; omega),take_d l (0,0) k hk,xP,xP,List.flatMap_append]
    by_cases hb:(l.getD k (0,0)).1=1
    · rw [qA (decide_eq_true hb)]
      have hx:m_xput 0 (List.flatMap backN (l.take k)) [(7,0,l.getD k (0,0),0,0)]=some (List.flatMap backN (l.take k)++[(7,0,l.getD k (0,0),0,0)]):=by
        unfold m_xput;rw [zF (by simp only [ze,List.length_singleton,Bool.and_eq_true,decide_eq_true_eq]; have h3:(List.flatMap backN (l.take k)).length≤k:=this; omega)]
      rw [hx,Option.bind_some,zF (by simp [zk]; omega)];simp only [List.flatMap_cons,List.flatMap_nil,List.append_nil,backN,if_pos hb]
      rfl
    · rw [qj (decide_eq_false hb),zF (by simp [zk]; omega)]
      simp only [List.flatMap_cons,List.flatMap_nil,List.append_nil,backN,if_neg hb]
      rfl) (fun n=>by
    show xk l (n+1) l.length _=_;rw [xk,qj (by simp),List.take_length])
  rw [h2,Option.bind_some];dsimp only [sm];dsimp only at h9;rw [h9]
  rfl
theorem front_len (l:List (Int×Int)):(xP l).length≤l.length:=by
  induction l with
  | nil=>simp [xP]
  | cons n l ih=>
    have h1:(backN n).length≤1:=by unfold backN; split <;> simp
    have h2:(List.flatMap backN l).length≤l.length:=ih;simp only [xP,List.flatMap_cons,List.length_append,List.length_cons];omega
theorem prep7 (x:LoT) (hl:x.1.length≤1000):qE x zC 0 (List.replicate (x.1.length:Int).toNat 0)=some (xh x):=
  xH (fun n (s:Int×List Int)=>qE x n s.1 s.2) x.1.length (fun k=>((k:Int),fl x.1.length (fun i=>if i < k then (x.1.getD i (0,0)).2 else 0))) (0,_) (xh x)
    (by
      congr 1
      rw [Int.toNat_natCast];refine List.ext_getElem? fun k=>?_
      by_cases h:k < x.1.length <;> simp [fl,List.getElem?_replicate,h]) (zD (by omega)) (fun n k hk=>by
    show qE x (n+1) k (fl x.1.length _)=qE x n ((k+1:Nat):Int) (fl x.1.length (fun i=>if i < k+1 then (x.1.getD i (0,0)).2 else 0));have e:qr.zero=((0,0):Int×Int):=rfl;rw [qE,qA (decide_eq_true (by omega)),Int.toNat_natCast,e,zF (by simp [zi]; omega),zF (by simp [zi,xQ]; omega),zF (by simp [zk]; omega)];rw [fl_set (g:=fun i=>if i < k+1 then (x.1.getD i (0,0)).2 else 0) hk (by simp) (fun i hi=>by
      by_cases h1:i < k
      · simp only [if_pos h1,if_pos (show i < k+1 by omega)]
      · simp only [if_neg h1,if_neg (show ¬ i < k+1 by omega)])]
    rfl) (fun n=>by
    show qE x (n+1) x.1.length _=_;rw [qE,qj (by simp)]
    congr 1
    refine List.ext_getElem? fun i=>?_
    by_cases h:i < x.1.length
    · simp [fl,xh,h]
    · simp [fl,xh,h])
end Go.Proofs.YtihcolehefloeaaDoor

/- Courses, plain: preparing a row, as a whole. -/
namespace Go.Proofs.YtihcolehefloeaaDoor
open Go.RowKit
def cableAt (l:List qn) (k:Nat):List zO:=if (l.getD k zS).1=8 then ((m_cross (qP l l.length) (qP l k).length (l.getD k zS).2.2.1 (l.getD k zS).2.2.2.1 (l.getD k zS).2.2.2.2).getD ([],0)).1 else []
def yi (l:List qn):Nat→List zO
  | 0=>[]
  | k+1=>yi l k++cableAt l k
def purlAt (l:List qn) (k:Nat):List zO:=if bedOf (l.getD k zS)=1 then [(7,0,(0,nx l k),0,0)] else []
def purlTo (l:List qn):Nat→List zO
  | 0=>[]
  | k+1=>purlTo l k++purlAt l k
def qg (l:List qn):List T1:=(List.range l.length).map (xu l)
theorem madeL_get (l:List qn) (k:Nat) (hk:k < l.length):(qg l).getD k []=xu l k:=by
  rw [List.getD_eq_getElem?_getD,qg,List.getElem?_map,List.getElem?_range hk]
  rfl
theorem madeL_len (l:List qn):(qg l).length=l.length:=by simp [qg]
theorem madeAt_get (l:List qn) (k j:Nat) (hj:(j:Int) < qb (l.getD k zS)):(xu l k).getD j (0,0)=(bedOf (l.getD k zS),nx l k+j):=by
  rw [List.getD_eq_getElem?_getD,xu,List.getElem?_map,List.getElem?_range (by omega)]
  rfl
theorem madeAt_len (l:List qn) (k:Nat):(xu l k).length=(qb (l.getD k zS)).toNat:=by simp [xu]
structure Row (l:List qn):Prop where
  len:1≤l.length∧l.length≤16
  all:l.all stOk=true
  needs:1≤zG qa l l.length∧zG qa l l.length≤16
  makes:1≤zG qb l l.length∧zG qb l l.length≤16
theorem row_of {l:List qn} (h:rowErr l=0):Row l:=by
  unfold rowErr at h
  split at h
  · cases h
  · split at h
    · cases h
    · split at h
      · split at h
        · rename_i h1 h2 h3 h4
          exact ⟨by omega,h3,by omega,by omega⟩
        · cases h
      · cases h
theorem row_zero {l:List qn} (h:Row l):rowErr l=0:=by
  have h1:=h.len;unfold rowErr;rw [if_neg (by omega),if_neg (by omega),if_pos h.all,if_pos ⟨h.needs.1,h.needs.2,h.makes.1,h.makes.2⟩]
theorem Row.nx_le {l:List qn} (h:Row l) (k:Nat) (hk:k≤l.length):13≤nx l k∧nx l k≤29:=by
  have h1:=sumTo_mono qb xl l k l.length hk (Nat.le_refl _);have h2:=sumTo_le qb xl l k hk
  have:=h.makes
  unfold nx;omega
theorem cable_need {s:qn} (h:stOk s=true) (h8:s.1=8):qa s=s.2.2.1+s.2.2.2.1∧qb s=s.2.2.1+s.2.2.2.1:=by
  unfold qa qb;rw [if_pos h,if_pos h,if_pos h8,if_neg (by omega),if_neg (by omega)];exact ⟨rfl,rfl⟩
theorem row_cross {l:List qn} (h:Row l) {k:Nat} (hk:k < l.length) (h8:(l.getD k zS).1=8):m_cross (qP l l.length) (qP l k).length (l.getD k zS).2.2.1 (l.getD k zS).2.2.2.1 (l.getD k zS).2.2.2.2=some (cableAt l k,0)∧(cableAt l k).length≤8 * (qP l l.length).length+12∧AllN (cableAt l k):=by
  have hok:=yl h.all k hk;obtain ⟨_,_,_,_,hc⟩:=qR hok;obtain ⟨c1,c2,c3⟩:=hc h8;obtain ⟨n1,n2⟩:=cable_need hok h8;obtain ⟨a,ha⟩:∃ a:Nat,(l.getD k zS).2.2.1=(a:Int):=⟨_,(Int.toNat_of_nonneg (by omega)).symm⟩
  obtain ⟨b,hb⟩:∃ b:Nat,(l.getD k zS).2.2.2.1=(b:Int):=⟨_,(Int.toNat_of_nonneg (by omega)).symm⟩
  have hget:=fun j hj=>held_get l (m:=l.length) hk (by omega) j hj
  have hcr:Cr (qP l l.length) (qP l k).length a b (nx l k):=⟨heldTo_pw _ (Nat.le_refl _),fun x hx=>by
    have h1:=heldTo_mem _ (Nat.le_refl _) x hx;have h2:=h.nx_le l.length (Nat.le_refl _);omega,by
    have:=(hget (a+b - 1) (by omega)).2
    omega,fun j hj=>(hget j (by omega)).1,by omega,by omega,by omega⟩
  obtain ⟨ops,e,h1,h2⟩:=cross_ok2 hcr (l.getD k zS).2.2.2.2;have e2:cableAt l k=ops:=by
    unfold cableAt;rw [if_pos h8,ha,hb,e]
    rfl
  rw [e2,ha,hb];exact ⟨e,h1,h2⟩
theorem cableAt_ok {l:List qn} (h:Row l) {k:Nat} (hk:k < l.length):(cableAt l k).length≤900000∧AllN (cableAt l k):=by
  by_cases h8:(l.getD k zS).1=8
  · have h1:=(row_cross h hk h8).2
    have h2:=chk_len _ (pw_all (heldTo_pw (l:=l) l.length (Nat.le_refl _)) fun x hx=>by
      have h1:=heldTo_mem _ (Nat.le_refl _) x hx;have h2:=h.nx_le l.length (Nat.le_refl _);omega)
    exact ⟨by omega,h1.2⟩
  · unfold cableAt
    rw [if_neg h8];exact ⟨by simp,fun z hz=>by cases hz⟩
theorem cableTo_ok {l:List qn} (h:Row l):∀ k,k≤l.length→(yi l k).length≤900000 * k∧AllN (yi l k)
  | 0,_=>⟨by simp [yi],fun z hz=>by cases hz⟩
  | k+1,hk=>by
    have h1:=cableTo_ok h k (by omega);have h2:=cableAt_ok h (show k < l.length by omega);rw [yi,List.length_append];exact ⟨by omega,h1.2.append h2.2⟩
theorem purlAt_ok (l:List qn) (k:Nat):(purlAt l k).length≤1∧AllN (purlAt l k):=by
  unfold purlAt
  split
  · exact ⟨by simp,fun z hz=>by
      simp only [List.mem_singleton] at hz;subst hz;exact ⟨by show (0:Int)≤7; omega,Int.le_refl 0,Int.le_refl 0,Int.le_refl 0⟩⟩
  · exact ⟨by simp,fun z hz=>by cases hz⟩
theorem purlTo_ok (l:List qn):∀ k,(purlTo l k).length≤k∧AllN (purlTo l k)
  | 0=>⟨by simp [purlTo],fun z hz=>by cases hz⟩
  | k+1=>by
    have h1:=purlTo_ok l k;have h2:=purlAt_ok l k;rw [purlTo,List.length_append];exact ⟨by omega,h1.2.append h2.2⟩
theorem prep16 {l:List qn} (h:Row l) (c:Nat) (to:List Int) (o0:List zO) (ho:o0.length≤1000000):qu l (qg l,c,to) (qP l l.length) zC 0 o0=some (.inl (o0++yi l l.length)):=
  xH (fun n (s:Int×List zO)=>qu l (qg l,c,to) (qP l l.length) n s.1 s.2) l.length (fun k=>((k:Int),o0++yi l k)) (0,o0) _ (by simp [yi]) (zD (by have:=h.len; omega)) (fun n k hk=>by
    show qu l (qg l,c,to) (qP l l.length) (n+1) k (o0++yi l k)=qu l (qg l,c,to) (qP l l.length) n ((k+1:Nat):Int) (o0++yi l (k+1));have hl:=h.len;have hc:=(cableTo_ok h k (by omega)).1;have hc2:=(cableAt_ok h hk).1;have hok:=yl h.all k hk;have hhl:(qP l l.length).length≤1000:=by
      have:=chk_len (qP l l.length) (pw_all (heldTo_pw _ (Nat.le_refl _)) fun x hx=>by
        have h1:=heldTo_mem _ (Nat.le_refl _) x hx;have h2:=h.nx_le l.length (Nat.le_refl _);omega)
      omega
    rw [qu,qA (decide_eq_true (by omega)),zF (by simp [zi]; omega),Int.toNat_natCast,yi]
    by_cases h8:(l.getD k zS).1=8
    · obtain ⟨e,_,_⟩:=row_cross h hk h8
      obtain ⟨_,_,_,_,hcb⟩:=qR hok;obtain ⟨n1,n2⟩:=cable_need hok h8;have hcb':=hcb h8;have hg:=held_get l (m:=l.length) hk (by omega) 0 (by omega);have e0:(xu l k).getD (0:Int).toNat qr.zero=(bedOf (l.getD k zS),nx l k+((0:Nat):Int)):=madeAt_get l k 0 (by omega);rw [qj (by rw [decide_eq_true h8]; rfl),zF (by
        rw [madeL_get l k hk];simp only [zi,madeL_len,madeAt_len,Bool.and_eq_true,decide_eq_true_eq];omega)]
      rw [show (qg l,c,to).1.getD k []=xu l k from madeL_get l k hk,e0];dsimp only;rw [← hg.1,index_eq _ _ hg.2 hhl (heldTo_pw _ (Nat.le_refl _)),Option.bind_some,Nat.add_zero,e,Option.bind_some,qj (by simp),zF (by simp only [ze,List.length_append,Bool.and_eq_true,decide_eq_true_eq]; omega),zF (by simp [zk]; omega)];rw [List.append_assoc]
      rfl
    · have e:cableAt l k=[]:=by unfold cableAt; rw [if_neg h8]
      rw [qA (by rw [decide_eq_false h8]; rfl),zF (by simp [zk]; omega),e,List.append_nil]
      rfl) (fun n=>by
    show qu l (qg l,c,to) (qP l l.length) (n+1) l.length _=_;rw [qu,qj (by simp)])
theorem prep25 {l:List qn} (h:Row l) (c:Nat) (to:List Int) (o0:List zO) (ho:o0.length≤20000000):qv l (qg l,c,to) zC 0 o0=some (o0++purlTo l l.length):=
  xH (fun n (s:Int×List zO)=>qv l (qg l,c,to) n s.1 s.2) l.length (fun k=>((k:Int),o0++purlTo l k)) (0,o0) _ (by simp [purlTo]) (zD (by have:=h.len; omega)) (fun n k hk=>by
    show qv l (qg l,c,to) (n+1) k (o0++purlTo l k)=qv l (qg l,c,to) n ((k+1:Nat):Int) (o0++purlTo l (k+1));have hl:=h.len;have hc:=(purlTo_ok l k).1;have hok:=yl h.all k hk;have hm:=make_pos hok;have e0:(xu l k).getD (0:Int).toNat qr.zero=(bedOf (l.getD k zS),nx l k+((0:Nat):Int)):=madeAt_get l k 0 (by omega);rw [qv,qA (decide_eq_true (by omega)),zF (by simp [zi]; omega),Int.toNat_natCast,stbed_eq,Option.bind_some,purlTo,purlAt]
    by_cases hb:bedOf (l.getD k zS)=1
    · rw [qA (decide_eq_true hb),if_pos hb,show (qg l,c,to).1.getD k []=xu l k from madeL_get l k hk,e0]
      rw [zF (by
        simp only [zi,madeL_len,madeAt_len,ze,List.length_append,List.length_singleton,Bool.and_eq_true,decide_eq_true_eq];omega),zF (by simp [zk]; omega)]
      rw [List.append_assoc]
      simp
    · rw [qj (decide_eq_false hb),if_neg hb,zF (by simp [zk]; omega),List.append_nil]
      rfl) (fun n=>by
    show qv l (qg l,c,to) (n+1) l.length _=_;rw [qv,qj (by simp)])
def prepOps (x:LoT) (l:List qn):List zO:=(xP x.1++qT (xh x) (toTo l l.length))++yi l l.length++purlTo l l.length
structure Lo (x:LoT):Prop where
  len:1≤x.1.length∧x.1.length≤16
  nds:ndsOk x.1=true
  sds:sdsOk x=true
theorem lo_zero {x:LoT} (h:Lo x):loErr x=0:=by
  have h1:=h.len;unfold loErr;rw [if_neg (by omega),if_pos h.nds,if_pos h.sds]
theorem toTo_need {l:List qn}:∀ k,k≤l.length→((toTo l k).length:Int)=zG qa l k
  | 0,_=>by simp [toTo,zG]
  | k+1,hk=>by
    have:=toTo_need (l:=l) k (by omega)
    have:=need_le (l.getD k zS)
    rw [toTo,List.length_append,xM qa l k (by omega)];simp only [toAt1,List.length_map,List.length_range];omega
theorem to_ok {l:List qn} (h:Row l):xZ (toTo l l.length)=true:=pw_to (toTo_pw h.all _ (Nat.le_refl _)) fun x hx=>by
  have h1:=toTo_mem h.all _ (Nat.le_refl _) x hx;have h2:=h.nx_le l.length (Nat.le_refl _);omega
theorem from_len (x:LoT):(xh x).length=x.1.length:=by simp [xh]
theorem plan_ok {x:LoT} {l:List qn} (hx:Lo x) (h:Row l) (hn:zG qa l l.length=x.1.length):(qT (xh x) (toTo l l.length)).length≤400000:=
  plan_len _ _ (from_all hx.nds) (to_ok h) (by have:=toTo_need (l:=l) _ (Nat.le_refl _); rw [from_len]; omega)
theorem prep_len {x:LoT} {l:List qn} (hx:Lo x) (h:Row l) (hn:zG qa l l.length=x.1.length):(prepOps x l).length≤15000000:=by
  have h1:=plan_ok hx h hn;have h2:=(cableTo_ok h _ (Nat.le_refl _)).1;have h3:=(purlTo_ok l l.length).1;have h4:=front_len x.1;have h5:=h.len;have h6:=hx.len;simp only [prepOps,List.length_append];omega
theorem prepare_ok {x:LoT} {l:List qn} (hx:Lo x) (h:Row l) (hn:zG qa l l.length=x.1.length):m_prepare x l=some (prepOps x l,qg l,l.length,0):=by
  have h1:=plan_ok hx h hn;have h2:=(cableTo_ok h _ (Nat.le_refl _)).1;have h4:=front_len x.1;have h5:=h.len;have h6:=hx.len;have hlen:(toTo l l.length).length=(xh x).length:=by have:=toTo_need (l:=l) _ (Nat.le_refl _); rw [from_len]; omega
  unfold m_prepare;rw [cocheck_eq,lo_zero hx,Option.bind_some,qj (by simp),chrow_eq,row_zero h,Option.bind_some,qj (by simp),chneeds_eq l (by omega),Option.bind_some,qj (by rw [decide_eq_true hn]; rfl)];rw [goals_eq l h5.2,Option.bind_some,front_eq x.1 (by omega) hx.nds,Option.bind_some,qj (by simp),zF (by simp; omega),prep7 x (by omega),Option.bind_some];show Option.bind (yj (xh x) (toTo l l.length)) _=_;rw [shift_eq _ _ (from_all hx.nds) (to_ok h) hlen,Option.bind_some,qj (by simp),zF (by simp only [ze,Bool.and_eq_true,decide_eq_true_eq]; omega)];show Option.bind (some (Lib.compact (toTo l l.length))) _=_;rw [Option.bind_some,compact_to h.all _ (Nat.le_refl _)];show Option.bind (qu l (qg l,l.length,toTo l l.length) (qP l l.length) zC 0 (xP x.1++qT (xh x) (toTo l l.length))) _=_;rw [prep16 h _ _ _ (by rw [List.length_append]; omega),Option.bind_some];dsimp only [sm];show Option.bind (qv l (qg l,l.length,toTo l l.length) zC 0 _) _=_;rw [prep25 h _ _ _ (by simp only [List.length_append]; omega)]
  rfl
end Go.Proofs.YtihcolehefloeaaDoor

/- Courses, plain: the work of a yarn; which yarns there are; slots side by side. -/
namespace Go.Proofs.YtihcolehefloeaaDoor
open Go.RowKit
theorem wrap8 (x:Int) (h:0≤x∧x≤255):IntKind.wrap .u8 x=x:=by
  simp only [IntKind.wrap,IntKind.bits,IntKind.signed,Bool.false_and,Bool.false_eq_true,if_false];omega
theorem coput_eq (d y:Int) (ops:List zO) (k e:Int) (n:Int×Int) (h:ops.length≤100000000):m_coput d y ops k e n=some (ops++[(k,e,n,y,0)]):=by
  unfold m_coput;rw [zF (by simp only [ze,List.length_singleton,Bool.and_eq_true,decide_eq_true_eq]; omega)]
def pastOp (y d:Int):zO:=(6,d,(if d=1 then (0,40) else (1,1)),y,0)
theorem copast_eq (d y:Int) (ops:List zO) (e:Int) (h:ops.length≤100000000):m_copast d y ops e=some (ops++[pastOp y e]):=by
  unfold m_copast pastOp
  by_cases h1:e=1
  · rw [qA (decide_eq_true h1),Option.bind_some,coput_eq _ _ _ _ _ _ h,if_pos h1]; rfl
  · rw [qj (decide_eq_false h1),Option.bind_some,coput_eq _ _ _ _ _ _ h,if_neg h1]; rfl
def dirL {α:Type} (d:Int) (l:List α):List α:=if d=0 then l.reverse else l
theorem dirL_len {α:Type} (d:Int) (l:List α):(dirL d l).length=l.length:=by unfold dirL; split <;> simp
def dirI (d:Int) (n k:Nat):Nat:=if d=0 then n - 1 - k else k
theorem dirL_get {α:Type} (d:Int) (l:List α) (z:α) (k:Nat) (hk:k < l.length):(dirL d l).getD k z=l.getD (dirI d l.length k) z:=by
  unfold dirL dirI
  split
  · rw [List.getD_eq_getElem?_getD,List.getD_eq_getElem?_getD,List.getElem?_reverse hk]
  · rfl
theorem dirI_lt {d:Int} {n k:Nat} (hk:k < n):dirI d n k < n:=by unfold dirI; split <;> omega
def knitOps (d y:Int) (ns:List (Int×Int)):List zO:=(dirL d ns).map fun n=>(4,d,n,y,0)
def tuckOps (d y:Int) (ns:List (Int×Int)):List zO:=ns.map fun n=>(5,d,n,y,0)
theorem dir_idx (d:Int) (n k:Nat) (hk:k < n) (hn:n≤1000) {α:Type} (f:Int→Option α):(Option.bind (cond (decide (d=(0:Int))) (gd ((zk ((n:Int) - (1:Int)))&&(zk (((n:Int) - (1:Int)) - (k:Int))))<|some (((n:Int) - (1:Int)) - (k:Int))) (some (k:Int))) f)=f (dirI d n k:Nat):=by
  unfold dirI
  by_cases h0:d=0
  · rw [qA (decide_eq_true h0),zF (by simp [zk]; omega),Option.bind_some,if_pos h0]
    congr 1
    omega
  · rw [qj (decide_eq_false h0),Option.bind_some,if_neg h0]
theorem coknit_eq (d y:Int) (ops:List zO) (ns:List (Int×Int)) (h1:ns.length≤1000) (h2:ops.length≤90000000):yg d y ops ns=some (ops++knitOps d y ns):=by
  unfold yg
  have:=xH (fun n (s:Int×List zO)=>xq d y ns n s.1 s.2) ns.length (fun k=>((k:Int),ops++((dirL d ns).take k).map fun n=>(4,d,n,y,0))) (0,ops) (ops++knitOps d y ns) (by simp) (zD (by omega)) (fun n k hk=>by
    show xq d y ns (n+1) k (ops++((dirL d ns).take k).map fun n=>(4,d,n,y,0))=xq d y ns n ((k+1:Nat):Int) (ops++((dirL d ns).take (k+1)).map fun n=>(4,d,n,y,0));have hd:=dirI_lt (d:=d) hk;rw [xq,qA (decide_eq_true (by omega)),dir_idx d ns.length k hk h1,zF (by simp [zi]; omega),Int.toNat_natCast,coput_eq _ _ _ _ _ _ (by simp; omega),Option.bind_some,zF (by simp [zk]; omega),take_d (dirL d ns) (0,0) k (by rw [dirL_len]; exact hk),dirL_get d ns (0,0) k hk];simp only [List.map_append,List.append_assoc]
    rfl) (fun n=>by
    show xq d y ns (n+1) ns.length _=_;rw [xq,qj (by simp),← dirL_len d ns,List.take_length]
    rfl)
  dsimp only at this;rw [this]
  rfl
theorem cotuck_eq (d y:Int) (ops:List zO) (ns:List (Int×Int)) (h1:ns.length≤1000) (h2:ops.length≤90000000):m_cotuck d y ops ns=some (ops++tuckOps d y ns):=by
  unfold m_cotuck
  have:=xH (fun n (s:Int×List zO)=>qY d y ns n s.1 s.2) ns.length (fun k=>((k:Int),ops++(ns.take k).map fun n=>(5,d,n,y,0))) (0,ops) (ops++tuckOps d y ns) (by simp) (zD (by omega)) (fun n k hk=>by
    show qY d y ns (n+1) k (ops++(ns.take k).map fun n=>(5,d,n,y,0))=qY d y ns n ((k+1:Nat):Int) (ops++(ns.take (k+1)).map fun n=>(5,d,n,y,0));rw [qY,qA (decide_eq_true (by omega)),zF (by simp [zi]; omega),Int.toNat_natCast,coput_eq _ _ _ _ _ _ (by simp; omega),Option.bind_some,zF (by simp [zk]; omega),take_d ns (0,0) k hk];simp only [List.map_append,List.append_assoc]
    rfl) (fun n=>by
    show qY d y ns (n+1) ns.length _=_;rw [qY,qj (by simp),List.take_length]
    rfl)
  dsimp only at this;rw [this]
  rfl
def workOf (d y:Int) (s:qn) (ns:List (Int×Int)):List zO:=if s.1=7 then [] else if s.1=6 then tuckOps d y ns else knitOps d y ns
def workAt (d y:Int) (l:List qn) (k:Nat):List zO:=if (l.getD (dirI d l.length k) zS).2.1=y then workOf d y (l.getD (dirI d l.length k) zS) (xu l (dirI d l.length k)) else []
def yb (d y:Int) (l:List qn):Nat→List zO
  | 0=>[]
  | k+1=>yb d y l k++workAt d y l k
theorem knitOps_len (d y:Int) (ns:List (Int×Int)):(knitOps d y ns).length=ns.length:=by simp [knitOps,dirL_len]
theorem workAt_len (d y:Int) (l:List qn) (k:Nat):(workAt d y l k).length≤4:=by
  have h1:=xl (l.getD (dirI d l.length k) zS);have h2:=madeAt_len l (dirI d l.length k);unfold workAt
  split
  · unfold workOf
    split
    · simp
    · split
      · simp only [tuckOps,List.length_map]; omega
      · rw [knitOps_len]; omega
  · simp
theorem workTo_len (d y:Int) (l:List qn):∀ k,(yb d y l k).length≤4 * k
  | 0=>by simp [yb]
  | k+1=>by
    have h1:=workTo_len d y l k;have h2:=workAt_len d y l k;rw [yb,List.length_append];omega
theorem cowork_eq (d y:Int) (ops:List zO) {l:List qn} (h:Row l) (h2:ops.length≤80000000):m_cowork d y ops l (qg l)=some (ops++yb d y l l.length):=by
  have hl:=h.len;unfold m_cowork
  have:=xH (fun n (s:Int×List zO)=>zK d y l (qg l) n s.1 s.2) l.length (fun k=>((k:Int),ops++yb d y l k)) (0,ops) (ops++yb d y l l.length) (by simp [yb]) (zD (by omega)) (fun n k hk=>by
    show zK d y l (qg l) (n+1) k (ops++yb d y l k)=zK d y l (qg l) n ((k+1:Nat):Int) (ops++yb d y l (k+1));obtain ⟨i,hi⟩:∃ i,dirI d l.length k=i:=⟨_,rfl⟩
    have hd:i < l.length:=by rw [← hi]; exact dirI_lt hk
    have hw:=workTo_len d y l k;have hok:=yl h.all i hd;obtain ⟨k1,k2,_,_,_⟩:=qR hok;have hml:=madeAt_len l i;have hmk:=xl (l.getD i zS);have hB:zi ((k:Nat)+1:Int) 1=zi ((k:Nat)+1:Int) 1:=rfl;have g1:zi (i:Int) l.length=true:=by simp [zi]; omega
    have g2:zi (i:Int) (qg l).length=true:=by rw [madeL_len]; exact g1
    have hmg:=madeL_get l i hd;have hkn:=coknit_eq d y (ops++yb d y l k) (xu l i) (by omega) (by rw [List.length_append]; omega);have htu:=cotuck_eq d y (ops++yb d y l k) (xu l i) (by omega) (by rw [List.length_append]; omega);have hn:zk ((k:Int)+1)=true:=by simp [zk]; omega
    rw [zK,qA (decide_eq_true (by omega)),dir_idx d l.length k hk (by omega),hi,zF g1,Int.toNat_natCast,yb,workAt,hi,hmg];have hfin:∀ q:List zO,zK d y l (qg l) n ((k:Int)+1) ((ops++yb d y l k)++q)=zK d y l (qg l) n ((k+1:Nat):Int) (ops++(yb d y l k++q)):=fun q=>by rw [List.append_assoc]; rfl
    by_cases hy:(l.getD i zS).2.1=y
    · rw [qA (decide_eq_true hy),if_pos hy,qj (decide_eq_false (show ¬ (l.getD i zS).1=0 by omega)),← hfin]
      have g3:zi (l.getD i zS).1 9=true:=by simp only [zi,Bool.and_eq_true,decide_eq_true_eq]; omega
      have g4:(zi (i:Int) l.length&&zi (l.getD i zS).1 9&&zi (i:Int) (qg l).length)=true:=by rw [g1,g2,g3]; rfl
      unfold workOf
      by_cases q1:(l.getD i zS).1=1
      · rw [qA (decide_eq_true q1),zF g4,hkn,Option.bind_some,zF hn,if_neg (by omega),if_neg (by omega)]
      rw [qj (decide_eq_false q1)]
      by_cases q2:(l.getD i zS).1=2
      · rw [qA (decide_eq_true q2),zF g4,hkn,Option.bind_some,zF hn,if_neg (by omega),if_neg (by omega)]
      rw [qj (decide_eq_false q2)]
      by_cases q3:(l.getD i zS).1=3
      · rw [qA (decide_eq_true q3),zF g4,hkn,Option.bind_some,zF hn,if_neg (by omega),if_neg (by omega)]
      rw [qj (decide_eq_false q3)]
      by_cases q4:(l.getD i zS).1=4
      · rw [qA (decide_eq_true q4),zF g4,hkn,Option.bind_some,zF hn,if_neg (by omega),if_neg (by omega)]
      rw [qj (decide_eq_false q4)]
      by_cases q5:(l.getD i zS).1=5
      · rw [qA (decide_eq_true q5),zF g4,hkn,Option.bind_some,zF hn,if_neg (by omega),if_neg (by omega)]
      rw [qj (decide_eq_false q5)]
      by_cases q6:(l.getD i zS).1=6
      · rw [qA (decide_eq_true q6),zF g4,htu,Option.bind_some,zF hn,if_neg (by omega),if_pos q6]
      rw [qj (decide_eq_false q6)]
      by_cases q7:(l.getD i zS).1=7
      · rw [qA (decide_eq_true q7),zF g4,if_pos q7,List.append_nil]
        show Option.bind (some ()) _=_;rw [Option.bind_some,zF hn]
      rw [qj (decide_eq_false q7),qA (decide_eq_true (show (l.getD i zS).1=8 by omega)),zF g4,hkn,Option.bind_some,zF hn,if_neg q7,if_neg q6]
    · rw [qj (decide_eq_false hy),if_neg hy,zF hn,← hfin,List.append_nil]) (fun n=>by
    show zK d y l (qg l) (n+1) l.length _=_;rw [zK,qj (by simp)])
  dsimp only at this;rw [this]
  rfl
theorem concat_eq (M:List T1) (h1:M.length≤100) (h2:∀ k,k < M.length→(M.getD k []).length≤100):m_concat M=some M.flatten:=by
  have hb:∀ k,k≤M.length→((M.take k).flatten).length≤100 * k:=by
    intro k
    induction k with
    | zero=>intro _; simp
    | succ k ih=>
      intro hk
      have:=ih (by omega)
      have:=h2 k (by omega)
      rw [take_d M [] k (by omega),List.flatten_append,List.length_append];simp only [List.flatten_cons,List.flatten_nil,List.append_nil];omega
  have hs:∀ k,k < M.length→(M.take (k+1)).flatten=(M.take k).flatten++M.getD k []:=fun k hk=>by
    rw [take_d M [] k hk,List.flatten_append]
    simp
  unfold m_concat;have e1:=xH (fun n (s:Int×Int)=>xz M n s.1 s.2) M.length (fun k=>((((M.take k).flatten).length:Int),(k:Int))) (0,0) ((M.flatten.length:Nat):Int) (by simp) (zD (by omega)) (fun n k hk=>by
    show xz M (n+1) ((((M.take k).flatten).length:Int)) k=xz M n ((((M.take (k+1)).flatten).length:Int)) ((k+1:Nat):Int)
    have:=hb k (by omega)
    have:=h2 k hk
    rw [xz,qA (decide_eq_true (by omega)),zF (by simp [zi]; omega),Int.toNat_natCast,zF (by simp [zk, -List.getD_eq_getElem?_getD, -List.length_flatten]; omega),qj (decide_eq_false (by omega)),zF (by simp [zk]; omega),hs k hk,List.length_append]
    rfl) (fun n=>by
    show xz M (n+1) _ M.length=_;rw [xz,qj (by simp),List.take_length])
  have e2:=xH (fun n (s:Int×List (Int×Int))=>qZ M n s.1 s.2) M.length (fun k=>((k:Int),(M.take k).flatten)) (0,[]) M.flatten (by simp) (zD (by omega)) (fun n k hk=>by
    show qZ M (n+1) k ((M.take k).flatten)=qZ M n ((k+1:Nat):Int) ((M.take (k+1)).flatten)
    have:=hb k (by omega)
    have:=h2 k hk
    rw [qZ,qA (decide_eq_true (by omega)),zF (by simp [zi]; omega),Int.toNat_natCast,zF (by simp only [ze,Bool.and_eq_true,decide_eq_true_eq]; omega),zF (by simp [zk]; omega),hs k hk]
    rfl) (fun n=>by
    show qZ M (n+1) M.length _=_;rw [qZ,qj (by simp),List.take_length])
  have hall:=hb M.length (Nat.le_refl _);rw [List.take_length] at hall;have hg:m_growN ((M.flatten.length:Nat):Int)=some []:=by
    unfold m_growN;rw [zF (by simp only [Bool.and_eq_true,decide_eq_true_eq]; omega)]
  dsimp only at e1 e2;rw [e1,Option.bind_some,hg,Option.bind_some,e2]
  rfl
def usedY (l:List qn) (y:Nat):Bool:=l.any fun s=>decide (s.2.1=(y:Int))
def zJ (l:List qn):List Int:=((List.range 256).filter (usedY l)).map fun y:Nat=>(y:Int)
theorem chy4 {rows:List (List qn)} {i:Nat} {l:List qn} (hl:rows.getD i []=l) (h:Row l) (f:Nat→Bool) (c:Int) (hc:0≤c∧c≤1000000):∃ c':Int,(c≤c'∧c'≤c+16)∧qo rows i zC c 0 ((List.range 256).map f)=some (c',(List.range 256).map fun y=>f y || usedY l y):=by
  have hlen:=h.len;have hyb:∀ k,k < l.length→1≤(l.getD k zS).2.1∧(l.getD k zS).2.1≤6:=fun k hk=>by
    have:=qR (yl h.all k hk)
    omega
  have ez:((0,(0,(0,(0,false)))):qn)=zS:=rfl;obtain ⟨o,h1,h2⟩:=loopX (fun n (s:Int×Int×List Bool)=>qo rows i n s.1 s.2.1 s.2.2) l.length
    (fun k s=>s.2.1=k∧(c≤s.1∧s.1≤c+k)∧s.2.2=(List.range 256).map fun y=>f y || usedY (l.take k) y)
    (fun o=>(c≤o.1∧o.1≤c+16)∧o.2=(List.range 256).map fun y=>f y || usedY l y) (c,0,(List.range 256).map f) ⟨rfl,by dsimp only; omega,by simp [usedY]⟩ (zD (by omega)) (fun n k s hk ⟨e,hb,hv⟩=>by
    obtain ⟨s1,s2,s3⟩:=s;dsimp only at e hb hv ⊢;subst e;obtain ⟨y,hy⟩:∃ y:Nat,(l.getD k zS).2.1=(y:Int):=⟨_,(Int.toNat_of_nonneg (by have:=hyb k hk; omega)).symm⟩
    have hy2:=hyb k hk;have hu:∀ q,usedY (l.take (k+1)) q=(usedY (l.take k) q || decide (y=q)):=fun q=>by
      unfold usedY;rw [take_d l zS k hk,List.any_append];simp only [List.any_cons,List.any_nil,Bool.or_false,hy]
      congr 1
      by_cases e:y=q
      · simp [e]
      · rw [decide_eq_false e,decide_eq_false (by omega)]
    have hg:s3.getD y false=(f y || usedY (l.take k) y):=by
      rw [hv,List.getD_eq_getElem?_getD,List.getElem?_map,List.getElem?_range (by omega)]
      rfl
    have hl3:s3.length=256:=by rw [hv]; simp
    have hst:qo rows i (n+1) s1 k s3=cond (!(f y || usedY (l.take k) y)) (qo rows i n (s1+1) ((k+1:Nat):Int) (s3.set y true)) (qo rows i n s1 ((k+1:Nat):Int) s3):=by
      rw [qo,Int.toNat_natCast,Int.toNat_natCast,hl,ez,hy,Int.toNat_natCast,qA (decide_eq_true (by omega)),zF (by simp [zi]; omega),zF (by simp [zi,hl3]; omega),hg,zF (by simp [zi,hl3]; omega),zF (by simp only [zk,Bool.and_eq_true,decide_eq_true_eq]; omega),zF (by simp [zk]; omega),zF (by simp [zk]; omega)]
      rfl
    refine .inr ?_;cases hb2:(f y || usedY (l.take k) y) with
    | true=>
      refine ⟨(s1,((k+1:Nat):Int),s3),⟨rfl,by dsimp only; omega,?_⟩,by rw [hst,hb2]; rfl⟩;dsimp only;rw [hv];refine List.map_congr_left fun q _=>?_
      rw [hu]
      by_cases e:y=q
      · rw [← e,hb2,← Bool.or_assoc,hb2]; rfl
      · rw [decide_eq_false e,Bool.or_false]
    | false=>
      refine ⟨(s1+1,((k+1:Nat):Int),s3.set y true),⟨rfl,by dsimp only; omega,?_⟩,by rw [hst,hb2]; rfl⟩;dsimp only;rw [hv];exact map_set 256 y _ _ true (by omega) (by rw [hu,decide_eq_true rfl,Bool.or_true,Bool.or_true]) (fun q hq=>by rw [hu,decide_eq_false (fun e=>hq e.symm),Bool.or_false])) (fun n s ⟨e,hb,hv⟩=>by
    obtain ⟨s1,s2,s3⟩:=s;dsimp only at e hb hv ⊢;subst e;rw [List.take_length] at hv;exact ⟨(s1,s3),by rw [qo,Int.toNat_natCast,hl,qj (by simp)],by dsimp only; omega,hv⟩)
  obtain ⟨o1,o2⟩:=o;dsimp only at h1 h2;exact ⟨o1,h2.1,by rw [h1,h2.2]⟩
def usedC (rows:List (List qn)) (y:Nat):Bool:=rows.any fun l=>usedY l y
def yarnsC (rows:List (List qn)):List Int:=((List.range 256).filter (usedC rows)).map fun y:Nat=>(y:Int)
theorem yarnsC_eq {rows:List (List qn)} (hn:rows.length≤1000) (hR:∀ k,k < rows.length→Row (rows.getD k [])):∃ c,m_chyarns rows=some (yarnsC rows,c):=by
  obtain ⟨o,h1,h2⟩:=loopX (fun n (s:Int×Int×List Bool)=>xr rows n s.1 s.2.1 s.2.2) rows.length
    (fun k s=>s.2.1=k∧(0≤s.1∧s.1≤16 * k)∧s.2.2=(List.range 256).map (usedC (rows.take k)))
    (fun o=>(0≤o.1∧o.1≤16000)∧o.2=(List.range 256).map (usedC rows)) (0,0,List.replicate 256 false) ⟨rfl,by dsimp only; omega,by
      dsimp only;refine List.ext_getElem? fun q=>?_
      by_cases hq:q < 256
      · rw [List.getElem?_map,List.getElem?_range hq,List.getElem?_replicate,if_pos hq]; rfl
      · rw [List.getElem?_replicate,if_neg hq,List.getElem?_eq_none (by simp; omega)]⟩ (zD (by omega)) (fun n k s hk ⟨e,hb,hv⟩=>by
    obtain ⟨s1,s2,s3⟩:=s;dsimp only at e hb hv ⊢;subst e;obtain ⟨c',h3,h4⟩:=chy4 (rows:=rows) (i:=k) rfl (hR k hk) (usedC (rows.take k)) s1 (by omega);refine .inr ⟨(c',((k+1:Nat):Int),(List.range 256).map (usedC (rows.take (k+1)))),⟨rfl,by dsimp only; omega,rfl⟩,?_⟩;rw [xr,qA (decide_eq_true (by omega)),zF (by simp [zi]; omega),hv,h4,Option.bind_some,zF (by simp [zk]; omega)];have e:(fun y=>usedC (rows.take k) y || usedY (rows.getD k []) y)=usedC (rows.take (k+1)):=by
      funext y
      unfold usedC;rw [take_d rows [] k hk,List.any_append];simp only [List.any_cons,List.any_nil,Bool.or_false]
    rw [e]
    rfl) (fun n s ⟨e,hb,hv⟩=>by
    obtain ⟨s1,s2,s3⟩:=s;dsimp only at e hb hv ⊢;subst e;rw [List.take_length] at hv;exact ⟨(s1,s3),by rw [xr,qj (by simp)],by dsimp only; omega,hv⟩)
  obtain ⟨c,v⟩:=o;obtain ⟨hc,rfl⟩:=h2;dsimp only at h1 hc;have e14:∃ q,qJ (c,(List.range 256).map (usedC rows)) zC 0 [] (some c.toNat)=some (yarnsC rows,q):=by
    obtain ⟨o,g1,g2⟩:=loopX (fun n (s:Int×List Int×Option Nat)=>qJ (c,(List.range 256).map (usedC rows)) n s.1 s.2.1 s.2.2) 256 (fun k s=>s.1=k∧s.2.1=((List.range k).filter (usedC rows)).map (fun y:Nat=>(y:Int))) (fun o=>o.1=yarnsC rows) (0,[],some c.toNat) ⟨rfl,rfl⟩ (zD (by omega)) (fun n k s hk ⟨e,hv⟩=>by
      obtain ⟨s1,s2,s3⟩:=s;dsimp only at e hv ⊢;subst e;have hg:((List.range 256).map (usedC rows)).getD k false=usedC rows k:=by
        rw [List.getD_eq_getElem?_getD,List.getElem?_map,List.getElem?_range hk]
        rfl
      have hlen:s2.length≤k:=by
        rw [hv,List.length_map];exact Nat.le_trans (List.length_filter_le _ _) (by simp)
      refine .inr ?_;rw [qJ,qA (decide_eq_true (by omega)),zF (by simp [zi]; omega),Int.toNat_natCast];dsimp only;rw [hg];cases hb:usedC rows k with
      | true=>
        refine ⟨(((k+1:Nat):Int),s2++[(k:Int)],none),⟨rfl,?_⟩,?_⟩
        · dsimp only
          rw [List.range_succ (n:=k),List.filter_append,hv]
          simp [hb]
        · rw [cond_true,zF (by simp only [ze,List.length_singleton,Bool.and_eq_true,decide_eq_true_eq]; omega),zF (by simp [zk]; omega),wrap8 _ (by omega)]
          rfl
      | false=>
        refine ⟨(((k+1:Nat):Int),s2,s3),⟨rfl,?_⟩,?_⟩
        · dsimp only
          rw [List.range_succ (n:=k),List.filter_append,hv]
          simp [hb]
        · rw [cond_false,zF (by simp [zk]; omega)]
          rfl) (fun n s ⟨e,hv⟩=>by
      obtain ⟨s1,s2,s3⟩:=s;dsimp only at e hv ⊢;subst e;exact ⟨(s2,s3),by rw [qJ,qj (by simp)],by dsimp only; rw [hv]; rfl⟩)
    obtain ⟨o1,o2⟩:=o;dsimp only at g1 g2;exact ⟨o2,by rw [g1,g2]⟩
  obtain ⟨q,e14⟩:=e14;refine ⟨q,?_⟩;unfold m_chyarns;rw [h1,Option.bind_some];dsimp only;rw [zF (by simp only [Bool.and_eq_true,decide_eq_true_eq]; omega),zF (by simp),e14]
  rfl
theorem yarns_eq {l:List qn} (h:Row l):∃ c,m_chyarns [l]=some (zJ l,c):=by
  obtain ⟨c,hc⟩:=yarnsC_eq (rows:=[l]) (by simp) (fun k hk=>by
    simp only [List.length_singleton] at hk;rw [show k=0 by omega];exact h)
  refine ⟨c,?_⟩;have e:usedC [l]=usedY l:=by
    funext y
    simp [usedC]
  rw [hc,yarnsC,zJ,e]
end Go.Proofs.YtihcolehefloeaaDoor

/- Courses, plain: a row's program. -/
namespace Go.Proofs.YtihcolehefloeaaDoor
open Go.RowKit
theorem yarnsL_mem {l:List qn} (h:Row l) {y:Int} (hy:y∈zJ l):1≤y∧y≤6:=by
  obtain ⟨q,hq,rfl⟩:=List.mem_map.1 hy;have h2:=(List.mem_filter.1 hq).2;obtain ⟨s,hs,h3⟩:=List.any_eq_true.1 h2;have h4:=of_decide_eq_true h3
  have:=qR (List.all_eq_true.1 h.all s hs)
  omega
theorem yarnsL_get {l:List qn} (h:Row l) (j:Nat) (hj:j < (zJ l).length):1≤(zJ l).getD j 0∧(zJ l).getD j 0≤6:=yarnsL_mem h (mem_get j hj)
theorem yarnsL_len (l:List qn):(zJ l).length≤256:=by
  unfold zJ;rw [List.length_map];exact Nat.le_trans (List.length_filter_le _ _) (by simp)
def enD (d:Int):Int:=if d=0 then 1 else 2
def beD (d:Int):Int:=if d=0 then 2 else 1
def siD (d:Int):Int:=if d=0 then 1 else 0
def preOps (x:LoT) (d y:Int):List zO:=if (xR x).getD (y - 1).toNat 0=0 then [(1,siD d,(0,0),y,0)] else if (xR x).getD (y - 1).toNat 0=enD d then [pastOp y (siD d)] else []
def yarnOps (x:LoT) (l:List qn) (d y:Int):List zO:=(preOps x d y++yb d y l l.length)++[pastOp y d]
def opsToY (x:LoT) (l:List qn) (d:Int):Nat→List zO
  | 0=>prepOps x l
  | j+1=>opsToY x l d j++yarnOps x l d ((zJ l).getD j 0)
def qq (x:LoT) (l:List qn) (d:Int) (j i:Nat):Int:=if ((zJ l).take j).any (fun y=>decide (y=(i:Int)+1)) then enD d else (xR x).getD i 0
theorem yarnOps_len (x:LoT) {l:List qn} (h:Row l) (d y:Int):(yarnOps x l d y).length≤66:=by
  have h1:=workTo_len d y l l.length;have h2:=h.len;have h3:(preOps x d y).length≤1:=by unfold preOps; split <;> (try split) <;> simp
  simp only [yarnOps,List.length_append,List.length_singleton];omega
theorem opsToY_len {x:LoT} {l:List qn} (hx:Lo x) (h:Row l) (hn:zG qa l l.length=x.1.length) (d:Int):∀ j,(opsToY x l d j).length≤15000000+66 * j
  | 0=>prep_len hx h hn
  | j+1=>by
    have h1:=opsToY_len hx h hn d j;have h2:=yarnOps_len x h d ((zJ l).getD j 0);rw [opsToY,List.length_append];omega
theorem sideAt_succ (x:LoT) {l:List qn} (h:Row l) (d:Int) (j i:Nat) (hj:j < (zJ l).length):cond (Nat.beq ((zJ l).getD j 0 - 1).toNat i) (enD d) (qq x l d j i)=qq x l d (j+1) i:=by
  have hy:=yarnsL_get h j hj;unfold qq;rw [take_d (zJ l) 0 j hj,List.any_append];simp only [List.any_cons,List.any_nil,Bool.or_false];cases hb:Nat.beq ((zJ l).getD j 0 - 1).toNat i with
  | true=>
    have:=Nat.eq_of_beq_eq_true hb
    rw [decide_eq_true (show (zJ l).getD j 0=(i:Int)+1 by omega),Bool.or_true,if_pos rfl]
    rfl
  | false=>
    have h2:((zJ l).getD j 0 - 1).toNat≠i:=fun e=>by rw [e,Nat.beq_refl] at hb; cases hb
    rw [decide_eq_false (show ¬ (zJ l).getD j 0=(i:Int)+1 by omega),Bool.or_false]
    rfl
def courseOps (x:LoT) (l:List qn) (d:Int):List zO:=opsToY x l d (zJ l).length
theorem course_ok {x:LoT} {l:List qn} (hx:Lo x) (h:Row l) (hn:zG qa l l.length=x.1.length) (d:Int) (hd:d=0∨d=1) :
    m_course x l d=some (courseOps x l d,((qg l).flatten,qq x l d (zJ l).length 0,qq x l d (zJ l).length 1,qq x l d (zJ l).length 2,qq x l d (zJ l).length 3,qq x l d (zJ l).length 4,qq x l d (zJ l).length 5),0):=by
  have hl:=h.len;have hyl:=yarnsL_len l;obtain ⟨c,hyq⟩:=yarns_eq h;have hml:∀ k,k < (qg l).length→((qg l).getD k []).length≤100:=fun k hk=>by
    rw [madeL_len] at hk
    have:=xl (l.getD k zS)
    rw [madeL_get l k hk,madeAt_len];omega
  have hpr:=prepare_ok hx h hn;have ho2:cond (decide (d=(0:Int))) (some ((2:Int),(1:Int),(1:Int))) (some ((1:Int),(2:Int),(0:Int)))=some (beD d,enD d,siD d):=by
    unfold beD enD siD
    rcases hd with rfl | rfl <;> rfl
  have hL:=xH (fun n (s:Int×Int×Int×Int×Int×Int×Int×Int×List zO)=>qX x l d (prepOps x l,qg l,l.length,0) (beD d,enD d,siD d) (zJ l,c) n s.1 s.2.1 s.2.2.1 s.2.2.2.1 s.2.2.2.2.1 s.2.2.2.2.2.1 s.2.2.2.2.2.2.1 s.2.2.2.2.2.2.2.1 s.2.2.2.2.2.2.2.2) (zJ l).length
    (fun j=>((j:Int),qq x l d j 0,qq x l d j 1,qq x l d j 2,qq x l d j 3,qq x l d j 4,qq x l d j 5,(if j=0 then 0 else (zJ l).getD (j - 1) 0),opsToY x l d j))
    (0,x.2.1,x.2.2.1,x.2.2.2.1,x.2.2.2.2.1,x.2.2.2.2.2.1,x.2.2.2.2.2.2,0,prepOps x l)
    (qq x l d (zJ l).length 0,qq x l d (zJ l).length 1,qq x l d (zJ l).length 2,qq x l d (zJ l).length 3,qq x l d (zJ l).length 4,qq x l d (zJ l).length 5,(if (zJ l).length=0 then 0 else (zJ l).getD ((zJ l).length - 1) 0),courseOps x l d)
    rfl (zD (by omega)) (fun n j hj=>by
      show qX x l d (prepOps x l,qg l,l.length,0) (beD d,enD d,siD d) (zJ l,c) (n+1) j (qq x l d j 0) (qq x l d j 1) (qq x l d j 2) (qq x l d j 3) (qq x l d j 4) (qq x l d j 5) (if j=0 then 0 else (zJ l).getD (j - 1) 0) (opsToY x l d j) =
        qX x l d (prepOps x l,qg l,l.length,0) (beD d,enD d,siD d) (zJ l,c) n ((j+1:Nat):Int) (qq x l d (j+1) 0) (qq x l d (j+1) 1) (qq x l d (j+1) 2) (qq x l d (j+1) 3) (qq x l d (j+1) 4) (qq x l d (j+1) 5) ((zJ l).getD j 0) (opsToY x l d (j+1))
      have hy:=yarnsL_get h j hj;have hol:=opsToY_len hx h hn d j;have hwl:=workTo_len d ((zJ l).getD j 0) l l.length;obtain ⟨y,hyy⟩:∃ y,(zJ l).getD j 0=y:=⟨_,rfl⟩
      have hw:IntKind.wrap .u8 (y - 1)=y - 1:=wrap8 _ (by omega);have hpl:(preOps x d y).length≤1:=by unfold preOps; split <;> (try split) <;> simp
      have hpre:(cond (decide (((xR x).getD (y - 1).toNat 0)=(0:Int))) (gd ((ze 40 ((opsToY x l d j).length+[((1:Int),(siD d,(((0:Int),(0:Int)),(y,(0:Int)))))].length))) <|
          some (opsToY x l d j++[((1:Int),(siD d,(((0:Int),(0:Int)),(y,(0:Int)))))])) (cond (decide (((xR x).getD (y - 1).toNat 0)=enD d)) (Option.bind (m_copast d y (opsToY x l d j) (siD d)) fun r12=>some r12) (cond (decide (((xR x).getD (y - 1).toNat 0)=beD d)) (some (opsToY x l d j)) (some (opsToY x l d j)))))=some (opsToY x l d j++preOps x d y):=by
        unfold preOps
        by_cases h0:(xR x).getD (y - 1).toNat 0=0
        · rw [qA (decide_eq_true h0),if_pos h0,zF (by simp only [ze,List.length_singleton,Bool.and_eq_true,decide_eq_true_eq]; omega)]
        · rw [qj (decide_eq_false h0),if_neg h0]
          by_cases h1:(xR x).getD (y - 1).toNat 0=enD d
          · rw [qA (decide_eq_true h1),if_pos h1,copast_eq _ _ _ _ (by omega)]
            rfl
          · rw [qj (decide_eq_false h1),if_neg h1,List.append_nil]
            cases decide ((xR x).getD (y - 1).toNat 0=beD d) <;> rfl
      rw [qX];dsimp only;rw [qA (decide_eq_true (by omega)),zF (by simp [zi]; omega),Int.toNat_natCast,hyy,hw,zF (by simp [zi]; omega)];show Option.bind (cond (decide (((xR x).getD (y - 1).toNat 0)=(0:Int))) _ (cond (decide (((xR x).getD (y - 1).toNat 0)=enD d)) _ (cond (decide (((xR x).getD (y - 1).toNat 0)=beD d)) _ _))) _=_;rw [hpre,Option.bind_some,cowork_eq d y _ h (by rw [List.length_append]; omega),Option.bind_some,copast_eq _ _ _ _ (by rw [hyy] at hwl; simp only [List.length_append]; omega),Option.bind_some,zF (by simp [zi]; omega),zF (by simp [zk]; omega)];have hs:=fun i=>sideAt_succ x h d j i hj
      rw [hyy] at hs;rw [hs 0,hs 1,hs 2,hs 3,hs 4,hs 5,opsToY,hyy,yarnOps];simp only [List.append_assoc]
      rfl) (fun n=>by
      show qX x l d (prepOps x l,qg l,l.length,0) (beD d,enD d,siD d) (zJ l,c) (n+1) ((zJ l).length:Int) _ _ _ _ _ _ _ _=_;rw [qX,qj (by simp)]
      rfl)
  unfold m_course;rw [hpr,Option.bind_some,qj (by simp),qj (by rcases hd with rfl | rfl <;> rfl),ho2,Option.bind_some,concat_eq _ (by rw [madeL_len]; omega) hml,Option.bind_some];have hcl:m_clipn (qg l).flatten=some ((qg l).flatten,(qg l).flatten.length):=by
    unfold m_clipn;rw [zF (by simp only [Bool.and_eq_true,decide_eq_true_eq]; omega),Int.toNat_natCast,List.take_length]
  rw [hcl,Option.bind_some,hyq,Option.bind_some];dsimp only at hL;rw [hL]
  rfl
end Go.Proofs.YtihcolehefloeaaDoor

/- Flats, plain: charts. -/
namespace Go.Proofs.YtihcolehefloeaaDoor
open Go.RowKit
theorem chfirst_ok {l:List qn} (h:Row l):∃ y,yA l=some y∧1≤y∧y≤6∧∃ k,k < l.length∧(l.getD k zS).2.1=y:=by
  have hl:=h.len;unfold yA;rw [qj (decide_eq_false (by omega)),zF (by simp [zi]; omega)];have f0:=qR (yl h.all 0 (by omega));obtain ⟨y,hy,h1⟩:=loopX (fun n (s:Int×Int)=>xa l n s.1 s.2) l.length (fun k s=>s.2=k∧1≤s.1∧s.1≤6∧∃ q,q < l.length∧(l.getD q zS).2.1=s.1) (fun y=>1≤y∧y≤6∧∃ q,q < l.length∧(l.getD q zS).2.1=y) ((l.getD 0 zS).2.1,0) ⟨rfl,by dsimp only; omega,by dsimp only; omega,0,by omega,rfl⟩ (zD (by omega)) (fun n k s hk ⟨e,h1,h2,h3⟩=>by
    obtain ⟨y,q⟩:=s;dsimp only at e h1 h2 h3 ⊢;subst e;have f:=qR (yl h.all k hk);refine .inr ⟨(if (l.getD k zS).2.1 < y then (l.getD k zS).2.1 else y,((k+1:Nat):Int)),⟨rfl,?_,?_,?_⟩,?_⟩
    · dsimp only; split <;> omega
    · dsimp only; split <;> omega
    · dsimp only; split
      · exact ⟨k,hk,rfl⟩
      · exact h3
    · rw [xa,qA (decide_eq_true (by omega)),zF (by simp [zi]; omega),zF (by simp [zk]; omega),Int.toNat_natCast]
      rfl) (fun n s ⟨e,h1,h2,h3⟩=>by
    obtain ⟨y,q⟩:=s;dsimp only at e h1 h2 h3 ⊢;subst e;exact ⟨y,by rw [xa,qj (by simp)],h1,h2,h3⟩)
  refine ⟨y,?_,h1⟩;dsimp only at hy;show (Option.bind (xa l zC (l.getD 0 zS).2.1 0) fun o1=>some o1)=_;rw [hy]
  rfl
theorem stloads_ok {s:qn} (h:stOk s=true) (a:List Int) (ha:a.length≤1000):∃ o c e,m_stloads s a=some (o,c,e)∧(e=0→(a.length:Int)=qa s∧(o.length:Int)=qb s):=by
  have f:=qR h;unfold m_stloads;rw [stcheck_eq,h,Option.bind_some,qj (by simp),stneeds_eq,Option.bind_some]
  by_cases hn:(a.length:Int)=qa s
  · rw [qj (by simp [hn])]
    have hm:=xl s;have hmp:=make_pos h;obtain ⟨o3,h3,h3'⟩:=loopX (fun n (q:Int)=>xw a n q) a.length (fun k q=>q=k∧∀ i,i < k→1≤a.getD i 0∧a.getD i 0≤3) (fun o=>(o=.inl ()∧∀ i,i < a.length→1≤a.getD i 0∧a.getD i 0≤3)∨o=.inr ([],0,1)) 0 ⟨rfl,fun i hi=>absurd hi (Nat.not_lt_zero _)⟩ (zD (by omega)) (fun n k q hk ⟨e,hq⟩=>by
      subst e
      by_cases hb:a.getD k 0 < 1∨3 < a.getD k 0
      · refine .inl ⟨_,?_,.inr rfl⟩
        rw [xw,qA (decide_eq_true (by omega)),zF (by simp [zi]; omega),Int.toNat_natCast,qA (by simp only [Bool.cond_true_left,Bool.or_eq_true,decide_eq_true_eq]; exact hb)]
      · refine .inr ⟨((k+1:Nat):Int),⟨rfl,fun i hi=>?_⟩,?_⟩
        · by_cases e:i=k
          · subst e; omega
          · exact hq i (by omega)
        · rw [xw,qA (decide_eq_true (by omega)),zF (by simp [zi]; omega),Int.toNat_natCast,qj (by simp only [Bool.cond_true_left,Bool.or_eq_false_iff,decide_eq_false_iff_not]; omega),zF (by simp [zk]; omega)]
          rfl) (fun n q ⟨e,hq⟩=>by
      subst e;exact ⟨_,by rw [xw,qj (by simp)],.inl ⟨rfl,hq⟩⟩)
    rw [h3,Option.bind_some]
    rcases h3' with ⟨rfl,hall⟩ | rfl
    · obtain ⟨o8,h8,h8'⟩:=loopX (fun n (q:Int×List Int)=>xp (qb s) n q.1 q.2) (qb s).toNat (fun k q=>q.1=k∧q.2.length=(qb s).toNat) (fun o=>o.length=(qb s).toNat) (0,List.replicate (qb s).toNat 0) ⟨rfl,by simp⟩ (zD (by omega)) (fun n k q hk ⟨e,hq⟩=>by
        obtain ⟨q1,q2⟩:=q;dsimp only at e hq ⊢;subst e;refine .inr ⟨(((k+1:Nat):Int),q2.set k 1),⟨rfl,by simpa using hq⟩,?_⟩;rw [xp,qA (decide_eq_true (by rw [List.length_replicate]; omega)),zF (by simp [zi]; omega),zF (by simp [zk]; omega),Int.toNat_natCast]
        rfl) (fun n q ⟨e,hq⟩=>by
        obtain ⟨q1,q2⟩:=q;dsimp only at e hq ⊢;subst e;exact ⟨q2,by rw [xp,qj (by rw [List.length_replicate]; simp)],hq⟩)
      dsimp only at h8;have ho:(o8.length:Int)=qb s:=by rw [h8']; omega
      dsimp only [sm];rw [stmakes_eq,Option.bind_some,zF (by simp only [Bool.and_eq_true,decide_eq_true_eq]; omega),h8,Option.bind_some];have h12:(cond (decide (s.1=(4:Int))) (some (decide (s.1=(4:Int)))) (some (decide (s.1=(5:Int)))))=some (decide (s.1=4∨s.1=5)):=by
        by_cases h4:s.1=4
        · simp [h4]
        · simp [h4]
      rw [h12,Option.bind_some]
      by_cases h45:s.1=4∨s.1=5
      · have hn2:qa s=2:=by
          unfold qa;rw [if_pos h]
          rcases h45 with h4 | h5
          · rw [if_neg (by omega),if_pos (.inl h4)]
          · rw [if_neg (by omega),if_pos (.inr h5)]
        have a0:=hall 0 (by omega);have a1:=hall 1 (by omega);rw [qA (decide_eq_true h45),zF (by simp [zi,zk, -List.getD_eq_getElem?_getD]; omega)]
        by_cases h5:(4:Int) < a.getD 0 0+a.getD 1 0
        · exact ⟨[],0,9,by rw [show (0:Int).toNat=0 from rfl,show (1:Int).toNat=1 from rfl,qA (decide_eq_true h5)],fun e=>by omega⟩
        · exact ⟨o8,(qb s).toNat,0,by rw [show (0:Int).toNat=0 from rfl,show (1:Int).toNat=1 from rfl,qj (decide_eq_false h5)],fun _=>⟨hn,ho⟩⟩
      · rw [qj (decide_eq_false h45)]
        by_cases h6:s.1=6
        · have hn1:qa s=1:=by
            unfold qa;rw [if_pos h,if_neg (by omega),if_neg (by omega),if_neg (by omega)]
          have a0:=hall 0 (by omega);rw [qA (decide_eq_true h6),zF (by simp [zi]; omega),show (0:Int).toNat=0 from rfl]
          by_cases h7:a.getD 0 0=3
          · exact ⟨[],0,9,by rw [qA (decide_eq_true h7)],fun e=>by omega⟩
          · exact ⟨o8.set 0 (a.getD 0 0+1),(qb s).toNat,0,by rw [qj (decide_eq_false h7),zF (by simp [zi,zk, -List.getD_eq_getElem?_getD]; omega)],fun _=>⟨hn,by simpa using ho⟩⟩
        · rw [qj (decide_eq_false h6)]
          by_cases h7:s.1=7
          · have hn1:qa s=1:=by
              unfold qa;rw [if_pos h,if_neg (by omega),if_neg (by omega),if_neg (by omega)]
            exact ⟨o8.set 0 (a.getD 0 0),(qb s).toNat,0,by rw [qA (decide_eq_true h7),show (0:Int).toNat=0 from rfl,zF (by simp [zi]; omega)],fun _=>⟨hn,by simpa using ho⟩⟩
          · exact ⟨o8,(qb s).toNat,0,by rw [qj (decide_eq_false h7)],fun _=>⟨hn,ho⟩⟩
    · exact ⟨[],0,1,rfl,fun e=>by omega⟩
  · exact ⟨[],0,5,by rw [qA (by simp [hn])],fun e=>by omega⟩
structure Fit (c:List (List qn)):Prop where
  odd:c.length % 2=1
  len:c.length≤31
  row:∀ i,i < c.length→Row (c.getD i [])
  fit:∀ i,i+1 < c.length→zG qa (c.getD (i+1) []) (c.getD (i+1) []).length=zG qb (c.getD i []) (c.getD i []).length
theorem chrows_ok (c:List (List qn)):∃ e,m_chrows c=some e∧(e=0→Fit c):=by
  unfold m_chrows
  by_cases h31:31 < c.length
  · exact ⟨3,by rw [qA (decide_eq_true (by omega))],fun e=>by omega⟩
  rw [qj (decide_eq_false (by omega))];have hmod:Int.tmod (c.length:Int) 2=((c.length % 2:Nat):Int):=rfl
  by_cases h2:c.length % 2=0
  · exact ⟨1,by rw [hmod,h2,qA (by rfl)],fun e=>by omega⟩
  rw [hmod,qj (decide_eq_false (by omega))];obtain ⟨o1,h1,h1'⟩:=loopX (fun n (q:Int)=>xt c n q) c.length (fun k q=>q=k∧∀ i,i < k→Row (c.getD i [])) (fun o=>(o=.inl ()∧∀ i,i < c.length→Row (c.getD i []))∨∃ e,o=.inr e∧e≠0) 0 ⟨rfl,fun i hi=>absurd hi (Nat.not_lt_zero _)⟩ (zD (by omega)) (fun n k q hk ⟨e,hq⟩=>by
    subst e
    by_cases hb:rowErr (c.getD k [])=0
    · refine .inr ⟨((k+1:Nat):Int),⟨rfl,fun i hi=>?_⟩,?_⟩
      · by_cases e:i=k
        · subst e; exact row_of hb
        · exact hq i (by omega)
      · rw [xt,qA (decide_eq_true (by omega)),zF (by simp [zi]; omega),Int.toNat_natCast,chrow_eq,Option.bind_some,qj (by rw [decide_eq_true hb]; rfl),zF (by simp [zk]; omega)]
        rfl
    · refine .inl ⟨_,?_,.inr ⟨_,rfl,hb⟩⟩
      rw [xt,qA (decide_eq_true (by omega)),zF (by simp [zi]; omega),Int.toNat_natCast,chrow_eq,Option.bind_some,qA (by rw [decide_eq_false hb]; rfl)]) (fun n q ⟨e,hq⟩=>by
    subst e;exact ⟨_,by rw [xt,qj (by simp)],.inl ⟨rfl,hq⟩⟩)
  rw [h1,Option.bind_some]
  rcases h1' with ⟨rfl,hall⟩ | ⟨e,rfl,he⟩
  · dsimp only [sm]
    obtain ⟨o6,h6,h6'⟩:=loopX (fun n (q:Int)=>xc c n q) (c.length - 1) (fun k q=>q=((k+1:Nat):Int)∧∀ i,i < k→zG qa (c.getD (i+1) []) (c.getD (i+1) []).length=zG qb (c.getD i []) (c.getD i []).length) (fun o=>(o=.inl ()∧∀ i,i < c.length - 1→zG qa (c.getD (i+1) []) (c.getD (i+1) []).length=zG qb (c.getD i []) (c.getD i []).length)∨o=.inr 14) 1 ⟨rfl,fun i hi=>absurd hi (Nat.not_lt_zero _)⟩ (zD (by omega)) (fun n k q hk ⟨e,hq⟩=>by
      subst e;have r1:=(hall (k+1) (by omega)).len;have r2:=(hall k (by omega)).len;have hst:xc c (n+1) ((k+1:Nat):Int)=cond (!(decide (zG qa (c.getD (k+1) []) (c.getD (k+1) []).length=zG qb (c.getD k []) (c.getD k []).length))) (some (.inr (14:Int))) (xc c n ((k+1+1:Nat):Int)):=by
        rw [xc,qA (decide_eq_true (by omega)),zF (by simp [zi]; omega),Int.toNat_natCast,chneeds_eq _ (by omega),Option.bind_some,zF (by simp [zi,zk]; omega),show (((k+1:Nat):Int) - 1).toNat=k by omega,chmakes_eq _ (by omega),Option.bind_some,zF (by simp [zk]; omega)]
        rfl
      by_cases hb:zG qa (c.getD (k+1) []) (c.getD (k+1) []).length=zG qb (c.getD k []) (c.getD k []).length
      · refine .inr ⟨((k+1+1:Nat):Int),⟨rfl,fun i hi=>?_⟩,?_⟩
        · by_cases e:i=k
          · subst e; exact hb
          · exact hq i (by omega)
        · rw [hst,qj (by rw [decide_eq_true hb]; rfl)]
      · refine .inl ⟨_,?_,.inr rfl⟩
        rw [hst,qA (by rw [decide_eq_false hb]; rfl)]) (fun n q ⟨e,hq⟩=>by
      subst e;exact ⟨_,by rw [xc,qj (decide_eq_false (by omega))],.inl ⟨rfl,hq⟩⟩)
    rw [h6,Option.bind_some]
    rcases h6' with ⟨rfl,hfit⟩ | rfl
    · exact ⟨0,rfl,fun _=>⟨by omega,by omega,hall,fun i hi=>hfit i (by omega)⟩⟩
    · exact ⟨14,rfl,fun e=>by omega⟩
  · exact ⟨e,rfl,fun h=>absurd h he⟩
end Go.Proofs.YtihcolehefloeaaDoor

/- Flats, plain: charts.Check. -/
namespace Go.Proofs.YtihcolehefloeaaDoor
open Go.RowKit
theorem fill_ok (L:Nat→Int→List Int→Option T3) (m:Nat) (hm:m≤1000) (hs:∀ n (k:Nat) (q:List Int),k < m→q.length=m→∃ q',q'.length=m∧L (n+1) k q=L n ((k+1:Nat):Int) q') (he:∀ n q,L (n+1) (m:Int) q=some q):∃ o,L zC 0 (List.replicate m 0)=some o∧o.length=m:=by
  obtain ⟨o,h,h'⟩:=loopX (fun n (q:Int×List Int)=>L n q.1 q.2) m (fun k q=>q.1=k∧q.2.length=m) (fun o=>o.length=m) (0,List.replicate m 0) ⟨rfl,by simp⟩ (zD (by omega)) (fun n k q hk ⟨e,hq⟩=>by
    obtain ⟨q1,q2⟩:=q;dsimp only at e hq ⊢;subst e;obtain ⟨q',h1,h2⟩:=hs n k q2 hk hq;exact .inr ⟨(((k+1:Nat):Int),q'),⟨rfl,h1⟩,h2⟩) (fun n q ⟨e,hq⟩=>by
    obtain ⟨q1,q2⟩:=q;dsimp only at e hq ⊢;subst e;exact ⟨q2,he n q2,hq⟩)
  exact ⟨o,h,h'⟩
theorem loads11 {c:List (List qn)} {i:Nat} (hi:i < c.length) (h:Row (c.getD i [])) (V:List T3) (cap:Option Nat) (cp:Option Nat) (b:List Int) (hb:(b.length:Int)=zG qa (c.getD i []) (c.getD i []).length) :
    ∃ o,qD c i V cap zC b 0 [] cp=some o∧((∃ m q,o=.inl (m,q)∧(m.length:Int)=zG qb (c.getD i []) (c.getD i []).length)∨∃ e,o=.inr (e,V,cap)∧e≠0):=by
  have hl:=h.len;obtain ⟨l,hle⟩:∃ l,c.getD i []=l:=⟨_,rfl⟩
  have ez:((0,(0,(0,(0,false)))):qn)=zS:=rfl;have e0:=sumTo_le qa need_le l 0 (Nat.zero_le _);have e1:zG qa l 0=0:=by simp [zG]
  have e2:zG qb l 0=0:=by simp [zG]
  rw [hle] at h hb hl;obtain ⟨o,h1,h2⟩:=loopX (fun n (s:List Int×Int×List Int×Option Nat)=>qD c i V cap n s.1 s.2.1 s.2.2.1 s.2.2.2) l.length
    (fun k s=>s.2.1=k∧(s.1.length:Int)=zG qa l l.length - zG qa l k∧(s.2.2.1.length:Int)=zG qb l k)
    (fun o=>(∃ m q,o=.inl (m,q)∧(m.length:Int)=zG qb l l.length)∨∃ e,o=.inr (e,V,cap)∧e≠0) (b,0,[],cp) ⟨rfl,by dsimp only; omega,by dsimp only [List.length_nil]; omega⟩ (zD (by omega)) (fun n k s hk ⟨e,hb',hm⟩=>by
    obtain ⟨s1,s2,s3,s4⟩:=s;dsimp only at e hb' hm ⊢;subst e;have hst:=yl h.all k hk;have hn:=need_le (l.getD k zS);have hsn:=xM qa l k hk;have hsm:=xM qb l k hk;have hmo:=sumTo_mono qa need_le l (k+1) l.length (by omega) (Nat.le_refl _);have htn:=h.needs;have hml:=sumTo_le qb xl l k (by omega);have hmk:=xl (l.getD k zS);obtain ⟨z,hz⟩:∃ z:Nat,qa (l.getD k zS)=(z:Int):=⟨(qa (l.getD k zS)).toNat,by omega⟩
    obtain ⟨o,q,e,h3,h4⟩:=stloads_ok hst (s1.take z) (by rw [List.length_take]; omega);have hst':qD c i V cap (n+1) s1 k s3 s4=cond (!(decide (e=0))) (some (.inr (e,V,cap))) (gd (decide (0≤(z:Int))&&decide ((z:Int)≤(s1.length:Int)))<|gd (ze 8 (s3.length+o.length))<|gd (zk ((k:Int)+1))<|qD c i V cap n (s1.drop z) ((k:Int)+1) (s3++o) none):=by
      rw [qD,Int.toNat_natCast,Int.toNat_natCast,hle,qA (decide_eq_true (by omega)),zF (by simp [zi]; omega),ez,stneeds_eq,Option.bind_some,hz,zF (by simp only [Bool.and_eq_true,decide_eq_true_eq]; omega),Int.toNat_natCast,h3,Option.bind_some]
    by_cases h0:e=0
    · obtain ⟨h5,h6⟩:=h4 h0
      refine .inr ⟨(s1.drop z,((k+1:Nat):Int),s3++o,none),⟨rfl,?_,?_⟩,?_⟩
      · dsimp only
        rw [List.length_drop];omega
      · dsimp only
        rw [List.length_append];omega
      · rw [hst',qj (by simp [h0]),zF (by simp only [Bool.and_eq_true,decide_eq_true_eq]; omega),zF (by simp only [ze,Bool.and_eq_true,decide_eq_true_eq]; omega),zF (by simp [zk]; omega)]
        rfl
    · exact .inl ⟨_,by rw [hst',qA (by simp [h0])],.inr ⟨_,rfl,h0⟩⟩) (fun n s ⟨e,hb',hm⟩=>by
    obtain ⟨s1,s2,s3,s4⟩:=s;dsimp only at e hb' hm ⊢;subst e;exact ⟨_,by rw [qD,Int.toNat_natCast,hle,qj (by simp)],.inl ⟨_,_,rfl,hm⟩⟩)
  rw [hle];exact ⟨o,h1,h2⟩
theorem chcheck_ok (c:List (List qn)):∃ e,yB c=some e∧(e=0→Fit c):=by
  obtain ⟨e,h1,hF⟩:=chrows_ok c;unfold yB m_chloads;rw [h1,Option.bind_some]
  by_cases h0:e=0
  · have F:=hF h0
    have h31:=F.len;have hodd:=F.odd;have R0:=F.row 0 (by omega);obtain ⟨z,hz⟩:∃ z:Nat,zG qa (c.getD 0 []) (c.getD 0 []).length=(z:Int):=⟨(zG qa (c.getD 0 []) (c.getD 0 []).length).toNat,by have:=R0.needs; omega⟩
    have hz2:=R0.needs;have hl0:=R0.len;rw [hz] at hz2;obtain ⟨o3,h3,h3'⟩:=fill_ok (xA (z:Int)) z (by omega) (fun n k q hk hq=>⟨q.set k 1,by simpa using hq,by
      rw [xA,Int.toNat_natCast,Int.toNat_natCast,List.length_replicate,qA (decide_eq_true (by omega)),zF (by simp [zi]; omega),zF (by simp [zk]; omega)]
      rfl⟩) (fun n q=>by
      rw [xA,Int.toNat_natCast,List.length_replicate,qj (by simp)])
    rw [qj (by simp [h0]),zF (by simp [zi]; omega),show (0:Int).toNat=0 from rfl,show (1:Int).toNat=1 from rfl,chneeds_eq _ (by omega),hz,Option.bind_some,zF (by simp only [Bool.and_eq_true,decide_eq_true_eq]; omega),Int.toNat_natCast,h3,Option.bind_some,zF (by simp [zk]; omega),zF (by simp [zi])];obtain ⟨o7,h7,h7'⟩:=loopX (fun n (s:Int×List T3×Option Nat)=>qS c n s.1 s.2.1 s.2.2) c.length
      (fun k s=>s.1=k∧s.2.1.length=k+1∧(k < c.length→((s.2.1.getD k []).length:Int)=zG qa (c.getD k []) (c.getD k []).length))
      (fun o=>True) (0,[o3],some ((1:Int)+(c.length:Int)).toNat) ⟨rfl,rfl,fun _=>by
        show ((o3.length:Nat):Int)=_;rw [hz,h3']⟩ (zD (by omega)) (fun n k s hk ⟨e,hlen,hb⟩=>by
      obtain ⟨s1,s2,s3⟩:=s;dsimp only at e hlen hb ⊢;subst e;have Rk:=F.row k hk;have hmk:=Rk.makes;have hlk:=Rk.len;obtain ⟨w,hw⟩:∃ w:Nat,zG qb (c.getD k []) (c.getD k []).length=(w:Int):=⟨(zG qb (c.getD k []) (c.getD k []).length).toNat,by omega⟩
      obtain ⟨o,h8,h9⟩:=loads11 hk Rk s2 s3 (some w) (s2.getD k []) (hb hk);have hst:qS c (n+1) k s2 s3=sm o (fun o10=>gd (ze 24 (s2.length+[o10.1].length))<|gd (zk ((k:Int)+1))<|qS c n ((k:Int)+1) (s2++[o10.1]) none) (fun q=>some q):=by
        rw [qS,qA (decide_eq_true (by omega)),zF (by simp [zi]; omega),zF (by simp [zi]; omega),Int.toNat_natCast,chmakes_eq _ (by omega),hw,Option.bind_some,zF (by simp only [Bool.and_eq_true,decide_eq_true_eq]; omega),Int.toNat_natCast,h8,Option.bind_some]
      rcases h9 with ⟨m,q,rfl,hm⟩ | ⟨e,rfl,he⟩
      · refine .inr ⟨(((k+1:Nat):Int),s2++[m],none),⟨rfl,by simp [hlen],fun hk1=>?_⟩,?_⟩
        · dsimp only
          rw [F.fit k hk1,List.getD_eq_getElem?_getD,List.getElem?_append_right (by omega),show k+1 - s2.length=0 by omega];exact hm
        · rw [hst]
          dsimp only [sm];rw [zF (by simp only [ze,List.length_singleton,Bool.and_eq_true,decide_eq_true_eq]; omega),zF (by simp [zk]; omega)]
          rfl
      · exact .inl ⟨_,by rw [hst],trivial⟩) (fun n s ⟨e,_,_⟩=>by
      obtain ⟨s1,s2,s3⟩:=s;dsimp only at e ⊢;subst e;exact ⟨_,by rw [qS,qj (by simp)],trivial⟩)
    dsimp only at h7;have e9:(List.replicate 1 ([]:List Int)).set 0 o3=[o3]:=rfl;rw [e9,h7,Option.bind_some];obtain ⟨o71,o72,o73⟩:=o7;cases hc:(!(decide (o71=0))) with
    | true=>exact ⟨o71,rfl,fun _=>F⟩
    | false=>exact ⟨0,rfl,fun _=>F⟩
  · exact ⟨e,by rw [qA (by simp [h0])]; rfl,hF⟩
end Go.Proofs.YtihcolehefloeaaDoor

/- The laws of courses: models. -/
namespace Go.Proofs.YtihcolehefloeaaDoor
set_option linter.unusedSimpArgs false
set_option linter.unusedVariables false
open Go.RowKit
end Go.Proofs.YtihcolehefloeaaDoor

/- copy(x, y): a row of one's own takes the entries of a slice of the same length. -/
namespace Go.Proofs.YtihcolehefloeaaDoor
open Go.RowKit
section
variable {X:Cx} {M:Bool} {n:Nat} {r:Option Nat} {ops:List Oper} {rest:List Oper} {o:Oper} {d:Nat} {st:ASt} {Q:Exit→ASt→Prop}
theorem sk_copy (hX:X.tt.ok X.P) {t e:TypeId} {x y:Operand} {g1 g2:Bool} {sy:SA} {id sz bts:Nat} {ge g:GTy} {l l2:List g.D} {cap:Option Nat} {te:TE} {ds:TypeDesc} {zz:Value} (hop:o.op=.call ⟨.builtin .copy,⟨[x,y]⟩,⟨[t,t]⟩⟩) (ho:o.guard=none∧o.dst=some d) (hd:Nat.blt d n=true)
    (ht:X.tt.find t=some te) (hte:te.ti.desc=.slice e) (he:X.tt.find e=some ⟨⟨ds,sz,bts,zz⟩,some ge⟩) (hx:ae X st.L x=some (g1,.c (.sl id))) (hg:g1=true) (hy:ae X st.L y=some (g2,sy)) (hg':g2=true)
    (hlk:lk st.H id=some (.row e g l cap)) (hsz:Nat.beq g.size sz=true) (hsrc:srcL st g sy=some l2) (hc:Nat.beq l2.length l.length=true):StepOk X n o st ⟨(d,.c (.val (.int .i64 (l.length:Int)))) :: st.L,putH id (.row e g l2 cap) st.H⟩:=by
  intro R W Bi ks env B w0 H a w h KK lo hnext;obtain ⟨vx,hvx,hrx⟩:=h.ev hx hg;obtain ⟨vy,hvy,hry⟩:=h.ev hy hg';obtain ⟨hg1,hg2,hg3⟩:=(TT.get hX he).g ge rfl;obtain ⟨T,hT,h1,h4⟩:=tab2 (TT.get hX ht).ti (TT.get hX he).ti;have hsz':=Nat.eq_of_beq_eq_true hsz;have hcl:=Nat.eq_of_beq_eq_true hc;obtain ⟨A2,c2,xs2,rfl,hfl2,hR2⟩:=srcL_ok h hsrc hry;obtain ⟨A,c,m,hen,rfl⟩:=hrx;obtain ⟨ck,K,⟨A',k',xs,hen',rfl,hfl,hcap⟩,hfoc,hturn⟩:=h.setBlk (b':=.row e g l2 cap) hlk;rw [hen] at hen';cases hen';rw [hsz'] at hfoc hR2;rw [hcl] at hvy hR2;refine y_copy h.sym hop ho hd hT h1 hte h4 hvx hvy hfoc hR2 (Flat.ones (fun _ _=>FR.ones) hfl2) fun a' w' hY=>?_
  obtain ⟨H',h8⟩:=hturn (.row A c e g.size l.length xs2) a w' ⟨A,c,xs2,by rw [hcl]; exact hen,by rw [hcl],hfl2,hcap⟩ (by rw [hsz']; exact hY.sh) h.stt;exact hnext a' w' _ H' (h8.set rfl hY.st)
theorem al_copy (hX:X.tt.ok X.P) {t e:TypeId} {x y:Operand} {g1 g2:Bool} {sy:SA} {id sz bts:Nat} {ge g:GTy} {l l2:List g.D} {cap:Option Nat} {te:TE} {ds:TypeDesc} {zz:Value} (hop:o.op=.call ⟨.builtin .copy,⟨[x,y]⟩,⟨[t,t]⟩⟩) (ho:o.guard=none∧o.dst=some d) (hd:Nat.blt d n=true)
    (ht:X.tt.find t=some te) (hte:te.ti.desc=.slice e) (he:X.tt.find e=some ⟨⟨ds,sz,bts,zz⟩,some ge⟩) (hx:ae X st.L x=some (g1,.c (.sl id))) (hg:g1=true) (hy:ae X st.L y=some (g2,sy)) (hg':g2=true)
    (hlk:lk st.H id=some (.row e g l cap)) (hsz:Nat.beq g.size sz=true) (hsrc:srcL st g sy=some l2) (hc:Nat.beq l2.length l.length=true)
    (hnext:AL X M n r ops rest ⟨(d,.c (.val (.int .i64 (l.length:Int)))) :: st.L,putH id (.row e g l2 cap) st.H⟩ Q):AL X M n r ops (o :: rest) st Q:=
  al_sk (sk_copy hX hop ho hd ht hte he hx hg hy hg' hlk hsz hsrc hc) hnext
end
end Go.Proofs.YtihcolehefloeaaDoor

/- Flats: models. -/
namespace Go.Proofs.YtihcolehefloeaaDoor
set_option linter.unusedSimpArgs false
set_option linter.unusedVariables false
open Go.RowKit
def m_plain31_L2 (a0:Int):Nat→Int→T0→Option (T0)
  | 0,_,_=>none
  | n+1,v2_0,v2_1=>
    cond (decide (v2_0 < a0)) (gd ((ze 32 (v2_1.length+[((1:Int),((1:Int),((0:Int),((0:Int),false))))].length))) <|
    gd ((zk (v2_0+(1:Int)))) <|
    m_plain31_L2 a0 n (v2_0+(1:Int)) (v2_1++[((1:Int),((1:Int),((0:Int),((0:Int),false))))])) (some v2_1)
def m_plain31 (a0:Int):Option ((List T0)):=
    Option.bind (m_plain31_L2 a0 zC (0:Int) ([]:List T7)) fun o1=>
    some [o1]
theorem w_plain31 (a0:Int) (r:((List T0))) (h:m_plain31 a0=some r):AC cx 50 [.c (.val (.int .i64 a0))] [] (fun sv h=>sv=.a (.agg [.lst (.sl G0) r none])∧h=[]):=by
  apply AC.forgetV
  unfold m_plain31 at h;refine zp zu Tryd.func50 rfl Tryd.ntmps50 rfl rfl (res:=[.cell 2 28]) rfl<|zv<|zq<|zj zu rfl rfl<|zv<|zq<|zj zu rfl rfl<|zb (Wk.nil 3 3 48 G0 rfl rfl)<|zv<|zv<|zq<|zj zu rfl rfl ?_
  obtain ⟨o1,ho1,hk1⟩:=bd h;refine zB (fun o1:T0=>⟨[(2,.a (.c (.ptr 2 0))),(3,.a (.c (.sl 3)))],[(2,.cells 28 [.val (.slice none 0 0)]),(3,.row 48 G0 o1 none)]⟩) (fun o'=>o1=o') ?_ ?_
  ·have h:=ho1
   refine zc<|zb (Wk.pick [4,0,2,3] [3,2] rfl rfl)<|zm (fun y:Nat×Int×T0=>[(4,.a (.c (.val (.int .i64 y.2.1))))]) (fun y:Nat×Int×T0=>[(3,.row 48 G0 y.2.2 none)]) (fun y:Nat×Int×T0=>m_plain31_L2 a0 y.1 y.2.1 y.2.2=some o1) (fun y:Nat×Int×T0=>y.1) (zC,(0:Int),([]:List T7)) h ?_
   rintro ⟨n,v2_0,v2_1⟩ h;replace h:m_plain31_L2 a0 n v2_0 v2_1=some o1:=h
   rcases n with _ | n
   · cases (show (none:Option _)=some _ from h)
   rw [m_plain31_L2] at h
   try dsimp only
   refine zv<|zv<|zq<|zj zu rfl rfl ?_
   revert h
   refine xC rfl rfl (fun hc h=>?_) (fun hc h=>?_)
   ·refine za<|zv<|zc ?_
    obtain ⟨hG4,h⟩:=zw h;refine zq<|zj zu rfl (by simp only [hG4,oc]) ?_
    obtain ⟨hG3,h⟩:=zw h;refine zq<|zj zu rfl (by simp only [hG3,oc]) ?_
    refine ⟨(n,_,_),h,Nat.lt_succ_self _,(Wk.pick [4,0,2,3] [3,2] rfl rfl)⟩
   refine zr ?_;exact ⟨_,(Option.some.inj h).symm,(Wk.pick [2,3] [2,3] rfl rfl)⟩
  ·rintro _ rfl
   have h:=hk1;refine zv<|zq<|qf 1 zu rfl rfl<|xb (Wk.frz (id:=3) rfl)<|zj zu rfl rfl ?_
   cases h;exact zd ⟨_,(Wk.trans (Wk.frz (id:=15) rfl) (Wk.trans (Wk.dataB 2 G5 rfl rfl rfl rfl) (Wk.pick [2] [2] rfl rfl))),_,_,rfl,rfl,rfl⟩
def qx (a0:(T1×T5)):Nat→Int→T3→Option (T3)
  | 0,_,_=>none
  | n+1,v5_0,v5_1=>
    cond (decide (v5_0 < (6:Int))) (gd ((zi v5_0 ([a0.2.1,a0.2.2.1,a0.2.2.2.1,a0.2.2.2.2.1,a0.2.2.2.2.2.1,a0.2.2.2.2.2.2]:List Int).length)&&(zi v5_0 6)) <|
    cond (!(decide ((([a0.2.1,a0.2.2.1,a0.2.2.2.1,a0.2.2.2.2.1,a0.2.2.2.2.2.1,a0.2.2.2.2.2.2]:List Int).getD v5_0.toNat 0)=(0:Int)))) (gd ((zk (v5_0+(1:Int)))&&(ze 1 (v5_1.length+[(IntKind.wrap .u8 (v5_0+(1:Int)))].length))) <|
    gd ((zk (v5_0+(1:Int)))) <|
    qx a0 n (v5_0+(1:Int)) (v5_1++[(IntKind.wrap .u8 (v5_0+(1:Int)))])) (gd ((zk (v5_0+(1:Int)))) <|
    qx a0 n (v5_0+(1:Int)) v5_1)) (some v5_1)
def yt (a0:(T1×T5)) (a1:Int):Option (T4×(Option Nat)×Int):=
    Option.bind (m_front a0.1) fun r1=>
    cond (!(decide (r1.2=(0:Int)))) (some (([]:List zO),(some 0),r1.2)) (Option.bind (yr a0.1) fun r2=>
    Option.bind (m_bindoff a1 r2.1) fun r3=>
    cond (!(decide (r3.2=(0:Int)))) (some (([]:List zO),(some 0),r3.2)) (Option.bind (qx a0 zC (0:Int) ([]:List Int)) fun o4=>
    Option.bind (m_leave o4) fun r10=>
    cond (!(decide (r10.2.2=(0:Int)))) (some (([]:List zO),(some 0),r10.2.2)) (Option.bind (m_fljoin [r1.1,r3.1,r10.1]) fun r11=>
    some (r11.1,r11.2,(0:Int)))))
theorem w_flbindoff (a0:(T1×T5)) (a1:Int) (c0:Option Nat) (r:(T4×(Option Nat)×Int)) (h:yt a0 a1=some r):AC cx 79 [.agg [.lst qr a0.1 c0,.val (.int .u8 a0.2.1),.val (.int .u8 a0.2.2.1),.val (.int .u8 a0.2.2.2.1),.val (.int .u8 a0.2.2.2.2.1),.val (.int .u8 a0.2.2.2.2.2.1),.val (.int .u8 a0.2.2.2.2.2.2)],.c (.val (.int .u8 a1))] [] (fun sv h=>sv=.tup [.c (.lst qp r.1 r.2.1),.c (.val (.int .i64 r.2.2))]∧h=[]):=by
  unfold yt at h;refine zp zu Tryd.func79 rfl Tryd.ntmps79 rfl rfl (res:=[.tmp 4,.tmp 5]) rfl<|zv<|zq<|zj zu rfl rfl<|zb (Wk.frzC 2 G3 rfl rfl rfl)<|zv ?_
  obtain ⟨r1,hr1,h⟩:=bd h;refine zq<|zf zu rfl rfl<|zg (w_front _ none r1 hr1) rfl ⟨rfl,rfl⟩ rfl Tryd.func46 rfl rfl rfl rfl rfl rfl<|zj zu rfl rfl<|zv<|zv<|zq<|zj zu rfl rfl ?_
  revert h
  refine xC rfl rfl (fun hc h=>?_) (fun hc h=>?_)
  ·refine zv<|zq<|zj zu rfl rfl ?_
   cases h;exact zd ⟨_,(Wk.trans (Wk.lst0 4 qp rfl) (Wk.pick [4,5] [] rfl rfl)),_,_,rfl,rfl,rfl,rfl⟩
  refine za<|zv ?_
  obtain ⟨r2,hr2,h⟩:=bd h;obtain ⟨r3,hr3,h⟩:=bd h;refine zq<|zf zu rfl rfl<|zg (w_flnumbers _ none r2 hr2) rfl ⟨rfl,rfl⟩ rfl Tryd.func78 rfl rfl rfl rfl rfl rfl<|zg (w_bindoff _ _ (some r2.2) r3 hr3) rfl ⟨rfl,rfl⟩ rfl Tryd.func91 rfl rfl rfl rfl rfl rfl<|zj zu rfl rfl<|zv<|zv<|zq<|zj zu rfl rfl ?_
  revert h
  refine xC rfl rfl (fun hc h=>?_) (fun hc h=>?_)
  ·refine zv<|zq<|zj zu rfl rfl ?_
   cases h;exact zd ⟨_,(Wk.trans (Wk.lst0 4 qp rfl) (Wk.pick [4,5] [] rfl rfl)),_,_,rfl,rfl,rfl,rfl⟩
  refine za<|zv<|zq<|zj zu rfl rfl<|zb (Wk.nil 9 9 5 (.int .u8) rfl rfl)<|zv<|zv<|zq<|zj zu rfl rfl ?_
  obtain ⟨o4,ho4,hk4⟩:=bd h;refine zB (fun o4:T3=>⟨[(6,.a (.c (.lst qp r1.1 (some r1.1.length)))),(8,.a (.c (.lst qp r3.1 (some r3.1.length)))),(9,.a (.c (.sl 9)))],[(9,.row 5 (.int .u8) o4 none)]⟩) (fun o'=>o4=o') ?_ ?_
  ·have h:=ho4
   refine zc<|zb (Wk.pick [35,6,8,9,34] [9] rfl rfl)<|zm (fun y:Nat×Int×T3=>[(35,.a (.c (.val (.int .i64 y.2.1))))]) (fun y:Nat×Int×T3=>[(9,.row 5 (.int .u8) y.2.2 none)]) (fun y:Nat×Int×T3=>qx a0 y.1 y.2.1 y.2.2=some o4) (fun y:Nat×Int×T3=>y.1) (zC,(0:Int),([]:List Int)) h ?_
   rintro ⟨n,v5_0,v5_1⟩ h;replace h:qx a0 n v5_0 v5_1=some o4:=h
   rcases n with _ | n
   · cases (show (none:Option _)=some _ from h)
   rw [qx] at h
   try dsimp only
   refine zv<|zq<|zj zu rfl rfl<|zv ?_
   revert h
   refine xC rfl rfl (fun hc h=>?_) (fun hc h=>?_)
   ·refine za<|zv<|zc<|zv ?_
    obtain ⟨hG9,h⟩:=zw h;simp only [Bool.and_eq_true] at hG9;obtain ⟨hG9_0,hG9_1⟩:=hG9;refine zq<|qf 1 zu rfl (by simp only [hG9_0,hG9_1,oc]) ?_
    refine al_idxA (.int .u8) 6 v5_0 zu rfl ⟨rfl,rfl⟩ rfl rfl rfl rfl rfl rfl rfl rfl (by simp only [hG9_0,hG9_1,oc]) rfl (by simp only [hG9_0,hG9_1,oc]) rfl (by simp only [hG9_0,hG9_1,oc]) (by simp only [hG9_0,hG9_1,oc]) (by simp only [hG9_0,hG9_1,oc]) rfl ?_;refine zj zu rfl (by simp only [hG9_0,hG9_1,oc]) ?_;refine zv<|zq<|zj zu rfl rfl ?_
    revert h
    refine xC rfl rfl (fun hc h=>?_) (fun hc h=>?_)
    ·obtain ⟨hG7,h⟩:=zw h
     simp only [Bool.and_eq_true] at hG7;obtain ⟨hG7_0,hG7_1⟩:=hG7;refine zq<|zj zu rfl (by simp only [hG7_0,hG7_1,oc]) ?_
     obtain ⟨hG6,h⟩:=zw h;refine zq<|zj zu rfl (by simp only [hG6,oc]) ?_
     refine ⟨(n,_,_),h,Nat.lt_succ_self _,(Wk.pick [35,6,8,9,34] [9] rfl rfl)⟩
    refine za ?_;obtain ⟨hG8,h⟩:=zw h;refine zq<|zj zu rfl (by simp only [hG8,oc]) ?_
    refine ⟨(n,_,_),h,Nat.lt_succ_self _,(Wk.pick [35,6,8,9,34] [9] rfl rfl)⟩
   refine zr ?_;exact ⟨_,(Option.some.inj h).symm,(Wk.pick [6,8,9] [9] rfl rfl)⟩
  ·rintro _ rfl
   have h:=hk4;refine zv ?_;obtain ⟨r10,hr10,h⟩:=bd h;refine zq<|zf zu rfl rfl<|xb (Wk.frz (id:=9) rfl)<|zg (w_leave _ none r10 hr10) rfl ⟨rfl,rfl⟩ rfl Tryd.func92 rfl rfl rfl rfl rfl rfl<|zj zu rfl rfl<|zv<|zv<|zq<|zj zu rfl rfl ?_
   revert h
   refine xC rfl rfl (fun hc h=>?_) (fun hc h=>?_)
   ·refine zv<|zq<|zj zu rfl rfl ?_
    cases h;exact zd ⟨_,(Wk.trans (Wk.lst0 4 qp rfl) (Wk.pick [4,5] [] rfl rfl)),_,_,rfl,rfl,rfl,rfl⟩
   refine za<|zv ?_
   obtain ⟨r11,hr11,h⟩:=bd h;refine zq<|zf zu rfl rfl<|xb (Wk.frz (id:=59) rfl)<|zg (w_fljoin _ (some 3) r11 hr11) rfl ⟨rfl,rfl⟩ rfl Tryd.func54 rfl rfl rfl rfl rfl rfl<|zj zu rfl rfl ?_
   cases h;exact zd ⟨_,(Wk.pick [4,5] [] rfl rfl),_,_,rfl,rfl,rfl,rfl⟩
def qm (r3:Int):Nat→Int→T1→Option (T1)
  | 0,_,_=>none
  | n+1,v7_0,v7_1=>
    cond (decide (v7_0 < r3)) (gd ((zk ((13:Int)+v7_0))&&(ze 16 (v7_1.length+[((0:Int),((13:Int)+v7_0))].length))) <|
    gd ((zk (v7_0+(1:Int)))) <|
    qm r3 n (v7_0+(1:Int)) (v7_1++[((0:Int),((13:Int)+v7_0))])) (some v7_1)
def qz (a0:(List T0)):Nat→Int→Int→Int→T1→Int→Int→Int→Int→Int→Int→(List T4)→(Option Nat)→(List T1)→(Option Nat)→Option ((Int×T1×Int×Int×Int×Int×Int×Int×(List T4)×(Option Nat)×(List T1)×(Option Nat))⊕(((List T4)×(List T1))×Int))
  | 0,_,_,_,_,_,_,_,_,_,_,_,_,_,_=>none
  | n+1,v13_0,v13_1,v13_2,v13_3,v13_4,v13_5,v13_6,v13_7,v13_8,v13_9,v13_10,v13_11,v13_12,v13_13=>
    cond (decide (v13_2 < (a0.length:Int))) (gd ((zi v13_2 a0.length)) <|
    Option.bind (m_course (v13_3,(v13_4,(v13_5,(v13_6,(v13_7,(v13_8,v13_9)))))) (a0.getD v13_2.toNat []) v13_1) fun r14=>
    cond (!(decide (r14.2.2=(0:Int)))) (some (.inr ((([]:List T4),([]:List T1)),r14.2.2))) (gd ((ze 24 (v13_10.length+[r14.1].length))&&(ze 24 (v13_12.length+[r14.2.1.1].length))) <|
    gd ((zk (v13_0+(r14.1.length:Int)))) <|
    gd ((zk (v13_2+(1:Int)))) <|
    qz a0 n (v13_0+(r14.1.length:Int)) (IntKind.wrap .u8 ((1:Int) - v13_1)) (v13_2+(1:Int)) r14.2.1.1 r14.2.1.2.1 r14.2.1.2.2.1 r14.2.1.2.2.2.1 r14.2.1.2.2.2.2.1 r14.2.1.2.2.2.2.2.1 r14.2.1.2.2.2.2.2.2 (v13_10++[r14.1]) none (v13_12++[r14.2.1.1]) none)) (some (.inl (v13_0,v13_3,v13_4,v13_5,v13_6,v13_7,v13_8,v13_9,v13_10,v13_11,v13_12,v13_13)))
def qe (a0:(List T0)):Option (((List T4)×(List T1))×Int):=
    Option.bind (yB a0) fun r1=>
    cond (!(decide (r1=(0:Int)))) (some ((([]:List T4),([]:List T1)),r1)) (gd ((zi (0:Int) a0.length)) <|
    Option.bind (yA (a0.getD (0:Int).toNat [])) fun r2=>
    gd ((zi (0:Int) a0.length)) <|
    Option.bind (yw (a0.getD (0:Int).toNat [])) fun r3=>
    Option.bind (qm r3 zC (0:Int) ([]:List (Int×Int))) fun o6=>
    gd ((zi (IntKind.wrap .u8 (r2 - (1:Int))) 6)) <|
    Option.bind (yr o6) fun r10=>
    Option.bind (m_caston r2 r10.1) fun r11=>
    cond (!(decide (r11.2=(0:Int)))) (some ((([]:List T4),([]:List T1)),r11.2)) (Option.bind (qz a0 zC (r11.1.length:Int) (0:Int) (0:Int) o6 (cond (Nat.beq (IntKind.wrap .u8 (r2 - (1:Int))).toNat 0) (2:Int) (0:Int)) (cond (Nat.beq (IntKind.wrap .u8 (r2 - (1:Int))).toNat 1) (2:Int) (0:Int)) (cond (Nat.beq (IntKind.wrap .u8 (r2 - (1:Int))).toNat 2) (2:Int) (0:Int)) (cond (Nat.beq (IntKind.wrap .u8 (r2 - (1:Int))).toNat 3) (2:Int) (0:Int)) (cond (Nat.beq (IntKind.wrap .u8 (r2 - (1:Int))).toNat 4) (2:Int) (0:Int)) (cond (Nat.beq (IntKind.wrap .u8 (r2 - (1:Int))).toNat 5) (2:Int) (0:Int)) [r11.1] (some 1) [o6] (some 1)) fun o12=>
    sm o12 (fun o12=>
    gd ((zk ((a0.length:Int) - (1:Int)))&&(zi ((a0.length:Int) - (1:Int)) a0.length)) <|
    Option.bind (yA (a0.getD ((a0.length:Int) - (1:Int)).toNat [])) fun r19=>
    Option.bind (yt (o12.2.1,(o12.2.2.1,(o12.2.2.2.1,(o12.2.2.2.2.1,(o12.2.2.2.2.2.1,(o12.2.2.2.2.2.2.1,o12.2.2.2.2.2.2.2.1)))))) r19) fun r20=>
    cond (!(decide (r20.2.2=(0:Int)))) (some ((([]:List T4),([]:List T1)),r20.2.2)) (gd ((ze 24 (o12.2.2.2.2.2.2.2.2.1.length+[r20.1].length))) <|
    gd ((zk (o12.1+(r20.1.length:Int)))) <|
    cond (decide ((4096:Int) < (o12.1+(r20.1.length:Int)))) (some ((([]:List T4),([]:List T1)),(3:Int))) (some (((o12.2.2.2.2.2.2.2.2.1++[r20.1]),o12.2.2.2.2.2.2.2.2.2.2.1),(0:Int))))) (fun q=>some q)))
theorem w_flcompile (a0:(List T0)) (c0:Option Nat) (r:(((List T4)×(List T1))×Int)) (h:qe a0=some r):AC cx 53 [.agg [.lst (.sl G0) a0 c0]] [] (fun sv h=>sv=.tup [.agg [.lst (.sl qp) r.1.1 none,.lst (.sl qr) r.1.2 none],.c (.val (.int .i64 r.2))]∧h=[]):=by
  apply AC.forgetV
  unfold qe at h;refine zp zu Tryd.func53 rfl Tryd.ntmps53 rfl rfl (res:=[.cell 2 116,.tmp 3]) rfl<|zv<|zq<|zj zu rfl rfl<|zb (Wk.frzC 1 G5 rfl rfl rfl)<|zv<|zv ?_
  obtain ⟨r1,hr1,h⟩:=bd h;refine zq<|zf zu rfl rfl<|zg (w_chcheck _ none r1 hr1) rfl ⟨rfl,rfl⟩ rfl Tryd.func19 rfl rfl rfl rfl rfl rfl<|zj zu rfl rfl<|zv<|zq<|zj zu rfl rfl ?_
  revert h
  refine xC rfl rfl (fun hc h=>?_) (fun hc h=>?_)
  ·refine zv<|zq<|zj zu rfl rfl ?_
   cases h;exact zd ⟨_,(Wk.trans (Wk.dataB 2 G4 rfl rfl rfl rfl) (Wk.pick [2,3] [2] rfl rfl)),_,_,rfl,rfl,rfl⟩
  refine za<|zv ?_
  obtain ⟨hG26,h⟩:=zw h;obtain ⟨r2,hr2,h⟩:=bd h;refine zq<|zf zu rfl (by simp only [hG26,oc]) ?_
  refine zg (w_chfirst _ none r2 hr2) rfl ⟨rfl,rfl⟩ rfl Tryd.func76 rfl rfl rfl (by simp only [hG26,oc]) rfl rfl ?_;refine zj zu rfl (by simp only [hG26,oc]) ?_;refine zv<|zq<|zj zu rfl rfl<|zv<|zv ?_
  obtain ⟨hG25,h⟩:=zw h;obtain ⟨r3,hr3,h⟩:=bd h;refine zq<|zf zu rfl (by simp only [hG25,oc]) ?_
  refine zg (w_chneeds _ none r3 hr3) rfl ⟨rfl,rfl⟩ rfl Tryd.func7 rfl rfl rfl (by simp only [hG25,oc]) rfl rfl ?_;refine zj zu rfl (by simp only [hG25,oc]) ?_;refine zb (Wk.nilC 6 0 17 39 qr rfl) ?_;obtain ⟨o6,ho6,hk6⟩:=bd h;refine zB (fun o6:T1=>⟨[(1,.a (.c (.pel G5 a0 0))),(2,.a (.c (.ptr 2 0))),(5,.a (.c (.val (.int .u8 r2)))),(6,.a (.c (.ptr 6 0)))],[(2,.cells 116 [.val (.slice none 0 0),.val (.slice none 0 0)]),(6,.cells 34 [.sl 17,.val (.int .u8 (0:Int)),.val (.int .u8 (0:Int)),.val (.int .u8 (0:Int)),.val (.int .u8 (0:Int)),.val (.int .u8 (0:Int)),.val (.int .u8 (0:Int))]),(17,.row 39 qr o6 none)]⟩) (fun o'=>o6=o') ?_ ?_
  ·have h:=ho6
   refine zc<|zb (Wk.pick [31,1,2,5,6,30] [17,2,6] rfl rfl)<|zm (fun y:Nat×Int×T1=>[(31,.a (.c (.val (.int .i64 y.2.1))))]) (fun y:Nat×Int×T1=>[(17,.row 39 qr y.2.2 none)]) (fun y:Nat×Int×T1=>qm r3 y.1 y.2.1 y.2.2=some o6) (fun y:Nat×Int×T1=>y.1) (zC,(0:Int),([]:List (Int×Int))) h ?_
   rintro ⟨n,v7_0,v7_1⟩ h;replace h:qm r3 n v7_0 v7_1=some o6:=h
   rcases n with _ | n
   · cases (show (none:Option _)=some _ from h)
   rw [qm] at h
   try dsimp only
   refine zv<|zq<|zj zu rfl rfl<|zv ?_
   revert h
   refine xC rfl rfl (fun hc h=>?_) (fun hc h=>?_)
   ·refine za<|zv<|zc<|zv<|zq<|zj zu rfl rfl ?_
    obtain ⟨hG9,h⟩:=zw h;simp only [Bool.and_eq_true] at hG9;obtain ⟨hG9_0,hG9_1⟩:=hG9;refine zq<|zj zu rfl (by simp only [hG9_0,hG9_1,oc]) ?_
    obtain ⟨hG8,h⟩:=zw h;refine zq<|zj zu rfl (by simp only [hG8,oc]) ?_
    refine ⟨(n,_,_),h,Nat.lt_succ_self _,(Wk.pick [31,1,2,5,6,30] [17,2,6] rfl rfl)⟩
   refine zr ?_;exact ⟨_,(Option.some.inj h).symm,(Wk.pick [1,2,5,6] [2,6,17] rfl rfl)⟩
  ·rintro _ rfl
   have h:=hk6;refine zv ?_;obtain ⟨hG24,h⟩:=zw h;refine zq<|qf 4 zu rfl (by simp only [hG24,oc]) ?_
   refine al_storeX (.int .u8) 1 6 (IntKind.wrap .u8 (r2 - (1:Int))) rfl zu rfl ⟨rfl,rfl⟩ rfl rfl rfl (by simp only [hG24,oc]) rfl (by simp only [hG24,oc]) rfl rfl (by simp only [hG24,oc]) (by simp only [hG24,oc]) rfl (by simp only [hG24,oc]) rfl rfl rfl ?_;refine zj zu rfl (by simp only [hG24,oc]) ?_;refine zv ?_;obtain ⟨r10,hr10,h⟩:=bd h;obtain ⟨r11,hr11,h⟩:=bd h;refine zq<|zf zu rfl rfl<|xb (Wk.frz (id:=17) rfl)<|zg (w_flnumbers _ none r10 hr10) rfl ⟨rfl,rfl⟩ rfl Tryd.func78 rfl rfl rfl rfl rfl rfl<|zg (w_caston _ _ (some r10.2) r11 hr11) rfl ⟨rfl,rfl⟩ rfl Tryd.func77 rfl rfl rfl rfl rfl rfl<|zj zu rfl rfl<|zv<|zv<|zq<|zj zu rfl rfl ?_
   revert h
   refine xC rfl rfl (fun hc h=>?_) (fun hc h=>?_)
   ·refine zv<|zq<|zj zu rfl rfl ?_
    cases h;exact zd ⟨_,(Wk.trans (Wk.dataB 2 G4 rfl rfl rfl rfl) (Wk.pick [2,3] [2] rfl rfl)),_,_,rfl,rfl,rfl⟩
   refine za<|zv<|zq<|zj zu rfl rfl<|zv<|zq<|zj zu rfl rfl<|zv<|zq<|zj zu rfl rfl<|zv<|zv<|zq<|zj zu rfl rfl ?_
   obtain ⟨o12,ho12,hk12⟩:=bd h;refine zB (fun o12:Int×T1×Int×Int×Int×Int×Int×Int×(List T4)×(Option Nat)×(List T1)×(Option Nat)=>⟨[(1,.a (.c (.pel G5 a0 0))),(2,.a (.c (.ptr 2 0))),(6,.a (.c (.ptr 6 0))),(10,.a (.c (.ptr 10 0))),(11,.a (.c (.val (.int .i64 o12.1))))],[(2,.cells 116 [.val (.slice none 0 0),.val (.slice none 0 0)]),(6,.cells 34 [.lst qr o12.2.1 none,.val (.int .u8 o12.2.2.1),.val (.int .u8 o12.2.2.2.1),.val (.int .u8 o12.2.2.2.2.1),.val (.int .u8 o12.2.2.2.2.2.1),.val (.int .u8 o12.2.2.2.2.2.2.1),.val (.int .u8 o12.2.2.2.2.2.2.2.1)]),(10,.cells 116 [.sl 60,.sl 63]),(60,.row 41 (.sl qp) o12.2.2.2.2.2.2.2.2.1 o12.2.2.2.2.2.2.2.2.2.1),(63,.row 30 (.sl qr) o12.2.2.2.2.2.2.2.2.2.2.1 o12.2.2.2.2.2.2.2.2.2.2.2)]⟩) (fun o'=>Sum.inl o'=o12) ?_ ?_
   ·have h:=ho12
    refine zc<|zb (Wk.pick [11,12,70,1,2,6,10,68,69] [6,60,63,2,10] rfl rfl)<|zm (fun y:Nat×Int×Int×Int×T1×Int×Int×Int×Int×Int×Int×(List T4)×(Option Nat)×(List T1)×(Option Nat)=>[(11,.a (.c (.val (.int .i64 y.2.1)))),(12,.a (.c (.val (.int .u8 y.2.2.1)))),(70,.a (.c (.val (.int .i64 y.2.2.2.1))))]) (fun y:Nat×Int×Int×Int×T1×Int×Int×Int×Int×Int×Int×(List T4)×(Option Nat)×(List T1)×(Option Nat)=>[(6,.cells 34 [.lst qr y.2.2.2.2.1 none,.val (.int .u8 y.2.2.2.2.2.1),.val (.int .u8 y.2.2.2.2.2.2.1),.val (.int .u8 y.2.2.2.2.2.2.2.1),.val (.int .u8 y.2.2.2.2.2.2.2.2.1),.val (.int .u8 y.2.2.2.2.2.2.2.2.2.1),.val (.int .u8 y.2.2.2.2.2.2.2.2.2.2.1)]),(60,.row 41 (.sl qp) y.2.2.2.2.2.2.2.2.2.2.2.1 y.2.2.2.2.2.2.2.2.2.2.2.2.1),(63,.row 30 (.sl qr) y.2.2.2.2.2.2.2.2.2.2.2.2.2.1 y.2.2.2.2.2.2.2.2.2.2.2.2.2.2)]) (fun y:Nat×Int×Int×Int×T1×Int×Int×Int×Int×Int×Int×(List T4)×(Option Nat)×(List T1)×(Option Nat)=>qz a0 y.1 y.2.1 y.2.2.1 y.2.2.2.1 y.2.2.2.2.1 y.2.2.2.2.2.1 y.2.2.2.2.2.2.1 y.2.2.2.2.2.2.2.1 y.2.2.2.2.2.2.2.2.1 y.2.2.2.2.2.2.2.2.2.1 y.2.2.2.2.2.2.2.2.2.2.1 y.2.2.2.2.2.2.2.2.2.2.2.1 y.2.2.2.2.2.2.2.2.2.2.2.2.1 y.2.2.2.2.2.2.2.2.2.2.2.2.2.1 y.2.2.2.2.2.2.2.2.2.2.2.2.2.2=some o12) (fun y:Nat×Int×Int×Int×T1×Int×Int×Int×Int×Int×Int×(List T4)×(Option Nat)×(List T1)×(Option Nat)=>y.1) (zC,(r11.1.length:Int),(0:Int),(0:Int),o6,(cond (Nat.beq (IntKind.wrap .u8 (r2 - (1:Int))).toNat 0) (2:Int) (0:Int)),(cond (Nat.beq (IntKind.wrap .u8 (r2 - (1:Int))).toNat 1) (2:Int) (0:Int)),(cond (Nat.beq (IntKind.wrap .u8 (r2 - (1:Int))).toNat 2) (2:Int) (0:Int)),(cond (Nat.beq (IntKind.wrap .u8 (r2 - (1:Int))).toNat 3) (2:Int) (0:Int)),(cond (Nat.beq (IntKind.wrap .u8 (r2 - (1:Int))).toNat 4) (2:Int) (0:Int)),(cond (Nat.beq (IntKind.wrap .u8 (r2 - (1:Int))).toNat 5) (2:Int) (0:Int)),[r11.1],(some 1),[o6],(some 1)) h ?_
    rintro ⟨n,v13_0,v13_1,v13_2,v13_3,v13_4,v13_5,v13_6,v13_7,v13_8,v13_9,v13_10,v13_11,v13_12,v13_13⟩ h;replace h:qz a0 n v13_0 v13_1 v13_2 v13_3 v13_4 v13_5 v13_6 v13_7 v13_8 v13_9 v13_10 v13_11 v13_12 v13_13=some o12:=h
    rcases n with _ | n
    · cases (show (none:Option _)=some _ from h)
    rw [qz] at h
    try dsimp only
    refine zv<|zq<|zj zu rfl rfl<|zv ?_
    revert h
    refine xC rfl rfl (fun hc h=>?_) (fun hc h=>?_)
    ·refine za<|zv<|zc<|zv ?_
     obtain ⟨hG18,h⟩:=zw h;refine zq<|zj zu rfl (by simp only [hG18,oc]) ?_
     refine zv<|zv ?_
     obtain ⟨r14,hr14,h⟩:=bd h;refine zq<|zf zu rfl rfl<|zg (w_course _ _ _ none none r14 hr14) rfl ⟨rfl,rfl⟩ rfl Tryd.func11 rfl rfl rfl rfl rfl rfl<|zj zu rfl rfl<|zv<|zq<|zj zu rfl rfl ?_
     revert h
     refine xC rfl rfl (fun hc h=>?_) (fun hc h=>?_)
     ·refine zv<|zq<|zj zu rfl rfl<|zd ?_
      obtain rfl:=Option.some.inj h;have h:=hk12;dsimp only [sm] at h;obtain rfl:=Option.some.inj h;refine ⟨_,(Wk.trans (Wk.dataB 2 G4 rfl rfl rfl rfl) (Wk.pick [2,3] [2] rfl rfl)),_,_,rfl,rfl,?_⟩;exact rfl
     refine za<|zv ?_
     obtain ⟨hG17,h⟩:=zw h;simp only [Bool.and_eq_true] at hG17;obtain ⟨hG17_0,hG17_1⟩:=hG17
     apply ax_cut
     ·
       refine zH [2,3,4,5,6,7,8,9,10,11] (by kernel_rfl) rfl (N:=15)<|zn (fuel:=8) (ds':=⟨#[true,true,true,false,false,true,true,true,true,false,false,false,false,false,false],true,true,true⟩) zu [(0,0),(1,3),(2,0),(5,0),(6,3),(7,0),(8,3)] (by kernel_rfl) rfl (by simp only [hG17_0,hG17_1,oc]) ?_
       refine zl (by kernel_rfl) (zh (i:=3) ?_ (zh (i:=9) ?_ zo))
       ·
         refine qI zu (i:=3) rfl rfl rfl (by simp only [hG17_0,hG17_1,oc]) rfl ?_;refine zl (by kernel_rfl) (zh (i:=4) ?_ (zh (i:=9) ?_ zo))
         ·
           refine qI zu (i:=4) rfl rfl rfl (by simp only [hG17_0,hG17_1,oc]) rfl ?_;refine zn (fuel:=0) (ds':=⟨#[true,true,true,true,true,true,true,true,true,true,true,true,true,true,true],false,false,true⟩) zu [(11,0),(9,4),(10,4),(12,2),(13,0),(14,2)] (by kernel_rfl) rfl (by simp only [hG17_0,hG17_1,oc]) ?_;refine zt (by kernel_rfl) ?_;exact ⟨rfl,Wk.pick [1,2,6,8,10,11,12,68,69,70] [2,6,10,60,63] rfl rfl⟩
         ·
           refine qI zu (i:=9) rfl rfl rfl (by simp only [hG17_0,hG17_1,oc]) rfl ?_;refine zn (fuel:=0) (ds':=⟨#[true,true,true,true,true,true,true,true,true,true,true,true,true,true,true],false,false,true⟩) zu [(4,4),(11,0),(10,4),(12,2),(13,0),(14,2)] (by kernel_rfl) rfl (by simp only [hG17_0,hG17_1,oc]) ?_;refine zt (by kernel_rfl) ?_;exact ⟨rfl,Wk.pick [1,2,6,8,10,11,12,68,69,70] [2,6,10,60,63] rfl rfl⟩
       ·
         refine qI zu (i:=9) rfl rfl rfl (by simp only [hG17_0,hG17_1,oc]) rfl ?_;refine zn (fuel:=0) (ds':=⟨#[true,true,true,true,true,true,true,true,true,true,true,true,true,true,true],false,false,true⟩) zu [(3,4),(4,4),(11,0),(10,4),(12,2),(13,0),(14,2)] (by kernel_rfl) rfl (by simp only [hG17_0,hG17_1,oc]) ?_;refine zt (by kernel_rfl) ?_;exact ⟨rfl,Wk.pick [1,2,6,8,10,11,12,68,69,70] [2,6,10,60,63] rfl rfl⟩
     refine zv ?_;obtain ⟨hG16,h⟩:=zw h;refine zq<|zj zu rfl (by simp only [hG16,oc]) ?_
     refine zq<|zj zu rfl rfl ?_
     obtain ⟨hG15,h⟩:=zw h;refine zq<|zj zu rfl (by simp only [hG15,oc]) ?_
     refine ⟨(n,_,_,_,_,_,_,_,_,_,_,_,_,_,_),h,Nat.lt_succ_self _,(Wk.pick [11,12,70,1,2,6,10,68,69] [6,60,63,2,10] rfl rfl)⟩
    refine zr ?_;exact ⟨_,Option.some.inj h,(Wk.pick [1,2,6,10,11] [2,6,10,60,63] rfl rfl)⟩
   ·rintro o12 rfl
    have h:=hk12;dsimp only [sm] at h;refine zv<|zv ?_
    obtain ⟨hG23,h⟩:=zw h;simp only [Bool.and_eq_true] at hG23;obtain ⟨hG23_0,hG23_1⟩:=hG23;obtain ⟨r19,hr19,h⟩:=bd h;obtain ⟨r20,hr20,h⟩:=bd h;refine zH [1,2,3,4,5,6,7,8,9] (by kernel_rfl) rfl (N:=16)<|zn (fuel:=7) (ds':=⟨#[true,true,true,true,true,true,true,true,true,false,false,false,false,false,false,false],true,true,true⟩) zu [(0,3),(1,0),(2,1),(3,0),(4,1),(5,0),(6,0),(7,0),(8,1)] (by kernel_rfl) rfl (by simp only [hG23_0,hG23_1,oc]) ?_
    refine zl (by kernel_rfl) (zh (i:=9) ?_ zo);refine zN rfl<|zP (i:=9) (listed':=#[true,true,true,true,true,true,true,true,true,true,false,false,false,false,false,false]) (pre':=true) [] (w_chfirst _ none r19 hr19) rfl rfl rfl rfl ⟨rfl,rfl⟩ rfl Tryd.func76 rfl rfl rfl (by simp only [hG23_0,hG23_1,oc]) rfl rfl PassH.nil ?_
    rintro _ _ ⟨rfl,rfl⟩;refine ⟨_,_,rfl,rfl,?_⟩;refine zl (by kernel_rfl) (zh (i:=10) ?_ zo);refine zN rfl<|zP (i:=10) (listed':=#[true,true,true,true,true,true,true,true,true,true,true,false,false,false,false,false]) (pre':=true) [] (w_flbindoff _ _ none r20 hr20) rfl rfl rfl rfl ⟨rfl,rfl⟩ rfl Tryd.func79 rfl rfl rfl (by simp only [hG23_0,hG23_1,oc]) rfl rfl PassH.nil ?_
    rintro _ _ ⟨rfl,rfl⟩;refine ⟨_,_,rfl,rfl,?_⟩;refine zn (fuel:=0) (ds':=⟨#[true,true,true,true,true,true,true,true,true,true,true,true,true,true,true,true],false,true,false⟩) zu [(11,0),(12,0),(13,0),(14,0),(15,0)] (by kernel_rfl) rfl (by simp only [hG23_0,hG23_1,oc]) ?_;refine zt (by kernel_rfl)<|zv<|zq<|zj zu rfl rfl ?_
    revert h
    refine xC rfl rfl (fun hc h=>?_) (fun hc h=>?_)
    ·refine zv<|zq<|zj zu rfl rfl ?_
     cases h;exact zd ⟨_,(Wk.trans (Wk.dataB 2 G4 rfl rfl rfl rfl) (Wk.pick [2,3] [2] rfl rfl)),_,_,rfl,rfl,rfl⟩
    refine za<|zv ?_
    obtain ⟨hG22,h⟩:=zw h;refine zq<|zj zu rfl (by simp only [hG22,oc]) ?_
    refine zv<|zv ?_
    obtain ⟨hG21,h⟩:=zw h;refine zq<|zj zu rfl (by simp only [hG21,oc]) ?_
    revert h
    refine xC rfl rfl (fun hc h=>?_) (fun hc h=>?_)
    ·refine zv<|zq<|zj zu rfl rfl ?_
     cases h;exact zd ⟨_,(Wk.trans (Wk.dataB 2 G4 rfl rfl rfl rfl) (Wk.pick [2,3] [2] rfl rfl)),_,_,rfl,rfl,rfl⟩
    refine za<|zv<|zq<|zj zu rfl rfl ?_
    cases h;exact zd ⟨_,(Wk.trans (Wk.frz (id:=60) rfl) (Wk.trans (Wk.frz (id:=63) rfl) (Wk.trans (Wk.dataB 2 G4 rfl rfl rfl rfl) (Wk.pick [2,3] [2] rfl rfl)))),_,_,rfl,rfl,rfl⟩
def m_flcomp (a0:(List T0)):Option (T4×(Option Nat)×Int):=
    Option.bind (qe a0) fun r1=>
    cond (!(decide (r1.2=(0:Int)))) (some (([]:List zO),(some 0),r1.2)) (Option.bind (m_fljoin r1.1.1) fun r2=>
    some (r2.1,r2.2,(0:Int)))
theorem w_flcomp (a0:(List T0)) (c0:Option Nat) (r:(T4×(Option Nat)×Int)) (h:m_flcomp a0=some r):AC cx 20 [.agg [.lst (.sl G0) a0 c0]] [] (fun sv h=>sv=.tup [.c (.lst qp r.1 r.2.1),.c (.val (.int .i64 r.2.2))]∧h=[]):=by
  unfold m_flcomp at h;refine zp zu Tryd.func20 rfl Tryd.ntmps20 rfl rfl (res:=[.tmp 2,.tmp 3]) rfl<|zv<|zq<|zj zu rfl rfl<|zb (Wk.frzC 1 G5 rfl rfl rfl)<|zv ?_
  obtain ⟨r1,hr1,h⟩:=bd h;refine zq<|zf zu rfl rfl<|zg (w_flcompile _ none r1 hr1) rfl ⟨rfl,rfl⟩ rfl Tryd.func53 rfl rfl rfl rfl rfl rfl<|zj zu rfl rfl<|zb (Wk.frzC 4 G4 rfl rfl rfl)<|zv<|zv<|zq<|zj zu rfl rfl ?_
  revert h
  refine xC rfl rfl (fun hc h=>?_) (fun hc h=>?_)
  ·refine zv<|zq<|zj zu rfl rfl ?_
   cases h;exact zd ⟨_,(Wk.trans (Wk.lst0 2 qp rfl) (Wk.pick [2,3] [] rfl rfl)),_,_,rfl,rfl,rfl,rfl⟩
  refine za<|zv ?_
  obtain ⟨r2,hr2,h⟩:=bd h;refine zq<|zf zu rfl rfl<|zg (w_fljoin _ none r2 hr2) rfl ⟨rfl,rfl⟩ rfl Tryd.func54 rfl rfl rfl rfl rfl rfl<|zj zu rfl rfl ?_
  cases h;exact zd ⟨_,(Wk.pick [2,3] [] rfl rfl),_,_,rfl,rfl,rfl,rfl⟩
def qU (a0:(List T0)) (r1:((List T4)×(List T1))×Int):Nat→Int→Int→T3→Option (T3)
  | 0,_,_,_=>none
  | n+1,v3_0,v3_1,v3_2=>
    cond (decide (v3_1 < ((List.replicate ((a0.length:Int)+(1:Int)).toNat (0:Int)).length:Int))) (gd ((zi v3_1 r1.1.1.length)&&(zk (v3_0+((r1.1.1.getD v3_1.toNat []).length:Int)))) <|
    gd ((zi v3_1 v3_2.length)&&(decide (v3_1.toNat < v3_2.length))) <|
    gd ((zk (v3_1+(1:Int)))) <|
    qU a0 r1 n (v3_0+((r1.1.1.getD v3_1.toNat []).length:Int)) (v3_1+(1:Int)) (v3_2.set v3_1.toNat (v3_0+((r1.1.1.getD v3_1.toNat []).length:Int)))) (some v3_2)
def m_flrows (a0:(List T0)):Option (T3×Nat×Int):=
    Option.bind (qe a0) fun r1=>
    cond (!(decide (r1.2=(0:Int)))) (some (([]:List Int),0,r1.2)) (gd ((zk ((a0.length:Int)+(1:Int)))&&(decide (0≤((a0.length:Int)+(1:Int))))&&(decide ((8:Int) * ((a0.length:Int)+(1:Int))≤140737488355328))&&(decide (((a0.length:Int)+(1:Int))≤140737488355328))) <|
    Option.bind (qU a0 r1 zC (0:Int) (0:Int) (List.replicate ((a0.length:Int)+(1:Int)).toNat (0:Int))) fun o2=>
    some (o2,((a0.length:Int)+(1:Int)).toNat,(0:Int)))
theorem w_flrows (a0:(List T0)) (c0:Option Nat) (r:(T3×Nat×Int)) (h:m_flrows a0=some r):AC cx 21 [.agg [.lst (.sl G0) a0 c0]] [] (fun sv h=>sv=.tup [.c (.lst (.int .i64) r.1 (some r.2.1)),.c (.val (.int .i64 r.2.2))]∧h=[]):=by
  unfold m_flrows at h;refine zp zu Tryd.func21 rfl Tryd.ntmps21 rfl rfl (res:=[.tmp 2,.tmp 3]) rfl<|zv<|zq<|zj zu rfl rfl<|zb (Wk.frzC 1 G5 rfl rfl rfl)<|zv ?_
  obtain ⟨r1,hr1,h⟩:=bd h;refine zq<|zf zu rfl rfl<|zg (w_flcompile _ none r1 hr1) rfl ⟨rfl,rfl⟩ rfl Tryd.func53 rfl rfl rfl rfl rfl rfl<|zj zu rfl rfl<|zb (Wk.frzC 4 G4 rfl rfl rfl)<|zv<|zv<|zq<|zj zu rfl rfl ?_
  revert h
  refine xC rfl rfl (fun hc h=>?_) (fun hc h=>?_)
  ·refine zv<|zq<|zj zu rfl rfl ?_
   cases h;exact zd ⟨_,(Wk.trans (Wk.lst0 2 (.int .i64) rfl) (Wk.pick [2,3] [] rfl rfl)),_,_,rfl,rfl,rfl,rfl⟩
  refine za<|zv ?_
  obtain ⟨hG7,h⟩:=zw h;simp only [Bool.and_eq_true] at hG7;obtain ⟨⟨⟨hG7_0,hG7_1⟩,hG7_2⟩,hG7_3⟩:=hG7;refine zq<|zj zu rfl (by simp_all) ?_
  refine zv<|zq<|zj zu rfl rfl<|zv<|zv<|zq<|zj zu rfl rfl ?_
  obtain ⟨o2,ho2,hk2⟩:=bd h;refine zB (fun o2:T3=>⟨[(6,.a (.c (.sl 21)))],[(21,.row 3 (.int .i64) o2 (some ((a0.length:Int)+(1:Int)).toNat))]⟩) (fun o'=>o2=o') ?_ ?_
  ·have h:=ho2
   refine zc<|zb (Wk.pick [7,24,4,6,23] [21] rfl rfl)<|zm (fun y:Nat×Int×Int×T3=>[(7,.a (.c (.val (.int .i64 y.2.1)))),(24,.a (.c (.val (.int .i64 y.2.2.1))))]) (fun y:Nat×Int×Int×T3=>[(21,.row 3 (.int .i64) y.2.2.2 (some ((a0.length:Int)+(1:Int)).toNat))]) (fun y:Nat×Int×Int×T3=>qU a0 r1 y.1 y.2.1 y.2.2.1 y.2.2.2=some o2) (fun y:Nat×Int×Int×T3=>y.1) (zC,(0:Int),(0:Int),(List.replicate ((a0.length:Int)+(1:Int)).toNat (0:Int))) h ?_
   rintro ⟨n,v3_0,v3_1,v3_2⟩ h;replace h:qU a0 r1 n v3_0 v3_1 v3_2=some o2:=h
   rcases n with _ | n
   · cases (show (none:Option _)=some _ from h)
   rw [qU] at h
   try dsimp only
   refine zv<|zq<|zj zu rfl rfl<|zv ?_
   revert h
   refine xC rfl rfl (fun hc h=>?_) (fun hc h=>?_)
   ·refine za<|zv<|zc<|zv<|zq<|zj zu rfl rfl<|zv ?_
    obtain ⟨hG6,h⟩:=zw h;simp only [Bool.and_eq_true] at hG6;obtain ⟨hG6_0,hG6_1⟩:=hG6;refine zq<|zj zu rfl (by simp only [hG6_0,hG6_1,oc]) ?_
    obtain ⟨hG5,h⟩:=zw h;simp only [Bool.and_eq_true] at hG5;obtain ⟨hG5_0,hG5_1⟩:=hG5;refine zq<|zj zu rfl (by simp only [hG5_0,hG5_1,oc]) ?_
    obtain ⟨hG4,h⟩:=zw h;refine zq<|zj zu rfl (by simp only [hG4,oc]) ?_
    refine ⟨(n,_,_,_),h,Nat.lt_succ_self _,(Wk.pick [7,24,4,6,23] [21] rfl rfl)⟩
   refine zr ?_;exact ⟨_,(Option.some.inj h).symm,(Wk.pick [6] [21] rfl rfl)⟩
  ·rintro _ rfl
   have h:=hk2;refine zv<|zq<|zj zu rfl rfl ?_
   cases h;exact zd ⟨_,(Wk.trans (Wk.frz (id:=21) rfl) (Wk.pick [2,3] [] rfl rfl)),_,_,rfl,rfl,rfl,rfl⟩
def xo (a0:(List T0)) (a1:Int):Option (T4×(Option Nat)×T1×Nat×Int):=
    Option.bind (qe a0) fun r1=>
    cond (!(decide (r1.2=(0:Int)))) (some (([]:List zO),(some 0),([]:List (Int×Int)),0,r1.2)) (cond (cond (decide (a1 < (0:Int))) true (decide ((a0.length:Int) < a1))) (some (([]:List zO),(some 0),([]:List (Int×Int)),0,(1:Int))) (gd ((zi a1 r1.1.2.length)&&(decide (0≤((r1.1.2.getD a1.toNat []).length:Int)))&&(decide ((16:Int) * ((r1.1.2.getD a1.toNat []).length:Int)≤140737488355328))&&(decide (((r1.1.2.getD a1.toNat []).length:Int)≤140737488355328))) <|
    gd ((zi a1 r1.1.2.length)&&(Nat.beq (r1.1.2.getD a1.toNat []).length (List.replicate ((r1.1.2.getD a1.toNat []).length:Int).toNat (qr.zero:(Int×Int))).length)) <|
    gd ((zk (a1+(1:Int)))&&(decide (0≤(a1+(1:Int))))&&(decide ((a1+(1:Int))≤(r1.1.1.length:Int)))) <|
    Option.bind (m_fljoin (r1.1.1.take (a1+(1:Int)).toNat)) fun r2=>
    some (r2.1,r2.2,(r1.1.2.getD a1.toNat []),((r1.1.2.getD a1.toNat []).length:Int).toNat,(0:Int))))
theorem w_fluntil (a0:(List T0)) (a1:Int) (c0:Option Nat) (r:(T4×(Option Nat)×T1×Nat×Int)) (h:xo a0 a1=some r):AC cx 22 [.agg [.lst (.sl G0) a0 c0],.c (.val (.int .i64 a1))] [] (fun sv h=>sv=.tup [.c (.lst qp r.1 r.2.1),.c (.lst qr r.2.2.1 (some r.2.2.2.1)),.c (.val (.int .i64 r.2.2.2.2))]∧h=[]):=by
  unfold xo at h;refine zp zu Tryd.func22 rfl Tryd.ntmps22 rfl rfl (res:=[.tmp 4,.tmp 5,.tmp 6]) rfl<|zv<|zq<|zj zu rfl rfl<|zb (Wk.frzC 2 G5 rfl rfl rfl)<|zv ?_
  obtain ⟨r1,hr1,h⟩:=bd h;refine zq<|zf zu rfl rfl<|zg (w_flcompile _ none r1 hr1) rfl ⟨rfl,rfl⟩ rfl Tryd.func53 rfl rfl rfl rfl rfl rfl<|zj zu rfl rfl<|zb (Wk.frzC 7 G4 rfl rfl rfl)<|zv<|zv<|zq<|zj zu rfl rfl ?_
  revert h
  refine xC rfl rfl (fun hc h=>?_) (fun hc h=>?_)
  ·refine zv<|zq<|zj zu rfl rfl ?_
   cases h;exact zd ⟨_,(Wk.trans (Wk.lst0 4 qp rfl) (Wk.trans (Wk.lst0 5 qr rfl) (Wk.pick [4,5,6] [] rfl rfl))),_,_,rfl,rfl,rfl,rfl⟩
  refine za<|zv<|zv<|zq<|zj zu rfl (by generalize (decide (a1 < (0:Int)))=b0; revert b0; decide) ?_
  revert h
  refine xC rfl rfl (fun hc h=>?_) (fun hc h=>?_)
  ·refine zv<|zq<|zj zu rfl rfl ?_
   cases h;exact zd ⟨_,(Wk.trans (Wk.lst0 4 qp rfl) (Wk.trans (Wk.lst0 5 qr rfl) (Wk.pick [4,5,6] [] rfl rfl))),_,_,rfl,rfl,rfl,rfl⟩
  refine za<|zv ?_
  obtain ⟨hG5,h⟩:=zw h;simp only [Bool.and_eq_true] at hG5;obtain ⟨⟨⟨hG5_0,hG5_1⟩,hG5_2⟩,hG5_3⟩:=hG5;refine zq<|zj zu rfl (by simp_all) ?_
  refine zv ?_;obtain ⟨hG4,h⟩:=zw h;simp only [Bool.and_eq_true] at hG4;obtain ⟨hG4_0,hG4_1⟩:=hG4;refine zq<|qf 6 zu rfl (by simp only [hG4_0,hG4_1,oc]) ?_
  refine al_copy zu rfl ⟨rfl,rfl⟩ rfl rfl rfl rfl rfl (by simp only [hG4_0,hG4_1,oc]) rfl (by simp only [hG4_0,hG4_1,oc]) rfl rfl rfl (by simp only [hG4_0,hG4_1,oc]) ?_;refine zj zu rfl (by simp only [hG4_0,hG4_1,oc]) ?_;refine zv ?_;obtain ⟨hG3,h⟩:=zw h;simp only [Bool.and_eq_true] at hG3;obtain ⟨⟨hG3_0,hG3_1⟩,hG3_2⟩:=hG3;obtain ⟨r2,hr2,h⟩:=bd h;refine zq<|zf zu rfl (by simp only [hG3_0,hG3_1,hG3_2,oc]) ?_
  refine zg (w_fljoin _ none r2 hr2) rfl ⟨rfl,rfl⟩ rfl Tryd.func54 rfl rfl rfl (by simp only [hG3_0,hG3_1,hG3_2,oc]) rfl rfl ?_;refine zj zu rfl (by simp only [hG3_0,hG3_1,hG3_2,oc]) ?_;cases h;exact zd ⟨_,(Wk.trans (Wk.frz (id:=33) rfl) (Wk.pick [4,5,6] [] rfl rfl)),_,_,rfl,rfl,rfl,rfl⟩
def m_text31_L2 (a0:T4):Nat→Ta→Int→Option (Ta)
  | 0,_,_=>none
  | n+1,v2_0,v2_1=>
    cond (decide (v2_1 < (a0.length:Int))) (Option.bind (cond (decide ((0:Int) < v2_1)) (gd ((decide (v2_0.length+([59,32]:List UInt8).length≤140737488355328))) <|
    some (v2_0++([59,32]:List UInt8))) (some v2_0)) fun o3=>
    gd ((zi v2_1 a0.length)) <|
    Option.bind (m_optext (a0.getD v2_1.toNat qp.zero)) fun r5=>
    gd ((decide (o3.length+r5.length≤140737488355328))) <|
    gd ((zk (v2_1+(1:Int)))) <|
    m_text31_L2 a0 n (o3++r5) (v2_1+(1:Int))) (some v2_0)
def m_text31 (a0:T4):Option (Ta):=
    Option.bind (m_text31_L2 a0 zC ([]:List UInt8) (0:Int)) fun o1=>
    some o1
theorem w_text31 (a0:T4) (c0:Option Nat) (r:(Ta)) (h:m_text31 a0=some r):AC cx 51 [.c (.lst qp a0 c0)] [] (fun sv h=>sv=.a (.c (.str r))∧h=[]):=by
  unfold m_text31 at h;refine zp zu Tryd.func51 rfl Tryd.ntmps51 rfl rfl (res:=[.tmp 2]) rfl<|zv<|zq<|zj zu rfl rfl<|zv<|zq<|zj zu rfl rfl<|zv<|zv<|zq<|zj zu rfl rfl ?_
  obtain ⟨o1,ho1,hk1⟩:=bd h;refine zB (fun o1:Ta=>⟨[(3,.a (.c (.str o1)))],[]⟩) (fun o'=>o1=o') ?_ ?_
  ·have h:=ho1
   refine zc<|zb (Wk.pick [3,4,0] [] rfl rfl)<|zm (fun y:Nat×Ta×Int=>[(3,.a (.c (.str y.2.1))),(4,.a (.c (.val (.int .i64 y.2.2))))]) (fun y:Nat×Ta×Int=>[]) (fun y:Nat×Ta×Int=>m_text31_L2 a0 y.1 y.2.1 y.2.2=some o1) (fun y:Nat×Ta×Int=>y.1) (zC,([]:List UInt8),(0:Int)) h ?_
   rintro ⟨n,v2_0,v2_1⟩ h;replace h:m_text31_L2 a0 n v2_0 v2_1=some o1:=h
   rcases n with _ | n
   · cases (show (none:Option _)=some _ from h)
   rw [m_text31_L2] at h
   try dsimp only
   refine zv<|zv<|zq<|zj zu rfl rfl ?_
   revert h
   refine xC rfl rfl (fun hc h=>?_) (fun hc h=>?_)
   ·refine za<|zv<|zc<|zv<|zv<|zq<|zj zu rfl rfl ?_
    obtain ⟨o3,ho3,hk3⟩:=bd h;refine zB (fun o3:Ta=>⟨[(0,.a (.c (.lst qp a0 c0))),(3,.a (.c (.str o3))),(4,.a (.c (.val (.int .i64 v2_1))))],[]⟩) (fun o'=>o3=o') ?_ ?_
    ·have h:=ho3
     revert h
     refine xC rfl rfl (fun hc h=>?_) (fun hc h=>?_)
     ·obtain ⟨hG4,h⟩:=zw h
      refine zq<|zj zu rfl (by simp only [hG4,oc]) ?_
      exact ⟨_,(Option.some.inj h).symm,(Wk.pick [0,3,4] [] rfl rfl)⟩
     refine za ?_;exact ⟨_,(Option.some.inj h).symm,(Wk.pick [0,3,4] [] rfl rfl)⟩
    ·rintro _ rfl
     have h:=hk3;obtain ⟨hG7,h⟩:=zw h;obtain ⟨r5,hr5,h⟩:=bd h;obtain ⟨hG8,h⟩:=zw h;refine zq<|zf zu rfl (by simp only [hG7,hG8,oc]) ?_
     refine zg (w_optext _  r5 hr5) rfl ⟨rfl,rfl⟩ rfl Tryd.func42 rfl rfl rfl (by simp only [hG7,hG8,oc]) rfl rfl ?_;refine zj zu rfl (by simp only [hG7,hG8,oc]) ?_;obtain ⟨hG6,h⟩:=zw h;refine zq<|zj zu rfl (by simp only [hG6,oc]) ?_
     refine ⟨(n,_,_),h,Nat.lt_succ_self _,(Wk.pick [3,4,0] [] rfl rfl)⟩
   refine zr ?_;exact ⟨_,(Option.some.inj h).symm,(Wk.pick [3] [] rfl rfl)⟩
  ·rintro _ rfl
   have h:=hk1;refine zv<|zq<|zj zu rfl rfl ?_
   cases h;exact zd ⟨_,(Wk.pick [2] [] rfl rfl),_,_,rfl,rfl,rfl,rfl⟩
end Go.Proofs.YtihcolehefloeaaDoor

/- Flats, plain: flats.compile. -/
namespace Go.Proofs.YtihcolehefloeaaDoor
open Go.RowKit
def nextL (x:LoT) (l:List qn) (d:Int):LoT:=((qg l).flatten,qq x l d (zJ l).length 0,qq x l d (zJ l).length 1,qq x l d (zJ l).length 2,qq x l d (zJ l).length 3,qq x l d (zJ l).length 4,qq x l d (zJ l).length 5)
theorem bed01 (s:qn):bedOf s=0∨bedOf s=1:=by
  unfold bedOf
  split
  · exact .inr rfl
  · exact .inl rfl
theorem made_flat (l:List qn):∀ k,k≤l.length→((((List.range k).map (xu l)).flatten.length:Nat):Int)=zG qb l k∧∀ i:Nat,(i:Int) < zG qb l k→((((List.range k).map (xu l)).flatten.getD i (0,0)).1=0∨(((List.range k).map (xu l)).flatten.getD i (0,0)).1=1)∧(((List.range k).map (xu l)).flatten.getD i (0,0)).2=13+(i:Int)
  | 0,_=>by
    have e:zG qb l 0=0:=by simp [zG]
    rw [e];exact ⟨rfl,fun i hi=>by omega⟩
  | k+1,hk=>by
    obtain ⟨h1,h2⟩:=made_flat l k (by omega);have hs:=xM qb l k (by omega);have hm:=xl (l.getD k zS);have e:((List.range (k+1)).map (xu l)).flatten=((List.range k).map (xu l)).flatten++xu l k:=by
      rw [List.range_succ,List.map_append,List.flatten_append]
      simp
    rw [e];have hl:=madeAt_len l k;refine ⟨by rw [List.length_append,hl]; omega,fun i hi=>?_⟩
    by_cases h:(i:Int) < zG qb l k
    · rw [List.getD_eq_getElem?_getD,List.getElem?_append_left (by omega),← List.getD_eq_getElem?_getD]
      exact h2 i h
    · rw [List.getD_eq_getElem?_getD,List.getElem?_append_right (by omega),← List.getD_eq_getElem?_getD,madeAt_get l k _ (by omega)]
      refine ⟨bed01 _,?_⟩;show nx l k+_=_;unfold nx;omega
theorem side_le {x:LoT} (hx:sdsOk x=true) (l:List qn) (d:Int) (j i:Nat) (hi:i < 6):qq x l d j i≤2:=by
  unfold qq
  split
  · unfold enD; split <;> omega
  · have:=List.all_eq_true.1 hx i (by simpa using hi)
    exact of_decide_eq_true this
theorem next_lo {x:LoT} (hx:Lo x) {l:List qn} (h:Row l) (d:Int):Lo (nextL x l d):=by
  obtain ⟨h1,h2⟩:=made_flat l l.length (Nat.le_refl _);have hm:=h.makes;have e:(qg l).flatten=((List.range l.length).map (xu l)).flatten:=rfl;rw [← e] at h1 h2;refine ⟨?_,?_,?_⟩
  · show 1≤(qg l).flatten.length∧(qg l).flatten.length≤16
    omega
  · show ndsOk (qg l).flatten=true
    rw [ndsOk,List.all_eq_true];intro i hi;have hi':i < (qg l).flatten.length:=by simpa using hi
    obtain ⟨h3,h4⟩:=h2 i (by omega);unfold ndOk;rw [decide_eq_true (show ((qg l).flatten.getD i (0,0)).1≤1 by omega),decide_eq_true (show 13≤((qg l).flatten.getD i (0,0)).2 by omega),decide_eq_true (show ((qg l).flatten.getD i (0,0)).2≤28 by omega)]
    by_cases h0:i=0
    · simp [h0]
    · obtain ⟨h5,h6⟩:=h2 (i - 1) (by omega)
      rw [decide_eq_true (show ((qg l).flatten.getD (i - 1) (0,0)).2 < ((qg l).flatten.getD i (0,0)).2 by omega)]
      simp
  · rw [sdsOk,List.all_eq_true]
    intro i hi;have hi':i < 6:=by simpa using hi
    unfold sdOk;refine decide_eq_true ?_
    have:i=0∨i=1∨i=2∨i=3∨i=4∨i=5:=by omega
    rcases this with rfl | rfl | rfl | rfl | rfl | rfl <;> exact side_le hx.sds l d _ _ (by omega)
def xV (l:List qn):Int:=(yA l).getD 0
theorem firstY_eq {l:List qn} (h:Row l):yA l=some (xV l)∧1≤xV l∧xV l≤6:=by
  obtain ⟨y,h1,h2,h3,h4⟩:=chfirst_ok h;unfold xV;rw [h1];exact ⟨rfl,h2,h3⟩
def xN (n:Nat):List (Int×Int):=(List.range n).map fun i:Nat=>(0,13+(i:Int))
def sd0 (y:Int) (i:Nat):Int:=cond (Nat.beq (y - 1).toNat i) 2 0
def lay0 (c:List (List qn)):LoT:=(xN (zG qa (c.getD 0 []) (c.getD 0 []).length).toNat,sd0 (xV (c.getD 0 [])) 0,sd0 (xV (c.getD 0 [])) 1,sd0 (xV (c.getD 0 [])) 2,sd0 (xV (c.getD 0 [])) 3,sd0 (xV (c.getD 0 [])) 4,sd0 (xV (c.getD 0 [])) 5)
def lay (c:List (List qn)):Nat→LoT
  | 0=>lay0 c
  | k+1=>nextL (lay c k) (c.getD k []) ((k % 2:Nat):Int)
theorem slots0_get (n i:Nat) (h:i < n):(xN n).getD i (0,0)=(0,13+(i:Int)):=by
  unfold xN;rw [List.getD_eq_getElem?_getD,List.getElem?_map,List.getElem?_range h]
  rfl
theorem slots0_len (n:Nat):(xN n).length=n:=by simp [xN]
theorem lay0_lo {c:List (List qn)} (F:Fit c):Lo (lay0 c):=by
  have R0:=F.row 0 (by have:=F.odd; omega);have hn:=R0.needs;obtain ⟨n,hn'⟩:∃ n,(zG qa (c.getD 0 []) (c.getD 0 []).length).toNat=n:=⟨_,rfl⟩
  have e:(lay0 c).1=xN n:=by rw [← hn']; rfl
  refine ⟨?_,?_,?_⟩
  · rw [e,slots0_len]; omega
  · rw [e,ndsOk,List.all_eq_true]
    intro i hi;have hi':i < n:=by simpa [slots0_len] using hi
    unfold ndOk;rw [slots0_get n i hi']
    by_cases h0:i=0
    · subst h0; simp
    · rw [slots0_get n (i - 1) (by omega),decide_eq_true (show (0:Int)≤1 by omega),decide_eq_true (show (13:Int)≤13+(i:Int) by omega),decide_eq_true (show (13:Int)+(i:Int)≤28 by omega),decide_eq_true (show (13:Int)+((i - 1:Nat):Int) < 13+(i:Int) by omega)]
      simp
  · rw [sdsOk,List.all_eq_true]
    intro i hi;have hi':i < 6:=by simpa using hi
    unfold sdOk;refine decide_eq_true ?_;have hs:∀ y q,sd0 y q≤2:=fun y q=>by
      unfold sd0;cases Nat.beq (y - 1).toNat q <;> decide
    have:i=0∨i=1∨i=2∨i=3∨i=4∨i=5:=by omega
    rcases this with rfl | rfl | rfl | rfl | rfl | rfl <;> exact hs _ _
theorem lay_lo {c:List (List qn)} (F:Fit c):∀ k,k≤c.length→Lo (lay c k)
  | 0,_=>lay0_lo F
  | k+1,hk=>next_lo (lay_lo F k (by omega)) (F.row k (by omega)) _
theorem lay_need {c:List (List qn)} (F:Fit c):∀ k,k < c.length→zG qa (c.getD k []) (c.getD k []).length=(lay c k).1.length
  | 0,hk=>by
    have:=(F.row 0 hk).needs
    show _=(((xN (zG qa (c.getD 0 []) (c.getD 0 []).length).toNat).length:Nat):Int)
    rw [slots0_len];omega
  | k+1,hk=>by
    rw [F.fit k hk];exact (made_flat (c.getD k []) (c.getD k []).length (Nat.le_refl _)).1.symm
theorem flnumbers_eq (l:List (Int×Int)) (hl:l.length≤1000):yr l=some (l.map (·.2),l.length):=by
  have h:=xH (fun n (s:Int×List Int)=>ql l n s.1 s.2) l.length (fun k=>((k:Int),fl l.length (fun i=>if i < k then (l.getD i (0,0)).2 else 0))) (0,List.replicate l.length 0) (l.map (·.2))
    (by
      congr 1
      refine List.ext_getElem? fun k=>?_
      by_cases h:k < l.length <;> simp [fl,List.getElem?_replicate,h]) (zD (by omega)) (fun n k hk=>by
    show ql l (n+1) k (fl l.length _)=ql l n ((k+1:Nat):Int) (fl l.length (fun i=>if i < k+1 then (l.getD i (0,0)).2 else 0));have e:qr.zero=((0,0):Int×Int):=rfl;rw [ql,qA (decide_eq_true (by omega)),Int.toNat_natCast,e,zF (by simp [zi,xQ]; omega),zF (by simp [zk]; omega)];rw [fl_set (g:=fun i=>if i < k+1 then (l.getD i (0,0)).2 else 0) hk (by simp) (fun i hi=>by
      by_cases h1:i < k
      · simp only [if_pos h1,if_pos (show i < k+1 by omega)]
      · simp only [if_neg h1,if_neg (show ¬ i < k+1 by omega)])]
    rfl) (fun n=>by
    show ql l (n+1) l.length _=_;rw [ql,qj (by simp)]
    congr 1
    refine List.ext_getElem? fun i=>?_
    by_cases h:i < l.length
    · simp [fl,h]
    · simp [fl,h])
  unfold yr;dsimp only at h;rw [zF (by simp only [Bool.and_eq_true,decide_eq_true_eq]; omega),Int.toNat_natCast,h]
  rfl
def xy (P:List T4) (k:Nat):Nat:=((P.take k).map List.length).sum
theorem lenTo_succ (P:List T4) (k:Nat) (h:k < P.length):xy P (k+1)=xy P k+(P.getD k []).length:=by
  unfold xy;rw [take_d P [] k h]
  simp
theorem flat_lenTo (P:List T4):∀ k,k≤P.length→(P.take k).flatten.length=xy P k
  | 0,_=>by simp [xy]
  | k+1,hk=>by
    rw [lenTo_succ P k (by omega),take_d P [] k (by omega),List.flatten_append,List.length_append,flat_lenTo P k (by omega)]
    simp
theorem lenTo_mono (P:List T4) (k:Nat):∀ m,k≤m→m≤P.length→xy P k≤xy P m
  | 0,h,_=>by rw [show k=0 by omega]; exact Nat.le_refl _
  | m+1,h,hm=>by
    by_cases e:k=m+1
    · subst e; exact Nat.le_refl _
    · have:=lenTo_mono P k m (by omega) (by omega)
      rw [lenTo_succ P m (by omega)];omega
theorem fljoin_eq (P:List T4) (h1:P.length≤1000) (h2:xy P P.length≤1000000000):∃ q,m_fljoin P=some (P.flatten,q):=by
  have hb:∀ k,k≤P.length→xy P k≤1000000000:=fun k hk=>Nat.le_trans (lenTo_mono P k _ hk (Nat.le_refl _)) h2
  have e1:=xH (fun n (s:Int×Int)=>qV P n s.1 s.2) P.length (fun k=>((xy P k:Int),(k:Int))) (0,0) (xy P P.length:Int) (by simp [xy]) (zD (by omega)) (fun n k hk=>by
    have b1:=hb k (by omega);have b2:=hb (k+1) (by omega);have e:=lenTo_succ P k hk;show qV P (n+1) (xy P k) k=qV P n (xy P (k+1):Nat) ((k+1:Nat):Int);rw [qV,qA (decide_eq_true (by omega)),zF (by simp [zi]; omega),Int.toNat_natCast,zF (by simp only [zk,Bool.and_eq_true,decide_eq_true_eq]; omega),zF (by simp [zk]; omega),e]
    rfl) (fun n=>by
    show qV P (n+1) (xy P P.length) P.length=_;rw [qV,qj (by simp)])
  obtain ⟨q,e2,e3⟩:=loopX (fun n (s:Int×List zO×Option Nat)=>xL P n s.1 s.2.1 s.2.2) P.length (fun k s=>s.1=k∧s.2.1=(P.take k).flatten) (fun o=>o.1=P.flatten) (0,[],some (xy P P.length:Int).toNat) ⟨rfl,by simp⟩ (zD (by omega)) (fun n k s hk ⟨h3,h4⟩=>by
    obtain ⟨s1,s2,s3⟩:=s;dsimp only at h3 h4 ⊢;subst h3;have b2:=hb (k+1) (by omega);rw [lenTo_succ P k hk] at b2;have hfl:=flat_lenTo P k (by omega);refine .inr ⟨(((k+1:Nat):Int),s2++P.getD k [],none),⟨rfl,?_⟩,?_⟩
    · dsimp only
      rw [h4,take_d P [] k hk,List.flatten_append]
      simp
    · rw [xL,qA (decide_eq_true (by omega)),zF (by simp [zi]; omega),Int.toNat_natCast,zF (by rw [h4,hfl]; simp only [ze,Bool.and_eq_true,decide_eq_true_eq]; omega),zF (by simp [zk]; omega)]
      rfl) (fun n s ⟨h3,h4⟩=>by
    obtain ⟨s1,s2,s3⟩:=s;dsimp only at h3 h4 ⊢;subst h3;exact ⟨(s2,s3),by rw [xL,qj (by simp)],by dsimp only; rw [h4,List.take_length]⟩)
  obtain ⟨q1,q2⟩:=q;dsimp only at e1 e2 e3;subst e3;refine ⟨q2,?_⟩;unfold m_fljoin;rw [e1,Option.bind_some,zF (by simp only [Bool.and_eq_true,decide_eq_true_eq]; omega),e2]
  rfl
def insL (x:LoT):List Int:=((List.range 6).filter fun i=>!decide ((xR x).getD i 0=0)).map fun i:Nat=>(i:Int)+1
theorem ins_lv (x:LoT):lvAll (insL x)=true∧(insL x).length≤6:=by
  unfold insL;obtain ⟨f,hf⟩:∃ f:Nat→Bool,(fun i=>!decide ((xR x).getD i 0=0))=f:=⟨_,rfl⟩
  rw [hf];have e:List.range 6=[0,1,2,3,4,5]:=rfl;rw [e];simp only [List.filter];cases f 0 <;> cases f 1 <;> cases f 2 <;> cases f 3 <;> cases f 4 <;> cases f 5 <;> decide
theorem fl5_eq (x:LoT):qx x zC 0 []=some (insL x):=
  xH (fun n (s:Int×List Int)=>qx x n s.1 s.2) 6 (fun k=>((k:Int),((List.range k).filter fun i=>!decide ((xR x).getD i 0=0)).map fun i:Nat=>(i:Int)+1)) (0,[]) (insL x) rfl (zD (by omega)) (fun n k hk=>by
    have hb:(((List.range k).filter fun i=>!decide ((xR x).getD i 0=0)).map fun i:Nat=>(i:Int)+1).length≤k:=by
      rw [List.length_map];exact Nat.le_trans (List.length_filter_le _ _) (by simp)
    show qx x (n+1) k (((List.range k).filter fun i=>!decide ((xR x).getD i 0=0)).map fun i:Nat=>(i:Int)+1)=qx x n ((k+1:Nat):Int) (((List.range (k+1)).filter fun i=>!decide ((xR x).getD i 0=0)).map fun i:Nat=>(i:Int)+1);rw [qx,qA (decide_eq_true (by omega)),zF (by simp [zi]; omega),Int.toNat_natCast,wrap8 _ (by omega),List.range_succ,List.filter_append,List.map_append];show cond (!decide ((xR x).getD k 0=0)) _ _=_;cases hd:decide ((xR x).getD k 0=0) with
    | false=>
      rw [qA (by rfl),zF (by simp only [zk,ze,List.length_singleton,Bool.and_eq_true,decide_eq_true_eq]; omega),zF (by simp [zk]; omega)];simp only [List.filter,hd,Bool.not_false,List.map_cons,List.map_nil]
      rfl
    | true=>
      rw [qj (by rfl),zF (by simp [zk]; omega)];simp only [List.filter,hd,Bool.not_true,List.map_nil,List.append_nil]
      rfl) (fun n=>by
    show qx x (n+1) ((6:Nat):Int) _=_;rw [qx,qj (by simp)]
    rfl)
def bindL (x:LoT) (y:Int):List zO:=xP x.1++(bindPlan y (xh x)++(insL x).map outOp)
theorem bindL_len {x:LoT} (hx:Lo x) (y:Int):(bindL x y).length≤120000:=by
  have h1:=front_len x.1;have h2:=hx.len;have h3:=from_len x;have h4:=bindTo_len y (xh x) (from_all hx.nds) (xh x).length (Nat.le_refl _);have h5:=(ins_lv x).2;unfold bindL bindPlan;simp only [List.length_append,List.length_map,List.length_singleton];omega
theorem flbindoff_eq {x:LoT} (hx:Lo x) {y:Int} (hy:1≤y∧y≤6):∃ q,yt x y=some (bindL x y,q,0):=by
  have h2:=hx.len;have h3:=from_len x;have he:eOk y (xh x)=true:=by
    unfold eOk;rw [from_all hx.nds,decide_eq_true hy.1,decide_eq_true hy.2,decide_eq_true (by omega)]
    rfl
  have hb:=bindL_len hx y;have hl:=ins_lv x;obtain ⟨q,hq⟩:=fljoin_eq [xP x.1,bindPlan y (xh x),(insL x).map outOp] (by simp) (by
    simp only [bindL,List.length_append] at hb;simp only [xy,List.length_cons,List.length_nil,List.take_succ_cons,List.take_zero,List.map_cons,List.map_nil,List.sum_cons,List.sum_nil];omega)
  refine ⟨q,?_⟩;unfold yt;rw [front_eq x.1 (by omega) hx.nds,Option.bind_some,qj (by rfl),flnumbers_eq x.1 (by omega),Option.bind_some];show Option.bind (m_bindoff y (xh x)) _=_;rw [bindoff_eq y (xh x) (by omega),he,if_neg (by simp),Option.bind_some,qj (by rfl),fl5_eq,Option.bind_some,leave_eq _ (by omega),hl.1,if_pos rfl,Option.bind_some,qj (by rfl)];show Option.bind (m_fljoin [xP x.1,bindPlan y (xh x),(insL x).map outOp]) _=_;rw [hq,Option.bind_some,bindL];simp only [List.flatten_cons,List.flatten_nil,List.append_nil]
def castP (c:List (List qn)):List zO:=castPlan (xV (c.getD 0 [])) (xh (lay0 c))
def courseP (c:List (List qn)) (k:Nat):List zO:=courseOps (lay c k) (c.getD k []) ((k % 2:Nat):Int)
def xi (c:List (List qn)) (k:Nat):List T4:=castP c :: (List.range k).map (courseP c)
def qt (c:List (List qn)) (k:Nat):List T1:=(List.range (k+1)).map fun j=>(lay c j).1
def bindP (c:List (List qn)):List zO:=bindL (lay c c.length) (xV (c.getD (c.length - 1) []))
def qw (c:List (List qn)):List T4:=xi c c.length++[bindP c]
def yx (c:List (List qn)):Nat→Nat
  | 0=>(castP c).length
  | k+1=>yx c k+(courseP c k).length
theorem castP_len {c:List (List qn)} (F:Fit c):(castP c).length≤18:=by
  have h1:=(lay0_lo F).len;have h2:=from_len (lay0 c);unfold castP castPlan castOps;simp only [List.length_append,List.length_cons,List.length_map,List.length_nil];omega
theorem courseP_len {c:List (List qn)} (F:Fit c) (k:Nat) (hk:k < c.length):(courseP c k).length≤15020000:=by
  have h1:=opsToY_len (lay_lo F k (by omega)) (F.row k hk) (lay_need F k hk) ((k % 2:Nat):Int) (zJ (c.getD k [])).length;have h2:=yarnsL_len (c.getD k []);unfold courseP courseOps;omega
theorem sizeTo_len {c:List (List qn)} (F:Fit c):∀ k,k≤c.length→yx c k≤18+15020000 * k
  | 0,_=>castP_len F
  | k+1,hk=>by
    have h1:=sizeTo_len F k (by omega);have h2:=courseP_len F k (by omega);unfold yx;omega
theorem lay0_slots {c:List (List qn)} {z:Nat} (hz:zG qa (c.getD 0 []) (c.getD 0 []).length=(z:Int)):(lay0 c).1=xN z:=by
  show xN _=_;rw [hz,Int.toNat_natCast]
theorem slots0_succ (k:Nat):xN (k+1)=xN k++[(0,13+(k:Int))]:=by
  unfold xN;rw [List.range_succ,List.map_append]
  rfl
theorem cast_ok {c:List (List qn)} (F:Fit c) {z:Nat} (hz:zG qa (c.getD 0 []) (c.getD 0 []).length=(z:Int)):m_caston (xV (c.getD 0 [])) (xh (lay0 c))=some (castP c,0):=by
  have hlo:=lay0_lo F;have e0:=lay0_slots hz;have h3:=from_len (lay0 c);have h4:=hlo.len;obtain ⟨_,f2,f3⟩:=firstY_eq (F.row 0 (by have:=F.odd; omega));have he:eOk (xV (c.getD 0 [])) (xh (lay0 c))=true:=by
    unfold eOk;rw [from_all hlo.nds,decide_eq_true f2,decide_eq_true f3,decide_eq_true (by omega)]
    rfl
  have hlast:(xh (lay0 c)).getD ((xh (lay0 c)).length - 1) 0≠40:=by
    rw [fromL_get _ _ (by omega),e0,slots0_get z _ (by rw [e0,slots0_len] at h3 h4; omega)]
    have:(xh (lay0 c)).length≤16:=by omega
    dsimp only;omega
  rw [caston_eq _ _ (by omega),he,if_neg (by simp),if_neg hlast]
  rfl
theorem flcompile_eq {c:List (List qn)} (F:Fit c) (hc:yB c=some 0):qe c=some (if 4096 < yx c c.length+(bindP c).length then (([],[]),3) else ((qw c,qt c c.length),0)):=by
  have hodd:=F.odd;have h31:=F.len;have R0:=F.row 0 (by omega);obtain ⟨f1,f2,f3⟩:=firstY_eq R0;obtain ⟨y,hy⟩:∃ y,xV (c.getD 0 [])=y:=⟨_,rfl⟩
  have hn:=R0.needs;have hl0:=R0.len;obtain ⟨z,hz⟩:∃ z:Nat,zG qa (c.getD 0 []) (c.getD 0 []).length=(z:Int):=⟨(zG qa (c.getD 0 []) (c.getD 0 []).length).toNat,by omega⟩
  have hlo:=lay0_lo F;have e0:=lay0_slots hz;have e7:=xH (fun n (s:Int×List (Int×Int))=>qm (z:Int) n s.1 s.2) z (fun k=>((k:Int),xN k)) (0,[]) (xN z) rfl (zD (by omega)) (fun n k hk=>by
    have:=slots0_len k
    show qm (z:Int) (n+1) k (xN k)=qm (z:Int) n ((k+1:Nat):Int) (xN (k+1));rw [qm,qA (decide_eq_true (by omega)),zF (by simp only [zk,ze,List.length_singleton,Bool.and_eq_true,decide_eq_true_eq]; omega),zF (by simp [zk]; omega)];rw [slots0_succ]
    rfl) (fun n=>by
    show qm (z:Int) (n+1) z (xN z)=_;rw [qm,qj (by simp)])
  dsimp only at e7;have ecast:=cast_ok F hz;rw [hy] at ecast;have e13:=xH (fun n (s:Int×Int×Int×List (Int×Int)×Int×Int×Int×Int×Int×Int×List T4×Option Nat×List T1×Option Nat)=>qz c n s.1 s.2.1 s.2.2.1 s.2.2.2.1 s.2.2.2.2.1 s.2.2.2.2.2.1 s.2.2.2.2.2.2.1 s.2.2.2.2.2.2.2.1 s.2.2.2.2.2.2.2.2.1 s.2.2.2.2.2.2.2.2.2.1 s.2.2.2.2.2.2.2.2.2.2.1 s.2.2.2.2.2.2.2.2.2.2.2.1 s.2.2.2.2.2.2.2.2.2.2.2.2.1 s.2.2.2.2.2.2.2.2.2.2.2.2.2) c.length
    (fun k=>((yx c k:Int),((k % 2:Nat):Int),(k:Int),(lay c k).1,(lay c k).2.1,(lay c k).2.2.1,(lay c k).2.2.2.1,(lay c k).2.2.2.2.1,(lay c k).2.2.2.2.2.1,(lay c k).2.2.2.2.2.2,xi c k,(if k=0 then some 1 else none),qt c k,(if k=0 then some 1 else none)))
    (((castP c).length:Int),0,0,(lay0 c).1,sd0 y 0,sd0 y 1,sd0 y 2,sd0 y 3,sd0 y 4,sd0 y 5,[castP c],some 1,[(lay0 c).1],some 1)
    (.inl ((yx c c.length:Int),(lay c c.length).1,(lay c c.length).2.1,(lay c c.length).2.2.1,(lay c c.length).2.2.2.1,(lay c c.length).2.2.2.2.1,(lay c c.length).2.2.2.2.2.1,(lay c c.length).2.2.2.2.2.2,xi c c.length,none,qt c c.length,none)) (by rw [← hy]; rfl) (zD (by omega)) (fun n k hk=>by
      have hLo:=lay_lo F k (by omega);have hR:=F.row k hk;have hN:=lay_need F k hk;have hco:=course_ok hLo hR hN ((k % 2:Nat):Int) (by omega);have hs:=sizeTo_len F k (by omega);have hcl:=courseP_len F k hk;show qz c (n+1) (yx c k) ((k % 2:Nat):Int) k (lay c k).1 (lay c k).2.1 (lay c k).2.2.1 (lay c k).2.2.2.1 (lay c k).2.2.2.2.1 (lay c k).2.2.2.2.2.1 (lay c k).2.2.2.2.2.2 (xi c k) (if k=0 then some 1 else none) (qt c k) (if k=0 then some 1 else none) =
        qz c n (yx c (k+1):Nat) (((k+1) % 2:Nat):Int) ((k+1:Nat):Int) (lay c (k+1)).1 (lay c (k+1)).2.1 (lay c (k+1)).2.2.1 (lay c (k+1)).2.2.2.1 (lay c (k+1)).2.2.2.2.1 (lay c (k+1)).2.2.2.2.2.1 (lay c (k+1)).2.2.2.2.2.2 (xi c (k+1)) none (qt c (k+1)) none
      have ep:xi c (k+1)=xi c k++[courseP c k]:=by
        unfold xi;rw [List.range_succ,List.map_append]
        rfl
      have es:qt c (k+1)=qt c k++[(lay c (k+1)).1]:=by
        unfold qt;rw [List.range_succ (n:=k+1),List.map_append]
        rfl
      have epl:(xi c k).length=k+1:=by simp [xi]
      have esl:(qt c k).length=k+1:=by simp [qt]
      have ed:IntKind.wrap .u8 (1 - ((k % 2:Nat):Int))=(((k+1) % 2:Nat):Int):=by
        rw [wrap8 _ (by omega)];omega
      rw [qz,qA (decide_eq_true (by omega)),zF (by simp [zi]; omega),Int.toNat_natCast];show Option.bind (m_course (lay c k) (c.getD k []) ((k % 2:Nat):Int)) _=_;rw [hco,Option.bind_some,qj (by rfl),zF (by simp only [ze,List.length_singleton,Bool.and_eq_true,decide_eq_true_eq]; omega),ed];show gd (zk ((yx c k:Int)+((courseP c k).length:Int))) _=_;rw [zF (by simp only [zk,Bool.and_eq_true,decide_eq_true_eq]; omega),zF (by simp [zk]; omega),ep,es]
      rfl) (fun n=>by
      have hcn:c.length≠0:=by omega
      show qz c (n+1) (yx c c.length) ((c.length % 2:Nat):Int) c.length _ _ _ _ _ _ _ _ (if c.length=0 then some 1 else none) _ (if c.length=0 then some 1 else none)=_;rw [qz,qj (by simp),if_neg hcn])
  dsimp only at e13;have RL:=F.row (c.length - 1) (by omega);obtain ⟨g1,g2,g3⟩:=firstY_eq RL;have hLL:=lay_lo F c.length (Nat.le_refl _);obtain ⟨q,hbo⟩:=flbindoff_eq hLL (y:=xV (c.getD (c.length - 1) [])) ⟨g2,g3⟩;have hbl:=bindL_len hLL (xV (c.getD (c.length - 1) []));have hsl:=sizeTo_len F c.length (Nat.le_refl _);have epl:(xi c c.length).length=c.length+1:=by simp [xi]
  have hw:IntKind.wrap .u8 (y - 1)=y - 1:=wrap8 _ (by omega);unfold qe;rw [hc,Option.bind_some,qj (by rfl),zF (by simp [zi]; omega),show (0:Int).toNat=0 from rfl,f1,hy,Option.bind_some,zF (by simp [zi]; omega),chneeds_eq _ (by omega),hz,Option.bind_some,e7,Option.bind_some,hw,zF (by simp [zi]; omega)];rw [flnumbers_eq (xN z) (by rw [slots0_len]; omega),Option.bind_some];have ef:(xN z).map (·.2)=xh (lay0 c):=by unfold xh; rw [e0]
  dsimp only;rw [ef,ecast,Option.bind_some,qj (by rfl),← e0];show Option.bind (qz c zC ((castP c).length:Int) 0 0 (lay0 c).1 (sd0 y 0) (sd0 y 1) (sd0 y 2) (sd0 y 3) (sd0 y 4) (sd0 y 5) [castP c] (some 1) [(lay0 c).1] (some 1)) _=_;rw [e13,Option.bind_some];dsimp only [sm];rw [zF (by simp [zi,zk]; omega),show ((c.length:Int) - 1).toNat=c.length - 1 by omega,g1,Option.bind_some];show Option.bind (yt (lay c c.length) (xV (c.getD (c.length - 1) []))) _=_;rw [hbo,Option.bind_some,qj (by rfl),zF (by simp only [ze,List.length_singleton,Bool.and_eq_true,decide_eq_true_eq]; omega)];show gd (zk ((yx c c.length:Int)+((bindP c).length:Int))) _=_;have hbl':(bindP c).length≤120000:=hbl;rw [zF (by simp only [zk,Bool.and_eq_true,decide_eq_true_eq]; omega)];show cond (decide ((4096:Int) < (yx c c.length:Int)+((bindP c).length:Int))) _ _=_
  by_cases h4:4096 < yx c c.length+(bindP c).length
  · rw [if_pos h4,qA (decide_eq_true (by omega))]
  · rw [if_neg h4,qj (decide_eq_false (by omega))]
    rfl
end Go.Proofs.YtihcolehefloeaaDoor

/- FlatsErrors: models. -/
namespace Go.Proofs.YtihcolehefloeaaDoor
set_option linter.unusedSimpArgs false
set_option linter.unusedVariables false
open Go.RowKit
def s_lives31_1:List UInt8:=(List.append (List.append (List.append [105,110,32,49,32,108,101,102,116,59,32,107,110,105,116,32,114,105,103,104,116,32,102,49,51,32,49,59,32,107,110,105,116,32,114,105,103,104,116,32,102,49,52,32,49,59,32,109,105,115] [115,32,114,105,103,104,116,32,102,52,48,32,49,59,32,107,110,105,116,32,108,101,102,116,32,102,49,52,32,49,59,32,107,110,105,116,32,108,101,102,116,32,102,49,51,32,49,59,32,109,105]) [115,115,32,108,101,102,116,32,98,49,32,49,59,32,107,110,105,116,32,114,105,103,104,116,32,102,49,51,32,49,59,32,120,102,101,114,32,102,49,51,59,32,114,97,99,107,32,49,59,32]) [120,102,101,114,32,98,49,51,59,32,114,97,99,107,32,48,59,32,107,110,105,116,32,114,105,103,104,116,32,102,49,52,32,49,59,32,100,114,111,112,32,102,49,52,59,32,111,117,116,32,49])
theorem ko_lives31_39:KeyOk Tryd.prog 39 qr:=KeyOk.of zu rfl rfl rfl (by kernel_rfl) (by kernel_rfl)
def m_lives31 :Option (Bool):=
    Option.bind (m_plain31 (2:Int)) fun r1=>
    Option.bind (m_flcomp r1) fun r2=>
    Option.bind (m_flrows r1) fun r3=>
    Option.bind (xo r1 (1:Int)) fun r4=>
    gd ((!(!(cond (cond (cond (!(decide (r2.2.2=(0:Int)))) true (!(decide (r3.2.2=(0:Int))))) true (!(decide (r4.2.2.2.2=(0:Int))))) true (!(decide ((r3.1.length:Int)=(2:Int)))))) || (zi (0:Int) r3.1.length))&&(!(!(cond (cond (cond (cond (!(decide (r2.2.2=(0:Int)))) true (!(decide (r3.2.2=(0:Int))))) true (!(decide (r4.2.2.2.2=(0:Int))))) true (!(decide ((r3.1.length:Int)=(2:Int))))) true (!(decide ((r3.1.getD (0:Int).toNat 0)=(4:Int)))))) || (zi (1:Int) r3.1.length))&&(!(!(cond (cond (cond (cond (cond (cond (cond (!(decide (r2.2.2=(0:Int)))) true (!(decide (r3.2.2=(0:Int))))) true (!(decide (r4.2.2.2.2=(0:Int))))) true (!(decide ((r3.1.length:Int)=(2:Int))))) true (!(decide ((r3.1.getD (0:Int).toNat 0)=(4:Int))))) true (!(decide ((r3.1.getD (1:Int).toNat 0)=(7:Int))))) true (!(decide ((r4.1.length:Int)=(7:Int))))) true (!(decide ((r4.2.2.1.length:Int)=(2:Int)))))) || (zi (0:Int) r4.2.2.1.length))&&(!(!(cond (cond (cond (cond (cond (cond (cond (cond (!(decide (r2.2.2=(0:Int)))) true (!(decide (r3.2.2=(0:Int))))) true (!(decide (r4.2.2.2.2=(0:Int))))) true (!(decide ((r3.1.length:Int)=(2:Int))))) true (!(decide ((r3.1.getD (0:Int).toNat 0)=(4:Int))))) true (!(decide ((r3.1.getD (1:Int).toNat 0)=(7:Int))))) true (!(decide ((r4.1.length:Int)=(7:Int))))) true (!(decide ((r4.2.2.1.length:Int)=(2:Int))))) true (!(GTy.beq qr (r4.2.2.1.getD (0:Int).toNat qr.zero) ((0:Int),(13:Int)))))) || (zi (1:Int) r4.2.2.1.length))) <|
    cond (cond (cond (cond (cond (cond (cond (cond (cond (cond (!(decide (r2.2.2=(0:Int)))) true (!(decide (r3.2.2=(0:Int))))) true (!(decide (r4.2.2.2.2=(0:Int))))) true (!(decide ((r3.1.length:Int)=(2:Int))))) true (!(decide ((r3.1.getD (0:Int).toNat 0)=(4:Int))))) true (!(decide ((r3.1.getD (1:Int).toNat 0)=(7:Int))))) true (!(decide ((r4.1.length:Int)=(7:Int))))) true (!(decide ((r4.2.2.1.length:Int)=(2:Int))))) true (!(GTy.beq qr (r4.2.2.1.getD (0:Int).toNat qr.zero) ((0:Int),(13:Int))))) true (!(GTy.beq qr (r4.2.2.1.getD (1:Int).toNat qr.zero) ((0:Int),(14:Int))))) (some false) (Option.bind (m_text31 r2.1) fun r5=>
    some (r5 == s_lives31_1))
theorem w_lives31  (r:(Bool)) (h:m_lives31 =some r):AC cx 18 [] [] (fun sv h=>sv=.a (.c (.val (.bool r)))∧h=[]):=by
  unfold m_lives31 at h;refine zp zu Tryd.func18 rfl Tryd.ntmps18 rfl rfl (res:=[.tmp 0]) rfl<|zv<|zq<|zj zu rfl rfl<|zv ?_
  obtain ⟨r1,hr1,h⟩:=bd h;refine zq<|zg (w_plain31 _  r1 hr1) rfl ⟨rfl,rfl⟩ rfl Tryd.func50 rfl rfl rfl rfl rfl rfl<|zj zu rfl rfl<|zb (Wk.frzC 1 G5 rfl rfl rfl)<|zv ?_
  obtain ⟨r2,hr2,h⟩:=bd h;refine zq<|zf zu rfl rfl<|zg (w_flcomp _ none r2 hr2) rfl ⟨rfl,rfl⟩ rfl Tryd.func20 rfl rfl rfl rfl rfl rfl<|zj zu rfl rfl<|zv ?_
  obtain ⟨r3,hr3,h⟩:=bd h;refine zq<|zf zu rfl rfl<|zg (w_flrows _ none r3 hr3) rfl ⟨rfl,rfl⟩ rfl Tryd.func21 rfl rfl rfl rfl rfl rfl<|zj zu rfl rfl<|zv ?_
  obtain ⟨r4,hr4,h⟩:=bd h;refine zq<|zf zu rfl rfl<|zg (w_fluntil _ _ none r4 hr4) rfl ⟨rfl,rfl⟩ rfl Tryd.func22 rfl rfl rfl rfl rfl rfl<|zj zu rfl rfl<|zv<|zv ?_
  obtain ⟨hG6,h⟩:=zw h;simp only [Bool.and_eq_true] at hG6;obtain ⟨⟨⟨hG6_0,hG6_1⟩,hG6_2⟩,hG6_3⟩:=hG6;refine zq<|qf 42 zu rfl (by revert hG6_0 hG6_1 hG6_2 hG6_3; generalize (GTy.beq qr (r4.2.2.1.getD (0:Int).toNat qr.zero) ((0:Int),(13:Int)))=b0; generalize (decide ((r3.1.getD (0:Int).toNat 0)=(4:Int)))=b1; generalize (decide ((r3.1.getD (1:Int).toNat 0)=(7:Int)))=b2; generalize (decide ((r4.2.2.1.length:Int)=(2:Int)))=b3; generalize (decide ((r3.1.length:Int)=(2:Int)))=b4; generalize (decide ((r4.1.length:Int)=(7:Int)))=b5; generalize (decide (r4.2.2.2.2=(0:Int)))=b6; generalize (zi (0:Int) r4.2.2.1.length)=b7; generalize (zi (1:Int) r4.2.2.1.length)=b8; generalize (decide (r2.2.2=(0:Int)))=b9; generalize (decide (r3.2.2=(0:Int)))=b10; generalize (zi (0:Int) r3.1.length)=b11; generalize (zi (1:Int) r3.1.length)=b12; refine of4 ?_; revert b0 b1 b2 b3 b4 b5 b6 b7 b8 b9 b10 b11 b12; exact bl13 (by kernel_rfl)) ?_
  refine al_guard (.c (.val (.bool (!(GTy.beq qr (r4.2.2.1.getD (0:Int).toNat qr.zero) ((0:Int),(13:Int))))))) rfl rfl rfl rfl rfl (fun hq7=>?_) (fun hq7=>?_)
  ·try simp only [ob2,cond_true,cond_false] at hq7
   all_goals
    refine al_neqA ko_lives31_39 rfl ⟨rfl,rfl⟩ rfl rfl (by simp only [hG6_0,hG6_1,hG6_2,hG6_3,hq7,oc]) rfl (by simp only [hG6_0,hG6_1,hG6_2,hG6_3,hq7,oc]) rfl (by simp only [hG6_0,hG6_1,hG6_2,hG6_3,hq7,oc]) rfl (by simp only [hG6_0,hG6_1,hG6_2,hG6_3,hq7,oc]) ?_;refine qf 6 zu rfl (by (first | replace hq7:=bf hq7 | skip); revert hG6_0 hG6_1 hG6_2 hG6_3 hq7; generalize (GTy.beq qr (r4.2.2.1.getD (0:Int).toNat qr.zero) ((0:Int),(13:Int)))=b0; generalize (decide ((r3.1.getD (0:Int).toNat 0)=(4:Int)))=b1; generalize (decide ((r3.1.getD (1:Int).toNat 0)=(7:Int)))=b2; generalize (decide ((r4.2.2.1.length:Int)=(2:Int)))=b3; generalize (decide ((r3.1.length:Int)=(2:Int)))=b4; generalize (decide ((r4.1.length:Int)=(7:Int)))=b5; generalize (decide (r4.2.2.2.2=(0:Int)))=b6; generalize (zi (0:Int) r4.2.2.1.length)=b7; generalize (zi (1:Int) r4.2.2.1.length)=b8; generalize (decide (r2.2.2=(0:Int)))=b9; generalize (decide (r3.2.2=(0:Int)))=b10; generalize (zi (0:Int) r3.1.length)=b11; generalize (zi (1:Int) r3.1.length)=b12; refine of5 ?_; revert b0 b1 b2 b3 b4 b5 b6 b7 b8 b9 b10 b11 b12; exact bl13 (by kernel_rfl)) ?_;refine al_guard (.c (.val (.bool (!(GTy.beq qr (r4.2.2.1.getD (1:Int).toNat qr.zero) ((0:Int),(14:Int))))))) rfl rfl rfl rfl rfl (fun hq8=>?_) (fun hq8=>?_)
    ·try simp only [hq7,ob2,cond_true,cond_false] at hq8
     all_goals
      refine al_neqA ko_lives31_39 rfl ⟨rfl,rfl⟩ rfl rfl (by simp only [hG6_0,hG6_1,hG6_2,hG6_3,hq7,hq8,oc]) rfl (by simp only [hG6_0,hG6_1,hG6_2,hG6_3,hq7,hq8,oc]) rfl (by simp only [hG6_0,hG6_1,hG6_2,hG6_3,hq7,hq8,oc]) rfl (by simp only [hG6_0,hG6_1,hG6_2,hG6_3,hq7,hq8,oc]) ?_;refine zj zu rfl (by simp only [hG6_0,hG6_1,hG6_2,hG6_3,hq7,hq8,oc]) ?_
      revert h
      refine xC rfl rfl (fun hc h=>?_) (fun hc h=>?_)
      ·refine zv<|zq<|zj zu rfl rfl ?_
       cases h;exact zd ⟨_,(Wk.pick [0] [] rfl rfl),_,_,rfl,rfl,rfl,rfl⟩
      refine za<|zv ?_
      obtain ⟨r5,hr5,h⟩:=bd h;refine zq<|zf zu rfl rfl<|zg (w_text31 _ r2.2.1 r5 hr5) rfl ⟨rfl,rfl⟩ rfl Tryd.func51 rfl rfl rfl rfl rfl rfl<|zj zu rfl rfl<|zb (Wk.conv (s:=0) (.a (.c (.val (.bool (r5 == s_lives31_1))))) rfl (fun _ _ _ _ hv=>hv)) ?_
      cases h;exact zd ⟨_,(Wk.pick [0] [] rfl rfl),_,_,rfl,rfl,rfl,rfl⟩
    ·try simp only [hq7,ob2,cond_true,cond_false] at hq8
     all_goals
      refine zj zu rfl (by simp only [hG6_0,hG6_1,hG6_2,hG6_3,hq7,hq8,oc]) ?_
      revert h
      refine xC rfl rfl (fun hc h=>?_) (fun hc h=>?_)
      ·refine zv<|zq<|zj zu rfl rfl ?_
       cases h;exact zd ⟨_,(Wk.pick [0] [] rfl rfl),_,_,rfl,rfl,rfl,rfl⟩
      refine za<|zv ?_
      obtain ⟨r5,hr5,h⟩:=bd h;refine zq<|zf zu rfl rfl<|zg (w_text31 _ r2.2.1 r5 hr5) rfl ⟨rfl,rfl⟩ rfl Tryd.func51 rfl rfl rfl rfl rfl rfl<|zj zu rfl rfl<|zb (Wk.conv (s:=0) (.a (.c (.val (.bool (r5 == s_lives31_1))))) rfl (fun _ _ _ _ hv=>hv)) ?_
      cases h;exact zd ⟨_,(Wk.pick [0] [] rfl rfl),_,_,rfl,rfl,rfl,rfl⟩
  ·try simp only [ob2,cond_true,cond_false] at hq7
   all_goals
    refine qf 6 zu rfl (by simp only [hG6_0,hG6_1,hG6_2,hG6_3,hq7,oc]) ?_;refine al_guard (.c (.val (.bool (!(GTy.beq qr (r4.2.2.1.getD (1:Int).toNat qr.zero) ((0:Int),(14:Int))))))) rfl rfl rfl rfl rfl (fun hq9=>?_) (fun hq9=>?_)
    ·exfalso; simp only [hq7,ob2,cond_true,cond_false] at hq9
    ·try simp only [hq7,ob2,cond_true,cond_false] at hq9
     all_goals
      refine zj zu rfl (by simp only [hG6_0,hG6_1,hG6_2,hG6_3,hq7,hq9,oc]) ?_
      revert h
      refine xC rfl rfl (fun hc h=>?_) (fun hc h=>?_)
      ·refine zv<|zq<|zj zu rfl rfl ?_
       cases h;exact zd ⟨_,(Wk.pick [0] [] rfl rfl),_,_,rfl,rfl,rfl,rfl⟩
      refine za<|zv ?_
      obtain ⟨r5,hr5,h⟩:=bd h;refine zq<|zf zu rfl rfl<|zg (w_text31 _ r2.2.1 r5 hr5) rfl ⟨rfl,rfl⟩ rfl Tryd.func51 rfl rfl rfl rfl rfl rfl<|zj zu rfl rfl<|zb (Wk.conv (s:=0) (.a (.c (.val (.bool (r5 == s_lives31_1))))) rfl (fun _ _ _ _ hv=>hv)) ?_
      cases h;exact zd ⟨_,(Wk.pick [0] [] rfl rfl),_,_,rfl,rfl,rfl,rfl⟩
def qy (a0:(List T0)):Nat→Int→Option ((Unit)⊕(Bool))
  | 0,_=>none
  | n+1,v3_0=>
    cond (decide (v3_0 < (a0.length:Int))) (gd ((zi v3_0 a0.length)) <|
    cond (decide ((20:Int) < ((a0.getD v3_0.toNat []).length:Int))) (Option.bind (m_lives31) fun r4=>
    some (.inr r4)) (gd ((zk (v3_0+(1:Int)))) <|
    qy a0 n (v3_0+(1:Int)))) (some (.inl ()))
def m_flatsErrors (a0:(List T0)) (a1:Int):Option (Bool):=
    cond (decide ((12:Int) < (a0.length:Int))) (Option.bind (m_lives31) fun r1=>
    some r1) (Option.bind (qy a0 zC (0:Int)) fun o2=>
    sm o2 (fun o2=>
    Option.bind (yB a0) fun r7=>
    Option.bind (m_flcomp a0) fun r8=>
    Option.bind (m_flrows a0) fun r9=>
    Option.bind (xo a0 (0:Int)) fun r10=>
    cond (cond (decide (r8.2.2=(3:Int))) (decide (r7=(0:Int))) false) (gd ((!(cond (decide (r9.2.2=r8.2.2)) (decide (r10.2.2.2.2=r8.2.2)) false) || (zk ((r8.1.length:Int)+(r9.1.length:Int))))) <|
    Option.bind (cond (cond (cond (decide (r9.2.2=r8.2.2)) (decide (r10.2.2.2.2=r8.2.2)) false) (decide (((r8.1.length:Int)+(r9.1.length:Int))=(0:Int))) false) (m_lives31) (some default)) fun r11=>
    some (cond (cond (cond (decide (r9.2.2=r8.2.2)) (decide (r10.2.2.2.2=r8.2.2)) false) (decide (((r8.1.length:Int)+(r9.1.length:Int))=(0:Int))) false) r11 false)) (gd ((!((!(cond (cond (!(decide (r8.2.2=r7))) true (!(decide (r9.2.2=r7)))) true (!(decide (r10.2.2.2.2=r7)))))&&(!(decide (r8.2.2=(0:Int))))) || (zk ((r8.1.length:Int)+(r9.1.length:Int))))) <|
    cond (cond (cond (cond (!(decide (r8.2.2=r7))) true (!(decide (r9.2.2=r7)))) true (!(decide (r10.2.2.2.2=r7)))) true (cond (!(decide (r8.2.2=(0:Int)))) (!(decide (((r8.1.length:Int)+(r9.1.length:Int))=(0:Int)))) false)) (some false) (Option.bind (cond (cond (decide (r7=(0:Int))) (cond (decide (a1 < (0:Int))) true (decide ((a0.length:Int) < a1))) false) (some (1:Int)) (some r7)) fun o14=>
    Option.bind (xo a0 a1) fun r15=>
    gd ((!((decide (r15.2.2.2.2=o14))&&!(decide (r15.2.2.2.2=(0:Int)))) || (zk ((r15.1.length:Int)+(r15.2.2.1.length:Int))))) <|
    Option.bind (cond (cond (decide (r15.2.2.2.2=o14)) (cond (decide (r15.2.2.2.2=(0:Int))) true (decide (((r15.1.length:Int)+(r15.2.2.1.length:Int))=(0:Int)))) false) (m_lives31) (some default)) fun r16=>
    some (cond (cond (decide (r15.2.2.2.2=o14)) (cond (decide (r15.2.2.2.2=(0:Int))) true (decide (((r15.1.length:Int)+(r15.2.2.1.length:Int))=(0:Int)))) false) r16 false)))) (fun q=>some q))
theorem w_flatsErrors (a0:(List T0)) (a1:Int) (c0:Option Nat) (r:(Bool)) (h:m_flatsErrors a0 a1=some r):AC cx 5 [.agg [.lst (.sl G0) a0 c0],.c (.val (.int .i64 a1))] [] (fun sv h=>sv=.a (.c (.val (.bool r)))∧h=[]):=by
  unfold m_flatsErrors at h;refine zp zu Tryd.func5 rfl Tryd.ntmps5 rfl rfl (res:=[.tmp 4]) rfl<|zv<|zq<|zj zu rfl rfl<|zb (Wk.frzC 2 G5 rfl rfl rfl)<|zv<|zv<|zq<|zj zu rfl rfl ?_
  revert h
  refine xC rfl rfl (fun hc h=>?_) (fun hc h=>?_)
  ·refine zv ?_
   obtain ⟨r1,hr1,h⟩:=bd h;refine zq<|zg (w_lives31   r1 hr1) rfl ⟨rfl,rfl⟩ rfl Tryd.func18 rfl rfl rfl rfl rfl rfl<|zj zu rfl rfl ?_
   cases h;exact zd ⟨_,(Wk.pick [4] [] rfl rfl),_,_,rfl,rfl,rfl,rfl⟩
  refine za<|zv<|zv<|zq<|zj zu rfl rfl ?_
  obtain ⟨o2,ho2,hk2⟩:=bd h;refine zB (fun o2:Unit=>⟨[(1,.a (.c (.val (.int .i64 a1)))),(2,.a (.c (.pel G5 a0 0)))],[]⟩) (fun o'=>Sum.inl o'=o2) ?_ ?_
  ·have h:=ho2
   refine zc<|zb (Wk.pick [5,1,2] [] rfl rfl)<|zm (fun y:Nat×Int=>[(5,.a (.c (.val (.int .i64 y.2))))]) (fun y:Nat×Int=>[]) (fun y:Nat×Int=>qy a0 y.1 y.2=some o2) (fun y:Nat×Int=>y.1) (zC,(0:Int)) h ?_
   rintro ⟨n,v3_0⟩ h;replace h:qy a0 n v3_0=some o2:=h
   rcases n with _ | n
   · cases (show (none:Option _)=some _ from h)
   rw [qy] at h
   try dsimp only
   refine zv<|zv<|zq<|zj zu rfl rfl ?_
   revert h
   refine xC rfl rfl (fun hc h=>?_) (fun hc h=>?_)
   ·refine za<|zv<|zc<|zv ?_
    obtain ⟨hG6,h⟩:=zw h;refine zq<|zj zu rfl (by simp only [hG6,oc]) ?_
    revert h
    refine xC rfl rfl (fun hc h=>?_) (fun hc h=>?_)
    ·refine zv ?_
     obtain ⟨r4,hr4,h⟩:=bd h;refine zq<|zg (w_lives31   r4 hr4) rfl ⟨rfl,rfl⟩ rfl Tryd.func18 rfl rfl rfl rfl rfl rfl<|zj zu rfl rfl<|zd ?_
     obtain rfl:=Option.some.inj h;have h:=hk2;dsimp only [sm] at h;obtain rfl:=Option.some.inj h;refine ⟨_,(Wk.pick [4] [] rfl rfl),_,_,rfl,rfl,?_⟩;exact ⟨rfl,rfl⟩
    refine za ?_;obtain ⟨hG5,h⟩:=zw h;refine zq<|zj zu rfl (by simp only [hG5,oc]) ?_
    refine ⟨(n,_),h,Nat.lt_succ_self _,(Wk.pick [5,1,2] [] rfl rfl)⟩
   refine zr ?_;exact ⟨_,Option.some.inj h,(Wk.pick [1,2] [] rfl rfl)⟩
  ·rintro o2 rfl
   have h:=hk2;dsimp only [sm] at h;refine zv ?_;obtain ⟨r7,hr7,h⟩:=bd h;refine zq<|zf zu rfl rfl<|zg (w_chcheck _ none r7 hr7) rfl ⟨rfl,rfl⟩ rfl Tryd.func19 rfl rfl rfl rfl rfl rfl<|zj zu rfl rfl<|zv ?_
   obtain ⟨r8,hr8,h⟩:=bd h;refine zq<|zf zu rfl rfl<|zg (w_flcomp _ none r8 hr8) rfl ⟨rfl,rfl⟩ rfl Tryd.func20 rfl rfl rfl rfl rfl rfl<|zj zu rfl rfl<|zv ?_
   obtain ⟨r9,hr9,h⟩:=bd h;refine zq<|zf zu rfl rfl<|zg (w_flrows _ none r9 hr9) rfl ⟨rfl,rfl⟩ rfl Tryd.func21 rfl rfl rfl rfl rfl rfl<|zj zu rfl rfl<|zv ?_
   obtain ⟨r10,hr10,h⟩:=bd h;refine zq<|zf zu rfl rfl<|zg (w_fluntil _ _ none r10 hr10) rfl ⟨rfl,rfl⟩ rfl Tryd.func22 rfl rfl rfl rfl rfl rfl<|zj zu rfl rfl<|zv<|zv<|zq<|zj zu rfl (by generalize (decide (r8.2.2=(3:Int)))=b0; revert b0; decide) ?_
   revert h
   refine xC rfl rfl (fun hc h=>?_) (fun hc h=>?_)
   ·refine zv ?_
    obtain ⟨hG12,h⟩:=zw h;obtain ⟨r11,hr11,h⟩:=bd h;refine zq<|zf zu rfl (by revert hG12; generalize (decide (((r8.1.length:Int)+(r9.1.length:Int))=(0:Int)))=b0; generalize (zk ((r8.1.length:Int)+(r9.1.length:Int)))=b1; generalize (decide (r10.2.2.2.2=r8.2.2))=b2; generalize (decide (r9.2.2=r8.2.2))=b3; revert b0 b1 b2 b3; decide) ?_
    refine al_guard (.c (.val (.bool r11))) rfl rfl rfl rfl rfl (fun hq13=>?_) (fun hq13=>?_)
    ·replace hr11:=cond_t hq13 hr11
     try simp only [ob2,cond_true,cond_false] at hq13
     all_goals
      refine zg (w_lives31   r11 hr11) rfl ⟨rfl,rfl⟩ rfl Tryd.func18 rfl rfl rfl (by simp only [hG12,hq13,oc]) rfl rfl ?_;refine zj zu rfl (by simp only [hG12,hq13,oc]) ?_;cases h;exact zd ⟨_,(Wk.pick [4] [] rfl rfl),_,_,rfl,rfl,rfl,rfl⟩
    ·try simp only [ob2,cond_true,cond_false] at hq13
     all_goals
      refine zj zu rfl (by simp only [hG12,hq13,oc]) ?_;cases h;exact zd ⟨_,(Wk.pick [4] [] rfl rfl),_,_,rfl,rfl,rfl,rfl⟩
   refine za<|zv<|zv ?_
   obtain ⟨hG19,h⟩:=zw h;refine zq<|zj zu rfl (by revert hG19; generalize (zk ((r8.1.length:Int)+(r9.1.length:Int)))=b0; generalize (decide (r8.2.2=(0:Int)))=b1; generalize (decide (r10.2.2.2.2=r7))=b2; generalize (decide (r8.2.2=r7))=b3; generalize (decide (r9.2.2=r7))=b4; revert b0 b1 b2 b3 b4; decide) ?_
   revert h
   refine xC rfl rfl (fun hc h=>?_) (fun hc h=>?_)
   ·refine zv<|zq<|zj zu rfl rfl ?_
    cases h;exact zd ⟨_,(Wk.pick [4] [] rfl rfl),_,_,rfl,rfl,rfl,rfl⟩
   refine za<|zv<|zv<|zq<|zj zu rfl (by generalize (decide (r7=(0:Int)))=b0; generalize (decide (a1 < (0:Int)))=b1; revert b0 b1; decide) ?_
   obtain ⟨o14,ho14,hk14⟩:=bd h;refine zB (fun o14:Int=>⟨[(1,.a (.c (.val (.int .i64 a1)))),(2,.a (.c (.pel G5 a0 0))),(6,.a (.c (.val (.int .i64 o14))))],[]⟩) (fun o'=>o14=o') ?_ ?_
   ·have h:=ho14
    revert h
    refine xC rfl rfl (fun hc h=>?_) (fun hc h=>?_)
    ·refine zq<|zj zu rfl rfl ?_
     exact ⟨_,(Option.some.inj h).symm,(Wk.pick [1,2,6] [] rfl rfl)⟩
    refine za ?_;exact ⟨_,(Option.some.inj h).symm,(Wk.pick [1,2,6] [] rfl rfl)⟩
   ·rintro _ rfl
    have h:=hk14;refine zv ?_;obtain ⟨r15,hr15,h⟩:=bd h;refine zq<|zf zu rfl rfl<|zg (w_fluntil _ _ none r15 hr15) rfl ⟨rfl,rfl⟩ rfl Tryd.func22 rfl rfl rfl rfl rfl rfl<|zj zu rfl rfl<|zv ?_
    obtain ⟨hG17,h⟩:=zw h;obtain ⟨r16,hr16,h⟩:=bd h;refine zq<|zf zu rfl (by revert hG17; generalize (decide (((r15.1.length:Int)+(r15.2.2.1.length:Int))=(0:Int)))=b0; generalize (zk ((r15.1.length:Int)+(r15.2.2.1.length:Int)))=b1; generalize (decide (r15.2.2.2.2=(0:Int)))=b2; generalize (decide (r15.2.2.2.2=o14))=b3; revert b0 b1 b2 b3; decide) ?_
    refine al_guard (.c (.val (.bool r16))) rfl rfl rfl rfl rfl (fun hq18=>?_) (fun hq18=>?_)
    ·replace hr16:=cond_t hq18 hr16
     try simp only [ob2,cond_true,cond_false] at hq18
     all_goals
      refine zg (w_lives31   r16 hr16) rfl ⟨rfl,rfl⟩ rfl Tryd.func18 rfl rfl rfl (by simp only [hG17,hq18,oc]) rfl rfl ?_;refine zj zu rfl (by simp only [hG17,hq18,oc]) ?_;cases h;exact zd ⟨_,(Wk.pick [4] [] rfl rfl),_,_,rfl,rfl,rfl,rfl⟩
    ·try simp only [ob2,cond_true,cond_false] at hq18
     all_goals
      refine zj zu rfl (by simp only [hG17,hq18,oc]) ?_;cases h;exact zd ⟨_,(Wk.pick [4] [] rfl rfl),_,_,rfl,rfl,rfl,rfl⟩
end Go.Proofs.YtihcolehefloeaaDoor

/- Flats, plain: Compile, Rows, Until. -/
namespace Go.Proofs.YtihcolehefloeaaDoor
open Go.RowKit
theorem lives31_eq:m_lives31=some true:=by kernel_rfl
theorem flcompile_all (c:List (List qn)):∃ e,yB c=some e∧((e≠0∧qe c=some (([],[]),e))∨(e=0∧(qe c=some (([],[]),3)∨(qe c=some ((qw c,qt c c.length),0)∧c.length≤31∧xy (qw c) (qw c).length≤4096∧∀ k,k≤c.length→((qt c c.length).getD k []).length≤16)))):=by
  obtain ⟨e,h1,hF⟩:=chcheck_ok c;refine ⟨e,h1,?_⟩
  by_cases h0:e=0
  · have F:=hF h0
    subst h0;refine .inr ⟨rfl,?_⟩;have h:=flcompile_eq F h1
    by_cases h4:4096 < yx c c.length+(bindP c).length
    · rw [if_pos h4] at h
      exact .inl h
    · rw [if_neg h4] at h
      refine .inr ⟨h,F.len,?_,fun k hk=>?_⟩
      · have hs:∀ k,(((xi c k).map List.length).sum)=yx c k:=fun k=>by
          induction k with
          | zero=>simp [xi,yx]
          | succ k ih=>
            have ep:xi c (k+1)=xi c k++[courseP c k]:=by
              unfold xi;rw [List.range_succ,List.map_append]
              rfl
            rw [ep,List.map_append,List.sum_append,ih]
            simp [yx]
        unfold xy qw;rw [List.take_length,List.map_append,List.sum_append,hs];simp only [List.map_cons,List.map_nil,List.sum_cons,List.sum_nil];omega
      · have:=(lay_lo F k hk).len
        unfold qt;rw [List.getD_eq_getElem?_getD,List.getElem?_map,List.getElem?_range (by omega)];exact this.2
  · refine .inl ⟨h0,?_⟩
    unfold qe;rw [h1,Option.bind_some,qA (by rw [decide_eq_false h0]; rfl)]
theorem parts_len (c:List (List qn)):(qw c).length=c.length+2:=by simp [qw,xi]
theorem slotsTo_len (c:List (List qn)) (k:Nat):(qt c k).length=k+1:=by simp [qt]
theorem flcomp_bad {c:List (List qn)} {e:Int} (h:qe c=some (([],[]),e)) (he:e≠0):m_flcomp c=some ([],some 0,e)∧m_flrows c=some ([],0,e)∧∀ n,xo c n=some ([],some 0,[],0,e):=by
  refine ⟨?_,?_,fun n=>?_⟩
  · unfold m_flcomp; rw [h,Option.bind_some,qA (by rw [decide_eq_false he]; rfl)]
  · unfold m_flrows; rw [h,Option.bind_some,qA (by rw [decide_eq_false he]; rfl)]
  · unfold xo; rw [h,Option.bind_some,qA (by rw [decide_eq_false he]; rfl)]
def beginsL (c:List (List qn)):List Int:=fl (c.length+1) fun k=>(xy (qw c) (k+1):Int)
theorem flrows_eq {c:List (List qn)} (h:qe c=some ((qw c,qt c c.length),0)) (h31:c.length≤31) (hl:xy (qw c) (qw c).length≤4096):m_flrows c=some (beginsL c,c.length+1,0):=by
  have hpl:=parts_len c;have hm:∀ k,k≤(qw c).length→xy (qw c) k≤4096:=fun k hk=>Nat.le_trans (lenTo_mono _ k _ hk (Nat.le_refl _)) hl
  have e3:=xH (fun n (s:Int×Int×List Int)=>qU c ((qw c,qt c c.length),0) n s.1 s.2.1 s.2.2) (c.length+1) (fun k=>((xy (qw c) k:Int),(k:Int),fl (c.length+1) (fun i=>if i < k then (xy (qw c) (i+1):Int) else 0))) (0,0,List.replicate (c.length+1) 0) (beginsL c)
    (by
      congr 1
      congr 1
      refine List.ext_getElem? fun k=>?_
      by_cases h:k < c.length+1 <;> simp [fl,List.getElem?_replicate,h]) (zD (by omega)) (fun n k hk=>by
    have b:=hm (k+1) (by omega);have e:=lenTo_succ (qw c) k (by omega);show qU c ((qw c,qt c c.length),0) (n+1) (xy (qw c) k) k (fl (c.length+1) _)=qU c ((qw c,qt c c.length),0) n (xy (qw c) (k+1):Nat) ((k+1:Nat):Int) (fl (c.length+1) (fun i=>if i < k+1 then (xy (qw c) (i+1):Int) else 0));rw [qU,List.length_replicate,qA (decide_eq_true (by omega)),Int.toNat_natCast];dsimp only;rw [zF (by simp only [zi,zk,Bool.and_eq_true,decide_eq_true_eq]; omega),zF (by simp [zi,xQ]; omega),zF (by simp [zk]; omega)];rw [fl_set (g:=fun i=>if i < k+1 then (xy (qw c) (i+1):Int) else 0) hk (by simp only [if_pos (Nat.lt_succ_self k)]; omega) (fun i hi=>by
      by_cases h1:i < k
      · simp only [if_pos h1,if_pos (show i < k+1 by omega)]
      · simp only [if_neg h1,if_neg (show ¬ i < k+1 by omega)]),e]
    rfl) (fun n=>by
    show qU c ((qw c,qt c c.length),0) (n+1) _ ((c.length+1:Nat):Int) _=_;rw [qU,List.length_replicate,qj (by simp)]
    congr 1
    refine List.ext_getElem? fun i=>?_
    by_cases h:i < c.length+1
    · simp [fl,beginsL,h]
    · simp [fl,beginsL,h])
  dsimp only at e3;unfold m_flrows;rw [h,Option.bind_some,qj (by rfl),show ((c.length:Int)+1).toNat=c.length+1 by omega,zF (by simp only [zk,Bool.and_eq_true,decide_eq_true_eq]; omega),e3]
  rfl
theorem flcomp_eq {c:List (List qn)} (h:qe c=some ((qw c,qt c c.length),0)) (h31:c.length≤31) (hl:xy (qw c) (qw c).length≤4096):∃ q,m_flcomp c=some ((qw c).flatten,q,0):=by
  have hpl:=parts_len c;obtain ⟨q,hq⟩:=fljoin_eq (qw c) (by omega) (by omega);refine ⟨q,?_⟩;unfold m_flcomp;rw [h,Option.bind_some,qj (by rfl),hq]
  rfl
theorem fluntil_eq {c:List (List qn)} (h:qe c=some ((qw c,qt c c.length),0)) (h31:c.length≤31) (hl:xy (qw c) (qw c).length≤4096) (hsl:∀ k,k≤c.length→((qt c c.length).getD k []).length≤16) (n:Nat) (hn:n≤c.length):∃ q,xo c n=some (((qw c).take (n+1)).flatten,q,(qt c c.length).getD n [],((qt c c.length).getD n []).length,0):=by
  have hpl:=parts_len c;have hsn:=slotsTo_len c c.length;have hs:=hsl n hn;have htl:xy ((qw c).take (n+1)) ((qw c).take (n+1)).length≤4096:=by
    have:xy ((qw c).take (n+1)) ((qw c).take (n+1)).length=xy (qw c) (n+1):=by
      unfold xy;rw [List.take_length]
    rw [this];exact Nat.le_trans (lenTo_mono _ _ _ (by omega) (Nat.le_refl _)) hl
  obtain ⟨q,hq⟩:=fljoin_eq ((qw c).take (n+1)) (by rw [List.length_take]; omega) (by omega);refine ⟨q,?_⟩;unfold xo;rw [h,Option.bind_some,qj (by rfl),qj (by simp only [Bool.cond_true_left,Bool.or_eq_false_iff,decide_eq_false_iff_not]; omega)];dsimp only;rw [Int.toNat_natCast,Int.toNat_natCast,zF (by simp only [zi,Bool.and_eq_true,decide_eq_true_eq]; omega),zF (by
    rw [List.length_replicate,Nat.beq_refl];simp only [zi,Bool.and_true,Bool.and_eq_true,decide_eq_true_eq]; omega),zF (by simp only [zk,Bool.and_eq_true,decide_eq_true_eq]; omega),show ((n:Int)+1).toNat=n+1 by omega,hq]
  rfl
theorem fluntil_arg {c:List (List qn)} (h:qe c=some ((qw c,qt c c.length),0)) (n:Int) (hn:n < 0∨(c.length:Int) < n):xo c n=some ([],some 0,[],0,1):=by
  unfold xo;rw [h,Option.bind_some,qj (by rfl),qA (by simp only [Bool.cond_true_left,Bool.or_eq_true,decide_eq_true_eq]; exact hn)]
end Go.Proofs.YtihcolehefloeaaDoor

/- FlatsErrors, plain: the model answers true. -/
namespace Go.Proofs.YtihcolehefloeaaDoor
open Go.RowKit
theorem flatsErrors_eq (c:List (List qn)) (n:Int):m_flatsErrors c n=some true:=by
  unfold m_flatsErrors
  by_cases h12:(12:Int) < (c.length:Int)
  · rw [qA (decide_eq_true h12),lives31_eq]; rfl
  rw [qj (decide_eq_false h12)];have h3:qy c zC 0=some (.inl ())∨qy c zC 0=some (.inr true):=by
    obtain ⟨o,h1,h2⟩:=loopX (fun n (q:Int)=>qy c n q) c.length (fun k q=>q=k) (fun o=>o=.inl ()∨o=.inr true) 0 rfl (zD (by omega)) (fun n k q hk e=>by
      subst e
      by_cases hb:(20:Int) < ((c.getD k []).length:Int)
      · exact .inl ⟨_,by rw [qy,qA (decide_eq_true (by omega)),zF (by simp [zi]; omega),Int.toNat_natCast,qA (decide_eq_true hb),lives31_eq]; rfl,.inr rfl⟩
      · exact .inr ⟨((k+1:Nat):Int),rfl,by rw [qy,qA (decide_eq_true (by omega)),zF (by simp [zi]; omega),Int.toNat_natCast,qj (decide_eq_false hb),zF (by simp [zk]; omega)]; rfl⟩) (fun n q e=>by
      subst e;exact ⟨_,by rw [qy,qj (by simp)],.inl rfl⟩)
    rcases h2 with rfl | rfl
    · exact .inl h1
    · exact .inr h1
  rcases h3 with h3 | h3
  · rw [h3,Option.bind_some]
    dsimp only [sm];obtain ⟨e,h1,h | ⟨h0,h | ⟨h,h31,hl,hsl⟩⟩⟩:=flcompile_all c
    · obtain ⟨he,h⟩:=h
      obtain ⟨q1,q2,q3⟩:=flcomp_bad h he;rw [h1,Option.bind_some,q1,Option.bind_some,q2,Option.bind_some,q3,Option.bind_some,q3,lives31_eq]
      simp [he,zk,gd]
    · obtain ⟨q1,q2,q3⟩:=flcomp_bad h (by omega)
      rw [h1,Option.bind_some,q1,Option.bind_some,q2,Option.bind_some,q3,Option.bind_some,h0,lives31_eq]
      simp [zk,gd]
    · obtain ⟨q,q1⟩:=flcomp_eq h h31 hl
      obtain ⟨p,q3⟩:=fluntil_eq h h31 hl hsl 0 (Nat.zero_le _);have q3':xo c 0=_:=q3;rw [h1,Option.bind_some,q1,Option.bind_some,flrows_eq h h31 hl,Option.bind_some,q3',Option.bind_some,h0,qj (by rfl),zF (by simp),qj (by simp),lives31_eq]
      by_cases hn:n < 0∨(c.length:Int) < n
      · rw [qA (by rcases hn with hn | hn <;> simp [hn]),Option.bind_some,fluntil_arg h n hn]
        simp [zk,gd]
      · obtain ⟨k,rfl⟩:∃ k:Nat,n=(k:Int):=⟨n.toNat,by omega⟩
        obtain ⟨p',q4⟩:=fluntil_eq h h31 hl hsl k (by omega);rw [qj (by rw [decide_eq_false (show ¬ ((k:Int) < 0) by omega),decide_eq_false (show ¬ ((c.length:Int) < k) by omega)]; rfl),Option.bind_some,q4]
        simp [gd]
  · rw [h3]
    rfl
end Go.Proofs.YtihcolehefloeaaDoor

/- FlatsErrors: for every chart and every number, whatever the memory and the order that Go leaves open, the law returns true, and its arguments read as before. The listed package-level variables start as the program's text lays them (the card ties them). -/
namespace Go.Proofs.YtihcolehefloeaaDoor
set_option linter.unusedSimpArgs false
set_option linter.unusedVariables false
open Go.ChangeShapes Go.WideShapes Go.ChangeAt Go.WideElems Go.RowKit
theorem globs_flatsErrors {W:World} (h:laidMetH Tryd.prog Rows.flatsErrorsRow.laid W):GlobOk cx (fun b=>b < W.heap.size) W:=by
  rw [MakeChecks.laidMetH_plain _ _ _ (by kernel_rfl)] at h;obtain ⟨ps,⟨g0,t0,cs0,f0,p0,q0,hg0,ht0,hv0,hd0,⟨g1,t1,cs1,f1,p1,q1,hg1,ht1,hv1,hd1,⟨g2,t2,cs2,f2,p2,q2,hg2,ht2,hv2,hd2,⟨g3,t3,cs3,f3,p3,q3,hg3,ht3,hv3,hd3,⟨g4,t4,cs4,f4,p4,q4,hg4,ht4,hv4,hd4,_,_⟩,_⟩,_⟩,_⟩,_⟩,_,_⟩:=h;have e3:=glob_id hg3 (by kernel_rfl:_=some 0);subst e3;have u3:=type_id ht3 (by kernel_rfl:_=some 137);subst u3;have c3:=cells_of_strs (zs:=wordsL) (n:=9) Tryd.underlying137 Tryd.underlying9 (by kernel_rfl) (by kernel_rfl) hd3;have e4:=glob_id hg4 (by kernel_rfl:_=some 1);subst e4;have u4:=type_id ht4 (by kernel_rfl:_=some 138);subst u4;have c4:=cells_of_strs (zs:=dirsL) (n:=2) Tryd.underlying138 Tryd.underlying9 (by kernel_rfl) (by kernel_rfl) hd4;have e2:=glob_id hg2 (by kernel_rfl:_=some 3);subst e2;have u2:=type_id ht2 (by kernel_rfl:_=some 186);subst u2;have c2:=Lib.cells_of_tab (zs:=Lib.pow10Tab) (k:=.u64) (n:=20) Tryd.underlying186 Tryd.underlying177 (by kernel_rfl) (by kernel_rfl) hd2;intro i x hx;have hi:i=0∨i=1∨i=3:=by
    match i,hx with
    | 0,_=>exact .inl rfl
    | 1,_=>exact .inr (.inl rfl)
    | 2,h=>cases h
    | 3,_=>exact .inr (.inr rfl)
    | _+4,h=>cases h
  rcases hi with rfl | rfl | rfl
  · cases hx
    exact gr_of hg3 hv3 (by rw [c3]; exact flat_of_strs _)
  · cases hx
    exact gr_of hg4 hv4 (by rw [c4]; exact flat_of_strs _)
  · cases hx
    exact gr_of hg2 hv2 (by rw [c2]; exact flat_of_ints _)
theorem door_met_flatsErrors (os:Os) (args:Array Value):laidMetH Tryd.prog Rows.flatsErrorsRow.laid ((World.doorLaid Tryd.prog 400 os).forCall (fun _ _=>0) ⟨#[],args,[]⟩).memory:=
  laidMetH_of_parts3 (fuel:=8) (laidMet_of_run' 8 (by kernel_rfl) (by kernel_rfl)) (by kernel_rfl) (by kernel_rfl)
theorem read_flatsErrors:∀ t∈Tryd.f5.params.toList,Tryd.prog.readableRec t=true∧t < Tryd.prog.types.size:=by
  rw [Tryd.params5];intro t ht;simp only [List.mem_cons,List.not_mem_nil,or_false] at ht
  rcases ht with rfl | rfl <;> exact ⟨by kernel_rfl,of_decide_eq_true (by kernel_rfl)⟩
set_option maxRecDepth 100000 in
theorem flatsErrors_lifted (os:Os) (started:os.Started) (H:Type) (enc:TypeId×Value→H) :
    ReturnsInHanded {} Tryd.checked os 5 .any (fun w args=>(Rows.flatsErrorsSpec.pre enc Tryd.prog Tryd.f5 [] false w args∧laidMetH Tryd.prog Rows.flatsErrorsRow.laid w)∧sizedMet enc Tryd.prog Tryd.f5 (OpenSpec.ofChange Rows.flatsErrorsSpec) false w args)
      (Rows.flatsErrorsSpec.post enc Tryd.prog Tryd.f5 false true false false):=by
  refine returnsInHanded_of_change_and (C:=Tryd.checked) (X:=fun w _=>laidMetH Tryd.prog Rows.flatsErrorsRow.laid w) (fun _ _ _ hh h=>h.of_heap hh) Tryd.own started (by kernel_rfl) Tryd.func5
    (ChangeSpec.witness_shaped (enc:=enc) (C:=Tryd.checked) (os:=os) (X:=fun w _=>laidMetH Tryd.prog Rows.flatsErrorsRow.laid w) false (World.doorLaid Tryd.prog 400 os) #[.agg #[.slice none 0 0],.int .i64 0] 8 rfl (World.shaped_of_RefB (by kernel_rfl) (by kernel_rfl)) (by kernel_rfl) (by kernel_rfl) (by kernel_rfl) (door_met_flatsErrors os _)) ?_
  intro W base args ds gs before hval0 hW _ _ hL _;have hval:∀ (j:Nat) t v,Tryd.f5.params[j]?=some t→args[j]?=some v→Value.okWide Tryd.prog W .any base t v:=hval0;have hW':=hW;obtain ⟨p,q,hA0,hV,rfl,hfz,hnd⟩:=hW;have hA:DataW.TrodAll enc Tryd.prog W 0 (fun _=>true) true Tryd.f5.params.toList args.toList ds p:=hA0;rw [Tryd.params5] at hA hval;obtain ⟨v0,v1,d0,d1,p0,p1,rfl,rfl,rfl,h0,h1⟩:=trodAll_two hA;obtain ⟨rfl,rfl⟩:=trodVars_none hV;obtain ⟨x0,hx0,hv0⟩:=open_agg (g:=G5) zu rfl rfl (by kernel_rfl) (hval 0 28 v0 rfl rfl) h0;obtain ⟨x1,rfl,rfl,rfl,hw1⟩:=open_int Tryd.underlying3 (hval 1 3 v1 rfl rfl) h1;have hx1:=wf_range hw1;have hlaw:=AC.law (W:=W) (w_flatsErrors x0 x1 none true (flatsErrors_eq x0 x1)) (globs_flatsErrors hL) (vs:=[v0,.int .i64 x1]) ⟨v0,_,rfl,hv0 _ _ rfl,.int .i64 x1,_,rfl,rfl,rfl⟩;refine Calls.mono hlaw fun e W' ⟨v,he,hv,hw⟩=>?_
  subst hv;exact ⟨_,he,post_law hW' rfl rfl (by kernel_rfl) Tryd.underlying4 Tryd.laidOut read_flatsErrors hw⟩
theorem flatsErrors_row:Rows.FlatsErrorsSaid:=
  OpenClaim.holds_of_wide 5 Tryd.f5 rfl rfl rfl rfl rfl rfl rfl ⟨rfl,rfl,rfl,rfl,rfl⟩ rfl rfl rfl rfl rfl (by kernel_rfl) Tryd.func5 (by kernel_rfl)
    (of_decide_eq_true (by kernel_rfl)) (by unfold Func.isWrapper; first | (rw [if_pos (by decide +kernel)]; kernel_rfl) | (rw [if_neg (by decide +kernel)]; exact ⟨rfl,rfl⟩))
    (fun os started H enc _=>flatsErrors_lifted os started H enc)
theorem flatsErrors_holds:Rows.FlatsErrorsCardSaid:=
  Claim7.holds_tied_plain_at .later [] [.data,.data,.data,.data,.data] true Rows.flatsErrorsCard.stood.harness false
    flatsErrors_row (fun _ h=>by cases h) (by kernel_rfl) (fun _ h=>by cases h) flatsErrors_row_tie rfl ⟨rfl,rfl⟩ (by kernel_rfl) rfl
    (fun f fn hf hfn=>by
      obtain rfl:f=5:=Option.some.inj (hf.symm.trans (by kernel_rfl));obtain rfl:fn=Tryd.f5:=(Option.some.inj (Tryd.func5.symm.trans hfn)).symm;exact ⟨by kernel_rfl,fun j t ht=>by
        rw [Tryd.params5] at ht;have hm:t∈[28,3]:=by simpa using Array.mem_of_getElem? ht
        have hall:([28,3].all fun u=>!Tryd.prog.wantsStandIn u)=true:=by kernel_rfl
        exact (show Tryd.prog.wantsStandIn t=false by simpa using List.all_eq_true.1 hall t hm)⟩)
    (by kernel_rfl)
end Go.Proofs.YtihcolehefloeaaDoor
