/- Part 5 of 6 of the proof. -/
import Derived.Test.YtihcolehefloeaaDoorCp4
set_option linter.unusedSimpArgs false
set_option linter.unusedVariables false
set_option maxRecDepth 20000
set_option maxHeartbeats 4000000
/- Plain facts: operations that have texts. -/
namespace Go.Proofs.YtihcolehefloeaaDoor
open Go.RowKit
def AllN (o:List qx):Prop:=∀ z∈o,OpN z
theorem AllN.append {a b:List qx} (h:AllN a) (k:AllN b):AllN (a++b):=fun z hz=>(List.mem_append.1 hz).elim (h z) (k z)
theorem turn_N {o:List qx} (h:AllN o) (a b:Int):AllN (qr o a b):=by
  unfold qr
  split
  · exact h
  · exact h.append fun z hz=>by
      simp only [List.mem_singleton] at hz;subst hz;exact ⟨by show (0:Int)≤3; omega,Int.le_refl 0,Int.le_refl 0,Int.le_refl 0⟩
theorem xfers_N (b r:Int) (hb:0≤b) (l:List Int):AllN (yr b r l):=fun z hz=>by
  obtain ⟨k,_,rfl⟩:=List.mem_map.1 hz;exact ⟨by show (0:Int)≤7; omega,Int.le_refl 0,hb,Int.le_refl 0⟩
theorem moveF_N:∀ (f:Nat) (o:List qx) (rk:Int) (l:List Int) (d:Int),AllN o→AllN (moveF f o rk l d).1
  | 0,_,_,_,_,h=>h
  | f+1,o,rk,l,d,h=>by
    unfold moveF
    split
    · exact h
    · exact moveF_N f _ _ _ _ ((turn_N ((turn_N h _ _).append (xfers_N 0 0 (by omega) l)) _ _).append (xfers_N 1 _ (by omega) l))
theorem moveAll_N (o:List qx) (rk:Int) (l:List Int) (d:Int) (h:AllN o):AllN (qm o rk l d).1:=moveF_N _ o rk l d h
theorem st1_N (fr to:List Int):∀ i,AllN (yu fr to i).1.1
  | 0=>fun z hz=>by simp [yu] at hz
  | i+1=>by
    unfold yu
    split
    · exact moveAll_N _ _ _ _ (st1_N fr to i)
    · exact st1_N fr to i
theorem fold_N (st:List qx×Int→Int→List qx×Int) (hst:∀ p i,AllN p.1→AllN (st p i).1):∀ (L:List Int) (p:List qx×Int),AllN p.1→AllN (L.foldl st p).1
  | [],_,h=>h
  | x :: L,p,h=>fold_N st hst L _ (hst p x h)
theorem plan_N (fr to:List Int):AllN (xr fr to):=by
  unfold xr planAB;refine turn_N (fold_N _ (fun p i h=>?_) _ _ (fold_N _ (fun p i h=>?_) _ _ (st1_N fr to _))) _ _
  · unfold qV; split
    · exact moveAll_N _ _ _ _ h
    · exact h
  · unfold qA; split
    · exact moveAll_N _ _ _ _ h
    · exact h
theorem optext_eq (o:qx) (h:OpN o):m_optext o=some (xX o):=by
  unfold m_optext;rw [gd_t];obtain ⟨h1,h2,h3,h4⟩:=h
  simp [opNB,h1,h2,h3,h4]
theorem getD_N {l:List qx} (h:AllN l) (k:Nat) (hk:k < l.length):OpN (l.getD k qD.zero):=h _ (by
  rw [List.getD_eq_getElem?_getD,List.getElem?_eq_getElem hk];exact List.getElem_mem hk)
end Go.Proofs.YtihcolehefloeaaDoor

/- Courses, plain: plans are short; stitches and rows. -/
namespace Go.Proofs.YtihcolehefloeaaDoor
open Go.RowKit
theorem st1_PB (fr to:List Int) (hf:qB fr=true):∀ i:Nat,i≤fr.length→PB i (yu fr to i).1
  | 0,_=>⟨by simp [yu],by simp [yu],by simp [yu]⟩
  | i+1,hi=>by
    have ih:=st1_PB fr to hf i (by omega);unfold yu
    split
    · rename_i h
      have a1:=chk_at hf i (by omega);have a2:=chk_at hf (i+1) (by omega)
      have:=moveAll_bounds (yu fr to i).1.1 (yu fr to i).1.2 [fr.getD i 0] (fr.getD (i+1) 0 - fr.getD i 0) (fun k hk=>by simp only [List.mem_singleton] at hk; omega) (by omega) (by simp) ih.2
      have h2:=ih.1;exact ⟨by show (qm _ _ _ _).1.length≤_; omega,this.2⟩
    · exact ih.mono (by omega)
theorem stF_mem (at_ by_:List Int):∀ (f:Nat) (i:Int),0≤i→(∀ k∈stF at_ by_ f i,0≤k∧k < at_.length)∧(stF at_ by_ f i).length≤f
  | 0,i,_=>by simp [stF]
  | f+1,i,h0=>by
    unfold stF
    split
    · rename_i h
      have ht:=xM at_ by_ i h;obtain ⟨g1,g2⟩:=stF_mem at_ by_ f (tog at_ by_ i) (by omega);refine ⟨fun k hk=>?_,by simp; omega⟩
      rcases List.mem_cons.1 hk with rfl | hk
      · exact ⟨h0,h⟩
      · exact g1 k hk
    · simp
theorem fold_PB {at_ by_:List Int} (st:List qx×Int→Int→List qx×Int) (hst:∀ (i:Int),0≤i→i < at_.length→∀ k p,PB k p→PB (k+1) (st p i)):∀ (L:List Int) (k:Nat) (p:List qx×Int),(∀ i∈L,0≤i∧i < at_.length)→PB k p→PB (k+L.length) (L.foldl st p)
  | [],k,p,_,h=>h
  | x :: L,k,p,hL,h=>by
    have hx:=hL x List.mem_cons_self
    have:=fold_PB (by_:=by_) st hst L (k+1) (st p x) (fun i hi=>hL i (List.mem_cons_of_mem _ hi)) (hst x hx.1 hx.2 k p h)
    rw [List.length_cons,show k+(L.length+1)=k+1+L.length by omega];exact this
theorem plan_len (fr to:List Int) (hf:qB fr=true) (ht:yl to=true) (hl:to.length=fr.length):(xr fr to).length≤400000:=by
  have h40:=chk_len fr hf;obtain ⟨h1,h2,h3,h4⟩:=st1_small fr to hf ht hl fr.length (Nat.le_refl _);have hs:Small (yu fr to fr.length).2.1 (yu fr to fr.length).2.2:=⟨h1,h2,h3,by omega⟩
  have hp:=st1_PB fr to hf fr.length (Nat.le_refl _);obtain ⟨m1,m2⟩:=stF_mem (yu fr to fr.length).2.1 (yu fr to fr.length).2.2 (yu fr to fr.length).2.1.length 0 (by omega);have p2:=fold_PB (by_:=(yu fr to fr.length).2.2) (qA _ _) (fun i a b k p h=>stepUp_PB _ _ hs i a b h) (qh (yu fr to fr.length).2.1 (yu fr to fr.length).2.2).reverse fr.length _ (fun i hi=>m1 i (List.mem_reverse.1 hi)) hp;have p3:=fold_PB (by_:=(yu fr to fr.length).2.2) (qV _ _) (fun i a b k p h=>stepDn_PB _ _ hs i a b h) (qh (yu fr to fr.length).2.1 (yu fr to fr.length).2.2) _ _ (fun i hi=>m1 i hi) p2;have h5:=p3.1;rw [List.length_reverse] at h5;have h6:(qh (yu fr to fr.length).2.1 (yu fr to fr.length).2.2).length≤40:=by
    have h7:(qh (yu fr to fr.length).2.1 (yu fr to fr.length).2.2).length≤(yu fr to fr.length).2.1.length:=m2;omega
  unfold xr planAB;exact Nat.le_trans (turnOps_le _ _ _) (by omega)
theorem shift_eq (fr to:List Int) (hf:qB fr=true) (ht:yl to=true) (hl:to.length=fr.length):yD fr to=some (xr fr to,0):=by
  have h40:=chk_len fr hf;have e:yi fr to=0:=by
    rw [yi,if_neg (by rw [hf]; simp),if_neg (by omega),if_neg (by rw [ht]; simp)]
  unfold yD;rw [planR,e,if_pos rfl,zG (by simp; omega)]
abbrev qw:=Int×Int×Int×Int×Bool
abbrev zS:qw:=(0,0,0,0,false)
def xN (s:qw):Bool:=decide (1≤s.1)&&(decide (s.1≤8)&&(decide (1≤s.2.1)&&(decide (s.2.1≤6)&&(if s.1=8 then decide (1≤s.2.2.1)&&(decide (s.2.2.1≤4)&&(decide (1≤s.2.2.2.1)&&decide (s.2.2.2.1≤4 - s.2.2.1))) else decide (s.2.2.1=0)&&(decide (s.2.2.2.1=0)&&!s.2.2.2.2)))))
theorem stcheck_eq (s:qw):yf s=some (if xN s then 0 else 1):=by
  obtain ⟨k,y,a,b,f⟩:=s;unfold yf xN;dsimp only
  by_cases h1:1≤k∧k≤8∧1≤y∧y≤6
  · obtain ⟨h1,h2,h3,h4⟩:=h1
    rw [qg (by simp; omega)]
    by_cases h8:k=8
    · subst h8
      rw [qg (by simp)]
      by_cases ha:1≤a∧a≤4∧1≤b
      · obtain ⟨ha1,ha2,ha3⟩:=ha
        have e:zk (4 - a)=true:=by simp [zk]; omega
        rw [zG (by simp [e])]
        by_cases hb:b≤4 - a
        · rw [qg (by simp; omega)]; simp [h3,h4,ha1,ha2,ha3,hb]
        · rw [qS (by simp; omega)]; simp [hb]
      · rw [zG (by simp; omega),qS (by simp; omega)]
        simp only [not_and] at ha;rw [if_neg (by simp; omega)]
    · rw [qS (by simp [h8]),if_neg h8]
      by_cases hc:a=0∧b=0∧f=false
      · obtain ⟨rfl,rfl,rfl⟩:=hc
        rw [qg (by simp)]; simp [h1,h2,h3,h4]
      · rw [qS (by cases f <;> simp <;> simp at hc <;> omega),if_neg (by cases f <;> simp <;> simp at hc <;> omega)]
  · rw [qS (by simp; omega),if_neg (by simp; omega)]
end Go.Proofs.YtihcolehefloeaaDoor

/- Courses, plain: what stitches need and make; the goals of a row. -/
namespace Go.Proofs.YtihcolehefloeaaDoor
open Go.RowKit
theorem loopG {σ O:Type} (L:Nat→σ→Option O) (N:Nat) (sp:Nat→σ) (r:O)
    (hs:∀ n k,k < N→L (n+1) (sp k)=L n (sp (k+1))) (he:∀ n,L (n+1) (sp N)=some r):∀ n k,k≤N→N - k < n→L n (sp k)=some r:=by
  intro n
  induction n with
  | zero=>intro k _ h; omega
  | succ n ih=>
    intro k hk hn
    by_cases e:k=N
    · subst e; exact he n
    · rw [hs n k (by omega)]
      exact ih (k+1) (by omega) (by omega)
theorem xk {σ O:Type} (L:Nat→σ→Option O) (N:Nat) (sp:Nat→σ) (s0:σ) (r:O) (h0:sp 0=s0) (hN:N < zB)
    (hs:∀ n k,k < N→L (n+1) (sp k)=L n (sp (k+1))) (he:∀ n,L (n+1) (sp N)=some r):L zB s0=some r:=by
  rw [← h0];exact loopG L N sp r hs he zB 0 (Nat.zero_le _) (by omega)
theorem loopE {σ O:Type} (L:Nat→σ→Option O) (N:Nat) (I:Nat→σ→Prop) (P:O→Prop)
    (hs:∀ n k s,k < N→I k s→(∃ r,L (n+1) s=some r∧P r)∨∃ s',I (k+1) s'∧L (n+1) s=L n s') (he:∀ n s,I N s→∃ r,L (n+1) s=some r∧P r):∀ n k s,k≤N→N - k < n→I k s→∃ r,L n s=some r∧P r:=by
  intro n
  induction n with
  | zero=>intro k _ _ h; omega
  | succ n ih=>
    intro k s hk hn hI
    by_cases e:k=N
    · subst e; exact he n s hI
    · rcases hs n k s (by omega) hI with h | ⟨s',h1,h2⟩
      · exact h
      · rw [h2]
        exact ih (k+1) s' (by omega) (by omega) h1
theorem loopX {σ O:Type} (L:Nat→σ→Option O) (N:Nat) (I:Nat→σ→Prop) (P:O→Prop) (s0:σ) (h0:I 0 s0) (hN:N < zB)
    (hs:∀ n k s,k < N→I k s→(∃ r,L (n+1) s=some r∧P r)∨∃ s',I (k+1) s'∧L (n+1) s=L n s') (he:∀ n s,I N s→∃ r,L (n+1) s=some r∧P r):∃ r,L zB s0=some r∧P r:=
  loopE L N I P hs he zB 0 s0 (Nat.zero_le _) (by omega) h0
def need (s:qw):Int:=if xN s then (if s.1=3 then 0 else if s.1=4∨s.1=5 then 2 else if s.1=8 then s.2.2.1+s.2.2.2.1 else 1) else 0
def make (s:qw):Int:=if xN s then (if s.1=8 then s.2.2.1+s.2.2.2.1 else 1) else 0
def yb (s:qw):Int:=if xN s&&(decide (s.1=2) || decide (s.1=5)) then 1 else 0
theorem qp {s:qw} (h:xN s=true):1≤s.1∧s.1≤8∧1≤s.2.1∧s.2.1≤6∧(s.1=8→1≤s.2.2.1∧1≤s.2.2.2.1∧s.2.2.1+s.2.2.2.1≤4):=by
  simp only [xN,Bool.and_eq_true,decide_eq_true_eq] at h;obtain ⟨h1,h2,h3,h4,h5⟩:=h;refine ⟨h1,h2,h3,h4,fun h8=>?_⟩;rw [if_pos h8] at h5;simp only [Bool.and_eq_true,decide_eq_true_eq] at h5;omega
theorem need_le (s:qw):0≤need s∧need s≤4:=by
  unfold need
  split
  · rename_i h
    have:=(qp h).2.2.2.2
    split
    · omega
    · split
      · omega
      · split
        · rename_i h8; have:=this h8; omega
        · omega
  · omega
theorem xh (s:qw):0≤make s∧make s≤4:=by
  unfold make
  split
  · rename_i h
    have:=(qp h).2.2.2.2
    split
    · rename_i h8; have:=this h8; omega
    · omega
  · omega
theorem make_pos {s:qw} (h:xN s=true):1≤make s:=by
  have:=(qp h).2.2.2.2
  unfold make;rw [if_pos h]
  split
  · rename_i h8; have:=this h8; omega
  · omega
theorem need_make {s:qw} (h:xN s=true):need s=0∨(need s=2∧make s=1)∨need s=make s:=by
  unfold need make;rw [if_pos h,if_pos h]
  split
  · exact .inl rfl
  · split
    · rename_i h1 h2
      exact .inr (.inl ⟨rfl,by rw [if_neg (by omega)]⟩)
    · exact .inr (.inr rfl)
theorem stneeds_eq (s:qw):m_stneeds s=some (need s):=by
  unfold m_stneeds need;rw [stcheck_eq,Option.bind_some];cases h:xN s with
  | false=>rfl
  | true=>
    have:=(qp h).2.2.2.2
    rw [if_pos rfl,if_pos rfl,qg (by simp)]
    by_cases h3:s.1=3
    · rw [qS (by simp [h3]),if_pos h3]
    · rw [qg (by simp [h3]),if_neg h3]
      by_cases h4:s.1=4
      · rw [qS (by simp [h4]),Option.bind_some,qS (by simp [h4]),if_pos (.inl h4)]
      · rw [qg (by simp [h4]),Option.bind_some]
        by_cases h5:s.1=5
        · rw [qS (by simp [h5]),if_pos (.inr h5)]
        · rw [qg (by simp [h5]),if_neg (by omega)]
          by_cases h8:s.1=8
          · have:=this h8
            rw [qS (by simp [h8]),if_pos h8,zG (by simp [zk]; omega)]
          · rw [qg (by simp [h8]),if_neg h8]
theorem stmakes_eq (s:qw):m_stmakes s=some (make s):=by
  unfold m_stmakes make;rw [stcheck_eq,Option.bind_some];cases h:xN s with
  | false=>rfl
  | true=>
    have:=(qp h).2.2.2.2
    rw [if_pos rfl,if_pos rfl,qg (by simp)]
    by_cases h8:s.1=8
    · have:=this h8
      rw [qS (by simp [h8]),if_pos h8,zG (by simp [zk]; omega)]
    · rw [qg (by simp [h8]),if_neg h8]
theorem stbed_eq (s:qw):m_stbed s=some (yb s):=by
  unfold m_stbed yb;rw [stcheck_eq,Option.bind_some];cases h:xN s with
  | false=>rfl
  | true=>
    rw [if_pos rfl]
    by_cases h2:s.1=2
    · rw [qS (by simp [h2]),if_pos (by simp [h2])]
    · by_cases h5:s.1=5
      · rw [qS (by simp [h5]),if_pos (by simp [h5])]
      · rw [qg (by simp [h2,h5]),if_neg (by simp [h2,h5])]
theorem yF {α:Type} (l:List α) (z:α) (k:Nat) (h:k < l.length):l.take (k+1)=l.take k++[l.getD k z]:=by
  rw [List.take_succ_eq_append_getElem h,List.getD_eq_getElem?_getD,List.getElem?_eq_getElem h]
  rfl
def qy (f:qw→Int) (l:List qw) (k:Nat):Int:=((l.take k).map f).sum
theorem yG (f:qw→Int) (l:List qw) (k:Nat) (h:k < l.length):qy f l (k+1)=qy f l k+f (l.getD k zS):=by
  unfold qy;rw [yF l zS k h,List.map_append,List.sum_append]
  simp
theorem sumTo_le (f:qw→Int) (hf:∀ s,0≤f s∧f s≤4) (l:List qw):∀ k,k≤l.length→0≤qy f l k∧qy f l k≤4 * k
  | 0,_=>by simp [qy]
  | k+1,h=>by
    have:=sumTo_le f hf l k (by omega)
    have:=hf (l.getD k zS)
    rw [yG f l k (by omega)];omega
theorem sumTo_mono (f:qw→Int) (hf:∀ s,0≤f s∧f s≤4) (l:List qw) (k:Nat):∀ m,k≤m→m≤l.length→qy f l k≤qy f l m
  | 0,h,_=>by rw [show k=0 by omega]; exact Int.le_refl _
  | m+1,h,hm=>by
    by_cases e:k=m+1
    · rw [e]; exact Int.le_refl _
    · have:=sumTo_mono f hf l k m (by omega) (by omega)
      have:=hf (l.getD m zS)
      rw [yG f l m (by omega)];omega
theorem chneeds_eq (l:List qw) (hl:l.length≤1000):m_chneeds l=some (qy need l l.length):=by
  have hF:l.length < zB:=zH (by omega);unfold m_chneeds m_totneeds
  have:=xk (fun n (s:Int×Int)=>qM l n s.1 s.2) l.length (fun k=>(qy need l k,(k:Int))) (0,0) (qy need l l.length) rfl hF (fun n k hk=>by
    have hb:=sumTo_le need need_le l k (by omega);have hb2:=need_le (l.getD k zS);show qM l (n+1) (qy need l k) k=qM l n (qy need l (k+1)) ((k+1:Nat):Int);rw [qM,yG need l k hk,stneeds_eq,Int.toNat_natCast]
    generalize need (l.getD k zS)=z at hb2 ⊢
    simp (disch:=((try simp [zi,zk,ze, -List.getD_eq_getElem?_getD]); try omega; done)) only [zG,qS,qg,Option.bind_some]
    rfl) (fun n=>by
    show qM l (n+1) (qy need l l.length) l.length=_;rw [qM,qg (by simp)])
  rw [this]
  rfl
theorem chmakes_eq (l:List qw) (hl:l.length≤1000):m_chmakes l=some (qy make l l.length):=by
  have hF:l.length < zB:=zH (by omega);unfold m_chmakes m_totmakes
  have:=xk (fun n (s:Int×Int)=>qN l n s.1 s.2) l.length (fun k=>(qy make l k,(k:Int))) (0,0) (qy make l l.length) rfl hF (fun n k hk=>by
    have hb:=sumTo_le make xh l k (by omega);have hb2:=xh (l.getD k zS);show qN l (n+1) (qy make l k) k=qN l n (qy make l (k+1)) ((k+1:Nat):Int);rw [qN,yG make l k hk,stmakes_eq,Int.toNat_natCast]
    generalize make (l.getD k zS)=z at hb2 ⊢
    simp (disch:=((try simp [zi,zk,ze, -List.getD_eq_getElem?_getD]); try omega; done)) only [zG,qS,qg,Option.bind_some]
    rfl) (fun n=>by
    show qN l (n+1) (qy make l l.length) l.length=_;rw [qN,qg (by simp)])
  rw [this]
  rfl
def rowErr (l:List qw):Int:=if 16 < l.length then 3 else if l.length=0 then 1 else if l.all xN=true then (if 1≤qy need l l.length∧qy need l l.length≤16∧1≤qy make l l.length∧qy make l l.length≤16 then 0 else 5) else 1
theorem yv {l:List qw} (h:l.all xN=true) (k:Nat) (hk:k < l.length):xN (l.getD k zS)=true:=by
  rw [List.getD_eq_getElem?_getD,List.getElem?_eq_getElem hk];exact List.all_eq_true.1 h _ (List.getElem_mem hk)
theorem chrow_eq (l:List qw):m_chrow l=some (rowErr l):=by
  unfold m_chrow rowErr
  by_cases h1:16 < l.length
  · rw [if_pos h1,qS (by simp; omega)]
  · rw [if_neg h1,qg (by simp; omega)]
    by_cases h2:l.length=0
    · rw [if_pos h2,qS (by simp [h2])]
    · rw [if_neg h2,qg (decide_eq_false (by omega))]
      have hF:l.length < zB:=zH (by omega);have step:∀ n k,k < l.length→xN (l.getD k zS)=true→qX l (n+1) k=qX l n (k+1):=fun n k hk h=>by
        rw [qX,stcheck_eq];rw [Int.toNat_natCast,h]
        simp (disch:=((try simp [zi,zk,ze, -List.getD_eq_getElem?_getD]); try omega; done)) only [zG,qS,qg,Option.bind_some]
      by_cases h:∀ k,k < l.length→xN (l.getD k zS)=true
      · have e:l.all xN=true:=by
          rw [List.all_eq_true];intro s hs;obtain ⟨k,hk,rfl⟩:=List.mem_iff_getElem.1 hs
          have:=h k hk
          rw [List.getD_eq_getElem?_getD,List.getElem?_eq_getElem hk] at this;exact this
        have:=loop0 (fun n i (s:Unit)=>qX l n i) l.length (fun _=>()) (.inl ()) hF (fun n k hk=>step n k hk (h k hk)) (fun n=>by
          show qX l (n+1) l.length=some (.inl ());rw [qX,qg (by simp)])
        rw [this,e,if_pos rfl,Option.bind_some];dsimp only [sm];rw [chneeds_eq l (by omega),chmakes_eq l (by omega),Option.bind_some,Option.bind_some]
        by_cases hb:1≤qy need l l.length∧qy need l l.length≤16∧1≤qy make l l.length∧qy make l l.length≤16
        · rw [if_pos hb,qg (by simp; omega)]
        · rw [if_neg hb,qS (by simp; omega)]
      · obtain ⟨j,hj,hb,hg⟩:=first_bad (fun k=>xN (l.getD k zS)) _ h
        have e:¬ (l.all xN=true):=fun e=>by have:=yv e j hj; rw [this] at hb; cases hb
        have:=loop0 (fun n i (s:Unit)=>qX l n i) j (fun _=>()) (.inr 1) (by omega) (fun n k hk=>step n k (by omega) (hg k hk)) (fun n=>by
          show qX l (n+1) j=some (.inr 1);rw [qX,stcheck_eq,Int.toNat_natCast,hb]
          simp (disch:=((try simp [zi,zk,ze, -List.getD_eq_getElem?_getD]); try omega; done)) only [zG,qS,qg,Option.bind_some])
        rw [this,if_neg e]; rfl
end Go.Proofs.YtihcolehefloeaaDoor

/- Courses, plain: the goals of a row. -/
namespace Go.Proofs.YtihcolehefloeaaDoor
open Go.RowKit
def nx (l:List qw) (k:Nat):Int:=13+qy make l k
theorem nx_succ (l:List qw) (k:Nat) (h:k < l.length):nx l (k+1)=nx l k+make (l.getD k zS):=by
  unfold nx;rw [yG make l k h];omega
def minI (a b:Int):Int:=if a < b then a else b
def toAt1 (l:List qw) (k:Nat):List Int:=(List.range (need (l.getD k zS)).toNat).map fun (j:Nat)=>nx l k+minI (make (l.getD k zS) - 1) j
def xW (l:List qw):Nat→List Int
  | 0=>[]
  | k+1=>xW l k++toAt1 l k
def xw (l:List qw) (k:Nat):List (Int×Int):=(List.range (make (l.getD k zS)).toNat).map fun (j:Nat)=>(yb (l.getD k zS),nx l k+j)
theorem map_set {α:Type} (n k:Nat) (f g:Nat→α) (x:α) (hk:k < n) (h1:g k=x) (h2:∀ i,i≠k→g i=f i):((List.range n).map f).set k x=(List.range n).map g:=by
  refine List.ext_getElem? fun i=>?_
  rw [List.getElem?_set]
  by_cases hi:i < n
  · by_cases e:k=i
    · subst e
      simp [hi,h1]
    · simp [e,hi,h2 i (fun h=>e h.symm)]
  · by_cases e:k=i
    · omega
    · simp [e,hi]
theorem toAt1_len (l:List qw) (k:Nat):(toAt1 l k).length≤4:=by
  have:=need_le (l.getD k zS)
  simp only [toAt1,List.length_map,List.length_range];omega
theorem toTo_len (l:List qw):∀ k,(xW l k).length≤4 * k
  | 0=>by simp [xW]
  | k+1=>by
    have:=toTo_len l k
    have:=toAt1_len l k
    rw [xW,List.length_append];omega
theorem goals12 (v r3 r10:Int) (acc:List Int) (hv:-1000≤v∧v≤1000) (h3:0≤r3∧r3≤4) (h10:0≤r10∧r10≤4) (hl:acc.length≤1000) :
    xx v r3 r10 zB 0 acc=some (acc++(List.range r10.toNat).map fun (j:Nat)=>v+minI (r3 - 1) j):=
  xk (fun n (s:Int×List Int)=>xx v r3 r10 n s.1 s.2) r10.toNat (fun k=>((k:Int),acc++(List.range k).map fun (j:Nat)=>v+minI (r3 - 1) j)) (0,acc) _ (by simp) (zH (by omega)) (fun n k hk=>by
    show xx v r3 r10 (n+1) k (acc++(List.range k).map fun (j:Nat)=>v+minI (r3 - 1) j)=xx v r3 r10 n ((k+1:Nat):Int) (acc++(List.range (k+1)).map fun (j:Nat)=>v+minI (r3 - 1) j);have hm:-1≤minI (r3 - 1) k∧minI (r3 - 1) k≤100:=by unfold minI; split <;> omega
    rw [xx,qS (decide_eq_true (by omega))];rw [show (if r3 - 1 < (k:Int) then r3 - 1 else (k:Int))=minI (r3 - 1) k from rfl]
    generalize hz:minI (r3 - 1) k=z at hm ⊢
    simp (disch:=((try simp [zi,zk,ze, -List.getD_eq_getElem?_getD]); try omega; done)) only [zG,qS,qg,Option.bind_some]
    simp [List.range_succ,hz]) (fun n=>by
    show xx v r3 r10 (n+1) r10.toNat _=_;rw [xx,qg (by simp; omega)])
theorem goals5 (l:List qw) (v i:Int) (q:List T3) (r3:Int) (hv:-1000≤v∧v≤1000) (h3:0≤r3∧r3≤4) (hi:zi i q.length=true) :
    xl l v i q r3 zB 0 (List.replicate r3.toNat qK.zero)=some ((List.range r3.toNat).map fun (j:Nat)=>(yb (l.getD i.toNat zS),v+j)):=
  xk (fun n (s:Int×List (Int×Int))=>xl l v i q r3 n s.1 s.2) r3.toNat (fun k=>((k:Int),(List.range r3.toNat).map fun (j:Nat)=>if j < k then (yb (l.getD i.toNat zS),v+j) else (0,0))) (0,_) _
    (by
      simp only [Nat.not_lt_zero,if_false]
      congr 1
      refine List.ext_getElem? fun k=>?_
      by_cases h:k < r3.toNat <;> simp [List.getElem?_replicate,h]) (zH (by omega)) (fun n k hk=>by
    show xl l v i q r3 (n+1) k ((List.range r3.toNat).map fun (j:Nat)=>if j < k then (yb (l.getD i.toNat zS),v+(j:Int)) else (0,0))=xl l v i q r3 n ((k+1:Nat):Int) ((List.range r3.toNat).map fun (j:Nat)=>if j < k+1 then (yb (l.getD i.toNat zS),v+(j:Int)) else (0,0));rw [xl,qS (decide_eq_true (by simp; omega)),zG hi,stbed_eq,Option.bind_some,zG (by simp [zk,zi]; omega),zG (by simp [zk]; omega),Int.toNat_natCast,map_set r3.toNat k _ (fun j=>if j < k+1 then (yb (l.getD i.toNat zS),v+(j:Int)) else (0,0)) _ hk (by simp) (fun j hj=>by
      by_cases h1:j < k
      · rw [if_pos h1,if_pos (by omega)]
      · rw [if_neg h1,if_neg (by omega)])]
    rfl) (fun n=>by
    show xl l v i q r3 (n+1) r3.toNat _=_;rw [xl,qg (by simp)]
    congr 1
    refine List.map_congr_left fun j hj=>?_
    rw [if_pos (by simpa using hj)])
theorem goals_eq (l:List qw) (hl:l.length≤16):m_goals l=some ((List.range l.length).map (xw l),l.length,xW l l.length):=by
  have hF:l.length < zB:=zH (by omega);unfold m_goals
  have:=xk (fun n (s:Int×Int×List Int×List T3)=>xA l n s.1 s.2.1 s.2.2.1 s.2.2.2) l.length (fun k=>(nx l k,(k:Int),xW l k,(List.range l.length).map fun i=>if i < k then xw l i else []))
    (13,0,[],List.replicate l.length []) (xW l l.length,(List.range l.length).map (xw l)) (by
      simp only [nx,qy,xW,Nat.not_lt_zero,if_false]
      simp
      refine List.ext_getElem? fun k=>?_
      by_cases h:k < l.length <;> simp [List.getElem?_replicate,h]) hF (fun n k hk=>by
    show xA l (n+1) (nx l k) k (xW l k) _=xA l n (nx l (k+1)) ((k+1:Nat):Int) (xW l (k+1)) _;have hb:=sumTo_le make xh l k (by omega);have hb2:=xh (l.getD k zS);have hb2':0≤make (l.getD k (0,0,0,0,false))∧make (l.getD k (0,0,0,0,false))≤4:=hb2;have hb3:=need_le (l.getD k zS);have hn:-100≤nx l k∧nx l k≤900:=by unfold nx; omega
    have ht:=toTo_len l k;rw [xA,qS (decide_eq_true (by omega)),zG (by simp [zi]; omega),stmakes_eq,Option.bind_some,Int.toNat_natCast,zG (by simp [zi, -List.getD_eq_getElem?_getD]; omega),zG (by simp [zi]; omega)];rw [goals5 l _ _ _ _ (by omega) hb2 (by simp [zi]; omega),Option.bind_some,stneeds_eq,Option.bind_some,goals12 _ _ _ _ (by omega) hb2 hb3 (by omega),Option.bind_some,Int.toNat_natCast];rw [zG (by simp [zk, -List.getD_eq_getElem?_getD]; omega),zG (by simp [zk]; omega),← nx_succ l k hk];rw [map_set l.length k _ (fun i=>if i < k+1 then xw l i else []) _ hk (by rw [if_pos (by omega)]; rfl) (fun j hj=>by
      by_cases h1:j < k
      · rw [if_pos h1,if_pos (by omega)]
      · rw [if_neg h1,if_neg (by omega)])]
    rfl) (fun n=>by
    show xA l (n+1) (nx l l.length) l.length (xW l l.length) _=_;rw [xA,qg (by simp)]
    congr 2
    refine List.map_congr_left fun j hj=>?_
    rw [if_pos (by simpa using hj)])
  rw [zG (by simp; omega),Int.toNat_natCast];dsimp only at this;rw [this]
  rfl
end Go.Proofs.YtihcolehefloeaaDoor

/- Courses, plain: where the slots go, and which are held then. -/
namespace Go.Proofs.YtihcolehefloeaaDoor
open Go.RowKit
theorem pw_get {R:Int→Int→Prop} {l:List Int} (h:l.Pairwise R) (i j:Nat) (hij:i < j) (hj:j < l.length):R (l.getD i 0) (l.getD j 0):=by
  rw [List.getD_eq_getElem?_getD,List.getD_eq_getElem?_getD,List.getElem?_eq_getElem hj,List.getElem?_eq_getElem (Nat.lt_trans hij hj)];exact List.pairwise_iff_getElem.1 h i j (Nat.lt_trans hij hj) hj hij
theorem mem_get {l:List Int} (i:Nat) (h:i < l.length):l.getD i 0∈l:=by
  rw [List.getD_eq_getElem?_getD,List.getElem?_eq_getElem h];exact List.getElem_mem h
theorem pw_to {l:List Int} (h:l.Pairwise (·≤·)) (hb:∀ x∈l,1≤x∧x≤40):yl l=true:=by
  rw [yl,List.all_eq_true];intro i hi;have hi2:i < l.length:=by simpa using hi
  have h1:=hb _ (mem_get i hi2);simp only [toAt,Bool.and_eq_true,Bool.or_eq_true,decide_eq_true_eq,Int.toNat_natCast];refine ⟨h1,?_⟩
  by_cases h0:i=0
  · left; omega
  · right
    rw [show ((i:Int) - 1).toNat=i - 1 by omega];exact pw_get h (i - 1) i (by omega) hi2
theorem pw_all {l:List Int} (h:l.Pairwise (· < ·)) (hb:∀ x∈l,1≤x∧x≤40):qB l=true:=by
  rw [qB,List.all_eq_true];intro i hi;have hi2:i < l.length:=by simpa using hi
  have h1:=hb _ (mem_get i hi2);simp only [okAt,Bool.and_eq_true,Bool.or_eq_true,decide_eq_true_eq,Int.toNat_natCast];refine ⟨h1,?_⟩
  by_cases h0:i=0
  · left; omega
  · right
    rw [show ((i:Int) - 1).toNat=i - 1 by omega];exact pw_get h (i - 1) i (by omega) hi2
theorem pw_le {l:List Int} (h:l.Pairwise (· < ·)):l.Pairwise (·≤·):=h.imp fun h=>Int.le_of_lt h
theorem compact_snoc (p:List Int) (x:Int) (h:∀ y,p.getLast?=some y→y≠x):Lib.compact (p++[x])=Lib.compact p++[x]:=by
  unfold Lib.compact;rw [List.length_append,List.length_singleton,Lib.compactUpTo_succ];have hx:(p++[x]).toArray[p.length]! = x:=by simp
  have e1:Lib.compactUpTo (p++[x]).toArray p.length=Lib.compactUpTo p.toArray p.length:=by
    unfold Lib.compactUpTo;have hg:∀ j,j < p.length→(p++[x]).toArray[j]! = p.toArray[j]!:=fun j hj=>by
      simp [List.getElem?_append_left hj]
    have hf:(List.range p.length).filter (Lib.keeps (p++[x]).toArray)=(List.range p.length).filter (Lib.keeps p.toArray):=by
      refine List.filter_congr fun j hj=>?_
      have hj':j < p.length:=by simpa using hj
      unfold Lib.keeps;rw [hg j hj',hg (j - 1) (by omega)]
    rw [hf];refine List.map_congr_left fun j hj=>?_
    exact hg j (by simpa using (List.mem_filter.1 hj).1)
  rw [e1,hx]
  congr 1
  rw [if_pos];unfold Lib.keeps
  by_cases h0:p.length=0
  · simp [h0]
  · have hl:p.getLast?=some (p.toArray[p.length - 1]!):=by
      rw [List.getLast?_eq_getElem?]
      simp [List.getElem?_eq_getElem (show p.length - 1 < p.length by omega)]
    have h2:=h _ hl;have h3:(p++[x]).toArray[p.length - 1]! = p.toArray[p.length - 1]!:=by
      simp [List.getElem?_append_left (show p.length - 1 < p.length by omega)]
    rw [hx,h3];simp only [h0,decide_false,Bool.false_or]
    simpa using fun e=>h2 (by simpa using e.symm)
theorem compact_dup (p:List Int) (x:Int):Lib.compact (p++[x]++[x])=Lib.compact (p++[x]):=by
  have:=Lib.compactUpTo_succ (p++[x]++[x]).toArray (p.length+1)
  unfold Lib.compact;rw [List.length_append,List.length_append,List.length_singleton,this];have hk:Lib.keeps (p++[x]++[x]).toArray (p.length+1)=false:=by
    unfold Lib.keeps
    simp
  rw [hk];simp only [Bool.false_eq_true,if_false,List.append_nil];unfold Lib.compactUpTo;have hg:∀ j,j < p.length+1→(p++[x]++[x]).toArray[j]! = (p++[x]).toArray[j]!:=fun j hj=>by
    simp only [List.getElem!_toArray,List.getElem!_eq_getElem?_getD];rw [List.getElem?_append_left (l₁:=p++[x]) (by simp; omega)]
  have hf:(List.range (p.length+1)).filter (Lib.keeps (p++[x]++[x]).toArray)=(List.range (p.length+1)).filter (Lib.keeps (p++[x]).toArray):=by
    refine List.filter_congr fun j hj=>?_
    have hj':j < p.length+1:=by simpa using hj
    unfold Lib.keeps;rw [hg j hj',hg (j - 1) (by omega)]
  rw [hf];refine List.map_congr_left fun j hj=>?_
  exact hg j (by simpa using (List.mem_filter.1 hj).1)
theorem compact_inc:∀ (q p:List Int),q.Pairwise (· < ·)→(∀ x∈p,∀ y∈q,x < y)→Lib.compact (p++q)=Lib.compact p++q
  | [],p,_,_=>by simp
  | y :: q,p,h,hc=>by
    have h1:=List.pairwise_cons.1 h;rw [show p++y :: q=(p++[y])++q by simp,compact_inc q (p++[y]) h1.2 (fun x hx z hz=>by
      rcases List.mem_append.1 hx with hx | hx
      · exact hc x hx z (List.mem_cons_of_mem _ hz)
      · simp only [List.mem_singleton] at hx
        subst hx;exact h1.1 z hz),compact_snoc p y (fun z hz=>by
      have:=hc z (List.mem_of_getLast? hz) y List.mem_cons_self
      omega)]
    simp
def yq (l:List qw) (k:Nat):List Int:=if need (l.getD k zS)=0 then [] else (List.range (make (l.getD k zS)).toNat).map fun (j:Nat)=>nx l k+j
def zX (l:List qw):Nat→List Int
  | 0=>[]
  | k+1=>zX l k++yq l k
theorem run_pw (a:Int) (n:Nat):((List.range n).map fun (j:Nat)=>a+j).Pairwise (· < ·):=by
  rw [List.pairwise_map];exact List.pairwise_lt_range.imp fun h=>by omega
theorem run_mem {a:Int} {n:Nat} {x:Int} (h:x∈(List.range n).map fun (j:Nat)=>a+j):a≤x∧x < a+n:=by
  obtain ⟨j,hj,rfl⟩:=List.mem_map.1 h
  have:j < n:=by simpa using hj
  omega
theorem toAt1_mem {l:List qw} (h:l.all xN=true) {k:Nat} (hk:k < l.length) {x:Int} (hx:x∈toAt1 l k):nx l k≤x∧x < nx l (k+1):=by
  obtain ⟨j,hj,rfl⟩:=List.mem_map.1 hx
  have:=make_pos (yv h k hk)
  rw [nx_succ l k hk];unfold minI
  split <;> omega
theorem toTo_mem {l:List qw} (h:l.all xN=true):∀ k,k≤l.length→∀ x∈xW l k,13≤x∧x < nx l k
  | 0,_,x,hx=>by cases hx
  | k+1,hk,x,hx=>by
    have hn:=nx_succ l k (by omega)
    have:=xh (l.getD k zS)
    have hs:=sumTo_le make xh l k (by omega)
    rcases List.mem_append.1 hx with hx | hx
    · have:=toTo_mem h k (by omega) x hx
      omega
    · have:=toAt1_mem h (by omega) hx
      unfold nx at *;omega
theorem toTo_pw {l:List qw} (h:l.all xN=true):∀ k,k≤l.length→(xW l k).Pairwise (·≤·)
  | 0,_=>.nil
  | k+1,hk=>by
    refine List.pairwise_append.2 ⟨toTo_pw h k (by omega),?_,fun x hx y hy=>?_⟩
    · unfold toAt1
      rw [List.pairwise_map];exact List.pairwise_lt_range.imp fun h=>by unfold minI; split <;> split <;> omega
    · have h1:=toTo_mem h k (by omega) x hx
      have h2:=toAt1_mem h (by omega) hy;omega
theorem heldAt_mem {l:List qw} {k:Nat} (hk:k < l.length) {x:Int} (hx:x∈yq l k):nx l k≤x∧x < nx l (k+1):=by
  unfold yq at hx
  split at hx
  · cases hx
  · have:=run_mem hx
    have:=xh (l.getD k zS)
    rw [nx_succ l k hk];omega
theorem heldTo_mem {l:List qw}:∀ k,k≤l.length→∀ x∈zX l k,13≤x∧x < nx l k
  | 0,_,x,hx=>by cases hx
  | k+1,hk,x,hx=>by
    have hn:=nx_succ l k (by omega)
    have:=xh (l.getD k zS)
    have hs:=sumTo_le make xh l k (by omega)
    rcases List.mem_append.1 hx with hx | hx
    · have:=heldTo_mem k (by omega) x hx
      omega
    · have:=heldAt_mem (by omega) hx
      unfold nx at *;omega
theorem heldAt_pw (l:List qw) (k:Nat):(yq l k).Pairwise (· < ·):=by
  unfold yq
  split
  · exact .nil
  · exact run_pw _ _
theorem heldTo_pw {l:List qw}:∀ k,k≤l.length→(zX l k).Pairwise (· < ·)
  | 0,_=>.nil
  | k+1,hk=>by
    refine List.pairwise_append.2 ⟨heldTo_pw k (by omega),heldAt_pw l k,fun x hx y hy=>?_⟩;have h1:=heldTo_mem k (by omega) x hx;have h2:=heldAt_mem (by omega) hy;omega
theorem compact_to {l:List qw} (h:l.all xN=true):∀ k,k≤l.length→Lib.compact (xW l k)=zX l k
  | 0,_=>rfl
  | k+1,hk=>by
    have ih:=compact_to h k (by omega);have hm:=toTo_mem h k (by omega);rw [xW,zX,← ih]
    rcases need_make (yv h k (by omega)) with h0 | ⟨h2,h1⟩ | he
    · have e1:toAt1 l k=[]:=by unfold toAt1; rw [h0]; rfl
      have e2:yq l k=[]:=by unfold yq; rw [if_pos h0]
      rw [e1,e2,List.append_nil,List.append_nil]
    · have e1:toAt1 l k=[nx l k]++[nx l k]:=by unfold toAt1; rw [h2,h1]; simp [List.range_succ,minI]
      have e2:yq l k=[nx l k]:=by unfold yq; rw [if_neg (by omega),h1]; simp [List.range_succ]
      rw [e1,e2,← List.append_assoc,compact_dup,compact_snoc];intro y hy
      have:=hm y (List.mem_of_getLast? hy)
      omega
    · have hp:=make_pos (yv h k (by omega))
      have e1:toAt1 l k=yq l k:=by
        unfold toAt1 yq;rw [if_neg (by omega),he];refine List.map_congr_left fun j hj=>?_
        have:j < (make (l.getD k zS)).toNat:=by simpa using hj
        unfold minI;rw [if_neg (by omega)]
      rw [e1];refine compact_inc _ _ (heldAt_pw l k) fun x hx y hy=>?_
      have h1:=hm x hx;have h2:=heldAt_mem (by omega) hy;omega
theorem heldTo_pre (l:List qw) (k:Nat):∀ m,k≤m→∃ r,zX l m=zX l k++r
  | 0,h=>⟨[],by rw [show k=0 by omega]; rfl⟩
  | m+1,h=>by
    by_cases e:k=m+1
    · exact ⟨[],by rw [e,List.append_nil]⟩
    · obtain ⟨r,hr⟩:=heldTo_pre l k m (by omega)
      exact ⟨r++yq l m,by rw [zX,hr,List.append_assoc]⟩
theorem held_get (l:List qw) {k m:Nat} (hk:k < m) (h0:need (l.getD k zS)≠0) (j:Nat) (hj:(j:Int) < make (l.getD k zS)):(zX l m).getD ((zX l k).length+j) 0=nx l k+j∧(zX l k).length+j < (zX l m).length:=by
  obtain ⟨r,hr⟩:=heldTo_pre l (k+1) m (by omega);have hl:j < (yq l k).length:=by unfold yq; rw [if_neg h0,List.length_map,List.length_range]; omega
  rw [hr,zX];refine ⟨?_,by simp only [List.length_append]; omega⟩;rw [List.getD_eq_getElem?_getD,List.append_assoc,List.getElem?_append_right (by omega),Nat.add_sub_cancel_left,List.getElem?_append_left hl];unfold yq;rw [if_neg h0]
  have:j < (make (l.getD k zS)).toNat:=by omega
  rw [List.getElem?_map,List.getElem?_range this]
  rfl
theorem index_eq (l:List Int) (p:Nat) (hp:p < l.length) (hl:l.length≤1000) (h:l.Pairwise (· < ·)):m_index l (l.getD p 0)=some (p:Int):=by
  unfold m_index
  have:=loop0 (fun n i (s:Unit)=>xt l (l.getD p 0) n i) p (fun _=>()) (.inr (p:Int)) (zH (by omega)) (fun n k hk=>by
    show xt l (l.getD p 0) (n+1) k=xt l (l.getD p 0) n (k+1);have hlt:=pw_get h k p hk hp;rw [xt,qS (decide_eq_true (by omega)),zG (by simp [zi]; omega),Int.toNat_natCast,qg (decide_eq_false (by omega)),zG (by simp [zk]; omega)]) (fun n=>by
    show xt l (l.getD p 0) (n+1) p=some (.inr (p:Int));rw [xt,qS (decide_eq_true (by omega)),zG (by simp [zi]; omega),Int.toNat_natCast,qS (decide_eq_true rfl)])
  rw [this]
  rfl
end Go.Proofs.YtihcolehefloeaaDoor

/- Courses, plain: cables. -/
namespace Go.Proofs.YtihcolehefloeaaDoor
open Go.RowKit
theorem clone_eq (l:List Int) (h0:0 < l.length) (h:l.length≤1000):yg l=some l:=by
  unfold yg;rw [zG (by simpa using h0),qg rfl,zG (by simp [ze]; omega)]
  rfl
theorem cbsizes_eq (a b:Nat) (ha:1≤a) (hb:1≤b) (hab:a+b≤4):m_cbsizes a b=some 0:=by
  unfold m_cbsizes;rw [zG (by simp [zk]; omega),qg (by simp; omega)]
theorem set_same {l:List Int} {q:Nat} {x:Int} (hq:q < l.length) (h:l.getD q 0=x):l.set q x=l:=by
  refine List.ext_getElem? fun j=>?_
  rw [List.getElem?_set]
  by_cases e:q=j
  · subst e
    rw [List.getD_eq_getElem?_getD,List.getElem?_eq_getElem hq] at h;simp only [Option.getD_some] at h
    simp [hq,h]
  · simp [e]
theorem crossT_eq (bed:Int) (x:List Int×List Int×Int×List Int) (ops:List qx) (h1:x.2.1.length≤1000) (h2:ops.length≤2000000):m_crossT bed x ops=some (ops++x.2.1.map fun k=>(7,0,(bed,k),0,0)):=by
  unfold m_crossT
  have:=xk (fun n (s:Int×List qx)=>xa bed x n s.1 s.2) x.2.1.length (fun k=>((k:Int),ops++(x.2.1.take k).map fun k=>(7,0,(bed,k),0,0))) (0,ops) (ops++x.2.1.map fun k=>(7,0,(bed,k),0,0)) (by simp) (zH (by omega)) (fun n k hk=>by
    show xa bed x (n+1) k (ops++(x.2.1.take k).map fun k=>(7,0,(bed,k),0,0))=xa bed x n ((k+1:Nat):Int) (ops++(x.2.1.take (k+1)).map fun k=>(7,0,(bed,k),0,0));rw [xa,qS (decide_eq_true (by omega)),zG (by simp [zi]; omega),zG (by simp [ze]; omega),zG (by simp [zk]; omega),yF x.2.1 0 k hk,Int.toNat_natCast]
    simp) (fun n=>by
    show xa bed x (n+1) x.2.1.length _=_;rw [xa,qg (by simp),List.take_length])
  dsimp only at this;rw [this]
  rfl
def fl (n:Nat) (f:Nat→Int):List Int:=(List.range n).map f
theorem fl_get {n:Nat} {f:Nat→Int} {q:Nat} (h:q < n):(fl n f).getD q 0=f q:=by
  rw [List.getD_eq_getElem?_getD,fl,List.getElem?_map,List.getElem?_range h]
  rfl
theorem yw (n:Nat) (f:Nat→Int):(fl n f).length=n:=by simp [fl]
theorem fl_mem {n:Nat} {f:Nat→Int} {p:Int→Prop} (h:∀ q,q < n→p (f q)):∀ x∈fl n f,p x:=fun x hx=>by
  obtain ⟨q,hq,rfl⟩:=List.mem_map.1 hx;exact h q (by simpa using hq)
theorem fl_pw {n:Nat} {f:Nat→Int} (h:∀ q,q+1 < n→f q < f (q+1)):(fl n f).Pairwise (· < ·):=by
  unfold fl;rw [List.pairwise_map,List.pairwise_iff_getElem];intro i j hi hj hij;rw [List.getElem_range,List.getElem_range];have hj':j < n:=by simpa using hj
  clear hi hj
  induction j with
  | zero=>omega
  | succ j ih=>
    by_cases e:i=j
    · rw [e]; exact h j hj'
    · exact Int.lt_trans (ih (by omega) (by omega)) (h j hj')
theorem fl_of (l:List Int):l=fl l.length (fun q=>l.getD q 0):=by
  refine List.ext_getElem? fun j=>?_
  unfold fl
  by_cases h:j < l.length
  · rw [List.getElem?_map,List.getElem?_range h,List.getElem?_eq_getElem h]
    simp [List.getD_eq_getElem?_getD,List.getElem?_eq_getElem h]
  · simp [h]
theorem fl_set {n k:Nat} {f g:Nat→Int} {x:Int} (hk:k < n) (h1:g k=x) (h2:∀ i,i≠k→g i=f i):(fl n f).set k x=fl n g:=map_set n k f g x hk h1 h2
structure Cr (l:List Int) (i a b:Nat) (p:Int):Prop where
  pw:l.Pairwise (· < ·)
  mem:∀ x∈l,13≤x∧x≤28
  len:i+a+b≤l.length
  run:∀ j:Nat,j < a+b→l.getD (i+j) 0=p+j
  ha:1≤a
  hb:1≤b
  hab:a+b≤4
theorem Cr.all {l:List Int} {i a b:Nat} {p:Int} (h:Cr l i a b p):qB l=true:=pw_all h.pw fun x hx=>by have:=h.mem x hx; omega
theorem Cr.short {l:List Int} {i a b:Nat} {p:Int} (h:Cr l i a b p):l.length≤40:=chk_len l h.all
theorem Cr.get {l:List Int} {i a b:Nat} {p:Int} (h:Cr l i a b p) (q:Nat) (hq:q < l.length):13≤l.getD q 0∧l.getD q 0≤28:=h.mem _ (mem_get q hq)
theorem Cr.p {l:List Int} {i a b:Nat} {p:Int} (h:Cr l i a b p):l.getD i 0=p∧13≤p∧p+a+b≤29:=by
  have h1:=h.run 0 (by have:=h.ha; omega);have h2:=h.run (a+b - 1) (by have:=h.ha; omega);have h3:=h.get i (by have:=h.len; have:=h.ha; omega);have h4:=h.get (i+(a+b - 1)) (by have:=h.len; have:=h.ha; omega)
  have:=h.ha
  rw [Nat.add_zero] at h1;omega
def frR (l:List Int) (e:Nat) (f0:Int):Nat→Int
  | 0=>f0
  | m+1=>(if l.getD (e+m) 0 < frR l e f0 m then frR l e f0 m else l.getD (e+m) 0)+1
def plR (l:List Int) (e:Nat) (f0:Int) (m:Nat):Int:=if l.getD (e+m) 0 < frR l e f0 m then frR l e f0 m else l.getD (e+m) 0
theorem fr_bounds {l:List Int} {i a b:Nat} {p:Int} (h:Cr l i a b p):∀ m,i+a+b+m≤l.length→p+2 * a+b+m≤frR l (i+a+b) (p+2 * a+b) m∧(∀ q,l.getD (i+a+b+m - 1) 0=q→frR l (i+a+b) (p+2 * a+b) m≤q+1+a)
  | 0,_=>by
    have h2:=h.run (a+b - 1) (by have:=h.ha; omega)
    have:=h.ha
    have e:i+a+b+0 - 1=i+(a+b - 1):=by omega
    refine ⟨by simp [frR],fun q hq=>?_⟩;rw [e,h2] at hq;simp only [frR];omega
  | m+1,hm=>by
    obtain ⟨h1,h2⟩:=fr_bounds h m (by omega);have h3:=h2 _ rfl;have h4:=pw_get h.pw (i+a+b+m - 1) (i+a+b+m) (by have:=h.ha; omega) (by omega);refine ⟨?_,fun q hq=>?_⟩
    · unfold frR
      split <;> omega
    · rw [show i+a+b+(m+1) - 1=i+a+b+m by omega] at hq
      unfold frR;subst hq
      split <;> omega
theorem pl_bounds {l:List Int} {i a b:Nat} {p:Int} (h:Cr l i a b p) (m:Nat) (hm:i+a+b+m < l.length):p+2 * a+b+m≤plR l (i+a+b) (p+2 * a+b) m∧plR l (i+a+b) (p+2 * a+b) m≤l.getD (i+a+b+m) 0+a∧frR l (i+a+b) (p+2 * a+b) m≤plR l (i+a+b) (p+2 * a+b) m:=by
  obtain ⟨h1,h2⟩:=fr_bounds h m (by omega);have h3:=h2 _ rfl;have h4:=pw_get h.pw (i+a+b+m - 1) (i+a+b+m) (by have:=h.ha; omega) (by omega);unfold plR
  split <;> omega
def rmB (l:List Int) (e:Nat) (f0:Int) (m q:Nat):Int:=if e≤q∧q < e+m then plR l e f0 (q - e) else l.getD q 0
def bhF (i k:Nat) (v:Int) (f:Nat→Int) (q:Nat):Int:=if i≤q∧q < i+k then v+((q:Int) - i) else f q
theorem leftbehind_ok {l:List Int} {i a b:Nat} {p:Int} (h:Cr l i a b p):∃ room across by_ behind,m_leftbehind l i a b=some ((room,(across,(by_,behind))),true)∧across.length≤4∧yl room=true∧room.length=l.length∧qB behind=true∧behind.length=l.length∧(∀ q,q < l.length→-4≤room.getD q 0 - l.getD q 0∧room.getD q 0 - l.getD q 0≤4)∧(∀ q,q < l.length→-4≤behind.getD q 0 - l.getD q 0∧behind.getD q 0 - l.getD q 0≤4):=by
  obtain ⟨hp1,hp2,hp3⟩:=h.p;have hs:=h.short;have ha:=h.ha;have hb:=h.hb;have hab:=h.hab;have hln:=h.len;have hc:yg l=some l:=clone_eq l (by omega) (by omega);have h3:qc l i a b zB 0 l=some l:=xk (fun n (s:Int×List Int)=>qc l i a b n s.1 s.2) (a+b) (fun k=>((k:Int),l)) (0,l) l rfl (zH (by omega)) (fun n k hk=>by
    show qc l i a b (n+1) k l=qc l i a b n ((k+1:Nat):Int) l;have hr:=h.run k hk;rw [qc,qS (decide_eq_true (by omega)),Int.toNat_natCast,hp1,zG (by simp [zk,zi]; omega),zG (by simp [zk]; omega),show ((i:Int)+k).toNat=i+k by omega,set_same (by omega) hr]
    rfl) (fun n=>by
    show qc l i a b (n+1) ((a+b:Nat):Int) l=_;rw [qc,qg (decide_eq_false (by omega))])
  have h7:qb l zB ((i:Int)+a+b) (p+2 * a+b) l=some (frR l (i+a+b) (p+2 * a+b) (l.length - (i+a+b)),fl l.length (rmB l (i+a+b) (p+2 * a+b) (l.length - (i+a+b)))):=
    xk (fun n (s:Int×Int×List Int)=>qb l n s.1 s.2.1 s.2.2) (l.length - (i+a+b)) (fun m=>(((i+a+b+m:Nat):Int),frR l (i+a+b) (p+2 * a+b) m,fl l.length (rmB l (i+a+b) (p+2 * a+b) m))) (_,_,l) _
      (by
        have e1:((i+a+b+0:Nat):Int)=(i:Int)+a+b:=by omega
        have e2:fl l.length (rmB l (i+a+b) (p+2 * a+b) 0)=l:=by
          conv=>rhs; rw [fl_of l]
          unfold fl;refine List.map_congr_left fun q _=>?_
          unfold rmB;rw [if_neg (by omega)]
        rw [e1,e2]
        rfl) (zH (by omega)) (fun n m hm=>by
      show qb l (n+1) ((i+a+b+m:Nat):Int) (frR l (i+a+b) (p+2 * a+b) m) (fl l.length (rmB l (i+a+b) (p+2 * a+b) m))=qb l n ((i+a+b+(m+1):Nat):Int) (frR l (i+a+b) (p+2 * a+b) (m+1)) (fl l.length (rmB l (i+a+b) (p+2 * a+b) (m+1)));obtain ⟨g1,g2,g3⟩:=pl_bounds h m (by omega);have g4:=h.get (i+a+b+m) (by omega);have hlb:m_lbk (l.getD (i+a+b+m) 0) (frR l (i+a+b) (p+2 * a+b) m)=some (plR l (i+a+b) (p+2 * a+b) m,frR l (i+a+b) (p+2 * a+b) (m+1)):=by
        unfold m_lbk;rw [show (if l.getD (i+a+b+m) 0 < frR l (i+a+b) (p+2 * a+b) m then frR l (i+a+b) (p+2 * a+b) m else l.getD (i+a+b+m) 0)=plR l (i+a+b) (p+2 * a+b) m from rfl,zG (by simp [zk]; omega)]
        rfl
      rw [qb,qS (decide_eq_true (by omega)),Int.toNat_natCast,zG (by simp [zi]; omega),hlb,Option.bind_some,zG (by simp [zi,yw]; omega),zG (by simp [zk]; omega)];rw [fl_set (g:=rmB l (i+a+b) (p+2 * a+b) (m+1)) (by omega) (by unfold rmB; rw [if_pos (by omega),Nat.add_sub_cancel_left]) (fun q hq=>by
        unfold rmB
        by_cases hq2:i+a+b≤q∧q < i+a+b+m
        · rw [if_pos hq2,if_pos (by omega)]
        · rw [if_neg hq2,if_neg (by omega)])]
      rfl) (fun n=>by
      show qb l (n+1) ((i+a+b+(l.length - (i+a+b)):Nat):Int) _ _=_;rw [qb,qg (decide_eq_false (by omega))])
  obtain ⟨f0,hf0⟩:∃ f0,p+2 * a+b=f0:=⟨_,rfl⟩
  obtain ⟨e,he⟩:∃ e,i+a+b=e:=⟨_,rfl⟩
  have hfr:=fr_bounds h (l.length - (i+a+b)) (by omega);have hlast:=h.get (l.length - 1) (by omega);have hfr2:=hfr.2 _ rfl;rw [show i+a+b+(l.length - (i+a+b)) - 1=l.length - 1 by omega] at hfr2;have hpl:=fun m hm=>pl_bounds h m hm
  rw [hf0,he] at h7 hfr hfr2 hpl
  -- where all are when there is room
  have rm_ok:∀ q,q < l.length→13≤rmB l e f0 (l.length - e) q∧rmB l e f0 (l.length - e) q≤40∧(e≤q→f0≤rmB l e f0 (l.length - e) q):=fun q hq=>by
    unfold rmB
    split
    · rename_i hc
      have:=hpl (q - e) (by omega)
      rw [show e+(q - e)=q by omega] at this
      have:=h.get q hq
      omega
    · have:=h.get q hq
      refine ⟨by omega,by omega,fun h=>by omega⟩
  have rm_pw:∀ q,q+1 < l.length→rmB l e f0 (l.length - e) q < rmB l e f0 (l.length - e) (q+1):=fun q hq=>by
    unfold rmB
    by_cases h1:e≤q
    · rw [if_pos (by omega),if_pos (by omega)]
      have h2:=hpl (q+1 - e) (by omega);rw [show q+1 - e=(q - e)+1 by omega] at h2 ⊢;have h4:frR l e f0 (q - e+1)=plR l e f0 (q - e)+1:=rfl;omega
    · rw [if_neg (by omega)]
      by_cases h2:e≤q+1
      · rw [if_pos (by omega)]
        have h3:=hpl (q+1 - e) (by omega);have h4:=h.run (a+b - 1) (by omega);rw [show i+(a+b - 1)=q by omega] at h4;omega
      · rw [if_neg (by omega)]
        exact pw_get h.pw q (q+1) (by omega) hq
  have rm_near:∀ q,q < l.length→-4≤rmB l e f0 (l.length - e) q - l.getD q 0∧rmB l e f0 (l.length - e) q - l.getD q 0≤4:=fun q hq=>by
    unfold rmB
    split
    · rename_i hc
      have h1:=hpl (q - e) (by omega);rw [show e+(q - e)=q by omega] at h1;have h2:l.getD q 0≤plR l e f0 (q - e):=by
        unfold plR;rw [show e+(q - e)=q by omega]
        split <;> omega
      omega
    · omega
  have hrl:=yw l.length (rmB l e f0 (l.length - e));have h15:qj l i a b zB 0 (fl l.length (rmB l e f0 (l.length - e)))=some (fl l.length (bhF i (a+b) (p+a) (rmB l e f0 (l.length - e)))):=
    xk (fun n (s:Int×List Int)=>qj l i a b n s.1 s.2) (a+b) (fun k=>((k:Int),fl l.length (bhF i k (p+a) (rmB l e f0 (l.length - e))))) (0,_) _ (by
      congr 1
      unfold fl;refine List.map_congr_left fun q _=>?_
      unfold bhF;rw [if_neg (by omega)]) (zH (by omega)) (fun n k hk=>by
      show qj l i a b (n+1) k (fl l.length (bhF i k (p+a) _))=qj l i a b n ((k+1:Nat):Int) (fl l.length (bhF i (k+1) (p+a) _));rw [qj,qS (decide_eq_true (by omega)),Int.toNat_natCast,hp1,zG (by simp [zk,zi,yw]; omega),zG (by simp [zk]; omega),show ((i:Int)+k).toNat=i+k by omega];rw [fl_set (g:=bhF i (k+1) (p+a) (rmB l e f0 (l.length - e))) (by omega) (by unfold bhF; rw [if_pos (by omega)]; omega) (fun q hq=>by
        unfold bhF
        by_cases hq2:i≤q∧q < i+k
        · rw [if_pos hq2,if_pos (by omega)]
        · rw [if_neg hq2,if_neg (by omega)])]
      rfl) (fun n=>by
      show qj l i a b (n+1) ((a+b:Nat):Int) _=_;rw [qj,qg (decide_eq_false (by omega))])
  have hcut:∀ k,0 < k→i+k≤l.length→yg (((fl l.length (rmB l e f0 (l.length - e))).take (i+k)).drop i)=some (((fl l.length (rmB l e f0 (l.length - e))).take (i+k)).drop i):=fun k h0 hk=>clone_eq _ (by simp [yw]; omega) (by simp [yw]; omega)
  refine ⟨fl l.length (rmB l e f0 (l.length - e)),((fl l.length (rmB l e f0 (l.length - e))).take (i+a)).drop i,(a:Int)+b,fl l.length (bhF i (a+b) (p+a) (rmB l e f0 (l.length - e))),?_,by simp [yw]; omega,pw_to (pw_le (fl_pw rm_pw)) (fl_mem fun q hq=>by have:=rm_ok q hq; omega),hrl,pw_all (fl_pw fun q hq=>?_) (fl_mem fun q hq=>?_),yw _ _,fun q hq=>?_,fun q hq=>?_⟩
  · unfold m_leftbehind
    rw [zG (by simp [zi]; omega),hc,Option.bind_some,zG (by simp [zk]; omega),zG (by simp [zk]; omega),h3,Option.bind_some,Int.toNat_natCast,hp1,zG (by simp [zk]; omega),zG (by simp [zk]; omega),hf0,h7,Option.bind_some];rw [zG (by simp [zk,yw]; omega),show ((i:Int)+a).toNat=i+a by omega,hcut a (by omega) (by omega),Option.bind_some,clone_eq _ (by rw [hrl]; omega) (by rw [hrl]; omega),Option.bind_some,zG (by simp [zk]; omega),h15,Option.bind_some,zG (by simp [zk]; omega),decide_eq_true (by omega)]
  · unfold bhF
    have:=rm_ok q (by omega)
    have h5:=rm_ok (q+1) hq
    by_cases h1:i≤q∧q < i+(a+b)
    · rw [if_pos h1]
      by_cases h2:q+1 < i+(a+b)
      · rw [if_pos (by omega)]; omega
      · rw [if_neg (by omega)]
        have:=h5.2.2 (by omega)
        omega
    · rw [if_neg h1]
      by_cases h2:i≤q+1∧q+1 < i+(a+b)
      · rw [if_pos h2]
        have h6:=pw_get h.pw q (q+1) (by omega) hq;have h7:rmB l e f0 (l.length - e) q=l.getD q 0:=by unfold rmB; rw [if_neg (by omega)]
        rw [show q+1=i by omega,hp1] at h6;rw [h7];omega
      · rw [if_neg h2]
        exact rm_pw q hq
  · unfold bhF
    have:=rm_ok q hq
    split <;> omega
  · rw [fl_get hq]
    exact rm_near q hq
  · rw [fl_get hq]
    unfold bhF
    split
    · rename_i hc
      have h1:=h.run (q - i) (by omega);rw [show i+(q - i)=q by omega] at h1;omega
    · exact rm_near q hq
end Go.Proofs.YtihcolehefloeaaDoor

/- Flats, plain: plans of short ways are short. -/
namespace Go.Proofs.YtihcolehefloeaaDoor
open Go.RowKit
theorem move8 (o:List qx) (rk:Int) (l:List Int) (d:Int) (hd:-8≤d∧d≤8):(qm o rk l d).1.length≤o.length+(if d=0 then 0 else 2+2 * l.length):=by
  unfold qm
  by_cases h0:d=0
  · subst h0
    rw [if_pos rfl];exact Nat.le_refl _
  · obtain ⟨f,hf⟩:∃ f,d.natAbs=f+1:=⟨d.natAbs - 1,by omega⟩
    have hb:xZ d=d:=by
      unfold xZ imax imin
      split <;> split at * <;> omega
    rw [hf,moveF,if_neg h0,hb,if_neg h0,show d - d=0 by omega];have hz:∀ f o rk l,moveF f o rk l 0=(o,rk):=fun f o rk l=>by
      cases f with
      | zero=>rfl
      | succ f=>rw [moveF,if_pos rfl]
    rw [hz];have t1:=yk o rk (rOf rk l d);have t2:=yk (qr o rk (rOf rk l d)++yr 0 0 l) (rOf rk l d) (rOf rk l d+d);simp only [List.length_append,xfers_length] at t2 ⊢;omega
theorem st1_short (fr to:List Int) (hj:∀ i,i+1 < fr.length→to.getD i 0=to.getD (i+1) 0→-8≤fr.getD (i+1) 0 - fr.getD i 0∧fr.getD (i+1) 0 - fr.getD i 0≤8) (hd:∀ i,i < fr.length→-8≤to.getD i 0 - fr.getD i 0∧to.getD i 0 - fr.getD i 0≤8):∀ i:Nat,i≤fr.length→(yu fr to i).1.1.length+4 * (yu fr to i).2.1.length≤4 * i∧((yu fr to i).2.2.length=(yu fr to i).2.1.length)∧∀ d∈(yu fr to i).2.2, -8≤d∧d≤8
  | 0,_=>by simp [yu]
  | i+1,hi=>by
    obtain ⟨h1,h2,h3⟩:=st1_short fr to hj hd i (by omega);unfold yu
    split
    · rename_i h
      have hg:=hj i h.1 h.2;have hm:=move8 (yu fr to i).1.1 (yu fr to i).1.2 [fr.getD i 0] (fr.getD (i+1) 0 - fr.getD i 0) hg;refine ⟨?_,h2,h3⟩;dsimp only;rw [List.length_singleton] at hm
      split at hm <;> omega
    · refine ⟨by simp only [List.length_append,List.length_singleton]; omega,by simp [h2],fun d hd'=>?_⟩
      rcases List.mem_append.1 hd' with h | h
      · exact h3 d h
      · rw [List.mem_singleton.1 h]
        exact hd i (by omega)
theorem seg_len (at_ by_:List Int) (i:Int) (h0:0≤i) (h:i < at_.length):((seg at_ by_ i).length:Int)=tog at_ by_ i - i:=by
  have ht:=xM at_ by_ i h;unfold seg;rw [List.length_drop,List.length_take];omega
def ya (at_ by_:List Int) (p:Int→Bool):List Int→Nat
  | []=>0
  | i :: L=>(if p i then 2+2 * (seg at_ by_ i).length else 0)+ya at_ by_ p L
theorem costs_append (at_ by_:List Int) (p:Int→Bool) (A B:List Int):ya at_ by_ p (A++B)=ya at_ by_ p A+ya at_ by_ p B:=by
  induction A with
  | nil=>simp [ya]
  | cons a A ih=>simp only [List.cons_append,ya,ih]; omega
theorem costs_rev (at_ by_:List Int) (p:Int→Bool) (A:List Int):ya at_ by_ p A.reverse=ya at_ by_ p A:=by
  induction A with
  | nil=>rfl
  | cons a A ih=>rw [List.reverse_cons,costs_append,ih]; simp only [ya]; omega
theorem costs_two (at_ by_:List Int) (p q:Int→Bool) (hpq:∀ i,p i=true→q i=false) (A:List Int):ya at_ by_ p A+ya at_ by_ q A≤ya at_ by_ (fun _=>true) A:=by
  induction A with
  | nil=>simp [ya]
  | cons a A ih=>
    simp only [ya];cases hp:p a with
    | true=>rw [hpq a hp]; simp only [if_true]; simp; omega
    | false=>cases q a <;> simp <;> omega
theorem costs_all (at_ by_:List Int):∀ (f:Nat) (i:Int),0≤i→(i≤at_.length)→(ya at_ by_ (fun _=>true) (stF at_ by_ f i):Int)≤4 * (at_.length - i)
  | 0,i,_,h=>by simp only [stF,ya]; omega
  | f+1,i,h0,h1=>by
    unfold stF
    split
    · rename_i h
      have ht:=xM at_ by_ i h
      have:=costs_all at_ by_ f (tog at_ by_ i) (by omega) (by omega)
      have hs:=seg_len at_ by_ i h0 h;simp only [ya,if_true];omega
    · simp only [ya]; omega
theorem fold_costs (at_ by_:List Int) (p:Int→Bool) (st:List qx×Int→Int→List qx×Int) (hst:∀ q i,(st q i).1.length≤q.1.length+(if p i then 2+2 * (seg at_ by_ i).length else 0)):∀ (L:List Int) (q:List qx×Int),(L.foldl st q).1.length≤q.1.length+ya at_ by_ p L
  | [],q=>by simp [ya]
  | x :: L,q=>by
    have h1:=fold_costs at_ by_ p st hst L (st q x);have h2:=hst q x;simp only [List.foldl_cons,ya];omega
theorem plan_short (fr to:List Int) (hj:∀ i,i+1 < fr.length→to.getD i 0=to.getD (i+1) 0→-8≤fr.getD (i+1) 0 - fr.getD i 0∧fr.getD (i+1) 0 - fr.getD i 0≤8) (hd:∀ i,i < fr.length→-8≤to.getD i 0 - fr.getD i 0∧to.getD i 0 - fr.getD i 0≤8):(xr fr to).length≤4 * fr.length+1:=by
  obtain ⟨h1,h2,h3⟩:=st1_short fr to hj hd fr.length (Nat.le_refl _);obtain ⟨A,hA⟩:∃ A,(yu fr to fr.length).2.1=A:=⟨_,rfl⟩
  obtain ⟨B,hB⟩:∃ B,(yu fr to fr.length).2.2=B:=⟨_,rfl⟩
  rw [hA] at h1 h2;rw [hB] at h2 h3;have hb:∀ i:Nat, -8≤B.getD i 0∧B.getD i 0≤8:=fun i=>getD_all (p:=fun d=>-8≤d∧d≤8) B h3 (by omega) i
  have u:=fold_costs A B (fun i=>decide (0 < B.getD i.toNat 0)) (qA A B) (fun q i=>by
    unfold qA
    split
    · rename_i h
      have:=move8 q.1 q.2 (seg A B i) (B.getD i.toNat 0) (hb _)
      rw [if_neg (by omega)] at this;rw [if_pos (decide_eq_true h)];exact this
    · omega) (qh A B).reverse (yu fr to fr.length).1
  have d:=fold_costs A B (fun i=>decide (B.getD i.toNat 0 < 0)) (qV A B) (fun q i=>by
    unfold qV
    split
    · rename_i h
      have:=move8 q.1 q.2 (seg A B i) (B.getD i.toNat 0) (hb _)
      rw [if_neg (by omega)] at this;rw [if_pos (decide_eq_true h)];exact this
    · omega) (qh A B) ((qh A B).reverse.foldl (qA A B) (yu fr to fr.length).1)
  rw [costs_rev] at u;have c2:=costs_two A B (fun i=>decide (0 < B.getD i.toNat 0)) (fun i=>decide (B.getD i.toNat 0 < 0)) (fun i hi=>decide_eq_false (by have:=of_decide_eq_true hi; omega)) (qh A B);have c1:=costs_all A B A.length 0 (by omega) (by omega);unfold xr planAB;rw [hA,hB];have ht:=yk ((qh A B).foldl (qV A B) ((qh A B).reverse.foldl (qA A B) (yu fr to fr.length).1)).1 ((qh A B).foldl (qV A B) ((qh A B).reverse.foldl (qA A B) (yu fr to fr.length).1)).2 0;have c3:ya A B (fun _=>true) (qh A B)≤4 * A.length:=by
    have:((ya A B (fun _=>true) (qh A B):Nat):Int)≤4 * (A.length - 0):=c1
    omega
  dsimp only;omega
end Go.Proofs.YtihcolehefloeaaDoor

/- Courses, plain: cables, the other way; crossing. -/
namespace Go.Proofs.YtihcolehefloeaaDoor
open Go.RowKit
def frL (l:List Int) (i:Nat) (f0:Int):Nat→Int
  | 0=>f0
  | m+1=>(if frL l i f0 m < l.getD (i - 1 - m) 0 then frL l i f0 m else l.getD (i - 1 - m) 0) - 1
def plL (l:List Int) (i:Nat) (f0:Int) (m:Nat):Int:=if frL l i f0 m < l.getD (i - 1 - m) 0 then frL l i f0 m else l.getD (i - 1 - m) 0
theorem frL_bounds {l:List Int} {i a b:Nat} {p:Int} (h:Cr l i a b p):∀ m,m≤i→frL l i (p - b - 1) m≤p - b - 1 - m∧∀ q,l.getD (i - m) 0=q→q - 1 - b≤frL l i (p - b - 1) m
  | 0,_=>by
    have:=h.p.1
    refine ⟨by simp [frL],fun q hq=>?_⟩;rw [Nat.sub_zero,this] at hq;simp only [frL];omega
  | m+1,hm=>by
    obtain ⟨h1,h2⟩:=frL_bounds h m (by omega);have h3:=h2 _ rfl;have h4:=pw_get h.pw (i - (m+1)) (i - m) (by omega) (by have:=h.len; have:=h.ha; omega);refine ⟨?_,fun q hq=>?_⟩
    · unfold frL
      split <;> omega
    · unfold frL
      rw [show i - 1 - m=i - (m+1) by omega,hq];rw [hq] at h4
      split <;> omega
theorem plL_bounds {l:List Int} {i a b:Nat} {p:Int} (h:Cr l i a b p) (m:Nat) (hm:m < i):plL l i (p - b - 1) m≤p - b - 1 - m∧l.getD (i - 1 - m) 0 - b≤plL l i (p - b - 1) m∧plL l i (p - b - 1) m≤frL l i (p - b - 1) m:=by
  obtain ⟨h1,h2⟩:=frL_bounds h m (by omega);have h3:=h2 _ rfl;have h4:=pw_get h.pw (i - 1 - m) (i - m) (by omega) (by have:=h.len; have:=h.ha; omega);unfold plL
  split <;> omega
def rmL (l:List Int) (i:Nat) (f0:Int) (m q:Nat):Int:=if i - m≤q∧q < i then plL l i f0 (i - 1 - q) else l.getD q 0
theorem leftinfront_ok {l:List Int} {i a b:Nat} {p:Int} (h:Cr l i a b p):∃ room across by_ behind,yt l i a b=some ((room,(across,(by_,behind))),true)∧across.length≤4∧yl room=true∧room.length=l.length∧qB behind=true∧behind.length=l.length∧(∀ q,q < l.length→-4≤room.getD q 0 - l.getD q 0∧room.getD q 0 - l.getD q 0≤4)∧(∀ q,q < l.length→-4≤behind.getD q 0 - l.getD q 0∧behind.getD q 0 - l.getD q 0≤4):=by
  obtain ⟨hp1,hp2,hp3⟩:=h.p;have hs:=h.short;have ha:=h.ha;have hb:=h.hb;have hab:=h.hab;have hln:=h.len;have hc:yg l=some l:=clone_eq l (by omega) (by omega);have hq:l.getD (((i:Int)+a+b) - 1).toNat 0=p+a+b - 1:=by
    have:=h.run (a+b - 1) (by omega)
    rw [show (((i:Int)+a+b) - 1).toNat=i+(a+b - 1) by omega,this];omega
  have h3:qu l i a b zB 0 l=some l:=xk (fun n (s:Int×List Int)=>qu l i a b n s.1 s.2) (a+b) (fun k=>((k:Int),l)) (0,l) l rfl (zH (by omega)) (fun n k hk=>by
    show qu l i a b (n+1) k l=qu l i a b n ((k+1:Nat):Int) l;have hr:=h.run k hk;rw [qu,qS (decide_eq_true (by omega)),hq,zG (by simp [zk,zi]; omega),zG (by simp [zk]; omega),show ((i:Int)+k).toNat=i+k by omega,set_same (by omega) (by rw [hr]; omega)]
    rfl) (fun n=>by
    show qu l i a b (n+1) ((a+b:Nat):Int) l=_;rw [qu,qg (decide_eq_false (by omega))])
  obtain ⟨f0,hf0⟩:∃ f0,p - b - 1=f0:=⟨_,rfl⟩
  have hfr:=frL_bounds h i (Nat.le_refl _);have hfr2:=hfr.2 _ rfl;have hfirst:=h.get 0 (by omega);rw [Nat.sub_self] at hfr2;have hpl:=fun m hm=>plL_bounds h m hm
  have hfrb:=fun m hm=>frL_bounds h m hm
  rw [hf0] at hfr hfr2 hpl hfrb;have h7:qv l zB ((i:Int) - 1) f0 l=some (frL l i f0 i,fl l.length (rmL l i f0 i)):=
    xk (fun n (s:Int×Int×List Int)=>qv l n s.1 s.2.1 s.2.2) i (fun m=>((i:Int) - 1 - (m:Int),frL l i f0 m,fl l.length (rmL l i f0 m))) (_,_,l) _
      (by
        have e1:(i:Int) - 1 - ((0:Nat):Int)=(i:Int) - 1:=by omega
        have e2:fl l.length (rmL l i f0 0)=l:=by
          conv=>rhs; rw [fl_of l]
          unfold fl;refine List.map_congr_left fun q _=>?_
          unfold rmL;rw [if_neg (by omega)]
        rw [e1,e2]
        rfl) (zH (by omega)) (fun n m hm=>by
      show qv l (n+1) ((i:Int) - 1 - (m:Int)) (frL l i f0 m) (fl l.length (rmL l i f0 m))=qv l n ((i:Int) - 1 - ((m+1:Nat):Int)) (frL l i f0 (m+1)) (fl l.length (rmL l i f0 (m+1)));obtain ⟨g1,g2,g3⟩:=hpl m hm;have g4:=h.get (i - 1 - m) (by omega);have g5:=(hfrb m (by omega)).2 _ rfl;have g6:=h.get (i - m) (by omega);have g7:=(hfrb m (by omega)).1;have et:((i:Int) - 1 - (m:Int)).toNat=i - 1 - m:=by omega
      have hlb:m_lfk (l.getD (i - 1 - m) 0) (frL l i f0 m)=some (plL l i f0 m,frL l i f0 (m+1)):=by
        unfold m_lfk;rw [show (if frL l i f0 m < l.getD (i - 1 - m) 0 then frL l i f0 m else l.getD (i - 1 - m) 0)=plL l i f0 m from rfl,zG (by simp [zk]; omega)]
        rfl
      rw [qv,qS (decide_eq_true (by omega)),et,zG (by simp [zi]; omega),hlb,Option.bind_some,zG (by simp [zi,yw]; omega),zG (by simp [zk]; omega)];rw [fl_set (g:=rmL l i f0 (m+1)) (by omega) (by unfold rmL; rw [if_pos (by omega),show i - 1 - (i - 1 - m)=m by omega]) (fun q hq=>by
        unfold rmL
        by_cases hq2:i - m≤q∧q < i
        · rw [if_pos hq2,if_pos (by omega)]
        · rw [if_neg hq2,if_neg (by omega)]),show (i:Int) - 1 - (m:Int) - 1=(i:Int) - 1 - ((m+1:Nat):Int) by omega]) (fun n=>by
      show qv l (n+1) ((i:Int) - 1 - (i:Int)) _ _=_;rw [qv,qg (decide_eq_false (by omega))])
  have rm_ok:∀ q,q < l.length→10≤rmL l i f0 i q∧rmL l i f0 i q≤28∧(q < i→rmL l i f0 i q≤f0):=fun q hq=>by
    unfold rmL
    split
    · rename_i hc
      have:=hpl (i - 1 - q) (by omega)
      rw [show i - 1 - (i - 1 - q)=q by omega] at this
      have:=h.get q hq
      omega
    · have:=h.get q hq
      refine ⟨by omega,by omega,fun h=>by omega⟩
  have rm_pw:∀ q,q+1 < l.length→rmL l i f0 i q < rmL l i f0 i (q+1):=fun q hq=>by
    unfold rmL
    by_cases h1:q+1 < i
    · rw [if_pos (by omega),if_pos (by omega)]
      have h2:=hpl (i - 1 - q) (by omega);rw [show i - 1 - q=(i - 1 - (q+1))+1 by omega] at h2 ⊢;have h4:frL l i f0 (i - 1 - (q+1)+1)=plL l i f0 (i - 1 - (q+1)) - 1:=rfl;omega
    · rw [if_neg (show ¬ (i - i≤q+1∧q+1 < i) by omega)]
      by_cases h2:q < i
      · rw [if_pos (by omega)]
        have h3:=hpl (i - 1 - q) (by omega);rw [show q+1=i by omega,hp1];omega
      · rw [if_neg (by omega)]
        exact pw_get h.pw q (q+1) (by omega) hq
  have rm_near:∀ q,q < l.length→-4≤rmL l i f0 i q - l.getD q 0∧rmL l i f0 i q - l.getD q 0≤4:=fun q hq=>by
    unfold rmL
    split
    · rename_i hc
      have h1:=hpl (i - 1 - q) (by omega);rw [show i - 1 - (i - 1 - q)=q by omega] at h1;have h2:plL l i f0 (i - 1 - q)≤l.getD q 0:=by
        unfold plL;rw [show i - 1 - (i - 1 - q)=q by omega]
        split <;> omega
      omega
    · omega
  have hrl:=yw l.length (rmL l i f0 i);have h15:zY l i a b zB 0 (fl l.length (rmL l i f0 i))=some (fl l.length (bhF i (a+b) (p - b) (rmL l i f0 i))):=
    xk (fun n (s:Int×List Int)=>zY l i a b n s.1 s.2) (a+b) (fun k=>((k:Int),fl l.length (bhF i k (p - b) (rmL l i f0 i)))) (0,_) _ (by
      congr 1
      unfold fl;refine List.map_congr_left fun q _=>?_
      unfold bhF;rw [if_neg (by omega)]) (zH (by omega)) (fun n k hk=>by
      show zY l i a b (n+1) k (fl l.length (bhF i k (p - b) _))=zY l i a b n ((k+1:Nat):Int) (fl l.length (bhF i (k+1) (p - b) _));rw [zY,qS (decide_eq_true (by omega)),hq,zG (by simp [zk,zi,yw]; omega),zG (by simp [zk]; omega),show ((i:Int)+k).toNat=i+k by omega];rw [fl_set (g:=bhF i (k+1) (p - b) (rmL l i f0 i)) (by omega) (by unfold bhF; rw [if_pos (by omega)]; omega) (fun q hq=>by
        unfold bhF
        by_cases hq2:i≤q∧q < i+k
        · rw [if_pos hq2,if_pos (by omega)]
        · rw [if_neg hq2,if_neg (by omega)])]
      rfl) (fun n=>by
      show zY l i a b (n+1) ((a+b:Nat):Int) _=_;rw [zY,qg (decide_eq_false (by omega))])
  refine ⟨fl l.length (rmL l i f0 i),((fl l.length (rmL l i f0 i)).take (i+a+b)).drop (i+a),(0:Int) - ((a:Int)+b),fl l.length (bhF i (a+b) (p - b) (rmL l i f0 i)),?_,by simp [yw]; omega,pw_to (pw_le (fl_pw rm_pw)) (fl_mem fun q hq=>by have:=rm_ok q hq; omega),hrl,pw_all (fl_pw fun q hq=>?_) (fl_mem fun q hq=>?_),yw _ _,fun q hq=>?_,fun q hq=>?_⟩
  · unfold yt
    rw [zG (by simp [zk,zi]; omega),hc,Option.bind_some,zG (by simp [zk]; omega),zG (by simp [zk]; omega),h3,Option.bind_some,hq,zG (by simp [zk]; omega),zG (by simp [zk]; omega),show p+a+b - 1 - a - 2 * (b:Int)=f0 by omega,h7,Option.bind_some];rw [zG (by simp [zk,yw]; omega),show ((i:Int)+a).toNat=i+a by omega,show ((i:Int)+a+b).toNat=i+a+b by omega,clone_eq _ (by simp [yw]; omega) (by simp [yw]; omega),Option.bind_some,clone_eq _ (by rw [hrl]; omega) (by rw [hrl]; omega),Option.bind_some,zG (by simp [zk]; omega),h15,Option.bind_some,zG (by simp [zk]; omega),decide_eq_true (by omega)]
  · unfold bhF
    have:=rm_ok q (by omega)
    have h5:=rm_ok (q+1) hq
    by_cases h1:i≤q∧q < i+(a+b)
    · rw [if_pos h1]
      by_cases h2:q+1 < i+(a+b)
      · rw [if_pos (by omega)]; omega
      · rw [if_neg (by omega)]
        have h6:=pw_get h.pw q (q+1) (by omega) hq;have h8:=h.run (a+b - 1) (by omega);rw [show i+(a+b - 1)=q by omega] at h8;have h7:rmL l i f0 i (q+1)=l.getD (q+1) 0:=by unfold rmL; rw [if_neg (by omega)]
        omega
    · rw [if_neg h1]
      by_cases h2:i≤q+1∧q+1 < i+(a+b)
      · rw [if_pos h2]
        have:=this.2.2 (by omega)
        omega
      · rw [if_neg h2]
        exact rm_pw q hq
  · unfold bhF
    have:=rm_ok q hq
    split <;> omega
  · rw [fl_get hq]
    exact rm_near q hq
  · rw [fl_get hq]
    unfold bhF
    split
    · rename_i hc
      have h1:=h.run (q - i) (by omega);rw [show i+(q - i)=q by omega] at h1;omega
    · exact rm_near q hq
theorem xf_N (bed:Int) (hb:0≤bed) (l:List Int):AllN (l.map fun k=>((7:Int),(0:Int),(bed,k),(0:Int),(0:Int))):=fun z hz=>by
  obtain ⟨k,_,rfl⟩:=List.mem_map.1 hz;exact ⟨by show (0:Int)≤7; omega,Int.le_refl 0,hb,Int.le_refl 0⟩
theorem rack_N (r:Int):AllN [((3:Int),(0:Int),((0:Int),(0:Int)),(0:Int),r)]:=fun z hz=>by
  simp only [List.mem_singleton] at hz;subst hz;exact ⟨by show (0:Int)≤3; omega,Int.le_refl 0,Int.le_refl 0,Int.le_refl 0⟩
theorem cross_ok2 {l:List Int} {i a b:Nat} {p:Int} (h:Cr l i a b p) (f:Bool):∃ ops,yE l i a b f=some (ops,0)∧ops.length≤8 * l.length+12∧AllN ops:=by
  have hs:=h.short;have hch:=check_eq l (by omega);rw [h.all,if_pos rfl] at hch;have hto:yl l=true:=pw_to (pw_le h.pw) fun x hx=>by have:=h.mem x hx; omega
  have hln:=h.len;have hsz:=cbsizes_eq a b h.ha h.hb h.hab;cases f with
  | true=>
    obtain ⟨room,ac,by_,bh,e,h1,h2,h3,h4,h5,h6,h7⟩:=leftinfront_ok h;have p1:=plan_short l room (fun i hi hr=>by have:=h6 i (by omega); have:=h6 (i+1) (by omega); omega) (fun i hi=>by have:=h6 i hi; omega);have p2:=plan_short bh l (fun i hi hr=>by have:=h7 i (by omega); have:=h7 (i+1) (by omega); omega) (fun i hi=>by have:=h7 i (by omega); omega);refine ⟨(((xr l room++ac.map fun k=>(7,0,(0,k),0,0))++[(3,0,(0,0),0,by_)]++ac.map fun k=>(7,0,(1,k),0,0))++[(3,0,(0,0),0,0)])++xr bh l,?_,by simp only [List.length_append,List.length_map,List.length_singleton]; omega,((((plan_N _ _).append (xf_N 0 (by omega) _)).append (rack_N _)).append (xf_N 1 (by omega) _)).append (rack_N _) |>.append (plan_N _ _)⟩;unfold yE;rw [hch,Option.bind_some,qg (by simp),hsz,Option.bind_some,qg (by simp),zG (by simp [zk]; omega),qg (by simp; omega),qS rfl,e,Option.bind_some,qg (by simp)];rw [shift_eq l room h.all h2 h3,Option.bind_some,qg (by simp),crossT_eq _ _ _ (by dsimp only; omega) (by dsimp only; omega),Option.bind_some,zG (by simp [ze]; omega),crossT_eq _ _ _ (by dsimp only; omega) (by simp; omega),Option.bind_some,zG (by simp [ze]; omega)];rw [shift_eq bh l h4 hto h5.symm,Option.bind_some,qg (by simp),zG (by simp [ze]; omega)]
    rfl
  | false=>
    obtain ⟨room,ac,by_,bh,e,h1,h2,h3,h4,h5,h6,h7⟩:=leftbehind_ok h;have p1:=plan_short l room (fun i hi hr=>by have:=h6 i (by omega); have:=h6 (i+1) (by omega); omega) (fun i hi=>by have:=h6 i hi; omega);have p2:=plan_short bh l (fun i hi hr=>by have:=h7 i (by omega); have:=h7 (i+1) (by omega); omega) (fun i hi=>by have:=h7 i (by omega); omega);refine ⟨(((xr l room++ac.map fun k=>(7,0,(0,k),0,0))++[(3,0,(0,0),0,by_)]++ac.map fun k=>(7,0,(1,k),0,0))++[(3,0,(0,0),0,0)])++xr bh l,?_,by simp only [List.length_append,List.length_map,List.length_singleton]; omega,((((plan_N _ _).append (xf_N 0 (by omega) _)).append (rack_N _)).append (xf_N 1 (by omega) _)).append (rack_N _) |>.append (plan_N _ _)⟩;unfold yE;rw [hch,Option.bind_some,qg (by simp),hsz,Option.bind_some,qg (by simp),zG (by simp [zk]; omega),qg (by simp; omega),qg rfl,e,Option.bind_some,qg (by simp)];rw [shift_eq l room h.all h2 h3,Option.bind_some,qg (by simp),crossT_eq _ _ _ (by dsimp only; omega) (by dsimp only; omega),Option.bind_some,zG (by simp [ze]; omega),crossT_eq _ _ _ (by dsimp only; omega) (by simp; omega),Option.bind_some,zG (by simp [ze]; omega)];rw [shift_eq bh l h4 hto h5.symm,Option.bind_some,qg (by simp),zG (by simp [ze]; omega)]
    rfl
theorem cross_ok {l:List Int} {i a b:Nat} {p:Int} (h:Cr l i a b p) (f:Bool):∃ ops,yE l i a b f=some (ops,0)∧ops.length≤900000∧AllN ops:=by
  obtain ⟨ops,h1,h2,h3⟩:=cross_ok2 h f
  have:=h.short
  exact ⟨ops,h1,by omega,h3⟩
end Go.Proofs.YtihcolehefloeaaDoor

/- Courses, plain: layouts; preparing a row. -/
namespace Go.Proofs.YtihcolehefloeaaDoor
open Go.RowKit
abbrev LoT:=List (Int×Int)×Int×Int×Int×Int×Int×Int
def xp (x:LoT):List Int:=[x.2.1,x.2.2.1,x.2.2.2.1,x.2.2.2.2.1,x.2.2.2.2.2.1,x.2.2.2.2.2.2]
def ndOk (l:List (Int×Int)) (i:Nat):Bool:=decide ((l.getD i (0,0)).1≤1)&&(decide (13≤(l.getD i (0,0)).2)&&(decide ((l.getD i (0,0)).2≤28)&&(decide (i=0) || decide ((l.getD (i - 1) (0,0)).2 < (l.getD i (0,0)).2))))
def ndsOk (l:List (Int×Int)):Bool:=(List.range l.length).all (ndOk l)
def sdOk (x:LoT) (i:Nat):Bool:=decide ((xp x).getD i 0≤2)
def sdsOk (x:LoT):Bool:=(List.range 6).all (sdOk x)
def loErr (x:LoT):Int:=if x.1.length < 1∨16 < x.1.length then 1 else if ndsOk x.1 then (if sdsOk x then 0 else 1) else 1
theorem nd_step (x:LoT):∀ n k,k < x.1.length→x.1.length≤1000→ndOk x.1 k=true→qt x (n+1) k=qt x n (k+1):=fun n k hk hl h=>by
  simp only [ndOk,Bool.and_eq_true,Bool.or_eq_true,decide_eq_true_eq] at h;obtain ⟨h1,h2,h3,h4⟩:=h;have e:qK.zero=((0,0):Int×Int):=rfl;rw [qt,qS (decide_eq_true (by omega)),Int.toNat_natCast,e,zG (by simp [zi]; omega),show ((k:Int) - 1).toNat=k - 1 by omega];rw [decide_eq_false (show ¬ 1 < (x.1.getD k (0,0)).1 by omega),decide_eq_false (show ¬ (x.1.getD k (0,0)).2 < 13 by omega),decide_eq_false (show ¬ 29≤(x.1.getD k (0,0)).2 by omega)]
  by_cases h0:k=0
  · subst h0
    rw [zG (by simp),qg (by simp),zG (by simp [zk])]
  · have h5:(x.1.getD (k - 1) (0,0)).2 < (x.1.getD k (0,0)).2:=h4.resolve_left h0
    rw [zG (by simp [zk,zi]; omega),decide_eq_false (show ¬ (x.1.getD k (0,0)).2≤(x.1.getD (k - 1) (0,0)).2 by omega),qg (by simp),zG (by simp [zk]; omega)]
theorem nd_stop (x:LoT):∀ n k,k < x.1.length→x.1.length≤1000→ndOk x.1 k=false→qt x (n+1) k=some (.inr 1):=fun n k hk hl h=>by
  have e:qK.zero=((0,0):Int×Int):=rfl;rw [qt,qS (decide_eq_true (by omega)),Int.toNat_natCast,e,zG (by simp [zi]; omega),show ((k:Int) - 1).toNat=k - 1 by omega]
  by_cases h1:(x.1.getD k (0,0)).1≤1∧13≤(x.1.getD k (0,0)).2∧(x.1.getD k (0,0)).2≤28
  · rw [decide_eq_false (show ¬ 1 < (x.1.getD k (0,0)).1 by omega),decide_eq_false (show ¬ (x.1.getD k (0,0)).2 < 13 by omega),decide_eq_false (show ¬ 29≤(x.1.getD k (0,0)).2 by omega)]
    simp only [ndOk,Bool.and_eq_false_iff,Bool.or_eq_false_iff,decide_eq_false_iff_not] at h;have h0:k≠0∧¬ (x.1.getD (k - 1) (0,0)).2 < (x.1.getD k (0,0)).2:=by
      rcases h with h | h | h | h
      · omega
      · omega
      · omega
      · exact h
    rw [zG (by simp [zk,zi]; omega),decide_eq_true (show (x.1.getD k (0,0)).2≤(x.1.getD (k - 1) (0,0)).2 by omega),decide_eq_true (show (0:Int) < k by omega),qS (by simp)]
  · have e2:(cond (cond (decide ((1:Int) < (x.1.getD k (0,0)).1)) true (decide ((x.1.getD k (0,0)).2 < (13:Int)))) true (decide ((29:Int)≤(x.1.getD k (0,0)).2)))=true:=by
      simp only [Bool.cond_true_left,Bool.or_eq_true,decide_eq_true_eq];omega
    rw [e2,zG (by simp),qS (by simp)]
theorem cocheck_eq (x:LoT):m_cocheck x=some (loErr x):=by
  unfold m_cocheck loErr
  by_cases h1:x.1.length < 1∨16 < x.1.length
  · rw [if_pos h1,qS (by simp only [Bool.cond_true_left,Bool.or_eq_true,decide_eq_true_eq]; omega)]
  · rw [if_neg h1,qg (by simp only [Bool.cond_true_left,Bool.or_eq_false_iff,decide_eq_false_iff_not]; omega)]
    by_cases h:∀ k,k < x.1.length→ndOk x.1 k=true
    · have e:ndsOk x.1=true:=by rw [ndsOk,List.all_eq_true]; intro i hi; exact h i (by simpa using hi)
      have:=loop0 (fun n i (s:Unit)=>qt x n i) x.1.length (fun _=>()) (.inl ()) (zH (by omega)) (fun n k hk=>nd_step x n k hk (by omega) (h k hk)) (fun n=>by
        show qt x (n+1) x.1.length=some (.inl ());rw [qt,qg (by simp)])
      rw [this,e,if_pos rfl,Option.bind_some];dsimp only [sm];have step:∀ n k,k < 6→sdOk x k=true→qs x (n+1) k=qs x n (k+1):=fun n k hk h=>by
        have h2:(xp x).getD k 0≤2:=of_decide_eq_true h;rw [qs,qS (decide_eq_true (by omega)),zG (by simp [zi]; omega),Int.toNat_natCast,qg (decide_eq_false (by show ¬ 2 < (xp x).getD k 0; omega)),zG (by simp [zk]; omega)]
      by_cases h6:∀ k,k < 6→sdOk x k=true
      · have e6:sdsOk x=true:=by rw [sdsOk,List.all_eq_true]; intro i hi; exact h6 i (by simpa using hi)
        have:=loop0 (fun n i (s:Unit)=>qs x n i) 6 (fun _=>()) (.inl ()) (zH (by omega)) (fun n k hk=>step n k hk (h6 k hk)) (fun n=>by
          show qs x (n+1) ((6:Nat):Int)=some (.inl ());rw [qs,qg (by simp)])
        rw [this,e6]; rfl
      · obtain ⟨j,hj,hb,hg⟩:=first_bad (sdOk x) _ h6
        have e6:sdsOk x=false:=by
          rw [sdsOk,List.all_eq_false];exact ⟨j,by simpa using hj,by simp [hb]⟩
        have hb2:¬ (xp x).getD j 0≤2:=of_decide_eq_false hb
        have:=loop0 (fun n i (s:Unit)=>qs x n i) j (fun _=>()) (.inr 1) (zH (by omega)) (fun n k hk=>step n k (by omega) (hg k hk)) (fun n=>by
          show qs x (n+1) j=some (.inr 1);rw [qs,qS (decide_eq_true (by omega)),zG (by simp [zi]; omega),Int.toNat_natCast,qS (decide_eq_true (by show 2 < (xp x).getD j 0; omega))])
        rw [this,e6]; rfl
    · obtain ⟨j,hj,hb,hg⟩:=first_bad (ndOk x.1) _ h
      have e:ndsOk x.1=false:=by
        rw [ndsOk,List.all_eq_false];exact ⟨j,by simpa using hj,by simp [hb]⟩
      have:=loop0 (fun n i (s:Unit)=>qt x n i) j (fun _=>()) (.inr 1) (zH (by omega)) (fun n k hk=>nd_step x n k (by omega) (by omega) (hg k hk)) (fun n=>nd_stop x n j hj (by omega) hb)
      rw [this,e]; rfl
def fromL (x:LoT):List Int:=x.1.map (·.2)
theorem nds_get {l:List (Int×Int)} (h:ndsOk l=true) (i:Nat) (hi:i < l.length):ndOk l i=true:=List.all_eq_true.1 h i (by simpa using hi)
theorem fromL_get (x:LoT) (i:Nat) (hi:i < x.1.length):(fromL x).getD i 0=(x.1.getD i (0,0)).2:=by
  rw [List.getD_eq_getElem?_getD,List.getD_eq_getElem?_getD,fromL,List.getElem?_map,List.getElem?_eq_getElem hi]
  rfl
theorem from_all {x:LoT} (h:ndsOk x.1=true):qB (fromL x)=true:=by
  rw [qB,List.all_eq_true];intro i hi;have hi2:i < x.1.length:=by simpa [fromL] using hi
  have h1:=nds_get h i hi2;simp only [ndOk,Bool.and_eq_true,Bool.or_eq_true,decide_eq_true_eq] at h1;simp only [okAt,Bool.and_eq_true,Bool.or_eq_true,decide_eq_true_eq,Int.toNat_natCast];rw [fromL_get x i hi2,show ((i:Int) - 1).toNat=i - 1 by omega,fromL_get x (i - 1) (by omega)];omega
def backN (n:Int×Int):List qx:=if n.1=1 then [(7,0,n,0,0)] else []
def xj (l:List (Int×Int)):List qx:=l.flatMap backN
theorem front_eq (l:List (Int×Int)) (hl:l.length≤1000) (h:ndsOk l=true):m_front l=some (xj l,0):=by
  have e:qK.zero=((0,0):Int×Int):=rfl;unfold m_front;have h2:=loop0 (fun n i (s:Unit)=>xB l n i) l.length (fun _=>()) (.inl ()) (zH (by omega)) (fun n k hk=>by
    show xB l (n+1) k=xB l n (k+1);have h1:=nds_get h k hk;simp only [ndOk,Bool.and_eq_true,Bool.or_eq_true,decide_eq_true_eq] at h1;obtain ⟨h1,h2,h3,h4⟩:=h1;rw [xB,qS (decide_eq_true (by omega)),Int.toNat_natCast,e,zG (by simp [zi]; omega),show ((k:Int) - 1).toNat=k - 1 by omega];rw [decide_eq_false (show ¬ 1 < (l.getD k (0,0)).1 by omega),decide_eq_false (show ¬ (l.getD k (0,0)).2 < 1 by omega),decide_eq_false (show ¬ 40 < (l.getD k (0,0)).2 by omega)]
    by_cases h0:k=0
    · subst h0
      rw [zG (by simp),qg (by simp),zG (by simp [zk])]
    · have h5:(l.getD (k - 1) (0,0)).2 < (l.getD k (0,0)).2:=h4.resolve_left h0
      rw [zG (by simp [zk,zi]; omega),decide_eq_false (show ¬ (l.getD k (0,0)).2≤(l.getD (k - 1) (0,0)).2 by omega),qg (by simp),zG (by simp [zk]; omega)]) (fun n=>by
    show xB l (n+1) l.length=some (.inl ());rw [xB,qg (by simp)])
  have hfl:∀ k,(xj (l.take k)).length≤k:=fun k=>by
    induction k with
    | zero=>simp [xj]
    | succ k ih=>
      by_cases hk:k < l.length
      · rw [yF l (0,0) k hk,xj,List.flatMap_append,List.length_append]
        have:(List.flatMap backN [l.getD k (0,0)]).length≤1:=by
          simp only [List.flatMap_cons,List.flatMap_nil,List.append_nil,backN]
          split <;> simp
        have h3:(List.flatMap backN (l.take k)).length≤k:=ih;omega
      · have:l.take (k+1)=l.take k:=by rw [List.take_of_length_le (by omega),List.take_of_length_le (by omega)]
        rw [this];omega
  have h9:=xk (fun n (s:Int×List qx)=>xm l n s.1 s.2) l.length (fun k=>((k:Int),xj (l.take k))) (0,[]) (xj l) (by simp [xj]) (zH (by omega)) (fun n k hk=>by
    show xm l (n+1) k (xj (l.take k))=xm l n ((k+1:Nat):Int) (xj (l.take (k+1)))
    have:=hfl k
    rw [xm,qS (decide_eq_true (by omega)),Int.toNat_natCast,e,zG (by simp [zi]; omega),yF l (0,0) k hk,xj,xj,List.flatMap_append]
    by_cases hb:(l.getD k (0,0)).1=1
    · rw [qS (decide_eq_true hb)]
      have hx:m_xput 0 (List.flatMap backN (l.take k)) [(7,0,l.getD k (0,0),0,0)]=some (List.flatMap backN (l.take k)++[(7,0,l.getD k (0,0),0,0)]):=by
        unfold m_xput;rw [zG (by simp only [ze,List.length_singleton,Bool.and_eq_true,decide_eq_true_eq]; have h3:(List.flatMap backN (l.take k)).length≤k:=this; omega)]
      rw [hx,Option.bind_some,zG (by simp [zk]; omega)];simp only [List.flatMap_cons,List.flatMap_nil,List.append_nil,backN,if_pos hb]
      rfl
    · rw [qg (decide_eq_false hb),zG (by simp [zk]; omega)]
      simp only [List.flatMap_cons,List.flatMap_nil,List.append_nil,backN,if_neg hb]
      rfl) (fun n=>by
    show xm l (n+1) l.length _=_;rw [xm,qg (by simp),List.take_length])
  rw [h2,Option.bind_some];dsimp only [sm];dsimp only at h9;rw [h9]
  rfl
theorem front_len (l:List (Int×Int)):(xj l).length≤l.length:=by
  induction l with
  | nil=>simp [xj]
  | cons n l ih=>
    have h1:(backN n).length≤1:=by unfold backN; split <;> simp
    have h2:(List.flatMap backN l).length≤l.length:=ih;simp only [xj,List.flatMap_cons,List.length_append,List.length_cons];omega
theorem front_N (l:List (Int×Int)):AllN (xj l):=fun z hz=>by
  obtain ⟨n,hn,hz⟩:=List.mem_flatMap.1 hz;unfold backN at hz
  split at hz
  · rename_i h
    simp only [List.mem_singleton] at hz;subst hz;exact ⟨by show (0:Int)≤7; omega,Int.le_refl 0,by show 0≤n.1; omega,Int.le_refl 0⟩
  · cases hz
theorem prep7 (x:LoT) (hl:x.1.length≤1000):qP x zB 0 (List.replicate (x.1.length:Int).toNat 0)=some (fromL x):=
  xk (fun n (s:Int×List Int)=>qP x n s.1 s.2) x.1.length (fun k=>((k:Int),fl x.1.length (fun i=>if i < k then (x.1.getD i (0,0)).2 else 0))) (0,_) (fromL x)
    (by
      congr 1
      rw [Int.toNat_natCast];refine List.ext_getElem? fun k=>?_
      by_cases h:k < x.1.length <;> simp [fl,List.getElem?_replicate,h]) (zH (by omega)) (fun n k hk=>by
    show qP x (n+1) k (fl x.1.length _)=qP x n ((k+1:Nat):Int) (fl x.1.length (fun i=>if i < k+1 then (x.1.getD i (0,0)).2 else 0));have e:qK.zero=((0,0):Int×Int):=rfl;rw [qP,qS (decide_eq_true (by omega)),Int.toNat_natCast,e,zG (by simp [zi]; omega),zG (by simp [zi,yw]; omega),zG (by simp [zk]; omega)];rw [fl_set (g:=fun i=>if i < k+1 then (x.1.getD i (0,0)).2 else 0) hk (by simp) (fun i hi=>by
      by_cases h1:i < k
      · simp only [if_pos h1,if_pos (show i < k+1 by omega)]
      · simp only [if_neg h1,if_neg (show ¬ i < k+1 by omega)])]
    rfl) (fun n=>by
    show qP x (n+1) x.1.length _=_;rw [qP,qg (by simp)]
    congr 1
    refine List.ext_getElem? fun i=>?_
    by_cases h:i < x.1.length
    · simp [fl,fromL,h]
    · simp [fl,fromL,h])
end Go.Proofs.YtihcolehefloeaaDoor

/- Courses, plain: preparing a row, as a whole. -/
namespace Go.Proofs.YtihcolehefloeaaDoor
open Go.RowKit
def xF (l:List qw) (k:Nat):List qx:=if (l.getD k zS).1=8 then ((yE (zX l l.length) (zX l k).length (l.getD k zS).2.2.1 (l.getD k zS).2.2.2.1 (l.getD k zS).2.2.2.2).getD ([],0)).1 else []
def xo (l:List qw):Nat→List qx
  | 0=>[]
  | k+1=>xo l k++xF l k
def purlAt (l:List qw) (k:Nat):List qx:=if yb (l.getD k zS)=1 then [(7,0,(0,nx l k),0,0)] else []
def xV (l:List qw):Nat→List qx
  | 0=>[]
  | k+1=>xV l k++purlAt l k
def qT (l:List qw):List T3:=(List.range l.length).map (xw l)
theorem madeL_get (l:List qw) (k:Nat) (hk:k < l.length):(qT l).getD k []=xw l k:=by
  rw [List.getD_eq_getElem?_getD,qT,List.getElem?_map,List.getElem?_range hk]
  rfl
theorem madeL_len (l:List qw):(qT l).length=l.length:=by simp [qT]
theorem madeAt_get (l:List qw) (k j:Nat) (hj:(j:Int) < make (l.getD k zS)):(xw l k).getD j (0,0)=(yb (l.getD k zS),nx l k+j):=by
  rw [List.getD_eq_getElem?_getD,xw,List.getElem?_map,List.getElem?_range (by omega)]
  rfl
theorem madeAt_len (l:List qw) (k:Nat):(xw l k).length=(make (l.getD k zS)).toNat:=by simp [xw]
structure Row (l:List qw):Prop where
  len:1≤l.length∧l.length≤16
  all:l.all xN=true
  needs:1≤qy need l l.length∧qy need l l.length≤16
  makes:1≤qy make l l.length∧qy make l l.length≤16
theorem row_zero {l:List qw} (h:Row l):rowErr l=0:=by
  have h1:=h.len;unfold rowErr;rw [if_neg (by omega),if_neg (by omega),if_pos h.all,if_pos ⟨h.needs.1,h.needs.2,h.makes.1,h.makes.2⟩]
theorem Row.nx_le {l:List qw} (h:Row l) (k:Nat) (hk:k≤l.length):13≤nx l k∧nx l k≤29:=by
  have h1:=sumTo_mono make xh l k l.length hk (Nat.le_refl _);have h2:=sumTo_le make xh l k hk
  have:=h.makes
  unfold nx;omega
theorem cable_need {s:qw} (h:xN s=true) (h8:s.1=8):need s=s.2.2.1+s.2.2.2.1∧make s=s.2.2.1+s.2.2.2.1:=by
  unfold need make;rw [if_pos h,if_pos h,if_pos h8,if_neg (by omega),if_neg (by omega)];exact ⟨rfl,rfl⟩
theorem row_cross {l:List qw} (h:Row l) {k:Nat} (hk:k < l.length) (h8:(l.getD k zS).1=8):yE (zX l l.length) (zX l k).length (l.getD k zS).2.2.1 (l.getD k zS).2.2.2.1 (l.getD k zS).2.2.2.2=some (xF l k,0)∧(xF l k).length≤8 * (zX l l.length).length+12∧AllN (xF l k):=by
  have hok:=yv h.all k hk;obtain ⟨_,_,_,_,hc⟩:=qp hok;obtain ⟨c1,c2,c3⟩:=hc h8;obtain ⟨n1,n2⟩:=cable_need hok h8;obtain ⟨a,ha⟩:∃ a:Nat,(l.getD k zS).2.2.1=(a:Int):=⟨_,(Int.toNat_of_nonneg (by omega)).symm⟩
  obtain ⟨b,hb⟩:∃ b:Nat,(l.getD k zS).2.2.2.1=(b:Int):=⟨_,(Int.toNat_of_nonneg (by omega)).symm⟩
  have hget:=fun j hj=>held_get l (m:=l.length) hk (by omega) j hj
  have hcr:Cr (zX l l.length) (zX l k).length a b (nx l k):=⟨heldTo_pw _ (Nat.le_refl _),fun x hx=>by
    have h1:=heldTo_mem _ (Nat.le_refl _) x hx;have h2:=h.nx_le l.length (Nat.le_refl _);omega,by
    have:=(hget (a+b - 1) (by omega)).2
    omega,fun j hj=>(hget j (by omega)).1,by omega,by omega,by omega⟩
  obtain ⟨ops,e,h1,h2⟩:=cross_ok2 hcr (l.getD k zS).2.2.2.2;have e2:xF l k=ops:=by
    unfold xF;rw [if_pos h8,ha,hb,e]
    rfl
  rw [e2,ha,hb];exact ⟨e,h1,h2⟩
theorem cableAt_ok {l:List qw} (h:Row l) {k:Nat} (hk:k < l.length):(xF l k).length≤900000∧AllN (xF l k):=by
  by_cases h8:(l.getD k zS).1=8
  · have h1:=(row_cross h hk h8).2
    have h2:=chk_len _ (pw_all (heldTo_pw (l:=l) l.length (Nat.le_refl _)) fun x hx=>by
      have h1:=heldTo_mem _ (Nat.le_refl _) x hx;have h2:=h.nx_le l.length (Nat.le_refl _);omega)
    exact ⟨by omega,h1.2⟩
  · unfold xF
    rw [if_neg h8];exact ⟨by simp,fun z hz=>by cases hz⟩
theorem yI {l:List qw} (h:Row l):∀ k,k≤l.length→(xo l k).length≤900000 * k∧AllN (xo l k)
  | 0,_=>⟨by simp [xo],fun z hz=>by cases hz⟩
  | k+1,hk=>by
    have h1:=yI h k (by omega);have h2:=cableAt_ok h (show k < l.length by omega);rw [xo,List.length_append];exact ⟨by omega,h1.2.append h2.2⟩
theorem purlAt_ok (l:List qw) (k:Nat):(purlAt l k).length≤1∧AllN (purlAt l k):=by
  unfold purlAt
  split
  · exact ⟨by simp,fun z hz=>by
      simp only [List.mem_singleton] at hz;subst hz;exact ⟨by show (0:Int)≤7; omega,Int.le_refl 0,Int.le_refl 0,Int.le_refl 0⟩⟩
  · exact ⟨by simp,fun z hz=>by cases hz⟩
theorem purlTo_ok (l:List qw):∀ k,(xV l k).length≤k∧AllN (xV l k)
  | 0=>⟨by simp [xV],fun z hz=>by cases hz⟩
  | k+1=>by
    have h1:=purlTo_ok l k;have h2:=purlAt_ok l k;rw [xV,List.length_append];exact ⟨by omega,h1.2.append h2.2⟩
theorem prep16 {l:List qw} (h:Row l) (c:Nat) (to:List Int) (o0:List qx) (ho:o0.length≤1000000):qf l (qT l,c,to) (zX l l.length) zB 0 o0=some (.inl (o0++xo l l.length)):=
  xk (fun n (s:Int×List qx)=>qf l (qT l,c,to) (zX l l.length) n s.1 s.2) l.length (fun k=>((k:Int),o0++xo l k)) (0,o0) _ (by simp [xo]) (zH (by have:=h.len; omega)) (fun n k hk=>by
    show qf l (qT l,c,to) (zX l l.length) (n+1) k (o0++xo l k)=qf l (qT l,c,to) (zX l l.length) n ((k+1:Nat):Int) (o0++xo l (k+1));have hl:=h.len;have hc:=(yI h k (by omega)).1;have hc2:=(cableAt_ok h hk).1;have hok:=yv h.all k hk;have hhl:(zX l l.length).length≤1000:=by
      have:=chk_len (zX l l.length) (pw_all (heldTo_pw _ (Nat.le_refl _)) fun x hx=>by
        have h1:=heldTo_mem _ (Nat.le_refl _) x hx;have h2:=h.nx_le l.length (Nat.le_refl _);omega)
      omega
    rw [qf,qS (decide_eq_true (by omega)),zG (by simp [zi]; omega),Int.toNat_natCast,xo]
    by_cases h8:(l.getD k zS).1=8
    · obtain ⟨e,_,_⟩:=row_cross h hk h8
      obtain ⟨_,_,_,_,hcb⟩:=qp hok;obtain ⟨n1,n2⟩:=cable_need hok h8;have hcb':=hcb h8;have hg:=held_get l (m:=l.length) hk (by omega) 0 (by omega);have e0:(xw l k).getD (0:Int).toNat qK.zero=(yb (l.getD k zS),nx l k+((0:Nat):Int)):=madeAt_get l k 0 (by omega);rw [qg (by rw [decide_eq_true h8]; rfl),zG (by
        rw [madeL_get l k hk];simp only [zi,madeL_len,madeAt_len,Bool.and_eq_true,decide_eq_true_eq];omega)]
      rw [show (qT l,c,to).1.getD k []=xw l k from madeL_get l k hk,e0];dsimp only;rw [← hg.1,index_eq _ _ hg.2 hhl (heldTo_pw _ (Nat.le_refl _)),Option.bind_some,Nat.add_zero,e,Option.bind_some,qg (by simp),zG (by simp only [ze,List.length_append,Bool.and_eq_true,decide_eq_true_eq]; omega),zG (by simp [zk]; omega)];rw [List.append_assoc]
      rfl
    · have e:xF l k=[]:=by unfold xF; rw [if_neg h8]
      rw [qS (by rw [decide_eq_false h8]; rfl),zG (by simp [zk]; omega),e,List.append_nil]
      rfl) (fun n=>by
    show qf l (qT l,c,to) (zX l l.length) (n+1) l.length _=_;rw [qf,qg (by simp)])
theorem prep25 {l:List qw} (h:Row l) (c:Nat) (to:List Int) (o0:List qx) (ho:o0.length≤20000000):qe l (qT l,c,to) zB 0 o0=some (o0++xV l l.length):=
  xk (fun n (s:Int×List qx)=>qe l (qT l,c,to) n s.1 s.2) l.length (fun k=>((k:Int),o0++xV l k)) (0,o0) _ (by simp [xV]) (zH (by have:=h.len; omega)) (fun n k hk=>by
    show qe l (qT l,c,to) (n+1) k (o0++xV l k)=qe l (qT l,c,to) n ((k+1:Nat):Int) (o0++xV l (k+1));have hl:=h.len;have hc:=(purlTo_ok l k).1;have hok:=yv h.all k hk;have hm:=make_pos hok;have e0:(xw l k).getD (0:Int).toNat qK.zero=(yb (l.getD k zS),nx l k+((0:Nat):Int)):=madeAt_get l k 0 (by omega);rw [qe,qS (decide_eq_true (by omega)),zG (by simp [zi]; omega),Int.toNat_natCast,stbed_eq,Option.bind_some,xV,purlAt]
    by_cases hb:yb (l.getD k zS)=1
    · rw [qS (decide_eq_true hb),if_pos hb,show (qT l,c,to).1.getD k []=xw l k from madeL_get l k hk,e0]
      rw [zG (by
        simp only [zi,madeL_len,madeAt_len,ze,List.length_append,List.length_singleton,Bool.and_eq_true,decide_eq_true_eq];omega),zG (by simp [zk]; omega)]
      rw [List.append_assoc]
      simp
    · rw [qg (decide_eq_false hb),if_neg hb,zG (by simp [zk]; omega),List.append_nil]
      rfl) (fun n=>by
    show qe l (qT l,c,to) (n+1) l.length _=_;rw [qe,qg (by simp)])
def yd (x:LoT) (l:List qw):List qx:=(xj x.1++xr (fromL x) (xW l l.length))++xo l l.length++xV l l.length
structure Lo (x:LoT):Prop where
  len:1≤x.1.length∧x.1.length≤16
  nds:ndsOk x.1=true
  sds:sdsOk x=true
theorem lo_zero {x:LoT} (h:Lo x):loErr x=0:=by
  have h1:=h.len;unfold loErr;rw [if_neg (by omega),if_pos h.nds,if_pos h.sds]
theorem toTo_need {l:List qw}:∀ k,k≤l.length→((xW l k).length:Int)=qy need l k
  | 0,_=>by simp [xW,qy]
  | k+1,hk=>by
    have:=toTo_need (l:=l) k (by omega)
    have:=need_le (l.getD k zS)
    rw [xW,List.length_append,yG need l k (by omega)];simp only [toAt1,List.length_map,List.length_range];omega
theorem to_ok {l:List qw} (h:Row l):yl (xW l l.length)=true:=pw_to (toTo_pw h.all _ (Nat.le_refl _)) fun x hx=>by
  have h1:=toTo_mem h.all _ (Nat.le_refl _) x hx;have h2:=h.nx_le l.length (Nat.le_refl _);omega
theorem from_len (x:LoT):(fromL x).length=x.1.length:=by simp [fromL]
theorem plan_ok {x:LoT} {l:List qw} (hx:Lo x) (h:Row l) (hn:qy need l l.length=x.1.length):(xr (fromL x) (xW l l.length)).length≤400000:=
  plan_len _ _ (from_all hx.nds) (to_ok h) (by have:=toTo_need (l:=l) _ (Nat.le_refl _); rw [from_len]; omega)
theorem prep_len {x:LoT} {l:List qw} (hx:Lo x) (h:Row l) (hn:qy need l l.length=x.1.length):(yd x l).length≤15000000:=by
  have h1:=plan_ok hx h hn;have h2:=(yI h _ (Nat.le_refl _)).1;have h3:=(purlTo_ok l l.length).1;have h4:=front_len x.1;have h5:=h.len;have h6:=hx.len;simp only [yd,List.length_append];omega
theorem prep_N {x:LoT} {l:List qw} (h:Row l):AllN (yd x l):=(((front_N _).append (plan_N _ _)).append (yI h _ (Nat.le_refl _)).2).append (purlTo_ok l _).2
theorem prepare_ok {x:LoT} {l:List qw} (hx:Lo x) (h:Row l) (hn:qy need l l.length=x.1.length):m_prepare x l=some (yd x l,qT l,l.length,0):=by
  have h1:=plan_ok hx h hn;have h2:=(yI h _ (Nat.le_refl _)).1;have h4:=front_len x.1;have h5:=h.len;have h6:=hx.len;have hlen:(xW l l.length).length=(fromL x).length:=by have:=toTo_need (l:=l) _ (Nat.le_refl _); rw [from_len]; omega
  unfold m_prepare;rw [cocheck_eq,lo_zero hx,Option.bind_some,qg (by simp),chrow_eq,row_zero h,Option.bind_some,qg (by simp),chneeds_eq l (by omega),Option.bind_some,qg (by rw [decide_eq_true hn]; rfl)];rw [goals_eq l h5.2,Option.bind_some,front_eq x.1 (by omega) hx.nds,Option.bind_some,qg (by simp),zG (by simp; omega),prep7 x (by omega),Option.bind_some];show Option.bind (yD (fromL x) (xW l l.length)) _=_;rw [shift_eq _ _ (from_all hx.nds) (to_ok h) hlen,Option.bind_some,qg (by simp),zG (by simp only [ze,Bool.and_eq_true,decide_eq_true_eq]; omega)];show Option.bind (some (Lib.compact (xW l l.length))) _=_;rw [Option.bind_some,compact_to h.all _ (Nat.le_refl _)];show Option.bind (qf l (qT l,l.length,xW l l.length) (zX l l.length) zB 0 (xj x.1++xr (fromL x) (xW l l.length))) _=_;rw [prep16 h _ _ _ (by rw [List.length_append]; omega),Option.bind_some];dsimp only [sm];show Option.bind (qe l (qT l,l.length,xW l l.length) zB 0 _) _=_;rw [prep25 h _ _ _ (by simp only [List.length_append]; omega)]
  rfl
end Go.Proofs.YtihcolehefloeaaDoor

/- The charts of layer 13, plain: rows of plain data are valid. -/
namespace Go.Proofs.YtihcolehefloeaaDoor
open Go.RowKit
def pickE (a0:List Int) (v2_0:Int) (v2_3:List Int) (o3:Int) (o5:Bool):Option (Int×Int×Int×Bool):=
    cond o5 (some ((2:Int),(0:Int),(0:Int),false)) (cond (decide ((Int.tmod o3 (16:Int))=(3:Int))) (gd ((zk ((v2_3.length:Int)+((a0.length:Int) - v2_0)))) <|
    cond (decide (((v2_3.length:Int)+((a0.length:Int) - v2_0)) < (8:Int))) (some ((3:Int),(0:Int),(0:Int),false)) (some ((1:Int),(0:Int),(0:Int),false))) (Option.bind (cond (decide ((Int.tmod o3 (16:Int))=(4:Int))) (some (decide ((Int.tmod o3 (16:Int))=(4:Int)))) (some (decide ((Int.tmod o3 (16:Int))=(5:Int))))) fun o8=>
    cond o8 (gd ((!(decide ((1:Int) < ((a0.length:Int) - v2_0))) || (zi v2_0 a0.length))&&(!(decide ((1:Int) < ((a0.length:Int) - v2_0))) || (zk (v2_0+(1:Int))))&&(!(decide ((1:Int) < ((a0.length:Int) - v2_0))) || (zi (v2_0+(1:Int)) a0.length))&&(!(decide ((1:Int) < ((a0.length:Int) - v2_0))) || (zk ((a0.getD v2_0.toNat 0)+(a0.getD (v2_0+(1:Int)).toNat 0))))) <|
    cond (cond (decide ((1:Int) < ((a0.length:Int) - v2_0))) (decide (((a0.getD v2_0.toNat 0)+(a0.getD (v2_0+(1:Int)).toNat 0))≤(4:Int))) false) (some ((IntKind.wrap .u8 ((4:Int)+(IntKind.wrap .u8 ((Int.tmod o3 (16:Int)) - (4:Int))))),(0:Int),(0:Int),false)) (some ((1:Int),(0:Int),(0:Int),false))) (Option.bind (cond (decide ((Int.tmod o3 (16:Int))=(6:Int))) (some (decide ((Int.tmod o3 (16:Int))=(6:Int)))) (some (decide ((Int.tmod o3 (16:Int))=(7:Int))))) fun o10=>
    cond o10 (gd ((zi v2_0 a0.length)) <|
    cond (decide ((a0.getD v2_0.toNat 0) < (3:Int))) (some ((6:Int),(0:Int),(0:Int),false)) (some ((1:Int),(0:Int),(0:Int),false))) (Option.bind (cond (decide ((Int.tmod o3 (16:Int))=(8:Int))) (some (decide ((Int.tmod o3 (16:Int))=(8:Int)))) (some (decide ((Int.tmod o3 (16:Int))=(9:Int))))) fun o12=>
    cond o12 (some ((7:Int),(0:Int),(0:Int),false)) (Option.bind (cond (decide ((Int.tmod o3 (16:Int))=(10:Int))) (some (decide ((Int.tmod o3 (16:Int))=(10:Int)))) (cond (decide ((Int.tmod o3 (16:Int))=(11:Int))) (some (decide ((Int.tmod o3 (16:Int))=(11:Int)))) (cond (decide ((Int.tmod o3 (16:Int))=(12:Int))) (some (decide ((Int.tmod o3 (16:Int))=(12:Int)))) (cond (decide ((Int.tmod o3 (16:Int))=(13:Int))) (some (decide ((Int.tmod o3 (16:Int))=(13:Int)))) (some (decide ((Int.tmod o3 (16:Int))=(14:Int)))))))) fun o13=>
    cond o13 (Option.bind (m_kof ((7:Int),((0:Int),((IntKind.wrap .u8 (o3 - (IntKind.wrap .u8 ((IntKind.wrap .u8 (Int.tdiv o3 (16:Int))) * (16:Int))))),(decide ((128:Int)≤o3)))))) fun r14=>
    gd ((zk (r14.2.2.1+r14.2.2.2.1))) <|
    cond (decide ((r14.2.2.1+r14.2.2.2.1)≤((a0.length:Int) - v2_0))) (some (r14.1,r14.2.2.1,r14.2.2.2.1,r14.2.2.2.2)) (some ((1:Int),(0:Int),(0:Int),false))) (some ((1:Int),(0:Int),(0:Int),false)))))))
theorem row13_step (a0 a1:List Int) (n:Nat) (v2_0 v2_1:Int) (v2_2:List qw) (v2_3:List Int):xu a0 a1 (n+1) v2_0 v2_1 v2_2 v2_3 =
    cond (decide (v2_0 < (a0.length:Int))) (Option.bind (cond (decide (v2_1 < (a1.length:Int))) (gd ((zi v2_1 a1.length))<|some (a1.getD v2_1.toNat 0)) (some (0:Int))) fun o3=>
    gd ((zk ((a0.length:Int) - v2_0))) <|
    Option.bind (cond (decide ((Int.tmod o3 (16:Int))=(1:Int))) (some (decide ((Int.tmod o3 (16:Int))=(1:Int)))) (some (decide ((Int.tmod o3 (16:Int))=(2:Int))))) fun o5=>
    Option.bind (pickE a0 v2_0 v2_3 o3 o5) fun o6=>
    Option.bind (m_rfneeds (o6.1,((IntKind.wrap .u8 ((1:Int)+(Int.tmod (IntKind.wrap .u8 (Int.tdiv o3 (16:Int))) (3:Int)))),o6.2))) fun r16=>
    gd ((zk (v2_0+r16))&&(decide (0≤v2_0))&&(decide (v2_0≤(v2_0+r16)))&&(decide ((v2_0+r16)≤(a0.length:Int)))) <|
    Option.bind (m_rfloads (o6.1,((IntKind.wrap .u8 ((1:Int)+(Int.tmod (IntKind.wrap .u8 (Int.tdiv o3 (16:Int))) (3:Int)))),o6.2)) ((a0.take (v2_0+r16).toNat).drop v2_0.toNat)) fun r17=>
    gd ((ze 32 (v2_2.length+[(o6.1,((IntKind.wrap .u8 ((1:Int)+(Int.tmod (IntKind.wrap .u8 (Int.tdiv o3 (16:Int))) (3:Int)))),o6.2))].length))) <|
    gd ((ze 8 (v2_3.length+r17.1.length))) <|
    gd ((zk (v2_0+r16))) <|
    gd ((zk (v2_1+(1:Int)))) <|
    xu a0 a1 n (v2_0+r16) (v2_1+(1:Int)) (v2_2++[(o6.1,((IntKind.wrap .u8 ((1:Int)+(Int.tmod (IntKind.wrap .u8 (Int.tdiv o3 (16:Int))) (3:Int)))),o6.2))]) (v2_3++r17.1)) (some (v2_2,v2_3)):=rfl
theorem rfvalid_eq {s:qw} (h:xN s=true):m_rfvalid s=some 1:=by
  obtain ⟨h1,h2,h3,h4,h5⟩:=qp h;obtain ⟨k,y,a,b,f⟩:=s;dsimp only at h1 h2 h3 h4 h5;unfold m_rfvalid;dsimp only;rw [qg (by simp; omega)]
  by_cases h8:k=8
  · subst h8
    obtain ⟨c1,c2,c3⟩:=h5 rfl;rw [qS (by simp)]
    rcases (show (a=1∧b=1)∨(a=1∧b=2)∨(a=1∧b=3)∨(a=2∧b=1)∨(a=2∧b=2)∨(a=3∧b=1) by omega) with ⟨rfl,rfl⟩ | ⟨rfl,rfl⟩ | ⟨rfl,rfl⟩ | ⟨rfl,rfl⟩ | ⟨rfl,rfl⟩ | ⟨rfl,rfl⟩ <;> kernel_rfl
  · rw [qg (decide_eq_false h8)]
    have h6:a=0∧b=0∧f=false:=by
      simp only [xN,Bool.and_eq_true,decide_eq_true_eq] at h
      have:=h.2.2.2.2
      rw [if_neg h8] at this;simp only [Bool.and_eq_true,decide_eq_true_eq,Bool.not_eq_true'] at this;exact this
    obtain ⟨rfl,rfl,rfl⟩:=h6;rw [qg (by simp)]
theorem rfneeds_eq {s:qw} (h:xN s=true):m_rfneeds s=some (need s):=by
  obtain ⟨h1,h2,h3,h4,h5⟩:=qp h;unfold m_rfneeds need;rw [rfvalid_eq h,Option.bind_some,if_pos h]
  by_cases k3:s.1=3
  · rw [qS (by simp [k3]),if_pos k3]
  · rw [qg (by simp [k3]),if_neg k3]
    by_cases k8:s.1=8
    · have:=h5 k8
      rw [qS (decide_eq_true k8),if_neg (by omega),if_pos k8,zG (by simp [zk]; omega)]
    · rw [qg (decide_eq_false k8)]
      by_cases k4:s.1=4∨s.1=5
      · rw [qS (by simpa using k4),if_pos k4]
      · rw [qg (by simpa using k4),if_neg k4,if_neg k8]
theorem rfmakes_eq {s:qw} (h:xN s=true):m_rfmakes s=some (make s):=by
  obtain ⟨h1,h2,h3,h4,h5⟩:=qp h;unfold m_rfmakes make;rw [rfvalid_eq h,Option.bind_some,if_pos h,qg (by simp)]
  by_cases k8:s.1=8
  · have:=h5 k8
    rw [qS (decide_eq_true k8),if_pos k8,zG (by simp [zk]; omega)]
  · rw [qg (decide_eq_false k8),if_neg k8]
def Lds (l:List Int):Prop:=∀ x∈l,1≤x∧x≤3
theorem lds_get {l:List Int} (h:Lds l) (i:Nat) (hi:i < l.length):1≤l.getD i 0∧l.getD i 0≤3:=h _ (mem_get i hi)
def ldOf (s:qw) (sl:List Int):List Int:=if s.1=4∨s.1=5 then [1] else if s.1=6 then [sl.getD 0 0+1] else if s.1=7 then [sl.getD 0 0] else List.replicate (make s).toNat 1
theorem rfloads_ok {s:qw} (h:xN s=true) {sl:List Int} (hl:(sl.length:Int)=need s) (hd:Lds sl) (h45:s.1=4∨s.1=5→sl.getD 0 0+sl.getD 1 0≤4) (h6:s.1=6→sl.getD 0 0 < 3) :
    m_rfloads s sl=some (ldOf s sl,0)∧((ldOf s sl).length:Int)=make s∧Lds (ldOf s sl):=by
  obtain ⟨k1,k2,k3,k4,k5⟩:=qp h;have hn:=need_le s;unfold m_rfloads;have h4:=loop0 (fun n i (q:Unit)=>qW sl n i) sl.length (fun _=>()) (.inl ()) (zH (by omega)) (fun n k hk=>by
    show qW sl (n+1) k=qW sl n (k+1)
    have:=lds_get hd k hk
    rw [qW,qS (decide_eq_true (by omega)),Int.toNat_natCast,zG (by simp [zi, -List.getD_eq_getElem?_getD]; omega),qg (by simp [-List.getD_eq_getElem?_getD]; omega),zG (by simp [zk]; omega)]) (fun n=>by
    show qW sl (n+1) sl.length=some (.inl ());rw [qW,qg (by simp)])
  rw [rfvalid_eq h,Option.bind_some,qg (by simp),rfneeds_eq h,Option.bind_some,qg (by simp [hl]),h4,Option.bind_some];dsimp only [sm];have e0:(0:Int).toNat=0:=rfl;have e1:(1:Int).toNat=1:=rfl;rw [e0,e1]
  by_cases q45:s.1=4∨s.1=5
  · have hn2:need s=2:=by unfold need; rw [if_pos h,if_neg (by omega),if_pos q45]
    have hm1:make s=1:=by unfold make; rw [if_pos h,if_neg (by omega)]
    have g0:=lds_get hd 0 (by omega);have g1:=lds_get hd 1 (by omega);have g2:=h45 q45;rw [show ldOf s sl=[1] by unfold ldOf; rw [if_pos q45]];refine ⟨?_,by rw [hm1]; rfl,fun x hx=>by simp only [List.mem_singleton] at hx; omega⟩;rw [qS (by simpa using q45),zG (by simp [zi,zk, -List.getD_eq_getElem?_getD]; omega),qg (decide_eq_false (by omega))]
  · rw [qg (by simpa using q45)]
    by_cases q6:s.1=6
    · have hn1:need s=1:=by unfold need; rw [if_pos h,if_neg (by omega),if_neg q45,if_neg (by omega)]
      have hm1:make s=1:=by unfold make; rw [if_pos h,if_neg (by omega)]
      have g0:=lds_get hd 0 (by omega);have g2:=h6 q6;rw [show ldOf s sl=[sl.getD 0 0+1] by unfold ldOf; rw [if_neg q45,if_pos q6]];refine ⟨?_,by rw [hm1]; rfl,fun x hx=>by simp only [List.mem_singleton] at hx; omega⟩;rw [qS (decide_eq_true q6),zG (by simp [zi]; omega),qg (decide_eq_false (by omega)),zG (by simp [zi,zk, -List.getD_eq_getElem?_getD]; omega)]
    · rw [qg (decide_eq_false q6)]
      by_cases q7:s.1=7
      · have hn1:need s=1:=by unfold need; rw [if_pos h,if_neg (by omega),if_neg q45,if_neg (by omega)]
        have hm1:make s=1:=by unfold make; rw [if_pos h,if_neg (by omega)]
        have g0:=lds_get hd 0 (by omega);rw [show ldOf s sl=[sl.getD 0 0] by unfold ldOf; rw [if_neg q45,if_neg q6,if_pos q7]];refine ⟨?_,by rw [hm1]; rfl,fun x hx=>by simp only [List.mem_singleton] at hx; omega⟩;rw [qS (decide_eq_true q7),zG (by simp [zi]; omega)]
      · have hm:=xh s
        have h12:=xk (fun n (q:Int×List Int)=>qO s n q.1 q.2) (make s).toNat (fun k=>((k:Int),List.replicate k (1:Int))) (0,[]) (List.replicate (make s).toNat 1) rfl (zH (by omega)) (fun n k hk=>by
          show qO s (n+1) k (List.replicate k 1)=qO s n ((k+1:Nat):Int) (List.replicate (k+1) 1);rw [qO,rfmakes_eq h,Option.bind_some,qS (decide_eq_true (by omega)),zG (by simp [ze]; omega),zG (by simp [zk]; omega),List.replicate_succ']
          rfl) (fun n=>by
          show qO s (n+1) ((make s).toNat:Int) _=_;rw [qO,rfmakes_eq h,Option.bind_some,qg (decide_eq_false (by omega))])
        rw [show ldOf s sl=List.replicate (make s).toNat 1 by unfold ldOf; rw [if_neg q45,if_neg q6,if_neg q7]];refine ⟨?_,by simp; omega,fun x hx=>by rw [List.eq_of_mem_replicate hx]; omega⟩;dsimp only at h12;rw [qg (decide_eq_false q7),h12]
        rfl
end Go.Proofs.YtihcolehefloeaaDoor

/- Courses, plain: the work of a yarn; which yarns there are; slots side by side. -/
namespace Go.Proofs.YtihcolehefloeaaDoor
open Go.RowKit
theorem wrap8 (x:Int) (h:0≤x∧x≤255):IntKind.wrap .u8 x=x:=by
  simp only [IntKind.wrap,IntKind.bits,IntKind.signed,Bool.false_and,Bool.false_eq_true,if_false];omega
theorem coput_eq (d y:Int) (ops:List qx) (k e:Int) (n:Int×Int) (h:ops.length≤100000000):m_coput d y ops k e n=some (ops++[(k,e,n,y,0)]):=by
  unfold m_coput;rw [zG (by simp only [ze,List.length_singleton,Bool.and_eq_true,decide_eq_true_eq]; omega)]
def yH (y d:Int):qx:=(6,d,(if d=1 then (0,40) else (1,1)),y,0)
theorem copast_eq (d y:Int) (ops:List qx) (e:Int) (h:ops.length≤100000000):m_copast d y ops e=some (ops++[yH y e]):=by
  unfold m_copast yH
  by_cases h1:e=1
  · rw [qS (decide_eq_true h1),Option.bind_some,coput_eq _ _ _ _ _ _ h,if_pos h1]; rfl
  · rw [qg (decide_eq_false h1),Option.bind_some,coput_eq _ _ _ _ _ _ h,if_neg h1]; rfl
def dirL {α:Type} (d:Int) (l:List α):List α:=if d=0 then l.reverse else l
theorem dirL_len {α:Type} (d:Int) (l:List α):(dirL d l).length=l.length:=by unfold dirL; split <;> simp
def dirI (d:Int) (n k:Nat):Nat:=if d=0 then n - 1 - k else k
theorem dirL_get {α:Type} (d:Int) (l:List α) (z:α) (k:Nat) (hk:k < l.length):(dirL d l).getD k z=l.getD (dirI d l.length k) z:=by
  unfold dirL dirI
  split
  · rw [List.getD_eq_getElem?_getD,List.getD_eq_getElem?_getD,List.getElem?_reverse hk]
  · rfl
theorem dirI_lt {d:Int} {n k:Nat} (hk:k < n):dirI d n k < n:=by unfold dirI; split <;> omega
def knitOps (d y:Int) (ns:List (Int×Int)):List qx:=(dirL d ns).map fun n=>(4,d,n,y,0)
def tuckOps (d y:Int) (ns:List (Int×Int)):List qx:=ns.map fun n=>(5,d,n,y,0)
theorem dir_idx (d:Int) (n k:Nat) (hk:k < n) (hn:n≤1000) {α:Type} (f:Int→Option α):(Option.bind (cond (decide (d=(0:Int))) (gd ((zk ((n:Int) - (1:Int)))&&(zk (((n:Int) - (1:Int)) - (k:Int))))<|some (((n:Int) - (1:Int)) - (k:Int))) (some (k:Int))) f)=f (dirI d n k:Nat):=by
  unfold dirI
  by_cases h0:d=0
  · rw [qS (decide_eq_true h0),zG (by simp [zk]; omega),Option.bind_some,if_pos h0]
    congr 1
    omega
  · rw [qg (decide_eq_false h0),Option.bind_some,if_neg h0]
theorem coknit_eq (d y:Int) (ops:List qx) (ns:List (Int×Int)) (h1:ns.length≤1000) (h2:ops.length≤90000000):yA d y ops ns=some (ops++knitOps d y ns):=by
  unfold yA
  have:=xk (fun n (s:Int×List qx)=>xf d y ns n s.1 s.2) ns.length (fun k=>((k:Int),ops++((dirL d ns).take k).map fun n=>(4,d,n,y,0))) (0,ops) (ops++knitOps d y ns) (by simp) (zH (by omega)) (fun n k hk=>by
    show xf d y ns (n+1) k (ops++((dirL d ns).take k).map fun n=>(4,d,n,y,0))=xf d y ns n ((k+1:Nat):Int) (ops++((dirL d ns).take (k+1)).map fun n=>(4,d,n,y,0));have hd:=dirI_lt (d:=d) hk;rw [xf,qS (decide_eq_true (by omega)),dir_idx d ns.length k hk h1,zG (by simp [zi]; omega),Int.toNat_natCast,coput_eq _ _ _ _ _ _ (by simp; omega),Option.bind_some,zG (by simp [zk]; omega),yF (dirL d ns) (0,0) k (by rw [dirL_len]; exact hk),dirL_get d ns (0,0) k hk];simp only [List.map_append,List.append_assoc]
    rfl) (fun n=>by
    show xf d y ns (n+1) ns.length _=_;rw [xf,qg (by simp),← dirL_len d ns,List.take_length]
    rfl)
  dsimp only at this;rw [this]
  rfl
theorem cotuck_eq (d y:Int) (ops:List qx) (ns:List (Int×Int)) (h1:ns.length≤1000) (h2:ops.length≤90000000):m_cotuck d y ops ns=some (ops++tuckOps d y ns):=by
  unfold m_cotuck
  have:=xk (fun n (s:Int×List qx)=>xc d y ns n s.1 s.2) ns.length (fun k=>((k:Int),ops++(ns.take k).map fun n=>(5,d,n,y,0))) (0,ops) (ops++tuckOps d y ns) (by simp) (zH (by omega)) (fun n k hk=>by
    show xc d y ns (n+1) k (ops++(ns.take k).map fun n=>(5,d,n,y,0))=xc d y ns n ((k+1:Nat):Int) (ops++(ns.take (k+1)).map fun n=>(5,d,n,y,0));rw [xc,qS (decide_eq_true (by omega)),zG (by simp [zi]; omega),Int.toNat_natCast,coput_eq _ _ _ _ _ _ (by simp; omega),Option.bind_some,zG (by simp [zk]; omega),yF ns (0,0) k hk];simp only [List.map_append,List.append_assoc]
    rfl) (fun n=>by
    show xc d y ns (n+1) ns.length _=_;rw [xc,qg (by simp),List.take_length]
    rfl)
  dsimp only at this;rw [this]
  rfl
def workOf (d y:Int) (s:qw) (ns:List (Int×Int)):List qx:=if s.1=7 then [] else if s.1=6 then tuckOps d y ns else knitOps d y ns
def workAt (d y:Int) (l:List qw) (k:Nat):List qx:=if (l.getD (dirI d l.length k) zS).2.1=y then workOf d y (l.getD (dirI d l.length k) zS) (xw l (dirI d l.length k)) else []
def xn (d y:Int) (l:List qw):Nat→List qx
  | 0=>[]
  | k+1=>xn d y l k++workAt d y l k
theorem knitOps_len (d y:Int) (ns:List (Int×Int)):(knitOps d y ns).length=ns.length:=by simp [knitOps,dirL_len]
theorem workAt_len (d y:Int) (l:List qw) (k:Nat):(workAt d y l k).length≤4:=by
  have h1:=xh (l.getD (dirI d l.length k) zS);have h2:=madeAt_len l (dirI d l.length k);unfold workAt
  split
  · unfold workOf
    split
    · simp
    · split
      · simp only [tuckOps,List.length_map]; omega
      · rw [knitOps_len]; omega
  · simp
theorem workTo_len (d y:Int) (l:List qw):∀ k,(xn d y l k).length≤4 * k
  | 0=>by simp [xn]
  | k+1=>by
    have h1:=workTo_len d y l k;have h2:=workAt_len d y l k;rw [xn,List.length_append];omega
theorem cowork_eq (d y:Int) (ops:List qx) {l:List qw} (h:Row l) (h2:ops.length≤80000000):m_cowork d y ops l (qT l)=some (ops++xn d y l l.length):=by
  have hl:=h.len;unfold m_cowork
  have:=xk (fun n (s:Int×List qx)=>zW d y l (qT l) n s.1 s.2) l.length (fun k=>((k:Int),ops++xn d y l k)) (0,ops) (ops++xn d y l l.length) (by simp [xn]) (zH (by omega)) (fun n k hk=>by
    show zW d y l (qT l) (n+1) k (ops++xn d y l k)=zW d y l (qT l) n ((k+1:Nat):Int) (ops++xn d y l (k+1));obtain ⟨i,hi⟩:∃ i,dirI d l.length k=i:=⟨_,rfl⟩
    have hd:i < l.length:=by rw [← hi]; exact dirI_lt hk
    have hw:=workTo_len d y l k;have hok:=yv h.all i hd;obtain ⟨k1,k2,_,_,_⟩:=qp hok;have hml:=madeAt_len l i;have hmk:=xh (l.getD i zS);have hB:zi ((k:Nat)+1:Int) 1=zi ((k:Nat)+1:Int) 1:=rfl;have g1:zi (i:Int) l.length=true:=by simp [zi]; omega
    have g2:zi (i:Int) (qT l).length=true:=by rw [madeL_len]; exact g1
    have hmg:=madeL_get l i hd;have hkn:=coknit_eq d y (ops++xn d y l k) (xw l i) (by omega) (by rw [List.length_append]; omega);have htu:=cotuck_eq d y (ops++xn d y l k) (xw l i) (by omega) (by rw [List.length_append]; omega);have hn:zk ((k:Int)+1)=true:=by simp [zk]; omega
    rw [zW,qS (decide_eq_true (by omega)),dir_idx d l.length k hk (by omega),hi,zG g1,Int.toNat_natCast,xn,workAt,hi,hmg];have hfin:∀ q:List qx,zW d y l (qT l) n ((k:Int)+1) ((ops++xn d y l k)++q)=zW d y l (qT l) n ((k+1:Nat):Int) (ops++(xn d y l k++q)):=fun q=>by rw [List.append_assoc]; rfl
    by_cases hy:(l.getD i zS).2.1=y
    · rw [qS (decide_eq_true hy),if_pos hy,qg (decide_eq_false (show ¬ (l.getD i zS).1=0 by omega)),← hfin]
      have g3:zi (l.getD i zS).1 9=true:=by simp only [zi,Bool.and_eq_true,decide_eq_true_eq]; omega
      have g4:(zi (i:Int) l.length&&zi (l.getD i zS).1 9&&zi (i:Int) (qT l).length)=true:=by rw [g1,g2,g3]; rfl
      unfold workOf
      by_cases q1:(l.getD i zS).1=1
      · rw [qS (decide_eq_true q1),zG g4,hkn,Option.bind_some,zG hn,if_neg (by omega),if_neg (by omega)]
      rw [qg (decide_eq_false q1)]
      by_cases q2:(l.getD i zS).1=2
      · rw [qS (decide_eq_true q2),zG g4,hkn,Option.bind_some,zG hn,if_neg (by omega),if_neg (by omega)]
      rw [qg (decide_eq_false q2)]
      by_cases q3:(l.getD i zS).1=3
      · rw [qS (decide_eq_true q3),zG g4,hkn,Option.bind_some,zG hn,if_neg (by omega),if_neg (by omega)]
      rw [qg (decide_eq_false q3)]
      by_cases q4:(l.getD i zS).1=4
      · rw [qS (decide_eq_true q4),zG g4,hkn,Option.bind_some,zG hn,if_neg (by omega),if_neg (by omega)]
      rw [qg (decide_eq_false q4)]
      by_cases q5:(l.getD i zS).1=5
      · rw [qS (decide_eq_true q5),zG g4,hkn,Option.bind_some,zG hn,if_neg (by omega),if_neg (by omega)]
      rw [qg (decide_eq_false q5)]
      by_cases q6:(l.getD i zS).1=6
      · rw [qS (decide_eq_true q6),zG g4,htu,Option.bind_some,zG hn,if_neg (by omega),if_pos q6]
      rw [qg (decide_eq_false q6)]
      by_cases q7:(l.getD i zS).1=7
      · rw [qS (decide_eq_true q7),zG g4,if_pos q7,List.append_nil]
        show Option.bind (some ()) _=_;rw [Option.bind_some,zG hn]
      rw [qg (decide_eq_false q7),qS (decide_eq_true (show (l.getD i zS).1=8 by omega)),zG g4,hkn,Option.bind_some,zG hn,if_neg q7,if_neg q6]
    · rw [qg (decide_eq_false hy),if_neg hy,zG hn,← hfin,List.append_nil]) (fun n=>by
    show zW d y l (qT l) (n+1) l.length _=_;rw [zW,qg (by simp)])
  dsimp only at this;rw [this]
  rfl
theorem concat_eq (M:List T3) (h1:M.length≤100) (h2:∀ k,k < M.length→(M.getD k []).length≤100):m_concat M=some M.flatten:=by
  have hb:∀ k,k≤M.length→((M.take k).flatten).length≤100 * k:=by
    intro k
    induction k with
    | zero=>intro _; simp
    | succ k ih=>
      intro hk
      have:=ih (by omega)
      have:=h2 k (by omega)
      rw [yF M [] k (by omega),List.flatten_append,List.length_append];simp only [List.flatten_cons,List.flatten_nil,List.append_nil];omega
  have hs:∀ k,k < M.length→(M.take (k+1)).flatten=(M.take k).flatten++M.getD k []:=fun k hk=>by
    rw [yF M [] k hk,List.flatten_append]
    simp
  unfold m_concat;have e1:=xk (fun n (s:Int×Int)=>xe M n s.1 s.2) M.length (fun k=>((((M.take k).flatten).length:Int),(k:Int))) (0,0) ((M.flatten.length:Nat):Int) (by simp) (zH (by omega)) (fun n k hk=>by
    show xe M (n+1) ((((M.take k).flatten).length:Int)) k=xe M n ((((M.take (k+1)).flatten).length:Int)) ((k+1:Nat):Int)
    have:=hb k (by omega)
    have:=h2 k hk
    rw [xe,qS (decide_eq_true (by omega)),zG (by simp [zi]; omega),Int.toNat_natCast,zG (by simp [zk, -List.getD_eq_getElem?_getD, -List.length_flatten]; omega),qg (decide_eq_false (by omega)),zG (by simp [zk]; omega),hs k hk,List.length_append]
    rfl) (fun n=>by
    show xe M (n+1) _ M.length=_;rw [xe,qg (by simp),List.take_length])
  have e2:=xk (fun n (s:Int×List (Int×Int))=>xd M n s.1 s.2) M.length (fun k=>((k:Int),(M.take k).flatten)) (0,[]) M.flatten (by simp) (zH (by omega)) (fun n k hk=>by
    show xd M (n+1) k ((M.take k).flatten)=xd M n ((k+1:Nat):Int) ((M.take (k+1)).flatten)
    have:=hb k (by omega)
    have:=h2 k hk
    rw [xd,qS (decide_eq_true (by omega)),zG (by simp [zi]; omega),Int.toNat_natCast,zG (by simp only [ze,Bool.and_eq_true,decide_eq_true_eq]; omega),zG (by simp [zk]; omega),hs k hk]
    rfl) (fun n=>by
    show xd M (n+1) M.length _=_;rw [xd,qg (by simp),List.take_length])
  have hall:=hb M.length (Nat.le_refl _);rw [List.take_length] at hall;have hg:m_growN ((M.flatten.length:Nat):Int)=some []:=by
    unfold m_growN;rw [zG (by simp only [Bool.and_eq_true,decide_eq_true_eq]; omega)]
  dsimp only at e1 e2;rw [e1,Option.bind_some,hg,Option.bind_some,e2]
  rfl
def usedY (l:List qw) (y:Nat):Bool:=l.any fun s=>decide (s.2.1=(y:Int))
def zF (l:List qw):List Int:=((List.range 256).filter (usedY l)).map fun y:Nat=>(y:Int)
theorem chy4 {rows:List (List qw)} {i:Nat} {l:List qw} (hl:rows.getD i []=l) (h:Row l) (f:Nat→Bool) (c:Int) (hc:0≤c∧c≤1000000):∃ c':Int,(c≤c'∧c'≤c+16)∧qC rows i zB c 0 ((List.range 256).map f)=some (c',(List.range 256).map fun y=>f y || usedY l y):=by
  have hlen:=h.len;have hyb:∀ k,k < l.length→1≤(l.getD k zS).2.1∧(l.getD k zS).2.1≤6:=fun k hk=>by
    have:=qp (yv h.all k hk)
    omega
  have ez:((0,(0,(0,(0,false)))):qw)=zS:=rfl;obtain ⟨o,h1,h2⟩:=loopX (fun n (s:Int×Int×List Bool)=>qC rows i n s.1 s.2.1 s.2.2) l.length
    (fun k s=>s.2.1=k∧(c≤s.1∧s.1≤c+k)∧s.2.2=(List.range 256).map fun y=>f y || usedY (l.take k) y)
    (fun o=>(c≤o.1∧o.1≤c+16)∧o.2=(List.range 256).map fun y=>f y || usedY l y) (c,0,(List.range 256).map f) ⟨rfl,by dsimp only; omega,by simp [usedY]⟩ (zH (by omega)) (fun n k s hk ⟨e,hb,hv⟩=>by
    obtain ⟨s1,s2,s3⟩:=s;dsimp only at e hb hv ⊢;subst e;obtain ⟨y,hy⟩:∃ y:Nat,(l.getD k zS).2.1=(y:Int):=⟨_,(Int.toNat_of_nonneg (by have:=hyb k hk; omega)).symm⟩
    have hy2:=hyb k hk;have hu:∀ q,usedY (l.take (k+1)) q=(usedY (l.take k) q || decide (y=q)):=fun q=>by
      unfold usedY;rw [yF l zS k hk,List.any_append];simp only [List.any_cons,List.any_nil,Bool.or_false,hy]
      congr 1
      by_cases e:y=q
      · simp [e]
      · rw [decide_eq_false e,decide_eq_false (by omega)]
    have hg:s3.getD y false=(f y || usedY (l.take k) y):=by
      rw [hv,List.getD_eq_getElem?_getD,List.getElem?_map,List.getElem?_range (by omega)]
      rfl
    have hl3:s3.length=256:=by rw [hv]; simp
    have hst:qC rows i (n+1) s1 k s3=cond (!(f y || usedY (l.take k) y)) (qC rows i n (s1+1) ((k+1:Nat):Int) (s3.set y true)) (qC rows i n s1 ((k+1:Nat):Int) s3):=by
      rw [qC,Int.toNat_natCast,Int.toNat_natCast,hl,ez,hy,Int.toNat_natCast,qS (decide_eq_true (by omega)),zG (by simp [zi]; omega),zG (by simp [zi,hl3]; omega),hg,zG (by simp [zi,hl3]; omega),zG (by simp only [zk,Bool.and_eq_true,decide_eq_true_eq]; omega),zG (by simp [zk]; omega),zG (by simp [zk]; omega)]
      rfl
    refine .inr ?_;cases hb2:(f y || usedY (l.take k) y) with
    | true=>
      refine ⟨(s1,((k+1:Nat):Int),s3),⟨rfl,by dsimp only; omega,?_⟩,by rw [hst,hb2]; rfl⟩;dsimp only;rw [hv];refine List.map_congr_left fun q _=>?_
      rw [hu]
      by_cases e:y=q
      · rw [← e,hb2,← Bool.or_assoc,hb2]; rfl
      · rw [decide_eq_false e,Bool.or_false]
    | false=>
      refine ⟨(s1+1,((k+1:Nat):Int),s3.set y true),⟨rfl,by dsimp only; omega,?_⟩,by rw [hst,hb2]; rfl⟩;dsimp only;rw [hv];exact map_set 256 y _ _ true (by omega) (by rw [hu,decide_eq_true rfl,Bool.or_true,Bool.or_true]) (fun q hq=>by rw [hu,decide_eq_false (fun e=>hq e.symm),Bool.or_false])) (fun n s ⟨e,hb,hv⟩=>by
    obtain ⟨s1,s2,s3⟩:=s;dsimp only at e hb hv ⊢;subst e;rw [List.take_length] at hv;exact ⟨(s1,s3),by rw [qC,Int.toNat_natCast,hl,qg (by simp)],by dsimp only; omega,hv⟩)
  obtain ⟨o1,o2⟩:=o;dsimp only at h1 h2;exact ⟨o1,h2.1,by rw [h1,h2.2]⟩
def usedC (rows:List (List qw)) (y:Nat):Bool:=rows.any fun l=>usedY l y
def yarnsC (rows:List (List qw)):List Int:=((List.range 256).filter (usedC rows)).map fun y:Nat=>(y:Int)
theorem yarnsC_eq {rows:List (List qw)} (hn:rows.length≤1000) (hR:∀ k,k < rows.length→Row (rows.getD k [])):∃ c,m_chyarns rows=some (yarnsC rows,c):=by
  obtain ⟨o,h1,h2⟩:=loopX (fun n (s:Int×Int×List Bool)=>xK rows n s.1 s.2.1 s.2.2) rows.length
    (fun k s=>s.2.1=k∧(0≤s.1∧s.1≤16 * k)∧s.2.2=(List.range 256).map (usedC (rows.take k)))
    (fun o=>(0≤o.1∧o.1≤16000)∧o.2=(List.range 256).map (usedC rows)) (0,0,List.replicate 256 false) ⟨rfl,by dsimp only; omega,by
      dsimp only;refine List.ext_getElem? fun q=>?_
      by_cases hq:q < 256
      · rw [List.getElem?_map,List.getElem?_range hq,List.getElem?_replicate,if_pos hq]; rfl
      · rw [List.getElem?_replicate,if_neg hq,List.getElem?_eq_none (by simp; omega)]⟩ (zH (by omega)) (fun n k s hk ⟨e,hb,hv⟩=>by
    obtain ⟨s1,s2,s3⟩:=s;dsimp only at e hb hv ⊢;subst e;obtain ⟨c',h3,h4⟩:=chy4 (rows:=rows) (i:=k) rfl (hR k hk) (usedC (rows.take k)) s1 (by omega);refine .inr ⟨(c',((k+1:Nat):Int),(List.range 256).map (usedC (rows.take (k+1)))),⟨rfl,by dsimp only; omega,rfl⟩,?_⟩;rw [xK,qS (decide_eq_true (by omega)),zG (by simp [zi]; omega),hv,h4,Option.bind_some,zG (by simp [zk]; omega)];have e:(fun y=>usedC (rows.take k) y || usedY (rows.getD k []) y)=usedC (rows.take (k+1)):=by
      funext y
      unfold usedC;rw [yF rows [] k hk,List.any_append];simp only [List.any_cons,List.any_nil,Bool.or_false]
    rw [e]
    rfl) (fun n s ⟨e,hb,hv⟩=>by
    obtain ⟨s1,s2,s3⟩:=s;dsimp only at e hb hv ⊢;subst e;rw [List.take_length] at hv;exact ⟨(s1,s3),by rw [xK,qg (by simp)],by dsimp only; omega,hv⟩)
  obtain ⟨c,v⟩:=o;obtain ⟨hc,rfl⟩:=h2;dsimp only at h1 hc;have e14:∃ q,qU (c,(List.range 256).map (usedC rows)) zB 0 [] (some c.toNat)=some (yarnsC rows,q):=by
    obtain ⟨o,g1,g2⟩:=loopX (fun n (s:Int×List Int×Option Nat)=>qU (c,(List.range 256).map (usedC rows)) n s.1 s.2.1 s.2.2) 256 (fun k s=>s.1=k∧s.2.1=((List.range k).filter (usedC rows)).map (fun y:Nat=>(y:Int))) (fun o=>o.1=yarnsC rows) (0,[],some c.toNat) ⟨rfl,rfl⟩ (zH (by omega)) (fun n k s hk ⟨e,hv⟩=>by
      obtain ⟨s1,s2,s3⟩:=s;dsimp only at e hv ⊢;subst e;have hg:((List.range 256).map (usedC rows)).getD k false=usedC rows k:=by
        rw [List.getD_eq_getElem?_getD,List.getElem?_map,List.getElem?_range hk]
        rfl
      have hlen:s2.length≤k:=by
        rw [hv,List.length_map];exact Nat.le_trans (List.length_filter_le _ _) (by simp)
      refine .inr ?_;rw [qU,qS (decide_eq_true (by omega)),zG (by simp [zi]; omega),Int.toNat_natCast];dsimp only;rw [hg];cases hb:usedC rows k with
      | true=>
        refine ⟨(((k+1:Nat):Int),s2++[(k:Int)],none),⟨rfl,?_⟩,?_⟩
        · dsimp only
          rw [List.range_succ (n:=k),List.filter_append,hv]
          simp [hb]
        · rw [cond_true,zG (by simp only [ze,List.length_singleton,Bool.and_eq_true,decide_eq_true_eq]; omega),zG (by simp [zk]; omega),wrap8 _ (by omega)]
          rfl
      | false=>
        refine ⟨(((k+1:Nat):Int),s2,s3),⟨rfl,?_⟩,?_⟩
        · dsimp only
          rw [List.range_succ (n:=k),List.filter_append,hv]
          simp [hb]
        · rw [cond_false,zG (by simp [zk]; omega)]
          rfl) (fun n s ⟨e,hv⟩=>by
      obtain ⟨s1,s2,s3⟩:=s;dsimp only at e hv ⊢;subst e;exact ⟨(s2,s3),by rw [qU,qg (by simp)],by dsimp only; rw [hv]; rfl⟩)
    obtain ⟨o1,o2⟩:=o;dsimp only at g1 g2;exact ⟨o2,by rw [g1,g2]⟩
  obtain ⟨q,e14⟩:=e14;refine ⟨q,?_⟩;unfold m_chyarns;rw [h1,Option.bind_some];dsimp only;rw [zG (by simp only [Bool.and_eq_true,decide_eq_true_eq]; omega),zG (by simp),e14]
  rfl
theorem yarns_eq {l:List qw} (h:Row l):∃ c,m_chyarns [l]=some (zF l,c):=by
  obtain ⟨c,hc⟩:=yarnsC_eq (rows:=[l]) (by simp) (fun k hk=>by
    simp only [List.length_singleton] at hk;rw [show k=0 by omega];exact h)
  refine ⟨c,?_⟩;have e:usedC [l]=usedY l:=by
    funext y
    simp [usedC]
  rw [hc,yarnsC,zF,e]
end Go.Proofs.YtihcolehefloeaaDoor

/- The charts of layer 13, plain: rows, charts. -/
namespace Go.Proofs.YtihcolehefloeaaDoor
open Go.RowKit
theorem plain_facts {k y:Int} (hk:1≤k∧k≤7) (hy:1≤y∧y≤6):xN (k,y,0,0,false)=true∧need (k,y,0,0,false)=(if k=3 then 0 else if k=4∨k=5 then 2 else 1)∧make (k,y,0,0,false)=1:=by
  have h8:¬ k=8:=by omega
  have h:xN (k,y,0,0,false)=true:=by
    simp [xN,h8]
    omega
  refine ⟨h,?_,?_⟩
  · unfold need
    rw [if_pos h];dsimp only;rw [if_neg h8]
  · unfold make
    rw [if_pos h,if_neg h8]
theorem cable_facts {a b y:Int} {f:Bool} (ha:1≤a) (hb:1≤b) (hab:a+b≤4) (hy:1≤y∧y≤6):xN (8,y,a,b,f)=true∧need (8,y,a,b,f)=a+b∧make (8,y,a,b,f)=a+b:=by
  have h:xN (8,y,a,b,f)=true:=by
    simp [xN]
    omega
  exact ⟨h,cable_need h rfl⟩
def PickOk (loads:List Int) (i nl:Nat) (p:Int×Int×Int×Bool):Prop:=∀ y:Int,1≤y∧y≤6→xN (p.1,y,p.2)=true∧need (p.1,y,p.2)≤(loads.length:Int) - i∧(nl:Int)+make (p.1,y,p.2)+((loads.length:Int) - i - need (p.1,y,p.2))≤8 ∧
  (p.1=4∨p.1=5→loads.getD i 0+loads.getD (i+1) 0≤4)∧(p.1=6→loads.getD i 0 < 3)
theorem pk1 {loads:List Int} {i nl:Nat} (hi:i < loads.length) (h8:nl+(loads.length - i)≤8) (k:Int) (hk:k=1∨k=2∨k=7):PickOk loads i nl (k,0,0,false):=fun y hy=>by
  obtain ⟨h1,h2,h3⟩:=plain_facts (k:=k) (by omega) hy;rw [if_neg (by omega),if_neg (by omega)] at h2;refine ⟨h1,?_,?_,fun h=>?_,fun h=>?_⟩
  · show need (k,y,0,0,false)≤_; omega
  · show (nl:Int)+make (k,y,0,0,false)+((loads.length:Int) - i - need (k,y,0,0,false))≤8; omega
  · have h':k=4∨k=5:=h; omega
  · have h':k=6:=h; omega
theorem pick_ok {loads:List Int} {i:Nat} {next:List Int} {o3:Int} (hl:Lds loads) (hll:loads.length≤8) (hi:i < loads.length) (h8:next.length+(loads.length - i)≤8) (ho:0≤o3∧o3≤255):∃ p,pickE loads i next o3 (decide (o3.tmod 16=1) || decide (o3.tmod 16=2))=some p∧PickOk loads i next.length p:=by
  have g0:=lds_get hl i hi;obtain ⟨c,hc⟩:∃ c,o3.tmod 16=c:=⟨_,rfl⟩
  have hcb:=xU o3 16 ho.1 (by omega);have hq:o3.tdiv 16=o3 / 16:=Int.tdiv_eq_ediv_of_nonneg ho.1;have hm:o3.tmod 16=o3 % 16:=Int.tmod_eq_emod_of_nonneg ho.1;have hA:IntKind.wrap .u8 (o3 - IntKind.wrap .u8 (IntKind.wrap .u8 (o3.tdiv 16) * 16))=c:=by
    rw [hq,wrap8 (o3 / 16) (by omega),wrap8 (o3 / 16 * 16) (by omega),wrap8 _ (by omega)];omega
  rw [hc] at hcb;have hleft:(loads.length:Int) - i=((loads.length - i:Nat):Int):=by omega
  unfold pickE;rw [hc,hA];have one:PickOk loads i next.length (1,0,0,false):=pk1 hi h8 1 (.inl rfl);have hw4:IntKind.wrap .u8 ((4:Int)+IntKind.wrap .u8 ((4:Int) - 4))=4:=by rw [wrap8 (4 - 4) (by omega),wrap8 _ (by omega)]; rfl
  have hw5:IntKind.wrap .u8 ((4:Int)+IntKind.wrap .u8 ((5:Int) - 4))=5:=by rw [wrap8 (5 - 4) (by omega),wrap8 _ (by omega)]; rfl
  -- two joined
  have two:∀ k:Int,k=4∨k=5→IntKind.wrap .u8 ((4:Int)+IntKind.wrap .u8 (k - 4))=k→∃ p,(gd ((!(decide ((1:Int) < ((loads.length:Int) - i))) || (zi (i:Int) loads.length))&&(!(decide ((1:Int) < ((loads.length:Int) - i))) || (zk ((i:Int)+(1:Int))))&&(!(decide ((1:Int) < ((loads.length:Int) - i))) || (zi ((i:Int)+(1:Int)) loads.length))&&(!(decide ((1:Int) < ((loads.length:Int) - i))) || (zk ((loads.getD (i:Int).toNat 0)+(loads.getD ((i:Int)+(1:Int)).toNat 0))))) <|
    cond (cond (decide ((1:Int) < ((loads.length:Int) - i))) (decide (((loads.getD (i:Int).toNat 0)+(loads.getD ((i:Int)+(1:Int)).toNat 0))≤(4:Int))) false) (some ((IntKind.wrap .u8 ((4:Int)+(IntKind.wrap .u8 (k - (4:Int))))),(0:Int),(0:Int),false)) (some ((1:Int),(0:Int),(0:Int),false)))=some p∧PickOk loads i next.length p:=fun k hk hw=>by
    rw [hw,Int.toNat_natCast,show ((i:Int)+1).toNat=i+1 by omega]
    by_cases h1:i+1 < loads.length
    · have g1:=lds_get hl (i+1) h1
      rw [decide_eq_true (show (1:Int) < (loads.length:Int) - i by omega),zG (by simp [zi,zk, -List.getD_eq_getElem?_getD]; omega)]
      by_cases h2:loads.getD i 0+loads.getD (i+1) 0≤4
      · refine ⟨(k,0,0,false),by rw [decide_eq_true h2]; rfl,fun y hy=>?_⟩
        obtain ⟨p1,p2,p3⟩:=plain_facts (k:=k) (by omega) hy;rw [if_neg (by omega),if_pos hk] at p2;refine ⟨p1,?_,?_,fun _=>h2,fun h=>?_⟩
        · show need (k,y,0,0,false)≤_; omega
        · show (next.length:Int)+make (k,y,0,0,false)+((loads.length:Int) - i - need (k,y,0,0,false))≤8; omega
        · have h':k=6:=h; omega
      · exact ⟨(1,0,0,false),by rw [decide_eq_false h2]; rfl,one⟩
    · rw [decide_eq_false (show ¬ (1:Int) < (loads.length:Int) - i by omega),zG (by simp)]
      exact ⟨(1,0,0,false),rfl,one⟩
  have cab:∀ (A a b:Int) (f:Bool),1≤a→1≤b→a+b≤4→m_kof (7,0,A,f)=some (8,1,a,b,f)→∃ p,(Option.bind (m_kof ((7:Int),((0:Int),(A,f)))) fun r14=>
    gd ((zk (r14.2.2.1+r14.2.2.2.1))) <|
    cond (decide ((r14.2.2.1+r14.2.2.2.1)≤((loads.length:Int) - i))) (some (r14.1,r14.2.2.1,r14.2.2.2.1,r14.2.2.2.2)) (some ((1:Int),(0:Int),(0:Int),false)))=some p∧PickOk loads i next.length p:=fun A a b f ha hb hab hk=>by
    rw [hk,Option.bind_some];dsimp only;rw [zG (by simp [zk]; omega)]
    by_cases h1:a+b≤(loads.length:Int) - i
    · refine ⟨(8,a,b,f),by rw [decide_eq_true h1]; rfl,fun y hy=>?_⟩
      obtain ⟨p1,p2,p3⟩:=cable_facts (f:=f) ha hb hab hy;refine ⟨p1,?_,?_,fun h=>?_,fun h=>?_⟩
      · show need (8,y,a,b,f)≤_; omega
      · show (next.length:Int)+make (8,y,a,b,f)+((loads.length:Int) - i - need (8,y,a,b,f))≤8; omega
      · have h':(8:Int)=4∨(8:Int)=5:=h; omega
      · have h':(8:Int)=6:=h; omega
    · exact ⟨(1,0,0,false),by rw [decide_eq_false h1]; rfl,one⟩
  have tuck:∃ p,(gd ((zi (i:Int) loads.length))<|cond (decide ((loads.getD (i:Int).toNat 0) < (3:Int))) (some ((6:Int),(0:Int),(0:Int),false)) (some ((1:Int),(0:Int),(0:Int),false)))=some p∧PickOk loads i next.length p:=by
    rw [zG (by simp [zi]; omega),Int.toNat_natCast]
    by_cases h1:loads.getD i 0 < 3
    · refine ⟨(6,0,0,false),by rw [decide_eq_true h1]; rfl,fun y hy=>?_⟩
      obtain ⟨p1,p2,p3⟩:=plain_facts (k:=6) (by omega) hy;rw [if_neg (by omega),if_neg (by omega)] at p2;refine ⟨p1,?_,?_,fun h=>?_,fun _=>h1⟩
      · show need (6,y,0,0,false)≤_; omega
      · show (next.length:Int)+make (6,y,0,0,false)+((loads.length:Int) - i - need (6,y,0,0,false))≤8; omega
      · have h':(6:Int)=4∨(6:Int)=5:=h; omega
    · exact ⟨(1,0,0,false),by rw [decide_eq_false h1]; rfl,one⟩
  have over:∃ p,(gd ((zk ((next.length:Int)+((loads.length:Int) - i))))<|cond (decide (((next.length:Int)+((loads.length:Int) - i)) < (8:Int))) (some ((3:Int),(0:Int),(0:Int),false)) (some ((1:Int),(0:Int),(0:Int),false)))=some p∧PickOk loads i next.length p:=by
    rw [zG (by simp [zk]; omega)]
    by_cases h1:(next.length:Int)+((loads.length:Int) - i) < 8
    · refine ⟨(3,0,0,false),by rw [decide_eq_true h1]; rfl,fun y hy=>?_⟩
      obtain ⟨p1,p2,p3⟩:=plain_facts (k:=3) (by omega) hy;rw [if_pos rfl] at p2;refine ⟨p1,?_,?_,fun h=>?_,fun h=>?_⟩
      · show need (3,y,0,0,false)≤_; omega
      · show (next.length:Int)+make (3,y,0,0,false)+((loads.length:Int) - i - need (3,y,0,0,false))≤8; omega
      · have h':(3:Int)=4∨(3:Int)=5:=h; omega
      · have h':(3:Int)=6:=h; omega
    · exact ⟨(1,0,0,false),by rw [decide_eq_false h1]; rfl,one⟩
  rcases (show c=0∨c=1∨c=2∨c=3∨c=4∨c=5∨c=6∨c=7∨c=8∨c=9∨c=10∨c=11∨c=12∨c=13∨c=14∨c=15 by omega) with h | h | h | h | h | h | h | h | h | h | h | h | h | h | h | h <;> subst h
  · exact ⟨_,rfl,one⟩
  · exact ⟨_,rfl,pk1 hi h8 2 (.inr (.inl rfl))⟩
  · exact ⟨_,rfl,pk1 hi h8 2 (.inr (.inl rfl))⟩
  · exact over
  · exact two 4 (.inl rfl) hw4
  · exact two 5 (.inr rfl) hw5
  · exact tuck
  · exact tuck
  · exact ⟨_,rfl,pk1 hi h8 7 (.inr (.inr rfl))⟩
  · exact ⟨_,rfl,pk1 hi h8 7 (.inr (.inr rfl))⟩
  · exact cab 10 1 3 _ (by omega) (by omega) (by omega) rfl
  · exact cab 11 3 1 _ (by omega) (by omega) (by omega) rfl
  · exact cab 12 1 1 _ (by omega) (by omega) (by omega) rfl
  · exact cab 13 1 2 _ (by omega) (by omega) (by omega) rfl
  · exact cab 14 2 1 _ (by omega) (by omega) (by omega) rfl
  · exact ⟨_,rfl,one⟩
end Go.Proofs.YtihcolehefloeaaDoor

/- The charts of layer 13, plain: rows and charts as a whole. -/
namespace Go.Proofs.YtihcolehefloeaaDoor
open Go.RowKit
def Byt (l:List Int):Prop:=∀ x∈l,0≤x∧x≤255
def sumF (f:qw→Int) (l:List qw):Int:=(l.map f).sum
theorem sumF_snoc (f:qw→Int) (l:List qw) (s:qw):sumF f (l++[s])=sumF f l+f s:=by simp [sumF,List.sum_append]
theorem sumF_to (f:qw→Int) (l:List qw):qy f l l.length=sumF f l:=by rw [qy,List.take_length]; rfl
def ldGood (s:qw) (sl:List Int):Prop:=(s.1=4∨s.1=5→sl.getD 0 0+sl.getD 1 0≤4)∧(s.1=6→sl.getD 0 0 < 3)
inductive Ch (loads:List Int):Nat→List qw→List Int→Prop where
  | nil:Ch loads 0 [] []
  | snoc {i nd:Nat} {out:List qw} {next:List Int} {s:qw} (h:Ch loads i out next) (hs:xN s=true) (hn:need s=(nd:Int)) (hi:i+nd≤loads.length) (hg:ldGood s ((loads.take (i+nd)).drop i)):Ch loads (i+nd) (out++[s]) (next++ldOf s ((loads.take (i+nd)).drop i))
inductive Rws (a:List Int):List (List qw)→List Int→Prop where
  | nil:Rws a [] a
  | snoc {rows:List (List qw)} {r:List qw} {b c:List Int} (h:Rws a rows b) (hb:Lds b) (hc:Ch b b.length r c):Rws a (rows++[r]) c
structure RI (loads:List Int) (i:Nat) (out:List qw) (next:List Int):Prop where
  le:i≤loads.length
  all:out.all xN=true
  need:sumF need out=i
  make:sumF make out=next.length
  eight:next.length+(loads.length - i)≤8
  lds:Lds next
  few:out.length≤next.length
  ch:Ch loads i out next
theorem yarn_of {o3:Int} (ho:0≤o3∧o3≤255):∃ y,IntKind.wrap .u8 ((1:Int)+(Int.tmod (IntKind.wrap .u8 (Int.tdiv o3 (16:Int))) (3:Int)))=y∧1≤y∧y≤6:=by
  have hq:o3.tdiv 16=o3 / 16:=Int.tdiv_eq_ediv_of_nonneg ho.1;have h1:=xU (o3 / 16) 3 (by omega) (by omega);refine ⟨_,rfl,?_⟩;rw [hq,wrap8 (o3 / 16) (by omega),wrap8 _ (by omega)];omega
theorem row_step {loads a1:List Int} (hl:Lds loads) (hll:loads.length≤8) (hb:Byt a1) {i k:Nat} {out:List qw} {next:List Int} (h:RI loads i out next) (hi:i < loads.length) (hk:k≤1000) :
    ∃ i' out' next',RI loads i' out' next'∧out'.length=out.length+1∧∀ n,xu loads a1 (n+1) i k out next=xu loads a1 n (i':Nat) ((k+1:Nat):Int) out' next':=by
  have h8:=h.eight;obtain ⟨o3,ho3,hob⟩:∃ o3,(cond (decide ((k:Int) < (a1.length:Int))) (gd ((zi (k:Int) a1.length))<|some (a1.getD (k:Int).toNat 0)) (some (0:Int)))=some o3∧0≤o3∧o3≤255:=by
    by_cases hka:k < a1.length
    · refine ⟨a1.getD k 0,by rw [qS (decide_eq_true (by omega)),zG (by simp [zi]; omega),Int.toNat_natCast],hb _ (mem_get k hka)⟩
    · exact ⟨0,by rw [qg (decide_eq_false (by omega))],by omega,by omega⟩
  obtain ⟨p,hp,hpo⟩:=pick_ok (next:=next) hl hll hi h8 hob;obtain ⟨y,hy,hyb⟩:=yarn_of hob;obtain ⟨s1,s2,s3,s4,s5⟩:=hpo y hyb;obtain ⟨kd,a,b,f⟩:=p;obtain ⟨s,hs⟩:∃ s:qw,(kd,y,a,b,f)=s:=⟨_,rfl⟩
  have hsk:s.1=kd:=by rw [← hs]
  rw [hs] at s1 s2 s3;have hnl:=need_le s;have hml:=xh s;have hmp:=make_pos s1;obtain ⟨nd,hnd⟩:∃ nd:Nat,need s=(nd:Int):=⟨_,(Int.toNat_of_nonneg hnl.1).symm⟩
  have hsl:((loads.take (i+nd)).drop i).length=nd:=by simp; omega
  have hget:∀ j,j < nd→((loads.take (i+nd)).drop i).getD j 0=loads.getD (i+j) 0:=fun j hj=>by
    rw [List.getD_eq_getElem?_getD,List.getD_eq_getElem?_getD,List.getElem?_drop,List.getElem?_take,if_pos (by omega)]
  have hneed2:kd=4∨kd=5→nd=2:=fun hq=>by
    have:need s=2:=by unfold need; rw [if_pos s1,if_neg (by omega),if_pos (by omega)]
    omega
  have hneed1:kd=6→nd=1:=fun hq=>by
    have:need s=1:=by unfold need; rw [if_pos s1,if_neg (by omega),if_neg (by omega),if_neg (by omega)]
    omega
  have hgood:ldGood s ((loads.take (i+nd)).drop i):=⟨fun hq=>by
    have h2:=hneed2 (by omega);rw [hget 0 (by omega),hget 1 (by omega)];exact s4 (by show kd=4∨kd=5; omega),fun hq=>by
    have h2:=hneed1 (by omega);rw [hget 0 (by omega)];exact s5 (by show kd=6; omega)⟩
  obtain ⟨e,e2,e3⟩:=rfloads_ok (sl:=(loads.take (i+nd)).drop i) s1 (by rw [hsl,hnd]) (fun x hx=>hl x (List.mem_of_mem_take (List.mem_of_mem_drop hx))) hgood.1 hgood.2;have hch:=h.ch.snoc s1 hnd (by omega) hgood
  generalize ldOf s ((loads.take (i+nd)).drop i)=ld at e e2 e3 hch
  refine ⟨i+nd,out++[s],next++ld,⟨by omega,by rw [List.all_append,h.all]; simp [s1],by rw [sumF_snoc,h.need]; omega,by rw [sumF_snoc,h.make,List.length_append]; omega,by rw [List.length_append]; omega,fun x hx=>(List.mem_append.1 hx).elim (h.lds x) (e3 x),by
    have:=h.few
    rw [List.length_append,List.length_append,List.length_singleton];omega,hch⟩,by simp,fun n=>?_⟩
  have hfew:=h.few;rw [row13_step,qS (decide_eq_true (by omega)),ho3,Option.bind_some,zG (by simp [zk]; omega)];have ho5:(cond (decide ((Int.tmod o3 (16:Int))=(1:Int))) (some (decide ((Int.tmod o3 (16:Int))=(1:Int)))) (some (decide ((Int.tmod o3 (16:Int))=(2:Int)))))=some (decide (o3.tmod 16=1) || decide (o3.tmod 16=2)):=by
    cases hd:decide (o3.tmod 16=1) <;> rfl
  rw [ho5,Option.bind_some,hp,Option.bind_some];dsimp only;rw [hy,hs,rfneeds_eq s1,Option.bind_some,hnd,zG (by simp [zk]; omega),show ((i:Int)+nd).toNat=i+nd by omega,Int.toNat_natCast,e,Option.bind_some,zG (by simp [ze]; omega),zG (by simp only [ze,Bool.and_eq_true,decide_eq_true_eq]; omega),zG (by simp [zk]; omega),zG (by simp [zk]; omega)]
  rfl
theorem row13_run {loads a1:List Int} (hl:Lds loads) (hll:loads.length≤8) (hb:Byt a1):∀ (m i k:Nat) (out:List qw) (next:List Int),RI loads i out next→8≤out.length+m→k=out.length→∀ n,m < n→∃ out' next',xu loads a1 n i k out next=some (out',next')∧RI loads loads.length out' next':=by
  intro m
  induction m with
  | zero=>
    intro i k out next h hm hk n hn;obtain ⟨n,rfl⟩:∃ q,n=q+1:=⟨n - 1,by omega⟩
    have h1:=h.few;have h2:=h.eight;have h3:=h.le;have hi:i=loads.length:=by omega
    subst hi;exact ⟨out,next,by rw [xu,qg (by simp)],h⟩
  | succ m ih=>
    intro i k out next h hm hk n hn;obtain ⟨n,rfl⟩:∃ q,n=q+1:=⟨n - 1,by omega⟩
    have h1:=h.few;have h2:=h.eight;have h3:=h.le
    by_cases hi:i=loads.length
    · subst hi
      exact ⟨out,next,by rw [xu,qg (by simp)],h⟩
    · obtain ⟨i',out',next',g1,g2,g3⟩:=row_step hl hll hb (k:=k) h (by omega) (by omega)
      rw [g3];exact ih i' (k+1) out' next' g1 (by omega) (by omega) n (by omega)
theorem row13_ok {loads a1:List Int} (hl:Lds loads) (h1:1≤loads.length) (h8:loads.length≤8) (hb:Byt a1):∃ out next,m_row13 loads a1=some (out,next)∧Row out∧qy need out out.length=loads.length∧qy make out out.length=next.length∧1≤next.length∧next.length≤8∧Lds next∧Ch loads loads.length out next:=by
  obtain ⟨out,next,e,g⟩:=row13_run hl h8 hb 8 0 0 [] [] ⟨by omega,rfl,rfl,rfl,(by simp; omega),(fun x hx=>(by cases hx)),(by simp),.nil⟩ (by simp) rfl zB (zH (by omega));have hn:qy need out out.length=loads.length:=by rw [sumF_to]; exact g.need
  have hm:qy make out out.length=next.length:=by rw [sumF_to]; exact g.make
  have g8:=g.eight;have gf:=g.few;have ho:1≤out.length:=by
    rcases Nat.eq_zero_or_pos out.length with h | h
    · rw [List.eq_nil_of_length_eq_zero h] at hn
      simp [qy] at hn
      omega
    · exact h
  refine ⟨out,next,?_,⟨⟨ho,by omega⟩,g.all,by omega,by omega⟩,hn,hm,by omega,by omega,g.lds,g.ch⟩;have e':xu loads a1 zB 0 0 [] []=some (out,next):=e;unfold m_row13;rw [e']
  rfl
theorem cof_ok2 (w:Int) (chs:List T1) (hw:0≤w∧w≤255) (hb:∀ c∈chs,Byt c):∃ rows,m_cof13 (w,chs)=some rows∧1≤rows.length∧rows.length≤9∧rows.length % 2=1∧(∀ r∈rows,Row r∧qy need r r.length≤8∧qy make r r.length≤8)∧∃ q b,q < 8∧Rws (List.replicate (q+1) 1) rows b:=by
  have hm:=xU w 8 hw.1 (by omega);obtain ⟨q,hq⟩:∃ q:Nat,w.tmod 8=(q:Int):=⟨_,(Int.toNat_of_nonneg hm.1).symm⟩
  have h2:=xk (fun n (s:Int×List Int)=>xD (w,chs) n s.1 s.2) (q+1) (fun k=>((k:Int),List.replicate k (1:Int))) (0,[]) (List.replicate (q+1) 1) rfl (zH (by omega)) (fun n k hk=>by
    show xD (w,chs) (n+1) k (List.replicate k 1)=xD (w,chs) n ((k+1:Nat):Int) (List.replicate (k+1) 1);rw [xD];dsimp only;rw [hq,zG (by simp [zk]; omega),qS (decide_eq_true (by omega)),zG (by simp [ze]; omega),zG (by simp [zk]; omega),List.replicate_succ']
    rfl) (fun n=>by
    show xD (w,chs) (n+1) ((q+1:Nat):Int) _=_;rw [xD];dsimp only;rw [hq,zG (by simp [zk]; omega),qg (decide_eq_false (by omega))])
  obtain ⟨many,hmany,hm1,hm9,hodd⟩:∃ many:Nat,(cond (decide ((Int.tmod (if (9:Int) < (chs.length:Int) then (9:Int) else (chs.length:Int)) (2:Int))=(0:Int))) (gd ((zk ((if (9:Int) < (chs.length:Int) then (9:Int) else (chs.length:Int))+(1:Int)))) <|
      some ((if (9:Int) < (chs.length:Int) then (9:Int) else (chs.length:Int))+(1:Int))) (some (if (9:Int) < (chs.length:Int) then (9:Int) else (chs.length:Int))))=some (many:Int)∧1≤many∧many≤9∧many % 2=1:=by
    obtain ⟨m,hm,hm9⟩:∃ m:Nat,(if (9:Int) < (chs.length:Int) then (9:Int) else (chs.length:Int))=(m:Int)∧m≤9:=by
      by_cases h:(9:Int) < (chs.length:Int)
      · exact ⟨9,by rw [if_pos h]; rfl,by omega⟩
      · exact ⟨chs.length,by rw [if_neg h],by omega⟩
    rw [hm];have ht:(m:Int).tmod 2=((m % 2:Nat):Int):=rfl
    by_cases h2:m % 2=0
    · exact ⟨m+1,by rw [qS (decide_eq_true (by omega)),zG (by simp [zk]; omega)]; rfl,by omega,by omega,by omega⟩
    · exact ⟨m,by rw [qg (decide_eq_false (by omega))],by omega,by omega,by omega⟩
  have h13:∀ m k:Nat,∀ (loads:List Int) (rows:List (List qw)),k+m=many→rows.length=k→Lds loads→1≤loads.length→loads.length≤8→(∀ r∈rows,Row r∧qy need r r.length≤8∧qy make r r.length≤8)→Rws (List.replicate (q+1) 1) rows loads→∀ n,m < n→∃ rows',xJ (w,chs) many n loads k rows=some rows'∧rows'.length=many∧(∀ r∈rows',Row r∧qy need r r.length≤8∧qy make r r.length≤8)∧∃ b,Rws (List.replicate (q+1) 1) rows' b:=by
    intro m
    induction m with
    | zero=>
      intro k loads rows hk hr _ _ _ hrow hrw n hn;obtain ⟨n,rfl⟩:∃ q,n=q+1:=⟨n - 1,by omega⟩
      exact ⟨rows,by rw [xJ,qg (decide_eq_false (by omega))],by omega,hrow,_,hrw⟩
    | succ m ih=>
      intro k loads rows hk hr hl l1 l8 hrow hrw n hn;obtain ⟨n,rfl⟩:∃ q,n=q+1:=⟨n - 1,by omega⟩
      obtain ⟨ch,hch,hcb⟩:∃ ch:List Int×Option Nat,(cond (decide ((k:Int) < (chs.length:Int))) (gd ((zi (k:Int) chs.length))<|some ((chs.getD (k:Int).toNat []),none)) (some (([]:List Int),(some 0))))=some ch∧Byt ch.1:=by
        by_cases hkc:k < chs.length
        · refine ⟨(chs.getD k [],none),by rw [qS (decide_eq_true (by omega)),zG (by simp [zi]; omega),Int.toNat_natCast],?_⟩
          apply hb
          rw [List.getD_eq_getElem?_getD,List.getElem?_eq_getElem hkc];exact List.getElem_mem hkc
        · exact ⟨([],some 0),by rw [qg (decide_eq_false (by omega))],fun x hx=>by cases hx⟩
      obtain ⟨out,next,e,g1,g2,g3,g4,g5,g6,g7⟩:=row13_ok hl l1 l8 hcb;obtain ⟨rows',e',r1,r2⟩:=ih (k+1) next (rows++[out]) (by omega) (by simp [hr]) g6 g4 g5 (fun r hr=>by
        rcases List.mem_append.1 hr with hr | hr
        · exact hrow r hr
        · simp only [List.mem_singleton] at hr
          subst hr;exact ⟨g1,by omega,by omega⟩) (hrw.snoc hl g7) n (by omega)
      refine ⟨rows',?_,r1,r2⟩;rw [xJ,qS (decide_eq_true (by omega))];dsimp only;rw [hch,Option.bind_some,e,Option.bind_some,zG (by simp [ze]; omega),zG (by simp [zk]; omega)];exact e'
  obtain ⟨rows,e,r1,r2,b,r3⟩:=h13 many 0 (List.replicate (q+1) 1) [] (by omega) rfl (fun x hx=>by rw [List.eq_of_mem_replicate hx]; omega) (by simp) (by simp; omega) (fun r hr=>by cases hr) .nil zB (zH (by omega));refine ⟨rows,?_,by omega,by omega,by omega,r2,q,b,by omega,r3⟩;have e':xJ (w,chs) many zB (List.replicate (q+1) 1) 0 []=some rows:=e;unfold m_cof13;dsimp only at h2;rw [h2,Option.bind_some];dsimp only;rw [hmany,Option.bind_some,e']
  rfl
theorem cof_ok (w:Int) (chs:List T1) (hw:0≤w∧w≤255) (hb:∀ c∈chs,Byt c):∃ rows,m_cof13 (w,chs)=some rows∧1≤rows.length∧rows.length≤9∧rows.length % 2=1∧∀ r∈rows,Row r∧qy need r r.length≤8∧qy make r r.length≤8:=by
  obtain ⟨rows,h1,h2,h3,h4,h5,_⟩:=cof_ok2 w chs hw hb;exact ⟨rows,h1,h2,h3,h4,h5⟩
end Go.Proofs.YtihcolehefloeaaDoor

/- Courses, plain: a row's program. -/
namespace Go.Proofs.YtihcolehefloeaaDoor
open Go.RowKit
theorem yarnsL_mem {l:List qw} (h:Row l) {y:Int} (hy:y∈zF l):1≤y∧y≤6:=by
  obtain ⟨q,hq,rfl⟩:=List.mem_map.1 hy;have h2:=(List.mem_filter.1 hq).2;obtain ⟨s,hs,h3⟩:=List.any_eq_true.1 h2;have h4:=of_decide_eq_true h3
  have:=qp (List.all_eq_true.1 h.all s hs)
  omega
theorem yarnsL_get {l:List qw} (h:Row l) (j:Nat) (hj:j < (zF l).length):1≤(zF l).getD j 0∧(zF l).getD j 0≤6:=yarnsL_mem h (mem_get j hj)
theorem yarnsL_len (l:List qw):(zF l).length≤256:=by
  unfold zF;rw [List.length_map];exact Nat.le_trans (List.length_filter_le _ _) (by simp)
def enD (d:Int):Int:=if d=0 then 1 else 2
def beD (d:Int):Int:=if d=0 then 2 else 1
def siD (d:Int):Int:=if d=0 then 1 else 0
def preOps (x:LoT) (d y:Int):List qx:=if (xp x).getD (y - 1).toNat 0=0 then [(1,siD d,(0,0),y,0)] else if (xp x).getD (y - 1).toNat 0=enD d then [yH y (siD d)] else []
def yarnOps (x:LoT) (l:List qw) (d y:Int):List qx:=(preOps x d y++xn d y l l.length)++[yH y d]
def yz (x:LoT) (l:List qw) (d:Int):Nat→List qx
  | 0=>yd x l
  | j+1=>yz x l d j++yarnOps x l d ((zF l).getD j 0)
def zO (x:LoT) (l:List qw) (d:Int) (j i:Nat):Int:=if ((zF l).take j).any (fun y=>decide (y=(i:Int)+1)) then enD d else (xp x).getD i 0
theorem yarnOps_len (x:LoT) {l:List qw} (h:Row l) (d y:Int):(yarnOps x l d y).length≤66:=by
  have h1:=workTo_len d y l l.length;have h2:=h.len;have h3:(preOps x d y).length≤1:=by unfold preOps; split <;> (try split) <;> simp
  simp only [yarnOps,List.length_append,List.length_singleton];omega
theorem opsToY_len {x:LoT} {l:List qw} (hx:Lo x) (h:Row l) (hn:qy need l l.length=x.1.length) (d:Int):∀ j,(yz x l d j).length≤15000000+66 * j
  | 0=>prep_len hx h hn
  | j+1=>by
    have h1:=opsToY_len hx h hn d j;have h2:=yarnOps_len x h d ((zF l).getD j 0);rw [yz,List.length_append];omega
theorem sideAt_succ (x:LoT) {l:List qw} (h:Row l) (d:Int) (j i:Nat) (hj:j < (zF l).length):cond (Nat.beq ((zF l).getD j 0 - 1).toNat i) (enD d) (zO x l d j i)=zO x l d (j+1) i:=by
  have hy:=yarnsL_get h j hj;unfold zO;rw [yF (zF l) 0 j hj,List.any_append];simp only [List.any_cons,List.any_nil,Bool.or_false];cases hb:Nat.beq ((zF l).getD j 0 - 1).toNat i with
  | true=>
    have:=Nat.eq_of_beq_eq_true hb
    rw [decide_eq_true (show (zF l).getD j 0=(i:Int)+1 by omega),Bool.or_true,if_pos rfl]
    rfl
  | false=>
    have h2:((zF l).getD j 0 - 1).toNat≠i:=fun e=>by rw [e,Nat.beq_refl] at hb; cases hb
    rw [decide_eq_false (show ¬ (zF l).getD j 0=(i:Int)+1 by omega),Bool.or_false]
    rfl
def courseOps (x:LoT) (l:List qw) (d:Int):List qx:=yz x l d (zF l).length
theorem course_ok {x:LoT} {l:List qw} (hx:Lo x) (h:Row l) (hn:qy need l l.length=x.1.length) (d:Int) (hd:d=0∨d=1) :
    m_course x l d=some (courseOps x l d,((qT l).flatten,zO x l d (zF l).length 0,zO x l d (zF l).length 1,zO x l d (zF l).length 2,zO x l d (zF l).length 3,zO x l d (zF l).length 4,zO x l d (zF l).length 5),0):=by
  have hl:=h.len;have hyl:=yarnsL_len l;obtain ⟨c,hyq⟩:=yarns_eq h;have hml:∀ k,k < (qT l).length→((qT l).getD k []).length≤100:=fun k hk=>by
    rw [madeL_len] at hk
    have:=xh (l.getD k zS)
    rw [madeL_get l k hk,madeAt_len];omega
  have hpr:=prepare_ok hx h hn;have ho2:cond (decide (d=(0:Int))) (some ((2:Int),(1:Int),(1:Int))) (some ((1:Int),(2:Int),(0:Int)))=some (beD d,enD d,siD d):=by
    unfold beD enD siD
    rcases hd with rfl | rfl <;> rfl
  have hL:=xk (fun n (s:Int×Int×Int×Int×Int×Int×Int×Int×List qx)=>xb x l d (yd x l,qT l,l.length,0) (beD d,enD d,siD d) (zF l,c) n s.1 s.2.1 s.2.2.1 s.2.2.2.1 s.2.2.2.2.1 s.2.2.2.2.2.1 s.2.2.2.2.2.2.1 s.2.2.2.2.2.2.2.1 s.2.2.2.2.2.2.2.2) (zF l).length
    (fun j=>((j:Int),zO x l d j 0,zO x l d j 1,zO x l d j 2,zO x l d j 3,zO x l d j 4,zO x l d j 5,(if j=0 then 0 else (zF l).getD (j - 1) 0),yz x l d j))
    (0,x.2.1,x.2.2.1,x.2.2.2.1,x.2.2.2.2.1,x.2.2.2.2.2.1,x.2.2.2.2.2.2,0,yd x l)
    (zO x l d (zF l).length 0,zO x l d (zF l).length 1,zO x l d (zF l).length 2,zO x l d (zF l).length 3,zO x l d (zF l).length 4,zO x l d (zF l).length 5,(if (zF l).length=0 then 0 else (zF l).getD ((zF l).length - 1) 0),courseOps x l d)
    rfl (zH (by omega)) (fun n j hj=>by
      show xb x l d (yd x l,qT l,l.length,0) (beD d,enD d,siD d) (zF l,c) (n+1) j (zO x l d j 0) (zO x l d j 1) (zO x l d j 2) (zO x l d j 3) (zO x l d j 4) (zO x l d j 5) (if j=0 then 0 else (zF l).getD (j - 1) 0) (yz x l d j) =
        xb x l d (yd x l,qT l,l.length,0) (beD d,enD d,siD d) (zF l,c) n ((j+1:Nat):Int) (zO x l d (j+1) 0) (zO x l d (j+1) 1) (zO x l d (j+1) 2) (zO x l d (j+1) 3) (zO x l d (j+1) 4) (zO x l d (j+1) 5) ((zF l).getD j 0) (yz x l d (j+1))
      have hy:=yarnsL_get h j hj;have hol:=opsToY_len hx h hn d j;have hwl:=workTo_len d ((zF l).getD j 0) l l.length;obtain ⟨y,hyy⟩:∃ y,(zF l).getD j 0=y:=⟨_,rfl⟩
      have hw:IntKind.wrap .u8 (y - 1)=y - 1:=wrap8 _ (by omega);have hpl:(preOps x d y).length≤1:=by unfold preOps; split <;> (try split) <;> simp
      have hpre:(cond (decide (((xp x).getD (y - 1).toNat 0)=(0:Int))) (gd ((ze 40 ((yz x l d j).length+[((1:Int),(siD d,(((0:Int),(0:Int)),(y,(0:Int)))))].length))) <|
          some (yz x l d j++[((1:Int),(siD d,(((0:Int),(0:Int)),(y,(0:Int)))))])) (cond (decide (((xp x).getD (y - 1).toNat 0)=enD d)) (Option.bind (m_copast d y (yz x l d j) (siD d)) fun r12=>some r12) (cond (decide (((xp x).getD (y - 1).toNat 0)=beD d)) (some (yz x l d j)) (some (yz x l d j)))))=some (yz x l d j++preOps x d y):=by
        unfold preOps
        by_cases h0:(xp x).getD (y - 1).toNat 0=0
        · rw [qS (decide_eq_true h0),if_pos h0,zG (by simp only [ze,List.length_singleton,Bool.and_eq_true,decide_eq_true_eq]; omega)]
        · rw [qg (decide_eq_false h0),if_neg h0]
          by_cases h1:(xp x).getD (y - 1).toNat 0=enD d
          · rw [qS (decide_eq_true h1),if_pos h1,copast_eq _ _ _ _ (by omega)]
            rfl
          · rw [qg (decide_eq_false h1),if_neg h1,List.append_nil]
            cases decide ((xp x).getD (y - 1).toNat 0=beD d) <;> rfl
      rw [xb];dsimp only;rw [qS (decide_eq_true (by omega)),zG (by simp [zi]; omega),Int.toNat_natCast,hyy,hw,zG (by simp [zi]; omega)];show Option.bind (cond (decide (((xp x).getD (y - 1).toNat 0)=(0:Int))) _ (cond (decide (((xp x).getD (y - 1).toNat 0)=enD d)) _ (cond (decide (((xp x).getD (y - 1).toNat 0)=beD d)) _ _))) _=_;rw [hpre,Option.bind_some,cowork_eq d y _ h (by rw [List.length_append]; omega),Option.bind_some,copast_eq _ _ _ _ (by rw [hyy] at hwl; simp only [List.length_append]; omega),Option.bind_some,zG (by simp [zi]; omega),zG (by simp [zk]; omega)];have hs:=fun i=>sideAt_succ x h d j i hj
      rw [hyy] at hs;rw [hs 0,hs 1,hs 2,hs 3,hs 4,hs 5,yz,hyy,yarnOps];simp only [List.append_assoc]
      rfl) (fun n=>by
      show xb x l d (yd x l,qT l,l.length,0) (beD d,enD d,siD d) (zF l,c) (n+1) ((zF l).length:Int) _ _ _ _ _ _ _ _=_;rw [xb,qg (by simp)]
      rfl)
  unfold m_course;rw [hpr,Option.bind_some,qg (by simp),qg (by rcases hd with rfl | rfl <;> rfl),ho2,Option.bind_some,concat_eq _ (by rw [madeL_len]; omega) hml,Option.bind_some];have hcl:m_clipn (qT l).flatten=some ((qT l).flatten,(qT l).flatten.length):=by
    unfold m_clipn;rw [zG (by simp only [Bool.and_eq_true,decide_eq_true_eq]; omega),Int.toNat_natCast,List.take_length]
  rw [hcl,Option.bind_some,hyq,Option.bind_some];dsimp only at hL;rw [hL]
  rfl
end Go.Proofs.YtihcolehefloeaaDoor

/- The laws of courses: models. -/
namespace Go.Proofs.YtihcolehefloeaaDoor
set_option linter.unusedSimpArgs false
set_option linter.unusedVariables false
open Go.RowKit
def qo:List UInt8:=[59,32,107,110,105,116,32,108,101,102,116,32,102,49,52,32,49,59,32,107,110,105,116,32,108,101,102,116,32,102,49,51,32,49,59,32,109,105,115,115,32,108,101,102,116,32,98,49,32,49]
def qJ:List UInt8:=[107,110,105,116,32,108,101,102,116,32,102,49,52,32,49,59,32,107,110,105,116,32,108,101,102,116,32,102,49,51,32,49,59,32,109,105,115,115,32,108,101,102,116,32,98,49,32,49]
def qI:List UInt8:=[120,102,101,114,32,102,49,52,59,32,107,110,105,116,32,108,101,102,116,32,98,49,52,32,49,59,32,107,110,105,116,32,108,101,102,116,32,102,49,51,32,49,59,32,109,105,115,115,32,108,101,102,116,32,98,49,32,49]
def qH:List UInt8:=(List.append [120,102,101,114,32,102,49,51,59,32,120,102,101,114,32,102,49,52,59,32,114,97,99,107,32,49,59,32,120,102,101,114,32,98,49,51,59,32,120,102,101,114,32,98,49,52,59,32,114,97,99,107,32,48,59,32,107,110,105,116] [32,108,101,102,116,32,102,49,53,32,49,59,32,107,110,105,116,32,108,101,102,116,32,102,49,52,32,49,59,32,107,110,105,116,32,108,101,102,116,32,102,49,51,32,49,59,32,109,105,115,115,32,108,101,102,116,32,98,49,32,49])
def qG:List UInt8:=(List.append [120,102,101,114,32,102,49,51,59,32,114,97,99,107,32,49,59,32,120,102,101,114,32,98,49,51,59,32,120,102,101,114,32,102,49,52,59,32,114,97,99,107,32] [48,59,32,120,102,101,114,32,98,49,51,59,32,107,110,105,116,32,108,101,102,116,32,102,49,51,32,49,59,32,109,105,115,115,32,108,101,102,116,32,98,49,32,49])
def qF:List UInt8:=(List.append [107,110,105,116,32,108,101,102,116,32,102,49,52,32,49,59,32,109,105,115,115,32,108,101,102,116,32,98,49,32,49,59,32,105,110,32,50,32] [114,105,103,104,116,59,32,107,110,105,116,32,108,101,102,116,32,102,49,51,32,50,59,32,109,105,115,115,32,108,101,102,116,32,98,49,32,50])
theorem ko_lives30_39:KeyOk Tryd.prog 39 qK:=KeyOk.of zv rfl rfl rfl (by kernel_rfl) (by kernel_rfl)
def m_lives30_L4 (r2:T8):Nat→Int→Option ((Unit)⊕(Bool))
  | 0,_=>none
  | n+1,v4_0=>
    cond (decide (v4_0 < ([([107,32,107]:List UInt8),([107,32,112]:List UInt8),([111,32,107,32,107]:List UInt8),([47]:List UInt8),([107,50,32,107]:List UInt8),([99,49,49,70]:List UInt8)].length:Int))) (gd ((zi v4_0 [([107,32,107]:List UInt8),([107,32,112]:List UInt8),([111,32,107,32,107]:List UInt8),([47]:List UInt8),([107,50,32,107]:List UInt8),([99,49,49,70]:List UInt8)].length)) <|
    Option.bind (m_row30 ([([107,32,107]:List UInt8),([107,32,112]:List UInt8),([111,32,107,32,107]:List UInt8),([47]:List UInt8),([107,50,32,107]:List UInt8),([99,49,49,70]:List UInt8)].getD v4_0.toNat [])) fun r5=>
    Option.bind (m_course ([((0:Int),(13:Int)),((0:Int),(14:Int))],((2:Int),((0:Int),((0:Int),((0:Int),((0:Int),(0:Int))))))) r5 (0:Int)) fun r6=>
    Option.bind (cond (!(decide (r6.2.2=(0:Int)))) (some default) (m_text30 r6.1)) fun r7=>
    gd ((!(!(!(decide (r6.2.2=(0:Int))))) || (zi v4_0 [qJ,qI,qH,qG,qF,(r2++qo)].length))) <|
    cond (cond (cond (cond (!(decide (r6.2.2=(0:Int)))) true (!(r7 == ([qJ,qI,qH,qG,qF,(r2++qo)].getD v4_0.toNat [])))) true (!(decide (r6.2.1.2.1=(1:Int))))) true (cond (decide (v4_0=(4:Int))) (!(decide (r6.2.1.2.2.1=(1:Int)))) false)) (some (.inr false)) (gd ((!((decide (v4_0=(1:Int)))&&!(!(decide ((r6.2.1.1.length:Int)=(2:Int))))) || (zi (1:Int) r6.2.1.1.length))) <|
    cond (cond (decide (v4_0=(1:Int))) (cond (!(decide ((r6.2.1.1.length:Int)=(2:Int)))) true (!(GTy.beq qK (r6.2.1.1.getD (1:Int).toNat qK.zero) ((1:Int),(14:Int))))) false) (some (.inr false)) (gd ((zk (v4_0+(1:Int)))) <|
    m_lives30_L4 r2 n (v4_0+(1:Int))))) (some (.inl ()))
def m_lives30 :Option (Bool):=
    Option.bind (yE [(13:Int),(14:Int)] (0:Int) (1:Int) (1:Int) true) fun r1=>
    Option.bind (m_text30 r1.1) fun r2=>
    gd ((decide (r2.length+qo.length≤140737488355328))) <|
    Option.bind (m_lives30_L4 r2 zB (0:Int)) fun o3=>
    sm o3 (fun o3=>
    some true) (fun q=>some q)
theorem w_lives30  (r:(Bool)) (h:m_lives30 =some r):AC cx 14 [] [] (fun sv h=>sv=.a (.c (.val (.bool r)))∧h=[]):=by
  unfold m_lives30 at h;refine zE zv Tryd.func14 rfl Tryd.ntmps14 rfl rfl (res:=[.tmp 0]) rfl<|zu<|zq<|zj zv rfl rfl<|zu<|zq<|zj zv rfl rfl<|zb (Wk.frz (id:=12) rfl)<|zu ?_
  obtain ⟨r1,hr1,h⟩:=bd h;refine zq<|zl zv rfl rfl<|xL (Wk.frz (id:=16) rfl)<|zo (w_cross _ _ _ _ _ (some 2) r1 hr1) rfl ⟨rfl,rfl⟩ rfl Tryd.func9 rfl rfl rfl rfl rfl rfl<|zj zv rfl rfl<|zu<|zq<|zj zv rfl rfl<|zb (Wk.frz (id:=20) rfl)<|zu ?_
  obtain ⟨r2,hr2,h⟩:=bd h;obtain ⟨hG13,h⟩:=zw h;simp only [qo] at hG13;refine zq<|zl zv rfl (by simp only [hG13,oc]) ?_
  refine zo (w_text30 _ (some r1.1.length) r2 hr2) rfl ⟨rfl,rfl⟩ rfl Tryd.func12 rfl rfl rfl (by simp only [hG13,oc]) rfl rfl ?_;refine zj zv rfl (by simp_all) ?_;refine zb (Wk.frz (id:=24) rfl)<|zb (Wk.conv (s:=5) (.a (.c (.lst .str [qJ,qI,qH,qG,qF,(r2++qo)] (some 6)))) rfl (fun _ _ _ _ hv=>hv))<|zu<|zu<|zq<|zj zv rfl rfl ?_
  obtain ⟨o3,ho3,hk3⟩:=bd h;refine zr (fun o3:Unit=>⟨[],[]⟩) (fun o'=>Sum.inl o'=o3) ?_ ?_
  ·have h:=ho3
   refine zd<|zb (Wk.pick [6,1,4,5] [1] rfl rfl)<|zp (fun y:Nat×Int=>[(6,.a (.c (.val (.int .i64 y.2))))]) (fun y:Nat×Int=>[]) (fun y:Nat×Int=>m_lives30_L4 r2 y.1 y.2=some o3) (fun y:Nat×Int=>y.1) (zB,(0:Int)) h ?_
   rintro ⟨n,v4_0⟩ h;replace h:m_lives30_L4 r2 n v4_0=some o3:=h
   rcases n with _ | n
   · cases (show (none:Option _)=some _ from h)
   rw [m_lives30_L4] at h
   try dsimp only
   refine zu<|zu<|zq<|zj zv rfl rfl ?_
   revert h
   refine xC rfl rfl (fun hc h=>?_) (fun hc h=>?_)
   ·refine za<|zu<|zd<|zu ?_
    obtain ⟨hG12,h⟩:=zw h;obtain ⟨r5,hr5,h⟩:=bd h;obtain ⟨r6,hr6,h⟩:=bd h
    apply ax_cut
    ·
      refine zI [1,2,3,4,5,11] (by kernel_rfl) rfl (N:=15)<|zf (fuel:=10) (ds':=⟨#[true,true,true,true,true,false,false,false,false,false,false,false,false,false,false],true,true,true⟩) zv [(0,3),(1,0),(2,0),(3,0),(4,1)] (by kernel_rfl) rfl (by simp only [hG12,oc]) ?_
      refine zg (by kernel_rfl) (zc (i:=5) ?_ (zc (i:=11) ?_ zn))
      ·
        refine zP rfl<|zD (i:=5) (listed':=#[true,true,true,true,true,true,false,false,false,false,false,false,false,false,false]) (pre':=true) [] (w_row30 _  r5 hr5) rfl rfl rfl rfl ⟨rfl,rfl⟩ rfl Tryd.func43 rfl rfl rfl (by simp only [hG12,oc]) rfl rfl PassH.nil ?_
        rintro _ _ ⟨rfl,rfl⟩;refine ⟨_,_,rfl,rfl,?_⟩;refine zg (by kernel_rfl) (zc (i:=6) ?_ (zc (i:=11) ?_ zn))
        ·
          refine zP rfl<|zD (i:=6) (listed':=#[true,true,true,true,true,true,true,false,false,false,false,false,false,false,false]) (pre':=true) [] (w_course _ _ _ (some 2) none r6 hr6) rfl rfl rfl rfl ⟨rfl,rfl⟩ rfl Tryd.func11 rfl rfl rfl (by simp only [hG12,oc]) rfl rfl PassH.nil ?_
          rintro _ _ ⟨rfl,rfl⟩;refine ⟨_,_,rfl,rfl,?_⟩;refine zf (fuel:=0) (ds':=⟨#[true,true,true,true,true,true,true,true,true,true,true,true,true,true,true],false,false,false⟩) zv [(7,0),(8,0),(9,0),(10,0),(11,4),(12,0),(13,2),(14,0)] (by kernel_rfl) rfl (by simp only [hG12,oc]) ?_;refine zm (by kernel_rfl) ?_;exact ⟨rfl,Wk.pick [1,4,5,6,7,8,9] [1,8] rfl rfl⟩
        ·
          refine xz zv (i:=11) rfl rfl rfl (by simp only [hG12,oc]) rfl ?_;refine zg (by kernel_rfl) (zc (i:=6) ?_ zn);refine zP rfl<|zD (i:=6) (listed':=#[true,true,true,true,true,true,true,false,false,false,false,true,false,false,false]) (pre':=true) [] (w_course _ _ _ (some 2) none r6 hr6) rfl rfl rfl rfl ⟨rfl,rfl⟩ rfl Tryd.func11 rfl rfl rfl (by simp only [hG12,oc]) rfl rfl PassH.nil ?_
          rintro _ _ ⟨rfl,rfl⟩;refine ⟨_,_,rfl,rfl,?_⟩;refine zf (fuel:=0) (ds':=⟨#[true,true,true,true,true,true,true,true,true,true,true,true,true,true,true],false,false,false⟩) zv [(7,0),(8,0),(9,0),(10,0),(12,0),(13,2),(14,0)] (by kernel_rfl) rfl (by simp only [hG12,oc]) ?_;refine zm (by kernel_rfl) ?_;exact ⟨rfl,Wk.pick [1,4,5,6,7,8,9] [1,8] rfl rfl⟩
      ·
        refine xz zv (i:=11) rfl rfl rfl (by simp only [hG12,oc]) rfl ?_;refine zg (by kernel_rfl) (zc (i:=5) ?_ zn);refine zP rfl<|zD (i:=5) (listed':=#[true,true,true,true,true,true,false,false,false,false,false,true,false,false,false]) (pre':=true) [] (w_row30 _  r5 hr5) rfl rfl rfl rfl ⟨rfl,rfl⟩ rfl Tryd.func43 rfl rfl rfl (by simp only [hG12,oc]) rfl rfl PassH.nil ?_
        rintro _ _ ⟨rfl,rfl⟩;refine ⟨_,_,rfl,rfl,?_⟩;refine zg (by kernel_rfl) (zc (i:=6) ?_ zn);refine zP rfl<|zD (i:=6) (listed':=#[true,true,true,true,true,true,true,false,false,false,false,true,false,false,false]) (pre':=true) [] (w_course _ _ _ (some 2) none r6 hr6) rfl rfl rfl rfl ⟨rfl,rfl⟩ rfl Tryd.func11 rfl rfl rfl (by simp only [hG12,oc]) rfl rfl PassH.nil ?_
        rintro _ _ ⟨rfl,rfl⟩;refine ⟨_,_,rfl,rfl,?_⟩;refine zf (fuel:=0) (ds':=⟨#[true,true,true,true,true,true,true,true,true,true,true,true,true,true,true],false,false,false⟩) zv [(7,0),(8,0),(9,0),(10,0),(12,0),(13,2),(14,0)] (by kernel_rfl) rfl (by simp only [hG12,oc]) ?_;refine zm (by kernel_rfl) ?_;exact ⟨rfl,Wk.pick [1,4,5,6,7,8,9] [1,8] rfl rfl⟩
    refine zu<|zu ?_
    obtain ⟨r7,hr7,h⟩:=bd h;obtain ⟨hG11,h⟩:=zw h;simp only [qo,qJ,qI,qH,qG,qF] at hG11;refine zI [] (by kernel_rfl) rfl (N:=27)<|zf (fuel:=19) (ds':=⟨#[true,true,true,true,false,true,true,true,true,false,false,false,false,false,false,false,false,false,false,false,false,false,false,false,false,false,false],true,true,true⟩) zv [(0,0),(1,0),(2,0),(3,0),(5,0),(6,0),(7,0),(8,1)] (by kernel_rfl) rfl (by exact (by first | (revert hg9 hG11; generalize (r7 == ([qJ,qI,qH,qG,qF,(r2++qo)].getD v4_0.toNat []))=b0; generalize (zi v4_0 [qJ,qI,qH,qG,qF,(r2++qo)].length)=b1; generalize (decide (r6.2.1.2.1=(1:Int)))=b2; generalize (decide (r6.2.2=(0:Int)))=b3; generalize (decide (v4_0=(4:Int)))=b4; revert b0 b1 b2 b3 b4; decide) | (simp only [hg9,hG11,oc]; done) | (simp_all; done) | (simp only [hg9,hG11,oc]; rfl))) ?_
    refine zg (by kernel_rfl) (zc (i:=4) ?_ zn);refine qL (.c (.str r7)) (i:=4) (listed':=#[true,true,true,true,true,true,true,true,true,false,false,false,false,false,false,false,false,false,false,false,false,false,false,false,false,false,false]) rfl rfl rfl rfl rfl rfl rfl rfl (fun hg9=>?_) (fun hg9=>?_)
    ·
      replace hr7:=yx hg9 hr7;refine zD (i:=4) (listed':=#[true,true,true,true,true,true,true,true,true,false,false,false,false,false,false,false,false,false,false,false,false,false,false,false,false,false,false]) (pre':=true) [] (w_text30 _ (some r6.1.length) r7 hr7) rfl rfl rfl rfl ⟨rfl,rfl⟩ rfl Tryd.func12 rfl rfl rfl (by exact (by first | (revert hg9 hG11; generalize (r7 == ([qJ,qI,qH,qG,qF,(r2++qo)].getD v4_0.toNat []))=b0; generalize (zi v4_0 [qJ,qI,qH,qG,qF,(r2++qo)].length)=b1; generalize (decide (r6.2.1.2.1=(1:Int)))=b2; generalize (decide (r6.2.2=(0:Int)))=b3; generalize (decide (v4_0=(4:Int)))=b4; revert b0 b1 b2 b3 b4; decide) | (simp only [hg9,hG11,oc]; done) | (simp_all; done) | (simp only [hg9,hG11,oc]; rfl))) rfl rfl PassH.nil ?_;rintro _ _ ⟨rfl,rfl⟩;refine ⟨_,_,rfl,rfl,?_⟩;refine zf (fuel:=0) (ds':=⟨#[true,true,true,true,true,true,true,true,true,true,true,true,true,true,true,true,true,true,true,true,true,true,true,true,true,true,true],false,false,false⟩) zv [(9,0),(10,0),(11,0),(12,0),(13,0),(14,2),(15,0),(16,0),(17,0),(18,0),(19,0),(20,0),(21,0),(22,0),(23,2),(24,0),(25,0),(26,0)] (by kernel_rfl) rfl (by exact (by first | (revert hg9 hG11; generalize (r7 == ([qJ,qI,qH,qG,qF,(r2++qo)].getD v4_0.toNat []))=b0; generalize (zi v4_0 [qJ,qI,qH,qG,qF,(r2++qo)].length)=b1; generalize (decide (r6.2.1.2.1=(1:Int)))=b2; generalize (decide (r6.2.2=(0:Int)))=b3; generalize (decide (v4_0=(4:Int)))=b4; revert b0 b1 b2 b3 b4; decide) | (simp only [hg9,hG11,oc]; done) | (simp_all; done) | (simp only [hg9,hG11,oc]; rfl))) ?_;refine zm (by kernel_rfl)<|zb (Wk.conv (s:=68) (.a (.c (.val (.bool (cond (cond (cond (!(decide (r6.2.2=(0:Int)))) true (!(r7 == ([qJ,qI,qH,qG,qF,(r2++qo)].getD v4_0.toNat [])))) true (!(decide (r6.2.1.2.1=(1:Int))))) true (cond (decide (v4_0=(4:Int))) (!(decide (r6.2.1.2.2.1=(1:Int)))) false)))))) rfl (fun _ _ _ _ hv=>hv)) ?_
      revert h
      refine xC rfl rfl (fun hc h=>?_) (fun hc h=>?_)
      ·refine zu<|zq<|zj zv rfl rfl<|zh ?_
       obtain rfl:=Option.some.inj h;have h:=hk3;dsimp only [sm] at h;obtain rfl:=Option.some.inj h;refine ⟨_,(Wk.pick [0] [] rfl rfl),_,_,rfl,rfl,?_⟩;exact ⟨rfl,rfl⟩
      refine za<|zu ?_
      obtain ⟨hG9,h⟩:=zw h;refine zq<|qi 13 zv rfl (by revert hG9; generalize (decide ((r6.2.1.1.length:Int)=(2:Int)))=b0; generalize (zi (1:Int) r6.2.1.1.length)=b1; generalize (decide (v4_0=(1:Int)))=b2; revert b0 b1 b2; decide) ?_
      refine al_guardM ((decide (v4_0=(1:Int)))&&!(!(decide ((r6.2.1.1.length:Int)=(2:Int))))) (.c (.val (.bool (!(GTy.beq qK (r6.2.1.1.getD (1:Int).toNat qK.zero) ((1:Int),(14:Int))))))) rfl rfl rfl rfl rfl rfl (fun hq10=>?_) (fun hq10=>?_)
      ·try simp only [ob2,cond_true,cond_false] at hq10
       all_goals
        refine al_neqA ko_lives30_39 rfl ⟨rfl,rfl⟩ rfl rfl (by simp only [hG9,hq10,oc]) rfl (by simp only [hG9,hq10,oc]) rfl (by simp only [hG9,hq10,oc]) rfl (by simp only [hG9,hq10,oc]) ?_;refine zj zv rfl (by simp only [hG9,hq10,oc]) ?_
        revert h
        refine xC rfl rfl (fun hc h=>?_) (fun hc h=>?_)
        ·refine zu<|zq<|zj zv rfl rfl<|zh ?_
         obtain rfl:=Option.some.inj h;have h:=hk3;dsimp only [sm] at h;obtain rfl:=Option.some.inj h;refine ⟨_,(Wk.pick [0] [] rfl rfl),_,_,rfl,rfl,?_⟩;exact ⟨rfl,rfl⟩
        refine za ?_;obtain ⟨hG8,h⟩:=zw h;refine zq<|zj zv rfl (by simp only [hG8,oc]) ?_
        refine ⟨(n,_),h,Nat.lt_succ_self _,(Wk.pick [6,1,4,5] [1] rfl rfl)⟩
      ·try simp only [ob2,cond_true,cond_false] at hq10
       all_goals
        refine zj zv rfl (by revert hG9 hq10; generalize (decide ((r6.2.1.1.length:Int)=(2:Int)))=b0; generalize (zi (1:Int) r6.2.1.1.length)=b1; generalize (decide (v4_0=(1:Int)))=b2; revert b0 b1 b2; decide) ?_
        revert h
        refine xC rfl rfl (fun hc h=>?_) (fun hc h=>?_)
        ·refine zu<|zq<|zj zv rfl rfl<|zh ?_
         obtain rfl:=Option.some.inj h;have h:=hk3;dsimp only [sm] at h;obtain rfl:=Option.some.inj h;refine ⟨_,(Wk.pick [0] [] rfl rfl),_,_,rfl,rfl,?_⟩;exact ⟨rfl,rfl⟩
        refine za ?_;obtain ⟨hG8,h⟩:=zw h;refine zq<|zj zv rfl (by simp only [hG8,oc]) ?_
        refine ⟨(n,_),h,Nat.lt_succ_self _,(Wk.pick [6,1,4,5] [1] rfl rfl)⟩
    ·
      refine zf (fuel:=0) (ds':=⟨#[true,true,true,true,true,true,true,true,true,true,true,true,true,true,true,true,true,true,true,true,true,true,true,true,true,true,true],false,false,true⟩) zv [(9,0),(10,0),(11,0),(12,0),(13,0),(14,2),(15,0),(16,0),(17,0),(18,0),(19,0),(20,0),(21,0),(22,0),(23,2),(24,0),(25,0),(26,0)] (by kernel_rfl) rfl (by exact (by first | (revert hg9 hG11; generalize (r7 == ([qJ,qI,qH,qG,qF,(r2++qo)].getD v4_0.toNat []))=b0; generalize (zi v4_0 [qJ,qI,qH,qG,qF,(r2++qo)].length)=b1; generalize (decide (r6.2.1.2.1=(1:Int)))=b2; generalize (decide (r6.2.2=(0:Int)))=b3; generalize (decide (v4_0=(4:Int)))=b4; revert b0 b1 b2 b3 b4; decide) | (simp only [hg9,hG11,oc]; done) | (simp_all; done) | (simp only [hg9,hG11,oc]; rfl))) ?_;refine zm (by kernel_rfl)<|zb (Wk.conv (s:=68) (.a (.c (.val (.bool (cond (cond (cond (!(decide (r6.2.2=(0:Int)))) true (!(r7 == ([qJ,qI,qH,qG,qF,(r2++qo)].getD v4_0.toNat [])))) true (!(decide (r6.2.1.2.1=(1:Int))))) true (cond (decide (v4_0=(4:Int))) (!(decide (r6.2.1.2.2.1=(1:Int)))) false)))))) rfl (fun _ _ _ _ hv=>hv)) ?_
      revert h
      refine xC rfl rfl (fun hc h=>?_) (fun hc h=>?_)
      ·refine zu<|zq<|zj zv rfl rfl<|zh ?_
       obtain rfl:=Option.some.inj h;have h:=hk3;dsimp only [sm] at h;obtain rfl:=Option.some.inj h;refine ⟨_,(Wk.pick [0] [] rfl rfl),_,_,rfl,rfl,?_⟩;exact ⟨rfl,rfl⟩
      refine za<|zu ?_
      obtain ⟨hG9,h⟩:=zw h;refine zq<|qi 13 zv rfl (by revert hG9; generalize (decide ((r6.2.1.1.length:Int)=(2:Int)))=b0; generalize (zi (1:Int) r6.2.1.1.length)=b1; generalize (decide (v4_0=(1:Int)))=b2; revert b0 b1 b2; decide) ?_
      refine al_guardM ((decide (v4_0=(1:Int)))&&!(!(decide ((r6.2.1.1.length:Int)=(2:Int))))) (.c (.val (.bool (!(GTy.beq qK (r6.2.1.1.getD (1:Int).toNat qK.zero) ((1:Int),(14:Int))))))) rfl rfl rfl rfl rfl rfl (fun hq10=>?_) (fun hq10=>?_)
      ·try simp only [ob2,cond_true,cond_false] at hq10
       all_goals
        refine al_neqA ko_lives30_39 rfl ⟨rfl,rfl⟩ rfl rfl (by simp only [hG9,hq10,oc]) rfl (by simp only [hG9,hq10,oc]) rfl (by simp only [hG9,hq10,oc]) rfl (by simp only [hG9,hq10,oc]) ?_;refine zj zv rfl (by simp only [hG9,hq10,oc]) ?_
        revert h
        refine xC rfl rfl (fun hc h=>?_) (fun hc h=>?_)
        ·refine zu<|zq<|zj zv rfl rfl<|zh ?_
         obtain rfl:=Option.some.inj h;have h:=hk3;dsimp only [sm] at h;obtain rfl:=Option.some.inj h;refine ⟨_,(Wk.pick [0] [] rfl rfl),_,_,rfl,rfl,?_⟩;exact ⟨rfl,rfl⟩
        refine za ?_;obtain ⟨hG8,h⟩:=zw h;refine zq<|zj zv rfl (by simp only [hG8,oc]) ?_
        refine ⟨(n,_),h,Nat.lt_succ_self _,(Wk.pick [6,1,4,5] [1] rfl rfl)⟩
      ·try simp only [ob2,cond_true,cond_false] at hq10
       all_goals
        refine zj zv rfl (by revert hG9 hq10; generalize (decide ((r6.2.1.1.length:Int)=(2:Int)))=b0; generalize (zi (1:Int) r6.2.1.1.length)=b1; generalize (decide (v4_0=(1:Int)))=b2; revert b0 b1 b2; decide) ?_
        revert h
        refine xC rfl rfl (fun hc h=>?_) (fun hc h=>?_)
        ·refine zu<|zq<|zj zv rfl rfl<|zh ?_
         obtain rfl:=Option.some.inj h;have h:=hk3;dsimp only [sm] at h;obtain rfl:=Option.some.inj h;refine ⟨_,(Wk.pick [0] [] rfl rfl),_,_,rfl,rfl,?_⟩;exact ⟨rfl,rfl⟩
        refine za ?_;obtain ⟨hG8,h⟩:=zw h;refine zq<|zj zv rfl (by simp only [hG8,oc]) ?_
        refine ⟨(n,_),h,Nat.lt_succ_self _,(Wk.pick [6,1,4,5] [1] rfl rfl)⟩
   refine zt ?_;exact ⟨_,Option.some.inj h,(Wk.pick [] [] rfl rfl)⟩
  ·rintro o3 rfl
   have h:=hk3;dsimp only [sm] at h;refine zu<|zq<|zj zv rfl rfl ?_
   cases h;exact zh ⟨_,(Wk.pick [0] [] rfl rfl),_,_,rfl,rfl,rfl,rfl⟩
end Go.Proofs.YtihcolehefloeaaDoor

/- CoursesErrors, plain. -/
namespace Go.Proofs.YtihcolehefloeaaDoor
open Go.RowKit
theorem lives30_eq:m_lives30=some true:=by kernel_rfl
end Go.Proofs.YtihcolehefloeaaDoor

/- Courses, plain: what a row's yarn does, as the law tells it. -/
namespace Go.Proofs.YtihcolehefloeaaDoor
open Go.RowKit
theorem wk17_at (d:Int) (m j:Nat) (v:Int) (hj:j < m):(if d=0 then v+(m:Int) - 1 - (j:Int) else v+(j:Int))=v+(dirI d m j:Nat):=by
  unfold dirI
  split <;> omega
def workN (d y:Int) (s:qw) (v:Int) (j:Nat):List qx:=if s.1=7 then [] else (List.range j).map fun (q:Nat)=>((if s.1=6 then (5:Int) else 4),d,(yb s,v+(dirI d (make s).toNat q:Nat)),y,(0:Int))
theorem dir_made (d:Int) (l:List qw) (i:Nat):dirL d (xw l i)=(List.range (make (l.getD i zS)).toNat).map fun (q:Nat)=>(yb (l.getD i zS),nx l i+(dirI d (make (l.getD i zS)).toNat q:Nat)):=by
  unfold dirL dirI xw
  split
  · refine List.ext_getElem (by simp) fun k h1 h2=>?_
    simp
  · rfl
theorem workN_eq (d y:Int) {l:List qw} (i:Nat):workN d y (l.getD i zS) (nx l i) (make (l.getD i zS)).toNat=workOf d y (l.getD i zS) (xw l i):=by
  unfold workN workOf
  by_cases h7:(l.getD i zS).1=7
  · rw [if_pos h7,if_pos h7]
  · rw [if_neg h7,if_neg h7]
    by_cases h6:(l.getD i zS).1=6
    · rw [if_pos h6,if_pos h6]
      have hm:(make (l.getD i zS)).toNat≤1:=by
        unfold make
        split
        · rw [if_neg (by omega)]; simp
        · simp
      unfold tuckOps xw;rw [List.map_map];refine List.map_congr_left fun q hq=>?_
      have hq':q < (make (l.getD i zS)).toNat:=by simpa using hq
      have:dirI d (make (l.getD i zS)).toNat q=q:=by unfold dirI; split <;> omega
      simp only [Function.comp,this]
    · rw [if_neg h6,if_neg h6]
      unfold knitOps;rw [dir_made,List.map_map]
      rfl
theorem workN_len (d y:Int) (s:qw) (v:Int) (j:Nat):(workN d y s v j).length≤j:=by
  unfold workN
  split <;> simp
theorem wk17 {l:List qw} (h:Row l) (fi:List Int) (d y:Int) (i:Nat) (hi:i < l.length) (hf:fi.length=l.length) (hfi:fi.getD i 0=nx l i) (acc:List qx) (ha:acc.length≤100000000) :
    qd l fi y d i (make (l.getD i zS)) zB 0 acc=some (acc++workOf d y (l.getD i zS) (xw l i)):=by
  have hml:=xh (l.getD i zS);have hnx:=h.nx_le i (by omega);have hok:=yv h.all i hi;rw [← workN_eq d y i];obtain ⟨m,hm⟩:∃ m:Nat,make (l.getD i zS)=(m:Int):=⟨_,(Int.toNat_of_nonneg hml.1).symm⟩
  have:=xk (fun n (s:Int×List qx)=>qd l fi y d i (make (l.getD i zS)) n s.1 s.2) m (fun j=>((j:Int),acc++workN d y (l.getD i zS) (nx l i) j)) (0,acc) (acc++workN d y (l.getD i zS) (nx l i) (make (l.getD i zS)).toNat) (by simp [workN]) (zH (by omega)) (fun n j hj=>by
    show qd l fi y d i (make (l.getD i zS)) (n+1) j (acc++workN d y (l.getD i zS) (nx l i) j)=qd l fi y d i (make (l.getD i zS)) n ((j+1:Nat):Int) (acc++workN d y (l.getD i zS) (nx l i) (j+1));have hwl:=workN_len d y (l.getD i zS) (nx l i) j;have g1:zi (i:Int) l.length=true:=by simp [zi]; omega
    have g2:zi (i:Int) fi.length=true:=by rw [hf]; exact g1
    have hn:zk ((j:Int)+1)=true:=by simp [zk]; omega
    have h18:cond (decide (d=(0:Int))) (gd ((zi (i:Int) fi.length)&&(zk (nx l i+(m:Int)))&&(zk ((nx l i+(m:Int)) - (1:Int)))&&(zk (((nx l i+(m:Int)) - (1:Int)) - (j:Int)))) <|
      some (((nx l i+(m:Int)) - (1:Int)) - (j:Int))) (some (nx l i+(j:Int)))=some (nx l i+(dirI d m j:Nat)):=by
      rw [← wk17_at d m j (nx l i) hj]
      by_cases h0:d=0
      · rw [qS (decide_eq_true h0),if_pos h0,zG (by rw [g2]; simp [zk]; omega)]
      · rw [qg (decide_eq_false h0),if_neg h0]
    have h20:cond (cond (decide ((l.getD i zS).1=(2:Int))) true (decide ((l.getD i zS).1=(5:Int)))) (some (1:Int)) (some (0:Int))=some (yb (l.getD i zS)):=by
      unfold yb;rw [hok];cases decide ((l.getD i zS).1=2) <;> cases decide ((l.getD i zS).1=5) <;> rfl
    have h21:cond (decide ((l.getD i zS).1=(6:Int))) (some (5:Int)) (some (4:Int))=some (if (l.getD i zS).1=6 then (5:Int) else 4):=by
      by_cases h6:(l.getD i zS).1=6
      · rw [qS (decide_eq_true h6),if_pos h6]
      · rw [qg (decide_eq_false h6),if_neg h6]
    rw [qd,hm,qS (decide_eq_true (by omega)),Int.toNat_natCast,hfi,zG (by rw [g2]; simp [zk]; omega),h18,Option.bind_some];rw [zG (by rw [g1]; simp),h20,Option.bind_some,zG g1,h21,Option.bind_some,zG g1]
    by_cases h7:(l.getD i zS).1=7
    · rw [qg (by rw [decide_eq_true h7]; rfl),zG hn]
      unfold workN;rw [if_pos h7,if_pos h7]
      rfl
    · rw [qS (by rw [decide_eq_false h7]; rfl),zG (by simp only [ze,List.length_append,List.length_singleton,Bool.and_eq_true,decide_eq_true_eq]; omega),zG hn]
      have e:workN d y (l.getD i zS) (nx l i) (j+1)=workN d y (l.getD i zS) (nx l i) j++[((if (l.getD i zS).1=6 then (5:Int) else 4),d,(yb (l.getD i zS),nx l i+(dirI d m j:Nat)),y,(0:Int))]:=by
        unfold workN;rw [if_neg h7,if_neg h7,List.range_succ,List.map_append,hm,Int.toNat_natCast]
        rfl
      rw [e,List.append_assoc]
      rfl) (fun n=>by
    show qd l fi y d i (make (l.getD i zS)) (n+1) (m:Int) _=_;rw [qd,hm,qg (by simp),Int.toNat_natCast])
  exact this
def cols (l:List qw) (y:Int) (k:Nat):List Nat:=(List.range k).filter fun i=>decide ((l.getD i zS).2.1=y)
theorem cols_mem {l:List qw} {y:Int} {k i:Nat} (h:i∈cols l y k):i < k:=by
  have:=(List.mem_filter.1 h).1
  simpa using this
theorem cols_len (l:List qw) (y:Int) (k:Nat):(cols l y k).length≤k:=Nat.le_trans (List.length_filter_le _ _) (by simp)
theorem cols_succ (l:List qw) (y:Int) (k:Nat):cols l y (k+1)=cols l y k++(if (l.getD k zS).2.1=y then [k] else []):=by
  unfold cols;rw [List.range_succ,List.filter_append]
  congr 1
  by_cases h:(l.getD k zS).2.1=y
  · rw [if_pos h,List.filter_cons_of_pos (by simpa using h)]; rfl
  · rw [if_neg h,List.filter_cons_of_neg (by simpa using h)]; rfl
theorem wk2 {l:List qw} (hl:l.length≤1000) (y:Int):qn l y zB 0 []=some ((cols l y l.length).map fun i:Nat=>(i:Int)):=
  xk (fun n (s:Int×List Int)=>qn l y n s.1 s.2) l.length (fun k=>((k:Int),(cols l y k).map fun i:Nat=>(i:Int))) (0,[]) _ rfl (zH (by omega)) (fun n k hk=>by
    show qn l y (n+1) k ((cols l y k).map fun i:Nat=>(i:Int))=qn l y n ((k+1:Nat):Int) ((cols l y (k+1)).map fun i:Nat=>(i:Int));have hc:=cols_len l y k;rw [qn,qS (decide_eq_true (by omega)),zG (by simp [zi]; omega),Int.toNat_natCast,cols_succ,List.map_append]
    by_cases h:(l.getD k zS).2.1=y
    · rw [qS (decide_eq_true h),if_pos h,zG (by simp only [ze,List.length_map,List.length_singleton,Bool.and_eq_true,decide_eq_true_eq]; omega),zG (by simp [zk]; omega)]
      rfl
    · rw [qg (decide_eq_false h),if_neg h,zG (by simp [zk]; omega),List.map_nil,List.append_nil]
      rfl) (fun n=>by
    show qn l y (n+1) l.length _=_;rw [qn,qg (by simp)])
def workC (d y:Int) (l:List qw) (i:Nat):List qx:=workOf d y (l.getD i zS) (xw l i)
theorem workTo_0 (y:Int) (l:List qw):∀ k,k≤l.length→xn 0 y l k=((List.range' (l.length - k) k).filter fun i=>decide ((l.getD i zS).2.1=y)).reverse.flatMap (workC 0 y l)
  | 0,_=>rfl
  | k+1,hk=>by
    rw [xn,workTo_0 y l k (by omega),workAt];have e:dirI 0 l.length k=l.length - (k+1):=by unfold dirI; rw [if_pos rfl]; omega
    rw [e,List.range'_succ,show l.length - (k+1)+1=l.length - k by omega]
    by_cases h:(l.getD (l.length - (k+1)) zS).2.1=y
    · rw [if_pos h,List.filter_cons_of_pos (by simpa using h),List.reverse_cons,List.flatMap_append]
      simp [workC]
    · rw [if_neg h,List.filter_cons_of_neg (by simpa using h),List.append_nil]
theorem workTo_1 {d:Int} (hd:d≠0) (y:Int) (l:List qw):∀ k,xn d y l k=(cols l y k).flatMap (workC d y l)
  | 0=>rfl
  | k+1=>by
    rw [xn,workTo_1 hd y l k,workAt,cols_succ,List.flatMap_append];have e:dirI d l.length k=k:=by unfold dirI; rw [if_neg hd]
    rw [e]
    by_cases h:(l.getD k zS).2.1=y
    · rw [if_pos h,if_pos h]; simp [workC]
    · rw [if_neg h,if_neg h]; rfl
theorem workTo_cols (d y:Int) (l:List qw):xn d y l l.length=(dirL d (cols l y l.length)).flatMap (workC d y l):=by
  unfold dirL
  by_cases hd:d=0
  · subst hd
    rw [if_pos rfl,workTo_0 y l l.length (Nat.le_refl _),Nat.sub_self,← List.range_eq_range']
    rfl
  · rw [if_neg hd,workTo_1 hd]
theorem workC_len (d y:Int) (l:List qw) (i:Nat):(workC d y l i).length≤4:=by
  have h1:=xh (l.getD i zS);have h2:=workN_len d y (l.getD i zS) (nx l i) (make (l.getD i zS)).toNat;rw [workN_eq] at h2;unfold workC;omega
theorem flat_len {α β:Type} (f:α→List β) (c:Nat) (h:∀ a,(f a).length≤c):∀ l:List α,(l.flatMap f).length≤c * l.length
  | []=>by simp
  | a :: l=>by
    have h1:=h a;have h2:=flat_len f c h l;rw [List.flatMap_cons,List.length_append,List.length_cons,Nat.mul_succ];omega
theorem wk12 {l:List qw} (h:Row l) (fi:List Int) (d y:Int) (hf:fi.length=l.length) (hfi:∀ i,i < l.length→fi.getD i 0=nx l i) (acc:List qx) (ha:acc.length≤1000) :
    ql l fi y d ((cols l y l.length).map fun i:Nat=>(i:Int)) zB 0 acc=some (acc++xn d y l l.length):=by
  rw [workTo_cols];have hl:=h.len;obtain ⟨cs,hcs⟩:∃ cs,cols l y l.length=cs:=⟨_,rfl⟩
  have hcl:cs.length≤l.length:=by rw [← hcs]; exact cols_len l y l.length
  have hcm:∀ k,k < cs.length→cs.getD k 0 < l.length:=fun k hk=>by
    rw [List.getD_eq_getElem?_getD,List.getElem?_eq_getElem hk];exact cols_mem (k:=l.length) (by rw [hcs]; exact List.getElem_mem hk)
  rw [hcs];have hg:∀ k,k < cs.length→(cs.map fun i:Nat=>(i:Int)).getD k 0=(cs.getD k 0:Nat):=fun k hk=>by
    simp [List.getD_eq_getElem?_getD,List.getElem?_eq_getElem hk]
  exact xk (fun n (s:Int×List qx)=>ql l fi y d (cs.map fun i:Nat=>(i:Int)) n s.1 s.2) cs.length (fun k=>((k:Int),acc++((dirL d cs).take k).flatMap (workC d y l))) (0,acc) _ (by simp) (zH (by omega)) (fun n k hk=>by
    show ql l fi y d (cs.map fun i:Nat=>(i:Int)) (n+1) k (acc++((dirL d cs).take k).flatMap (workC d y l))=ql l fi y d (cs.map fun i:Nat=>(i:Int)) n ((k+1:Nat):Int) (acc++((dirL d cs).take (k+1)).flatMap (workC d y l));have hdl:(dirL d cs).length=cs.length:=dirL_len d cs;have hdi:dirI d cs.length k < cs.length:=dirI_lt hk;have hii:=hcm _ hdi;have hfl:=flat_len (workC d y l) 4 (workC_len d y l) ((dirL d cs).take k);rw [List.length_take] at hfl;have h13:cond (decide (d=(0:Int))) (gd ((zk (((cs.map fun i:Nat=>(i:Int)).length:Int) - (1:Int)))&&(zk ((((cs.map fun i:Nat=>(i:Int)).length:Int) - (1:Int)) - (k:Int)))&&(zi ((((cs.map fun i:Nat=>(i:Int)).length:Int) - (1:Int)) - (k:Int)) (cs.map fun i:Nat=>(i:Int)).length)&&(decide (((((cs.map fun i:Nat=>(i:Int)).length:Int) - (1:Int)) - (k:Int)).toNat < (cs.map fun i:Nat=>(i:Int)).length))) <|
      some ((cs.map fun i:Nat=>(i:Int)).getD ((((cs.map fun i:Nat=>(i:Int)).length:Int) - (1:Int)) - (k:Int)).toNat 0)) (some ((cs.map fun i:Nat=>(i:Int)).getD k 0))=some ((cs.getD (dirI d cs.length k) 0:Nat):Int):=by
      unfold dirI
      by_cases h0:d=0
      · rw [qS (decide_eq_true h0),if_pos h0,List.length_map,zG (by simp [zk,zi]; omega),show (((cs.length:Int) - 1) - (k:Int)).toNat=cs.length - 1 - k by omega,hg _ (by omega)]
      · rw [qg (decide_eq_false h0),if_neg h0,hg _ hk]
    rw [ql,qS (decide_eq_true (by rw [List.length_map]; omega)),zG (by simp only [zi,List.length_map,Int.toNat_natCast,Bool.and_eq_true,decide_eq_true_eq]; omega),Int.toNat_natCast,h13,Option.bind_some,zG (by simp only [zi,Bool.and_eq_true,decide_eq_true_eq]; omega),Int.toNat_natCast,stmakes_eq,Option.bind_some];rw [wk17 h fi d y _ hii hf (hfi _ hii) _ (by rw [List.length_append]; omega),Option.bind_some,zG (by simp [zk]; omega),yF (dirL d cs) 0 k (by omega),List.flatMap_append,dirL_get d cs 0 k hk];simp only [List.flatMap_cons,List.flatMap_nil,List.append_nil,List.append_assoc]
    rfl) (fun n=>by
    show ql l fi y d (cs.map fun i:Nat=>(i:Int)) (n+1) cs.length _=_;rw [ql,qg (by simp),List.take_of_length_le (by rw [dirL_len]; exact Nat.le_refl _)])
def pre30 (s d y:Int):List qx:=if s=0 then [(1,siD d,(0,0),y,0)] else if s=enD d then [yH y (siD d)] else []
def usedI (l:List qw) (y:Int):Bool:=l.any fun s=>decide (s.2.1=y)
theorem used_cols (l:List qw) (y:Int):usedI l y=decide ((cols l y l.length).length≠0):=by
  cases hu:usedI l y with
  | true=>
    obtain ⟨s,hs,h2⟩:=List.any_eq_true.1 hu;obtain ⟨i,hi,e⟩:=List.getElem_of_mem hs
    have:i∈cols l y l.length:=List.mem_filter.2 ⟨by simpa using hi,by rw [List.getD_eq_getElem?_getD,List.getElem?_eq_getElem hi]; show decide ((l[i]).2.1=y)=true; rw [e]; exact h2⟩
    have:=List.length_pos_of_mem this
    rw [decide_eq_true (by omega)]
  | false=>
    have:cols l y l.length=[]:=List.filter_eq_nil_iff.2 fun i hi h=>by
      have hi':i < l.length:=by simpa using hi
      have h3:=of_decide_eq_true h;rw [List.getD_eq_getElem?_getD,List.getElem?_eq_getElem hi'] at h3
      have:usedI l y=true:=List.any_eq_true.2 ⟨l[i],List.getElem_mem hi',decide_eq_true h3⟩
      rw [hu] at this;cases this
    rw [this]
    rfl
theorem worked_eq {l:List qw} (h:Row l) (fi:List Int) (y s d:Int) (hf:fi.length=l.length) (hfi:∀ i,i < l.length→fi.getD i 0=nx l i) (hd:d=0∨d=1) (hs:0≤s∧s≤2) :
    m_worked30 l fi y s d=some (if usedI l y=true then (pre30 s d y++xn d y l l.length)++[yH y d] else []):=by
  have hl:=h.len;unfold m_worked30;rw [wk2 (by omega),Option.bind_some,List.length_map,used_cols]
  by_cases h0:(cols l y l.length).length=0
  · rw [qS (decide_eq_true (by omega)),if_neg (by simp [h0])]
  · rw [qg (decide_eq_false (by omega)),if_pos (by simp [h0])]
    have hw:IntKind.wrap .u8 ((1:Int) - d)=siD d:=by
      unfold siD
      rcases hd with rfl | rfl <;> rfl
    have he:(1:Int)+d=enD d:=by
      unfold enD
      rcases hd with rfl | rfl <;> rfl
    have hp0:([((6:Int),((0:Int),(((1:Int),(1:Int)),(y,(0:Int))))),((6:Int),((1:Int),(((0:Int),(40:Int)),(y,(0:Int)))))]:List qx).getD (siD d).toNat qD.zero=yH y (siD d):=by
      unfold siD yH
      rcases hd with rfl | rfl <;> rfl
    have hp1:([((6:Int),((0:Int),(((1:Int),(1:Int)),(y,(0:Int))))),((6:Int),((1:Int),(((0:Int),(40:Int)),(y,(0:Int)))))]:List qx).getD d.toNat qD.zero=yH y d:=by
      unfold yH
      rcases hd with rfl | rfl <;> rfl
    have hsi:siD d=0∨siD d=1:=by unfold siD; rcases hd with rfl | rfl <;> simp
    have hpre:(pre30 s d y).length≤1:=by unfold pre30; split <;> (try split) <;> simp
    have hwl:=workTo_len d y l l.length;rw [hw,he,hp0,hp1];have step:∀ (k:List qx→Option T4),(Option.bind (cond (decide (s=(0:Int))) (gd ((ze 40 (([]:List qx).length+[((1:Int),(siD d,(((0:Int),(0:Int)),(y,(0:Int)))))].length))) <|
        some (([]:List qx)++[((1:Int),(siD d,(((0:Int),(0:Int)),(y,(0:Int)))))])) (some ([]:List qx))) fun o7=>
        gd ((zk s)&&(zk d)&&(zk (enD d))) <|
        Option.bind (cond (decide (s=enD d)) (gd ((zi (siD d) [((6:Int),((0:Int),(((1:Int),(1:Int)),(y,(0:Int))))),((6:Int),((1:Int),(((0:Int),(40:Int)),(y,(0:Int)))))].length)&&(decide ((siD d).toNat < [((6:Int),((0:Int),(((1:Int),(1:Int)),(y,(0:Int))))),((6:Int),((1:Int),(((0:Int),(40:Int)),(y,(0:Int)))))].length))&&(ze 40 (o7.length+[yH y (siD d)].length))) <|
          some (o7++[yH y (siD d)])) (some o7)) k)=k (pre30 s d y):=fun k=>by
      unfold pre30;have hen:enD d=1∨enD d=2:=by unfold enD; rcases hd with rfl | rfl <;> simp
      by_cases q0:s=0
      · rw [qS (decide_eq_true q0),if_pos q0,zG (by rfl),Option.bind_some,zG (by simp [zk]; omega),qg (decide_eq_false (by omega))]
        rfl
      · rw [qg (decide_eq_false q0),if_neg q0,Option.bind_some,zG (by simp [zk]; omega)]
        by_cases q1:s=enD d
        · rw [qS (decide_eq_true q1),if_pos q1,zG (by rcases hsi with e | e <;> rw [e] <;> rfl)]
          rfl
        · rw [qg (decide_eq_false q1),if_neg q1]
          rfl
    rw [step,wk12 h fi d y hf hfi _ (by omega),Option.bind_some,zG (by
      simp only [ze,List.length_append,List.length_singleton,List.length_cons,List.length_nil,zi,Bool.and_eq_true,decide_eq_true_eq];omega)]
end Go.Proofs.YtihcolehefloeaaDoor
