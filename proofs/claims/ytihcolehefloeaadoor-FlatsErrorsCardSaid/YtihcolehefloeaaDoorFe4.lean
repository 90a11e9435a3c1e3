/- Part 4 of 5 of the proof. -/
import Derived.Test.YtihcolehefloeaaDoorFe3
set_option linter.unusedSimpArgs false
set_option linter.unusedVariables false
set_option maxRecDepth 20000
set_option maxHeartbeats 4000000
/- Models of the functions of edges, printed by tr.py. -/
namespace Go.Proofs.YtihcolehefloeaaDoor
set_option linter.unusedSimpArgs false
set_option linter.unusedVariables false
open Go.RowKit
def qM (a0:T3):Nat→Int→Option ((Unit)⊕(Int))
  | 0,_=>none
  | n+1,v2_0=>
    cond (decide (v2_0 < (a0.length:Int))) (gd ((zi v2_0 a0.length)) <|
    gd ((!((!(cond (decide ((a0.getD v2_0.toNat 0) < (1:Int))) true (decide ((40:Int) < (a0.getD v2_0.toNat 0)))))&&(decide ((0:Int) < v2_0))) || (zk (v2_0 - (1:Int))))&&(!((!(cond (decide ((a0.getD v2_0.toNat 0) < (1:Int))) true (decide ((40:Int) < (a0.getD v2_0.toNat 0)))))&&(decide ((0:Int) < v2_0))) || (zi (v2_0 - (1:Int)) a0.length))) <|
    cond (cond (cond (decide ((a0.getD v2_0.toNat 0) < (1:Int))) true (decide ((40:Int) < (a0.getD v2_0.toNat 0)))) true (cond (decide ((0:Int) < v2_0)) (decide ((a0.getD v2_0.toNat 0)≤(a0.getD (v2_0 - (1:Int)).toNat 0))) false)) (some (.inr (1:Int))) (gd ((zk (v2_0+(1:Int)))) <|
    qM a0 n (v2_0+(1:Int)))) (some (.inl ()))
def m_check (a0:T3):Option (Int):=
    Option.bind (qM a0 zC (0:Int)) fun o1=>
    sm o1 (fun o1=>
    some (0:Int)) (fun q=>some q)
theorem w_check (a0:T3) (c0:Option Nat) (r:(Int)) (h:m_check a0=some r):AC cx 26 [.c (.lst (.int .i64) a0 c0)] [] (fun sv h=>sv=.a (.c (.val (.int .i64 r)))∧h=[]):=by
  unfold m_check at h;refine zp zu Tryd.func26 rfl Tryd.ntmps26 rfl rfl (res:=[.tmp 2]) rfl<|zv<|zq<|zj zu rfl rfl<|zv<|zv<|zq<|zj zu rfl rfl ?_
  obtain ⟨o1,ho1,hk1⟩:=bd h;refine zB (fun o1:Unit=>⟨[],[]⟩) (fun o'=>Sum.inl o'=o1) ?_ ?_
  ·have h:=ho1
   refine zc<|zb (Wk.pick [7,0,5,6] [] rfl rfl)<|zm (fun y:Nat×Int=>[(7,.a (.c (.val (.int .i64 y.2))))]) (fun y:Nat×Int=>[]) (fun y:Nat×Int=>qM a0 y.1 y.2=some o1) (fun y:Nat×Int=>y.1) (zC,(0:Int)) h ?_
   rintro ⟨n,v2_0⟩ h;replace h:qM a0 n v2_0=some o1:=h
   rcases n with _ | n
   · cases (show (none:Option _)=some _ from h)
   rw [qM] at h
   try dsimp only
   refine zv<|zq<|zj zu rfl rfl<|zv ?_
   revert h
   refine xC rfl rfl (fun hc h=>?_) (fun hc h=>?_)
   ·refine za<|zv<|zc<|zv ?_
    obtain ⟨hG5,h⟩:=zw h;refine zq<|zj zu rfl (by simp only [hG5,oc]) ?_
    refine zv ?_;obtain ⟨hG4,h⟩:=zw h;simp only [Bool.and_eq_true] at hG4;obtain ⟨hG4_0,hG4_1⟩:=hG4;refine zq<|zj zu rfl (by revert hG4_0 hG4_1; generalize (decide ((40:Int) < (a0.getD v2_0.toNat 0)))=b0; generalize (decide ((a0.getD v2_0.toNat 0) < (1:Int)))=b1; generalize (zi (v2_0 - (1:Int)) a0.length)=b2; generalize (decide ((0:Int) < v2_0))=b3; generalize (zk (v2_0 - (1:Int)))=b4; revert b0 b1 b2 b3 b4; decide) ?_
    revert h
    refine xC rfl rfl (fun hc h=>?_) (fun hc h=>?_)
    ·refine zv<|zq<|zj zu rfl rfl<|zd ?_
     obtain rfl:=Option.some.inj h;have h:=hk1;dsimp only [sm] at h;obtain rfl:=Option.some.inj h;refine ⟨_,(Wk.pick [2] [] rfl rfl),_,_,rfl,rfl,?_⟩;exact ⟨rfl,rfl⟩
    refine za ?_;obtain ⟨hG3,h⟩:=zw h;refine zq<|zj zu rfl (by simp only [hG3,oc]) ?_
    refine ⟨(n,_),h,Nat.lt_succ_self _,(Wk.pick [7,0,5,6] [] rfl rfl)⟩
   refine zr ?_;exact ⟨_,Option.some.inj h,(Wk.pick [] [] rfl rfl)⟩
  ·rintro o1 rfl
   have h:=hk1;dsimp only [sm] at h;refine zv<|zq<|zj zu rfl rfl ?_
   cases h;exact zd ⟨_,(Wk.pick [2] [] rfl rfl),_,_,rfl,rfl,rfl,rfl⟩
def m_echeck (a0:Int) (a1:T3):Option (Int):=
    Option.bind (cond (cond (decide (a0 < (1:Int))) true (decide ((6:Int) < a0))) (some default) (m_check a1)) fun r1=>
    cond (cond (cond (cond (decide (a0 < (1:Int))) true (decide ((6:Int) < a0))) true (!(decide (r1=(0:Int))))) true (decide ((a1.length:Int)=(0:Int)))) (some (1:Int)) (some (0:Int))
theorem w_echeck (a0:Int) (a1:T3) (c0:Option Nat) (r:(Int)) (h:m_echeck a0 a1=some r):AC cx 89 [.c (.val (.int .u8 a0)),.c (.lst (.int .i64) a1 c0)] [] (fun sv h=>sv=.a (.c (.val (.int .i64 r)))∧h=[]):=by
  unfold m_echeck at h;refine zp zu Tryd.func89 rfl Tryd.ntmps89 rfl rfl (res:=[.tmp 4]) rfl<|zv<|zq<|zj zu rfl rfl<|zv<|zv ?_
  obtain ⟨r1,hr1,h⟩:=bd h;refine zq<|zf zu rfl (by generalize (decide (a0 < (1:Int)))=b0; generalize (decide ((6:Int) < a0))=b1; generalize (decide (r1=(0:Int)))=b2; revert b0 b1 b2; decide) ?_
  refine al_guard (.c (.val (.int .i64 r1))) rfl rfl rfl rfl rfl (fun hq2=>?_) (fun hq2=>?_)
  ·replace hr1:=cond_f hq2 hr1
   try simp only [ob2,cond_true,cond_false] at hq2
   all_goals
    refine zg (w_check _ c0 r1 hr1) rfl ⟨rfl,rfl⟩ rfl Tryd.func26 rfl rfl rfl (by simp only [hq2,oc]) rfl rfl ?_;refine zj zu rfl (by revert hq2; generalize (decide (a0 < (1:Int)))=b0; generalize (decide ((6:Int) < a0))=b1; generalize (decide (r1=(0:Int)))=b2; revert b0 b1 b2; decide) ?_
    revert h
    refine xC rfl rfl (fun hc h=>?_) (fun hc h=>?_)
    ·refine zv<|zq<|zj zu rfl rfl ?_
     cases h;exact zd ⟨_,(Wk.pick [4] [] rfl rfl),_,_,rfl,rfl,rfl,rfl⟩
    refine za<|zv<|zq<|zj zu rfl rfl ?_
    cases h;exact zd ⟨_,(Wk.pick [4] [] rfl rfl),_,_,rfl,rfl,rfl,rfl⟩
  ·try simp only [ob2,cond_true,cond_false] at hq2
   all_goals
    refine zj zu rfl (by simp only [hq2,oc]) ?_
    revert h
    refine xC rfl rfl (fun hc h=>?_) (fun hc h=>?_)
    ·refine zv<|zq<|zj zu rfl rfl ?_
     cases h;exact zd ⟨_,(Wk.pick [4] [] rfl rfl),_,_,rfl,rfl,rfl,rfl⟩
    refine za<|zv<|zq<|zj zu rfl rfl ?_
    cases h;exact zd ⟨_,(Wk.pick [4] [] rfl rfl),_,_,rfl,rfl,rfl,rfl⟩
def m_past (a0:Int) (a1:Int) (a2:Int):Option (zO):=
    some (a0,((1:Int),(((0:Int),a1),(a2,(0:Int)))))
theorem w_past (a0:Int) (a1:Int) (a2:Int) (r:(zO)) (h:m_past a0 a1 a2=some r):AC cx 90 [.c (.val (.int .u8 a0)),.c (.val (.int .i64 a1)),.c (.pel (.int .u8) a2 0)] [] (fun sv h=>sv=.a (.agg [.val (.int .u8 r.1),.val (.int .u8 r.2.1),.val (.int .u8 r.2.2.1.1),.val (.int .i64 r.2.2.1.2),.val (.int .u8 r.2.2.2.1),.val (.int .i64 r.2.2.2.2)])∧h=[]):=by
  apply AC.forgetV
  unfold m_past at h;refine zp zu Tryd.func90 rfl Tryd.ntmps90 rfl rfl (res:=[.cell 5 45]) rfl<|zv<|zq<|zj zu rfl rfl<|zv<|zq<|zj zu rfl rfl ?_
  cases h;exact zd ⟨_,(Wk.pick [5] [5] rfl rfl),_,_,rfl,rfl,rfl⟩
def xx (a0:Int) (a1:T3):Nat→Int→T4→Option (T4)
  | 0,_,_=>none
  | n+1,v3_0,v3_1=>
    cond (decide (v3_0 < (a1.length:Int))) (gd ((zi v3_0 a1.length)) <|
    Option.bind (m_past (4:Int) (a1.getD v3_0.toNat 0) a0) fun r4=>
    gd ((ze 40 (v3_1.length+[r4].length))) <|
    gd ((zk (v3_0+(1:Int)))) <|
    xx a0 a1 n (v3_0+(1:Int)) (v3_1++[r4])) (some v3_1)
def m_caston (a0:Int) (a1:T3):Option (T4×Int):=
    Option.bind (m_echeck a0 a1) fun r1=>
    cond (!(decide (r1=(0:Int)))) (some (([]:List zO),r1)) (gd ((zk ((a1.length:Int) - (1:Int)))&&(zi ((a1.length:Int) - (1:Int)) a1.length)) <|
    cond (decide ((a1.getD ((a1.length:Int) - (1:Int)).toNat 0)=(40:Int))) (some (([]:List zO),(15:Int))) (gd ((zk ((a1.length:Int)+(2:Int)))&&(decide ((0:Int)≤((a1.length:Int)+(2:Int))))&&(decide ((40:Int) * ((a1.length:Int)+(2:Int))≤140737488355328))&&(decide (((a1.length:Int)+(2:Int))≤140737488355328))) <|
    gd ((ze 40 (([]:List zO).length+[((1:Int),((0:Int),(((0:Int),(0:Int)),(a0,(0:Int)))))].length))) <|
    Option.bind (xx a0 a1 zC (0:Int) (([]:List zO)++[((1:Int),((0:Int),(((0:Int),(0:Int)),(a0,(0:Int)))))])) fun o2=>
    Option.bind (m_past (6:Int) (40:Int) a0) fun r8=>
    gd ((ze 40 (o2.length+[r8].length))) <|
    some ((o2++[r8]),(0:Int))))
theorem w_caston (a0:Int) (a1:T3) (c0:Option Nat) (r:(T4×Int)) (h:m_caston a0 a1=some r):AC cx 77 [.c (.val (.int .u8 a0)),.c (.lst (.int .i64) a1 c0)] [] (fun sv h=>sv=.tup [.c (.lst qp r.1 none),.c (.val (.int .i64 r.2))]∧h=[]):=by
  unfold m_caston at h;refine zp zu Tryd.func77 rfl Tryd.ntmps77 rfl rfl (res:=[.tmp 4,.tmp 5]) rfl<|zv<|zq<|zj zu rfl rfl<|zb (Wk.frzC 2 (.int .u8) rfl rfl rfl)<|zb (Wk.nil 4 4 45 qp rfl rfl)<|zv<|zv ?_
  obtain ⟨r1,hr1,h⟩:=bd h;refine zq<|zf zu rfl rfl<|zg (w_echeck _ _ c0 r1 hr1) rfl ⟨rfl,rfl⟩ rfl Tryd.func89 rfl rfl rfl rfl rfl rfl<|zj zu rfl rfl<|zv<|zq<|zj zu rfl rfl ?_
  revert h
  refine xC rfl rfl (fun hc h=>?_) (fun hc h=>?_)
  ·refine zv<|zq<|zj zu rfl rfl<|zb (Wk.nil 4 4 45 qp rfl rfl) ?_
   cases h;exact zd ⟨_,(Wk.trans (Wk.frz (id:=4) rfl) (Wk.pick [4,5] [] rfl rfl)),_,_,rfl,rfl,rfl,rfl⟩
  refine za<|zv<|zv ?_
  obtain ⟨hG12,h⟩:=zw h;simp only [Bool.and_eq_true] at hG12;obtain ⟨hG12_0,hG12_1⟩:=hG12;refine zq<|zj zu rfl (by simp only [hG12_0,hG12_1,oc]) ?_
  revert h
  refine xC rfl rfl (fun hc h=>?_) (fun hc h=>?_)
  ·refine zv<|zq<|zj zu rfl rfl<|zb (Wk.nil 4 4 45 qp rfl rfl) ?_
   cases h;exact zd ⟨_,(Wk.trans (Wk.frz (id:=4) rfl) (Wk.pick [4,5] [] rfl rfl)),_,_,rfl,rfl,rfl,rfl⟩
  refine za<|zv<|zq<|zj zu rfl rfl<|zv ?_
  obtain ⟨hG11,h⟩:=zw h;simp only [Bool.and_eq_true] at hG11;obtain ⟨⟨⟨hG11_0,hG11_1⟩,hG11_2⟩,hG11_3⟩:=hG11;refine zq<|zj zu rfl (by simp_all) ?_
  refine zv ?_;obtain ⟨hG10,h⟩:=zw h;refine zq<|zj zu rfl (by simp_all) ?_
  refine zv<|zv<|zq<|zj zu rfl rfl ?_
  obtain ⟨o2,ho2,hk2⟩:=bd h;refine zB (fun o2:T4=>⟨[(7,.a (.c (.fn 90 [.fz (.int .u8) a0]))),(8,.a (.c (.sl 27)))],[(27,.row 45 qp o2 none)]⟩) (fun o'=>o2=o') ?_ ?_
  ·have h:=ho2
   refine zc<|zb (Wk.pick [35,1,7,8,34] [27] rfl rfl)<|zm (fun y:Nat×Int×T4=>[(35,.a (.c (.val (.int .i64 y.2.1))))]) (fun y:Nat×Int×T4=>[(27,.row 45 qp y.2.2 none)]) (fun y:Nat×Int×T4=>xx a0 a1 y.1 y.2.1 y.2.2=some o2) (fun y:Nat×Int×T4=>y.1) (zC,(0:Int),(([]:List zO)++[((1:Int),((0:Int),(((0:Int),(0:Int)),(a0,(0:Int)))))])) h ?_
   rintro ⟨n,v3_0,v3_1⟩ h;replace h:xx a0 a1 n v3_0 v3_1=some o2:=h
   rcases n with _ | n
   · cases (show (none:Option _)=some _ from h)
   rw [xx] at h
   try dsimp only
   refine zv<|zq<|zj zu rfl rfl<|zv ?_
   revert h
   refine xC rfl rfl (fun hc h=>?_) (fun hc h=>?_)
   ·refine za<|zv<|zc<|zv<|zq<|zj zu rfl rfl ?_
    obtain ⟨hG6,h⟩:=zw h;obtain ⟨r4,hr4,h⟩:=bd h;obtain ⟨hG7,h⟩:=zw h;refine zq<|zf zu rfl (by simp only [hG6,hG7,oc]) ?_
    refine xB [] (w_past _ _ _  r4 hr4) rfl ⟨rfl,rfl⟩ rfl rfl Tryd.func90 rfl rfl rfl (by simp only [hG6,hG7,oc]) rfl rfl PassH.nil ?_;rintro _ _ ⟨rfl,rfl⟩;refine ⟨_,_,rfl,rfl,?_⟩;refine zj zu rfl (by simp only [hG6,hG7,oc]) ?_;obtain ⟨hG5,h⟩:=zw h;refine zq<|zj zu rfl (by simp only [hG5,oc]) ?_
    refine ⟨(n,_,_),h,Nat.lt_succ_self _,(Wk.pick [35,1,7,8,34] [27] rfl rfl)⟩
   refine zr ?_;exact ⟨_,(Option.some.inj h).symm,(Wk.pick [7,8] [27] rfl rfl)⟩
  ·rintro _ rfl
   have h:=hk2;refine zv ?_;obtain ⟨r8,hr8,h⟩:=bd h;obtain ⟨hG9,h⟩:=zw h;refine zq<|zf zu rfl (by simp only [hG9,oc]) ?_
   refine xB [] (w_past _ _ _  r8 hr8) rfl ⟨rfl,rfl⟩ rfl rfl Tryd.func90 rfl rfl rfl (by simp only [hG9,oc]) rfl rfl PassH.nil ?_;rintro _ _ ⟨rfl,rfl⟩;refine ⟨_,_,rfl,rfl,?_⟩;refine zj zu rfl (by simp only [hG9,oc]) ?_;cases h;exact zd ⟨_,(Wk.trans (Wk.frz (id:=27) rfl) (Wk.pick [4,5] [] rfl rfl)),_,_,rfl,rfl,rfl,rfl⟩
def m_needle (a0:Int) (a1:T3):Option ((Int×Int)):=
    gd ((zi a0 a1.length)) <|
    some ((0:Int),(a1.getD a0.toNat 0))
theorem w_needle (a0:Int) (a1:T3) (r:((Int×Int))) (h:m_needle a0 a1=some r):AC cx 99 [.c (.val (.int .i64 a0)),.c (.pel G2 a1 0)] [] (fun sv h=>sv=.a (.agg [.val (.int .u8 r.1),.val (.int .i64 r.2)])∧h=[]):=by
  apply AC.forgetV
  unfold m_needle at h;refine zp zu Tryd.func99 rfl Tryd.ntmps99 rfl rfl (res:=[.cell 3 39]) rfl<|zv<|zq<|zj zu rfl rfl<|zv ?_
  obtain ⟨hG1,h⟩:=zw h;refine zq<|zj zu rfl (by simp only [hG1,oc]) ?_
  cases h;exact zd ⟨_,(Wk.pick [3] [3] rfl rfl),_,_,rfl,rfl,rfl⟩
def qK (a0:T3):Nat→Int→Option ((Unit)⊕(T4×Nat×Int))
  | 0,_=>none
  | n+1,v2_0=>
    cond (decide (v2_0 < (a0.length:Int))) (gd ((zi v2_0 a0.length)) <|
    gd ((!((!(cond (decide ((a0.getD v2_0.toNat 0) < (1:Int))) true (decide ((6:Int) < (a0.getD v2_0.toNat 0)))))&&(decide ((0:Int) < v2_0))) || (zk (v2_0 - (1:Int))))&&(!((!(cond (decide ((a0.getD v2_0.toNat 0) < (1:Int))) true (decide ((6:Int) < (a0.getD v2_0.toNat 0)))))&&(decide ((0:Int) < v2_0))) || (zi (v2_0 - (1:Int)) a0.length))) <|
    cond (cond (cond (decide ((a0.getD v2_0.toNat 0) < (1:Int))) true (decide ((6:Int) < (a0.getD v2_0.toNat 0)))) true (cond (decide ((0:Int) < v2_0)) (decide ((a0.getD v2_0.toNat 0)≤(a0.getD (v2_0 - (1:Int)).toNat 0))) false)) (some (.inr (([]:List zO),0,(1:Int)))) (gd ((zk (v2_0+(1:Int)))) <|
    qK a0 n (v2_0+(1:Int)))) (some (.inl ()))
def xd (a0:T3):Nat→Int→T4→Option (T4)
  | 0,_,_=>none
  | n+1,v7_0,v7_1=>
    cond (decide (v7_0 < (a0.length:Int))) (gd ((zi v7_0 a0.length)&&(zi v7_0 v7_1.length)&&(decide (v7_0.toNat < v7_1.length))) <|
    gd ((zk (v7_0+(1:Int)))) <|
    xd a0 n (v7_0+(1:Int)) (v7_1.set v7_0.toNat ((2:Int),((0:Int),(((0:Int),(0:Int)),((a0.getD v7_0.toNat 0),(0:Int))))))) (some v7_1)
def m_leave (a0:T3):Option (T4×Nat×Int):=
    Option.bind (qK a0 zC (0:Int)) fun o1=>
    sm o1 (fun o1=>
    gd ((decide (0≤(a0.length:Int)))&&(decide ((40:Int) * (a0.length:Int)≤140737488355328))&&(decide ((a0.length:Int)≤140737488355328))) <|
    Option.bind (xd a0 zC (0:Int) (List.replicate (a0.length:Int).toNat (qp.zero:zO))) fun o6=>
    some (o6,(a0.length:Int).toNat,(0:Int))) (fun q=>some q)
theorem w_leave (a0:T3) (c0:Option Nat) (r:(T4×Nat×Int)) (h:m_leave a0=some r):AC cx 92 [.c (.lst (.int .u8) a0 c0)] [] (fun sv h=>sv=.tup [.c (.lst qp r.1 (some r.2.1)),.c (.val (.int .i64 r.2.2))]∧h=[]):=by
  unfold m_leave at h;refine zp zu Tryd.func92 rfl Tryd.ntmps92 rfl rfl (res:=[.tmp 2,.tmp 3]) rfl<|zv<|zq<|zj zu rfl rfl<|zv<|zv<|zq<|zj zu rfl rfl ?_
  obtain ⟨o1,ho1,hk1⟩:=bd h;refine zB (fun o1:Unit=>⟨[(0,.a (.c (.lst (.int .u8) a0 c0)))],[]⟩) (fun o'=>Sum.inl o'=o1) ?_ ?_
  ·have h:=ho1
   refine zc<|zb (Wk.pick [10,0,8,9] [] rfl rfl)<|zm (fun y:Nat×Int=>[(10,.a (.c (.val (.int .i64 y.2))))]) (fun y:Nat×Int=>[]) (fun y:Nat×Int=>qK a0 y.1 y.2=some o1) (fun y:Nat×Int=>y.1) (zC,(0:Int)) h ?_
   rintro ⟨n,v2_0⟩ h;replace h:qK a0 n v2_0=some o1:=h
   rcases n with _ | n
   · cases (show (none:Option _)=some _ from h)
   rw [qK] at h
   try dsimp only
   refine zv<|zq<|zj zu rfl rfl<|zv ?_
   revert h
   refine xC rfl rfl (fun hc h=>?_) (fun hc h=>?_)
   ·refine za<|zv<|zc<|zv ?_
    obtain ⟨hG5,h⟩:=zw h;refine zq<|zj zu rfl (by simp only [hG5,oc]) ?_
    refine zv ?_;obtain ⟨hG4,h⟩:=zw h;simp only [Bool.and_eq_true] at hG4;obtain ⟨hG4_0,hG4_1⟩:=hG4;refine zq<|zj zu rfl (by revert hG4_0 hG4_1; generalize (decide ((a0.getD v2_0.toNat 0) < (1:Int)))=b0; generalize (decide ((6:Int) < (a0.getD v2_0.toNat 0)))=b1; generalize (zi (v2_0 - (1:Int)) a0.length)=b2; generalize (decide ((0:Int) < v2_0))=b3; generalize (zk (v2_0 - (1:Int)))=b4; revert b0 b1 b2 b3 b4; decide) ?_
    revert h
    refine xC rfl rfl (fun hc h=>?_) (fun hc h=>?_)
    ·refine zv<|zq<|zj zu rfl rfl<|zd ?_
     obtain rfl:=Option.some.inj h;have h:=hk1;dsimp only [sm] at h;obtain rfl:=Option.some.inj h;refine ⟨_,(Wk.trans (Wk.lst0 2 qp rfl) (Wk.pick [2,3] [] rfl rfl)),_,_,rfl,rfl,?_⟩;exact ⟨rfl,rfl⟩
    refine za ?_;obtain ⟨hG3,h⟩:=zw h;refine zq<|zj zu rfl (by simp only [hG3,oc]) ?_
    refine ⟨(n,_),h,Nat.lt_succ_self _,(Wk.pick [10,0,8,9] [] rfl rfl)⟩
   refine zr ?_;exact ⟨_,Option.some.inj h,(Wk.pick [0] [] rfl rfl)⟩
  ·rintro o1 rfl
   have h:=hk1;dsimp only [sm] at h;refine zv ?_;obtain ⟨hG10,h⟩:=zw h;simp only [Bool.and_eq_true] at hG10;obtain ⟨⟨hG10_0,hG10_1⟩,hG10_2⟩:=hG10;refine zq<|zj zu rfl (by simp_all) ?_
   refine zv<|zv<|zq<|zj zu rfl rfl ?_
   obtain ⟨o6,ho6,hk6⟩:=bd h;refine zB (fun o6:T4=>⟨[(6,.a (.c (.sl 37)))],[(37,.row 45 qp o6 (some (a0.length:Int).toNat))]⟩) (fun o'=>o6=o') ?_ ?_
   ·have h:=ho6
    refine zc<|zb (Wk.pick [40,0,6,39] [37] rfl rfl)<|zm (fun y:Nat×Int×T4=>[(40,.a (.c (.val (.int .i64 y.2.1))))]) (fun y:Nat×Int×T4=>[(37,.row 45 qp y.2.2 (some (a0.length:Int).toNat))]) (fun y:Nat×Int×T4=>xd a0 y.1 y.2.1 y.2.2=some o6) (fun y:Nat×Int×T4=>y.1) (zC,(0:Int),(List.replicate (a0.length:Int).toNat (qp.zero:zO))) h ?_
    rintro ⟨n,v7_0,v7_1⟩ h;replace h:xd a0 n v7_0 v7_1=some o6:=h
    rcases n with _ | n
    · cases (show (none:Option _)=some _ from h)
    rw [xd] at h
    try dsimp only
    refine zv<|zq<|zj zu rfl rfl<|zv ?_
    revert h
    refine xC rfl rfl (fun hc h=>?_) (fun hc h=>?_)
    ·refine za<|zv<|zc<|zv<|zq<|zj zu rfl rfl ?_
     obtain ⟨hG9,h⟩:=zw h;simp only [Bool.and_eq_true] at hG9;obtain ⟨⟨hG9_0,hG9_1⟩,hG9_2⟩:=hG9;refine zq<|zj zu rfl (by simp only [hG9_0,hG9_1,hG9_2,oc]) ?_
     obtain ⟨hG8,h⟩:=zw h;refine zq<|zj zu rfl (by simp only [hG8,oc]) ?_
     refine ⟨(n,_,_),h,Nat.lt_succ_self _,(Wk.pick [40,0,6,39] [37] rfl rfl)⟩
    refine zr ?_;exact ⟨_,(Option.some.inj h).symm,(Wk.pick [6] [37] rfl rfl)⟩
   ·rintro _ rfl
    have h:=hk6;refine zv<|zq<|zj zu rfl rfl ?_
    cases h;exact zd ⟨_,(Wk.trans (Wk.frz (id:=37) rfl) (Wk.pick [2,3] [] rfl rfl)),_,_,rfl,rfl,rfl,rfl⟩
end Go.Proofs.YtihcolehefloeaaDoor

/- shifts.Shift: what it returns. -/
namespace Go.Proofs.YtihcolehefloeaaDoor
open Go.RowKit
def xX (fr to:List Int):Int:=if zU fr=false then 1 else if to.length≠fr.length then 5 else if xZ to=false then 1 else 0
def planR (fr to:List Int):List zO:=if xX fr to=0 then qT fr to else []
theorem shift_all (fr to:List Int) (c1 c2:Option Nat) (h1:fr.length≤1000000) (h2:to.length≤1000000):AC cx 8 [.c (.lst (.int .i64) fr c1),.c (.lst (.int .i64) to c2)] [] (fun sv h=>sv=.tup [.c (.lst qp (planR fr to) (some (planR fr to).length)),.c (.val (.int .i64 (xX fr to)))]∧h=[]):=by
  refine AC.weakV ?_ (shift_ok fr to c1 c2 h1 h2);intro env B w v h;have hn:∀ z:Int,VR env B w (.tup [.c (.val (.slice none 0 0)),.c (.val (.int .i64 z))]) v→VR env B w (.tup [.c (.lst qp [] (some 0)),.c (.val (.int .i64 z))]) v:=by
    rintro z ⟨vs,e,v1,r,e2,hv,hr⟩;exact ⟨vs,e,v1,r,e2,nil_lst hv,hr⟩
  unfold shiftR at h
  split at h
  · rename_i g
    have hs:xX fr to=1:=by rw [xX,if_pos g]
    rw [planR,hs,if_neg (by decide)];exact hn 1 h
  · rename_i g1
    split at h
    · rename_i g
      have hs:xX fr to=5:=by rw [xX,if_neg g1,if_pos g]
      rw [planR,hs,if_neg (by decide)];exact hn 5 h
    · rename_i g2
      split at h
      · rename_i g3
        have hs:xX fr to=1:=by rw [xX,if_neg g1,if_neg g2,if_pos g3]
        rw [planR,hs,if_neg (by decide)];exact hn 1 h
      · rename_i g3
        have hs:xX fr to=0:=by rw [xX,if_neg g1,if_neg g2,if_neg g3]
        rw [planR,hs,if_pos rfl];exact h
end Go.Proofs.YtihcolehefloeaaDoor

/- Contracts proved by hand, in the form of tr.py. -/
namespace Go.Proofs.YtihcolehefloeaaDoor
set_option linter.unusedSimpArgs false
set_option linter.unusedVariables false
open Go.RowKit
def yj (a0 a1:List Int):Option T6:=gd (decide (a0.length≤1000000)&&decide (a1.length≤1000000)) (some (planR a0 a1,xX a0 a1))
theorem w_shift (a0 a1:List Int) (c0 c1:Option Nat) (r:List zO×Int) (h:yj a0 a1=some r):AC cx 8 [.c (.lst (.int .i64) a0 c0),.c (.lst (.int .i64) a1 c1)] [] (fun sv h=>sv=.tup [.c (.lst qp r.1 (some r.1.length)),.c (.val (.int .i64 r.2))]∧h=[]):=by
  obtain ⟨hg,h⟩:=zw h;simp only [Bool.and_eq_true,decide_eq_true_eq] at hg;obtain rfl:=Option.some.inj h;exact shift_all a0 a1 c0 c1 hg.1 hg.2
def m_clip (a0:List zO):Option T4:=some a0
theorem w_clip (a0:List zO) (c0:Option Nat) (r:List zO) (h:m_clip a0=some r):AC cx 31 [.c (.lst qp a0 c0)] [] (fun sv h=>sv=.a (.c (.lst qp r (some r.length)))∧h=[]):=by
  obtain rfl:=Option.some.inj h;exact clip_ok a0 c0
def opNB (o:zO):Bool:=decide (0≤o.1)&&decide (0≤o.2.1)&&decide (0≤o.2.2.1.1)&&decide (0≤o.2.2.2.1)
theorem opNB_ok {o:zO} (h:opNB o=true):OpN o:=by
  simp only [opNB,Bool.and_eq_true,decide_eq_true_eq] at h;exact ⟨h.1.1.1,h.1.1.2,h.1.2,h.2⟩
def m_optext (a0:zO):Option Ta:=gd (opNB a0) (some (ye a0))
theorem w_optext (a0:zO) (r:List UInt8) (h:m_optext a0=some r):AC cx 42 [opArg a0] [] (fun sv h=>sv=.a (.c (.str r))∧h=[]):=by
  obtain ⟨hg,h⟩:=zw h;obtain rfl:=Option.some.inj h;exact optext_ok a0 (opNB_ok hg)
end Go.Proofs.YtihcolehefloeaaDoor

/- Models of the functions of edges and of their laws, printed by tr.py. -/
namespace Go.Proofs.YtihcolehefloeaaDoor
set_option linter.unusedSimpArgs false
set_option linter.unusedVariables false
open Go.RowKit
def qF (a0:Int) (a1:T3):Nat→Int→T4→Option ((T4)⊕(T4×Int))
  | 0,_,_=>none
  | n+1,v3_0,v3_1=>
    cond (decide (v3_0 < (a1.length:Int))) (Option.bind (cond (decide ((0:Int) < v3_0)) (gd ((zk (v3_0 - (1:Int)))&&(decide (0≤(v3_0 - (1:Int))))&&(decide ((v3_0 - (1:Int))≤v3_0))&&(decide (v3_0≤(a1.length:Int)))&&(zk (v3_0+(1:Int)))&&(decide (0≤v3_0))&&(decide (v3_0≤(v3_0+(1:Int))))&&(decide ((v3_0+(1:Int))≤(a1.length:Int)))) <|
    Option.bind (yj ((a1.take v3_0.toNat).drop (v3_0 - (1:Int)).toNat) ((a1.take (v3_0+(1:Int)).toNat).drop v3_0.toNat)) fun r5=>
    cond (!(decide (r5.2=(0:Int)))) (some (.inr (.inr (([]:List zO),r5.2)))) (gd ((ze 40 (v3_1.length+r5.1.length))) <|
    some (.inl (v3_1++r5.1)))) (some (.inl v3_1))) fun o4=>
    sm o4 (fun o4=>
    Option.bind (m_needle v3_0 a1) fun r8=>
    gd ((ze 40 (o4.length+[((4:Int),((1:Int),(r8,(a0,(0:Int)))))].length))) <|
    gd ((zk (v3_0+(1:Int)))) <|
    qF a0 a1 n (v3_0+(1:Int)) (o4++[((4:Int),((1:Int),(r8,(a0,(0:Int)))))])) (fun q=>some q)) (some (.inl v3_1))
def m_bindoff (a0:Int) (a1:T3):Option (T4×Int):=
    Option.bind (m_echeck a0 a1) fun r1=>
    cond (!(decide (r1=(0:Int)))) (some (([]:List zO),r1)) (Option.bind (qF a0 a1 zC (0:Int) ([]:List zO)) fun o2=>
    sm o2 (fun o2=>
    gd ((zk ((a1.length:Int) - (1:Int)))) <|
    Option.bind (m_needle ((a1.length:Int) - (1:Int)) a1) fun r11=>
    gd ((ze 40 (o2.length+[((8:Int),((0:Int),(r11,((0:Int),(0:Int)))))].length))) <|
    Option.bind (m_clip (o2++[((8:Int),((0:Int),(r11,((0:Int),(0:Int)))))])) fun r12=>
    some (r12,(0:Int))) (fun q=>some q))
theorem w_bindoff (a0:Int) (a1:T3) (c0:Option Nat) (r:(T4×Int)) (h:m_bindoff a0 a1=some r):AC cx 91 [.c (.val (.int .u8 a0)),.c (.lst (.int .i64) a1 c0)] [] (fun sv h=>sv=.tup [.c (.lst qp r.1 (some r.1.length)),.c (.val (.int .i64 r.2))]∧h=[]):=by
  unfold m_bindoff at h;refine zp zu Tryd.func91 rfl Tryd.ntmps91 rfl rfl (res:=[.tmp 4,.tmp 5]) rfl<|zv<|zq<|zj zu rfl rfl<|zb (Wk.frzC 3 G2 rfl rfl rfl)<|zv<|zv ?_
  obtain ⟨r1,hr1,h⟩:=bd h;refine zq<|zf zu rfl rfl<|zg (w_echeck _ _ none r1 hr1) rfl ⟨rfl,rfl⟩ rfl Tryd.func89 rfl rfl rfl rfl rfl rfl<|zj zu rfl rfl<|zv<|zq<|zj zu rfl rfl ?_
  revert h
  refine xC rfl rfl (fun hc h=>?_) (fun hc h=>?_)
  ·refine zv<|zq<|zj zu rfl rfl ?_
   cases h;exact zd ⟨_,(Wk.trans (Wk.lst0 4 qp rfl) (Wk.pick [4,5] [] rfl rfl)),_,_,rfl,rfl,rfl,rfl⟩
  refine za<|zv<|zq<|zj zu rfl rfl<|zv<|zq<|zj zu rfl rfl<|zb (Wk.nil 8 8 45 qp rfl rfl)<|zv<|zv<|zq<|zj zu rfl rfl ?_
  obtain ⟨o2,ho2,hk2⟩:=bd h;refine zB (fun o2:T4=>⟨[(3,.a (.c (.pel G2 a1 0))),(7,.a (.c (.fn 99 [.fz G2 a1]))),(8,.a (.c (.sl 8)))],[(8,.row 45 qp o2 none)]⟩) (fun o'=>Sum.inl o'=o2) ?_ ?_
  ·have h:=ho2
   refine zc<|zb (Wk.pick [21,0,3,7,8,20] [8] rfl rfl)<|zm (fun y:Nat×Int×T4=>[(21,.a (.c (.val (.int .i64 y.2.1))))]) (fun y:Nat×Int×T4=>[(8,.row 45 qp y.2.2 none)]) (fun y:Nat×Int×T4=>qF a0 a1 y.1 y.2.1 y.2.2=some o2) (fun y:Nat×Int×T4=>y.1) (zC,(0:Int),([]:List zO)) h ?_
   rintro ⟨n,v3_0,v3_1⟩ h;replace h:qF a0 a1 n v3_0 v3_1=some o2:=h
   rcases n with _ | n
   · cases (show (none:Option _)=some _ from h)
   rw [qF] at h
   try dsimp only
   refine zv<|zq<|zj zu rfl rfl<|zv ?_
   revert h
   refine xC rfl rfl (fun hc h=>?_) (fun hc h=>?_)
   ·refine za<|zv<|zc<|zv<|zq<|zj zu rfl rfl<|zv<|zv<|zq<|zj zu rfl rfl ?_
    obtain ⟨o4,ho4,hk4⟩:=bd h;refine zB (fun o4:T4=>⟨[(0,.a (.c (.val (.int .u8 a0)))),(3,.a (.c (.pel G2 a1 0))),(7,.a (.c (.fn 99 [.fz G2 a1]))),(8,.a (.c (.sl 8))),(9,.a (.c (.val (.int .i64 v3_0)))),(20,.a (.c (.val (.int .i64 (a1.length:Int))))),(21,.a (.c (.val (.int .i64 v3_0))))],[(8,.row 45 qp o4 none)]⟩) (fun o'=>Sum.inl o'=o4) ?_ ?_
    ·have h:=ho4
     revert h
     refine xC rfl rfl (fun hc h=>?_) (fun hc h=>?_)
     ·refine zv ?_
      obtain ⟨hG7,h⟩:=zw h;simp only [Bool.and_eq_true] at hG7;obtain ⟨⟨⟨⟨⟨⟨⟨hG7_0,hG7_1⟩,hG7_2⟩,hG7_3⟩,hG7_4⟩,hG7_5⟩,hG7_6⟩,hG7_7⟩:=hG7;obtain ⟨r5,hr5,h⟩:=bd h;refine zH [] (by kernel_rfl) rfl (N:=16)<|zn (fuel:=6) (ds':=⟨#[true,true,true,true,true,true,true,true,true,true,false,false,false,false,false,false],true,true,true⟩) zu [(0,1),(1,0),(2,0),(3,0),(4,0),(5,1),(6,0),(7,0),(8,0),(9,0)] (by kernel_rfl) rfl (by simp only [hG7_0,hG7_1,hG7_2,hG7_3,hG7_4,hG7_5,hG7_6,hG7_7,oc]) ?_
      refine zl (by kernel_rfl) (zh (i:=10) ?_ zo);refine zN rfl<|zP (i:=10) (listed':=#[true,true,true,true,true,true,true,true,true,true,true,false,false,false,false,false]) (pre':=true) [] (w_shift _ _ none none r5 hr5) rfl rfl rfl rfl ⟨rfl,rfl⟩ rfl Tryd.func8 rfl rfl rfl (by simp only [hG7_0,hG7_1,hG7_2,hG7_3,hG7_4,hG7_5,hG7_6,hG7_7,oc]) rfl rfl PassH.nil ?_
      rintro _ _ ⟨rfl,rfl⟩;refine ⟨_,_,rfl,rfl,?_⟩;refine zn (fuel:=0) (ds':=⟨#[true,true,true,true,true,true,true,true,true,true,true,true,true,true,true,true],false,true,false⟩) zu [(11,0),(12,0),(13,0),(14,0),(15,0)] (by kernel_rfl) rfl (by simp only [hG7_0,hG7_1,hG7_2,hG7_3,hG7_4,hG7_5,hG7_6,hG7_7,oc]) ?_;refine zt (by kernel_rfl)<|zv<|zv<|zq<|zj zu rfl rfl ?_
      revert h
      refine xC rfl rfl (fun hc h=>?_) (fun hc h=>?_)
      ·refine zv<|zq<|zj zu rfl rfl<|zd ?_
       obtain rfl:=Option.some.inj h;have h:=hk4;dsimp only [sm] at h;obtain rfl:=Option.some.inj h;have h:=hk2;dsimp only [sm] at h;obtain rfl:=Option.some.inj h;refine ⟨_,(Wk.trans (Wk.lst0 4 qp rfl) (Wk.pick [4,5] [] rfl rfl)),_,_,rfl,rfl,?_⟩;exact ⟨rfl,rfl⟩
      refine za ?_;obtain ⟨hG6,h⟩:=zw h;refine zq<|zj zu rfl (by simp only [hG6,oc]) ?_
      exact ⟨_,Option.some.inj h,(Wk.pick [0,3,7,8,9,20,21] [8] rfl rfl)⟩
     refine za ?_;exact ⟨_,Option.some.inj h,(Wk.pick [0,3,7,8,9,20,21] [8] rfl rfl)⟩
    ·rintro o4 rfl
     have h:=hk4;dsimp only [sm] at h;obtain ⟨r8,hr8,h⟩:=bd h;obtain ⟨hG10,h⟩:=zw h;refine zq<|zf zu rfl (by simp only [hG10,oc]) ?_
     refine xB [] (w_needle _ _  r8 hr8) rfl ⟨rfl,rfl⟩ rfl rfl Tryd.func99 rfl rfl rfl (by simp only [hG10,oc]) rfl rfl PassH.nil ?_;rintro _ _ ⟨rfl,rfl⟩;refine ⟨_,_,rfl,rfl,?_⟩;refine zj zu rfl (by simp only [hG10,oc]) ?_;obtain ⟨hG9,h⟩:=zw h;refine zq<|zj zu rfl (by simp only [hG9,oc]) ?_
     refine ⟨(n,_,_),h,Nat.lt_succ_self _,(Wk.pick [21,0,3,7,8,20] [8] rfl rfl)⟩
   refine zr ?_;exact ⟨_,Option.some.inj h,(Wk.pick [3,7,8] [8] rfl rfl)⟩
  ·rintro o2 rfl
   have h:=hk2;dsimp only [sm] at h;refine zv ?_;obtain ⟨hG13,h⟩:=zw h;obtain ⟨r11,hr11,h⟩:=bd h;obtain ⟨hG14,h⟩:=zw h;refine zq<|zf zu rfl (by simp only [hG13,hG14,oc]) ?_
   refine xB [] (w_needle _ _  r11 hr11) rfl ⟨rfl,rfl⟩ rfl rfl Tryd.func99 rfl rfl rfl (by simp only [hG13,hG14,oc]) rfl rfl PassH.nil ?_;rintro _ _ ⟨rfl,rfl⟩;refine ⟨_,_,rfl,rfl,?_⟩;refine zj zu rfl (by simp only [hG13,hG14,oc]) ?_;refine zv ?_;obtain ⟨r12,hr12,h⟩:=bd h;refine zq<|zf zu rfl rfl<|xb (Wk.frz (id:=8) rfl)<|zg (w_clip _ none r12 hr12) rfl ⟨rfl,rfl⟩ rfl Tryd.func31 rfl rfl rfl rfl rfl rfl<|zj zu rfl rfl ?_
   cases h;exact zd ⟨_,(Wk.pick [4,5] [] rfl rfl),_,_,rfl,rfl,rfl,rfl⟩
end Go.Proofs.YtihcolehefloeaaDoor

/- Stitches and charts: models. -/
namespace Go.Proofs.YtihcolehefloeaaDoor
set_option linter.unusedSimpArgs false
set_option linter.unusedVariables false
open Go.RowKit
def yu (a0:T7):Option (Int):=
    cond (cond (cond (cond (decide (a0.1 < (1:Int))) true (decide ((8:Int) < a0.1))) true (decide (a0.2.1 < (1:Int)))) true (decide ((6:Int) < a0.2.1))) (some (1:Int)) (cond (!(decide (a0.1=(8:Int)))) (cond (cond (cond (!(decide (a0.2.2.1=(0:Int)))) true (!(decide (a0.2.2.2.1=(0:Int))))) true a0.2.2.2.2) (some (1:Int)) (some (0:Int))) (gd ((!(!(cond (cond (decide (a0.2.2.1 < (1:Int))) true (decide ((4:Int) < a0.2.2.1))) true (decide (a0.2.2.2.1 < (1:Int))))) || (zk ((4:Int) - a0.2.2.1)))) <|
    cond (cond (cond (cond (decide (a0.2.2.1 < (1:Int))) true (decide ((4:Int) < a0.2.2.1))) true (decide (a0.2.2.2.1 < (1:Int)))) true (decide (((4:Int) - a0.2.2.1) < a0.2.2.2.1))) (some (1:Int)) (some (0:Int))))
theorem w_stcheck (a0:T7) (r:(Int)) (h:yu a0=some r):AC cx 44 [.agg [.val (.int .u8 a0.1),.val (.int .u8 a0.2.1),.val (.int .i64 a0.2.2.1),.val (.int .i64 a0.2.2.2.1),.val (.bool a0.2.2.2.2)]] [] (fun sv h=>sv=.a (.c (.val (.int .i64 r)))∧h=[]):=by
  unfold yu at h;refine zp zu Tryd.func44 rfl Tryd.ntmps44 rfl rfl (res:=[.tmp 2]) rfl<|zv<|zq<|zj zu rfl rfl<|zb (Wk.frzC 1 G0 rfl rfl rfl)<|zv<|zv<|zq<|zj zu rfl (by generalize (decide (a0.2.1 < (1:Int)))=b0; generalize (decide (a0.1 < (1:Int)))=b1; generalize (decide ((8:Int) < a0.1))=b2; revert b0 b1 b2; decide) ?_
  revert h
  refine xC rfl rfl (fun hc h=>?_) (fun hc h=>?_)
  ·refine zv<|zq<|zj zu rfl rfl ?_
   cases h;exact zd ⟨_,(Wk.pick [2] [] rfl rfl),_,_,rfl,rfl,rfl,rfl⟩
  refine za<|zv<|zv<|zq<|zj zu rfl rfl ?_
  revert h
  refine xC rfl rfl (fun hc h=>?_) (fun hc h=>?_)
  ·refine zv<|zv<|zq<|zj zu rfl (by generalize (decide (a0.2.2.2.1=(0:Int)))=b0; generalize (decide (a0.2.2.1=(0:Int)))=b1; revert b0 b1; decide) ?_
   revert h
   refine xC rfl rfl (fun hc h=>?_) (fun hc h=>?_)
   ·refine zv<|zq<|zj zu rfl rfl ?_
    cases h;exact zd ⟨_,(Wk.pick [2] [] rfl rfl),_,_,rfl,rfl,rfl,rfl⟩
   refine za<|zv<|zq<|zj zu rfl rfl ?_
   cases h;exact zd ⟨_,(Wk.pick [2] [] rfl rfl),_,_,rfl,rfl,rfl,rfl⟩
  refine za<|zv<|zv ?_
  obtain ⟨hG1,h⟩:=zw h;refine zq<|zj zu rfl (by revert hG1; generalize (decide (a0.2.2.2.1 < (1:Int)))=b0; generalize (decide (a0.2.2.1 < (1:Int)))=b1; generalize (decide ((4:Int) < a0.2.2.1))=b2; generalize (zk ((4:Int) - a0.2.2.1))=b3; revert b0 b1 b2 b3; decide) ?_
  revert h
  refine xC rfl rfl (fun hc h=>?_) (fun hc h=>?_)
  ·refine zv<|zq<|zj zu rfl rfl ?_
   cases h;exact zd ⟨_,(Wk.pick [2] [] rfl rfl),_,_,rfl,rfl,rfl,rfl⟩
  refine za<|zv<|zq<|zj zu rfl rfl ?_
  cases h;exact zd ⟨_,(Wk.pick [2] [] rfl rfl),_,_,rfl,rfl,rfl,rfl⟩
def yp (a0:T7):Option (Int):=
    Option.bind (yu a0) fun r1=>
    cond (!(decide (r1=(0:Int)))) (some (0:Int)) (cond (decide (a0.1=(3:Int))) (some (0:Int)) (Option.bind (cond (decide (a0.1=(4:Int))) (some (decide (a0.1=(4:Int)))) (some (decide (a0.1=(5:Int))))) fun o2=>
    cond o2 (some (2:Int)) (cond (decide (a0.1=(8:Int))) (gd ((zk (a0.2.2.1+a0.2.2.2.1))) <|
    some (a0.2.2.1+a0.2.2.2.1)) (some (1:Int)))))
theorem w_stneeds (a0:T7) (r:(Int)) (h:yp a0=some r):AC cx 25 [.agg [.val (.int .u8 a0.1),.val (.int .u8 a0.2.1),.val (.int .i64 a0.2.2.1),.val (.int .i64 a0.2.2.2.1),.val (.bool a0.2.2.2.2)]] [] (fun sv h=>sv=.a (.c (.val (.int .i64 r)))∧h=[]):=by
  unfold yp at h;refine zp zu Tryd.func25 rfl Tryd.ntmps25 rfl rfl (res:=[.tmp 2]) rfl<|zv<|zq<|zj zu rfl rfl<|zb (Wk.frzC 1 G0 rfl rfl rfl)<|zv<|zv ?_
  obtain ⟨r1,hr1,h⟩:=bd h;refine zq<|zf zu rfl rfl<|zg (w_stcheck _  r1 hr1) rfl ⟨rfl,rfl⟩ rfl Tryd.func44 rfl rfl rfl rfl rfl rfl<|zj zu rfl rfl ?_
  revert h
  refine xC rfl rfl (fun hc h=>?_) (fun hc h=>?_)
  ·refine zv<|zq<|zj zu rfl rfl ?_
   cases h;exact zd ⟨_,(Wk.pick [2] [] rfl rfl),_,_,rfl,rfl,rfl,rfl⟩
  refine za<|zv<|zv<|zq<|zj zu rfl rfl<|zc<|zv<|zq<|zj zu rfl rfl ?_
  revert h
  refine xC rfl rfl (fun hc h=>?_) (fun hc h=>?_)
  ·refine zv<|zq<|zj zu rfl rfl ?_
   cases h;exact zd ⟨_,(Wk.pick [2] [] rfl rfl),_,_,rfl,rfl,rfl,rfl⟩
  refine zv<|zv<|zq<|zj zu rfl rfl ?_
  obtain ⟨o2,ho2,hk2⟩:=bd h;refine zB (fun o2:Bool=>⟨[(1,.a (.c (.pel G0 a0 0))),(7,.a (.c (.val (.int .u8 a0.1)))),(10,.a (.c (.val (.bool o2))))],[]⟩) (fun o'=>o2=o') ?_ ?_
  ·have h:=ho2
   revert h
   refine xC rfl rfl (fun hc h=>?_) (fun hc h=>?_)
   ·refine za ?_
    exact ⟨_,(Option.some.inj h).symm,(Wk.pick [1,7,10] [] rfl rfl)⟩
   refine zq<|zj zu rfl rfl ?_
   exact ⟨_,(Option.some.inj h).symm,(Wk.pick [1,7,10] [] rfl rfl)⟩
  ·rintro _ rfl
   have h:=hk2
   revert h
   refine xC rfl rfl (fun hc h=>?_) (fun hc h=>?_)
   ·refine zv<|zq<|zj zu rfl rfl ?_
    cases h;exact zd ⟨_,(Wk.pick [2] [] rfl rfl),_,_,rfl,rfl,rfl,rfl⟩
   refine zv<|zq<|zj zu rfl rfl ?_
   revert h
   refine xC rfl rfl (fun hc h=>?_) (fun hc h=>?_)
   ·refine zv ?_
    obtain ⟨hG3,h⟩:=zw h;refine zq<|zj zu rfl (by simp only [hG3,oc]) ?_
    cases h;exact zd ⟨_,(Wk.pick [2] [] rfl rfl),_,_,rfl,rfl,rfl,rfl⟩
   refine za<|zv<|zq<|zj zu rfl rfl ?_
   cases h;exact zd ⟨_,(Wk.pick [2] [] rfl rfl),_,_,rfl,rfl,rfl,rfl⟩
def m_stmakes (a0:T7):Option (Int):=
    Option.bind (yu a0) fun r1=>
    cond (!(decide (r1=(0:Int)))) (some (0:Int)) (cond (decide (a0.1=(8:Int))) (gd ((zk (a0.2.2.1+a0.2.2.2.1))) <|
    some (a0.2.2.1+a0.2.2.2.1)) (some (1:Int)))
theorem w_stmakes (a0:T7) (r:(Int)) (h:m_stmakes a0=some r):AC cx 36 [.agg [.val (.int .u8 a0.1),.val (.int .u8 a0.2.1),.val (.int .i64 a0.2.2.1),.val (.int .i64 a0.2.2.2.1),.val (.bool a0.2.2.2.2)]] [] (fun sv h=>sv=.a (.c (.val (.int .i64 r)))∧h=[]):=by
  unfold m_stmakes at h;refine zp zu Tryd.func36 rfl Tryd.ntmps36 rfl rfl (res:=[.tmp 2]) rfl<|zv<|zq<|zj zu rfl rfl<|zb (Wk.frzC 1 G0 rfl rfl rfl)<|zv<|zv ?_
  obtain ⟨r1,hr1,h⟩:=bd h;refine zq<|zf zu rfl rfl<|zg (w_stcheck _  r1 hr1) rfl ⟨rfl,rfl⟩ rfl Tryd.func44 rfl rfl rfl rfl rfl rfl<|zj zu rfl rfl ?_
  revert h
  refine xC rfl rfl (fun hc h=>?_) (fun hc h=>?_)
  ·refine zv<|zq<|zj zu rfl rfl ?_
   cases h;exact zd ⟨_,(Wk.pick [2] [] rfl rfl),_,_,rfl,rfl,rfl,rfl⟩
  refine za<|zv<|zv<|zq<|zj zu rfl rfl ?_
  revert h
  refine xC rfl rfl (fun hc h=>?_) (fun hc h=>?_)
  ·refine zv ?_
   obtain ⟨hG2,h⟩:=zw h;refine zq<|zj zu rfl (by simp only [hG2,oc]) ?_
   cases h;exact zd ⟨_,(Wk.pick [2] [] rfl rfl),_,_,rfl,rfl,rfl,rfl⟩
  refine za<|zv<|zq<|zj zu rfl rfl ?_
  cases h;exact zd ⟨_,(Wk.pick [2] [] rfl rfl),_,_,rfl,rfl,rfl,rfl⟩
def m_stbed (a0:T7):Option (Int):=
    Option.bind (yu a0) fun r1=>
    cond (cond (decide (r1=(0:Int))) (cond (decide (a0.1=(2:Int))) true (decide (a0.1=(5:Int)))) false) (some (1:Int)) (some (0:Int))
theorem w_stbed (a0:T7) (r:(Int)) (h:m_stbed a0=some r):AC cx 49 [.agg [.val (.int .u8 a0.1),.val (.int .u8 a0.2.1),.val (.int .i64 a0.2.2.1),.val (.int .i64 a0.2.2.2.1),.val (.bool a0.2.2.2.2)]] [] (fun sv h=>sv=.a (.c (.val (.int .u8 r)))∧h=[]):=by
  unfold m_stbed at h;refine zp zu Tryd.func49 rfl Tryd.ntmps49 rfl rfl (res:=[.tmp 2]) rfl<|zv<|zq<|zj zu rfl rfl<|zb (Wk.frzC 1 G0 rfl rfl rfl)<|zv<|zv ?_
  obtain ⟨r1,hr1,h⟩:=bd h;refine zq<|zf zu rfl (by generalize (decide (a0.1=(2:Int)))=b0; generalize (decide (r1=(0:Int)))=b1; revert b0 b1; decide) ?_
  refine zg (w_stcheck _  r1 hr1) rfl ⟨rfl,rfl⟩ rfl Tryd.func44 rfl rfl rfl (by generalize (decide (a0.1=(2:Int)))=b0; generalize (decide (r1=(0:Int)))=b1; revert b0 b1; decide) rfl rfl ?_;refine zj zu rfl (by generalize (decide (a0.1=(2:Int)))=b0; generalize (decide (r1=(0:Int)))=b1; revert b0 b1; decide) ?_
  revert h
  refine xC rfl rfl (fun hc h=>?_) (fun hc h=>?_)
  ·refine zv<|zq<|zj zu rfl rfl ?_
   cases h;exact zd ⟨_,(Wk.pick [2] [] rfl rfl),_,_,rfl,rfl,rfl,rfl⟩
  refine za<|zv<|zq<|zj zu rfl rfl ?_
  cases h;exact zd ⟨_,(Wk.pick [2] [] rfl rfl),_,_,rfl,rfl,rfl,rfl⟩
def xw (a1:T3):Nat→Int→Option ((Unit)⊕(T3×Nat×Int))
  | 0,_=>none
  | n+1,v4_0=>
    cond (decide (v4_0 < (a1.length:Int))) (gd ((zi v4_0 a1.length)) <|
    cond (cond (decide ((a1.getD v4_0.toNat 0) < (1:Int))) true (decide ((3:Int) < (a1.getD v4_0.toNat 0)))) (some (.inr (([]:List Int),0,(1:Int)))) (gd ((zk (v4_0+(1:Int)))) <|
    xw a1 n (v4_0+(1:Int)))) (some (.inl ()))
def xp (r7:Int):Nat→Int→T3→Option (T3)
  | 0,_,_=>none
  | n+1,v9_0,v9_1=>
    cond (decide (v9_0 < ((List.replicate r7.toNat (0:Int)).length:Int))) (gd ((zi v9_0 v9_1.length)&&(decide (v9_0.toNat < v9_1.length))) <|
    gd ((zk (v9_0+(1:Int)))) <|
    xp r7 n (v9_0+(1:Int)) (v9_1.set v9_0.toNat (1:Int))) (some v9_1)
def m_stloads (a0:T7) (a1:T3):Option (T3×Nat×Int):=
    Option.bind (yu a0) fun r1=>
    cond (!(decide (r1=(0:Int)))) (some (([]:List Int),0,(1:Int))) (Option.bind (yp a0) fun r2=>
    cond (!(decide ((a1.length:Int)=r2))) (some (([]:List Int),0,(5:Int))) (Option.bind (xw a1 zC (0:Int)) fun o3=>
    sm o3 (fun o3=>
    Option.bind (m_stmakes a0) fun r7=>
    gd ((decide (0≤r7))&&(decide ((8:Int) * r7≤140737488355328))&&(decide (r7≤140737488355328))) <|
    Option.bind (xp r7 zC (0:Int) (List.replicate r7.toNat (0:Int))) fun o8=>
    Option.bind (cond (decide (a0.1=(4:Int))) (some (decide (a0.1=(4:Int)))) (some (decide (a0.1=(5:Int))))) fun o12=>
    cond o12 (gd ((zi (0:Int) a1.length)&&(zi (1:Int) a1.length)&&(zk ((a1.getD (0:Int).toNat 0)+(a1.getD (1:Int).toNat 0)))) <|
    cond (decide ((4:Int) < ((a1.getD (0:Int).toNat 0)+(a1.getD (1:Int).toNat 0)))) (some (([]:List Int),0,(9:Int))) (some (o8,r7.toNat,(0:Int)))) (cond (decide (a0.1=(6:Int))) (gd ((zi (0:Int) a1.length)) <|
    cond (decide ((a1.getD (0:Int).toNat 0)=(3:Int))) (some (([]:List Int),0,(9:Int))) (gd ((zi (0:Int) a1.length)&&(zk ((a1.getD (0:Int).toNat 0)+(1:Int)))&&(zi (0:Int) o8.length)&&(decide ((0:Int).toNat < o8.length))) <|
    some ((o8.set (0:Int).toNat ((a1.getD (0:Int).toNat 0)+(1:Int))),r7.toNat,(0:Int)))) (cond (decide (a0.1=(7:Int))) (gd ((zi (0:Int) a1.length)&&(zi (0:Int) o8.length)&&(decide ((0:Int).toNat < o8.length))) <|
    some ((o8.set (0:Int).toNat (a1.getD (0:Int).toNat 0)),r7.toNat,(0:Int))) (some (o8,r7.toNat,(0:Int)))))) (fun q=>some q)))
theorem w_stloads (a0:T7) (a1:T3) (c0:Option Nat) (r:(T3×Nat×Int)) (h:m_stloads a0 a1=some r):AC cx 75 [.agg [.val (.int .u8 a0.1),.val (.int .u8 a0.2.1),.val (.int .i64 a0.2.2.1),.val (.int .i64 a0.2.2.2.1),.val (.bool a0.2.2.2.2)],.c (.lst (.int .i64) a1 c0)] [] (fun sv h=>sv=.tup [.c (.lst (.int .i64) r.1 (some r.2.1)),.c (.val (.int .i64 r.2.2))]∧h=[]):=by
  unfold m_stloads at h;refine zp zu Tryd.func75 rfl Tryd.ntmps75 rfl rfl (res:=[.tmp 4,.tmp 5]) rfl<|zv<|zq<|zj zu rfl rfl<|zb (Wk.frzC 2 G0 rfl rfl rfl)<|zv<|zv ?_
  obtain ⟨r1,hr1,h⟩:=bd h;refine zq<|zf zu rfl rfl<|zg (w_stcheck _  r1 hr1) rfl ⟨rfl,rfl⟩ rfl Tryd.func44 rfl rfl rfl rfl rfl rfl<|zj zu rfl rfl ?_
  revert h
  refine xC rfl rfl (fun hc h=>?_) (fun hc h=>?_)
  ·refine zv<|zq<|zj zu rfl rfl ?_
   cases h;exact zd ⟨_,(Wk.trans (Wk.lst0 4 (.int .i64) rfl) (Wk.pick [4,5] [] rfl rfl)),_,_,rfl,rfl,rfl,rfl⟩
  refine za<|zv<|zv ?_
  obtain ⟨r2,hr2,h⟩:=bd h;refine zq<|zf zu rfl rfl<|zg (w_stneeds _  r2 hr2) rfl ⟨rfl,rfl⟩ rfl Tryd.func25 rfl rfl rfl rfl rfl rfl<|zj zu rfl rfl ?_
  revert h
  refine xC rfl rfl (fun hc h=>?_) (fun hc h=>?_)
  ·refine zv<|zq<|zj zu rfl rfl ?_
   cases h;exact zd ⟨_,(Wk.trans (Wk.lst0 4 (.int .i64) rfl) (Wk.pick [4,5] [] rfl rfl)),_,_,rfl,rfl,rfl,rfl⟩
  refine za<|zv<|zv<|zq<|zj zu rfl rfl ?_
  obtain ⟨o3,ho3,hk3⟩:=bd h;refine zB (fun o3:Unit=>⟨[(1,.a (.c (.lst (.int .i64) a1 c0))),(2,.a (.c (.pel G0 a0 0)))],[]⟩) (fun o'=>Sum.inl o'=o3) ?_ ?_
  ·have h:=ho3
   refine zc<|zb (Wk.pick [20,1,2,18,19] [] rfl rfl)<|zm (fun y:Nat×Int=>[(20,.a (.c (.val (.int .i64 y.2))))]) (fun y:Nat×Int=>[]) (fun y:Nat×Int=>xw a1 y.1 y.2=some o3) (fun y:Nat×Int=>y.1) (zC,(0:Int)) h ?_
   rintro ⟨n,v4_0⟩ h;replace h:xw a1 n v4_0=some o3:=h
   rcases n with _ | n
   · cases (show (none:Option _)=some _ from h)
   rw [xw] at h
   try dsimp only
   refine zv<|zq<|zj zu rfl rfl<|zv ?_
   revert h
   refine xC rfl rfl (fun hc h=>?_) (fun hc h=>?_)
   ·refine za<|zv<|zc<|zv ?_
    obtain ⟨hG6,h⟩:=zw h;refine zq<|zj zu rfl (by simp only [hG6,oc]) ?_
    refine zv<|zq<|zj zu rfl (by generalize (decide ((a1.getD v4_0.toNat 0) < (1:Int)))=b0; revert b0; decide) ?_
    revert h
    refine xC rfl rfl (fun hc h=>?_) (fun hc h=>?_)
    ·refine zv<|zq<|zj zu rfl rfl<|zd ?_
     obtain rfl:=Option.some.inj h;have h:=hk3;dsimp only [sm] at h;obtain rfl:=Option.some.inj h;refine ⟨_,(Wk.trans (Wk.lst0 4 (.int .i64) rfl) (Wk.pick [4,5] [] rfl rfl)),_,_,rfl,rfl,?_⟩;exact ⟨rfl,rfl⟩
    refine za ?_;obtain ⟨hG5,h⟩:=zw h;refine zq<|zj zu rfl (by simp only [hG5,oc]) ?_
    refine ⟨(n,_),h,Nat.lt_succ_self _,(Wk.pick [20,1,2,18,19] [] rfl rfl)⟩
   refine zr ?_;exact ⟨_,Option.some.inj h,(Wk.pick [1,2] [] rfl rfl)⟩
  ·rintro o3 rfl
   have h:=hk3;dsimp only [sm] at h;refine zv ?_;obtain ⟨r7,hr7,h⟩:=bd h;obtain ⟨hG17,h⟩:=zw h;simp only [Bool.and_eq_true] at hG17;obtain ⟨⟨hG17_0,hG17_1⟩,hG17_2⟩:=hG17;refine zq<|zf zu rfl (by simp only [hG17_0,hG17_1,hG17_2,oc]) ?_
   refine zg (w_stmakes _  r7 hr7) rfl ⟨rfl,rfl⟩ rfl Tryd.func36 rfl rfl rfl (by simp only [hG17_0,hG17_1,hG17_2,oc]) rfl rfl ?_;refine zj zu rfl (by simp_all) ?_;refine zv<|zv<|zq<|zj zu rfl rfl ?_
   obtain ⟨o8,ho8,hk8⟩:=bd h;refine zB (fun o8:T3=>⟨[(1,.a (.c (.lst (.int .i64) a1 c0))),(2,.a (.c (.pel G0 a0 0))),(8,.a (.c (.sl 33)))],[(33,.row 3 (.int .i64) o8 (some r7.toNat))]⟩) (fun o'=>o8=o') ?_ ?_
   ·have h:=ho8
    refine zc<|zb (Wk.pick [36,1,2,8,35] [33] rfl rfl)<|zm (fun y:Nat×Int×T3=>[(36,.a (.c (.val (.int .i64 y.2.1))))]) (fun y:Nat×Int×T3=>[(33,.row 3 (.int .i64) y.2.2 (some r7.toNat))]) (fun y:Nat×Int×T3=>xp r7 y.1 y.2.1 y.2.2=some o8) (fun y:Nat×Int×T3=>y.1) (zC,(0:Int),(List.replicate r7.toNat (0:Int))) h ?_
    rintro ⟨n,v9_0,v9_1⟩ h;replace h:xp r7 n v9_0 v9_1=some o8:=h
    rcases n with _ | n
    · cases (show (none:Option _)=some _ from h)
    rw [xp] at h
    try dsimp only
    refine zv<|zq<|zj zu rfl rfl<|zv ?_
    revert h
    refine xC rfl rfl (fun hc h=>?_) (fun hc h=>?_)
    ·refine za<|zv<|zc<|zv<|zq<|zj zu rfl rfl ?_
     obtain ⟨hG11,h⟩:=zw h;simp only [Bool.and_eq_true] at hG11;obtain ⟨hG11_0,hG11_1⟩:=hG11;refine zq<|zj zu rfl (by simp only [hG11_0,hG11_1,oc]) ?_
     obtain ⟨hG10,h⟩:=zw h;refine zq<|zj zu rfl (by simp only [hG10,oc]) ?_
     refine ⟨(n,_,_),h,Nat.lt_succ_self _,(Wk.pick [36,1,2,8,35] [33] rfl rfl)⟩
    refine zr ?_;exact ⟨_,(Option.some.inj h).symm,(Wk.pick [1,2,8] [33] rfl rfl)⟩
   ·rintro _ rfl
    have h:=hk8;refine zv<|zv<|zq<|zj zu rfl rfl<|zc<|zv<|zv<|zq<|zj zu rfl rfl ?_
    obtain ⟨o12,ho12,hk12⟩:=bd h;refine zB (fun o12:Bool=>⟨[(1,.a (.c (.lst (.int .i64) a1 c0))),(8,.a (.c (.sl 33))),(44,.a (.c (.val (.int .u8 a0.1)))),(45,.a (.c (.val (.bool o12))))],[(33,.row 3 (.int .i64) o8 (some r7.toNat))]⟩) (fun o'=>o12=o') ?_ ?_
    ·have h:=ho12
     revert h
     refine xC rfl rfl (fun hc h=>?_) (fun hc h=>?_)
     ·refine za ?_
      exact ⟨_,(Option.some.inj h).symm,(Wk.pick [1,8,44,45] [33] rfl rfl)⟩
     refine zq<|zj zu rfl rfl ?_
     exact ⟨_,(Option.some.inj h).symm,(Wk.pick [1,8,44,45] [33] rfl rfl)⟩
    ·rintro _ rfl
     have h:=hk12
     revert h
     refine xC rfl rfl (fun hc h=>?_) (fun hc h=>?_)
     ·refine zv ?_
      obtain ⟨hG13,h⟩:=zw h;simp only [Bool.and_eq_true] at hG13;obtain ⟨⟨hG13_0,hG13_1⟩,hG13_2⟩:=hG13;refine zH [] (by kernel_rfl) rfl (N:=8)<|zn (fuel:=0) (ds':=⟨#[true,true,true,true,true,true,true,true],true,true,true⟩) zu [(0,0),(1,0),(2,1),(3,0),(4,0),(5,1),(6,0),(7,0)] (by kernel_rfl) rfl (by simp only [hG13_0,hG13_1,hG13_2,oc]) ?_
      refine zt (by kernel_rfl) ?_
      revert h
      refine xC rfl rfl (fun hc h=>?_) (fun hc h=>?_)
      ·refine zv<|zq<|zj zu rfl rfl ?_
       cases h;exact zd ⟨_,(Wk.trans (Wk.lst0 4 (.int .i64) rfl) (Wk.pick [4,5] [] rfl rfl)),_,_,rfl,rfl,rfl,rfl⟩
      refine za<|zv<|zq<|zj zu rfl rfl ?_
      cases h;exact zd ⟨_,(Wk.trans (Wk.frz (id:=33) rfl) (Wk.pick [4,5] [] rfl rfl)),_,_,rfl,rfl,rfl,rfl⟩
     refine zv<|zq<|zj zu rfl rfl ?_
     revert h
     refine xC rfl rfl (fun hc h=>?_) (fun hc h=>?_)
     ·refine zv<|zv ?_
      obtain ⟨hG15,h⟩:=zw h;refine zq<|zj zu rfl (by simp only [hG15,oc]) ?_
      revert h
      refine xC rfl rfl (fun hc h=>?_) (fun hc h=>?_)
      ·refine zv<|zq<|zj zu rfl rfl ?_
       cases h;exact zd ⟨_,(Wk.trans (Wk.lst0 4 (.int .i64) rfl) (Wk.pick [4,5] [] rfl rfl)),_,_,rfl,rfl,rfl,rfl⟩
      refine za ?_;obtain ⟨hG14,h⟩:=zw h;simp only [Bool.and_eq_true] at hG14;obtain ⟨⟨⟨hG14_0,hG14_1⟩,hG14_2⟩,hG14_3⟩:=hG14;refine zq<|zj zu rfl (by simp only [hG14_0,hG14_1,hG14_2,hG14_3,oc]) ?_
      refine zv<|zq<|zj zu rfl rfl ?_
      cases h;exact zd ⟨_,(Wk.trans (Wk.frz (id:=33) rfl) (Wk.pick [4,5] [] rfl rfl)),_,_,rfl,rfl,rfl,rfl⟩
     refine zv<|zq<|zj zu rfl rfl ?_
     revert h
     refine xC rfl rfl (fun hc h=>?_) (fun hc h=>?_)
     ·obtain ⟨hG16,h⟩:=zw h
      simp only [Bool.and_eq_true] at hG16;obtain ⟨⟨hG16_0,hG16_1⟩,hG16_2⟩:=hG16;refine zq<|zj zu rfl (by simp only [hG16_0,hG16_1,hG16_2,oc]) ?_
      refine zv<|zq<|zj zu rfl rfl ?_
      cases h;exact zd ⟨_,(Wk.trans (Wk.frz (id:=33) rfl) (Wk.pick [4,5] [] rfl rfl)),_,_,rfl,rfl,rfl,rfl⟩
     refine za<|zv<|zq<|zj zu rfl rfl ?_
     cases h;exact zd ⟨_,(Wk.trans (Wk.frz (id:=33) rfl) (Wk.pick [4,5] [] rfl rfl)),_,_,rfl,rfl,rfl,rfl⟩
def qB (a0:T0):Nat→Int→Int→Option (Int)
  | 0,_,_=>none
  | n+1,v2_0,v2_1=>
    cond (decide (v2_1 < (a0.length:Int))) (gd ((zi v2_1 a0.length)) <|
    Option.bind (yp (a0.getD v2_1.toNat (0,(0,(0,(0,false)))))) fun r3=>
    gd ((zk (v2_0+r3))) <|
    gd ((zk (v2_1+(1:Int)))) <|
    qB a0 n (v2_0+r3) (v2_1+(1:Int))) (some v2_0)
def m_totneeds (a0:T0):Option (Int):=
    Option.bind (qB a0 zC (0:Int) (0:Int)) fun o1=>
    some o1
theorem w_totneeds (a0:T0) (c0:Option Nat) (r:(Int)) (h:m_totneeds a0=some r):AC cx 24 [.c (.lst G0 a0 c0),.c (.fn 25 [])] [] (fun sv h=>sv=.a (.c (.val (.int .i64 r)))∧h=[]):=by
  unfold m_totneeds at h;refine zp zu Tryd.func24 rfl Tryd.ntmps24 rfl rfl (res:=[.tmp 4]) rfl<|zv<|zq<|zj zu rfl rfl<|zv<|zq<|zj zu rfl rfl<|zv<|zv<|zq<|zj zu rfl rfl ?_
  obtain ⟨o1,ho1,hk1⟩:=bd h;refine zB (fun o1:Int=>⟨[(5,.a (.c (.val (.int .i64 o1))))],[]⟩) (fun o'=>o1=o') ?_ ?_
  ·have h:=ho1
   refine zc<|zb (Wk.pick [5,10,1,8,9] [] rfl rfl)<|zm (fun y:Nat×Int×Int=>[(5,.a (.c (.val (.int .i64 y.2.1)))),(10,.a (.c (.val (.int .i64 y.2.2))))]) (fun y:Nat×Int×Int=>[]) (fun y:Nat×Int×Int=>qB a0 y.1 y.2.1 y.2.2=some o1) (fun y:Nat×Int×Int=>y.1) (zC,(0:Int),(0:Int)) h ?_
   rintro ⟨n,v2_0,v2_1⟩ h;replace h:qB a0 n v2_0 v2_1=some o1:=h
   rcases n with _ | n
   · cases (show (none:Option _)=some _ from h)
   rw [qB] at h
   try dsimp only
   refine zv<|zq<|zj zu rfl rfl<|zv ?_
   revert h
   refine xC rfl rfl (fun hc h=>?_) (fun hc h=>?_)
   ·refine za<|zv<|zc<|zv ?_
    obtain ⟨hG6,h⟩:=zw h;refine zq<|zj zu rfl (by simp only [hG6,oc]) ?_
    refine zb (Wk.frzC 7 G0 rfl rfl rfl) ?_;obtain ⟨r3,hr3,h⟩:=bd h;obtain ⟨hG5,h⟩:=zw h;refine zq<|zf zu rfl (by simp only [hG5,oc]) ?_
    refine xB [] (w_stneeds _  r3 hr3) rfl ⟨rfl,rfl⟩ rfl rfl Tryd.func25 rfl rfl rfl (by simp only [hG5,oc]) rfl rfl PassH.nil ?_;rintro _ _ ⟨rfl,rfl⟩;refine ⟨_,_,rfl,rfl,?_⟩;refine zj zu rfl (by simp only [hG5,oc]) ?_;obtain ⟨hG4,h⟩:=zw h;refine zq<|zj zu rfl (by simp only [hG4,oc]) ?_
    refine ⟨(n,_,_),h,Nat.lt_succ_self _,(Wk.pick [5,10,1,8,9] [] rfl rfl)⟩
   refine zr ?_;exact ⟨_,(Option.some.inj h).symm,(Wk.pick [5] [] rfl rfl)⟩
  ·rintro _ rfl
   have h:=hk1;refine zv<|zq<|zj zu rfl rfl ?_
   cases h;exact zd ⟨_,(Wk.pick [4] [] rfl rfl),_,_,rfl,rfl,rfl,rfl⟩
def qC (a0:T0):Nat→Int→Int→Option (Int)
  | 0,_,_=>none
  | n+1,v2_0,v2_1=>
    cond (decide (v2_1 < (a0.length:Int))) (gd ((zi v2_1 a0.length)) <|
    Option.bind (m_stmakes (a0.getD v2_1.toNat (0,(0,(0,(0,false)))))) fun r3=>
    gd ((zk (v2_0+r3))) <|
    gd ((zk (v2_1+(1:Int)))) <|
    qC a0 n (v2_0+r3) (v2_1+(1:Int))) (some v2_0)
def m_totmakes (a0:T0):Option (Int):=
    Option.bind (qC a0 zC (0:Int) (0:Int)) fun o1=>
    some o1
theorem w_totmakes (a0:T0) (c0:Option Nat) (r:(Int)) (h:m_totmakes a0=some r):AC cx 24 [.c (.lst G0 a0 c0),.c (.fn 36 [])] [] (fun sv h=>sv=.a (.c (.val (.int .i64 r)))∧h=[]):=by
  unfold m_totmakes at h;refine zp zu Tryd.func24 rfl Tryd.ntmps24 rfl rfl (res:=[.tmp 4]) rfl<|zv<|zq<|zj zu rfl rfl<|zv<|zq<|zj zu rfl rfl<|zv<|zv<|zq<|zj zu rfl rfl ?_
  obtain ⟨o1,ho1,hk1⟩:=bd h;refine zB (fun o1:Int=>⟨[(5,.a (.c (.val (.int .i64 o1))))],[]⟩) (fun o'=>o1=o') ?_ ?_
  ·have h:=ho1
   refine zc<|zb (Wk.pick [5,10,1,8,9] [] rfl rfl)<|zm (fun y:Nat×Int×Int=>[(5,.a (.c (.val (.int .i64 y.2.1)))),(10,.a (.c (.val (.int .i64 y.2.2))))]) (fun y:Nat×Int×Int=>[]) (fun y:Nat×Int×Int=>qC a0 y.1 y.2.1 y.2.2=some o1) (fun y:Nat×Int×Int=>y.1) (zC,(0:Int),(0:Int)) h ?_
   rintro ⟨n,v2_0,v2_1⟩ h;replace h:qC a0 n v2_0 v2_1=some o1:=h
   rcases n with _ | n
   · cases (show (none:Option _)=some _ from h)
   rw [qC] at h
   try dsimp only
   refine zv<|zq<|zj zu rfl rfl<|zv ?_
   revert h
   refine xC rfl rfl (fun hc h=>?_) (fun hc h=>?_)
   ·refine za<|zv<|zc<|zv ?_
    obtain ⟨hG6,h⟩:=zw h;refine zq<|zj zu rfl (by simp only [hG6,oc]) ?_
    refine zb (Wk.frzC 7 G0 rfl rfl rfl) ?_;obtain ⟨r3,hr3,h⟩:=bd h;obtain ⟨hG5,h⟩:=zw h;refine zq<|zf zu rfl (by simp only [hG5,oc]) ?_
    refine xB [] (w_stmakes _  r3 hr3) rfl ⟨rfl,rfl⟩ rfl rfl Tryd.func36 rfl rfl rfl (by simp only [hG5,oc]) rfl rfl PassH.nil ?_;rintro _ _ ⟨rfl,rfl⟩;refine ⟨_,_,rfl,rfl,?_⟩;refine zj zu rfl (by simp only [hG5,oc]) ?_;obtain ⟨hG4,h⟩:=zw h;refine zq<|zj zu rfl (by simp only [hG4,oc]) ?_
    refine ⟨(n,_,_),h,Nat.lt_succ_self _,(Wk.pick [5,10,1,8,9] [] rfl rfl)⟩
   refine zr ?_;exact ⟨_,(Option.some.inj h).symm,(Wk.pick [5] [] rfl rfl)⟩
  ·rintro _ rfl
   have h:=hk1;refine zv<|zq<|zj zu rfl rfl ?_
   cases h;exact zd ⟨_,(Wk.pick [4] [] rfl rfl),_,_,rfl,rfl,rfl,rfl⟩
def yw (a0:T0):Option (Int):=
    Option.bind (m_totneeds a0) fun r1=>
    some r1
theorem w_chneeds (a0:T0) (c0:Option Nat) (r:(Int)) (h:yw a0=some r):AC cx 7 [.c (.lst G0 a0 c0)] [] (fun sv h=>sv=.a (.c (.val (.int .i64 r)))∧h=[]):=by
  unfold yw at h;refine zp zu Tryd.func7 rfl Tryd.ntmps7 rfl rfl (res:=[.tmp 2]) rfl<|zv<|zq<|zj zu rfl rfl<|zv ?_
  obtain ⟨r1,hr1,h⟩:=bd h;refine zq<|zf zu rfl rfl<|zg (w_totneeds _ c0 r1 hr1) rfl ⟨rfl,rfl⟩ rfl Tryd.func24 rfl rfl rfl rfl rfl rfl<|zj zu rfl rfl ?_
  cases h;exact zd ⟨_,(Wk.pick [2] [] rfl rfl),_,_,rfl,rfl,rfl,rfl⟩
def m_chmakes (a0:T0):Option (Int):=
    Option.bind (m_totmakes a0) fun r1=>
    some r1
theorem w_chmakes (a0:T0) (c0:Option Nat) (r:(Int)) (h:m_chmakes a0=some r):AC cx 13 [.c (.lst G0 a0 c0)] [] (fun sv h=>sv=.a (.c (.val (.int .i64 r)))∧h=[]):=by
  unfold m_chmakes at h;refine zp zu Tryd.func13 rfl Tryd.ntmps13 rfl rfl (res:=[.tmp 2]) rfl<|zv<|zq<|zj zu rfl rfl<|zv ?_
  obtain ⟨r1,hr1,h⟩:=bd h;refine zq<|zf zu rfl rfl<|zg (w_totmakes _ c0 r1 hr1) rfl ⟨rfl,rfl⟩ rfl Tryd.func24 rfl rfl rfl rfl rfl rfl<|zj zu rfl rfl ?_
  cases h;exact zd ⟨_,(Wk.pick [2] [] rfl rfl),_,_,rfl,rfl,rfl,rfl⟩
def xa (a0:T0):Nat→Int→Int→Option (Int)
  | 0,_,_=>none
  | n+1,v2_0,v2_1=>
    cond (decide (v2_1 < (a0.length:Int))) (gd ((zi v2_1 a0.length)) <|
    gd ((zk (v2_1+(1:Int)))) <|
    xa a0 n (if (a0.getD v2_1.toNat (0,(0,(0,(0,false))))).2.1 < v2_0 then (a0.getD v2_1.toNat (0,(0,(0,(0,false))))).2.1 else v2_0) (v2_1+(1:Int))) (some v2_0)
def yA (a0:T0):Option (Int):=
    cond (decide ((a0.length:Int)=(0:Int))) (some (0:Int)) (gd ((zi (0:Int) a0.length)) <|
    Option.bind (xa a0 zC (a0.getD (0:Int).toNat (0,(0,(0,(0,false))))).2.1 (0:Int)) fun o1=>
    some o1)
theorem w_chfirst (a0:T0) (c0:Option Nat) (r:(Int)) (h:yA a0=some r):AC cx 76 [.c (.lst G0 a0 c0)] [] (fun sv h=>sv=.a (.c (.val (.int .u8 r)))∧h=[]):=by
  unfold yA at h;refine zp zu Tryd.func76 rfl Tryd.ntmps76 rfl rfl (res:=[.tmp 2]) rfl<|zv<|zq<|zj zu rfl rfl<|zv<|zv<|zq<|zj zu rfl rfl ?_
  revert h
  refine xC rfl rfl (fun hc h=>?_) (fun hc h=>?_)
  ·refine zv<|zq<|zj zu rfl rfl ?_
   cases h;exact zd ⟨_,(Wk.pick [2] [] rfl rfl),_,_,rfl,rfl,rfl,rfl⟩
  refine za<|zv ?_
  obtain ⟨hG5,h⟩:=zw h;refine zq<|zj zu rfl (by simp only [hG5,oc]) ?_
  refine zv<|zv<|zq<|zj zu rfl rfl ?_
  obtain ⟨o1,ho1,hk1⟩:=bd h;refine zB (fun o1:Int=>⟨[(3,.a (.c (.val (.int .u8 o1))))],[]⟩) (fun o'=>o1=o') ?_ ?_
  ·have h:=ho1
   refine zc<|zb (Wk.pick [3,15,13,14] [] rfl rfl)<|zm (fun y:Nat×Int×Int=>[(3,.a (.c (.val (.int .u8 y.2.1)))),(15,.a (.c (.val (.int .i64 y.2.2))))]) (fun y:Nat×Int×Int=>[]) (fun y:Nat×Int×Int=>xa a0 y.1 y.2.1 y.2.2=some o1) (fun y:Nat×Int×Int=>y.1) (zC,(a0.getD (0:Int).toNat (0,(0,(0,(0,false))))).2.1,(0:Int)) h ?_
   rintro ⟨n,v2_0,v2_1⟩ h;replace h:xa a0 n v2_0 v2_1=some o1:=h
   rcases n with _ | n
   · cases (show (none:Option _)=some _ from h)
   rw [xa] at h
   try dsimp only
   refine zv<|zq<|zj zu rfl rfl<|zv ?_
   revert h
   refine xC rfl rfl (fun hc h=>?_) (fun hc h=>?_)
   ·refine za<|zv<|zc<|zv ?_
    obtain ⟨hG4,h⟩:=zw h;refine zq<|zj zu rfl (by simp only [hG4,oc]) ?_
    refine zb (Wk.frzC 5 G0 rfl rfl rfl)<|zq<|zj zu rfl rfl ?_
    obtain ⟨hG3,h⟩:=zw h;refine zq<|zj zu rfl (by simp only [hG3,oc]) ?_
    refine ⟨(n,_,_),h,Nat.lt_succ_self _,(Wk.pick [3,15,13,14] [] rfl rfl)⟩
   refine zr ?_;exact ⟨_,(Option.some.inj h).symm,(Wk.pick [3] [] rfl rfl)⟩
  ·rintro _ rfl
   have h:=hk1;refine zv<|zq<|zj zu rfl rfl ?_
   cases h;exact zd ⟨_,(Wk.pick [2] [] rfl rfl),_,_,rfl,rfl,rfl,rfl⟩
def qL (a0:T0):Nat→Int→Option ((Unit)⊕(Int))
  | 0,_=>none
  | n+1,v2_0=>
    cond (decide (v2_0 < (a0.length:Int))) (gd ((zi v2_0 a0.length)) <|
    Option.bind (yu (a0.getD v2_0.toNat (0,(0,(0,(0,false)))))) fun r3=>
    cond (!(decide (r3=(0:Int)))) (some (.inr (1:Int))) (gd ((zk (v2_0+(1:Int)))) <|
    qL a0 n (v2_0+(1:Int)))) (some (.inl ()))
def m_chrow (a0:T0):Option (Int):=
    cond (decide ((16:Int) < (a0.length:Int))) (some (3:Int)) (cond (decide ((a0.length:Int)=(0:Int))) (some (1:Int)) (Option.bind (qL a0 zC (0:Int)) fun o1=>
    sm o1 (fun o1=>
    Option.bind (yw a0) fun r6=>
    Option.bind (m_chmakes a0) fun r7=>
    cond (cond (cond (cond (decide (r6 < (1:Int))) true (decide ((16:Int) < r6))) true (decide (r7 < (1:Int)))) true (decide ((16:Int) < r7))) (some (5:Int)) (some (0:Int))) (fun q=>some q)))
theorem w_chrow (a0:T0) (c0:Option Nat) (r:(Int)) (h:m_chrow a0=some r):AC cx 16 [.c (.lst G0 a0 c0)] [] (fun sv h=>sv=.a (.c (.val (.int .i64 r)))∧h=[]):=by
  unfold m_chrow at h;refine zp zu Tryd.func16 rfl Tryd.ntmps16 rfl rfl (res:=[.tmp 2]) rfl<|zv<|zq<|zj zu rfl rfl<|zv<|zv<|zq<|zj zu rfl rfl ?_
  revert h
  refine xC rfl rfl (fun hc h=>?_) (fun hc h=>?_)
  ·refine zv<|zq<|zj zu rfl rfl ?_
   cases h;exact zd ⟨_,(Wk.pick [2] [] rfl rfl),_,_,rfl,rfl,rfl,rfl⟩
  refine za<|zv<|zv<|zq<|zj zu rfl rfl ?_
  revert h
  refine xC rfl rfl (fun hc h=>?_) (fun hc h=>?_)
  ·refine zv<|zq<|zj zu rfl rfl ?_
   cases h;exact zd ⟨_,(Wk.pick [2] [] rfl rfl),_,_,rfl,rfl,rfl,rfl⟩
  refine za<|zv<|zv<|zq<|zj zu rfl rfl ?_
  obtain ⟨o1,ho1,hk1⟩:=bd h;refine zB (fun o1:Unit=>⟨[(0,.a (.c (.lst G0 a0 c0)))],[]⟩) (fun o'=>Sum.inl o'=o1) ?_ ?_
  ·have h:=ho1
   refine zc<|zb (Wk.pick [15,0,13,14] [] rfl rfl)<|zm (fun y:Nat×Int=>[(15,.a (.c (.val (.int .i64 y.2))))]) (fun y:Nat×Int=>[]) (fun y:Nat×Int=>qL a0 y.1 y.2=some o1) (fun y:Nat×Int=>y.1) (zC,(0:Int)) h ?_
   rintro ⟨n,v2_0⟩ h;replace h:qL a0 n v2_0=some o1:=h
   rcases n with _ | n
   · cases (show (none:Option _)=some _ from h)
   rw [qL] at h
   try dsimp only
   refine zv<|zq<|zj zu rfl rfl<|zv ?_
   revert h
   refine xC rfl rfl (fun hc h=>?_) (fun hc h=>?_)
   ·refine za<|zv<|zc<|zv ?_
    obtain ⟨hG5,h⟩:=zw h;refine zq<|zj zu rfl (by simp only [hG5,oc]) ?_
    refine zb (Wk.frzC 4 G0 rfl rfl rfl)<|zv ?_
    obtain ⟨r3,hr3,h⟩:=bd h;refine zq<|zf zu rfl rfl<|zg (w_stcheck _  r3 hr3) rfl ⟨rfl,rfl⟩ rfl Tryd.func44 rfl rfl rfl rfl rfl rfl<|zj zu rfl rfl ?_
    revert h
    refine xC rfl rfl (fun hc h=>?_) (fun hc h=>?_)
    ·refine zv<|zq<|zj zu rfl rfl<|zd ?_
     obtain rfl:=Option.some.inj h;have h:=hk1;dsimp only [sm] at h;obtain rfl:=Option.some.inj h;refine ⟨_,(Wk.pick [2] [] rfl rfl),_,_,rfl,rfl,?_⟩;exact ⟨rfl,rfl⟩
    refine za ?_;obtain ⟨hG4,h⟩:=zw h;refine zq<|zj zu rfl (by simp only [hG4,oc]) ?_
    refine ⟨(n,_),h,Nat.lt_succ_self _,(Wk.pick [15,0,13,14] [] rfl rfl)⟩
   refine zr ?_;exact ⟨_,Option.some.inj h,(Wk.pick [0] [] rfl rfl)⟩
  ·rintro o1 rfl
   have h:=hk1;dsimp only [sm] at h;refine zv ?_;obtain ⟨r6,hr6,h⟩:=bd h;obtain ⟨r7,hr7,h⟩:=bd h;refine zq<|zf zu rfl rfl<|zg (w_chneeds _ c0 r6 hr6) rfl ⟨rfl,rfl⟩ rfl Tryd.func7 rfl rfl rfl rfl rfl rfl<|zf zu rfl rfl<|zg (w_chmakes _ c0 r7 hr7) rfl ⟨rfl,rfl⟩ rfl Tryd.func13 rfl rfl rfl rfl rfl rfl<|zj zu rfl rfl<|zv<|zv<|zq<|zj zu rfl (by generalize (decide ((16:Int) < r6))=b0; generalize (decide (r6 < (1:Int)))=b1; generalize (decide (r7 < (1:Int)))=b2; revert b0 b1 b2; decide) ?_
   revert h
   refine xC rfl rfl (fun hc h=>?_) (fun hc h=>?_)
   ·refine zv<|zq<|zj zu rfl rfl ?_
    cases h;exact zd ⟨_,(Wk.pick [2] [] rfl rfl),_,_,rfl,rfl,rfl,rfl⟩
   refine za<|zv<|zq<|zj zu rfl rfl ?_
   cases h;exact zd ⟨_,(Wk.pick [2] [] rfl rfl),_,_,rfl,rfl,rfl,rfl⟩
def xt (a0:(List T0)):Nat→Int→Option ((Unit)⊕(Int))
  | 0,_=>none
  | n+1,v2_0=>
    cond (decide (v2_0 < (a0.length:Int))) (gd ((zi v2_0 a0.length)) <|
    Option.bind (m_chrow (a0.getD v2_0.toNat [])) fun r3=>
    cond (!(decide (r3=(0:Int)))) (some (.inr r3)) (gd ((zk (v2_0+(1:Int)))) <|
    xt a0 n (v2_0+(1:Int)))) (some (.inl ()))
def xc (a0:(List T0)):Nat→Int→Option ((Unit)⊕(Int))
  | 0,_=>none
  | n+1,v7_0=>
    cond (decide (v7_0 < (a0.length:Int))) (gd ((zi v7_0 a0.length)) <|
    Option.bind (yw (a0.getD v7_0.toNat [])) fun r8=>
    gd ((zk (v7_0 - (1:Int)))&&(zi (v7_0 - (1:Int)) a0.length)) <|
    Option.bind (m_chmakes (a0.getD (v7_0 - (1:Int)).toNat [])) fun r9=>
    cond (!(decide (r8=r9))) (some (.inr (14:Int))) (gd ((zk (v7_0+(1:Int)))) <|
    xc a0 n (v7_0+(1:Int)))) (some (.inl ()))
def m_chrows (a0:(List T0)):Option (Int):=
    cond (decide ((31:Int) < (a0.length:Int))) (some (3:Int)) (cond (decide ((Int.tmod (a0.length:Int) (2:Int))=(0:Int))) (some (1:Int)) (Option.bind (xt a0 zC (0:Int)) fun o1=>
    sm o1 (fun o1=>
    Option.bind (xc a0 zC (1:Int)) fun o6=>
    sm o6 (fun o6=>
    some (0:Int)) (fun q=>some q)) (fun q=>some q)))
theorem w_chrows (a0:(List T0)) (c0:Option Nat) (r:(Int)) (h:m_chrows a0=some r):AC cx 74 [.c (.lst (.sl G0) a0 c0)] [] (fun sv h=>sv=.a (.c (.val (.int .i64 r)))∧h=[]):=by
  unfold m_chrows at h;refine zp zu Tryd.func74 rfl Tryd.ntmps74 rfl rfl (res:=[.tmp 2]) rfl<|zv<|zq<|zj zu rfl rfl<|zv<|zv<|zq<|zj zu rfl rfl ?_
  revert h
  refine xC rfl rfl (fun hc h=>?_) (fun hc h=>?_)
  ·refine zv<|zq<|zj zu rfl rfl ?_
   cases h;exact zd ⟨_,(Wk.pick [2] [] rfl rfl),_,_,rfl,rfl,rfl,rfl⟩
  refine za<|zv<|zv<|zq<|zj zu rfl rfl ?_
  revert h
  refine xC rfl rfl (fun hc h=>?_) (fun hc h=>?_)
  ·refine zv<|zq<|zj zu rfl rfl ?_
   cases h;exact zd ⟨_,(Wk.pick [2] [] rfl rfl),_,_,rfl,rfl,rfl,rfl⟩
  refine za<|zv<|zv<|zq<|zj zu rfl rfl ?_
  obtain ⟨o1,ho1,hk1⟩:=bd h;refine zB (fun o1:Unit=>⟨[(0,.a (.c (.lst (.sl G0) a0 c0)))],[]⟩) (fun o'=>Sum.inl o'=o1) ?_ ?_
  ·have h:=ho1
   refine zc<|zb (Wk.pick [16,0,14,15] [] rfl rfl)<|zm (fun y:Nat×Int=>[(16,.a (.c (.val (.int .i64 y.2))))]) (fun y:Nat×Int=>[]) (fun y:Nat×Int=>xt a0 y.1 y.2=some o1) (fun y:Nat×Int=>y.1) (zC,(0:Int)) h ?_
   rintro ⟨n,v2_0⟩ h;replace h:xt a0 n v2_0=some o1:=h
   rcases n with _ | n
   · cases (show (none:Option _)=some _ from h)
   rw [xt] at h
   try dsimp only
   refine zv<|zq<|zj zu rfl rfl<|zv ?_
   revert h
   refine xC rfl rfl (fun hc h=>?_) (fun hc h=>?_)
   ·refine za<|zv<|zc<|zv ?_
    obtain ⟨hG5,h⟩:=zw h;refine zq<|zj zu rfl (by simp only [hG5,oc]) ?_
    refine zv ?_;obtain ⟨r3,hr3,h⟩:=bd h;refine zq<|zf zu rfl rfl<|zg (w_chrow _ none r3 hr3) rfl ⟨rfl,rfl⟩ rfl Tryd.func16 rfl rfl rfl rfl rfl rfl<|zj zu rfl rfl<|zv<|zq<|zj zu rfl rfl ?_
    revert h
    refine xC rfl rfl (fun hc h=>?_) (fun hc h=>?_)
    ·refine zv<|zq<|zj zu rfl rfl<|zd ?_
     obtain rfl:=Option.some.inj h;have h:=hk1;dsimp only [sm] at h;obtain rfl:=Option.some.inj h;refine ⟨_,(Wk.pick [2] [] rfl rfl),_,_,rfl,rfl,?_⟩;exact ⟨rfl,rfl⟩
    refine za ?_;obtain ⟨hG4,h⟩:=zw h;refine zq<|zj zu rfl (by simp only [hG4,oc]) ?_
    refine ⟨(n,_),h,Nat.lt_succ_self _,(Wk.pick [16,0,14,15] [] rfl rfl)⟩
   refine zr ?_;exact ⟨_,Option.some.inj h,(Wk.pick [0] [] rfl rfl)⟩
  ·rintro o1 rfl
   have h:=hk1;dsimp only [sm] at h;refine zv<|zv<|zq<|zj zu rfl rfl ?_
   obtain ⟨o6,ho6,hk6⟩:=bd h;refine zB (fun o6:Unit=>⟨[],[]⟩) (fun o'=>Sum.inl o'=o6) ?_ ?_
   ·have h:=ho6
    refine zc<|zb (Wk.pick [6,0] [] rfl rfl)<|zm (fun y:Nat×Int=>[(6,.a (.c (.val (.int .i64 y.2))))]) (fun y:Nat×Int=>[]) (fun y:Nat×Int=>xc a0 y.1 y.2=some o6) (fun y:Nat×Int=>y.1) (zC,(1:Int)) h ?_
    rintro ⟨n,v7_0⟩ h;replace h:xc a0 n v7_0=some o6:=h
    rcases n with _ | n
    · cases (show (none:Option _)=some _ from h)
    rw [xc] at h
    try dsimp only
    refine zv<|zv<|zq<|zj zu rfl rfl ?_
    revert h
    refine xC rfl rfl (fun hc h=>?_) (fun hc h=>?_)
    ·refine za<|zv<|zc<|zv ?_
     obtain ⟨hG11,h⟩:=zw h;obtain ⟨r8,hr8,h⟩:=bd h;obtain ⟨hG12,h⟩:=zw h;simp only [Bool.and_eq_true] at hG12;obtain ⟨hG12_0,hG12_1⟩:=hG12;obtain ⟨r9,hr9,h⟩:=bd h;refine zH [] (by kernel_rfl) rfl (N:=12)<|zn (fuel:=3) (ds':=⟨#[true,true,true,true,false,true,true,true,true,true,false,false],true,true,true⟩) zu [(0,0),(1,0),(2,0),(3,1),(5,0),(6,0),(7,0),(8,0),(9,1)] (by kernel_rfl) rfl (by simp only [hG11,hG12_0,hG12_1,oc]) ?_
     refine zl (by kernel_rfl) (zh (i:=4) ?_ zo);refine zN rfl<|zP (i:=4) (listed':=#[true,true,true,true,true,true,true,true,true,true,false,false]) (pre':=true) [] (w_chneeds _ none r8 hr8) rfl rfl rfl rfl ⟨rfl,rfl⟩ rfl Tryd.func7 rfl rfl rfl (by simp only [hG11,hG12_0,hG12_1,oc]) rfl rfl PassH.nil ?_
     rintro _ _ ⟨rfl,rfl⟩;refine ⟨_,_,rfl,rfl,?_⟩;refine zl (by kernel_rfl) (zh (i:=10) ?_ zo);refine zN rfl<|zP (i:=10) (listed':=#[true,true,true,true,true,true,true,true,true,true,true,false]) (pre':=true) [] (w_chmakes _ none r9 hr9) rfl rfl rfl rfl ⟨rfl,rfl⟩ rfl Tryd.func13 rfl rfl rfl (by simp only [hG11,hG12_0,hG12_1,oc]) rfl rfl PassH.nil ?_
     rintro _ _ ⟨rfl,rfl⟩;refine ⟨_,_,rfl,rfl,?_⟩;refine zn (fuel:=0) (ds':=⟨#[true,true,true,true,true,true,true,true,true,true,true,true],false,true,false⟩) zu [(11,0)] (by kernel_rfl) rfl (by simp only [hG11,hG12_0,hG12_1,oc]) ?_;refine zt (by kernel_rfl) ?_
     revert h
     refine xC rfl rfl (fun hc h=>?_) (fun hc h=>?_)
     ·refine zv<|zq<|zj zu rfl rfl<|zd ?_
      obtain rfl:=Option.some.inj h;have h:=hk6;dsimp only [sm] at h;obtain rfl:=Option.some.inj h;refine ⟨_,(Wk.pick [2] [] rfl rfl),_,_,rfl,rfl,?_⟩;exact ⟨rfl,rfl⟩
     refine za ?_;obtain ⟨hG10,h⟩:=zw h;refine zq<|zj zu rfl (by simp only [hG10,oc]) ?_
     refine ⟨(n,_),h,Nat.lt_succ_self _,(Wk.pick [6,0] [] rfl rfl)⟩
    refine zr ?_;exact ⟨_,Option.some.inj h,(Wk.pick [] [] rfl rfl)⟩
   ·rintro o6 rfl
    have h:=hk6;dsimp only [sm] at h;refine zv<|zq<|zj zu rfl rfl ?_
    cases h;exact zd ⟨_,(Wk.pick [2] [] rfl rfl),_,_,rfl,rfl,rfl,rfl⟩
def xA (r2:Int):Nat→Int→T3→Option (T3)
  | 0,_,_=>none
  | n+1,v4_0,v4_1=>
    cond (decide (v4_0 < ((List.replicate r2.toNat (0:Int)).length:Int))) (gd ((zi v4_0 v4_1.length)&&(decide (v4_0.toNat < v4_1.length))) <|
    gd ((zk (v4_0+(1:Int)))) <|
    xA r2 n (v4_0+(1:Int)) (v4_1.set v4_0.toNat (1:Int))) (some v4_1)
def qD (a0:(List T0)) (v8_0:Int) (v8_1:List T3) (v8_2:Option Nat):Nat→T3→Int→T3→(Option Nat)→Option ((T3×(Option Nat))⊕(Int×(List T3)×(Option Nat)))
  | 0,_,_,_,_=>none
  | n+1,v11_0,v11_1,v11_2,v11_3=>
    cond (decide (v11_1 < ((a0.getD v8_0.toNat []).length:Int))) (gd ((zi v11_1 (a0.getD v8_0.toNat []).length)) <|
    Option.bind (yp ((a0.getD v8_0.toNat []).getD v11_1.toNat (0,(0,(0,(0,false)))))) fun r12=>
    gd ((decide (0≤r12))&&(decide (r12≤(v11_0.length:Int)))) <|
    Option.bind (m_stloads ((a0.getD v8_0.toNat []).getD v11_1.toNat (0,(0,(0,(0,false))))) (v11_0.take r12.toNat)) fun r13=>
    cond (!(decide (r13.2.2=(0:Int)))) (some (.inr (r13.2.2,v8_1,v8_2))) (gd ((decide (0≤r12))&&(decide (r12≤(v11_0.length:Int)))) <|
    gd ((ze 8 (v11_2.length+r13.1.length))) <|
    gd ((zk (v11_1+(1:Int)))) <|
    qD a0 v8_0 v8_1 v8_2 n (v11_0.drop r12.toNat) (v11_1+(1:Int)) (v11_2++r13.1) none)) (some (.inl (v11_2,v11_3)))
def qS (a0:(List T0)):Nat→Int→(List T3)→(Option Nat)→Option (Int×(List T3)×(Option Nat))
  | 0,_,_,_=>none
  | n+1,v8_0,v8_1,v8_2=>
    cond (decide (v8_0 < (a0.length:Int))) (gd ((zi v8_0 a0.length)) <|
    gd ((zi v8_0 v8_1.length)&&(decide (v8_0.toNat < v8_1.length))) <|
    Option.bind (m_chmakes (a0.getD v8_0.toNat [])) fun r9=>
    gd ((decide ((0:Int)≤r9))&&(decide ((8:Int) * r9≤140737488355328))&&(decide (r9≤140737488355328))) <|
    Option.bind (qD a0 v8_0 v8_1 v8_2 zC (v8_1.getD v8_0.toNat []) (0:Int) ([]:List Int) (some r9.toNat)) fun o10=>
    sm o10 (fun o10=>
    gd ((ze 24 (v8_1.length+[o10.1].length))) <|
    gd ((zk (v8_0+(1:Int)))) <|
    qS a0 n (v8_0+(1:Int)) (v8_1++[o10.1]) none) (fun q=>some q)) (some ((0:Int),v8_1,v8_2))
def m_chloads (a0:(List T0)):Option ((List T3)×(Option Nat)×Int):=
    Option.bind (m_chrows a0) fun r1=>
    cond (!(decide (r1=(0:Int)))) (some (([]:List T3),(some 0),r1)) (gd ((zi (0:Int) a0.length)) <|
    Option.bind (yw (a0.getD (0:Int).toNat [])) fun r2=>
    gd ((decide (0≤r2))&&(decide ((8:Int) * r2≤140737488355328))&&(decide (r2≤140737488355328))) <|
    Option.bind (xA r2 zC (0:Int) (List.replicate r2.toNat (0:Int))) fun o3=>
    gd ((zk ((1:Int)+(a0.length:Int)))&&(decide ((1:Int)≤((1:Int)+(a0.length:Int))))&&(decide ((24:Int) * ((1:Int)+(a0.length:Int))≤140737488355328))&&(decide (((1:Int)+(a0.length:Int))≤140737488355328))) <|
    gd ((zi (0:Int) (List.replicate (1:Int).toNat ([]:T3)).length)&&(decide ((0:Int).toNat < (List.replicate (1:Int).toNat ([]:T3)).length))) <|
    Option.bind (qS a0 zC (0:Int) ((List.replicate (1:Int).toNat ([]:T3)).set (0:Int).toNat o3) (some ((1:Int)+(a0.length:Int)).toNat)) fun o7=>
    cond (!(decide (o7.1=(0:Int)))) (some (([]:List T3),(some 0),o7.1)) (some (o7.2.1,o7.2.2,(0:Int))))
theorem w_chloads (a0:(List T0)) (c0:Option Nat) (r:((List T3)×(Option Nat)×Int)) (h:m_chloads a0=some r):AC cx 52 [.agg [.lst (.sl G0) a0 c0]] [] (fun sv h=>sv=.tup [.c (.lst G2 r.1 r.2.1),.c (.val (.int .i64 r.2.2))]∧h=[]):=by
  unfold m_chloads at h;refine zp zu Tryd.func52 rfl Tryd.ntmps52 rfl rfl (res:=[.tmp 2,.tmp 3]) rfl<|zv<|zq<|zj zu rfl rfl<|zb (Wk.frzC 1 G5 rfl rfl rfl)<|ax_scope<|zv<|zv ?_
  obtain ⟨r1,hr1,h⟩:=bd h;refine zq<|zf zu rfl rfl<|zg (w_chrows _ none r1 hr1) rfl ⟨rfl,rfl⟩ rfl Tryd.func74 rfl rfl rfl rfl rfl rfl<|zj zu rfl rfl<|zv<|zq<|zj zu rfl rfl ?_
  revert h
  refine xC rfl rfl (fun hc h=>?_) (fun hc h=>?_)
  ·refine zv<|zq<|zj zu rfl rfl ?_
   cases h;exact zd ⟨_,(Wk.trans (Wk.lst0 2 G2 rfl) (Wk.pick [2,3] [] rfl rfl)),_,_,rfl,rfl,rfl,rfl⟩
  refine za<|zv ?_
  obtain ⟨hG26,h⟩:=zw h;obtain ⟨r2,hr2,h⟩:=bd h;obtain ⟨hG27,h⟩:=zw h;simp only [Bool.and_eq_true] at hG27;obtain ⟨⟨hG27_0,hG27_1⟩,hG27_2⟩:=hG27;refine zq<|zf zu rfl (by simp only [hG26,hG27_0,hG27_1,hG27_2,oc]) ?_
  refine zg (w_chneeds _ none r2 hr2) rfl ⟨rfl,rfl⟩ rfl Tryd.func7 rfl rfl rfl (by simp only [hG26,hG27_0,hG27_1,hG27_2,oc]) rfl rfl ?_;refine zj zu rfl (by simp_all) ?_;refine zv<|zv<|zq<|zj zu rfl rfl ?_
  obtain ⟨o3,ho3,hk3⟩:=bd h;refine zB (fun o3:T3=>⟨[(1,.a (.c (.pel G5 a0 0))),(5,.a (.c (.sl 29)))],[(29,.row 3 (.int .i64) o3 (some r2.toNat))]⟩) (fun o'=>o3=o') ?_ ?_
  ·have h:=ho3
   refine zc<|zb (Wk.pick [32,1,5,31] [29] rfl rfl)<|zm (fun y:Nat×Int×T3=>[(32,.a (.c (.val (.int .i64 y.2.1))))]) (fun y:Nat×Int×T3=>[(29,.row 3 (.int .i64) y.2.2 (some r2.toNat))]) (fun y:Nat×Int×T3=>xA r2 y.1 y.2.1 y.2.2=some o3) (fun y:Nat×Int×T3=>y.1) (zC,(0:Int),(List.replicate r2.toNat (0:Int))) h ?_
   rintro ⟨n,v4_0,v4_1⟩ h;replace h:xA r2 n v4_0 v4_1=some o3:=h
   rcases n with _ | n
   · cases (show (none:Option _)=some _ from h)
   rw [xA] at h
   try dsimp only
   refine zv<|zq<|zj zu rfl rfl<|zv ?_
   revert h
   refine xC rfl rfl (fun hc h=>?_) (fun hc h=>?_)
   ·refine za<|zv<|zc<|zv<|zq<|zj zu rfl rfl ?_
    obtain ⟨hG6,h⟩:=zw h;simp only [Bool.and_eq_true] at hG6;obtain ⟨hG6_0,hG6_1⟩:=hG6;refine zq<|zj zu rfl (by simp only [hG6_0,hG6_1,oc]) ?_
    obtain ⟨hG5,h⟩:=zw h;refine zq<|zj zu rfl (by simp only [hG5,oc]) ?_
    refine ⟨(n,_,_),h,Nat.lt_succ_self _,(Wk.pick [32,1,5,31] [29] rfl rfl)⟩
   refine zr ?_;exact ⟨_,(Option.some.inj h).symm,(Wk.pick [1,5] [29] rfl rfl)⟩
  ·rintro _ rfl
   have h:=hk3;refine zv ?_;obtain ⟨hG25,h⟩:=zw h;simp only [Bool.and_eq_true] at hG25;obtain ⟨⟨⟨hG25_0,hG25_1⟩,hG25_2⟩,hG25_3⟩:=hG25;refine zq<|zj zu rfl (by simp_all) ?_
   refine zv ?_;obtain ⟨hG24,h⟩:=zw h;simp only [Bool.and_eq_true] at hG24;obtain ⟨hG24_0,hG24_1⟩:=hG24;refine zq<|qf 3 zu rfl (by simp only [hG24_0,hG24_1,oc]) ?_
   refine xb (Wk.frz (id:=29) rfl)<|zj zu rfl (by simp only [hG24_0,hG24_1,oc]) ?_
   refine zv<|zq<|zj zu rfl rfl<|zv<|ax_label<|zv<|zv<|zq<|zj zu rfl rfl ?_
   obtain ⟨o7,ho7,hk7⟩:=bd h;refine zB (fun o7:Int×(List T3)×(Option Nat)=>⟨[(7,.a (.c (.sl 43))),(8,.a (.c (.val (.int .i64 o7.1))))],[(43,.row 42 G2 o7.2.1 o7.2.2)]⟩) (fun o'=>o7=o') ?_ ?_
   ·have h:=ho7
    refine zc<|zb (Wk.pick [50,7,8,48,49] [43] rfl rfl)<|zm (fun y:Nat×Int×(List T3)×(Option Nat)=>[(50,.a (.c (.val (.int .i64 y.2.1))))]) (fun y:Nat×Int×(List T3)×(Option Nat)=>[(43,.row 42 G2 y.2.2.1 y.2.2.2)]) (fun y:Nat×Int×(List T3)×(Option Nat)=>qS a0 y.1 y.2.1 y.2.2.1 y.2.2.2=some o7) (fun y:Nat×Int×(List T3)×(Option Nat)=>y.1) (zC,(0:Int),((List.replicate (1:Int).toNat ([]:T3)).set (0:Int).toNat o3),(some ((1:Int)+(a0.length:Int)).toNat)) h ?_
    rintro ⟨n,v8_0,v8_1,v8_2⟩ h;replace h:qS a0 n v8_0 v8_1 v8_2=some o7:=h
    rcases n with _ | n
    · cases (show (none:Option _)=some _ from h)
    rw [qS] at h
    try dsimp only
    refine zv<|zq<|zj zu rfl rfl<|zv ?_
    revert h
    refine xC rfl rfl (fun hc h=>?_) (fun hc h=>?_)
    ·refine za<|zv<|zc<|zv ?_
     obtain ⟨hG23,h⟩:=zw h;refine zq<|zj zu rfl (by simp only [hG23,oc]) ?_
     refine zv ?_;obtain ⟨hG22,h⟩:=zw h;simp only [Bool.and_eq_true] at hG22;obtain ⟨hG22_0,hG22_1⟩:=hG22;refine zq<|zj zu rfl (by simp only [hG22_0,hG22_1,oc]) ?_
     refine zv ?_;obtain ⟨r9,hr9,h⟩:=bd h;obtain ⟨hG21,h⟩:=zw h;simp only [Bool.and_eq_true] at hG21;obtain ⟨⟨hG21_0,hG21_1⟩,hG21_2⟩:=hG21;refine zq<|zf zu rfl (by simp only [hG21_0,hG21_1,hG21_2,oc]) ?_
     refine zg (w_chmakes _ none r9 hr9) rfl ⟨rfl,rfl⟩ rfl Tryd.func13 rfl rfl rfl (by simp only [hG21_0,hG21_1,hG21_2,oc]) rfl rfl ?_;refine zj zu rfl (by simp_all) ?_;refine zv<|zv<|zq<|zj zu rfl rfl ?_
     obtain ⟨o10,ho10,hk10⟩:=bd h;refine zB (fun o10:T3×(Option Nat)=>⟨[(7,.a (.c (.sl 43))),(8,.a (.c (.val (.int .i64 (0:Int))))),(12,.a (.c (.sl 61))),(48,.a (.c (.lst (.sl G0) a0 none))),(49,.a (.c (.val (.int .i64 (a0.length:Int))))),(50,.a (.c (.val (.int .i64 v8_0))))],[(43,.row 42 G2 v8_1 v8_2),(61,.row 3 (.int .i64) o10.1 o10.2)]⟩) (fun o'=>Sum.inl o'=o10) ?_ ?_
     ·have h:=ho10
      refine zc<|zb (Wk.pick [11,64,7,8,12,48,49,50,62,63] [61,43] rfl rfl)<|zm (fun y:Nat×T3×Int×T3×(Option Nat)=>[(11,.a (.c (.lst (.int .i64) y.2.1 none))),(64,.a (.c (.val (.int .i64 y.2.2.1))))]) (fun y:Nat×T3×Int×T3×(Option Nat)=>[(61,.row 3 (.int .i64) y.2.2.2.1 y.2.2.2.2)]) (fun y:Nat×T3×Int×T3×(Option Nat)=>qD a0 v8_0 v8_1 v8_2 y.1 y.2.1 y.2.2.1 y.2.2.2.1 y.2.2.2.2=some o10) (fun y:Nat×T3×Int×T3×(Option Nat)=>y.1) (zC,(v8_1.getD v8_0.toNat []),(0:Int),([]:List Int),(some r9.toNat)) h ?_
      rintro ⟨n,v11_0,v11_1,v11_2,v11_3⟩ h;replace h:qD a0 v8_0 v8_1 v8_2 n v11_0 v11_1 v11_2 v11_3=some o10:=h
      rcases n with _ | n
      · cases (show (none:Option _)=some _ from h)
      rw [qD] at h
      try dsimp only
      refine zv<|zq<|zj zu rfl rfl<|zv ?_
      revert h
      refine xC rfl rfl (fun hc h=>?_) (fun hc h=>?_)
      ·refine za<|zv<|zc<|zv ?_
       obtain ⟨hG18,h⟩:=zw h;refine zq<|zj zu rfl (by simp only [hG18,oc]) ?_
       refine zb (Wk.frzC 14 G0 rfl rfl rfl)<|zv ?_
       obtain ⟨r12,hr12,h⟩:=bd h;refine zq<|zf zu rfl rfl<|zg (w_stneeds _  r12 hr12) rfl ⟨rfl,rfl⟩ rfl Tryd.func25 rfl rfl rfl rfl rfl rfl<|zj zu rfl rfl<|zv ?_
       obtain ⟨hG17,h⟩:=zw h;simp only [Bool.and_eq_true] at hG17;obtain ⟨hG17_0,hG17_1⟩:=hG17;obtain ⟨r13,hr13,h⟩:=bd h;refine zH [] (by kernel_rfl) rfl (N:=10)<|zn (fuel:=6) (ds':=⟨#[true,true,true,true,false,false,false,false,false,false],true,true,true⟩) zu [(0,1),(1,0),(2,0),(3,0)] (by kernel_rfl) rfl (by simp only [hG17_0,hG17_1,oc]) ?_
       refine zl (by kernel_rfl) (zh (i:=4) ?_ zo);refine zN rfl<|zP (i:=4) (listed':=#[true,true,true,true,true,false,false,false,false,false]) (pre':=true) [] (w_stloads _ _ none r13 hr13) rfl rfl rfl rfl ⟨rfl,rfl⟩ rfl Tryd.func75 rfl rfl rfl (by simp only [hG17_0,hG17_1,oc]) rfl rfl PassH.nil ?_
       rintro _ _ ⟨rfl,rfl⟩;refine ⟨_,_,rfl,rfl,?_⟩;refine zn (fuel:=0) (ds':=⟨#[true,true,true,true,true,true,true,true,true,true],false,true,false⟩) zu [(5,0),(6,0),(7,0),(8,0),(9,0)] (by kernel_rfl) rfl (by simp only [hG17_0,hG17_1,oc]) ?_;refine zt (by kernel_rfl)<|zv<|zv<|zq<|zj zu rfl rfl ?_
       revert h
       refine xC rfl rfl (fun hc h=>?_) (fun hc h=>?_)
       ·refine zv<|zq<|zj zu rfl rfl<|zr ?_
        obtain rfl:=Option.some.inj h;have h:=hk10;dsimp only [sm] at h;exact ⟨_,(Option.some.inj h).symm,(Wk.pick [7,8] [43] rfl rfl)⟩
       refine za<|zv ?_
       obtain ⟨hG16,h⟩:=zw h;simp only [Bool.and_eq_true] at hG16;obtain ⟨hG16_0,hG16_1⟩:=hG16;refine zq<|zj zu rfl (by simp only [hG16_0,hG16_1,oc]) ?_
       obtain ⟨hG15,h⟩:=zw h;refine zq<|zj zu rfl (by simp only [hG15,oc]) ?_
       obtain ⟨hG14,h⟩:=zw h;refine zq<|zj zu rfl (by simp only [hG14,oc]) ?_
       refine ⟨(n,_,_,_,_),h,Nat.lt_succ_self _,(Wk.pick [11,64,7,8,12,48,49,50,62,63] [61,43] rfl rfl)⟩
      refine zr ?_;exact ⟨_,Option.some.inj h,(Wk.pick [7,8,12,48,49,50] [43,61] rfl rfl)⟩
     ·rintro o10 rfl
      have h:=hk10;dsimp only [sm] at h;obtain ⟨hG20,h⟩:=zw h;refine zq<|qf 2 zu rfl (by simp only [hG20,oc]) ?_
      refine xb (Wk.frz (id:=61) rfl)<|zj zu rfl (by simp only [hG20,oc]) ?_
      obtain ⟨hG19,h⟩:=zw h;refine zq<|zj zu rfl (by simp only [hG19,oc]) ?_
      refine ⟨(n,_,_,_),h,Nat.lt_succ_self _,(Wk.pick [50,7,8,48,49] [43] rfl rfl)⟩
    refine zr ?_;exact ⟨_,(Option.some.inj h).symm,(Wk.pick [7,8] [43] rfl rfl)⟩
   ·rintro _ rfl
    have h:=hk7;refine zv<|zv<|zq<|zj zu rfl rfl ?_
    revert h
    refine xC rfl rfl (fun hc h=>?_) (fun hc h=>?_)
    ·refine zv<|zq<|zj zu rfl rfl ?_
     cases h;exact zd ⟨_,(Wk.trans (Wk.lst0 2 G2 rfl) (Wk.pick [2,3] [] rfl rfl)),_,_,rfl,rfl,rfl,rfl⟩
    refine za<|zv<|zq<|zj zu rfl rfl ?_
    cases h;exact zd ⟨_,(Wk.trans (Wk.frz (id:=43) rfl) (Wk.pick [2,3] [] rfl rfl)),_,_,rfl,rfl,rfl,rfl⟩
def yB (a0:(List T0)):Option (Int):=
    Option.bind (m_chloads a0) fun r1=>
    some r1.2.2
theorem w_chcheck (a0:(List T0)) (c0:Option Nat) (r:(Int)) (h:yB a0=some r):AC cx 19 [.agg [.lst (.sl G0) a0 c0]] [] (fun sv h=>sv=.a (.c (.val (.int .i64 r)))∧h=[]):=by
  unfold yB at h;refine zp zu Tryd.func19 rfl Tryd.ntmps19 rfl rfl (res:=[.tmp 2]) rfl<|zv<|zq<|zj zu rfl rfl<|zb (Wk.frzC 1 G5 rfl rfl rfl)<|zv ?_
  obtain ⟨r1,hr1,h⟩:=bd h;refine zq<|zf zu rfl rfl<|zg (w_chloads _ none r1 hr1) rfl ⟨rfl,rfl⟩ rfl Tryd.func52 rfl rfl rfl rfl rfl rfl<|zj zu rfl rfl<|zv<|zq<|zj zu rfl rfl ?_
  cases h;exact zd ⟨_,(Wk.pick [2] [] rfl rfl),_,_,rfl,rfl,rfl,rfl⟩
def qo (a0:(List T0)) (v2_1:Int):Nat→Int→Int→T9→Option (Int×T9)
  | 0,_,_,_=>none
  | n+1,v4_0,v4_1,v4_2=>
    cond (decide (v4_1 < ((a0.getD v2_1.toNat []).length:Int))) (gd ((zi v4_1 (a0.getD v2_1.toNat []).length)) <|
    gd ((zi ((a0.getD v2_1.toNat []).getD v4_1.toNat (0,(0,(0,(0,false))))).2.1 256)&&(decide (((a0.getD v2_1.toNat []).getD v4_1.toNat (0,(0,(0,(0,false))))).2.1.toNat < v4_2.length))) <|
    cond (!(v4_2.getD ((a0.getD v2_1.toNat []).getD v4_1.toNat (0,(0,(0,(0,false))))).2.1.toNat false)) (gd ((zi ((a0.getD v2_1.toNat []).getD v4_1.toNat (0,(0,(0,(0,false))))).2.1 256)&&(decide (((a0.getD v2_1.toNat []).getD v4_1.toNat (0,(0,(0,(0,false))))).2.1.toNat < v4_2.length))) <|
    gd ((zk (v4_0+(1:Int)))) <|
    gd ((zk (v4_1+(1:Int)))) <|
    qo a0 v2_1 n (v4_0+(1:Int)) (v4_1+(1:Int)) (v4_2.set ((a0.getD v2_1.toNat []).getD v4_1.toNat (0,(0,(0,(0,false))))).2.1.toNat true)) (gd ((zk (v4_1+(1:Int)))) <|
    qo a0 v2_1 n v4_0 (v4_1+(1:Int)) v4_2)) (some (v4_0,v4_2))
def xr (a0:(List T0)):Nat→Int→Int→T9→Option (Int×T9)
  | 0,_,_,_=>none
  | n+1,v2_0,v2_1,v2_2=>
    cond (decide (v2_1 < (a0.length:Int))) (gd ((zi v2_1 a0.length)) <|
    Option.bind (qo a0 v2_1 zC v2_0 (0:Int) v2_2) fun o3=>
    gd ((zk (v2_1+(1:Int)))) <|
    xr a0 n o3.1 (v2_1+(1:Int)) o3.2) (some (v2_0,v2_2))
def qJ (o1:Int×T9):Nat→Int→T3→(Option Nat)→Option (T3×(Option Nat))
  | 0,_,_,_=>none
  | n+1,v14_0,v14_1,v14_2=>
    cond (decide (v14_0 < (256:Int))) (gd ((zi v14_0 o1.2.length)&&(zi v14_0 256)) <|
    cond (o1.2.getD v14_0.toNat false) (gd ((ze 1 (v14_1.length+[(IntKind.wrap .u8 v14_0)].length))) <|
    gd ((zk (v14_0+(1:Int)))) <|
    qJ o1 n (v14_0+(1:Int)) (v14_1++[(IntKind.wrap .u8 v14_0)]) none) (gd ((zk (v14_0+(1:Int)))) <|
    qJ o1 n (v14_0+(1:Int)) v14_1 v14_2)) (some (v14_1,v14_2))
def m_chyarns (a0:(List T0)):Option (T3×(Option Nat)):=
    Option.bind (xr a0 zC (0:Int) (0:Int) (List.replicate 256 (false:Bool))) fun o1=>
    gd ((decide ((0:Int)≤o1.1))&&(decide ((1:Int) * o1.1≤140737488355328))&&(decide (o1.1≤140737488355328))) <|
    gd ((decide (o1.2.length=256))) <|
    Option.bind (qJ o1 zC (0:Int) ([]:List Int) (some o1.1.toNat)) fun o13=>
    some (o13.1,o13.2)
theorem w_chyarns (a0:(List T0)) (c0:Option Nat) (r:(T3×(Option Nat))) (h:m_chyarns a0=some r):AC cx 39 [.agg [.lst (.sl G0) a0 c0]] [] (fun sv h=>sv=.a (.c (.lst (.int .u8) r.1 r.2))∧h=[]):=by
  unfold m_chyarns at h;refine zp zu Tryd.func39 rfl Tryd.ntmps39 rfl rfl (res:=[.tmp 2]) rfl<|zv<|zq<|zj zu rfl rfl<|zb (Wk.frzC 1 G5 rfl rfl rfl)<|zv<|zq<|al_one zu rfl rfl<|xb (Wk.arr 3 .bool 256 (List.replicate 256 (false:Bool)) rfl rfl rfl rfl rfl (by decide)) ?_
  refine zj zu rfl rfl<|zv<|zq<|zj zu rfl rfl<|zv<|zv<|zq<|zj zu rfl rfl ?_
  obtain ⟨o1,ho1,hk1⟩:=bd h;refine zB (fun o1:Int×T9=>⟨[(3,.a (.c (.elt 3 1 0 0))),(4,.a (.c (.val (.int .i64 o1.1))))],[(3,.row 130 .bool o1.2 (some 256))]⟩) (fun o'=>o1=o') ?_ ?_
  ·have h:=ho1
   refine zc<|zb (Wk.pick [4,15,3,13,14] [3] rfl rfl)<|zm (fun y:Nat×Int×Int×T9=>[(4,.a (.c (.val (.int .i64 y.2.1)))),(15,.a (.c (.val (.int .i64 y.2.2.1))))]) (fun y:Nat×Int×Int×T9=>[(3,.row 130 .bool y.2.2.2 (some 256))]) (fun y:Nat×Int×Int×T9=>xr a0 y.1 y.2.1 y.2.2.1 y.2.2.2=some o1) (fun y:Nat×Int×Int×T9=>y.1) (zC,(0:Int),(0:Int),(List.replicate 256 (false:Bool))) h ?_
   rintro ⟨n,v2_0,v2_1,v2_2⟩ h;replace h:xr a0 n v2_0 v2_1 v2_2=some o1:=h
   rcases n with _ | n
   · cases (show (none:Option _)=some _ from h)
   rw [xr] at h
   try dsimp only
   refine zv<|zq<|zj zu rfl rfl<|zv ?_
   revert h
   refine xC rfl rfl (fun hc h=>?_) (fun hc h=>?_)
   ·refine za<|zv<|zc<|zv ?_
    obtain ⟨hG12,h⟩:=zw h;refine zq<|zj zu rfl (by simp only [hG12,oc]) ?_
    refine zv<|zq<|zj zu rfl rfl ?_
    obtain ⟨o3,ho3,hk3⟩:=bd h;refine zB (fun o3:Int×T9=>⟨[(3,.a (.c (.elt 3 1 0 0))),(4,.a (.c (.val (.int .i64 o3.1)))),(13,.a (.c (.lst (.sl G0) a0 none))),(14,.a (.c (.val (.int .i64 (a0.length:Int))))),(15,.a (.c (.val (.int .i64 v2_1))))],[(3,.row 130 .bool o3.2 (some 256))]⟩) (fun o'=>o3=o') ?_ ?_
    ·have h:=ho3
     refine zc<|zb (Wk.pick [4,21,3,13,14,15,19,20] [3] rfl rfl)<|zm (fun y:Nat×Int×Int×T9=>[(4,.a (.c (.val (.int .i64 y.2.1)))),(21,.a (.c (.val (.int .i64 y.2.2.1))))]) (fun y:Nat×Int×Int×T9=>[(3,.row 130 .bool y.2.2.2 (some 256))]) (fun y:Nat×Int×Int×T9=>qo a0 v2_1 y.1 y.2.1 y.2.2.1 y.2.2.2=some o3) (fun y:Nat×Int×Int×T9=>y.1) (zC,v2_0,(0:Int),v2_2) h ?_
     rintro ⟨n,v4_0,v4_1,v4_2⟩ h;replace h:qo a0 v2_1 n v4_0 v4_1 v4_2=some o3:=h
     rcases n with _ | n
     · cases (show (none:Option _)=some _ from h)
     rw [qo] at h
     try dsimp only
     refine zv<|zq<|zj zu rfl rfl<|zv ?_
     revert h
     refine xC rfl rfl (fun hc h=>?_) (fun hc h=>?_)
     ·refine za<|zv<|zc<|zv ?_
      obtain ⟨hG10,h⟩:=zw h;refine zq<|zj zu rfl (by simp only [hG10,oc]) ?_
      refine zb (Wk.frzC 8 G0 rfl rfl rfl)<|zv ?_
      obtain ⟨hG9,h⟩:=zw h;simp only [Bool.and_eq_true] at hG9;obtain ⟨hG9_0,hG9_1⟩:=hG9;refine zq<|zj zu rfl (by simp only [hG9_0,hG9_1,oc]) ?_
      revert h
      refine xC rfl rfl (fun hc h=>?_) (fun hc h=>?_)
      ·refine zv ?_
       obtain ⟨hG7,h⟩:=zw h;simp only [Bool.and_eq_true] at hG7;obtain ⟨hG7_0,hG7_1⟩:=hG7;refine zq<|zj zu rfl (by simp only [hG7_0,hG7_1,oc]) ?_
       obtain ⟨hG6,h⟩:=zw h;refine zq<|zj zu rfl (by simp only [hG6,oc]) ?_
       obtain ⟨hG5,h⟩:=zw h;refine zq<|zj zu rfl (by simp only [hG5,oc]) ?_
       refine ⟨(n,_,_,_),h,Nat.lt_succ_self _,(Wk.pick [4,21,3,13,14,15,19,20] [3] rfl rfl)⟩
      refine za ?_;obtain ⟨hG8,h⟩:=zw h;refine zq<|zj zu rfl (by simp only [hG8,oc]) ?_
      refine ⟨(n,_,_,_),h,Nat.lt_succ_self _,(Wk.pick [4,21,3,13,14,15,19,20] [3] rfl rfl)⟩
     refine zr ?_;exact ⟨_,(Option.some.inj h).symm,(Wk.pick [3,4,13,14,15] [3] rfl rfl)⟩
    ·rintro _ rfl
     have h:=hk3;obtain ⟨hG11,h⟩:=zw h;refine zq<|zj zu rfl (by simp only [hG11,oc]) ?_
     refine ⟨(n,_,_,_),h,Nat.lt_succ_self _,(Wk.pick [4,15,3,13,14] [3] rfl rfl)⟩
   refine zr ?_;exact ⟨_,(Option.some.inj h).symm,(Wk.pick [3,4] [3] rfl rfl)⟩
  ·rintro _ rfl
   have h:=hk1;refine zv ?_;obtain ⟨hG20,h⟩:=zw h;simp only [Bool.and_eq_true] at hG20;obtain ⟨⟨hG20_0,hG20_1⟩,hG20_2⟩:=hG20;refine zq<|zj zu rfl (by simp_all) ?_
   refine zv<|zv ?_
   obtain ⟨hG19,h⟩:=zw h;refine zq<|al_loadA zu rfl ⟨rfl,rfl⟩ rfl rfl rfl rfl (by simp only [hG19,oc]) rfl rfl (by simp only [hG19,oc]) ?_
   refine zj zu rfl (by simp only [hG19,oc]) ?_;obtain ⟨o13,ho13,hk13⟩:=bd h;refine zB (fun o13:T3×(Option Nat)=>⟨[(9,.a (.c (.sl 38)))],[(38,.row 5 (.int .u8) o13.1 o13.2)]⟩) (fun o'=>o13=o') ?_ ?_
   ·have h:=ho13
    refine zc<|zb (Wk.pick [40,9,39] [38] rfl rfl)<|zm (fun y:Nat×Int×T3×(Option Nat)=>[(40,.a (.c (.val (.int .i64 y.2.1))))]) (fun y:Nat×Int×T3×(Option Nat)=>[(38,.row 5 (.int .u8) y.2.2.1 y.2.2.2)]) (fun y:Nat×Int×T3×(Option Nat)=>qJ o1 y.1 y.2.1 y.2.2.1 y.2.2.2=some o13) (fun y:Nat×Int×T3×(Option Nat)=>y.1) (zC,(0:Int),([]:List Int),(some o1.1.toNat)) h ?_
    rintro ⟨n,v14_0,v14_1,v14_2⟩ h;replace h:qJ o1 n v14_0 v14_1 v14_2=some o13:=h
    rcases n with _ | n
    · cases (show (none:Option _)=some _ from h)
    rw [qJ] at h
    try dsimp only
    refine zv<|zq<|zj zu rfl rfl<|zv ?_
    revert h
    refine xC rfl rfl (fun hc h=>?_) (fun hc h=>?_)
    ·refine za<|zv<|zc<|zv ?_
     obtain ⟨hG18,h⟩:=zw h;simp only [Bool.and_eq_true] at hG18;obtain ⟨hG18_0,hG18_1⟩:=hG18;refine zq<|qf 1 zu rfl (by simp only [hG18_0,hG18_1,oc]) ?_
     refine al_idxA .bool 256 v14_0 zu rfl ⟨rfl,rfl⟩ rfl rfl rfl rfl rfl rfl rfl rfl (by simp only [hG18_0,hG18_1,oc]) rfl (by simp only [hG18_0,hG18_1,oc]) rfl (by simp only [hG18_0,hG18_1,oc]) (by simp only [hG18_0,hG18_1,oc]) (by simp only [hG18_0,hG18_1,oc]) rfl ?_;refine zj zu rfl (by simp only [hG18_0,hG18_1,oc]) ?_;refine zv<|zq<|zj zu rfl rfl ?_
     revert h
     refine xC rfl rfl (fun hc h=>?_) (fun hc h=>?_)
     ·obtain ⟨hG16,h⟩:=zw h
      refine zq<|zj zu rfl (by simp only [hG16,oc]) ?_
      obtain ⟨hG15,h⟩:=zw h;refine zq<|zj zu rfl (by simp only [hG15,oc]) ?_
      refine ⟨(n,_,_,_),h,Nat.lt_succ_self _,(Wk.pick [40,9,39] [38] rfl rfl)⟩
     refine za ?_;obtain ⟨hG17,h⟩:=zw h;refine zq<|zj zu rfl (by simp only [hG17,oc]) ?_
     refine ⟨(n,_,_,_),h,Nat.lt_succ_self _,(Wk.pick [40,9,39] [38] rfl rfl)⟩
    refine zr ?_;exact ⟨_,(Option.some.inj h).symm,(Wk.pick [9] [38] rfl rfl)⟩
   ·rintro _ rfl
    have h:=hk13;refine zv<|zq<|zj zu rfl rfl ?_
    cases h;exact zd ⟨_,(Wk.trans (Wk.frz (id:=38) rfl) (Wk.pick [2] [] rfl rfl)),_,_,rfl,rfl,rfl,rfl⟩
end Go.Proofs.YtihcolehefloeaaDoor

/- The charts of layer 13: models. -/
namespace Go.Proofs.YtihcolehefloeaaDoor
set_option linter.unusedSimpArgs false
set_option linter.unusedVariables false
open Go.RowKit
end Go.Proofs.YtihcolehefloeaaDoor

/- Cables, courses: models. -/
namespace Go.Proofs.YtihcolehefloeaaDoor
set_option linter.unusedSimpArgs false
set_option linter.unusedVariables false
open Go.RowKit
def m_cbsizes (a0:Int) (a1:Int):Option (Int):=
    gd ((!(!(cond (cond (cond (decide (a0 < (1:Int))) true (decide (a1 < (1:Int)))) true (decide ((4:Int) < a0))) true (decide ((4:Int) < a1)))) || (zk (a0+a1)))) <|
    cond (cond (cond (cond (cond (decide (a0 < (1:Int))) true (decide (a1 < (1:Int)))) true (decide ((4:Int) < a0))) true (decide ((4:Int) < a1))) true (decide ((4:Int) < (a0+a1)))) (some (1:Int)) (some (0:Int))
theorem w_cbsizes (a0:Int) (a1:Int) (r:(Int)) (h:m_cbsizes a0 a1=some r):AC cx 32 [.c (.val (.int .i64 a0)),.c (.val (.int .i64 a1))] [] (fun sv h=>sv=.a (.c (.val (.int .i64 r)))∧h=[]):=by
  unfold m_cbsizes at h;refine zp zu Tryd.func32 rfl Tryd.ntmps32 rfl rfl (res:=[.tmp 4]) rfl<|zv<|zq<|zj zu rfl rfl<|zv<|zv ?_
  obtain ⟨hG1,h⟩:=zw h;refine zq<|zj zu rfl (by revert hG1; generalize (decide (a0 < (1:Int)))=b0; generalize (decide (a1 < (1:Int)))=b1; generalize (decide ((4:Int) < a0))=b2; generalize (decide ((4:Int) < a1))=b3; generalize (zk (a0+a1))=b4; revert b0 b1 b2 b3 b4; decide) ?_
  revert h
  refine xC rfl rfl (fun hc h=>?_) (fun hc h=>?_)
  ·refine zv<|zq<|zj zu rfl rfl ?_
   cases h;exact zd ⟨_,(Wk.pick [4] [] rfl rfl),_,_,rfl,rfl,rfl,rfl⟩
  refine za<|zv<|zq<|zj zu rfl rfl ?_
  cases h;exact zd ⟨_,(Wk.pick [4] [] rfl rfl),_,_,rfl,rfl,rfl,rfl⟩
def yk (a0:T3):Option (T3):=
    gd ((decide (0 < a0.length))) <|
    cond false (some ([]:List Int)) (gd ((ze 8 (([]:List Int).length+a0.length))) <|
    some (([]:List Int)++a0))
theorem w_clone (a0:T3) (c0:Option Nat) (r:(T3)) (h:yk a0=some r):AC cx 58 [.c (.lst (.int .i64) a0 c0)] [] (fun sv h=>sv=.a (.c (.sl 5))∧h=[(5,.row 3 (.int .i64) r none)]):=by
  unfold yk at h;refine zp zu Tryd.func58 rfl Tryd.ntmps58 rfl rfl (res:=[.tmp 2]) rfl<|zv<|zq<|zj zu rfl rfl<|zb (Wk.nil 2 5 3 (.int .i64) rfl rfl)<|zv<|zv ?_
  obtain ⟨hG2,h⟩:=zw h;refine zq<|zj zu rfl (by simp only [hG2,oc]) ?_
  revert h
  refine xC rfl rfl (fun hc h=>?_) (fun hc h=>?_)
  ·refine zv<|zq<|zj zu rfl rfl<|zb (Wk.nil 2 5 3 (.int .i64) rfl rfl) ?_
   cases h;exact zd ⟨_,(Wk.pick [2] [5] rfl rfl),_,_,rfl,rfl,rfl,rfl⟩
  refine za<|zv ?_
  obtain ⟨hG1,h⟩:=zw h;refine zq<|zj zu rfl (by simp only [hG1,oc]) ?_
  cases h;exact zd ⟨_,(Wk.pick [2] [5] rfl rfl),_,_,rfl,rfl,rfl,rfl⟩
def m_lbk (a0:Int) (a1:Int):Option (Int×Int):=
    gd ((zk ((if a0 < a1 then a1 else a0)+(1:Int)))) <|
    some ((if a0 < a1 then a1 else a0),((if a0 < a1 then a1 else a0)+(1:Int)))
theorem w_lbk (a0:Int) (a1:Int) (r:(Int×Int)) (h:m_lbk a0 a1=some r):AC cx 62 [.c (.val (.int .i64 a0)),.c (.ptr 1000000 0)] [(1000000,.cells 3 [.val (.int .i64 a1)])] (fun sv h=>sv=.a (.c (.val (.int .i64 r.1)))∧h=[(1000000,.cells 3 [.val (.int .i64 r.2)])]):=by
  unfold m_lbk at h;refine zp zu Tryd.func62 rfl Tryd.ntmps62 rfl rfl (res:=[.tmp 3]) rfl<|zv<|zq<|zj zu rfl rfl<|zv<|zq<|zj zu rfl rfl<|zv ?_
  obtain ⟨hG1,h⟩:=zw h;refine zq<|zj zu rfl (by simp only [hG1,oc]) ?_
  refine zv<|zq<|zj zu rfl rfl ?_
  cases h;exact zd ⟨_,(Wk.pick [3] [1000000] rfl rfl),_,_,rfl,rfl,rfl,rfl⟩
def m_lfk (a0:Int) (a1:Int):Option (Int×Int):=
    gd ((zk ((if a1 < a0 then a1 else a0) - (1:Int)))) <|
    some ((if a1 < a0 then a1 else a0),((if a1 < a0 then a1 else a0) - (1:Int)))
theorem w_lfk (a0:Int) (a1:Int) (r:(Int×Int)) (h:m_lfk a0 a1=some r):AC cx 63 [.c (.val (.int .i64 a0)),.c (.ptr 1000000 0)] [(1000000,.cells 3 [.val (.int .i64 a1)])] (fun sv h=>sv=.a (.c (.val (.int .i64 r.1)))∧h=[(1000000,.cells 3 [.val (.int .i64 r.2)])]):=by
  unfold m_lfk at h;refine zp zu Tryd.func63 rfl Tryd.ntmps63 rfl rfl (res:=[.tmp 3]) rfl<|zv<|zq<|zj zu rfl rfl<|zv<|zq<|zj zu rfl rfl<|zv ?_
  obtain ⟨hG1,h⟩:=zw h;refine zq<|zj zu rfl (by simp only [hG1,oc]) ?_
  refine zv<|zq<|zj zu rfl rfl ?_
  cases h;exact zd ⟨_,(Wk.pick [3] [1000000] rfl rfl),_,_,rfl,rfl,rfl,rfl⟩
def m_xput (a0:Int) (a1:List zO) (a2:T4):Option (T4):=
    gd ((ze 40 (a1.length+a2.length))) <|
    some (a1++a2)
theorem w_xput (a0:Int) (a1:List zO) (a2:T4) (c0 c1:Option Nat) (r:(T4)) (h:m_xput a0 a1 a2=some r):AC cx 61 [.c (.ptr 1000000 0),.c (.lst qp a2 c1)] [(1000000,.cells 79 [.sl 1000001,.val (.int .i64 a0)]),(1000001,.row 45 qp a1 c0)] (fun sv h=>sv=.tup []∧h=[(1000000,.cells 79 [.sl 1000001,.val (.int .i64 a0)]),(1000001,.row 45 qp r none)]):=by
  unfold m_xput at h;refine zp zu Tryd.func61 rfl Tryd.ntmps61 rfl rfl (res:=[]) rfl<|zb (Wk.rowcap 1000001 rfl) ?_
  obtain ⟨hG1,h⟩:=zw h;refine zq<|zj zu rfl (by simp only [hG1,oc]) ?_
  obtain rfl:=Option.some.inj h;refine ⟨_,(Wk.pick [] [1000000,1000001] rfl rfl),_,_,rfl,rfl,?_⟩;exact ⟨rfl,rfl⟩
def xg (a0:T1):Nat→Int→Option ((Unit)⊕(T4×Int))
  | 0,_=>none
  | n+1,v2_0=>
    cond (decide (v2_0 < (a0.length:Int))) (gd ((zi v2_0 a0.length)) <|
    gd ((!((!(cond (cond (decide ((1:Int) < (a0.getD v2_0.toNat qr.zero).1)) true (decide ((a0.getD v2_0.toNat qr.zero).2 < (1:Int)))) true (decide ((40:Int) < (a0.getD v2_0.toNat qr.zero).2))))&&(decide ((0:Int) < v2_0))) || (zk (v2_0 - (1:Int))))&&(!((!(cond (cond (decide ((1:Int) < (a0.getD v2_0.toNat qr.zero).1)) true (decide ((a0.getD v2_0.toNat qr.zero).2 < (1:Int)))) true (decide ((40:Int) < (a0.getD v2_0.toNat qr.zero).2))))&&(decide ((0:Int) < v2_0))) || (zi (v2_0 - (1:Int)) a0.length))) <|
    cond (cond (cond (cond (decide ((1:Int) < (a0.getD v2_0.toNat qr.zero).1)) true (decide ((a0.getD v2_0.toNat qr.zero).2 < (1:Int)))) true (decide ((40:Int) < (a0.getD v2_0.toNat qr.zero).2))) true (cond (decide ((0:Int) < v2_0)) (decide ((a0.getD v2_0.toNat qr.zero).2≤(a0.getD (v2_0 - (1:Int)).toNat qr.zero).2)) false)) (some (.inr (([]:List zO),(1:Int)))) (gd ((zk (v2_0+(1:Int)))) <|
    xg a0 n (v2_0+(1:Int)))) (some (.inl ()))
def xk (a0:T1):Nat→Int→T4→Option (T4)
  | 0,_,_=>none
  | n+1,v9_0,v9_1=>
    cond (decide (v9_0 < (a0.length:Int))) (gd ((zi v9_0 a0.length)) <|
    cond (decide ((a0.getD v9_0.toNat qr.zero).1=(1:Int))) (Option.bind (m_xput (0:Int) v9_1 [((7:Int),((0:Int),((a0.getD v9_0.toNat qr.zero),((0:Int),(0:Int)))))]) fun r10=>
    gd ((zk (v9_0+(1:Int)))) <|
    xk a0 n (v9_0+(1:Int)) r10) (gd ((zk (v9_0+(1:Int)))) <|
    xk a0 n (v9_0+(1:Int)) v9_1)) (some v9_1)
def m_front (a0:T1):Option (T4×Int):=
    Option.bind (xg a0 zC (0:Int)) fun o1=>
    sm o1 (fun o1=>
    Option.bind (xk a0 zC (0:Int) ([]:List zO)) fun o8=>
    Option.bind (m_clip o8) fun r14=>
    some (r14,(0:Int))) (fun q=>some q)
theorem w_front (a0:T1) (c0:Option Nat) (r:(T4×Int)) (h:m_front a0=some r):AC cx 46 [.c (.lst qr a0 c0)] [] (fun sv h=>sv=.tup [.c (.lst qp r.1 (some r.1.length)),.c (.val (.int .i64 r.2))]∧h=[]):=by
  unfold m_front at h;refine zp zu Tryd.func46 rfl Tryd.ntmps46 rfl rfl (res:=[.tmp 2,.tmp 3]) rfl<|zv<|zq<|zj zu rfl rfl<|zv<|zv<|zq<|zj zu rfl rfl ?_
  obtain ⟨o1,ho1,hk1⟩:=bd h;refine zB (fun o1:Unit=>⟨[(0,.a (.c (.lst qr a0 c0)))],[]⟩) (fun o'=>Sum.inl o'=o1) ?_ ?_
  ·have h:=ho1
   refine zc<|zb (Wk.pick [11,0,9,10] [] rfl rfl)<|zm (fun y:Nat×Int=>[(11,.a (.c (.val (.int .i64 y.2))))]) (fun y:Nat×Int=>[]) (fun y:Nat×Int=>xg a0 y.1 y.2=some o1) (fun y:Nat×Int=>y.1) (zC,(0:Int)) h ?_
   rintro ⟨n,v2_0⟩ h;replace h:xg a0 n v2_0=some o1:=h
   rcases n with _ | n
   · cases (show (none:Option _)=some _ from h)
   rw [xg] at h
   try dsimp only
   refine zv<|zq<|zj zu rfl rfl<|zv ?_
   revert h
   refine xC rfl rfl (fun hc h=>?_) (fun hc h=>?_)
   ·refine za<|zv<|zc<|zv ?_
    obtain ⟨hG5,h⟩:=zw h;refine zq<|zj zu rfl (by simp only [hG5,oc]) ?_
    refine zb (Wk.frzC 5 qr rfl rfl rfl)<|zv ?_
    obtain ⟨hG4,h⟩:=zw h;simp only [Bool.and_eq_true] at hG4;obtain ⟨hG4_0,hG4_1⟩:=hG4;refine zH [] (by kernel_rfl) rfl (N:=28)<|zn (fuel:=0) (ds':=⟨#[true,true,true,true,true,true,true,true,true,true,true,true,true,true,true,true,true,true,true,true,true,true,true,true,true,true,true,true],true,true,true⟩) zu [(0,0),(1,1),(2,0),(3,0),(4,0),(5,1),(6,0),(7,0),(8,0),(9,0),(10,1),(11,0),(12,0),(13,0),(14,0),(15,0),(16,0),(17,0),(18,0),(19,0),(20,0),(21,0),(22,1),(23,0),(24,1),(25,0),(26,0),(27,0)] (by kernel_rfl) rfl (by revert hG4_0 hG4_1; generalize (decide ((40:Int) < (a0.getD v2_0.toNat qr.zero).2))=b0; generalize (decide ((1:Int) < (a0.getD v2_0.toNat qr.zero).1))=b1; generalize (decide ((a0.getD v2_0.toNat qr.zero).2 < (1:Int)))=b2; generalize (zi (v2_0 - (1:Int)) a0.length)=b3; generalize (decide ((0:Int) < v2_0))=b4; generalize (zk (v2_0 - (1:Int)))=b5; refine of2 ?_; revert b0 b1 b2 b3 b4 b5; exact bl6 (by kernel_rfl)) ?_
    refine zt (by kernel_rfl) ?_
    revert h
    refine xC rfl rfl (fun hc h=>?_) (fun hc h=>?_)
    ·refine zv<|zq<|zj zu rfl rfl<|zd ?_
     obtain rfl:=Option.some.inj h;have h:=hk1;dsimp only [sm] at h;obtain rfl:=Option.some.inj h;refine ⟨_,(Wk.trans (Wk.lst0 2 qp rfl) (Wk.pick [2,3] [] rfl rfl)),_,_,rfl,rfl,?_⟩;exact ⟨rfl,rfl⟩
    refine za ?_;obtain ⟨hG3,h⟩:=zw h;refine zq<|zj zu rfl (by simp only [hG3,oc]) ?_
    refine ⟨(n,_),h,Nat.lt_succ_self _,(Wk.pick [11,0,9,10] [] rfl rfl)⟩
   refine zr ?_;exact ⟨_,Option.some.inj h,(Wk.pick [0] [] rfl rfl)⟩
  ·rintro o1 rfl
   have h:=hk1;dsimp only [sm] at h;refine zv<|zq<|zj zu rfl rfl<|zv<|zv<|zq<|zj zu rfl rfl<|zb (Wk.nilC 6 0 13 45 qp rfl) ?_
   obtain ⟨o8,ho8,hk8⟩:=bd h;refine zB (fun o8:T4=>⟨[(6,.a (.c (.ptr 6 0)))],[(6,.cells 79 [.sl 13,.val (.int .i64 (0:Int))]),(13,.row 45 qp o8 none)]⟩) (fun o'=>o8=o') ?_ ?_
   ·have h:=ho8
    refine zc<|zb (Wk.pick [47,6,45,46] [13,6] rfl rfl)<|zm (fun y:Nat×Int×T4=>[(47,.a (.c (.val (.int .i64 y.2.1))))]) (fun y:Nat×Int×T4=>[(13,.row 45 qp y.2.2 none)]) (fun y:Nat×Int×T4=>xk a0 y.1 y.2.1 y.2.2=some o8) (fun y:Nat×Int×T4=>y.1) (zC,(0:Int),([]:List zO)) h ?_
    rintro ⟨n,v9_0,v9_1⟩ h;replace h:xk a0 n v9_0 v9_1=some o8:=h
    rcases n with _ | n
    · cases (show (none:Option _)=some _ from h)
    rw [xk] at h
    try dsimp only
    refine zv<|zq<|zj zu rfl rfl<|zv ?_
    revert h
    refine xC rfl rfl (fun hc h=>?_) (fun hc h=>?_)
    ·refine za<|zv<|zc<|zv ?_
     obtain ⟨hG13,h⟩:=zw h;refine zq<|zj zu rfl (by simp only [hG13,oc]) ?_
     refine zb (Wk.frzC 8 qr rfl rfl rfl)<|zv<|zq<|zj zu rfl rfl ?_
     revert h
     refine xC rfl rfl (fun hc h=>?_) (fun hc h=>?_)
     ·obtain ⟨r10,hr10,h⟩:=bd h
      refine zq<|zf zu rfl rfl<|xb (Wk.frz (id:=56) rfl)<|qG [(1000000,6),(1000001,13)] (w_xput _ _ _ none (some 1) r10 hr10) rfl ⟨rfl,rfl⟩ rfl Tryd.func61 rfl rfl rfl rfl rfl rfl (PassH.cons rfl rfl rfl (PassH.cons rfl rfl rfl PassH.nil)) ?_
      rintro _ _ ⟨rfl,rfl⟩;refine ⟨_,_,rfl,rfl,?_⟩;refine zj zu rfl rfl ?_;obtain ⟨hG11,h⟩:=zw h;refine zq<|zj zu rfl (by simp only [hG11,oc]) ?_
      refine ⟨(n,_,_),h,Nat.lt_succ_self _,(Wk.pick [47,6,45,46] [13,6] rfl rfl)⟩
     refine za ?_;obtain ⟨hG12,h⟩:=zw h;refine zq<|zj zu rfl (by simp only [hG12,oc]) ?_
     refine ⟨(n,_,_),h,Nat.lt_succ_self _,(Wk.pick [47,6,45,46] [13,6] rfl rfl)⟩
    refine zr ?_;exact ⟨_,(Option.some.inj h).symm,(Wk.pick [6] [6,13] rfl rfl)⟩
   ·rintro _ rfl
    have h:=hk8;refine zv ?_;obtain ⟨r14,hr14,h⟩:=bd h;refine zq<|zf zu rfl rfl<|xb (Wk.frz (id:=13) rfl)<|zg (w_clip _ none r14 hr14) rfl ⟨rfl,rfl⟩ rfl Tryd.func31 rfl rfl rfl rfl rfl rfl<|zj zu rfl rfl ?_
    cases h;exact zd ⟨_,(Wk.pick [2,3] [] rfl rfl),_,_,rfl,rfl,rfl,rfl⟩
def qi (a0:(T1×T5)):Nat→Int→Option ((Unit)⊕(Int))
  | 0,_=>none
  | n+1,v2_0=>
    cond (decide (v2_0 < (a0.1.length:Int))) (gd ((zi v2_0 a0.1.length)) <|
    gd ((!((!(cond (cond (decide ((1:Int) < (a0.1.getD v2_0.toNat qr.zero).1)) true (decide ((a0.1.getD v2_0.toNat qr.zero).2 < (13:Int)))) true (decide ((29:Int)≤(a0.1.getD v2_0.toNat qr.zero).2))))&&(decide ((0:Int) < v2_0))) || (zk (v2_0 - (1:Int))))&&(!((!(cond (cond (decide ((1:Int) < (a0.1.getD v2_0.toNat qr.zero).1)) true (decide ((a0.1.getD v2_0.toNat qr.zero).2 < (13:Int)))) true (decide ((29:Int)≤(a0.1.getD v2_0.toNat qr.zero).2))))&&(decide ((0:Int) < v2_0))) || (zi (v2_0 - (1:Int)) a0.1.length))) <|
    cond (cond (cond (cond (decide ((1:Int) < (a0.1.getD v2_0.toNat qr.zero).1)) true (decide ((a0.1.getD v2_0.toNat qr.zero).2 < (13:Int)))) true (decide ((29:Int)≤(a0.1.getD v2_0.toNat qr.zero).2))) true (cond (decide ((0:Int) < v2_0)) (decide ((a0.1.getD v2_0.toNat qr.zero).2≤(a0.1.getD (v2_0 - (1:Int)).toNat qr.zero).2)) false)) (some (.inr (1:Int))) (gd ((zk (v2_0+(1:Int)))) <|
    qi a0 n (v2_0+(1:Int)))) (some (.inl ()))
def qh (a0:(T1×T5)):Nat→Int→Option ((Unit)⊕(Int))
  | 0,_=>none
  | n+1,v7_0=>
    cond (decide (v7_0 < (6:Int))) (gd ((zi v7_0 ([a0.2.1,a0.2.2.1,a0.2.2.2.1,a0.2.2.2.2.1,a0.2.2.2.2.2.1,a0.2.2.2.2.2.2]:List Int).length)&&(zi v7_0 6)) <|
    cond (decide ((2:Int) < (([a0.2.1,a0.2.2.1,a0.2.2.2.1,a0.2.2.2.2.1,a0.2.2.2.2.2.1,a0.2.2.2.2.2.2]:List Int).getD v7_0.toNat 0))) (some (.inr (1:Int))) (gd ((zk (v7_0+(1:Int)))) <|
    qh a0 n (v7_0+(1:Int)))) (some (.inl ()))
def m_cocheck (a0:(T1×T5)):Option (Int):=
    cond (cond (decide ((a0.1.length:Int) < (1:Int))) true (decide ((16:Int) < (a0.1.length:Int)))) (some (1:Int)) (Option.bind (qi a0 zC (0:Int)) fun o1=>
    sm o1 (fun o1=>
    Option.bind (qh a0 zC (0:Int)) fun o6=>
    sm o6 (fun o6=>
    some (0:Int)) (fun q=>some q)) (fun q=>some q))
theorem w_cocheck (a0:(T1×T5)) (c0:Option Nat) (r:(Int)) (h:m_cocheck a0=some r):AC cx 15 [.agg [.lst qr a0.1 c0,.val (.int .u8 a0.2.1),.val (.int .u8 a0.2.2.1),.val (.int .u8 a0.2.2.2.1),.val (.int .u8 a0.2.2.2.2.1),.val (.int .u8 a0.2.2.2.2.2.1),.val (.int .u8 a0.2.2.2.2.2.2)]] [] (fun sv h=>sv=.a (.c (.val (.int .i64 r)))∧h=[]):=by
  unfold m_cocheck at h;refine zp zu Tryd.func15 rfl Tryd.ntmps15 rfl rfl (res:=[.tmp 2]) rfl<|zv<|zq<|zj zu rfl rfl<|zb (Wk.frzC 1 G3 rfl rfl rfl)<|zv<|zv<|zq<|zj zu rfl (by generalize (decide ((a0.1.length:Int) < (1:Int)))=b0; revert b0; decide) ?_
  revert h
  refine xC rfl rfl (fun hc h=>?_) (fun hc h=>?_)
  ·refine zv<|zq<|zj zu rfl rfl ?_
   cases h;exact zd ⟨_,(Wk.pick [2] [] rfl rfl),_,_,rfl,rfl,rfl,rfl⟩
  refine za<|zv<|zv<|zq<|zj zu rfl rfl ?_
  obtain ⟨o1,ho1,hk1⟩:=bd h;refine zB (fun o1:Unit=>⟨[(1,.a (.c (.pel G3 a0 0)))],[]⟩) (fun o'=>Sum.inl o'=o1) ?_ ?_
  ·have h:=ho1
   refine zc<|zb (Wk.pick [20,1,18,19] [] rfl rfl)<|zm (fun y:Nat×Int=>[(20,.a (.c (.val (.int .i64 y.2))))]) (fun y:Nat×Int=>[]) (fun y:Nat×Int=>qi a0 y.1 y.2=some o1) (fun y:Nat×Int=>y.1) (zC,(0:Int)) h ?_
   rintro ⟨n,v2_0⟩ h;replace h:qi a0 n v2_0=some o1:=h
   rcases n with _ | n
   · cases (show (none:Option _)=some _ from h)
   rw [qi] at h
   try dsimp only
   refine zv<|zq<|zj zu rfl rfl<|zv ?_
   revert h
   refine xC rfl rfl (fun hc h=>?_) (fun hc h=>?_)
   ·refine za<|zv<|zc<|zv ?_
    obtain ⟨hG5,h⟩:=zw h;refine zq<|zj zu rfl (by simp only [hG5,oc]) ?_
    refine zb (Wk.frzC 4 qr rfl rfl rfl)<|zv ?_
    obtain ⟨hG4,h⟩:=zw h;simp only [Bool.and_eq_true] at hG4;obtain ⟨hG4_0,hG4_1⟩:=hG4;refine zH [] (by kernel_rfl) rfl (N:=29)<|zn (fuel:=0) (ds':=⟨#[true,true,true,true,true,true,true,true,true,true,true,true,true,true,true,true,true,true,true,true,true,true,true,true,true,true,true,true,true],true,true,true⟩) zu [(0,0),(1,1),(2,0),(3,0),(4,0),(5,1),(6,0),(7,0),(8,0),(9,0),(10,1),(11,0),(12,0),(13,0),(14,0),(15,0),(16,0),(17,0),(18,1),(19,0),(20,0),(21,0),(22,0),(23,1),(24,0),(25,1),(26,0),(27,0),(28,0)] (by kernel_rfl) rfl (by revert hG4_0 hG4_1; generalize (decide ((a0.1.getD v2_0.toNat qr.zero).2 < (13:Int)))=b0; generalize (decide ((29:Int)≤(a0.1.getD v2_0.toNat qr.zero).2))=b1; generalize (decide ((1:Int) < (a0.1.getD v2_0.toNat qr.zero).1))=b2; generalize (zi (v2_0 - (1:Int)) a0.1.length)=b3; generalize (decide ((0:Int) < v2_0))=b4; generalize (zk (v2_0 - (1:Int)))=b5; refine of2 ?_; revert b0 b1 b2 b3 b4 b5; exact bl6 (by kernel_rfl)) ?_
    refine zt (by kernel_rfl) ?_
    revert h
    refine xC rfl rfl (fun hc h=>?_) (fun hc h=>?_)
    ·refine zv<|zq<|zj zu rfl rfl<|zd ?_
     obtain rfl:=Option.some.inj h;have h:=hk1;dsimp only [sm] at h;obtain rfl:=Option.some.inj h;refine ⟨_,(Wk.pick [2] [] rfl rfl),_,_,rfl,rfl,?_⟩;exact ⟨rfl,rfl⟩
    refine za ?_;obtain ⟨hG3,h⟩:=zw h;refine zq<|zj zu rfl (by simp only [hG3,oc]) ?_
    refine ⟨(n,_),h,Nat.lt_succ_self _,(Wk.pick [20,1,18,19] [] rfl rfl)⟩
   refine zr ?_;exact ⟨_,Option.some.inj h,(Wk.pick [1] [] rfl rfl)⟩
  ·rintro o1 rfl
   have h:=hk1;dsimp only [sm] at h;refine zv<|zv<|zq<|zj zu rfl rfl ?_
   obtain ⟨o6,ho6,hk6⟩:=bd h;refine zB (fun o6:Unit=>⟨[],[]⟩) (fun o'=>Sum.inl o'=o6) ?_ ?_
   ·have h:=ho6
    refine zc<|zb (Wk.pick [57,56] [] rfl rfl)<|zm (fun y:Nat×Int=>[(57,.a (.c (.val (.int .i64 y.2))))]) (fun y:Nat×Int=>[]) (fun y:Nat×Int=>qh a0 y.1 y.2=some o6) (fun y:Nat×Int=>y.1) (zC,(0:Int)) h ?_
    rintro ⟨n,v7_0⟩ h;replace h:qh a0 n v7_0=some o6:=h
    rcases n with _ | n
    · cases (show (none:Option _)=some _ from h)
    rw [qh] at h
    try dsimp only
    refine zv<|zq<|zj zu rfl rfl<|zv ?_
    revert h
    refine xC rfl rfl (fun hc h=>?_) (fun hc h=>?_)
    ·refine za<|zv<|zc<|zv ?_
     obtain ⟨hG9,h⟩:=zw h;simp only [Bool.and_eq_true] at hG9;obtain ⟨hG9_0,hG9_1⟩:=hG9;refine zq<|al_idxA (.int .u8) 6 v7_0 zu rfl ⟨rfl,rfl⟩ rfl rfl rfl rfl rfl rfl rfl rfl (by simp only [hG9_0,hG9_1,oc]) rfl (by simp only [hG9_0,hG9_1,oc]) rfl (by simp only [hG9_0,hG9_1,oc]) (by simp only [hG9_0,hG9_1,oc]) (by simp only [hG9_0,hG9_1,oc]) rfl ?_
     refine zj zu rfl (by simp only [hG9_0,hG9_1,oc]) ?_;refine zv<|zq<|zj zu rfl rfl ?_
     revert h
     refine xC rfl rfl (fun hc h=>?_) (fun hc h=>?_)
     ·refine zv<|zq<|zj zu rfl rfl<|zd ?_
      obtain rfl:=Option.some.inj h;have h:=hk6;dsimp only [sm] at h;obtain rfl:=Option.some.inj h;refine ⟨_,(Wk.pick [2] [] rfl rfl),_,_,rfl,rfl,?_⟩;exact ⟨rfl,rfl⟩
     refine za ?_;obtain ⟨hG8,h⟩:=zw h;refine zq<|zj zu rfl (by simp only [hG8,oc]) ?_
     refine ⟨(n,_),h,Nat.lt_succ_self _,(Wk.pick [57,56] [] rfl rfl)⟩
    refine zr ?_;exact ⟨_,Option.some.inj h,(Wk.pick [] [] rfl rfl)⟩
   ·rintro o6 rfl
    have h:=hk6;dsimp only [sm] at h;refine zv<|zq<|zj zu rfl rfl ?_
    cases h;exact zd ⟨_,(Wk.pick [2] [] rfl rfl),_,_,rfl,rfl,rfl,rfl⟩
def xe (a0:T3) (a1:Int):Nat→Int→Option ((Unit)⊕(Int))
  | 0,_=>none
  | n+1,v2_0=>
    cond (decide (v2_0 < (a0.length:Int))) (gd ((zi v2_0 a0.length)) <|
    cond (decide (a1=(a0.getD v2_0.toNat 0))) (some (.inr v2_0)) (gd ((zk (v2_0+(1:Int)))) <|
    xe a0 a1 n (v2_0+(1:Int)))) (some (.inl ()))
def m_index (a0:T3) (a1:Int):Option (Int):=
    Option.bind (xe a0 a1 zC (0:Int)) fun o1=>
    sm o1 (fun o1=>
    some (-1:Int)) (fun q=>some q)
theorem w_index (a0:T3) (a1:Int) (c0:Option Nat) (r:(Int)) (h:m_index a0 a1=some r):AC cx 48 [.c (.lst (.int .i64) a0 c0),.c (.val (.int .i64 a1))] [] (fun sv h=>sv=.a (.c (.val (.int .i64 r)))∧h=[]):=by
  unfold m_index at h;refine zp zu Tryd.func48 rfl Tryd.ntmps48 rfl rfl (res:=[.tmp 4]) rfl<|zv<|zq<|zj zu rfl rfl<|zv<|zv<|zq<|zj zu rfl rfl ?_
  obtain ⟨o1,ho1,hk1⟩:=bd h;refine zB (fun o1:Unit=>⟨[],[]⟩) (fun o'=>Sum.inl o'=o1) ?_ ?_
  ·have h:=ho1
   refine zc<|zb (Wk.pick [8,0,1,7] [] rfl rfl)<|zm (fun y:Nat×Int=>[(8,.a (.c (.val (.int .i64 y.2))))]) (fun y:Nat×Int=>[]) (fun y:Nat×Int=>xe a0 a1 y.1 y.2=some o1) (fun y:Nat×Int=>y.1) (zC,(0:Int)) h ?_
   rintro ⟨n,v2_0⟩ h;replace h:xe a0 a1 n v2_0=some o1:=h
   rcases n with _ | n
   · cases (show (none:Option _)=some _ from h)
   rw [xe] at h
   try dsimp only
   refine zv<|zq<|zj zu rfl rfl<|zv ?_
   revert h
   refine xC rfl rfl (fun hc h=>?_) (fun hc h=>?_)
   ·refine za<|zv<|zc<|zv<|zq<|zj zu rfl rfl<|zv ?_
    obtain ⟨hG4,h⟩:=zw h;refine zq<|zj zu rfl (by simp only [hG4,oc]) ?_
    revert h
    refine xC rfl rfl (fun hc h=>?_) (fun hc h=>?_)
    ·refine zv<|zq<|zj zu rfl rfl<|zd ?_
     obtain rfl:=Option.some.inj h;have h:=hk1;dsimp only [sm] at h;obtain rfl:=Option.some.inj h;refine ⟨_,(Wk.pick [4] [] rfl rfl),_,_,rfl,rfl,?_⟩;exact ⟨rfl,rfl⟩
    refine za ?_;obtain ⟨hG3,h⟩:=zw h;refine zq<|zj zu rfl (by simp only [hG3,oc]) ?_
    refine ⟨(n,_),h,Nat.lt_succ_self _,(Wk.pick [8,0,1,7] [] rfl rfl)⟩
   refine zr ?_;exact ⟨_,Option.some.inj h,(Wk.pick [] [] rfl rfl)⟩
  ·rintro o1 rfl
   have h:=hk1;dsimp only [sm] at h;refine zv<|zq<|zj zu rfl rfl ?_
   cases h;exact zd ⟨_,(Wk.pick [4] [] rfl rfl),_,_,rfl,rfl,rfl,rfl⟩
def m_clipn (a0:T1):Option (T1×Nat):=
    gd ((decide (0≤(a0.length:Int)))&&(decide ((a0.length:Int)≤(a0.length:Int)))) <|
    some ((a0.take (a0.length:Int).toNat),(a0.length:Int).toNat)
theorem w_clipn (a0:T1) (c0:Option Nat) (r:(T1×Nat)) (h:m_clipn a0=some r):AC cx 37 [.c (.lst qr a0 c0)] [] (fun sv h=>sv=.a (.c (.lst qr r.1 (some r.2)))∧h=[]):=by
  unfold m_clipn at h;refine zp zu Tryd.func37 rfl Tryd.ntmps37 rfl rfl (res:=[.tmp 2]) rfl<|zv<|zq<|zj zu rfl rfl<|zv ?_
  obtain ⟨hG1,h⟩:=zw h;simp only [Bool.and_eq_true] at hG1;obtain ⟨hG1_0,hG1_1⟩:=hG1;refine zq<|zj zu rfl (by simp only [hG1_0,hG1_1,oc]) ?_
  cases h;exact zd ⟨_,(Wk.pick [2] [] rfl rfl),_,_,rfl,rfl,rfl,rfl⟩
def m_coput (a0:Int) (a1:Int) (a2:List zO) (a3:Int) (a4:Int) (a5:(Int×Int)):Option (T4):=
    gd ((ze 40 (a2.length+[(a3,(a4,(a5,(a1,(0:Int)))))].length))) <|
    some (a2++[(a3,(a4,(a5,(a1,(0:Int)))))])
theorem w_coput (a0:Int) (a1:Int) (a2:List zO) (a3:Int) (a4:Int) (a5:(Int×Int)) (r:(T4)) (h:m_coput a0 a1 a2 a3 a4 a5=some r):AC cx 65 [.c (.ptr 1000000 0),.c (.val (.int .u8 a3)),.c (.val (.int .u8 a4)),.agg [.val (.int .u8 a5.1),.val (.int .i64 a5.2)]] [(1000000,.cells 96 [.sl 1000001,.val (.int .u8 a0),.val (.int .u8 a1)]),(1000001,.lrow 45 qp a2)] (fun sv h=>sv=.tup []∧h=[(1000000,.cells 96 [.sl 1000001,.val (.int .u8 a0),.val (.int .u8 a1)]),(1000001,.lrow 45 qp r)]):=by
  unfold m_coput at h;refine zp zu Tryd.func65 rfl Tryd.ntmps65 rfl rfl (res:=[]) rfl<|zv<|zq<|zj zu rfl rfl<|zb (Wk.frzC 7 qr rfl rfl rfl) ?_
  obtain ⟨hG1,h⟩:=zw h;refine zH [5,6,7,8,9,10,11,12,13] (by kernel_rfl) rfl (N:=18)<|zn (fuel:=4) (ds':=⟨#[true,true,true,true,true,true,true,true,true,true,true,true,true,true,false,false,false,false],false,true,true⟩) zu [(0,0),(1,0),(2,0),(3,0),(4,3),(5,0),(6,0),(7,1),(8,0),(9,0),(10,0),(11,3),(12,0),(13,4)] (by kernel_rfl) rfl (by simp only [hG1,oc]) ?_
  refine zl (by kernel_rfl) (zh (i:=14) ?_ zo);refine ado_sk (i:=14) (l':=#[true,true,true,true,true,true,true,true,true,true,true,true,true,true,true,false,false,false]) rfl (sk_appendR zu rfl ⟨rfl,rfl⟩ rfl rfl rfl rfl rfl (by simp only [hG1,oc]) rfl (by simp only [hG1,oc]) rfl rfl rfl (by simp only [hG1,oc])) rfl rfl ?_;refine zn (fuel:=0) (ds':=⟨#[true,true,true,true,true,true,true,true,true,true,true,true,true,true,true,true,true,true],false,false,true⟩) zu [(15,0),(16,0),(17,2)] (by kernel_rfl) rfl (by simp only [hG1,oc]) ?_;refine zt (by kernel_rfl) ?_;obtain rfl:=Option.some.inj h;refine ⟨_,(Wk.pick [] [1000000,1000001] rfl rfl),_,_,rfl,rfl,?_⟩;exact ⟨rfl,rfl⟩
def m_copast (a0:Int) (a1:Int) (a2:List zO) (a3:Int):Option (T4):=
    Option.bind (cond (decide (a3=(1:Int))) (some ((0:Int),(40:Int))) (some ((1:Int),(1:Int)))) fun o1=>
    Option.bind (m_coput a0 a1 a2 (6:Int) a3 o1) fun r2=>
    some r2
theorem w_copast (a0:Int) (a1:Int) (a2:List zO) (a3:Int) (r:(T4)) (h:m_copast a0 a1 a2 a3=some r):AC cx 40 [.c (.ptr 1000000 0),.c (.val (.int .u8 a3))] [(1000000,.cells 96 [.sl 1000001,.val (.int .u8 a0),.val (.int .u8 a1)]),(1000001,.lrow 45 qp a2)] (fun sv h=>sv=.tup []∧h=[(1000000,.cells 96 [.sl 1000001,.val (.int .u8 a0),.val (.int .u8 a1)]),(1000001,.lrow 45 qp r)]):=by
  unfold m_copast at h;refine zp zu Tryd.func40 rfl Tryd.ntmps40 rfl rfl (res:=[]) rfl<|zv<|zq<|zj zu rfl rfl<|zv<|zv<|zq<|zj zu rfl rfl ?_
  obtain ⟨o1,ho1,hk1⟩:=bd h;refine zB (fun o1:Int×Int=>⟨[(0,.a (.c (.ptr 1000000 0))),(1,.a (.c (.val (.int .u8 a3)))),(4,.a (.c (.ptr 4 0)))],[(4,.cells 39 [.val (.int .u8 o1.1),.val (.int .i64 o1.2)]),(1000000,.cells 96 [.sl 1000001,.val (.int .u8 a0),.val (.int .u8 a1)]),(1000001,.lrow 45 qp a2)]⟩) (fun o'=>o1=o') ?_ ?_
  ·have h:=ho1
   revert h
   refine xC rfl rfl (fun hc h=>?_) (fun hc h=>?_)
   ·refine zq<|zj zu rfl rfl ?_
    exact ⟨_,(Option.some.inj h).symm,(Wk.pick [0,1,4] [4,1000000,1000001] rfl rfl)⟩
   refine za ?_;exact ⟨_,(Option.some.inj h).symm,(Wk.pick [0,1,4] [4,1000000,1000001] rfl rfl)⟩
  ·rintro _ rfl
   have h:=hk1;obtain ⟨r2,hr2,h⟩:=bd h;refine zq<|zf zu rfl rfl<|qG [(1000000,1000000),(1000001,1000001)] (w_coput _ _ _ _ _ _  r2 hr2) rfl ⟨rfl,rfl⟩ rfl Tryd.func65 rfl rfl rfl rfl rfl rfl (PassH.cons rfl rfl rfl (PassH.cons rfl rfl rfl PassH.nil)) ?_
   rintro _ _ ⟨rfl,rfl⟩;refine ⟨_,_,rfl,rfl,?_⟩;refine zj zu rfl rfl ?_;obtain rfl:=Option.some.inj h;refine ⟨_,(Wk.pick [] [1000000,1000001] rfl rfl),_,_,rfl,rfl,?_⟩;exact ⟨rfl,rfl⟩
def xq (a0:Int) (a1:Int) (a3:T1):Nat→Int→T4→Option (T4)
  | 0,_,_=>none
  | n+1,v2_0,v2_1=>
    cond (decide (v2_0 < (a3.length:Int))) (Option.bind (cond (decide (a0=(0:Int))) (gd ((zk ((a3.length:Int) - (1:Int)))&&(zk (((a3.length:Int) - (1:Int)) - v2_0))) <|
    some (((a3.length:Int) - (1:Int)) - v2_0)) (some v2_0)) fun o3=>
    gd ((zi o3 a3.length)) <|
    Option.bind (m_coput a0 a1 v2_1 (4:Int) a0 (a3.getD o3.toNat qr.zero)) fun r5=>
    gd ((zk (v2_0+(1:Int)))) <|
    xq a0 a1 a3 n (v2_0+(1:Int)) r5) (some v2_1)
def yg (a0:Int) (a1:Int) (a2:List zO) (a3:T1):Option (T4):=
    Option.bind (xq a0 a1 a3 zC (0:Int) a2) fun o1=>
    some o1
theorem w_coknit (a0:Int) (a1:Int) (a2:List zO) (a3:T1) (c0:Option Nat) (r:(T4)) (h:yg a0 a1 a2 a3=some r):AC cx 66 [.c (.ptr 1000000 0),.c (.lst qr a3 c0)] [(1000000,.cells 96 [.sl 1000001,.val (.int .u8 a0),.val (.int .u8 a1)]),(1000001,.lrow 45 qp a2)] (fun sv h=>sv=.tup []∧h=[(1000000,.cells 96 [.sl 1000001,.val (.int .u8 a0),.val (.int .u8 a1)]),(1000001,.lrow 45 qp r)]):=by
  unfold yg at h;refine zp zu Tryd.func66 rfl Tryd.ntmps66 rfl rfl (res:=[]) rfl<|zv<|zq<|zj zu rfl rfl ?_
  obtain ⟨o1,ho1,hk1⟩:=bd h;refine zB (fun o1:T4=>⟨[],[(1000000,.cells 96 [.sl 1000001,.val (.int .u8 a0),.val (.int .u8 a1)]),(1000001,.lrow 45 qp o1)]⟩) (fun o'=>o1=o') ?_ ?_
  ·have h:=ho1
   refine zc<|zb (Wk.pick [7,0,1,6] [1000001,1000000] rfl rfl)<|zm (fun y:Nat×Int×T4=>[(7,.a (.c (.val (.int .i64 y.2.1))))]) (fun y:Nat×Int×T4=>[(1000001,.lrow 45 qp y.2.2)]) (fun y:Nat×Int×T4=>xq a0 a1 a3 y.1 y.2.1 y.2.2=some o1) (fun y:Nat×Int×T4=>y.1) (zC,(0:Int),a2) h ?_
   rintro ⟨n,v2_0,v2_1⟩ h;replace h:xq a0 a1 a3 n v2_0 v2_1=some o1:=h
   rcases n with _ | n
   · cases (show (none:Option _)=some _ from h)
   rw [xq] at h
   try dsimp only
   refine zv<|zq<|zj zu rfl rfl<|zv ?_
   revert h
   refine xC rfl rfl (fun hc h=>?_) (fun hc h=>?_)
   ·refine za<|zv<|zc<|zv<|zq<|zj zu rfl rfl<|zv<|zv<|zq<|zj zu rfl rfl ?_
    obtain ⟨o3,ho3,hk3⟩:=bd h;refine zB (fun o3:Int=>⟨[(0,.a (.c (.ptr 1000000 0))),(1,.a (.c (.lst qr a3 c0))),(4,.a (.c (.val (.int .i64 o3)))),(6,.a (.c (.val (.int .i64 (a3.length:Int))))),(7,.a (.c (.val (.int .i64 v2_0))))],[(1000000,.cells 96 [.sl 1000001,.val (.int .u8 a0),.val (.int .u8 a1)]),(1000001,.lrow 45 qp v2_1)]⟩) (fun o'=>o3=o') ?_ ?_
    ·have h:=ho3
     revert h
     refine xC rfl rfl (fun hc h=>?_) (fun hc h=>?_)
     ·obtain ⟨hG4,h⟩:=zw h
      simp only [Bool.and_eq_true] at hG4;obtain ⟨hG4_0,hG4_1⟩:=hG4;refine zq<|zj zu rfl (by simp only [hG4_0,hG4_1,oc]) ?_
      exact ⟨_,(Option.some.inj h).symm,(Wk.pick [0,1,4,6,7] [1000000,1000001] rfl rfl)⟩
     refine za ?_;exact ⟨_,(Option.some.inj h).symm,(Wk.pick [0,1,4,6,7] [1000000,1000001] rfl rfl)⟩
    ·rintro _ rfl
     have h:=hk3;obtain ⟨hG7,h⟩:=zw h;obtain ⟨r5,hr5,h⟩:=bd h;refine zH [5,6,7,8] (by kernel_rfl) rfl (N:=10)<|zn (fuel:=1) (ds':=⟨#[true,true,true,true,true,true,true,true,true,false],true,true,true⟩) zu [(0,0),(1,0),(2,0),(3,0),(4,3),(5,0),(6,0),(7,0),(8,1)] (by kernel_rfl) rfl (by simp only [hG7,oc]) ?_
     refine zl (by kernel_rfl) (zh (i:=9) ?_ zo);refine zN rfl<|zP (i:=9) (listed':=#[true,true,true,true,true,true,true,true,true,true]) (pre':=false) [(1000000,1000000),(1000001,1000001)] (w_coput _ _ _ _ _ _  r5 hr5) rfl rfl rfl rfl ⟨rfl,rfl⟩ rfl Tryd.func65 rfl rfl rfl (by simp only [hG7,oc]) rfl rfl (PassH.cons rfl rfl rfl (PassH.cons rfl rfl rfl PassH.nil)) ?_
     rintro _ _ ⟨rfl,rfl⟩;refine ⟨_,_,rfl,rfl,?_⟩;refine zt (by kernel_rfl) ?_;obtain ⟨hG6,h⟩:=zw h;refine zq<|zj zu rfl (by simp only [hG6,oc]) ?_
     refine ⟨(n,_,_),h,Nat.lt_succ_self _,(Wk.pick [7,0,1,6] [1000001,1000000] rfl rfl)⟩
   refine zr ?_;exact ⟨_,(Option.some.inj h).symm,(Wk.pick [] [1000000,1000001] rfl rfl)⟩
  ·rintro _ rfl
   have h:=hk1;obtain rfl:=Option.some.inj h;refine ⟨_,(Wk.pick [] [1000000,1000001] rfl rfl),_,_,rfl,rfl,?_⟩;exact ⟨rfl,rfl⟩
def qY (a0:Int) (a1:Int) (a3:T1):Nat→Int→T4→Option (T4)
  | 0,_,_=>none
  | n+1,v2_0,v2_1=>
    cond (decide (v2_0 < (a3.length:Int))) (gd ((zi v2_0 a3.length)) <|
    Option.bind (m_coput a0 a1 v2_1 (5:Int) a0 (a3.getD v2_0.toNat qr.zero)) fun r3=>
    gd ((zk (v2_0+(1:Int)))) <|
    qY a0 a1 a3 n (v2_0+(1:Int)) r3) (some v2_1)
def m_cotuck (a0:Int) (a1:Int) (a2:List zO) (a3:T1):Option (T4):=
    Option.bind (qY a0 a1 a3 zC (0:Int) a2) fun o1=>
    some o1
theorem w_cotuck (a0:Int) (a1:Int) (a2:List zO) (a3:T1) (c0:Option Nat) (r:(T4)) (h:m_cotuck a0 a1 a2 a3=some r):AC cx 67 [.c (.ptr 1000000 0),.c (.lst qr a3 c0)] [(1000000,.cells 96 [.sl 1000001,.val (.int .u8 a0),.val (.int .u8 a1)]),(1000001,.lrow 45 qp a2)] (fun sv h=>sv=.tup []∧h=[(1000000,.cells 96 [.sl 1000001,.val (.int .u8 a0),.val (.int .u8 a1)]),(1000001,.lrow 45 qp r)]):=by
  unfold m_cotuck at h;refine zp zu Tryd.func67 rfl Tryd.ntmps67 rfl rfl (res:=[]) rfl<|zv<|zq<|zj zu rfl rfl ?_
  obtain ⟨o1,ho1,hk1⟩:=bd h;refine zB (fun o1:T4=>⟨[],[(1000000,.cells 96 [.sl 1000001,.val (.int .u8 a0),.val (.int .u8 a1)]),(1000001,.lrow 45 qp o1)]⟩) (fun o'=>o1=o') ?_ ?_
  ·have h:=ho1
   refine zc<|zb (Wk.pick [8,0,6,7] [1000001,1000000] rfl rfl)<|zm (fun y:Nat×Int×T4=>[(8,.a (.c (.val (.int .i64 y.2.1))))]) (fun y:Nat×Int×T4=>[(1000001,.lrow 45 qp y.2.2)]) (fun y:Nat×Int×T4=>qY a0 a1 a3 y.1 y.2.1 y.2.2=some o1) (fun y:Nat×Int×T4=>y.1) (zC,(0:Int),a2) h ?_
   rintro ⟨n,v2_0,v2_1⟩ h;replace h:qY a0 a1 a3 n v2_0 v2_1=some o1:=h
   rcases n with _ | n
   · cases (show (none:Option _)=some _ from h)
   rw [qY] at h
   try dsimp only
   refine zv<|zq<|zj zu rfl rfl<|zv ?_
   revert h
   refine xC rfl rfl (fun hc h=>?_) (fun hc h=>?_)
   ·refine za<|zv<|zc<|zv ?_
    obtain ⟨hG5,h⟩:=zw h;refine zq<|zj zu rfl (by simp only [hG5,oc]) ?_
    refine zb (Wk.frzC 5 qr rfl rfl rfl) ?_;obtain ⟨r3,hr3,h⟩:=bd h;refine zH [5] (by kernel_rfl) rfl (N:=7)<|zn (fuel:=1) (ds':=⟨#[true,true,true,true,true,true,false],true,true,true⟩) zu [(0,0),(1,0),(2,0),(3,0),(4,3),(5,1)] (by kernel_rfl) rfl rfl<|zl (by kernel_rfl) (zh (i:=6) ?_ zo)
    refine zN rfl<|zP (i:=6) (listed':=#[true,true,true,true,true,true,true]) (pre':=false) [(1000000,1000000),(1000001,1000001)] (w_coput _ _ _ _ _ _  r3 hr3) rfl rfl rfl rfl ⟨rfl,rfl⟩ rfl Tryd.func65 rfl rfl rfl rfl rfl rfl (PassH.cons rfl rfl rfl (PassH.cons rfl rfl rfl PassH.nil)) ?_
    rintro _ _ ⟨rfl,rfl⟩;refine ⟨_,_,rfl,rfl,?_⟩;refine zt (by kernel_rfl) ?_;obtain ⟨hG4,h⟩:=zw h;refine zq<|zj zu rfl (by simp only [hG4,oc]) ?_
    refine ⟨(n,_,_),h,Nat.lt_succ_self _,(Wk.pick [8,0,6,7] [1000001,1000000] rfl rfl)⟩
   refine zr ?_;exact ⟨_,(Option.some.inj h).symm,(Wk.pick [] [1000000,1000001] rfl rfl)⟩
  ·rintro _ rfl
   have h:=hk1;obtain rfl:=Option.some.inj h;refine ⟨_,(Wk.pick [] [1000000,1000001] rfl rfl),_,_,rfl,rfl,?_⟩;exact ⟨rfl,rfl⟩
def m_coslip (a0:Int) (a1:Int) (a2:List zO) (a3:T1):Option (Unit):=
    some ()
theorem w_coslip (a0:Int) (a1:Int) (a2:List zO) (a3:T1) (c0:Option Nat) (r:(Unit)) (h:m_coslip a0 a1 a2 a3=some r):AC cx 68 [.c (.ptr 1000000 0),.c (.lst qr a3 c0)] [(1000000,.cells 96 [.sl 1000001,.val (.int .u8 a0),.val (.int .u8 a1)]),(1000001,.lrow 45 qp a2)] (fun sv h=>sv=.tup []∧h=[(1000000,.cells 96 [.sl 1000001,.val (.int .u8 a0),.val (.int .u8 a1)]),(1000001,.lrow 45 qp a2)]):=by
  unfold m_coslip at h;refine zp zu Tryd.func68 rfl Tryd.ntmps68 rfl rfl (res:=[]) rfl<|za ?_
  obtain rfl:=Option.some.inj h;refine ⟨_,(Wk.pick [] [1000000,1000001] rfl rfl),_,_,rfl,rfl,?_⟩;exact ⟨rfl,rfl⟩
def ql (a0:T1):Nat→Int→T3→Option (T3)
  | 0,_,_=>none
  | n+1,v2_0,v2_1=>
    cond (decide (v2_0 < (a0.length:Int))) (gd ((zi v2_0 a0.length)&&(zi v2_0 v2_1.length)&&(decide (v2_0.toNat < v2_1.length))) <|
    gd ((zk (v2_0+(1:Int)))) <|
    ql a0 n (v2_0+(1:Int)) (v2_1.set v2_0.toNat (a0.getD v2_0.toNat qr.zero).2)) (some v2_1)
def yr (a0:T1):Option (T3×Nat):=
    gd ((decide (0≤(a0.length:Int)))&&(decide ((8:Int) * (a0.length:Int)≤140737488355328))&&(decide ((a0.length:Int)≤140737488355328))) <|
    Option.bind (ql a0 zC (0:Int) (List.replicate (a0.length:Int).toNat (0:Int))) fun o1=>
    some (o1,(a0.length:Int).toNat)
theorem w_flnumbers (a0:T1) (c0:Option Nat) (r:(T3×Nat)) (h:yr a0=some r):AC cx 78 [.c (.lst qr a0 c0)] [] (fun sv h=>sv=.a (.c (.lst (.int .i64) r.1 (some r.2)))∧h=[]):=by
  unfold yr at h;refine zp zu Tryd.func78 rfl Tryd.ntmps78 rfl rfl (res:=[.tmp 2]) rfl<|zv<|zq<|zj zu rfl rfl<|zv ?_
  obtain ⟨hG5,h⟩:=zw h;simp only [Bool.and_eq_true] at hG5;obtain ⟨⟨hG5_0,hG5_1⟩,hG5_2⟩:=hG5;refine zq<|zj zu rfl (by simp_all) ?_
  refine zv<|zv<|zq<|zj zu rfl rfl ?_
  obtain ⟨o1,ho1,hk1⟩:=bd h;refine zB (fun o1:T3=>⟨[(3,.a (.c (.sl 7)))],[(7,.row 3 (.int .i64) o1 (some (a0.length:Int).toNat))]⟩) (fun o'=>o1=o') ?_ ?_
  ·have h:=ho1
   refine zc<|zb (Wk.pick [10,0,3,9] [7] rfl rfl)<|zm (fun y:Nat×Int×T3=>[(10,.a (.c (.val (.int .i64 y.2.1))))]) (fun y:Nat×Int×T3=>[(7,.row 3 (.int .i64) y.2.2 (some (a0.length:Int).toNat))]) (fun y:Nat×Int×T3=>ql a0 y.1 y.2.1 y.2.2=some o1) (fun y:Nat×Int×T3=>y.1) (zC,(0:Int),(List.replicate (a0.length:Int).toNat (0:Int))) h ?_
   rintro ⟨n,v2_0,v2_1⟩ h;replace h:ql a0 n v2_0 v2_1=some o1:=h
   rcases n with _ | n
   · cases (show (none:Option _)=some _ from h)
   rw [ql] at h
   try dsimp only
   refine zv<|zq<|zj zu rfl rfl<|zv ?_
   revert h
   refine xC rfl rfl (fun hc h=>?_) (fun hc h=>?_)
   ·refine za<|zv<|zc<|zv<|zq<|zj zu rfl rfl ?_
    obtain ⟨hG4,h⟩:=zw h;simp only [Bool.and_eq_true] at hG4;obtain ⟨⟨hG4_0,hG4_1⟩,hG4_2⟩:=hG4;refine zq<|zj zu rfl (by simp only [hG4_0,hG4_1,hG4_2,oc]) ?_
    obtain ⟨hG3,h⟩:=zw h;refine zq<|zj zu rfl (by simp only [hG3,oc]) ?_
    refine ⟨(n,_,_),h,Nat.lt_succ_self _,(Wk.pick [10,0,3,9] [7] rfl rfl)⟩
   refine zr ?_;exact ⟨_,(Option.some.inj h).symm,(Wk.pick [3] [7] rfl rfl)⟩
  ·rintro _ rfl
   have h:=hk1;refine zv<|zq<|zj zu rfl rfl ?_
   cases h;exact zd ⟨_,(Wk.trans (Wk.frz (id:=7) rfl) (Wk.pick [2] [] rfl rfl)),_,_,rfl,rfl,rfl,rfl⟩
def qV (a0:(List T4)):Nat→Int→Int→Option (Int)
  | 0,_,_=>none
  | n+1,v2_0,v2_1=>
    cond (decide (v2_1 < (a0.length:Int))) (gd ((zi v2_1 a0.length)) <|
    gd ((zk (v2_0+((a0.getD v2_1.toNat []).length:Int)))) <|
    gd ((zk (v2_1+(1:Int)))) <|
    qV a0 n (v2_0+((a0.getD v2_1.toNat []).length:Int)) (v2_1+(1:Int))) (some v2_0)
def xL (a0:(List T4)):Nat→Int→T4→(Option Nat)→Option (T4×(Option Nat))
  | 0,_,_,_=>none
  | n+1,v7_0,v7_1,v7_2=>
    cond (decide (v7_0 < (a0.length:Int))) (gd ((zi v7_0 a0.length)) <|
    gd ((ze 40 (v7_1.length+(a0.getD v7_0.toNat []).length))) <|
    gd ((zk (v7_0+(1:Int)))) <|
    xL a0 n (v7_0+(1:Int)) (v7_1++(a0.getD v7_0.toNat [])) none) (some (v7_1,v7_2))
def m_fljoin (a0:(List T4)):Option (T4×(Option Nat)):=
    Option.bind (qV a0 zC (0:Int) (0:Int)) fun o1=>
    gd ((decide ((0:Int)≤o1))&&(decide ((40:Int) * o1≤140737488355328))&&(decide (o1≤140737488355328))) <|
    Option.bind (xL a0 zC (0:Int) ([]:List zO) (some o1.toNat)) fun o6=>
    some (o6.1,o6.2)
theorem w_fljoin (a0:(List T4)) (c0:Option Nat) (r:(T4×(Option Nat))) (h:m_fljoin a0=some r):AC cx 54 [.c (.lst (.sl qp) a0 c0)] [] (fun sv h=>sv=.a (.c (.lst qp r.1 r.2))∧h=[]):=by
  unfold m_fljoin at h;refine zp zu Tryd.func54 rfl Tryd.ntmps54 rfl rfl (res:=[.tmp 2]) rfl<|zv<|zq<|zj zu rfl rfl<|zv<|zq<|zj zu rfl rfl<|zv<|zv<|zq<|zj zu rfl rfl ?_
  obtain ⟨o1,ho1,hk1⟩:=bd h;refine zB (fun o1:Int=>⟨[(0,.a (.c (.lst (.sl qp) a0 c0))),(3,.a (.c (.val (.int .i64 o1))))],[]⟩) (fun o'=>o1=o') ?_ ?_
  ·have h:=ho1
   refine zc<|zb (Wk.pick [3,11,0,9,10] [] rfl rfl)<|zm (fun y:Nat×Int×Int=>[(3,.a (.c (.val (.int .i64 y.2.1)))),(11,.a (.c (.val (.int .i64 y.2.2))))]) (fun y:Nat×Int×Int=>[]) (fun y:Nat×Int×Int=>qV a0 y.1 y.2.1 y.2.2=some o1) (fun y:Nat×Int×Int=>y.1) (zC,(0:Int),(0:Int)) h ?_
   rintro ⟨n,v2_0,v2_1⟩ h;replace h:qV a0 n v2_0 v2_1=some o1:=h
   rcases n with _ | n
   · cases (show (none:Option _)=some _ from h)
   rw [qV] at h
   try dsimp only
   refine zv<|zq<|zj zu rfl rfl<|zv ?_
   revert h
   refine xC rfl rfl (fun hc h=>?_) (fun hc h=>?_)
   ·refine za<|zv<|zc<|zv ?_
    obtain ⟨hG5,h⟩:=zw h;refine zq<|zj zu rfl (by simp only [hG5,oc]) ?_
    obtain ⟨hG4,h⟩:=zw h;refine zq<|zj zu rfl (by simp only [hG4,oc]) ?_
    obtain ⟨hG3,h⟩:=zw h;refine zq<|zj zu rfl (by simp only [hG3,oc]) ?_
    refine ⟨(n,_,_),h,Nat.lt_succ_self _,(Wk.pick [3,11,0,9,10] [] rfl rfl)⟩
   refine zr ?_;exact ⟨_,(Option.some.inj h).symm,(Wk.pick [0,3] [] rfl rfl)⟩
  ·rintro _ rfl
   have h:=hk1;refine zv ?_;obtain ⟨hG11,h⟩:=zw h;simp only [Bool.and_eq_true] at hG11;obtain ⟨⟨hG11_0,hG11_1⟩,hG11_2⟩:=hG11;refine zq<|zj zu rfl (by simp_all) ?_
   refine zv<|zv<|zq<|zj zu rfl rfl ?_
   obtain ⟨o6,ho6,hk6⟩:=bd h;refine zB (fun o6:T4×(Option Nat)=>⟨[(6,.a (.c (.sl 21)))],[(21,.row 45 qp o6.1 o6.2)]⟩) (fun o'=>o6=o') ?_ ?_
   ·have h:=ho6
    refine zc<|zb (Wk.pick [24,6,22,23] [21] rfl rfl)<|zm (fun y:Nat×Int×T4×(Option Nat)=>[(24,.a (.c (.val (.int .i64 y.2.1))))]) (fun y:Nat×Int×T4×(Option Nat)=>[(21,.row 45 qp y.2.2.1 y.2.2.2)]) (fun y:Nat×Int×T4×(Option Nat)=>xL a0 y.1 y.2.1 y.2.2.1 y.2.2.2=some o6) (fun y:Nat×Int×T4×(Option Nat)=>y.1) (zC,(0:Int),([]:List zO),(some o1.toNat)) h ?_
    rintro ⟨n,v7_0,v7_1,v7_2⟩ h;replace h:xL a0 n v7_0 v7_1 v7_2=some o6:=h
    rcases n with _ | n
    · cases (show (none:Option _)=some _ from h)
    rw [xL] at h
    try dsimp only
    refine zv<|zq<|zj zu rfl rfl<|zv ?_
    revert h
    refine xC rfl rfl (fun hc h=>?_) (fun hc h=>?_)
    ·refine za<|zv<|zc<|zv ?_
     obtain ⟨hG10,h⟩:=zw h;refine zq<|zj zu rfl (by simp only [hG10,oc]) ?_
     obtain ⟨hG9,h⟩:=zw h;refine zq<|zj zu rfl (by simp only [hG9,oc]) ?_
     obtain ⟨hG8,h⟩:=zw h;refine zq<|zj zu rfl (by simp only [hG8,oc]) ?_
     refine ⟨(n,_,_,_),h,Nat.lt_succ_self _,(Wk.pick [24,6,22,23] [21] rfl rfl)⟩
    refine zr ?_;exact ⟨_,(Option.some.inj h).symm,(Wk.pick [6] [21] rfl rfl)⟩
   ·rintro _ rfl
    have h:=hk6;refine zv<|zq<|zj zu rfl rfl ?_
    cases h;exact zd ⟨_,(Wk.trans (Wk.frz (id:=21) rfl) (Wk.pick [2] [] rfl rfl)),_,_,rfl,rfl,rfl,rfl⟩
end Go.Proofs.YtihcolehefloeaaDoor

/- Goals of a row: model. -/
namespace Go.Proofs.YtihcolehefloeaaDoor
set_option linter.unusedSimpArgs false
set_option linter.unusedVariables false
open Go.RowKit
def xj (a0:T0) (v2_0:Int) (v2_1:Int) (v2_3:List T1) (r3:Int):Nat→Int→T1→Option (T1)
  | 0,_,_=>none
  | n+1,v5_0,v5_1=>
    cond (decide (v5_0 < ((List.replicate r3.toNat (qr.zero:(Int×Int))).length:Int))) (gd ((zi v2_1 v2_3.length)) <|
    Option.bind (m_stbed (a0.getD v2_1.toNat (0,(0,(0,(0,false)))))) fun r6=>
    gd ((zk (v2_0+v5_0))&&(zi v5_0 v5_1.length)&&(decide (v5_0.toNat < v5_1.length))) <|
    gd ((zk (v5_0+(1:Int)))) <|
    xj a0 v2_0 v2_1 v2_3 r3 n (v5_0+(1:Int)) (v5_1.set v5_0.toNat (r6,(v2_0+v5_0)))) (some v5_1)
def qO (v2_0:Int) (r3:Int) (r10:Int):Nat→Int→T3→Option (T3)
  | 0,_,_=>none
  | n+1,v12_0,v12_1=>
    cond (decide (v12_0 < r10)) (gd ((zk (r3 - (1:Int)))&&(zk (v2_0+(if (r3 - (1:Int)) < v12_0 then (r3 - (1:Int)) else v12_0)))&&(ze 8 (v12_1.length+[(v2_0+(if (r3 - (1:Int)) < v12_0 then (r3 - (1:Int)) else v12_0))].length))) <|
    gd ((zk (v12_0+(1:Int)))) <|
    qO v2_0 r3 r10 n (v12_0+(1:Int)) (v12_1++[(v2_0+(if (r3 - (1:Int)) < v12_0 then (r3 - (1:Int)) else v12_0))])) (some v12_1)
def xf (a0:T0):Nat→Int→Int→T3→(List T1)→Option (T3×(List T1))
  | 0,_,_,_,_=>none
  | n+1,v2_0,v2_1,v2_2,v2_3=>
    cond (decide (v2_1 < (a0.length:Int))) (gd ((zi v2_1 a0.length)) <|
    Option.bind (m_stmakes (a0.getD v2_1.toNat (0,(0,(0,(0,false)))))) fun r3=>
    gd ((decide (0≤r3))&&(decide ((16:Int) * r3≤140737488355328))&&(decide (r3≤140737488355328))&&(zi v2_1 v2_3.length)&&(decide (v2_1.toNat < v2_3.length))) <|
    gd ((zi v2_1 v2_3.length)) <|
    Option.bind (xj a0 v2_0 v2_1 v2_3 r3 zC (0:Int) (List.replicate r3.toNat (qr.zero:(Int×Int)))) fun o4=>
    Option.bind (yp (a0.getD v2_1.toNat (0,(0,(0,(0,false)))))) fun r10=>
    Option.bind (qO v2_0 r3 r10 zC (0:Int) v2_2) fun o11=>
    gd ((zk (v2_0+r3))) <|
    gd ((zk (v2_1+(1:Int)))) <|
    xf a0 n (v2_0+r3) (v2_1+(1:Int)) o11 (v2_3.set v2_1.toNat o4)) (some (v2_2,v2_3))
def m_goals (a0:T0):Option ((List T1)×Nat×T3):=
    gd ((decide (0≤(a0.length:Int)))&&(decide ((24:Int) * (a0.length:Int)≤140737488355328))&&(decide ((a0.length:Int)≤140737488355328))) <|
    Option.bind (xf a0 zC (13:Int) (0:Int) ([]:List Int) (List.replicate (a0.length:Int).toNat ([]:T1))) fun o1=>
    some (o1.2,(a0.length:Int).toNat,o1.1)
theorem w_goals (a0:T0) (c0:Option Nat) (r:((List T1)×Nat×T3)) (h:m_goals a0=some r):AC cx 45 [.c (.lst G0 a0 c0)] [] (fun sv h=>sv=.tup [.c (.lst (.sl qr) r.1 (some r.2.1)),.c (.sl 3)]∧h=[(3,.row 3 (.int .i64) r.2.2 none)]):=by
  unfold m_goals at h;refine zp zu Tryd.func45 rfl Tryd.ntmps45 rfl rfl (res:=[.tmp 2,.tmp 3]) rfl<|zv<|zq<|zj zu rfl rfl<|zb (Wk.nil 3 3 3 (.int .i64) rfl rfl)<|zv ?_
  obtain ⟨hG20,h⟩:=zw h;simp only [Bool.and_eq_true] at hG20;obtain ⟨⟨hG20_0,hG20_1⟩,hG20_2⟩:=hG20;refine zq<|zj zu rfl (by simp_all) ?_
  refine zv<|zq<|zj zu rfl rfl<|zv<|zv<|zq<|zj zu rfl rfl ?_
  obtain ⟨o1,ho1,hk1⟩:=bd h;refine zB (fun o1:T3×(List T1)=>⟨[(2,.a (.c (.sl 12))),(3,.a (.c (.sl 3)))],[(3,.row 3 (.int .i64) o1.1 none),(12,.row 30 (.sl qr) o1.2 (some (a0.length:Int).toNat))]⟩) (fun o'=>o1=o') ?_ ?_
  ·have h:=ho1
   refine zc<|zb (Wk.pick [4,15,2,3,13,14] [3,12] rfl rfl)<|zm (fun y:Nat×Int×Int×T3×(List T1)=>[(4,.a (.c (.val (.int .i64 y.2.1)))),(15,.a (.c (.val (.int .i64 y.2.2.1))))]) (fun y:Nat×Int×Int×T3×(List T1)=>[(3,.row 3 (.int .i64) y.2.2.2.1 none),(12,.row 30 (.sl qr) y.2.2.2.2 (some (a0.length:Int).toNat))]) (fun y:Nat×Int×Int×T3×(List T1)=>xf a0 y.1 y.2.1 y.2.2.1 y.2.2.2.1 y.2.2.2.2=some o1) (fun y:Nat×Int×Int×T3×(List T1)=>y.1) (zC,(13:Int),(0:Int),([]:List Int),(List.replicate (a0.length:Int).toNat ([]:T1))) h ?_
   rintro ⟨n,v2_0,v2_1,v2_2,v2_3⟩ h;replace h:xf a0 n v2_0 v2_1 v2_2 v2_3=some o1:=h
   rcases n with _ | n
   · cases (show (none:Option _)=some _ from h)
   rw [xf] at h
   try dsimp only
   refine zv<|zq<|zj zu rfl rfl<|zv ?_
   revert h
   refine xC rfl rfl (fun hc h=>?_) (fun hc h=>?_)
   ·refine za<|zv<|zc<|zv ?_
    obtain ⟨hG19,h⟩:=zw h;refine zq<|zj zu rfl (by simp only [hG19,oc]) ?_
    refine zb (Wk.frzC 6 G0 rfl rfl rfl)<|zv ?_
    obtain ⟨r3,hr3,h⟩:=bd h;refine zq<|zf zu rfl rfl<|zg (w_stmakes _  r3 hr3) rfl ⟨rfl,rfl⟩ rfl Tryd.func36 rfl rfl rfl rfl rfl rfl<|zj zu rfl rfl<|zv ?_
    obtain ⟨hG18,h⟩:=zw h;simp only [Bool.and_eq_true] at hG18;obtain ⟨⟨⟨⟨hG18_0,hG18_1⟩,hG18_2⟩,hG18_3⟩,hG18_4⟩:=hG18;refine zq<|qf 5 zu rfl (by simp_all) ?_
    refine al_storeH zu rfl ⟨rfl,rfl⟩ rfl rfl rfl (by simp only [hG18_0,hG18_1,hG18_2,hG18_3,hG18_4,oc]) rfl (by simp only [hG18_0,hG18_1,hG18_2,hG18_3,hG18_4,oc]) rfl rfl (by simp only [hG18_0,hG18_1,hG18_2,hG18_3,hG18_4,oc]) ?_;refine zj zu rfl (by simp only [hG18_0,hG18_1,hG18_2,hG18_3,hG18_4,oc]) ?_;refine zv<|zv ?_
    obtain ⟨hG17,h⟩:=zw h;refine zq<|qf 3 zu rfl (by simp only [hG17,oc]) ?_
    refine al_loadH zu rfl ⟨rfl,rfl⟩ rfl rfl rfl rfl (by simp only [hG17,oc]) rfl ?_;refine zj zu rfl (by simp only [hG17,oc]) ?_;obtain ⟨o4,ho4,hk4⟩:=bd h;refine zB (fun o4:T1=>⟨[(2,.a (.c (.sl 12))),(3,.a (.c (.sl 3))),(4,.a (.c (.val (.int .i64 v2_0)))),(6,.a (.c (.pel G0 (a0.getD v2_1.toNat (0,(0,(0,(0,false))))) 0))),(7,.a (.c (.val (.int .i64 r3)))),(13,.a (.c (.lst G0 a0 c0))),(14,.a (.c (.val (.int .i64 (a0.length:Int))))),(15,.a (.c (.val (.int .i64 v2_1))))],[(3,.row 3 (.int .i64) v2_2 none),(12,.hrow 30 qr v2_3 (some (a0.length:Int).toNat) v2_1.toNat 25),(25,.row 39 qr o4 (some r3.toNat))]⟩) (fun o'=>o4=o') ?_ ?_
    ·have h:=ho4
     refine zc<|zb (Wk.pick [32,2,3,4,5,6,7,13,14,15,31] [25,3,12] rfl rfl)<|zm (fun y:Nat×Int×T1=>[(32,.a (.c (.val (.int .i64 y.2.1))))]) (fun y:Nat×Int×T1=>[(25,.row 39 qr y.2.2 (some r3.toNat))]) (fun y:Nat×Int×T1=>xj a0 v2_0 v2_1 v2_3 r3 y.1 y.2.1 y.2.2=some o4) (fun y:Nat×Int×T1=>y.1) (zC,(0:Int),(List.replicate r3.toNat (qr.zero:(Int×Int)))) h ?_
     rintro ⟨n,v5_0,v5_1⟩ h;replace h:xj a0 v2_0 v2_1 v2_3 r3 n v5_0 v5_1=some o4:=h
     rcases n with _ | n
     · cases (show (none:Option _)=some _ from h)
     rw [xj] at h
     try dsimp only
     refine zv<|zq<|zj zu rfl rfl<|zv ?_
     revert h
     refine xC rfl rfl (fun hc h=>?_) (fun hc h=>?_)
     ·refine za<|zv<|zc<|zv<|zq<|zj zu rfl rfl ?_
      obtain ⟨hG8,h⟩:=zw h;obtain ⟨r6,hr6,h⟩:=bd h;obtain ⟨hG9,h⟩:=zw h;simp only [Bool.and_eq_true] at hG9;obtain ⟨⟨hG9_0,hG9_1⟩,hG9_2⟩:=hG9
      apply ax_cut
      ·
        refine zH [] (by kernel_rfl) rfl (N:=13)<|zn (fuel:=5) (ds':=⟨#[true,true,true,false,true,true,false,true,true,true,false,false,false],true,true,true⟩) zu [(0,0),(1,0),(2,0),(4,0),(5,1),(7,0),(8,0),(9,0)] (by kernel_rfl) rfl (by simp only [hG8,hG9_0,hG9_1,hG9_2,oc]) ?_
        refine zl (by kernel_rfl) (zh (i:=3) ?_ (zh (i:=6) ?_ zo))
        ·
          refine ado_pk (i:=3) (l':=#[true,true,true,true,true,true,false,true,true,true,false,false,false]) rfl (pk_loadH zu rfl rfl rfl rfl (by simp only [hG8,hG9_0,hG9_1,hG9_2,oc]) rfl) ⟨rfl,rfl⟩ rfl rfl rfl ?_;refine zl (by kernel_rfl) (zh (i:=6) ?_ zo);refine zN rfl<|zP (i:=6) (listed':=#[true,true,true,true,true,true,true,true,true,true,false,false,false]) (pre':=false) [] (w_stbed _  r6 hr6) rfl rfl rfl rfl ⟨rfl,rfl⟩ rfl Tryd.func49 rfl rfl rfl (by simp only [hG8,hG9_0,hG9_1,hG9_2,oc]) rfl rfl PassH.nil ?_
          rintro _ _ ⟨rfl,rfl⟩;refine ⟨_,_,rfl,rfl,?_⟩;refine zn (fuel:=0) (ds':=⟨#[true,true,true,true,true,true,true,true,true,true,true,true,true],false,false,false⟩) zu [(10,0),(11,0),(12,2)] (by kernel_rfl) rfl (by simp only [hG8,hG9_0,hG9_1,hG9_2,oc]) ?_;refine zt (by kernel_rfl) ?_;exact ⟨rfl,Wk.pick [2,3,4,5,6,7,13,14,15,31,32] [3,12,25] rfl rfl⟩
        ·
          refine zN rfl<|zP (i:=6) (listed':=#[true,true,true,false,true,true,true,true,true,true,false,false,false]) (pre':=true) [] (w_stbed _  r6 hr6) rfl rfl rfl rfl ⟨rfl,rfl⟩ rfl Tryd.func49 rfl rfl rfl (by simp only [hG8,hG9_0,hG9_1,hG9_2,oc]) rfl rfl PassH.nil ?_
          rintro _ _ ⟨rfl,rfl⟩;refine ⟨_,_,rfl,rfl,?_⟩;refine zn (fuel:=3) (ds':=⟨#[true,true,true,false,true,true,true,true,true,true,true,false,false],false,true,false⟩) zu [(10,0)] (by kernel_rfl) rfl (by simp only [hG8,hG9_0,hG9_1,hG9_2,oc]) ?_;refine zl (by kernel_rfl) (zh (i:=3) ?_ zo);refine ado_pk (i:=3) (l':=#[true,true,true,true,true,true,true,true,true,true,true,false,false]) rfl (pk_loadH zu rfl rfl rfl rfl (by simp only [hG8,hG9_0,hG9_1,hG9_2,oc]) rfl) ⟨rfl,rfl⟩ rfl rfl rfl ?_;refine zn (fuel:=0) (ds':=⟨#[true,true,true,true,true,true,true,true,true,true,true,true,true],false,false,false⟩) zu [(11,0),(12,2)] (by kernel_rfl) rfl (by simp only [hG8,hG9_0,hG9_1,hG9_2,oc]) ?_;refine zt (by kernel_rfl) ?_;exact ⟨rfl,Wk.pick [2,3,4,5,6,7,13,14,15,31,32] [3,12,25] rfl rfl⟩
      obtain ⟨hG7,h⟩:=zw h;refine zq<|zj zu rfl (by simp only [hG7,oc]) ?_
      refine ⟨(n,_,_),h,Nat.lt_succ_self _,(Wk.pick [32,2,3,4,5,6,7,13,14,15,31] [25,3,12] rfl rfl)⟩
     refine zr ?_;exact ⟨_,(Option.some.inj h).symm,(Wk.pick [2,3,4,6,7,13,14,15] [3,12,25] rfl rfl)⟩
    ·rintro _ rfl
     have h:=hk4;refine zv<|zv ?_
     obtain ⟨r10,hr10,h⟩:=bd h;refine zq<|zf zu rfl rfl<|zg (w_stneeds _  r10 hr10) rfl ⟨rfl,rfl⟩ rfl Tryd.func25 rfl rfl rfl rfl rfl rfl<|zj zu rfl rfl ?_
     obtain ⟨o11,ho11,hk11⟩:=bd h;refine zB (fun o11:T3=>⟨[(2,.a (.c (.sl 12))),(3,.a (.c (.sl 3))),(4,.a (.c (.val (.int .i64 v2_0)))),(7,.a (.c (.val (.int .i64 r3)))),(13,.a (.c (.lst G0 a0 c0))),(14,.a (.c (.val (.int .i64 (a0.length:Int))))),(15,.a (.c (.val (.int .i64 v2_1))))],[(3,.row 3 (.int .i64) o11 none),(12,.hrow 30 qr v2_3 (some (a0.length:Int).toNat) v2_1.toNat 25),(25,.row 39 qr o4 (some r3.toNat))]⟩) (fun o'=>o11=o') ?_ ?_
     ·have h:=ho11
      refine zc<|zb (Wk.pick [50,2,3,4,7,13,14,15,49] [3,12,25] rfl rfl)<|zm (fun y:Nat×Int×T3=>[(50,.a (.c (.val (.int .i64 y.2.1))))]) (fun y:Nat×Int×T3=>[(3,.row 3 (.int .i64) y.2.2 none)]) (fun y:Nat×Int×T3=>qO v2_0 r3 r10 y.1 y.2.1 y.2.2=some o11) (fun y:Nat×Int×T3=>y.1) (zC,(0:Int),v2_2) h ?_
      rintro ⟨n,v12_0,v12_1⟩ h;replace h:qO v2_0 r3 r10 n v12_0 v12_1=some o11:=h
      rcases n with _ | n
      · cases (show (none:Option _)=some _ from h)
      rw [qO] at h
      try dsimp only
      refine zv<|zq<|zj zu rfl rfl<|zv ?_
      revert h
      refine xC rfl rfl (fun hc h=>?_) (fun hc h=>?_)
      ·refine za<|zv<|zc<|zv<|zq<|zj zu rfl rfl ?_
       obtain ⟨hG14,h⟩:=zw h;simp only [Bool.and_eq_true] at hG14;obtain ⟨⟨hG14_0,hG14_1⟩,hG14_2⟩:=hG14;refine zq<|zj zu rfl (by simp only [hG14_0,hG14_1,hG14_2,oc]) ?_
       obtain ⟨hG13,h⟩:=zw h;refine zq<|zj zu rfl (by simp only [hG13,oc]) ?_
       refine ⟨(n,_,_),h,Nat.lt_succ_self _,(Wk.pick [50,2,3,4,7,13,14,15,49] [3,12,25] rfl rfl)⟩
      refine zr ?_;exact ⟨_,(Option.some.inj h).symm,(Wk.pick [2,3,4,7,13,14,15] [3,12,25] rfl rfl)⟩
     ·rintro _ rfl
      have h:=hk11;obtain ⟨hG16,h⟩:=zw h;refine zq<|zj zu rfl (by simp only [hG16,oc]) ?_
      obtain ⟨hG15,h⟩:=zw h;refine zq<|zj zu rfl (by simp only [hG15,oc]) ?_
      refine ⟨(n,_,_,_,_),h,Nat.lt_succ_self _,(Wk.trans (Wk.frz (id:=25) rfl) (Wk.pick [4,15,2,3,13,14] [3,12] rfl rfl))⟩
   refine zr ?_;exact ⟨_,(Option.some.inj h).symm,(Wk.pick [2,3] [3,12] rfl rfl)⟩
  ·rintro _ rfl
   have h:=hk1;refine zv<|zq<|zj zu rfl rfl ?_
   cases h;exact zd ⟨_,(Wk.trans (Wk.frz (id:=12) rfl) (Wk.pick [2,3] [3] rfl rfl)),_,_,rfl,rfl,rfl,rfl⟩
end Go.Proofs.YtihcolehefloeaaDoor

/- Cables: models. -/
namespace Go.Proofs.YtihcolehefloeaaDoor
set_option linter.unusedSimpArgs false
set_option linter.unusedVariables false
open Go.RowKit
def zZ (a0:T3) (a1:Int) (a2:Int) (a3:Int):Nat→Int→T3→Option (T3)
  | 0,_,_=>none
  | n+1,v3_0,v3_1=>
    cond (decide (v3_0 < (a2+a3))) (gd ((zk (a1+v3_0))&&(zk ((a0.getD a1.toNat 0)+v3_0))&&(zi (a1+v3_0) v3_1.length)&&(decide ((a1+v3_0).toNat < v3_1.length))) <|
    gd ((zk (v3_0+(1:Int)))) <|
    zZ a0 a1 a2 a3 n (v3_0+(1:Int)) (v3_1.set (a1+v3_0).toNat ((a0.getD a1.toNat 0)+v3_0))) (some v3_1)
def zY (a0:T3):Nat→Int→Int→T3→Option (Int×T3)
  | 0,_,_,_=>none
  | n+1,v7_0,v7_1,v7_2=>
    cond (decide (v7_0 < (a0.length:Int))) (gd ((zi v7_0 a0.length)) <|
    Option.bind (m_lbk (a0.getD v7_0.toNat 0) v7_1) fun r8=>
    gd ((zi v7_0 v7_2.length)&&(decide (v7_0.toNat < v7_2.length))) <|
    gd ((zk (v7_0+(1:Int)))) <|
    zY a0 n (v7_0+(1:Int)) r8.2 (v7_2.set v7_0.toNat r8.1)) (some (v7_1,v7_2))
def zT (a0:T3) (a1:Int) (a2:Int) (a3:Int):Nat→Int→T3→Option (T3)
  | 0,_,_=>none
  | n+1,v15_0,v15_1=>
    cond (decide (v15_0 < (a2+a3))) (gd ((zk (a1+v15_0))&&(zk ((a0.getD a1.toNat 0)+a2))&&(zk (((a0.getD a1.toNat 0)+a2)+v15_0))&&(zi (a1+v15_0) v15_1.length)&&(decide ((a1+v15_0).toNat < v15_1.length))) <|
    gd ((zk (v15_0+(1:Int)))) <|
    zT a0 a1 a2 a3 n (v15_0+(1:Int)) (v15_1.set (a1+v15_0).toNat (((a0.getD a1.toNat 0)+a2)+v15_0))) (some v15_1)
def m_leftbehind (a0:T3) (a1:Int) (a2:Int) (a3:Int):Option ((T3×(T3×(Int×T3)))×Bool):=
    gd ((zi a1 a0.length)) <|
    Option.bind (yk a0) fun r1=>
    gd ((zk (a2+a3))) <|
    gd ((zk (a2+a3))) <|
    Option.bind (zZ a0 a1 a2 a3 zC (0:Int) r1) fun o2=>
    gd ((zk ((2:Int) * a2))&&(zk ((a0.getD a1.toNat 0)+((2:Int) * a2)))&&(zk (((a0.getD a1.toNat 0)+((2:Int) * a2))+a3))) <|
    gd ((zk (a1+a2))&&(zk ((a1+a2)+a3))) <|
    Option.bind (zY a0 zC ((a1+a2)+a3) (((a0.getD a1.toNat 0)+((2:Int) * a2))+a3) o2) fun o6=>
    gd ((zk (a1+a2))&&(decide (0≤a1))&&(decide (a1≤(a1+a2)))&&(decide ((a1+a2)≤(o6.2.length:Int)))) <|
    Option.bind (yk ((o6.2.take (a1+a2).toNat).drop a1.toNat)) fun r12=>
    Option.bind (yk o6.2) fun r13=>
    gd ((zk (a2+a3))) <|
    Option.bind (zT a0 a1 a2 a3 zC (0:Int) r13) fun o14=>
    gd ((zk (o6.1 - (1:Int)))) <|
    some ((o6.2,(r12,((a2+a3),o14))),(decide ((o6.1 - (1:Int))≤(40:Int))))
theorem w_leftbehind (a0:T3) (a1:Int) (a2:Int) (a3:Int) (c0:Option Nat) (r:((T3×(T3×(Int×T3)))×Bool)) (h:m_leftbehind a0 a1 a2 a3=some r):AC cx 33 [.c (.lst (.int .i64) a0 c0),.c (.val (.int .i64 a1)),.c (.val (.int .i64 a2)),.c (.val (.int .i64 a3))] [] (fun sv h=>sv=.tup [.agg [.lst (.int .i64) r.1.1 none,.lst (.int .i64) r.1.2.1 none,.val (.int .i64 r.1.2.2.1),.lst (.int .i64) r.1.2.2.2 none],.c (.val (.bool r.2))]∧h=[]):=by
  apply AC.forgetV
  unfold m_leftbehind at h;refine zp zu Tryd.func33 rfl Tryd.ntmps33 rfl rfl (res:=[.cell 8 90,.tmp 9]) rfl<|zv<|zq<|zj zu rfl rfl<|zv ?_
  obtain ⟨hG25,h⟩:=zw h;refine zq<|zj zu rfl (by simp only [hG25,oc]) ?_
  refine zv ?_;obtain ⟨r1,hr1,h⟩:=bd h;obtain ⟨hG24,h⟩:=zw h;refine zq<|zf zu rfl (by simp only [hG24,oc]) ?_
  refine qG [(5,22)] (w_clone _ c0 r1 hr1) rfl ⟨rfl,rfl⟩ rfl Tryd.func58 rfl rfl rfl (by simp only [hG24,oc]) rfl rfl PassH.nil ?_;rintro _ _ ⟨rfl,rfl⟩;refine ⟨_,_,rfl,rfl,?_⟩;refine zj zu rfl (by simp only [hG24,oc]) ?_;refine zv<|zv ?_
  obtain ⟨hG23,h⟩:=zw h;refine zq<|zj zu rfl (by simp only [hG23,oc]) ?_
  obtain ⟨o2,ho2,hk2⟩:=bd h;refine zB (fun o2:T3=>⟨[(0,.a (.c (.lst (.int .i64) a0 c0))),(1,.a (.c (.val (.int .i64 a1)))),(2,.a (.c (.val (.int .i64 a2)))),(3,.a (.c (.val (.int .i64 a3)))),(8,.a (.c (.ptr 8 0))),(10,.a (.c (.val (.int .i64 (a0.getD a1.toNat 0))))),(11,.a (.c (.ptr 11 0)))],[(8,.cells 90 [.val (.slice none 0 0),.val (.slice none 0 0),.val (.int .i64 (0:Int)),.val (.slice none 0 0)]),(11,.cells 90 [.sl 22,.val (.slice none 0 0),.val (.int .i64 (a2+a3)),.val (.slice none 0 0)]),(22,.row 3 (.int .i64) o2 none)]⟩) (fun o'=>o2=o') ?_ ?_
  ·have h:=ho2
   refine zc<|zb (Wk.pick [30,0,1,2,3,8,10,11,29] [22,8,11] rfl rfl)<|zm (fun y:Nat×Int×T3=>[(30,.a (.c (.val (.int .i64 y.2.1))))]) (fun y:Nat×Int×T3=>[(22,.row 3 (.int .i64) y.2.2 none)]) (fun y:Nat×Int×T3=>zZ a0 a1 a2 a3 y.1 y.2.1 y.2.2=some o2) (fun y:Nat×Int×T3=>y.1) (zC,(0:Int),r1) h ?_
   rintro ⟨n,v3_0,v3_1⟩ h;replace h:zZ a0 a1 a2 a3 n v3_0 v3_1=some o2:=h
   rcases n with _ | n
   · cases (show (none:Option _)=some _ from h)
   rw [zZ] at h
   try dsimp only
   refine zv<|zq<|zj zu rfl rfl<|zv ?_
   revert h
   refine xC rfl rfl (fun hc h=>?_) (fun hc h=>?_)
   ·refine za<|zv<|zc<|zv<|zq<|zj zu rfl rfl ?_
    obtain ⟨hG5,h⟩:=zw h;simp only [Bool.and_eq_true] at hG5;obtain ⟨⟨⟨hG5_0,hG5_1⟩,hG5_2⟩,hG5_3⟩:=hG5;refine zq<|zj zu rfl (by simp only [hG5_0,hG5_1,hG5_2,hG5_3,oc]) ?_
    obtain ⟨hG4,h⟩:=zw h;refine zq<|zj zu rfl (by simp only [hG4,oc]) ?_
    refine ⟨(n,_,_),h,Nat.lt_succ_self _,(Wk.pick [30,0,1,2,3,8,10,11,29] [22,8,11] rfl rfl)⟩
   refine zr ?_;exact ⟨_,(Option.some.inj h).symm,(Wk.pick [0,1,2,3,8,10,11] [8,11,22] rfl rfl)⟩
  ·rintro _ rfl
   have h:=hk2;refine zv ?_;obtain ⟨hG22,h⟩:=zw h;simp only [Bool.and_eq_true] at hG22;obtain ⟨⟨hG22_0,hG22_1⟩,hG22_2⟩:=hG22;refine zq<|zj zu rfl (by simp only [hG22_0,hG22_1,hG22_2,oc]) ?_
   refine zv<|zq<|zj zu rfl rfl<|zv<|zv ?_
   obtain ⟨hG21,h⟩:=zw h;simp only [Bool.and_eq_true] at hG21;obtain ⟨hG21_0,hG21_1⟩:=hG21;refine zq<|zj zu rfl (by simp only [hG21_0,hG21_1,oc]) ?_
   obtain ⟨o6,ho6,hk6⟩:=bd h;refine zB (fun o6:Int×T3=>⟨[(1,.a (.c (.val (.int .i64 a1)))),(2,.a (.c (.val (.int .i64 a2)))),(3,.a (.c (.val (.int .i64 a3)))),(8,.a (.c (.ptr 8 0))),(10,.a (.c (.val (.int .i64 (a0.getD a1.toNat 0))))),(11,.a (.c (.ptr 11 0))),(13,.a (.c (.ptr 13 0)))],[(8,.cells 90 [.val (.slice none 0 0),.val (.slice none 0 0),.val (.int .i64 (0:Int)),.val (.slice none 0 0)]),(11,.cells 90 [.sl 22,.val (.slice none 0 0),.val (.int .i64 (a2+a3)),.val (.slice none 0 0)]),(13,.cells 3 [.val (.int .i64 o6.1)]),(22,.row 3 (.int .i64) o6.2 none)]⟩) (fun o'=>o6=o') ?_ ?_
   ·have h:=ho6
    refine zc<|zb (Wk.pick [15,0,1,2,3,8,10,11,13,14] [13,22,8,11] rfl rfl)<|zm (fun y:Nat×Int×Int×T3=>[(15,.a (.c (.val (.int .i64 y.2.1))))]) (fun y:Nat×Int×Int×T3=>[(13,.cells 3 [.val (.int .i64 y.2.2.1)]),(22,.row 3 (.int .i64) y.2.2.2 none)]) (fun y:Nat×Int×Int×T3=>zY a0 y.1 y.2.1 y.2.2.1 y.2.2.2=some o6) (fun y:Nat×Int×Int×T3=>y.1) (zC,((a1+a2)+a3),(((a0.getD a1.toNat 0)+((2:Int) * a2))+a3),o2) h ?_
    rintro ⟨n,v7_0,v7_1,v7_2⟩ h;replace h:zY a0 n v7_0 v7_1 v7_2=some o6:=h
    rcases n with _ | n
    · cases (show (none:Option _)=some _ from h)
    rw [zY] at h
    try dsimp only
    refine zv<|zv<|zq<|zj zu rfl rfl ?_
    revert h
    refine xC rfl rfl (fun hc h=>?_) (fun hc h=>?_)
    ·refine za<|zv<|zc ?_
     obtain ⟨hG10,h⟩:=zw h;obtain ⟨r8,hr8,h⟩:=bd h;obtain ⟨hG11,h⟩:=zw h;simp only [Bool.and_eq_true] at hG11;obtain ⟨hG11_0,hG11_1⟩:=hG11
     apply ax_cut
     ·
       refine zH [] (by kernel_rfl) rfl (N:=11)<|zn (fuel:=4) (ds':=⟨#[true,false,true,true,true,true,true,true,false,false,false],true,true,true⟩) zu [(0,0),(2,0),(3,0),(4,0),(5,0),(6,0),(7,1)] (by kernel_rfl) rfl (by simp only [hG10,hG11_0,hG11_1,oc]) ?_
       refine zl (by kernel_rfl) (zh (i:=1) ?_ (zh (i:=8) ?_ zo))
       ·
         refine xD zu (i:=1) rfl rfl rfl (by simp only [hG10,hG11_0,hG11_1,oc]) rfl ?_;refine zl (by kernel_rfl) (zh (i:=8) ?_ zo);refine zN rfl<|yD (i:=8) (listed':=#[true,true,true,true,true,true,true,true,true,false,false]) (pre':=false) [(1000000,13)] (w_lbk _ _  r8 hr8) rfl rfl rfl rfl ⟨rfl,rfl⟩ rfl rfl Tryd.func62 rfl rfl rfl (by simp only [hG10,hG11_0,hG11_1,oc]) rfl rfl (PassH.cons rfl rfl rfl PassH.nil) ?_
         rintro _ _ ⟨rfl,rfl⟩;refine ⟨_,_,rfl,rfl,?_⟩;refine zn (fuel:=0) (ds':=⟨#[true,true,true,true,true,true,true,true,true,true,true],false,false,false⟩) zu [(9,0),(10,2)] (by kernel_rfl) rfl (by simp only [hG10,hG11_0,hG11_1,oc]) ?_;refine zt (by kernel_rfl) ?_;exact ⟨rfl,Wk.pick [0,1,2,3,8,10,11,13,14,15] [8,11,13,22] rfl rfl⟩
       ·
         refine zN rfl<|yD (i:=8) (listed':=#[true,false,true,true,true,true,true,true,true,false,false]) (pre':=false) [(1000000,13)] (w_lbk _ _  r8 hr8) rfl rfl rfl rfl ⟨rfl,rfl⟩ rfl rfl Tryd.func62 rfl rfl rfl (by simp only [hG10,hG11_0,hG11_1,oc]) rfl rfl (PassH.cons rfl rfl rfl PassH.nil) ?_
         rintro _ _ ⟨rfl,rfl⟩;refine ⟨_,_,rfl,rfl,?_⟩;refine zn (fuel:=0) (ds':=⟨#[true,true,true,true,true,true,true,true,true,true,true],false,false,false⟩) zu [(1,2),(9,0),(10,2)] (by kernel_rfl) rfl (by simp only [hG10,hG11_0,hG11_1,oc]) ?_;refine zt (by kernel_rfl) ?_;exact ⟨rfl,Wk.pick [0,1,2,3,8,10,11,13,14,15] [8,11,13,22] rfl rfl⟩
     obtain ⟨hG9,h⟩:=zw h;refine zq<|zj zu rfl (by simp only [hG9,oc]) ?_
     refine ⟨(n,_,_,_),h,Nat.lt_succ_self _,(Wk.pick [15,0,1,2,3,8,10,11,13,14] [13,22,8,11] rfl rfl)⟩
    refine zr ?_;exact ⟨_,(Option.some.inj h).symm,(Wk.pick [1,2,3,8,10,11,13] [8,11,13,22] rfl rfl)⟩
   ·rintro _ rfl
    have h:=hk6;refine zv ?_;obtain ⟨hG20,h⟩:=zw h;simp only [Bool.and_eq_true] at hG20;obtain ⟨⟨⟨hG20_0,hG20_1⟩,hG20_2⟩,hG20_3⟩:=hG20;obtain ⟨r12,hr12,h⟩:=bd h;refine zq<|qf 6 zu rfl (by simp only [hG20_0,hG20_1,hG20_2,hG20_3,oc]) ?_
    refine xb (Wk.frz (id:=22) rfl)<|zf zu rfl (by simp only [hG20_0,hG20_1,hG20_2,hG20_3,oc]) ?_
    refine qG [(5,78)] (w_clone _ none r12 hr12) rfl ⟨rfl,rfl⟩ rfl Tryd.func58 rfl rfl rfl (by simp only [hG20_0,hG20_1,hG20_2,hG20_3,oc]) rfl rfl PassH.nil ?_;rintro _ _ ⟨rfl,rfl⟩;refine ⟨_,_,rfl,rfl,?_⟩;refine zj zu rfl (by simp only [hG20_0,hG20_1,hG20_2,hG20_3,oc]) ?_;refine zv ?_;obtain ⟨r13,hr13,h⟩:=bd h;refine zq<|zf zu rfl rfl<|qG [(5,82)] (w_clone _ none r13 hr13) rfl ⟨rfl,rfl⟩ rfl Tryd.func58 rfl rfl rfl rfl rfl rfl PassH.nil ?_
    rintro _ _ ⟨rfl,rfl⟩;refine ⟨_,_,rfl,rfl,?_⟩;refine zj zu rfl rfl<|zv<|zv ?_
    obtain ⟨hG19,h⟩:=zw h;refine zq<|zj zu rfl (by simp only [hG19,oc]) ?_
    obtain ⟨o14,ho14,hk14⟩:=bd h;refine zB (fun o14:T3=>⟨[(8,.a (.c (.ptr 8 0))),(11,.a (.c (.ptr 11 0))),(13,.a (.c (.ptr 13 0)))],[(8,.cells 90 [.val (.slice none 0 0),.val (.slice none 0 0),.val (.int .i64 (0:Int)),.val (.slice none 0 0)]),(11,.cells 90 [.lst (.int .i64) o6.2 none,.sl 78,.val (.int .i64 (a2+a3)),.sl 82]),(13,.cells 3 [.val (.int .i64 o6.1)]),(78,.row 3 (.int .i64) r12 none),(82,.row 3 (.int .i64) o14 none)]⟩) (fun o'=>o14=o') ?_ ?_
    ·have h:=ho14
     refine zc<|zb (Wk.pick [87,1,2,8,10,11,13,86] [82,8,11,13,78] rfl rfl)<|zm (fun y:Nat×Int×T3=>[(87,.a (.c (.val (.int .i64 y.2.1))))]) (fun y:Nat×Int×T3=>[(82,.row 3 (.int .i64) y.2.2 none)]) (fun y:Nat×Int×T3=>zT a0 a1 a2 a3 y.1 y.2.1 y.2.2=some o14) (fun y:Nat×Int×T3=>y.1) (zC,(0:Int),r13) h ?_
     rintro ⟨n,v15_0,v15_1⟩ h;replace h:zT a0 a1 a2 a3 n v15_0 v15_1=some o14:=h
     rcases n with _ | n
     · cases (show (none:Option _)=some _ from h)
     rw [zT] at h
     try dsimp only
     refine zv<|zq<|zj zu rfl rfl<|zv ?_
     revert h
     refine xC rfl rfl (fun hc h=>?_) (fun hc h=>?_)
     ·refine za<|zv<|zc<|zv<|zq<|zj zu rfl rfl ?_
      obtain ⟨hG17,h⟩:=zw h;simp only [Bool.and_eq_true] at hG17;obtain ⟨⟨⟨⟨hG17_0,hG17_1⟩,hG17_2⟩,hG17_3⟩,hG17_4⟩:=hG17;refine zq<|zj zu rfl (by simp only [hG17_0,hG17_1,hG17_2,hG17_3,hG17_4,oc]) ?_
      obtain ⟨hG16,h⟩:=zw h;refine zq<|zj zu rfl (by simp only [hG16,oc]) ?_
      refine ⟨(n,_,_),h,Nat.lt_succ_self _,(Wk.pick [87,1,2,8,10,11,13,86] [82,8,11,13,78] rfl rfl)⟩
     refine zr ?_;exact ⟨_,(Option.some.inj h).symm,(Wk.pick [8,11,13] [8,11,13,78,82] rfl rfl)⟩
    ·rintro _ rfl
     have h:=hk14;refine zv ?_;obtain ⟨hG18,h⟩:=zw h
     apply ax_cut
     ·
       refine zH [] (by kernel_rfl) rfl (N:=6)<|zl (by kernel_rfl) (zh (i:=0) ?_ (zh (i:=1) ?_ zo))
       ·
         refine xD zu (i:=0) rfl rfl rfl (by simp only [hG18,oc]) rfl ?_;refine zl (by kernel_rfl) (zh (i:=1) ?_ (zh (i:=4) ?_ zo))
         ·
           refine xD zu (i:=1) rfl rfl rfl (by simp only [hG18,oc]) rfl ?_;refine zn (fuel:=0) (ds':=⟨#[true,true,true,true,true,true],false,false,true⟩) zu [(2,0),(3,0),(4,2),(5,0)] (by kernel_rfl) rfl (by simp only [hG18,oc]) ?_;refine zt (by kernel_rfl) ?_;exact ⟨rfl,Wk.pick [8,9] [8,78,82] rfl rfl⟩
         ·
           refine xD zu (i:=4) rfl rfl rfl (by simp only [hG18,oc]) rfl ?_;refine zn (fuel:=0) (ds':=⟨#[true,true,true,true,true,true],false,false,true⟩) zu [(1,2),(2,0),(3,0),(5,0)] (by kernel_rfl) rfl (by simp only [hG18,oc]) ?_;refine zt (by kernel_rfl) ?_;exact ⟨rfl,Wk.pick [8,9] [8,78,82] rfl rfl⟩
       ·
         refine xD zu (i:=1) rfl rfl rfl (by simp only [hG18,oc]) rfl ?_;refine zn (fuel:=0) (ds':=⟨#[true,true,true,true,true,true],false,false,true⟩) zu [(2,0),(3,0),(0,2),(4,2),(5,0)] (by kernel_rfl) rfl (by simp only [hG18,oc]) ?_;refine zt (by kernel_rfl) ?_;exact ⟨rfl,Wk.pick [8,9] [8,78,82] rfl rfl⟩
     cases h;exact zd ⟨_,(Wk.trans (Wk.frz (id:=78) rfl) (Wk.trans (Wk.frz (id:=82) rfl) (Wk.pick [8,9] [8] rfl rfl))),_,_,rfl,rfl,rfl⟩
def zR (a0:T3) (a1:Int) (a2:Int) (a3:Int):Nat→Int→T3→Option (T3)
  | 0,_,_=>none
  | n+1,v3_0,v3_1=>
    cond (decide (v3_0 < (a2+a3))) (gd ((zk (a1+v3_0))&&(zk ((a0.getD (((a1+a2)+a3) - (1:Int)).toNat 0) - a2))&&(zk (((a0.getD (((a1+a2)+a3) - (1:Int)).toNat 0) - a2) - a3))&&(zk ((((a0.getD (((a1+a2)+a3) - (1:Int)).toNat 0) - a2) - a3)+(1:Int)))&&(zk (((((a0.getD (((a1+a2)+a3) - (1:Int)).toNat 0) - a2) - a3)+(1:Int))+v3_0))&&(zi (a1+v3_0) v3_1.length)&&(decide ((a1+v3_0).toNat < v3_1.length))) <|
    gd ((zk (v3_0+(1:Int)))) <|
    zR a0 a1 a2 a3 n (v3_0+(1:Int)) (v3_1.set (a1+v3_0).toNat (((((a0.getD (((a1+a2)+a3) - (1:Int)).toNat 0) - a2) - a3)+(1:Int))+v3_0))) (some v3_1)
def zQ (a0:T3):Nat→Int→Int→T3→Option (Int×T3)
  | 0,_,_,_=>none
  | n+1,v7_0,v7_1,v7_2=>
    cond (decide ((0:Int)≤v7_0)) (gd ((zi v7_0 a0.length)) <|
    Option.bind (m_lfk (a0.getD v7_0.toNat 0) v7_1) fun r8=>
    gd ((zi v7_0 v7_2.length)&&(decide (v7_0.toNat < v7_2.length))) <|
    gd ((zk (v7_0 - (1:Int)))) <|
    zQ a0 n (v7_0 - (1:Int)) r8.2 (v7_2.set v7_0.toNat r8.1)) (some (v7_1,v7_2))
def zM (a0:T3) (a1:Int) (a2:Int) (a3:Int):Nat→Int→T3→Option (T3)
  | 0,_,_=>none
  | n+1,v15_0,v15_1=>
    cond (decide (v15_0 < (a2+a3))) (gd ((zk (a1+v15_0))&&(zk ((a0.getD (((a1+a2)+a3) - (1:Int)).toNat 0) - a2))&&(zk ((2:Int) * a3))&&(zk (((a0.getD (((a1+a2)+a3) - (1:Int)).toNat 0) - a2) - ((2:Int) * a3)))&&(zk ((((a0.getD (((a1+a2)+a3) - (1:Int)).toNat 0) - a2) - ((2:Int) * a3))+(1:Int)))&&(zk (((((a0.getD (((a1+a2)+a3) - (1:Int)).toNat 0) - a2) - ((2:Int) * a3))+(1:Int))+v15_0))&&(zi (a1+v15_0) v15_1.length)&&(decide ((a1+v15_0).toNat < v15_1.length))) <|
    gd ((zk (v15_0+(1:Int)))) <|
    zM a0 a1 a2 a3 n (v15_0+(1:Int)) (v15_1.set (a1+v15_0).toNat (((((a0.getD (((a1+a2)+a3) - (1:Int)).toNat 0) - a2) - ((2:Int) * a3))+(1:Int))+v15_0))) (some v15_1)
def yf (a0:T3) (a1:Int) (a2:Int) (a3:Int):Option ((T3×(T3×(Int×T3)))×Bool):=
    gd ((zk (a1+a2))&&(zk ((a1+a2)+a3))&&(zk (((a1+a2)+a3) - (1:Int)))&&(zi (((a1+a2)+a3) - (1:Int)) a0.length)) <|
    Option.bind (yk a0) fun r1=>
    gd ((zk (a2+a3))&&(zk ((0:Int) - (a2+a3)))) <|
    gd ((zk (a2+a3))) <|
    Option.bind (zR a0 a1 a2 a3 zC (0:Int) r1) fun o2=>
    gd ((zk ((a0.getD (((a1+a2)+a3) - (1:Int)).toNat 0) - a2))&&(zk ((2:Int) * a3))&&(zk (((a0.getD (((a1+a2)+a3) - (1:Int)).toNat 0) - a2) - ((2:Int) * a3)))) <|
    gd ((zk (a1 - (1:Int)))) <|
    Option.bind (zQ a0 zC (a1 - (1:Int)) (((a0.getD (((a1+a2)+a3) - (1:Int)).toNat 0) - a2) - ((2:Int) * a3)) o2) fun o6=>
    gd ((zk (a1+a2))&&(zk ((a1+a2)+a3))&&(decide (0≤(a1+a2)))&&(decide ((a1+a2)≤((a1+a2)+a3)))&&(decide (((a1+a2)+a3)≤(o6.2.length:Int)))) <|
    Option.bind (yk ((o6.2.take ((a1+a2)+a3).toNat).drop (a1+a2).toNat)) fun r12=>
    Option.bind (yk o6.2) fun r13=>
    gd ((zk (a2+a3))) <|
    Option.bind (zM a0 a1 a2 a3 zC (0:Int) r13) fun o14=>
    gd ((zk (o6.1+(1:Int)))) <|
    some ((o6.2,(r12,(((0:Int) - (a2+a3)),o14))),(decide ((1:Int)≤(o6.1+(1:Int)))))
theorem w_leftinfront (a0:T3) (a1:Int) (a2:Int) (a3:Int) (c0:Option Nat) (r:((T3×(T3×(Int×T3)))×Bool)) (h:yf a0 a1 a2 a3=some r):AC cx 34 [.c (.lst (.int .i64) a0 c0),.c (.val (.int .i64 a1)),.c (.val (.int .i64 a2)),.c (.val (.int .i64 a3))] [] (fun sv h=>sv=.tup [.agg [.lst (.int .i64) r.1.1 none,.lst (.int .i64) r.1.2.1 none,.val (.int .i64 r.1.2.2.1),.lst (.int .i64) r.1.2.2.2 none],.c (.val (.bool r.2))]∧h=[]):=by
  apply AC.forgetV
  unfold yf at h;refine zp zu Tryd.func34 rfl Tryd.ntmps34 rfl rfl (res:=[.cell 8 90,.tmp 9]) rfl<|zv<|zq<|zj zu rfl rfl<|zv ?_
  obtain ⟨hG25,h⟩:=zw h;simp only [Bool.and_eq_true] at hG25;obtain ⟨⟨⟨hG25_0,hG25_1⟩,hG25_2⟩,hG25_3⟩:=hG25;refine zq<|zj zu rfl (by simp only [hG25_0,hG25_1,hG25_2,hG25_3,oc]) ?_
  refine zv ?_;obtain ⟨r1,hr1,h⟩:=bd h;obtain ⟨hG24,h⟩:=zw h;simp only [Bool.and_eq_true] at hG24;obtain ⟨hG24_0,hG24_1⟩:=hG24;refine zq<|zf zu rfl (by simp only [hG24_0,hG24_1,oc]) ?_
  refine qG [(5,27)] (w_clone _ c0 r1 hr1) rfl ⟨rfl,rfl⟩ rfl Tryd.func58 rfl rfl rfl (by simp only [hG24_0,hG24_1,oc]) rfl rfl PassH.nil ?_;rintro _ _ ⟨rfl,rfl⟩;refine ⟨_,_,rfl,rfl,?_⟩;refine zj zu rfl (by simp only [hG24_0,hG24_1,oc]) ?_;refine zv<|zv ?_
  obtain ⟨hG23,h⟩:=zw h;refine zq<|zj zu rfl (by simp only [hG23,oc]) ?_
  obtain ⟨o2,ho2,hk2⟩:=bd h;refine zB (fun o2:T3=>⟨[(0,.a (.c (.lst (.int .i64) a0 c0))),(1,.a (.c (.val (.int .i64 a1)))),(2,.a (.c (.val (.int .i64 a2)))),(3,.a (.c (.val (.int .i64 a3)))),(8,.a (.c (.ptr 8 0))),(10,.a (.c (.val (.int .i64 (a0.getD (((a1+a2)+a3) - (1:Int)).toNat 0))))),(11,.a (.c (.ptr 11 0)))],[(8,.cells 90 [.val (.slice none 0 0),.val (.slice none 0 0),.val (.int .i64 (0:Int)),.val (.slice none 0 0)]),(11,.cells 90 [.sl 27,.val (.slice none 0 0),.val (.int .i64 ((0:Int) - (a2+a3))),.val (.slice none 0 0)]),(27,.row 3 (.int .i64) o2 none)]⟩) (fun o'=>o2=o') ?_ ?_
  ·have h:=ho2
   refine zc<|zb (Wk.pick [36,0,1,2,3,8,10,11,35] [27,8,11] rfl rfl)<|zm (fun y:Nat×Int×T3=>[(36,.a (.c (.val (.int .i64 y.2.1))))]) (fun y:Nat×Int×T3=>[(27,.row 3 (.int .i64) y.2.2 none)]) (fun y:Nat×Int×T3=>zR a0 a1 a2 a3 y.1 y.2.1 y.2.2=some o2) (fun y:Nat×Int×T3=>y.1) (zC,(0:Int),r1) h ?_
   rintro ⟨n,v3_0,v3_1⟩ h;replace h:zR a0 a1 a2 a3 n v3_0 v3_1=some o2:=h
   rcases n with _ | n
   · cases (show (none:Option _)=some _ from h)
   rw [zR] at h
   try dsimp only
   refine zv<|zq<|zj zu rfl rfl<|zv ?_
   revert h
   refine xC rfl rfl (fun hc h=>?_) (fun hc h=>?_)
   ·refine za<|zv<|zc<|zv<|zq<|zj zu rfl rfl ?_
    obtain ⟨hG5,h⟩:=zw h;simp only [Bool.and_eq_true] at hG5;obtain ⟨⟨⟨⟨⟨⟨hG5_0,hG5_1⟩,hG5_2⟩,hG5_3⟩,hG5_4⟩,hG5_5⟩,hG5_6⟩:=hG5;refine zq<|zj zu rfl (by simp only [hG5_0,hG5_1,hG5_2,hG5_3,hG5_4,hG5_5,hG5_6,oc]) ?_
    obtain ⟨hG4,h⟩:=zw h;refine zq<|zj zu rfl (by simp only [hG4,oc]) ?_
    refine ⟨(n,_,_),h,Nat.lt_succ_self _,(Wk.pick [36,0,1,2,3,8,10,11,35] [27,8,11] rfl rfl)⟩
   refine zr ?_;exact ⟨_,(Option.some.inj h).symm,(Wk.pick [0,1,2,3,8,10,11] [8,11,27] rfl rfl)⟩
  ·rintro _ rfl
   have h:=hk2;refine zv ?_;obtain ⟨hG22,h⟩:=zw h;simp only [Bool.and_eq_true] at hG22;obtain ⟨⟨hG22_0,hG22_1⟩,hG22_2⟩:=hG22;refine zq<|zj zu rfl (by simp only [hG22_0,hG22_1,hG22_2,oc]) ?_
   refine zv<|zq<|zj zu rfl rfl<|zv<|zv ?_
   obtain ⟨hG21,h⟩:=zw h;refine zq<|zj zu rfl (by simp only [hG21,oc]) ?_
   obtain ⟨o6,ho6,hk6⟩:=bd h;refine zB (fun o6:Int×T3=>⟨[(1,.a (.c (.val (.int .i64 a1)))),(2,.a (.c (.val (.int .i64 a2)))),(3,.a (.c (.val (.int .i64 a3)))),(8,.a (.c (.ptr 8 0))),(10,.a (.c (.val (.int .i64 (a0.getD (((a1+a2)+a3) - (1:Int)).toNat 0))))),(11,.a (.c (.ptr 11 0))),(13,.a (.c (.ptr 13 0)))],[(8,.cells 90 [.val (.slice none 0 0),.val (.slice none 0 0),.val (.int .i64 (0:Int)),.val (.slice none 0 0)]),(11,.cells 90 [.sl 27,.val (.slice none 0 0),.val (.int .i64 ((0:Int) - (a2+a3))),.val (.slice none 0 0)]),(13,.cells 3 [.val (.int .i64 o6.1)]),(27,.row 3 (.int .i64) o6.2 none)]⟩) (fun o'=>o6=o') ?_ ?_
   ·have h:=ho6
    refine zc<|zb (Wk.pick [15,0,1,2,3,8,10,11,13,14] [13,27,8,11] rfl rfl)<|zm (fun y:Nat×Int×Int×T3=>[(15,.a (.c (.val (.int .i64 y.2.1))))]) (fun y:Nat×Int×Int×T3=>[(13,.cells 3 [.val (.int .i64 y.2.2.1)]),(27,.row 3 (.int .i64) y.2.2.2 none)]) (fun y:Nat×Int×Int×T3=>zQ a0 y.1 y.2.1 y.2.2.1 y.2.2.2=some o6) (fun y:Nat×Int×Int×T3=>y.1) (zC,(a1 - (1:Int)),(((a0.getD (((a1+a2)+a3) - (1:Int)).toNat 0) - a2) - ((2:Int) * a3)),o2) h ?_
    rintro ⟨n,v7_0,v7_1,v7_2⟩ h;replace h:zQ a0 n v7_0 v7_1 v7_2=some o6:=h
    rcases n with _ | n
    · cases (show (none:Option _)=some _ from h)
    rw [zQ] at h
    try dsimp only
    refine zv<|zv<|zq<|zj zu rfl rfl ?_
    revert h
    refine xC rfl rfl (fun hc h=>?_) (fun hc h=>?_)
    ·refine za<|zv<|zc ?_
     obtain ⟨hG10,h⟩:=zw h;obtain ⟨r8,hr8,h⟩:=bd h;obtain ⟨hG11,h⟩:=zw h;simp only [Bool.and_eq_true] at hG11;obtain ⟨hG11_0,hG11_1⟩:=hG11
     apply ax_cut
     ·
       refine zH [] (by kernel_rfl) rfl (N:=11)<|zn (fuel:=4) (ds':=⟨#[true,false,true,true,true,true,true,true,false,false,false],true,true,true⟩) zu [(0,0),(2,0),(3,0),(4,0),(5,0),(6,0),(7,1)] (by kernel_rfl) rfl (by simp only [hG10,hG11_0,hG11_1,oc]) ?_
       refine zl (by kernel_rfl) (zh (i:=1) ?_ (zh (i:=8) ?_ zo))
       ·
         refine xD zu (i:=1) rfl rfl rfl (by simp only [hG10,hG11_0,hG11_1,oc]) rfl ?_;refine zl (by kernel_rfl) (zh (i:=8) ?_ zo);refine zN rfl<|yD (i:=8) (listed':=#[true,true,true,true,true,true,true,true,true,false,false]) (pre':=false) [(1000000,13)] (w_lfk _ _  r8 hr8) rfl rfl rfl rfl ⟨rfl,rfl⟩ rfl rfl Tryd.func63 rfl rfl rfl (by simp only [hG10,hG11_0,hG11_1,oc]) rfl rfl (PassH.cons rfl rfl rfl PassH.nil) ?_
         rintro _ _ ⟨rfl,rfl⟩;refine ⟨_,_,rfl,rfl,?_⟩;refine zn (fuel:=0) (ds':=⟨#[true,true,true,true,true,true,true,true,true,true,true],false,false,false⟩) zu [(9,0),(10,2)] (by kernel_rfl) rfl (by simp only [hG10,hG11_0,hG11_1,oc]) ?_;refine zt (by kernel_rfl) ?_;exact ⟨rfl,Wk.pick [0,1,2,3,8,10,11,13,14,15] [8,11,13,27] rfl rfl⟩
       ·
         refine zN rfl<|yD (i:=8) (listed':=#[true,false,true,true,true,true,true,true,true,false,false]) (pre':=false) [(1000000,13)] (w_lfk _ _  r8 hr8) rfl rfl rfl rfl ⟨rfl,rfl⟩ rfl rfl Tryd.func63 rfl rfl rfl (by simp only [hG10,hG11_0,hG11_1,oc]) rfl rfl (PassH.cons rfl rfl rfl PassH.nil) ?_
         rintro _ _ ⟨rfl,rfl⟩;refine ⟨_,_,rfl,rfl,?_⟩;refine zn (fuel:=0) (ds':=⟨#[true,true,true,true,true,true,true,true,true,true,true],false,false,false⟩) zu [(1,2),(9,0),(10,2)] (by kernel_rfl) rfl (by simp only [hG10,hG11_0,hG11_1,oc]) ?_;refine zt (by kernel_rfl) ?_;exact ⟨rfl,Wk.pick [0,1,2,3,8,10,11,13,14,15] [8,11,13,27] rfl rfl⟩
     obtain ⟨hG9,h⟩:=zw h;refine zq<|zj zu rfl (by simp only [hG9,oc]) ?_
     refine ⟨(n,_,_,_),h,Nat.lt_succ_self _,(Wk.pick [15,0,1,2,3,8,10,11,13,14] [13,27,8,11] rfl rfl)⟩
    refine zr ?_;exact ⟨_,(Option.some.inj h).symm,(Wk.pick [1,2,3,8,10,11,13] [8,11,13,27] rfl rfl)⟩
   ·rintro _ rfl
    have h:=hk6;refine zv ?_;obtain ⟨hG20,h⟩:=zw h;simp only [Bool.and_eq_true] at hG20;obtain ⟨⟨⟨⟨hG20_0,hG20_1⟩,hG20_2⟩,hG20_3⟩,hG20_4⟩:=hG20;obtain ⟨r12,hr12,h⟩:=bd h;refine zq<|qf 10 zu rfl (by simp only [hG20_0,hG20_1,hG20_2,hG20_3,hG20_4,oc]) ?_
    refine xb (Wk.frz (id:=27) rfl)<|zf zu rfl (by simp only [hG20_0,hG20_1,hG20_2,hG20_3,hG20_4,oc]) ?_
    refine qG [(5,88)] (w_clone _ none r12 hr12) rfl ⟨rfl,rfl⟩ rfl Tryd.func58 rfl rfl rfl (by simp only [hG20_0,hG20_1,hG20_2,hG20_3,hG20_4,oc]) rfl rfl PassH.nil ?_;rintro _ _ ⟨rfl,rfl⟩;refine ⟨_,_,rfl,rfl,?_⟩;refine zj zu rfl (by simp only [hG20_0,hG20_1,hG20_2,hG20_3,hG20_4,oc]) ?_;refine zv ?_;obtain ⟨r13,hr13,h⟩:=bd h;refine zq<|zf zu rfl rfl<|qG [(5,92)] (w_clone _ none r13 hr13) rfl ⟨rfl,rfl⟩ rfl Tryd.func58 rfl rfl rfl rfl rfl rfl PassH.nil ?_
    rintro _ _ ⟨rfl,rfl⟩;refine ⟨_,_,rfl,rfl,?_⟩;refine zj zu rfl rfl<|zv<|zv ?_
    obtain ⟨hG19,h⟩:=zw h;refine zq<|zj zu rfl (by simp only [hG19,oc]) ?_
    obtain ⟨o14,ho14,hk14⟩:=bd h;refine zB (fun o14:T3=>⟨[(8,.a (.c (.ptr 8 0))),(11,.a (.c (.ptr 11 0))),(13,.a (.c (.ptr 13 0)))],[(8,.cells 90 [.val (.slice none 0 0),.val (.slice none 0 0),.val (.int .i64 (0:Int)),.val (.slice none 0 0)]),(11,.cells 90 [.lst (.int .i64) o6.2 none,.sl 88,.val (.int .i64 ((0:Int) - (a2+a3))),.sl 92]),(13,.cells 3 [.val (.int .i64 o6.1)]),(88,.row 3 (.int .i64) r12 none),(92,.row 3 (.int .i64) o14 none)]⟩) (fun o'=>o14=o') ?_ ?_
    ·have h:=ho14
     refine zc<|zb (Wk.pick [97,1,2,3,8,10,11,13,96] [92,8,11,13,88] rfl rfl)<|zm (fun y:Nat×Int×T3=>[(97,.a (.c (.val (.int .i64 y.2.1))))]) (fun y:Nat×Int×T3=>[(92,.row 3 (.int .i64) y.2.2 none)]) (fun y:Nat×Int×T3=>zM a0 a1 a2 a3 y.1 y.2.1 y.2.2=some o14) (fun y:Nat×Int×T3=>y.1) (zC,(0:Int),r13) h ?_
     rintro ⟨n,v15_0,v15_1⟩ h;replace h:zM a0 a1 a2 a3 n v15_0 v15_1=some o14:=h
     rcases n with _ | n
     · cases (show (none:Option _)=some _ from h)
     rw [zM] at h
     try dsimp only
     refine zv<|zq<|zj zu rfl rfl<|zv ?_
     revert h
     refine xC rfl rfl (fun hc h=>?_) (fun hc h=>?_)
     ·refine za<|zv<|zc<|zv<|zq<|zj zu rfl rfl ?_
      obtain ⟨hG17,h⟩:=zw h;simp only [Bool.and_eq_true] at hG17;obtain ⟨⟨⟨⟨⟨⟨⟨hG17_0,hG17_1⟩,hG17_2⟩,hG17_3⟩,hG17_4⟩,hG17_5⟩,hG17_6⟩,hG17_7⟩:=hG17;refine zq<|zj zu rfl (by simp only [hG17_0,hG17_1,hG17_2,hG17_3,hG17_4,hG17_5,hG17_6,hG17_7,oc]) ?_
      obtain ⟨hG16,h⟩:=zw h;refine zq<|zj zu rfl (by simp only [hG16,oc]) ?_
      refine ⟨(n,_,_),h,Nat.lt_succ_self _,(Wk.pick [97,1,2,3,8,10,11,13,96] [92,8,11,13,88] rfl rfl)⟩
     refine zr ?_;exact ⟨_,(Option.some.inj h).symm,(Wk.pick [8,11,13] [8,11,13,88,92] rfl rfl)⟩
    ·rintro _ rfl
     have h:=hk14;refine zv ?_;obtain ⟨hG18,h⟩:=zw h
     apply ax_cut
     ·
       refine zH [] (by kernel_rfl) rfl (N:=6)<|zl (by kernel_rfl) (zh (i:=0) ?_ (zh (i:=1) ?_ zo))
       ·
         refine xD zu (i:=0) rfl rfl rfl (by simp only [hG18,oc]) rfl ?_;refine zl (by kernel_rfl) (zh (i:=1) ?_ (zh (i:=4) ?_ zo))
         ·
           refine xD zu (i:=1) rfl rfl rfl (by simp only [hG18,oc]) rfl ?_;refine zn (fuel:=0) (ds':=⟨#[true,true,true,true,true,true],false,false,true⟩) zu [(2,0),(3,0),(4,2),(5,0)] (by kernel_rfl) rfl (by simp only [hG18,oc]) ?_;refine zt (by kernel_rfl) ?_;exact ⟨rfl,Wk.pick [8,9] [8,88,92] rfl rfl⟩
         ·
           refine xD zu (i:=4) rfl rfl rfl (by simp only [hG18,oc]) rfl ?_;refine zn (fuel:=0) (ds':=⟨#[true,true,true,true,true,true],false,false,true⟩) zu [(1,2),(2,0),(3,0),(5,0)] (by kernel_rfl) rfl (by simp only [hG18,oc]) ?_;refine zt (by kernel_rfl) ?_;exact ⟨rfl,Wk.pick [8,9] [8,88,92] rfl rfl⟩
       ·
         refine xD zu (i:=1) rfl rfl rfl (by simp only [hG18,oc]) rfl ?_;refine zn (fuel:=0) (ds':=⟨#[true,true,true,true,true,true],false,false,true⟩) zu [(2,0),(3,0),(0,2),(4,2),(5,0)] (by kernel_rfl) rfl (by simp only [hG18,oc]) ?_;refine zt (by kernel_rfl) ?_;exact ⟨rfl,Wk.pick [8,9] [8,88,92] rfl rfl⟩
     cases h;exact zd ⟨_,(Wk.trans (Wk.frz (id:=88) rfl) (Wk.trans (Wk.frz (id:=92) rfl) (Wk.pick [8,9] [8] rfl rfl))),_,_,rfl,rfl,rfl⟩
end Go.Proofs.YtihcolehefloeaaDoor

/- Contracts over rows of the caller's own, in the form of tr.py. -/
namespace Go.Proofs.YtihcolehefloeaaDoor
set_option linter.unusedSimpArgs false
set_option linter.unusedVariables false
open Go.RowKit
theorem AC.weakVH {X:Cx} {f:FuncId} {args:List SA} {h0 h1:Hp} {sv sv':SV} (hV:∀ env B w v,VR env B w sv v→VR env B w sv' v) (h:AC X f args h0 (fun s h=>s=sv∧h=h1)):AC X f args h0 (fun s h=>s=sv'∧h=h1):=by
  intro B w0 env vs H W hg ha hh hs;refine (h B w0 env vs H W hg ha hh hs).mono ?_;rintro v w' ⟨env',B',w0',H',s,h',⟨rfl,rfl⟩,k1,k2,k3,k4,k5,k6,k7⟩;exact ⟨env',B',w0',H',sv',_,⟨rfl,rfl⟩,k1,k2,k3,hV _ _ _ _ k4,k5,k6,k7⟩
theorem shift_res (fr to:List Int) (env:Nat→Loc) (B:Nat→Prop) (w:World) (v:Value) (h:VR env B w (shiftR fr to) v):VR env B w (.tup [.c (.lst qp (planR fr to) (some (planR fr to).length)),.c (.val (.int .i64 (xX fr to)))]) v:=by
  have hn:∀ z:Int,VR env B w (.tup [.c (.val (.slice none 0 0)),.c (.val (.int .i64 z))]) v→VR env B w (.tup [.c (.lst qp [] (some 0)),.c (.val (.int .i64 z))]) v:=by
    rintro z ⟨vs,e,v1,r,e2,hv,hr⟩;exact ⟨vs,e,v1,r,e2,nil_lst hv,hr⟩
  unfold shiftR at h
  split at h
  · rename_i g
    have hs:xX fr to=1:=by rw [xX,if_pos g]
    rw [planR,hs,if_neg (by decide)];exact hn 1 h
  · rename_i g1
    split at h
    · rename_i g
      have hs:xX fr to=5:=by rw [xX,if_neg g1,if_pos g]
      rw [planR,hs,if_neg (by decide)];exact hn 5 h
    · rename_i g2
      split at h
      · rename_i g3
        have hs:xX fr to=1:=by rw [xX,if_neg g1,if_neg g2,if_pos g3]
        rw [planR,hs,if_neg (by decide)];exact hn 1 h
      · rename_i g3
        have hs:xX fr to=0:=by rw [xX,if_neg g1,if_neg g2,if_neg g3]
        rw [planR,hs,if_pos rfl];exact h
theorem w_shiftb (a0 a1:List Int) (c0 c1:Option Nat) (r:List zO×Int) (h:yj a0 a1=some r):AC cx 8 [.c (.lst (.int .i64) a0 c0),.c (.sl 2000000)] [(2000000,.row 3 (.int .i64) a1 c1)] (fun sv h=>sv=.tup [.c (.lst qp r.1 (some r.1.length)),.c (.val (.int .i64 r.2))]∧h=[(2000000,.row 3 (.int .i64) a1 c1)]):=by
  obtain ⟨hg,h⟩:=zw h;simp only [Bool.and_eq_true,decide_eq_true_eq] at hg;obtain rfl:=Option.some.inj h;exact AC.weakVH (shift_res a0 a1) (shift_own a0 a1 c0 c1 hg.1 hg.2)
def m_shiftb (a0 a1:List Int):Option T6:=yj a0 a1
end Go.Proofs.YtihcolehefloeaaDoor

/- Cables: crossing. -/
namespace Go.Proofs.YtihcolehefloeaaDoor
set_option linter.unusedSimpArgs false
set_option linter.unusedVariables false
open Go.RowKit
def qW (a0:Int) (a1:(T3×(T3×(Int×T3)))):Nat→Int→T4→Option (T4)
  | 0,_,_=>none
  | n+1,v2_0,v2_1=>
    cond (decide (v2_0 < (a1.2.1.length:Int))) (gd ((zi v2_0 a1.2.1.length)) <|
    gd ((ze 40 (v2_1.length+[((7:Int),((0:Int),((a0,(a1.2.1.getD v2_0.toNat 0)),((0:Int),(0:Int)))))].length))) <|
    gd ((zk (v2_0+(1:Int)))) <|
    qW a0 a1 n (v2_0+(1:Int)) (v2_1++[((7:Int),((0:Int),((a0,(a1.2.1.getD v2_0.toNat 0)),((0:Int),(0:Int)))))])) (some v2_1)
def m_crossT (a0:Int) (a1:(T3×(T3×(Int×T3)))) (a2:List zO):Option (T4):=
    Option.bind (qW a0 a1 zC (0:Int) a2) fun o1=>
    some o1
theorem w_crossT (a0:Int) (a1:(T3×(T3×(Int×T3)))) (a2:List zO) (r:(T4)) (h:m_crossT a0 a1 a2=some r):AC cx 35 [.c (.val (.int .u8 a0)),.c (.pel (.pair G2 (.pair G2 (.pair (.int .i64) G2))) a1 0),.c (.ptr 1000000 0)] [(1000000,.cells 41 [.sl 1000001]),(1000001,.lrow 45 qp a2)] (fun sv h=>sv=.tup []∧h=[(1000000,.cells 41 [.sl 1000001]),(1000001,.lrow 45 qp r)]):=by
  unfold m_crossT at h;refine zp zu Tryd.func35 rfl Tryd.ntmps35 rfl rfl (res:=[]) rfl<|zv<|zq<|zj zu rfl rfl ?_
  obtain ⟨o1,ho1,hk1⟩:=bd h;refine zB (fun o1:T4=>⟨[],[(1000000,.cells 41 [.sl 1000001]),(1000001,.lrow 45 qp o1)]⟩) (fun o'=>o1=o') ?_ ?_
  ·have h:=ho1
   refine zc<|zb (Wk.pick [9,0,2,7,8] [1000001,1000000] rfl rfl)<|zm (fun y:Nat×Int×T4=>[(9,.a (.c (.val (.int .i64 y.2.1))))]) (fun y:Nat×Int×T4=>[(1000001,.lrow 45 qp y.2.2)]) (fun y:Nat×Int×T4=>qW a0 a1 y.1 y.2.1 y.2.2=some o1) (fun y:Nat×Int×T4=>y.1) (zC,(0:Int),a2) h ?_
   rintro ⟨n,v2_0,v2_1⟩ h;replace h:qW a0 a1 n v2_0 v2_1=some o1:=h
   rcases n with _ | n
   · cases (show (none:Option _)=some _ from h)
   rw [qW] at h
   try dsimp only
   refine zv<|zq<|zj zu rfl rfl<|zv ?_
   revert h
   refine xC rfl rfl (fun hc h=>?_) (fun hc h=>?_)
   ·refine za<|zv<|zc<|zv ?_
    obtain ⟨hG5,h⟩:=zw h;refine zq<|zj zu rfl (by simp only [hG5,oc]) ?_
    obtain ⟨hG4,h⟩:=zw h;refine zq<|qf 6 zu rfl (by simp only [hG4,oc]) ?_
    refine xG zu rfl ⟨rfl,rfl⟩ rfl rfl rfl rfl rfl (by simp only [hG4,oc]) rfl (by simp only [hG4,oc]) rfl rfl rfl (by simp only [hG4,oc]) ?_;refine zj zu rfl (by simp only [hG4,oc]) ?_;obtain ⟨hG3,h⟩:=zw h;refine zq<|zj zu rfl (by simp only [hG3,oc]) ?_
    refine ⟨(n,_,_),h,Nat.lt_succ_self _,(Wk.pick [9,0,2,7,8] [1000001,1000000] rfl rfl)⟩
   refine zr ?_;exact ⟨_,(Option.some.inj h).symm,(Wk.pick [] [1000000,1000001] rfl rfl)⟩
  ·rintro _ rfl
   have h:=hk1;obtain rfl:=Option.some.inj h;refine ⟨_,(Wk.pick [] [1000000,1000001] rfl rfl),_,_,rfl,rfl,?_⟩;exact ⟨rfl,rfl⟩
def m_cross (a0:T3) (a1:Int) (a2:Int) (a3:Int) (a4:Bool):Option (T4×Int):=
    Option.bind (m_check a0) fun r1=>
    cond (!(decide (r1=(0:Int)))) (some (([]:List zO),r1)) (Option.bind (m_cbsizes a2 a3) fun r2=>
    cond (!(decide (r2=(0:Int)))) (some (([]:List zO),r2)) (gd ((!(!(decide (a1 < (0:Int)))) || (zk ((a0.length:Int) - a2)))&&(!(!(decide (a1 < (0:Int)))) || (zk (((a0.length:Int) - a2) - a3)))) <|
    cond (cond (decide (a1 < (0:Int))) true (decide ((((a0.length:Int) - a2) - a3) < a1))) (some (([]:List zO),(5:Int))) (cond a4 (Option.bind (yf a0 a1 a2 a3) fun r3=>
    cond (!r3.2) (some (([]:List zO),(15:Int))) (Option.bind (yj a0 r3.1.1) fun r4=>
    cond (!(decide (r4.2=(0:Int)))) (some (([]:List zO),(15:Int))) (Option.bind (m_crossT (0:Int) r3.1 r4.1) fun r5=>
    gd ((ze 40 (r5.length+[((3:Int),((0:Int),(((0:Int),(0:Int)),((0:Int),r3.1.2.2.1))))].length))) <|
    Option.bind (m_crossT (1:Int) r3.1 (r5++[((3:Int),((0:Int),(((0:Int),(0:Int)),((0:Int),r3.1.2.2.1))))])) fun r6=>
    gd ((ze 40 (r6.length+[((3:Int),((0:Int),(((0:Int),(0:Int)),((0:Int),(0:Int)))))].length))) <|
    Option.bind (yj r3.1.2.2.2 a0) fun r7=>
    cond (!(decide (r7.2=(0:Int)))) (some (([]:List zO),(15:Int))) (gd ((ze 40 ((r6++[((3:Int),((0:Int),(((0:Int),(0:Int)),((0:Int),(0:Int)))))]).length+r7.1.length))) <|
    Option.bind (m_clip ((r6++[((3:Int),((0:Int),(((0:Int),(0:Int)),((0:Int),(0:Int)))))])++r7.1)) fun r8=>
    some (r8,(0:Int)))))) (Option.bind (m_leftbehind a0 a1 a2 a3) fun r12=>
    cond (!r12.2) (some (([]:List zO),(15:Int))) (Option.bind (yj a0 r12.1.1) fun r13=>
    cond (!(decide (r13.2=(0:Int)))) (some (([]:List zO),(15:Int))) (Option.bind (m_crossT (0:Int) r12.1 r13.1) fun r14=>
    gd ((ze 40 (r14.length+[((3:Int),((0:Int),(((0:Int),(0:Int)),((0:Int),r12.1.2.2.1))))].length))) <|
    Option.bind (m_crossT (1:Int) r12.1 (r14++[((3:Int),((0:Int),(((0:Int),(0:Int)),((0:Int),r12.1.2.2.1))))])) fun r15=>
    gd ((ze 40 (r15.length+[((3:Int),((0:Int),(((0:Int),(0:Int)),((0:Int),(0:Int)))))].length))) <|
    Option.bind (yj r12.1.2.2.2 a0) fun r16=>
    cond (!(decide (r16.2=(0:Int)))) (some (([]:List zO),(15:Int))) (gd ((ze 40 ((r15++[((3:Int),((0:Int),(((0:Int),(0:Int)),((0:Int),(0:Int)))))]).length+r16.1.length))) <|
    Option.bind (m_clip ((r15++[((3:Int),((0:Int),(((0:Int),(0:Int)),((0:Int),(0:Int)))))])++r16.1)) fun r17=>
    some (r17,(0:Int)))))))))
theorem w_cross (a0:T3) (a1:Int) (a2:Int) (a3:Int) (a4:Bool) (c0:Option Nat) (r:(T4×Int)) (h:m_cross a0 a1 a2 a3 a4=some r):AC cx 9 [.c (.lst (.int .i64) a0 c0),.c (.val (.int .i64 a1)),.c (.val (.int .i64 a2)),.c (.val (.int .i64 a3)),.c (.val (.bool a4))] [] (fun sv h=>sv=.tup [.c (.lst qp r.1 (some r.1.length)),.c (.val (.int .i64 r.2))]∧h=[]):=by
  unfold m_cross at h;refine zp zu Tryd.func9 rfl Tryd.ntmps9 rfl rfl (res:=[.tmp 10,.tmp 11]) rfl<|zv<|zq<|zj zu rfl rfl<|zv<|zv ?_
  obtain ⟨r1,hr1,h⟩:=bd h;refine zq<|zf zu rfl rfl<|zg (w_check _ c0 r1 hr1) rfl ⟨rfl,rfl⟩ rfl Tryd.func26 rfl rfl rfl rfl rfl rfl<|zj zu rfl rfl<|zv<|zq<|zj zu rfl rfl ?_
  revert h
  refine xC rfl rfl (fun hc h=>?_) (fun hc h=>?_)
  ·refine zv<|zq<|zj zu rfl rfl ?_
   cases h;exact zd ⟨_,(Wk.trans (Wk.lst0 10 qp rfl) (Wk.pick [10,11] [] rfl rfl)),_,_,rfl,rfl,rfl,rfl⟩
  refine za<|zv<|zv ?_
  obtain ⟨r2,hr2,h⟩:=bd h;refine zq<|zf zu rfl rfl<|zg (w_cbsizes _ _  r2 hr2) rfl ⟨rfl,rfl⟩ rfl Tryd.func32 rfl rfl rfl rfl rfl rfl<|zj zu rfl rfl<|zv<|zq<|zj zu rfl rfl ?_
  revert h
  refine xC rfl rfl (fun hc h=>?_) (fun hc h=>?_)
  ·refine zv<|zq<|zj zu rfl rfl ?_
   cases h;exact zd ⟨_,(Wk.trans (Wk.lst0 10 qp rfl) (Wk.pick [10,11] [] rfl rfl)),_,_,rfl,rfl,rfl,rfl⟩
  refine za<|zv<|zv ?_
  obtain ⟨hG21,h⟩:=zw h;simp only [Bool.and_eq_true] at hG21;obtain ⟨hG21_0,hG21_1⟩:=hG21;refine zq<|zj zu rfl (by revert hG21_0 hG21_1; generalize (zk (((a0.length:Int) - a2) - a3))=b0; generalize (zk ((a0.length:Int) - a2))=b1; generalize (decide (a1 < (0:Int)))=b2; revert b0 b1 b2; decide) ?_
  revert h
  refine xC rfl rfl (fun hc h=>?_) (fun hc h=>?_)
  ·refine zv<|zq<|zj zu rfl rfl ?_
   cases h;exact zd ⟨_,(Wk.trans (Wk.lst0 10 qp rfl) (Wk.pick [10,11] [] rfl rfl)),_,_,rfl,rfl,rfl,rfl⟩
  refine za<|zv<|zq<|zj zu rfl rfl<|zv<|zv<|zq<|zj zu rfl rfl ?_
  revert h
  refine xC rfl rfl (fun hc h=>?_) (fun hc h=>?_)
  ·refine zq<|zj zu rfl rfl<|zv ?_
   obtain ⟨r3,hr3,h⟩:=bd h;refine zq<|zf zu rfl rfl<|xB [] (w_leftinfront _ _ _ _ c0 r3 hr3) rfl ⟨rfl,rfl⟩ rfl rfl Tryd.func34 rfl rfl rfl rfl rfl rfl PassH.nil ?_
   rintro _ _ ⟨rfl,rfl⟩;refine ⟨_,_,rfl,rfl,?_⟩;refine zj zu rfl rfl<|zb (Wk.frzC 15 (.pair G2 (.pair G2 (.pair (.int .i64) G2))) rfl rfl rfl)<|zv<|zv<|zq<|zj zu rfl rfl ?_
   revert h
   refine xC rfl rfl (fun hc h=>?_) (fun hc h=>?_)
   ·refine zv<|zq<|zj zu rfl rfl ?_
    cases h;exact zd ⟨_,(Wk.trans (Wk.lst0 10 qp rfl) (Wk.pick [10,11] [] rfl rfl)),_,_,rfl,rfl,rfl,rfl⟩
   refine za<|zv ?_
   obtain ⟨r4,hr4,h⟩:=bd h;refine zq<|zf zu rfl rfl<|zg (w_shift _ _ c0 none r4 hr4) rfl ⟨rfl,rfl⟩ rfl Tryd.func8 rfl rfl rfl rfl rfl rfl<|zj zu rfl rfl<|zv<|zv<|zq<|zj zu rfl rfl ?_
   revert h
   refine xC rfl rfl (fun hc h=>?_) (fun hc h=>?_)
   ·refine zv<|zq<|zj zu rfl rfl ?_
    cases h;exact zd ⟨_,(Wk.trans (Wk.lst0 10 qp rfl) (Wk.pick [10,11] [] rfl rfl)),_,_,rfl,rfl,rfl,rfl⟩
   refine za<|zv<|zq<|zj zu rfl rfl<|zv ?_
   obtain ⟨r5,hr5,h⟩:=bd h;refine zq<|zf zu rfl rfl<|xb (Wk.lfullC 17 0 24 45 rfl rfl rfl rfl rfl)<|xB [(1000000,17),(1000001,24)] (w_crossT _ _ _  r5 hr5) rfl ⟨rfl,rfl⟩ rfl rfl Tryd.func35 rfl rfl rfl rfl rfl rfl (PassH.cons rfl rfl rfl (PassH.cons rfl rfl rfl PassH.nil)) ?_
   rintro _ _ ⟨rfl,rfl⟩;refine ⟨_,_,rfl,rfl,?_⟩;refine zj zu rfl rfl<|zb (Wk.pick [0,15,17,19] [17,24] rfl rfl)<|zv ?_
   obtain ⟨hG11,h⟩:=zw h;refine zq<|qf 5 zu rfl (by simp only [hG11,oc]) ?_
   refine xG zu rfl ⟨rfl,rfl⟩ rfl rfl rfl rfl rfl (by simp only [hG11,oc]) rfl (by simp only [hG11,oc]) rfl rfl rfl (by simp only [hG11,oc]) ?_;refine zj zu rfl (by simp only [hG11,oc]) ?_;refine zb (Wk.pick [0,15,17,19] [17,24] rfl rfl)<|zv ?_
   obtain ⟨r6,hr6,h⟩:=bd h;refine zq<|zf zu rfl rfl<|xB [(1000000,17),(1000001,24)] (w_crossT _ _ _  r6 hr6) rfl ⟨rfl,rfl⟩ rfl rfl Tryd.func35 rfl rfl rfl rfl rfl rfl (PassH.cons rfl rfl rfl (PassH.cons rfl rfl rfl PassH.nil)) ?_
   rintro _ _ ⟨rfl,rfl⟩;refine ⟨_,_,rfl,rfl,?_⟩;refine zj zu rfl rfl<|zb (Wk.pick [0,15,17] [17,24] rfl rfl)<|zv ?_
   obtain ⟨hG10,h⟩:=zw h;refine zq<|qf 3 zu rfl (by simp only [hG10,oc]) ?_
   refine xG zu rfl ⟨rfl,rfl⟩ rfl rfl rfl rfl rfl (by simp only [hG10,oc]) rfl (by simp only [hG10,oc]) rfl rfl rfl (by simp only [hG10,oc]) ?_;refine zj zu rfl (by simp only [hG10,oc]) ?_;refine zb (Wk.pick [0,15,17] [17,24] rfl rfl)<|zv ?_
   obtain ⟨r7,hr7,h⟩:=bd h;refine zq<|zf zu rfl rfl<|zg (w_shift _ _ none c0 r7 hr7) rfl ⟨rfl,rfl⟩ rfl Tryd.func8 rfl rfl rfl rfl rfl rfl<|zj zu rfl rfl<|zv<|zv<|zq<|zj zu rfl rfl ?_
   revert h
   refine xC rfl rfl (fun hc h=>?_) (fun hc h=>?_)
   ·refine zv<|zq<|zj zu rfl rfl ?_
    cases h;exact zd ⟨_,(Wk.trans (Wk.lst0 10 qp rfl) (Wk.pick [10,11] [] rfl rfl)),_,_,rfl,rfl,rfl,rfl⟩
   refine za<|zv ?_
   obtain ⟨hG9,h⟩:=zw h;obtain ⟨r8,hr8,h⟩:=bd h;refine zq<|qf 2 zu rfl (by simp only [hG9,oc]) ?_
   refine xG zu rfl ⟨rfl,rfl⟩ rfl rfl rfl rfl rfl (by simp only [hG9,oc]) rfl (by simp only [hG9,oc]) rfl rfl rfl (by simp only [hG9,oc]) ?_;refine xb (Wk.frzL (id:=24) rfl)<|zg (w_clip _ none r8 hr8) rfl ⟨rfl,rfl⟩ rfl Tryd.func31 rfl rfl rfl (by simp only [hG9,oc]) rfl rfl ?_
   refine zj zu rfl (by simp only [hG9,oc]) ?_;refine zb (Wk.pick [10,11] [] rfl rfl) ?_;cases h;exact zd ⟨_,(Wk.pick [10,11] [] rfl rfl),_,_,rfl,rfl,rfl,rfl⟩
  refine za<|zv ?_
  obtain ⟨r12,hr12,h⟩:=bd h;refine zq<|zf zu rfl rfl<|xB [] (w_leftbehind _ _ _ _ c0 r12 hr12) rfl ⟨rfl,rfl⟩ rfl rfl Tryd.func33 rfl rfl rfl rfl rfl rfl PassH.nil ?_
  rintro _ _ ⟨rfl,rfl⟩;refine ⟨_,_,rfl,rfl,?_⟩;refine zj zu rfl rfl<|zb (Wk.frzC 15 (.pair G2 (.pair G2 (.pair (.int .i64) G2))) rfl rfl rfl)<|zv<|zv<|zq<|zj zu rfl rfl ?_
  revert h
  refine xC rfl rfl (fun hc h=>?_) (fun hc h=>?_)
  ·refine zv<|zq<|zj zu rfl rfl ?_
   cases h;exact zd ⟨_,(Wk.trans (Wk.lst0 10 qp rfl) (Wk.pick [10,11] [] rfl rfl)),_,_,rfl,rfl,rfl,rfl⟩
  refine za<|zv ?_
  obtain ⟨r13,hr13,h⟩:=bd h;refine zq<|zf zu rfl rfl<|zg (w_shift _ _ c0 none r13 hr13) rfl ⟨rfl,rfl⟩ rfl Tryd.func8 rfl rfl rfl rfl rfl rfl<|zj zu rfl rfl<|zv<|zv<|zq<|zj zu rfl rfl ?_
  revert h
  refine xC rfl rfl (fun hc h=>?_) (fun hc h=>?_)
  ·refine zv<|zq<|zj zu rfl rfl ?_
   cases h;exact zd ⟨_,(Wk.trans (Wk.lst0 10 qp rfl) (Wk.pick [10,11] [] rfl rfl)),_,_,rfl,rfl,rfl,rfl⟩
  refine za<|zv<|zq<|zj zu rfl rfl<|zv ?_
  obtain ⟨r14,hr14,h⟩:=bd h;refine zq<|zf zu rfl rfl<|xb (Wk.lfullC 17 0 25 45 rfl rfl rfl rfl rfl)<|xB [(1000000,17),(1000001,25)] (w_crossT _ _ _  r14 hr14) rfl ⟨rfl,rfl⟩ rfl rfl Tryd.func35 rfl rfl rfl rfl rfl rfl (PassH.cons rfl rfl rfl (PassH.cons rfl rfl rfl PassH.nil)) ?_
  rintro _ _ ⟨rfl,rfl⟩;refine ⟨_,_,rfl,rfl,?_⟩;refine zj zu rfl rfl<|zb (Wk.pick [0,15,17,19] [17,25] rfl rfl)<|zv ?_
  obtain ⟨hG20,h⟩:=zw h;refine zq<|qf 5 zu rfl (by simp only [hG20,oc]) ?_
  refine xG zu rfl ⟨rfl,rfl⟩ rfl rfl rfl rfl rfl (by simp only [hG20,oc]) rfl (by simp only [hG20,oc]) rfl rfl rfl (by simp only [hG20,oc]) ?_;refine zj zu rfl (by simp only [hG20,oc]) ?_;refine zb (Wk.pick [0,15,17,19] [17,25] rfl rfl)<|zv ?_
  obtain ⟨r15,hr15,h⟩:=bd h;refine zq<|zf zu rfl rfl<|xB [(1000000,17),(1000001,25)] (w_crossT _ _ _  r15 hr15) rfl ⟨rfl,rfl⟩ rfl rfl Tryd.func35 rfl rfl rfl rfl rfl rfl (PassH.cons rfl rfl rfl (PassH.cons rfl rfl rfl PassH.nil)) ?_
  rintro _ _ ⟨rfl,rfl⟩;refine ⟨_,_,rfl,rfl,?_⟩;refine zj zu rfl rfl<|zb (Wk.pick [0,15,17] [17,25] rfl rfl)<|zv ?_
  obtain ⟨hG19,h⟩:=zw h;refine zq<|qf 3 zu rfl (by simp only [hG19,oc]) ?_
  refine xG zu rfl ⟨rfl,rfl⟩ rfl rfl rfl rfl rfl (by simp only [hG19,oc]) rfl (by simp only [hG19,oc]) rfl rfl rfl (by simp only [hG19,oc]) ?_;refine zj zu rfl (by simp only [hG19,oc]) ?_;refine zb (Wk.pick [0,15,17] [17,25] rfl rfl)<|zv ?_
  obtain ⟨r16,hr16,h⟩:=bd h;refine zq<|zf zu rfl rfl<|zg (w_shift _ _ none c0 r16 hr16) rfl ⟨rfl,rfl⟩ rfl Tryd.func8 rfl rfl rfl rfl rfl rfl<|zj zu rfl rfl<|zv<|zv<|zq<|zj zu rfl rfl ?_
  revert h
  refine xC rfl rfl (fun hc h=>?_) (fun hc h=>?_)
  ·refine zv<|zq<|zj zu rfl rfl ?_
   cases h;exact zd ⟨_,(Wk.trans (Wk.lst0 10 qp rfl) (Wk.pick [10,11] [] rfl rfl)),_,_,rfl,rfl,rfl,rfl⟩
  refine za<|zv ?_
  obtain ⟨hG18,h⟩:=zw h;obtain ⟨r17,hr17,h⟩:=bd h;refine zq<|qf 2 zu rfl (by simp only [hG18,oc]) ?_
  refine xG zu rfl ⟨rfl,rfl⟩ rfl rfl rfl rfl rfl (by simp only [hG18,oc]) rfl (by simp only [hG18,oc]) rfl rfl rfl (by simp only [hG18,oc]) ?_;refine xb (Wk.frzL (id:=25) rfl)<|zg (w_clip _ none r17 hr17) rfl ⟨rfl,rfl⟩ rfl Tryd.func31 rfl rfl rfl (by simp only [hG18,oc]) rfl rfl ?_
  refine zj zu rfl (by simp only [hG18,oc]) ?_;refine zb (Wk.pick [10,11] [] rfl rfl) ?_;cases h;exact zd ⟨_,(Wk.pick [10,11] [] rfl rfl),_,_,rfl,rfl,rfl,rfl⟩
end Go.Proofs.YtihcolehefloeaaDoor

/- Courses: preparing a row. -/
namespace Go.Proofs.YtihcolehefloeaaDoor
set_option linter.unusedSimpArgs false
set_option linter.unusedVariables false
open Go.RowKit
def qE (a0:(T1×T5)):Nat→Int→T3→Option (T3)
  | 0,_,_=>none
  | n+1,v7_0,v7_1=>
    cond (decide (v7_0 < (a0.1.length:Int))) (gd ((zi v7_0 a0.1.length)) <|
    gd ((zi v7_0 v7_1.length)&&(decide (v7_0.toNat < v7_1.length))) <|
    gd ((zk (v7_0+(1:Int)))) <|
    qE a0 n (v7_0+(1:Int)) (v7_1.set v7_0.toNat (a0.1.getD v7_0.toNat qr.zero).2)) (some v7_1)
def qu (a1:T0) (r4:(List T1)×Nat×T3) (r12:T3):Nat→Int→T4→Option ((T4)⊕(T4×(List T1)×Nat×Int))
  | 0,_,_=>none
  | n+1,v16_0,v16_1=>
    cond (decide (v16_0 < (a1.length:Int))) (gd ((zi v16_0 a1.length)) <|
    cond (!(decide ((a1.getD v16_0.toNat (0,(0,(0,(0,false))))).1=(8:Int)))) (gd ((zk (v16_0+(1:Int)))) <|
    qu a1 r4 r12 n (v16_0+(1:Int)) v16_1) (gd ((zi v16_0 r4.1.length)&&(zi (0:Int) (r4.1.getD v16_0.toNat []).length)) <|
    Option.bind (m_index r12 ((r4.1.getD v16_0.toNat []).getD (0:Int).toNat qr.zero).2) fun r18=>
    Option.bind (m_cross r12 r18 (a1.getD v16_0.toNat (0,(0,(0,(0,false))))).2.2.1 (a1.getD v16_0.toNat (0,(0,(0,(0,false))))).2.2.2.1 (a1.getD v16_0.toNat (0,(0,(0,(0,false))))).2.2.2.2) fun r19=>
    cond (!(decide (r19.2=(0:Int)))) (some (.inr (([]:List zO),([]:List T1),0,r19.2))) (gd ((ze 40 (v16_1.length+r19.1.length))) <|
    gd ((zk (v16_0+(1:Int)))) <|
    qu a1 r4 r12 n (v16_0+(1:Int)) (v16_1++r19.1)))) (some (.inl v16_1))
def qv (a1:T0) (r4:(List T1)×Nat×T3):Nat→Int→T4→Option (T4)
  | 0,_,_=>none
  | n+1,v25_0,v25_1=>
    cond (decide (v25_0 < (a1.length:Int))) (gd ((zi v25_0 a1.length)) <|
    Option.bind (m_stbed (a1.getD v25_0.toNat (0,(0,(0,(0,false)))))) fun r26=>
    cond (decide (r26=(1:Int))) (gd ((zi v25_0 r4.1.length)&&(zi (0:Int) (r4.1.getD v25_0.toNat []).length)&&(ze 40 (v25_1.length+[((7:Int),((0:Int),(((0:Int),((r4.1.getD v25_0.toNat []).getD (0:Int).toNat qr.zero).2),((0:Int),(0:Int)))))].length))) <|
    gd ((zk (v25_0+(1:Int)))) <|
    qv a1 r4 n (v25_0+(1:Int)) (v25_1++[((7:Int),((0:Int),(((0:Int),((r4.1.getD v25_0.toNat []).getD (0:Int).toNat qr.zero).2),((0:Int),(0:Int)))))])) (gd ((zk (v25_0+(1:Int)))) <|
    qv a1 r4 n (v25_0+(1:Int)) v25_1)) (some v25_1)
def m_prepare (a0:(T1×T5)) (a1:T0):Option (T4×(List T1)×Nat×Int):=
    Option.bind (m_cocheck a0) fun r1=>
    cond (!(decide (r1=(0:Int)))) (some (([]:List zO),([]:List T1),0,r1)) (Option.bind (m_chrow a1) fun r2=>
    cond (!(decide (r2=(0:Int)))) (some (([]:List zO),([]:List T1),0,r2)) (Option.bind (yw a1) fun r3=>
    cond (!(decide (r3=(a0.1.length:Int)))) (some (([]:List zO),([]:List T1),0,(14:Int))) (Option.bind (m_goals a1) fun r4=>
    Option.bind (m_front a0.1) fun r5=>
    cond (!(decide (r5.2=(0:Int)))) (some (([]:List zO),([]:List T1),0,r5.2)) (gd ((decide (0≤(a0.1.length:Int)))&&(decide ((8:Int) * (a0.1.length:Int)≤140737488355328))&&(decide ((a0.1.length:Int)≤140737488355328))) <|
    Option.bind (qE a0 zC (0:Int) (List.replicate (a0.1.length:Int).toNat (0:Int))) fun o6=>
    Option.bind (m_shiftb o6 r4.2.2) fun r11=>
    cond (!(decide (r11.2=(0:Int)))) (some (([]:List zO),([]:List T1),0,r11.2)) (gd ((ze 40 (r5.1.length+r11.1.length))) <|
    Option.bind (m_compact r4.2.2) fun r12=>
    Option.bind (qu a1 r4 r12 zC (0:Int) (r5.1++r11.1)) fun o15=>
    sm o15 (fun o15=>
    Option.bind (qv a1 r4 zC (0:Int) o15) fun o24=>
    Option.bind (m_clip o24) fun r31=>
    some (r31,r4.1,r4.2.1,(0:Int))) (fun q=>some q))))))
theorem w_prepare (a0:(T1×T5)) (a1:T0) (c0 c1:Option Nat) (r:(T4×(List T1)×Nat×Int)) (h:m_prepare a0 a1=some r):AC cx 17 [.agg [.lst qr a0.1 c0,.val (.int .u8 a0.2.1),.val (.int .u8 a0.2.2.1),.val (.int .u8 a0.2.2.2.1),.val (.int .u8 a0.2.2.2.2.1),.val (.int .u8 a0.2.2.2.2.2.1),.val (.int .u8 a0.2.2.2.2.2.2)],.c (.lst G0 a1 c1)] [] (fun sv h=>sv=.tup [.c (.lst qp r.1 (some r.1.length)),.c (.lst (.sl qr) r.2.1 (some r.2.2.1)),.c (.val (.int .i64 r.2.2.2))]∧h=[]):=by
  unfold m_prepare at h;refine zp zu Tryd.func17 rfl Tryd.ntmps17 rfl rfl (res:=[.tmp 4,.tmp 5,.tmp 6]) rfl<|zv<|zq<|zj zu rfl rfl<|zb (Wk.frzC 2 G3 rfl rfl rfl)<|zv<|zv ?_
  obtain ⟨r1,hr1,h⟩:=bd h;refine zq<|zf zu rfl rfl<|zg (w_cocheck _ none r1 hr1) rfl ⟨rfl,rfl⟩ rfl Tryd.func15 rfl rfl rfl rfl rfl rfl<|zj zu rfl rfl<|zv<|zq<|zj zu rfl rfl ?_
  revert h
  refine xC rfl rfl (fun hc h=>?_) (fun hc h=>?_)
  ·refine zv<|zq<|zj zu rfl rfl ?_
   cases h;exact zd ⟨_,(Wk.trans (Wk.lst0 4 qp rfl) (Wk.trans (Wk.lst0 5 (.sl qr) rfl) (Wk.pick [4,5,6] [] rfl rfl))),_,_,rfl,rfl,rfl,rfl⟩
  refine za<|zv<|zv ?_
  obtain ⟨r2,hr2,h⟩:=bd h;refine zq<|zf zu rfl rfl<|zg (w_chrow _ c1 r2 hr2) rfl ⟨rfl,rfl⟩ rfl Tryd.func16 rfl rfl rfl rfl rfl rfl<|zj zu rfl rfl<|zv<|zq<|zj zu rfl rfl ?_
  revert h
  refine xC rfl rfl (fun hc h=>?_) (fun hc h=>?_)
  ·refine zv<|zq<|zj zu rfl rfl ?_
   cases h;exact zd ⟨_,(Wk.trans (Wk.lst0 4 qp rfl) (Wk.trans (Wk.lst0 5 (.sl qr) rfl) (Wk.pick [4,5,6] [] rfl rfl))),_,_,rfl,rfl,rfl,rfl⟩
  refine za<|zv<|zv ?_
  obtain ⟨r3,hr3,h⟩:=bd h;refine zH [] (by kernel_rfl) rfl (N:=6)<|zn (fuel:=2) (ds':=⟨#[true,false,true,true,true,false],true,true,true⟩) zu [(0,0),(2,0),(3,1),(4,0)] (by kernel_rfl) rfl rfl<|zl (by kernel_rfl) (zh (i:=1) ?_ zo)
  refine zN rfl<|zP (i:=1) (listed':=#[true,true,true,true,true,false]) (pre':=true) [] (w_chneeds _ c1 r3 hr3) rfl rfl rfl rfl ⟨rfl,rfl⟩ rfl Tryd.func7 rfl rfl rfl rfl rfl rfl PassH.nil ?_
  rintro _ _ ⟨rfl,rfl⟩;refine ⟨_,_,rfl,rfl,?_⟩;refine zn (fuel:=0) (ds':=⟨#[true,true,true,true,true,true],false,true,false⟩) zu [(5,0)] (by kernel_rfl) rfl rfl<|zt (by kernel_rfl) ?_
  revert h
  refine xC rfl rfl (fun hc h=>?_) (fun hc h=>?_)
  ·refine zv<|zq<|zj zu rfl rfl ?_
   cases h;exact zd ⟨_,(Wk.trans (Wk.lst0 4 qp rfl) (Wk.trans (Wk.lst0 5 (.sl qr) rfl) (Wk.pick [4,5,6] [] rfl rfl))),_,_,rfl,rfl,rfl,rfl⟩
  refine za<|zv ?_
  obtain ⟨r4,hr4,h⟩:=bd h;refine zq<|zf zu rfl rfl<|qG [(3,42)] (w_goals _ c1 r4 hr4) rfl ⟨rfl,rfl⟩ rfl Tryd.func45 rfl rfl rfl rfl rfl rfl PassH.nil ?_
  rintro _ _ ⟨rfl,rfl⟩;refine ⟨_,_,rfl,rfl,?_⟩;refine zj zu rfl rfl<|zb (Wk.pick [1,2,9,10] [42] rfl rfl)<|zv ?_
  obtain ⟨r5,hr5,h⟩:=bd h;refine zq<|zf zu rfl rfl<|zg (w_front _ none r5 hr5) rfl ⟨rfl,rfl⟩ rfl Tryd.func46 rfl rfl rfl rfl rfl rfl<|zj zu rfl rfl<|zv<|zv<|zq<|zj zu rfl rfl ?_
  revert h
  refine xC rfl rfl (fun hc h=>?_) (fun hc h=>?_)
  ·refine zv<|zq<|zj zu rfl rfl ?_
   cases h;exact zd ⟨_,(Wk.trans (Wk.lst0 4 qp rfl) (Wk.trans (Wk.lst0 5 (.sl qr) rfl) (Wk.pick [4,5,6] [] rfl rfl))),_,_,rfl,rfl,rfl,rfl⟩
  refine za<|zv ?_
  obtain ⟨hG33,h⟩:=zw h;simp only [Bool.and_eq_true] at hG33;obtain ⟨⟨hG33_0,hG33_1⟩,hG33_2⟩:=hG33;refine zq<|zj zu rfl (by simp_all) ?_
  refine zv<|zv<|zq<|zj zu rfl rfl ?_
  obtain ⟨o6,ho6,hk6⟩:=bd h;refine zB (fun o6:T3=>⟨[(1,.a (.c (.lst G0 a1 c1))),(9,.a (.c (.lst (.sl qr) r4.1 (some r4.2.1)))),(10,.a (.c (.sl 42))),(11,.a (.c (.lst qp r5.1 (some r5.1.length)))),(13,.a (.c (.sl 57)))],[(42,.row 3 (.int .i64) r4.2.2 none),(57,.row 3 (.int .i64) o6 (some (a0.1.length:Int).toNat))]⟩) (fun o'=>o6=o') ?_ ?_
  ·have h:=ho6
   refine zc<|zb (Wk.pick [61,1,9,10,11,13,59,60] [57,42] rfl rfl)<|zm (fun y:Nat×Int×T3=>[(61,.a (.c (.val (.int .i64 y.2.1))))]) (fun y:Nat×Int×T3=>[(57,.row 3 (.int .i64) y.2.2 (some (a0.1.length:Int).toNat))]) (fun y:Nat×Int×T3=>qE a0 y.1 y.2.1 y.2.2=some o6) (fun y:Nat×Int×T3=>y.1) (zC,(0:Int),(List.replicate (a0.1.length:Int).toNat (0:Int))) h ?_
   rintro ⟨n,v7_0,v7_1⟩ h;replace h:qE a0 n v7_0 v7_1=some o6:=h
   rcases n with _ | n
   · cases (show (none:Option _)=some _ from h)
   rw [qE] at h
   try dsimp only
   refine zv<|zq<|zj zu rfl rfl<|zv ?_
   revert h
   refine xC rfl rfl (fun hc h=>?_) (fun hc h=>?_)
   ·refine za<|zv<|zc<|zv ?_
    obtain ⟨hG10,h⟩:=zw h;refine zq<|zj zu rfl (by simp only [hG10,oc]) ?_
    refine zb (Wk.frzC 15 qr rfl rfl rfl) ?_;obtain ⟨hG9,h⟩:=zw h;simp only [Bool.and_eq_true] at hG9;obtain ⟨hG9_0,hG9_1⟩:=hG9;refine zq<|zj zu rfl (by simp only [hG9_0,hG9_1,oc]) ?_
    obtain ⟨hG8,h⟩:=zw h;refine zq<|zj zu rfl (by simp only [hG8,oc]) ?_
    refine ⟨(n,_,_),h,Nat.lt_succ_self _,(Wk.pick [61,1,9,10,11,13,59,60] [57,42] rfl rfl)⟩
   refine zr ?_;exact ⟨_,(Option.some.inj h).symm,(Wk.pick [1,9,10,11,13] [42,57] rfl rfl)⟩
  ·rintro _ rfl
   have h:=hk6;refine zv ?_;obtain ⟨r11,hr11,h⟩:=bd h;refine zq<|zf zu rfl rfl<|xb (Wk.frz (id:=57) rfl)<|qG [(2000000,42)] (w_shiftb _ _ (some (a0.1.length:Int).toNat) none r11 hr11) rfl ⟨rfl,rfl⟩ rfl Tryd.func8 rfl rfl rfl rfl rfl rfl (PassH.cons rfl rfl rfl PassH.nil) ?_
   rintro _ _ ⟨rfl,rfl⟩;refine ⟨_,_,rfl,rfl,?_⟩;refine zj zu rfl rfl<|zb (Wk.pick [1,9,10,11,12,16] [42] rfl rfl)<|zv<|zv<|zq<|zj zu rfl rfl ?_
   revert h
   refine xC rfl rfl (fun hc h=>?_) (fun hc h=>?_)
   ·refine zv<|zq<|zj zu rfl rfl ?_
    cases h;exact zd ⟨_,(Wk.trans (Wk.lst0 4 qp rfl) (Wk.trans (Wk.lst0 5 (.sl qr) rfl) (Wk.pick [4,5,6] [] rfl rfl))),_,_,rfl,rfl,rfl,rfl⟩
   refine za<|zv ?_
   obtain ⟨hG32,h⟩:=zw h;refine zq<|qf 2 zu rfl (by simp only [hG32,oc]) ?_
   refine al_appendL zu rfl ⟨rfl,rfl⟩ rfl rfl rfl rfl rfl (by simp only [hG32,oc]) rfl (by simp only [hG32,oc]) rfl rfl (by simp only [hG32,oc]) (by simp only [hG32,oc]) ?_;refine zj zu rfl (by simp only [hG32,oc]) ?_;refine zb (Wk.pick [1,9,10,11] [42,83] rfl rfl)<|zv ?_
   obtain ⟨r12,hr12,h⟩:=bd h;refine zq<|zf zu rfl rfl<|qG [(1000000,42),(5,85)] (w_compact _ none r12 hr12) rfl ⟨rfl,rfl⟩ rfl Tryd.func47 rfl rfl rfl rfl rfl rfl (PassH.cons rfl rfl rfl PassH.nil) ?_
   rintro _ _ ⟨rfl,rfl⟩;refine ⟨_,_,rfl,rfl,?_⟩;refine zj zu rfl rfl<|zb (Wk.pick [1,9,11,17] [83,85] rfl rfl)<|zv<|zv<|zq<|zj zu rfl rfl<|zb (Wk.frz (id:=85) rfl) ?_
   obtain ⟨o15,ho15,hk15⟩:=bd h;refine zB (fun o15:T4=>⟨[(1,.a (.c (.lst G0 a1 c1))),(9,.a (.c (.lst (.sl qr) r4.1 (some r4.2.1)))),(11,.a (.c (.sl 83)))],[(83,.lrow 45 qp o15)]⟩) (fun o'=>Sum.inl o'=o15) ?_ ?_
   ·have h:=ho15
    refine zc<|zb (Wk.pick [88,1,9,11,17,86,87] [83] rfl rfl)<|zm (fun y:Nat×Int×T4=>[(88,.a (.c (.val (.int .i64 y.2.1))))]) (fun y:Nat×Int×T4=>[(83,.lrow 45 qp y.2.2)]) (fun y:Nat×Int×T4=>qu a1 r4 r12 y.1 y.2.1 y.2.2=some o15) (fun y:Nat×Int×T4=>y.1) (zC,(0:Int),(r5.1++r11.1)) h ?_
    rintro ⟨n,v16_0,v16_1⟩ h;replace h:qu a1 r4 r12 n v16_0 v16_1=some o15:=h
    rcases n with _ | n
    · cases (show (none:Option _)=some _ from h)
    rw [qu] at h
    try dsimp only
    refine zv<|zq<|zj zu rfl rfl<|zv ?_
    revert h
    refine xC rfl rfl (fun hc h=>?_) (fun hc h=>?_)
    ·refine za<|zv<|zc<|zv ?_
     obtain ⟨hG23,h⟩:=zw h;refine zq<|zj zu rfl (by simp only [hG23,oc]) ?_
     refine zb (Wk.frzC 19 G0 rfl rfl rfl)<|zv<|zv<|zq<|zj zu rfl rfl ?_
     revert h
     refine xC rfl rfl (fun hc h=>?_) (fun hc h=>?_)
     ·refine zr ?_
      obtain ⟨hG17,h⟩:=zw h;refine zq<|zj zu rfl (by simp only [hG17,oc]) ?_
      refine ⟨(n,_,_),h,Nat.lt_succ_self _,(Wk.pick [88,1,9,11,17,86,87] [83] rfl rfl)⟩
     refine za<|zv ?_
     obtain ⟨hG22,h⟩:=zw h;simp only [Bool.and_eq_true] at hG22;obtain ⟨hG22_0,hG22_1⟩:=hG22;obtain ⟨r18,hr18,h⟩:=bd h;obtain ⟨r19,hr19,h⟩:=bd h;refine zH [] (by kernel_rfl) rfl (N:=22)<|zn (fuel:=7) (ds':=⟨#[true,true,true,true,true,true,true,true,true,false,true,true,true,true,true,true,false,false,false,false,false,false],true,true,true⟩) zu [(0,0),(1,0),(2,0),(3,0),(4,0),(5,1),(6,0),(7,0),(8,1),(10,0),(11,1),(12,0),(13,1),(14,0),(15,1)] (by kernel_rfl) rfl (by simp only [hG22_0,hG22_1,oc]) ?_
     refine zl (by kernel_rfl) (zh (i:=9) ?_ zo);refine zN rfl<|zP (i:=9) (listed':=#[true,true,true,true,true,true,true,true,true,true,true,true,true,true,true,true,false,false,false,false,false,false]) (pre':=true) [] (w_index _ _ none r18 hr18) rfl rfl rfl rfl ⟨rfl,rfl⟩ rfl Tryd.func48 rfl rfl rfl (by simp only [hG22_0,hG22_1,oc]) rfl rfl PassH.nil ?_
     rintro _ _ ⟨rfl,rfl⟩;refine ⟨_,_,rfl,rfl,?_⟩;refine zl (by kernel_rfl) (zh (i:=16) ?_ zo);refine zN rfl<|zP (i:=16) (listed':=#[true,true,true,true,true,true,true,true,true,true,true,true,true,true,true,true,true,false,false,false,false,false]) (pre':=true) [] (w_cross _ _ _ _ _ none r19 hr19) rfl rfl rfl rfl ⟨rfl,rfl⟩ rfl Tryd.func9 rfl rfl rfl (by simp only [hG22_0,hG22_1,oc]) rfl rfl PassH.nil ?_
     rintro _ _ ⟨rfl,rfl⟩;refine ⟨_,_,rfl,rfl,?_⟩;refine zn (fuel:=0) (ds':=⟨#[true,true,true,true,true,true,true,true,true,true,true,true,true,true,true,true,true,true,true,true,true,true],false,true,false⟩) zu [(17,0),(18,0),(19,0),(20,0),(21,0)] (by kernel_rfl) rfl (by simp only [hG22_0,hG22_1,oc]) ?_;refine zt (by kernel_rfl)<|zv<|zv<|zq<|zj zu rfl rfl ?_
     revert h
     refine xC rfl rfl (fun hc h=>?_) (fun hc h=>?_)
     ·refine zv<|zq<|zj zu rfl rfl<|zd ?_
      obtain rfl:=Option.some.inj h;have h:=hk15;dsimp only [sm] at h;obtain rfl:=Option.some.inj h;refine ⟨_,(Wk.trans (Wk.lst0 4 qp rfl) (Wk.trans (Wk.lst0 5 (.sl qr) rfl) (Wk.pick [4,5,6] [] rfl rfl))),_,_,rfl,rfl,?_⟩;exact ⟨rfl,rfl⟩
     refine za ?_;obtain ⟨hG21,h⟩:=zw h;refine zq<|qf 2 zu rfl (by simp only [hG21,oc]) ?_
     refine xG zu rfl ⟨rfl,rfl⟩ rfl rfl rfl rfl rfl (by simp only [hG21,oc]) rfl (by simp only [hG21,oc]) rfl rfl rfl (by simp only [hG21,oc]) ?_;refine zj zu rfl (by simp only [hG21,oc]) ?_;refine zb (Wk.pick [1,9,11,17,86,87,88] [83] rfl rfl) ?_;obtain ⟨hG20,h⟩:=zw h;refine zq<|zj zu rfl (by simp only [hG20,oc]) ?_
     refine ⟨(n,_,_),h,Nat.lt_succ_self _,(Wk.pick [88,1,9,11,17,86,87] [83] rfl rfl)⟩
    refine zr ?_;exact ⟨_,Option.some.inj h,(Wk.pick [1,9,11] [83] rfl rfl)⟩
   ·rintro o15 rfl
    have h:=hk15;dsimp only [sm] at h;refine zv<|zv<|zq<|zj zu rfl rfl ?_
    obtain ⟨o24,ho24,hk24⟩:=bd h;refine zB (fun o24:T4=>⟨[(9,.a (.c (.lst (.sl qr) r4.1 (some r4.2.1)))),(11,.a (.c (.sl 83)))],[(83,.lrow 45 qp o24)]⟩) (fun o'=>o24=o') ?_ ?_
    ·have h:=ho24
     refine zc<|zb (Wk.pick [125,9,11,123,124] [83] rfl rfl)<|zm (fun y:Nat×Int×T4=>[(125,.a (.c (.val (.int .i64 y.2.1))))]) (fun y:Nat×Int×T4=>[(83,.lrow 45 qp y.2.2)]) (fun y:Nat×Int×T4=>qv a1 r4 y.1 y.2.1 y.2.2=some o24) (fun y:Nat×Int×T4=>y.1) (zC,(0:Int),o15) h ?_
     rintro ⟨n,v25_0,v25_1⟩ h;replace h:qv a1 r4 n v25_0 v25_1=some o24:=h
     rcases n with _ | n
     · cases (show (none:Option _)=some _ from h)
     rw [qv] at h
     try dsimp only
     refine zv<|zq<|zj zu rfl rfl<|zv ?_
     revert h
     refine xC rfl rfl (fun hc h=>?_) (fun hc h=>?_)
     ·refine za<|zv<|zc<|zv ?_
      obtain ⟨hG30,h⟩:=zw h;refine zq<|zj zu rfl (by simp only [hG30,oc]) ?_
      refine zb (Wk.frzC 23 G0 rfl rfl rfl)<|zv ?_
      obtain ⟨r26,hr26,h⟩:=bd h;refine zq<|zf zu rfl rfl<|zg (w_stbed _  r26 hr26) rfl ⟨rfl,rfl⟩ rfl Tryd.func49 rfl rfl rfl rfl rfl rfl<|zj zu rfl rfl ?_
      revert h
      refine xC rfl rfl (fun hc h=>?_) (fun hc h=>?_)
      ·obtain ⟨hG28,h⟩:=zw h
       simp only [Bool.and_eq_true] at hG28;obtain ⟨⟨hG28_0,hG28_1⟩,hG28_2⟩:=hG28;refine zq<|qf 11 zu rfl (by simp only [hG28_0,hG28_1,hG28_2,oc]) ?_
       refine xG zu rfl ⟨rfl,rfl⟩ rfl rfl rfl rfl rfl (by simp only [hG28_0,hG28_1,hG28_2,oc]) rfl (by simp only [hG28_0,hG28_1,hG28_2,oc]) rfl rfl rfl (by simp only [hG28_0,hG28_1,hG28_2,oc]) ?_;refine zj zu rfl (by simp only [hG28_0,hG28_1,hG28_2,oc]) ?_;refine zb (Wk.pick [9,11,123,124,125] [83] rfl rfl) ?_;obtain ⟨hG27,h⟩:=zw h;refine zq<|zj zu rfl (by simp only [hG27,oc]) ?_
       refine ⟨(n,_,_),h,Nat.lt_succ_self _,(Wk.pick [125,9,11,123,124] [83] rfl rfl)⟩
      refine za ?_;obtain ⟨hG29,h⟩:=zw h;refine zq<|zj zu rfl (by simp only [hG29,oc]) ?_
      refine ⟨(n,_,_),h,Nat.lt_succ_self _,(Wk.pick [125,9,11,123,124] [83] rfl rfl)⟩
     refine zr ?_;exact ⟨_,(Option.some.inj h).symm,(Wk.pick [9,11] [83] rfl rfl)⟩
    ·rintro _ rfl
     have h:=hk24;refine zv ?_;obtain ⟨r31,hr31,h⟩:=bd h;refine zq<|zf zu rfl rfl<|xb (Wk.frzL (id:=83) rfl)<|zg (w_clip _ none r31 hr31) rfl ⟨rfl,rfl⟩ rfl Tryd.func31 rfl rfl rfl rfl rfl rfl<|zj zu rfl rfl ?_
     cases h;exact zd ⟨_,(Wk.pick [4,5,6] [] rfl rfl),_,_,rfl,rfl,rfl,rfl⟩
end Go.Proofs.YtihcolehefloeaaDoor

/- Courses: the work of a yarn. -/
namespace Go.Proofs.YtihcolehefloeaaDoor
set_option linter.unusedSimpArgs false
set_option linter.unusedVariables false
open Go.RowKit
def zK (a0:Int) (a1:Int) (a3:T0) (a4:(List T1)):Nat→Int→T4→Option (T4)
  | 0,_,_=>none
  | n+1,v2_0,v2_1=>
    cond (decide (v2_0 < (a3.length:Int))) (Option.bind (cond (decide (a0=(0:Int))) (gd ((zk ((a3.length:Int) - (1:Int)))&&(zk (((a3.length:Int) - (1:Int)) - v2_0))) <|
    some (((a3.length:Int) - (1:Int)) - v2_0)) (some v2_0)) fun o3=>
    gd ((zi o3 a3.length)) <|
    cond (decide ((a3.getD o3.toNat (0,(0,(0,(0,false))))).2.1=a1)) (cond (decide ((a3.getD o3.toNat (0,(0,(0,(0,false))))).1=(0:Int))) (none) (
    cond (decide ((a3.getD o3.toNat (0,(0,(0,(0,false))))).1=(1:Int))) (gd ((zi o3 a3.length)&&(zi (a3.getD o3.toNat (0,(0,(0,(0,false))))).1 9)&&(zi o3 a4.length)) <|
    Option.bind (yg a0 a1 v2_1 (a4.getD o3.toNat [])) fun r34=>
    gd ((zk (v2_0+(1:Int)))) <|
    zK a0 a1 a3 a4 n (v2_0+(1:Int)) r34) (
    cond (decide ((a3.getD o3.toNat (0,(0,(0,(0,false))))).1=(2:Int))) (gd ((zi o3 a3.length)&&(zi (a3.getD o3.toNat (0,(0,(0,(0,false))))).1 9)&&(zi o3 a4.length)) <|
    Option.bind (yg a0 a1 v2_1 (a4.getD o3.toNat [])) fun r30=>
    gd ((zk (v2_0+(1:Int)))) <|
    zK a0 a1 a3 a4 n (v2_0+(1:Int)) r30) (
    cond (decide ((a3.getD o3.toNat (0,(0,(0,(0,false))))).1=(3:Int))) (gd ((zi o3 a3.length)&&(zi (a3.getD o3.toNat (0,(0,(0,(0,false))))).1 9)&&(zi o3 a4.length)) <|
    Option.bind (yg a0 a1 v2_1 (a4.getD o3.toNat [])) fun r26=>
    gd ((zk (v2_0+(1:Int)))) <|
    zK a0 a1 a3 a4 n (v2_0+(1:Int)) r26) (
    cond (decide ((a3.getD o3.toNat (0,(0,(0,(0,false))))).1=(4:Int))) (gd ((zi o3 a3.length)&&(zi (a3.getD o3.toNat (0,(0,(0,(0,false))))).1 9)&&(zi o3 a4.length)) <|
    Option.bind (yg a0 a1 v2_1 (a4.getD o3.toNat [])) fun r22=>
    gd ((zk (v2_0+(1:Int)))) <|
    zK a0 a1 a3 a4 n (v2_0+(1:Int)) r22) (
    cond (decide ((a3.getD o3.toNat (0,(0,(0,(0,false))))).1=(5:Int))) (gd ((zi o3 a3.length)&&(zi (a3.getD o3.toNat (0,(0,(0,(0,false))))).1 9)&&(zi o3 a4.length)) <|
    Option.bind (yg a0 a1 v2_1 (a4.getD o3.toNat [])) fun r18=>
    gd ((zk (v2_0+(1:Int)))) <|
    zK a0 a1 a3 a4 n (v2_0+(1:Int)) r18) (
    cond (decide ((a3.getD o3.toNat (0,(0,(0,(0,false))))).1=(6:Int))) (gd ((zi o3 a3.length)&&(zi (a3.getD o3.toNat (0,(0,(0,(0,false))))).1 9)&&(zi o3 a4.length)) <|
    Option.bind (m_cotuck a0 a1 v2_1 (a4.getD o3.toNat [])) fun r14=>
    gd ((zk (v2_0+(1:Int)))) <|
    zK a0 a1 a3 a4 n (v2_0+(1:Int)) r14) (
    cond (decide ((a3.getD o3.toNat (0,(0,(0,(0,false))))).1=(7:Int))) (gd ((zi o3 a3.length)&&(zi (a3.getD o3.toNat (0,(0,(0,(0,false))))).1 9)&&(zi o3 a4.length)) <|
    Option.bind (m_coslip a0 a1 v2_1 (a4.getD o3.toNat [])) fun r10=>
    gd ((zk (v2_0+(1:Int)))) <|
    zK a0 a1 a3 a4 n (v2_0+(1:Int)) v2_1) (
    cond (decide ((a3.getD o3.toNat (0,(0,(0,(0,false))))).1=(8:Int))) (gd ((zi o3 a3.length)&&(zi (a3.getD o3.toNat (0,(0,(0,(0,false))))).1 9)&&(zi o3 a4.length)) <|
    Option.bind (yg a0 a1 v2_1 (a4.getD o3.toNat [])) fun r6=>
    gd ((zk (v2_0+(1:Int)))) <|
    zK a0 a1 a3 a4 n (v2_0+(1:Int)) r6) (
    none)))))))))) (gd ((zk (v2_0+(1:Int)))) <|
    zK a0 a1 a3 a4 n (v2_0+(1:Int)) v2_1)) (some v2_1)
def m_cowork (a0:Int) (a1:Int) (a2:List zO) (a3:T0) (a4:(List T1)):Option (T4):=
    Option.bind (zK a0 a1 a3 a4 zC (0:Int) a2) fun o1=>
    some o1
theorem w_cowork (a0:Int) (a1:Int) (a2:List zO) (a3:T0) (a4:(List T1)) (c0 c1:Option Nat) (r:(T4)) (h:m_cowork a0 a1 a2 a3 a4=some r):AC cx 41 [.c (.ptr 1000000 0),.c (.lst G0 a3 c0),.c (.lst (.sl qr) a4 c1)] [(1000000,.cells 96 [.sl 1000001,.val (.int .u8 a0),.val (.int .u8 a1)]),(1000001,.lrow 45 qp a2)] (fun sv h=>sv=.tup []∧h=[(1000000,.cells 96 [.sl 1000001,.val (.int .u8 a0),.val (.int .u8 a1)]),(1000001,.lrow 45 qp r)]):=by
  unfold m_cowork at h;refine zp zu Tryd.func41 rfl Tryd.ntmps41 rfl rfl (res:=[]) rfl<|zv<|zq<|zj zu rfl rfl<|zv<|zq<|zj zu rfl rfl ?_
  obtain ⟨o1,ho1,hk1⟩:=bd h;refine zB (fun o1:T4=>⟨[],[(1000000,.cells 96 [.sl 1000001,.val (.int .u8 a0),.val (.int .u8 a1)]),(1000001,.lrow 45 qp o1)]⟩) (fun o'=>o1=o') ?_ ?_
  ·have h:=ho1
   refine zc<|zb (Wk.pick [27,0,1,2,6,26] [1000001,6,1000000] rfl rfl)<|zm (fun y:Nat×Int×T4=>[(27,.a (.c (.val (.int .i64 y.2.1))))]) (fun y:Nat×Int×T4=>[(1000001,.lrow 45 qp y.2.2)]) (fun y:Nat×Int×T4=>zK a0 a1 a3 a4 y.1 y.2.1 y.2.2=some o1) (fun y:Nat×Int×T4=>y.1) (zC,(0:Int),a2) h ?_
   rintro ⟨n,v2_0,v2_1⟩ h;replace h:zK a0 a1 a3 a4 n v2_0 v2_1=some o1:=h
   rcases n with _ | n
   · cases (show (none:Option _)=some _ from h)
   rw [zK] at h
   try dsimp only
   refine zv<|zq<|zj zu rfl rfl<|zv ?_
   revert h
   refine xC rfl rfl (fun hc h=>?_) (fun hc h=>?_)
   ·refine za<|zv<|zc<|zv<|zq<|zj zu rfl rfl<|zv<|zv<|zq<|zj zu rfl rfl ?_
    obtain ⟨o3,ho3,hk3⟩:=bd h;refine zB (fun o3:Int=>⟨[(0,.a (.c (.ptr 1000000 0))),(1,.a (.c (.lst G0 a3 c0))),(2,.a (.c (.lst (.sl qr) a4 c1))),(6,.a (.c (.ptr 6 0))),(7,.a (.c (.val (.int .i64 o3)))),(26,.a (.c (.val (.int .i64 (a3.length:Int))))),(27,.a (.c (.val (.int .i64 v2_0))))],[(6,.cells 134 [.val (.nilFunc),.bfn 66 1000000,.bfn 66 1000000,.bfn 66 1000000,.bfn 66 1000000,.bfn 66 1000000,.bfn 67 1000000,.bfn 68 1000000,.bfn 66 1000000]),(1000000,.cells 96 [.sl 1000001,.val (.int .u8 a0),.val (.int .u8 a1)]),(1000001,.lrow 45 qp v2_1)]⟩) (fun o'=>o3=o') ?_ ?_
    ·have h:=ho3
     revert h
     refine xC rfl rfl (fun hc h=>?_) (fun hc h=>?_)
     ·obtain ⟨hG4,h⟩:=zw h
      simp only [Bool.and_eq_true] at hG4;obtain ⟨hG4_0,hG4_1⟩:=hG4;refine zq<|zj zu rfl (by simp only [hG4_0,hG4_1,oc]) ?_
      exact ⟨_,(Option.some.inj h).symm,(Wk.pick [0,1,2,6,7,26,27] [6,1000000,1000001] rfl rfl)⟩
     refine za ?_;exact ⟨_,(Option.some.inj h).symm,(Wk.pick [0,1,2,6,7,26,27] [6,1000000,1000001] rfl rfl)⟩
    ·rintro _ rfl
     have h:=hk3;refine zv ?_;obtain ⟨hG39,h⟩:=zw h;refine zH [] (by kernel_rfl) rfl (N:=10)<|zn (fuel:=0) (ds':=⟨#[true,true,true,true,true,true,true,true,true,true],true,true,true⟩) zu [(0,0),(1,0),(2,0),(3,0),(4,1),(5,0),(6,0),(7,0),(8,3),(9,0)] (by kernel_rfl) rfl (by simp only [hG39,oc]) ?_
     refine zt (by kernel_rfl) ?_
     revert h
     refine xC rfl rfl (fun hc h=>?_) (fun hc h=>?_)
     ·refine ya h (fun hz37 h=>?_) (fun _ h=>?_)
      ·cases h
      refine ya h (fun hz33 h=>?_) (fun _ h=>?_)
      ·obtain ⟨hG36,h⟩:=zw h
       simp only [Bool.and_eq_true] at hG36;obtain ⟨⟨hG36_0,hG36_1⟩,hG36_2⟩:=hG36;obtain ⟨r34,hr34,h⟩:=bd h;refine zH [] (by kernel_rfl) rfl (N:=12)<|zn (fuel:=2) (ds':=⟨#[true,true,true,true,true,true,false,true,true,true,true,false],true,true,true⟩) zu [(0,0),(1,0),(2,0),(3,0),(4,1),(5,0),(7,0),(8,0),(9,0),(10,1)] (by kernel_rfl) rfl (by simp only [hG36_0,hG36_1,hG36_2,oc]) ?_
       refine zl (by kernel_rfl) (zh (i:=6) ?_ zo);refine ado_pk (i:=6) (l':=#[true,true,true,true,true,true,true,true,true,true,true,false]) rfl (pk_loadJ 1 0 (a3.getD o3.toNat (0,(0,(0,(0,false))))).1 zu rfl rfl rfl rfl (by simp only [hG36_0,hG36_1,hG36_2,oc]) rfl hz33 rfl rfl) ⟨rfl,rfl⟩ rfl rfl rfl ?_;refine zl (by kernel_rfl) (zh (i:=11) ?_ zo);refine zN rfl<|yE (i:=11) (listed':=#[true,true,true,true,true,true,true,true,true,true,true,true]) (pre':=false) [(1000000,1000000),(1000001,1000001)] (w_coknit _ _ _ _ none r34 hr34) rfl rfl rfl rfl ⟨rfl,rfl⟩ rfl rfl Tryd.func66 rfl rfl rfl (by simp only [hG36_0,hG36_1,hG36_2,oc]) rfl rfl (PassH.cons rfl rfl rfl (PassH.cons rfl rfl rfl PassH.nil)) ?_
       rintro _ _ ⟨rfl,rfl⟩;refine ⟨_,_,rfl,rfl,?_⟩;refine zt (by kernel_rfl) ?_;obtain ⟨hG35,h⟩:=zw h;refine zq<|zj zu rfl (by simp only [hG35,oc]) ?_
       refine ⟨(n,_,_),h,Nat.lt_succ_self _,(Wk.pick [27,0,1,2,6,26] [1000001,6,1000000] rfl rfl)⟩
      refine ya h (fun hz29 h=>?_) (fun _ h=>?_)
      ·obtain ⟨hG32,h⟩:=zw h
       simp only [Bool.and_eq_true] at hG32;obtain ⟨⟨hG32_0,hG32_1⟩,hG32_2⟩:=hG32;obtain ⟨r30,hr30,h⟩:=bd h;refine zH [] (by kernel_rfl) rfl (N:=12)<|zn (fuel:=2) (ds':=⟨#[true,true,true,true,true,true,false,true,true,true,true,false],true,true,true⟩) zu [(0,0),(1,0),(2,0),(3,0),(4,1),(5,0),(7,0),(8,0),(9,0),(10,1)] (by kernel_rfl) rfl (by simp only [hG32_0,hG32_1,hG32_2,oc]) ?_
       refine zl (by kernel_rfl) (zh (i:=6) ?_ zo);refine ado_pk (i:=6) (l':=#[true,true,true,true,true,true,true,true,true,true,true,false]) rfl (pk_loadJ 2 0 (a3.getD o3.toNat (0,(0,(0,(0,false))))).1 zu rfl rfl rfl rfl (by simp only [hG32_0,hG32_1,hG32_2,oc]) rfl hz29 rfl rfl) ⟨rfl,rfl⟩ rfl rfl rfl ?_;refine zl (by kernel_rfl) (zh (i:=11) ?_ zo);refine zN rfl<|yE (i:=11) (listed':=#[true,true,true,true,true,true,true,true,true,true,true,true]) (pre':=false) [(1000000,1000000),(1000001,1000001)] (w_coknit _ _ _ _ none r30 hr30) rfl rfl rfl rfl ⟨rfl,rfl⟩ rfl rfl Tryd.func66 rfl rfl rfl (by simp only [hG32_0,hG32_1,hG32_2,oc]) rfl rfl (PassH.cons rfl rfl rfl (PassH.cons rfl rfl rfl PassH.nil)) ?_
       rintro _ _ ⟨rfl,rfl⟩;refine ⟨_,_,rfl,rfl,?_⟩;refine zt (by kernel_rfl) ?_;obtain ⟨hG31,h⟩:=zw h;refine zq<|zj zu rfl (by simp only [hG31,oc]) ?_
       refine ⟨(n,_,_),h,Nat.lt_succ_self _,(Wk.pick [27,0,1,2,6,26] [1000001,6,1000000] rfl rfl)⟩
      refine ya h (fun hz25 h=>?_) (fun _ h=>?_)
      ·obtain ⟨hG28,h⟩:=zw h
       simp only [Bool.and_eq_true] at hG28;obtain ⟨⟨hG28_0,hG28_1⟩,hG28_2⟩:=hG28;obtain ⟨r26,hr26,h⟩:=bd h;refine zH [] (by kernel_rfl) rfl (N:=12)<|zn (fuel:=2) (ds':=⟨#[true,true,true,true,true,true,false,true,true,true,true,false],true,true,true⟩) zu [(0,0),(1,0),(2,0),(3,0),(4,1),(5,0),(7,0),(8,0),(9,0),(10,1)] (by kernel_rfl) rfl (by simp only [hG28_0,hG28_1,hG28_2,oc]) ?_
       refine zl (by kernel_rfl) (zh (i:=6) ?_ zo);refine ado_pk (i:=6) (l':=#[true,true,true,true,true,true,true,true,true,true,true,false]) rfl (pk_loadJ 3 0 (a3.getD o3.toNat (0,(0,(0,(0,false))))).1 zu rfl rfl rfl rfl (by simp only [hG28_0,hG28_1,hG28_2,oc]) rfl hz25 rfl rfl) ⟨rfl,rfl⟩ rfl rfl rfl ?_;refine zl (by kernel_rfl) (zh (i:=11) ?_ zo);refine zN rfl<|yE (i:=11) (listed':=#[true,true,true,true,true,true,true,true,true,true,true,true]) (pre':=false) [(1000000,1000000),(1000001,1000001)] (w_coknit _ _ _ _ none r26 hr26) rfl rfl rfl rfl ⟨rfl,rfl⟩ rfl rfl Tryd.func66 rfl rfl rfl (by simp only [hG28_0,hG28_1,hG28_2,oc]) rfl rfl (PassH.cons rfl rfl rfl (PassH.cons rfl rfl rfl PassH.nil)) ?_
       rintro _ _ ⟨rfl,rfl⟩;refine ⟨_,_,rfl,rfl,?_⟩;refine zt (by kernel_rfl) ?_;obtain ⟨hG27,h⟩:=zw h;refine zq<|zj zu rfl (by simp only [hG27,oc]) ?_
       refine ⟨(n,_,_),h,Nat.lt_succ_self _,(Wk.pick [27,0,1,2,6,26] [1000001,6,1000000] rfl rfl)⟩
      refine ya h (fun hz21 h=>?_) (fun _ h=>?_)
      ·obtain ⟨hG24,h⟩:=zw h
       simp only [Bool.and_eq_true] at hG24;obtain ⟨⟨hG24_0,hG24_1⟩,hG24_2⟩:=hG24;obtain ⟨r22,hr22,h⟩:=bd h;refine zH [] (by kernel_rfl) rfl (N:=12)<|zn (fuel:=2) (ds':=⟨#[true,true,true,true,true,true,false,true,true,true,true,false],true,true,true⟩) zu [(0,0),(1,0),(2,0),(3,0),(4,1),(5,0),(7,0),(8,0),(9,0),(10,1)] (by kernel_rfl) rfl (by simp only [hG24_0,hG24_1,hG24_2,oc]) ?_
       refine zl (by kernel_rfl) (zh (i:=6) ?_ zo);refine ado_pk (i:=6) (l':=#[true,true,true,true,true,true,true,true,true,true,true,false]) rfl (pk_loadJ 4 0 (a3.getD o3.toNat (0,(0,(0,(0,false))))).1 zu rfl rfl rfl rfl (by simp only [hG24_0,hG24_1,hG24_2,oc]) rfl hz21 rfl rfl) ⟨rfl,rfl⟩ rfl rfl rfl ?_;refine zl (by kernel_rfl) (zh (i:=11) ?_ zo);refine zN rfl<|yE (i:=11) (listed':=#[true,true,true,true,true,true,true,true,true,true,true,true]) (pre':=false) [(1000000,1000000),(1000001,1000001)] (w_coknit _ _ _ _ none r22 hr22) rfl rfl rfl rfl ⟨rfl,rfl⟩ rfl rfl Tryd.func66 rfl rfl rfl (by simp only [hG24_0,hG24_1,hG24_2,oc]) rfl rfl (PassH.cons rfl rfl rfl (PassH.cons rfl rfl rfl PassH.nil)) ?_
       rintro _ _ ⟨rfl,rfl⟩;refine ⟨_,_,rfl,rfl,?_⟩;refine zt (by kernel_rfl) ?_;obtain ⟨hG23,h⟩:=zw h;refine zq<|zj zu rfl (by simp only [hG23,oc]) ?_
       refine ⟨(n,_,_),h,Nat.lt_succ_self _,(Wk.pick [27,0,1,2,6,26] [1000001,6,1000000] rfl rfl)⟩
      refine ya h (fun hz17 h=>?_) (fun _ h=>?_)
      ·obtain ⟨hG20,h⟩:=zw h
       simp only [Bool.and_eq_true] at hG20;obtain ⟨⟨hG20_0,hG20_1⟩,hG20_2⟩:=hG20;obtain ⟨r18,hr18,h⟩:=bd h;refine zH [] (by kernel_rfl) rfl (N:=12)<|zn (fuel:=2) (ds':=⟨#[true,true,true,true,true,true,false,true,true,true,true,false],true,true,true⟩) zu [(0,0),(1,0),(2,0),(3,0),(4,1),(5,0),(7,0),(8,0),(9,0),(10,1)] (by kernel_rfl) rfl (by simp only [hG20_0,hG20_1,hG20_2,oc]) ?_
       refine zl (by kernel_rfl) (zh (i:=6) ?_ zo);refine ado_pk (i:=6) (l':=#[true,true,true,true,true,true,true,true,true,true,true,false]) rfl (pk_loadJ 5 0 (a3.getD o3.toNat (0,(0,(0,(0,false))))).1 zu rfl rfl rfl rfl (by simp only [hG20_0,hG20_1,hG20_2,oc]) rfl hz17 rfl rfl) ⟨rfl,rfl⟩ rfl rfl rfl ?_;refine zl (by kernel_rfl) (zh (i:=11) ?_ zo);refine zN rfl<|yE (i:=11) (listed':=#[true,true,true,true,true,true,true,true,true,true,true,true]) (pre':=false) [(1000000,1000000),(1000001,1000001)] (w_coknit _ _ _ _ none r18 hr18) rfl rfl rfl rfl ⟨rfl,rfl⟩ rfl rfl Tryd.func66 rfl rfl rfl (by simp only [hG20_0,hG20_1,hG20_2,oc]) rfl rfl (PassH.cons rfl rfl rfl (PassH.cons rfl rfl rfl PassH.nil)) ?_
       rintro _ _ ⟨rfl,rfl⟩;refine ⟨_,_,rfl,rfl,?_⟩;refine zt (by kernel_rfl) ?_;obtain ⟨hG19,h⟩:=zw h;refine zq<|zj zu rfl (by simp only [hG19,oc]) ?_
       refine ⟨(n,_,_),h,Nat.lt_succ_self _,(Wk.pick [27,0,1,2,6,26] [1000001,6,1000000] rfl rfl)⟩
      refine ya h (fun hz13 h=>?_) (fun _ h=>?_)
      ·obtain ⟨hG16,h⟩:=zw h
       simp only [Bool.and_eq_true] at hG16;obtain ⟨⟨hG16_0,hG16_1⟩,hG16_2⟩:=hG16;obtain ⟨r14,hr14,h⟩:=bd h;refine zH [] (by kernel_rfl) rfl (N:=12)<|zn (fuel:=2) (ds':=⟨#[true,true,true,true,true,true,false,true,true,true,true,false],true,true,true⟩) zu [(0,0),(1,0),(2,0),(3,0),(4,1),(5,0),(7,0),(8,0),(9,0),(10,1)] (by kernel_rfl) rfl (by simp only [hG16_0,hG16_1,hG16_2,oc]) ?_
       refine zl (by kernel_rfl) (zh (i:=6) ?_ zo);refine ado_pk (i:=6) (l':=#[true,true,true,true,true,true,true,true,true,true,true,false]) rfl (pk_loadJ 6 0 (a3.getD o3.toNat (0,(0,(0,(0,false))))).1 zu rfl rfl rfl rfl (by simp only [hG16_0,hG16_1,hG16_2,oc]) rfl hz13 rfl rfl) ⟨rfl,rfl⟩ rfl rfl rfl ?_;refine zl (by kernel_rfl) (zh (i:=11) ?_ zo);refine zN rfl<|yE (i:=11) (listed':=#[true,true,true,true,true,true,true,true,true,true,true,true]) (pre':=false) [(1000000,1000000),(1000001,1000001)] (w_cotuck _ _ _ _ none r14 hr14) rfl rfl rfl rfl ⟨rfl,rfl⟩ rfl rfl Tryd.func67 rfl rfl rfl (by simp only [hG16_0,hG16_1,hG16_2,oc]) rfl rfl (PassH.cons rfl rfl rfl (PassH.cons rfl rfl rfl PassH.nil)) ?_
       rintro _ _ ⟨rfl,rfl⟩;refine ⟨_,_,rfl,rfl,?_⟩;refine zt (by kernel_rfl) ?_;obtain ⟨hG15,h⟩:=zw h;refine zq<|zj zu rfl (by simp only [hG15,oc]) ?_
       refine ⟨(n,_,_),h,Nat.lt_succ_self _,(Wk.pick [27,0,1,2,6,26] [1000001,6,1000000] rfl rfl)⟩
      refine ya h (fun hz9 h=>?_) (fun _ h=>?_)
      ·obtain ⟨hG12,h⟩:=zw h
       simp only [Bool.and_eq_true] at hG12;obtain ⟨⟨hG12_0,hG12_1⟩,hG12_2⟩:=hG12;obtain ⟨r10,hr10,h⟩:=bd h;refine zH [] (by kernel_rfl) rfl (N:=12)<|zn (fuel:=2) (ds':=⟨#[true,true,true,true,true,true,false,true,true,true,true,false],true,true,true⟩) zu [(0,0),(1,0),(2,0),(3,0),(4,1),(5,0),(7,0),(8,0),(9,0),(10,1)] (by kernel_rfl) rfl (by simp only [hG12_0,hG12_1,hG12_2,oc]) ?_
       refine zl (by kernel_rfl) (zh (i:=6) ?_ zo);refine ado_pk (i:=6) (l':=#[true,true,true,true,true,true,true,true,true,true,true,false]) rfl (pk_loadJ 7 0 (a3.getD o3.toNat (0,(0,(0,(0,false))))).1 zu rfl rfl rfl rfl (by simp only [hG12_0,hG12_1,hG12_2,oc]) rfl hz9 rfl rfl) ⟨rfl,rfl⟩ rfl rfl rfl ?_;refine zl (by kernel_rfl) (zh (i:=11) ?_ zo);refine zN rfl<|yE (i:=11) (listed':=#[true,true,true,true,true,true,true,true,true,true,true,true]) (pre':=false) [(1000000,1000000),(1000001,1000001)] (w_coslip _ _ _ _ none r10 hr10) rfl rfl rfl rfl ⟨rfl,rfl⟩ rfl rfl Tryd.func68 rfl rfl rfl (by simp only [hG12_0,hG12_1,hG12_2,oc]) rfl rfl (PassH.cons rfl rfl rfl (PassH.cons rfl rfl rfl PassH.nil)) ?_
       rintro _ _ ⟨rfl,rfl⟩;refine ⟨_,_,rfl,rfl,?_⟩;refine zt (by kernel_rfl) ?_;obtain ⟨hG11,h⟩:=zw h;refine zq<|zj zu rfl (by simp only [hG11,oc]) ?_
       refine ⟨(n,_,_),h,Nat.lt_succ_self _,(Wk.pick [27,0,1,2,6,26] [1000001,6,1000000] rfl rfl)⟩
      refine ya h (fun hz5 h=>?_) (fun _ h=>?_)
      ·obtain ⟨hG8,h⟩:=zw h
       simp only [Bool.and_eq_true] at hG8;obtain ⟨⟨hG8_0,hG8_1⟩,hG8_2⟩:=hG8;obtain ⟨r6,hr6,h⟩:=bd h;refine zH [] (by kernel_rfl) rfl (N:=12)<|zn (fuel:=2) (ds':=⟨#[true,true,true,true,true,true,false,true,true,true,true,false],true,true,true⟩) zu [(0,0),(1,0),(2,0),(3,0),(4,1),(5,0),(7,0),(8,0),(9,0),(10,1)] (by kernel_rfl) rfl (by simp only [hG8_0,hG8_1,hG8_2,oc]) ?_
       refine zl (by kernel_rfl) (zh (i:=6) ?_ zo);refine ado_pk (i:=6) (l':=#[true,true,true,true,true,true,true,true,true,true,true,false]) rfl (pk_loadJ 8 0 (a3.getD o3.toNat (0,(0,(0,(0,false))))).1 zu rfl rfl rfl rfl (by simp only [hG8_0,hG8_1,hG8_2,oc]) rfl hz5 rfl rfl) ⟨rfl,rfl⟩ rfl rfl rfl ?_;refine zl (by kernel_rfl) (zh (i:=11) ?_ zo);refine zN rfl<|yE (i:=11) (listed':=#[true,true,true,true,true,true,true,true,true,true,true,true]) (pre':=false) [(1000000,1000000),(1000001,1000001)] (w_coknit _ _ _ _ none r6 hr6) rfl rfl rfl rfl ⟨rfl,rfl⟩ rfl rfl Tryd.func66 rfl rfl rfl (by simp only [hG8_0,hG8_1,hG8_2,oc]) rfl rfl (PassH.cons rfl rfl rfl (PassH.cons rfl rfl rfl PassH.nil)) ?_
       rintro _ _ ⟨rfl,rfl⟩;refine ⟨_,_,rfl,rfl,?_⟩;refine zt (by kernel_rfl) ?_;obtain ⟨hG7,h⟩:=zw h;refine zq<|zj zu rfl (by simp only [hG7,oc]) ?_
       refine ⟨(n,_,_),h,Nat.lt_succ_self _,(Wk.pick [27,0,1,2,6,26] [1000001,6,1000000] rfl rfl)⟩
      cases h
     refine za ?_;obtain ⟨hG38,h⟩:=zw h;refine zq<|zj zu rfl (by simp only [hG38,oc]) ?_
     refine ⟨(n,_,_),h,Nat.lt_succ_self _,(Wk.pick [27,0,1,2,6,26] [1000001,6,1000000] rfl rfl)⟩
   refine zr ?_;exact ⟨_,(Option.some.inj h).symm,(Wk.pick [] [1000000,1000001] rfl rfl)⟩
  ·rintro _ rfl
   have h:=hk1;obtain rfl:=Option.some.inj h;refine ⟨_,(Wk.pick [] [1000000,1000001] rfl rfl),_,_,rfl,rfl,?_⟩;exact ⟨rfl,rfl⟩
end Go.Proofs.YtihcolehefloeaaDoor

/- Courses: a row's program. -/
namespace Go.Proofs.YtihcolehefloeaaDoor
set_option linter.unusedSimpArgs false
set_option linter.unusedVariables false
open Go.RowKit
def xz (a0:(List T1)):Nat→Int→Int→Option (Int)
  | 0,_,_=>none
  | n+1,v2_0,v2_1=>
    cond (decide (v2_1 < (a0.length:Int))) (gd ((zi v2_1 a0.length)) <|
    gd ((zk (v2_0+((a0.getD v2_1.toNat []).length:Int)))) <|
    cond (decide ((v2_0+((a0.getD v2_1.toNat []).length:Int)) < (0:Int))) (none) (gd ((zk (v2_1+(1:Int)))) <|
    xz a0 n (v2_0+((a0.getD v2_1.toNat []).length:Int)) (v2_1+(1:Int)))) (some v2_0)
def qZ (a0:(List T1)):Nat→Int→T1→Option (T1)
  | 0,_,_=>none
  | n+1,v8_0,v8_1=>
    cond (decide (v8_0 < (a0.length:Int))) (gd ((zi v8_0 a0.length)) <|
    gd ((ze 16 (v8_1.length+(a0.getD v8_0.toNat []).length))) <|
    gd ((zk (v8_0+(1:Int)))) <|
    qZ a0 n (v8_0+(1:Int)) (v8_1++(a0.getD v8_0.toNat []))) (some v8_1)
def m_concat (a0:(List T1)):Option (T1):=
    Option.bind (xz a0 zC (0:Int) (0:Int)) fun o1=>
    Option.bind (m_growN o1) fun r6=>
    Option.bind (qZ a0 zC (0:Int) r6) fun o7=>
    some o7
theorem w_concat (a0:(List T1)) (c0:Option Nat) (r:(T1)) (h:m_concat a0=some r):AC cx 38 [.c (.lst (.sl qr) a0 c0)] [] (fun sv h=>sv=.a (.c (.lst qr r none))∧h=[]):=by
  unfold m_concat at h;refine zp zu Tryd.func38 rfl Tryd.ntmps38 rfl rfl (res:=[.tmp 2]) rfl<|zv<|zq<|zj zu rfl rfl<|zv<|zq<|zj zu rfl rfl<|zv<|zv<|zq<|zj zu rfl rfl ?_
  obtain ⟨o1,ho1,hk1⟩:=bd h;refine zB (fun o1:Int=>⟨[(0,.a (.c (.lst (.sl qr) a0 c0))),(3,.a (.c (.val (.int .i64 o1))))],[]⟩) (fun o'=>o1=o') ?_ ?_
  ·have h:=ho1
   refine zc<|zb (Wk.pick [3,11,0,9,10] [] rfl rfl)<|zm (fun y:Nat×Int×Int=>[(3,.a (.c (.val (.int .i64 y.2.1)))),(11,.a (.c (.val (.int .i64 y.2.2))))]) (fun y:Nat×Int×Int=>[]) (fun y:Nat×Int×Int=>xz a0 y.1 y.2.1 y.2.2=some o1) (fun y:Nat×Int×Int=>y.1) (zC,(0:Int),(0:Int)) h ?_
   rintro ⟨n,v2_0,v2_1⟩ h;replace h:xz a0 n v2_0 v2_1=some o1:=h
   rcases n with _ | n
   · cases (show (none:Option _)=some _ from h)
   rw [xz] at h
   try dsimp only
   refine zv<|zq<|zj zu rfl rfl<|zv ?_
   revert h
   refine xC rfl rfl (fun hc h=>?_) (fun hc h=>?_)
   ·refine za<|zv<|zc<|zv ?_
    obtain ⟨hG5,h⟩:=zw h;refine zq<|zj zu rfl (by simp only [hG5,oc]) ?_
    refine zv ?_;obtain ⟨hG4,h⟩:=zw h;refine zq<|zj zu rfl (by simp only [hG4,oc]) ?_
    refine zv<|zq<|zj zu rfl rfl ?_
    revert h
    refine xC rfl rfl (fun hc h=>?_) (fun hc h=>?_)
    ·cases h
    refine za ?_;obtain ⟨hG3,h⟩:=zw h;refine zq<|zj zu rfl (by simp only [hG3,oc]) ?_
    refine ⟨(n,_,_),h,Nat.lt_succ_self _,(Wk.pick [3,11,0,9,10] [] rfl rfl)⟩
   refine zr ?_;exact ⟨_,(Option.some.inj h).symm,(Wk.pick [0,3] [] rfl rfl)⟩
  ·rintro _ rfl
   have h:=hk1;refine zv ?_;obtain ⟨r6,hr6,h⟩:=bd h;refine zq<|zf zu rfl rfl<|qG [(5,24)] (w_growN _  r6 hr6) rfl ⟨rfl,rfl⟩ rfl Tryd.func64 rfl rfl rfl rfl rfl rfl PassH.nil ?_
   rintro _ _ ⟨rfl,rfl⟩;refine ⟨_,_,rfl,rfl,?_⟩;refine zj zu rfl rfl<|zv<|zv<|zq<|zj zu rfl rfl ?_
   obtain ⟨o7,ho7,hk7⟩:=bd h;refine zB (fun o7:T1=>⟨[(6,.a (.c (.sl 24)))],[(24,.row 39 qr o7 none)]⟩) (fun o'=>o7=o') ?_ ?_
   ·have h:=ho7
    refine zc<|zb (Wk.pick [27,6,25,26] [24] rfl rfl)<|zm (fun y:Nat×Int×T1=>[(27,.a (.c (.val (.int .i64 y.2.1))))]) (fun y:Nat×Int×T1=>[(24,.row 39 qr y.2.2 none)]) (fun y:Nat×Int×T1=>qZ a0 y.1 y.2.1 y.2.2=some o7) (fun y:Nat×Int×T1=>y.1) (zC,(0:Int),r6) h ?_
    rintro ⟨n,v8_0,v8_1⟩ h;replace h:qZ a0 n v8_0 v8_1=some o7:=h
    rcases n with _ | n
    · cases (show (none:Option _)=some _ from h)
    rw [qZ] at h
    try dsimp only
    refine zv<|zq<|zj zu rfl rfl<|zv ?_
    revert h
    refine xC rfl rfl (fun hc h=>?_) (fun hc h=>?_)
    ·refine za<|zv<|zc<|zv ?_
     obtain ⟨hG11,h⟩:=zw h;refine zq<|zj zu rfl (by simp only [hG11,oc]) ?_
     obtain ⟨hG10,h⟩:=zw h;refine zq<|zj zu rfl (by simp only [hG10,oc]) ?_
     obtain ⟨hG9,h⟩:=zw h;refine zq<|zj zu rfl (by simp only [hG9,oc]) ?_
     refine ⟨(n,_,_),h,Nat.lt_succ_self _,(Wk.pick [27,6,25,26] [24] rfl rfl)⟩
    refine zr ?_;exact ⟨_,(Option.some.inj h).symm,(Wk.pick [6] [24] rfl rfl)⟩
   ·rintro _ rfl
    have h:=hk7;refine zv<|zq<|zj zu rfl rfl ?_
    cases h;exact zd ⟨_,(Wk.trans (Wk.frz (id:=24) rfl) (Wk.pick [2] [] rfl rfl)),_,_,rfl,rfl,rfl,rfl⟩
def qX (a0:(T1×T5)) (a1:T0) (a2:Int) (r1:T4×(List T1)×Nat×Int) (o2:Int×Int×Int) (r5:T3×(Option Nat)):Nat→Int→Int→Int→Int→Int→Int→Int→Int→T4→Option (Int×Int×Int×Int×Int×Int×Int×T4)
  | 0,_,_,_,_,_,_,_,_,_=>none
  | n+1,v9_0,v9_1,v9_2,v9_3,v9_4,v9_5,v9_6,v9_7,v9_8=>
    cond (decide (v9_0 < (r5.1.length:Int))) (gd ((zi v9_0 r5.1.length)) <|
    gd ((zi (IntKind.wrap .u8 ((r5.1.getD v9_0.toNat 0) - (1:Int))) 6)) <|
    Option.bind (cond (decide ((([a0.2.1,a0.2.2.1,a0.2.2.2.1,a0.2.2.2.2.1,a0.2.2.2.2.2.1,a0.2.2.2.2.2.2]:List Int).getD (IntKind.wrap .u8 ((r5.1.getD v9_0.toNat 0) - (1:Int))).toNat 0)=(0:Int))) (gd ((ze 40 (v9_8.length+[((1:Int),(o2.2.2,(((0:Int),(0:Int)),((r5.1.getD v9_0.toNat 0),(0:Int)))))].length))) <|
    some (v9_8++[((1:Int),(o2.2.2,(((0:Int),(0:Int)),((r5.1.getD v9_0.toNat 0),(0:Int)))))])) (cond (decide ((([a0.2.1,a0.2.2.1,a0.2.2.2.1,a0.2.2.2.2.1,a0.2.2.2.2.2.1,a0.2.2.2.2.2.2]:List Int).getD (IntKind.wrap .u8 ((r5.1.getD v9_0.toNat 0) - (1:Int))).toNat 0)=o2.2.1)) (Option.bind (m_copast a2 (r5.1.getD v9_0.toNat 0) v9_8 o2.2.2) fun r12=>
    some r12) (cond (decide ((([a0.2.1,a0.2.2.1,a0.2.2.2.1,a0.2.2.2.2.1,a0.2.2.2.2.2.1,a0.2.2.2.2.2.2]:List Int).getD (IntKind.wrap .u8 ((r5.1.getD v9_0.toNat 0) - (1:Int))).toNat 0)=o2.1)) (some v9_8) (some v9_8)))) fun o10=>
    Option.bind (m_cowork a2 (r5.1.getD v9_0.toNat 0) o10 a1 r1.2.1) fun r13=>
    Option.bind (m_copast a2 (r5.1.getD v9_0.toNat 0) r13 a2) fun r14=>
    gd ((zi (IntKind.wrap .u8 ((r5.1.getD v9_0.toNat 0) - (1:Int))) 6)) <|
    gd ((zk (v9_0+(1:Int)))) <|
    qX a0 a1 a2 r1 o2 r5 n (v9_0+(1:Int)) (cond (Nat.beq (IntKind.wrap .u8 ((r5.1.getD v9_0.toNat 0) - (1:Int))).toNat 0) o2.2.1 v9_1) (cond (Nat.beq (IntKind.wrap .u8 ((r5.1.getD v9_0.toNat 0) - (1:Int))).toNat 1) o2.2.1 v9_2) (cond (Nat.beq (IntKind.wrap .u8 ((r5.1.getD v9_0.toNat 0) - (1:Int))).toNat 2) o2.2.1 v9_3) (cond (Nat.beq (IntKind.wrap .u8 ((r5.1.getD v9_0.toNat 0) - (1:Int))).toNat 3) o2.2.1 v9_4) (cond (Nat.beq (IntKind.wrap .u8 ((r5.1.getD v9_0.toNat 0) - (1:Int))).toNat 4) o2.2.1 v9_5) (cond (Nat.beq (IntKind.wrap .u8 ((r5.1.getD v9_0.toNat 0) - (1:Int))).toNat 5) o2.2.1 v9_6) (r5.1.getD v9_0.toNat 0) r14) (some (v9_1,v9_2,v9_3,v9_4,v9_5,v9_6,v9_7,v9_8))
def m_course (a0:(T1×T5)) (a1:T0) (a2:Int):Option (T4×(T1×T5)×Int):=
    Option.bind (m_prepare a0 a1) fun r1=>
    cond (!(decide (r1.2.2.2=(0:Int)))) (some (([]:List zO),(([]:List (Int×Int)),((0:Int),((0:Int),((0:Int),((0:Int),((0:Int),(0:Int))))))),r1.2.2.2)) (cond (cond (!(decide (a2=(0:Int)))) (!(decide (a2=(1:Int)))) false) (some (([]:List zO),(([]:List (Int×Int)),((0:Int),((0:Int),((0:Int),((0:Int),((0:Int),(0:Int))))))),(1:Int))) (Option.bind (cond (decide (a2=(0:Int))) (some ((2:Int),(1:Int),(1:Int))) (some ((1:Int),(2:Int),(0:Int)))) fun o2=>
    Option.bind (m_concat r1.2.1) fun r3=>
    Option.bind (m_clipn r3) fun r4=>
    Option.bind (m_chyarns [a1]) fun r5=>
    Option.bind (qX a0 a1 a2 r1 o2 r5 zC (0:Int) a0.2.1 a0.2.2.1 a0.2.2.2.1 a0.2.2.2.2.1 a0.2.2.2.2.2.1 a0.2.2.2.2.2.2 (0:Int) r1.1) fun o8=>
    Option.bind (m_clip o8.2.2.2.2.2.2.2) fun r19=>
    some (r19,(r4.1,(o8.1,(o8.2.1,(o8.2.2.1,(o8.2.2.2.1,(o8.2.2.2.2.1,o8.2.2.2.2.2.1)))))),(0:Int))))
theorem w_course (a0:(T1×T5)) (a1:T0) (a2:Int) (c0 c1:Option Nat) (r:(T4×(T1×T5)×Int)) (h:m_course a0 a1 a2=some r):AC cx 11 [.agg [.lst qr a0.1 c0,.val (.int .u8 a0.2.1),.val (.int .u8 a0.2.2.1),.val (.int .u8 a0.2.2.2.1),.val (.int .u8 a0.2.2.2.2.1),.val (.int .u8 a0.2.2.2.2.2.1),.val (.int .u8 a0.2.2.2.2.2.2)],.c (.lst G0 a1 c1),.c (.val (.int .u8 a2))] [] (fun sv h=>sv=.tup [.c (.lst qp r.1 (some r.1.length)),.agg [.lst qr r.2.1.1 none,.val (.int .u8 r.2.1.2.1),.val (.int .u8 r.2.1.2.2.1),.val (.int .u8 r.2.1.2.2.2.1),.val (.int .u8 r.2.1.2.2.2.2.1),.val (.int .u8 r.2.1.2.2.2.2.2.1),.val (.int .u8 r.2.1.2.2.2.2.2.2)],.c (.val (.int .i64 r.2.2))]∧h=[]):=by
  apply AC.forgetV
  unfold m_course at h;refine zp zu Tryd.func11 rfl Tryd.ntmps11 rfl rfl (res:=[.tmp 6,.cell 7 34,.tmp 8]) rfl<|zv<|zq<|zj zu rfl rfl<|zv ?_
  obtain ⟨r1,hr1,h⟩:=bd h;refine zq<|zf zu rfl rfl<|zg (w_prepare _ _ c0 c1 r1 hr1) rfl ⟨rfl,rfl⟩ rfl Tryd.func17 rfl rfl rfl rfl rfl rfl<|zj zu rfl rfl<|zv<|zv<|zq<|zj zu rfl rfl ?_
  revert h
  refine xC rfl rfl (fun hc h=>?_) (fun hc h=>?_)
  ·refine zv<|zq<|zj zu rfl rfl ?_
   cases h;exact zd ⟨_,(Wk.trans (Wk.lst0 6 qp rfl) (Wk.trans (Wk.dataB 7 G3 rfl rfl rfl rfl) (Wk.pick [6,7,8] [7] rfl rfl))),_,_,rfl,rfl,rfl⟩
  refine za<|zv<|zv<|zq<|zj zu rfl (by generalize (decide (a2=(0:Int)))=b0; revert b0; decide) ?_
  revert h
  refine xC rfl rfl (fun hc h=>?_) (fun hc h=>?_)
  ·refine zv<|zq<|zj zu rfl rfl ?_
   cases h;exact zd ⟨_,(Wk.trans (Wk.lst0 6 qp rfl) (Wk.trans (Wk.dataB 7 G3 rfl rfl rfl rfl) (Wk.pick [6,7,8] [7] rfl rfl))),_,_,rfl,rfl,rfl⟩
  refine za<|zv<|zq<|zj zu rfl rfl<|zv<|zv<|zq<|zj zu rfl rfl ?_
  obtain ⟨o2,ho2,hk2⟩:=bd h;refine zB (fun o2:Int×Int×Int=>⟨[(1,.a (.c (.lst G0 a1 c1))),(2,.a (.c (.val (.int .u8 a2)))),(3,.a (.c (.ptr 3 0))),(7,.a (.c (.ptr 7 0))),(9,.a (.c (.lst qp r1.1 (some r1.1.length)))),(10,.a (.c (.lst (.sl qr) r1.2.1 (some r1.2.2.1)))),(12,.a (.c (.val (.int .u8 o2.1)))),(13,.a (.c (.val (.int .u8 o2.2.1)))),(14,.a (.c (.val (.int .u8 o2.2.2))))],[(3,.cells 34 [.lst qr a0.1 c0,.val (.int .u8 a0.2.1),.val (.int .u8 a0.2.2.1),.val (.int .u8 a0.2.2.2.1),.val (.int .u8 a0.2.2.2.2.1),.val (.int .u8 a0.2.2.2.2.2.1),.val (.int .u8 a0.2.2.2.2.2.2)]),(7,.cells 34 [.val (.slice none 0 0),.val (.int .u8 (0:Int)),.val (.int .u8 (0:Int)),.val (.int .u8 (0:Int)),.val (.int .u8 (0:Int)),.val (.int .u8 (0:Int)),.val (.int .u8 (0:Int))])]⟩) (fun o'=>o2=o') ?_ ?_
  ·have h:=ho2
   revert h
   refine xC rfl rfl (fun hc h=>?_) (fun hc h=>?_)
   ·refine zq<|zj zu rfl rfl ?_
    exact ⟨_,(Option.some.inj h).symm,(Wk.pick [1,2,3,7,9,10,12,13,14] [3,7] rfl rfl)⟩
   refine za ?_;exact ⟨_,(Option.some.inj h).symm,(Wk.pick [1,2,3,7,9,10,12,13,14] [3,7] rfl rfl)⟩
  ·rintro _ rfl
   have h:=hk2;refine zv ?_;obtain ⟨r3,hr3,h⟩:=bd h;obtain ⟨r4,hr4,h⟩:=bd h
   apply ax_cut
   ·
     refine zH [1,2,6] (by kernel_rfl) rfl (N:=8)<|zn (fuel:=5) (ds':=⟨#[true,false,false,true,true,false,false,false],true,true,true⟩) zu [(0,0),(3,0),(4,3)] (by kernel_rfl) rfl rfl<|zl (by kernel_rfl) (zh (i:=1) ?_ (zh (i:=6) ?_ zo))
     ·
       refine zN rfl<|zP (i:=1) (listed':=#[true,true,false,true,true,false,false,false]) (pre':=true) [] (w_concat _ (some r1.2.2.1) r3 hr3) rfl rfl rfl rfl ⟨rfl,rfl⟩ rfl Tryd.func38 rfl rfl rfl rfl rfl rfl PassH.nil ?_
       rintro _ _ ⟨rfl,rfl⟩;refine ⟨_,_,rfl,rfl,?_⟩;refine zl (by kernel_rfl) (zh (i:=2) ?_ (zh (i:=6) ?_ zo))
       ·
         refine zN rfl<|zP (i:=2) (listed':=#[true,true,true,true,true,false,false,false]) (pre':=true) [] (w_clipn _ none r4 hr4) rfl rfl rfl rfl ⟨rfl,rfl⟩ rfl Tryd.func37 rfl rfl rfl rfl rfl rfl PassH.nil ?_
         rintro _ _ ⟨rfl,rfl⟩;refine ⟨_,_,rfl,rfl,?_⟩;refine zn (fuel:=0) (ds':=⟨#[true,true,true,true,true,true,true,true],false,false,false⟩) zu [(5,0),(6,4),(7,2)] (by kernel_rfl) rfl rfl<|zt (by kernel_rfl) ?_
         exact ⟨rfl,Wk.pick [1,2,3,7,9,10,12,13,14,15] [3,7,15] rfl rfl⟩
       ·
         refine qI zu (i:=6) rfl rfl rfl rfl rfl<|zl (by kernel_rfl) (zh (i:=2) ?_ zo)
         refine zN rfl<|zP (i:=2) (listed':=#[true,true,true,true,true,false,true,false]) (pre':=true) [] (w_clipn _ none r4 hr4) rfl rfl rfl rfl ⟨rfl,rfl⟩ rfl Tryd.func37 rfl rfl rfl rfl rfl rfl PassH.nil ?_
         rintro _ _ ⟨rfl,rfl⟩;refine ⟨_,_,rfl,rfl,?_⟩;refine zn (fuel:=0) (ds':=⟨#[true,true,true,true,true,true,true,true],false,false,false⟩) zu [(5,0),(7,2)] (by kernel_rfl) rfl rfl<|zt (by kernel_rfl) ?_
         exact ⟨rfl,Wk.pick [1,2,3,7,9,10,12,13,14,15] [3,7,15] rfl rfl⟩
     ·
       refine qI zu (i:=6) rfl rfl rfl rfl rfl<|zl (by kernel_rfl) (zh (i:=1) ?_ zo)
       refine zN rfl<|zP (i:=1) (listed':=#[true,true,false,true,true,false,true,false]) (pre':=true) [] (w_concat _ (some r1.2.2.1) r3 hr3) rfl rfl rfl rfl ⟨rfl,rfl⟩ rfl Tryd.func38 rfl rfl rfl rfl rfl rfl PassH.nil ?_
       rintro _ _ ⟨rfl,rfl⟩;refine ⟨_,_,rfl,rfl,?_⟩;refine zl (by kernel_rfl) (zh (i:=2) ?_ zo);refine zN rfl<|zP (i:=2) (listed':=#[true,true,true,true,true,false,true,false]) (pre':=true) [] (w_clipn _ none r4 hr4) rfl rfl rfl rfl ⟨rfl,rfl⟩ rfl Tryd.func37 rfl rfl rfl rfl rfl rfl PassH.nil ?_
       rintro _ _ ⟨rfl,rfl⟩;refine ⟨_,_,rfl,rfl,?_⟩;refine zn (fuel:=0) (ds':=⟨#[true,true,true,true,true,true,true,true],false,false,false⟩) zu [(5,0),(7,2)] (by kernel_rfl) rfl rfl<|zt (by kernel_rfl) ?_
       exact ⟨rfl,Wk.pick [1,2,3,7,9,10,12,13,14,15] [3,7,15] rfl rfl⟩
   refine zv<|zq<|zj zu rfl rfl<|zv<|zv ?_
   obtain ⟨r5,hr5,h⟩:=bd h;refine zq<|zf zu rfl rfl<|xb (Wk.frz (id:=49) rfl)<|zg (w_chyarns _ (some 1) r5 hr5) rfl ⟨rfl,rfl⟩ rfl Tryd.func39 rfl rfl rfl rfl rfl rfl<|zj zu rfl rfl<|zb (Wk.lfullC 16 0 29 45 rfl rfl rfl rfl rfl) ?_
   obtain ⟨o8,ho8,hk8⟩:=bd h;refine zB (fun o8:Int×Int×Int×Int×Int×Int×Int×T4=>⟨[(7,.a (.c (.ptr 7 0))),(15,.a (.c (.ptr 15 0))),(16,.a (.c (.ptr 16 0)))],[(7,.cells 34 [.val (.slice none 0 0),.val (.int .u8 (0:Int)),.val (.int .u8 (0:Int)),.val (.int .u8 (0:Int)),.val (.int .u8 (0:Int)),.val (.int .u8 (0:Int)),.val (.int .u8 (0:Int))]),(15,.cells 34 [.lst qr r4.1 (some r4.2),.val (.int .u8 o8.1),.val (.int .u8 o8.2.1),.val (.int .u8 o8.2.2.1),.val (.int .u8 o8.2.2.2.1),.val (.int .u8 o8.2.2.2.2.1),.val (.int .u8 o8.2.2.2.2.2.1)]),(16,.cells 96 [.sl 29,.val (.int .u8 a2),.val (.int .u8 o8.2.2.2.2.2.2.1)]),(29,.lrow 45 qp o8.2.2.2.2.2.2.2)]⟩) (fun o'=>o8=o') ?_ ?_
   ·have h:=ho8
    refine zc<|zb (Wk.pick [53,1,2,3,7,10,12,13,14,15,16,51,52] [15,16,29,3,7] rfl rfl)<|zm (fun y:Nat×Int×Int×Int×Int×Int×Int×Int×Int×T4=>[(53,.a (.c (.val (.int .i64 y.2.1))))]) (fun y:Nat×Int×Int×Int×Int×Int×Int×Int×Int×T4=>[(15,.cells 34 [.lst qr r4.1 (some r4.2),.val (.int .u8 y.2.2.1),.val (.int .u8 y.2.2.2.1),.val (.int .u8 y.2.2.2.2.1),.val (.int .u8 y.2.2.2.2.2.1),.val (.int .u8 y.2.2.2.2.2.2.1),.val (.int .u8 y.2.2.2.2.2.2.2.1)]),(16,.cells 96 [.sl 29,.val (.int .u8 a2),.val (.int .u8 y.2.2.2.2.2.2.2.2.1)]),(29,.lrow 45 qp y.2.2.2.2.2.2.2.2.2)]) (fun y:Nat×Int×Int×Int×Int×Int×Int×Int×Int×T4=>qX a0 a1 a2 r1 o2 r5 y.1 y.2.1 y.2.2.1 y.2.2.2.1 y.2.2.2.2.1 y.2.2.2.2.2.1 y.2.2.2.2.2.2.1 y.2.2.2.2.2.2.2.1 y.2.2.2.2.2.2.2.2.1 y.2.2.2.2.2.2.2.2.2=some o8) (fun y:Nat×Int×Int×Int×Int×Int×Int×Int×Int×T4=>y.1) (zC,(0:Int),a0.2.1,a0.2.2.1,a0.2.2.2.1,a0.2.2.2.2.1,a0.2.2.2.2.2.1,a0.2.2.2.2.2.2,(0:Int),r1.1) h ?_
    rintro ⟨n,v9_0,v9_1,v9_2,v9_3,v9_4,v9_5,v9_6,v9_7,v9_8⟩ h;replace h:qX a0 a1 a2 r1 o2 r5 n v9_0 v9_1 v9_2 v9_3 v9_4 v9_5 v9_6 v9_7 v9_8=some o8:=h
    rcases n with _ | n
    · cases (show (none:Option _)=some _ from h)
    rw [qX] at h
    try dsimp only
    refine zv<|zq<|zj zu rfl rfl<|zv ?_
    revert h
    refine xC rfl rfl (fun hc h=>?_) (fun hc h=>?_)
    ·refine za<|zv<|zc<|zv ?_
     obtain ⟨hG18,h⟩:=zw h;refine zq<|zj zu rfl (by simp only [hG18,oc]) ?_
     refine zv<|zq<|zj zu rfl rfl<|zv<|zv ?_
     obtain ⟨hG17,h⟩:=zw h;refine zq<|qf 4 zu rfl (by simp only [hG17,oc]) ?_
     refine al_loadX (.int .u8) 1 6 (IntKind.wrap .u8 ((r5.1.getD v9_0.toNat 0) - (1:Int))) zu rfl ⟨rfl,rfl⟩ rfl rfl rfl rfl rfl rfl (by simp only [hG17,oc]) rfl rfl (by simp only [hG17,oc]) (by simp only [hG17,oc]) rfl ?_;refine zj zu rfl (by simp only [hG17,oc]) ?_;refine zb (Wk.pick [1,2,3,7,10,12,13,14,15,16,18,51,52,53,63] [3,7,15,16,29] rfl rfl)<|zc<|zv<|zq<|zj zu rfl rfl ?_
     obtain ⟨o10,ho10,hk10⟩:=bd h;refine zB (fun o10:T4=>⟨[(1,.a (.c (.lst G0 a1 c1))),(2,.a (.c (.val (.int .u8 a2)))),(3,.a (.c (.ptr 3 0))),(7,.a (.c (.ptr 7 0))),(10,.a (.c (.lst (.sl qr) r1.2.1 (some r1.2.2.1)))),(12,.a (.c (.val (.int .u8 o2.1)))),(13,.a (.c (.val (.int .u8 o2.2.1)))),(14,.a (.c (.val (.int .u8 o2.2.2)))),(15,.a (.c (.ptr 15 0))),(16,.a (.c (.ptr 16 0))),(18,.a (.c (.val (.int .u8 (r5.1.getD v9_0.toNat 0))))),(51,.a (.c (.lst (.int .u8) r5.1 r5.2))),(52,.a (.c (.val (.int .i64 (r5.1.length:Int))))),(53,.a (.c (.val (.int .i64 v9_0))))],[(3,.cells 34 [.lst qr a0.1 c0,.val (.int .u8 a0.2.1),.val (.int .u8 a0.2.2.1),.val (.int .u8 a0.2.2.2.1),.val (.int .u8 a0.2.2.2.2.1),.val (.int .u8 a0.2.2.2.2.2.1),.val (.int .u8 a0.2.2.2.2.2.2)]),(7,.cells 34 [.val (.slice none 0 0),.val (.int .u8 (0:Int)),.val (.int .u8 (0:Int)),.val (.int .u8 (0:Int)),.val (.int .u8 (0:Int)),.val (.int .u8 (0:Int)),.val (.int .u8 (0:Int))]),(15,.cells 34 [.lst qr r4.1 (some r4.2),.val (.int .u8 v9_1),.val (.int .u8 v9_2),.val (.int .u8 v9_3),.val (.int .u8 v9_4),.val (.int .u8 v9_5),.val (.int .u8 v9_6)]),(16,.cells 96 [.sl 29,.val (.int .u8 a2),.val (.int .u8 (r5.1.getD v9_0.toNat 0))]),(29,.lrow 45 qp o10)]⟩) (fun o'=>o10=o') ?_ ?_
     ·have h:=ho10
      revert h
      refine xC rfl rfl (fun hc h=>?_) (fun hc h=>?_)
      ·obtain ⟨hG11,h⟩:=zw h
       refine zq<|qf 6 zu rfl (by simp only [hG11,oc]) ?_
       refine xG zu rfl ⟨rfl,rfl⟩ rfl rfl rfl rfl rfl (by simp only [hG11,oc]) rfl (by simp only [hG11,oc]) rfl rfl rfl (by simp only [hG11,oc]) ?_;refine zj zu rfl (by simp only [hG11,oc]) ?_;exact ⟨_,(Option.some.inj h).symm,(Wk.pick [1,2,3,7,10,12,13,14,15,16,18,51,52,53] [3,7,15,16,29] rfl rfl)⟩
      refine zv<|zq<|zj zu rfl rfl ?_
      revert h
      refine xC rfl rfl (fun hc h=>?_) (fun hc h=>?_)
      ·obtain ⟨r12,hr12,h⟩:=bd h
       refine zq<|zf zu rfl rfl<|qG [(1000000,16),(1000001,29)] (w_copast _ _ _ _  r12 hr12) rfl ⟨rfl,rfl⟩ rfl Tryd.func40 rfl rfl rfl rfl rfl rfl (PassH.cons rfl rfl rfl (PassH.cons rfl rfl rfl PassH.nil)) ?_
       rintro _ _ ⟨rfl,rfl⟩;refine ⟨_,_,rfl,rfl,?_⟩;refine zj zu rfl rfl ?_;exact ⟨_,(Option.some.inj h).symm,(Wk.pick [1,2,3,7,10,12,13,14,15,16,18,51,52,53] [3,7,15,16,29] rfl rfl)⟩
      refine zv<|zq<|zj zu rfl rfl ?_
      revert h
      refine xC rfl rfl (fun hc h=>?_) (fun hc h=>?_)
      ·refine za ?_
       exact ⟨_,(Option.some.inj h).symm,(Wk.pick [1,2,3,7,10,12,13,14,15,16,18,51,52,53] [3,7,15,16,29] rfl rfl)⟩
      refine za ?_;exact ⟨_,(Option.some.inj h).symm,(Wk.pick [1,2,3,7,10,12,13,14,15,16,18,51,52,53] [3,7,15,16,29] rfl rfl)⟩
     ·rintro _ rfl
      have h:=hk10;refine zv ?_;obtain ⟨r13,hr13,h⟩:=bd h;refine zq<|zf zu rfl rfl<|qG [(1000000,16),(1000001,29)] (w_cowork _ _ _ _ _ c1 (some r1.2.2.1) r13 hr13) rfl ⟨rfl,rfl⟩ rfl Tryd.func41 rfl rfl rfl rfl rfl rfl (PassH.cons rfl rfl rfl (PassH.cons rfl rfl rfl PassH.nil)) ?_
      rintro _ _ ⟨rfl,rfl⟩;refine ⟨_,_,rfl,rfl,?_⟩;refine zj zu rfl rfl<|zb (Wk.pick [1,2,3,7,10,12,13,14,15,16,18,51,52,53] [3,7,15,16,29] rfl rfl)<|zv ?_
      obtain ⟨r14,hr14,h⟩:=bd h;refine zq<|zf zu rfl rfl<|qG [(1000000,16),(1000001,29)] (w_copast _ _ _ _  r14 hr14) rfl ⟨rfl,rfl⟩ rfl Tryd.func40 rfl rfl rfl rfl rfl rfl (PassH.cons rfl rfl rfl (PassH.cons rfl rfl rfl PassH.nil)) ?_
      rintro _ _ ⟨rfl,rfl⟩;refine ⟨_,_,rfl,rfl,?_⟩;refine zj zu rfl rfl<|zb (Wk.pick [1,2,3,7,10,12,13,14,15,16,18,51,52,53] [3,7,15,16,29] rfl rfl) ?_
      obtain ⟨hG16,h⟩:=zw h;refine zq<|qf 5 zu rfl (by simp only [hG16,oc]) ?_
      refine al_storeX (.int .u8) 1 6 (IntKind.wrap .u8 ((r5.1.getD v9_0.toNat 0) - (1:Int))) rfl zu rfl ⟨rfl,rfl⟩ rfl rfl rfl (by simp only [hG16,oc]) rfl (by simp only [hG16,oc]) rfl rfl (by simp only [hG16,oc]) (by simp only [hG16,oc]) rfl (by simp only [hG16,oc]) rfl rfl rfl ?_;refine zj zu rfl (by simp only [hG16,oc]) ?_;refine zb (Wk.pick [1,2,3,7,10,12,13,14,15,16,51,52,53] [3,7,15,16,29] rfl rfl) ?_;obtain ⟨hG15,h⟩:=zw h;refine zq<|zj zu rfl (by simp only [hG15,oc]) ?_
      refine ⟨(n,_,_,_,_,_,_,_,_,_),h,Nat.lt_succ_self _,(Wk.pick [53,1,2,3,7,10,12,13,14,15,16,51,52] [15,16,29,3,7] rfl rfl)⟩
    refine zr ?_;exact ⟨_,(Option.some.inj h).symm,(Wk.pick [7,15,16] [7,15,16,29] rfl rfl)⟩
   ·rintro _ rfl
    have h:=hk8;refine zv<|zb (Wk.frzL (id:=29) rfl) ?_
    obtain ⟨r19,hr19,h⟩:=bd h;refine zH [2,3,4] (by kernel_rfl) rfl (N:=7)<|zn (fuel:=4) (ds':=⟨#[true,true,false,true,false,false,false],true,true,true⟩) zu [(0,0),(1,3),(3,3)] (by kernel_rfl) rfl rfl<|zl (by kernel_rfl) (zh (i:=2) ?_ zo)
    refine zN rfl<|zP (i:=2) (listed':=#[true,true,true,true,false,false,false]) (pre':=true) [] (w_clip _ none r19 hr19) rfl rfl rfl rfl ⟨rfl,rfl⟩ rfl Tryd.func31 rfl rfl rfl rfl rfl rfl PassH.nil ?_
    rintro _ _ ⟨rfl,rfl⟩;refine ⟨_,_,rfl,rfl,?_⟩;refine zn (fuel:=0) (ds':=⟨#[true,true,true,true,true,true,true],false,false,false⟩) zu [(4,0),(5,2),(6,0)] (by kernel_rfl) rfl rfl<|zt (by kernel_rfl) ?_
    cases h;exact zd ⟨_,(Wk.trans (Wk.dataB 7 G3 rfl rfl rfl rfl) (Wk.pick [6,7,8] [7] rfl rfl)),_,_,rfl,rfl,rfl⟩
end Go.Proofs.YtihcolehefloeaaDoor

/- Plain facts about the models of edges. -/
namespace Go.Proofs.YtihcolehefloeaaDoor
open Go.RowKit
theorem check_eq (l:List Int) (hl:l.length≤1000000):m_check l=some (if zU l then 0 else 1):=by
  have hF:l.length < zC:=zD (by omega);unfold m_check;have step:∀ n k,k < l.length→okAt l k=true→qM l (n+1) k=qM l n (k+1):=fun n k hk h=>by
    simp [okAt, -List.getD_eq_getElem?_getD] at h
    rw [qM]
    simp (disch:=((try simp [zi,zk,ze, -List.getD_eq_getElem?_getD]); try omega; done)) only [zF,qA,qj,Option.bind_some]
  by_cases h:∀ k,k < l.length→okAt l k=true
  · have e:zU l=true:=by rw [zU,List.all_eq_true]; intro i hi; exact h i (by simpa using hi)
    have:=loop0 (fun n i (s:Unit)=>qM l n i) l.length (fun _=>()) (.inl ()) hF (fun n k hk=>step n k hk (h k hk)) (fun n=>by
      show qM l (n+1) l.length=some (.inl ());rw [qM]
      simp)
    rw [this,e]; rfl
  · obtain ⟨j,hj,hb,hg⟩:=first_bad (fun k=>okAt l k) _ h
    have e:zU l=false:=by
      rw [zU,List.all_eq_false];exact ⟨j,by simpa using hj,by simpa using hb⟩
    have:=loop0 (fun n i (s:Unit)=>qM l n i) j (fun _=>()) (.inr 1) (by omega) (fun n k hk=>step n k (by omega) (hg k hk)) (fun n=>by
      show qM l (n+1) j=some (.inr 1)
      simp [okAt, -List.getD_eq_getElem?_getD] at hb
      rw [qM]
      simp (disch:=((try simp [zi,zk,ze, -List.getD_eq_getElem?_getD]); try omega; done)) only [zF,qA,qj,Option.bind_some])
    rw [this,e]; rfl
def eOk (y:Int) (l:List Int):Bool:=decide (1≤y)&&decide (y≤6)&&zU l&&decide (0 < l.length)
theorem echeck_eq (y:Int) (l:List Int) (hl:l.length≤1000000):m_echeck y l=some (if eOk y l then 0 else 1):=by
  unfold m_echeck;rw [check_eq l hl]
  by_cases hy:y < 1∨6 < y
  · have e:eOk y l=false:=by
      simp only [eOk,Bool.and_eq_false_iff,decide_eq_false_iff_not];omega
    simp (disch:=((try simp [zi,zk,ze, -List.getD_eq_getElem?_getD]); try omega; done)) only [zF,qA,qj,Option.bind_some]
    rw [e]; rfl
  · have e:eOk y l=(zU l&&decide (0 < l.length)):=by
      have h1:1≤y:=by omega
      have h2:y≤6:=by omega
      simp [eOk,h1,h2]
    simp (disch:=((try simp [zi,zk,ze, -List.getD_eq_getElem?_getD]); try omega; done)) only [zF,qA,qj,Option.bind_some]
    rw [e];cases zU l <;> by_cases h3:l=[] <;> simp [h3,hy,List.length_pos_iff] <;> omega
def castOp (kd k y:Int):zO:=(kd,1,(0,k),y,0)
def castOps (y:Int) (l:List Int):List zO:=(1,0,(0,0),y,0) :: l.map fun k=>castOp 4 k y
def castPlan (y:Int) (l:List Int):List zO:=castOps y l++[castOp 6 40 y]
theorem take_s {α:Type} (l:List α) (z:α) (k:Nat) (h:k < l.length):l.take (k+1)=l.take k++[l.getD k z]:=by
  rw [List.take_succ_eq_append_getElem h,List.getD_eq_getElem?_getD,List.getElem?_eq_getElem h]
  rfl
theorem eOk_facts {y:Int} {l:List Int} (h:eOk y l=true):1≤y∧y≤6∧zU l=true∧0 < l.length:=by
  simp only [eOk,Bool.and_eq_true,decide_eq_true_eq] at h;exact ⟨h.1.1.1,h.1.1.2,h.1.2,h.2⟩
theorem caston_eq (y:Int) (l:List Int) (hl:l.length≤1000000):m_caston y l=some (if eOk y l=false then ([],1) else if l.getD (l.length - 1) 0=40 then ([],15) else (castPlan y l,0)):=by
  have hF:l.length < zC:=zD (by omega);unfold m_caston;rw [echeck_eq y l hl,Option.bind_some];cases he:eOk y l with
  | false=>rfl
  | true=>
    obtain ⟨_,_,_,hp⟩:=eOk_facts he;have e1:((l.length:Int) - 1).toNat=l.length - 1:=by omega
    have hL:=loop0 (fun n i s=>xx y l n i s) l.length (fun k=>castOps y (l.take k)) (castOps y l) hF (fun n k hk=>by
      show xx y l (n+1) k (castOps y (l.take k))=xx y l n (k+1) (castOps y (l.take (k+1)));rw [xx,take_s l 0 k hk]
      simp (disch:=((try simp [zi,zk,ze, -List.getD_eq_getElem?_getD,castOps]); try omega; done)) only [zF,qA,qj,Option.bind_some,m_past]
      simp [castOps,castOp]) (fun n=>by
      show xx y l (n+1) l.length (castOps y (l.take l.length))=_;rw [xx,List.take_length]
      simp)
    rw [e1]
    by_cases h40:l.getD (l.length - 1) 0=40
    · simp (disch:=((try simp [zi,zk,ze, -List.getD_eq_getElem?_getD]); try omega; done)) only [zF,qA,qj,Option.bind_some]
      rw [if_neg (by simp),if_pos h40]
    · simp (disch:=((try simp [zi,zk,ze, -List.getD_eq_getElem?_getD]); try omega; done)) only [zF,qA,qj,Option.bind_some]
      rw [show (([]:List zO)++[((1:Int),((0:Int),(((0:Int),(0:Int)),(y,(0:Int)))))])=castOps y (l.take 0) from rfl,hL]
      simp (disch:=((try simp [zi,zk,ze, -List.getD_eq_getElem?_getD,castOps]); try omega; done)) only [zF,qA,qj,Option.bind_some,m_past]
      rw [if_neg (by simp),if_neg h40]
      rfl
end Go.Proofs.YtihcolehefloeaaDoor

/- Plain facts about the models of edges: BindOff, Leave, EdgesErrors. -/
namespace Go.Proofs.YtihcolehefloeaaDoor
open Go.RowKit
theorem chk_one (a:Int) (h:1≤a∧a≤40):zU [a]=true:=by
  simp [zU,okAt,List.range_succ]; omega
theorem to_one (a:Int) (h:1≤a∧a≤40):xZ [a]=true:=by
  simp [xZ,toAt,List.range_succ]; omega
theorem starts_one (a d:Int):zW [a] [d]=[0]:=by simp [zW,stF]
theorem plan_one (a b:Int) (ha:1≤a∧a≤40) (hb:1≤b∧b≤40):(qT [a] [b]).length≤7000:=by
  have e:qT [a] [b]=planAB ([],0) [a] [b - a]:=by simp [qT,xW]
  have hs:Small [a] [b - a]:=by
    refine ⟨fun k hk=>?_,fun d hd=>?_,rfl,by simp⟩
    · simp only [List.mem_singleton] at hk; omega
    · simp only [List.mem_singleton] at hd; omega
  have h0:PB 0 (([]:List zO),(0:Int)):=⟨by simp,by simp,by simp⟩
  have h1:=stepUp_PB _ _ hs 0 (by omega) (by simp) h0;have h2:=stepDn_PB _ _ hs 0 (by omega) (by simp) h1;rw [e,planAB,starts_one];have h3:=turnOps_le (qs [a] [b - a] (qk [a] [b - a] ([],0) 0) 0).1 (qs [a] [b - a] (qk [a] [b - a] ([],0) 0) 0).2 0;have h4:=h2.1;show (qc (qs [a] [b - a] (qk [a] [b - a] ([],0) 0) 0).1 (qs [a] [b - a] (qk [a] [b - a] ([],0) 0) 0).2 0).length≤7000;omega
theorem shift_one (a b:Int) (ha:1≤a∧a≤40) (hb:1≤b∧b≤40):yj [a] [b]=some (qT [a] [b],0):=by
  have e:xX [a] [b]=0:=by
    rw [xX,if_neg (by rw [chk_one a ha]; simp),if_neg (by simp),if_neg (by rw [to_one b hb]; simp)]
  unfold yj;rw [planR,e,if_pos rfl]
  rfl
theorem seg_one (l:List Int) (k:Nat) (h:k < l.length):(l.take (k+1)).drop k=[l.getD k 0]:=by
  rw [take_s l 0 k h,List.drop_append_of_le_length (by simp; omega)]
  simp
def bindTo (y:Int) (l:List Int):Nat→List zO
  | 0=>[]
  | i+1=>(if 0 < i then bindTo y l i++qT [l.getD (i - 1) 0] [l.getD i 0] else bindTo y l i)++[castOp 4 (l.getD i 0) y]
def bindPlan (y:Int) (l:List Int):List zO:=bindTo y l l.length++[(8,0,(0,l.getD (l.length - 1) 0),0,0)]
theorem chk_at {l:List Int} (h:zU l=true) (k:Nat) (hk:k < l.length):1≤l.getD k 0∧l.getD k 0≤40:=by
  have:=chk_mem l h k (by omega) (by omega)
  simpa only [Int.toNat_natCast] using this
theorem bindTo_len (y:Int) (l:List Int) (h:zU l=true):∀ k,k≤l.length→(bindTo y l k).length≤7001 * k
  | 0,_=>by simp [bindTo]
  | k+1,hk=>by
    have ih:=bindTo_len y l h k (by omega);unfold bindTo
    split
    · have:=plan_one _ _ (chk_at h (k - 1) (by omega)) (chk_at h k (by omega))
      simp only [List.length_append,List.length_singleton];omega
    · simp only [List.length_append,List.length_singleton]
      omega
theorem bindoff_eq (y:Int) (l:List Int) (hl:l.length≤1000000):m_bindoff y l=some (if eOk y l=false then ([],1) else (bindPlan y l,0)):=by
  have hF:l.length < zC:=zD (by omega);unfold m_bindoff;rw [echeck_eq y l hl,Option.bind_some];cases he:eOk y l with
  | false=>rfl
  | true=>
    obtain ⟨_,_,hc,hp⟩:=eOk_facts he;have h40:=chk_len l hc;have e1:((l.length:Int) - 1).toNat=l.length - 1:=by omega
    have hb:=bindTo_len y l hc l.length (Nat.le_refl _);have hL:=loop0 (fun n i s=>qF y l n i s) l.length (fun k=>bindTo y l k) (.inl (bindTo y l l.length)) hF (fun n k hk=>by
      show qF y l (n+1) k (bindTo y l k)=qF y l n (k+1) (bindTo y l (k+1));have hbk:=bindTo_len y l hc k (by omega);rw [qF,bindTo]
      by_cases h0:0 < k
      · have e2:((k:Int) - 1).toNat=k - 1:=by omega
        have e3:((k:Int)+1).toNat=k+1:=by omega
        have hp:=plan_one _ _ (chk_at hc (k - 1) (by omega)) (chk_at hc k hk);have hs:=shift_one _ _ (chk_at hc (k - 1) (by omega)) (chk_at hc k hk);have hs1:=seg_one l (k - 1) (by omega);rw [show k - 1+1=k by omega] at hs1;rw [e2,e3,Int.toNat_natCast,hs1,seg_one l k hk,hs,if_pos h0]
        simp (disch:=((try simp [zi,zk,ze, -List.getD_eq_getElem?_getD]); try omega; done)) only [zF,qA,qj,Option.bind_some,m_needle,sm]
        simp [castOp]
      · rw [if_neg h0]
        simp (disch:=((try simp [zi,zk,ze, -List.getD_eq_getElem?_getD]); try omega; done)) only [zF,qA,qj,Option.bind_some,m_needle,sm]
        simp [castOp]) (fun n=>by
      show qF y l (n+1) l.length (bindTo y l l.length)=_;rw [qF]
      simp)
    have hL':qF y l zC 0 []=some (.inl (bindTo y l l.length)):=hL
    simp (disch:=((try simp [zi,zk,ze, -List.getD_eq_getElem?_getD]); try omega; done)) only [zF,qA,qj,Option.bind_some,hL']
    simp (disch:=((try simp [zi,zk,ze, -List.getD_eq_getElem?_getD]); try omega; done)) only [zF,qA,qj,Option.bind_some,m_needle,sm,m_clip]
    rw [if_neg (by simp),bindPlan,e1]
def lvAt (l:List Int) (i:Nat):Bool:=decide (1≤l.getD i 0)&&decide (l.getD i 0≤6)&&(decide (i=0) || decide (l.getD (i - 1) 0 < l.getD i 0))
def lvAll (l:List Int):Bool:=(List.range l.length).all (lvAt l)
def outOp (y:Int):zO:=(2,0,(0,0),y,0)
theorem set_fill {α:Type} (A:List α) (z x:α) (m:Nat) (hm:0 < m):(A++List.replicate m z).set A.length x=(A++[x])++List.replicate (m - 1) z:=by
  obtain ⟨q,rfl⟩:∃ q,m=q+1:=⟨m - 1,by omega⟩
  rw [List.set_append_right (h:=Nat.le_refl _),Nat.sub_self,List.replicate_succ,List.set_cons_zero,Nat.add_sub_cancel,List.append_assoc]
  rfl
theorem leave_eq (l:List Int) (hl:l.length≤1000000):m_leave l=some (if lvAll l then (l.map outOp,l.length,0) else ([],0,1)):=by
  have hF:l.length < zC:=zD (by omega);unfold m_leave;have step:∀ n k,k < l.length→lvAt l k=true→qK l (n+1) k=qK l n (k+1):=fun n k hk h=>by
    simp [lvAt, -List.getD_eq_getElem?_getD] at h
    rw [qK]
    simp (disch:=((try simp [zi,zk,ze, -List.getD_eq_getElem?_getD]); try omega; done)) only [zF,qA,qj,Option.bind_some]
  by_cases h:∀ k,k < l.length→lvAt l k=true
  · have e:lvAll l=true:=by rw [lvAll,List.all_eq_true]; intro i hi; exact h i (by simpa using hi)
    have:=loop0 (fun n i (s:Unit)=>qK l n i) l.length (fun _=>()) (.inl ()) hF (fun n k hk=>step n k hk (h k hk)) (fun n=>by
      show qK l (n+1) l.length=some (.inl ());rw [qK]
      simp)
    rw [this,e];have h2:=loop0 (fun n i s=>xd l n i s) l.length (fun k=>(l.take k).map outOp++List.replicate (l.length - k) qp.zero) (l.map outOp) hF (fun n k hk=>by
      show xd l (n+1) k ((l.take k).map outOp++List.replicate (l.length - k) qp.zero)=xd l n (k+1) ((l.take (k+1)).map outOp++List.replicate (l.length - (k+1)) qp.zero);have hlen:((l.take k).map outOp).length=k:=by simp; omega
      have hset:=set_fill ((l.take k).map outOp) qp.zero (outOp (l.getD k 0)) (l.length - k) (by omega);rw [hlen] at hset;rw [xd,take_s l 0 k hk]
      simp (disch:=((try simp [zi,zk,ze, -List.getD_eq_getElem?_getD]); try omega; done)) only [zF,qA,qj,Option.bind_some]
      rw [Int.toNat_natCast,show ((2:Int),((0:Int),(((0:Int),(0:Int)),(l.getD k 0,(0:Int)))))=outOp (l.getD k 0) from rfl,hset,List.map_append,show l.length - (k+1)=l.length - k - 1 by omega]
      rfl) (fun n=>by
      show xd l (n+1) l.length ((l.take l.length).map outOp++List.replicate (l.length - l.length) qp.zero)=_;rw [xd,List.take_length,Nat.sub_self]
      simp)
    rw [show (l.take 0).map outOp++List.replicate (l.length - 0) qp.zero=List.replicate l.length qp.zero by simp] at h2
    simp (disch:=((try simp [zi,zk,ze, -List.getD_eq_getElem?_getD]); try omega; done)) only [zF,qA,qj,Option.bind_some,sm,Int.toNat_natCast]
    rw [h2]
    rfl
  · obtain ⟨j,hj,hb,hg⟩:=first_bad (lvAt l) _ h
    have e:lvAll l=false:=by
      rw [lvAll,List.all_eq_false];exact ⟨j,by simpa using hj,by simpa using hb⟩
    have:=loop0 (fun n i (s:Unit)=>qK l n i) j (fun _=>()) (.inr ([],0,1)) (by omega) (fun n k hk=>step n k (by omega) (hg k hk)) (fun n=>by
      show qK l (n+1) j=some (.inr ([],0,1))
      simp [lvAt, -List.getD_eq_getElem?_getD] at hb
      rw [qK]
      simp (disch:=((try simp [zi,zk,ze, -List.getD_eq_getElem?_getD]); try omega; done)) only [zF,qA,qj,Option.bind_some])
    rw [this,e]; rfl
end Go.Proofs.YtihcolehefloeaaDoor

/- The texts of programs. -/
namespace Go.Proofs.YtihcolehefloeaaDoor
open Go.RowKit
end Go.Proofs.YtihcolehefloeaaDoor

/- Plain facts: operations that have texts. -/
namespace Go.Proofs.YtihcolehefloeaaDoor
open Go.RowKit
def AllN (o:List zO):Prop:=∀ z∈o,OpN z
theorem AllN.append {a b:List zO} (h:AllN a) (k:AllN b):AllN (a++b):=fun z hz=>(List.mem_append.1 hz).elim (h z) (k z)
theorem turn_N {o:List zO} (h:AllN o) (a b:Int):AllN (qc o a b):=by
  unfold qc
  split
  · exact h
  · exact h.append fun z hz=>by
      simp only [List.mem_singleton] at hz;subst hz;exact ⟨by show (0:Int)≤3; omega,Int.le_refl 0,Int.le_refl 0,Int.le_refl 0⟩
theorem xfers_N (b r:Int) (hb:0≤b) (l:List Int):AllN (yd b r l):=fun z hz=>by
  obtain ⟨k,_,rfl⟩:=List.mem_map.1 hz;exact ⟨by show (0:Int)≤7; omega,Int.le_refl 0,hb,Int.le_refl 0⟩
theorem moveF_N:∀ (f:Nat) (o:List zO) (rk:Int) (l:List Int) (d:Int),AllN o→AllN (moveF f o rk l d).1
  | 0,_,_,_,_,h=>h
  | f+1,o,rk,l,d,h=>by
    unfold moveF
    split
    · exact h
    · exact moveF_N f _ _ _ _ ((turn_N ((turn_N h _ _).append (xfers_N 0 0 (by omega) l)) _ _).append (xfers_N 1 _ (by omega) l))
theorem moveAll_N (o:List zO) (rk:Int) (l:List Int) (d:Int) (h:AllN o):AllN (qd o rk l d).1:=moveF_N _ o rk l d h
theorem st1_N (fr to:List Int):∀ i,AllN (xW fr to i).1.1
  | 0=>fun z hz=>by simp [xW] at hz
  | i+1=>by
    unfold xW
    split
    · exact moveAll_N _ _ _ _ (st1_N fr to i)
    · exact st1_N fr to i
theorem fold_N (st:List zO×Int→Int→List zO×Int) (hst:∀ p i,AllN p.1→AllN (st p i).1):∀ (L:List Int) (p:List zO×Int),AllN p.1→AllN (L.foldl st p).1
  | [],_,h=>h
  | x :: L,p,h=>fold_N st hst L _ (hst p x h)
theorem plan_N (fr to:List Int):AllN (qT fr to):=by
  unfold qT planAB;refine turn_N (fold_N _ (fun p i h=>?_) _ _ (fold_N _ (fun p i h=>?_) _ _ (st1_N fr to _))) _ _
  · unfold qs; split
    · exact moveAll_N _ _ _ _ h
    · exact h
  · unfold qk; split
    · exact moveAll_N _ _ _ _ h
    · exact h
end Go.Proofs.YtihcolehefloeaaDoor

/- Courses, plain: plans are short; stitches and rows. -/
namespace Go.Proofs.YtihcolehefloeaaDoor
open Go.RowKit
theorem st1_PB (fr to:List Int) (hf:zU fr=true):∀ i:Nat,i≤fr.length→PB i (xW fr to i).1
  | 0,_=>⟨by simp [xW],by simp [xW],by simp [xW]⟩
  | i+1,hi=>by
    have ih:=st1_PB fr to hf i (by omega);unfold xW
    split
    · rename_i h
      have a1:=chk_at hf i (by omega);have a2:=chk_at hf (i+1) (by omega)
      have:=moveAll_bounds (xW fr to i).1.1 (xW fr to i).1.2 [fr.getD i 0] (fr.getD (i+1) 0 - fr.getD i 0) (fun k hk=>by simp only [List.mem_singleton] at hk; omega) (by omega) (by simp) ih.2
      have h2:=ih.1;exact ⟨by show (qd _ _ _ _).1.length≤_; omega,this.2⟩
    · exact ih.mono (by omega)
theorem stF_mem (at_ by_:List Int):∀ (f:Nat) (i:Int),0≤i→(∀ k∈stF at_ by_ f i,0≤k∧k < at_.length)∧(stF at_ by_ f i).length≤f
  | 0,i,_=>by simp [stF]
  | f+1,i,h0=>by
    unfold stF
    split
    · rename_i h
      have ht:=xE at_ by_ i h;obtain ⟨g1,g2⟩:=stF_mem at_ by_ f (tog at_ by_ i) (by omega);refine ⟨fun k hk=>?_,by simp; omega⟩
      rcases List.mem_cons.1 hk with rfl | hk
      · exact ⟨h0,h⟩
      · exact g1 k hk
    · simp
theorem fold_PB {at_ by_:List Int} (st:List zO×Int→Int→List zO×Int) (hst:∀ (i:Int),0≤i→i < at_.length→∀ k p,PB k p→PB (k+1) (st p i)):∀ (L:List Int) (k:Nat) (p:List zO×Int),(∀ i∈L,0≤i∧i < at_.length)→PB k p→PB (k+L.length) (L.foldl st p)
  | [],k,p,_,h=>h
  | x :: L,k,p,hL,h=>by
    have hx:=hL x List.mem_cons_self
    have:=fold_PB (by_:=by_) st hst L (k+1) (st p x) (fun i hi=>hL i (List.mem_cons_of_mem _ hi)) (hst x hx.1 hx.2 k p h)
    rw [List.length_cons,show k+(L.length+1)=k+1+L.length by omega];exact this
theorem plan_len (fr to:List Int) (hf:zU fr=true) (ht:xZ to=true) (hl:to.length=fr.length):(qT fr to).length≤400000:=by
  have h40:=chk_len fr hf;obtain ⟨h1,h2,h3,h4⟩:=st1_small fr to hf ht hl fr.length (Nat.le_refl _);have hs:Small (xW fr to fr.length).2.1 (xW fr to fr.length).2.2:=⟨h1,h2,h3,by omega⟩
  have hp:=st1_PB fr to hf fr.length (Nat.le_refl _);obtain ⟨m1,m2⟩:=stF_mem (xW fr to fr.length).2.1 (xW fr to fr.length).2.2 (xW fr to fr.length).2.1.length 0 (by omega);have p2:=fold_PB (by_:=(xW fr to fr.length).2.2) (qk _ _) (fun i a b k p h=>stepUp_PB _ _ hs i a b h) (zW (xW fr to fr.length).2.1 (xW fr to fr.length).2.2).reverse fr.length _ (fun i hi=>m1 i (List.mem_reverse.1 hi)) hp;have p3:=fold_PB (by_:=(xW fr to fr.length).2.2) (qs _ _) (fun i a b k p h=>stepDn_PB _ _ hs i a b h) (zW (xW fr to fr.length).2.1 (xW fr to fr.length).2.2) _ _ (fun i hi=>m1 i hi) p2;have h5:=p3.1;rw [List.length_reverse] at h5;have h6:(zW (xW fr to fr.length).2.1 (xW fr to fr.length).2.2).length≤40:=by
    have h7:(zW (xW fr to fr.length).2.1 (xW fr to fr.length).2.2).length≤(xW fr to fr.length).2.1.length:=m2;omega
  unfold qT planAB;exact Nat.le_trans (turnOps_le _ _ _) (by omega)
theorem shift_eq (fr to:List Int) (hf:zU fr=true) (ht:xZ to=true) (hl:to.length=fr.length):yj fr to=some (qT fr to,0):=by
  have h40:=chk_len fr hf;have e:xX fr to=0:=by
    rw [xX,if_neg (by rw [hf]; simp),if_neg (by omega),if_neg (by rw [ht]; simp)]
  unfold yj;rw [planR,e,if_pos rfl,zF (by simp; omega)]
abbrev qn:=Int×Int×Int×Int×Bool
abbrev zS:qn:=(0,0,0,0,false)
def stOk (s:qn):Bool:=decide (1≤s.1)&&(decide (s.1≤8)&&(decide (1≤s.2.1)&&(decide (s.2.1≤6)&&(if s.1=8 then decide (1≤s.2.2.1)&&(decide (s.2.2.1≤4)&&(decide (1≤s.2.2.2.1)&&decide (s.2.2.2.1≤4 - s.2.2.1))) else decide (s.2.2.1=0)&&(decide (s.2.2.2.1=0)&&!s.2.2.2.2)))))
theorem stcheck_eq (s:qn):yu s=some (if stOk s then 0 else 1):=by
  obtain ⟨k,y,a,b,f⟩:=s;unfold yu stOk;dsimp only
  by_cases h1:1≤k∧k≤8∧1≤y∧y≤6
  · obtain ⟨h1,h2,h3,h4⟩:=h1
    rw [qj (by simp; omega)]
    by_cases h8:k=8
    · subst h8
      rw [qj (by simp)]
      by_cases ha:1≤a∧a≤4∧1≤b
      · obtain ⟨ha1,ha2,ha3⟩:=ha
        have e:zk (4 - a)=true:=by simp [zk]; omega
        rw [zF (by simp [e])]
        by_cases hb:b≤4 - a
        · rw [qj (by simp; omega)]; simp [h3,h4,ha1,ha2,ha3,hb]
        · rw [qA (by simp; omega)]; simp [hb]
      · rw [zF (by simp; omega),qA (by simp; omega)]
        simp only [not_and] at ha;rw [if_neg (by simp; omega)]
    · rw [qA (by simp [h8]),if_neg h8]
      by_cases hc:a=0∧b=0∧f=false
      · obtain ⟨rfl,rfl,rfl⟩:=hc
        rw [qj (by simp)]; simp [h1,h2,h3,h4]
      · rw [qA (by cases f <;> simp <;> simp at hc <;> omega),if_neg (by cases f <;> simp <;> simp at hc <;> omega)]
  · rw [qA (by simp; omega),if_neg (by simp; omega)]
end Go.Proofs.YtihcolehefloeaaDoor

/- Courses, plain: what stitches qa and qb; the goals of a row. -/
namespace Go.Proofs.YtihcolehefloeaaDoor
open Go.RowKit
theorem loopG {σ O:Type} (L:Nat→σ→Option O) (N:Nat) (sp:Nat→σ) (r:O)
    (hs:∀ n k,k < N→L (n+1) (sp k)=L n (sp (k+1))) (he:∀ n,L (n+1) (sp N)=some r):∀ n k,k≤N→N - k < n→L n (sp k)=some r:=by
  intro n
  induction n with
  | zero=>intro k _ h; omega
  | succ n ih=>
    intro k hk hn
    by_cases e:k=N
    · subst e; exact he n
    · rw [hs n k (by omega)]
      exact ih (k+1) (by omega) (by omega)
theorem xH {σ O:Type} (L:Nat→σ→Option O) (N:Nat) (sp:Nat→σ) (s0:σ) (r:O) (h0:sp 0=s0) (hN:N < zC)
    (hs:∀ n k,k < N→L (n+1) (sp k)=L n (sp (k+1))) (he:∀ n,L (n+1) (sp N)=some r):L zC s0=some r:=by
  rw [← h0];exact loopG L N sp r hs he zC 0 (Nat.zero_le _) (by omega)
theorem loopE {σ O:Type} (L:Nat→σ→Option O) (N:Nat) (I:Nat→σ→Prop) (P:O→Prop)
    (hs:∀ n k s,k < N→I k s→(∃ r,L (n+1) s=some r∧P r)∨∃ s',I (k+1) s'∧L (n+1) s=L n s') (he:∀ n s,I N s→∃ r,L (n+1) s=some r∧P r):∀ n k s,k≤N→N - k < n→I k s→∃ r,L n s=some r∧P r:=by
  intro n
  induction n with
  | zero=>intro k _ _ h; omega
  | succ n ih=>
    intro k s hk hn hI
    by_cases e:k=N
    · subst e; exact he n s hI
    · rcases hs n k s (by omega) hI with h | ⟨s',h1,h2⟩
      · exact h
      · rw [h2]
        exact ih (k+1) s' (by omega) (by omega) h1
theorem loopX {σ O:Type} (L:Nat→σ→Option O) (N:Nat) (I:Nat→σ→Prop) (P:O→Prop) (s0:σ) (h0:I 0 s0) (hN:N < zC)
    (hs:∀ n k s,k < N→I k s→(∃ r,L (n+1) s=some r∧P r)∨∃ s',I (k+1) s'∧L (n+1) s=L n s') (he:∀ n s,I N s→∃ r,L (n+1) s=some r∧P r):∃ r,L zC s0=some r∧P r:=
  loopE L N I P hs he zC 0 s0 (Nat.zero_le _) (by omega) h0
def qa (s:qn):Int:=if stOk s then (if s.1=3 then 0 else if s.1=4∨s.1=5 then 2 else if s.1=8 then s.2.2.1+s.2.2.2.1 else 1) else 0
def qb (s:qn):Int:=if stOk s then (if s.1=8 then s.2.2.1+s.2.2.2.1 else 1) else 0
def bedOf (s:qn):Int:=if stOk s&&(decide (s.1=2) || decide (s.1=5)) then 1 else 0
theorem qR {s:qn} (h:stOk s=true):1≤s.1∧s.1≤8∧1≤s.2.1∧s.2.1≤6∧(s.1=8→1≤s.2.2.1∧1≤s.2.2.2.1∧s.2.2.1+s.2.2.2.1≤4):=by
  simp only [stOk,Bool.and_eq_true,decide_eq_true_eq] at h;obtain ⟨h1,h2,h3,h4,h5⟩:=h;refine ⟨h1,h2,h3,h4,fun h8=>?_⟩;rw [if_pos h8] at h5;simp only [Bool.and_eq_true,decide_eq_true_eq] at h5;omega
theorem need_le (s:qn):0≤qa s∧qa s≤4:=by
  unfold qa
  split
  · rename_i h
    have:=(qR h).2.2.2.2
    split
    · omega
    · split
      · omega
      · split
        · rename_i h8; have:=this h8; omega
        · omega
  · omega
theorem xl (s:qn):0≤qb s∧qb s≤4:=by
  unfold qb
  split
  · rename_i h
    have:=(qR h).2.2.2.2
    split
    · rename_i h8; have:=this h8; omega
    · omega
  · omega
theorem make_pos {s:qn} (h:stOk s=true):1≤qb s:=by
  have:=(qR h).2.2.2.2
  unfold qb;rw [if_pos h]
  split
  · rename_i h8; have:=this h8; omega
  · omega
theorem need_make {s:qn} (h:stOk s=true):qa s=0∨(qa s=2∧qb s=1)∨qa s=qb s:=by
  unfold qa qb;rw [if_pos h,if_pos h]
  split
  · exact .inl rfl
  · split
    · rename_i h1 h2
      exact .inr (.inl ⟨rfl,by rw [if_neg (by omega)]⟩)
    · exact .inr (.inr rfl)
theorem stneeds_eq (s:qn):yp s=some (qa s):=by
  unfold yp qa;rw [stcheck_eq,Option.bind_some];cases h:stOk s with
  | false=>rfl
  | true=>
    have:=(qR h).2.2.2.2
    rw [if_pos rfl,if_pos rfl,qj (by simp)]
    by_cases h3:s.1=3
    · rw [qA (by simp [h3]),if_pos h3]
    · rw [qj (by simp [h3]),if_neg h3]
      by_cases h4:s.1=4
      · rw [qA (by simp [h4]),Option.bind_some,qA (by simp [h4]),if_pos (.inl h4)]
      · rw [qj (by simp [h4]),Option.bind_some]
        by_cases h5:s.1=5
        · rw [qA (by simp [h5]),if_pos (.inr h5)]
        · rw [qj (by simp [h5]),if_neg (by omega)]
          by_cases h8:s.1=8
          · have:=this h8
            rw [qA (by simp [h8]),if_pos h8,zF (by simp [zk]; omega)]
          · rw [qj (by simp [h8]),if_neg h8]
theorem stmakes_eq (s:qn):m_stmakes s=some (qb s):=by
  unfold m_stmakes qb;rw [stcheck_eq,Option.bind_some];cases h:stOk s with
  | false=>rfl
  | true=>
    have:=(qR h).2.2.2.2
    rw [if_pos rfl,if_pos rfl,qj (by simp)]
    by_cases h8:s.1=8
    · have:=this h8
      rw [qA (by simp [h8]),if_pos h8,zF (by simp [zk]; omega)]
    · rw [qj (by simp [h8]),if_neg h8]
theorem stbed_eq (s:qn):m_stbed s=some (bedOf s):=by
  unfold m_stbed bedOf;rw [stcheck_eq,Option.bind_some];cases h:stOk s with
  | false=>rfl
  | true=>
    rw [if_pos rfl]
    by_cases h2:s.1=2
    · rw [qA (by simp [h2]),if_pos (by simp [h2])]
    · by_cases h5:s.1=5
      · rw [qA (by simp [h5]),if_pos (by simp [h5])]
      · rw [qj (by simp [h2,h5]),if_neg (by simp [h2,h5])]
theorem take_d {α:Type} (l:List α) (z:α) (k:Nat) (h:k < l.length):l.take (k+1)=l.take k++[l.getD k z]:=by
  rw [List.take_succ_eq_append_getElem h,List.getD_eq_getElem?_getD,List.getElem?_eq_getElem h]
  rfl
def zG (f:qn→Int) (l:List qn) (k:Nat):Int:=((l.take k).map f).sum
theorem xM (f:qn→Int) (l:List qn) (k:Nat) (h:k < l.length):zG f l (k+1)=zG f l k+f (l.getD k zS):=by
  unfold zG;rw [take_d l zS k h,List.map_append,List.sum_append]
  simp
theorem sumTo_le (f:qn→Int) (hf:∀ s,0≤f s∧f s≤4) (l:List qn):∀ k,k≤l.length→0≤zG f l k∧zG f l k≤4 * k
  | 0,_=>by simp [zG]
  | k+1,h=>by
    have:=sumTo_le f hf l k (by omega)
    have:=hf (l.getD k zS)
    rw [xM f l k (by omega)];omega
theorem sumTo_mono (f:qn→Int) (hf:∀ s,0≤f s∧f s≤4) (l:List qn) (k:Nat):∀ m,k≤m→m≤l.length→zG f l k≤zG f l m
  | 0,h,_=>by rw [show k=0 by omega]; exact Int.le_refl _
  | m+1,h,hm=>by
    by_cases e:k=m+1
    · rw [e]; exact Int.le_refl _
    · have:=sumTo_mono f hf l k m (by omega) (by omega)
      have:=hf (l.getD m zS)
      rw [xM f l m (by omega)];omega
theorem chneeds_eq (l:List qn) (hl:l.length≤1000):yw l=some (zG qa l l.length):=by
  have hF:l.length < zC:=zD (by omega);unfold yw m_totneeds
  have:=xH (fun n (s:Int×Int)=>qB l n s.1 s.2) l.length (fun k=>(zG qa l k,(k:Int))) (0,0) (zG qa l l.length) rfl hF (fun n k hk=>by
    have hb:=sumTo_le qa need_le l k (by omega);have hb2:=need_le (l.getD k zS);show qB l (n+1) (zG qa l k) k=qB l n (zG qa l (k+1)) ((k+1:Nat):Int);rw [qB,xM qa l k hk,stneeds_eq,Int.toNat_natCast]
    generalize qa (l.getD k zS)=z at hb2 ⊢
    simp (disch:=((try simp [zi,zk,ze, -List.getD_eq_getElem?_getD]); try omega; done)) only [zF,qA,qj,Option.bind_some]
    rfl) (fun n=>by
    show qB l (n+1) (zG qa l l.length) l.length=_;rw [qB,qj (by simp)])
  rw [this]
  rfl
theorem chmakes_eq (l:List qn) (hl:l.length≤1000):m_chmakes l=some (zG qb l l.length):=by
  have hF:l.length < zC:=zD (by omega);unfold m_chmakes m_totmakes
  have:=xH (fun n (s:Int×Int)=>qC l n s.1 s.2) l.length (fun k=>(zG qb l k,(k:Int))) (0,0) (zG qb l l.length) rfl hF (fun n k hk=>by
    have hb:=sumTo_le qb xl l k (by omega);have hb2:=xl (l.getD k zS);show qC l (n+1) (zG qb l k) k=qC l n (zG qb l (k+1)) ((k+1:Nat):Int);rw [qC,xM qb l k hk,stmakes_eq,Int.toNat_natCast]
    generalize qb (l.getD k zS)=z at hb2 ⊢
    simp (disch:=((try simp [zi,zk,ze, -List.getD_eq_getElem?_getD]); try omega; done)) only [zF,qA,qj,Option.bind_some]
    rfl) (fun n=>by
    show qC l (n+1) (zG qb l l.length) l.length=_;rw [qC,qj (by simp)])
  rw [this]
  rfl
def rowErr (l:List qn):Int:=if 16 < l.length then 3 else if l.length=0 then 1 else if l.all stOk=true then (if 1≤zG qa l l.length∧zG qa l l.length≤16∧1≤zG qb l l.length∧zG qb l l.length≤16 then 0 else 5) else 1
theorem yl {l:List qn} (h:l.all stOk=true) (k:Nat) (hk:k < l.length):stOk (l.getD k zS)=true:=by
  rw [List.getD_eq_getElem?_getD,List.getElem?_eq_getElem hk];exact List.all_eq_true.1 h _ (List.getElem_mem hk)
theorem chrow_eq (l:List qn):m_chrow l=some (rowErr l):=by
  unfold m_chrow rowErr
  by_cases h1:16 < l.length
  · rw [if_pos h1,qA (by simp; omega)]
  · rw [if_neg h1,qj (by simp; omega)]
    by_cases h2:l.length=0
    · rw [if_pos h2,qA (by simp [h2])]
    · rw [if_neg h2,qj (decide_eq_false (by omega))]
      have hF:l.length < zC:=zD (by omega);have step:∀ n k,k < l.length→stOk (l.getD k zS)=true→qL l (n+1) k=qL l n (k+1):=fun n k hk h=>by
        rw [qL,stcheck_eq];rw [Int.toNat_natCast,h]
        simp (disch:=((try simp [zi,zk,ze, -List.getD_eq_getElem?_getD]); try omega; done)) only [zF,qA,qj,Option.bind_some]
      by_cases h:∀ k,k < l.length→stOk (l.getD k zS)=true
      · have e:l.all stOk=true:=by
          rw [List.all_eq_true];intro s hs;obtain ⟨k,hk,rfl⟩:=List.mem_iff_getElem.1 hs
          have:=h k hk
          rw [List.getD_eq_getElem?_getD,List.getElem?_eq_getElem hk] at this;exact this
        have:=loop0 (fun n i (s:Unit)=>qL l n i) l.length (fun _=>()) (.inl ()) hF (fun n k hk=>step n k hk (h k hk)) (fun n=>by
          show qL l (n+1) l.length=some (.inl ());rw [qL,qj (by simp)])
        rw [this,e,if_pos rfl,Option.bind_some];dsimp only [sm];rw [chneeds_eq l (by omega),chmakes_eq l (by omega),Option.bind_some,Option.bind_some]
        by_cases hb:1≤zG qa l l.length∧zG qa l l.length≤16∧1≤zG qb l l.length∧zG qb l l.length≤16
        · rw [if_pos hb,qj (by simp; omega)]
        · rw [if_neg hb,qA (by simp; omega)]
      · obtain ⟨j,hj,hb,hg⟩:=first_bad (fun k=>stOk (l.getD k zS)) _ h
        have e:¬ (l.all stOk=true):=fun e=>by have:=yl e j hj; rw [this] at hb; cases hb
        have:=loop0 (fun n i (s:Unit)=>qL l n i) j (fun _=>()) (.inr 1) (by omega) (fun n k hk=>step n k (by omega) (hg k hk)) (fun n=>by
          show qL l (n+1) j=some (.inr 1);rw [qL,stcheck_eq,Int.toNat_natCast,hb]
          simp (disch:=((try simp [zi,zk,ze, -List.getD_eq_getElem?_getD]); try omega; done)) only [zF,qA,qj,Option.bind_some])
        rw [this,if_neg e]; rfl
end Go.Proofs.YtihcolehefloeaaDoor

/- Courses, plain: the goals of a row. -/
namespace Go.Proofs.YtihcolehefloeaaDoor
open Go.RowKit
def nx (l:List qn) (k:Nat):Int:=13+zG qb l k
theorem nx_succ (l:List qn) (k:Nat) (h:k < l.length):nx l (k+1)=nx l k+qb (l.getD k zS):=by
  unfold nx;rw [xM qb l k h];omega
def minI (a b:Int):Int:=if a < b then a else b
def toAt1 (l:List qn) (k:Nat):List Int:=(List.range (qa (l.getD k zS)).toNat).map fun (j:Nat)=>nx l k+minI (qb (l.getD k zS) - 1) j
def toTo (l:List qn):Nat→List Int
  | 0=>[]
  | k+1=>toTo l k++toAt1 l k
def xu (l:List qn) (k:Nat):List (Int×Int):=(List.range (qb (l.getD k zS)).toNat).map fun (j:Nat)=>(bedOf (l.getD k zS),nx l k+j)
theorem map_set {α:Type} (n k:Nat) (f g:Nat→α) (x:α) (hk:k < n) (h1:g k=x) (h2:∀ i,i≠k→g i=f i):((List.range n).map f).set k x=(List.range n).map g:=by
  refine List.ext_getElem? fun i=>?_
  rw [List.getElem?_set]
  by_cases hi:i < n
  · by_cases e:k=i
    · subst e
      simp [hi,h1]
    · simp [e,hi,h2 i (fun h=>e h.symm)]
  · by_cases e:k=i
    · omega
    · simp [e,hi]
theorem toAt1_len (l:List qn) (k:Nat):(toAt1 l k).length≤4:=by
  have:=need_le (l.getD k zS)
  simp only [toAt1,List.length_map,List.length_range];omega
theorem toTo_len (l:List qn):∀ k,(toTo l k).length≤4 * k
  | 0=>by simp [toTo]
  | k+1=>by
    have:=toTo_len l k
    have:=toAt1_len l k
    rw [toTo,List.length_append];omega
theorem goals12 (v r3 r10:Int) (acc:List Int) (hv:-1000≤v∧v≤1000) (h3:0≤r3∧r3≤4) (h10:0≤r10∧r10≤4) (hl:acc.length≤1000) :
    qO v r3 r10 zC 0 acc=some (acc++(List.range r10.toNat).map fun (j:Nat)=>v+minI (r3 - 1) j):=
  xH (fun n (s:Int×List Int)=>qO v r3 r10 n s.1 s.2) r10.toNat (fun k=>((k:Int),acc++(List.range k).map fun (j:Nat)=>v+minI (r3 - 1) j)) (0,acc) _ (by simp) (zD (by omega)) (fun n k hk=>by
    show qO v r3 r10 (n+1) k (acc++(List.range k).map fun (j:Nat)=>v+minI (r3 - 1) j)=qO v r3 r10 n ((k+1:Nat):Int) (acc++(List.range (k+1)).map fun (j:Nat)=>v+minI (r3 - 1) j);have hm:-1≤minI (r3 - 1) k∧minI (r3 - 1) k≤100:=by unfold minI; split <;> omega
    rw [qO,qA (decide_eq_true (by omega))];rw [show (if r3 - 1 < (k:Int) then r3 - 1 else (k:Int))=minI (r3 - 1) k from rfl]
    generalize hz:minI (r3 - 1) k=z at hm ⊢
    simp (disch:=((try simp [zi,zk,ze, -List.getD_eq_getElem?_getD]); try omega; done)) only [zF,qA,qj,Option.bind_some]
    simp [List.range_succ,hz]) (fun n=>by
    show qO v r3 r10 (n+1) r10.toNat _=_;rw [qO,qj (by simp; omega)])
theorem goals5 (l:List qn) (v i:Int) (q:List T1) (r3:Int) (hv:-1000≤v∧v≤1000) (h3:0≤r3∧r3≤4) (hi:zi i q.length=true) :
    xj l v i q r3 zC 0 (List.replicate r3.toNat qr.zero)=some ((List.range r3.toNat).map fun (j:Nat)=>(bedOf (l.getD i.toNat zS),v+j)):=
  xH (fun n (s:Int×List (Int×Int))=>xj l v i q r3 n s.1 s.2) r3.toNat (fun k=>((k:Int),(List.range r3.toNat).map fun (j:Nat)=>if j < k then (bedOf (l.getD i.toNat zS),v+j) else (0,0))) (0,_) _
    (by
      simp only [Nat.not_lt_zero,if_false]
      congr 1
      refine List.ext_getElem? fun k=>?_
      by_cases h:k < r3.toNat <;> simp [List.getElem?_replicate,h]) (zD (by omega)) (fun n k hk=>by
    show xj l v i q r3 (n+1) k ((List.range r3.toNat).map fun (j:Nat)=>if j < k then (bedOf (l.getD i.toNat zS),v+(j:Int)) else (0,0))=xj l v i q r3 n ((k+1:Nat):Int) ((List.range r3.toNat).map fun (j:Nat)=>if j < k+1 then (bedOf (l.getD i.toNat zS),v+(j:Int)) else (0,0));rw [xj,qA (decide_eq_true (by simp; omega)),zF hi,stbed_eq,Option.bind_some,zF (by simp [zk,zi]; omega),zF (by simp [zk]; omega),Int.toNat_natCast,map_set r3.toNat k _ (fun j=>if j < k+1 then (bedOf (l.getD i.toNat zS),v+(j:Int)) else (0,0)) _ hk (by simp) (fun j hj=>by
      by_cases h1:j < k
      · rw [if_pos h1,if_pos (by omega)]
      · rw [if_neg h1,if_neg (by omega)])]
    rfl) (fun n=>by
    show xj l v i q r3 (n+1) r3.toNat _=_;rw [xj,qj (by simp)]
    congr 1
    refine List.map_congr_left fun j hj=>?_
    rw [if_pos (by simpa using hj)])
theorem goals_eq (l:List qn) (hl:l.length≤16):m_goals l=some ((List.range l.length).map (xu l),l.length,toTo l l.length):=by
  have hF:l.length < zC:=zD (by omega);unfold m_goals
  have:=xH (fun n (s:Int×Int×List Int×List T1)=>xf l n s.1 s.2.1 s.2.2.1 s.2.2.2) l.length (fun k=>(nx l k,(k:Int),toTo l k,(List.range l.length).map fun i=>if i < k then xu l i else []))
    (13,0,[],List.replicate l.length []) (toTo l l.length,(List.range l.length).map (xu l)) (by
      simp only [nx,zG,toTo,Nat.not_lt_zero,if_false]
      simp
      refine List.ext_getElem? fun k=>?_
      by_cases h:k < l.length <;> simp [List.getElem?_replicate,h]) hF (fun n k hk=>by
    show xf l (n+1) (nx l k) k (toTo l k) _=xf l n (nx l (k+1)) ((k+1:Nat):Int) (toTo l (k+1)) _;have hb:=sumTo_le qb xl l k (by omega);have hb2:=xl (l.getD k zS);have hb2':0≤qb (l.getD k (0,0,0,0,false))∧qb (l.getD k (0,0,0,0,false))≤4:=hb2;have hb3:=need_le (l.getD k zS);have hn:-100≤nx l k∧nx l k≤900:=by unfold nx; omega
    have ht:=toTo_len l k;rw [xf,qA (decide_eq_true (by omega)),zF (by simp [zi]; omega),stmakes_eq,Option.bind_some,Int.toNat_natCast,zF (by simp [zi, -List.getD_eq_getElem?_getD]; omega),zF (by simp [zi]; omega)];rw [goals5 l _ _ _ _ (by omega) hb2 (by simp [zi]; omega),Option.bind_some,stneeds_eq,Option.bind_some,goals12 _ _ _ _ (by omega) hb2 hb3 (by omega),Option.bind_some,Int.toNat_natCast];rw [zF (by simp [zk, -List.getD_eq_getElem?_getD]; omega),zF (by simp [zk]; omega),← nx_succ l k hk];rw [map_set l.length k _ (fun i=>if i < k+1 then xu l i else []) _ hk (by rw [if_pos (by omega)]; rfl) (fun j hj=>by
      by_cases h1:j < k
      · rw [if_pos h1,if_pos (by omega)]
      · rw [if_neg h1,if_neg (by omega)])]
    rfl) (fun n=>by
    show xf l (n+1) (nx l l.length) l.length (toTo l l.length) _=_;rw [xf,qj (by simp)]
    congr 2
    refine List.map_congr_left fun j hj=>?_
    rw [if_pos (by simpa using hj)])
  rw [zF (by simp; omega),Int.toNat_natCast];dsimp only at this;rw [this]
  rfl
end Go.Proofs.YtihcolehefloeaaDoor
